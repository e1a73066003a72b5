import Derived.Test.YtdgiglmmpbndmaaGreatDoorNL3
import Derived.OpenShut
import Derived.Deep.Slices
import Derived.ChangeMaps5
import Derived.Carry
set_option linter.all false
open Bool renaming and_eq_true->a_,not_eq_true'->z_,or_eq_true->K_,false_eq_true->T_,false_or->aj_,not_true->ak_,and_false->aM_,not_false->aN_
open Classical renaming byContradiction->ae_
open Int renaming eq_ofNat_of_zero_le->an_
open Go.IntKind renaming wrap->G_,signed->ac_,bits->aq_
open List renaming all_eq_true->e_,mem_append->f_,getElem?_eq_getElem->g_,map_map->j_,map_congr_left->k_,getElem?_eq_some_iff->l_,getElem?_map->m_,map_cons->n_,mapM_cons->o_,all_cons->r_,mem_map->s_,getElem?_set_ne->t_,length_map->u_,map_append->v_,mem_cons_self->w_,mem_cons_of_mem->x_,mem_of_getElem?->y_,getElem?_set_self->A_,getElem?_append_left->C_,mem_singleton->D_,mem_cons->E_,mem_flatMap->F_,mem_append_left->H_,mem_append_right->M_,getElem?_append_right->N_,replicate->O_,map_set->Q_,drop_eq_getElem_cons->R_,range->U_,mem_range->V_,take_of_length_le->W_,map_take->Y_,getElem?_of_mem->Z_,length_append->ad_,append_assoc->af_,ext_getElem?->ag_,flatMap_cons->ah_,map_drop->al_,getElem?_cons_zero->ao_,drop_eq_nil_of_le->ar_,append_nil->au_,contains_iff_mem->aw_,getElem?_mapIdx->ax_,length->ay_,mem_map_of_mem->az_,getElem?_set->aB_,any_eq_true->aD_,drop_append->aE_,drop_length->aF_,filter_cons->aG_,isEmpty_iff->aH_,length_cons->aI_,length_drop->aJ_,take_append->aK_,nil_append->aL_,drop_drop->aO_,take_zero->aP_,getD->aQ_,all_map->aR_,flatMap->aS_,map->aU_
open Nat renaming eq_of_beq_eq_true->b_,le_of_ble_eq_true->c_,beq->i_,zero_le->I_,ble->J_,beq_refl->X_,zero_add->ab_,le_refl->ai_,add_zero->aC_,lt_or_ge->aT_
open Option renaming map_eq_some_iff->d_,bind_eq_some_iff->p_,bind_some->q_,bind_eq_bind->B_,pure_def->L_,bind->P_,isNone_iff_eq_none->S_,map_some->aa_,isSome_iff_exists->am_,getD_some->ap_,isSome_some->aA_
open Option.some renaming injEq->h_,inj->av_
open Prod renaming mk->as_
namespace Go.Ev
open Go Go.RowKit Go.Av
section
variable {R:Type} {P:Program} {O:bh} {d:Option Nat} {s:S} {κ kp:S->Option R} {r:R}
theorem gv{x:Option X}{a:Nat}{f:Nat->Option R}(d:XL x=true)(h:vJ s x a f=some r):∃n,f n=some r/\∀(K:Nat->Prop),K n->qd (enc s) (QA x) a K:=by cases x with|none=>exact⟨a,h,λK b=>b⟩|some x=>simp only[vJ]at h;obtain⟨k,n,e,h1⟩:=fA h;obtain⟨h2,c⟩:=bE h1;exact⟨n.toNat,c,λK b=>⟨_,aG d e,_,rfl,k,n,rfl,by grind,b⟩⟩
theorem kz{t:Ty}{o:Option V}{f:List t.den->Option R}(h:i6 s.hp t o f=some r):∃v xs,o=some v/\f xs=some r/\(∀(K:List PV->Prop),K (xs.map (aM t))->mC (enc s).hp t.sz (a8 v) K):=by
 unfold i6 at h;split at h
 .rename_i id;split at h
  .rename_i e u xs n;split at h;.rename_i ys p;obtain⟨a,g⟩:=bP p;have j:=Ty.list.inj a;subst j;have k:ys=xs:=g;subst k;exact⟨_,ys,rfl,h,λK b=>.inr (.inr (.inl ⟨id,e,_,rfl,by rw[bL,n];rfl,b⟩))⟩
   grind
  grind
 .rename_i v l;split at h
  .rename_i xs c;refine⟨v,xs,rfl,h,λK b=>?_⟩;cases v<;>simp only[iD]at c<;>try cases c
   .obtain⟨d,_⟩:=bJ c;exact .inr (.inl ⟨_,by show AV.p _=_;rw[<-d];rfl,b⟩)
   .obtain⟨a,rfl⟩:=bP c;cases a;exact .inl ⟨rfl,b⟩
   .rename_i u y;obtain⟨a,rfl⟩:=bP c;cases a;exact .inr (.inr (.inr ⟨_,rfl,b⟩))
  grind
 grind
theorem UH{t:Ty}{v:V}{f:List t.den->Option R}(c:∀id,v≠.sl id)(h:i6 s.hp t (some v) f=some r):∃xs,f xs=some r/\(a8 v).bF=some (lB t.sz (xs.map (aM t))):=by
 unfold i6 at h;split at h;.grind
 .rename_i d _ a;cases a;split at h;.rename_i xs b;exact⟨xs,h,by rw[IG b];exact l8 b⟩
  grind
 grind
theorem SB{t:Ty}(xs:List t.den)(l h:Nat):((xs.map (aM t)).take h).drop l=((xs.take h).drop l).map (aM t):=by rw[al_,Y_]
theorem Yf{full:Bool}{t:Ty}{x:X}{lo j mx:Option X}(c:x.wf=true/\XL lo=true/\XL j=true/\XL mx=true)(h:aY O d (.Je full t x lo j mx) s κ kp=some r):Pu P s (.Je t.sz x.er (QA lo) (QA j) (QA mx)) d κ r:=by
 simp only[aY]at h;have b:(!(mx.isSome&& !j.isSome))=true->(QA mx).isSome=true->(QA j).isSome=true:=by intro B I;cases mx<;>cases j<;>simp_all[QA]
 split at h
 .rename_i id p;split at h;.rename_i e k u xs g J;obtain⟨B,h1⟩:=aZ h;simp only[a_,z_]at B;obtain⟨l,h2,hl⟩:=gv c.2.1 h1;obtain⟨n,C,z⟩:=gv c.2.2.1 h2;obtain⟨m,D,A⟩:=gv c.2.2.2 C;obtain⟨E,F⟩:=aZ D;obtain⟨a,w⟩:=bE F;obtain⟨y,f⟩:=bE w;simp only[a_,decide_eq_true_eq]at a;refine⟨_,⟨_,aG c.1 p,.inr ⟨id,rfl,_,by rw[bL,J];rfl,e,k,xs.map (aM u),_,by rw[<-b_ B.1];rfl,hl _ ?_⟩⟩,f⟩;rw[u_];exact z _ (A _ ⟨b E,a.1.1,a.1.2,a.2,b_ y,rfl⟩)
  grind
 .rename_i H;cases p:s.get x with
  |none=>rw[p]at h;cases h|some v=>
   rw[p]at h;obtain⟨xs,h1,hp⟩:=UH (λid e=>H id (by grind)) h;obtain⟨l,h2,hl⟩:=gv c.2.1 h1;obtain⟨n,C,z⟩:=gv c.2.2.1 h2;obtain⟨m,D,A⟩:=gv c.2.2.2 C;obtain⟨E,F⟩:=aZ D;obtain⟨a,w⟩:=bE F;simp only[a_,decide_eq_true_eq]at a;have b:=b E;cases full with
   |false=>refine⟨_,⟨_,aG c.1 p,.inl ⟨_,hp,_,rfl,hl _ ?_⟩⟩,w⟩;rw[u_];refine z _ (A _ ⟨b,a.1.1,a.1.2,a.2,.inl ?_⟩);rw[SB];rfl|true=>
    obtain⟨y,f⟩:=bE w;simp only[a_,decide_eq_true_eq]at y;refine⟨_,⟨_,aG c.1 p,.inl ⟨_,hp,_,rfl,hl _ ?_⟩⟩,f⟩;rw[u_];refine z _ (A _ ⟨b,a.1.1,a.1.2,a.2,.inr ⟨?_,y.2,?_⟩⟩);.cases mx<;>simp_all[QA]
    .rw[SB];rfl
theorem PK(a:List UInt8)(l h:Nat):(⟨a.toArray⟩:ByteArray).extract l h=⟨((a.take h).drop l).toArray⟩:=by apply ByteArray.ext;rw[ByteArray.data_extract];grind
theorem Td{x:X}{lo c:Option X}(e:x.wf=true/\XL lo=true/\XL c=true)(h:aY O d (.qJ x lo c) s κ kp=some r):Pu P s (.qJ x.er (QA lo) (QA c)) d κ r:=by
 simp only[aY]at h;split at h;.rename_i a k;obtain⟨l,h2,hl⟩:=gv e.2.1 h;obtain⟨n,f,j⟩:=gv e.2.2 h2;obtain⟨b,g⟩:=bE f;simp only[a_,decide_eq_true_eq]at b;refine⟨_,⟨_,aG e.1 k,_,rfl,_,rfl,hl _ ?_⟩,g⟩;rw[xG];refine j _ ⟨b.1,b.2,?_⟩;rw[PK];rfl
 grind
theorem Tb{x:X}(a:x.wf=true)(h:aY O d (.rR x) s κ kp=some r):Pu P s (.rR x.er) d κ r:=by
 simp only[aY]at h;split at h
 .rename_i v b;split at h;.exact⟨_,⟨_,aG a b,.inl ⟨_,rfl⟩,rfl⟩,h⟩
  .exact⟨_,⟨_,aG a b,.inr (.inl ⟨_,_,rfl⟩),rfl⟩,h⟩
  .exact⟨_,⟨_,aG a b,.inr (.inl ⟨_,_,rfl⟩),rfl⟩,h⟩
  .exact⟨_,⟨_,aG a b,.inr (.inr (.inl ⟨_,_,_,rfl⟩)),rfl⟩,h⟩
  .exact⟨_,⟨_,aG a b,.inr (.inr (.inr (.inr ⟨_,_,rfl⟩))),rfl⟩,h⟩
  .exact⟨_,⟨_,aG a b,.inr (.inr (.inr (.inl ⟨_,_,rfl⟩))),rfl⟩,h⟩
  grind
 grind
theorem rS{v:V}(h:v.okB=true):(a8 v).ok=true/\(dc v).map aU=(a8 v).cells:=by
 have ht:∀vs,v≠.dC vs:=λvs e=>by subst e;cases h
 refine⟨?_,PZ v ht⟩;have hc:∀u:V,u.BC=true->(aU u).cX=true:=by
  intro u a;cases u<;>simp only[V.BC]at a<;>try cases a
  .rename_i t x;have b:t.ag=false:=by grind
   have:=yx t x;rw[eR x b]at this;have h2:(aM t x).cX=true:=by grind
   exact h2
  all_goals first
   |rfl
   |skip
  rename_i v;show(bG v).cX=true;unfold bG;split;.rfl
  .exact a
 cases v with
 |d t x=>show((AV.b (.pv (aM t x))).cells.all BV.cX)=true;show((aN t x).map BV.pv).all BV.cX=true;rw[aR_];exact yx t x|agg vs=>show(vs.map aU).all BV.cX=true;rw[aR_];simp only[V.okB,e_]at h⊢;grind|dC vs=>grind|raw v=>
  show(AV.b (bG v)).cells.all BV.cX=true;have h1:=hc (.raw v) h;show(AV.b (bG v)).cells.all BV.cX=true;unfold bG;split;.rfl
  .have h2:v.oneCell'=true:=h;show([PV.sc v].map BV.pv).all BV.cX=true;simp[BV.cX,PV.cX,h2]
 |full t x=>rfl|nil t=>rfl|sl id=>rfl|ptr id o=>rfl|jb id i o=>rfl|dp t x=>rfl|kj f ids=>rfl|HQ f cs=>rfl|mp id=>rfl|LF id off n t i=>rfl|any=>cases h|lit k t x=>cases h|LD=>rfl
theorem R1{t:Ty}{v:V}{x:t.den}(h:cr t v=some x):v.okB=true:=by
 have hl:∀(u:Ty) (v:V) (y:u.den),u.ag=false->iD u v=some y->v.BC=true:=by
  intro u v y p h;cases v<;>simp only[iD]at h<;>try cases h
  .obtain⟨_,rfl⟩:=bJ h;simp[V.BC,p]
  .rfl
  .rfl
 have n:∀(t:Ty) (l:List V) (x:t.den) (m:List V),PH t l=some (x,m)->∃f,l=f++m/\f.all V.BC=true:=by
  intro t;have one:∀(t:Ty) (l:List V) (x:t.den) (m:List V),t.ag=false->(match l with
   |v::l=>match iD t v with
    |some x=>some (x,l)
    |none=>none
   |[]=>none)=some (x,m)->∃f,l=f++m/\f.all V.BC=true:=by
   intro t l x m ht h
   split at h
   .rename_i v l';split at h;.rename_i y h1;simp only[h_,as_.injEq]at h;obtain⟨_,rfl⟩:=h;exact⟨[v],rfl,by grind⟩
    grind
   grind
  induction t with
  |unit=>intro l x m h;simp only[PH,h_,as_.injEq]at h;obtain⟨_,rfl⟩:=h;simp
  |pair a b r s=>intro l x m h;simp only[PH]at h;grind|rx=>
   intro l x m h;unfold PH at h;split at h
   .rename_i a b c e l';split at h;.rename_i w b' z A h1 h2 g j;simp only[h_,as_.injEq]at h;obtain⟨_,rfl⟩:=h;refine⟨[a,b,c,e],rfl,?_⟩;simp[hl _ a _ rfl h1,hl _ b _ rfl h2,hl _ c _ rfl g,hl _ e _ rfl j]
    grind
   grind
  |int k=>intro l x m h;exact one (.int k) l x m rfl h|bool=>intro l x m h;exact one .bool l x m rfl h|str=>intro l x m h;exact one .str l x m rfl h|list t _=>intro l x m h;exact one (.list t) l x m rfl h
 cases v with
 |agg vs=>
  simp only[cr]at h;split at h
  .split at h;.rename_i y h1;obtain⟨f,rfl,h2⟩:=n t _ _ _ h1;rw[au_];exact h2
   grind
  grind
 |d t x=>rfl|nil t=>rfl|full t x=>rfl|_=>simp[cr,iD]at h
theorem SY{tid:TypeId}{t:Ty}{x:X}(c:x.wf=true)(h:aY O d (.qj tid t x) s κ kp=some r):Pu P s (.qj tid x.er) d κ r:=by
 simp only[aY]at h;split at h;.grind
 .rename_i v b f;split at h
  .rename_i y a;refine⟨_,⟨_,aG c f,_,eC a,(rS (R1 a)).1,λq e=>?_,rfl⟩,h⟩;cases v<;>try cases e
   .grind
   .rename_i v;simp[cr,iD]at a
  grind
 grind
theorem Oi{tid:TypeId}{x:X}(a:x.wf=true)(h:aY O d (.iface tid x) s κ kp=some r):Pu P s (.iface tid x.er) d κ r:=by
 simp only[aY]at h;split at h;.rename_i v b;exact⟨_,⟨_,aG a b,rfl⟩,h⟩
 grind
end
section
variable {R:Type} {P:Program} {O:bh} {d:Option Nat} {s:S} {κ kp:S->Option R} {r:R}
theorem pH(cs:List V)(off:Nat)(vs:List V):(fS cs off vs).map aU=splice (cs.map aU) off (vs.map aU):=by simp[fS,splice]
theorem xI:∀(parts:List (Nat×Nat×X)) (cs:List V) (f:List V->Option R),parts.all (λq=>q.2.2.wf)=true->aY.buildT s cs parts f=some r->
 ∃c b,((parts.map λq=>(q.1,q.2.1,q.2.2.er)).mapM λq=>((enc s).get q.2.2).map λa=>(q.1,q.2.1,a))=some c/\(∀q∈c,q.2.2.ok=true/\q.2.2.cells.length=q.2.1/\q.1+q.2.1<=cs.length)/\b.map aU=c.foldl (λcs q=>splice cs q.1 q.2.2.cells) (cs.map aU)/\f b=some r
 |[],cs,f,_,h=>⟨[],cs,rfl,λq j=>(by grind),rfl,h⟩
 |(off,sz,x)::l,cs,f,d,h=>by
  simp only[r_,a_]at d;simp only[aY.buildT]at h;split at h
  .rename_i v u;obtain⟨h1,h2⟩:=aZ h;simp only[a_]at h1;have hsz:=b_ h1.1.1;have g:=c_ h1.1.2;obtain⟨w,y⟩:=rS h1.2;obtain⟨c,b,k,n,p,e⟩:=xI l _ f d.2 h2;have hl:(fS cs off (dc v)).length=cs.length:=by grind[fS,ad_,List.length_take,aJ_]
   refine⟨(off,sz,a8 v)::c,b,?_,λq j=>?_,?_,e⟩;all_goals grind[aG,pH]
  grind
theorem Og{zero:List V}{parts:List (Nat×Nat×X)}(f:zero.all V.EZ=true/\parts.all (λq=>q.2.2.wf)=true)(h:aY O d (.build zero parts) s κ kp=some r): Pu P s (.build (zero.map y8) (parts.map λq=>(q.1,q.2.1,q.2.2.er))) d κ r:=by
 obtain⟨j,a,b,k,c,e⟩:=xI parts zero _ f.2 h;have g:(zero.map y8).map (λv=>bG v)=zero.map aU:=by grind[k_,uH]
 refine⟨_,⟨j,b,λq l=>by grind,?_⟩,e⟩;rw[g,<-c];rfl
theorem mb{t:Ty}:∀(parts:List X) (f:List t.den->Option R),parts.all X.wf=true->aY.listT s t parts f=some r->∃xs:List t.den,(parts.map X.er).mapM (λx=>((enc s).get x).bind AV.bF)=some (xs.map (aM t))/\xs.length=parts.length/\f xs=some r
 |[],f,_,h=>⟨[],rfl,rfl,h⟩
 |x::l,f,a,h=>by
  simp only[r_,a_]at a;simp only[aY.listT]at h;split at h
  .rename_i v c;split at h;.rename_i y d;obtain⟨xs,h1,h2,b⟩:=mb l _ a.2 h;refine⟨y::xs,?_,by grind,b⟩;rw[n_,o_,h1];simp only[aG a.1 c,q_,eC d];rfl
   grind
  grind
theorem jh{t:Ty}(xs:List t.den):∀p∈xs.map (aM t),p.cells.length=t.sz/\p.ok=true:=λp hp=>by obtain⟨x,_,rfl⟩:=s_.1 hp;simp[aQ,wl]
theorem I0{tid:TypeId}{t:Ty}{len:Nat}{parts:List X}(c:parts.all X.wf=true)(h:aY O d (.bI false tid t len parts) s κ kp=some r):Pu P s (.bI false tid t.sz len (parts.map X.er)) d κ r:=by obtain⟨h1,h2⟩:=aZ h;simp only[a_]at h1;obtain⟨xs,a,e,b⟩:=mb parts _ c h2;refine⟨_,⟨_,a,?_,c_ h1.1.2,c_ h1.2,jh xs,.inl rfl⟩,b⟩;grind[b_]
theorem NV{k:Av.K}:∀(vs:List V) (a:List PV) (n:Nat),(vs.map aU).mapM BV.bF=some a->(∀j,j<vs.length->(vs.getD j .any).isNil=(k.at (n+j)).isSome/\(vs.getD j .any).zbH=false)->
 (vs.map aU).mapM BV.mr=some ((a.zipIdx n).map fun(y,j)=>if(k.at j).isSome then vu else y)
 |[],a,n,h,_=>by simp at h;subst h;rfl
 |v::vs,a,n,h,e=>by
  simp only[n_,o_,B_,L_,p_,h_]at h;obtain⟨p,h1,b,h2,rfl⟩:=h;have f:=NV vs b (n+1) h2 λj g=>by have:=e (j+1) (by grind);simpa[show n+(j+1)=n+1+j by omega]using this
  obtain⟨c,d⟩:=e 0 (by simp);simp only[List.getD_cons_zero,aC_]at c d;rw[n_,o_,f];have:(aU v).mr=some (if(k.at n).isSome then vu else p):=by
   rw[<-c];cases v with
   |nil u=>rfl|raw u=>cases d|_=>first
    |exact h1
    |cases h1
  rw[this];rfl
theorem UQ{k:Av.K}{t:Ty}{v:V}{y:t.den}(hd:cr t v=some y)(hn:XC k v=true):(a8 v).mr=some (dz k t y):=by
 simp only[XC,a_,e_,V_,beq_iff_eq,z_]at hn;obtain⟨h1,h2⟩:=hn;have d:=eC hd;cases v with
 |nil u=>
  have a:=(h2 0 (by simp[dc])).1;have c:(k.at 0).isSome=true:=by rw[<-a];rfl
  have g:aM t y= .list 0 []:=by have:(a8 (.nil u)).bF=some (.list 0 []):=rfl;grind
  show some vu=some (dz k t y);grind[dz]
 |agg vs=>
  have b:((vs.map aU).mapM BV.bF).map PV.agg=some (aM t y):=d;obtain⟨f,a,c⟩:=d_.1 b;show((vs.map aU).mapM BV.mr).map PV.agg=_;rw[NV vs f 0 a λj e=>by have:=h2 j e;rw[ab_];exact this]
  grind[dz,List.mapIdx_eq_zipIdx_map]
 |_=>grind
theorem BO{k:Av.K}{t:Ty}:∀(parts:List X) (f:List t.den->Option R),parts.all X.wf=true->aY.listN s k t parts f=some r->∃xs:List t.den,(parts.map X.er).mapM (λx=>((enc s).get x).bind AV.mr)=some (xs.map (dz k t))/\xs.length=parts.length/\f xs=some r
 |[],f,_,h=>⟨[],rfl,rfl,h⟩
 |x::l,f,a,h=>by
  simp only[r_,a_]at a;simp only[aY.listN]at h;split at h
  .rename_i v c;split at h;.rename_i y d;obtain⟨hn,h⟩:=aZ h;obtain⟨xs,h1,h2,b⟩:=BO l _ a.2 h;refine⟨y::xs,?_,by grind,b⟩;rw[n_,o_,h1];simp only[aG a.1 c,q_,UQ d hn];rfl
   grind
  grind
theorem Ee(k:Av.K)(t:Ty)(x:t.den):(dz k t x).cells=(aM t x).cells.mapIdx λj y=>if(k.at j).isSome then vu else y:=by unfold dz;cases h:aM t x with|agg cs=>rfl|_=>show(if(k.at 0).isSome then vu else _).cells=[if(k.at 0).isSome then vu else _];split<;>rfl
theorem Ir{k:Av.K}{t:Ty}(xs:List t.den):∀p∈xs.map (dz k t),p.cells.length=t.sz/\p.ok=true:=λp hp=>by
 obtain⟨x,_,rfl⟩:=s_.1 hp;have hc:=Ee k t x;refine⟨by grind[aQ],?_⟩;show(dz k t x).cells.all PV.cX=true;rw[hc];have:=wl t x;simp only[PV.ok,e_]at this⊢;intro y a;rw[List.mem_mapIdx]at a;obtain⟨i,b,rfl⟩:=a;split;.rfl
 grind
theorem FO{tid:TypeId}{k:Av.K}{t:Ty}{len:Nat}{parts:List X}(c:parts.all X.wf=true)(h:aY O d (.eo tid k t len parts) s κ kp=some r):Pu P s (.eo tid t.sz len (parts.map X.er)) d κ r:=by obtain⟨h1,h2⟩:=aZ h;simp only[a_]at h1;obtain⟨xs,a,e,b⟩:=BO parts _ c h2;refine⟨_,⟨_,a,?_,c_ h1.1.2,c_ h1.2,Ir xs,rfl⟩,b⟩;grind[b_]
theorem FM{tid:TypeId}{t:Ty}{len:Nat}{parts:List X}(c:parts.all X.wf=true)(h:aY O d (.pj tid t len parts) s κ kp=some r):Pu P s (.bI false tid t.sz len (parts.map X.er)) d κ r:=by obtain⟨h1,h2⟩:=aZ h;simp only[a_]at h1;obtain⟨xs,a,e,b⟩:=mb parts _ c h2;refine⟨_,⟨_,a,?_,c_ h1.1.2,c_ h1.2,jh xs,.inr rfl⟩,b⟩;grind[b_]
theorem SV{tid:TypeId}{t:Ty}{bytes:Nat}{x y:X}(a:x.wf=true/\y.wf=true)(h:aY O d (.pM tid t bytes x y) s κ kp=some r):Pu P s (.pM tid t.sz bytes x.er y.er) d κ r:=by
 obtain⟨v,ys,e,h1,h2⟩:=kz h;split at h1;.rename_i u c;obtain⟨l,b⟩:=bE h1;refine⟨.d (.list t) ys,⟨_,aG a.1 c,_,aG a.2 e,h2 _ ⟨λp hp=>(jh ys p hp).2,[],.inl ⟨rfl,rfl⟩,by grind,rfl⟩⟩,b⟩
 .rename_i u xs c;split at h1;.rename_i zs n;obtain⟨f,g⟩:=bP n;have j:=Ty.list.inj f;subst j;have k:zs=xs:=g;subst k;obtain⟨l,b⟩:=bE h1;refine⟨.d (.list u) (zs++ys),⟨_,aG a.1 c,_,aG a.2 e,h2 _ ⟨λp hp=>(jh ys p hp).2,zs.map (aM u),.inr rfl,by grind,?_⟩⟩,b⟩;rw[<-v_];rfl
  grind
 grind
theorem X8{x:X}(c:x.wf=true)(h:aY O d (.G3 x) s κ kp=some r):Pu P s (.G3 x.er) d κ r:=by
 obtain⟨v,xs,e,b,hl⟩:=kz h;have a:∀l:List Int,bytesOf (l.map (aM (.int .u8)))=some l:=by intro l;induction l with|nil=>rfl|cons x l f=>grind[bytesOf,aM]
 refine⟨_,⟨_,aG c e,hl _ ⟨_,a xs,?_⟩⟩,b⟩;rfl
theorem xL:∀(caps:List X) (ids:List Nat),caps.all X.wf=true->aY.capsOf s caps=some ids->(caps.map X.er).mapM (enc s).get=some (ids.map λi=>.b (.ptr i 0))
 |[],ids,_,h=>by cases h;rfl
 |x::l,ids,a,h=>by
  simp only[r_,a_]at a;simp only[aY.capsOf]at h;split at h
  .rename_i i b;split at h;.rename_i c hl;cases h;rw[n_,o_,aG a.1 b,xL l c a.2 hl];rfl
   grind
  grind
theorem BB:∀(caps:List X) (cs:List ((t:Ty)×t.den)),caps.all X.wf=true->aY.capsD s caps=some cs->(caps.map X.er).mapM (enc s).get=some ((cs.map λc=>PV.BS (aM c.1 c.2)).map .p)
 |[],ids,_,h=>by cases h;rfl
 |x::l,ids,a,h=>by
  simp only[r_,a_]at a;simp only[aY.capsD]at h;split at h
  .rename_i i b;split at h;.rename_i d hl;cases h;rw[n_,o_,aG a.1 b,BB l d a.2 hl];rfl
   grind
  grind
theorem S9{f:FuncId}{caps:List X}(b:caps.all X.wf=true)(h:aY O d (.rQ f caps) s κ kp=some r):Pu P s (.rQ f (caps.map X.er)) d κ r:=by
 simp only[aY]at h;split at h;.rename_i ids a;exact⟨_,⟨_,xL caps ids b a,.inl ⟨ids,rfl,rfl⟩⟩,h⟩
 .split at h;.rename_i cs hcs;exact⟨_,⟨_,BB caps cs b hcs,.inr ⟨_,rfl,rfl⟩⟩,h⟩
  grind
theorem yn{k:IntKind}:∀(ys:List X) (f:List Int->Option R),ys.all X.wf=true->aY.intsOf s k ys f=some r->∃a:List Int,(ys.map X.er).mapM (enc s).get=some (a.map λn=>.v (.int k n))/\f a=some r
 |[],f,_,h=>⟨[],rfl,h⟩
 |x::l,f,b,h=>by
  simp only[r_,a_]at b;simp only[aY.intsOf]at h;split at h
  .rename_i j n g;obtain⟨h1,h2⟩:=aZ h;have e:j=k:=by grind
   subst e;obtain⟨a,c,d⟩:=yn l _ b.2 h2;refine⟨n::a,?_,d⟩;rw[n_,o_,aG b.1 g,c];rfl
  grind
theorem Ta{mx:Bool}{k:IntKind}{x:X}{ys:List X}(c:x.wf=true/\ys.all X.wf=true)(h:aY O d (.mX mx k x ys) s κ kp=some r):Pu P s (.mX mx k x.er (ys.map X.er)) d κ r:=by
 simp only[aY]at h;split at h
 .rename_i j n g;obtain⟨p,h1⟩:=aZ h;have e:j=k:=by grind
  subst e;obtain⟨l,h2,f⟩:=yn ys _ c.2 h1;refine⟨_,⟨_,aG c.1 g,_,rfl,_,_,rfl,_,h2,l,rfl,rfl,?_⟩,f⟩;have:(fun(a b:Int)=>if mx=true then max a b else min a b)=λa b=>bif mx then max a b else min a b:=by grind
  rw[this];rfl
 grind
theorem J4:∀(t:Ty) (x y:t.den),t.Eh=true->hZ t x y=true->x=y
 | .int _,x,y,_,h=>by grind[hZ]
 | .bool,x,y,_,h=>by grind[hZ]
 | .str,x,y,_,h=>by grind[hZ]
 | .unit,_,_,_,_=>rfl
 | .pair a b,x,y,h,h2=>by simp only[Ty.Eh,a_]at h;simp only[hZ,a_]at h2;exact Prod.ext (J4 a x.1 y.1 h.1 h2.1) (J4 b x.2 y.2 h.2 h2.2)
theorem zdq(a b:List UInt8):((⟨a.toArray⟩:ByteArray)==⟨b.toArray⟩)=(a==b):=(show _=(a.toArray==b.toArray)from rfl).trans (by simp)
theorem Kx(P:Program):∀(d:Nat) (t:TypeId) (u:Ty),wF P d t u=true->∀x y:u.den,wm P d t (aM u x) (aM u y)=some (hZ u x y)/\AI P d t (aM u x)=true:=by
 intro d;induction d with
 |zero=>simp[wF]|succ d O=>
  intro t u h x y;unfold wF at h;have J:∀(l:List Field) (off:Nat) (u:Ty) (x y:u.den) (xs ys:List PV),fsT P (wF P d) l off u=true->off<=xs.length->xs.drop off=aN u x->off<=ys.length->ys.drop off=aN u y->
   wm.eqFs P d l xs ys=some (hZ u x y)/\(l.all λf=>f.name != "_" &&(match P.info? f.type with
    |some i=>(P.underlying f.type).isSome&&decide (f.offset+i.size<=xs.length)&&(iv P f.type||decide (i.size=1))&&AI P d f.type ((PV.agg xs).sub f.offset i.size (iv P f.type))
    |none=>false))=true:=by
   intro l
   induction l with
   |nil=>intro off u x y xs ys h _ _ _ _;cases u<;>simp[fsT]at h;exact⟨by unfold wm.eqFs;rfl,rfl⟩|cons f l A=>
    intro off u x y xs ys h n r p s;cases u<;>try (simp[fsT]at h;done)
    rename_i a b;simp only[fsT,a_]at h;obtain⟨⟨⟨⟨hn,w⟩,v⟩,L⟩,hr⟩:=h;have w:=b_ w;cases j:P.info? f.type with
    |none=>grind|some i=>
     rw[j]at v;simp only[a_]at v;obtain⟨⟨hsz,e⟩,c⟩:=v;have hsz:=b_ hsz;have c:iv P f.type=a.ag:=by grind
     have g:f.name≠ "_" :=by grind
     have cut:∀(z:(Ty.pair a b).den) (zs:List PV),off<=zs.length->zs.drop off=aN (.pair a b) z->(PV.agg zs).sub f.offset i.size (iv P f.type)=aM a z.1/\f.offset+i.size<=zs.length/\zs.drop (off+a.sz)=aN b z.2:=by
      intro z zs M hd;have hc:aN (.pair a b) z=aN a z.1++aN b z.2:=rfl;rw[hc]at hd;have hl:=congrArg ay_ hd;simp only[aJ_,ad_,aQ]at hl;refine⟨?_,by omega,?_⟩
      .rw[w,hsz,c];refine Lr ?_ ?_;.show(zs.drop off).take a.sz=_;rw[hd,List.take_append_of_le_length (by simp[aQ]),W_ (by simp[aQ])]
       .show off+a.sz<=zs.length;omega
      .rw[<-aO_,hd,List.drop_append_of_le_length (by simp[aQ]),List.drop_of_length_le (by simp[aQ]),aL_]
     obtain⟨D,Q,E⟩:=cut x xs n r;obtain⟨F,R,H⟩:=cut y ys p s;obtain⟨I,k1⟩:=O f.type a L x.1 y.1;obtain⟨T,k2⟩:=A (off+a.sz) b x.2 y.2 xs ys hr (by omega) E (by omega) H;have B:iv P f.type=false->i.size=1:=λh=>by rw[hsz];exact fN (by grind)
     refine⟨?_,?_⟩
     .unfold wm.eqFs;rw[if_neg g,j];simp only[q_];rw[if_neg (by
       rintro(h|h|h|h);.rw[S_]at h;grind
       all_goals grind),D,F,I]
      simp only[q_,hZ];grind
     grind
  have st:∀fl,P.underlying t=some (.struct fl)->(!P.stoodInHeld t&&fsT P (wF P d) fl.toList 0 u)=true->wm P (d+1) t (aM u x) (aM u y)=some (hZ u x y)/\AI P (d+1) t (aM u x)=true:=by
   intro fl e h;simp only[a_]at h;have N:P.stoodInHeld t=false:=by grind
   have c:u.ag=true:=by cases hl:fl.toList with|nil=>rw[hl]at h;cases u<;>simp[fsT]at h;rfl|cons f l=>rw[hl]at h;cases u<;>simp[fsT]at h;rfl
   obtain⟨U,Y⟩:=J fl.toList 0 u x y (aN u x) (aN u y) h.2 (I_ _) rfl (I_ _) rfl;rw[eQ x c,eQ y c];refine⟨?_,?_⟩;.unfold wm;grind
   .unfold AI;grind
  split at h;.rename_i e;exact⟨by unfold wm;rw[e];rfl,by unfold AI;rw[e];rfl⟩
  .rename_i k C e;refine⟨?_,by unfold AI;rw[e];rfl⟩;unfold wm;rw[e];show(if C=C then some (_==_)else none)=_;rw[if_pos rfl];rfl
  .rename_i e;refine⟨?_,by unfold AI;rw[e];rfl⟩;unfold wm;rw[e];show some (_==_)=_;rw[zdq];rfl
  all_goals grind
theorem Yb{neg:Bool}{tid:TypeId}{t:Ty}{x y:X}(c:x.wf=true/\y.wf=true/\wF P 64 tid t=true)(h:aY O d (.sL neg tid t x y) s κ kp=some r):Pu P s (.sL neg tid x.er y.er) d κ r:=by
 simp only[aY]at h;split at h
 .rename_i v u g j;split at h;.rename_i a b e f;obtain⟨_,h2⟩:=aZ h;refine⟨_,⟨_,aG c.1 g,_,aG c.2.1 j,_,eC e,_,eC f,_,(Kx P 64 tid t c.2.2 a b).1,?_⟩,h2⟩;rfl
  grind
 grind
theorem EO{k:TypeId}{a b:Ty}(n:wF P 64 k a=true)(y:a.den):∀(kvs:List (a.den×b.den)) (i:Nat),(∀e∈kvs.map (λp=>(aM a p.1,aM b p.2)),(wm P 64 k (aM a y) e.1).isSome=true)/\
 ((di a b kvs y=none/\sj P k (aM a y) (kvs.map λp=>(aM a p.1,aM b p.2)) i=some none)\/∃j v d,di a b kvs y=some v/\kvs[j]? =some (d,v)/\hZ a y d=true/\(∀i' e,i'<j->kvs[i']? =some e->hZ a y e.1=false)/\sj P k (aM a y) (kvs.map λp=>(aM a p.1,aM b p.2)) i=some (some (i+j,aM b v)))
 |[],i=>⟨λe h=>(by grind),.inl ⟨rfl,rfl⟩⟩
 |(d,v)::l,i=>by
  obtain⟨h1,h2⟩:=EO n y l (i+1);have C:=(Kx P 64 k a n y d).1;refine⟨λe h=>?_,?_⟩;.grind
  .have c:sj P k (aM a y) (((d,v)::l).map λp=>(aM a p.1,aM b p.2)) i=if hZ a y d=true then some (some (i,aM b v))else sj P k (aM a y) (l.map λp=>(aM a p.1,aM b p.2)) (i+1):=by show(wm P 64 k (aM a y) (aM a d)).bind _=_;grind
   cases g:hZ a y d
   .rw[g]at c;simp only[T_,if_false]at c;have hg:di a b ((d,v)::l) y=di a b l y:=by grind[di]
    rcases h2 with⟨r,s⟩|⟨j,u,z,r,s,w,B,A⟩;.grind
    .refine .inr ⟨j+1,u,z,by grind,by grind,w,λi' e f x=>?_,by grind⟩;grind
   .rw[g]at c;refine .inr ⟨0,v,d,by grind[di],rfl,g,λi' e f=>absurd f (by simp),by grind⟩
theorem NA{k:TypeId}{a:Ty}(b:wF P 64 k a=true):(P.underlying k).isSome=true:=by unfold wF at b;grind
theorem zcZ{b:Ty}(h:b.sc=true):aM b b.zero= .sc (m9 b):=by cases b<;>simp[Ty.sc]at h<;>rfl
theorem I1{k e:TypeId}{ok:Bool}{a b:Ty}{m x:X}(g:m.wf=true/\x.wf=true/\wF P 64 k a=true/\b.sc=true)(h:aY O d (.lookup k e ok a b m x) s κ kp=some r):Pu P s (.lookup k e ok (m9 b) m.er x.er) d κ r:=by
 simp only[aY]at h;split at h
 .rename_i id v J M;split at h
  .rename_i Q R l b' kvs y L N;split at h
   .rename_i c n;obtain⟨h1,h2⟩:=aZ h;simp only[a_]at h1;have u:=b_ h1.1.1;have w:=b_ h1.1.2;obtain⟨z,A⟩:=bP n;injection (Ty.list.inj z)with B C;subst u;subst w;subst B;subst C;have D:c=kvs:=A;subst D;obtain⟨E,F⟩:=EO g.2.2.1 y c 0;have f:∀(K:AV->Prop) (ok:Bool),K (match ok with
     |true=>.dC [.pv (aM b' ((di l b' c y).getD b'.zero)),.pv (.sc (.bool (di l b' c y).isSome))]
     |false=>.p (aM b' ((di l b' c y).getD b'.zero)))->jp P (enc s) (.lookup k e ok (m9 b') m.er x.er) K:=by
     intro K ok Y
     refine⟨_,aG g.1 J,_,aG g.2.1 M,id,_,rfl,by rw[bL,L];rfl,_,eC N,(Kx P 64 k l g.2.2.1 y y).2,NA g.2.2.1,E,?_⟩
     rcases F with⟨H,p⟩|⟨j,v,Q,H,p,T,U,I⟩
     .refine⟨_,p,?_⟩;grind[zcZ]
     .refine⟨_,I,?_⟩;grind
    cases ok with|true=>exact⟨_,f _ true rfl,h2⟩|false=>exact⟨_,f _ false rfl,h2⟩
   grind
  grind
 grind
end
theorem fT(a b:Nat):i_ a b=decide (a=b):=by
 cases h:i_ a b;.exact(decide_eq_false λe=>by rw[e,X_]at h;grind).symm
 .exact(decide_eq_true (b_ h)).symm
def AH(l:List Nat)(x:Nat):kM l x=l.contains x:=by induction l with|nil=>rfl|cons y l a=>simp only[kM,List.any_cons,List.contains_cons]at a⊢;rw[a];congr 1;rw[fT];grind
theorem yl{l:List Nat}{x:Nat}:kM l x=true↔x∈l:=by rw[AH,aw_]
theorem uj{l m:List Nat}:allIn l m=true↔∀i∈m,i∈l:=by simp only[allIn,e_,yl]
def DN:Ii=g9:=by
 funext B n k;unfold Ii g9;by_cases h:k<B.length;.rw[if_pos h,Nat.ble_eq_true_of_le h];rfl
 .rw[if_neg h];have:J_ (k+1) B.length=false:=by
   cases a:J_ (k+1) B.length;.rfl
   .exact absurd (c_ a) h
  grind
def P3(v:Value)(ρ:Nat->Nat):(bG v).eM ρ=bG v:=by unfold bG;split<;>rfl
theorem wj(v:Value):(bG v).ids=[]:=by unfold bG;split<;>rfl
def ML(v:Value)(i:Nat):(bG v).kill i=bG v:=by unfold bG;split<;>rfl
def J2(v:Value)(B:List Nat):(bG v).cA B=bG v:=by unfold bG;split<;>rfl
def Ed(ρ:Nat->Nat)(v:V):aU (v.eM ρ)=(aU v).eM ρ:=by cases v<;>first|rfl|exact(P3 _ ρ).symm
def xU(v:V):v.CM=(aU v).ids:=by cases v<;>first|rfl|exact(wj _).symm
def Ah(id:Nat)(v:V):aU (v.yt id)=(aU v).kill id:=by
 cases v<;>first|rfl|exact(ML _ id).symm|skip
 .rename_i k;show aU (bif i_ k id then .any else .sl k)=if k=id then _ else _;rw[fT];by_cases h:k=id<;>simp[h,aU]
 .rename_i k i o;show aU (bif i_ k id then .any else .jb k i o)=if k=id then _ else _;rw[fT];by_cases h:k=id<;>simp[h,aU]
def wk(B:List Nat)(v:V):aU (rK B v)=(aU v).cA B:=by
 cases v<;>first|rfl|exact(J2 _ B).symm|skip
 .rename_i k;show aU (bif kM B k then .any else .sl k)=if B.contains k=true then _ else _;rw[AH];cases h:B.contains k<;>simp[aU]
 .rename_i k i o;show aU (bif kM B k then .any else .jb k i o)=if B.contains k=true then _ else _;rw[AH];cases h:B.contains k<;>simp[aU]
theorem lc{v:V}(h:v.ID=false):a8 v= .b (aU v):=by cases v<;>first|rfl|cases h
def Xs{g:V->V}{v:V}(h:v.ID=false):jD g v=g v:=by cases v<;>first|rfl|cases h
def D9{g:V->V}{G:BV->BV}(hg:∀v,aU (g v)=G (aU v))(b:∀v,v.ID=false->(g v).ID=false)(v:V): a8 (jD g v)=(match a8 v with| .b x=>.b (G x)| .agg xs=>.agg (xs.map G)| .dC xs=>.dC (xs.map G)):=by
 have c:∀vs:List V,(vs.map g).map aU=(vs.map aU).map G:=λvs=>by rw[j_,j_];exact k_ λv _=>hg v
 cases a:v.ID;.rw[Xs a,lc a,lc (b v a),hg]
 .cases v with|agg vs=>show AV.agg _=AV.agg _;grind|dC vs=>show AV.dC _=AV.dC _;grind|_=>cases a
def Ec(ρ:Nat->Nat)(v:V):a8 (jD (V.eM ρ) v)=(a8 v).eM ρ:=by
 rw[D9 (G:=BV.eM ρ) (Ed ρ) λv h=>by cases v<;>first|rfl|cases h]
 cases a8 v<;>rfl
def T4(id:Nat)(v:V):a8 (jD (V.yt id) v)=(a8 v).kill id:=by
 rw[D9 (G:=BV.kill id) (Ah id) λv h=>by cases v<;>first|rfl|(simp only[V.yt];cases i_ _ id<;>rfl)|cases h]
 cases a8 v<;>rfl
def P8(B:List Nat)(v:V):a8 (jD (rK B) v)=(a8 v).cA B:=by
 rw[D9 (G:=BV.cA B) (wk B) λv h=>by cases v<;>first|rfl|(simp only[rK];cases kM B _<;>rfl)|cases h]
 cases a8 v<;>rfl
theorem nE(v:V):v.ids=(a8 v).ids:=by
 have b:∀vs:List V,vs.flatMap V.CM=(vs.map aU).flatMap BV.ids:=λvs=>by induction vs with|nil=>rfl|cons v vs c=>simp only[ah_,n_,c,xU]
 cases a:v.ID
 .rw[lc a];have:v.ids=v.CM:=by cases v<;>first|rfl|cases a
  rw[this];exact xU v
 .cases v with|agg vs=>exact b vs|dC vs=>exact b vs|_=>cases a
def xV(ρ:Nat->Nat)(o:Ob):bT (rO (V.eM ρ) o)=(bT o).eM ρ:=by
 cases o<;>first|rfl|skip
 rotate_left
 .rename_i hole;cases hole with|none=>rfl|some q=>obtain⟨i,j,v⟩:=q;show aL.tree _ _ _ _ (some (_,_,aU _))=aL.tree _ _ _ _ (some (_,_,_));rw[Ed ρ v]
 show aL.box _ _=aL.box _ _;rw[j_,j_];congr 1;exact k_ λv _=>Ed ρ v
def T5(id:Nat)(o:Ob):bT (rO (V.yt id) o)=(bT o).kill id:=by
 cases o<;>first|rfl|skip
 rotate_left
 .rename_i hole;cases hole with|none=>rfl|some q=>obtain⟨i,j,v⟩:=q;show aL.tree _ _ _ _ (some (_,_,aU _))=aL.tree _ _ _ _ (some (_,_,_));rw[Ah id v]
 show aL.box _ _=aL.box _ _;rw[j_,j_];congr 1;exact k_ λv _=>Ah id v
def P9(B:List Nat)(o:Ob):bT (rO (rK B) o)=(bT o).cA B:=by
 cases o<;>first|rfl|skip
 rotate_left
 .rename_i hole;cases hole with|none=>rfl|some q=>obtain⟨i,j,v⟩:=q;show aL.tree _ _ _ _ (some (_,_,aU _))=aL.tree _ _ _ _ (some (_,_,_));rw[wk B v]
 show aL.box _ _=aL.box _ _;rw[j_,j_];congr 1;exact k_ λv _=>wk B v
def Ef(o:Ob):o.ids=(bT o).ids:=by
 cases o<;>first|rfl|skip
 rotate_left
 .rename_i hole;cases hole with|none=>rfl|some q=>obtain⟨i,j,v⟩:=q;exact xU v
 show aS_ _ _=aS_ _ (aU_ _ _);rw[List.flatMap_map];congr 1;funext v;exact xU v
def Aj(s:S)(id:Nat)(o:Ob):enc (s.fC id o)=(enc s).fC id (bT o):=by
 simp only[enc,S.fC,St.fC,eV,j_,Q_];congr 1;.exact k_ λx _=>by simp[T4]
 .congr 1;exact k_ λo _=>T5 id o
def Ih(B:List Nat)(os:List Ob)(n:Nat):∀(l:List Ob) (i:Nat),(RG B os n i l).map bT=(l.map bT).mapIdx (λj o=>if B.contains (i+j)then(((os.map bT).getD (B.idxOf (i+j)) .gone).eM (g9 B n))else o.cA B)
 |[],_=>rfl
 |o::l,i=>by
  simp only[RG,n_,List.mapIdx_cons,aC_];rw[Ih B os n l (i+1)];congr 1
  .rw[AH];cases h:B.contains i;.simp[P9]
   .simp only[cond_true,if_true,xV,DN,EU];congr 1;simp only[aQ_,m_];cases os[B.idxOf i]? <;>rfl
  grind
def MR(s:S)(B:List Nat)(os:List Ob):enc (s.back B os)=(enc s).back B (os.map bT):=by
 simp only[enc,S.back,St.back,kg];congr 1;.rw[j_,j_];exact k_ λx _=>by simp[P8]
 .rw[v_,Ih];congr 1;.simp
  .rw[<-al_,j_,j_];exact k_ λo _=>by simp[xV,DN]
section
variable {P:Program} {s:S}
theorem BR:∀(B:List Nat) (os:List Ob),N4 s B=some os->B.mapM ((enc s).hp[·]?)=some (os.map bT)
 |[],os,h=>by cases h;rfl
 |i::B,os,h=>by
  simp only[N4]at h;split at h
  .rename_i o a;split at h;.rename_i l hl;cases h;rw[o_,BR B l hl,bL,a];rfl
   grind
  grind
theorem UL{α β:Type}{f:α->Option β}{l:List α}{x:α}(a:x∈l)(h:f x=none):l.mapM f=none:=by
 induction l with
 |nil=>grind|cons y l b=>
  rw[o_];rcases E_.1 a with rfl|a;.grind
  .rw[b a];simp
theorem PF{hp:List aL}{bor:Bool}{B:List Nat}{t:Ty}{v:V}{x:t.den}(h:cr t v=some x):ny hp bor B (a8 v)=some (a8 (.d t x)):=by
 have hd:=eC h;cases v with
 |d u y=>obtain⟨b,_⟩:=bJ (show bA u t y=some x from h);show some (AV.p _)=some (AV.p _);grind
 |nil u=>obtain⟨b,_⟩:=bJ (show bA (.list u) t []=some x from h);show some (AV.p _)=some (AV.p (aM t x));rw[b];rfl
 |full u y=>obtain⟨b,_⟩:=bJ (show bA (.list u) t y=some x from h);show some (AV.p _)=some (AV.p (aM t x));rw[b];rfl
 |agg vs=>have a:((vs.map aU).mapM BV.bF).map PV.agg=some (aM t x):=hd;show(if((vs.map aU).mapM BV.bF).isSome=true then _ else _)=_;cases c:(vs.map aU).mapM BV.bF with|none=>grind|some cs=>rw[c]at a;simp only[aA_,if_true];show(((vs.map aU).mapM BV.bF).map PV.agg).map AV.p=_;rw[c,a];rfl
 |_=>simp[cr,iD]at h
theorem Mn{bor:Bool}{B:List Nat}{a:Arg×X}{v:V}(d:a.2.wf=true)(h:Ie s bor B a=some v)(g:∀i∈v.ids,i∈B):((enc s).get a.2.er).bind (ny (enc s).hp bor B)=some (a8 v):=by
 obtain⟨a,x⟩:=a;simp only[Ie]at h;split at h
 .rename_i t id b;obtain⟨h1,h2⟩:=aZ h;simp only[a_,z_]at h1;split at h2
  .rename_i e u xs j;split at h2
   .rename_i ys c;cases h2;obtain⟨k,l⟩:=bJ c;rw[aG d b,q_];have f:B.contains id=false:=by rw[<-AH];grind
    show(if B.contains id=true then _ else _)=_;rw[f];simp only[T_,if_false];show(if bor=true then Lg (enc s).hp id else none).map AV.p=_;rw[h1.1,if_pos rfl,Lg,bL,j];show some (AV.p (aM (.list u) xs))=some (AV.p (aM (.list t) ys));grind
   grind
  .rename_i e kk u xs j;split at h2
   .rename_i ys c;cases h2;obtain⟨k,l⟩:=bJ c;rw[aG d b,q_];have f:B.contains id=false:=by rw[<-AH];grind
    show(if B.contains id=true then _ else _)=_;rw[f];simp only[T_,if_false];show(if bor=true then Lg (enc s).hp id else none).map AV.p=_;rw[h1.1,if_pos rfl,Lg,bL,j];show some (AV.p (aM (.list u) xs))=some (AV.p (aM (.list t) ys));grind
   grind
  grind
 .rename_i t p _ b;split at h;.rename_i y c;cases h;rw[aG d b,q_];exact PF c
  grind
 .rename_i p b;rw[aG d b,q_];split at h;.grind
  .grind
  .grind
  .grind
  .rename_i vs;obtain⟨h1,h2⟩:=aZ h;cases h2;obtain⟨u,n,hr⟩:=aD_.1 h1;have:(vs.map aU).mapM BV.bF=none:=UL (az_ n) (by cases u<;>first|rfl|cases hr)
   show(if((vs.map aU).mapM BV.bF).isSome=true then _ else _)=_;rw[this];rfl
  .rename_i r z A C D;cases h;cases v<;>first|rfl|skip
   .grind
   .grind
   .rename_i id;have:B.contains id=true:=aw_.2 (g id (by simp[V.ids,V.CM]));show(if B.contains id=true then _ else _)=_;rw[this];rfl
   .grind
   .rename_i w;show ny _ _ _ (AV.b (bG w))=some (AV.b (bG w));unfold bG;split;.grind
    .rfl
 grind
theorem q7{bor:Bool}{B:List Nat}:∀(l:List (Arg×X)) (vs:List V),iY l=true->kZ s bor B l=some vs->(∀v∈vs,∀i∈v.ids,i∈B)->(l.map λa=>a.2.er).mapM (λx=>((enc s).get x).bind (ny (enc s).hp bor B))=some (vs.map a8)
 |[],vs,_,h,_=>by cases h;rfl
 |a::l,vs,c,h,b=>by
  simp only[iY,r_,a_]at c;simp only[kZ]at h;split at h
  .rename_i v f;split at h;.rename_i us d;cases h;rw[n_,o_,Mn c.1 f (b v (by simp)),q7 l us c.2 d λu e=>b u (by grind)];rfl
   grind
  grind
end
def Ga{v w:V}(h:V.same v w=true):a8 v=a8 w/\aU v=aU w/\(aU v).s6:=by
 unfold V.same at h;split at h;.have e:=b_ h;subst e;exact⟨rfl,rfl,trivial⟩
 .simp only[a_]at h;have e:=b_ h.1;have a:=b_ h.2;subst e;subst a;exact⟨rfl,rfl,trivial⟩
 .have e:=b_ h;subst e;exact⟨rfl,rfl,trivial⟩
 .simp only[a_,decide_eq_true_eq]at h;have e:=b_ h.1;have a:=h.2;subst e;subst a;exact⟨rfl,rfl,trivial⟩
 .exact⟨rfl,rfl,trivial⟩
 .exact⟨rfl,rfl,.sc _⟩
 .exact⟨rfl,rfl,.sc _⟩
 .exact⟨rfl,rfl,.sc _⟩
 .exact⟨rfl,rfl,.sc _⟩
 grind
def YI{v w:V}(h:V.same v w=true):v.ID=false:=by unfold V.same at h;split at h<;>first|rfl|cases h
theorem zdP{v:V}{t:Ty}{x:t.den}(h:iD t v=some x):L6 (aU v) (aU (.d t x)):=.data _ _ (l8 h)
def zdO{v:V}{t:Ty}{x:t.den}(h:cr t v=some x):JI (a8 v) (a8 (.d t x)):=.data _ _ (eC h)
def LeC(cs ds:List V):Prop:=cs.length=ds.length/\∀(i:Nat) (x y:V),cs[i]? =some x->ds[i]? =some y->L6 (aU x) (aU y)
def LeC.refl(cs:List V):LeC cs cs:=⟨rfl,λi x y H E=>by rw[H]at E;cases E;exact .refl _⟩
def LeC.box{t:TypeId}{cs ds:List V}(h:LeC cs ds):V0 (bT (.box t cs)) (bT (.box t ds)):= .box t _ _ (by simp[h.1]) λi x y E H=>by simp only[m_,d_]at E H;obtain⟨u,I,rfl⟩:=E;obtain⟨v,J,rfl⟩:=H;exact h.2 i u v I J
def ti:∀(cs ds:List V),ki cs ds=true->LeC ds cs/\∀v∈cs,(aU v).s6
 |[],[],_=>⟨⟨rfl,λi x y j=>by simp⟩,λv a=>by grind⟩
 |[],_::_,h=>by grind[ki]
 |x::l,[],h=>by grind[ki]
 |x::l,y::m,h=>by
  have key:L6 (aU y) (aU x)/\(aU x).s6/\ki l m=true:=by
   unfold ki at h;split at h;.grind
   .rename_i l1 c b h1 h2;cases h1;cases h2;exact⟨.any _,.any,h⟩
   .rename_i xs l1 ys b h1 h2;cases h1;cases h2;simp only[a_]at h;exact⟨.refl _,.any,h.2⟩
   .rename_i k l1 c b _ _ h1 h2;cases h1;cases h2;simp only[a_]at h;obtain⟨_,e,f⟩:=Ga h.1;exact⟨by rw[e];exact .refl _,f,h.2⟩
   grind
  obtain⟨⟨h1,h2⟩,d⟩:=ti l m key.2.2;refine⟨⟨by grind,λi u v g a=>?_⟩,λv a=>?_⟩;all_goals grind
def Slot.obj:Slot->Option Nat
 | .vec id _ _=>some id
 | .map id _ _ _ _=>some id
 | .tree id _ _ _=>some id
 | .iM id _ _ _ _ _=>some id
 |_=>none
inductive sf:Ob->Ob->Prop
 |vec (e:TypeId) (t:Ty) (xs ys:List t.den):sf (.vec e t xs) (.vec e t ys)
 |map (k e:TypeId) (a c:Ty) (xs ys:List (a.den×c.den)):sf (.map k e a c xs) (.map k e a c ys)
 |tree (e:TypeId) (k:Av.K) (t:Ty) (xs ys:List t.den):sf (.tree e k t xs none) (.tree e k t ys none)
 |iM (e:TypeId) (k:Av.K) (t:Ty) (xs ys:List t.den) (i i' j kid:Nat):sf (.tree e k t xs (some (i,j,.sl kid))) (.tree e k t ys (some (i',j,.sl kid)))
def Tx(l:List Slot)(i:Nat)(o b:Ob):Prop:=
 b= .gone\/(∃t cs ds,o= .box t cs/\b= .box t ds/\LeC cs ds)\/b=o\/(sf o b/\∃x∈l,x.obj=some i)
def Tx.le{i:Nat}{o b:Ob}(h:Tx [] i o b):V0 (bT o) (bT b):=by
 rcases h with rfl|⟨t,cs,ds,rfl,rfl,h⟩|rfl|⟨_,x,h,_⟩;.exact .gone _
 .exact h.box
 .exact .refl _
 grind
def Tx.r6{l:List Slot}{x:Slot}{i:Nat}{o b:Ob}(h:Tx (x::l) i o b)(H:x.obj≠some i):Tx l i o b:=by
 rcases h with h|h|h|⟨h,y,I,E⟩;.exact .inl h
 .exact .inr (.inl h)
 .exact .inr (.inr (.inl h))
 .exact .inr (.inr (.inr ⟨h,y,(E_.1 I).resolve_left λe=>H (by grind),E⟩))
def Lh(hp:List Ob):Slot->Prop
 | .vec id e t=>∃ys,hp[id]? =some (.vec e t ys)
 | .map id k e a b=>∃ys,hp[id]? =some (.map k e a b ys)
 | .tree id e k t=>∃ys,hp[id]? =some (.tree e k t ys none)
 | .iM id e k t j kid=>∃ys i,hp[id]? =some (.tree e k t ys (some (i,j,.sl kid)))
 |_=>True
def LeF(fr fr':List (Nat×V)):Prop:=∀k v,lk fr' k=some v->∃u,lk fr k=some u/\JI (a8 u) (a8 v)
structure LeP(l:List Slot)(s b:S):Prop where
 fr:LeF s.fr b.fr
 len:s.hp.length=b.hp.length
 hp:∀(i:Nat) (o o':Ob),s.hp[i]? =some o->b.hp[i]? =some o'->Tx l i o o'
 on:∀x∈l,Lh b.hp x
def Gc{hp:List Ob}{id:Nat}{o:Ob}{x:Slot}(h:Lh hp x)(n:∀o',hp[id]? =some o'->(∀z,¬sf o' z)\/sf o' o):Lh (hp.set id o) x:=by
 have f:∀(j:Nat) (o':Ob),hp[j]? =some o'->(∃z,sf o' z)->∃d,(hp.set id o)[j]? =some d/\(sf o' d\/d=o'):=λj o' l p=>by grind
 cases x with
 |vec j e t=>
  obtain⟨ys,c⟩:=h;obtain⟨d,h1,h2|rfl⟩:=f j _ c ⟨_,.vec e t ys ys⟩;.cases h2;exact⟨_,h1⟩
  .exact⟨_,h1⟩
 |map j k e a b=>
  obtain⟨ys,c⟩:=h;obtain⟨d,h1,h2|rfl⟩:=f j _ c ⟨_,.map k e a b ys ys⟩;.cases h2;exact⟨_,h1⟩
  .exact⟨_,h1⟩
 |tree j e k t=>
  obtain⟨ys,c⟩:=h;obtain⟨d,h1,h2|rfl⟩:=f j _ c ⟨_,.tree e k t ys ys⟩;.cases h2;exact⟨_,h1⟩
  .exact⟨_,h1⟩
 |iM j e k t g kid=>
  obtain⟨ys,i,c⟩:=h;obtain⟨d,h1,h2|rfl⟩:=f j _ c ⟨_,.iM e k t ys ys i i g kid⟩;.cases h2;exact⟨_,_,h1⟩
  .exact⟨_,_,h1⟩
 |_=>trivial
theorem NW{t:TypeId}{cs:List V}(z:Ob):¬sf (.box t cs) z:=λh=>by cases h
theorem LeF.put{fr fr':List (Nat×V)}(h:LeF fr fr'){k:Nat}{u v:V}(J:lk fr k=some u)(I:JI (a8 u) (a8 v)):LeF fr ((k,v)::fr'):=λj w E=>by
 simp only[lk]at E;cases H:i_ j k;.rw[H]at E;exact h j w E
 .grind[b_]
def LeP.set{s:S}{x:Slot}{l:List Slot}{b:S}(h:LeP (x::l) s b){id:Nat}{o ob:Ob}(Y:x.obj=some id)(I:s.hp[id]? =some o)(H:b.hp[id]? =some ob)(hl:sf ob o):LeP l s ⟨b.fr,setAt b.hp id o⟩:=by
 rw[eV];refine⟨h.fr,by simp[h.len],λi J N h1 h2=>?_,λz hz=>Gc (h.on z (by grind)) (λo' U=>by grind)⟩;by_cases E:id=i;.subst E;rw[A_ ((l_.1 H).1)]at h2;cases h2;rw[I]at h1;cases h1;exact .inr (.inr (.inl rfl))
 .rw[t_ E]at h2;exact(h.hp i J N h1 h2).r6 (by grind)
def lJ(s:S):∀(l:List Slot) (c:HL l) (b:S),FF s l=some c->LeP l s b->LeP [] s (unpack l c b)
 |[],_,b,_,h=>h
 |x::l,c,b,hc,h=>by
  simp only[FF]at hc;split at hc
  .rename_i y f;split at hc
   .rename_i I r;cases hc;cases x with
    |tm k t=>
     simp only[gL]at f;split at f;.rename_i v R;exact lJ s l I _ r ⟨h.fr.put R (zdO f),h.len,λi o o' h1 h2=>(h.hp i o o' h1 h2).r6 (by simp[Slot.obj]),λz L=>h.on z (by grind)⟩
     grind
    |cell id j t=>
     simp only[gL]at f;split at f
     .rename_i u cs p;split at f
      .rename_i v R;refine lJ s l I _ r ?_;unfold setCell;split
       .rename_i t' ds n;rw[eV,eV];have hid:=(l_.1 n).1;refine⟨h.fr,by simp[h.len],λi o o' h1 h2=>?_,λz L=>Gc (h.on z (by grind)) (λo' d=>by grind[NW])⟩;by_cases Q:id=i
        .subst Q;rw[A_ hid]at h2;cases h2;rw[p]at h1;cases h1;have e0:∃O C D,Ob.box u cs= .box O C/\Ob.box t' ds= .box O D/\LeC C D:=by
          rcases h.hp id _ _ p n with d|e0|d|⟨d,_⟩;.grind
          .omega
          .cases d;exact⟨_,_,_,rfl,rfl,rfl,λi x y hx f=>by rw[hx]at f;cases f;exact .refl _⟩
          .cases d
         obtain⟨O,C,D,E,B,A⟩:=e0
         .cases E;cases B;refine .inr (.inl ⟨_,_,_,rfl,rfl,by simp[A.1],λi u w hu T=>?_⟩);by_cases M:j=i;.grind[zdP]
          .rw[t_ M]at T;exact A.2 i u w hu T
        .rw[t_ Q]at h2;exact(h.hp i o o' h1 h2).r6 (by simp[Slot.obj])
       .exact⟨h.fr,h.len,λi o o' h1 h2=>(h.hp i o o' h1 h2).r6 (by simp[Slot.obj]),λz L=>h.on z (by grind)⟩
      grind
     grind
    |vec id e t=>
     simp only[gL]at f;split at f
     .rename_i P u xs p;obtain⟨B,A⟩:=bP f;have F:=Ty.list.inj B;subst F;have H:y=xs:=A;subst H;obtain⟨ys,n⟩:=h.on _ (w_ ..);have N:sf (.vec P u y) (.vec e u ys):=by
       rcases h.hp id _ _ p n with d|⟨_,_,_,d,_⟩|d|⟨d,_⟩;.grind
       .grind
       .cases d;exact .vec _ _ _ _
       omega
      have g:P=e:=by cases N;rfl
      subst g;exact lJ s l I _ r (h.set rfl p n (.vec _ _ _ _))
     grind
    |map id k e a b'=>
     simp only[gL]at f;split at f
     .rename_i J E a1 b1 xs p;obtain⟨B,A⟩:=bP f;have F:=Ty.list.inj B;injection F with U Y;subst U;subst Y;have H:y=xs:=A;subst H;obtain⟨ys,n⟩:=h.on _ (w_ ..);have g:J=k/\E=e:=by
       rcases h.hp id _ _ p n with d|⟨_,_,_,d,_⟩|d|⟨d,_⟩;.grind
       .grind
       .grind
       .cases d;simp
      obtain⟨rfl,rfl⟩:=g;exact lJ s l I _ r (h.set rfl p n (.map _ _ _ _ _ _))
     grind
    |tree id e k t=>
     simp only[gL]at f;split at f
     .rename_i E J u xs p;obtain⟨B,A⟩:=bP f;have F:=Ty.list.inj B;subst F;have H:y=xs:=A;subst H;obtain⟨ys,n⟩:=h.on _ (w_ ..);have g:E=e/\J=k:=by
       rcases h.hp id _ _ p n with d|⟨_,_,_,d,_⟩|d|⟨d,_⟩;.grind
       .grind
       .grind
       .cases d;simp
      obtain⟨rfl,rfl⟩:=g;exact lJ s l I _ r (h.set rfl p n (.tree _ _ _ _ _))
     grind
    |iM id e k t j kid=>
     simp only[gL]at f;split at f
     .rename_i E J u xs i1 j1 v1 p;split at f
      .rename_i zs L;cases f;obtain⟨B,A⟩:=bP L;have F:=Ty.list.inj B;subst F;have H:zs=xs:=A;subst H;obtain⟨ys,i2,n⟩:=h.on _ (w_ ..);have g:E=e/\J=k/\j1=j/\v1= .sl kid:=by
        rcases h.hp id _ _ p n with d|⟨_,_,_,d,_⟩|d|⟨d,_⟩;.grind
        .grind
        .grind
        .cases d;simp
       obtain⟨rfl,rfl,rfl,rfl⟩:=g;exact lJ s l I _ r (by have:=h.set rfl p n (.iM _ _ _ _ _ _ _ _ _);grind)
      grind
     grind
   grind
  grind
def LeP.le{s b:S}(h:LeP [] s b):Pg (enc s) (enc b):=by
 refine⟨λk y N=>?_,by simp[enc,h.len],λi x y I J=>?_⟩;.show ∃x,Av.look (s.fr.map λx=>(x.1,a8 x.2)) k=some x/\_;have E:Av.look (b.fr.map λx=>(x.1,a8 x.2)) k=some y:=N;rw[mV]at E⊢;obtain⟨v,hv,rfl⟩:=d_.1 E;obtain⟨u,hu,U⟩:=h.fr k v hv;grind
 .rw[bL]at I J;obtain⟨o,Y,rfl⟩:=d_.1 I;obtain⟨o',H,rfl⟩:=d_.1 J;exact(h.hp i o o' Y H).le
def IL(l m:List (Nat×V))(k:Nat):lk (l++m) k=(lk l k).or (lk m k):=by induction l with|nil=>rfl|cons x l a=>grind[lk]
def rN{l:List (Nat×V)}{k:Nat}{v:V}(h:lk l k=some v):(k,v)∈l:=by
 induction l with
 |nil=>cases h|cons x l b=>
  obtain⟨j,w⟩:=x;simp only[lk]at h;cases a:i_ k j;.grind
  .grind[b_]
def IA{fr sk:List (Nat×V)}(h:EP fr sk=true){k:Nat}{v:V}(a:(k,v)∈sk):∃w,lk fr k=some w/\V.same v w=true:=by induction sk with|nil=>grind|cons x sk b=>simp only[EP]at h;grind
def wW:∀{us c:List Ob},AT us c=true->us.length=c.length/\∀(i:Nat) (x y:Ob),us[i]? =some x->c[i]? =some y->SE x y=true
 |[],[],_=>⟨rfl,λi x y h=>by simp⟩
 |[],_::_,h=>by cases h
 |_::_,[],h=>by cases h
 |a::us,b::c,h=>by simp only[AT,a_]at h;obtain⟨h1,h2⟩:=wW h.2;grind
def Ob.zbo:Ob->Bool
 | .vec _ _ _=>true
 | .map _ _ _ _ _=>true
 | .tree _ _ _ _ _=>true
 |_=>false
def FC{sl:List Slot}:∀{l:List Ob} {i j:Nat} {o:Ob},zaX sl i l=true->l[j]? =some o->o.zbo=true->∃x∈sl,x.obj=some (i+j)
 |[],i,j,o,_,b,_=>by grind
 |a::l,i,j,o,h,b,d=>by
  simp only[zaX,a_]at h;cases j with
  |zero=>
   simp at b;subst b;cases a<;>first|cases d|skip
   all_goals
    obtain⟨x,e,c⟩:=aD_.1 h.1;refine⟨x,e,?_⟩;cases x<;>simp at c;all_goals (subst c;rfl)
  |succ j=>have:=FC (i:=i+1) (j:=j) h.2 (by grind) d;grind
def YP{hp:List Ob}{x:Slot}(h:Jf hp x=true):Lh hp x:=by
 cases x with
 |vec id e t=>
  simp only[Jf]at h;split at h;.rename_i f p ys d;simp only[a_,decide_eq_true_eq]at h;have c:=b_ h.1;obtain⟨_,rfl⟩:=h;subst c;exact⟨ys,d⟩
  grind
 |map id k e a b=>
  simp only[Jf]at h;split at h;.rename_i l f u b' ys d;simp only[a_,decide_eq_true_eq]at h;obtain⟨⟨⟨h1,h2⟩,rfl⟩,rfl⟩:=h;have c:=b_ h1;have g:=b_ h2;subst c;subst g;exact⟨ys,d⟩
  grind
 |tree id e k t=>
  simp only[Jf]at h;split at h;.rename_i f l p ys d;simp only[a_,decide_eq_true_eq]at h;obtain⟨⟨h1,rfl⟩,rfl⟩:=h;have c:=b_ h1;subst c;exact⟨ys,d⟩
  grind
 |iM id e k t j kid=>
  simp only[Jf]at h;split at h;.rename_i f l p ys i' v n d;simp only[a_,decide_eq_true_eq]at h;obtain⟨⟨⟨⟨h1,rfl⟩,rfl⟩,h2⟩,s⟩:=h;have c:=b_ h1;have g:=b_ h2;have r:=b_ s;subst c;subst g;subst r;exact⟨ys,_,d⟩
  grind
 |_=>trivial
def FH{sh:Sh}{s s0:S}{c:HL sh.sl}(p:sh.zB=true)(h:pack sh s=some c)(A:∀k v,lk (dX s0.fr sh.keep) k=some v->lk s.fr k=some v):LeP [] s (unpack sh.sl c (sh.base s0)):=by
 unfold pack at h;split at h
 .rename_i n;simp only[a_,S.fits]at n;simp only[Sh.zB,a_,e_]at p;obtain⟨y,z⟩:=wW n.1.2;refine lJ s sh.sl c _ h ⟨λk v B=>?_,y.symm,λi o o' h1 h2=>?_,λx C=>YP (p.1 x C)⟩;.have b:lk (dX s0.fr sh.keep++sh.sk.fr) k=some v:=B;rw[IL]at b;cases e:lk (dX s0.fr sh.keep) k with|some u=>rw[e]at b;cases b;exact⟨v,A k v e,.refl _⟩|none=>rw[e]at b;obtain⟨w,h1,h2⟩:=IA n.1.1 (rN b);exact⟨w,h1,by rw[(Ga h2).1];exact .refl _⟩
  .have g:sh.sk.hp[i]? =some o':=h2;have a:=z i o' o g h1;have q:=FC p.2 g;rw[ab_]at q;unfold SE at a;split at a;.exact .inl rfl
   .rename_i t cs u ds;simp only[a_]at a;have d:=b_ a.1;subst d;exact .inr (.inl ⟨_,_,_,rfl,rfl,(ti cs ds a.2).1⟩)
   .simp only[a_,decide_eq_true_eq]at a;have d:=b_ a.1;obtain⟨_,rfl⟩:=a;subst d;exact .inr (.inr (.inr ⟨.vec _ _ _ _,q rfl⟩))
   .simp only[a_,decide_eq_true_eq]at a;obtain⟨⟨⟨l,f⟩,rfl⟩,rfl⟩:=a;have d:=b_ l;have j:=b_ f;subst d;subst j;exact .inr (.inr (.inr ⟨.map _ _ _ _ _ _,q rfl⟩))
   .simp only[a_,decide_eq_true_eq]at a;obtain⟨⟨⟨l,rfl⟩,rfl⟩,f⟩:=a;have d:=b_ l;subst d;split at f;.exact .inr (.inr (.inr ⟨.tree _ _ _ _ _,q rfl⟩))
    .simp only[a_]at f;have j:=b_ f.1;have r:=b_ f.2;subst j;subst r;exact .inr (.inr (.inr ⟨.iM _ _ _ _ _ _ _ _ _,q rfl⟩))
    grind
   grind
 grind
def K4{sh:Sh}{s s0:S}{c:HL sh.sl}(b:sh.zB=true)(h:pack sh s=some c)(a:∀k v,lk (dX s0.fr sh.keep) k=some v->lk s.fr k=some v):Pg (enc s) (enc (unpack sh.sl c (sh.base s0))):=(FH b h a).le
structure FlP(l:List Slot)(b:S):Prop where
 fr:∀k v,lk b.fr k=some v->(a8 v).s5
 hp:∀(i:Nat) (o:Ob),b.hp[i]? =some o->(bT o).se\/(o.zbo=true/\∃x∈l,x.obj=some i)
def Zb{e:TypeId}{t:Ty}(xs:List t.den)(h:t.flat=true):(bT (.vec e t xs)).se:=λp hp y a=>by obtain⟨x,_,rfl⟩:=s_.1 hp;exact(kt t x h).2 y a
def Xt{k e:TypeId}{a b:Ty}(xs:List (a.den×b.den))(h:a.flat=true/\b.flat=true):(bT (.map k e a b xs)).se:=λp hp=>by obtain⟨x,_,rfl⟩:=s_.1 hp;exact⟨(kt a x.1 h.1).1,(kt b x.2 h.2).1⟩
def pw:∀(t:Ty) (x:t.den),(ip t).length=t.sz/\∀(j:Nat) (y:PV),(aN t x)[j]? =some y->∃(u:Ty) (z:u.den),(ip t)[j]? =some u/\y=aM u z
 | .unit,x=>⟨rfl,λj y h=>by simp[aN,aM,PV.cells]at h⟩
 | .pair a b,x=>by
  obtain⟨h1,h2⟩:=pw a x.1
  obtain⟨d,e⟩:=pw b x.2
  refine⟨by simp[ip,Ty.sz,h1,d],λj y h=>?_⟩
  have hc:aN (.pair a b) x=aN a x.1++aN b x.2:=rfl
  rw[hc]at h
  have hl:(aN a x.1).length=a.sz:=aQ a x.1
  rcases aT_ j a.sz with g|g
  .rw[C_ (by omega)]at h
   obtain⟨u,z,f,c⟩:=h2 j y h
   exact⟨u,z,by simp only[ip];grind,c⟩
  .rw[N_ (by omega)]at h
   obtain⟨u,z,f,c⟩:=e _ y h
   exact⟨u,z,by simp only[ip];grind,c⟩
 | .rx,x=>by
  refine⟨rfl,λj y h=>?_⟩
  rw[qI]at h
  match j,h with
  |0,h=>cases h;exact⟨.int .i64,_,rfl,rfl⟩
  |1,h=>cases h;exact⟨.int .i64,_,rfl,rfl⟩
  |2,h=>cases h;exact⟨.int .i64,_,rfl,rfl⟩
  |3,h=>cases h;exact⟨.list .rx,_,rfl,rfl⟩
  |j+4,h=>grind
 | .int k,x=>leaf (.int k) x rfl rfl
 | .bool,x=>leaf .bool x rfl rfl
 | .str,x=>leaf .str x rfl rfl
 | .list t,x=>leaf (.list t) x rfl rfl
where
 leaf (t:Ty) (x:t.den) (h1:t.ag=false) (h2:ip t=[t]):(ip t).length=t.sz/\∀(j:Nat) (y:PV),(aN t x)[j]? =some y->∃(u:Ty) (z:u.den),(ip t)[j]? =some u/\y=aM u z:=by
  refine⟨by rw[h2,fN h1];rfl,λj y h=>?_⟩
  rw[eR x h1]at h
  grind
def pn:∀(k:Av.K) (ts:List Ty),flatK k ts=true->∀(j:Nat) (u:Ty) (z:u.den),ts[j]? =some u->H9 (k.at j) (aM u z)
 | .e,ts,h,j,u,z,a=>by simp only[flatK,e_]at h;exact .flat _ (kt u z (h u (y_ a))).1
 | .f r,[],h,j,u,z,a=>by grind
 | .f r,t::ts,h,j,u,z,a=>by simp only[flatK,a_]at h;cases j with|zero=>cases a;exact .flat _ (kt _ z h.1).1|succ j=>exact pn r ts h.2 j u z (by grind)
 | .s e sz sub r,[],h,j,u,z,a=>by grind
 | .s e sz sub r,t::ts,h,j,u,z,a=>by
  cases t<;>try cases h
  rename_i v;simp only[flatK,a_]at h;cases j with
  |zero=>cases a;have hs:=b_ h.1.1;refine .sl _ _ _ _ (z.map (aM v)) (by rw[hs];rfl) λi j x y b c=>?_;rw[m_]at b;obtain⟨w,_,rfl⟩:=d_.1 b;obtain⟨d,f,h1,rfl⟩:=(pw v w).2 j y c;exact pn sub _ h.1.2 j d f h1
  |succ j=>exact pn r ts h.2 j u z (by grind)
def Gr{e:TypeId}{k:Av.K}{t:Ty}(xs:List t.den)(h:flatK k (ip t)=true)(hole:Option (Nat×Nat×V))(d:hole=none\/∃i j kid,hole=some (i,j,.sl kid)):(bT (.tree e k t xs hole)).se:=by
 refine⟨λi j b a=>?_,λi j x y c f=>?_⟩
 .rcases d with rfl|⟨i',n,kid,rfl⟩;.cases a
  .cases a;trivial
 .rw[m_]at c;obtain⟨w,_,rfl⟩:=d_.1 c;obtain⟨g,l,h1,rfl⟩:=(pw t w).2 j y f;exact pn k _ h j g l h1
def iN:∀(l:List Slot) (c:HL l) (b:S),l.all Slot.flat=true->FlP l b->FlP [] (unpack l c b)
 |[],_,b,_,h=>h
 |x::l,c,b,g,h=>by
  simp only[r_,a_]at g;have drop:∀(i:Nat) (o:Ob),b.hp[i]? =some o->x.obj≠some i->(bT o).se\/(o.zbo=true/\∃x∈l,x.obj=some i):=by intro i o p h1;rcases h.hp i o p with s|⟨s,y,A,w⟩;all_goals grind
  have f:∀(id:Nat) (o':Ob),x.obj=some id->(bT o').se->FlP l ⟨b.fr,setAt b.hp id o'⟩:=λid o' B z=>⟨h.fr,λi o p=>by
   have d:(setAt b.hp id o')[i]? =some o:=p;rw[eV]at d;by_cases u:id=i;.grind
   .rw[t_ u]at d;exact drop i o d (by grind)⟩
  cases x with
  |tm k t=>
   refine iN l c.2 _ g.2 ⟨λj v n=>?_,λi o p=>drop i o p (by simp[Slot.obj])⟩;simp only[lk]at n;cases r:i_ j k;.rw[r]at n;exact h.fr j v n
   .rw[r]at n;simp only[cond_true,h_]at n;subst n;exact(kt t c.1 g.1).1
  |cell id j t=>
   refine iN l c.2 _ g.2 ⟨h.fr,λi o p=>?_⟩;have d:(setCell b.hp id j (.d t c.1))[i]? =some o:=p;unfold setCell at d;split at d
   .rename_i C ds r;rw[eV,eV]at d;have hid:=(l_.1 r).1;by_cases u:id=i
    .subst u;rw[A_ hid]at d;cases d;left;rcases h.hp id _ r with s|⟨s,_⟩
     .intro y w;obtain⟨v,n,rfl⟩:=s_.1 w;rcases List.mem_or_eq_of_mem_set n with n|rfl;.exact s _ (az_ n)
      .exact(kt t c.1 g.1).1
     .cases s
    .rw[t_ u]at d;exact drop i o d (by simp[Slot.obj])
   .exact drop i o d (by simp[Slot.obj])
  |vec id e t=>exact iN l c.2 _ g.2 (f id _ rfl (Zb _ g.1))|map id k e a b'=>have:=g.1;simp only[Slot.flat,a_]at this;exact iN l c.2 _ g.2 (f id _ rfl (Xt _ this))|tree id e k t=>exact iN l c.2 _ g.2 (f id _ rfl (Gr _ g.1 none (.inl rfl)))|iM id e k t j kid=>exact iN l c.2 _ g.2 (f id _ rfl (Gr _ g.1 _ (.inr ⟨_,_,_,rfl⟩)))
def base_nil(sh:Sh):(sh.base ⟨[],[]⟩).fr=sh.sk.fr:=by
 have:∀l,dX [] l=[]:=λl=>by induction l with
  |nil=>rfl
  |cons k l a=>simp only[dX,lk,a]
 simp[Sh.base,this]
def U0{sh:Sh}{s:S}{c:HL sh.sl}(p:sh.zB=true)(h:pack sh s=some c)(z:sh.sl.all Slot.flat=true):(∀k v,lk (unpack sh.sl c (sh.base ⟨[],[]⟩)).fr k=some v->(a8 v).s5)/\∀o∈(unpack sh.sl c (sh.base ⟨[],[]⟩)).hp,(bT o).se:=by
 unfold pack at h;split at h
 .rename_i d;simp only[a_,S.fits]at d;simp only[Sh.zB,a_,e_]at p;obtain⟨u,x⟩:=wW d.1.2;have key:FlP [] (unpack sh.sl c (sh.base ⟨[],[]⟩)):=iN sh.sl c _ z ⟨λk v j=>by
   rw[base_nil]at j;obtain⟨w,h1,h2⟩:=IA d.1.1 (rN j);rw[lc (YI h2)];exact(Ga h2).2.2,λi o l=>by
   have f:sh.sk.hp[i]? =some o:=l;have q:=FC (i:=0) p.2 f;rw[ab_]at q;obtain⟨r,n⟩:=bw u.symm f;have g:=x i o r f n;cases o with
   |gone=>exact .inl trivial|free=>exact .inl trivial|box t cs=>cases r<;>simp[SE]at g;left;intro y B;obtain⟨v,j,rfl⟩:=s_.1 B;exact(ti _ _ g.2).2 v j
   |vec e t xs=>exact .inr ⟨rfl,q rfl⟩|map k e a b xs=>exact .inr ⟨rfl,q rfl⟩|tree e k t xs hole=>exact .inr ⟨rfl,q rfl⟩⟩
  refine⟨key.fr,λo l=>?_⟩;obtain⟨i,A⟩:=Z_ l;rcases key.hp i o A with C|⟨_,_,D,_⟩;all_goals grind
 grind
def Yy{n:Nat}{fr:List (Nat×V)}(h:∀k v,lk fr k=some v->(a8 v).s5):(a8 (res n fr)).s5:=by
 unfold res;cases i_ n 1
 .intro x c;obtain⟨v,b,rfl⟩:=s_.1 c;obtain⟨i,_,rfl⟩:=s_.1 b;cases hl:lk fr i with
  |none=>exact .any|some u=>
   have:=h i u hl;simp only[ap_];cases a:u.ID;.rw[lc a]at this;exact this
   .cases u<;>first|exact .any|cases a
 .cases hl:lk fr 0 with|none=>exact .any|some u=>grind
theorem zbI{x:BV}{v:V}(h:JI (.b x) (a8 v)):L6 x (aU v):=by
 cases a:v.ID;.rw[lc a]at h;generalize aU v=y at h⊢;cases h with|refl=>exact .refl _|data _ p h=>exact .data _ _ h|any=>exact .any _
 .cases v with|agg vs=>cases h|dC vs=>cases h|_=>cases a
def zcV{n:Nat}{fr fr':List (Nat×V)}(h:LeF fr fr')(h1:N7 n fr=true):JI (a8 (res n fr)) (a8 (res n fr')):=by
 unfold res;simp only[N7]at h1;cases hn:i_ n 1
 .rw[hn,aj_,e_]at h1;refine .dC _ _ (by simp[vB]) λi x y d e=>?_;simp only[vB,m_,d_]at d e;obtain⟨v,⟨j,f,rfl⟩,rfl⟩:=d;obtain⟨w,⟨g,b,rfl⟩,rfl⟩:=e;rw[f]at b;cases b;cases hl:lk fr' j with
  |none=>exact .any _|some v=>
   obtain⟨u,c,a⟩:=h j v hl;rw[c];have:u.ID=false:=by simpa using h1 _ (rN c)
   rw[lc this]at a;exact zbI a
 .cases hl:lk fr' 0 with|none=>exact .any _|some v=>obtain⟨u,c,a⟩:=h 0 v hl;grind
def TE{P:Program}{f:FuncId}{ars:List AV}{os b a:List aL}{r g:AV}(h:eG P f ars os λo=>o=some (r,b))(hr:JI r g)(hl:b.length=a.length) (C:∀(i:Nat) (x y:aL),b[i]? =some x->a[i]? =some y->V0 x y):eG P f ars os λo=>o=some (g,a):=by
 intro w θ D vs u h1 h2 z;refine(h w θ D vs u h1 h2 z).mono λe w' A=>?_;rcases A with⟨v,r1,E,θ',D',j,k,n,c,s⟩|⟨F,j,k,n,_⟩;.cases k;refine .inl ⟨v,g,a,θ',D',j,rfl,hr.rel n,⟨by rw[c.len,hl],c.pO,c.inj,c.nj,λi l o B d=>?_⟩,s⟩;obtain⟨x,p⟩:=bw hl d;exact(C i x o p d).rel (c.fQ i l x B p)
 grind
structure cx(P:Program)(O:bh):Prop where
 ret:∀f ars os s,O f ars os=some (some s)->eG P (f%10000) (ars.map a8) (os.map bT) λo=>o=some (a8 (res s.fr.length s.fr),s.hp.map bT)
 jG:∀f ars os,O f ars os=some none->eG P (f%10000) (ars.map a8) (os.map bT) λo=>o=none
section
variable {R:Type} {P:Program} {O:bh} {d:Option Nat} {s:S} {κ kp:S->Option R} {r:R}
theorem te(hO:cx P O){f:FuncId}{ars:List V}{os:List Ob}{sh:Sh}{c:HL sh.sl}(e:sh.zB=true)(h:gw O f ars os sh=some c): eG P (f%10000) (ars.map a8) (os.map bT) (λo=>o=some (a8 (res sh.n (unpack sh.sl c (sh.base ⟨[],[]⟩)).fr),(unpack sh.sl c (sh.base ⟨[],[]⟩)).hp.map bT))/\(sh.sl.all Slot.flat=true->(a8 (res sh.n (unpack sh.sl c (sh.base ⟨[],[]⟩)).fr)).s5/\∀o∈(unpack sh.sl c (sh.base ⟨[],[]⟩)).hp.map bT,o.se):=by
 unfold gw at h;split at h
 .rename_i s' b;obtain⟨h1,h2⟩:=aZ h;simp only[a_]at h1;have hn:=b_ h1.1;have p:∀k v,lk (dX (⟨[],[]⟩:S).fr sh.keep) k=some v->lk s'.fr k=some v:=by
   have:∀l,dX [] l=[]:=λl=>by induction l with
    |nil=>rfl
    |cons k l u=>simp only[dX,lk,u]
   intro k v d;rw[this]at d;cases d
  have a:=FH (s0:=⟨[],[]⟩) e h2 p;have j:=a.le;refine⟨TE (hO.ret f ars os s' b) ?_ (by simp[a.len]) (λi x y r s=>j.hp i x y r s),λn=>?_⟩;.rw[hn];exact zcV a.fr h1.2
  .obtain⟨g,f2⟩:=U0 e h2 n;refine⟨Yy g,λo w=>?_⟩;grind
 grind
theorem MD(hO:cx P O){f:FuncId}{ars:List V}{os:List Ob}{sh:Sh}{c:Option (HL sh.sl)}(h:qk O f ars os sh=some c):(∀d,c=some d->gw O f ars os sh=some d)/\(c=none->eG P (f%10000) (ars.map a8) (os.map bT) λo=>o=none):=by
 unfold qk at h;split at h
 .rename_i s' b;obtain⟨h1,h2⟩:=aZ h;split at h2;.rename_i g e;cases h2;refine⟨λd a=>?_,(λhc=>by grind)⟩;cases a;unfold gw;grind
  grind
 .rename_i b;cases h;exact⟨(λd a=>by grind),λ_=>hO.jG f ars os b⟩
 grind
theorem Nt{B:List Nat}{v:V}(h:v.rJ=true):jD (rK B) v=v:=by cases v<;>first|rfl|cases h
theorem xJ(hO:cx P O){jG bor:Bool}{B:List Nat}{f:FuncId}{ars:List V}{sh:Sh}(L:sh.zB=true)(h:wg jG O s d bor B f ars sh κ kp=some r): ∃os:List Ob,(enc s).hp=(enc s).hp/\B.mapM ((enc s).hp[·]?)=some (os.map bT)/\(∀v∈ars,∀i∈v.ids,i∈B)/\cH.callK P (enc s) d bor B (f%10000) (ars.map a8) (os.map bT) (λl=>∃s',l=enc s'/\aT (gm d) s s'/\κ s'=some r) (λl=>∃s',l=enc s'/\aT (gm d) s s'/\kp s'=some r):=by
 unfold wg at h;split at h
 .rename_i os E;obtain⟨h1,h2⟩:=aZ h;simp only[a_,decide_eq_true_eq,e_,K_,z_]at h1;obtain⟨⟨⟨C,p⟩,j⟩,z⟩:=h1;have A:∀v∈ars,∀i∈v.ids,i∈B:=λv n=>uj.1 (p v n);have g:((ars.map (jD (V.eM (EU B)))).map a8)=(ars.map a8).map (AV.eM (B.idxOf ·)):=by rw[j_,j_];exact k_ λv _=>Ec _ v
  have e:((os.map (rO (V.eM (EU B)))).map bT)=(os.map bT).map (aL.eM (B.idxOf ·)):=by rw[j_,j_];exact k_ λv _=>xV _ v
  have bH:∀(b:List Ob) (v:V),aT (gm d) s ((s.back B b).aE d v):=λb v=>(aT.map (gm d) s (s.back B b) (rK B) (λv n=>Nt n) rfl).trans (aT.put _ d v);have k:∀(b:List Ob),aT (gm d) s (s.back B b):=λb=>aT.map (gm d) s (s.back B b) (rK B) (λv n=>Nt n) rfl;have H:∀c:HL sh.sl,gw O f (ars.map (jD (V.eM (EU B)))) (os.map (rO (V.eM (EU B)))) sh=some c->zY s d B sh.n sh κ c=some r->
   eG P (f%10000) ((ars.map a8).map (AV.eM (B.idxOf ·))) ((os.map bT).map (aL.eM (B.idxOf ·))) λo=>match o with
    |some (F,b)=>(bor=true->F.s5/\∀o∈b,o.se)/\∃s',((enc s).back B b).aE d (F.eM (g9 B (enc s).hp.length))=enc s'/\aT (gm d) s s'/\κ s'=some r
    |none=>∃s',(enc s).back B ((os.map bT).map λ_=>.gone)=enc s'/\aT (gm d) s s'/\kp s'=some r:=by
   intro c hc y
   obtain⟨w,N⟩:=te hO L hc
   rw[g,e]at w
   refine w.mono λo u=>?_
   subst u
   refine⟨λR=>N ?_,_,?_,bH _ _,y⟩
   .grind
   .rw[gF,MR,Ec,DN];congr 2;simp[enc]
  refine⟨os,rfl,BR B os E,A,C,?_,?_,?_⟩;.intro a J i x;obtain⟨v,n,rfl⟩:=s_.1 J;rw[<-nE]at x;grind
  .intro o u i x;obtain⟨o',D,rfl⟩:=s_.1 u;rw[<-Ef]at x;exact uj.1 (j o' D) i x
  .cases jG with
   |false=>obtain⟨c,hc,y⟩:=cP h2;grind
   |true=>obtain⟨M,hc,y⟩:=cP h2;obtain⟨Q,I⟩:=MD hO hc;cases M with|some c=>grind|none=>have w:=I rfl;rw[g,e]at w;refine w.mono λo u=>?_;subst u;refine⟨_,?_,k _,y⟩;rw[MR];congr 1;rw[j_,j_];rfl
 grind
end
def iO:∀(l:List Slot) (c:HL l) (b:S),(∀k v,lk b.fr k=some v->v.rJ=true)->∀k v,lk (unpack l c b).fr k=some v->v.rJ=true
 |[],_,_,h=>h
 | .tm j t::l,c,b,h=>iO l c.2 _ λk v a=>by
  simp only[lk]at a;cases d:i_ k j;.grind
  .rw[d]at a;simp only[cond_true,h_]at a;subst a;rfl
 | .cell _ _ _::l,c,b,h=>iO l c.2 _ h
 | .vec _ _ _::l,c,b,h=>iO l c.2 _ h
 | .map _ _ _ _ _::l,c,b,h=>iO l c.2 _ h
 | .tree _ _ _ _::l,c,b,h=>iO l c.2 _ h
 | .iM _ _ _ _ _ _::l,c,b,h=>iO l c.2 _ h
theorem zaD{v:V}(h:v.rJ=true):v.ids=[]/\v.CM=[]:=by cases v<;>first|exact⟨rfl,rfl⟩|cases h
def Tg{n:Nat}{fr:List (Nat×V)}(h:∀k v,lk fr k=some v->v.rJ=true):(res n fr).ids=[]:=by
 have one:∀k,((lk fr k).getD .any).ids=[]/\((lk fr k).getD .any).CM=[]:=λk=>by cases hl:lk fr k with|none=>exact⟨rfl,rfl⟩|some v=>grind[zaD]
 unfold res;cases i_ n 1;.show(vB fr n).flatMap V.CM=[];rw[List.flatMap_eq_nil_iff];intro v a;obtain⟨i,_,rfl⟩:=s_.1 a;grind
 grind
theorem JP{hp:List aL}{bor:Bool}{x:BV}{p:PV}(h:x.bF=some p):su hp bor x=some p:=by cases x<;>first|exact h|cases h
theorem Mp{hp:List aL}{bor:Bool}{x:AV}{p:PV}(h:x.bF=some p):je hp bor x=some p:=by
 cases x with
 |b x=>exact JP h|agg xs=>have h':(xs.mapM BV.bF).map PV.agg=some p:=h;obtain⟨a,h1,rfl⟩:=d_.1 h';show(xs.mapM (su hp bor)).map PV.agg=_;grind[nU,JP]
 |dC xs=>exact h
section
variable {R:Type} {P:Program} {O:bh} {d:Option Nat} {s:S} {κ kp:S->Option R} {r:R}
theorem Mm{bor:Bool}{a:Arg×X}{v:V}(c:a.2.wf=true)(h:Ie s bor [] a=some v)(hd:v.rJ=true):∃p,((enc s).get a.2.er).bind (je (enc s).hp bor)=some p/\AV.p p=a8 v:=by
 obtain⟨a,x⟩:=a;simp only[Ie]at h;split at h
 .rename_i t id b;obtain⟨h1,h2⟩:=aZ h;simp only[a_,z_]at h1;split at h2
  .rename_i e u xs f;split at h2;.rename_i ys d;cases h2;obtain⟨j,k⟩:=bJ d;refine⟨aM (.list t) ys,?_,rfl⟩;rw[aG c b,q_];show(if bor=true then Lg (enc s).hp id else none)=_;rw[h1.1,if_pos rfl,Lg,bL,f];show some (aM (.list u) xs)=some (aM (.list t) ys);grind
   grind
  .rename_i e kk u xs f;split at h2;.rename_i ys d;cases h2;obtain⟨j,k⟩:=bJ d;refine⟨aM (.list t) ys,?_,rfl⟩;rw[aG c b,q_];show(if bor=true then Lg (enc s).hp id else none)=_;rw[h1.1,if_pos rfl,Lg,bL,f];show some (aM (.list u) xs)=some (aM (.list t) ys);grind
   grind
  grind
 .rename_i t g _ b;split at h;.rename_i y d;cases h;exact⟨aM t y,by rw[aG c b,q_];grind[Mp,eC],rfl⟩
  grind
 .rename_i g b;have key:∀p:PV,a8 g=AV.p p->g=v->∃p,((enc s).get x.er).bind (je (enc s).hp bor)=some p/\AV.p p=a8 v:=λp hp e=>by subst e;exact⟨p,by rw[aG c b,q_,hp];exact Mp rfl,hp.symm⟩
  split at h;.grind
  .grind
  .grind
  .grind
  .obtain⟨h1,h2⟩:=aZ h;cases h2;cases hd
  .cases h;cases v<;>first|(cases hd;done)|skip
   .grind
   .exact key _ rfl rfl
   .exact key _ rfl rfl
 grind
theorem Ig{bor:Bool}:∀(l:List (Arg×X)) (vs:List V),iY l=true->kZ s bor [] l=some vs->vs.all V.rJ=true->∃b,(l.map λa=>a.2.er).mapM (λx=>((enc s).get x).bind (je (enc s).hp bor))=some b/\b.map AV.p=vs.map a8
 |[],vs,_,h,_=>by cases h;simp
 |a::l,vs,c,h,hd=>by
  simp only[iY,r_,a_]at c;simp only[kZ]at h;split at h
  .rename_i v e;split at h;.rename_i us d;cases h;simp only[r_,a_]at hd;obtain⟨p,h1,h2⟩:=Mm c.1 e hd.1;obtain⟨b,f,g⟩:=Ig l us c.2 d hd.2;refine⟨p::b,?_,by grind⟩;grind
   grind
  grind
theorem NF{bor:Bool}(c:bor=true):∀(vs:List V) (a:List PV),((vs.map (zcm s.hp)).map aU).mapM BV.bF=some a->(vs.map aU).mapM (su (enc s).hp bor)=some a
 |[],a,h=>h
 |v::vs,a,h=>by
  simp only[n_,o_,B_,p_,L_]at h⊢;obtain⟨p,h1,d,h2,e⟩:=h;refine⟨p,?_,d,NF c vs d h2,e⟩;cases v<;>try exact JP h1
  rename_i id;show(if bor=true then Lg (enc s).hp id else none)=_;rw[if_pos c,Lg,bL];simp only[zcm]at h1;split at h1;.rename_i b;rw[b];exact h1
  .rename_i b;rw[b];exact h1
  .cases h1
theorem ZY{bor:Bool}{a:Arg×X}{v:V}(b:a.2.wf=true)(h:zb4 s bor a=some v)(hd:v.rJ=true):∃p,((enc s).get a.2.er).bind (je (enc s).hp bor)=some p/\AV.p p=a8 v:=by
 simp only[zb4]at h;split at h;.grind[Mm]
 .split at h
  .rename_i t vs e c;obtain⟨f,h⟩:=aZ h;split at h;.rename_i x d;cases h;refine⟨aM t x,?_,rfl⟩;rw[aG b c];have:=eC d;obtain⟨g,h1,h2⟩:=d_.1 this;show((vs.map aU).mapM (su (enc s).hp bor)).map PV.agg=_;grind[NF]
   grind
  grind
theorem Mr{bor:Bool}:∀(l:List (Arg×X)) (vs:List V),iY l=true->If s bor l=some vs->vs.all V.rJ=true->∃b,(l.map λa=>a.2.er).mapM (λx=>((enc s).get x).bind (je (enc s).hp bor))=some b/\b.map AV.p=vs.map a8
 |[],vs,_,h,_=>by cases h;simp
 |a::l,vs,c,h,hd=>by
  simp only[iY,r_,a_]at c;simp only[If]at h;split at h
  .rename_i v e;split at h;.rename_i us d;cases h;simp only[r_,a_]at hd;obtain⟨p,h1,h2⟩:=ZY c.1 e hd.1;obtain⟨b,f,g⟩:=Mr l us c.2 d hd.2;refine⟨p::b,?_,by grind⟩;grind
   grind
  grind
theorem SZ(hO:cx P O){bor:Bool}{f:FuncId}{args:List (Arg×X)}{sh:Sh}(e:iY args=true/\sh.zB=true)(h:aY O d (.call bor f args sh) s κ kp=some r): Pu P s (.call bor (f%10000) (args.map λa=>a.2.er)) d κ r:=by
 simp only[aY]at h;split at h
 .rename_i ars n;obtain⟨h1,h2⟩:=aZ h;simp only[a_]at h1;obtain⟨c,hc,p⟩:=cP h2;obtain⟨w,j,l⟩:=Mr args ars e.1 n h1.1.1;obtain⟨g,x⟩:=te hO e.2 hc;rw[<-l]at g;refine⟨_,⟨w,j,g.mono λo u=>⟨_,_,u,?_,λy=>(x ?_).1,rfl⟩⟩,p⟩;.rw[<-nE];refine Tg (iO _ _ _ λk v b=>?_);rw[base_nil]at b;have:=aH_.1 h1.1.2;rw[this]at b;cases b
  grind
 grind
theorem Oh(hO:cx P O){bor:Bool}{num:Nat}{x:X}{args:List (Arg×X)}{sh:Sh}(b:x.wf=true/\iY args=true/\ez P (num%10000)=true/\sh.zB=true)(h:aY O d (.im bor num x args sh) s κ kp=some r): Pu P s (.im bor x.er (args.map λa=>a.2.er)) d κ r:=by
 simp only[aY]at h;split at h
 .rename_i f cs ars z p;obtain⟨h1,h2⟩:=aZ h;simp only[a_]at h1;obtain⟨c,hc,w⟩:=cP h2;have u:=b_ h1.1.1.1;subst u;obtain⟨g,l,n⟩:=Ig args ars b.2.1 p h1.1.1.2;obtain⟨j,A⟩:=te hO b.2.2.2 hc;have hcs:(ars++cs.map λc=>V.dp c.1 c.2).map a8=(g++cs.map λc=>PV.BS (aM c.1 c.2)).map AV.p:=by rw[v_,v_,n,j_,j_];rfl
  rw[hcs]at j;refine⟨_,⟨_,aG b.1 z,num%10000,cs.map λc=>PV.BS (aM c.1 c.2),rfl,b.2.2.1,g,l,j.mono λo y=>⟨_,_,y,?_,λB=>(A ?_).1,rfl⟩⟩,w⟩;.rw[<-nE];refine Tg (iO _ _ _ λk v e=>?_);rw[base_nil]at e;have:=aH_.1 h1.1.2;rw[this]at e;cases e
  grind
 grind
theorem Pg.refl(a:St):Pg a a:=⟨λ_ y H=>⟨y,H,.refl y⟩,rfl,λi x y I E=>by rw[I]at E;cases E;exact .refl x⟩
def Ph(P:Program)(s:S)(op:fh)(d:Option Nat)(κ kp:S->Option R)(r:R):Prop:=
 cH P d op (enc s) (λa=>∃s',Pg a (enc s')/\aT (gm d) s s'/\κ s'=some r) (λa=>∃s',a=enc s'/\aT (gm d) s s'/\kp s'=some r)
def Ox(P:Program)(s:S)(op:fh)(d:Option Nat)(κ kp:S->Option R)(r:R):Prop:=
 cH P d op (enc s) (λa=>∃s',a=enc s'/\aT (gm d) s s'/\κ s'=some r) (λa=>∃s',a=enc s'/\aT (gm d) s s'/\kp s'=some r)
theorem Ox.ob{op:fh}(h:Ox P s op d κ kp r):Ph P s op d κ kp r:=oo h (λ_ ⟨s',h1,h2,E⟩=>⟨s',by rw[h1];exact .refl _,h2,E⟩) λ_ h=>h
theorem m6{st:St}{op:fh}{x:AV}{K KP:St->Prop}(hs:jp P st op λy=>y=x)(a:K (st.aE d x)):cH P d op st K KP:=by
 have h1:jp P st op λy=>K (st.aE d y):=zi hs λy b=>by grind
 unfold cH;split<;>first|exact h1|exact hs.elim
theorem Pu.ox{op:fh}(h:Pu P s op d κ r):Ox P s op d κ kp r:=by obtain⟨v,h1,h2⟩:=h;exact m6 h1 ⟨_,(gF _ _ _).symm,aT.put s d v,h2⟩
theorem Pu.ob{op:fh}(h:Pu P s op d κ r):Ph P s op d κ kp r:=by obtain⟨v,h1,h2⟩:=h;exact m6 h1 ⟨_,by rw[gF];exact .refl _,aT.put s d v,h2⟩
theorem tv(s:S)(o:Ob):enc ⟨s.fr,s.hp++[o]⟩={enc s with hp:=(enc s).hp++[bT o]}:=by simp[enc]
theorem gR(s:S)(id:Nat)(o:Ob):enc ⟨s.fr,setAt s.hp id o⟩={enc s with hp:=(enc s).hp.set id (bT o)}:=by simp[enc,eV]
theorem mB(s:S):(enc s).hp.length=s.hp.length:=by simp[enc]
theorem uM{o:Ob}{o':aL}{x:BV}{v:V}(a:bT o=o')(b:a8 v= .b x)(h:κ (S.aE ⟨s.fr,s.hp++[o]⟩ d v)=some r): ∃s',Pg (({enc s with hp:=(enc s).hp++[o']}:St).aE d (.b x)) (enc s')/\aT (gm d) s s'/\κ s'=some r:=by refine⟨_,?_,(aT.fr (s':=⟨s.fr,s.hp++[o]⟩) rfl).trans (aT.put _ d v),h⟩;rw[gF,tv,a,b];exact .refl _
theorem SO{o:Ob}{o':aL}{x:BV}{v:V}(a:bT o=o')(b:a8 v= .b x)(h:κ (S.aE ⟨s.fr,s.hp++[o]⟩ d v)=some r): ∃s',(({enc s with hp:=(enc s).hp++[o']}:St).aE d (.b x))=enc s'/\aT (gm d) s s'/\κ s'=some r:=by refine⟨_,?_,(aT.fr (s':=⟨s.fr,s.hp++[o]⟩) rfl).trans (aT.put _ d v),h⟩;grind[gF,tv]
theorem XM{tid:TypeId}{zero:List V}(a:zero.all V.EZ=true)(h:aY O d (.alloc tid zero) s κ kp=some r):Ph P s (.alloc tid (zero.map y8)) d κ kp r:=by
 refine uM ?_ ?_ h;.show aL.box tid (zero.map aU)=aL.box tid ((zero.map y8).map λv=>bG v);grind[k_,uH]
 .rw[mB];rfl
theorem zcz{tid:TypeId}{x:X}(b:x.wf=true)(h:aY O d (.box tid x) s κ kp=some r):Ph P s (.box tid x.er) d κ kp r:=by
 simp only[aY]at h;split at h
 .rename_i v c;obtain⟨h1,h2⟩:=aZ h;obtain⟨a,e⟩:=rS h1;refine⟨_,aG b c,a,uM ?_ ?_ h2⟩;.show aL.box tid _=_;grind
  .rw[mB];rfl
 grind
theorem UV{tid:TypeId}{t:Ty}{len:Nat}{parts:List X}(c:parts.all X.wf=true)(h:aY O d (.bI true tid t len parts) s κ kp=some r):Ph P s (.bI true tid t.sz len (parts.map X.er)) d κ kp r:=by
 obtain⟨h1,h2⟩:=aZ h;simp only[a_]at h1;obtain⟨xs,a,e,b⟩:=mb parts _ c h2;refine⟨_,a,?_,c_ h1.1.2,c_ h1.2,jh xs,uM rfl ?_ b⟩;.grind[b_]
 .rw[mB];rfl
theorem UX{tid:TypeId}{t:Ty}{bytes:Nat}{l c:X}(b:l.wf=true/\c.wf=true/\t≠.rx)(h:aY O d (.cO tid t bytes l c) s κ kp=some r):Ph P s (.cO tid t.sz bytes (m9 t) l.er c.er) d κ kp r:=by
 obtain⟨h1,h2⟩:=aZ h;obtain⟨p,l',hl,e⟩:=fA h2;obtain⟨u,n,hc,f⟩:=fA e;obtain⟨a,g⟩:=bE f;simp only[a_,decide_eq_true_eq]at a;obtain⟨j,k⟩:=Pd t b.2.2;refine⟨_,aG b.1 hl,_,aG b.2.1 hc,_,rfl,_,rfl,_,_,rfl,_,_,rfl,a.1.1.1,a.1.1.2,a.1.2,a.2,k,c_ h1,_,j,wl t _,uM ?_ ?_ g⟩;.show aL.vec tid t.sz _=_;simp
 .rw[mB];rfl
theorem Qz{tid:TypeId}{k:Av.K}{u:Ty}{bytes:Nat}{l c:X}(b:l.wf=true/\c.wf=true)(h:aY O d (.dE tid k u bytes l c) s κ kp=some r):Ph P s (.dE k tid 1 bytes (.slice none 0 0) l.er c.er) d κ kp r:=by
 obtain⟨h1,h2⟩:=aZ h;obtain⟨n,l',hl,e⟩:=fA h2;obtain⟨p,j,hc,f⟩:=fA e;obtain⟨a,g⟩:=bE f;simp only[a_,decide_eq_true_eq]at a;have hn:k.yJ vu.cells=true:=by grind[Av.K.yJ,vu,PV.cells]
 refine⟨_,aG b.1 hl,_,aG b.2 hc,_,rfl,_,rfl,_,_,rfl,_,_,rfl,a.1.1.1,a.1.1.2,a.1.2,a.2,rfl,Nat.one_pos,vu,rfl,rfl,hn,uM ?_ ?_ g⟩
 .show aL.tree tid 1 k _ none=_;rw[List.map_replicate];have:k.gZ vu= .list 0 []:=by grind[Av.K.gZ,vu]
  rw[this];rfl
 .rw[mB];rfl
theorem Rh{k:Av.K}{t:Ty}{y:t.den}(h:zcB k (gz t y)=true):k.gZ (dz k t y)=aM t y:=by
 have key:∀(j:Nat) (p:PV),(aM t y).cells[j]? =some p->(k.at j).isSome=true->p= .list 0 []:=by
  intro j p hp a;obtain⟨h1,h2⟩:=dO t y;have d:j<(gz t y).length:=by grind[aQ]
  simp only[zcB,e_,V_]at h;have b:=h j d;obtain⟨q,r⟩:=am_.1 a;rw[r]at b;simp only[aQ_,g_ d,ap_]at b;have c:((gz t y).map aU)[j]? =some (.pv p):=by grind
  rw[m_,g_ d]at c;split at b
  .rename_i u l s;rw[s]at c;have hl:l=[]:=by simpa using b
   subst hl;have g:=av_ c;have n:(BV.pv (aM (.list u) []))= .pv p:=g;cases n;rfl
  .cases b
 unfold dz;cases e:aM t y with
 |agg cs=>
  simp only[Av.K.gZ,PV.agg.injEq];apply ag_;intro j;simp only[ax_];cases hc:cs[j]? with
  |none=>rfl|some p=>
   simp only[aa_];cases a:(k.at j).isSome;.rfl
   .rw[key j p (by rw[e];exact hc) a];rfl
 |_=>
  have f:=key 0 _ (by rw[e];rfl);simp only[];cases a:(k.at 0).isSome;.grind[Av.K.gZ]
  .simp only[if_true,Av.K.gZ,vu,a];exact(f a).symm
theorem UR(k:Av.K)(t:Ty)(y:t.den):k.yJ (dz k t y).cells=true:=by
 simp only[Av.K.yJ,e_,V_];intro j a;split;.rename_i q b;rw[Ee]at a⊢;simp only[List.length_mapIdx]at a;simp only[aQ_,ax_,g_ a,aa_,ap_,b,aA_,if_true,vu]
 simp
theorem SL{tid:TypeId}{k:Av.K}{t:Ty}{bytes:Nat}{x y:X}(j:x.wf=true/\y.wf=true)(h:aY O d (.pN tid k t bytes x y) s κ kp=some r):Ox P s (.pN k tid t.sz bytes x.er y.er) d κ kp r:=by
 simp only[aY]at h;split at h
 .rename_i k' u B C;obtain⟨hk,l⟩:=aZ h;clear h;have n:k=k':=by grind
  subst n;split at l
  .rename_i ys hc;obtain⟨D,E⟩:=bP hc;have F:=Ty.list.inj D;subst F;have H:ys=B:=E;subst H;obtain⟨c,h1⟩:=aZ l;clear l;simp only[e_]at c;have b:∀p∈ys.map (dz k u),p.ok=true/\k.yJ p.cells=true:=λp hp=>⟨(Ir ys p hp).2,by obtain⟨z,_,rfl⟩:=s_.1 hp;simp[UR]⟩
   have f:(ys.map (dz k u)).map k.gZ=ys.map (aM u):=by grind[j_,k_,Rh]
   split at h1
   .rename_i id w;split at h1
    .rename_i e k2 a A U;split at h1
     .rename_i xs hz;obtain⟨I,J⟩:=bP hz;have L:=Ty.list.inj I;subst L;have M:xs=A:=J;subst M;obtain⟨g,N⟩:=aZ h1;simp only[a_,decide_eq_true_eq]at g;obtain⟨g,rfl⟩:=g;obtain⟨g3,Q⟩:=bE N;have R:=b_ g;subst R;refine⟨_,aG j.1 w,_,aG j.2 C,.inr (.inl ⟨ys.map (dz k a),rfl,b,.inl ⟨id,rfl,_,by rw[bL,U];rfl,_,rfl,by grind,_,?_,(aT.map (gm d) s (s.fC id (.tree e k a (xs++ys) none)) (V.yt id) (λv Y=>by cases v<;>first|rfl|cases Y) rfl).trans (aT.put _ d _),Q⟩⟩)⟩
      rw[gF,Aj,f];have:bT (.tree e k a (xs++ys) none)= .tree e a.sz k (xs.map (aM a)++ys.map (aM a)) none:=by show aL.tree e a.sz k ((xs++ys).map (aM a)) none=_;simp
      rw[this];rfl
     grind
    grind
   .rename_i v w;obtain⟨h3,T⟩:=bE h1;refine⟨_,aG j.1 w,_,aG j.2 C,.inr (.inl ⟨ys.map (dz k u),rfl,b,.inr ⟨rfl,by grind,SO (o:=.tree tid k u ys none) ?_ ?_ T⟩⟩)⟩;.rw[f];rfl
    .rw[mB];rfl
   grind
  grind
 grind
theorem XP{k e:TypeId}{a b:Ty}(h:aY O d (.ir k e a b) s κ kp=some r):Ph P s (.ir k e) d κ kp r:=by refine uM rfl ?_ h;rw[mB];rfl
theorem IW{tid:TypeId}{t:Ty}{bytes:Nat}{x y:X}(c:x.wf=true/\y.wf=true)(h:aY O d (.append tid t bytes x y) s κ kp=some r):Ox P s (.append tid t.sz bytes x.er y.er) d κ kp r:=by
 simp only[aY]at h;obtain⟨J,ys,g,h1,h2⟩:=kz h;have a:∀v:V,s.get x=some v->a8 v= .b .oZ\/a8 v= .b (.full (.list 0 []))->bU (decide (ys.length*bytes<=140737488355328)) (κ (S.aE ⟨s.fr,s.hp++[.vec tid t ys]⟩ d (.sl s.hp.length)))=some r->Ox P s (.append tid t.sz bytes x.er y.er) d κ kp r:=by intro v b f D;obtain⟨I,C⟩:=bE D;refine⟨_,aG c.1 b,_,aG c.2 g,h2 _ ⟨λp hp=>(jh ys p hp).2,.inr ⟨f,by grind,SO (o:=.vec tid t ys) rfl ?_ C⟩⟩⟩;rw[mB];rfl
 split at h1
 .rename_i id b;split at h1
  .rename_i e u xs E;split at h1
   .rename_i zs F;obtain⟨j,k⟩:=bP F;have l:=Ty.list.inj j;subst l;have n:zs=xs:=k;subst n;obtain⟨w,z⟩:=aZ h1;obtain⟨H,A⟩:=bE z;have B:=b_ w;subst B;refine⟨_,aG c.1 b,_,aG c.2 g,h2 _ ⟨λp hp=>(jh ys p hp).2,.inl ⟨id,rfl,_,by rw[bL,E];rfl,_,rfl,by grind,_,?_,(aT.map (gm d) s (s.fC id (.vec e u (zs++ys))) (V.yt id) (λv f=>by cases v<;>first|rfl|cases f) rfl).trans (aT.put _ d _),A⟩⟩⟩
    rw[gF,Aj];have:bT (.vec e u (zs++ys))= .vec e u.sz (zs.map (aM u)++ys.map (aM u)):=by show aL.vec e u.sz ((zs++ys).map (aM u))=_;simp
    rw[this];rfl
   grind
  grind
 .rename_i u b;exact a _ b (.inl rfl) h1
 .rename_i u b;exact a _ b (.inr rfl) h1
 grind
theorem UU{tid:TypeId}{t:Ty}{bytes:Nat}{x y:X}(a:x.wf=true/\y.wf=true)(h:aY O d (.append tid t bytes x y) s κ kp=some r):Ph P s (.append tid t.sz bytes x.er y.er) d κ kp r:=(IW a h).ob
theorem zaW{tid:TypeId}{t:Ty}{x y:X}(g:x.wf=true/\y.wf=true)(h:aY O d (.copy tid t x y) s κ kp=some r):Ph P s (.copy tid t.sz x.er y.er) d κ kp r:=by
 simp only[aY]at h;split at h
 .rename_i id v C D;obtain⟨F,h1⟩:=aZ h;obtain⟨H,ys,c,a,h2⟩:=kz h1;cases c;split at a
  .rename_i e u xs B;split at a
   .rename_i zs E;obtain⟨j,k⟩:=bP E;have l:=Ty.list.inj j;subst l;have n:zs=xs:=k;subst n;obtain⟨w,z⟩:=aZ a;have A:=b_ w;subst A;refine⟨_,aG g.1 C,_,aG g.2 D,h2 _ ⟨λp hp=>(jh ys p hp).2,id,rfl,λb=>?_,_,by rw[bL,B];rfl,_,rfl,_,?_,(aT.fr (s':=⟨s.fr,setAt s.hp id (.vec e u (ys.take zs.length++zs.drop ys.length))⟩) rfl).trans (aT.put _ d _),z⟩⟩
    .cases f:v.ID
     .rw[lc f]at b;cases v<;>simp only[a8,aU]at b<;>first|grind|skip
      all_goals grind[X_,bG]
     .cases v<;>first|(cases f;done)|cases b
    .rw[gF,gR];have:bT (.vec e u (ys.take zs.length++zs.drop ys.length))= .vec e u.sz ((ys.map (aM u)).take (zs.map (aM u)).length++(zs.map (aM u)).drop (ys.map (aM u)).length):=by show aL.vec e u.sz _=_;simp
     rw[this,u_,u_];exact .refl _
   grind
  grind
 grind
theorem XQ{x:X}(a:x.wf=true)(h:aY O d (.panic x) s κ kp=some r):Ph P s (.panic x.er) d κ kp r:=by
 simp only[aY]at h;split at h;.rename_i b;exact⟨_,aG a b,rfl,s,rfl,aT.refl _ _,h⟩
 grind
theorem N9(hO:cx P O){jG bor:Bool}{B:List Nat}{f:FuncId}{args:List (Arg×X)}{sh:Sh}(b:iY args=true/\sh.zB=true)(h:aY O d (.gP jG bor B f args sh) s κ kp=some r): Ox P s (.gP bor B (f%10000) (args.map λa=>a.2.er)) d κ kp r:=by
 simp only[aY]at h;split at h;.rename_i ars c;obtain⟨os,_,h1,h2,e⟩:=xJ hO b.2 h;refine⟨_,q7 args ars b.1 c h2,_,h1,?_⟩;omega
 grind
theorem XN(hO:cx P O){jG bor:Bool}{B:List Nat}{f:FuncId}{args:List (Arg×X)}{sh:Sh}(b:iY args=true/\sh.zB=true)(h:aY O d (.gP jG bor B f args sh) s κ kp=some r): Ph P s (.gP bor B (f%10000) (args.map λa=>a.2.er)) d κ kp r:=(N9 hO b h).ob
theorem Oa(hO:cx P O){jG bor:Bool}{B:List Nat}{num:Nat}{x:X}{args:List (Arg×X)}{sh:Sh}(j:x.wf=true/\iY args=true/\ez P (num%10000)=true/\sh.zB=true)(h:aY O d (.fw jG bor B num x args sh) s κ kp=some r): Ox P s (.fw bor B x.er (args.map λa=>a.2.er)) d κ kp r:=by
 have fin:∀(f:FuncId) (ars caps:List V),i_ (num%10000) f=true->kZ s bor B args=some ars->wg jG O s d bor B num (ars++caps) sh κ kp=some r->ez P f=true/\aR ((args.map λa=>a.2.er).mapM λx=>((enc s).get x).bind (ny (enc s).hp bor B)) λp=>aR (B.mapM ((enc s).hp[·]?)) λos=>cH.callK P (enc s) d bor B f (p++caps.map a8) os (λb=>∃s',b=enc s'/\aT (gm d) s s'/\κ s'=some r) (λb=>∃s',b=enc s'/\aT (gm d) s s'/\kp s'=some r):=by
  intro f ars caps u g hc
  have l:=b_ u
  subst l
  obtain⟨os,_,h1,h2,w⟩:=xJ hO j.2.2.2 hc
  refine⟨j.2.2.1,_,q7 args ars j.2.1 g λv y=>h2 v (by grind),_,h1,?_⟩
  grind
 simp only[aY]at h;split at h;.rename_i f ids ars n g;obtain⟨h1,h2⟩:=aZ h;obtain⟨k,e⟩:=fin f ars _ h1 g h2;refine⟨_,aG j.1 n,f,_,.inl ⟨ids,rfl,rfl⟩,k,?_⟩;rw[j_]at e;exact e
 .rename_i f cs ars n g;obtain⟨h1,h2⟩:=aZ h;obtain⟨k,e⟩:=fin f ars _ h1 g h2;refine⟨_,aG j.1 n,f,_,.inr ⟨cs.map λc=>PV.BS (aM c.1 c.2),rfl,rfl⟩,k,?_⟩;rw[j_]at e⊢;exact e
 grind
theorem XO(hO:cx P O){jG bor:Bool}{B:List Nat}{num:Nat}{x:X}{args:List (Arg×X)}{sh:Sh}(b:x.wf=true/\iY args=true/\ez P (num%10000)=true/\sh.zB=true)(h:aY O d (.fw jG bor B num x args sh) s κ kp=some r): Ph P s (.fw bor B x.er (args.map λa=>a.2.er)) d κ kp r:=(Oa hO b h).ob
theorem U3:∀(t:Ty) (x:t.den),t.Eh=true->(aM t x).plain=true:=by
 have hc:∀(t:Ty) (x:t.den),t.Eh=true->(aN t x).all (λx=>match x with
  | .sc (.int _ _)=>true
  | .sc (.bool _)=>true
  | .sc (.string _)=>true
  |_=>false)=true:=by
  intro t
  induction t with|pair a b c d=>intro x h;simp only[Ty.Eh]at h;have e:aN (.pair a b) x=aN a x.1++aN b x.2:=rfl;grind|int k=>intro x _;rfl|bool=>intro x _;rfl|str=>intro x _;rfl|unit=>intro x _;rfl|list t _=>intro x h;cases h|rx=>intro x h;cases h
 intro t x h;cases t with|pair a b=>exact hc (.pair a b) x h|int k=>rfl|bool=>rfl|str=>rfl|unit=>rfl|list t=>cases h|rx=>cases h
theorem IE{a b:Ty}(y:a.den)(z:b.den):∀(kvs:List (a.den×b.den)),(di a b kvs y=none->fe a b kvs y z=kvs++[(y,z)])/\
 (∀j d v,kvs[j]? =some (d,v)->hZ a y d=true->(∀i' g,i'<j->kvs[i']? =some g->hZ a y g.1=false)->fe a b kvs y z=kvs.set j (y,z))
 |[]=>⟨λ_=>rfl,λj d v h=>by grind⟩
 |(k,v)::l=>by
  obtain⟨h1,h2⟩:=IE y z l;refine⟨λh=>?_,λj d p f n e=>?_⟩
  .simp only[di]at h;cases c:hZ a y k;.rw[c]at h;simp only[fe,c,cond_false,h1 h,List.cons_append]
   grind
  .cases j with
   |zero=>simp at f;obtain⟨rfl,rfl⟩:=f;grind[fe]
   |succ j=>have c:=e 0 (k,v) (by simp) rfl;simp only[fe,c,cond_false,List.set_cons_succ];grind
theorem UW{k e:TypeId}{a b:Ty}{m x v:X}(g:m.wf=true/\x.wf=true/\v.wf=true/\wF P 64 k a=true)(h:aY O d (.ic k e a b m x v) s κ kp=some r):Ph P s (.ic k e m.er x.er v.er) d κ kp r:=by
 simp only[aY]at h;split at h
 .rename_i id u w hm hx hv;split at h
  .rename_i k' e' f b' kvs y z ho hy hz;split at h
   .rename_i c A;obtain⟨h1,h2⟩:=aZ h;simp only[a_]at h1;have E:=b_ h1.1.1.1;have F:=b_ h1.1.1.2;have n:=h1.1.2;obtain⟨H,I⟩:=bP A;have J:=Ty.list.inj H;injection J with L M;clear h h1;subst E;subst F;subst L;subst M;have N:c=kvs:=I;subst N;obtain⟨_,Y⟩:=bE h2;obtain⟨Q,R⟩:=EO (P:=P) (b:=b') g.2.2.2 y c 0;obtain⟨q1,q2⟩:=IE y z c;have fin:∀l:List (PV×PV),(fe f b' c y z).map (λp=>(aM f p.1,aM b' p.2))=l->∃s',Pg {enc s with hp:=(enc s).hp.set id (.map k e l)} (enc s')/\aT (gm none) s s'/\κ s'=some r:=by rintro l rfl;refine⟨⟨s.fr,setAt s.hp id (.map k e f b' (fe f b' c y z))⟩,?_,aT.fr rfl,Y⟩;rw[gR];exact .refl _
    refine⟨_,aG g.1 hm,_,aG g.2.1 hx,_,aG g.2.2.1 hv,id,_,rfl,by rw[bL,ho];rfl,_,eC hy,_,eC hz,rfl,U3 f y n,(Kx P 64 k f g.2.2.2 y y).2,NA g.2.2.2,Q,?_⟩;rcases R with⟨T,C⟩|⟨j,u',B,T,C,U,g7,D⟩;.refine⟨_,C,λi u hh=>(by grind),fin _ ?_⟩;grind
    .have hk:=J4 f y B n U;subst hk;rw[ab_]at D;refine⟨_,D,λi u hh=>?_,fin _ ?_⟩;all_goals grind[aM,Q_]
   grind
  grind
 grind
end
theorem mo{α:Type}(xs ys:List α)(h:xs.length=ys.length):splice xs 0 ys=ys:=by simp[splice,<-h]
def g8:∀(u:Ty) (off:Nat) (t:Ty) (x:u.den) (y:t.den) (z:u.den),kJ u off t x y=some z->off+t.sz<=u.sz/\aN u z=splice (aN u x) off (aN t y)/\(u.ag=false->t=u)
 | .pair a b,off,t,x,y,z,h=>by
  have g:=aQ a x.1
  have s:=aQ b x.2
  have w:=aQ t y
  have hc:∀x:(Ty.pair a b).den,aN (.pair a b) x=aN a x.1++aN b x.2:=λ_=>rfl
  unfold kJ at h
  cases d:(decide (Ty.pair a b=t)&&i_ off 0)
  .rw[d]at h
   simp only[cond_false]at h
   cases e:J_ (off+1) a.sz
   .rw[e]at h
    simp only[cond_false]at h
    have r:a.sz<=off:=by
     have:=Nat.not_le_of_not_ble_eq_true (by rw[e];simp)
     omega
    split at h
    .rename_i B h2
     cases h
     obtain⟨p,n,_⟩:=g8 b (off - a.sz) t x.2 y B h2
     refine⟨by grind[Ty.sz],?_,λh=>by cases h⟩
     rw[hc,hc,n]
     simp only[splice]
     rw[aK_,W_ (l:=aN a x.1) (by omega),g,aE_,ar_ (show(aN a x.1).length<=off+(aN t y).length by omega),g]
     grind
    grind
   .rw[e]at h
    simp only[cond_true]at h
    have v:=c_ e
    split at h
    .rename_i A h1
     cases h
     obtain⟨p,n,_⟩:=g8 a off t x.1 y A h1
     refine⟨by grind[Ty.sz],?_,λh=>by cases h⟩
     grind[splice]
    grind
  .rw[d]at h
   simp only[cond_true]at h
   simp only[a_,decide_eq_true_eq]at d
   have f:off=0:=b_ d.2
   subst f
   obtain⟨j,rfl⟩:=bJ h
   grind[mo,aQ]
 | .rx,off,t,x,y,z,h=>by
  unfold kJ at h
  obtain⟨h1,h2⟩:=aZ h
  simp only[a_,decide_eq_true_eq]at h1
  have f:off=0:=b_ h1.1
  subst f
  obtain⟨j,rfl⟩:=bJ h2
  refine⟨by simp,?_,λ_=>rfl⟩
  grind[mo,aQ]
 | .int k,off,t,x,y,z,h=>c (.int k) off t x y z h
 | .bool,off,t,x,y,z,h=>c .bool off t x y z h
 | .str,off,t,x,y,z,h=>c .str off t x y z h
 | .list a,off,t,x,y,z,h=>c (.list a) off t x y z h
 | .unit,off,t,x,y,z,h=>c .unit off t x y z h
where
 c (u:Ty) (off:Nat) (t:Ty) (x:u.den) (y:t.den) (z:u.den) (h:(bif i_ off 0 then bA t u y else none)=some z):off+t.sz<=u.sz/\aN u z=splice (aN u x) off (aN t y)/\(u.ag=false->t=u):=by
  obtain⟨h1,h2⟩:=aZ h
  have f:off=0:=b_ h1
  subst f
  obtain⟨j,rfl⟩:=bJ h2
  refine⟨by simp,?_,λ_=>rfl⟩
  grind[mo,aQ]
def xW{t:Ty}{x y:t.den}(h:aN t x=aN t y):aM t x=aM t y:=by cases ht:t.ag;all_goals grind[eR,eQ]
def P4{t:Ty}{v:V}{x:t.den}(h:cr t v=some x):(a8 v).cells.length=t.sz/\∀(i:Nat) (a b:BV),(a8 v).cells[i]? =some a->((aN t x).map BV.pv)[i]? =some b->L6 a b:=by
 have hd:=eC h
 have one:∀(z:BV),(∀p,z≠.pv p)->z.bF=some (aM t x)->t.ag=false->([z]:List BV).length=t.sz/\∀(i:Nat) (a b:BV),([z]:List BV)[i]? =some a->((aN t x).map BV.pv)[i]? =some b->L6 a b:=by
  intro z _ r ht
  refine⟨by grind[fN],λi a b g f=>?_⟩
  rw[eR x ht]at f
  cases i with
  |zero=>simp at g f;subst g;subst f;exact .data _ _ r
  |succ i=>grind
 cases v with
 |d u y=>
  obtain⟨k,rfl⟩:=bJ (show bA u t y=some x from h)
  refine⟨?_,λi a b g f=>?_⟩
  .show((aN u y).map BV.pv).length=_
   rw[u_,aQ]
  .have c:((aN u y).map BV.pv)[i]? =some a:=g
   have:aN u y=aN u x:=by grind
   rw[this,f]at c
   cases c
   exact .refl _
 |agg vs=>
  have j:((vs.map aU).mapM BV.bF).map PV.agg=some (aM t x):=hd
  obtain⟨cs,h1,h2⟩:=d_.1 j
  have n:t.ag=true:=by rw[<-lR t x,<-h2];rfl
  have hcs:cs=aN t x:=by grind[eQ]
  subst hcs
  have hl:=mapM_len h1
  refine⟨by show(vs.map aU).length=_;grind[aQ],λi a b g f=>?_⟩
  have c:(vs.map aU)[i]? =some a:=g
  rw[m_]at f
  obtain⟨p,hp,rfl⟩:=d_.1 f
  exact .data _ _ (yB h1 c hp)
 |nil u=>
  obtain⟨k,rfl⟩:=bJ (show bA (.list u) t []=some x from h)
  exact one .oZ (λp e=>by grind) hd rfl
 |full u y=>
  obtain⟨k,rfl⟩:=bJ (show bA (.list u) t y=some x from h)
  exact one (.full _) (λp e=>by grind) hd rfl
 |_=>grind[cr,iD]
where
 yB {l:List BV} {m:List PV} (h:l.mapM BV.bF=some m) {i:Nat} {a:BV} {p:PV} (g:l[i]? =some a) (hp:m[i]? =some p):a.bF=some p:=by
  induction l generalizing m i with
  |nil=>grind
  |cons x l s=>
   simp only[o_,B_,L_,p_,h_]at h
   grind
def UK{l:List BV}{m:List PV}(h:l.mapM BV.bF=some m){i:Nat}{a:BV}{p:PV}(b:l[i]? =some a)(hp:m[i]? =some p):a.bF=some p:=by induction l generalizing m i with|nil=>grind|cons x l c=>simp only[o_,B_,p_]at h;grind
def Ry(xs ys:List BV):Prop:=xs.length=ys.length/\∀(i:Nat) (a b:BV),xs[i]? =some a->ys[i]? =some b->L6 a b
def Ry.refl(xs:List BV):Ry xs xs:=⟨rfl,λi a b H E=>by rw[H]at E;cases E;exact .refl _⟩
def Ry.append{a b c e:List BV}(h:Ry a b)(k:Ry c e):Ry (a++c) (b++e):=by
 refine⟨by simp[h.1,k.1],λi x y E H=>?_⟩;rcases aT_ i a.length with h1|h1;.rw[C_ h1]at E;rw[C_ (by rw[<-h.1];omega)]at H;exact h.2 i x y E H
 .rw[N_ h1]at E;rw[N_ (by rw[<-h.1];omega),<-h.1]at H;exact k.2 _ x y E H
def Wl{t:Ty}{l:List V}{x:t.den}{m:List V}(h:PH t l=some (x,m)):∃c,l=c++m/\c.length=t.sz/\Ry (c.map aU) ((gz t x).map aU):=by obtain⟨c,h1,h2⟩:=uo t l x m h;have hl:=mapM_len h2;rw[u_,aQ]at hl;refine⟨c,h1,hl.symm,by grind[dO],λi a b e d=>?_⟩;rw[(dO t x).1,m_]at d;obtain⟨p,hp,rfl⟩:=d_.1 d;exact .data _ _ (UK h2 e hp)
def F5{t:Ty}{y:t.den}:∀(n:Nat) (vs:List V) (m:Int) (r:List V),(m<0\/(n:Int)<=m)->xd t y n vs m=some r->Ry (vs.map aU) (r.map aU)
 |0,vs,m,r,_,h=>by simp only[xd,h_]at h;subst h;exact .refl _
 |n+1,vs,m,r,c,h=>by
  simp only[xd]at h;split at h
  .rename_i x l a;split at h;.rename_i b hr;cases h;obtain⟨d,rfl,h1,h2⟩:=Wl a;rw[decide_eq_false (by omega:¬m=0)];simp only[cond_false,v_];exact h2.append (F5 n l (m - 1) b (by omega) hr)
   grind
  grind
def I7{t:Ty}{y:t.den}{cs:List BV}(hcs:Ry cs ((gz t y).map aU)):∀(n:Nat) (vs:List V) (j:Nat) (r:List V),j<n->xd t y n vs (j:Int)=some r->
 j*t.sz+t.sz<=vs.length/\Ry (splice (vs.map aU) (j*t.sz) cs) (r.map aU)
 |0,_,_,_,d,_=>absurd d (by simp)
 |n+1,vs,j,r,d,h=>by
  have k:cs.length=t.sz:=by rw[hcs.1,u_,(dO t y).2]
  simp only[xd]at h;split at h
  .rename_i x l p;split at h
   .rename_i f hr;cases h;obtain⟨a,rfl,h1,h2⟩:=Wl p;cases j with
    |zero=>
     refine⟨by grind,?_⟩;have e:(decide (((0:Nat):Int)=0))=true:=rfl;rw[e];simp only[cond_true,v_];have:=F5 n l _ f (.inl (by simp)) hr;have c:splice (a.map aU++l.map aU) (0*t.sz) cs=cs++l.map aU:=by simp only[splice,Nat.zero_mul,aP_,aL_,ab_];grind
     rw[c];exact hcs.append this
    |succ j=>
     have e:(decide (((j+1:Nat):Int)=0))=false:=decide_eq_false (by omega);rw[e];rw[show(((j+1:Nat):Int) - 1)=(j:Int) by simp]at hr;obtain⟨s,g⟩:=I7 hcs n l j f (by omega) hr;refine⟨by grind,?_⟩;simp only[cond_false,v_];have b:(a.map aU).length=t.sz:=by grind
     have c:splice (a.map aU++l.map aU) ((j+1)*t.sz) cs=a.map aU++splice (l.map aU) (j*t.sz) cs:=by simp only[splice,Nat.succ_mul];rw[aK_,W_ (l:=a.map aU) (by omega),b,aE_,ar_ (show(a.map aU).length<=j*t.sz+t.sz+cs.length by omega),b];grind
     rw[c];exact h2.append g
   grind
  grind
theorem Vr{α:Type}(cs:List α)(off n k:Nat)(ys:List α)(h:off+n<=cs.length)(a:k+ys.length<=n):splice cs (off+k) ys=splice cs off (splice ((cs.drop off).take n) k ys):=by
 have hl:(((cs.drop off).take n).take k++ys++((cs.drop off).take n).drop (k+ys.length)).length=n:=by grind
 simp only[splice];rw[hl,List.take_take,Nat.min_eq_left (by omega),List.drop_take,List.take_add];simp;congr 3;rw[show off+k+ys.length=off+(k+ys.length) by omega];conv=>lhs;rw[<-List.take_append_drop (n - (k+ys.length)) (cs.drop (off+(k+ys.length)))]
 rw[aO_,show off+(k+ys.length)+(n - (k+ys.length))=off+n by omega]
section
variable {R:Type} {P:Program} {O:bh} {d:Option Nat} {s:S} {κ kp:S->Option R} {r:R}
theorem zaH{a:St}{id:Nat}{o o':aL}(h:V0 o o'):Pg {a with hp:=a.hp.set id o} {a with hp:=a.hp.set id o'}:=by
 refine⟨λ_ y e=>⟨y,e,.refl y⟩,by simp,λi x y b c=>?_⟩;simp only[aB_]at b c;split at b;.grind
 .rename_i d;rw[if_neg d,b]at c;cases c;exact .refl _
theorem XR{t:Ty}{x v:X}(g:x.wf=true/\v.wf=true)(h:aY O d (.store t x v) s κ kp=some r):Ph P s (.store t.sz x.er v.er) d κ kp r:=by
 simp only[aY]at h;cases d with
 |some _=>grind|none=>
  simp only at h;unfold storeT at h;split at h
  .rename_i id off l D C;split at h
   .rename_i tid cs A;obtain⟨h1,h2⟩:=aZ h;simp only[a_]at h1;obtain⟨c,F⟩:=rS h1.2;have U:=b_ h1.1.1;have h6:=c_ h1.1.2;refine⟨_,aG g.1 D,_,aG g.2 C,rfl,_,by rw[bL,A];rfl,tid,_,rfl,by grind,by grind,c,⟨s.fr,setAt s.hp id (.box tid (fS cs off (dc l)))⟩,?_,aT.fr rfl,h2⟩;rw[gR];have:bT (.box tid (fS cs off (dc l)))= .box tid (splice (cs.map aU) off (a8 l).cells):=by show aL.box tid _=_;rw[pH,F]
    rw[this];exact .refl _
   grind
  .rename_i id off n u m l D C;split at h
   .rename_i tid cs y A E;obtain⟨h1,h2⟩:=aZ h;simp only[a_,decide_eq_true_eq]at h1;obtain⟨⟨h1,rfl⟩,hsz⟩:=h1;have h6:=c_ h1;split at h2
    .rename_i vs Q;obtain⟨c,F⟩:=bE h2;simp only[a_,decide_eq_true_eq]at c;obtain⟨j,rfl⟩:=an_ c.1;have J:j<n:=by omega
     obtain⟨d1,Y⟩:=P4 E;have M:=R1 E;have L:=rS M;have hcs:Ry (a8 l).cells ((gz u y).map aU):=⟨by grind[u_,dO],λi a b ha hb=>Y i a b ha (by grind[dO])⟩;obtain⟨r1,r2⟩:=I7 hcs n _ j vs J Q;have el:j*u.sz+u.sz<=n*u.sz:=by grind
     refine⟨_,aG g.1 D,_,aG g.2 C,rfl,_,by rw[bL,A];rfl,tid,_,rfl,d1,?_,L.1,⟨s.fr,setAt s.hp id (.box tid (fS cs off vs))⟩,?_,aT.fr rfl,F⟩;.grind
     .rw[gR];refine zaH ?_;have I:splice (cs.map aU) (off+(j:Int).toNat*u.sz) (a8 l).cells=splice (cs.map aU) off (splice (((cs.drop off).take (n*u.sz)).map aU) (j*u.sz) (a8 l).cells):=by grind[Int.toNat_natCast,Y_,al_,Vr]
      show V0 (aL.box tid (splice (cs.map aU) (off+(j:Int).toNat*u.sz) (a8 l).cells)) (aL.box tid ((fS cs off vs).map aU));rw[I,pH];have key:Ry (splice (cs.map aU) off (splice (((cs.drop off).take (n*u.sz)).map aU) (j*u.sz) (a8 l).cells)) (splice (cs.map aU) off (vs.map aU)):=by unfold splice at r2⊢;rw[r2.1];exact((Ry.refl _).append r2).append (Ry.refl _)
      exact .box tid _ _ key.1 key.2
    grind
   grind
  .rename_i id i off l D C;split at h
   .rename_i e u xs y A E;obtain⟨h1,h2⟩:=aZ h;obtain⟨x0,f,c⟩:=cP h2;split at c
    .rename_i z R;obtain⟨T,p2,p3⟩:=g8 u off t x0 y z R;have H:=(l_.1 f).1;have B:(xs.map (aM u)).getD i .any=aM u x0:=by grind
     have fin:∀p,p=aM u z->∃s',Pg {enc s with hp:=(enc s).hp.set id (.vec e u.sz ((xs.map (aM u)).set i p))} (enc s')/\aT (gm none) s s'/\κ s'=some r:=by
      rintro p rfl;refine⟨⟨s.fr,setAt s.hp id (.vec e u (xs.set i z))⟩,?_,aT.fr rfl,c⟩;rw[gR];have:bT (.vec e u (xs.set i z))= .vec e u.sz ((xs.map (aM u)).set i (aM u z)):=by show aL.vec e u.sz _=_;simp
      rw[this];exact .refl _
     refine⟨_,aG g.1 D,_,aG g.2 C,rfl,_,by rw[bL,A];rfl,.inl ⟨e,_,_,rfl,by grind,_,eC E,aQ t y,wl t y,?_⟩⟩;by_cases hs:t.sz=u.sz
     .have N:u=t:=by simp only[K_,decide_eq_true_eq,z_]at h1;grind[X_]
      subst N;have h0:off=0:=by omega
      subst h0;refine .inl ⟨rfl,rfl,fin _ (xW ?_)⟩;grind[mo,aQ]
     .refine .inr ⟨hs,T,fin _ ?_⟩;grind[eQ]
    grind
   .rename_i e k u xs hole y A E;obtain⟨h1,h2⟩:=aZ h;simp only[a_]at h1;obtain⟨x0,f,c⟩:=cP h2;split at c
    .rename_i z R;obtain⟨T,p2,p3⟩:=g8 u off t x0 y z R;have H:=(l_.1 f).1;have B:(xs.map (aM u)).getD i .any=aM u x0:=by grind
     refine⟨_,aG g.1 D,_,aG g.2 C,rfl,_,by rw[bL,A];rfl,.inr ⟨e,_,k,_,_,rfl,by grind,T,.inl ⟨h1.1,by grind[lR],_,eC E,aQ t y,wl t y,⟨s.fr,setAt s.hp id (.tree e k u (xs.set i z) hole)⟩,?_,aT.fr rfl,c⟩⟩⟩;rw[gR,B];have:bT (.tree e k u (xs.set i z) hole)= .tree e u.sz k ((xs.map (aM u)).set i (.agg (splice (aM u x0).cells off (aM t y).cells))) (zdE hole):=by show aL.tree e u.sz k _ _=_;grind[Q_,eQ]
     rw[this];exact .refl _
    grind
   .rename_i e k u xs hi J w A E;split at h;.rename_i kid;obtain⟨h1,h2⟩:=aZ h;simp only[a_]at h1;obtain⟨x0,f,c⟩:=cP h2;obtain⟨F,U⟩:=bE c;have H:=(l_.1 f).1;have I:=b_ h1.1.1;have e2:=b_ h1.1.2;have e3:=c_ h1.2;have e4:=b_ F;clear h h1 h2 c F;subst I;subst e4;refine⟨_,aG g.1 D,_,aG g.2 C,rfl,_,by rw[bL,A];rfl,.inr ⟨e,_,k,_,_,rfl,by grind,by omega,.inr ⟨_,_,rfl,e2,rfl,rfl,⟨s.fr,setAt s.hp id (.tree e k u xs (some (hi,J,.sl kid)))⟩,?_,aT.fr rfl,U⟩⟩⟩;rw[gR];exact .refl _
    grind
   grind
  grind
theorem X1{t:Ty}{x v:X}(b:x.wf=true/\v.wf=true)(hp:YY s (.store t x v)=true)(h:aY O d (.store t x v) s κ kp=some r):Ox P s (.store t.sz x.er v.er) d κ kp r:=by
 simp only[aY]at h;cases d with
 |some _=>grind|none=>
  simp only at h;unfold storeT at h;split at h
  .rename_i id off n j g;split at h;.rename_i tid cs c;obtain⟨h1,h2⟩:=aZ h;simp only[a_]at h1;obtain⟨a,E⟩:=rS h1.2;have F:=b_ h1.1.1;have H:=c_ h1.1.2;refine⟨_,aG b.1 j,_,aG b.2 g,rfl,_,by rw[bL,c];rfl,tid,_,rfl,by grind,by grind,a,⟨s.fr,setAt s.hp id (.box tid (fS cs off (dc n)))⟩,?_,aT.fr rfl,h2⟩;grind[gR,bT,fS,dc,splice,aU,a8,pH]
   grind
  .grind[id,YY]
  .rename_i id i off n j g;split at h
   .rename_i e u xs y c B;obtain⟨h1,h2⟩:=aZ h;obtain⟨x0,k,a⟩:=cP h2;split at a
    .rename_i z C;obtain⟨D,I,J⟩:=g8 u off t x0 y z C;have A:=(l_.1 k).1;have l:(xs.map (aM u)).getD i .any=aM u x0:=by grind
     have fin:∀p,p=aM u z->∃s',{enc s with hp:=(enc s).hp.set id (.vec e u.sz ((xs.map (aM u)).set i p))}=enc s'/\aT (gm none) s s'/\κ s'=some r:=by rintro p rfl;refine⟨⟨s.fr,setAt s.hp id (.vec e u (xs.set i z))⟩,?_,aT.fr rfl,a⟩;simp[gR,bT,aM,set]
     refine⟨_,aG b.1 j,_,aG b.2 g,rfl,_,by rw[bL,c];rfl,.inl ⟨e,_,_,rfl,by grind,_,eC B,aQ t y,wl t y,?_⟩⟩;by_cases hs:t.sz=u.sz
     .have f:u=t:=by grind[X_]
      subst f;have w:off=0:=by omega
      subst w;refine .inl ⟨rfl,rfl,fin _ (xW ?_)⟩;grind[mo,aQ]
     .refine .inr ⟨hs,D,fin _ ?_⟩;grind[eQ]
    grind
   all_goals grind[YY]
  grind
theorem UO{op:lQ}(a:op.wf P=true){b:Ob->(Nat->V)->Option R}(h:aY.mkT s op b=some r):∃o v,b o v=some r/\Gd (enc s) op.er λob mk=>ob=bT o/\∀n,a8 (v n)= .b (mk n):=by
 unfold aY.mkT at h;split at h;.rename_i tid zero;refine⟨_,_,h,?_,λn=>rfl⟩;show aL.box tid ((zero.map y8).map λv=>bG v)=aL.box tid (zero.map aU);rw[j_];congr 1;exact k_ λv j=>uH (e_.1 a v j)
 .rename_i tid x;split at h;.rename_i v e;obtain⟨h1,h2⟩:=aZ h;obtain⟨f,g⟩:=rS h1;refine⟨_,_,h2,_,aG a e,f,?_,λn=>rfl⟩;show aL.box tid _=aL.box tid _;grind
  grind
 .rename_i tid t len parts;obtain⟨h1,h2⟩:=aZ h;simp only[a_]at h1;obtain⟨xs,f,g,d⟩:=mb parts _ a h2;refine⟨_,_,d,_,f,?_,c_ h1.1.2,c_ h1.2,jh xs,rfl,λn=>rfl⟩;grind[u_,b_]
 .rename_i tid t bytes l c;simp only[lQ.wf,a_,decide_eq_true_eq,ne_eq]at a;obtain⟨h1,h2⟩:=aZ h;obtain⟨C,E,hl,f⟩:=fA h2;obtain⟨D,F,hc,g⟩:=fA f;obtain⟨d,k⟩:=bE g;simp only[a_,decide_eq_true_eq]at d;obtain⟨A,B⟩:=Pd t a.2;refine⟨_,_,k,_,aG a.1.1 hl,_,aG a.1.2 hc,_,rfl,_,rfl,_,_,rfl,_,_,rfl,d.1.1.1,d.1.1.2,d.1.2,d.2,B,c_ h1,_,A,wl t t.zero,?_,λn=>rfl⟩;show aL.vec tid t.sz _=aL.vec tid t.sz _;simp
 .rename_i tid t bytes x y;simp only[lQ.wf,a_]at a;obtain⟨H,ys,z,h1,h2⟩:=kz h;have key:∀v:V,s.get x=some v->(a8 v= .b .oZ\/a8 v= .b (.full (.list 0 [])))->bU (decide (ys.length*bytes<=140737488355328)) (b (.vec tid t ys) .sl)=some r->∃o v,b o v=some r/\Gd (enc s) (lQ.append tid t bytes x y).er λob mk=>ob=bT o/\∀n,a8 (v n)= .b (mk n):=by intro v e j w;obtain⟨f,g⟩:=bE w;exact⟨_,_,g,_,aG a.1 e,_,aG a.2 z,h2 _ ⟨λp hp=>(jh ys p hp).2,j,by grind,rfl,λn=>rfl⟩⟩
  split at h1;.rename_i u e;exact key _ e (.inl rfl) h1
  .rename_i u e;exact key _ e (.inr rfl) h1
  grind
 .exact⟨_,_,h,rfl,λn=>rfl⟩
 grind
theorem RE{k:Nat}{op:lQ}(e:op.wf P=true)(h:aY O d (.uq k op) s κ kp=some r): ∃o v,rM P ⟨d,.uq k op.er,none⟩ (enc s) ⟨a8 v,some (k,bT o)⟩/\κ (S.aE ⟨s.fr,setAt s.hp k o⟩ d v)=some r:=by
 simp only[aY]at h;split at h;.rename_i c;obtain⟨o,v,h1,h2⟩:=UO e h;refine⟨o,v k,⟨rfl,op.er,rfl,oq h2 λob mk ⟨a,b⟩=>⟨a,b k,?_⟩⟩,h1⟩;rw[bL,c];rfl
 grind
theorem zd3{k:Nat}{op:lQ}(g:op.wf P=true)(h:aY O d (.uq k op) s κ kp=some r):Ox P s (.uq k op.er) d κ kp r:=by obtain⟨o,v,h1,h2⟩:=RE g h;obtain⟨_,q,e,f⟩:=h1;cases e;show Gd (enc s) op.er λob mk=>yY (enc s) (some k)/\∃s',((enc s).new (some k) ob).aE d (.b (mk k))=enc s'/\aT (gm d) s s'/\κ s'=some r;refine oq f λob mk ⟨a,b,c⟩=>⟨c,_,?_,(aT.fr (s':=⟨s.fr,setAt s.hp k o⟩) rfl).trans (aT.put _ d v),h2⟩;rw[gF,gR,a,<-b];rfl
theorem Ej(hO:cx P O){op:lQ}(g:op.wf P=true)(h:aY O d op s κ kp=some r):Ph P s op.er d κ kp r:=by
 cases op<;>simp only[lQ.wf,a_,decide_eq_true_eq]at g;case mv x=>exact(zbK g h).ob
 case pick c a b=>exact(Tc ⟨g.1.1,g.1.2,g.2⟩ h).ob
 case bin op x y=>exact(X9 g h).ob
 case G8 neg x y=>exact(Ya g h).ob
 case sL neg tid t x y=>exact(Yb ⟨g.1.1,g.1.2,g.2⟩ h).ob
 case un op x=>exact(zbL g h).ob
 case len b x=>exact(Ye g h).ob
 case oY k e x=>exact(S7 g h).ob
 case qC x i=>exact(S5 g h).ob
 case pX n t x i=>exact(S6 g h).ob
 case qA t x i=>exact(S3 g h).ob
 case qB n t x i=>exact(S4 g h).ob
 case oW off t x=>exact(S2 g h).ob
 case Iy off t x=>exact(Yd g h).ob
 case load t x=>exact(S8 g h).ob
 case store t x v=>exact XR g h
 case alloc tid zero=>exact XM g h
 case box tid x=>exact zcz g h
 case qj tid t x=>exact(SY g h).ob
 case build zero parts=>exact(Og g h).ob
 case bI own tid t len parts=>
  cases own;.exact(I0 g h).ob
  .exact UV g h
 case cO tid t b l c=>exact UX ⟨g.1.1,g.1.2,g.2⟩ h
 case append tid t b x y=>exact UU g h
 case qm k x=>exact(S0 g h).ob
 case Je full t x lo j mx=>exact(Yf ⟨g.1.1.1,g.1.1.2,g.1.2,g.2⟩ h).ob
 case qJ x lo j=>exact(Td ⟨g.1.1,g.1.2,g.2⟩ h).ob
 case ext x i=>exact(Yc g h).ob
 case rR x=>exact(Tb g h).ob
 case call bor f args sh=>exact(SZ hO g h).ob
 case gP jG bor B f args sh=>exact XN hO g h
 case fw jG bor B num x args sh=>exact XO hO ⟨g.1.1.1,g.1.1.2,g.1.2,g.2⟩ h
 case im bor num x args sh=>exact(Oh hO ⟨g.1.1.1,g.1.1.2,g.1.2,g.2⟩ h).ob
 case G3 x=>exact(X8 g h).ob
 case rQ f caps=>exact(S9 g h).ob
 case ir k e a b=>exact XP h
 case lookup k e ok a b m x=>exact(I1 ⟨g.1.1.1,g.1.1.2,g.1.2,g.2⟩ h).ob
 case ic k e a b m x v=>exact UW ⟨g.1.1.1,g.1.1.2,g.1.2,g.2⟩ h
 case copy tid t x y=>exact zaW g h
 case mX mx k x ys=>exact(Ta g h).ob
 case panic x=>exact XQ g h
 case iface tid x=>exact(Oi g h).ob
 case pj tid t len parts=>exact(FM g h).ob
 case pM tid t b x y=>exact(SV g h).ob
 case eo tid k t len parts=>exact(FO g h).ob
 case dE tid k u b l c=>exact Qz g h
 case pN tid k t b x y=>exact(SL g h).ob
 case uq k op=>exact(zd3 g h).ob
theorem qn(hO:cx P O){op:lQ}(g:op.wf P=true)(hp:op.mj=true)(h:aY O d op s κ kp=some r):Pu P s op.er d κ r:=by
 cases op<;>simp only[lQ.wf,a_]at g<;>simp only[lQ.mj]at hp<;>try (cases hp;done)
 case mv x=>exact zbK g h
 case pick c a b=>exact Tc ⟨g.1.1,g.1.2,g.2⟩ h
 case bin op x y=>exact X9 g h
 case G8 neg x y=>exact Ya g h
 case sL neg tid t x y=>exact Yb ⟨g.1.1,g.1.2,g.2⟩ h
 case un op x=>exact zbL g h
 case len b x=>exact Ye g h
 case oY k e x=>exact S7 g h
 case qC x i=>exact S5 g h
 case pX n t x i=>exact S6 g h
 case qA t x i=>exact S3 g h
 case qB n t x i=>exact S4 g h
 case oW off t x=>exact S2 g h
 case Iy off t x=>exact Yd g h
 case load t x=>exact S8 g h
 case qj tid t x=>exact SY g h
 case build zero parts=>exact Og g h
 case bI own tid t len parts=>
  cases own;.exact I0 g h
  grind
 case qm k x=>exact S0 g h
 case Je full t x lo j mx=>exact Yf ⟨g.1.1.1,g.1.1.2,g.1.2,g.2⟩ h
 case qJ x lo j=>exact Td ⟨g.1.1,g.1.2,g.2⟩ h
 case ext x i=>exact Yc g h
 case rR x=>exact Tb g h
 case call bor f args sh=>exact SZ hO g h
 case im bor num x args sh=>exact Oh hO ⟨g.1.1.1,g.1.1.2,g.1.2,g.2⟩ h
 case G3 x=>exact X8 g h
 case rQ f caps=>exact S9 g h
 case lookup k e ok a b m x=>exact I1 ⟨g.1.1.1,g.1.1.2,g.1.2,g.2⟩ h
 case mX mx k x ys=>exact Ta g h
 case iface tid x=>exact Oi g h
 case pj tid t len parts=>exact FM g h
 case pM tid t b x y=>exact SV g h
 case eo tid k t len parts=>exact FO g h
theorem Qe(hO:cx P O){op:lQ}(a:op.wf P=true)(hp:op.exB=true)(e:YY s op=true)(h:aY O d op s κ kp=some r):Ox P s op.er d κ kp r:=by
 by_cases c:op.mj=true;.exact(qn hO a c h).ox
 .cases op<;>simp only[lQ.exB]at hp<;>try exact absurd hp c
  case append tid t b x y=>simp only[lQ.wf,a_]at a;exact IW a h
  case pN tid k t b x y=>simp only[lQ.wf,a_]at a;exact SL a h
  case gP jG bor B f args sh=>simp only[lQ.wf,a_]at a;exact N9 hO a h
  case fw jG bor B num x args sh=>simp only[lQ.wf,a_]at a;exact Oa hO ⟨a.1.1.1,a.1.1.2,a.1.2,a.2⟩ h
  case store t x v=>simp only[lQ.wf,a_]at a;exact X1 a e h
end
def zat{θ:List Av.Loc}{D D':Nat->Prop}{w:World}{id:Nat}{t:Ty}{xs:List t.den}{l:Av.Loc}(hl:θ[id]? =some l)(hD:∀b,D b->D' b)(H:∀g,l≠.ek g)(C:∀g,l≠.mp g) (A:∀v,l.head v->aX D' w v (lB t.sz (xs.map (aM t)))) {v:Value} {u:V} (h:RelB θ D w v (aU u)):RelB (θ.set id .no) D' w v (aU (VE id t xs u)):=by
 have I:∀(k:Nat) (l':Av.Loc),k≠id->θ[k]? =some l'->(θ.set id .no)[k]? =some l':=λk l' y h=>by grind
 have p:∀(x:BV),RelB θ D w v x->(∀i∈x.ids,i≠id)->RelB (θ.set id .no) D' w v x:=by
  intro x z r;cases x<;>simp only[RelB]at z⊢;.exact z.mono hD λ_ _=>rfl
  .omega
  .grind[BV.ids]
  .grind
  .grind[BV.ids]
  .grind
  .grind
  .exact⟨z.1.mono hD λ_ _=>rfl,z.2⟩
  omega
 cases u with
 |sl k=>
  show RelB _ _ _ _ (aU (bif i_ k id then .d (.list t) xs else .sl k));rw[fT];by_cases y:k=id;.subst y;rw[decide_eq_true rfl];obtain⟨l',h1,h2⟩:=h;rw[hl]at h1;cases h1;exact A v h2
  .rw[decide_eq_false y];exact p (aU (.sl k)) h λi r=>by rw[D_.1 (show i∈[k]from r)];omega
 |jb k i o=>
  show RelB _ _ _ _ (aU (bif i_ k id then .any else .jb k i o));rw[fT];by_cases y:k=id;.rw[decide_eq_true y];exact aX.any v
  .rw[decide_eq_false y];exact p (aU (.jb k i o)) h λj B=>by rw[D_.1 (show j∈[k]from B)];omega
 |ptr k off=>refine p (aU (.ptr k off)) h λi r e=>?_;have s:=D_.1 (show i∈[k]from r);subst s;subst e;obtain⟨g,h1,_⟩:=h;grind
 |LF k off n E m=>refine p (aU (.LF k off n E m)) h λi r e=>?_;have s:=D_.1 (show i∈[k]from r);subst s;subst e;obtain⟨g,h1,_⟩:=h;grind
 |mp k=>refine p (aU (.mp k)) h λi r e=>?_;have s:=D_.1 (show i∈[k]from r);subst s;subst e;obtain⟨g,h1,_⟩:=h;grind
 |kj f ids=>refine p (aU (.kj f ids)) h λi r e=>?_;obtain⟨F,h1,h2,_⟩:=h;obtain⟨k,y⟩:=Z_ (show i∈ids from r);grind
 |raw c=>exact p (aU (.raw c)) h λi r=>by grind[aU,wj]|d a b=>exact p (aU (.d a b)) h λi r=>by cases r|nil a=>exact p (aU (.nil a)) h λi r=>by cases r|agg a=>exact p (aU (.agg a)) h λi r=>by cases r|dC a=>exact p (aU (.dC a)) h λi r=>by cases r|dp a b=>exact p (aU (.dp a b)) h λi r=>by cases r|HQ a b=>exact p (aU (.HQ a b)) h λi r=>by cases r|full a b=>exact p (aU (.full a b)) h λi r=>by cases r|any=>exact p (aU .any) h λi r=>by cases r|lit a b c=>exact p (aU (.lit a b c)) h λi r=>by cases r|LD=>exact p (aU .LD) h λi r=>by cases r
def zar{id:Nat}{t:Ty}{xs:List t.den}(v:V)(h:v.ID=false):(VE id t xs v).ID=false:=by cases v<;>first|rfl|(simp only[VE];cases i_ _ id<;>rfl)|cases h
def Yw{θ θ':List Av.Loc}{D D':Nat->Prop}{w:World}{g:V->V}(j:∀v,v.ID=false->(g v).ID=false)(hg:∀v u,RelB θ D w v (aU u)->RelB θ' D' w v (aU (g u))){v:Value}{u:V}(h:RelA θ D w v (a8 u)):RelA θ' D' w v (a8 (jD g u)):=by
 have b:∀(vs:List V) (a:Array Value),a.size=(vs.map aU).length->(∀(i:Nat) (y:Value) (x:BV),a[i]? =some y->(vs.map aU)[i]? =some x->RelB θ D w y x)->a.size=((vs.map g).map aU).length/\∀(i:Nat) (y:Value) (x:BV),a[i]? =some y->((vs.map g).map aU)[i]? =some x->RelB θ' D' w y x:=by
  grind
 cases c:u.ID;.rw[Xs c,lc (j u c)];rw[lc c]at h;exact hg v u h
 .cases u with
  |agg vs=>obtain⟨a,h1,h2,d⟩:=h;obtain⟨e,f⟩:=b vs a h2 d;exact⟨a,h1,e,f⟩
  |dC vs=>obtain⟨a,h1,h2,d⟩:=h;obtain⟨e,f⟩:=b vs a h2 d;exact⟨a,h1,e,f⟩
  |_=>cases c
def Yv{θ θ':List Av.Loc}{D D':Nat->Prop}{w:World}{g:V->V}(hD:∀b,D b->D' b)(hg:∀v u,RelB θ D w v (aU u)->RelB θ' D' w v (aU (g u))){l:Av.Loc}{o:Ob}(h:cG θ D w l (bT o)):cG θ' D' w l (bT (rO g o)):=by
 cases o with
 |box t cs=>
  cases l<;>simp only[bT]at h⊢<;>try exact h
  obtain⟨c,h1,h2,n⟩:=h;refine⟨c,h1,by grind,λi y x r p=>?_⟩;grind
 |gone=>cases l<;>trivial|free=>cases l<;>exact h|tree e k t xs hole=>
  cases l<;>try exact h
  case nil=>refine⟨h.1,?_⟩;cases hole with|none=>rfl|some q=>obtain⟨i,j,v⟩:=q;cases h.2
  case nP=>cases hole with|none=>exact nn (θ':=θ') (hole:=none) (f:=λx=>x) (λu i j b d _=>nomatch d) hD h|some q=>obtain⟨i,j,v⟩:=q;exact nn (hole:=some (i,j,aU v)) (f:=λ_=>aU (g v)) (λu i' s b d hr=>by grind) hD h
 |vec e t xs=>have h1:=h.mono (D':=D') (w':=w) hD (λ_ _=>rfl) λ_ _=>rfl;cases l<;>exact h1|map k e a b kvs=>cases l<;>exact(h.mono (D':=D') (w':=w) hD (λ_ _=>rfl) λ_ _=>rfl)
def BZ{m:Nat}{s:S}{id:Nat}{o:Ob}{t:Ty}{xs:List t.den}(ho:s.hp[id]? =some o)(n:Lg (enc s).hp id=some (lB t.sz (xs.map (aM t))))(P:o.zbo=true):gN m (enc s) (enc ⟨(s.map (VE id t xs)).fr,setAt (s.map (VE id t xs)).hp id .gone⟩):=by
 rintro c a w _ ⟨θ,D,d⟩;have F:(enc s).hp[id]? =some (bT o):=by grind[bL]
 have I:id<θ.length:=by rw[d.ok.len];grind
 obtain⟨l,hl⟩:∃l,θ[id]? =some l:=⟨θ[id],g_ I⟩;have M:=d.ok.fQ id l _ hl F;have A:l.fixed=false:=by
  unfold Lg at n;rw[F]at n;cases o<;>first|cases n|skip
  all_goals (cases l<;>first|rfl|exact M.elim)
 have T:∀g,l≠.ek g:=λg e=>by subst e;cases A
 have J:∀g,l≠.mp g:=λg e=>by subst e;cases A
 obtain⟨D',hD,y,Y⟩:∃D':Nat->Prop,(∀b,D b->D' b)/\(∀b,D' b->D b\/l.has b)/\(∀v,l.head v->aX D' w v (lB t.sz (xs.map (aM t)))):=by refine⟨λb=>D b\/l.has b,λ_ h=>.inl h,λ_ h=>h,λv P=>?_⟩;obtain⟨l',h1,h2⟩:=Tl d.ok (show RelB θ D w v (.sl id)from⟨l,hl,P⟩) n;grind
 have O:=λv u=>zat (w:=w) (v:=v) (u:=u) (id:=id) (t:=t) (xs:=xs) hl hD T J Y;have old:∀(i:Nat) (l':Av.Loc),(θ.set id .no)[i]? =some l'->(i=id/\l'= .no)\/(i≠id/\θ[i]? =some l'):=λi l' p=>by grind
 refine⟨θ.set id .no,D',d.size,d.defers,⟨?_,λb f=>?_,λi j li Q g p hj B C=>?_,λi li g p hg=>?_,λi li o p L=>?_⟩,d.keep,λb f=>hD b (d.lW b f),λb f=>?_,λi li g p hg=>?_,λk x H=>?_,λk l' H U=>?_⟩;.simp[enc,S.map,eV,d.ok.len]
 .rcases y b f with h1|h1;.exact d.ok.pO b h1
  .exact(d.ok.nj id l b hl h1).1
 .rcases old i li p with⟨_,rfl⟩|⟨_,h1⟩;.cases B
  .rcases old j Q hj with⟨_,rfl⟩|⟨_,h2⟩;.cases C
   .exact d.ok.inj i j li Q g h1 h2 B C
 .rcases old i li p with⟨_,rfl⟩|⟨z,h1⟩;.cases hg
  .obtain⟨h2,R⟩:=d.ok.nj i li g h1 hg;refine⟨h2,λhd=>?_⟩;rcases y g hd with N|N;.grind
   .exact z (d.ok.inj i id li l g h1 hl hg N)
 .have r:((setAt (s.hp.map (rO (VE id t xs))) id .gone).map bT)[i]? =some o:=L;rw[eV,m_]at r;obtain⟨o1,h1,rfl⟩:=d_.1 r;rcases old i li p with⟨rfl,rfl⟩|⟨z,h2⟩;.rw[A_ (by grind)]at h1;cases h1;trivial
  .rw[t_ (Ne.symm z),m_]at h1;obtain⟨o2,R,rfl⟩:=d_.1 h1;exact Yv hD O (d.ok.fQ i li (bT o2) h2 (by grind[bL]))
 .rcases y b f with h1|h1;.exact d.nD b h1
  .exact .inr (d.j4 id l b hl h1)
 .rcases old i li p with⟨_,rfl⟩|⟨_,h1⟩;.cases hg
  .exact d.j4 i li g h1 hg
 .have E:Av.look ((s.fr.map λx=>(x.1,jD (VE id t xs) x.2)).map λx=>(x.1,a8 x.2)) k=some x:=H;rw[mV,Fg]at E;obtain⟨v1,h1,rfl⟩:=d_.1 E;obtain⟨v2,h2,rfl⟩:=d_.1 h1;exact Yw zar O (d.fr k (a8 v2) (by show Av.look (s.fr.map λx=>(x.1,a8 x.2)) k=_;grind[mV]))
 .have h1:=d.fix k l' H U;grind
def Ob.WH(o:Ob):Prop:=∀θ D w,cG θ D w (.nil none) (bT o)
def MP(e:TypeId)(t:Ty):(Ob.vec e t []).WH:=λ_ _ _=>rfl
def It(e:TypeId)(k:Av.K)(t:Ty):(Ob.tree e k t [] none).WH:=λ_ _ _=>⟨rfl,rfl⟩
def yo{c:Ctx}{θ:List Av.Loc}{D:Nat->Prop}{st:St}{a:Act}{w:World}(b:Inv c θ D st a w){o:Ob}(d:o.WH):Inv c (θ++[.nil none]) D {st with hp:=st.hp++[bT o]} a w:=b.push (d _ _ _) (λg hg=>by cases hg)
def Gs{m:Nat}{s:S}{k:Nat}{u:Ty}{o:Ob}(g:o.WH)(h:lk s.fr k=some (.nil u)):gN m (enc s) (enc ⟨(k,.sl s.hp.length)::s.fr,s.hp++[o]⟩):=by
 rintro c a w _ ⟨θ,D,e⟩;have b:=yo e g;rw[<-tv]at b;refine⟨_,D,b.size,b.defers,b.ok,b.keep,b.lW,b.nD,b.j4,λj x f=>?_,b.fix⟩;have d:Av.look ((k,a8 (.sl s.hp.length))::s.fr.map λx=>(x.1,a8 x.2)) j=some x:=f;simp only[Av.look]at d;split at d;.cases d;refine⟨.nil none,?_,(e.fr j (a8 (.nil u)) (by show Av.look (s.fr.map λx=>(x.1,a8 x.2)) j=_;grind[mV]))⟩;rw[<-mB,<-e.ok.len];simp
 .exact b.fr j x d
def BY{m:Nat}{s:S}{id j:Nat}{u:TypeId}{r:Ty}{cs:List V}{f:Ob}(h:f.WH)(A:s.hp[id]? =some (.box u cs))(E:cs[j]? =some (.nil r)): gN m (enc s) (enc ⟨s.fr,setAt s.hp id (.box u (setAt cs j (.sl s.hp.length)))++[f]⟩):=by
 rintro c a w _ ⟨θ,D,n⟩;have b:=yo n h;rw[<-tv]at b;have hid:=(l_.1 A).1;refine⟨_,D,b.size,b.defers,⟨by rw[b.ok.len];simp[enc,eV],b.ok.pO,b.ok.inj,b.ok.nj,λi l o p k=>?_⟩,b.keep,b.lW,b.nD,b.j4,b.fr,b.fix⟩;have d:((setAt s.hp id (.box u (setAt cs j (.sl s.hp.length)))++[f]).map bT)[i]? =some o:=k;rw[eV,eV]at d;by_cases g:i=id
 .subst g;rw[m_,C_ (by grind),A_ hid]at d;cases d;have hr:=b.ok.fQ i l (bT (.box u cs)) p (by grind[bL,C_]);cases l<;>simp only[bT,cG]at hr⊢<;>try exact hr
  obtain⟨v,h1,h2,z⟩:=hr;refine⟨v,h1,by grind,λq y x C e=>?_⟩;rw[Q_]at e;by_cases B:q=j
  .subst B;rw[aB_]at e;simp only[if_true]at e;split at e;.cases e;have:=z q y (aU (.nil r)) C (by grind);refine⟨.nil none,?_,this⟩;rw[<-mB,<-n.ok.len];simp
   grind
  grind
 .refine b.ok.fQ i l o p ?_;show((s.hp++[f]).map bT)[i]? =some o;grind
theorem yk{ids:List Nat}{i:Nat}(h:i∈ids):ids[ids.idxOf i]? =some i:=by grind
theorem Dj{θ:List Av.Loc}{ids:List Nat}{D:Nat->Prop}{w:World}{v:Value}{x:BV}(a:∀i∈x.ids,i∈ids)(h:RelB θ D w v x):RelB (ids.map λi=>θ.getD i .no) D w v (x.eM (ids.idxOf ·)):=by
 cases x<;>simp only[RelB,BV.eM]at h⊢<;>simp only[BV.ids]at a;.omega
 .omega
 .grind
 .grind
 .grind
 .grind
 all_goals grind
def YL{θ:List Av.Loc}{ids:List Nat}{D:Nat->Prop}{w:World}{v:Value}{x:AV}(d:∀i∈x.ids,i∈ids)(h:RelA θ D w v x):RelA (ids.map λi=>θ.getD i .no) D w v (x.eM (ids.idxOf ·)):=by
 have c:∀(xs:List BV) (a:Array Value),(∀i∈xs.flatMap BV.ids,i∈ids)->a.size=xs.length->(∀(i:Nat) (y:Value) (x:BV),a[i]? =some y->xs[i]? =some x->RelB θ D w y x)->a.size=(xs.map (BV.eM (ids.idxOf ·))).length/\∀(i:Nat) (y:Value) (x:BV),a[i]? =some y->(xs.map (BV.eM (ids.idxOf ·)))[i]? =some x->RelB (ids.map λi=>θ.getD i .no) D w y x:=by
  grind[Dj]
 cases x with
 |b x=>exact Dj d h|agg xs=>obtain⟨a,h1,h2,e⟩:=h;obtain⟨f,g⟩:=c xs a d h2 e;exact⟨a,h1,f,g⟩
 |dC xs=>obtain⟨a,h1,h2,e⟩:=h;obtain⟨f,g⟩:=c xs a d h2 e;exact⟨a,h1,f,g⟩
def O5{m:Nat}{a b:St}(ids:List Nat)(el:ids.Nodup)(hm:∀k,k<m->ids[k]? =some k) (B:∀k y,Av.look b.fr k=some y->∃x,Av.look a.fr k=some x/\(∀i∈x.ids,i∈ids)/\y=x.eM (ids.idxOf ·)) (L:b.hp.length=ids.length) (r:∀(j:Nat) (o':aL),b.hp[j]? =some o'->∃(i:Nat) (o:aL),ids[j]? =some i/\a.hp[i]? =some o/\(∀i∈o.ids,i∈ids)/\o'=o.eM (ids.idxOf ·)):gN m a b:=by
 rintro c ac w T ⟨θ,D,f⟩;have Y:∀(j:Nat) (i:Nat),ids[j]? =some i->i<θ.length:=λj i n=>by
  have F:j<b.hp.length:=by grind
  obtain⟨i',o,h1,h2,_⟩:=r j _ (g_ F);rw[n]at h1;cases h1;rw[f.ok.len];grind
 have d:∀(j:Nat) (l:Av.Loc),(ids.map λi=>θ.getD i .no)[j]? =some l->∃i,ids[j]? =some i/\θ[i]? =some l:=λj l n=>by grind
 refine⟨ids.map λi=>θ.getD i .no,D,f.size,f.defers,⟨by grind,f.ok.pO,λi j li N g s n C E=>?_,λi l g s hg=>?_,λj l o' n I=>?_⟩,f.keep,f.lW,f.nD,λi l g s hg=>?_,λk y H=>?_,λk l H U=>?_⟩;.obtain⟨i',h1,h2⟩:=d i li s;obtain⟨j',z,A⟩:=d j N n;have:=f.ok.inj i' j' li N g h2 A C E;grind[l_,List.getElem?_inj]
 .obtain⟨i',h1,h2⟩:=d i l s;exact f.ok.nj i' l g h2 hg
 .obtain⟨i,h1,h2⟩:=d j l n;obtain⟨i',o,z,A,J,rfl⟩:=r j o' I;rw[h1]at z;cases z;have hr:=f.ok.fQ i l o h2 A;cases o with
  |box t cs=>
   cases l<;>simp only[aL.eM,cG]at hr⊢<;>try exact hr
   obtain⟨O,P,e2,Q⟩:=hr;refine⟨O,P,by grind,λq y x hy M=>?_⟩;rw[m_]at M;obtain⟨x0,v,rfl⟩:=d_.1 M;exact Dj (λp hp=>J p (F_.2 ⟨x0,y_ v,hp⟩)) (Q q y x0 hy v)
  |gone=>cases l<;>trivial|free=>cases l<;>exact hr|vec e sz xs=>cases l<;>exact hr|map k e kvs=>cases l<;>exact hr|tree e sz k xs hole=>
   cases l<;>try exact hr
   case nil=>exact⟨hr.1,by have:=hr.2;subst this;rfl⟩
   case nP=>exact nn (λu i j b R hr=>Dj (λp hp=>J p (by rw[R];exact hp)) hr) (λ_ h=>h) hr
 .obtain⟨i',h1,h2⟩:=d i l s;exact f.j4 i' l g h2 hg
 .obtain⟨x,h1,h2,rfl⟩:=B k y H;exact YL h2 (f.fr k x h1)
 .have h1:=f.fix k l H U;grind
def B2.zB(m:Nat):B2->Bool
 | .sel ids _=>(U_ m).all λk=>match ids[k]? with
  |some i=>i_ i k
  |none=>false
 |_=>true
def DD(m:Nat)(l:List B2):Bool:=l.all (B2.zB m)
def aT.of_map{A:List Nat}{s s':S}(g:V->V)(hg:∀v,v.rJ=true->g v=v)(E:∀k,lk s'.fr k=(lk s.fr k).map g\/lk s'.fr k=none):aT A s s':=λk _=>by grind
def Sp{id:Nat}{t:Ty}{xs:List t.den}{v:V}(h:v.rJ=true):jD (VE id t xs) v=v:=by cases v<;>first|rfl|cases h
def zaE{ρ:Nat->Nat}{v:V}(h:v.rJ=true):jD (V.eM ρ) v=v:=by cases v<;>first|rfl|cases h
def yB{α β:Type}{f:α->Option β}:∀{l:List α} {m:List β},l.mapM f=some m->m.length=l.length/\∀(i:Nat) (y:β),m[i]? =some y->∃x,l[i]? =some x/\f x=some y
 |[],m,h=>by grind
 |x::l,m,h=>by simp only[o_,B_,L_,p_,h_]at h;obtain⟨z,h1,m',h2,rfl⟩:=h;obtain⟨a,b⟩:=yB h2;grind
theorem Qt{s:S}:∀{ks:List Nat} {fr:List (Nat×V)},ks.mapM (λk=>(lk s.fr k).map λv=>(k,v))=some fr->∀k,lk fr k=lk s.fr k\/lk fr k=none
 |[],fr,h,k=>by simp at h;subst h;exact .inr rfl
 |j::ks,fr,h,k=>by
  simp only[o_,B_,L_,p_,h_,d_]at h;obtain⟨x,⟨v,b,rfl⟩,m',h2,rfl⟩:=h;simp only[lk,fT];by_cases a:k=j;.grind
  .rw[decide_eq_false a];exact Qt h2 k
theorem Nj{m:Nat}{id k j:Nat}{u:Ty}{s s':S}(h:mz (.focus id k j u) s=some s'):gN m (enc s) (enc s')/\∀A,aT A s s':=by
 simp only[mz]at h;split at h
 .rename_i kk n e f t xs C r;split at h
  .rename_i b c a d;obtain⟨h1,h2⟩:=aZ h;simp only[a_,decide_eq_true_eq]at h1;obtain⟨x,E,g⟩:=cP h2;split at g
   .rename_i L l;cases g;have hsz:=b_ h1.1;obtain⟨F,w⟩:=nW t j (.list u) x L l;have v:(aM t x).cells[j]? =some (aM (.list u) L):=by
     have:((aN t x).drop j).take 1=[aM (.list u) L]:=by have:=w;rw[eR (t:=.list u) L rfl]at this;exact this
     have y:(((aN t x).drop j).take 1)[0]? =some (aM (.list u) L):=by grind
     grind
    refine⟨?_,λA=>aT.fr rfl⟩;have D:=Rn (m:=m) (st:=enc s) (id:=id) (i:=n.toNat) (j:=j) (k:=f) (q:=(b,c,a)) (L:=L.map (aM u)) (by rw[bL,r];rfl) (by grind) v d (by rw[hsz];rfl);have p:ku (b,c,a) (L.map (aM u))=bT (rI b a u L):=by
     unfold ku rI;cases B:a.PD;.rw[hsz];rfl
     .rw[hsz];rfl
    have z:enc ⟨s.fr,setAt s.hp id (.tree e f t xs (some (n.toNat,j,.sl s.hp.length)))++[rI b a u L]⟩=⟨(enc s).fr,(enc s).hp.set id (.tree e t.sz f (xs.map (aM t)) (some (n.toNat,j,.sl (enc s).hp.length)))++[bT (rI b a u L)]⟩:=by simp only[enc,eV,v_,Q_,n_,List.map_nil,u_];rfl
    grind
   grind
  grind
 grind
def N8{e:TypeId}{k:Av.K}{u:Ty}{o:Ob}{L:List u.den}(h:yQ e k u o=some L):bT o=ku (e,u.sz,k) (L.map (aM u)):=by
 unfold yQ at h;split at h;.rename_i f t xs;obtain⟨h1,h2⟩:=aZ h;simp only[a_]at h1;obtain⟨a,b⟩:=bP h2;have c:=Ty.list.inj a;subst c;have d:L=xs:=b;subst d;have:=b_ h1.2;subst this;simp only[ku,h1.1];rfl
 .rename_i f j t xs;obtain⟨h1,h2⟩:=aZ h;simp only[a_,z_,decide_eq_true_eq]at h1;obtain⟨a,b⟩:=bP h2;have c:=Ty.list.inj a;subst c;have d:L=xs:=b;subst d;have:=b_ h1.1.2;subst this;obtain⟨⟨g,_⟩,rfl⟩:=h1;simp only[ku,g];rfl
 grind
theorem MG{m:Nat}{id:Nat}{s s':S}(h:mz (.close id) s=some s'):gN m (enc s) (enc s')/\∀A,aT A s s':=by
 simp only[mz]at h;split at h
 .rename_i e kk t xs i j kid H;cases B:i_ kid id
  .rw[B]at h;simp only[cond_false]at h;split at h
   .rename_i r a O o u c p E;split at h
    .rename_i L z;obtain⟨h1,h2⟩:=aZ h;obtain⟨x,T,g⟩:=cP h2;split at g
     .rename_i y N;cases g;have hsz:=b_ h1;have d:kid≠id:=λe=>by grind[X_]
      obtain⟨U,P,Y⟩:=g8 t j (.list u) x L y N;have n:j<(aM t x).cells.length:=by grind[aM,aQ,Ty.sz]
      refine⟨?_,λA=>aT.map A s _ (V.yt kid) (λv J=>by cases v<;>first|rfl|cases J) rfl⟩
      have F:=N8 z;have M:=Rm (m:=m) (st:=enc s) (id:=id) (kid:=kid) (i:=i) (j:=j) (k:=kk) (x:=aM t x) (q:=(r,a,O)) (L:=L.map (aM u)) (by rw[bL,H];rfl) (by grind) n c (by grind[bL]) d;have f:(aM t x).YO j (lB a (L.map (aM u)))=aM t y:=by
       have C:=xg (x:=aM t x) (y:=lB a (L.map (aM u))) n (AL _ _);have hl:aN (.list u) L=[lB a (L.map (aM u))]:=by rw[hsz];exact(KN u L).1
       have D:aN t y=(aN t x).set j (lB a (L.map (aM u))):=by rw[P,hl];apply ag_;grind[ot]
       cases b:t.ag
       .have l:(aM t x).isAgg=false:=by grind[lR]
        have w:j=0:=by grind
        subst w;have Q:(aM t x).YO 0 (lB a (L.map (aM u)))=lB a (L.map (aM u)):=by cases I:aM t x<;>first|rfl|(rw[I]at l;cases l)
        grind[eR]
       .rw[eQ x b,eQ y b];show PV.agg ((aN t x).set j _)=PV.agg (aN t y);grind
      rw[f]at M;have R:enc ⟨(s.fC kid .gone).fr,setAt (s.fC kid .gone).hp id (.tree e kk t (xs.set i y) none)⟩=⟨(enc s).fr.map λx=>(x.1,x.2.kill kid),(((enc s).hp.map (aL.kill kid)).set kid .gone).set id (.tree e t.sz kk ((xs.map (aM t)).set i (aM t y)) none)⟩:=by rw[gR,Aj];simp only[St.fC];congr 2;show aL.tree e t.sz kk _ _=_;rw[Q_];rfl
      grind
     grind
    grind
   grind
  grind
 grind
def TL{m:Nat}{l:B2}{s s':S}(J:l.zB m=true)(h:mz l s=some s'):gN m (enc s) (enc s')/\∀A,aT A s s':=by
 cases l with
 |freeze id=>
  simp only[mz]at h;split at h;.rename_i e t xs b;cases h;refine⟨BZ b (by rw[Lg,bL,b];rfl) rfl,λA=>aT.map A s _ (VE id t xs) (λv d=>Sp d) rfl⟩
  .rename_i e k t xs b;cases h;refine⟨BZ b (by rw[Lg,bL,b];rfl) rfl,λA=>aT.map A s _ (VE id t xs) (λv d=>Sp d) rfl⟩
  grind
 |focus id k j u=>grind[Nj]|close id=>grind[MG]|We k e t=>
  simp only[mz]at h;split at h
  .rename_i u a;cases h;refine⟨Gs (MP e t) a,λA j _=>?_⟩;simp only[lk,fT];by_cases c:j=k;.subst c;rw[decide_eq_true rfl,a];exact⟨λv d hd=>(by cases d;cases hd),λhn=>(by grind)⟩
   grind
  grind
 |Pz id j e t=>
  simp only[mz]at h;split at h
  .rename_i u cs b;split at h;.rename_i N c;cases h;exact⟨BY (MP e t) b c,λA=>aT.fr rfl⟩
   grind
  grind
 |PC k e kk t=>
  simp only[mz]at h;split at h
  .rename_i u a;cases h;refine⟨Gs (It e kk t) a,λA j _=>?_⟩;simp only[lk,fT];by_cases c:j=k;.subst c;rw[decide_eq_true rfl,a];exact⟨λv d hd=>(by cases d;cases hd),λhn=>(by grind)⟩
   grind
  grind
 |JM id j e kk t=>
  simp only[mz]at h;split at h
  .rename_i u cs b;split at h;.rename_i N c;cases h;exact⟨BY (It e kk t) b c,λA=>aT.fr rfl⟩
   grind
  grind
 |sel ids ks=>
  simp only[mz]at h;split at h
  .rename_i os fr C F;obtain⟨h1,h2⟩:=aZ h;cases h2;simp only[a_,decide_eq_true_eq,e_]at h1;obtain⟨⟨B,I⟩,r⟩:=h1;simp only[B2.zB,e_,V_]at J;obtain⟨P,M⟩:=yB C;refine⟨O5 ids B (λk a=>?_) (λk y a=>?_) (by grind[enc]) λj o' c=>?_,λA=>aT.of_map (jD (V.eM (EU ids))) (λv d=>zaE d) λk=>?_⟩;.grind[b_]
   .have g:Av.look ((fr.map λx=>(x.1,jD (V.eM (EU ids)) x.2)).map λx=>(x.1,a8 x.2)) k=some y:=a;rw[mV,Fg]at g;obtain⟨Q,n,rfl⟩:=d_.1 g;obtain⟨E,D,rfl⟩:=d_.1 n;refine⟨a8 E,?_,λi w=>?_,Ec _ E⟩;.show Av.look (s.fr.map λx=>(x.1,a8 x.2)) k=_;grind[mV,Qt]
    .rw[<-nE]at w;exact uj.1 (r _ (rN D)) i w
   .have f:((os.map (rO (V.eM (EU ids)))).map bT)[j]? =some o':=c;simp only[m_,d_]at f;obtain⟨_,⟨o,b,rfl⟩,rfl⟩:=f;obtain⟨i,n,D⟩:=M j o b;refine⟨i,bT o,n,by grind[bL],λp hp=>?_,xV _ o⟩;rw[<-Ef]at hp;grind[uj,y_]
   .show lk (fr.map λx=>(x.1,jD (V.eM (EU ids)) x.2)) k=_\/lk (fr.map λx=>(x.1,jD (V.eM (EU ids)) x.2)) k=none;rw[Fg];grind[Qt]
  grind
 |drop ks=>
  simp only[mz,h_]at h;subst h;have z:∀(fr:List (Nat×V)) (k:Nat),lk (fr.filter λx=> !kM ks x.1) k=lk fr k\/lk (fr.filter λx=> !kM ks x.1) k=none:=by
   intro fr k;induction fr with
   |nil=>simp|cons x fr O=>
    obtain⟨j,v⟩:=x;simp only[aG_];cases H:kM ks j;.simp only[aN_,if_true,lk,fT];grind
    .simp only[ak_,T_,if_false,lk,fT];by_cases a:k=j
     .subst a;right;have:∀(l:List (Nat×V)),lk (l.filter λx=> !kM ks x.1) k=none:=by
       intro l;induction l with
       |nil=>rfl|cons y l L=>
        obtain⟨i,u⟩:=y;simp only[aG_];cases w:kM ks i;.simp only[aN_,if_true,lk,fT];grind
        grind
      grind
     grind
  refine⟨(Pg.frame (fr:=s.fr.map λx=>(x.1,a8 x.2)) (fr':=(s.fr.filter λx=> !kM ks x.1).map λx=>(x.1,a8 x.2)) λk y a=>?_).r6,λA=>aT.of_map (λv=>v) (λ_ _=>rfl) λk=>?_⟩;.grind[mV]
  .rcases z s.fr k with e|e;.exact .inl (by show lk (s.fr.filter _) k=_;rw[e];simp)
   grind
def ZW{R:Type}{a:B2}{s:S}{κ:S->Option R}{r:R}(h:Wc a s κ=some r):∃s',mz a s=some s'/\κ s'=some r:=by
 cases a with
 |focus id k j u=>
  simp only[Wc]at h;split at h
  .rename_i kk n e F t xs C l;split at h
   .rename_i A v E b;obtain⟨h1,h2⟩:=aZ h;obtain⟨d,B⟩:=bE h2;obtain⟨x,p,w⟩:=cP B;split at w;.rename_i L f;refine⟨_,?_,w⟩;simp only[mz,C,l,b,h1,d,Bool.and_self,cond_true,p,q_,f]
    grind
   grind
  grind
 |close id=>
  simp only[Wc]at h;split at h
  .rename_i e kk t xs i j kid l;cases z:i_ kid id
   .rw[z]at h;simp only[cond_false]at h;split at h
    .rename_i A v E o u b c g;split at h
     .rename_i L f;obtain⟨h1,h2⟩:=aZ h;obtain⟨x,p,d⟩:=cP h2;split at d;.rename_i y D;refine⟨_,?_,d⟩;simp only[mz,l,z,cond_false,b,c,g,f,h1,cond_true,p,q_,D]
      grind
     grind
    grind
   grind
  grind
 |_=>grind[Wc]
def xA{R:Type}:∀{l:List B2} {s:S} {κ:S->Option R} {r:R},vH l s κ=some r->∃s',Wd l s=some s'/\κ s'=some r
 |[],s,κ,r,h=>⟨s,rfl,h⟩
 |a::l,s,κ,r,h=>by obtain⟨d,h1,h2⟩:=ZW h;obtain⟨e,b,c⟩:=xA h2;grind[Wd]
def qX{m:Nat}:∀{l:List B2} {s s':S},DD m l=true->Wd l s=some s'->gN m (enc s) (enc s')/\∀A,aT A s s'
 |[],s,s',_,h=>by cases h;simp[gN.refl,aT.refl]
 |a::l,s,s',b,h=>by
  simp only[DD,r_,a_]at b;simp only[Wd]at h;split at h;.rename_i g h1;obtain⟨c,d⟩:=TL b.1 h1;obtain⟨e,f⟩:=qX b.2 h;exact⟨c.trans e,λA=>(d A).trans (f A)⟩
  grind
structure Ext(a b:St):Prop where
 hp:a.hp=b.hp
 fr:∀k y,Av.look b.fr k=some y->Av.look a.fr k=some y
def Ext.refl(a:St):Ext a a:=⟨rfl,λ_ _ h=>h⟩
def Ext.r6{m:Nat}{a b:St}(h:Ext a b):gN m a b:=by obtain⟨af,E⟩:=a;obtain⟨h1,h2⟩:=h;cases h1;exact(Pg.frame h2).r6
theorem Ext.put{a b:St}(h:Ext a b)(d:Option Nat)(x:AV):Ext (a.aE d x) (b.aE d x):=by
 refine⟨by cases d<;>exact h.hp,λk y E=>?_⟩;rw[fk]at E⊢;by_cases hd:d=some k;.grind
 .rw[if_neg hd]at E⊢;exact h.fr k y E
theorem Ext.get{a b:St}(h:Ext a b){x:SX}{y:AV}(E:b.get x=some y):a.get x=some y:=by
 cases x<;>simp only[St.get]at E⊢;.exact h.fr _ _ E
 all_goals omega
def NM{α β:Type}{f g:α->Option β}(h:∀x y,f x=some y->g x=some y):∀{l:List α} {m:List β},l.mapM f=some m->l.mapM g=some m
 |[],m,a=>a
 |x::l,m,a=>by simp only[o_,B_,L_,p_,h_]at a⊢;obtain⟨z,h1,m',h2,rfl⟩:=a;exact⟨z,h _ _ h1,m',NM h h2,rfl⟩
def Ext.bind{a b:St}(h:Ext a b){x:SX}{K:AV->Prop}(E:aR (b.get x) K):aR (a.get x) K:=let⟨y,h1,h2⟩:=E;⟨y,h.get h1,h2⟩
theorem Ext.qd{a b:St}(h:Ext a b){x:Option SX}{d:Nat}{K:Nat->Prop}(E:qd b x d K):qd a x d K:=by cases x with|none=>exact E|some x=>exact h.bind E
def Ext.bindM{a b:St}{α β:Type}{f:St->α->Option β}(E:∀x y,f b x=some y->f a x=some y){l:List α}{K:List β->Prop}(H:aR (l.mapM (f b)) K):aR (l.mapM (f a)) K:=let⟨y,h1,h2⟩:=H;⟨y,NM E h1,h2⟩
def Ti{P:Program}{a b:St}(h:Ext a b){op:fh}{K:AV->Prop}(hs:jp P b op K):jp P a op K:=by
 have c:∀{β:Type} (g:AV->Option β) (x:SX) (y:β),(b.get x).bind g=some y->(a.get x).bind g=some y:=λg x y r=>by obtain⟨u,h1,h2⟩:=p_.1 r;rw[h.get h1];grind
 cases op<;>simp only[jp]at hs⊢<;>try rw[h.hp]
 case mv=>exact h.bind hs
 case pick=>exact aC (h.bind hs) λ_ h1=>bq h1 λ_ h2=>l7 h2 λ_ j=>⟨λe=>h.bind (j.1 e),λe=>h.bind (j.2 e)⟩
 case bin=>exact aC (h.bind hs) λ_ h1=>h.bind h1
 case G8=>exact aC (h.bind hs) λ_ h1=>h.bind h1
 case un=>exact h.bind hs
 case len=>exact h.bind hs
 case oY=>exact h.bind hs
 case qC=>exact aC (h.bind hs) λ_ h1=>h.bind h1
 case pX=>exact aC (h.bind hs) λ_ h1=>h.bind h1
 case qA=>exact aC (h.bind hs) λ_ h1=>h.bind h1
 case qB=>exact aC (h.bind hs) λ_ h1=>h.bind h1
 case oW=>exact h.bind hs
 case Iy=>exact h.bind hs
 case load=>exact h.bind hs
 case qm=>exact h.bind hs
 case Je=>exact aC (h.bind hs) λ_ h1=>h1.imp (λh1=>aC h1 λ_ ⟨L,h2,j⟩=>⟨L,h2,fU (h.qd j) λ_ l=>fU (h.qd l) λ_ n=>h.qd n⟩) fun⟨id,p,ob,s,e,k,L,g,h2,j⟩=>⟨id,p,ob,by omega,e,k,L,g,h2,fU (h.qd j) λ_ l=>fU (h.qd l) λ_ n=>h.qd n⟩
 case qJ=>exact aC (h.bind hs) λ_ h1=>bq h1 λ_ h1=>nQ h1 λ_ h1=>fU (h.qd h1) λ_ h1=>h.qd h1
 case ext=>exact h.bind hs
 case rR=>exact h.bind hs
 case build=>exact Ext.bindM (f:=λst (q:Nat×Nat×SX)=>(st.get q.2.2).map λa=>(q.1,q.2.1,a)) (λq y d=>by obtain⟨u,h1,h2⟩:=d_.1 d;rw[h.get h1,<-h2];rfl) hs
 case call=>exact Ext.bindM (f:=λst x=>(St.get st x).bind (je b.hp _)) (λq y d=>c _ q y d) hs
 case im=>exact aC (h.bind hs) λ_ ⟨f,cs,h1,h2,j⟩=>⟨f,cs,h1,h2,Ext.bindM (f:=λst x=>(St.get st x).bind (je b.hp _)) (λq y d=>c _ q y d) j⟩
 case qj=>exact h.bind hs
 case G3=>exact h.bind hs
 case bI own e sz len v=>
  cases own;.exact Ext.bindM (f:=λst x=>(St.get st x).bind AV.bF) (λq y d=>c _ q y d) hs
  omega
 case eo=>exact Ext.bindM (f:=λst x=>(St.get st x).bind AV.mr) (λq y d=>c _ q y d) hs
 case rQ=>exact Ext.bindM (λq y d=>h.get d) hs
 case lookup=>exact aC (h.bind hs) λ_ h1=>h.bind h1
 case sL=>exact aC (h.bind hs) λ_ h1=>h.bind h1
 case pM=>exact aC (h.bind hs) λ_ h1=>h.bind h1
 case mX=>exact aC (h.bind hs) λ_ h1=>bq h1 λ_ h1=>bQ h1 λ_ _ h1=>Ext.bindM (λq y d=>h.get d) h1
 case iface=>exact h.bind hs
inductive Sys(P:Program):List be->St->St->Prop
 |nil (st:St):Sys P [] st st
 |cons (o:be) (l:List be) (st st':St) (x:AV) (h:fM P o st x) (k:Sys P l (st.aE o.dst x) st'):Sys P (o::l) st st'
def Sys.app{P:Program}{l l':List be}{a b c:St}(h:Sys P l a b)(k:Sys P l' b c):Sys P (l++l') a c:=by induction h with|nil=>grind|cons o l st H x h _ E=>exact .cons o _ st c x h (E k)
def Sys.j6{P:Program}{m:Nat}{l L:List be}{a b:St}{K KP:St->Prop}(h:Sys P l a b)(k:j6 P m L b K KP):j6 P m (l++L) a K KP:=by induction h with|nil=>grind|cons o l st H x h _ E=>exact W.mk (mD h (E k))
def Sys.ze{P:Program}{m n:Nat}{l L:List be}{a b:St}{K KP:St->Prop}(h:Sys P l a b)(k:ze P m n L b K KP):ze P m (l.length+n) (l++L) a K KP:=by induction h with|nil=>grind|cons o l st H x h _ E=>rw[show(o::l).length+n=(l.length+n)+1 by grind];exact⟨x,h,E k⟩
def iV{P:Program}{m:Nat}{l:List be}{a b:St}{K KP:St->Prop}(h:gN m a b)(k:j6 P m l b K KP):j6 P m l a K KP:=by cases l with|nil=>exact W.from h k|cons o l=>exact W.from h k
def RC.QB:List Nat->RC->Bool
 |_,.nil=>true
 |A,.op d _ rest=>rest.QB (gm d++A)
 |_,.mz _ _=>false
 |A,.gb t _ ek ty _ _ dst rest=>kM A t&& !kM ek.fp t&&ty.sc&&ek.QB A&&rest.QB (dst::(ek.fp++A))
def RC.Pi:RC->Bool
 | .nil=>true
 | .op _ _ rest=>rest.Pi
 | .mz _ rest=>rest.Pi
 | .gb _ _ ek ty _ _ _ rest=>ty.sc&&ek.QB []&&ek.Pi&&rest.Pi
def Off(st:St)(g:Nat×Bool):Prop:=∃v,Av.look st.fr g.1=some (.v v)/\yv v≠some g.2
def Gl{P:Program}{st:St}{g:Nat×Bool}(h:Off st g)(d:Option Nat)(op:fh):fM P ⟨d,op,some g⟩ st (.v undef):=by obtain⟨v,h1,h2⟩:=h;exact⟨_,h1,v,rfl,λe=>absurd e h2,λ_=>rfl⟩
theorem um(d:Option Nat):(match d with|some d=>[d]|none=>[])=gm d:=by cases d<;>rfl
def Dd{P:Program}:∀(l:RC) (g:Nat×Bool) (A:List Nat) (st:St),l.QB A=true->Off st g->(∀k∈A,Av.look st.fr k=some (.v undef))->g.1∉l.fp->
 ∃a,Sys P (l.er (some g)) st a/\a.hp=st.hp/\(∀k,k∉l.fp->Av.look a.fr k=Av.look st.fr k)/\∀k,(k∈l.fp\/k∈A)->Av.look a.fr k=some (.v undef)
 | .nil,g,A,st,_,_,h,_=>⟨st,.nil st,rfl,λ_ _=>rfl,λk b=>h k (b.resolve_left (by simp[RC.fp]))⟩
 | .op d o rest,g,A,st,c,hg,h,hd=>by
  simp only[RC.QB]at c;simp only[RC.fp,um,f_,not_or]at hd;have n:∀k,Av.look (st.aE d (.v undef)).fr k=if d=some k then some (.v undef)else Av.look st.fr k:=λk=>fk st d _ k;have u:∀k,d=some k↔k∈gm d:=λk=>by grind[gm,h_,D_]
  obtain⟨a,h1,h2,w,x⟩:=Dd rest g (gm d++A) (st.aE d (.v undef)) c (by
   obtain⟨v,s,f⟩:=hg;refine⟨v,?_,f⟩;grind) (λk b=>by
   grind) hd.2
  refine⟨a,.cons _ _ st a (.v undef) (Gl hg d o.er) h1,by rw[h2];cases d<;>rfl,λk b=>?_,λk b=>?_⟩;.simp only[RC.fp,um,f_,not_or]at b;grind
  grind[RC.fp,um]
 | .mz _ _,_,_,_,c,_,_,_=>by cases c
 | .gb t want ek ty r alt dst rest,g,A,st,c,hg,h,hd=>by
  simp only[RC.QB,a_,z_]at c;obtain⟨⟨⟨⟨w1,w2⟩,F⟩,B⟩,C⟩:=c;have ht:t∈A:=yl.1 w1;have p:t∉ek.fp:=λe=>by grind[yl]
  simp only[RC.fp,f_,E_,not_or]at hd;obtain⟨st1,h1,h2,w,x⟩:=Dd ek (t,want) A st B ⟨undef,h t ht,by intro e;cases e⟩ h p;have j:Off st1 g:=by obtain⟨v,s,f⟩:=hg;exact⟨v,by grind,f⟩
  have n:∀k,Av.look (st1.aE (some dst) (.v undef)).fr k=if some dst=some k then some (.v undef)else Av.look st1.fr k:=λk=>fk st1 (some dst) _ k;obtain⟨a,y,z,D,E⟩:=Dd rest g (dst::(ek.fp++A)) (st1.aE (some dst) (.v undef)) C (by
   obtain⟨v,s,f⟩:=j;refine⟨v,?_,f⟩;grind) (λk b=>by
   grind) hd.2.2
  refine⟨a,h1.app (.cons _ _ _ a (.v undef) (Gl j _ _) y),by rw[z];exact h2,λk b=>?_,λk b=>?_⟩;.simp only[RC.fp,f_,E_,not_or]at b;grind
  grind[RC.fp]
def R2{t:Ty}{v:V}{x:t.den}(ht:t.sc=true)(h:cr t v=some x):v= .d t x:=by
 cases v with
 |d u y=>obtain⟨rfl,rfl⟩:=bP (h);rfl
 |nil u=>obtain⟨rfl,_⟩:=bP (h);cases ht
 |full u y=>obtain⟨rfl,_⟩:=bP (h);cases ht
 |agg vs=>unfold cr at h;cases t<;>first|(cases ht;done)|cases h
 |_=>grind[cr,iD]
section
variable {P:Program} {O:bh}
def GOn(g:Option (Nat×Bool))(s:S)(A:List Nat):Prop:=match g with
 |none=>True
 |some (t,want)=>lk s.fr t=some (.d .bool want)/\t∉A
theorem cK(s:S)(k:Nat):Av.look (enc s).fr k=(lk s.fr k).map a8:=mV s.fr k
theorem Vv{g:Option (Nat×Bool)}{s:S}{A:List Nat}{st:St}(hg:GOn g s A)(a:Ext st (enc s)){d:Option Nat}{op:fh}{x:AV}(h:jp P st op λy=>y=x):fM P ⟨d,op,g⟩ st x:=by cases g with|none=>exact h|some g=>obtain⟨t,want⟩:=g;have:Av.look st.fr t=some (.v (.bool want)):=a.fr t _ (by rw[cK,hg.1];rfl);exact⟨_,this,_,rfl,λ_=>h,λe=>absurd rfl e⟩
theorem wT(s:S)(d:Option Nat)(v:V)(k:Nat):lk (s.aE d v).fr k=if d=some k then some v else lk s.fr k:=by cases d with|none=>rfl|some j=>show(bif i_ k j then some v else lk s.fr k)=_;grind[fT]
theorem NQ{d:Option Nat}{k:Nat}:d=some k↔k∈gm d:=by cases d with|none=>simp[gm]|some j=>grind[gm]
theorem K0(hO:cx P O):∀(J:RC) (R:Type) (s:S) (κ kp:S->Option R) (r:R) (g:Option (Nat×Bool)) (st:St),J.wf P=true->J.mj=true->J.Pi=true->Ek O R J s κ kp=some r->Ext st (enc s)->GOn g s J.fp->
 ∃s' j,Sys P (J.er g) st j/\Ext j (enc s')/\κ s'=some r/\s'.hp=s.hp/\∀k,k∉J.fp->lk s'.fr k=lk s.fr k
 | .nil,R,s,κ,kp,r,g,st,_,_,_,h,p,_=>⟨s,st,.nil st,p,h,rfl,λ_ _=>rfl⟩
 | .mz _ _,_,_,_,_,_,_,_,_,hp,_,_,_,_=>by cases hp
 | .op d o rest,R,s,κ,kp,r,g,st,L,hp,T,h,p,hg=>by
  simp only[RC.wf,a_]at L;simp only[RC.mj,a_]at hp;simp only[RC.Pi]at T;obtain⟨v,h1,h2⟩:=qn hO L.1 hp.1 h;obtain⟨s',j,I,B,F,k4,k5⟩:=K0 hO rest R (s.aE d v) κ kp r g (st.aE d (a8 v)) L.2 hp.2 T h2 (by rw[gF];exact p.put d _) (by cases g with|none=>trivial|some g=>obtain⟨t,want⟩:=g;obtain⟨g1,Q⟩:=hg;simp only[RC.fp,um,f_,not_or]at Q;exact⟨by rw[wT,if_neg λe=>Q.1 (NQ.1 e)];omega,Q.2⟩)
  refine⟨s',j,.cons _ _ st j _ (Vv hg p (Ti p h1)) I,B,F,by rw[k4];cases d<;>rfl,λk l=>?_⟩;simp only[RC.fp,um,f_,not_or]at l;rw[k5 k l.2,wT,if_neg λe=>l.1 (NQ.1 e)]
 | .gb t want ek ty M alt dst rest,R,s,κ,kp,r,g,st,L,hp,T,h,p,hg=>by
  simp only[RC.wf,a_]at L;obtain⟨⟨⟨⟨w1,w2⟩,w3⟩,w4⟩,w5⟩:=L;simp only[RC.mj,a_]at hp;simp only[RC.Pi,a_]at T;obtain⟨⟨⟨b1,b2⟩,b3⟩,b4⟩:=T;simp only[Ek]at h;split at h
  .rename_i b va Y E;split at h
   .rename_i av H;obtain⟨w,H⟩:=aZ H;have qr:=R2 b1 H;subst qr;simp only[e_,S_]at w;have ht:t∉ek.fp:=λe=>by grind
    obtain⟨c,hc,h2⟩:=cP h;have ph:Av.look st.fr t=some (.v (.bool b)):=p.fr t _ (by rw[cK,Y];rfl);have N:∃st1,Sys P (ek.er (some (t,want))) st st1/\st1.hp=st.hp/\(∀k,lk s.fr k≠none->∀y,Av.look (enc s).fr k=some y->Av.look st1.fr k=some y)/\jp P st1 (FI t want M.er alt.er) λy=>y=a8 (.d ty c):=by
     have f:∀(st1:St) (x y:SX),Av.look st1.fr t=some (.v (.bool b))->(b=true->st1.get x=some (a8 (.d ty c)))->(b=false->st1.get y=some (a8 (.d ty c)))->jp P st1 (.pick (.tm t) x y) λy=>y=a8 (.d ty c):=λst1 x y A D e3=>⟨_,A,_,rfl,b,rfl,λe=>⟨_,D e,rfl⟩,λe=>⟨_,e3 e,rfl⟩⟩
     have on:b=want->Ek O ty.den ek s (λs'=>match s'.get M with|some v=>cr ty v|none=>none) (λ_=>none)=some c->(∃st1,Sys P (ek.er (some (t,want))) st st1/\st1.hp=st.hp/\(∀k,lk s.fr k≠none->∀y,Av.look (enc s).fr k=some y->Av.look st1.fr k=some y)/\jp P st1 (FI t want M.er alt.er) λy=>y=a8 (.d ty c)):=λC gc=>by
      obtain⟨s1,st1,I,B,F,k4,k5⟩:=K0 hO ek ty.den s _ _ c (some (t,want)) st w1 w2 b3 gc p ⟨by grind,ht⟩
      split at F
      .rename_i v hv;have:=R2 b1 F;subst this;have A:Av.look st1.fr t=some (.v (.bool b)):=B.fr t _ (by rw[cK,k5 t ht,Y];rfl);have D:st1.get M.er=some (a8 (.d ty c)):=B.get (aG w3 hv);refine⟨st1,I,by rw[B.hp,p.hp];grind[enc],λk l y hy=>B.fr k y ?_,?_⟩;.grind[cK]
       .cases want with|true=>exact f st1 _ _ A (λ_=>D) λe=>by grind|false=>exact f st1 _ _ A (λe=>by grind) λ_=>D
      grind
     have off:b≠want->av=c->(∃st1,Sys P (ek.er (some (t,want))) st st1/\st1.hp=st.hp/\(∀k,lk s.fr k≠none->∀y,Av.look (enc s).fr k=some y->Av.look st1.fr k=some y)/\jp P st1 (FI t want M.er alt.er) λy=>y=a8 (.d ty c)):=λC el=>by
      subst el
      obtain⟨st1,I,B,F,_⟩:=Dd (P:=P) ek (t,want) [] st b2 ⟨_,ph,λe=>C (av_ e)⟩ (λk l=>by grind) ht
      have A:Av.look st1.fr t=some (.v (.bool b)):=by grind
      have z:∀k,lk s.fr k≠none->∀y,Av.look (enc s).fr k=some y->Av.look st1.fr k=some y:=λk l y hy=>by rw[F k λe=>l (w k e)];exact p.fr k y hy
      have D:st1.get alt.er=some (a8 (.d ty av)):=by have:=aG w4 E;cases alt with|tm k=>have h0:lk s.fr k=some (.d ty av):=E;exact z k (by grind) _ this|_=>exact this
      refine⟨st1,I,B,z,?_⟩
      cases want with|true=>exact f st1 _ _ A (λe=>absurd e C) λ_=>D|false=>exact f st1 _ _ A (λ_=>D) λe=>absurd e C
     grind
    obtain⟨st1,q1,q2,q3,q4⟩:=N;have u:∀n a,g=some (n,a)->lk s.fr n=some (.d .bool a)/\n∉ek.fp/\n≠dst/\n∉rest.fp:=λn a e=>by subst e;obtain⟨g1,Q⟩:=hg;simp only[RC.fp,f_,E_,not_or]at Q;grind
    have ur:fM P ⟨some dst,(FI t want M.er alt.er),g⟩ st1 (a8 (.d ty c)):=by cases g with|none=>exact q4|some g=>obtain⟨n,a⟩:=g;obtain⟨A,_⟩:=u n a rfl;have:Av.look st1.fr n=some (.v (.bool a)):=q3 n (by grind) _ (by rw[cK,A];rfl);exact⟨_,this,_,rfl,λ_=>q4,λe=>absurd rfl e⟩
    have U:Ext (st1.aE (some dst) (a8 (.d ty c))) (enc (s.put dst (.d ty c))):=by
     refine⟨by show st1.hp=(enc s).hp;rw[q2,p.hp],λk y l=>?_⟩;rw[fk];rw[cK]at l;have e:=wT s (some dst) (.d ty c) k;rw[show s.aE (some dst) (.d ty c)=s.put dst (.d ty c)from rfl]at e;rw[e]at l;by_cases hd:some dst=some k;.grind
     .rw[if_neg hd]at l⊢;grind[cK]
    have wr:∀k,lk (s.put dst (.d ty c)).fr k=if some dst=some k then some (.d ty c)else lk s.fr k:=λk=>wT s (some dst) (.d ty c) k;obtain⟨s',j,I,B,F,k4,k5⟩:=K0 hO rest R (s.put dst (.d ty c)) κ kp r g _ w5 hp.2 b4 h2 U (by cases g with|none=>trivial|some g=>obtain⟨n,a⟩:=g;obtain⟨A,D,e3,e4⟩:=u n a rfl;exact⟨by grind,e4⟩)
    refine⟨s',j,q1.app (.cons _ _ _ j _ ur I),B,F,k4,λk l=>?_⟩;simp only[RC.fp,f_,E_,not_or]at l;grind
   grind
  grind
def RC.JL(m:Nat):RC->Bool
 | .nil=>true
 | .op _ _ rest=>rest.JL m
 | .mz l rest=>DD m l&&rest.JL m
 | .gb _ _ _ _ _ _ _ rest=>rest.JL m
theorem KJ{A:List Nat}{s s':S}(h:∀k,k∉A->lk s'.fr k=lk s.fr k):aT A s s':=λk a=>by grind
theorem J6:∀(a:RC) (g g':Option (Nat×Bool)),(a.er g).length=(a.er g').length
 | .nil,_,_=>rfl
 | .op d o rest,g,g'=>by simp only[RC.er,aI_,J6 rest g g']
 | .mz _ rest,g,g'=>by simp only[RC.er,J6 rest g g']
 | .gb t want ek ty r alt dst rest,g,g'=>by simp only[RC.er,ad_,aI_,J6 rest g g']
theorem WZ(hO:cx P O){t:Nat}{want:Bool}{ek rest:RC}{ty:Ty}{b alt:X}{dst:Nat}{R:Type}{s:S}{κ kp:S->Option R}{r:R}{st:St}(d:(RC.gb t want ek ty b alt dst rest).wf P=true)(k:(RC.gb t want ek ty b alt dst rest).Pi=true) (h:Ek O R (.gb t want ek ty b alt dst rest) s κ kp=some r) (c:Ext st (enc s)):∃s' a,Sys P (ek.er (some (t,want))++[⟨some dst,(FI t want b.er alt.er),none⟩]) st a/\Ext a (enc s')/\Ek O R rest s' κ kp=some r/\aT (ek.fp++[dst]) s s':=by simp only[RC.wf]at d;obtain⟨s',a,e,f,g,l,j⟩:=K0 hO (.gb t want ek ty b alt dst .nil) R s (λs'=>Ek O R rest s' κ kp) kp r none st (by grind[RC.wf]) (by grind[RC.mj]) (by grind[RC.Pi]) h c trivial;exact⟨s',a,e,f,g,KJ j⟩
theorem iQ(hO:cx P O){m:Nat}:∀(p:RC) (R:Type) (s:S) (κ kp:S->Option R) (r:R) (K KP:St->Prop),p.wf P=true->p.Pi=true->p.JL m=true->Ek O R p s κ kp=some r->
 (∀s',aT p.fp s s'->κ s'=some r->W m K (enc s'))->(∀s',aT p.fp s s'->kp s'=some r->KP (enc s'))->j6 P m (p.er none) (enc s) K KP
 | .nil,R,s,κ,kp,r,K,KP,_,_,_,h,c,_=>c s (aT.refl _ _) h
 | .mz l rest,R,s,κ,kp,r,K,KP,g,n,j,h,c,e=>by simp only[Ek]at h;simp only[RC.JL,a_]at j;obtain⟨u,y,h⟩:=xA h;.obtain⟨D,A⟩:=qX j.1 y;exact iV D (iQ hO rest R u κ kp r K KP g n j.2 h (λs' a f=>c s' ((A _).trans a) f) λs' a f=>e s' ((A _).trans a) f)
 | .op d o rest,R,s,κ,kp,r,K,KP,g,n,j,h,c,e=>by
  simp only[RC.wf,a_]at g;refine W.mk ?_;simp only[iL];have b:∀k,k∈gm d\/k∈rest.fp->k∈(RC.op d o rest).fp:=λk a=>by simp only[RC.fp,um,f_];exact a
  refine oo (Ej hO g.1 h) (λz ⟨u,h1,h2,x⟩=>?_) λz ⟨u,h1,h2,x⟩=>?_;.have v:=h2.sub (B:=(RC.op d o rest).fp) λk a=>b k (.inl a);exact iV h1.r6 (iQ hO rest R u κ kp r K KP g.2 n j x (λs' a f=>c s' (v.trans (a.sub λk a=>b k (.inr a))) f) λs' a f=>e s' (v.trans (a.sub λk a=>b k (.inr a))) f)
  .rw[h1];exact e u (h2.sub λk a=>b k (.inl a)) x
 | .gb t want ek ty C alt dst rest,R,s,κ,kp,r,K,KP,g,n,j,h,c,e=>by
  obtain⟨u,st1,E,F,H,I⟩:=WZ hO g n h (Ext.refl _);simp only[RC.wf,a_]at g;simp only[RC.Pi,a_]at n;have b:∀k,k∈ek.fp++[dst]\/k∈rest.fp->k∈(RC.gb t want ek ty C alt dst rest).fp:=λk a=>by simp only[RC.fp,f_,E_,List.not_mem_nil,or_false]at a⊢;grind
  have w:=I.sub (B:=(RC.gb t want ek ty C alt dst rest).fp) λk a=>b k (.inl a);have:=E.j6 (L:=rest.er none) (iV F.r6 (iQ hO rest R u κ kp r K KP g.2 n.2 j H (λs' a f=>c s' (w.trans (a.sub λk a=>b k (.inr a))) f) λs' a f=>e s' (w.trans (a.sub λk a=>b k (.inr a))) f));rw[af_]at this;exact this
def RC.drB:Nat->RC->Bool
 |0,_=>true
 |k+1,.op _ o rest=>o.mj&&rest.drB k
 |k+1,.gb _ _ ek _ _ _ _ rest=>J_ (ek.er none).length k&&rest.drB (k - (ek.er none).length)
 |_,_=>false
theorem T6(hO:cx P O){m:Nat}:∀(n:RC) (k:Nat) (R:Type) (s:S) (κ kp:S->Option R) (r:R) (K KP:St->Prop) (st:St),n.drB k=true->n.wf P=true->n.Pi=true->n.JL m=true->Ek O R n s κ kp=some r->Ext st (enc s)->(∀s',aT n.fp s s'->κ s'=some r->W m K (enc s'))->(∀s',aT n.fp s s'->kp s'=some r->KP (enc s'))->ze P m k (n.er none) st K KP:=by
 intro n;induction n with
 |nil=>intro k R s κ kp r K KP st hd f g p h j e c;cases k with|zero=>exact iV j.r6 (iQ hO .nil R s κ kp r K KP f g p h e c)|succ k=>cases hd
 |mz l rest _=>intro k R s κ kp r K KP st hd f g p h j e c;cases k with|zero=>have:=iV j.r6 (iQ hO (.mz l rest) R s κ kp r K KP f g p h e c);generalize RC.er none (RC.mz l rest)=L at this⊢;cases L<;>exact this|succ k=>cases hd
 |op d o rest z=>
  intro k R s κ kp r K KP st hd f g p h j e c;cases k with
  |zero=>exact iV j.r6 (iQ hO (.op d o rest) R s κ kp r K KP f g p h e c)|succ k=>
   simp only[RC.drB,a_]at hd;simp only[RC.wf,a_]at f;have a:∀k,k∈gm d\/k∈rest.fp->k∈(RC.op d o rest).fp:=λk b=>by simp only[RC.fp,f_];exact b
   obtain⟨v,h1,h2⟩:=qn hO f.1 hd.1 h;have w:=(aT.put s d v).sub λk b=>a k (.inl b);exact⟨a8 v,Ti j h1,z k R (s.aE d v) κ kp r K KP _ hd.2 f.2 g p h2 (by rw[gF];exact j.put d _) (λs' b u=>e s' (w.trans (b.sub λk b=>a k (.inr b))) u) λs' b u=>c s' (w.trans (b.sub λk b=>a k (.inr b))) u⟩
 |gb t want ek ty y alt dst rest _ z=>
  intro k R s κ kp r K KP st hd f g p h j e c;cases k with
  |zero=>have:=iV j.r6 (iQ hO (.gb t want ek ty y alt dst rest) R s κ kp r K KP f g p h e c);generalize RC.er none (RC.gb t want ek ty y alt dst rest)=L at this⊢;cases L<;>exact this|succ k=>
   simp only[RC.drB,a_]at hd;have A:=c_ hd.1;obtain⟨F,st1,B,C,D,E⟩:=WZ hO f g h j;simp only[RC.wf,a_]at f;simp only[RC.Pi,a_]at g;have a:∀k,k∈ek.fp++[dst]\/k∈rest.fp->k∈(RC.gb t want ek ty y alt dst rest).fp:=λk b=>by simp only[RC.fp]at b⊢;grind
   have x:=E.sub λk b=>a k (.inl b);have hl:=J6 ek (some (t,want)) none;have:=B.ze (z _ R F κ kp r K KP st1 hd.2 f.2 g.2 p D C (λs' b u=>e s' (x.trans (b.sub λk b=>a k (.inr b))) u) λs' b u=>c s' (x.trans (b.sub λk b=>a k (.inr b))) u);rw[af_]at this;rw[show(ek.er (some (t,want))++[(⟨some dst,FI t want y.er alt.er,none⟩:be)]).length+(k - (ek.er none).length)=k+1 by grind]at this
   exact this
end
def Sl{l:List Nat}{x:Nat}:kM l x=true↔x∈l:=by unfold kM;simp
theorem AR{l:List Nat}{x:Nat}(h:(!kM l x)=true):x∉l:=λa=>by rw[Sl.2 a]at h;cases h
theorem Ag(v:V):v.BL=(aU v).kids:=by
 cases v<;>try rfl
 rename_i c;have a:∀i,i∉(aU (.raw c)).kids:=λi b=>by have:=BV.qD b;grind[aU,wj]
 exact(List.eq_nil_iff_forall_not_mem.2 a).symm
def EX(vs:List V):vs.flatMap V.BL=(vs.map aU).flatMap BV.kids:=by induction vs with|nil=>rfl|cons v vs a=>grind[Ag]
def uA(v:V):v.kids=(a8 v).kids:=by
 cases a:v.ID
 .rw[lc a];have:v.kids=v.BL:=by cases v<;>first|rfl|cases a
  rw[this];exact Ag v
 .cases v with|agg vs=>exact EX vs|dC vs=>exact EX vs|_=>cases a
def Ai(o:Ob):o.kids=(bT o).kids:=by
 cases o with
 |box t cs=>exact EX cs|tree e k t xs h=>cases h with|none=>rfl|some q=>obtain⟨i,j,v⟩:=q;exact Ag v
 |_=>rfl
theorem uR(s:S)(p:PO):touch (enc s) p.so=Gp s p.so.rd p.o.er.lA:=by unfold touch Gp;congr 1;grind[cK,nE]
def zdJ{o:lQ}:o.er.hf=true↔∃x,o= .mv x:=by cases o<;>simp[lQ.er,fh.hf]
def Gn(s:S)(p:PO)(h2:p.rd=p.so.rd)(c:p.lA=p.o.er.lA):mF s p=(match p.b with|true=>d7 (enc s) p.so|false=>touch (enc s) p.so):=by
 unfold mF;cases d:p.b with
 |false=>grind[uR]|true=>
  simp only[d7];by_cases a:(∃x,p.o= .mv x)/\p.g=none;.obtain⟨⟨x,b⟩,hg⟩:=a;have:p.so.op.hf=true/\p.so.gd=none:=⟨by show p.o.er.hf=true;rw[b];rfl,hg⟩;grind
  .have:¬(p.so.op.hf=true/\p.so.gd=none):=λh=>a ⟨zdJ.1 h.1,h.2⟩;rw[uR];grind
def RU{r:Av.Rec}{T:List Nat}{p:PO}(h:WB r T p.so.rd p.o.er.lA p.d p.b=true):comm r T p.so p.b:=by
 unfold WB at h;simp only[a_]at h;obtain⟨⟨⟨h1,h2⟩,d⟩,a⟩:=h;refine⟨λt ht=>?_,λt ht=>?_,λt ht=>?_,λb t ht=>?_,λb=>?_⟩;.rw[ht]at h1;simp only[a_]at h1;refine⟨AR h1.1,λe=>?_⟩;have c:p.d=some t:=e;grind[X_]
 .have c:p.d=some t:=ht;grind[AR]
 .grind[AR]
 .rw[b]at a;exact AR (e_.1 a t ht)
 grind[AR]
def PO.wf(P:Program)(p:PO):Bool:=p.o.wf P&&decide (p.rd=p.so.rd)&&decide (p.lA=p.o.er.lA)&&(match p.b with
 |true=>p.d.isSome&&(p.o.mj||(p.o.zeB&&p.g.isNone))
 |false=>p.o.exB)
def Rk(a:List (List Nat)):List PO->Bool
 |[]=>true
 |p::l=>l.all (λq=>(a.getD q.j []).contains p.j||kM q.us p.j)&&Rk a l
def nz(l:List PO):List Nat:=l.flatMap λp=>match p.d with|some d=>[d]|none=>[]
section
variable {R:Type} {P:Program} {O:bh}
theorem Y8(after:List (List Nat)):∀l,Rk (G2 after) l=Rk (gD [] after) l
 |[]=>rfl
 |p::l=>by simp only[Rk,C1,Y8 after l]
theorem tU{s:S}{t:Nat}{v:V}(h:lk s.fr t=some v)(k:Nat):lk (s.put t v).fr k=lk s.fr k:=by show lk ((t,v)::s.fr) k=_;grind[lk,b_]
theorem Di{s:S}{t:Nat}{v:V}(h:lk s.fr t=some v):L3 (enc (s.put t v)) (enc s):=⟨rfl,λk=>by rw[cK,cK,tU h]⟩
theorem nk{s:S}{t:Nat}{v:V}(h:lk s.fr t=some v)(A:List Nat):aT A s (s.put t v):=λk _=>by grind[tU]
def ldS(F:List Nat)(ld:Option (Ty×Nat×Nat×V))(hp:List aL):Prop:=∃t id off v,ld=some (t,id,off,v)/\∃s':S,hp=s'.hp.map bT/\(∀j∈ES s' id,j∈F)/\FR s'.hp t id off=some v
def Oo(a:qV):Av.Rec×(List aL->Prop):=(a.r,ldS a.r.F a.ld)
theorem YH{k:Option R}{r:R}{v a:V}(h:YG k v a=some r):v=a/\k=some r:=by
 unfold YG at h;split at h
 .split at h;.grind[J4,bA]
  grind
 .grind[b_]
 .grind[b_]
 grind
theorem uN{T us:List Nat}{s':S}{k:Option R}{r:R}:∀{A:List qV},reL T us s' k A=some r->k=some r/\∀a∈A,kM us a.r.i=true->(∀i∈T,i∉a.r.F)\/ldS a.r.F a.ld (s'.hp.map bT)
 |[],h=>⟨h,λa p=>by grind⟩
 |a::A,h=>by
  unfold reL at h;cases hc:(!kM us a.r.i||T.all (λt=> !kM a.r.F t))
  .rw[hc]at h;simp only[cond_false]at h;split at h
   .rename_i t id off v hl;split at h
    .rename_i s n;obtain⟨h1,h2⟩:=aZ h;obtain⟨rfl,f⟩:=YH h2;obtain⟨d,g⟩:=uN f;refine⟨d,λb c e=>?_⟩;rcases E_.1 c with rfl|c;.exact .inr ⟨t,id,off,v,hl,s',rfl,λj l=>Sl.1 (e_.1 h1 j l),n⟩
     grind
    grind
   grind
  .rw[hc]at h;simp only[cond_true]at h;obtain⟨d,g⟩:=uN h;refine⟨d,λb c e=>?_⟩;rcases E_.1 c with rfl|c;.simp only[e,ak_,aj_]at hc;grind[AR,e_]
   grind
theorem zch(s:S)(hp:List Ob)(x:X):S.get ⟨s.fr,hp⟩ x=s.get x:=by cases x<;>rfl
theorem QH{d:Option Nat}{t:Ty}{x:X}{s:S}{hp:List Ob}{id off:Nat}{v:V}{kp:S->Option S}(b:s.get x=some (.ptr id off))(a:FR hp t id off=some v): aY O d (.load t x) ⟨s.fr,hp⟩ (λs=>some s) kp=some (S.aE ⟨s.fr,hp⟩ d v):=by simp only[aY,zch,loadT];grind[FR]
theorem T8(hO:cx P O){C:List (List Nat)}{K:St->Prop}{KC:Prop}:∀(l:List PO) (A:List qV) (s:S) (κ kp:S->Option R) (r:R),l.all (PO.wf P)=true->Rk C l=true->(∀a∈A,∀q∈l,(C.getD q.j []).contains a.r.i=true\/kM q.us a.r.i=true)->sM O A l s κ kp=some r->(∀s',aT (nz l) s s'->κ s'=some r->K (enc s'))->(∀s',aT (nz l) s s'->kp s'=some r->KC)->rY P (λi j=> !(C.getD j []).contains i) K KC (A.map Oo) (l.map λp=>(p.j,p.b,p.so)) (enc s):=by
 intro l;induction l with
 |nil=>intro A s κ kp r _ _ _ h H _;exact⟨_,L3.refl _,H s (aT.refl _ _) h⟩|cons p l ih=>
  intro A s0 κ kp r hw hu hA h BT Bx;simp only[r_,a_]at hw;obtain⟨JT,Bk⟩:=hw;simp only[Rk,a_,e_,K_]at hu;obtain⟨SW,At⟩:=hu;simp only[PO.wf,a_,decide_eq_true_eq]at JT;obtain⟨⟨⟨w1,w2⟩,w3⟩,w4⟩:=JT;have f:∀k,k∈gm p.d\/k∈nz l->k∈nz (p::l):=λk c=>by unfold nz at c⊢;rw[ah_,f_];refine c.imp (λh=>?_) id;cases hd:p.d<;>rw[hd]at h<;>exact h
  have DM:∀a∈A,∀q∈l,(C.getD q.j []).contains a.r.i=true\/kM q.us a.r.i=true:=λa F q I=>hA a F q (x_ _ I);have z:∀{X:Av.Rec×(List aL->Prop)->Prop},(∀a∈A,X (Oo a))->∀r∈A.map Oo,X r:=λh r hr=>by grind
  have GS:∀a∈A,(!(C.getD p.j []).contains a.r.i)=true->kM p.us a.r.i=true:=λa F Q=>by grind
  have Fr:∀s:S,(p.g=none\/∃t want,p.g=some (t,want)/\lk s.fr t=some (.d .bool want))->Ad A s p=true->aY O p.d p.o s (λs'=>Va A s s' p (sM O (vA A s s' p) l s' κ kp)) kp=some r->(∀s',aT (nz (p::l)) s s'->κ s'=some r->K (enc s'))->(∀s',aT (nz (p::l)) s s'->kp s'=some r->KC)->rY P (λi j=> !(C.getD j []).contains i) K KC (A.map Oo) ((p::l).map λp=>(p.j,p.b,p.so)) (enc s):=by
   intro s hg h1 h2 H L;simp only[Ad,a_]at h1;obtain⟨⟨⟨c1,c2⟩,c3⟩,c4⟩:=h1;rw[w2,w3]at c1;simp only[vA,Va,w2,w3]at h2;have hT:=Gn s p w2 w3;have g:∀a∈A,(!(C.getD p.j []).contains a.r.i)=true->comm a.r (match p.b with|true=>d7 (enc s) p.so|false=>touch (enc s) p.so) p.so p.b:=λa F Q=>by
    have:=e_.1 c1 a F;simp only[K_]at this;rcases hA a F p (w_ ..)with h3|h3;.grind
    .rw[h3]at this;rcases this with h4|h4;.grind
     .rw[<-hT];exact RU h4
   have PJ:∀{X X':St->Prop},cH P p.d p.o.er (enc s) X X'->iL P p.so (enc s) X X':=fun{X X'} hx=>by
    unfold iL;rcases hg with hg|⟨t,want,hg,hl⟩;.rw[show p.so.gd=none from hg];exact hx
    .rw[show p.so.gd=some (t,want)from hg];exact⟨_,by rw[cK,hl];rfl,_,rfl,λ_=>hx,λM=>absurd rfl M⟩
   have Rg:∀{x:AV},jp P (enc s) p.o.er (λy=>y=x)->fM P p.so (enc s) x:=fun{x} hx=>by
    unfold fM;rcases hg with hg|⟨t,want,hg,hl⟩;.rw[show p.so.gd=none from hg];exact hx
    .rw[show p.so.gd=some (t,want)from hg];exact⟨_,by rw[cK,hl];rfl,_,rfl,λ_=>hx,λM=>absurd rfl M⟩
   cases hb:p.b with
   |false=>
    rw[hb]at w4 h2 g;simp only[cond_false]at h2;simp only[n_,hb];refine⟨z g,?_⟩;have hx:=Qe hO w1 w4 c3 h2;refine PJ (oo hx (λRM ⟨s',e1,T,U⟩=>?_) λRM ⟨s',e1,T,U⟩=>L s' (T.sub λk c=>f k (.inl c)) U);rw[e1];obtain⟨U,e9⟩:=uN U;refine⟨z λa F Q=>?_,?_⟩;.rw[uR];exact e9 a F (GS a F Q)
    exact ih A s' κ kp r Bk At DM U (λB c D=>H B ((T.sub λk c=>f k (.inl c)).trans (c.sub λk c=>f k (.inr c))) D) λB c D=>L B ((T.sub λk c=>f k (.inl c)).trans (c.sub λk c=>f k (.inr c))) D
   |true=>
    rw[hb]at w4 h2 g c2 hT;simp only at g hT;simp only[a_]at w4;obtain⟨Pa,PB⟩:=w4;obtain⟨dk,ur⟩:=am_.1 Pa;simp only[cond_true]at h2;simp only[ak_,aj_]at c2;simp only[n_,hb];have PA:∃E v s',rM P p.so (enc s) E/\E.x=a8 v/\E.slot.map (·.1)=xi p.o/\enc s'=(enc s).app p.d E/\lk s'.fr dk=some v/\aT (gm p.d) s s'/\sM O (A++[⟨⟨p.j,p.d,p.so.rd,xi p.o,On s s' p.d (mF s p),Vb s s' p.so.rd p.d⟩,KL s s' p⟩]) l s' κ kp=some r:=by
     rcases Bool.or_eq_true_iff.1 PB with N|Y
     .obtain⟨v,e1,T⟩:=qn hO w1 N h2;have wr:xi p.o=none:=by cases I:p.o<;>first|rfl|(rw[I]at N;cases N)
      refine⟨⟨a8 v,none⟩,v,s.aE p.d v,Rg e1,rfl,by grind,gF _ _ _,?_,aT.put _ _ _,T⟩;rw[ur];simp[wT,if_true]
     .simp only[a_]at Y;obtain⟨Y,el⟩:=Y;have el:=S_.1 el;cases I:p.o<;>(try (rw[I]at Y;cases Y;done))
      rename_i k op;rw[I]at h2 w1;obtain⟨ob,v,e1,T⟩:=RE (P:=P) (k:=k) (op:=op) w1 h2;refine⟨⟨a8 v,some (k,bT ob)⟩,v,_,?_,rfl,rfl,?_,?_,(aT.fr (s':=⟨s.fr,setAt s.hp k ob⟩) rfl).trans (aT.put _ p.d v),T⟩
      .have:p.so=⟨p.d,.uq k op.er,none⟩:=by unfold PO.so;rw[I,el];rfl
       grind
      .rw[gF,gR];rfl
      .rw[ur];simp[wT,if_true]
    obtain⟨E,v,s',e1,T,U,e4,e5,e6,e7⟩:=PA;have So:Sk s' p.d=v.kids:=by unfold Sk;grind
    have Fk:∀i∈E.x.kids,i∈On s s' p.d (mF s p):=λi n=>by rw[T,<-uA]at n;exact f_.2 (.inr (by grind))
    have DP:∀t∈p.so.rd,∀y,Av.look (enc s).fr t=some y->∀i∈y.kids,i∈Vb s s' p.so.rd p.d:=λt ht y J i n=>by rw[cK]at J;refine f_.2 (.inl (F_.2 ⟨t,ht,?_⟩));cases hl:lk s.fr t with|none=>grind|some w=>rw[hl]at J;simp only[aa_,h_]at J;rw[<-J,<-uA]at n;omega
    have Nd:zdn (A.map Oo) (ldS (On s s' p.d (mF s p)) (KL s s' p)) (Vb s s' p.so.rd p.d) E:=λk ob c=>by
     have DA:xi p.o=some k:=by rw[<-U,c];rfl
     refine⟨λj hj=>?_,λhp D=>?_,z λa F hp hf D=>?_⟩;.unfold rM at e1;rw[c]at e1;obtain⟨_,u,hu,hm⟩:=e1;obtain⟨t,ht,y,J,Pc⟩:=YR (ob:=ob) (oq hm λo m h=>h) j hj;exact DP t (by unfold be.rd;rw[hu];exact f_.2 (.inl ht)) y J j Pc
     .obtain⟨t,id,off,v,hl,_⟩:=D;cases I:p.o<;>rw[I]at DA<;>try (cases DA;done)
      unfold KL at hl;rw[I]at hl;cases hl
     .obtain⟨t,id,off,v,hl,B,CT,gc,qr⟩:=D;have M:id≠k:=λe=>by unfold zbQ at c4;rw[DA]at c4;have:=e_.1 c4 a F;rw[hl,e]at this;simp at this
      have DQ:(B.hp.set k .free)[id]? =B.hp[id]? :=t_ M.symm;refine⟨t,id,off,v,hl,⟨B.fr,B.hp.set k .free⟩,?_,?_,?_⟩
      .have:(hp.set k ob).set k .free=hp:=by
        rw[List.set_set];refine ag_ λi=>?_;by_cases n:k=i;.subst n;rw[A_ (l_.1 hf).1,hf]
        .rw[t_ n]
       rw[Q_,<-CT];exact this.symm
      .unfold ES at gc⊢;rw[DQ];omega
      .unfold FR at qr⊢;rw[DQ];omega
    refine⟨z g,E,On s s' p.d (mF s p),Vb s s' p.so.rd p.d,ldS (On s s' p.d (mF s p)) (KL s s' p),e1,⟨λi n=>?_,Fk⟩,⟨λi n=>?_,DP⟩,λMT hS CD=>?_,Nd,?_⟩;.rw[<-hT]at n;have Dg:=e_.1 c2 i n;have ph:i<s.hp.length:=c_ Dg;refine⟨f_.2 (.inl (f_.2 (.inl n))),_,by rw[bL,g_ ph];rfl,λj hj=>?_⟩;rw[<-Ai]at hj;refine f_.2 (.inl (f_.2 (.inr (F_.2 ⟨i,n,?_⟩))));unfold ES;grind
    .rw[T,<-uA]at n;exact f_.2 (.inr (by grind))
    .obtain⟨t,id,off,v2,hl,B,CT,gc,qr⟩:=hS;unfold KL at hl;split at hl;case h_2=>grind
     rename_i t' x d ho el hd;split at hl;case h_2=>grind
     rename_i Th RT Vc hx Hx;cases hl;rw[ur]at hd;cases hd;rw[e5]at Hx;cases Hx;have wr:E.slot=none:=by rw[ho]at U;cases hs:E.slot with|none=>rfl|some q=>rw[hs]at U;cases U
     have DE:p.so=⟨some dk,.load t.sz t.ag x.er,none⟩:=by unfold PO.so;rw[ho,el,ur];rfl
     rw[ho]at w1;obtain⟨v3,g1,g2⟩:=qn (P:=P) (O:=O) hO w1 (by rfl) (QH (O:=O) (d:=some dk) (t:=t) (kp:=λ_=>none) hx qr);have RK:v3=v:=by have:=congrArg (λs:S=>lk s.fr dk) (av_ g2);simpa only[wT,if_true,h_]using this
     subst RK;have Pb:∀i∈d7 MT p.so,i=id:=λi n=>by
      rw[DE]at n;unfold d7 at n;rw[if_neg (λh=>by grind)]at n;unfold touch at n;simp only[fh.lA,au_]at n;obtain⟨k,c,h0⟩:=F_.1 n;have DS:k∈x.er.rd:=by simpa[be.rd,fh.rd]using c
      rw[CD k (by grind),cK]at h0;cases x with
      |tm k0=>
       have:k=k0:=by simpa[X.er,SX.rd]using DS
       subst this;rw[show lk s.fr k=some (.ptr id off)from hx]at h0;exact D_.1 h0
      |_=>cases DS
     refine⟨?_,λi n=>?_,Fk⟩;.unfold rM;rw[wr,DE,T];refine zh ⟨λk c y J=>?_,λk c y J i n ob Fm=>by rw[CT];exact Fm⟩ g1;rw[CD k (by rw[DE];exact f_.2 (.inl c))];exact J
     .have h1:=n;rw[qM CD,<-hT]at h1;have:=Pb i n;subst this;refine⟨f_.2 (.inl (f_.2 (.inl h1))),?_⟩;unfold FR at qr;split at qr;case h_2=>grind
      rename_i tid cs Fm;refine⟨bT (.box tid cs),by grind,λj hj=>gc j ?_⟩;rw[<-Ai]at hj;unfold ES;grind
    .rw[U];have:=ih _ s' κ kp r Bk At (λa F q I=>?_) e7 (λB c D=>H B ((e6.sub λk c=>f k (.inl c)).trans (c.sub λk c=>f k (.inr c))) D) λB c D=>L B ((e6.sub λk c=>f k (.inl c)).trans (c.sub λk c=>f k (.inr c))) D;.rw[v_,e4]at this;exact this
     grind
  have DB:∀(s:S) t want b,p.g=some (t,want)->lk s.fr t=some (.d .bool b)->(want==b)=false->Ad A s p=true->Va A s (s.aE p.d (.raw Go.undef)) p (sM O (vA A s (s.aE p.d (.raw Go.undef)) p) l (s.aE p.d (.raw Go.undef)) κ kp)=some r->(∀s',aT (nz (p::l)) s s'->κ s'=some r->K (enc s'))->(∀s',aT (nz (p::l)) s s'->kp s'=some r->KC)->rY P (λi j=> !(C.getD j []).contains i) K KC (A.map Oo) ((p::l).map λp=>(p.j,p.b,p.so)) (enc s):=by
   intro s t want b hg hl M h1 h2 H L;simp only[Ad,a_]at h1;obtain⟨⟨⟨c1,c2⟩,c3⟩,c4⟩:=h1;rw[w2,w3]at c1;simp only[vA,Va,w2,w3]at h2;have hT:=Gn s p w2 w3;have g:∀a∈A,(!(C.getD p.j []).contains a.r.i)=true->comm a.r (match p.b with|true=>d7 (enc s) p.so|false=>touch (enc s) p.so) p.so p.b:=λa F Q=>by
    have:=e_.1 c1 a F;simp only[K_]at this;rcases hA a F p (w_ ..)with h3|h3;.grind
    .rw[h3]at this;rcases this with h4|h4;.grind
     .rw[<-hT];exact RU h4
   have KK:yv (.bool b)≠some want:=λe=>by
    have:b=want:=by simpa[yv]using e
    grind
   have e4:enc (s.aE p.d (.raw Go.undef))=(enc s).aE p.d (.v Go.undef):=gF _ _ _;have e6:aT (gm p.d) s (s.aE p.d (.raw Go.undef)):=aT.put _ _ _;cases hb:p.b with
   |false=>
    rw[hb]at h2 g;simp only[cond_false]at h2;simp only[n_,hb];refine⟨z g,?_⟩;unfold iL;rw[show p.so.gd=some (t,want)from hg];obtain⟨h2,e9⟩:=uN h2;refine⟨_,by rw[cK,hl];rfl,_,rfl,λhe=>absurd he KK,λ_=>?_⟩;show V6 _ _ _ _ ((enc s).aE p.d (.v Go.undef)).hp/\rY P _ K KC (A.map Oo) _ ((enc s).aE p.d (.v Go.undef));rw[<-e4];refine⟨z λa F Q=>?_,?_⟩;.rw[uR];exact e9 a F (GS a F Q)
    exact ih A _ κ kp r Bk At DM h2 (λB c D=>H B ((e6.sub λk c=>f k (.inl c)).trans (c.sub λk c=>f k (.inr c))) D) λB c D=>L B ((e6.sub λk c=>f k (.inl c)).trans (c.sub λk c=>f k (.inr c))) D
   |true=>
    rw[hb]at w4 h2 g c2 hT;simp only at g hT;simp only[a_]at w4;simp only[cond_true]at h2;simp only[ak_,aj_]at c2;simp only[n_,hb];have wr:xi p.o=none:=by
     have N:p.o.mj=true:=by grind
     cases I:p.o<;>first|rfl|(rw[I]at N;cases N)
    have SM:KL s (s.aE p.d (.raw Go.undef)) p=none:=by unfold KL;grind
    refine⟨z g,⟨.v Go.undef,none⟩,On s (s.aE p.d (.raw Go.undef)) p.d (mF s p),Vb s (s.aE p.d (.raw Go.undef)) p.so.rd p.d,ldS (On s (s.aE p.d (.raw Go.undef)) p.d (mF s p)) (KL s (s.aE p.d (.raw Go.undef)) p),?_,⟨λi n=>?_,λi n=>?_⟩,⟨λi n=>(by cases n),λt ht y J i n=>?_⟩,λMT hS=>?_,λk ob e=>(by cases e),?_⟩;.show fM P p.so (enc s) (.v Go.undef);unfold fM;rw[show p.so.gd=some (t,want)from hg];exact⟨_,by rw[cK,hl];rfl,_,rfl,λhe=>absurd he KK,λ_=>rfl⟩
    .rw[<-hT]at n;have Dg:=e_.1 c2 i n;have ph:i<s.hp.length:=c_ Dg;refine⟨f_.2 (.inl (f_.2 (.inl n))),_,by rw[bL,g_ ph];rfl,λj hj=>?_⟩;rw[<-Ai]at hj;refine f_.2 (.inl (f_.2 (.inr (F_.2 ⟨i,n,?_⟩))));unfold ES;grind
    .cases n
    .rw[cK]at J;refine f_.2 (.inl (F_.2 ⟨t,ht,?_⟩));cases hl:lk s.fr t with|none=>grind|some w=>rw[hl]at J;simp only[aa_,h_]at J;rw[<-J,<-uA]at n;omega
    .obtain⟨_,_,_,_,hl,_⟩:=hS;grind
    .have:=ih _ _ κ kp r Bk At (λa F q I=>?_) h2 (λB c D=>H B ((e6.sub λk c=>f k (.inl c)).trans (c.sub λk c=>f k (.inr c))) D) λB c D=>L B ((e6.sub λk c=>f k (.inl c)).trans (c.sub λk c=>f k (.inr c))) D;.rw[v_,e4]at this;show rY P _ K KC (A.map Oo++[(⟨p.j,p.d,p.so.rd,none,_,_⟩,_)]) _ ((enc s).aE p.d (.v Go.undef));rw[<-wr];exact this
     grind
  simp only[sM]at h;cases hg:p.g with
  |none=>grind|some q=>
   obtain⟨t,want⟩:=q;rw[hg]at h;simp only at h;split at h
   .rename_i b hl;rcases DH:(want==b)with _|_
    .rw[DH]at h;have hb:b= !want:=by cases b<;>cases want<;>first|rfl|grind
     subst hb;obtain⟨h1,h2⟩:=aZ h;refine qK _ _ _ _ (Di hl) ?_;exact DB _ t want _ hg (by rw[tU hl];omega) DH h1 h2 (λs' c=>BT s' ((nk hl _).trans c)) λs' c=>Bx s' ((nk hl _).trans c)
    .rw[DH]at h;have:want=b:=by grind
     subst this;obtain⟨h1,h2⟩:=aZ h;refine qK _ _ _ _ (Di hl) ?_;exact Fr _ (.inr ⟨t,want,hg,by rw[tU hl];omega⟩) h1 h2 (λs' c=>BT s' ((nk hl _).trans c)) λs' c=>Bx s' ((nk hl _).trans c)
   grind
theorem Al(hO:cx P O){m:Nat}{K KP:St->Prop}:∀(l:List PO) (s:S) (κ kp:S->Option R) (r:R),l.all (λp=>p.o.wf P)=true->VB O l s κ kp=some r->
 (∀s',aT (nz l) s s'->κ s'=some r->W m K (enc s'))->(∀s',aT (nz l) s s'->kp s'=some r->KP (enc s'))->j6 P m (l.map PO.so) (enc s) K KP
 |[],s,κ,kp,r,_,h,j,_=>j s (aT.refl _ _) h
 |p::l,s0,κ,kp,r,z,h,v,u=>by
  rw[r_,a_]at z;have f:∀k,k∈gm p.d\/k∈nz l->k∈nz (p::l):=λk d=>by simp only[nz,ah_,f_];exact d
  have F:∀(s:S),(∀s',aT (nz (p::l)) s s'->κ s'=some r->W m K (enc s'))->(∀s',aT (nz (p::l)) s s'->kp s'=some r->KP (enc s'))->aY O p.d p.o s (λs'=>VB O l s' κ kp) kp=some r->cH P p.d p.o.er (enc s) (λst=>j6 P m (l.map PO.so) st K KP) KP:=by
   intro s j n h
   refine oo (Ej hO z.1 h) (λy ⟨E,h1,h2,A⟩=>?_) λy ⟨E,h1,h2,A⟩=>?_
   .have g:=h2.sub (B:=nz (p::l)) λk d=>f k (.inl d);exact iV h1.r6 (Al hO l E κ kp r z.2 A (λs' d x=>j s' (g.trans (d.sub λk d=>f k (.inr d))) x) λs' d x=>n s' (g.trans (d.sub λk d=>f k (.inr d))) x)
   .rw[h1];exact n E (h2.sub λk d=>f k (.inl d)) A
  have skip:∀(s:S),(∀s',aT (nz (p::l)) s s'->κ s'=some r->W m K (enc s'))->(∀s',aT (nz (p::l)) s s'->kp s'=some r->KP (enc s'))->VB O l (s.aE p.d (.raw Go.undef)) κ kp=some r->j6 P m (l.map PO.so) ((enc s).aE p.d (.v Go.undef)) K KP:=by
   intro s j n h
   have J:enc (s.aE p.d (.raw Go.undef))=(enc s).aE p.d (.v Go.undef):=gF _ _ _
   have L:aT (gm p.d) s (s.aE p.d (.raw Go.undef)):=aT.put _ _ _
   have g:=L.sub (B:=nz (p::l)) λk d=>f k (.inl d)
   rw[<-J]
   exact Al hO l _ κ kp r z.2 h (λs' d x=>j s' (g.trans (d.sub λk d=>f k (.inr d))) x) λs' d x=>n s' (g.trans (d.sub λk d=>f k (.inr d))) x
  show W m (λst=>iL P p.so st (λy=>j6 P m (l.map PO.so) y K KP) KP) (enc s0);simp only[VB]at h;split at h;.rename_i hg;refine W.mk ?_;unfold iL;rw[show p.so.gd=none from hg];exact F s0 v u h
  .rename_i t want hg;split at h
   .rename_i b hl;have e:gN m (enc s0) (enc (s0.put t (.d .bool b))):=λc a w _ hr=>oK.congr (Di hl).1 (Di hl).2 hr;refine W.to _ e ?_;unfold iL;rw[show p.so.gd=some (t,want)from hg];have D:Av.look (enc (s0.put t (.d .bool b))).fr t=some (.b (.pv (.sc (.bool b)))):=by rw[cK,tU hl,hl];rfl
    have H:∀s',aT (nz (p::l)) (s0.put t (.d .bool b)) s'->κ s'=some r->W m K (enc s'):=λs' d=>v s' ((nk hl _).trans d);have I:∀s',aT (nz (p::l)) (s0.put t (.d .bool b)) s'->kp s'=some r->KP (enc s'):=λs' d=>u s' ((nk hl _).trans d);refine⟨_,D,.bool b,rfl,λC=>?_,λC=>?_⟩;.cases b<;>cases want<;>first|(exact F _ H I h)|(exact absurd C (by decide))
    .cases b<;>cases want<;>first|(exact skip _ H I h)|(exact absurd rfl C)
   grind
theorem Jl{m:Nat}{s:S}:∀(r:Nat),gN m (enc s) (enc ⟨s.fr,s.hp++O_ r .free⟩)
 |0=>by simp[List.replicate_zero,au_,gN.refl]
 |r+1=>by
  refine(Jl r).trans ?_;rintro c a w _ ⟨θ,D,b⟩;refine⟨θ++[.no],D,?_⟩;have:=b.push (l:=.no) (o:=.free) trivial λg hg=>by cases hg
  rw[List.replicate_succ',<-af_];have e:=tv ⟨s.fr,s.hp++O_ r .free⟩ .free;simp only at e;rw[e];exact this
theorem Xj{pre:List PO}(hn:(pre.map (·.j)).Nodup){p:PO}(hp:p∈pre)(a:p.j<pre.length)(tl:List be):(HS pre++tl).getD p.j default=p.so:=by
 have hl:(HS pre).length=pre.length:=by simp[HS]
 have b:pre.find? (λq=>i_ q.j p.j)=some p:=by
  clear hl a;induction pre with
  |nil=>grind|cons q pre c=>
   rcases E_.1 hp with rfl|hp;.simp
   grind[b_]
 grind[HS]
end
def zdd(xs:List (Nat×Sh)):Bool:=xs.all λx=>x.2.zB
def TC.wf(P:Program)(m:Nat):TC->Bool
 | .region ops=>ops.wf P&&ops.Pi&&ops.JL m
 | .draw k ops _=>ops.wf P&&ops.Pi&&ops.JL m&&ops.drB k
 | .kq _ pre tl af=>tl.wf P&&tl.Pi&&tl.JL m&&pre.all (PO.wf P)&&Rk (G2 af) pre&&decide (pre.map (·.j)).Nodup&&pre.all (λp=>decide (p.j<pre.length))
 | .HV pre=>pre.all λp=>p.o.wf P
 | .seq a b=>a.wf P m&&b.wf P m
 | .cond x a b=>x.wf&&a.wf P m&&b.wf P m
 | .block _ a=>a.wf P m
 | .loop sh xs a=>sh.zB&&zdd xs&&a.wf P m
 | .mz l a=>DD m l&&a.wf P m
 | .after a l=>DD m l&&a.wf P m
 | .cut xs a=>zdd xs&&a.wf P m
 |_=>true
section
variable {P:Program} {O:bh} {n m:Nat}
theorem Wm{x:AC}{Q:AE->St->Prop}:∀{a b:St},gN m a b->Lz P m x Q b->Lz P m x Q a:=by induction x generalizing Q with|skip=>exact λh k=>W.from h k|region f=>exact λh k=>iV h k|draw k f af=>exact λh k=>W.from h k|kq ord f af=>exact λh k=>W.from h k|seq a b d e=>exact λh k=>d h k|cond c a b d e=>exact λh k=>W.from h k|block id a d=>exact λh k=>d h k|loop a d=>exact λh k=>W.from h k|exit id=>exact λh k=>W.from h k|ret=>exact λh k=>W.from h k
theorem jV{fr:List (Nat×V)}:∀{l:List Nat} {k:Nat} {v:V},lk (dX fr l) k=some v->k∈l/\lk fr k=some v/\v.rJ=true
 |[],k,v,h=>by cases h
 |j::l,k,v,h=>by
  simp only[dX]at h;split at h
  .rename_i u b;cases hd:u.rJ;.rw[hd]at h;obtain⟨h1,h2⟩:=jV h;grind
   .rw[hd]at h;simp only[cond_true,lk,fT]at h;by_cases a:k=j;.grind
    .rw[decide_eq_false a]at h;obtain⟨h1,h2⟩:=jV h;grind
  .obtain⟨h1,h2⟩:=jV h;grind
theorem lK:∀(l:List Slot) (c:HL l) (b:S) (k:Nat),(∀t,Slot.tm k t∉l)->lk (unpack l c b).fr k=lk b.fr k
 |[],_,_,_,_=>rfl
 | .tm j t::l,c,b,k,h=>by have:=lK l c.2 ⟨(j,.d t c.1)::b.fr,b.hp⟩ k λt ht=>h t (x_ _ ht);grind[lk,unpack,fT]
 | .cell _ _ _::l,c,b,k,h=>lK l c.2 _ k λt ht=>h t (x_ _ ht)
 | .vec _ _ _::l,c,b,k,h=>lK l c.2 _ k λt ht=>h t (x_ _ ht)
 | .map _ _ _ _ _::l,c,b,k,h=>lK l c.2 _ k λt ht=>h t (x_ _ ht)
 | .tree _ _ _ _::l,c,b,k,h=>lK l c.2 _ k λt ht=>h t (x_ _ ht)
 | .iM _ _ _ _ _ _::l,c,b,k,h=>lK l c.2 _ k λt ht=>h t (x_ _ ht)
theorem Qw{A:List Nat}{fr:List (Nat×V)}{k:Nat}(h:mW A fr k=true):k∈A\/∃v,lk fr k=some v/\v.rJ=false:=by simp only[mW]at h;grind[yl]
theorem zc0{fr:List (Nat×V)}{k:Nat}(h:lk fr k≠none):∃v,(k,v)∈fr:=by cases a:lk fr k with|none=>grind|some v=>exact⟨v,rN a⟩
structure ZN(sh:Sh)(A:List Nat)(s:S):Prop where
 keep:∀k∈sh.keep,k∉A
 tm:∀k t,Slot.tm k t∈sh.sl->mW A s.fr k=true
 sk:∀x∈sh.sk.fr,mW A s.fr x.1=true
theorem SF{sh:Sh}{A:List Nat}{s:S}(h:sh.N5 A s=true):ZN sh A s:=by simp only[Sh.N5,a_,e_]at h;refine⟨λk a e=>?_,λk t a=>h.1.2 _ a,h.2⟩;grind[yl]
theorem Wn{sh:Sh}{A:List Nat}{s:S}(d:ZN sh A s)(c:HL sh.sl){k:Nat}(h:k∉A):(∀v,lk s.fr k=some v->v.rJ=true->lk (unpack sh.sl c (sh.base s)).fr k=lk (dX s.fr sh.keep) k)/\(lk s.fr k=none->lk (unpack sh.sl c (sh.base s)).fr k=none):=by
 have a:(∀v,lk s.fr k=some v->v.rJ=true)->mW A s.fr k≠true:=λhd e=>by grind[Qw]
 have step:(∀v,lk s.fr k=some v->v.rJ=true)->lk (unpack sh.sl c (sh.base s)).fr k=lk (dX s.fr sh.keep) k:=λhd=>by
  rw[lK _ _ _ _ λt ht=>a hd (d.tm k t ht)];show lk (dX s.fr sh.keep++sh.sk.fr) k=_;rw[IL];have:lk sh.sk.fr k=none:=ae_ λe=>by obtain⟨v,f⟩:=zc0 e;exact a hd (d.sk _ f)
  grind
 refine⟨λv f hd=>step λu g=>by grind,λhn=>?_⟩;rw[step λu g=>by grind];cases b:lk (dX s.fr sh.keep) k with|none=>rfl|some v=>have:=(jV b).2.1;grind
theorem DT{sh:Sh}{A:List Nat}{s:S}(d:ZN sh A s)(c:HL sh.sl):aT A s (unpack sh.sl c (sh.base s)):=λk b=>by obtain⟨h1,h2⟩:=Wn d c b;refine⟨λv e hd=>?_,h2⟩;rw[h1 v e hd];cases a:lk (dX s.fr sh.keep) k with|none=>simp|some u=>have:=(jV a).2.1;grind
theorem kept{sh:Sh}{A:List Nat}{s s':S}{c:HL sh.sl}(e:ZN sh A s)(d:aT A s s')(hp:pack sh s'=some c):∀k v,lk (dX s.fr sh.keep) k=some v->lk s'.fr k=some v:=λk v h=>by
 obtain⟨h1,h2,a⟩:=jV h;rcases(d k (e.keep k h1)).1 v h2 a with b|b;.omega
 .unfold pack at hp;split at hp;.grind[W4]
  grind
theorem ym{R:Type}{s s':S}{κ:Nat->S->Option R}{r:R}:∀{xs:List (Nat×Sh)} {key:Nat} {c:XT xs},inj xs key s'=some c->jg s κ xs c=some r->∃sh,(key,sh)∈xs/\∃d:HL sh.sl,pack sh s'=some d/\κ key (unpack sh.sl d (sh.base s))=some r
 |[],key,c,h,_=>by grind
 |[(k,sh)],key,c,h,hd=>by
  simp only[inj,fT]at h;by_cases e:k=key;.subst e;rw[decide_eq_true rfl]at h;exact⟨sh,w_ ..,c,h,hd⟩
  grind
 |(k,sh)::a::l,key,c,h,hd=>by
  simp only[inj,fT]at h;by_cases e:k=key
  .subst e;rw[decide_eq_true rfl]at h;simp only[cond_true]at h;split at h;.rename_i d b;cases h;exact⟨sh,w_ ..,d,b,hd⟩
   grind
  .rw[decide_eq_false e]at h;simp only[cond_false]at h;split at h;.rename_i d b;cases h;obtain⟨f,h1,h2⟩:=ym (xs:=a::l) b hd;grind
   grind
structure Cc(D2:Prop)(m:Nat)(A:List Nat)(s:S){R:Type}(Q:AE->St->Prop)(kn:S->Option R)(kx:Nat->S->Option R)(kr kp:S->Option R)(r:R):Prop where
 n:∀s',aT A s s'->kn s'=some r->W m (Q .normal) (enc s')
 x:∀i s',aT A s s'->kx i s'=some r->W m (Q (.exit i)) (enc s')
 rt:∀s',aT A s s'->kr s'=some r->W m (Q .ret) (enc s')
 p:∀s',aT A s s'->kp s'=some r->Q .jG (enc s')
 c:∀st,W m (Q .jG) st->Q .jG st
 d:D2->∀st st',Q .jG st->Q .jG st'
theorem Cc.sub{D2:Prop}{A B:List Nat}{s:S}{R:Type}{Q:AE->St->Prop}{kn:S->Option R}{kx:Nat->S->Option R}{kr kp:S->Option R}{r:R}(h:Cc D2 m A s Q kn kx kr kp r)(hs:∀k∈B,k∈A):Cc D2 m B s Q kn kx kr kp r:=⟨λs' E=>h.n s' (E.sub hs),λi s' E=>h.x i s' (E.sub hs),λs' E=>h.rt s' (E.sub hs),λs' E=>h.p s' (E.sub hs),h.c,h.d⟩
theorem Cc.from{D2:Prop}{A:List Nat}{s I:S}{R:Type}{Q:AE->St->Prop}{kn:S->Option R}{kx:Nat->S->Option R}{kr kp:S->Option R}{r:R}(h:Cc D2 m A s Q kn kx kr kp r)(E:aT A s I):Cc D2 m A I Q kn kx kr kp r:=⟨λs' H=>h.n s' (E.trans H),λi s' H=>h.x i s' (E.trans H),λs' H=>h.rt s' (E.trans H),λs' H=>h.p s' (E.trans H),h.c,h.d⟩
theorem P6{D2:Prop}{A:List Nat}{s s':S}{R:Type}{Q:AE->St->Prop}{kn:S->Option R}{kx:Nat->S->Option R}{kr kp:S->Option R}{r:R}{xs:List (Nat×Sh)}{c:XT xs}{key:Nat}(a:Cc D2 m A s Q kn kx kr kp r)(j:zdd xs=true)(h:xs.all (λx=>x.2.N5 A s)=true) (n:aT A s s') (l:inj xs key s'=some c) (hd:jg s (λkey s=>match key with|0=>kn s|1=>kr s|2=>kp s|i+3=>kx i s) xs c=some r): match key with|0=>W m (Q .normal) (enc s')|1=>W m (Q .ret) (enc s')|2=>Q .jG (enc s')|i+3=>W m (Q (.exit i)) (enc s'):=by
 obtain⟨sh,h1,k,h2,b⟩:=ym l hd
 have f:=SF (e_.1 h _ h1)
 have g:sh.zB=true:=e_.1 j _ h1
 have e:=(K4 (s0:=s) g h2 (kept f n h2)).r6 (m:=m)
 have d:=DT f k
 match key,b with|0,b=>exact W.from e (a.n _ d b)|1,b=>exact W.from e (a.rt _ d b)|2,b=>exact a.c _ (W.to _ e (a.p _ d b))|i+3,b=>exact W.from e (a.x i _ d b)
theorem uB{D2:Prop}(hO:cx P O):∀(M:TC) (R:Type) (s:S) (kn:S->Option R) (kx:Nat->S->Option R) (kr kp:S->Option R) (r:R) (Q:AE->St->Prop),M.wf P m=true->(M.wV=false->D2)->Ci O n R M s kn kx kr kp=some r->Cc D2 m M.fp s Q kn kx kr kp r->Lz P m M.er Q (enc s):=by
 intro M;induction M with
 |skip=>intro R s kn kx kr kp r Q _ _ h hp;exact hp.n s (aT.refl _ _) h|region ops=>intro R s kn kx kr kp r Q g y h hp;simp only[TC.wf,a_]at g;exact iQ hO ops R s kn kp r _ _ g.1.1 g.1.2 g.2 h (λs' d f=>hp.n s' d f) λs' d f=>hp.p s' d f|draw k ops af=>intro R s kn kx kr kp r Q g y h hp;simp only[TC.wf,a_]at g;exact W.mk (T6 hO ops k R s kn kp r _ _ _ g.2 g.1.1.1 g.1.1.2 g.1.2 h (Ext.refl _) (λs' d f=>hp.n s' d f) λs' d f=>hp.p s' d f)|kq r0 pre tl af=>
  intro R s kn kx kr kp r Q g y h hp;simp only[TC.wf,Y8,a_,decide_eq_true_eq]at g;obtain⟨⟨⟨⟨⟨⟨w1,w2⟩,w3⟩,w4⟩,w5⟩,w6⟩,w7⟩:=g;have B:∀k,k∈nz pre\/k∈tl.fp->k∈(TC.kq r0 pre tl af).fp:=λk d=>f_.2 d;refine W.to _ (Jl (s:=s) r0) ?_;have hl:(HS pre).length=pre.length:=by simp[HS]
  have hd:(HS pre++tl.er none).drop (pre.map λp=>(p.j,p.b)).length=tl.er none:=by grind
  have hm:((pre.map λp=>(p.j,p.b)).map λu=>(u.1,u.2,(HS pre++tl.er none).getD u.1 default))=pre.map λp=>(p.j,p.b,p.so):=by rw[j_];refine k_ λp qr=>?_;simp only[Function.comp];grind[Xj]
  show rY P _ (λst=>j6 P m ((HS pre++tl.er none).drop (pre.map λp=>(p.j,p.b)).length) st (Q .normal) (Q .jG)) _ [] _ _;rw[hm,hd];have k0:∀{A:List Nat} {s':S},aT A ⟨s.fr,s.hp++O_ r0 .free⟩ s'->aT A s s':=λd=>(aT.fr (s':=⟨s.fr,s.hp++O_ r0 .free⟩) rfl).trans d;refine T8 hO pre [] _ _ kp r w4 w5 (λa ph=>by grind) h (λs' d f=>?_) λs' d f=>?_;.exact iQ hO tl R s' kn kp r _ _ w1 w2 w3 f (λs2 H F=>hp.n s2 (((k0 d).sub λk d=>B k (.inl d)).trans (H.sub λk d=>B k (.inr d))) F) λs2 H F=>hp.p s2 (((k0 d).sub λk d=>B k (.inl d)).trans (H.sub λk d=>B k (.inr d))) F
  .exact λst=>hp.d (y rfl) _ _ (hp.p s' ((k0 d).sub λk d=>B k (.inl d)) f)
 |HV pre=>intro R s kn kx kr kp r Q g y h hp;exact Al hO pre s kn kp r g h (λs' d f=>hp.n s' d f) λs' d f=>hp.p s' d f|seq a b j L=>intro R s kn kx kr kp r Q g y h hp;simp only[TC.wf,a_]at g;have B:∀k∈a.fp,k∈(TC.seq a b).fp:=λk d=>H_ _ d;have hb:∀k∈b.fp,k∈(TC.seq a b).fp:=λk d=>M_ _ d;refine j R s _ kx kr kp r (AE.then m (Lz P m b.er Q) Q) g.1 (λe=>y (by grind[TC.wV])) h ⟨λs' d f=>?_,λi s' d f=>hp.x i s' (d.sub B) f,λs' d f=>hp.rt s' (d.sub B) f,λs' d f=>hp.p s' (d.sub B) f,hp.c,hp.d⟩;exact W.mk (W.mk (L R s' kn kx kr kp r Q g.2 (λe=>y (by rw[TC.wV,e,aM_])) f ((hp.from (d.sub B)).sub hb)))|cond x a b j L=>
  intro R s kn kx kr kp r Q g y h hp;simp only[TC.wf,a_]at g;have B:∀k∈a.fp,k∈(TC.cond x a b).fp:=λk d=>H_ _ d;have hb:∀k∈b.fp,k∈(TC.cond x a b).fp:=λk d=>M_ _ d;simp only[Ci]at h;split at h
  .rename_i t hx;refine W.mk ⟨_,aG g.1.1 hx,_,rfl,t,rfl,λe=>?_,λe=>?_⟩;.subst e;exact j R s kn kx kr kp r Q g.1.2 (λe=>y (by grind[TC.wV])) h (hp.sub B)
   .subst e;exact L R s kn kx kr kp r Q g.2 (λe=>y (by rw[TC.wV,e,aM_])) h (hp.sub hb)
  grind
 |block id a j=>
  intro R s kn kx kr kp r Q g y h hp;refine j R s kn _ kr kp r (AE.inBlock id Q) g y h ⟨hp.n,λi s' d f=>?_,hp.rt,hp.p,hp.c,hp.d⟩;have C:(bif i_ i id then kn s' else kx i s')=some r:=f;rw[fT]at C;show W m (λst=>if i=id then Q .normal st else Q (.exit i) st) (enc s');by_cases hi:i=id;.subst hi;rw[decide_eq_true rfl]at C;simp only[if_true];exact hp.n s' d C
  .rw[decide_eq_false hi]at C;simp only[if_neg hi];exact hp.x i s' d C
 |loop sh xs a j=>
  intro R s kn kx kr kp r Q g y h hp;simp only[TC.wf,a_]at g;obtain⟨⟨U,J⟩,el⟩:=g;simp only[Ci]at h;split at h
  .rename_i c hc;obtain⟨w,h2⟩:=aZ h;simp only[a_]at w;have E:=SF w.1;obtain⟨t,ht,hd⟩:=cP h2;have T:gN m (enc s) (enc (unpack sh.sl c (sh.base s))):=(K4 (s0:=s) U hc λk v d=>(jV d).2.1).r6;refine W.to _ T ⟨n,?_⟩;have key:∀(N:Nat) (c:HL sh.sl),ff N (λc=>Ci O n (HL sh.sl⊕XT xs) a (unpack sh.sl c (sh.base s)) (λs=>match pack sh s with|some c=>some (.inl c)|none=>none) (λi s=>match inj xs (i+3) s with|some c=>some (.inr c)|none=>none) (λs=>match inj xs 1 s with|some c=>some (.inr c)|none=>none) (λs=>match inj xs 2 s with|some c=>some (.inr c)|none=>none)) c=some t->Mj m (Lz P m a.er) Q N (enc (unpack sh.sl c (sh.base s))):=by
    intro N
    induction N with
    |zero=>intro c h;cases h|succ N gc=>
     intro c h;simp only[ff]at h;obtain⟨o,ho,h1⟩:=cP h;have D:=DT E c;refine j _ (unpack sh.sl c (sh.base s)) _ _ _ _ o (AE.then m (Mj m (Lz P m a.er) Q N) Q) el y ho ⟨λs' d f=>?_,λi s' d f=>?_,λs' d f=>?_,λs' d f=>?_,hp.c,hp.d⟩
     .split at f;.rename_i Y z;cases f;exact W.mk (W.to _ (K4 (s0:=s) U z (kept E (D.trans d) z)).r6 (gc Y h1))
      grind
     .split at f;.rename_i Y z;cases f;cases h1;exact P6 hp J w.2 (D.trans d) z hd
      grind
     .split at f;.rename_i Y z;cases f;cases h1;exact P6 hp J w.2 (D.trans d) z hd
      grind
     .split at f;.rename_i Y z;cases f;cases h1;exact P6 hp J w.2 (D.trans d) z hd
      grind
   exact key n c ht
  grind
 |exit id=>intro R s kn kx kr kp r Q _ _ h hp;exact hp.x id s (aT.refl _ _) h|ret=>intro R s kn kx kr kp r Q _ _ h hp;exact hp.rt s (aT.refl _ _) h|mz l a j=>intro R s kn kx kr kp r Q g y h hp;simp only[TC.wf,a_]at g;simp only[Ci]at h;obtain⟨s1,I,h⟩:=xA h;obtain⟨e1,e2⟩:=qX g.1 I;exact Wm e1 (j R s1 kn kx kr kp r Q g.2 y h (hp.from (e2 _)))
 |after a l j=>intro R s kn kx kr kp r Q g y h hp;simp only[TC.wf,a_]at g;refine j R s _ kx kr kp r Q g.2 y h ⟨λs' d f=>?_,hp.x,hp.rt,hp.p,hp.c,hp.d⟩;obtain⟨s1,I,f⟩:=xA f;obtain⟨e1,e2⟩:=qX g.1 I;exact W.from e1 (hp.n s1 (d.trans (e2 _)) f)
 |cut xs a j=>intro R s kn kx kr kp r Q g y h hp;simp only[TC.wf,a_]at g;simp only[Ci]at h;obtain⟨w,h2⟩:=aZ h;obtain⟨t,ht,hd⟩:=cP h2;exact j _ s _ _ _ _ t Q g.2 y ht ⟨λs' d f=>P6 hp g.1 w d f hd,λi s' d f=>P6 hp g.1 w d f hd,λs' d f=>P6 hp g.1 w d f hd,λs' d f=>P6 hp g.1 w d f hd,hp.c,hp.d⟩
end
def xpZ{α:Type}{a:α}(b:α)(h:a=b:=by kernel_rfl):a=b:=h
def Wp{α:Type}(m:Nat->Option α)(Q:α->Prop):Prop:=∃a,Q a/\∃b,∀n,b<=n->m n=some a
def Conv(tbl:Nat->Option gC)(f:Nat)(ars:List V)(os:List Ob)(Q:Option S->Prop):Prop:=Wp (λn=>sg tbl n f ars os) Q
section
variable {α β:Type}
theorem aa{a:α}{Q:α->Prop}(h:Q a):Wp (λ_=>some a) Q:=⟨a,h,0,λ_ _=>rfl⟩
theorem ae{m:Nat->Option α}{f:Nat->α->Option β}{Q:β->Prop}(h:Wp m λa=>Wp (λn=>f n a) Q):Wp (λn=>P_ (m n) (f n)) Q:=by obtain⟨a,⟨b,c,e,h1⟩,d,g⟩:=h;refine⟨b,c,max d e,λn hn=>?_⟩;grind
theorem wp_mono{m:Nat->Option α}{Q b:α->Prop}(h:Wp m Q)(d:∀a,Q a->b a):Wp m b:=let⟨a,c,r⟩:=h;⟨a,d a c,r⟩
theorem ar{b:Bool}{m:Nat->Option α}{Q:α->Prop}(a:b=true)(h:Wp m Q):Wp (λn=>bU b (m n)) Q:=by subst a;exact h
theorem au{b:Bool}{m k:Nat->Option α}{Q:α->Prop}(ht:b=true->Wp m Q)(a:b=false->Wp k Q):Wp (λn=>bif b then m n else k n) Q:=by cases b;all_goals grind
theorem bX{xs:List α}{i:Int}{f:Nat->α->Option β}{Q:β->Prop}{x:α}(a:0<=i)(b:xs[i.toNat]? =some x)(h:Wp (λn=>f n x) Q):Wp (λn=>P_ (lx xs i) (f n)) Q:=by
 have:lx xs i=some x:=by simp[lx,a,b]
 grind
theorem bi{xs:List α}{i:Nat}{f:Nat->α->Option β}{Q:β->Prop}{x:α}(a:xs[i]? =some x)(h:Wp (λn=>f n x) Q):Wp (λn=>P_ xs[i]? (f n)) Q:=by grind
theorem wp_loop{σ τ:Type}{body:Nat->σ->Option (σ⊕τ)}{s0:σ}{Q:τ->Prop}(I:σ->Prop)(b:σ->Nat)(c:I s0) (h:∀s,I s->Wp (λn=>body n s) λr=>match r with| .inl s'=>I s'/\b s'<b s| .inr t=>Q t):Wp (λn=>ff n (body n) s0) Q:=by
 have key:∀(k:Nat) (s:σ),I s->b s<=k->∃t,Q t/\∃a,∀n m,a<=n->k+1<=m->ff m (body n) s=some t:=by
  intro k;induction k with
  |zero=>intro s hs d;obtain⟨r,hr,a,hn⟩:=h s hs;cases r with|inl s'=>omega|inr t=>refine⟨t,hr,a,λn m h1 h2=>?_⟩;obtain⟨m',rfl⟩:∃m',m=m'+1:=⟨m - 1,by omega⟩;simp only[ff];grind
  |succ k g=>
   intro s hs d;obtain⟨r,hr,a,hn⟩:=h s hs;cases r with
   |inl s'=>obtain⟨t,ht,j,f⟩:=g s' hr.1 (by omega);refine⟨t,ht,max a j,λn m h1 h2=>?_⟩;obtain⟨m',rfl⟩:∃m',m=m'+1:=⟨m - 1,by omega⟩;simp only[ff];grind
   |inr t=>refine⟨t,hr,a,λn m h1 h2=>?_⟩;obtain⟨m',rfl⟩:∃m',m=m'+1:=⟨m - 1,by omega⟩;simp only[ff];grind
 obtain⟨t,ht,a,hn⟩:=key (b s0) s0 c (ai_ _);exact⟨t,ht,max a (b s0+1),λn e=>hn n n (by omega) (by omega)⟩
end
section
variable {tbl:Nat->Option gC}
theorem RZ{f:Nat}{c:TF}{ars:List V}{os:List Ob}{G:bh->Nat->Option (Option S)}{Q:Option S->Prop}(ht:tbl f=some (.code c))(hl:(i_ os.length c.m&&J_ ars.length c.ntmps)=true)(e:∀O n,Qa O n c ars os=G O n)(h:Wp (λn=>G (sg tbl n) n) Q):Conv tbl f ars os Q:=by obtain⟨a,b,d,hn⟩:=h;refine⟨a,b,d+1,λn h1=>?_⟩;obtain⟨m,rfl⟩:∃m,n=m+1:=⟨n - 1,by omega⟩;simp only[sg,ht,hl,cond_true];grind
theorem WE{f:Nat}{d:TD}{ars:List V}{G:bh->Nat->Option (Option S)}{Q:Option S->Prop}(ht:tbl f=some (.dfr d))(hl:J_ ars.length d.c.ntmps=true)(g:∀O n,WS O n d ars=G O n)(h:Wp (λn=>G (sg tbl n) n) Q):Conv tbl f ars [] Q:=by
 obtain⟨a,c,e,hn⟩:=h;refine⟨a,c,e+1,λn h1=>?_⟩;obtain⟨m,rfl⟩:∃m,n=m+1:=⟨n - 1,by omega⟩;have b:(i_ ([]:List Ob).length 0&&J_ ars.length d.c.ntmps)=true:=by rw[hl];rfl
 simp only[sg,ht,b,cond_true];grind
def yV(sh:Sh)(s:S):Option (HL sh.sl):=bif i_ s.fr.length sh.n&&N7 sh.n s.fr then pack sh s else none
def aA(tbl:Nat->Option gC)(f:Nat)(ars:List V)(os:List Ob)(sh:Sh)(c:HL sh.sl):Prop:=∃a,∀n,a<=n->gw (sg tbl n) f ars os sh=some c
theorem tf{f:Nat}{ars:List V}{os:List Ob}{sh:Sh}{c:HL sh.sl}(hp:yV sh (gq sh c)=some c)(h:Conv tbl f ars os (·=some (gq sh c))):aA tbl f ars os sh c:=by obtain⟨o,rfl,a,hn⟩:=h;refine⟨a,λn h1=>?_⟩;have e:sg tbl n f ars os=some (some (gq sh c)):=hn n h1;unfold gw;rw[e];exact hp
theorem aj{f:Nat}{ars:List V}{os:List Ob}{sh:Sh}{β:Type}{k:Nat->HL sh.sl->Option β}{Q:β->Prop}{c:HL sh.sl}(h:aA tbl f ars os sh c)(a:Wp (λn=>k n c) Q):Wp (λn=>P_ (gw (sg tbl n) f ars os sh) (k n)) Q:=by obtain⟨b,hn⟩:=h;exact ae ⟨c,a,b,hn⟩
theorem Ip{f:Nat}{ars:List V}{os:List Ob}{Q a:Option S->Prop}(h:Conv tbl f ars os Q)(b:∀o,Q o->a o):Conv tbl f ars os a:=wp_mono h b
end
def RX.er:RX->RV
 | .tm t=>.tm t
 | .cell a t=>.cell a t.sz t.ag
structure Entry(P:Program)(f:Nat)(c:TF):Prop where
 body:∃fn,P.funcs[f]? =some fn/\fn.ntmps=c.ntmps/\fn.body.bind (cq P fn.ntmps)=some c.code.er.canon/\fn.results.toList.mapM (km P)=some (c.res.map RX.er)
 ok:(c.code.er.okB&&c.code.wf P c.m&&c.sh.zB&&J_ c.m c.sh.sk.hp.length)=true
section
variable {P:Program} {O:bh} {n:Nat}
theorem t6{s:S}:∀{l:List RX} {vs:List V},FZ s l=some vs->(l.map RX.er).mapM (HW (enc s))=some (vs.map a8)
 |[],vs,h=>by cases h;rfl
 | .tm t::l,vs,h=>by
  simp only[FZ]at h;split at h
  .rename_i v c;split at h
   .rename_i us b;cases h;rw[n_,o_,t6 b];have:HW (enc s) (RX.tm t).er=some (a8 v):=by show Av.look (enc s).fr t=_;grind[cK]
    grind
   grind
  grind
 | .cell a t::l,vs,h=>by
  simp only[FZ]at h;split at h
  .rename_i id off c;split at h
   .rename_i tid cs d;obtain⟨h1,h2⟩:=aZ h;have e:=c_ h1;split at h2
    .rename_i us b;cases h2;rw[n_,o_,t6 b];have:HW (enc s) (RX.cell a t).er=some (a8 (whole t ((cs.drop off).take t.sz))):=by
      show(Av.look (enc s).fr a).bind _=_;rw[cK,c];show(match(enc s).hp[id]? with
       |some (.box _ cs)=>if off+t.sz<=cs.length/\(t.ag=false->t.sz=1)then some (mY t.ag ((cs.drop off).take t.sz))else none
       |_=>none)=_
      rw[bL,d];show(if off+t.sz<=(cs.map aU).length/\(t.ag=false->t.sz=1)then some (mY t.ag (((cs.map aU).drop off).take t.sz))else none)=_;rw[if_pos ⟨by grind,fN⟩,Bo,Y_,al_];grind[AP,fN]
     grind
    grind
   grind
  grind
theorem p9:∀(vs:List V) (k:Nat),(dG k vs).map (λx=>(x.1,a8 x.2))=s7 k (vs.map a8)
 |[],_=>rfl
 |v::vs,k=>by simp only[dG,n_,s7,p9 vs (k+1)]
theorem BP:∀(vs:List V) (k i:Nat),lk (dG k vs) (k+i)=vs[i]?
 |[],_,_=>by simp[dG,lk]
 |v::vs,k,i=>by simp only[dG,lk,fT];cases i with|zero=>simp|succ i=>rw[decide_eq_false (by simp:¬k+(i+1)=k)];simp only[cond_false,List.getElem?_cons_succ];rw[show k+(i+1)=(k+1)+i by omega];exact BP vs (k+1) i
theorem jP:∀(l:List Slot) (c:HL l) (b:S),(unpack l c b).fr.length=b.fr.length+(l.filter λx=>match x with| .tm _ _=>true|_=>false).length
 |[],_,_=>rfl
 | .tm j t::l,c,b=>by show(unpack l c.2 ⟨(j,.d t c.1)::b.fr,b.hp⟩).fr.length=_;rw[jP l];grind
 | .cell id j t::l,c,b=>by show(unpack l c.2 ⟨b.fr,_⟩).fr.length=_;rw[jP l];simp
 | .vec _ _ _::l,c,b=>by show(unpack l c.2 ⟨b.fr,_⟩).fr.length=_;rw[jP l];simp
 | .map _ _ _ _ _::l,c,b=>by show(unpack l c.2 ⟨b.fr,_⟩).fr.length=_;rw[jP l];simp
 | .tree _ _ _ _::l,c,b=>by show(unpack l c.2 ⟨b.fr,_⟩).fr.length=_;rw[jP l];simp
 | .iM _ _ _ _ _ _::l,c,b=>by show(unpack l c.2 ⟨b.fr,_⟩).fr.length=_;rw[jP l];simp
theorem X0(sh:Sh)(c:HL sh.sl):(gq sh c).fr.length=sh.n:=by unfold gq;rw[jP,base_nil];rfl
def K1(v:V):BV:=match v with
 | .agg vs=>.pv ((a8 (.agg vs)).bF.getD .any)
 |v=>aU v
theorem SI{v:V}(h:v.one=true):a8 v= .b (K1 v)\/∃p,(a8 v).bF=some p/\K1 v= .pv p:=by
 cases v with
 |agg vs=>
  obtain⟨cs,hcs⟩:=uw vs h;have:(a8 (.agg vs)).bF=some (.agg cs):=by show((vs.map aU).mapM BV.bF).map PV.agg=_;grind
  grind[K1]
 |dC vs=>cases h|_=>exact .inl rfl
theorem XZ{v:V}(h:v.one=true):∀i∈(K1 v).ids,i∈v.ids:=λi a=>by
 rw[nE];rcases SI h with e|⟨p,_,e⟩;.rw[e];exact a
 .rw[e]at a;cases a
theorem zcA{v d:V}(h:v.one=true)(a:JI (a8 v) (a8 d)):L6 (K1 v) (aU d):=by
 cases g:v.ID
 .have e:K1 v=aU v:=by cases v<;>first|rfl|cases g
  grind[lc,zbI]
 .cases v with
  |agg vs=>
   obtain⟨cs,hcs⟩:=uw vs h;have ht:(AV.agg (vs.map aU)).bF=some (.agg cs):=by show((vs.map aU).mapM BV.bF).map PV.agg=_;grind
   have e:K1 (.agg vs)= .pv (.agg cs):=by show BV.pv ((AV.agg (vs.map aU)).bF.getD .any)=_;grind
   rw[e];cases c:d.ID;.rw[lc c]at a;generalize aU d=z at a⊢;have b:JI (.agg (vs.map aU)) (.b z):=a;cases b with|data _ q f=>rw[ht]at f;cases f;exact .refl _|any=>exact .any _
   .cases d with|agg vs=>exact .any _|dC vs=>exact .any _|_=>cases c
  |dC vs=>cases h|_=>cases g
theorem Bc{L:Nat}{x:BV}(h:∀i∈x.ids,i<L):x.eM ((U_ L).idxOf ·)=x:=by
 have key:∀i,i<L->(U_ L).idxOf i=i:=λi b=>by grind[yk]
 cases x<;>simp only[BV.eM]<;>simp only[BV.ids]at h<;>first
  |rfl
  |grind
  |skip
 congr 1;have:∀l:List Nat,(∀i∈l,i<L)->l.map ((U_ L).idxOf ·)=l:=by intro l hl;induction l with|nil=>rfl|cons a l c=>grind
 grind
theorem rW{L:Nat}:∀{xs:List BV},(∀i∈xs.flatMap BV.ids,i<L)->xs.map (BV.eM ((U_ L).idxOf ·))=xs
 |[],_=>rfl
 |x::xs,h=>by rw[n_,Bc λi a=>h i (by grind),rW λi a=>h i (by grind)]
theorem QM{L:Nat}{x:AV}(h:∀i∈x.ids,i<L):x.eM ((U_ L).idxOf ·)=x:=by cases x with|b x=>simp only[AV.eM,Bc h]|agg xs=>simp only[AV.eM,rW h]|dC xs=>simp only[AV.eM,rW h]
theorem QN{L:Nat}{o:aL}(h:∀i∈o.ids,i<L):o.eM ((U_ L).idxOf ·)=o:=by
 cases o with
 |box t cs=>simp only[aL.eM,rW h]|tree e sz k xs hole=>cases hole with|none=>rfl|some q=>obtain⟨i,j,b⟩:=q;simp only[aL.eM,KX,Bc (h)]
 |_=>rfl
theorem Vz{m L T:Nat}{r:AV}{hp:List aL}(g:L<=hp.length)(h:m<=L)(hr:∀i∈r.ids,i<L)(e:∀o∈hp.take L,∀i∈o.ids,i<L):gN m ⟨[(T,r)],hp⟩ ⟨[(T,r)],hp.take L⟩:=by
 refine O5 (U_ L) List.nodup_range (λk b=>by grind) (λk y b=>⟨y,b,λi d=>?_,?_⟩) (by grind) λj o' f=>?_;.grind[Av.look]
 .simp only[Av.look]at b;split at b;.cases b;rw[QM hr]
  grind
 .have c:(hp.take L)[j]? =some o':=f;have a:=y_ c;refine⟨j,o',by grind,?_,λi d=>V_.2 (e o' a i d),(QN (e o' a)).symm⟩;grind
def Ia(o:Option S)(a:Dy):Prop:=match o with
 |some s=>a=some (a8 (res s.fr.length s.fr),s.hp.map bT)
 |none=>a=none
theorem lm{c:TF}{s:S}{o:Option S}{m:Nat}(hw:c.sh.zB=true)(hm:m<=c.sh.sk.hp.length)(h:EN c s=some o):W m (BI m (c.res.map RX.er) (Ia o) .normal) (enc s):=by
 unfold EN at h;split at h
 .rename_i vs N;obtain⟨h1,h2⟩:=aZ h;simp only[a_,e_,K_]at h1;obtain⟨⟨⟨⟨U,Y⟩,g3⟩,g4⟩,g5⟩:=h1;have hL:=c_ U;have hn:=b_ g4;generalize el:c.sh.sk.hp.length=L at*;split at h2
  .rename_i x hx;unfold qc at h2;cases h2;have J:∀k v,lk (dX (⟨[],[]⟩:S).fr c.sh.keep) k=some v->lk (dG 0 vs) k=some v:=by intro k v e;have:=(jV e).2.1;cases this
   have B:=FH (s0:=⟨[],[]⟩) hw hx J;have hS:=B.le;have gc:∀i,lk (dG 0 vs) i=vs[i]? :=λi=>by have:=BP vs 0 i;grind
   have P:(gq c.sh x).hp.length=L:=by have:(s.hp.take L).length=(gq c.sh x).hp.length:=B.len;grind
   obtain⟨r,r1,r2,r3⟩:∃r:AV,Nv (vs.map a8) r/\(∀i∈r.ids,i<L)/\JI r (a8 (res (gq c.sh x).fr.length (gq c.sh x).fr)):=by
    rw[X0,hn];have g:∀v∈vs,∀i∈v.ids,i<L:=λv e i l=>c_ (g3 v e i l);have d:vs.length≠1->∃r:AV,(∃E:List BV,r= .dC E/\E.length=(vs.map a8).length/\∀(i:Nat) (x:AV) (b:BV),(vs.map a8)[i]? =some x->E[i]? =some b->x= .b b\/∃p,x.bF=some p/\b= .pv p)/\(∀i∈r.ids,i<L)/\JI r (a8 (res vs.length (gq c.sh x).fr)):=by
     intro ph;have A:∀v∈vs,v.one=true:=λv e=>by grind[absurd,b_]
     refine⟨.dC (vs.map K1),⟨_,rfl,by simp,λi y b Q f=>?_⟩,λi l=>?_,?_⟩;.simp only[m_,d_]at Q f;obtain⟨v,e,rfl⟩:=Q;obtain⟨D,qr,rfl⟩:=f;grind[SI,y_]
     .obtain⟨b,f,H⟩:=F_.1 (show i∈(vs.map K1).flatMap BV.ids from l);obtain⟨v,e,rfl⟩:=s_.1 f;exact g v e i (XZ (A v e) i H)
     .unfold res;have:i_ vs.length 1=false:=by grind[fT]
      rw[this];refine .dC _ _ (by simp[vB]) λi a b C f=>?_;simp only[vB,m_,d_]at C f;obtain⟨v,e,rfl⟩:=C;obtain⟨w,⟨j,O,rfl⟩,rfl⟩:=f;have I:=(l_.1 e).1;rw[List.getElem?_range I]at O;cases O;cases hl:lk (gq c.sh x).fr i with|none=>exact .any _|some D=>obtain⟨u,hu,M⟩:=B.fr i D hl;grind[lk,dG,zcA,y_]
    match vs,d with
    |[R],_=>refine⟨a8 R,rfl,λi l=>g R (by simp) i (by grind[nE]),?_⟩;show JI _ (a8 ((lk (gq c.sh x).fr 0).getD .any));cases hl:lk (gq c.sh x).fr 0 with|none=>exact .any _|some D=>obtain⟨u,hu,M⟩:=B.fr 0 D hl;grind
    |[],d=>exact d (by simp)|_::_::_,d=>exact d (by simp)
   refine W.mk (W.mk ⟨_,r,t6 N,r1,_,_,λT=>?_,rfl,by grind⟩);have F:L<=(enc s).hp.length:=by grind[mB]
   refine(Vz F hm r2 λo ho i l=>?_).trans (Pg.r6 ⟨λk y hk=>?_,?_,λi a b C f=>hS.hp i a b ?_ f⟩);.have z:o∈(s.hp.map bT).take L:=ho;rw[<-Y_]at z;obtain⟨o1,h3,rfl⟩:=s_.1 z;rw[<-Ef]at l;exact c_ (Y o1 h3 i l)
   .grind[Av.look]
   .grind
   .have n:((s.hp.map bT).take L)[i]? =some a:=C;rw[<-Y_]at n;exact n
  grind
 grind
theorem Qb(v:P.follows .mixedOrders=true)(hO:cx P O){f:Nat}{c:TF}{ars:List V}{os:List Ob}{o:Option S}(k:Entry P f c)(w:os.length=c.m)(l:ars.length<=c.ntmps)(h:Qa O n c ars os=some o):eG P f (ars.map a8) (os.map bT) (Ia o):=by
 obtain⟨fn,h1,A,e,u⟩:=k.body;obtain⟨code,h2,s⟩:=p_.1 e;have d:=k.ok;simp only[a_]at d;obtain⟨⟨⟨x,y⟩,p⟩,z⟩:=d;have r:=c_ z;have j:(os.map bT).length=c.m:=by grind
 have b:(⟨s7 0 (ars.map a8),os.map bT⟩:St)=enc ⟨dG 0 ars,os⟩:=by simp[enc,p9]
 refine TG v h1 h2 s x u (by grind) ?_;rw[b,j];refine uB hO c.code (Option S) _ _ _ _ _ o _ y (λ_=>trivial) h ⟨λs' _ a=>lm p r a,λi s' _ a=>(by grind),λs' _ a=>lm p r a,λs' _ a=>?_,λ_ ⟨_,_,g⟩=>g,λ_ _ _ g=>g⟩;cases a;exact rfl
structure JG(P:Program)(f:Nat)(d:TD):Prop where
 body:∃fn CA CB CH h j y3 p3 a3 y4 p4 a4,P.funcs[f]? =some fn/\fn.ntmps=d.c.ntmps/\
  fn.body=some (.seq CA (.seq (.region j #[⟨some d.t8,.makeFunc (.func h) #[] #[.tmp d.ta,.tmp d.tb],y3,p3,a3,none⟩,⟨none,.defer {callee:=.value (.tmp d.t8),args:= #[],argTypes:= #[]},y4,p4,a4,none⟩] false) CB))/\
  cq P fn.ntmps CA=some d.a.er.canon/\cq P fn.ntmps CB=some d.c.code.er.canon/\Catch P h CH/\cq P 5 CH=some d.h.er.canon/\fn.results.toList.mapM (km P)=some (d.c.res.map RX.er)
 ok:(d.a.er.okB&&d.a.wf P 0&&d.c.code.er.okB&&d.c.code.wf P 2&&d.h.er.okB&&d.h.wf P 2&&d.c.sh.zB&&J_ (d.t8+1) d.c.ntmps&&d.c.code.wV)=true
theorem yp{s:S}{t i:Nat}(h:vL s t i=true):Av.look (enc s).fr t=some (.b (.ptr i 0)):=by
 unfold vL at h;split at h;.rename_i j o a;rw[a_]at h;rw[cK,a,b_ h.1,b_ h.2];rfl
 grind
theorem zcu{s:S}{t:Nat}(h:noT s t=true):Av.look (enc s).fr t=none:=by grind[noT,cK]
theorem rF{a:List RV}{K:Dy->Prop}{st:St}(h:W 0 (BI 0 a K .normal) st):BI 0 a K .normal st:=let⟨_,b,h1⟩:=h;W.from b h1
theorem Qc(I:P.follows .mixedOrders=true)(hO:cx P O){f:Nat}{d:TD}{ars:List V}{o:Option S}(r:JG P f d)(s:ars.length<=d.c.ntmps)(h:WS O n d ars=some o):eG P f (ars.map a8) [] (Ia o):=by
 obtain⟨fn,Y,CB,CH,a,j,y3,p3,a3,y4,p4,a4,h1,h2,B,C,D,E,F,H⟩:=r.body;have c:=r.ok;simp only[a_]at c;obtain⟨⟨⟨⟨⟨⟨⟨⟨J,L⟩,M⟩,N⟩,Q⟩,R⟩,g⟩,T⟩,k9⟩:=c;have b:(⟨s7 0 (ars.map a8),[]⟩:St)=enc ⟨dG 0 ars,[]⟩:=by simp[enc,p9]
 refine Px I h1 B C J D M F Q E H (by grind) (by rw[h2];exact c_ T) ?_;rw[b];refine uB hO d.a (Option S) _ _ _ _ _ o _ L (λ_=>trivial) h ⟨λU _ a=>?_,λi s' _ a=>(by grind),λs' _ a=>(by grind),λs' _ a=>(by grind),λ_ ⟨_,_,l,_⟩=>(by grind),λ_ _ _ ⟨l,_⟩=>(by grind)⟩;obtain⟨p,z⟩:=aZ a;simp only[a_]at p;obtain⟨⟨⟨u,v⟩,w⟩,b4⟩:=p;refine W.mk ⟨rfl,⟨zcu w,yp u,yp v,by grind[mB,b_]⟩,(uB (D2:=False) hO d.c.code (Option S) _ _ _ _ _ o _ N (λe=>by grind) z ⟨λs' _ a=>?_,λi s' _ a=>(by grind),λs' _ a=>?_,λs2 _ a=>?_,λst ⟨U,x,y⟩=>W.from x y,λh=>h.elim⟩)⟩;.exact W.mk (rF (lm g (I_ _) a))
 .exact W.mk (rF (lm g (I_ _) a))
 .obtain⟨k,A⟩:=aZ a;simp only[a_]at k;exact W.mk ⟨yp k.1,yp k.2,(uB hO d.h (Option S) _ _ _ _ _ o _ R (λ_=>trivial) A ⟨λs' _ a=>W.mk ⟨.inl rfl,rF (lm g (I_ _) a)⟩,λi s' _ a=>(by grind),λs' _ a=>W.mk ⟨.inr rfl,rF (lm g (I_ _) a)⟩,λs' _ a=>(by grind),λ_ ⟨_,_,l,_⟩=>(by grind),λ_ _ _ ⟨l,_⟩=>(by grind)⟩)⟩
def V2(P:Program)(f:Nat)(g:List V->Option S):Prop:=∀ars s,g ars=some s->eG P f (ars.map a8) [] (Ia (some s))
structure Mb(P:Program)(tbl:Nat->Option gC):Prop where
 code:∀f c,tbl f=some (.code c)->Entry P (f%10000) c
 nat:∀f g,tbl f=some (.nat g)->V2 P (f%10000) g
 dfr:∀f d,tbl f=some (.dfr d)->JG P (f%10000) d
theorem IU(k:P.follows .mixedOrders=true){tbl:Nat->Option gC}(j:Mb P tbl):∀n,cx P (sg tbl n):=by
 have key:∀n f ars os o,sg tbl n f ars os=some o->eG P (f%10000) (ars.map a8) (os.map bT) (Ia o):=by
  intro n;induction n with
  |zero=>intro f ars os o h;cases h|succ n l=>
   intro f ars os o h;have hO:cx P (sg tbl n):=⟨λf ars os s b=>l f ars os (some s) b,λf ars os b=>l f ars os none b⟩;simp only[sg]at h;split at h;.rename_i c hc;obtain⟨a,e⟩:=aZ h;rw[a_]at a;exact Qb k hO (j.code f c hc) (b_ a.1) (c_ a.2) e
   .rename_i d hd;obtain⟨a,e⟩:=aZ h;rw[a_]at a;obtain rfl:=List.eq_nil_of_length_eq_zero (b_ a.1);exact Qc k hO (j.dfr f d hd) (c_ a.2) e
   .rename_i g hg;split at h
    .split at h;.rename_i s hs;cases h;exact j.nat f g hg ars s hs
     grind
    grind
   grind
 exact λn=>⟨λf ars os s b=>key n f ars os (some s) b,λf ars os b=>key n f ars os none b⟩
theorem Md(c:P.follows .mixedOrders=true){tbl:Nat->Option gC}(b:Mb P tbl){f:Nat}{ars:List V}{os:List Ob}{Q:Option S->Prop}(h:Conv tbl f ars os Q):∃o,Q o/\eG P (f%10000) (ars.map a8) (os.map bT) (Ia o):=by obtain⟨o,d,a,hn⟩:=h;have h1:=hn a (ai_ _);refine⟨o,d,?_⟩;cases o with|some s=>exact(IU c b a).ret f ars os s h1|none=>exact(IU c b a).jG f ars os h1
def NJ:List (Nat×gC)->Nat->Option gC
 |[],_=>none
 |(k,e)::l,f=>bif i_ f k then some e else NJ l f
def OkE(P:Program)(k:Nat):gC->Prop
 | .code c=>Entry P (k%10000) c
 | .dfr d=>JG P (k%10000) d
 | .nat g=>V2 P (k%10000) g
def lT(P:Program):List (Nat×gC)->Prop
 |[]=>True
 |(k,e)::l=>OkE P k e/\lT P l
theorem lT.get{l:List (Nat×gC)}(h:lT P l){f:Nat}{e:gC}(E:NJ l f=some e):OkE P f e:=by
 induction l with
 |nil=>cases E|cons x l I=>
  obtain⟨k,J⟩:=x;simp only[NJ,fT]at E;by_cases H:f=k;.subst H;rw[decide_eq_true rfl]at E;cases E;exact h.1
  .rw[decide_eq_false H]at E;exact I h.2 E
theorem lT.tbl{l:List (Nat×gC)}(h:lT P l):Mb P (NJ l):=⟨λ_ _ E=>h.get E,λ_ _ E=>h.get E,λ_ _ E=>h.get E⟩
end
open Go Go.RowKit Go.Av Go.Deep Go.WideShapes
mutual
def XX:Rx->Prop
 | .mk k l h ks=>(IntKind.i64.min<=k/\k<=IntKind.i64.max)/\(IntKind.i64.min<=l/\l<=IntKind.i64.max)/\(IntKind.i64.min<=h/\h<=IntKind.i64.max)/\ks.length<=maxLen/\N6 ks
def N6:List Rx->Prop
 |[]=>True
 |r::a=>XX r/\N6 a
end
def okD:(t:Ty)->t.den->Prop
 | .int k,x=>k.min<=x/\x<=k.max
 | .bool,_=>True
 | .str,x=>ay_ x<=maxLen
 | .list t,x=>ay_ x<=maxLen/\∀y∈x,okD t y
 | .unit,_=>True
 | .pair a b,x=>okD a x.1/\okD b x.2
 | .rx,x=>XX x
def AU:∀(l:List Rx),N6 l↔∀r∈l,XX r
 |[]=>by simp[N6]
 |r::a=>by simp[N6,AU a]
def eK:(t:Ty)->t.den->Nat
 | .int _,_=>1
 | .bool,_=>1
 | .str,x=>ay_ x+1
 | .list t,x=>(aU_ (eK t) x).sum+1
 | .unit,_=>0
 | .pair a b,x=>eK a x.1+eK b x.2
 | .rx,_=>1
section
variable {H:Type}
mutual
def dQ:DataW H->Nat
 | .lit (.string bytes)=>bytes.length+1
 | .lit _=>1
 | .nil=>1
 | .ptr d=>dQ d+1
 | .slice b c=>iZ b+iZ c+1
 | .agg parts=>iZ parts+1
 | .iface _ d=>dQ d+1
 | .map a=>DV a+1
 | .held _=>1
def iZ:List (DataW H)->Nat
 |[]=>0
 |d::r=>dQ d+iZ r
def DV:List (Lit×DataW H)->Nat
 |[]=>0
 |x::r=>PT x+DV r
def PT:Lit×DataW H->Nat
 |(.string bytes,d)=>bytes.length+dQ d+1
 |(_,d)=>dQ d+1
end
def uv(d:DataW H):1<=dQ d:=by cases d with|lit l=>cases l<;>simp[dQ]|nil=>simp[dQ]|ptr d=>simp[dQ]|slice b c=>simp[dQ]|agg parts=>simp[dQ]|iface t d=>simp[dQ]|map a=>simp[dQ]|held h=>simp[dQ]
def MC{α β:Type}{f:α->Nat}{g:β->DataW H}:∀(xs:List α) (ds:List β),xs.length=ds.length->(∀(i:Nat) (x:α),xs[i]? =some x->∃d:β,ds[i]? =some d/\f x<=dQ (g d))->(xs.map f).sum<=iZ (ds.map g)
 |[],[],_,_=>ai_ _
 |x::xs,d::ds,hl,h=>by obtain⟨a,h1,h2⟩:=h 0 x rfl;cases h1;have:=MC xs ds (by grind) λi x b=>h (i+1) x (by grind);grind[iZ]
 |[],_::_,h,_=>(by simp)
 |_::_,[],h,_=>(by grind)
end
def rxB(P:Program)(t:TypeId):Bool:=match P.underlying t with
 |some (.struct d)=>match d.toList with
  |[a,b,f2,c]=>(match P.underlying a.type,P.underlying b.type,P.underlying f2.type,P.underlying c.type with
   |some (.int .i64),some (.int .i64),some (.int .i64),some (.slice e)=>i_ e t
   |_,_,_,_=>false)&&i_ a.offset 0&&i_ b.offset 1&&i_ f2.offset 2&&i_ c.offset 3&&
    i_ (P.cellsOf a.type) 1&&i_ (P.cellsOf b.type) 1&&i_ (P.cellsOf f2.type) 1&&i_ (P.cellsOf c.type) 1&&i_ (P.cellsOf t) 4
  |_=>false
 |_=>false
def fsB(P:Program)(c:TypeId->Ty->Bool):List Field->Nat->Ty->Bool
 |[],_,.unit=>true
 |f::l,off,.pair a b=>i_ f.offset off&&i_ (P.cellsOf f.type) a.sz&&c f.type a&&fsB P c l (off+a.sz) b
 |_,_,_=>false
def arB(P:Program)(c:TypeId->Ty->Bool)(e:TypeId):Nat->Ty->Bool
 |0,.unit=>true
 |n+1,.pair a b=>i_ (P.cellsOf e) a.sz&&c e a&&arB P c e n b
 |_,_=>false
def nM(P:Program):Nat->TypeId->Ty->Bool
 |0,_,_=>false
 |d+1,t,u=>match u with
  | .rx=>rxB P t
  | .bool=>(match P.underlying t with|some .bool=>true|_=>false)
  | .int k=>(match P.underlying t with|some (.int c)=>decide (k=c)|_=>false)
  | .str=>(match P.underlying t with|some .string=>true|_=>false)
  | .list a=>(match P.underlying t with|some (.slice e)=>i_ (P.cellsOf e) a.sz&&J_ 1 a.sz&&nM P d e a|_=>false)
  |u=>(match P.underlying t with
   |some (.struct b)=>i_ (P.cellsOf t) u.sz&&fsB P (nM P d) b.toList 0 u
   |some (.array n e)=>i_ (P.cellsOf t) u.sz&&arB P (nM P d) e n u
   |_=>false)
def Sy{α:Type}{p:Nat->α->Prop}:∀(n:Nat),(∀i,i<n->∃x,p i x)->∃xs:List α,xs.length=n/\∀i x,xs[i]? =some x->p i x
 |0,_=>⟨[],rfl,λi x h=>by grind⟩
 |n+1,h=>by obtain⟨xs,h1,h2⟩:=Sy (p:=p) n λi a=>h i (by omega);obtain⟨x,b⟩:=h n (by simp);refine⟨xs++[x],by grind,λi y c=>?_⟩;grind
section
variable {H:Type} {enc:TypeId×Value->H} {P:Program} {w:World}
abbrev Rd(w:World)(u:Ty)(cs:List Value)(x:u.den):Prop:=okD u x/\cs.length=u.sz/\∀(j:Nat) (y:PV),(aN u x)[j]? =some y->∃c,cs[j]? =some c/\aX (λb=>b<w.heap.size) w c y
theorem KG{k:IntKind}{n:Int}(b:(Lit.int k n).wf=true):Rd w (.int k) [.int k n] n:=by
 refine⟨?_,rfl,λj y a=>?_⟩;.show k.min<=n/\n<=k.max;grind[Lit.wf]
 .match j,a with|0,a=>cases a;exact⟨_,rfl,.sc _⟩
theorem OD{a:Ty}{e:TypeId}{n:Nat}{cs:List Value}{x:DataW H×List MemPlace}{t:TypeId}(ht:P.underlying t=some (.slice e))(C:P.cellsOf e=a.sz)(I:1<=a.sz) (ih:∀(m:Nat) (cs:List Value) (d:DataW H) (ps:List MemPlace),m<n->DataW.trod enc P w 0 (λ_=>true) true m e cs=some (d,ps)->(∀p∈ps,p.block<w.heap.size)->∃x:a.den,Rd w a cs x/\eK a x<=dQ d) (h:DataW.trod enc P w 0 (λ_=>true) true n t cs=some x) (U:∀p∈x.2,p.block<w.heap.size):∃xs:List a.den,Rd w (.list a) cs xs/\eK (.list a) xs<=dQ x.1:=by
 have h':=DataW.trod_slice ht h;obtain⟨X,hX⟩:∃X,X=x:=⟨_,rfl⟩;rcases open_slice ht h with⟨rfl,_⟩|⟨B,len,cap,m,n',D,Pl,rfl,_,hl,hm,F,rfl,J⟩
 .refine⟨[],⟨⟨I_ _,λy l=>by grind⟩,rfl,λj y l=>?_⟩,uv _⟩
  match j,l with|0,l=>cases l;exact⟨_,rfl,.nil none 0⟩
 .simp only[if_true]at F;subst F;obtain⟨k,rest,A,Y,L,E,s⟩:∃(k rest:List (DataW H×List MemPlace)) (A:Nat),A<n/\X=(.slice (k.map (·.1)) (rest.map (·.1)),MemPlace.row B ((k.length+rest.length)*P.cellsOf e)++(k++rest).flatMap (·.2))/\k.length=len/\∀i,i<len->(w.cells? 0 (B.add (i*P.cellsOf e)) (P.cellsOf e)).bind (DataW.trod enc P w 0 (λ_=>true) true A e)=k[i]? :=by
   rcases h' with⟨hc,_⟩|⟨a',ph,gc,k,rest,A,rfl,hc,L,_,_,_,E,s,_⟩
   .grind
   .simp only[List.cons.injEq,Value.slice.injEq,h_,and_true]at hc;obtain⟨rfl,rfl,rfl⟩:=hc;exact⟨k,rest,A,by simp,hX.trans L,E,s⟩
  have step:∀i,i<len->∃x:a.den,(∃d,k[i]? =some d/\eK a x<=dQ d.1)/\∃r,w.cells? 0 (B.add (i*a.sz)) a.sz=some r/\Rd w a r x:=by
   intro i hi;have N:=s i hi;rw[g_ (by omega)]at N;obtain⟨r,h5,O⟩:=p_.1 N;rw[C]at h5;obtain⟨y,l,hb⟩:=ih A r _ _ Y O λp hp=>by grind
   grind
  obtain⟨xs,At,z⟩:=Sy len step;have Q:eK (.list a) xs<=dQ (DataW.slice (H:=H) (k.map (·.1)) (rest.map (·.1))):=by have:=MC (f:=eK a) (g:=λd:DataW H×List MemPlace=>d.1) xs k (by omega) λi x J=>(z i x J).1;simp only[eK,dQ];omega
  refine⟨xs,⟨⟨by omega,λy l=>?_⟩,rfl,λj y l=>?_⟩,by grind⟩;.obtain⟨i,hi⟩:=Z_ l;grind
  .rw[eR (t:=.list a) xs rfl]at l
   match j,l with
   |0,l=>
    cases l;refine⟨_,rfl,?_⟩;have u:(xs.map (aM a)).length=len:=by grind
    show aX _ w (.slice (some B) len m) (lB a.sz (xs.map (aM a)));rw[<-u];refine gA (by omega) λhp=>?_;rw[u]at hp;obtain⟨x0,el⟩:∃x0,xs[0]? =some x0:=⟨xs[0]'(by omega),g_ (by omega)⟩;obtain⟨_,qr,R,wr⟩:=z 0 x0 el;obtain⟨b,off,M⟩:=B;have v:M=none:=by obtain⟨_,ur,T⟩:=World.cells?_some R;have h1:=T 0 (by omega);rw[g_ (by omega)]at h1;simpa[Addr.add]using World.cell?_spot h1
    subst v;refine⟨b,off,rfl,?_,λp hp=>?_,λi j x y J l=>?_⟩;.refine U (.cell b off) (H_ _ (MemPlace.mem_row.2 ⟨0,?_,by simp⟩));rw[C];exact Nat.mul_pos (by omega) I
    .obtain⟨q,_,rfl⟩:=s_.1 hp;simp[aQ]
    .rw[m_]at J;obtain⟨q,hq,rfl⟩:=d_.1 J;obtain⟨_,r,h1,h2,h3,N⟩:=z i q hq;obtain⟨c,h5,O⟩:=N j y l;refine⟨c,?_,O⟩;have hj:j<a.sz:=by grind
     have h7:=(World.cells?_some h1).2.2 j hj;rw[add_plain,add_plain]at h7;grind
theorem zbG{n d:Nat}{cs:List Value}(C:∀(t:TypeId) (u:Ty) (cs:List Value) (v:DataW H) (D:List MemPlace),nM P d t u=true->DataW.trod enc P w 0 (λ_=>true) true n t cs=some (v,D)->(∀p∈D,p.block<w.heap.size)->∃x:u.den,Rd w u cs x/\eK u x<=dQ v):
 ∀(l:List Field) (k:List (DataW H×List MemPlace)) (off:Nat) (u:Ty),fsB P (nM P d) l off u=true->k.length=l.length->(∀(i:Nat) (f:Field),l[i]? =some f->∃d:DataW H×List MemPlace,k[i]? =some d/\DataW.trod enc P w 0 (λ_=>true) true n f.type ((cs.drop f.offset).take (P.cellsOf f.type))=some d/\∀p∈d.2,p.block<w.heap.size)->∃x:u.den,okD u x/\eK u x<=iZ (k.map (·.1))/\∀(j:Nat) (y:PV),(aN u x)[j]? =some y->∃c,cs[off+j]? =some c/\aX (λb=>b<w.heap.size) w c y
 |[],_,off,u,e,_,_=>by
  cases u<;>simp only[fsB]at e<;>try cases e
  exact⟨(),trivial,I_ _,λj y B=>by simp[aN,aM,PV.cells]at B⟩
 |f::l,[],_,_,_,h,_=>by simp at h
 |f::l,s::k,off,u,e,M,hl=>by
  cases u<;>simp only[fsB]at e<;>try cases e
  rename_i a b;simp only[a_]at e;obtain⟨⟨⟨h1,h2⟩,I⟩,J⟩:=e;have E:=b_ h1;have F:=b_ h2;obtain⟨d1,r,A,L⟩:=hl 0 f rfl;cases r;rw[E,F]at A;obtain⟨x,⟨N,Q,R⟩,T⟩:=C f.type a _ s.1 s.2 I A L;obtain⟨z,O,Y,U⟩:=zbG C l k (off+a.sz) b J (by grind) λi g hg=>by simpa using hl (i+1) g (by simpa using hg)
  refine⟨(x,z),⟨N,O⟩,by grind[eK,iZ],λj y B=>?_⟩;have hc:aN (.pair a b) (x,z)=aN a x++aN b z:=rfl;grind[aQ]
theorem zby{n d:Nat}{e:TypeId}{cs:List Value}(C:∀(t:TypeId) (u:Ty) (cs:List Value) (v:DataW H) (D:List MemPlace),nM P d t u=true->DataW.trod enc P w 0 (λ_=>true) true n t cs=some (v,D)->(∀p∈D,p.block<w.heap.size)->∃x:u.den,Rd w u cs x/\eK u x<=dQ v):
 ∀(k g:Nat) (l:List (DataW H×List MemPlace)) (u:Ty),arB P (nM P d) e k u=true->l.length=k->(∀(i:Nat),i<k->∃d:DataW H×List MemPlace,l[i]? =some d/\DataW.trod enc P w 0 (λ_=>true) true n e ((cs.drop ((g+i)*P.cellsOf e)).take (P.cellsOf e))=some d/\∀p∈d.2,p.block<w.heap.size)->∃x:u.den,okD u x/\eK u x<=iZ (l.map (·.1))/\∀(j:Nat) (y:PV),(aN u x)[j]? =some y->∃c,cs[g*P.cellsOf e+j]? =some c/\aX (λb=>b<w.heap.size) w c y
 |0,g,_,u,f,_,_=>by
  cases u<;>simp only[arB]at f<;>try cases f
  exact⟨(),trivial,I_ _,λj y B=>by simp[aN,aM,PV.cells]at B⟩
 |k+1,_,[],_,_,h,_=>by simp at h
 |k+1,g,s::l,u,f,J,hl=>by
  cases u<;>simp only[arB]at f<;>try cases f
  rename_i a b;simp only[a_]at f;obtain⟨⟨h2,E⟩,F⟩:=f;have N:=b_ h2;obtain⟨d1,r,A,I⟩:=hl 0 (by omega);cases r;rw[aC_]at A;obtain⟨x,⟨L,Q,R⟩,T⟩:=C e a _ s.1 s.2 E A I;obtain⟨z,M,Y,U⟩:=zby C k (g+1) l b F (by grind) λi O=>by have:=hl (i+1) (by omega);rw[show g+(i+1)=g+1+i by omega]at this;simpa using this
  refine⟨(x,z),⟨L,M⟩,by grind[eK,iZ],λj y B=>?_⟩;have hc:aN (.pair a b) (x,z)=aN a x++aN b z:=rfl;grind[aQ]
theorem zbc:∀(n:Nat) (d:Nat) (t:TypeId) (u:Ty) (cs:List Value) (B:DataW H) (r:List MemPlace),nM P d t u=true->DataW.trod enc P w 0 (λ_=>true) true n t cs=some (B,r)->(∀p∈r,p.block<w.heap.size)->∃x:u.den,Rd w u cs x/\eK u x<=dQ B:=by
 intro n;induction n using Nat.strongRecOn with|ind n N=>
 intro d t u cs B r g h A;cases d with|zero=>cases g|succ d=>
 have agg:(∀a b,u= .pair a b->True)->u.ag=true->u≠.rx->(match P.underlying t with
  |some (.struct F)=>i_ (P.cellsOf t) u.sz&&fsB P (nM P d) F.toList 0 u
  |some (.array n e)=>i_ (P.cellsOf t) u.sz&&arB P (nM P d) e n u
  |_=>false)=true->∃x:u.den,Rd w u cs x/\eK u x<=dQ B:=by
  intro _ _ _ g
  split at g
  .rename_i F ht;rw[a_]at g;have e1:=b_ g.1;obtain⟨xs,m,rfl,D,I,C,E⟩:=DataW.trod_struct ht h;simp only[as_.injEq]at D;obtain⟨rfl,rfl⟩:=D;obtain⟨x,x1,xb,x2⟩:=zbG (n:=m) (cs:=cs) (λt u cs B r g h A=>N m (by simp) d t u cs B r g h A) F.toList xs 0 u g.2 (by omega) λi f hi=>by
    have ph:F[i]? =some f:=by grind
    have h1:=E i f ph;have qr:i<xs.length:=by grind
    rw[g_ qr]at h1;grind
   grind[dQ]
  .rename_i k e ht;rw[a_]at g;have e1:=b_ g.1;obtain⟨xs,m,rfl,D,I,C,E⟩:=DataW.trod_array ht h;simp only[as_.injEq]at D;obtain⟨rfl,rfl⟩:=D;obtain⟨x,x1,xb,x2⟩:=zby (n:=m) (cs:=cs) (e:=e) (λt u cs B r g h A=>N m (by simp) d t u cs B r g h A) k 0 xs u g.2 C λi hi=>by grind
   grind[dQ]
  grind
 cases u with
 |bool=>
  simp only[nM]at g;split at g
  .rename_i ht;obtain⟨b,rfl,_⟩:=DataW.trod_bool ht h;refine⟨b,⟨trivial,rfl,λj y l=>?_⟩,uv _⟩
   match j,l with|0,l=>cases l;exact⟨_,rfl,.sc _⟩
  grind
 |int k=>
  simp only[nM]at g;split at g
  .rename_i k' ht;have:k=k':=by grind
   subst this;obtain⟨z,rfl,_,hw⟩:=DataW.trod_int ht h;exact⟨z,KG hw,uv _⟩
  grind
 |str=>
  simp only[nM]at g;split at g
  .rename_i ht;obtain⟨s,rfl,U,hs⟩:=DataW.trod_string ht h;refine⟨s.data.toList,⟨by simpa[okD]using hs,rfl,λj y l=>?_⟩,by cases U;exact ai_ _⟩
   match j,l with
   |0,l=>
    cases l;refine⟨_,rfl,?_⟩;show aX _ w (.string s) (.sc (.string ⟨s.data.toList.toArray⟩));have:(⟨s.data.toList.toArray⟩:ByteArray)=s:=by simp
    rw[this];exact .sc _
  grind
 |list a=>
  simp only[nM]at g;split at g;.rename_i e ht;simp only[a_]at g;exact OD ht (b_ g.1.1) (c_ g.1.2) (λm cs O r hm h hl=>N m hm d e a cs O r g.2 h hl) h A
  grind
 |unit=>exact agg (λ_ _ h=>by simp) rfl (by simp) g|pair a b=>exact agg (λ_ _ _=>trivial) rfl (by simp) g|rx=>
  have el:rxB P t=true:=g;have v:=el;unfold rxB at v;split at v
  .rename_i F ht;split at v
   .rename_i Q R f2 T Bx;simp only[a_]at v;obtain⟨⟨⟨⟨⟨⟨⟨⟨⟨hu,o0⟩,o1⟩,o2⟩,o3⟩,c0⟩,c1⟩,c2⟩,c3⟩,c4⟩:=v;split at hu
    .rename_i e u0 u1 u2 u3;have Y:=b_ hu;subst Y;obtain⟨xs,m,rfl,D,I,C,E⟩:=DataW.trod_struct ht h;simp only[as_.injEq]at D;obtain⟨rfl,rfl⟩:=D;have gc:F= #[Q,R,f2,T]:=by grind
     subst gc;have h4:xs.length=4:=C;have e4:=b_ c4;have get:∀(i:Nat) (f:Field),(#[Q,R,f2,T]:Array Field)[i]? =some f->P.cellsOf f.type=1->∃B r,DataW.trod enc P w 0 (λ_=>true) true m f.type ((cs.drop f.offset).take 1)=some (B,r)/\∀p∈r,p.block<w.heap.size:=by grind
     obtain⟨d0,p0,g0,_⟩:=get 0 Q rfl (b_ c0);obtain⟨d1,p1,g1,_⟩:=get 1 R rfl (b_ c1);obtain⟨d2,p2,g2,_⟩:=get 2 f2 rfl (b_ c2);obtain⟨d3,p3,g3,l3⟩:=get 3 T rfl (b_ c3);rw[b_ o0]at g0;rw[b_ o1]at g1;rw[b_ o2]at g2;rw[b_ o3]at g3;obtain⟨z0,J,_,w0⟩:=DataW.trod_int u0 g0;obtain⟨z1,L,_,w1⟩:=DataW.trod_int u1 g1;obtain⟨z2,M,_,w2⟩:=DataW.trod_int u2 g2;obtain⟨ks,⟨k1,k2,k3⟩,_⟩:=OD (a:=.rx) u3 e4 (by decide) (λm' cs O r hm h hl=>N m' (by omega) (d+1) e .rx cs O r g h hl) g3 l3
     match cs,(show cs.length=4 by omega)with
     |[q0,q1,q2,q3],_=>
      simp only[List.drop_zero,List.drop_succ_cons,List.take_succ_cons,aP_,List.cons.injEq,and_true]at J L M
      subst J;subst L;subst M
      have wr:=(KG (w:=w) w0).1
      have At:=(KG (w:=w) w1).1
      have Bk:=(KG (w:=w) w2).1
      refine⟨.mk z0 z1 z2 ks,⟨⟨wr,At,Bk,k1.1,(AU ks).2 k1.2⟩,rfl,λj y l=>?_⟩,uv _⟩
      rw[qI]at l
      match j,l with|0,l=>cases l;exact⟨_,rfl,.sc _⟩|1,l=>cases l;exact⟨_,rfl,.sc _⟩|2,l=>cases l;exact⟨_,rfl,.sc _⟩|3,l=>have ur:some (aM (.list .rx) ks)=some y:=l;cases ur;obtain⟨c,e1,e2⟩:=k3 0 (aM (.list .rx) ks) (by rw[eR (t:=.list .rx) ks rfl];rfl);grind
    grind
   grind
  grind
end
open Go Go.RowKit Go.Av Go.WideShapes
@[reducible] def HD:List Ty->Type
 |[]=>Unit
 |t::l=>t.den×HD l
def vI:(us:List Ty)->HD us->List V
 |[],_=>[]
 |t::l,x=>.d t x.1::vI l x.2
def XS:(us:List Ty)->HD us->Prop
 |[],_=>True
 |t::l,x=>okD t x.1/\XS l x.2
def C3:(us:List Ty)->HD us->Nat
 |[],_=>0
 |t::l,x=>eK t x.1+C3 l x.2
def fitAll(P:Program):List TypeId->List Ty->Bool
 |[],[]=>true
 |t::ts,u::us=>nM P 64 t u&&fitAll P ts us
 |_,_=>false
def zbP(P:Program)(ts:List TypeId):Bool:=ts.all λt=>P.readableRec t&&decide (t<P.types.size)
section
variable {H:Type} {enc:TypeId×Value->H} {P:Program} {w:World}
theorem Yr{d:Nat}{t:TypeId}{u:Ty}{r:Reach}{F:Nat}{v:Value}{A:DataW H}{C:List MemPlace}(f:nM P d t u=true)(j:Value.okWide P w r F t v)(h:DataW.Trod enc P w 0 (λ_=>true) true t v A C)(B:∀p∈C,p.block<w.heap.size): ∃x:u.den,(okD u x/\aX (λb=>b<w.heap.size) w v (aM u x))/\eK u x<=dQ A:=by
 obtain⟨n,hn⟩:=h;obtain⟨x,⟨I,D,E⟩,J⟩:=zbc n d t u _ A C f hn B;refine⟨x,⟨I,?_⟩,J⟩;have one:u.ag=false->v.cells= #[v]->aX (λb=>b<w.heap.size) w v (aM u x):=λz hc=>by obtain⟨c,L,M⟩:=E 0 (aM u x) (by rw[eR x z];rfl);grind
 have g:u.ag=true->(∃cs,v= .agg cs)->aX (λb=>b<w.heap.size) w v (aM u x):=λz ⟨cs,hc⟩=>by subst hc;rw[eQ x z];have e:(Value.agg cs).cells=cs:=rfl;rw[e]at D E;refine .agg cs _ (by rw[aQ,<-D];simp) λi a y z N=>?_;grind
 cases d with
 |zero=>simp[nM]at f|succ d=>
  cases u with
  |bool=>
   simp only[nM]at f;split at f;.rename_i ht;obtain⟨b,rfl⟩:=okWide_bool ht j;exact one rfl rfl
   grind
  |int k=>
   simp only[nM]at f;split at f;.rename_i ht;obtain⟨b,rfl⟩:=okWide_int ht j;exact one rfl rfl
   grind
  |str=>
   simp only[nM]at f;split at f;.rename_i ht;obtain⟨b,rfl⟩:=okWide_string ht j;exact one rfl rfl
   grind
  |list a=>
   simp only[nM]at f;split at f;.rename_i ht;obtain⟨a,l,c,rfl⟩:=okWide_slice ht j;exact one rfl rfl
   grind
  |unit=>
   simp only[nM]at f;refine g rfl ?_;split at f;.rename_i ht;simp only[Value.okWide,ht]at j;grind
   .rename_i ht;simp only[Value.okWide,ht]at j;grind
   grind
  |pair a b=>
   simp only[nM]at f;refine g rfl ?_;split at f;.rename_i ht;simp only[Value.okWide,ht]at j;grind
   .rename_i ht;simp only[Value.okWide,ht]at j;grind
   grind
  |rx=>
   have s:rxB P t=true:=f;refine g rfl ?_;unfold rxB at s;split at s;.rename_i ht;simp only[Value.okWide,ht]at j;grind
   grind
theorem Om:∀(ts:List TypeId) (us:List Ty) (vs:List Value) (ds:List (DataW H)) (f:List MemPlace),fitAll P ts us=true->DataW.TrodAll enc P w 0 (λ_=>true) true ts vs ds f->(∀(j:Nat) (t:TypeId) (v:Value),ts[j]? =some t->vs[j]? =some v->∃r l,Value.okWide P w r l t v)->(∀p∈f,p.block<w.heap.size)->
 ∃xs:HD us,(XS us xs/\C3 us xs<=iZ ds)/\vs.length=(vI us xs).length/\∀(i:Nat) (v:Value) (x:AV),vs[i]? =some v->((vI us xs).map a8)[i]? =some x->RelA [] (λb=>b<w.heap.size) w v x
 |[],[],[],[],f,_,_,_,_=>⟨(),⟨trivial,ai_ _⟩,rfl,λi v x k=>by grind⟩
 |t::ts,u::us,v::vs,d::ds,f,g,n,k,e=>by simp only[fitAll,a_]at g;obtain⟨p,q,h1,h2,rfl⟩:=n;obtain⟨r,l,s⟩:=k 0 t v rfl rfl;obtain⟨x,⟨A,B⟩,F⟩:=Yr g.1 s h1 λy c=>e y (H_ _ c);obtain⟨xs,⟨C,I⟩,D,E⟩:=Om ts us vs ds q g.2 h2 (λj t v ht a=>k (j+1) t v (by grind) (by grind)) λy c=>e y (M_ _ c);refine⟨(x,xs),⟨⟨A,C⟩,by simp only[C3,iZ];omega⟩,by simp[vI,D],λi z y a c=>?_⟩;cases i with|zero=>simp only[ao_,h_]at a;simp only[vI,n_,ao_,h_]at c;subst a;subst c;exact B|succ i=>exact E i z y (by grind) (by simpa[vI]using c)
 |[],[],_::_,_,_,_,h,_,_=>(by cases h)
 |[],[],[],_::_,_,_,h,_,_=>(by cases h)
 |_::_,_::_,[],_,_,_,h,_,_=>(by cases h)
 |_::_,_::_,_::_,[],_,_,h,_,_=>(by cases h)
 |[],_::_,_,_,_,h,_,_,_=>(by cases h)
 |_::_,[],_,_,_,h,_,_,_=>(by cases h)
theorem vR(hl:laidOutB P=true){W f:World}(g:Below W.heap.size W f):∀(ts:List TypeId) (vs:List Value) (ds:List (DataW H)) (c:List MemPlace),zbP P ts=true->DataW.TrodAll enc P W 0 (λ_=>true) true ts vs ds c->(∀p∈c,p.block<W.heap.size)->
 DataW.TrodAll enc P f 0 (λb=>decide (b<W.heap.size)) true ts vs ds c
 |[],[],[],_,_,h,_=>h
 |t::ts,v::vs,d::ds,c,hr,h,a=>by simp only[zbP,r_,a_,decide_eq_true_eq]at hr;obtain⟨p,q,h1,h2,rfl⟩:=h;exact⟨p,q,Below.trod hl hr.1.1 hr.1.2 h1 g λy e=>a y (H_ _ e),vR hl g ts vs ds q hr.2 h2 λy e=>a y (M_ _ e),rfl⟩
 |[],_::_,_,_,_,h,_=>(by cases h)
 |[],[],_::_,_,_,h,_=>(by cases h)
 |_::_,[],_,_,_,h,_=>(by cases h)
 |_::_,_::_,[],_,_,h,_=>(by cases h)
theorem BW{a:Nat}{sp:Nat->Bool}{hd:Bool}:∀(ts:List TypeId) (vs:List Value) (ds:List (DataW H)) (b:List MemPlace),DataW.TrodAll enc P w a sp hd ts vs ds b->ds.length=ts.length
 |[],[],[],_,_=>rfl
 |_::ts,_::vs,_::ds,_,⟨_,_,_,h,_⟩=>by simp[BW ts vs ds _ h]
 |[],_::_,_,_,h=>(by cases h)
 |[],[],_::_,_,h=>(by cases h)
 |_::_,[],_,_,h=>(by cases h)
 |_::_,_::_,[],_,h=>(by cases h)
theorem UE(E:P.follows .mixedOrders=true){tbl:Nat->Option gC}(B:Mb P tbl){W:World}(A:GT W){N:Nat}{us:List Ty}{xs:HD us}{vs:List Value}(hl:vs.length=(vI us xs).length) (c:∀(i:Nat) (v:Value) (x:AV),vs[i]? =some v->((vI us xs).map a8)[i]? =some x->RelA [] (λb=>b<W.heap.size) W v x) {s:S} (z:Conv tbl N (vI us xs) [] (·=some s)) (hs:a8 (res s.fr.length s.fr)= .b (.pv (.sc (.bool true)))): Calls P (N%10000) vs.toArray W λe d=>e= .returned (.bool true)/\Below W.heap.size W d:=by
 obtain⟨o,rfl,y⟩:=Md E B z;refine(y W [] (λb=>b<W.heap.size) vs (GW.of A) ⟨rfl,λb h=>h,λi j li H g f=>(by simp),λi l g f=>(by grind),λi l o f=>(by simp)⟩ (by grind) c).mono λe d C=>?_;rcases C with⟨v,r,n,θ',D',h1,h2,p,_,a,_⟩|⟨F,_,_,h2,_⟩;.have u:some (r,n)=some (a8 (res s.fr.length s.fr),s.hp.map bT):=h2;simp only[h_,as_.injEq]at u;rw[u.1,hs]at p;have w:aX D' d v (.sc (.bool true)):=p;cases w;refine⟨h1,a.os,a.tape,a.output,a.size,λk D=>a.block k D ?_⟩;rintro⟨i,l,f,_⟩;grind
 .cases h2
end
theorem wrap_i64{n:Int}(a: -9223372036854775808<=n:=by omega)(h1:n<=9223372036854775807:=by omega):G_ .i64 n=n:=by simp only[G_,aq_,ac_];grind
theorem wrap_u8(n:Int):G_ .u8 n=n%256:=by simp[G_,aq_,ac_]
def wrap_u32(n:Int):G_ .u32 n=n%4294967296:=by simp[G_,aq_,ac_]
theorem wrap_u64(n:Int):G_ .u64 n=n%18446744073709551616:=by simp[G_,aq_,ac_]
theorem ao{i:Nat}{n:Nat}(a:i<n)(hn:n<=9223372036854775807:=by omega):G_ .i64 ((i:Int)+1)=((i+1:Nat):Int):=by rw[wrap_i64 (by omega) (by omega)];rfl
section
variable {α β γ σ τ:Type}
theorem Nm{xs:List α}(i:Nat):lx xs (i:Int)=xs[i]? :=by simp[lx]
theorem cD{m:Nat->Option α}{Q:α->Prop}{a:α}(h:∀n,m n=some a)(b:Q a):Wp m Q:=⟨a,b,0,λn _=>h n⟩
theorem Wp.imp{m:Nat->Option α}{Q E:α->Prop}(h:Wp m Q)(H:∀r,Q r->E r):Wp m E:=wp_mono h H
theorem aI{N:Nat}{body:Nat->σ->Option (σ⊕τ)}{s0:σ}{Q:τ->Prop}(I:Nat->σ->Prop)(d:I 0 s0) (b:∀i s,i<N->I i s->Wp (λn=>body n s) λr=>match r with| .inl s'=>I (i+1) s'| .inr t=>Q t) (c:∀s,I N s->Wp (λn=>body n s) λr=>match r with| .inl _=>False| .inr t=>Q t):Wp (λn=>ff n (body n) s0) Q:=by
 have key:∀(k:Nat) (i:Nat) (s:σ),i+k=N->I i s->∃t,Q t/\∃a,∀n m,a<=n->k+1<=m->ff m (body n) s=some t:=by
  intro k;induction k with
  |zero=>
   intro i s e hs;have:i=N:=by omega
   subst this;obtain⟨r,hr,a,hn⟩:=c s hs;cases r with|inl s'=>grind|inr t=>refine⟨t,hr,a,λn m h1 h2=>?_⟩;obtain⟨m',rfl⟩:∃m',m=m'+1:=⟨m - 1,by omega⟩;simp only[ff];grind
  |succ k h=>
   intro i s e hs;obtain⟨r,hr,a,hn⟩:=b i s (by omega) hs;cases r with
   |inl s'=>obtain⟨t,ht,j,g⟩:=h (i+1) s' (by omega) hr;refine⟨t,ht,max a j,λn m h1 h2=>?_⟩;obtain⟨m',rfl⟩:∃m',m=m'+1:=⟨m - 1,by omega⟩;simp only[ff];grind
   |inr t=>refine⟨t,hr,a,λn m h1 h2=>?_⟩;obtain⟨m',rfl⟩:∃m',m=m'+1:=⟨m - 1,by omega⟩;simp only[ff];grind
 obtain⟨t,ht,a,hn⟩:=key N 0 s0 (by simp) d;exact⟨t,ht,max a (N+1),λn f=>hn n n (by omega) (by omega)⟩
theorem zw{xs:List α}{p:α->Bool}{g:α->β}{e:γ}{body:Nat->(Int×Unit)->Option ((Int×Unit)⊕β⊕γ)}{Q:β⊕γ->Prop} (h:∀(i:Nat) (x:α),xs[i]? =some x->Wp (λn=>body n ((i:Int),())) λr=>r=if p x then .inr (.inl (g x))else .inl (((i+1:Nat):Int),())) (b:Wp (λn=>body n ((xs.length:Int),())) λr=>r= .inr (.inr e)) (d:Q (match xs.find? p with|some x=>.inl (g x)|none=>.inr e)):Wp (λn=>ff n (body n) ((0:Int),())) Q:=by
 refine aI (N:=xs.length) (I:=λi s=>s=((i:Int),())/\xs.find? p=(xs.drop i).find? p) ⟨rfl,by simp⟩ (λi s a hs=>?_) λs hs=>?_;.obtain⟨rfl,hd⟩:=hs;have c:=g_ a;refine wp_mono (h i _ c) λr hr=>?_;rw[R_ a,List.find?_cons]at hd;grind
 .obtain⟨rfl,hd⟩:=hs;refine wp_mono b λr hr=>?_;grind
end
section
variable {α β σ τ:Type}
theorem aD{b:Bool}{m k:Nat->Option α}{Q:α->Prop}(a:b=true)(h:Wp m Q):Wp (λn=>bif b then m n else k n) Q:=by subst a;exact h
theorem ak{b:Bool}{m k:Nat->Option α}{Q:α->Prop}(a:b=false)(h:Wp k Q):Wp (λn=>bif b then m n else k n) Q:=by subst a;exact h
theorem bf{a b:Bool}{m:Nat->Option Bool}{Q:Bool->Prop}(h:a=false->Wp m λr=>r=b)(c:Q (a||b)):Wp (λn=>bif a then some true else m n) Q:=by
 cases a;.exact wp_mono (h rfl) λr hr=>by grind
 .exact aa c
theorem bc{a b:Bool}{m:Nat->Option Bool}{Q:Bool->Prop}(h:a=true->Wp m λr=>r=b)(c:Q (a&&b)):Wp (λn=>bif a then m n else some false) Q:=by
 cases a;.exact aa c
 .exact wp_mono (h rfl) λr hr=>by grind
end
section
variable {tbl:Nat->Option gC}
theorem xK{f:Nat}{ars:List V}{os:List Ob}{sh:Sh}{R:HL sh.sl->Prop}(hp:∀c,yV sh (gq sh c)=some c)(h:Conv tbl f ars os λo=>∃c,o=some (gq sh c)/\R c):∃c,R c/\aA tbl f ars os sh c:=by obtain⟨o,⟨c,rfl,hr⟩,a,hn⟩:=h;exact⟨c,hr,tf (hp c) ⟨_,rfl,a,hn⟩⟩
theorem TW{f:Nat}{g:List V->Option S}{ars:List V}{sh:Sh}{c:HL sh.sl}(ht:tbl f=some (.nat g))(hg:g ars=some (gq sh c))(hp:yV sh (gq sh c)=some c):aA tbl f ars [] sh c:=by refine tf hp ⟨_,rfl,1,λn hn=>?_⟩;obtain⟨m,rfl⟩:∃m,n=m+1:=⟨n - 1,by omega⟩;simp only[sg,ht,hg]
end
section
variable {α β γ σ τ:Type}
theorem zav{xs:List α}{i:Nat}(h:i<xs.length):lx xs (i:Int)=some xs[i]:=by rw[Nm];exact g_ h
theorem aB{xs:List α}{i:Nat}{f:Nat->α->Option β}{Q:β->Prop}(h:i<xs.length)(a:Wp (λn=>f n xs[i]) Q):Wp (λn=>P_ (lx xs (i:Int)) (f n)) Q:=by rw[zav h];grind
theorem bM{xs:List α}{i:Int}{f:Nat->α->Option β}{Q:β->Prop}(a:0<=i)(h:i.toNat<xs.length)(b:Wp (λn=>f n xs[i.toNat]) Q):Wp (λn=>P_ (lx xs i) (f n)) Q:=by obtain⟨k,rfl⟩:=an_ a;exact aB (by omega) b
theorem aO{i N:Nat}{m k:Nat->Option α}{Q:α->Prop}(h:i<N)(a:Wp m Q):Wp (λn=>bif decide ((i:Int)<(N:Int))then m n else k n) Q:=by rw[show decide ((i:Int)<(N:Int))=true from decide_eq_true (by omega)];grind
theorem aH{N:Nat}{m k:Nat->Option α}{Q:α->Prop}(a:Wp k Q):Wp (λn=>bif decide ((N:Int)<(N:Int))then m n else k n) Q:=by grind
theorem r8{N:Nat}{good:Nat->Prop}{e:β}{g:γ}{body:Nat->(Int×Unit)->Option ((Int×Unit)⊕β⊕γ)}{Q:β⊕γ->Prop} (h:∀i,i<N->Wp (λn=>body n ((i:Int),())) λr=>(good i/\r= .inl (((i+1:Nat):Int),()))\/(¬good i/\r= .inr (.inl e))) (a:Wp (λn=>body n ((N:Int),())) λr=>r= .inr (.inr g)) (hg:(∀i,i<N->good i)->Q (.inr g)) (d:(∃i,i<N/\¬good i)->Q (.inl e)):Wp (λn=>ff n (body n) ((0:Int),())) Q:=by
 refine aI (N:=N) (I:=λi s=>s=((i:Int),())/\∀j,j<i->good j) ⟨rfl,λj c=>absurd c (by simp)⟩ (λi s b hs=>?_) λs hs=>?_;.obtain⟨rfl,hd⟩:=hs;refine wp_mono (h i b) λr hr=>?_;grind
 .obtain⟨rfl,hd⟩:=hs;refine wp_mono a λr hr=>?_;grind
theorem ev{b:Bool}{good:Prop}{e:β}{s' a:σ}(c:b=true↔¬good)(hs:s'=a):Wp (λ_=>bif b then(some (.inr (.inl e)):Option (σ⊕β⊕γ))else some (.inl s')) (λr=>(good/\r= .inl a)\/(¬good/\r= .inr (.inl e))):=by
 subst hs;cases b;.exact aa (.inl ⟨ae_ λh=>by grind,rfl⟩)
 .exact aa (.inr ⟨c.1 rfl,rfl⟩)
theorem JO{xs:List α}{P:α->Prop}:(∀i,i<xs.length->∀x,xs[i]? =some x->P x)↔∀x∈xs,P x:=by
 constructor;.intro h x b;obtain⟨i,a,rfl⟩:=List.mem_iff_getElem.1 b;exact h i a _ (g_ a)
 grind
theorem kL{xs:List α}{P:α->Prop}{e:β}{g:γ}{body:Nat->(Int×Unit)->Option ((Int×Unit)⊕β⊕γ)}{Q:β⊕γ->Prop} (h:∀i (a:i<xs.length),Wp (λn=>body n ((i:Int),())) λr=>(P xs[i]/\r= .inl (((i+1:Nat):Int),()))\/(¬P xs[i]/\r= .inr (.inl e))) (c:Wp (λn=>body n ((xs.length:Int),())) λr=>r= .inr (.inr g)) (hg:(∀x∈xs,P x)->Q (.inr g)) (b:(¬∀x∈xs,P x)->Q (.inl e)):Wp (λn=>ff n (body n) ((0:Int),())) Q:=by refine r8 (N:=xs.length) (good:=λi=>∀x,xs[i]? =some x->P x) (λi a=>?_) c (λh=>hg (JO.1 h)) (fun⟨i,a,hn⟩=>b λh=>hn λx d=>h x (y_ d));refine wp_mono (h i a) λr hr=>?_;grind
def kV(f:σ->α->σ⊕β):σ->List α->σ⊕β
 |s,[]=>.inl s
 |s,x::xs=>match f s x with
  | .inl s'=>kV f s' xs
  | .inr b=>.inr b
theorem Ze{ρ:Type}{xs:List α}{f:σ->α->σ⊕β}{s0:σ}{Inv:σ->Prop}{enc:Nat->σ->ρ}{oE:σ->τ}{oB:β->τ}{body:Nat->ρ->Option (ρ⊕τ)}{Q:τ->Prop}(d:Inv s0) (h:∀i (a:i<xs.length) s,Inv s->Wp (λn=>body n (enc i s)) λr=>match f s xs[i]with| .inl s'=>Inv s'/\r= .inl (enc (i+1) s')| .inr b=>r= .inr (oB b)) (e:∀s,Inv s->Wp (λn=>body n (enc xs.length s)) λr=>r= .inr (oE s)) (c:Q (match kV f s0 xs with| .inl s=>oE s| .inr b=>oB b)):Wp (λn=>ff n (body n) (enc 0 s0)) Q:=by
 refine aI (N:=xs.length) (I:=λi t=>∃s,t=enc i s/\Inv s/\kV f s0 xs=kV f s (xs.drop i)) ⟨s0,rfl,d,by simp⟩ (λi t a ht=>?_) λt ht=>?_;.obtain⟨s,rfl,hs,hd⟩:=ht;refine wp_mono (h i a s hs) λr hr=>?_;rw[R_ a]at hd;simp only[kV]at hd;grind
 .obtain⟨s,rfl,hs,hd⟩:=ht;refine wp_mono (e s hs) λr hr=>?_;subst hr;rw[aF_]at hd;rw[hd]at c;exact c
end
section
variable {α β γ σ τ:Type}
theorem m8{xs:List α}{i:Nat}{x:α}{f:Nat->α->Option β}{Q:β->Prop}(h:xs[i]? =some x)(a:Wp (λn=>f n x) Q):Wp (λn=>P_ (lx xs (i:Int)) (f n)) Q:=by rw[Nm,h];grind
theorem O6{ρ:Type}{xs:List α}{f:σ->α->σ⊕β}{s0:σ}{Inv:Nat->σ->Prop}{enc:Nat->σ->ρ}{oE:σ->τ}{oB:β->τ}{body:Nat->ρ->Option (ρ⊕τ)}{Q:τ->Prop}(d:Inv 0 s0) (h:∀i (a:i<xs.length) s,Inv i s->Wp (λn=>body n (enc i s)) λr=>match f s xs[i]with| .inl s'=>Inv (i+1) s'/\r= .inl (enc (i+1) s')| .inr b=>r= .inr (oB b)) (g:∀s,Inv xs.length s->Wp (λn=>body n (enc xs.length s)) λr=>r= .inr (oE s)) (e:∀r,kV f s0 xs=r->(∀s,r= .inl s->Inv xs.length s)->Q (match r with| .inl s=>oE s| .inr b=>oB b)):Wp (λn=>ff n (body n) (enc 0 s0)) Q:=by
 refine aI (N:=xs.length) (I:=λi t=>∃s,t=enc i s/\Inv i s/\kV f s0 xs=kV f s (xs.drop i)) ⟨s0,rfl,d,by simp⟩ (λi t a ht=>?_) λt ht=>?_;.obtain⟨s,rfl,hs,hd⟩:=ht;refine wp_mono (h i a s hs) λr hr=>?_;rw[R_ a]at hd;simp only[kV]at hd;grind
 .obtain⟨s,rfl,hs,hd⟩:=ht;refine wp_mono (g s hs) λr hr=>?_;subst hr;rw[aF_]at hd;exact e _ hd λs' c=>by cases c;omega
end
def wc{α:Type}(b:Bool)(x y:α):α:=cond b x y
def wlt(a b:Int):Bool:=decide (a<b)
def wle(a b:Int):Bool:=decide (a<=b)
def wgt(a b:Int):Bool:=decide (a>b)
def wge(a b:Int):Bool:=decide (a>=b)
def weq(a b:Int):Bool:=a==b
def wne(a b:Int):Bool:=a != b
def zc5(m:Int):Bool:=decide (m=0)
def wbq(a b:Bool):Bool:=a==b
def wsq(a b:List UInt8):Bool:=a==b
def wn(a:Bool):Bool:= !a
def wo(a b:Bool):Bool:=a||b
def zes(a b:Bool):Bool:=a&&b
def wx(a b:Bool):Bool:=a ^^ b
def zc4(a b:Int):Int:=a+b
def Zg(a b:Int):Int:=a - b
def zc7(a b:Int):Int:=a*b
def zc9(a b:Int):Int:=a.tdiv b
def zda(a b:Int):Int:=a.tmod b
def zdb(k:IntKind)(a b:Int):Int:=a*2^(min b.toNat k.bits)
def zdc(k:IntKind)(a b:Int):Int:=a.fdiv (2^(min b.toNat k.bits))
def Bp{α:Type}(l:List α):Nat:=l.length
def wln{α:Type}(l:List α):Int:=(l.length:Int)
def wi(n:Nat):Int:=(n:Int)
def wt(n:Int):Nat:=Int.toNat n
def w8(c:UInt8):Int:=(c.toNat:Int)
def wE{α:Type}(l:List α)(i:Nat):Option α:=l[i]?
def Zf{α:Type}(l:List α)(i:Nat)(x:α):List α:=l.set i x
def wap{α:Type}(l m:List α):List α:=l++m
def wtd{α:Type}(l:List α)(h d:Nat):List α:=(l.take h).drop d
def zbr{α:Type}(n:Int)(x:α):List α:=O_ n.toNat x
def Zd{α:Type}(l m:List α)(b:Nat):Bool:=decide ((l.length+m.length)*b<=140737488355328)
def BX{α:Type}(l:List α)(b:Nat):Bool:=decide (l.length*b<=140737488355328)
def wms(l c:Int)(bytes:Nat):Bool:=decide (0<=l)&&decide (l<=c)&&decide (c<=9223372036854775807)&&decide (bytes*c<=281474976710656)
def wsl(l h m n:Nat):Bool:=decide (l<=h)&&decide (h<=m)&&decide (m<=n)
def wss(l h n:Nat):Bool:=decide (l<=h)&&decide (h<=n)
def wfl(b:Bool)(h m:Nat):Bool:=b&&decide (h=m)
def wix(n:Nat)(m:Int):Bool:=decide (0<=m)&&decide (m<n)
def wml{α:Type}(l:List α):Bool:=decide (l.length<maxLen)
def wst(a b:List UInt8):Bool:=decide (a.length+b.length<=9223372036854775807)
def wcp{α:Type}(ys xs:List α):List α:=ys.take xs.length++xs.drop ys.length
def zc6{α:Type}(xs ys:List α):Int:=(min xs.length ys.length:Nat)
def wmx(a b:Int):Int:=max a b
def wmi(a b:Int):Int:=min a b
def oMM(mx:Bool):List Int->Int->Int
 |[],n=>n
 |m::l,n=>oMM mx l (match mx with|true=>wmx n m|false=>wmi n m)
def wbs(l:List Int):List UInt8:=l.map fun(n:Int)=>UInt8.ofNat n.toNat
def wnq(a b:Nat):Bool:=i_ a b
def wB{α β:Type}(x:Option α)(f:α->Option β):Option β:=P_ x f
def wG{α:Type}(b:Bool)(x:Option α):Option α:=bU b x
def wI{α:Type}(l:List α)(i:Int):Option α:=lx l i
def wL{σ τ:Type}(n:Nat)(f:σ->Option (σ⊕τ))(s:σ):Option τ:=ff n f s
def wK(O:bh)(f:FuncId)(a:List V)(o:List Ob)(sh:Sh):Option (HL sh.sl):=gw O f a o sh
def wP(O:bh)(f:FuncId)(a:List V)(o:List Ob)(sh:Sh):Option (Option (HL sh.sl)):=qk O f a o sh
def wO{α R:Type}(o:Option α)(p:Option R)(k:α->Option R):Option R:=zd1 o p k
def wR{sh:Sh}(c:HL sh.sl):Option (Option S):=qc sh c
def wS{α β γ:Type}(f:α->γ)(g:β->γ)(x:α⊕β):γ:=Sum.elim f g x
def wkg(a b:Ty)(l:List (a.den×b.den))(x:a.den):Option b.den:=di a b l x
def wks(a b:Ty)(l:List (a.den×b.den))(x:a.den)(y:b.den):List (a.den×b.den):=fe a b l x y
def ww(k:IntKind)(n:Int):Int:=k.wrap n
def wrw(t:Ty)(n:Nat)(v:V)(i:Int):Option t.den:=rowAt t n v i
def wqD(t:Ty)(x y:t.den):Bool:=hZ t x y
def wbt(k:IntKind)(o:BinOp)(a b:Int):Int:=kh k o a b
def wz(t:Ty):t.den:=t.zero
def wbl(a b:List UInt8):Bool:=Op.bytesLess a b
def w1{α β:Type}(x:α×β):α:=x.1
def w2{α β:Type}(x:α×β):β:=x.2
def H4(x:Rx):OB.den:=x.out
def wid{α:Type}{x:α}:α:=x
def wch(n:Nat):UInt8:=UInt8.ofNat n
def wis{α:Type}(o:Option α):Bool:=o.isSome
def wgd{α:Type}(o:Option α)(d:α):α:=o.getD d
attribute [irreducible] wc wlt wle wgt wge weq wne zc5 wbq wsq wn wo zes wx zc4 Zg zc7 zc9 zda zdb zdc Bp wln wi wt w8 wE Zf wap wtd zbr Zd BX wms wsl wss wfl wix wml wst wcp zc6 wmx wmi wbs wnq wB wG wI wL wK wP wO wR wS wkg wks ww wrw wqD wbt wz wbl w1 w2 H4 wid wch wis wgd
def zeY(t:Ty):t.den->t.den->Bool:=match t with
 | .int _=>λx y=>weq x y
 |t=>λx y=>wqD t x y
def oA1:V->V
 | .d t x=>.d t (@wid _ x)
 | .nil t=>.nil t
 | .dp t x=>.dp t (@wid _ x)
 | .full t x=>.full t (@wid _ x)
 | .HQ f cs=>.HQ f (cs.map λc=>⟨c.1, @wid _ c.2⟩)
 |v=>v
def oA:V->V
 | .agg vs=>.agg (vs.map oA1)
 | .dC vs=>.dC (vs.map oA1)
 |v=>oA1 v
def oAO:Ob->Ob
 | .box t cs=>.box t (cs.map oA)
 | .vec t u xs=>.vec t u (@wid _ xs)
 | .map a b c d e=>.map a b c d (@wid _ e)
 | .tree a b c d e=>.tree a b c (@wid _ d) e
 |o=>o
def Fz:(t:Ty)->(off:Nat)->(u:Ty)->t.den->Option u.den
 | .pair a b,off,u,x=>bif (decide (Ty.pair a b=u)&&i_ off 0)then bA (.pair a b) u x else bif J_ (off+1) a.sz then Fz a off u (w1 x)else Fz b (off - a.sz) u (w2 x)
 | .rx,off,u,x=>match off with
  |0=>bif decide (u= .rx)then bA .rx u x else bA tI u (w1 (H4 x))
  |1=>bA tI u (w1 (w2 (H4 x)))
  |2=>bA tI u (w1 (w2 (w2 (H4 x))))
  |_=>bA (.list .rx) u (w1 (w2 (w2 (w2 (H4 x)))))
 |t,_,u,x=>bA t u x
def XK:(t:Ty)->(off:Nat)->(u:Ty)->t.den->u.den->Option t.den
 | .pair a b,off,u,x,y=>bif (decide (Ty.pair a b=u)&&i_ off 0)then bA u (.pair a b) y else bif J_ (off+1) a.sz then(match XK a off u (w1 x) y with|some z=>some (z,w2 x)|none=>none)else(match XK b (off - a.sz) u (w2 x) y with|some z=>some (w1 x,z)|none=>none)
 |t,_,u,_,y=>bA u t y
def KZ:(t:Ty)->t.den->List V
 | .unit,_=>[]
 | .pair a b,x=>KZ a (w1 x)++KZ b (w2 x)
 | .rx,x=>[.d tI (w1 (H4 x)),.d tI (w1 (w2 (H4 x))),.d tI (w1 (w2 (w2 (H4 x)))),.d (.list .rx) (w1 (w2 (w2 (w2 (H4 x)))))]
 |t,x=>[.d t x]
def Qy:V->List V
 | .d t x=>KZ t x
 | .agg vs=>vs
 |v=>[v]
def zdV(t:Ty)(y:t.den):Nat->List V->Int->Option (List V)
 |n+1,vs,m=>match PH t vs with
  |some (x,l)=>match zdV t y n l (Zg m 1)with
   |some r=>some (KZ t (wc (zc5 m) y x)++r)
   |none=>none
  |none=>none
 |0,vs,_=>some vs
noncomputable def oN{R:Type}(n:Nat)(k:Nat->R):R:=Nat.rec (motive:=λ_=>R) (k 0) (λm _=>k (Nat.succ m)) n
noncomputable def oL{α R:Type}(f:α->(α->R)->R)(l:List α):(List α->R)->R:=List.rec (motive:=λ_=>(List α->R)->R) (λk=>k []) (λx _ a k=>f x λx=>a λl=>k (x::l)) l
def oV1{R:Type}(v:V)(k:V->R):R:=match v with
 | .d t x=>k (.d t x)
 | .nil t=>k (.nil t)
 | .agg vs=>k (.agg vs)
 | .dC vs=>k (.dC vs)
 | .sl i=>k (.sl i)
 | .ptr i o=>k (.ptr i o)
 | .jb i j o=>k (.jb i j o)
 | .dp t x=>k (.dp t x)
 | .kj f g=>k (.kj f g)
 | .HQ f cs=>k (.HQ f cs)
 | .mp i=>k (.mp i)
 | .full t x=>k (.full t x)
 | .LF a b c d e=>k (.LF a b c d e)
 | .raw v=>k (.raw v)
 | .any=>k .any
 | .LD=>k .LD
 | .lit a b c=>k (.lit a b c)
noncomputable def oV{R:Type}(v:V)(k:V->R):R:=match v with
 | .agg vs=>oL oV1 vs λvs=>k (.agg vs)
 | .dC vs=>oL oV1 vs λvs=>k (.dC vs)
 |v=>oV1 v k
noncomputable def oO{R:Type}(o:Ob)(k:Ob->R):R:=match o with
 | .gone=>k .gone
 | .free=>k .free
 | .box t cs=>oL oV cs λcs=>k (.box t cs)
 | .vec t u xs=>k (.vec t u xs)
 | .map a b c d e=>k (.map a b c d e)
 | .tree a b c d e=>k (.tree a b c d e)
noncomputable def oH{R:Type}(hp:List Ob)(k:List Ob->R):R:=oL oO hp k
noncomputable def oS{R:Type}(s:S)(k:S->R):R:=match s with
 |⟨fr,hp⟩=>oL (λx k=>match x with|(a,v)=>oV v λv=>k (a,v)) fr λfr=>oH hp λhp=>k ⟨fr,hp⟩
noncomputable def oU{R:Type}:(sl:List Slot)->HL sl->S->(S->R)->R
 |[],_,s,κ=>oS s κ
 | .iM id e k t j kid::l,c,s,κ=>oH (setAt s.hp id (.tree e k t (w1 (w1 c)) (some (wt (w2 (w1 c)),j,.sl kid)))) λhp=>oU l (w2 c) ⟨s.fr,hp⟩ κ
 |x::l,c,s,κ=>oH (unpack [x] (w1 c,()) s).hp λhp=>oU l (w2 c) ⟨(unpack [x] (w1 c,()) s).fr,hp⟩ κ
section
variable {R:Type}
noncomputable def oPk(s:S):(sl:List Slot)->Option (HL sl)
 |[]=>some ()
 | .iM id _ _ t _ _::l=>match s.hp[id]?,oPk s l with
  |some (.tree _ _ u xs (some (i,_,_))),some r=>match bA (.list u) (.list t) xs with
   |some xs=>some ((xs,wi i),r)
   |none=>none
  |_,_=>none
 |x::l=>match Tm s x,oPk s l with
  |some c,some r=>some (c,r)
  |_,_=>none
noncomputable def oP(sh:Sh)(s:S):Option (HL sh.sl):=oPk s sh.sl
noncomputable def oI:(xs:List (Nat×Sh))->Nat->S->Option (XT xs)
 |[],_,_=>none
 |[(k,sh)],key,s=>bif i_ k key then oP sh s else none
 |(k,sh)::a::l,key,s=>bif i_ k key then(match oP sh s with|some c=>some (.inl c)|none=>none)else(match oI (a::l) key s with|some c=>some (.inr c)|none=>none)
noncomputable def oD(s:S)(κ:Nat->S->Option R):(xs:List (Nat×Sh))->XT xs->Option R
 |[],_=>none
 |[(k,sh)],c=>oU sh.sl c (sh.s9 s) (κ k)
 |(k,sh)::a::l,c=>wS (λc=>oU sh.sl c (sh.s9 s) (κ k)) (λc=>oD s κ (a::l) c) c
noncomputable def oG(s:S)(x:X):Option V:=match x with
 | .tm k=>Gv s.fr k
 | .k .str x=>some (.d .str (x.map λc=>wch c.toNat))
 |x=>s.get x
def zeH(op:BinOp)(k:IntKind)(a b:Int)(κ:V->Option R):Option R:=match op with
 | .shl=>wG (wle 0 b) (κ (.d (.int k) (ww k (zdb k a b))))
 | .shr=>wG (wle 0 b) (κ (.d (.int k) (zdc k a b)))
 | .add=>κ (.d (.int k) (ww k (zc4 a b)))
 | .sub=>κ (.d (.int k) (ww k (Zg a b)))
 | .mul=>κ (.d (.int k) (ww k (zc7 a b)))
 | .quo=>wG (wne b 0) (κ (.d (.int k) (ww k (zc9 a b))))
 | .rem=>wG (wne b 0) (κ (.d (.int k) (zda a b)))
 | .and=>κ (.d (.int k) (wbt k .and a b))
 | .or=>κ (.d (.int k) (wbt k .or a b))
 | .xor=>κ (.d (.int k) (wbt k .xor a b))
 | .andNot=>κ (.d (.int k) (wbt k .andNot a b))
 | .eql=>κ (.d .bool (weq a b))
 | .neq=>κ (.d .bool (wne a b))
 | .lss=>κ (.d .bool (wlt a b))
 | .leq=>κ (.d .bool (wle a b))
 | .gtr=>κ (.d .bool (wgt a b))
 | .geq=>κ (.d .bool (wge a b))
def zdS(op:BinOp)(a b:List UInt8)(κ:V->Option R):Option R:=match op with
 | .add=>wG (wst a b) (κ (.d .str (wap a b)))
 | .eql=>κ (.d .bool (wsq a b))
 | .neq=>κ (.d .bool (wn (wsq a b)))
 | .lss=>κ (.d .bool (wbl a b))
 | .leq=>κ (.d .bool (wo (wbl a b) (wsq a b)))
 | .gtr=>κ (.d .bool (wn (wo (wbl a b) (wsq a b))))
 | .geq=>κ (.d .bool (wn (wbl a b)))
 |_=>none
noncomputable def Fy(s:S)(x:Option X)(a:Nat)(κ:Nat->Option R):Option R:=match x with
 |none=>κ a
 |some x=>intOf (oG s x) λn=>wG (wle 0 n) (κ (wt n))
def zdU(hp:List Ob)(t:Ty)(v:Option V)(κ:V->Option R):Option R:=match v with
 |some (.dp u x)=>match bA u t x with
  |some x=>κ (.d t x)
  |none=>none
 |some (.ptr id off)=>match hp[id]? with
  |some (.box _ cs)=>κ (whole t ((cs.drop off).take t.sz))
  |_=>none
 |some (.LF id off n u m)=>match hp[id]? with
  |some (.box _ cs)=>wB (wrw t n (.agg ((cs.drop off).take (n*u.sz))) m) λx=>κ (.d t x)
  |_=>none
 |some (.jb id i off)=>match hp[id]? with
  |some (.vec _ u xs)=>wB (wE xs i) λx=>(match Fz u off t x with
   |some y=>κ (.d t y)
   |none=>none)
  |some (.tree _ k u xs hole)=>bif k.mJ off t.sz then wB (wE xs i) λx=>(match Fz u off t x with
   |some y=>κ (.d t y)
   |none=>none)else(match hole with
    |some (a,_,v)=>wB (wE xs i) λ_=>wG (wnq a i) (κ v)
    |none=>none)
  |_=>none
 |_=>none
def zcy(s:S)(t:Ty)(a:Option V)(v:Option V)(κ:S->Option R):Option R:=match a,v with
 |some (.ptr id off),some v=>match s.hp[id]? with
  |some (.box tid cs)=>κ ⟨s.fr,setAt s.hp id (.box tid (fS cs off (Qy v)))⟩
  |_=>none
 |some (.LF id off n u m),some v=>match s.hp[id]?,cr t v with
  |some (.box tid cs),some y=>match zdV t y n ((cs.drop off).take (n*u.sz)) m with
   |some vs=>wG (wix n m) (κ ⟨s.fr,setAt s.hp id (.box tid (fS cs off vs))⟩)
   |none=>none
  |_,_=>none
 |some (.jb id i off),some v=>match s.hp[id]?,cr t v with
  |some (.vec e u xs),some y=>wB (wE xs i) λx=>(match XK u off t x y with
   |some z=>κ ⟨s.fr,setAt s.hp id (.vec e u (Zf xs i z))⟩
   |none=>none)
  |some (.tree e k u xs hole),some y=>wB (wE xs i) λx=>(match XK u off t x y with
   |some z=>κ ⟨s.fr,setAt s.hp id (.tree e k u (Zf xs i z) hole)⟩
   |none=>none)
  |some (.tree e k u xs (some (b,c,_))),none=>(match v with
   | .sl kid=>wB (wE xs i) λ_=>wG (wnq b i) (κ ⟨s.fr,setAt s.hp id (.tree e k u xs (some (b,c,.sl kid)))⟩)
   |_=>none)
  |_,_=>none
 |_,_=>none
noncomputable def XH(s:S)(d:Option Nat)(B:List Nat)(sh:Sh)(κ:S->Option R)(c:HL sh.sl):Option R:=
 oU sh.sl c (sh.s9 ⟨[],[]⟩) λr=>oS ((s.back B r.hp).aE d (jD (V.eM (Ii B s.hp.length)) (res sh.n r.fr))) κ
noncomputable def XJ(jG:Bool)(O:bh)(s:S)(d:Option Nat)(B:List Nat)(f:FuncId)(ars:List V)(sh:Sh)(κ kp:S->Option R):Option R:=match N4 s B with
 |some os=>match jG with
  |false=>wB (wK O f (ars.map (jD (V.eM (EU B)))) (os.map (rO (V.eM (EU B)))) sh) (XH s d B sh κ)
  |true=>wB (wP O f (ars.map (jD (V.eM (EU B)))) (os.map (rO (V.eM (EU B)))) sh) λo=>wO o (kp (s.back B (os.map λ_=>.gone))) (XH s d B sh κ)
 |none=>none
noncomputable def XI(s:S)(cs:List V):List (Nat×Nat×X)->(List V->Option R)->Option R
 |[],κ=>κ cs
 |(off,_,x)::l,κ=>match oG s x with
  |some v=>XI s (fS cs off (Qy v)) l κ
  |none=>none
noncomputable def oMk(O:bh)(s:S)(op:lQ)(κ:Ob->(Nat->V)->Option R):Option R:=match op with
 | .alloc tid zero=>κ (.box tid zero) λn=>.ptr n 0
 | .box tid x=>match oG s x with
  |some v=>κ (.box tid (Qy v)) λn=>.ptr n 0
  |none=>none
 | .bI true tid t _ parts=>aY.listT s t parts λxs=>κ (.vec tid t xs) .sl
 | .cO tid t bytes l c=>intOf (oG s l) λl=>intOf (oG s c) λc=>wG (wms l c bytes) (κ (.vec tid t (zbr l (wz t))) .sl)
 | .append tid t bytes x y=>i6 s.hp t (oG s y) λys=>match oG s x with
  |some (.nil _)=>wG (BX ys bytes) (κ (.vec tid t ys) .sl)
  |some (.full _ _)=>wG (BX ys bytes) (κ (.vec tid t ys) .sl)
  |_=>none
 | .ir k e a b=>κ (.map k e a b []) .mp
 | .dE tid k u bytes l c=>intOf (oG s l) λl=>intOf (oG s c) λc=>wG (wms l c bytes) (κ (.tree tid k (.list u) (zbr l []) none) .sl)
 |_=>none
noncomputable def oOp(O:bh)(d:Option Nat)(op:lQ)(s:S)(κ kp:S->Option R):Option R:=match op with
 | .mv x=>match oG s x with
  |some v=>κ (s.aE d v)
  |none=>none
 | .pick c a b=>match oG s c,oG s a,oG s b with
  |some (.d .bool c),some (.d t x),some (.d u y)=>match bA u t y with
   |some y=>κ (s.aE d (.d t (wc c x y)))
   |none=>none
  |some (.d .bool c),some (.raw _),some (.d u y)=>wc c none (κ (s.aE d (.d u y)))
  |some (.d .bool c),some (.d t x),some (.raw _)=>wc c (κ (s.aE d (.d t x))) none
  |_,_,_=>none
 | .bin op x y=>match oG s x,oG s y with
  |some (.d (.int k) a),some (.d (.int _) b)=>zeH op k a b λv=>κ (s.aE d v)
  |some (.d .str a),some (.d .str b)=>zdS op a b λv=>κ (s.aE d v)
  |_,_=>none
 | .G8 neg x y=>match oG s x,oG s y with
  |some (.d .bool a),some (.d .bool b)=>κ (s.aE d (.d .bool (wx neg (wbq a b))))
  |_,_=>none
 | .sL neg _ t x y=>match oG s x,oG s y with
  |some v,some u=>match cr t v,cr t u with
   |some a,some b=>κ (s.aE d (.d .bool (wx neg (wqD t a b))))
   |_,_=>none
  |_,_=>none
 | .un op x=>match op,oG s x with
  | .not,some (.d .bool a)=>κ (s.aE d (.d .bool (wn a)))
  | .neg,some (.d (.int k) a)=>κ (s.aE d (.d (.int k) (ww k (Zg 0 a))))
  |_,_=>none
 | .len _ x=>match oG s x with
  |some (.d .str a)=>κ (s.aE d (.d (.int .i64) (wln a)))
  |some (.d (.list _) a)=>κ (s.aE d (.d (.int .i64) (wln a)))
  |some (.nil _)=>κ (s.aE d (.d (.int .i64) 0))
  |some (.sl id)=>match s.hp[id]? with
   |some (.vec _ _ xs)=>κ (s.aE d (.d (.int .i64) (wln xs)))
   |some (.tree _ _ _ xs _)=>κ (s.aE d (.d (.int .i64) (wln xs)))
   |_=>none
  |_=>none
 | .oY _ _ x=>match oG s x with
  |some (.mp id)=>match s.hp[id]? with
   |some (.map _ _ _ _ kvs)=>κ (s.aE d (.d (.int .i64) (wln kvs)))
   |_=>none
  |_=>none
 | .qC x i=>match oG s x with
  |some (.d .str a)=>intOf (oG s i) λn=>wB (wI a n) λc=>κ (s.aE d (.d (.int .u8) (w8 c)))
  |_=>none
 | .pX n t x i=>match oG s x with
  |some v=>intOf (oG s i) λm=>wB (wrw t n v m) λc=>κ (s.aE d (.d t c))
  |none=>none
 | .qA t x i=>match oG s x with
  |some (.sl id)=>match s.hp[id]? with
   |some (.vec _ _ xs)=>intOf (oG s i) λn=>wB (wI xs n) λ_=>κ (s.aE d (.jb id (wt n) 0))
   |some (.tree _ _ _ xs _)=>intOf (oG s i) λn=>wB (wI xs n) λ_=>κ (s.aE d (.jb id (wt n) 0))
   |_=>none
  |some (.d (.list u) xs)=>match bA (.list u) (.list t) xs with
   |some xs=>intOf (oG s i) λn=>wB (wI xs n) λx=>κ (s.aE d (.dp t x))
   |none=>none
  |_=>none
 | .qB n t x i=>match oG s x,i with
  |some (.ptr id off),.k (.int _) m=>wG (wix n m) (κ (s.aE d (.ptr id (off+m.toNat*t.sz))))
  |some (.ptr id off),i=>intOf (oG s i) λm=>wG (wix n m) (κ (s.aE d (.LF id off n t m)))
  |some (.dp u y),i=>intOf (oG s i) λm=>wB (wrw t n (.d u y) m) λc=>κ (s.aE d (.dp t c))
  |_,_=>none
 | .load t x=>zdU s.hp t (oG s x) λv=>κ (s.aE d v)
 | .store t x v=>zcy s t (oG s x) (oG s v) κ
 | .bI false _ t _ parts=>aY.listT s t parts λxs=>κ (s.aE d (.d (.list t) xs))
 | .append tid t bytes x y=>i6 s.hp t (oG s y) λys=>match oG s x with
  |some (.sl id)=>match s.hp[id]? with
   |some (.vec e u xs)=>match bA (.list u) (.list t) xs with
    |some xs=>wG (Zd xs ys bytes) (oS ((s.fC id (.vec e t (wap xs ys))).aE d (.sl id)) κ)
    |none=>none
   |_=>none
  |some (.nil _)=>wG (BX ys bytes) (κ (S.aE ⟨s.fr,s.hp++[.vec tid t ys]⟩ d (.sl s.hp.length)))
  |some (.full _ _)=>wG (BX ys bytes) (κ (S.aE ⟨s.fr,s.hp++[.vec tid t ys]⟩ d (.sl s.hp.length)))
  |_=>none
 | .Je full t x lo g mx=>match oG s x with
  |some (.sl id)=>match s.hp[id]? with
   |some (.tree _ _ _ xs _)=>Fy s lo 0 λl=>Fy s g (Bp xs) λh=>Fy s mx (Bp xs) λm=>
    wG (wsl l h m (Bp xs)) (wG (wnq h l) (κ (s.aE d (.d (.list t) []))))
   |some (.vec _ u xs)=>match bA (.list u) (.list t) xs with
    |some xs=>Fy s lo 0 λl=>Fy s g (Bp xs) λh=>Fy s mx (Bp xs) λm=>
     wG (wsl l h m (Bp xs)) (match full with
      |false=>κ (s.aE d (.d (.list t) (wtd xs h l)))
      |true=>wG (wfl mx.isSome h m) (κ (s.aE d (.full t (wtd xs h l)))))
    |none=>none
   |_=>none
  |v=>i6 s.hp t v λxs=>Fy s lo 0 λl=>Fy s g (Bp xs) λh=>Fy s mx (Bp xs) λm=>
   wG (wsl l h m (Bp xs)) (match full with
    |false=>κ (s.aE d (.d (.list t) (wtd xs h l)))
    |true=>wG (wfl mx.isSome h m) (κ (s.aE d (.full t (wtd xs h l)))))
 | .qJ x lo g=>match oG s x with
  |some (.d .str a)=>Fy s lo 0 λl=>Fy s g (Bp a) λh=>wG (wss l h (Bp a)) (κ (s.aE d (.d .str (wtd a h l))))
  |_=>none
 | .call bor f args sh=>match If s bor args with
  |some ars=>wB (wK O f ars [] sh) λc=>oU sh.sl c (sh.s9 ⟨[],[]⟩) λr=>κ (s.aE d (res sh.n r.fr))
  |none=>none
 | .gP jG bor B f args sh=>match kZ s bor B args with
  |some ars=>XJ jG O s d B f ars sh κ kp
  |none=>none
 | .fw jG bor B num x args sh=>match oG s x,kZ s bor B args with
  |some (.kj _ ids),some ars=>XJ jG O s d B num (ars++ids.map λi=>.ptr i 0) sh κ kp
  |some (.HQ _ cs),some ars=>XJ jG O s d B num (ars++cs.map λc=>.dp c.1 c.2) sh κ kp
  |_,_=>none
 | .im bor num x args sh=>match oG s x,kZ s bor [] args with
  |some (.HQ _ cs),some ars=>wB (wK O num (ars++cs.map λc=>.dp c.1 c.2) [] sh) λc=>oU sh.sl c (sh.s9 ⟨[],[]⟩) λr=>κ (s.aE d (res sh.n r.fr))
  |_,_=>none
 | .G3 x=>i6 s.hp (.int .u8) (oG s x) λl=>κ (s.aE d (.d .str (wbs l)))
 | .ic _ _ a b m x v=>match oG s m,oG s x,oG s v with
  |some (.mp id),some u,some w=>match s.hp[id]?,cr a u,cr b w with
   |some (.map A p j b' kvs),some y,some z=>match bA (.list (.pair j b')) (.list (.pair a b)) kvs with
    |some kvs=>wG (wml kvs) (κ ⟨s.fr,setAt s.hp id (.map A p a b (wks a b kvs y z))⟩)
    |none=>none
   |_,_,_=>none
  |_,_,_=>none
 | .copy _ t x y=>match oG s x with
  |some (.sl id)=>i6 s.hp t (oG s y) λys=>match s.hp[id]? with
   |some (.vec e u xs)=>match bA (.list u) (.list t) xs with
    |some xs=>κ (S.aE ⟨s.fr,setAt s.hp id (.vec e t (wcp ys xs))⟩ d (.d (.int .i64) (zc6 xs ys)))
    |none=>none
   |_=>none
  |_=>none
 | .mX mx k x ys=>match oG s x with
  |some (.d (.int _) n)=>aY.intsOf s k ys λC=>κ (s.aE d (.d (.int k) (oMM mx C n)))
  |_=>none
 | .pM _ t bytes x y=>i6 s.hp t (oG s y) λys=>match oG s x with
  |some (.nil _)=>wG (BX ys bytes) (κ (s.aE d (.d (.list t) ys)))
  |some (.full u xs)=>match bA (.list u) (.list t) xs with
   |some xs=>wG (Zd xs ys bytes) (κ (s.aE d (.d (.list t) (wap xs ys))))
   |none=>none
  |_=>none
 | .pN tid k t bytes x y=>match oG s y with
  |some (.lit _ u ys)=>match bA (.list u) (.list t) ys with
   |some ys=>match oG s x with
    |some (.sl id)=>match s.hp[id]? with
     |some (.tree e _ D xs none)=>match bA (.list D) (.list t) xs with
      |some xs=>wG (Zd xs ys bytes) (oS ((s.fC id (.tree e k t (wap xs ys) none)).aE d (.sl id)) κ)
      |none=>none
     |_=>none
    |some (.nil _)=>wG (BX ys bytes) (κ (S.aE ⟨s.fr,s.hp++[.tree tid k t ys none]⟩ d (.sl s.hp.length)))
    |_=>none
   |none=>none
  |_=>none
 | .uq k op=>oMk O s op λo v=>κ (S.aE ⟨s.fr,setAt s.hp k o⟩ d (v k))
 | .cO tid t bytes l c=>oMk O s (.cO tid t bytes l c) λo v=>κ (S.aE ⟨s.fr,s.hp++[o]⟩ d (v s.hp.length))
 | .dE tid k u bytes l c=>oMk O s (.dE tid k u bytes l c) λo v=>κ (S.aE ⟨s.fr,s.hp++[o]⟩ d (v s.hp.length))
 | .qm k x=>match oG s x with
  |some (.d (.int _) n)=>κ (s.aE d (.d (.int k) (ww k n)))
  |_=>none
 | .lookup _ _ ok a b m x=>match oG s m,oG s x with
  |some (.mp id),some v=>match s.hp[id]?,cr a v with
   |some (.map _ _ j b' kvs),some y=>match bA (.list (.pair j b')) (.list (.pair a b)) kvs with
    |some kvs=>(match ok with
     |true=>κ (s.aE d (.dC [.d b (wgd (wkg a b kvs y) (wz b)),.d .bool (wis (wkg a b kvs y))]))
     |false=>κ (s.aE d (.d b (wgd (wkg a b kvs y) (wz b)))))
    |none=>none
   |_,_=>none
  |_,_=>none
 | .oW off t x=>match oG s x with
  |some (.dp u y)=>match Fz u off t y with
   |some z=>κ (s.aE d (.dp t z))
   |none=>none
  |some (.ptr id o)=>κ (s.aE d (.ptr id (o+off)))
  |some (.jb id i o)=>κ (s.aE d (.jb id i (o+off)))
  |_=>none
 | .Iy off t x=>match oG s x with
  |some (.d u y)=>match Fz u off t y with
   |some z=>κ (s.aE d (.d t z))
   |none=>none
  |some (.agg vs)=>κ (s.aE d (whole t ((vs.drop off).take t.sz)))
  |_=>none
 | .box tid x=>oMk O s (.box tid x) λo v=>κ (S.aE ⟨s.fr,s.hp++[o]⟩ d (v s.hp.length))
 | .build zero parts=>XI s zero parts λcs=>κ (s.aE d (.agg cs))
 |op=>aY O d op s κ kp
noncomputable def zeI(hp:List Ob)(l:List Nat):(List Ob->Option R)->Option R:=List.rec (motive:=λ_=>(List Ob->Option R)->Option R) (λk=>k []) (λi _ a k=>match hp[i]? with|some o=>a λos=>k (o::os)|none=>none) l
noncomputable def oFr(fr:List (Nat×V))(l:List Nat):(List (Nat×V)->Option R)->Option R:=List.rec (motive:=λ_=>(List (Nat×V)->Option R)->Option R) (λk=>k []) (λi _ a k=>match Gv fr i with|some v=>a λos=>k ((i,v)::os)|none=>none) l
noncomputable def zeG(a:B2)(s:S)(κ:S->Option R):Option R:=match a with
 | .sel ids ks=>zeI s.hp ids λos=>oFr s.fr ks λfr=>oS ⟨fr.map λx=>(x.1,jD (V.eM (EU ids)) x.2),os.map (rO (V.eM (EU ids)))⟩ κ
 | .focus id k j u=>match lk s.fr k,s.hp[id]? with
  |some (.d (.int _) n),some (.tree e kk t xs none)=>match kk.at j with
   |some (b,_,c)=>wG (wle 0 n) (wB (wE xs (wt n)) λx=>(match Fz t j (.list u) x with
    |some L=>oS ⟨s.fr,setAt s.hp id (.tree e kk t xs (some (wt n,j,.sl s.hp.length)))++[rI b c u L]⟩ κ
    |none=>none))
   |none=>none
  |_,_=>none
 | .close id=>match s.hp[id]? with
  |some (.tree e kk t xs (some (i,j,.sl kid)))=>match kk.at j,s.hp[kid]?,WG t j with
   |some (b,_,c),some o,some u=>match yQ b c u o with
    |some L=>wB (wE xs i) λx=>(match XK t j (.list u) x L with
     |some y=>oS (let s':=s.fC kid .gone;⟨s'.fr,setAt s'.hp id (.tree e kk t (Zf xs i y) none)⟩) κ
     |none=>none)
    |none=>none
   |_,_,_=>none
  |_=>none
 |a=>match mz a s with
  |some s=>oS s κ
  |none=>none
noncomputable def XG(l:List B2):S->(S->Option R)->Option R:=List.rec (motive:=λ_=>S->(S->Option R)->Option R) (λs κ=>κ s) (λa _ b s κ=>zeG a s λs=>b s κ) l
end
noncomputable def oR(O:bh):(R:Type)->RC->S->(S->Option R)->(S->Option R)->Option R
 |_,.nil,s,κ,_=>oS s κ
 |R,.op d o rest,s,κ,kp=>oOp O d o s (λs'=>oR O R rest s' κ kp) kp
 |R,.mz l rest,s,κ,kp=>XG l s λs=>oR O R rest s κ kp
 |R,.gb t want ek ty r alt dst rest,s,κ,kp=>match Gv s.fr t,s.l6 alt with
  |some (.d .bool b),some a=>match cr ty a with
   |some alt=>wB (match want with
    |true=>wc b (oR O ty.den ek s (λs'=>match s'.l6 r with|some v=>cr ty v|none=>none) (λ_=>none)) (some alt)
    |false=>wc b (some alt) (oR O ty.den ek s (λs'=>match s'.l6 r with|some v=>cr ty v|none=>none) (λ_=>none)))
    λc=>oR O R rest (s.put dst (.d ty c)) κ kp
   |none=>none
  |_,_=>none
def zdW{R:Type}(k:Option R):V->V->Option R
 | .d t x,.d u y=>(match bA u t y with
  |some z=>wc (zeY t x z) k none
  |none=>none)
 |_,_=>k
def oRe{R:Type}(T us:List Nat)(s':S)(k:Option R):List qV->Option R
 |[]=>k
 |a::A=>bif !kM us a.r.i||T.all (λt=> !kM a.r.F t)then oRe T us s' k A else(match a.ld with
  |some (t,id,off,v)=>(match FR s'.hp t id off with
   |some b=>zdW (oRe T us s' k A) v b
   |none=>none)
  |none=>none)
def zcw{R:Type}(A:List qV)(s s':S)(p:PO)(k:Option R):Option R:=bif p.b then k else oRe (Gp s p.rd p.lA) p.us s' k A
noncomputable def zcx{R:Type}(r:qV)(k:qV->R):R:=match r with
 |⟨⟨i,d,rd,s,F,G⟩,ld⟩=>oL oN F λF=>match ld with
  |none=>k ⟨⟨i,d,rd,s,F,G⟩,none⟩
  |some (a,b,c,v)=>oV v λv=>k ⟨⟨i,d,rd,s,F,G⟩,some (a,b,c,v)⟩
def oKn:List (Nat×Bool)->Nat->Option Bool
 |[],_=>none
 |(k,b)::l,t=>bif i_ k t then some b else oKn l t
noncomputable def oPs{R:Type}(O:bh)(l:List PO):List (Nat×Bool)->List qV->S->(S->Option R)->(S->Option R)->Option R:=List.rec (motive:=λ_=>List (Nat×Bool)->List qV->S->(S->Option R)->(S->Option R)->Option R) (λ_ _ s κ _=>κ s) (λp _ a K A s κ kp=>
 match p.g with
 |none=>oOp O p.d p.o s (λs'=>oS s' λs'=>zcw A s s' p (oL zcx (vA A s s' p) λA=>a K A s' κ kp)) kp
 |some (t,want)=>match Gv s.fr t with
  |some (.d .bool b)=>c want (oKn K t) b
   (oOp O p.d p.o (s.put t (.d .bool want)) (λs'=>oS s' λs'=>zcw A (s.put t (.d .bool want)) s' p (oL zcx (vA A (s.put t (.d .bool want)) s' p) λA=>a ((t,want)::K) A s' κ kp)) kp)
   (zcw A (s.put t (.d .bool (!want))) ((s.put t (.d .bool (!want))).aE p.d (.raw Go.undef)) p (oL zcx (vA A (s.put t (.d .bool (!want))) ((s.put t (.d .bool (!want))).aE p.d (.raw Go.undef)) p) λA=>a ((t,!want)::K) A ((s.put t (.d .bool (!want))).aE p.d (.raw Go.undef)) κ kp))
  |_=>none) l
where
 c (want:Bool) (k:Option Bool) (b:Bool) (x y:Option R):Option R:=match k with
  |none=>wc (wbq want b) x y
  |some true=>(match want with|true=>x|false=>y)
  |some false=>(match want with|true=>y|false=>x)
noncomputable def oLs{R:Type}(O:bh)(l:List PO):List (Nat×Bool)->S->(S->Option R)->(S->Option R)->Option R:=List.rec (motive:=λ_=>List (Nat×Bool)->S->(S->Option R)->(S->Option R)->Option R) (λ_ s κ _=>κ s) (λp _ a K s κ kp=>
 match p.g with
 |none=>oOp O p.d p.o s (λs'=>oS s' λs'=>a K s' κ kp) kp
 |some (t,want)=>match Gv s.fr t with
  |some (.d .bool b)=>(match want with
   |true=>c (oKn K t) b (oOp O p.d p.o (s.put t (.d .bool true)) (λs'=>oS s' λs'=>a ((t,true)::K) s' κ kp) kp) (a ((t,false)::K) ((s.put t (.d .bool false)).aE p.d (.raw Go.undef)) κ kp)
   |false=>c (oKn K t) b (a ((t,true)::K) ((s.put t (.d .bool true)).aE p.d (.raw Go.undef)) κ kp) (oOp O p.d p.o (s.put t (.d .bool false)) (λs'=>oS s' λs'=>a ((t,false)::K) s' κ kp) kp))
  |_=>none) l
where
 c (k:Option Bool) (b:Bool) (x y:Option R):Option R:=match k with
  |none=>wc b x y
  |some true=>x
  |some false=>y
noncomputable def oC(O:bh)(n:Nat):(R:Type)->TC->S->(kn:S->Option R)->(kx:Nat->S->Option R)->(kr kp:S->Option R)->Option R
 |_,.skip,s,kn,_,_,_=>kn s
 |R,.region ops,s,kn,_,_,kp=>oR O R ops s kn kp
 |R,.draw _ ops _,s,kn,_,_,kp=>oR O R ops s kn kp
 |_,.HV pre,s,kn,_,_,kp=>oLs O pre [] s kn kp
 |R,.kq r pre tl _,s,kn,_,_,kp=>oPs O pre [] [] ⟨s.fr,s.hp++O_ r .free⟩ (λs=>oR O R tl s kn kp) kp
 |R,.seq a b,s,kn,kx,kr,kp=>oC O n R a s (λs=>oC O n R b s kn kx kr kp) kx kr kp
 |R,.cond x a b,s,kn,kx,kr,kp=>match s.l6 x with
  |some (.d .bool t)=>wc t (oC O n R a s kn kx kr kp) (oC O n R b s kn kx kr kp)
  |_=>none
 |R,.block id a,s,kn,kx,kr,kp=>oC O n R a s kn (λi s=>bif i_ i id then kn s else kx i s) kr kp
 |_,.exit id,s,_,kx,_,_=>kx id s
 |_,.ret,s,_,_,kr,_=>kr s
 |R,.mz l a,s,kn,kx,kr,kp=>XG l s λs=>oC O n R a s kn kx kr kp
 |R,.cut xs a,s,kn,kx,kr,kp=>wB (oC O n (XT xs) a s (λs=>oI xs 0 s) (λi s=>oI xs (i+3) s) (λs=>oI xs 1 s) (λs=>oI xs 2 s))
  (oD s (λkey s=>match key with|0=>kn s|1=>kr s|2=>kp s|i+3=>kx i s) xs)
 |R,.loop sh xs a,s,kn,kx,kr,kp=>match oP sh s with
  |some c=>wB (wL n (λc=>oU sh.sl c (sh.s9 s) λs=>oC O n (HL sh.sl⊕XT xs) a s (λs=>match oP sh s with|some c=>some (.inl c)|none=>none)
   (λi s=>match oI xs (i+3) s with|some c=>some (.inr c)|none=>none) (λs=>match oI xs 1 s with|some c=>some (.inr c)|none=>none) (λs=>match oI xs 2 s with|some c=>some (.inr c)|none=>none)) c)
   (oD s (λkey s=>match key with|0=>kn s|1=>kr s|2=>kp s|i+3=>kx i s) xs)
  |none=>none
 |R,.after a l,s,kn,kx,kr,kp=>oC O n R a s (λs=>XG l s kn) kx kr kp
noncomputable def zdT(sh:Sh)(r:List RX)(s:S):Option (Option S):=match FZ s r with
 |some vs=>match oP sh ⟨dG 0 vs,s.hp.take sh.sk.hp.length⟩with
  |some x=> @wR sh x
  |none=>none
 |none=>none
noncomputable def oF(sh:Sh)(O:bh)(n:Nat)(c:TF)(ars:List V)(os:List Ob):Option (Option S):=
 oC O n (Option S) c.code ⟨dG 0 (ars.map oA),os.map oAO⟩ (zdT sh c.res) (λ_ _=>none) (zdT sh c.res) (λ_=>some none)
abbrev Dm{α:Type}(_ _:α):Prop:=True
def dmI{α:Type}{a:α}:Dm a a:=trivial
def Fd(tbl:Nat->Option gC)(f:Nat)(sh:Sh)(ars:List V)(os:List Ob)(G:bh->Nat->Option (Option S)):Prop:=∃c,tbl f=some (.code c)/\(i_ os.length c.m&&J_ ars.length c.ntmps)=true/\∀O n,Qa O n c ars os=G O n
def fdZ{tbl:Nat->Option gC}{f:Nat}{c:TF}{sh:Sh}{ars:List V}{os:List Ob}{G:bh->Nat->Option (Option S)}(ht:tbl f=some (.code c):=by exact rfl) (hl:(i_ os.length c.m&&J_ ars.length c.ntmps)=true:=by rfl)
 (hg:∀O n,Dm (oF sh O n c ars os) (G O n):=by
  intro O n;conv=>lhs;reduce
  (try delta w1 w2 H4)
  (try dsimp only[Int.reduceOfNat,Int.reduceNegSucc,UInt8.reduceOfNat,HL,XT,Slot.ty,Ty.den])
  delta wc wlt wle wgt wge weq wne zc5 wbq wsq wn wo zes wx zc4 Zg zc7 zc9 zda zdb zdc Bp wln wi wt w8 wE Zf wap wtd zbr Zd BX wms wsl wss wfl wix wml wst wcp zc6 wmx wmi wbs wnq wB wG wI wL wK wP wO wR wS wkg wks ww wrw wqD wbt wz wbl wid wch wis wgd;exact dmI)
 (a:∀O n,Qa O n c ars os=G O n:=by intro O n;kernel_rfl):Fd tbl f sh ars os G:=⟨c,ht,hl,a⟩
def Fd.conv{tbl:Nat->Option gC}{f:Nat}{sh:Sh}{ars:List V}{os:List Ob}{G:bh->Nat->Option (Option S)}{Q:Option S->Prop}(hd:Fd tbl f sh ars os G)(h:Wp (λn=>G (sg tbl n) n) Q):Conv tbl f ars os Q:=by obtain⟨c,ht,hl,E⟩:=hd;exact RZ ht hl E h
def Wz{tbl:Nat->Option gC}{f:Nat}(sh:Sh){ars:List V}{os:List Ob}{G:bh->Nat->Option (Option S)}{Q:Option S->Prop}(h:Wp (λn=>G (sg tbl n) n) Q)(hd:Fd tbl f sh ars os G:=by exact fdZ):Conv tbl f ars os Q:=hd.conv h
def bN{tbl:Nat->Option gC}{f:Nat}{sh:Sh}{ars:List V}{os:List Ob}{x:HL sh.sl}{G:bh->Nat->Option (Option S)}(h:Wp (λn=>G (sg tbl n) n) (·=some (gq sh x))) (hp:yV sh (gq sh x)=some x:=by first|rfl|kernel_rfl) (hd:Fd tbl f sh ars os G:=by exact fdZ):aA tbl f ars os sh x:=tf hp (hd.conv h)
def PY{tbl:Nat->Option gC}{f:Nat}{sh:Sh}{ars:List V}{os:List Ob}{R:HL sh.sl->Prop}{G:bh->Nat->Option (Option S)}(h:Wp (λn=>G (sg tbl n) n) (λo=>∃c,o=some (gq sh c)/\R c)) (hp:∀c,yV sh (gq sh c)=some c:=by intro c;first|rfl|kernel_rfl) (hd:Fd tbl f sh ars os G:=by exact fdZ):∃c,R c/\aA tbl f ars os sh c:=xK hp (hd.conv h)
def crZ{tbl:Nat->Option gC}{f:Nat}{c:TF}{q:Sh}{ars:List V}{os:List Ob}{x:HL q.sl}(ht:tbl f=some (.code c):=by exact rfl)(hp:yV q (gq q x)=some x:=by first|rfl|kernel_rfl) (hl:(i_ os.length c.m&&J_ ars.length c.ntmps)=true:=by rfl) (a:∀O n,Qa O n c ars os=qc q x:=by intro O n;kernel_rfl):aA tbl f ars os q x:=tf hp (RZ ht hl a (aa rfl))
def bo{P:Program}{f:Nat}{c:TF}(h:(P.funcs[f]?.map λfn=>(fn.ntmps,fn.body.bind (cq P fn.ntmps),fn.results.toList.mapM (km P),(c.code.er.okB&&c.code.wf P c.m&&c.sh.zB&&J_ c.m c.sh.sk.hp.length)))=some (c.ntmps,some c.code.er.canon,some (c.res.map RX.er),true):=by kernel_rfl):Entry P f c:=by obtain⟨fn,a,h⟩:=d_.1 h;simp only[as_.injEq]at h;exact⟨⟨fn,a,h.1,h.2.1,h.2.2.1⟩,h.2.2.2⟩
def lT.app{P:Program}{l m:List (Nat×gC)}(h1:lT P l)(h2:lT P m):lT P (l++m):=by induction l with|nil=>exact h2|cons x l E=>exact⟨h1.1,E h1.2⟩
abbrev cZ(n:Nat)(c:TF):Nat×gC:=(n,.code c)
end Go.Ev
