import Derived.Test.YtdgiglmmpbndmaaGreatDoorNGlueB
import Derived.Test.YtdgiglmmpbndmaaGreatDoorNPlPfx
set_option linter.all false
set_option maxRecDepth 100000
set_option maxHeartbeats 1000000
open Bool renaming or_eq_false_iff->x_,and_eq_true->z_,eq_iff_iff->ag_,or_eq_true->ah_,true_and->ar_,cond_decide->az_,false_and->aG_,not_false->aH_,and_true->aL_,not_true->aM_
open Classical renaming byContradiction->f_,choose->A_,choose_spec->P_
open Int renaming toNat_natCast->s_,eq_ofNat_of_zero_le->y_,natCast_nonneg->J_,toNat->L_,tdiv_eq_ediv_of_nonneg->Y_,toNat_of_nonneg->ap_,le_refl->aN_
open Go.IntKind renaming wrap->e_,bits->ae_
open List renaming getElem_mem->a_,getElem?_eq_getElem->b_,mem_cons_of_mem->c_,mem_singleton->d_,length_map->g_,mem_cons_self->h_,getElem?_eq_some_iff->i_,length_append->j_,mem_append_left->k_,take_of_length_le->l_,mem_map->n_,mem_range->o_,mem_append->p_,length_singleton->q_,mem_of_getElem?->r_,getElem?_append_left->u_,mem_flatMap->v_,mem_cons->w_,length_cons->B_,map_cons->C_,drop_eq_nil_of_le->E_,length_eq_one_iff->F_,range->G_,foldl_append->H_,take_length->I_,filter_append->K_,findIdx?_eq_some_iff_getElem->M_,nodup_append->N_,take_add_one->O_,mem_append_right->Q_,getElem?_set_ne->R_,append_nil->S_,foldl_cons->T_,length_nil->U_,length_set->V_,nil_append->W_,nodup_iff_pairwise_ne->Z_,nodup_nil->aa_,findIdx?_eq_none_iff->ab_,filter_cons_of_pos->ac_,getElem_map->ad_,map_append->ai_,mem_filter->aj_,nodup_cons->ak_,getElem?_eq_none->am_,mem_iff_getElem->an_,length_pos_iff->aq_,pairwise_cons->as_,any_eq_false->au_,any_map->av_,flatMap_cons->aw_,length_range->ax_,map_nil->ay_,all_eq_true->aA_,any_eq_true->aB_,ext_getElem->aC_,getD->aD_,drop_zero->aI_,foldl->aJ_,length->aO_
open Nat renaming le_refl->t_,zero_le->D_,le_of_lt->X_,le_trans->af_,testBit_and->al_,eq_of_testBit_eq->ao_,zero_testBit->aE_,mod_lt->aK_
open Option renaming bind->m_
open Option.some renaming inj->aF_
open Prod renaming mk->aP_
namespace Go.Proofs.YtdgiglmmpbndmaaGreatDoor
open Z
open Go Go.Av Go.Ev
abbrev DF:Type:=List Int×(List (List Int)×(List Bool×(Int×Unit)))
def eH(xs:List Int):Prop:=0<xs.length/\(∀(h:0<xs.length),xs[0]=0)/\(∀i (h:i+1<xs.length),xs[i]<xs[i+1])/\∀x∈xs,x<=4294967295
def Big(d:DF):Prop:=d.2.2.1.length>4096\/d.2.1.length>4096\/d.1.length>2000
open Classical in
noncomputable def de(d:DF):Int:=
 if Big d then 4 else if ¬eH d.1 then 16 else if d.2.1.length=0\/d.2.2.1.length≠d.2.1.length then 14
 else if ¬(∀r∈d.2.1,r.length=d.1.length)then 14 else if d.2.2.2.1<0\/d.2.2.2.1>=(d.2.1.length:Int)then 5
 else if ¬(∀r∈d.2.1,∀t∈r,0<=t/\t<(d.2.1.length:Int))then 5 else 0
def Jn{i:Nat}(a:0<i)(b:i<=9223372036854775807):e_ .i64 ((i:Int) - 1)=((i - 1:Nat):Int):=by grind[wrap_i64]
def Gj{xs:List Int}:eH xs↔(0<xs.length/\∀i,(h:i<xs.length)->(i=0->xs[i]=0)/\(∀_:0<i,xs[i - 1]<xs[i])/\xs[i]<=4294967295):=by
 constructor;.rintro⟨a,h1,h2,d⟩;grind
 .rintro⟨a,h⟩;refine⟨a,λ_=>(h 0 a).1 rfl,λi b=>(h (i+1) b).2.1 (by simp),λx c=>?_⟩;obtain⟨i,b,rfl⟩:=an_.1 c;grind
def eJ(d:DF):aA tbl 127 [.d Ud d] [] aw (de d,()):=by
 refine bN ?_;refine ae (bf (λ_=>aa rfl) (ae (bf (λ_=>aa rfl) ?_)));refine au (λh=>aa ?_) λh=>?_
 .have:Big d:=by simp only[ah_,decide_eq_true_eq]at h;unfold Big;omega
  rw[show de d=4 from by unfold de;rw[if_pos this]]
 have nb:¬Big d:=by simp only[x_,decide_eq_false_iff_not]at h;unfold Big;omega
 have p:d.1.length<=2000:=by unfold Big at nb;omega
 have s:d.2.1.length<=4096:=by unfold Big at nb;omega
 refine ae (r8 (N:=d.1.length) (good:=λi=>∀(h:i<d.1.length),(i=0->d.1[i]=0)/\(∀_:0<i,d.1[i - 1]<d.1[i])/\d.1[i]<=4294967295) (e:=((16:Int),())) (g:=()) (λi a=>?_) ?_ (λhs=>?_) (λl=>?_))
 .refine aO a (aB a ?_);refine ae (bc (λ_=>aa rfl) (ae (bf (b:=decide (0<i)&&decide (d.1[i]<=d.1[i - 1])) (λ_=>ae (bc (b:=decide (d.1[i]<=d.1[i - 1])) (λj=>?_) (aa ?_))) (ae (bf (λ_=>aa rfl) ?_)))))
  .have j:0<i:=by simpa using j
   rw[Jn j (by omega)];exact aB (by omega) (aa rfl)
  .congr 1;exact decide_eq_decide.2 (by omega)
  .refine ev ?_ (by rw[ao a]);grind
 .exact aH (aa rfl)
 .refine au (λh=>aa ?_) λh=>?_
  .have:¬eH d.1:=λhs=>by have:=hs.1;simp at h;simp[h]at this
   rw[show de d=16 from by unfold de;rw[if_neg nb,if_pos this]]
  have f:eH d.1:=Gj.2 ⟨by simp at h;exact aq_.2 h,λi a=>hs i a a⟩;refine ae (bf (λ_=>aa rfl) ?_);refine au (λh=>aa ?_) λh=>?_
  .have:d.2.1.length=0\/d.2.2.1.length≠d.2.1.length:=by simp only[ah_,beq_iff_eq,bne_iff_ne]at h;omega
   rw[show de d=14 from by unfold de;rw[if_neg nb,if_neg (not_not_intro f),if_pos this]]
  have h1:¬(d.2.1.length=0\/d.2.2.1.length≠d.2.1.length):=by simp only[x_,beq_eq_false_iff_ne,bne_eq_false_iff_eq]at h;omega
  refine ae (kL (xs:=d.2.1) (P:=λr=>r.length=d.1.length) (e:=((14:Int),())) (g:=()) (λi a=>?_) ?_ (λhr=>?_) (λhr=>?_));.refine aO a (aB a (ev ?_ (by rw[ao a])));simp only[bne_iff_ne];omega
  .exact aH (aa rfl)
  .refine ae (bf (λ_=>aa rfl) ?_);refine au (λh=>aa ?_) λh=>?_
   .have:d.2.2.2.1<0\/d.2.2.2.1>=(d.2.1.length:Int):=by simpa using h
    rw[show de d=5 from by unfold de;rw[if_neg nb,if_neg (not_not_intro f),if_neg h1,if_neg (not_not_intro hr),if_pos this]]
   have h2:¬(d.2.2.2.1<0\/d.2.2.2.1>=(d.2.1.length:Int)):=by simpa using h
   refine ae (kL (xs:=d.2.1) (P:=λr=>∀t∈r,0<=t/\t<(d.2.1.length:Int)) (e:=((5:Int),())) (g:=()) (λi a=>?_) ?_ (λht=>?_) (λht=>?_))
   .refine aO a (aB a (ae (kL (xs:=d.2.1[i]) (P:=λt=>0<=t/\t<(d.2.1.length:Int)) (e:=((5:Int),())) (g:=()) (λk n=>?_) ?_ (λh=>?_) (λh=>?_))));.have c:=n;rw[hr _ (a_ a)]at c;refine aO n (aB n (ae (bf (λ_=>aa rfl) (ev ?_ (by rw[ao c])))));simp only[ah_,decide_eq_true_eq];omega
    .exact aH (aa rfl)
    .exact aa (.inl ⟨h,by rw[ao a]⟩)
    .exact aa (.inr ⟨h,rfl⟩)
   .exact aH (aa rfl)
   .refine aa ?_;rw[show de d=0 from by unfold de;grind]
   .refine aa ?_;rw[show de d=5 from by unfold de;rw[if_neg nb,if_neg (not_not_intro f),if_neg h1,if_neg (not_not_intro hr),if_neg h2,if_pos ht]]
  .refine aa ?_;rw[show de d=14 from by unfold de;rw[if_neg nb,if_neg (not_not_intro f),if_neg h1,if_pos hr]]
 .have:¬eH d.1:=λhs=>by obtain⟨i,a,l⟩:=l;exact l λh=>(Gj.1 hs).2 i h
  refine aa ?_;rw[show de d=16 from by unfold de;rw[if_neg nb,if_pos this]]
def zdm(d:DF):Prop:=d.1.length<=9223372036854775807/\d.2.1.length<=9223372036854775807/\(∀r∈d.2.1,r.length<=9223372036854775807)/\d.2.2.1.length<=9223372036854775807
def same_iff{c:Type}{a b:List c}(hl:a.length=b.length):(∀i,i<a.length->a[i]? =b[i]?)↔a=b:=by
 constructor;.intro h;refine List.ext_getElem? λi=>?_;grind
 grind
def zbv{N:Nat}(ht:tbl N=some (.code BE))(a b:List Int)(hl:a.length<=9223372036854775807):aA tbl N [.d (.list tI) a,.d (.list tI) b] [] ap (decide (a=b),()):=by
 refine bN (hd:=fdZ (ht:=ht)) (au (λh=>aa ?_) λh=>?_)
 .have:a≠b:=λe=>by subst e;simp at h
  simp[this]
 have c:a.length=b.length:=by simp only[bne_eq_false_iff_eq]at h;omega
 refine ae (r8 (N:=a.length) (good:=λi=>a[i]? =b[i]?) (e:=(false,())) (g:=()) (λi d=>?_) ?_ (λhs=>aa ?_) (λf=>aa ?_));.refine aO d (aB d (aB (by omega) (ev ?_ (by rw[ao d]))));grind
 .exact aH (aa rfl)
 .simp[(same_iff c).1 hs]
 .have:a≠b:=λe=>by grind
  simp[this]
def LN(a b:DF)(d:zdm a):aA tbl 157 [.d Ud a,.d Ud b] [] ap (decide (a=b),()):=by
 refine bN ?_;refine ae (bf (λ_=>aj (zbv rfl _ _ d.1) (aa rfl)) (ae (bf (λ_=>aa rfl) (ae (bf (λ_=>aa rfl) (au (λh=>aa ?_) λh=>?_))))))
 .have:a≠b:=λe=>by subst e;simp at h
  rw[decide_eq_false this]
 .simp only[x_,bne_eq_false_iff_eq]at h;have hn:a.2.1.length=b.2.1.length:=by omega
  have j:a.2.2.1.length=b.2.2.1.length:=by omega
  refine ae (r8 (N:=a.2.1.length) (good:=λi=>a.2.1[i]? =b.2.1[i]?) (e:=(false,())) (g:=()) (λi c=>?_) ?_ (λhs=>?_) (λf=>aa ?_));.refine aO c (aB c (aB (by omega) (aj (zbv rfl _ _ (d.2.2.1 _ (a_ c))) (ev ?_ (by rw[ao c d.2.1])))));rw[b_ c,b_ (by omega)];simp
  .exact aH (aa rfl)
  .have hs:=(same_iff hn).1 hs;refine ae (r8 (N:=a.2.2.1.length) (good:=λi=>a.2.2.1[i]? =b.2.2.1[i]?) (e:=(false,())) (g:=()) (λi c=>?_) ?_ (λht=>aa ?_) (λf=>aa ?_));.refine aO c (aB c (aB (by omega) (ev ?_ (by rw[ao c d.2.2.2]))));grind
   .exact aH (aa rfl)
   .have ht:=(same_iff j).1 ht;grind
   .have:a≠b:=λe=>by obtain⟨i,c,hn⟩:=f;subst e;exact hn rfl
    rw[decide_eq_false this]
  .have:a≠b:=λe=>by obtain⟨i,c,hn⟩:=f;subst e;exact hn rfl
   rw[decide_eq_false this]
def lP(xs:List Int)(v:Int)(c:Nat):Prop:=∃h:c<xs.length,xs[c]<=v/\∀j (_:j<xs.length),c<j->v<xs[j]
theorem JY{xs:List Int}{v:Int}{c a:Nat}(h:lP xs v c)(h':lP xs v a):c=a:=by obtain⟨h1,h2,f⟩:=h;obtain⟨b,d,e⟩:=h';grind
open Classical in
noncomputable def dy(xs:List Int)(v:Int):Nat:=if h:∃c,lP xs v c then A_ h else 0
theorem tn{xs:List Int}{v:Int}{c:Nat}(h:lP xs v c):dy xs v=c:=by unfold dy;rw[dif_pos ⟨c,h⟩];grind[JY]
def lI{xs:List Int}(hs:eH xs):∀(j i:Nat) (h:j<xs.length) (a:i<j),xs[i]<xs[j]
 |0,i,h,a=>absurd a (by simp)
 |j+1,i,h,a=>by
  have h1:=hs.2.2.1 j h;rcases Nat.lt_succ_iff_lt_or_eq.1 a with hl|rfl;.have:=lI hs j i (by omega) hl;omega
  omega
theorem Bs(xs:List Int)(v:Int)(hs:eH xs)(hl:xs.length<=4611686018427387903)(x:0<=v):∃c,lP xs v c/\aA tbl 177 [.d (.list tI) xs,.d tI v] [] aw ((c:Int),()):=by
 suffices h:Conv tbl 177 [.d (.list tI) xs,.d tI v] [] λo=>∃c:Nat,o=some (gq aw ((c:Int),()))/\lP xs v c by obtain⟨c,⟨k,g,hc⟩,w⟩:=xK (sh:=aw) (R:=λc=>∃k:Nat,c=((k:Int),())/\lP xs v k) (λ_=>rfl) (Ip h λo ⟨k,r,g⟩=>⟨((k:Int),()),r,k,rfl,g⟩);grind
 refine Wz aw (ae (Go.Ev.wp_loop (λs=>∃lo a:Nat,s=((lo:Int),(a:Int),())/\lo<a/\a<=xs.length/\(∀h:lo<xs.length,xs[lo]<=v)/\∀h:a<xs.length,v<xs[a]) (λs=>(s.2.1 - s.1).toNat) ⟨0,xs.length,rfl,hs.1,t_ _,λh=>by rw[hs.2.1 h];omega,λh=>absurd h (by simp)⟩ ?_));rintro s ⟨lo,a,rfl,h1,h2,e,f⟩;have y:e_ .i64 ((a:Int) - (lo:Int))=(a:Int) - lo:=wrap_i64;refine au (λb=>?_) λb=>?_
 .have b:(a:Int) - lo>1:=by grind
  have p:e_ .i64 (Int.tdiv (e_ .i64 ((lo:Int)+(a:Int))) (2:Int))=(((lo+a)/2:Nat):Int):=by grind[wrap_i64]
  simp only[p];have d:(lo+a)/2<xs.length:=by omega
  refine aB d (au (λhc=>aa ?_) λhc=>aa ?_)
  .have hc:xs[(lo+a)/2]<=v:=by grind
   refine⟨⟨(lo+a)/2,a,rfl,by omega,h2,λ_=>hc,f⟩,?_⟩;grind
  .have hc:v<xs[(lo+a)/2]:=by grind
   refine⟨⟨lo,(lo+a)/2,rfl,by omega,by omega,e,λ_=>hc⟩,?_⟩;grind
 .have b:¬(a:Int) - lo>1:=by grind
  refine aa (aa ⟨lo,rfl,by omega,e (by omega),λj l n=>?_⟩);have u:=f (by omega);rcases Nat.lt_or_eq_of_le (show a<=j by omega)with hl|rfl;.have:=lI hs j a l hl;omega
  omega
def qS(xs:List Int)(v:Int)(hs:eH xs)(hl:xs.length<=4611686018427387903)(a:0<=v):aA tbl 177 [.d (.list tI) xs,.d tI v] [] aw ((dy xs v:Int),()):=by grind[Bs,tn]
def Wy{xs:List Int}{v:Int}(hs:eH xs)(hl:xs.length<=4611686018427387903)(a:0<=v):lP xs v (dy xs v):=by grind[Bs,tn]
structure Good(d:DF):Prop where
 dt:eH d.1
 small:¬Big d
 len:0<d.2.1.length/\d.2.2.1.length=d.2.1.length
 rows:∀r∈d.2.1,r.length=d.1.length
 start:0<=d.2.2.2.1/\d.2.2.2.1<(d.2.1.length:Int)
 to:∀r∈d.2.1,∀t∈r,0<=t/\t<(d.2.1.length:Int)
def fX{d:DF}:de d=0↔Good d:=by
 constructor
 .intro h;unfold de at h;by_cases h1:Big d;.grind
  by_cases h2:eH d.1;case neg=>grind
  by_cases a:d.2.1.length=0\/d.2.2.1.length≠d.2.1.length;.omega
  by_cases c:∀r∈d.2.1,r.length=d.1.length;case neg=>grind
  by_cases b:d.2.2.2.1<0\/d.2.2.2.1>=(d.2.1.length:Int);.omega
  by_cases e:∀r∈d.2.1,∀t∈r,0<=t/\t<(d.2.1.length:Int);case neg=>grind
  exact⟨h2,h1,by omega,c,by omega,e⟩
 .intro h;have a:¬(d.2.1.length=0\/d.2.2.1.length≠d.2.1.length):=by have:=h.len;omega
  have b:¬(d.2.2.2.1<0\/d.2.2.2.1>=(d.2.1.length:Int)):=by have:=h.start;omega
  unfold de;rw[if_neg h.small,if_neg (not_not_intro h.dt),if_neg a,if_neg (not_not_intro h.rows),if_neg b,if_neg (not_not_intro h.to)]
noncomputable def eN(d:DF)(s:Int)(v:Int):Int:=(d.2.1.getD s.toNat []).getD (dy d.1 v) 0
noncomputable def ub(d:DF)(s:Int)(v:Int):Int⊕Bool:=bif decide (v<0)||decide (v>4294967295)then .inr false else .inl (eN d s v)
open Classical in
noncomputable def p8(d:DF)(a:List Int):Bool:=if Good d then(match kV (ub d) d.2.2.2.1 a with| .inl s=>d.2.2.1.getD s.toNat false| .inr b=>b)else false
def fz{d:DF}(h:Good d):d.2.1.length<=4096/\d.1.length<=2000/\d.2.2.1.length<=4096:=by have:=h.small;unfold Big at this;omega
def qL{d:DF}(h:Good d){s v:Int}(b:0<=s)(hs:s<(d.2.1.length:Int))(a:0<=v):∃h1:s.toNat<d.2.1.length,∃h2:dy d.1 v<d.2.1[s.toNat].length,d.2.1[s.toNat][dy d.1 v]=eN d s v/\0<=eN d s v/\eN d s v<(d.2.1.length:Int):=by
 have h1:s.toNat<d.2.1.length:=by omega
 have hl:=fz h;obtain⟨hc,_⟩:=Wy h.dt (by omega) a;have h2:dy d.1 v<d.2.1[s.toNat].length:=by rw[h.rows _ (a_ h1)];omega
 have e:d.2.1[s.toNat][dy d.1 v]=eN d s v:=by grind[eN]
 refine⟨h1,h2,e,?_⟩;rw[<-e];exact h.to _ (a_ h1) _ (a_ h2)
def LO(d:DF)(a:List Int)(hp:a.length<=9223372036854775807):aA tbl 135 [.d Ud d,.d (.list tI) a] [] ap (p8 d a,()):=by
 refine bN ?_;refine aj (eJ d) (au (λh=>aa ?_) λh=>?_)
 .have:¬Good d:=λhg=>by rw[fX.2 hg]at h;simp at h
  rw[show p8 d a=false from by unfold p8;rw[if_neg this]]
 have hg:Good d:=fX.1 (by simpa using h);have hl:=fz hg;refine ae (Ze (xs:=a) (f:=ub d) (s0:=d.2.2.2.1) (Inv:=λs=>0<=s/\s<(d.2.1.length:Int)) (enc:=λi s=>(s,(i:Int),())) (oE:=λs=>.inr (s,())) (oB:=λb=>.inl (b,())) hg.start (λi p s hs=>?_) (λs hs=>?_) ?_)
 .refine aO p (aB p (ae (bf (λ_=>aa rfl) (au (λc=>aa ?_) λc=>?_))));.unfold ub;rw[c];rfl
  .have u:0<=a[i]:=by grind
   obtain⟨h1,h2,k,n⟩:=qL hg hs.1 hs.2 u;refine bM hs.1 h1 (aj (qS d.1 a[i] hg.dt (by omega) u) (aB h2 (aa ?_)));unfold ub;rw[c];exact⟨n,by rw[k,ao p hp]⟩
 .exact aH (aa rfl)
 .have w:∀r,kV (ub d) d.2.2.2.1 a=r->(∀s,r= .inl s->0<=s/\s<(d.2.1.length:Int)):=by
   have:∀(l:List Int) (s0:Int),0<=s0/\s0<(d.2.1.length:Int)->∀s,kV (ub d) s0 l= .inl s->0<=s/\s<(d.2.1.length:Int):=by
    intro l;induction l with
    |nil=>intro s0 j s e;cases e;exact j|cons x l y=>
     intro s0 j s e;simp only[kV]at e;split at e
     .rename_i s' g;refine y s' ?_ s e;unfold ub at g;cases c:decide (x<0)||decide (x>4294967295);.rw[c]at g;cases g;simp only[x_,decide_eq_false_iff_not]at c;obtain⟨_,_,_,n⟩:=qL hg j.1 j.2 (show 0<=x by omega);exact n
      .rw[c]at g;cases g
     .cases e
   exact λr e s h=>this a _ hg.start s (e.trans h)
  cases hr:kV (ub d) d.2.2.2.1 a with
  |inl s=>
   obtain⟨v,z⟩:=w _ rfl s hr;have k:s.toNat<d.2.2.1.length:=by have:=hg.len;omega
   refine bM v k (aa ?_);rw[show p8 d a=d.2.2.1[s.toNat]from by unfold p8;grind]
  |inr b=>refine aa ?_;rw[show p8 d a=b from by unfold p8;rw[if_pos hg,hr]]
set_option maxRecDepth 100000
open Go Go.Av Go.Ev Go.Pl
def kY(a b:List Ly)(hl:a.length<=9223372036854775807):aA tbl 156 [.d (.list yR) a,.d (.list yR) b] [] ap (decide (a=b),()):=by
 refine bN ?_;refine au (λh=>aa ?_) λh=>?_;.rw[decide_eq_false];rintro rfl;simp at h
 refine ae (Ro (a:=a) (b:=b) (by simp at h;omega) (λi c d=>?_) ?_ (λe=>aa (by rw[decide_eq_true e])) λe=>aa (by rw[decide_eq_false e]));.exact aO c (aB c (aB d (ev (by rw[show hZ yR a[i] b[i]=_ from zdI _ _];simp) (by rw[ao c hl]))))
 .exact aH (aa rfl)
def jZ(a b:List Tv)(hl:a.length<=9223372036854775807):aA tbl 158 [.d (.list yC) a,.d (.list yC) b] [] ap (decide (a=b),()):=by
 refine bN ?_;refine au (λh=>aa ?_) λh=>?_;.rw[decide_eq_false];rintro rfl;simp at h
 refine ae (Ro (a:=a) (b:=b) (by simp at h;omega) (λi c d=>?_) ?_ (λe=>aa (by rw[decide_eq_true e])) λe=>aa (by rw[decide_eq_false e]));.exact aO c (aB c (aB d (ev (by rw[show hZ yC a[i] b[i]=_ from zdG _ _];simp) (by rw[ao c hl]))))
 .exact aH (aa rfl)
def np(a b:List j7)(hl:a.length<=9223372036854775807):aA tbl 159 [.d (.list yA) a,.d (.list yA) b] [] ap (decide (a=b),()):=by
 refine bN ?_;refine au (λh=>aa ?_) λh=>?_;.rw[decide_eq_false];rintro rfl;simp at h
 refine ae (Ro (a:=a) (b:=b) (by simp at h;omega) (λi c d=>?_) ?_ (λe=>aa (by rw[decide_eq_true e])) λe=>aa (by rw[decide_eq_false e]));.exact aO c (aB c (aB d (ev (by rw[show hZ yA a[i] b[i]=_ from zdF _ _];simp) (by rw[ao c hl]))))
 .exact aH (aa rfl)
def zeJ{d:ZK}(h:okD yF d):zdm d:=⟨h.1.1,h.2.1.1,λr hr=>(h.2.1.2 r hr).1,h.2.2.1.1⟩
def nr(a b:ee)(c:okD LG a):aA tbl 81 [.d LG a,.d LG b] [] ap (decide (a=b),()):=by refine bN ?_;refine ae (bc (λ_=>aa rfl) (ae (bc (λ_=>aa rfl) (ae (bc (λ_=>aj (kY a.2.2.2.1 b.2.2.2.1 c.2.2.2.1.1) (aa rfl)) (ae (bc (λ_=>aj (LN a.2.2.2.2.1 b.2.2.2.2.1 (zeJ c.2.2.2.2.1)) (aa rfl)) (ae (bc (λ_=>aj (jZ a.2.2.2.2.2.1 b.2.2.2.2.2.1 c.2.2.2.2.2.1.1) (aa rfl)) (aa ?_))))))))));rw[show hZ Ut a.2.2.1 b.2.2.1=_ from zdH _ _];refine congrArg (λx:Bool=>some (gq ap (x,()))) (ag_.2 ?_);grind
def vU(a b:dM)(c:okD H5 a):aA tbl 82 [.d H5 a,.d H5 b] [] ap (decide (a=b),()):=by refine bN ?_;refine ae (bc (λ_=>aj (np a.2.1 b.2.1 c.2.1.1) (aa rfl)) (aa (congrArg (λx:Bool=>some (gq ap (x,()))) (ag_.2 ?_))));grind
set_option maxRecDepth 100000
abbrev iF(x:Int):Prop:=0<=x/\x<=4294967295
def Jr(n m:Int):aA tbl 254 [.d tI n,.d tI m] [] aw (min (max n 0) m,()):=crZ
def LS(n m:Int):aA tbl 212 [.d tI n,.d tI m] [] aw (min (max n 0) m,()):=crZ
def FK(k:Nat):(2:Int)^k=((2^k:Nat):Int):=by induction k with|zero=>rfl|succ k a=>rw[Int.pow_succ,a,Nat.pow_succ];rfl
def LL(n:Nat)(hn:n<=32):aA tbl 218 [.d tI (n:Int)] [] gH (((4294967295*2^(32 - n)%4294967296:Nat):Int),()):=by
 refine bN ?_;refine aj (Jr (n:Int) 32) ?_;have e:e_ .i64 (32 - min (max (n:Int) 0) 32)=((32 - n:Nat):Int):=by rw[wrap_i64];omega
 refine ar (by grind) (aa ?_);simp only[e];rw[show min (L_ ((32 - n:Nat):Int)) (ae_ .u32)=32 - n from by show min _ 32=_;simp,wrap_u32,FK];rfl
def Br(x n:Int)(c:iF x)(b:0<=n)(h1:n<=32):aA tbl 183 [.d tW x,.d tI n] [] gH (yr x n,()):=by obtain⟨a,rfl⟩:=y_ c.1;obtain⟨k,rfl⟩:=y_ b;refine bN ?_;refine aj (LL k (by omega)) (aa ?_);rw[Mx (by omega) (aK_ _ (by simp)),UA (by omega) (by omega)];rfl
def Pq(x i:Nat)(d:x<=4294967295)(c:i<32):aA tbl 213 [.d tW (x:Int),.d tI (i:Int)] [] aw (((x/2^(31 - i)%2:Nat):Int),()):=by
 refine bN ?_;refine ae (bf (b:=false) (λ_=>aa (decide_eq_false (by omega))) ?_);rw[decide_eq_false (show ¬(i:Int)<0 by simp)];have e:e_ .u64 (e_ .i64 (31 - (i:Int)))=((31 - i:Nat):Int):=by rw[wrap_i64,wrap_u64];omega
 refine ak rfl (ar (by grind) (aa ?_));simp only[e];rw[show min (L_ ((31 - i:Nat):Int)) (ae_ .u32)=31 - i from by show min _ 32=_;omega,FK,Int.fdiv_eq_ediv_of_nonneg _ (J_ _)];have a:(x:Int)/((2^(31 - i):Nat):Int)=((x/2^(31 - i):Nat):Int):=rfl;have h2:x/2^(31 - i)<=x:=Nat.div_le_self _ _;rw[a,show(1:Int)=((1:Nat):Int)from rfl,Mx (by omega) (by simp),Nat.and_one_is_mod];have:x/2^(31 - i)%2<2:=aK_ _ (by simp);rw[wrap_i64]
def xr(x n:Int)(g:iF x)(d:0<=n)(h1:n<=32):aA tbl 175 [.d tW x,.d tI n] [] gH (yr x n,()):=by
 obtain⟨a,rfl⟩:=y_ g.1;obtain⟨k,rfl⟩:=y_ d;have b:a<4294967296:=by omega
 refine bN ?_;refine aj (LS (k:Int) 32) ?_;have e:min (max (k:Int) 0) 32=(k:Int):=by omega
 rw[e];refine ae (aI (N:=k) (I:=λi s=>s=(((bH a i:Nat):Int),(i:Int),())) (by rw[UC b];rfl) (λi s f hs=>?_) λs hs=>?_)
 .subst hs;refine aO f (aj (Pq a i (by omega) (by omega)) ?_);have e:e_ .u64 (e_ .i64 (31 - (i:Int)))=((31 - i:Nat):Int):=by rw[wrap_i64,wrap_u64];omega
  refine ar (by grind) (aa ?_);simp only[e];have h:a/2^(31 - i)%2<2:=aK_ _ (by simp);have hp:(a/2^(31 - i)%2)*2^(31 - i)<4294967296:=by have h1:(a/2^(31 - i)%2)*2^(31 - i)<=1*2^31:=Nat.mul_le_mul (by omega) (Nat.pow_le_pow_right (by simp) (by simp));omega
  have c:e_ .u32 (e_ .u32 ((a/2^(31 - i)%2:Nat):Int)*2^(min (L_ ((31 - i:Nat):Int)) (ae_ .u32)))=(((a/2^(31 - i)%2)*2^(31 - i):Nat):Int):=by rw[show min (L_ ((31 - i:Nat):Int)) (ae_ .u32)=31 - i from by show min _ 32=_;omega,FK,wrap_u32,wrap_u32];grind
  rw[c,Z2 (Nat.lt_of_le_of_lt (Xa a i) b) hp,<-UB a (by omega),ao (n:=32) (by omega) (by simp)]
 .subst hs;exact aH (aa (aa rfl))
def bV{N:Nat}(p:Gu)(hp:iF p.1)(a:N=146\/N=133:=by decide):aA tbl N [.d yP p] [] ap (ik p,()):=by
 rcases a with rfl|rfl;all_goals
  refine bN ?_;refine ae (bc (b:=decide (p.2.1<=32)) (λ_=>aa rfl) ?_);refine ae (bc (b:=(yr p.1 p.2.1==p.1)) (λh=>?_) (aa rfl));simp only[z_,decide_eq_true_eq]at h;first|exact aj (Br p.1 p.2.1 hp h.1 h.2) (aa rfl)|exact aj (xr p.1 p.2.1 hp h.1 h.2) (aa rfl)
def Bt{N:Nat}(a n:Int)(c:iF a)(b:0<=n)(h1:n<=32)(d:N=179\/N=182:=by decide):aA tbl N [.d tW a,.d tI n] [] pB ((yr a n,n,()),()):=by
 rcases d with rfl|rfl;all_goals
  refine bN ?_;first|exact aj (Br a n c b h1) (aa rfl)|exact aj (xr a n c b h1) (aa rfl)
def BD(p:Gu)(a:Int):Bool:=ik p&&(yr a p.2.1==p.1)
def G6(p q:Gu):Bool:=ik q&&(decide (p.2.1<=q.2.1)&&BD p q.1)
def Vy{p:Gu}(h:ik p=true):0<=p.2.1/\p.2.1<=32:=by unfold ik at h;simp only[z_,decide_eq_true_eq]at h;exact h.1
def fm{N:Nat}(p:Gu)(a:Int)(hp:iF p.1)(d:iF a)(e:N=137\/N=145:=by decide):aA tbl N [.d yP p,.d tW a] [] ap (BD p a,()):=by
 rcases e with rfl|rfl;all_goals
  refine bN ?_;first|refine aj (bV p hp) (ae (bc (b:=(yr a p.2.1==p.1)) (λh=>?_) (aa rfl)))|refine aj (bV p hp) (ae (bc (b:=(yr a p.2.1==p.1)) (λh=>?_) (aa rfl)))
  have c:=Vy h;first|refine aj (Bt a p.2.1 d c.1 c.2) (aa ?_)|refine aj (Bt a p.2.1 d c.1 c.2) (aa ?_)
  show(false ^^ ((yr a p.2.1==p.1)&&((p.2.1==p.2.1)&&true)))=_;simp
def B9(p q:Gu)(hp:iF p.1)(a:iF q.1):aA tbl 214 [.d yP p,.d yP q] [] ap (G6 p q,()):=by refine bN ?_;refine aj (bV q a) (ae (bc (b:=decide (p.2.1<=q.2.1)) (λ_=>aa rfl) ?_));refine ae (bc (b:=BD p q.1) (λ_=>aj (fm p q.1 hp a) (aa rfl)) (aa ?_));unfold G6;grind
def Dw(p q:Gu)(hp:iF p.1)(a:iF q.1):aA tbl 180 [.d yP p,.d yP q] [] ap (G6 p q,()):=by refine bN ?_;refine aj (bV q a) (ae (bc (b:=BD p q.1) (λ_=>aj (fm p q.1 hp a) (aa rfl)) ?_));refine ae (bc (b:=decide (p.2.1<=q.2.1)) (λ_=>aa rfl) (aa ?_));unfold G6;grind
def lO{N:Nat}(r:Ly)(hr:iF r.2.1.1)(c:N=95\/N=130:=by decide):aA tbl N [.d yR r] [] aw (gG r,()):=by
 rcases c with rfl|rfl;all_goals
  refine bN ?_;first|refine aj (bV r.2.1 hr) (au (λh=>aa ?_) λh=>?_)|refine aj (bV r.2.1 hr) (au (λh=>aa ?_) λh=>?_)
  .unfold gG;rw[if_pos (by simpa using h)]
  .have a:¬ik r.2.1=false:=by simpa using h
   refine ae (bf (b:=decide (r.2.2.2.1<r.2.2.1)) (λ_=>aa rfl) (ae (bf (b:=decide (r.2.2.2.1>32)) (λ_=>aa rfl) ?_)));refine au (λh=>aa ?_) λh=>aa ?_;.unfold gG;rw[if_neg a,if_pos (by simpa[or_assoc]using h)]
   .unfold gG;rw[if_neg a,if_neg];intro h';simp only[x_,decide_eq_false_iff_not]at h;omega
def NO(r:Ly)(p:Gu):Bool:=(gG r==0)&&(G6 r.2.1 p&&(decide (r.2.2.1<=p.2.1)&&decide (p.2.1<=r.2.2.2.1)))
def QD(l:List Ly)(p:Gu):Bool:=match l.find? (λz=>NO z p)with|some r=>r.1|none=>false
def GD(r:Ly)(p:Gu)(hr:iF r.2.1.1)(hp:iF p.1):aA tbl 176 [.d yR r,.d yP p] [] ap (NO r p,()):=by refine bN ?_;refine aj (lO r hr) (ae (bc (b:=G6 r.2.1 p) (λ_=>aj (B9 r.2.1 p hr hp) (aa rfl)) ?_));refine ae (bc (b:=decide (r.2.2.1<=p.2.1)) (λ_=>aa rfl) (ae (bc (b:=decide (p.2.1<=r.2.2.2.1)) (λ_=>aa rfl) (aa ?_))));unfold NO;grind
def GJ(r:Ly)(p:Gu)(hr:iF r.2.1.1)(hp:iF p.1):aA tbl 138 [.d yR r,.d yP p] [] ap (NO r p,()):=by
 refine bN ?_;refine aj (lO r hr) (ae (bc (b:=ik p) (λ_=>aj (bV p hp) (aa rfl)) ?_));refine ae (bc (b:=G6 r.2.1 p) (λ_=>aj (Dw r.2.1 p hr hp) (aa rfl)) ?_);refine ae (bc (b:=decide (p.2.1>=r.2.2.1)) (λ_=>aa rfl) (ae (bc (b:=decide (p.2.1<=r.2.2.2.1)) (λ_=>aa rfl) (aa ?_))));unfold NO;have:(ik p&&G6 r.2.1 p)=G6 r.2.1 p:=by unfold G6;simp
 grind
def jr{N:Nat}(l:List Ly)(p:Gu)(hl:l.length<=9223372036854775807)(hr:∀r∈l,iF r.2.1.1)(hp:iF p.1)(c:N=134\/N=64:=by decide):aA tbl N [.d (.list yR) l,.d yP p] [] ap (QD l p,()):=by
 rcases c with rfl|rfl;all_goals
  refine bN ?_;refine ae (zw (xs:=l) (p:=(λz=>NO z p)) (g:=λr=>(r.1,())) (e:=()) (λi r b=>?_) ?_ ?_)
  .have a:=(i_.1 b).1;first|refine aO a (m8 b (aj (GD r p (hr r (r_ b)) hp) ?_))|refine aO a (m8 b (aj (GJ r p (hr r (r_ b)) hp) ?_))
   refine au (λh=>aa ?_) λh=>aa ?_;.rw[if_pos h]
   .rw[if_neg (by have h:NO r p=false:=h;simp[h]),ao a hl]
  .exact aH (aa rfl)
  .unfold QD;cases l.find? (λz=>NO z p)with|some r=>exact aa rfl|none=>exact aa rfl
end Go.Proofs.YtdgiglmmpbndmaaGreatDoor
namespace Go.Pl
open Go.Ev
def dD(M:Nat)(f:Nat->Bool):List Bool:=(G_ M).map f
def jq(M:Nat)(f:Nat->Bool):(dD M f).length=M:=by simp[dD]
def Y9{M i:Nat}(f:Nat->Bool)(h:i<(dD M f).length):(dD M f)[i]=f i:=by simp[dD]
def oz{M:Nat}{f g:Nat->Bool}(h:∀i,i<M->f i=g i):dD M f=dD M g:=List.map_congr_left λi a=>h i (o_.1 a)
def zv{M i:Nat}(f:Nat->Bool)(b:Bool):(dD M f).set i b=dD M λj=>if j=i then b else f j:=by
 refine aC_ (by simp[dD]) λj h1 h2=>?_;have c:j<M:=by simpa[dD]using h2
 rw[List.getElem_set];by_cases e:i=j;.subst e;simp[dD]
 .have a:¬j=i:=λh=>e h.symm;simp[dD,e,a]
def uf(M:Nat):List.replicate M false=dD M λ_=>false:=by refine aC_ (by simp[dD]) λj h1 h2=>?_;simp[dD]
def mU(g:G)(n:Int)(p:Nat):Bool:=match g.sp[p]? with
 |some q=>decide (q.1<=n)&&decide (n<=q.2)
 |none=>false
def z7(g:G)(can:Nat->Bool)(n:Int)(p:Nat):Bool:=can p&&mU g n p
def VF(g:G)(at_:Nat->Bool)(q:Nat):Bool:=g.pr.any λx=>at_ x.1&&decide (x.2=q)
def pI(g:G)(s:(Nat->Bool)×(Nat->Bool))(n:Int):(Nat->Bool)×(Nat->Bool):=(VF g (z7 g s.1 n),z7 g s.1 n)
def ja(g:G)(a:List Int):(Nat->Bool)×(Nat->Bool):=a.foldl (pI g) (λp=>decide (p∈g.fi),λ_=>false)
def fZ(g:G)(a:List Int):Bool:=bif a.isEmpty then g.em else g.la.any (ja g a).2
def Bf{g:G}{a:List Int}{i:Nat}(h:i<a.length):ja g (a.take (i+1))=pI g (ja g (a.take i)) a[i]:=by unfold ja;rw[O_,b_ h,H_];rfl
def uL{g:G}{f:Nat->Bool}{q:Nat}:VF g f q=true↔∃p,f p=true/\(p,q)∈g.pr:=by unfold VF;grind
def iJ(a:List Int):Bool:=a.all λn=>decide (0<=n)&&decide (n<=4294967295)
def zbR:∀(r:Rx),cN r=true->∀o,∀q∈(bO r o).sp,0<=q.1/\q.2<=4294967295:=by
 refine fg λk lo p ks s n o=>?_;obtain⟨hn,j⟩:=eF.1 n;have d:∀(l:List Rx) (a:G),(∀r∈l,r∈ks)->(∀q∈a.sp,0<=q.1/\q.2<=4294967295)->∀q∈(bZ l o a).sp,0<=q.1/\q.2<=4294967295:=by intro l;induction l with|nil=>intro a _ h;exact h|cons r l f=>intro a hl h;refine f _ (λr hr=>hl r (c_ _ hr)) λq b=>?_;rcases p_.1 b with b|b;all_goals grind
 have g:∀(l:List Rx) (a:G),(∀r∈l,r∈ks)->(∀q∈a.sp,0<=q.1/\q.2<=4294967295)->∀q∈(cY l o a).sp,0<=q.1/\q.2<=4294967295:=by intro l;induction l with|nil=>intro a _ h;exact h|cons r l f=>intro a hl h;refine f _ (λr hr=>hl r (c_ _ hr)) λq b=>?_;rcases p_.1 b with b|b;all_goals grind
 have c:∀(e:Bool),∀q∈(g0 e).sp,0<=q.1/\q.2<=4294967295:=λe q b=>by simp[g0]at b
 unfold bO;split;.rename_i h1;have:=hn.za h1;intro q b;simp only[IB,d_]at b;grind
 split;.intro q b;simp only[IB,d_]at b;grind
 split;.exact g _ _ (λ_ h=>h) (c _)
 split;.exact d _ _ (λ_ h=>h) (c _)
 split;.exact d _ _ (λ_ h=>h) (c _)
 split;.exact d _ _ (λ_ h=>h) (c _)
 split;.exact d _ _ (λ_ h=>h) (c _)
 grind
def Oz{g:G}:∀(l:List Int) (s:(Nat->Bool)×(Nat->Bool)),(∀p,s.1 p=false)->(∀p,s.2 p=false)->∀p,(l.foldl (pI g) s).2 p=false
 |[],s,_,h2,p=>h2 p
 |n::l,s,h1,h2,p=>by
  have a:∀p,(pI g s n).2 p=false:=λp=>by show(s.1 p&&_)=false;grind
  refine Oz l (pI g s n) (λq=>?_) a p;cases e:(pI g s n).1 q;.rfl
  .obtain⟨p,hp,_⟩:=uL.1 (show VF g (z7 g s.1 n) q=true from e);have:=a p;rw[show(pI g s n).2 p=z7 g s.1 n p from rfl,hp]at this;omega
def UN{r:Rx}(g:cN r=true){a:List Int}(h:iJ a=false):fZ (bO r 0) a=false:=by
 have:∃n∈a,¬(0<=n/\n<=4294967295):=by
  refine f_ λhn=>?_;have:iJ a=true:=by unfold iJ;grind
  grind
 obtain⟨n,d,k⟩:=this;obtain⟨l1,l2,rfl⟩:=List.append_of_mem d;unfold fZ;have c:(l1++n::l2).isEmpty=false:=by simp
 rw[c];show(bO r 0).la.any _=false;rw[au_];intro p hp;have j:∀p,mU (bO r 0) n p=false:=λp=>by
  unfold mU;split;.rename_i q f;have:=zbR r g 0 q (r_ f);grind
  simp
 have b:∀(s:(Nat->Bool)×(Nat->Bool)) p,(pI (bO r 0) s n).2 p=false:=λs p=>by show(_&&mU _ n p)=false;grind
 have:(ja (bO r 0) (l1++n::l2)).2 p=false:=by
  unfold ja;rw[H_,T_];refine Oz l2 _ (λq=>?_) (b _) p;cases e:(pI (bO r 0) (aJ_ (pI (bO r 0)) (λp=>decide (p∈(bO r 0).fi),λ_=>false) l1) n).1 q;.rfl
  .obtain⟨p,hp,_⟩:=uL.1 (show VF _ _ q=true from e);have:=b (aJ_ (pI (bO r 0)) (λp=>decide (p∈(bO r 0).fi),λ_=>false) l1) p;rw[show(pI (bO r 0) (aJ_ (pI (bO r 0)) (λp=>decide (p∈(bO r 0).fi),λ_=>false) l1) n).2 p=z7 _ _ n p from rfl,hp]at this;omega
 grind
open Go Go.Ev Go.Lib
def hd(t:List UInt8):Nat:=(t.headD 0).toNat
def pk(s:List UInt8)(i:Nat):Nat:=(s.getD i 0).toNat
theorem kD(s:List UInt8)(i:Nat):pk s i=hd (s.drop i):=by unfold pk hd;rw[List.headD_eq_head?_getD,List.head?_drop];rfl
theorem dm{s:List UInt8}{i:Nat}(h:pk s i≠0):i<s.length:=by apply f_;intro hn;apply h;unfold pk;rw[aD_,am_ (by omega)];rfl
theorem FJ{s:List UInt8}{i:Nat}(h:i<s.length):pk s i=s[i].toNat:=by unfold pk;rw[aD_,b_ h];rfl
theorem X2{s:List UInt8}{i:Nat}(h:¬i<s.length):pk s i=0:=by unfold pk;rw[aD_,am_ (by omega)];rfl
theorem gQ{s a t:List UInt8}{i:Nat}(h:s.drop i=a++t):s.drop (i+a.length)=t:=by rw[<-List.drop_drop,h,List.drop_left]
def tu{s t:List UInt8}{b:UInt8}{i:Nat}(h:s.drop i=b::t):s.drop (i+1)=t:=gQ (a:=[b]) h
theorem KA{a t:List UInt8}(h:a≠[]):hd (a++t)=hd a:=by cases a with|nil=>exact absurd rfl h|cons b a=>rfl
def dg(c:Nat):Prop:=48<=c/\c<=57
section
variable (num:Nat->Option (Int×Nat)) (s:List UInt8)
def eu(alt:Nat->Option (Rx×Nat))(i:Nat):Option (Rx×Nat):=
 if pk s i=46 then some (.mk 2 0 0 [],i+1)
 else if pk s i=33 then some (.mk 4 0 0 [],i+1)
 else if pk s i=91 then
  match num (i+1)with
  |none=>none
  |some (lo,j)=>if pk s j=45 then(match num (j+1)with
   |none=>none
   |some (up,k)=>if pk s k=93 then some (.mk 1 lo up [],k+1)else none)else none
 else if pk s i=40 then
  if pk s (i+1)=41 then some (.mk 0 0 0 [],i+2)else
  match alt (i+1)with
  |none=>none
  |some (r,j)=>if pk s j=41 then some (r,j+1)else none
 else match num i with
  |none=>none
  |some (n,j)=>some (.mk 1 n n [],j)
def yU(alt:Nat->Option (Rx×Nat))(i:Nat):Option (Rx×Nat):=
 match eu num s alt i with
 |none=>none
 |some (r,j)=>if pk s j=42 then some (.mk 5 0 0 [r],j+1)else if pk s j=43 then some (.mk 6 0 0 [r],j+1)else if pk s j=63 then some (.mk 7 0 0 [r],j+1)else some (r,j)
def dZ(sep:Nat)(one:Nat->Option (Rx×Nat)):Nat->List Rx->Nat->Option (List Rx×Nat)
 |0,_,_=>none
 |f+1,acc,i=>match one i with
  |none=>none
  |some (r,j)=>if pk s j=sep then dZ sep one f (acc++[r]) (j+1)else some (acc++[r],j)
def Uy(k:Int)(l:List Rx):Rx:=match l with
 |[x]=>x
 |l=>.mk k 0 0 l
def sI(sep:Nat)(k:Int)(one:Nat->Option (Rx×Nat))(i:Nat):Option (Rx×Nat):=match dZ s sep one (s.length+1 - i) [] i with
 |none=>none
 |some (l,j)=>some (Uy k l,j)
def UZ(alt:Nat->Option (Rx×Nat))(i:Nat):Option (Rx×Nat):=sI s 32 3 (yU num s alt) i
def wY:Nat->Nat->Option (Rx×Nat)
 |0,_=>none
 |b+1,i=>sI s 124 4 (UZ num s (wY b)) i
end
structure o9(s:List UInt8)(num:Nat->Option (Int×Nat)):Prop where
 qd:∀i n j,i<=s.length->num i=some (n,j)->i<j/\j<=s.length
 txt:∀i (m:Nat) t,s.drop i=decDigits m++t->m<=4294967295->¬dg (hd t)->num i=some ((m:Int),i+(decDigits m).length)
def Rs(s:List UInt8)(one:Nat->Option (Rx×Nat)):Prop:=∀i r j,i<=s.length->one i=some (r,j)->i<j/\j<=s.length/\sz r<=j - i
section
variable {num:Nat->Option (Int×Nat)} {s:List UInt8}
theorem Wr(hn:o9 s num){alt:Nat->Option (Rx×Nat)}(g:Rs s alt):Rs s (eu num s alt):=by
 intro i r j k h;unfold eu at h;have one:sz (.mk 0 0 0 [])=1:=rfl;split at h;.rename_i h1;have:=dm (s:=s) (i:=i) (by omega);cases h;refine⟨by simp,by omega,?_⟩;show 1<=_;simp
 split at h;.have:=dm (s:=s) (i:=i) (by omega);cases h;refine⟨by simp,by omega,?_⟩;show 1<=_;simp
 split at h
 .have:=dm (s:=s) (i:=i) (by omega);split at h;.grind
  rename_i lo a e;have c:=hn.qd _ _ _ (by omega) e;split at h
  .have:=dm (s:=s) (i:=a) (by omega);split at h;.grind
   rename_i up b f;have d:=hn.qd _ _ _ (by omega) f;split at h;.have:=dm (s:=s) (i:=b) (by omega);cases h;refine⟨by omega,by omega,?_⟩;show 1<=_;omega
   grind
  grind
 split at h
 .have:=dm (s:=s) (i:=i) (by omega);split at h;.have:=dm (s:=s) (i:=i+1) (by omega);grind
  split at h;.grind
  rename_i r2 a e;obtain⟨c,d,l⟩:=g _ _ _ (by omega) e;split at h;.have:=dm (s:=s) (i:=a) (by omega);grind
  grind
 split at h;.grind
 rename_i n a e;have c:=hn.qd _ _ _ k e;cases h;refine⟨by omega,by omega,?_⟩;show 1<=_;omega
theorem td(hn:o9 s num){alt:Nat->Option (Rx×Nat)}(b:Rs s alt):Rs s (yU num s alt):=by
 intro i r j c h;unfold yU at h;split at h;.grind
 rename_i r2 a e;obtain⟨d,f,g⟩:=Wr hn b _ _ _ c e;have hs:∀k:Int,sz (.mk k 0 0 [r2])=sz r2+1:=λk=>by grind[sz,sN]
 split at h;.have:=dm (s:=s) (i:=a) (by omega);grind
 split at h;.have:=dm (s:=s) (i:=a) (by omega);grind
 split at h;.have:=dm (s:=s) (i:=a) (by omega);grind
 grind
theorem Mz{one:Nat->Option (Rx×Nat)}(b:Rs s one){sep:Nat}(c:sep≠0):∀(f:Nat) (acc:List Rx) (i:Nat) (l:List Rx) (j:Nat),i<=s.length->dZ s sep one f acc i=some (l,j)->
 i<j/\j<=s.length/\sN l+l.length<=sN acc+acc.length+(j - i)+1/\acc.length<l.length
 |0,_,_,_,_,_,h=>by grind[dZ]
 |f+1,acc,i,l,j,d,h=>by
  rw[dZ]at h;split at h;.grind
  rename_i r a e;obtain⟨g,k,n⟩:=b _ _ _ d e;have x:sN (acc++[r])=sN acc+sz r:=by simp[Lt,sN]
  split at h;.have:=dm (s:=s) (i:=a) (by omega);obtain⟨p,u,v,w⟩:=Mz b c f _ _ _ _ (by omega) h;grind
  grind
theorem C2{one:Nat->Option (Rx×Nat)}(g:Rs s one){sep:Nat}(d:sep≠0)(k:Int):Rs s (sI s sep k one):=by
 intro i r j f h;unfold sI at h;split at h;.grind
 rename_i l a e;obtain⟨n,p,u,c⟩:=Mz g d _ _ _ _ _ f e;cases h;unfold Uy;split;.grind[sN]
 .rename_i b;have:2<=l.length:=by match l,b,c with|[],_,c=>omega|[x],b,_=>grind|x::y::l,_,_=>simp
  grind[sz,sN]
theorem xF(hn:o9 s num):∀b:Nat,Rs s (wY num s b)
 |0=>λi r j _ h=>by grind[wY]
 |b+1=>λi r j a h=>by rw[wY]at h;exact C2 (one:=UZ num s (wY num s b)) (λi r j a h=>C2 (one:=yU num s (wY num s b)) (td hn (xF hn b)) (by simp) 3 i r j a h) (by simp) 4 i r j a h
end
mutual
def LC:Rx->Nat
 | .mk _ _ _ ks=>1+P5 ks
def P5:List Rx->Nat
 |[]=>0
 |r::a=>max (LC r) (P5 a)
end
def C4:∀{ks:List Rx} {r:Rx},r∈ks->LC r<=P5 ks
 |x::ks,r,h=>by
  simp only[P5];rcases w_.1 h with rfl|h;.omega
  .have:=C4 h;omega
def WK(w:Bool)(l t:List UInt8):sx w l++t=bif w then 40::(l++41::t)else l++t:=by cases w<;>simp[sx]
def fst(c:Nat):Prop:=dg c\/c=46\/c=33\/c=91\/c=40
theorem D8(n:Nat):decDigits n≠[]/\dg (hd (decDigits n)):=by have h:=D7 n;have a:=xP n;cases e:decDigits n with|nil=>grind|cons b l=>rw[e]at a;exact⟨by simp,a b (by simp)⟩
theorem Df:∀(r:Rx),cN r=true->pat r≠[]/\fst (hd (pat r)):=by
 refine fg λk lo up ks s n=>?_;obtain⟨hn,d⟩:=eF.1 n;have a:∀p:Int,∀x∈ks,jy p x≠[]/\fst (hd (jy p x)):=λp x f=>by
  obtain⟨h1,h2⟩:=s x f (d x f);unfold jy sx;cases my p x;.exact⟨h1,h2⟩
  .exact⟨by simp,.inr (.inr (.inr (.inr rfl)))⟩
 have u:∀p:Int,∀t:List UInt8,ks≠[]->(ks.map (jy p)).headD []++t≠[]/\fst (hd ((ks.map (jy p)).headD []++t)):=λp t h=>by cases ks with|nil=>exact absurd rfl h|cons x l=>obtain⟨h1,h2⟩:=a p x (h_ ..);simp only[C_,List.headD_cons];rw[KA h1];exact⟨by simp[h1],h2⟩
 have g:∀p:Int,∀c:UInt8,ks≠[]->jn c (ks.map (jy p))≠[]/\fst (hd (jn c (ks.map (jy p)))):=λp c h=>by cases ks with|nil=>exact absurd rfl h|cons x l=>obtain⟨h1,h2⟩:=a p x (h_ ..);cases l with|nil=>exact⟨h1,h2⟩|cons y l=>simp only[C_,jn];rw[KA h1];exact⟨by simp[h1],h2⟩
 have j:(k=5\/k=6\/k=7)->ks≠[]:=λh e=>by have:=hn.one h;rw[e]at this;simp at this
 have b:k=3->ks≠[]:=λh e=>by have:=hn.seq h;rw[e]at this;simp at this
 simp only[pat,dI];split;.exact⟨by simp,.inr (.inr (.inr (.inr rfl)))⟩
 split;.exact⟨by simp,.inr (.inl rfl)⟩
 split
 .split;.exact⟨(D8 _).1,.inl (D8 _).2⟩
  .exact⟨by simp,.inr (.inr (.inr (.inl rfl)))⟩
 split;.grind
 split;.grind
 split;.grind
 split
 .split;.exact⟨by simp,.inr (.inr (.inl rfl))⟩
  grind
 .rcases hn.known with h|h|h|h|h|h|h|h<;>try exact absurd h (by assumption)
  exact g 3 32 (b h)
def comp:Rx->Bool
 | .mk k _ _ ks=>bif k==4 then !ks.isEmpty else(k==3||k==5||k==6||k==7)
def D5:Rx->Bool
 | .mk k _ _ ks=>bif k==4 then !ks.isEmpty else k==3
def D6:Rx->Bool
 | .mk k _ _ ks=>bif k==4 then !ks.isEmpty else false
section
variable {num:Nat->Option (Int×Nat)} {s:List UInt8}
theorem RF(hn:o9 s num){alt:Nat->Option (Rx×Nat)}{r:Rx}(g:cN r=true) (j:comp r=true->∀i t,s.drop i=pat r++t->(hd t=0\/hd t=41)->alt i=some (r,i+(pat r).length)) {i:Nat} {t:List UInt8} (h:s.drop i=sx (comp r) (pat r)++t) (l:¬dg (hd t)):eu num s alt i=some (r,i+(sx (comp r) (pat r)).length):=by
 cases hc:comp r with
 |true=>
  rw[hc,WK]at h;have h:s.drop i=40::(pat r++41::t):=h;have a:pk s i=40:=by rw[kD,h];rfl
  have h1:=tu h;obtain⟨x,f2⟩:=Df r g;have c:pk s (i+1)≠41:=by grind[kD,KA,fst,dg]
  have h2:=j hc (i+1) (41::t) h1 (.inr rfl);have d:pk s (i+1+(pat r).length)=41:=by rw[kD,gQ h1];rfl
  unfold eu;rw[if_neg (by omega),if_neg (by omega),if_neg (by omega),if_pos a,if_neg c,h2];simp only;rw[if_pos d];grind[sx]
 |false=>
  rw[hc]at h;have h:s.drop i=pat r++t:=h;show _=some (r,i+(pat r).length);obtain⟨k,lo,up,ks⟩:=r;obtain⟨nd,n⟩:=eF.1 g;rcases nd.known with rfl|rfl|rfl|rfl|rfl|rfl|rfl|rfl
  .have e:=len_nil (nd.leaf (by simp));subst e;obtain⟨rfl,rfl⟩:=nd.zero (by simp);have h:s.drop i=40::41::t:=h;have a:pk s i=40:=by rw[kD,h];rfl
   have c:pk s (i+1)=41:=by rw[kD,tu h];rfl
   unfold eu;rw[if_neg (by omega),if_neg (by omega),if_neg (by omega),if_pos a,if_pos c];rfl
  .have e:=len_nil (nd.leaf (by simp));subst e;obtain⟨r1,r2,r3⟩:=nd.za rfl;by_cases hl:lo=up
   .subst hl;have b:pat (.mk 1 lo lo [])=decDigits lo.toNat:=by simp[pat]
    rw[b]at h⊢;obtain⟨d1,w⟩:=D8 lo.toNat;have a:dg (pk s i):=by grind[kD,KA]
    unfold dg at a;have y:=hn.txt i lo.toNat t h (by omega) l;grind[eu]
   .have b:pat (.mk 1 lo up [])=91::(decDigits lo.toNat++45::(decDigits up.toNat++[93])):=by grind[pat]
    rw[b]at h⊢;have h:s.drop i=91::(decDigits lo.toNat++45::(decDigits up.toNat++93::t)):=by grind
    have a:pk s i=91:=by rw[kD,h];rfl
    have h1:=tu h;have p:=hn.txt _ lo.toNat _ h1 (by omega) (by show ¬dg 45;simp[dg]);have h2:=gQ h1;have d:pk s (i+1+(decDigits lo.toNat).length)=45:=by rw[kD,h2];rfl
    have f:=tu h2;have u:=hn.txt _ up.toNat _ f (by omega) (by show ¬dg 93;simp[dg]);have v:pk s (i+1+(decDigits lo.toNat).length+1+(decDigits up.toNat).length)=93:=by rw[kD,gQ f];rfl
    unfold eu;rw[if_neg (by omega),if_neg (by omega),if_pos a,p];simp only;rw[if_pos d,u];simp only;rw[if_pos v,ap_ r1,ap_ (by omega)];simp;omega
  .have e:=len_nil (nd.leaf (by simp));subst e;obtain⟨rfl,rfl⟩:=nd.zero (by simp);have h:s.drop i=46::t:=h;have a:pk s i=46:=by rw[kD,h];rfl
   unfold eu;rw[if_pos a];rfl
  .grind[absurd,comp]
  .obtain⟨rfl,rfl⟩:=nd.zero (by simp);have e:ks=[]:=by grind[comp]
   subst e;have h:s.drop i=33::t:=by grind[pat]
   have a:pk s i=33:=by rw[kD,h];rfl
   unfold eu;rw[if_neg (by omega),if_pos a];simp[pat]
  all_goals grind[absurd,comp]
def f2(c:Nat):Prop:=c=0\/c=41\/c=124\/c=32
def VH(s:List UInt8)(alt:Nat->Option (Rx×Nat))(b:Nat):Prop:=∀r,cN r=true->LC r<=b->∀i t,s.drop i=pat r++t->(hd t=0\/hd t=41)->alt i=some (r,i+(pat r).length)
theorem Sq(hn:o9 s num){alt:Nat->Option (Rx×Nat)}{b:Nat}(y:VH s alt b){r:Rx}(v:cN r=true)(E:LC r<=b+1)(g:D5 r=true->LC r<=b){i:Nat}{t:List UInt8} (h:s.drop i=jy 3 r++t) (F:f2 (hd t)):yU num s alt i=some (r,i+(jy 3 r).length):=by
 obtain⟨k,lo,up,ks⟩:=r;obtain⟨nd,d⟩:=eF.1 v;have n:¬dg (hd t):=by grind[f2,dg]
 by_cases z:k=5\/k=6\/k=7
 .obtain⟨x,rfl⟩:=iq (nd.one z);obtain⟨rfl,rfl⟩:=nd.zero (by omega);have w:x∈[x]:=h_ ..;have A:=C4 w;have j:LC x<=b:=by grind[LC]
  have B:∀p:Int,(p=5\/p=6\/p=7)->jy p x=sx (comp x) (pat x):=λp hp=>by
   obtain⟨a,_,_,l⟩:=x;unfold jy;have:((p==5||p==6)||p==7)=true:=by grind
   simp only[my,comp,this,aL_];have D:(p != 4)=true:=by grind
   grind
  have u:∃c:UInt8,jy 3 (.mk k 0 0 [x])=sx (comp x) (pat x)++[c]/\(c.toNat=42/\k=5\/c.toNat=43/\k=6\/c.toNat=63/\k=7):=by
   rcases z with rfl|rfl|rfl;.refine⟨42,?_,by simp⟩;show pat (.mk 5 0 0 [x])=_;grind[pat,dI]
   .refine⟨43,?_,by simp⟩;show pat (.mk 6 0 0 [x])=_;grind[pat,dI]
   .refine⟨63,?_,by simp⟩;show pat (.mk 7 0 0 [x])=_;grind[pat,dI]
  obtain⟨c,e,hc⟩:=u;rw[e]at h⊢;have h:s.drop i=sx (comp x) (pat x)++c::t:=by grind
  have f:=RF hn (d x w) (λ_=>y x (d x w) j) h (by show ¬dg c.toNat;grind[dg]);have H:pk s (i+(sx (comp x) (pat x)).length)=c.toNat:=by rw[kD,gQ h];rfl
  grind[yU]
 .have e:jy 3 (.mk k lo up ks)=sx (comp (.mk k lo up ks)) (pat (.mk k lo up ks)):=by grind[jy,my,comp]
  have C:comp (.mk k lo up ks)=D5 (.mk k lo up ks):=by grind[comp,D5]
  rw[e]at h⊢;have f:=RF hn v (λhc=>y _ v (g (by grind))) h n;grind[pk,sx,comp,pat,hd,kD,gQ,yU,f2]
theorem KW{one:Nat->Option (Rx×Nat)}{f:Rx->List UInt8}{sep:UInt8}{E:Nat->Prop}:∀(ks:List Rx),ks≠[]->
 (∀x∈ks,∀i t,s.drop i=f x++t->(E (hd t)\/hd t=sep.toNat)->one i=some (x,i+(f x).length))->
 (∀x∈ks,f x≠[])->∀(a:Nat) (acc:List Rx) (i:Nat) (t:List UInt8),s.drop i=jn sep (ks.map f)++t->E (hd t)->hd t≠sep.toNat->s.length+1<=a+i->i<=s.length->
 dZ s sep.toNat one a acc i=some (acc++ks,i+(jn sep (ks.map f)).length)
 |[],h,_,_,_,_,_,_,_,_,_,_,_=>absurd rfl h
 |[x],_,c,b,a,acc,i,t,h,d,hs,j,k=>by
  have h:s.drop i=f x++t:=h;have h1:=c x (by simp) i t h (.inl d);obtain⟨m,rfl⟩:∃m,a=m+1:=⟨a - 1,by omega⟩;have g:pk s (i+(f x).length)=hd t:=by rw[kD,gQ h]
  rw[dZ,h1];simp only;rw[if_neg (by omega)];rfl
 |x::y::ks,_,c,b,a,acc,i,t,h,d,hs,j,k=>by
  have h:s.drop i=f x++sep::(jn sep ((y::ks).map f)++t):=by grind[jn]
  have h1:=c x (by simp) i _ h (.inr rfl);obtain⟨m,rfl⟩:∃m,a=m+1:=⟨a - 1,by omega⟩;have h2:=gQ h;have g:pk s (i+(f x).length)=sep.toNat:=by rw[kD,h2];rfl
  have l:i+(f x).length<s.length:=by apply f_;grind[E_]
  have:=KW (y::ks) (by simp) (λz e=>c z (c_ _ e)) (λz e=>b z (c_ _ e)) m (acc++[x]) (i+(f x).length+1) t (tu h2) d hs (by omega) (by omega);rw[dZ,h1];simp only;rw[if_pos g,this];grind[jn]
theorem qz{k:Int}{l:List Rx}(h:l.length≠1):Uy k l= .mk k 0 0 l:=by
 unfold Uy;split;.simp at h
 .rfl
theorem seq_ok(hn:o9 s num){alt:Nat->Option (Rx×Nat)}{b:Nat}(n:VH s alt b){r:Rx}(p:cN r=true)(u:LC r<=b+1)(v:D6 r=true->LC r<=b){i:Nat}{t:List UInt8} (h:s.drop i=jy 4 r++t) (w:hd t=0\/hd t=41\/hd t=124) (y:i<=s.length):UZ num s alt i=some (r,i+(jy 4 r).length):=by
 obtain⟨k,lo,up,ks⟩:=r;obtain⟨nd,j⟩:=eF.1 p;unfold UZ sI;by_cases z:k=3
 .subst z;obtain⟨rfl,rfl⟩:=nd.zero (by simp);have h2:2<=(ks.length:Int):=nd.seq rfl;have e:jy 4 (.mk 3 0 0 ks)=jn 32 (ks.map (jy 3)):=by show pat (.mk 3 0 0 ks)=_;simp[pat,dI]
  rw[e]at h⊢;have g:∀x∈ks,LC x<=b:=λx a=>by have:=C4 a;grind[LC]
  have l:ks≠[]:=by grind
  have:=KW (one:=yU num s alt) (f:=jy 3) (sep:=32) (E:=λc=>c=0\/c=41\/c=124) ks l (λx a i t d hc=>Sq hn n (j x a) (by grind) (λ_=>g x a) d (by
   grind[f2])) (λx a=>by
   grind[jy,sx,my,Df]) (s.length+1 - i) [] i t h w (by
   grind) (by omega) y
  grind[dZ,yU,qz]
 .have e:jy 4 (.mk k lo up ks)=jy 3 (.mk k lo up ks):=by grind[jy,my]
  have B:D5 (.mk k lo up ks)=D6 (.mk k lo up ks):=by grind[D5,D6]
  rw[e]at h⊢;have C:pk s (i+(jy 3 (.mk k lo up ks)).length)=hd t:=by rw[kD,gQ h]
  obtain⟨m,A⟩:∃m,s.length+1 - i=m+1:=⟨s.length - i,by omega⟩;rw[A,dZ,(Sq hn n p u (by grind) h (by grind[f2]))];simp only;rw[if_neg (by omega)];simp[Uy]
theorem C5{a t:List UInt8}{i:Nat}(h:s.drop i=a++t)(b:a≠[]):i<s.length:=by apply f_;grind[E_,List.append_eq_nil_iff]
theorem W8(p:Int){x:Rx}(a:cN x=true):jy p x≠[]:=by
 unfold jy sx;cases my p x;.exact(Df x a).1
 .simp
theorem Wi(hn:o9 s num):∀b:Nat,VH s (wY num s b) b
 |0=>λr _ u=>by cases r;grind[LC]
 |b+1=>λr n u i t h y=>by
  have v:=C5 h (Df r n).1;have p:=Wi hn b;rw[wY];unfold sI;cases hc:D6 r with
  |true=>
   obtain⟨k,lo,up,ks⟩:=r;obtain⟨nd,a⟩:=eF.1 n;have z:k=4:=by grind[D6]
   subst z;obtain⟨rfl,rfl⟩:=nd.zero (by simp);have l:ks≠[]:=by grind[D6]
   have h1:(ks.length:Int)≠1:=nd.alt rfl;have e:pat (.mk 4 0 0 ks)=jn 124 (ks.map (jy 4)):=by grind[pat,dI]
   rw[e]at h⊢;have j:∀x∈ks,LC x<=b:=λx d=>by have:=C4 d;grind[LC]
   have:=KW (one:=UZ num s (wY num s b)) (f:=jy 4) (sep:=124) (E:=λc=>c=0\/c=41) ks l (λx d i t g hc=>seq_ok hn p (a x d) (by grind) (λ_=>j x d) g (by
    grind) (X_ (C5 g (W8 4 (a x d))))) (λx d=>W8 4 (a x d)) (s.length+1 - i) [] i t h y (by
    grind) (by omega) (X_ v)
   grind[dZ,UZ,wY,qz]
  |false=>
   have e:pat r=jy 4 r:=by
    obtain⟨k,lo,up,ks⟩:=r;unfold jy;simp only[my];simp only[D6]at hc;cases w:(k==4);.simp[sx]
    .rw[w]at hc;simp only[cond_true]at hc;simp only[cond_true,hc];rfl
   rw[e]at h⊢;have h1:=seq_ok hn p n u (λh=>by grind) h (by omega) (X_ v);have B:pk s (i+(jy 4 r).length)=hd t:=by rw[kD,gQ h]
   obtain⟨m,A⟩:∃m,s.length+1 - i=m+1:=⟨s.length - i,by omega⟩;rw[A,dZ,h1];simp only;rw[if_neg (by omega)];simp[Uy]
end
def zac:∀(r:Rx) (lv c:Int),(tk r lv c).2=0->lv+(LC r:Int)<=17:=by
 refine fg λk lo up ks d lv c h=>?_;rw[tk]at h;split at h;.omega
 split at h;.omega
 split at h;.omega
 have a:∀(l:List Rx),(∀r∈l,r∈ks)->∀(c:Int),(fH l (lv+1) c).2=0->lv+1+(P5 l:Int)<=17:=by
  intro l;induction l with
  |nil=>grind[P5]|cons r l e=>
   intro b c h;rw[fH]at h;split at h;.omega
   .grind[P5]
 grind[LC]
theorem U1{num:Nat->Option (Int×Nat)}{r:Rx}(hn:o9 (pat r) num)(c:cN r=true){b:Nat}(a:LC r<=b):wY num (pat r) b 0=some (r,(pat r).length):=by have:=Wi hn b r c a 0 [] (by simp) (.inl rfl);grind
end Go.Pl
set_option maxRecDepth 100000
namespace Go.Proofs.YtdgiglmmpbndmaaGreatDoor
open Z
open Go Go.Av Go.Ev Go.Pl
def JD(k n:Int):aA tbl 289 [.d tI k,.d tI n] [] rU (pZ k,fO k n,()):=by
 refine bN ?_;by_cases h:k=0;.subst h;exact cD (λ_=>rfl) rfl
 by_cases h1:k=1;.subst h1;exact cD (λ_=>rfl) rfl
 by_cases h2:k=2;.subst h2;exact cD (λ_=>rfl) rfl
 by_cases j:k=3;.subst j;exact cD (λ_=>rfl) rfl
 by_cases l:k=4;.subst l;exact cD (λ_=>rfl) rfl
 by_cases p:k=5;.subst p;exact cD (λ_=>rfl) rfl
 by_cases r:k=6;.subst r;exact cD (λ_=>rfl) rfl
 by_cases s:k=7;.subst s;exact cD (λ_=>rfl) rfl
 have e0:(k==(0:Int))=false:=by grind
 have a:(k==(1:Int))=false:=by grind
 have b:(k==(2:Int))=false:=by grind
 have c:(k==(3:Int))=false:=by grind
 have d:(k==(4:Int))=false:=by grind
 have e:(k==(5:Int))=false:=by grind
 have f:(k==(6:Int))=false:=by grind
 have g:(k==(7:Int))=false:=by grind
 simp only[e0,a,b,c,d,e,f,g];refine cD (λ_=>rfl) ?_;grind[pZ,fO]
def xw(r:Rx):aA tbl 264 [.d .rx r] [] aw (fD r.out.1 r.out.2.1 r.out.2.2.1 (r.out.2.2.2.1.length:Int),()):=by
 refine bN ?_;generalize r.out.1=k;generalize r.out.2.1=lo;generalize r.out.2.2.1=b;generalize(r.out.2.2.2.1.length:Int)=n;refine aj (JD k n) ?_;unfold fD;cases pZ k;.exact cD (λ_=>rfl) rfl
 cases c:(k==(1:Int))
 .have a:(k != (1:Int))=true:=by grind
  rw[a];cases(lo != (0:Int))<;>cases(b != (0:Int))<;>cases fO k n<;>exact cD (λ_=>rfl) rfl
 .have a:(k != (1:Int))=false:=by grind
  rw[a];cases decide (lo<(0:Int))<;>cases decide (lo>b)<;>cases decide (b>(4294967295:Int))<;>cases fO k n<;>exact cD (λ_=>rfl) rfl
def US(k lo a:Int)(n:Int)(hn:0<=n):fD k lo a n= bif k==1 then(bif decide (lo<0)||decide (lo>a)||decide (a>4294967295)then 5 else bif decide (n>0)then 1 else 0) else bif !pZ k then 15 else bif !fO k n then 1 else bif lo != 0||a != 0 then 1 else 0:=by
 unfold fD;cases c:(k==(1:Int));.grind
 .have b:k=1:=by grind
  subst b;have:fO 1 n= !decide (n>0):=by show(n==0)=_;grind
  rw[this];cases decide (lo<(0:Int))<;>cases decide (lo>a)<;>cases decide (a>(4294967295:Int))<;>cases decide (n>0)<;>rfl
def sW(r:Rx):aA tbl 252 [.d .rx r] [] aw (fD r.out.1 r.out.2.1 r.out.2.2.1 (r.out.2.2.2.1.length:Int),()):=by
 refine bN ?_;have hn:(0:Int)<=(r.out.2.2.2.1.length:Int):=by simp
 generalize(r.out.2.2.2.1.length:Int)=n at hn;rw[US _ _ _ _ hn];generalize r.out.1=k;generalize r.out.2.1=lo;generalize r.out.2.2.1=a;by_cases h1:k=1;.subst h1;cases decide (lo<(0:Int))<;>cases decide (lo>a)<;>cases decide (a>(4294967295:Int))<;>cases decide (n>0)<;>exact cD (λ_=>rfl) rfl
 have d:(k==(1:Int))=false:=by grind
 rw[d];have c:∀m:Int,0<=m->(m==0)= !decide (m>0):=λm y=>by grind
 by_cases p:k=0;.subst p;rw[show fO 0 n= !decide (n>0)from c n hn];cases decide (n>0)<;>cases(lo != (0:Int))<;>cases(a != (0:Int))<;>exact cD (λ_=>rfl) rfl
 by_cases h2:k=2;.subst h2;rw[show fO 2 n= !decide (n>0)from c n hn];cases decide (n>0)<;>cases(lo != (0:Int))<;>cases(a != (0:Int))<;>exact cD (λ_=>rfl) rfl
 by_cases s:k=3
 .subst s;have:fO 3 n= !decide (n<2):=by show decide (n>=2)=_;grind
  rw[this];cases decide (n<2)<;>cases(lo != (0:Int))<;>cases(a != (0:Int))<;>exact cD (λ_=>rfl) rfl
 by_cases u:k=4;.subst u;have:fO 4 n= !(n==1):=rfl;rw[this];cases(n==(1:Int))<;>cases(lo != (0:Int))<;>cases(a != (0:Int))<;>exact cD (λ_=>rfl) rfl
 have b:∀m:Int,(m==1)= !(m != 1):=λm=>by grind
 by_cases v:k=5;.subst v;rw[show fO 5 n= !(n != 1)from b n];cases(n != (1:Int))<;>cases(lo != (0:Int))<;>cases(a != (0:Int))<;>exact cD (λ_=>rfl) rfl
 by_cases w:k=6;.subst w;rw[show fO 6 n= !(n != 1)from b n];cases(n != (1:Int))<;>cases(lo != (0:Int))<;>cases(a != (0:Int))<;>exact cD (λ_=>rfl) rfl
 by_cases x:k=7;.subst x;rw[show fO 7 n= !(n != 1)from b n];cases(n != (1:Int))<;>cases(lo != (0:Int))<;>cases(a != (0:Int))<;>exact cD (λ_=>rfl) rfl
 have e0:(k==(0:Int))=false:=by grind
 have e:(k==(2:Int))=false:=by grind
 have f:(k==(3:Int))=false:=by grind
 have g:(k==(4:Int))=false:=by grind
 have h:(k==(5:Int))=false:=by grind
 have j:(k==(6:Int))=false:=by grind
 have l:(k==(7:Int))=false:=by grind
 simp only[pZ,e0,d,e,f,g,h,j,l];exact cD (λ_=>rfl) rfl
def rX{k lo up:Int}{ks:List Rx}{M:Nat}(h:sz (.mk k lo up ks)<=M):ks.length<M/\∀r∈ks,sz r<M:=by simp only[sz]at h;have h1:=zp ks;exact⟨by omega,λr hr=>by have:=m7 hr;omega⟩
def vX:∀(r:Rx),sz r<=1000000->aA tbl 215 [.d .rx r] [] ap (cN r,()):=by
 refine fg λk lo up ks d hs=>?_;obtain⟨c,b⟩:=rX hs;refine bN (aj (sW _) ?_);have l:cN (.mk k lo up ks)=(fD k lo up ks.length==0&&r7 ks):=rfl;refine au (λh=>aa ?_) λh=>?_
 .have:(fD k lo up ks.length==0)=false:=by have h:(fD k lo up ks.length != 0)=true:=h;grind
  grind
 .have f:(fD k lo up ks.length==0)=true:=by have h:(fD k lo up ks.length != 0)=false:=h;grind
  refine ae (kL (xs:=ks) (P:=λr=>cN r=true) (e:=(false,())) (g:=()) (λi a=>?_) ?_ (λhg=>?_) (λj=>?_));.refine aO a (aB a ?_);rw[b8];refine aj (d ks[i] (a_ a) (by grind)) (ev ?_ (by grind[ao]));simp
  .exact aH (aa rfl)
  .refine aa ?_;grind[lM]
  .refine aa ?_;grind[lM]
def ux{ks:List Rx}{lv c:Int}:∀{i:Nat},(h:i<ks.length)->(fH (ks.take i) lv c).2=0->fH (ks.take (i+1)) lv c=(let p:=tk ks[i] lv (fH (ks.take i) lv c).1;(p.1,p.2)):=by intro i;induction ks generalizing c i with|nil=>simp|cons r ks a=>cases i with|zero=>grind[fH]|succ i=>grind[fH]
def xM{lv:Int}:∀{ks:List Rx} {c:Int} {i:Nat},(fH (ks.take i) lv c).2≠0->fH ks lv c=fH (ks.take i) lv c:=by intro ks;induction ks with|nil=>simp|cons r ks a=>intro c i h;cases i with|zero=>grind[fH]|succ i=>grind[fH]
def Ae:∀(r:Rx) (lv c:Int),0<=c->c<=64->c<=(tk r lv c).1/\(tk r lv c).1<=64:=by
 refine fg λk lo up ks d lv c a h1=>?_;have hs:∀(l:List Rx) (lv c:Int),(∀r∈l,r∈ks)->0<=c->c<=64->c<=(fH l lv c).1/\(fH l lv c).1<=64:=by intro l;induction l with|nil=>intro lv c _ a h1;exact⟨aN_ _,h1⟩|cons r l b=>grind[fH]
 grind[tk]
def GH:∀(r:Rx),sz r<=1048576->∀(lv c:Int),0<=lv->lv<=17->0<=c->c<=64->aA tbl 245 [.d .rx r,.d tI lv,.d tI c] [] dn ((tk r lv c).1,(tk r lv c).2,()):=by
 refine fg λk lo up ks y hs lv c w x u v=>?_;obtain⟨j,g⟩:=rX hs;refine bN ?_;refine au (λh=>aa ?_) λh=>?_
 .have h:lv>16:=by grind
  simp only[tk,if_pos h]
 have h1:¬lv>16:=by grind
 refine au (λh=>aa ?_) λh=>?_
 .have h:c>=64:=by grind
  simp only[tk,if_neg h1,if_pos h]
 have h2:¬c>=64:=by grind
 refine aj (sW _) ?_;show Wp _ _;refine au (λh=>aa ?_) λh=>?_
 .have h:fD k lo up ks.length≠0:=by have h:(fD k lo up ks.length != 0)=true:=h;grind
  simp only[tk,if_neg h1,if_neg h2,if_pos h];rfl
 have p:¬fD k lo up ks.length≠0:=by have h:(fD k lo up ks.length != 0)=false:=h;grind
 have l:tk (.mk k lo up ks) lv c=fH ks (lv+1) (c+1):=by simp only[tk,if_neg h1,if_neg h2,if_neg p]
 rw[l,wrap_i64];have a:∀i,(fH (ks.take i) (lv+1) (c+1)).2=0->0<=(fH (ks.take i) (lv+1) (c+1)).1/\(fH (ks.take i) (lv+1) (c+1)).1<=64:=by
  intro i;induction i with
  |zero=>intro _;simp[fH];omega|succ i f=>
   intro n;by_cases b:i<ks.length
   .have d:(fH (ks.take i) (lv+1) (c+1)).2=0:=f_ λhn=>by have:=xM (ks:=ks.take (i+1)) (lv:=lv+1) (c:=c+1) (i:=i) (by grind);grind
    rw[ux b d];have hr:=f d;have:=Ae ks[i] (lv+1) _ hr.1 hr.2;grind
   .rw[show ks.take (i+1)=ks.take i by rw[l_ (by omega),l_ (by omega)]]at n⊢;omega
 refine ae (aI (N:=ks.length) (I:=λi s=>s=((fH (ks.take i) (lv+1) (c+1)).1,(i:Int),())/\(fH (ks.take i) (lv+1) (c+1)).2=0) (by rw[wrap_i64];simp[fH]) (λi s b hs=>?_) λs hs=>?_)
 .obtain⟨rfl,d⟩:=hs;dsimp only;refine aO b (aB b ?_);rw[b8];have e:=a i d;refine aj (y ks[i] (a_ b) (by grind) (lv+1) _ (by omega) (by omega) e.1 e.2) ?_;have ht:=ux b d;refine au (λh=>aa ?_) λh=>aa ?_
  .have hn:(tk ks[i] (lv+1) (fH (ks.take i) (lv+1) (c+1)).1).2≠0:=by grind
   have z:=xM (ks:=ks) (lv:=lv+1) (c:=c+1) (i:=i+1) (by grind);refine aa ?_;grind
  .have hn:(tk ks[i] (lv+1) (fH (ks.take i) (lv+1) (c+1)).1).2=0:=by grind
   refine⟨?_,by grind⟩;rw[ao b,ht]
 .obtain⟨rfl,d⟩:=hs;refine aH (aa (aa ?_));grind
def GR:∀(r:Rx),sz r<=1048576->∀(lv c:Int),0<=lv->lv<=17->0<=c->c<=64->∃s:Int,((tk r lv c).2=0->s=(tk r lv c).1)/\aA tbl 233 [.d .rx r,.d tI lv,.ptr 0 0] [.box 3 [.d tI c]] fF ((tk r lv c).2,s,()):=by
 refine fg λk lo up ks A hs lv c w y u v=>?_;obtain⟨l,j⟩:=rX hs;suffices h:∃x:Int×Int×Unit,(x.1=(tk (.mk k lo up ks) lv c).2/\((tk (.mk k lo up ks) lv c).2=0->x.2.1=(tk (.mk k lo up ks) lv c).1))/\aA tbl 233 [.d .rx (.mk k lo up ks),.d tI lv,.ptr 0 0] [.box 3 [.d tI c]] fF x by grind
 refine PY (sh:=fF) ?_;refine au (λh=>aa ⟨_,rfl,?_⟩) λh=>?_
 .have h:lv>16:=by grind
  simp only[tk,if_pos h];simp
 have h1:¬lv>16:=by grind
 refine au (λh=>aa ⟨_,rfl,?_⟩) λh=>?_
 .have h:c>=64:=by grind
  simp only[tk,if_neg h1,if_pos h];simp
 have h2:¬c>=64:=by grind
 refine aj (xw _) ?_;show Wp _ _;refine au (λh=>aa ⟨_,rfl,?_⟩) λh=>?_
 .have h:fD k lo up ks.length≠0:=by have h:(fD k lo up ks.length != 0)=true:=h;grind
  simp only[tk,if_neg h1,if_neg h2,if_pos h];exact⟨rfl,λh'=>absurd h' h⟩
 have p:¬fD k lo up ks.length≠0:=by have h:(fD k lo up ks.length != 0)=false:=h;grind
 have n:tk (.mk k lo up ks) lv c=fH ks (lv+1) (c+1):=by simp only[tk,if_neg h1,if_neg h2,if_neg p]
 rw[n,wrap_i64];have a:∀i,(fH (ks.take i) (lv+1) (c+1)).2=0->0<=(fH (ks.take i) (lv+1) (c+1)).1/\(fH (ks.take i) (lv+1) (c+1)).1<=64:=by
  intro i;induction i with
  |zero=>grind[fH]|succ i g=>
   intro B;by_cases b:i<ks.length
   .have d:(fH (ks.take i) (lv+1) (c+1)).2=0:=f_ λhn=>by have:=xM (ks:=ks.take (i+1)) (lv:=lv+1) (c:=c+1) (i:=i) (by grind);grind
    rw[ux b d];have hr:=g d;have:=Ae ks[i] (lv+1) _ hr.1 hr.2;grind
   grind[l_]
 refine ae (aI (N:=ks.length) (I:=λi s=>s=((i:Int),(fH (ks.take i) (lv+1) (c+1)).1,())/\(fH (ks.take i) (lv+1) (c+1)).2=0) (by grind[wrap_i64,fH]) (λi s b hs=>?_) λs hs=>?_)
 .obtain⟨rfl,d⟩:=hs;dsimp only;refine aO b (aB b ?_);rw[b8];have hr:=a_ b;have e:=a i d;obtain⟨s,z,f⟩:=A ks[i] hr (by grind) (lv+1) _ (by omega) (by omega) e.1 e.2;refine aj f ?_;have ht:=ux b d;refine au (λh=>aa ?_) λh=>aa ?_
  .have hn:(tk ks[i] (lv+1) (fH (ks.take i) (lv+1) (c+1)).1).2≠0:=by grind
   have C:=xM (ks:=ks) (lv:=lv+1) (c:=c+1) (i:=i+1) (by grind);refine aa ⟨_,rfl,?_⟩;grind
  grind[tk,fH,ao]
 .obtain⟨rfl,d⟩:=hs;dsimp only;refine aH (aa (aa ⟨_,rfl,?_⟩));grind
def fG(r:Rx):Int:=(tk r 1 0).2
def GF(r:Rx)(hs:sz r<=1048576):aA tbl 207 [.d .rx r] [] aw (fG r,()):=by refine bN ?_;exact aj (GH r hs 1 0 (by simp) (by simp) (by simp) (by simp)) (aa rfl)
def pK(r:Rx)(hs:sz r<=1048576):aA tbl 200 [.d .rx r] [] aw (fG r,()):=by refine bN ?_;obtain⟨s,_,h⟩:=GR r hs 1 0 (by simp) (by simp) (by simp) (by simp);exact aj h (aa rfl)
def Wx:∀(r:Rx) (lv c:Int),(tk r lv c).2=0->cN r=true/\(tk r lv c).1=c+(sz r:Int):=by
 refine fg λk lo up ks b lv c h=>?_;have hs:∀(l:List Rx) (lv c:Int),(∀r∈l,r∈ks)->(fH l lv c).2=0->(∀r∈l,cN r=true)/\(fH l lv c).1=c+(sN l:Int):=by
  intro l;induction l with
  |nil=>simp[fH,sN]|cons r l a=>
   intro lv c hl h;simp only[fH]at h⊢;split at h;.omega
   .grind[sN]
 simp only[tk]at h⊢;split at h;.omega
 split at h;.omega
 split at h;.omega
 .grind[eF,Fw,sz]
def ql{r:Rx}(h:fG r=0):cN r=true/\sz r<=64:=by obtain⟨h1,h2⟩:=Wx r 1 0 h;have:=Ae r 1 0 (by simp) (by simp);grind
def qf:∀(r:Rx),sz r<=1000000->aA tbl 216 [.d .rx r] [] ap (Pj r,()):=by
 refine fg λk lo up ks y hs=>?_;obtain⟨e,d⟩:=rX hs;refine bN ?_;refine ae (aI (N:=ks.length) (I:=λi s=>s=(vv (ks.take i),qF (ks.take i),(i:Int),())) (by simp[vv,qF]) (λi s c hs=>?_) λs hs=>?_);.subst hs;refine aO c (aB c ?_);rw[b8];refine aj (y ks[i] (a_ c) (by grind)) ?_;refine ae (bf (b:=Pj ks[i]) (λ_=>aa rfl) (ae (bc (b:=Pj ks[i]) (λ_=>aa rfl) (aa ?_))));grind[vv,Pj,O_,b_,NZ,qF,NY,ao]
 .subst hs;refine aH (aa ?_);rw[I_];have hn:Pj (.mk k lo up ks)=bif k==0||k==5||k==7 then true else bif k==3||k==6 then qF ks else bif k==4 then vv ks else false:=rfl;by_cases n:k=0;.subst n;exact cD (λ_=>rfl) rfl
  by_cases v:k=5;.subst v;exact cD (λ_=>rfl) rfl
  by_cases x:k=7;.subst x;exact cD (λ_=>rfl) rfl
  by_cases p:k=3;.subst p;exact cD (λ_=>rfl) rfl
  by_cases w:k=6;.subst w;exact cD (λ_=>rfl) rfl
  by_cases u:k=4;.subst u;exact cD (λ_=>rfl) rfl
  have e0:(k==(0:Int))=false:=by grind
  have f:(k==(3:Int))=false:=by grind
  have g:(k==(4:Int))=false:=by grind
  have h:(k==(5:Int))=false:=by grind
  have j:(k==(6:Int))=false:=by grind
  have l:(k==(7:Int))=false:=by grind
  refine cD (a:=some (gq ap (false,()))) (λ_=>?_) ?_;.show m_ (bif (k==(0:Int))then some (((k==(0:Int)),()))else bif (k==(5:Int))then some (((k==(5:Int)),()))else some (((k==(7:Int)),()))) (λz=>bif z.1 then qc ap (true,())else m_ (bif (k==(3:Int))then some (((k==(3:Int)),()))else some (((k==(6:Int)),()))) λA=>bif A.1 then qc ap (qF ks,())else bif (k==(4:Int))then qc ap (vv ks,())else qc ap (false,()))=_;rw[e0,h,l,f,j,g];rfl
  grind
open Go Go.Av Go.Ev Go.Pl Go.Lib
def zbT{n:Int}(c:0<=n)(h1:n<=4294967295):aA tbl 265 [.d tI n] [] aV (decDigits n.toNat,()):=by
 refine TW Gm ?_ rfl;have a:zaA n=true:=by simp only[zaA,z_,decide_eq_true_eq];omega
 have b:Lib.itoa n=decDigits n.toNat:=by grind[Lib.itoa]
 simp only[uJ,a,b];rfl
def zC{n:Int}(a:0<=n)(h1:n<=4294967295):aA tbl 234 [.d tI n] [] aV (decDigits n.toNat,()):=by refine bN ?_;exact aj (zbT a h1) (aa rfl)
def VQ:∀(n:Nat) (m:Int),m=(n:Int)->n<=4294967295->aA tbl 274 [.d tQ m] [] aV (decDigits n,()):=by
 intro n;induction n using Nat.strongRecOn with
 |ind n h=>
  intro m g hn;subst g;refine bN ?_;have c:e_ .u8 (e_ .u64 ((48:Int)+(Int.tmod (n:Int) (10:Int))))=((48+n%10:Nat):Int):=by grind[wrap_u8,wrap_u64,Int.tmod_eq_emod_of_nonneg]
  refine ar rfl ?_;refine au (λf=>?_) (λe=>?_)
  .have a:n<10:=by grind
   refine aa ?_;have:decDigits n=[UInt8.ofNat (48+n)]:=by rw[decDigits,dif_pos a]
   grind
  .have b:10<=n:=by grind
   have d:e_ .u64 (Int.tdiv (n:Int) 10)=((n/10:Nat):Int):=by grind[wrap_u64,Y_]
   have hl:=jB (show n/10<=4294967295 by omega);refine ar rfl (aj (h (n/10) (by omega) _ d (by omega)) (ar ?_ (aa ?_)));.grind
   .rw[c];have:decDigits n=decDigits (n/10)++[UInt8.ofNat (48+n%10)]:=by conv=>lhs;rw[decDigits,dif_neg (by omega)]
    rw[this];rfl
def qR{n:Int}(b:0<=n)(h1:n<=4294967295):aA tbl 247 [.d tI n] [] aV (decDigits n.toNat,()):=by refine bN ?_;exact au (λa=>absurd (of_decide_eq_true a) (by omega)) (λ_=>(aj (VQ n.toNat _ (by grind[wrap_u64]) (by omega)) (aa rfl)))
def Y3(ks:List Rx)(i:Nat):sN (ks.take i)<=sN ks:=by grind[Lt,List.take_append_drop]
def Sm(p:Int){x:Rx}(a:cN x=true):(jy p x).length+1<=26*sz x:=by have:=Sn p x;have:=Dh x a;omega
def Y2(p:Int):∀l:List Rx,(∀x∈l,cN x=true)->((l.map (jy p)).map λx=>x.length+1).sum<=26*sN l
 |[],_=>by simp
 |r::l,h=>by have h1:=Sm p (h r (h_ ..));have h2:=Y2 p l λx a=>h x (c_ _ a);grind[sN]
def zeC(c:UInt8)(p:Int)(l:List Rx)(h:∀x∈l,cN x=true):(jn c (l.map (jy p))).length<=26*sN l:=af_ (KH c _) (Y2 p l h)
def vQ{a β:Type}(f:a->β){l:List a}{i:Nat}(h:i<l.length):(l.take (i+1)).map f=(l.take i).map f++[f l[i]]:=by grind[O_]
def sd(k:Int):aA tbl 291 [.d tI k] [] ap (k==5||k==6||k==7,()):=by refine bN ?_;cases(k==(5:Int))<;>cases(k==(6:Int))<;>exact cD (λ_=>rfl) rfl
def BJ(ks:List Rx):decide ((ks.length:Int)>0)= !ks.isEmpty:=by cases ks with|nil=>rfl|cons x l=>simp
def O7(p k lo up:Int)(ks:List Rx):my p (.mk k lo up ks)=bif k==4 then !ks.isEmpty else bif k==3 then p != 4 else(k==5||k==6||k==7)&&(p==5||p==6||p==7):=rfl
def Cb(p:Int)(x:Rx):aA tbl 266 [.d tI p,.d .rx x] [] ap (my p x,()):=by
 obtain⟨k,lo,up,ks⟩:=x;refine bN ?_;rw[O7];refine au (λh=>aa ?_) λh=>?_;.have h:(k==4)=true:=h;rw[h,<-BJ];rfl
 have h:(k==4)=false:=h;rw[h];refine au (λh=>aa ?_) λh=>?_;.have h:(k==3)=true:=h;grind
 have h:(k==3)=false:=h;rw[h];refine aj (sd k) (ae (bc (λ_=>aj (sd p) (aa rfl)) (aa rfl)))
theorem Ns(p:Int)(x:Rx)(hl:(pat x).length<=1000000)(h:aA tbl 201 [.d .rx x] [] aV (pat x,())):aA tbl 235 [.d tI p,.d .rx x] [] aV (jy p x,()):=by
 refine bN (aj h (aj (Cb p x) (au (λa=>ar (decide_eq_true ?_) (ar (decide_eq_true ?_) (aa ?_))) λa=>aa ?_)));.grind
 .grind
 .have a:my p x=true:=a;unfold jy;rw[a];rfl
 .have a:my p x=false:=a;unfold jy;rw[a];rfl
def Jd(k lo up:Int)(ks:List Rx)(c:UInt8)(f:∀x∈ks,cN x=true)(w:sN ks<=1000)(h:∀x∈ks,aA tbl 201 [.d .rx x] [] aV (pat x,())): Wp (λn=>ff n (Dx (sg tbl n) n (.mk k lo up ks) ([c],())) (([]:List UInt8),(0:Int),())) λt=>t=(jn c (ks.map (jy k)),()):=by
 have g:=zp ks;refine aI (N:=ks.length) (I:=λi s=>s=(jn c ((ks.take i).map (jy k)),(i:Int),())) rfl ?_ ?_
 .rintro i s a rfl;have b:=a_ a;have u:=zeC c k (ks.take i) λx r=>f x (List.mem_of_mem_take r);have p:=Y3 ks i;have j:=Sm k (f _ b);have l:=m7 b;have hp:=Dh _ (f _ b);refine aO a (aB a ?_);rw[vQ _ a,KI];refine ae (Ev.wp_mono (Q:=λv=>v=((if(ks.take i).map (jy k)=[]then []else jn c ((ks.take i).map (jy k))++[c]),ks[i].out.1,ks[i].out.2.1,ks[i].out.2.2.1,ks[i].out.2.2.2.1,())) (au (λd=>ar (decide_eq_true ?_) (aa ?_)) λd=>aa ?_) ?_);.grind
  .rw[if_neg (by intro e;have:=congrArg aO_ e;grind)];rfl
  .have d:¬(i:Int)>0:=of_decide_eq_false d;have:i=0:=by omega
   subst this;rfl
  rintro v rfl;rw[b8];refine aj (Ns k ks[i] (by omega) (h _ b)) (ar (decide_eq_true ?_) (aa ?_));all_goals grind[ao]
 .rintro s rfl;rw[I_];exact aH (aa rfl)
def JE:∀(r:Rx),cN r=true->sz r<=1000->aA tbl 201 [.d .rx r] [] aV (pat r,()):=by
 refine fg λk lo up ks l j hs=>?_;obtain⟨nd,a⟩:=eF.1 j;have hsz:sN ks<=1000:=by grind[sz]
 have d:∀x∈ks,aA tbl 201 [.d .rx x] [] aV (pat x,()):=λx b=>l x b (a x b) (by have:=m7 b;omega);refine bN ?_;have one:∀x,ks=[x]->∀p:Int,aA tbl 235 [.d tI p,.d .rx x] [] aV (jy p x,())/\(jy p x).length<=26000:=λx e p=>by
  have b:x∈ks:=by grind
  have h1:=Dh x (a x b);have h2:=m7 b;have s:=Sm p (a x b);grind[Ns]
 rcases nd.known with rfl|rfl|rfl|rfl|rfl|rfl|rfl|rfl;.refine ae (aD rfl (aa (aa ?_)));simp[pat]
 .obtain⟨r1,r2,r3⟩:=nd.za rfl;refine ae (ak rfl (ak rfl (aD rfl (au (λh=>?_) λh=>?_))))
  .have h:(lo==up)=true:=h;have h:lo=up:=by grind
   subst h;refine aj (zC (n:=lo) r1 r3) (aa (aa ?_));simp[pat]
  .have h:(lo==up)=false:=h;have h:lo≠up:=by grind
   have l1:=jB (n:=lo.toNat) (by omega);have l2:=jB (n:=up.toNat) (by omega);refine aj (zC (n:=lo) r1 (by omega)) (ar (decide_eq_true ?_) (ar (decide_eq_true ?_) (aj (zC (n:=up) (by omega) r3) (ar (decide_eq_true ?_) (ar (decide_eq_true ?_) (aa (aa ?_)))))));.grind
   .grind
   all_goals grind[pat]
 .refine ae (ak rfl (aD rfl (aa (aa ?_))));simp[pat]
 .obtain⟨rfl,rfl⟩:=nd.zero (by simp);refine ae (ak rfl (ak rfl (ak rfl (ak rfl (ak rfl (ak rfl (ak rfl (aa ?_))))))));refine ae (Ev.wp_mono (Jd 3 0 0 ks 32 a hsz d) ?_);rintro t rfl;refine aa ?_;simp[pat,dI]
 .obtain⟨rfl,rfl⟩:=nd.zero (by simp);refine ae (ak rfl (ak rfl (ak rfl (ak rfl (ak rfl (ak rfl (aD rfl (au (λh=>aa (aa ?_)) λh=>aa ?_))))))));.have h:((ks.length:Int)==0)=true:=h;grind[len_nil,pat]
  .have h:((ks.length:Int)==0)=false:=h;have g:ks≠[]:=by grind
   refine ae (Ev.wp_mono (Jd 4 0 0 ks 124 a hsz d) ?_);rintro t rfl;refine aa ?_;grind[pat,dI]
 .obtain⟨rfl,rfl⟩:=nd.zero (by simp);obtain⟨x,rfl⟩:=iq (nd.one (by simp));obtain⟨c,f⟩:=one x rfl 5;refine ae (ak rfl (ak rfl (ak rfl (aD rfl (bX (by simp) rfl (aj c (ar (decide_eq_true ?_) (aa (aa ?_)))))))));all_goals grind[pat,dI]
 .obtain⟨rfl,rfl⟩:=nd.zero (by simp);obtain⟨x,rfl⟩:=iq (nd.one (by simp));obtain⟨c,f⟩:=one x rfl 6;refine ae (ak rfl (ak rfl (ak rfl (ak rfl (aD rfl (bX (by simp) rfl (aj c (ar (decide_eq_true ?_) (aa (aa ?_))))))))));all_goals grind[pat,dI]
 .obtain⟨rfl,rfl⟩:=nd.zero (by simp);obtain⟨x,rfl⟩:=iq (nd.one (by simp));obtain⟨c,f⟩:=one x rfl 7;refine ae (ak rfl (ak rfl (ak rfl (ak rfl (ak rfl (aD rfl (bX (by simp) rfl (aj c (ar (decide_eq_true ?_) (aa (aa ?_)))))))))));all_goals grind[pat,dI]
def GQ(r:Rx)(hs:sz r<=1048576):aA tbl 166 [.d .rx r] [] gJ (if fG r=0 then pat r else [],fG r,()):=by
 refine bN (aj (pK r hs) (au (λh=>aa ?_) λh=>?_));.grind
 .have h:fG r=0:=by grind
  obtain⟨h1,h2⟩:=ql h;refine aj (JE r h1 (by omega)) (aa ?_);grind
def zJ(p x:Rx):aA tbl 246 [.d .rx p,.d .rx x] [] ap (my p.out.1 x,()):=by
 obtain⟨k,lo,up,ks⟩:=x;refine bN ?_;generalize p.out.1=q;refine ae (bf (λ_=>aa rfl) (ae (bf (λ_=>aa rfl) ?_)));rw[O7];refine au (λh=>aa ?_) λh=>?_;.have h:(k==3)=true:=h;grind
 have a:(k==3)=false:=h;refine au (λh=>aa ?_) λh=>?_;.have h:(k==4)=true:=h;rw[h,<-BJ];rfl
 have b:(k==4)=false:=h;refine ae (Ev.wp_mono (Q:=λv=>v=(k==5||k==6||k==7,())) (au (λh=>aa ?_) λh=>au (λh'=>aa ?_) λh'=>aa ?_) ?_);.have h:(k==5)=true:=h;grind
 .have h':(k==6)=true:=h';grind
 .have h:(k==5)=false:=h;have h':(k==6)=false:=h';show((k==7),())=_;grind
 rintro v rfl;refine au (λh=>aa ?_) λh=>aa ?_;all_goals grind
def OT(f:List UInt8->Nat):∀(l:List (List UInt8)) (i:Nat),((l.take i).map f).sum<=(l.map f).sum
 |[],i=>by simp
 |x::l,0=>by simp
 |x::l,i+1=>by have:=OT f l i;grind
def sX(l:List (List UInt8))(c:UInt8)(hl:(l.map λx=>x.length+1).sum<=1000000):aA tbl 248 [.d (.list tS) l,.d tS [c]] [] aV (jn c l,()):=by
 refine bN ?_;have d:l.length<=(l.map λx=>x.length+1).sum:=by induction l with|nil=>simp|cons x l g=>grind
 refine ae (Ev.wp_mono (Q:=λt=>t=(jn c l,())) (aI (N:=l.length) (I:=λi s=>s=(jn c (l.take i),(i:Int),())) rfl ?_ ?_) ?_)
 .rintro i s b rfl;have h1:=KH c (l.take i);have f:=OT (λx=>x.length+1) l (i+1);have ht:l.take (i+1)=l.take i++[l[i]]:=by simp
  refine aO b (aB b ?_);rw[ht,KI];refine ae (Ev.wp_mono (Q:=λv=>v=((if l.take i=[]then []else jn c (l.take i)++[c]),())) (au (λa=>ar (decide_eq_true ?_) (aa ?_)) λa=>aa ?_) ?_);.grind
  .rw[if_neg (by intro e;have:=congrArg aO_ e;grind)]
  .have a:¬(i:Int)>0:=of_decide_eq_false a;have:i=0:=by omega
   subst this;rfl
  rintro v rfl;refine ar (decide_eq_true ?_) (aa ?_);all_goals grind[ao]
 .rintro s rfl;rw[I_];exact aH (aa rfl)
 .rintro t rfl;exact aa rfl
def Ca:∀(r:Rx),cN r=true->sz r<=1000->aA tbl 208 [.d .rx r] [] aV (pat r,()):=by
 refine fg λk lo up ks z y hs=>?_;obtain⟨nd,a⟩:=eF.1 y;have hsz:sN ks<=1000:=by grind[sz]
 have g:∀x∈ks,aA tbl 208 [.d .rx x] [] aV (pat x,()):=λx c=>z x c (a x c) (by have:=m7 c;omega);refine bN ?_;refine ae (Ev.wp_mono (Q:=λt=>t=(ks.map (jy k),())) ?_ ?_)
 .have l:=zp ks;refine aI (N:=ks.length) (I:=λi s=>s=((i:Int),(ks.take i).map (jy k),())) rfl ?_ ?_
  .rintro i s d rfl;have f:=a_ d;have w:=m7 f;have hp:=Dh _ (a _ f);refine aO d (aB d ?_);rw[b8,vQ _ d];refine aj (g _ f) (ae (Ev.wp_mono (Q:=λv=>v=(jy k ks[i],(ks.take i).map (jy k),())) (aj (zJ (.mk k lo up ks) ks[i]) (au (λb=>ar (decide_eq_true ?_) (ar (decide_eq_true ?_) (aa ?_))) λb=>aa ?_)) ?_));.show 1+(pat ks[i]).length<=_;omega
   .show(pat ks[i]).length+1+1<=_;omega
   .have b:my k ks[i]=true:=b;unfold jy;rw[b];rfl
   .have b:my k ks[i]=false:=b;unfold jy;rw[b];rfl
   rintro v rfl;refine ar (decide_eq_true ?_) (aa ?_);all_goals grind[e_,ao]
  .rintro s rfl;rw[I_];exact aH (aa rfl)
 rintro t rfl;have u:=Y2 k ks a;have one:∀x,ks=[x]->∀p:Int,(jy p x).length<=26000:=λx e p=>by
  have c:x∈ks:=by grind
  have h2:=m7 c;have A:=Sm p (a x c);omega
 rcases nd.known with rfl|rfl|rfl|rfl|rfl|rfl|rfl|rfl;.refine aD rfl (aa ?_);simp[pat]
 .obtain⟨r1,r2,r3⟩:=nd.za rfl;refine ak rfl (aD rfl (au (λh=>?_) λh=>?_))
  .have h:(lo==up)=true:=h;have h:lo=up:=by grind
   subst h;refine aj (qR (n:=lo) r1 r3) (aa ?_);simp[pat]
  .have h:(lo==up)=false:=h;have h:lo≠up:=by grind
   have l1:=jB (n:=lo.toNat) (by omega);have l2:=jB (n:=up.toNat) (by omega);refine aj (qR (n:=lo) r1 (by omega)) (ar (decide_eq_true ?_) (ar (decide_eq_true ?_) (aj (qR (n:=up) (by omega) r3) (ar (decide_eq_true ?_) (ar (decide_eq_true ?_) (aa ?_))))));.grind
   .grind
   all_goals grind[pat]
 .refine ak rfl (ak rfl (aD rfl (aa ?_)));simp[pat]
 .obtain⟨rfl,rfl⟩:=nd.zero (by simp);refine ak rfl (ak rfl (ak rfl (aD rfl (aj (sX (ks.map (jy 3)) 32 (by omega)) (aa ?_)))));simp[pat,dI]
 .obtain⟨rfl,rfl⟩:=nd.zero (by simp);refine ak rfl (ak rfl (ak rfl (ak rfl (aD rfl (au (λh=>aa ?_) λh=>aj (sX (ks.map (jy 4)) 124 (by omega)) (aa ?_))))));all_goals grind[jy,g_,len_nil,pat,dI]
 .obtain⟨rfl,rfl⟩:=nd.zero (by simp);obtain⟨x,rfl⟩:=iq (nd.one (by simp));have j:=one x rfl 5;refine ak rfl (ak rfl (ak rfl (ak rfl (ak rfl (aD rfl (bX (by simp) rfl (bi rfl (ar (decide_eq_true ?_) (aa ?_)))))))));all_goals grind[pat,dI]
 .obtain⟨rfl,rfl⟩:=nd.zero (by simp);obtain⟨x,rfl⟩:=iq (nd.one (by simp));have j:=one x rfl 6;refine ak rfl (ak rfl (ak rfl (ak rfl (ak rfl (ak rfl (aD rfl (bX (by simp) rfl (bi rfl (ar (decide_eq_true ?_) (aa ?_))))))))));all_goals grind[pat,dI]
 .obtain⟨rfl,rfl⟩:=nd.zero (by simp);obtain⟨x,rfl⟩:=iq (nd.one (by simp));have j:=one x rfl 7;refine ak rfl (ak rfl (ak rfl (ak rfl (ak rfl (ak rfl (ak rfl (bX (by simp) rfl (bi rfl (ar (decide_eq_true ?_) (aa ?_))))))))));all_goals grind[pat,dI]
end Go.Proofs.YtdgiglmmpbndmaaGreatDoor
namespace Go.Ev
open Go Go.RowKit Go.Av
section
variable {tbl:Nat->Option gC}
def ei(tbl:Nat->Option gC)(f:Nat)(ars:List V)(os:List Ob)(sh:Sh)(o:Option (HL sh.sl)):Prop:=∃a,∀n,a<=n->qk (sg tbl n) f ars os sh=some o
theorem Ik{f:Nat}{ars:List V}{os:List Ob}{sh:Sh}{R:Option (HL sh.sl)->Prop}(hp:∀c,yV sh (gq sh c)=some c)(h:Conv tbl f ars os λo=>∃c:Option (HL sh.sl),o=c.map (gq sh)/\R c):∃o,R o/\ei tbl f ars os sh o:=by obtain⟨o,⟨c,rfl,hr⟩,b,hn⟩:=h;refine⟨c,hr,b,λn a=>?_⟩;unfold qk;cases c with|none=>grind|some c=>grind[yV]
theorem na{f:Nat}{ars:List V}{os:List Ob}{sh:Sh}{o:Option (HL sh.sl)}(hp:∀c,yV sh (gq sh c)=some c)(h:Conv tbl f ars os (·=o.map (gq sh))):ei tbl f ars os sh o:=by obtain⟨o',rfl,h2⟩:=Ik hp (Ip h λx a=>⟨o,a,rfl⟩);omega
theorem gh{f:Nat}{ars:List V}{os:List Ob}{sh:Sh}{β:Type}{k:Nat->Option (HL sh.sl)->Option β}{Q:β->Prop}{o:Option (HL sh.sl)}(h:ei tbl f ars os sh o)(a:Wp (λn=>k n o) Q):Wp (λn=>m_ (qk (sg tbl n) f ars os sh) (k n)) Q:=by obtain⟨b,hn⟩:=h;exact ae ⟨o,a,b,hn⟩
end
end Go.Ev
namespace Go.Proofs.YtdgiglmmpbndmaaGreatDoor
open Z
open Go Go.Av Go.Ev Go.Pl Go.Lib
def LM(s:List UInt8)(hs:s.length<=1048576):∃c:Bool×Unit,((∀n,s=decDigits n->c=(true,()))/\(c.1=true->s≠[]))/\aA tbl 300 [.d tS s] [] ap c:=by
 refine PY (sh:=ap) (ae (bf (b:=decide ((s.length:Int)>(1:Int))&&(((s.getD 0 0).toNat:Int)==(48:Int))) (λg=>ae (bc (λh1=>?_) (aa rfl))) ?_));.refine bX (aN_ _) ?_ (aa rfl);grind
 .refine au (λh=>aa ⟨(false,()),rfl,λn hn=>?_,λh=>by grind⟩) (λh=>?_);.grind[D7,T3]
  .have d:s≠[]:=by grind
   refine ae (Wp.imp (Q:=λr=>match r with| .inl v=>v.1=false/\∀n,s≠decDigits n| .inr _=>True) (aI (N:=s.length) (I:=λi st=>st=((i:Int),())) rfl (λi st f a=>?_) λst a=>?_) λr hr=>?_)
   .subst a;have e:=b_ f;refine au (λ_=>(bX (J_ _) e (ae (bf (λ_=>bX (J_ _) e (aa rfl)) (au (λj=>aa ⟨rfl,λn hn=>?_⟩) (λ_=>aa ?_)))))) (λh=>absurd h (by grind));.have:=xP n s[i] (by grind);grind[EW]
    grind[ao]
   .subst a;simp[aa]
   .cases r with|inl v=>exact aa ⟨_,rfl,λn hn=>absurd hn (hr.2 n),λ_=>d⟩|inr v=>exact aa ⟨_,rfl,λ_ _=>rfl,λ_=>d⟩
def VL(s:List UInt8)(hs:s.length<=1048576):∃c:Int×Int×Unit,((∀m:Nat,m<=4294967295->s=decDigits m->c=((m:Int),(0:Int),()))/\(c.2.1=0->s≠[]))/\aA tbl 297 [.d tS s,.d tI (4294967295:Int)] [] dn c:=by
 obtain⟨y,⟨l,f⟩,b⟩:=LM s hs;refine PY (sh:=dn) ?_;refine aj b (au (λh=>aa ⟨_,rfl,λm a hn=>?_,λE=>by grind⟩) (λhc=>?_));.grind
 have d:s≠[]:=f (by grind);refine ae (Wp.imp (Q:=λr=>match r with| .inl v=>∀m:Nat,m<=4294967295->s≠decDigits m| .inr v=>∀m:Nat,m<=4294967295->s=decDigits m->v.1=m) (aI (N:=s.length) (I:=λi st=>st.2.1=(i:Int)/\∀m:Nat,m<=4294967295->s=decDigits m->st.1=(lL (s.take i):Int)) ⟨rfl,λ_ _ _=>rfl⟩ (λi st u e=>?_) λst e=>?_) λr hr=>?_)
 .obtain⟨n,j,_⟩:=st;obtain⟨h1,h2⟩:=e;simp only at h1 h2;subst h1;have x:=b_ u;have w:∀m:Nat,m<=4294967295->s=decDigits m->n=(lL (s.take i):Int)/\lL (s.take i)<=4294967295/\EW s[i]/\lL (s.take (i+1))<=4294967295/\lL (s.take (i+1))=10*lL (s.take i)+(s[i].toNat - 48):=λm a hn=>by grind[lL,xQ,hd,EW,xP,Jk,takeD,uS]
  have p:EW s[i]->e_ .i64 (e_ .u8 ((s[i].toNat:Int) - 48))=((s[i].toNat - 48:Nat):Int):=λh=>by grind[EW,wrap_u8,wrap_i64]
  refine au (λ_=>?_) (λh=>absurd h (by grind));refine bX (J_ _) x ?_;refine ar rfl (au (λg=>aa λm a hn=>?_) (λ_=>aa ⟨?_,λm a hn=>?_⟩));.obtain⟨z,A,B,C,D⟩:=w m a hn;have k:=of_decide_eq_true g;grind[EW,wrap_i64,Y_]
  .grind[ao]
  grind[wrap_i64,lL]
 .obtain⟨n,j,_⟩:=st;obtain⟨h1,h2⟩:=e;simp only at h1 h2;subst h1;refine au (λh=>absurd h (by simp)) λ_=>aa λm a hn=>?_;simp only;rw[h2 m a hn,l_ (t_ _),hn,xQ]
 .cases r with|inl v=>exact aa ⟨_,rfl,λm a hn=>absurd hn (hr m a),λ_=>d⟩|inr v=>refine au (λg=>aa ⟨_,rfl,λm a hn=>?_,λ_=>d⟩) (λ_=>aa ⟨_,rfl,λm a hn=>?_,λ_=>d⟩);all_goals grind
def sS(s:List UInt8)(i:Nat):aA tbl 199 [.ptr 0 0] [.box 252 [.d tS s,.d tI (i:Int)]] ii ((pk s i:Int),s,(i:Int),()):=by
 refine bN (au (λh=>?_) λh=>aa ?_)
 .have h:i<s.length:=by grind
  refine aB h (aa ?_);rw[FJ h]
 grind[X2]
structure Run(s:List UInt8)(i j:Nat):Prop where
 le:i<=j
 top:j<=s.length
 all:∀k,i<=k->k<j->dg (pk s k)
theorem Ld{s:List UInt8}{i j m:Nat}{t:List UInt8}(h:Run s i j)(g:¬dg (pk s j))(b:s.drop i=decDigits m++t)(ht:¬dg (hd t)):j=i+(decDigits m).length/\(s.take j).drop i=decDigits m:=by
 have h1:∀k,i<=k->k<i+(decDigits m).length->dg (pk s k):=λk c d=>by
  have hl:k - i<(decDigits m).length:=by omega
  have e:s[k]? =some (decDigits m)[k - i]:=by
   have h2:(s.drop i)[k - i]? =s[k]? :=by rw[List.getElem?_drop];congr 1;omega
   grind
  unfold pk;rw[aD_,e];exact(xP m _ (a_ hl))
 have h2:¬dg (pk s (i+(decDigits m).length)):=by grind[kD,gQ]
 have l:j=i+(decDigits m).length:=by
  apply f_;intro hn;have:=h.le;rcases Nat.lt_or_gt_of_ne hn with f|a;.grind
  .exact h2 (h.all _ (by simp) a)
 grind
theorem VU(s:List UInt8)(hs:s.length<=1048576)(i:Nat)(d:i<=s.length):∃o:Option (Int×Nat),(∀n j,o=some (n,j)->i<j/\j<=s.length)/\(∀(m:Nat) t,s.drop i=decDigits m++t->m<=4294967295->¬dg (hd t)->o=some ((m:Int),i+(decDigits m).length))/\ei tbl 287 [.ptr 0 0] [.box 252 [.d tS s,.d tI (i:Int)]] bk (o.map λx=>(x.1,s,(x.2:Int),())):=by
 suffices h:∃v:Option (HL bk.sl),(∃o:Option (Int×Nat),v=o.map (λx=>(x.1,s,(x.2:Int),()))/\(∀n j,o=some (n,j)->i<j/\j<=s.length)/\(∀(m:Nat) t,s.drop i=decDigits m++t->m<=4294967295->¬dg (hd t)->o=some ((m:Int),i+(decDigits m).length)))/\ei tbl 287 [.ptr 0 0] [.box 252 [.d tS s,.d tI (i:Int)]] bk v by
  obtain⟨v,⟨o,rfl,h1,h2⟩,b⟩:=h
  exact⟨o,h1,h2,b⟩
 refine Ik (λ_=>rfl) (Wz bk ?_);refine ae (Ev.wp_mono (Ev.wp_loop (Q:=λt=>∃j:Nat,t=(s,(j:Int),())/\Run s i j/\¬dg (pk s j)) (λt=>∃j:Nat,t=(s,(j:Int),())/\Run s i j) (λt=>s.length - t.2.1.toNat) ⟨i,rfl,⟨t_ _,d,λk h1 h2=>absurd h2 (by omega)⟩⟩ ?_) ?_)
 .rintro t ⟨j,rfl,hr⟩;refine aj (sS s j) (au (λh=>?_) λh=>aa ⟨j,rfl,hr,?_⟩)
  .have h:(pk s j:Int)>=48:=of_decide_eq_true h;have f:=dm (s:=s) (i:=j) (by omega);refine aj (sS s j) (au (λh'=>aa ?_) λh'=>aa ⟨j,rfl,hr,?_⟩)
   .have h':(pk s j:Int)<=57:=of_decide_eq_true h';refine⟨⟨j+1,?_,⟨by have:=hr.le;omega,by omega,λk h1 h2=>?_⟩⟩,?_⟩;.grind[e_,ao]
    .by_cases e:k=j;.subst e;exact⟨by omega,by omega⟩
     .exact hr.all k h1 (by omega)
    grind[e_,ao]
   grind[pk,of_decide_eq_false,Pl.dg]
  grind[pk,of_decide_eq_false,Pl.dg]
 .rintro t ⟨j,rfl,hr,r⟩;have h1:=hr.le;have h2:=hr.top;refine ar (decide_eq_true (by simp)) (ar (decide_eq_true (by simp)) (ar ?_ ?_));.grind
  show Wp (λn=>m_ (gw (sg tbl n) 297 [.d tS ((s.take (L_ (j:Int))).drop (L_ (i:Int))),.d tI (4294967295:Int)] [] dn) _) _;rw[s_,s_];obtain⟨c,⟨l,p⟩,hc⟩:=VL ((s.take j).drop i) (by grind);refine aj (c:=c) hc (ae (au (λh=>aa ?_) λh=>aa ?_));.refine aa ⟨none,rfl,none,rfl,(λ_ _ h=>by grind),λm t a g ht=>?_⟩;grind[Ld]
  .refine aa ⟨some (c.1,s,(j:Int),()),rfl,some (c.1,j),rfl,?_,λm t a g ht=>?_⟩;all_goals grind[Ld]
def zbw(s:List UInt8)(hs:s.length<=1048576):∃num:Nat->Option (Int×Nat),o9 s num/\∀i,i<=s.length->ei tbl 287 [.ptr 0 0] [.box 252 [.d tS s,.d tI (i:Int)]] bk ((num i).map λx=>(x.1,s,(x.2:Int),())):=by
 have h:∀i:Nat,∃o:Option (Int×Nat),i<=s.length->(∀n j,o=some (n,j)->i<j/\j<=s.length)/\(∀(m:Nat) t,s.drop i=decDigits m++t->m<=4294967295->¬dg (hd t)->o=some ((m:Int),i+(decDigits m).length))/\ei tbl 287 [.ptr 0 0] [.box 252 [.d tS s,.d tI (i:Int)]] bk (o.map λx=>(x.1,s,(x.2:Int),())):=λi=>by
  by_cases a:i<=s.length
  .grind[VU]
  .exact⟨none,λh=>absurd h a⟩
 refine⟨λi=>A_ (h i),⟨λi n j a e=>?_,λi m t b c ht=>?_⟩,λi a=>?_⟩;all_goals grind[X_,C5,D8]
def Jv(s:List UInt8)(i:Nat)(c:Nat)(hc:c≠0)(hs:s.length<=1048576)(d:i<=s.length):aA tbl 244 [.ptr 0 0,.d tY (c:Int)] [.box 283 [.d tS s,.d tI (i:Int)]] dq (decide (pk s i=c),s,((if pk s i=c then i+1 else i:Nat):Int),()):=by
 refine bN (ae (bc (b:=decide (pk s i=c)) (λh=>?_) ?_))
 .have h:i<s.length:=by grind
  refine aB h (aa ?_);grind[FJ]
 .by_cases e:pk s i=c;.have a:=dm (s:=s) (i:=i) (by omega);rw[decide_eq_true e,decide_eq_true (show(i:Int)<(s.length:Int) by omega)];refine aD rfl (aa ?_);grind[ao]
  .rw[decide_eq_false e,Bool.and_false,if_neg e];exact ak rfl (aa rfl)
def Po(s:List UInt8)(hs:s.length<=1048576)(i:Nat)(y:i<=s.length):∃(v:Int) (ok:Bool) (j:Nat),(i<=j/\j<=s.length/\(ok=true->i<j))/\(∀(m:Nat) t,s.drop i=decDigits m++t->m<=4294967295->¬dg (hd t)->v=(m:Int)/\ok=true/\j=i+(decDigits m).length)/\aA tbl 299 [.ptr 0 0] [.box 283 [.d tS s,.d tI (i:Int)]] bp (v,ok,s,(j:Int),()):=by
 suffices h:∃c:HL bp.sl,(∃(v:Int) (ok:Bool) (j:Nat),c=(v,ok,s,(j:Int),())/\(i<=j/\j<=s.length/\(ok=true->i<j))/\(∀(m:Nat) t,s.drop i=decDigits m++t->m<=4294967295->¬dg (hd t)->v=(m:Int)/\ok=true/\j=i+(decDigits m).length))/\aA tbl 299 [.ptr 0 0] [.box 283 [.d tS s,.d tI (i:Int)]] bp c by
  grind
 refine PY (sh:=bp) ?_;refine ae (Ev.wp_mono (Ev.wp_loop (Q:=λr=>match r with
  | .inl t=>∃j:Nat,t=((0:Int),false,s,(j:Int),())/\(i<=j/\j<=s.length)/\∃k,Run s i k/\4294967295<lL ((s.take k).drop i)
  | .inr t=>∃j:Nat,t=((lL ((s.take j).drop i):Int),s,(j:Int),())/\Run s i j/\¬dg (pk s j))
  (λt=>∃j:Nat,t=((lL ((s.take j).drop i):Int),s,(j:Int),())/\Run s i j/\lL ((s.take j).drop i)<=4294967295) (λt=>s.length - t.2.2.1.toNat) ⟨i,?_,⟨t_ _,y,λk h1 h2=>absurd h2 (by omega)⟩,?_⟩ ?_) ?_)
 .rw[E_ (by grind)];rfl
 .rw[E_ (by grind)];exact D_ _
 .rintro t ⟨j,rfl,hr,C⟩;dsimp only;have h1:=hr.le;have h2:=hr.top;refine ae (bc (b:=decide (48<=pk s j)) (λh=>?_) ?_)
  .have h:j<s.length:=by grind
   refine aB h (aa ?_);grind[FJ]
  refine ae (bc (b:=decide (pk s j<=57)) (λh=>?_) ?_)
  .have h:j<s.length:=by grind
   refine aB h (aa ?_);grind[FJ]
  refine au (λh=>?_) λh=>aa ⟨j,rfl,hr,?_⟩
  .simp only[z_,decide_eq_true_eq]at h;obtain⟨⟨F,p⟩,u⟩:=h;have d:j<s.length:=by omega
   refine aB d ?_;have E:=FJ d;have x:e_ .i64 (e_ .u8 ((s[j].toNat:Int) - 48))=((s[j].toNat - 48:Nat):Int):=by grind[wrap_u8,wrap_i64]
   have a:Run s i (j+1):=⟨by omega,by omega,λk D I=>by
    by_cases e:k=j;.subst e;exact⟨p,u⟩
    .exact hr.all k D (by omega)⟩
   have l:lL ((s.take (j+1)).drop i)=10*lL ((s.take j).drop i)+(s[j].toNat - 48):=by grind[List.take_succ_eq_append_getElem,uS]
   have n:e_ .i64 ((e_ .i64 ((10:Int)*((lL ((s.take j).drop i):Nat):Int)))+(e_ .i64 (e_ .u8 ((s[j].toNat:Int) - (48:Int)))))=((lL ((s.take (j+1)).drop i):Nat):Int):=by grind[wrap_i64,lL]
   rw[n,ao d];refine au (λw=>aa ⟨j+1,rfl,⟨by omega,by omega⟩,j+1,a,?_⟩) λw=>aa ⟨⟨j+1,rfl,a,?_⟩,?_⟩;all_goals grind
  grind[Bool.and_eq_false_iff,decide_eq_false_iff_not,Pl.dg,pk,X2]
 .rintro(t|t) ht
  .obtain⟨j,rfl,g,k,z,C⟩:=ht;refine aa ⟨_,rfl,0,false,j,rfl,⟨g.1,g.2,λh=>by grind⟩,λm t f B ht=>?_⟩;exfalso;have A:k<=i+(decDigits m).length:=by
    apply f_;intro hn;have h2:¬dg (pk s (i+(decDigits m).length)):=by grind[kD,gQ]
    exact h2 (z.all _ (by simp) (by omega))
   grind[decDigits,List.drop_take,Jk,xQ]
  .obtain⟨j,rfl,hr,H⟩:=ht;refine aa ⟨_,rfl,((lL ((s.take j).drop i):Nat):Int),decide (i<j),j,?_,⟨hr.le,hr.top,λh=>of_decide_eq_true h⟩,λm t f B ht=>?_⟩;all_goals grind[decide,Ld,D7,xQ,decide_eq_true]
def ZB(s:List UInt8)(hs:s.length<=1048576):∃num:Nat->Option (Int×Nat),o9 s num/\∀i,i<=s.length->∃(v:Int) (ok:Bool) (j:Nat),(i<=j/\j<=s.length)/\num i=(if ok then some (v,j)else none)/\aA tbl 299 [.ptr 0 0] [.box 283 [.d tS s,.d tI (i:Int)]] bp (v,ok,s,(j:Int),()):=by
 have h:∀i:Nat,∃o:Int×Bool×Nat,i<=s.length->(i<=o.2.2/\o.2.2<=s.length/\(o.2.1=true->i<o.2.2))/\(∀(m:Nat) t,s.drop i=decDigits m++t->m<=4294967295->¬dg (hd t)->o.1=(m:Int)/\o.2.1=true/\o.2.2=i+(decDigits m).length)/\aA tbl 299 [.ptr 0 0] [.box 283 [.d tS s,.d tI (i:Int)]] bp (o.1,o.2.1,s,(o.2.2:Int),()):=λi=>by
  by_cases a:i<=s.length
  .obtain⟨v,ok,j,c⟩:=Po s hs i a;exact⟨(v,ok,j),λ_=>c⟩
  .exact⟨(0,false,0),λh=>absurd h a⟩
 refine⟨λi=>if(A_ (h i)).2.1 then some ((A_ (h i)).1,(A_ (h i)).2.2)else none,⟨λi n j a e=>?_,λi m t b f ht=>?_⟩,λi a=>?_⟩;.grind
 .grind[X_,C5,D8]
 .have d:=P_ (h i) a;grind
abbrev LA(s:List UInt8)(i:Nat):List Ob:=[.box 252 [.d tS s,.d tI (i:Int)]]
def Zr(s:List UInt8)(o:Option (Rx×Nat)):Option (Rx×List UInt8×Int×Unit):=o.map λx=>(x.1,s,(x.2:Int),())
def sL{a b:Nat}(h:((a:Int)==(b:Int))=true):a=b:=by simp at h;omega
theorem VA{a b:Nat}(h:((a:Int)==(b:Int))=false):a≠b:=by simp at h;omega
def neF{a b:Nat}(h:((a:Int) != (b:Int))=false):a=b:=by simp at h;omega
def Dt(s:List UInt8)(hs:s.length<=1048576)(i c:Nat)(hc:c≠0):ei tbl 288 [.ptr 0 0,.d tY (c:Int)] (LA s i) bS (if pk s i=c then some (s,((i+1:Nat):Int),())else none):=by
 refine na (λ_=>rfl) (Wz bS ?_);refine ae (aj (sS s i) (au (λh=>aa (aa ?_)) λh=>aa (aa ?_)));.grind
 .have h:=neF h;have a:=dm (s:=s) (i:=i) (by omega);grind[ao]
section
variable {s:List UInt8}
theorem zbV(hs:s.length<=1048576){num:Nat->Option (Int×Nat)}(hn:o9 s num)(hc:∀i,i<=s.length->ei tbl 287 [.ptr 0 0] (LA s i) bk ((num i).map λx=>(x.1,s,(x.2:Int),()))) {alt:Nat->Option (Rx×Nat)} (E:Rs s alt) (d:Nat) (A:d<=100) (z:∀i,i<=s.length->ei tbl 165 [.ptr 0 0,.d tI ((d+1:Nat):Int)] (LA s i) aJ (Zr s (alt i))) (i:Nat) (B:i<=s.length): ei tbl 263 [.ptr 0 0,.d tI (d:Int)] (LA s i) aJ (Zr s (eu num s alt i)):=by
 refine na (λ_=>rfl) (Wz aJ ?_);refine aj (sS s i) ?_;dsimp only;refine au (λh=>?_) λu=>?_;.have h:=sL (b:=46) h;have a:=dm (s:=s) (i:=i) (by omega);rw[ao a,show eu num s alt i=some (.mk 2 0 0 [],i+1) by grind[eu]];exact aa rfl
 have u:=VA (b:=46) u;refine au (λh=>?_) λg=>?_;.have h:=sL (b:=33) h;have a:=dm (s:=s) (i:=i) (by omega);rw[ao a,show eu num s alt i=some (.mk 4 0 0 [],i+1) by grind[eu]];exact aa rfl
 have g:=VA (b:=33) g;refine au (λe=>?_) λe=>?_
 .have e:=sL (b:=91) e;have a:=dm (s:=s) (i:=i) (by omega);have hp:eu num s alt i=match num (i+1)with
   |none=>none
   |some (lo,j)=>if pk s j=45 then(match num (j+1)with
    |none=>none
    |some (up,k)=>if pk s k=93 then some (.mk 1 lo up [],k+1)else none)else none:=by
   grind[eu]
  rw[ao a,hp];refine gh (hc (i+1) (by omega)) ?_;cases w:num (i+1)with
  |none=>exact aa rfl|some x=>
   obtain⟨lo,j⟩:=x;have C:=hn.qd _ _ _ (by omega) w;show Wp (λn=>m_ (qk (sg tbl n) 288 [.ptr 0 0,.d tY (45:Int)] (LA s j) bS) _) _;refine gh (Dt s hs j 45 (by simp)) ?_;by_cases p:pk s j=45
   .have f:=dm (s:=s) (i:=j) (by omega);simp only[if_pos p];show Wp (λn=>m_ (qk (sg tbl n) 287 [.ptr 0 0] (LA s (j+1)) bk) _) _;refine gh (hc (j+1) (by omega)) ?_;cases D:num (j+1)with
    |none=>exact aa rfl|some y=>
     obtain⟨up,k⟩:=y;show Wp (λn=>m_ (qk (sg tbl n) 288 [.ptr 0 0,.d tY (93:Int)] (LA s k) bS) _) _;refine gh (Dt s hs k 93 (by simp)) ?_;by_cases v:pk s k=93;.simp only[if_pos v];exact aa rfl
     .simp only[if_neg v];exact aa rfl
   .simp only[if_neg p];exact aa rfl
 have e:=VA (b:=91) e;refine au (λc=>?_) λc=>?_
 .have c:=sL (b:=40) c;have a:=dm (s:=s) (i:=i) (by omega);rw[ao a];refine aj (sS s (i+1)) ?_;dsimp only;refine au (λh=>?_) λh=>?_;.have h:=sL (b:=41) h;have f:=dm (s:=s) (i:=i+1) (by omega);rw[ao f,show eu num s alt i=some (.mk 0 0 0 [],i+2) by grind[eu]];exact aa rfl
  .have h:=VA (b:=41) h;have hp:eu num s alt i=match alt (i+1)with
    |none=>none
    |some (r,j)=>if pk s j=41 then some (r,j+1)else none:=by
    grind[eu]
   rw[hp,show e_ .i64 ((d:Int)+1)=((d+1:Nat):Int) by grind[wrap_i64]];refine gh (z (i+1) (by omega)) ?_;cases w:alt (i+1)with
   |none=>exact aa rfl|some x=>
    obtain⟨r,j⟩:=x;show Wp (λn=>m_ (qk (sg tbl n) 288 [.ptr 0 0,.d tY (41:Int)] (LA s j) bS) _) _;refine gh (Dt s hs j 41 (by simp)) ?_;by_cases l:pk s j=41;.simp only[if_pos l];refine aa ?_;rw[b8];rfl
    .simp only[if_neg l];exact aa rfl
 .have c:=VA (b:=40) c;have hp:eu num s alt i=match num i with
   |none=>none
   |some (n,j)=>some (.mk 1 n n [],j):=by
   grind[eu]
  rw[hp];refine gh (hc i B) ?_;cases w:num i with|none=>exact aa rfl|some x=>exact aa rfl
def Nx(s:List UInt8)(one:Nat->Option (Rx×Nat))(i:Nat):Option (Rx×Nat):=match one i with
 |none=>none
 |some (r,j)=>if pk s j=42 then some (.mk 5 0 0 [r],j+1)else if pk s j=43 then some (.mk 6 0 0 [r],j+1)else if pk s j=63 then some (.mk 7 0 0 [r],j+1)else some (r,j)
theorem zbX(hs:s.length<=1048576){one:Nat->Option (Rx×Nat)}(d:Nat)(c:∀i,i<=s.length->ei tbl 263 [.ptr 0 0,.d tI (d:Int)] (LA s i) aJ (Zr s (one i)))(i:Nat)(e:i<=s.length): ei tbl 232 [.ptr 0 0,.d tI (d:Int)] (LA s i) aJ (Zr s (Nx s one i)):=by
 refine na (λ_=>rfl) (Wz aJ ?_);unfold Nx;refine gh (c i e) ?_;cases g:one i with
 |none=>exact aa rfl|some x=>
  obtain⟨r,j⟩:=x;simp only;have key:∀(k:Int),j<s.length->some (gq aJ (Rx.mk k 0 0 [Rx.mk r.out.1 r.out.2.1 r.out.2.2.1 r.out.2.2.2.1],s,e_ .i64 ((j:Int)+1),()))=(Zr s (some (.mk k 0 0 [r],j+1))).map (gq aJ):=λk f=>by rw[b8,ao f];rfl
  refine ae (aj (sS s j) ?_);refine au (λh=>aa (aa ?_)) λh1=>?_;.have h:=sL (b:=42) h;rw[if_pos h];grind[dm]
  have h1:=VA (b:=42) h1;refine au (λh=>aa (aa ?_)) λh2=>?_;.have h:=sL (b:=43) h;rw[if_neg h1];grind[dm]
  have h2:=VA (b:=43) h2;refine au (λh=>aa (aa ?_)) λa=>aa (aa ?_);.have h:=sL (b:=63) h;rw[if_neg h1];grind[dm]
  .have a:=VA (b:=63) a;rw[if_neg h1,if_neg h2,if_neg a];rw[b8];rfl
theorem Pr(hs:s.length<=1048576){one:Nat->Option (Rx×Nat)}(u:Rs s one)(d:Nat)(n:∀i,i<=s.length->ei tbl 232 [.ptr 0 0,.d tI (d:Int)] (LA s i) aJ (Zr s (one i)))(i:Nat)(w:i<=s.length): ei tbl 198 [.ptr 0 0,.d tI (d:Int)] (LA s i) aJ (Zr s (sI s 32 3 one i)):=by
 refine na (λ_=>rfl) (Wz aJ ?_);unfold sI;refine gh (n i w) ?_;obtain⟨f,v⟩:∃f,s.length+1 - i=f+1:=⟨s.length - i,by omega⟩;rw[v,dZ];cases c:one i with
 |none=>exact aa rfl|some x=>
  obtain⟨r,j⟩:=x;obtain⟨y,e,_⟩:=u _ _ _ w c;simp only[W_];refine ae (Ev.wp_mono (Q:=λt=>match t with
   | .inl _=>(if pk s j=32 then dZ s 32 one f [r] (j+1)else some ([r],j))=none
   | .inr t=>∃(acc:List Rx) (k:Nat),t=(s,(k:Int),(0:Int),(0:Int),(0:Int),acc,())/\(if pk s j=32 then dZ s 32 one f [r] (j+1)else some ([r],j))=some (acc,k)) ?_ ?_)
  .generalize a:(if pk s j=32 then dZ s 32 one f [r] (j+1)else some ([r],j))=T;refine Ev.wp_loop (λt=>∃(acc:List Rx) (j f:Nat),t=(s,(j:Int),(0:Int),(0:Int),(0:Int),acc,())/\j<=s.length/\acc.length<=j/\s.length<=f+j/\(if pk s j=32 then dZ s 32 one f acc (j+1)else some (acc,j))=T) (λt=>s.length - t.2.1.toNat) ⟨[r],j,f,rfl,e,(show 1<=j by omega),by omega,a⟩ ?_;rintro t ⟨acc,j,f,rfl,z,p,v,a⟩;refine aj (sS s j) ?_;refine au (λh=>?_) λh=>aa ⟨acc,j,rfl,?_⟩;.have h:=sL (b:=32) h;have l:=dm (s:=s) (i:=j) (by omega);rw[if_pos h]at a;rw[ao l];refine gh (n (j+1) (by omega)) ?_;obtain⟨f2,rfl⟩:∃g,f=g+1:=⟨f - 1,by omega⟩;rw[dZ]at a;cases c:one (j+1)with|none=>rw[c]at a;exact aa a.symm|some x=>obtain⟨r2,k⟩:=x;obtain⟨y,e,_⟩:=u _ _ _ (by omega) c;rw[c]at a;refine ar (decide_eq_true ?_) (aa ⟨⟨acc++[r2],k,f2,rfl,e,?_,by omega,a⟩,?_⟩);all_goals grind
   grind
  rintro(t|t) ht;.rw[show _=none from ht];exact aa rfl
  .obtain⟨acc,k,rfl,a⟩:=ht;rw[a];refine au (λh=>?_) λh=>aa ?_;.have h:=sL (b:=1) h;obtain⟨x,rfl⟩:=F_.1 h;refine bX (by simp) rfl (bi rfl (aa ?_));rw[b8];rfl
   .have h:=VA (b:=1) h;simp only;rw[qz h];rfl
theorem Dn(hs:s.length<=1048576){one:Nat->Option (Rx×Nat)}(v:Rs s one)(d:Nat)(A:d<=32)(p:∀i,i<=s.length->ei tbl 198 [.ptr 0 0,.d tI (d:Int)] (LA s i) aJ (Zr s (one i)))(i:Nat)(y:i<=s.length): ei tbl 165 [.ptr 0 0,.d tI (d:Int)] (LA s i) aJ (Zr s (sI s 124 4 one i)):=by
 refine na (λ_=>rfl) (Wz aJ ?_);unfold sI;refine ae (ak (decide_eq_false (by omega)) (aa ?_));show Wp (λn=>m_ (qk (sg tbl n) 198 [.ptr 0 0,.d tI (d:Int)] (LA s i) aJ) _) _;refine gh (p i y) ?_;obtain⟨f,w⟩:∃f,s.length+1 - i=f+1:=⟨s.length - i,by omega⟩;rw[w,dZ];cases c:one i with
 |none=>exact aa rfl|some x=>
  obtain⟨r,j⟩:=x;obtain⟨z,e,_⟩:=v _ _ _ y c;simp only[W_];refine ae (Ev.wp_mono (Q:=λt=>match t with
   | .inl _=>(if pk s j=124 then dZ s 124 one f [r] (j+1)else some ([r],j))=none
   | .inr t=>∃(acc:List Rx) (k:Nat),t=(s,(k:Int),(0:Int),(0:Int),(0:Int),acc,())/\(if pk s j=124 then dZ s 124 one f [r] (j+1)else some ([r],j))=some (acc,k)) ?_ ?_)
  .generalize a:(if pk s j=124 then dZ s 124 one f [r] (j+1)else some ([r],j))=T;refine Ev.wp_loop (λt=>∃(acc:List Rx) (j f:Nat),t=(s,(j:Int),(0:Int),(0:Int),(0:Int),acc,())/\j<=s.length/\acc.length<=j/\s.length<=f+j/\(if pk s j=124 then dZ s 124 one f acc (j+1)else some (acc,j))=T) (λt=>s.length - t.2.1.toNat) ⟨[r],j,f,rfl,e,(show 1<=j by omega),by omega,a⟩ ?_;rintro t ⟨acc,j,f,rfl,B,u,w,a⟩;refine aj (sS s j) ?_;dsimp only;refine au (λh=>?_) λh=>aa ⟨acc,j,rfl,?_⟩;.have h:=sL (b:=124) h;have l:=dm (s:=s) (i:=j) (by omega);rw[if_pos h]at a;rw[ao l];refine gh (p (j+1) (by omega)) ?_;obtain⟨f2,rfl⟩:∃g,f=g+1:=⟨f - 1,by omega⟩;rw[dZ]at a;cases c:one (j+1)with|none=>rw[c]at a;exact aa a.symm|some x=>obtain⟨r2,k⟩:=x;obtain⟨z,e,_⟩:=v _ _ _ (by omega) c;rw[c]at a;refine ar (decide_eq_true ?_) (aa ⟨⟨acc++[r2],k,f2,rfl,e,?_,by omega,a⟩,?_⟩);all_goals grind
   grind
  rintro(t|t) ht;.rw[show _=none from ht];exact aa rfl
  .obtain⟨acc,k,rfl,a⟩:=ht;rw[a];refine au (λh=>?_) λh=>aa ?_;.have h:=sL (b:=1) h;obtain⟨x,rfl⟩:=F_.1 h;refine bX (by simp) rfl (bi rfl (aa ?_));rw[b8];rfl
   .have h:=VA (b:=1) h;simp only;rw[qz h];rfl
theorem Zs(i:Nat):ei tbl 165 [.ptr 0 0,.d tI (33:Int)] (LA s i) aJ none:=by refine na (λ_=>rfl) (Wz aJ ?_);exact ae (aD rfl (aa (aa rfl)))
theorem VM(hs:s.length<=1048576){num:Nat->Option (Int×Nat)}(hn:o9 s num)(hc:∀i,i<=s.length->ei tbl 287 [.ptr 0 0] (LA s i) bk ((num i).map λx=>(x.1,s,(x.2:Int),()))):
 ∀(b d:Nat),d+b=33->∀i,i<=s.length->ei tbl 165 [.ptr 0 0,.d tI (d:Int)] (LA s i) aJ (Zr s (wY num s b i))
 |0,d,h,i,_=>by
  have:d=33:=by omega
  subst this;exact Zs i
 |b+1,d,h,i,e=>by have a:=xF hn b;have h1:=zbV hs hn hc a d (by omega) (VM hs hn hc b (d+1) (by omega));have h2:=zbX hs d h1;have c:=Pr hs (td hn a) d h2;exact Dn hs (C2 (td hn a) (by simp) 3) d (by omega) c i e
end
abbrev LB(s:List UInt8)(i:Nat):List Ob:=[.box 283 [.d tS s,.d tI (i:Int)]]
def Rd(s:List UInt8)(one:Nat->Option (Rx×Nat))(C:Nat->Rx->Bool->Nat->Prop):Prop:=∀i,i<=s.length->∃(r:Rx) (ok:Bool) (j:Nat),(i<=j/\j<=s.length)/\one i=(if ok then some (r,j)else none)/\C i r ok j
section
variable {s:List UInt8}
theorem VN(hs:s.length<=1048576){num:Nat->Option (Int×Nat)}(hc:∀i,i<=s.length->∃(v:Int) (ok:Bool) (j:Nat),(i<=j/\j<=s.length)/\num i=(if ok then some (v,j)else none)/\aA tbl 299 [.ptr 0 0] (LB s i) bp (v,ok,s,(j:Int),())) {alt:Nat->Option (Rx×Nat)} (d:Nat) (U:d<=32) (T:Rd s alt λi r ok j=>aA tbl 206 [.ptr 0 0,.d tI ((d+1:Nat):Int)] (LB s i) aF (r,ok,s,(j:Int),())): Rd s (eu num s alt) λi r ok j=>aA tbl 293 [.ptr 0 0,.d tI (d:Int)] (LB s i) aF (r,ok,s,(j:Int),()):=by
 intro i H;suffices h:∃c:HL aF.sl,(∃(r:Rx) (ok:Bool) (j:Nat),c=(r,ok,s,(j:Int),())/\(i<=j/\j<=s.length)/\eu num s alt i=(if ok then some (r,j)else none))/\aA tbl 293 [.ptr 0 0,.d tI (d:Int)] (LB s i) aF c by grind
 refine PY (sh:=aF) ?_;refine ak (decide_eq_false (by omega)) ?_;have C:∀(k c:Nat),c≠0->k<=s.length->aA tbl 244 [.ptr 0 0,.d tY (c:Int)] (LB s k) dq (decide (pk s k=c),s,((if pk s k=c then k+1 else k:Nat):Int),()):=λk c L hk=>Jv s k c L hs hk;refine aj (C i 46 (by simp) H) ?_;by_cases f:pk s i=46
 .have E:=dm (s:=s) (i:=i) (by omega);refine aD (decide_eq_true f) (aa ⟨_,rfl,.mk 2 0 0 [],true,i+1,?_,⟨by simp,by omega⟩,?_⟩);.simp only[if_pos f];rfl
  grind[eu]
 refine ak (decide_eq_false f) ?_;simp only[if_neg f];refine aj (C i 33 (by simp) H) ?_;by_cases b:pk s i=33
 .have E:=dm (s:=s) (i:=i) (by omega);refine aD (decide_eq_true b) (aa ⟨_,rfl,.mk 4 0 0 [],true,i+1,?_,⟨by simp,by omega⟩,?_⟩);.simp only[if_pos b];rfl
  grind[eu]
 refine ak (decide_eq_false b) ?_;simp only[if_neg b];refine aj (C i 40 (by simp) H) ?_;by_cases g:pk s i=40
 .have E:=dm (s:=s) (i:=i) (by omega);refine aD (decide_eq_true g) ?_;simp only[if_pos g];refine aj (C (i+1) 41 (by simp) (by omega)) ?_;by_cases p:pk s (i+1)=41
  .have B:=dm (s:=s) (i:=i+1) (by omega);refine aD (decide_eq_true p) (aa ⟨_,rfl,.mk 0 0 0 [],true,i+2,?_,⟨by simp,by omega⟩,?_⟩);.simp only[if_pos p];rfl
   .unfold eu;rw[if_neg f,if_neg b,if_neg (by omega),if_pos g,if_pos p];rfl
  refine ak (decide_eq_false p) ?_;simp only[if_neg p];rw[show e_ .i64 ((d:Int)+1)=((d+1:Nat):Int) by grind[wrap_i64]];obtain⟨r,ok,j,Y,e,D⟩:=T (i+1) (by omega);have hp:eu num s alt i=match alt (i+1)with
   |none=>none
   |some (r,j)=>if pk s j=41 then some (r,j+1)else none:=by
   unfold eu
   rw[if_neg f,if_neg b,if_neg (by omega),if_pos g,if_neg p]
   all_goals rfl
  rw[e]at hp;refine aj D ?_;cases ok with
  |true=>
   refine aD rfl (aj (C j 41 (by simp) Y.2) ?_);simp only[if_true]at hp;by_cases a:pk s j=41;.have B:=dm (s:=s) (i:=j) (by omega);rw[if_pos a]at hp;refine aa ⟨_,rfl,r,true,j+1,?_,⟨by omega,by omega⟩,hp⟩;show(Rx.mk r.out.1 r.out.2.1 r.out.2.2.1 r.out.2.2.2.1,decide (pk s j=41),s,((if pk s j=41 then j+1 else j:Nat):Int),())=_;rw[b8,if_pos a,decide_eq_true a]
   .rw[if_neg a]at hp;refine aa ⟨_,rfl,r,false,j,?_,⟨by omega,by omega⟩,hp⟩;show(Rx.mk r.out.1 r.out.2.1 r.out.2.2.1 r.out.2.2.2.1,decide (pk s j=41),s,((if pk s j=41 then j+1 else j:Nat):Int),())=_;rw[b8,if_neg a,decide_eq_false a]
  |false=>refine ak rfl (aa ⟨_,rfl,r,false,j,?_,⟨by omega,by omega⟩,hp⟩);show(Rx.mk r.out.1 r.out.2.1 r.out.2.2.1 r.out.2.2.2.1,false,s,(j:Int),())=_;rw[b8]
 refine ak (decide_eq_false g) ?_;simp only[if_neg g];refine aj (C i 91 (by simp) H) ?_;by_cases u:pk s i=91
 .have E:=dm (s:=s) (i:=i) (by omega);have hp:eu num s alt i=match num (i+1)with
   |none=>none
   |some (lo,j)=>if pk s j=45 then(match num (j+1)with
    |none=>none
    |some (up,k)=>if pk s k=93 then some (.mk 1 lo up [],k+1)else none)else none:=by
   unfold eu
   rw[if_neg f,if_neg b,if_pos u]
   all_goals rfl
  refine aD (decide_eq_true u) ?_;simp only[if_pos u];obtain⟨A,z,l,N,J,I⟩:=hc (i+1) (by omega);refine aj I (aj (C l 45 (by simp) N.2) ?_);have Q:(if pk s l=45 then l+1 else l)<=s.length/\l<=(if pk s l=45 then l+1 else l):=by
   split;.have:=dm (s:=s) (i:=l) (by omega);omega
   omega
  obtain⟨F,M,w,P,O,R⟩:=hc (if pk s l=45 then l+1 else l) Q.1;refine aj R ?_;rw[J]at hp;cases z with
  |false=>exact ak rfl (aa ⟨_,rfl,.mk 1 A F [],false,w,rfl,⟨by omega,by omega⟩,hp⟩)|true=>
   simp only[if_true]at hp;refine aD rfl ?_;by_cases x:pk s l=45
   .rw[if_pos x]at hp O;refine aD (decide_eq_true x) ?_;rw[O]at hp;cases M with
    |false=>exact ak rfl (aa ⟨_,rfl,.mk 1 A F [],false,w,rfl,⟨by omega,by omega⟩,hp⟩)|true=>
     simp only[if_true]at hp;refine aD rfl (aj (C w 93 (by simp) P.2) ?_);by_cases y:pk s w=93;.have B:=dm (s:=s) (i:=w) (by omega);rw[if_pos y]at hp;refine aa ⟨_,rfl,.mk 1 A F [],true,w+1,?_,⟨by omega,by omega⟩,hp⟩;show(Rx.mk 1 A F [],decide (pk s w=93),s,((if pk s w=93 then w+1 else w:Nat):Int),())=_;rw[if_pos y,decide_eq_true y]
     .rw[if_neg y]at hp;refine aa ⟨_,rfl,.mk 1 A F [],false,w,?_,⟨by omega,by omega⟩,hp⟩;grind
   .rw[if_neg x]at hp;exact ak (decide_eq_false x) (aa ⟨_,rfl,.mk 1 A F [],false,w,rfl,⟨by omega,by omega⟩,hp⟩)
 refine ak (decide_eq_false u) ?_;simp only[if_neg u];obtain⟨A,z,l,N,J,I⟩:=hc i H;have hp:eu num s alt i=match num i with
  |none=>none
  |some (n,j)=>some (.mk 1 n n [],j):=by
  unfold eu
  rw[if_neg f,if_neg b,if_neg u,if_neg g]
  all_goals rfl
 rw[J]at hp;refine aj I (aa ⟨_,rfl,.mk 1 A A [],z,l,rfl,⟨by omega,by omega⟩,?_⟩);rw[hp];cases z<;>rfl
theorem LR(hs:s.length<=1048576){one:Nat->Option (Rx×Nat)}(d:Nat)(p:Rd s one λi r ok j=>aA tbl 293 [.ptr 0 0,.d tI (d:Int)] (LB s i) aF (r,ok,s,(j:Int),())): Rd s (Nx s one) λi r ok j=>aA tbl 273 [.ptr 0 0,.d tI (d:Int)] (LB s i) aF (r,ok,s,(j:Int),()):=by
 intro i u;suffices h:∃c:HL aF.sl,(∃(r:Rx) (ok:Bool) (j:Nat),c=(r,ok,s,(j:Int),())/\(i<=j/\j<=s.length)/\Nx s one i=(if ok then some (r,j)else none))/\aA tbl 273 [.ptr 0 0,.d tI (d:Int)] (LB s i) aF c by grind
 refine PY (sh:=aF) ?_;obtain⟨r,ok,j,f,e,a⟩:=p i u;have n:∀(k c:Nat),c≠0->k<=s.length->aA tbl 244 [.ptr 0 0,.d tY (c:Int)] (LB s k) dq (decide (pk s k=c),s,((if pk s k=c then k+1 else k:Nat):Int),()):=λk c l v=>Jv s k c l hs v;refine aj a ?_;have hp:Nx s one i=match one i with
  |none=>none
  |some (r,j)=>if pk s j=42 then some (.mk 5 0 0 [r],j+1)else if pk s j=43 then some (.mk 6 0 0 [r],j+1)else if pk s j=63 then some (.mk 7 0 0 [r],j+1)else some (r,j):=rfl
 rw[e]at hp;cases ok with
 |false=>refine ae (aD rfl (aa (aa ⟨_,rfl,r,false,j,?_,f,hp⟩)));grind[b8]|true=>
  simp only[if_true]at hp;refine ae (ak rfl ?_);refine aj (n j 42 (by simp) f.2) ?_;by_cases h1:pk s j=42;.have g:=dm (s:=s) (i:=j) (by omega);rw[if_pos h1]at hp;refine aD (decide_eq_true h1) (aa ?_);refine cD (λ_=>rfl) (⟨_,rfl,.mk 5 0 0 [r],true,j+1,?_,⟨by omega,by omega⟩,hp⟩);show(Rx.mk 5 0 0 [Rx.mk r.out.1 r.out.2.1 r.out.2.2.1 r.out.2.2.2.1],true,s,((if pk s j=42 then j+1 else j:Nat):Int),())=_;rw[b8,if_pos h1]
  rw[if_neg h1]at hp;refine ak (decide_eq_false h1) ?_;simp only[if_neg h1];refine aj (n j 43 (by simp) f.2) ?_;by_cases h2:pk s j=43;.have g:=dm (s:=s) (i:=j) (by omega);rw[if_pos h2]at hp;refine aD (decide_eq_true h2) (aa ?_);refine cD (λ_=>rfl) (⟨_,rfl,.mk 6 0 0 [r],true,j+1,?_,⟨by omega,by omega⟩,hp⟩);show(Rx.mk 6 0 0 [Rx.mk r.out.1 r.out.2.1 r.out.2.2.1 r.out.2.2.2.1],true,s,((if pk s j=43 then j+1 else j:Nat):Int),())=_;rw[b8,if_pos h2]
  rw[if_neg h2]at hp;refine ak (decide_eq_false h2) ?_;simp only[if_neg h2];refine aj (n j 63 (by simp) f.2) ?_;by_cases b:pk s j=63;.have g:=dm (s:=s) (i:=j) (by omega);rw[if_pos b]at hp;refine aD (decide_eq_true b) (aa ?_);refine cD (λ_=>rfl) (⟨_,rfl,.mk 7 0 0 [r],true,j+1,?_,⟨by omega,by omega⟩,hp⟩);show(Rx.mk 7 0 0 [Rx.mk r.out.1 r.out.2.1 r.out.2.2.1 r.out.2.2.2.1],true,s,((if pk s j=63 then j+1 else j:Nat):Int),())=_;rw[b8,if_pos b]
  rw[if_neg b]at hp;refine ak (decide_eq_false b) (aa ?_);refine cD (λ_=>rfl) (⟨_,rfl,r,true,j,?_,f,hp⟩);show(Rx.mk r.out.1 r.out.2.1 r.out.2.2.1 r.out.2.2.2.1,true,s,((if pk s j=63 then j+1 else j:Nat):Int),())=_;rw[b8,if_neg b]
theorem Rv(hs:s.length<=1048576){one:Nat->Option (Rx×Nat)}(w:Rs s one)(d:Nat)(v:Rd s one λi r ok j=>aA tbl 273 [.ptr 0 0,.d tI (d:Int)] (LB s i) aF (r,ok,s,(j:Int),())): Rd s (sI s 32 3 one) λi r ok j=>aA tbl 243 [.ptr 0 0,.d tI (d:Int)] (LB s i) aF (r,ok,s,(j:Int),()):=by
 intro i y;suffices h:∃c:HL aF.sl,(∃(r:Rx) (ok:Bool) (j:Nat),c=(r,ok,s,(j:Int),())/\(i<=j/\j<=s.length)/\sI s 32 3 one i=(if ok then some (r,j)else none))/\aA tbl 243 [.ptr 0 0,.d tI (d:Int)] (LB s i) aF c by grind
 refine PY (sh:=aF) ?_;refine ae (Ev.wp_mono (Ev.wp_loop (Q:=λt=>match t with
  | .inl t=>∃j:Nat,t=(false,s,(j:Int),(0:Int),(0:Int),(0:Int),())/\(i<=j/\j<=s.length)/\dZ s 32 one (s.length+1 - i) [] i=none
  | .inr t=>∃(acc:List Rx) (j:Nat),t=(s,(j:Int),(0:Int),(0:Int),(0:Int),acc,())/\(i<=j/\j<=s.length)/\dZ s 32 one (s.length+1 - i) [] i=some (acc,j))
  (λt=>∃(acc:List Rx) (j f:Nat),t=(s,(j:Int),(0:Int),(0:Int),(0:Int),acc,())/\i<=j/\j<=s.length/\acc.length<=j/\s.length+1<=f+j/\dZ s 32 one f acc j=dZ s 32 one (s.length+1 - i) [] i) (λt=>s.length - t.2.1.toNat)
  ⟨[],i,s.length+1 - i,rfl,t_ _,y,D_ _,by omega,rfl⟩ ?_) ?_)
 .rintro t ⟨acc,j,f,rfl,z,p,u,D,a⟩;obtain⟨r,ok,k,n,e,l⟩:=v j p;obtain⟨f2,rfl⟩:∃g,f=g+1:=⟨f - 1,by omega⟩;rw[dZ,e]at a;refine aj l ?_;cases ok with
  |false=>exact aD rfl (aa ⟨k,rfl,⟨by omega,n.2⟩,a.symm⟩)|true=>
   simp only[if_true]at a e;obtain⟨B,C,_⟩:=w _ _ _ p e;refine ak rfl (ar (decide_eq_true ?_) (aj (Jv s k 32 (by simp) hs n.2) ?_));.grind
   by_cases hp:pk s k=32
   .have A:=dm (s:=s) (i:=k) (by omega);rw[if_pos hp]at a;refine ak (by grind) (aa ⟨⟨acc++[r],k+1,f2,?_,by omega,by omega,?_,by omega,a⟩,?_⟩);.show(s,((if pk s k=32 then k+1 else k:Nat):Int),(0:Int),(0:Int),(0:Int),acc++[Rx.mk r.out.1 r.out.2.1 r.out.2.2.1 r.out.2.2.2.1],())=_;rw[b8,if_pos hp]
    all_goals grind
   .rw[if_neg hp]at a;refine aD (by grind) (aa ⟨acc++[r],k,?_,⟨by omega,n.2⟩,a.symm⟩);show(s,((if pk s k=32 then k+1 else k:Nat):Int),(0:Int),(0:Int),(0:Int),acc++[Rx.mk r.out.1 r.out.2.1 r.out.2.2.1 r.out.2.2.2.1],())=_;rw[b8,if_neg hp]
 .unfold sI;rintro(t|t) ht;.obtain⟨j,rfl,p,a⟩:=ht;rw[a];exact aa ⟨_,rfl,.mk 0 0 0 [],false,j,rfl,p,rfl⟩
  .obtain⟨acc,k,rfl,n,a⟩:=ht;rw[a];refine au (λh=>?_) λh=>aa ⟨_,rfl,.mk 3 0 0 acc,true,k,rfl,n,?_⟩;.have h:=sL (b:=1) h;obtain⟨x,rfl⟩:=F_.1 h;refine bX (by simp) rfl (bi rfl (aa ⟨_,rfl,x,true,k,?_,n,rfl⟩));rw[b8]
   grind[VA,qz]
theorem Rt(hs:s.length<=1048576){one:Nat->Option (Rx×Nat)}(w:Rs s one)(d:Nat)(v:Rd s one λi r ok j=>aA tbl 243 [.ptr 0 0,.d tI (d:Int)] (LB s i) aF (r,ok,s,(j:Int),())): Rd s (sI s 124 4 one) λi r ok j=>aA tbl 206 [.ptr 0 0,.d tI (d:Int)] (LB s i) aF (r,ok,s,(j:Int),()):=by
 intro i y;suffices h:∃c:HL aF.sl,(∃(r:Rx) (ok:Bool) (j:Nat),c=(r,ok,s,(j:Int),())/\(i<=j/\j<=s.length)/\sI s 124 4 one i=(if ok then some (r,j)else none))/\aA tbl 206 [.ptr 0 0,.d tI (d:Int)] (LB s i) aF c by grind
 refine PY (sh:=aF) ?_;refine ae (Ev.wp_mono (Ev.wp_loop (Q:=λt=>match t with
  | .inl t=>∃j:Nat,t=(false,s,(j:Int),(0:Int),(0:Int),(0:Int),())/\(i<=j/\j<=s.length)/\dZ s 124 one (s.length+1 - i) [] i=none
  | .inr t=>∃(acc:List Rx) (j:Nat),t=(s,(j:Int),(0:Int),(0:Int),(0:Int),acc,())/\(i<=j/\j<=s.length)/\dZ s 124 one (s.length+1 - i) [] i=some (acc,j))
  (λt=>∃(acc:List Rx) (j f:Nat),t=(s,(j:Int),(0:Int),(0:Int),(0:Int),acc,())/\i<=j/\j<=s.length/\acc.length<=j/\s.length+1<=f+j/\dZ s 124 one f acc j=dZ s 124 one (s.length+1 - i) [] i) (λt=>s.length - t.2.1.toNat)
  ⟨[],i,s.length+1 - i,rfl,t_ _,y,D_ _,by omega,rfl⟩ ?_) ?_)
 .rintro t ⟨acc,j,f,rfl,z,p,u,D,a⟩;obtain⟨r,ok,k,n,e,l⟩:=v j p;obtain⟨f2,rfl⟩:∃g,f=g+1:=⟨f - 1,by omega⟩;rw[dZ,e]at a;refine aj l ?_;cases ok with
  |false=>exact aD rfl (aa ⟨k,rfl,⟨by omega,n.2⟩,a.symm⟩)|true=>
   simp only[if_true]at a e;obtain⟨B,C,_⟩:=w _ _ _ p e;refine ak rfl (ar (decide_eq_true ?_) (aj (Jv s k 124 (by simp) hs n.2) ?_));.grind
   by_cases hp:pk s k=124
   .have A:=dm (s:=s) (i:=k) (by omega);rw[if_pos hp]at a;refine ak (by grind) (aa ⟨⟨acc++[r],k+1,f2,?_,by omega,by omega,?_,by omega,a⟩,?_⟩);.show(s,((if pk s k=124 then k+1 else k:Nat):Int),(0:Int),(0:Int),(0:Int),acc++[Rx.mk r.out.1 r.out.2.1 r.out.2.2.1 r.out.2.2.2.1],())=_;rw[b8,if_pos hp]
    all_goals grind
   .rw[if_neg hp]at a;refine aD (by grind) (aa ⟨acc++[r],k,?_,⟨by omega,n.2⟩,a.symm⟩);show(s,((if pk s k=124 then k+1 else k:Nat):Int),(0:Int),(0:Int),(0:Int),acc++[Rx.mk r.out.1 r.out.2.1 r.out.2.2.1 r.out.2.2.2.1],())=_;rw[b8,if_neg hp]
 .unfold sI;rintro(t|t) ht;.obtain⟨j,rfl,p,a⟩:=ht;rw[a];exact aa ⟨_,rfl,.mk 0 0 0 [],false,j,rfl,p,rfl⟩
  .obtain⟨acc,k,rfl,n,a⟩:=ht;rw[a];refine au (λh=>?_) λh=>aa ⟨_,rfl,.mk 4 0 0 acc,true,k,rfl,n,?_⟩;.have h:=sL (b:=1) h;obtain⟨x,rfl⟩:=F_.1 h;refine bX (by simp) rfl (bi rfl (aa ⟨_,rfl,x,true,k,?_,n,rfl⟩));rw[b8]
   grind[VA,qz]
theorem VO:Rd s (λ_=>none) λi r ok j=>aA tbl 293 [.ptr 0 0,.d tI ((33:Nat):Int)] (LB s i) aF (r,ok,s,(j:Int),()):=by intro i a;refine⟨.mk 0 0 0 [],false,i,⟨t_ _,a⟩,rfl,(bN ?_)⟩;exact aD rfl (aa rfl)
theorem MA:Rs s λ_=>none:=λ_ _ _ _ h=>by cases h
theorem Rd.imp{one E:Nat->Option (Rx×Nat)}{C:Nat->Rx->Bool->Nat->Prop}(h:Rd s one C)(J:∀i,i<=s.length->one i=E i):Rd s E C:=λi H=>by obtain⟨r,ok,j,h1,h2,I⟩:=h i H;grind
theorem Np(p:Nat)(k:Int)(i:Nat)(b:i<=s.length):sI s p k (λ_=>none) i=none:=by obtain⟨f,a⟩:∃f,s.length+1 - i=f+1:=⟨s.length - i,by omega⟩;grind[sI,dZ]
theorem LJ(hs:s.length<=1048576){num:Nat->Option (Int×Nat)}(hn:o9 s num)(hc:∀i,i<=s.length->∃(v:Int) (ok:Bool) (j:Nat),(i<=j/\j<=s.length)/\num i=(if ok then some (v,j)else none)/\
 aA tbl 299 [.ptr 0 0] (LB s i) bp (v,ok,s,(j:Int),())):
 ∀(b d:Nat),d+b=33->Rd s (wY num s b) λi r ok j=>aA tbl 206 [.ptr 0 0,.d tI (d:Int)] (LB s i) aF (r,ok,s,(j:Int),())
 |0,d,h=>by
  have:d=33:=by omega
  subst this;have h2:=LR hs 33 VO;have a:Rd s (λ_=>none) _:=h2.imp λi _=>rfl;have c:=Rv hs MA 33 a;have e:Rd s (λ_=>none) _:=c.imp λi f=>Np 32 3 i f;exact(Rt hs MA 33 e).imp λi f=>Np 124 4 i f
 |b+1,d,h=>by have g:=xF hn b;have h1:=VN hs hc d (by omega) (LJ hs hn hc b (d+1) (by omega));have h2:=LR hs d h1;have c:=Rv hs (td hn g) d h2;exact Rt hs (C2 (td hn g) (by simp) 3) d c
end
def ju(s:List UInt8)(c:Rx×Int×Unit):Prop:=(∃r,fG r=0/\pat r=s/\c=(r,0,()))\/((∀r,fG r=0->pat r≠s)/\c=(.mk 0 0 0 [],2,()))
theorem uT{r:Rx}(h:fG r=0):cN r=true/\sz r<=64/\LC r<=16:=by obtain⟨h1,h2⟩:=ql h;have:=zac r 1 0 h;grind
def tT{num:Nat->Option (Int×Nat)}{s:List UInt8}(hn:o9 s num){b:Nat}(a:16<=b){r:Rx}(h:fG r=0)(hp:pat r=s):wY num s b 0=some (r,s.length):=by grind[uT,U1]
def ju.Yh{s:List UInt8}(hs:s.length<=1048576){c E:Rx×Int×Unit}(h:ju s c)(h':ju s E):c=E:=by
 obtain⟨num,hn,_⟩:=zbw s hs;rcases h with⟨r,h1,h2,rfl⟩|⟨h1,rfl⟩<;>rcases h' with⟨N,H,J,rfl⟩|⟨H,rfl⟩;.have I:=tT hn (b:=16) (by simp) h1 h2;rw[tT hn (by simp) H J]at I;grind
 all_goals grind
theorem XY:∀(r:Rx),cN r=true->sz r<=1000->XX r:=by
 refine fg λk lo up ks c b hs=>?_;obtain⟨nd,a⟩:=eF.1 b;have hl:=zp ks;simp only[sz]at hs;have h1:lo=0/\up=0\/0<=lo/\lo<=up/\up<=4294967295:=by
  by_cases e:k=1;.exact .inr (nd.za e)
  .exact .inl (nd.zero e)
 have d:=nd.known;have f:IntKind.i64.min= -9223372036854775808:=rfl;have g:IntKind.i64.max=9223372036854775807:=rfl;refine⟨⟨by omega,by omega⟩,⟨by omega,by omega⟩,⟨by omega,by omega⟩,af_ (show ks.length<=1000 by omega) (by decide),(AU ks).2 λr hr=>c r hr (a r hr) (by have:=m7 hr;omega)⟩
theorem ju.ok{s:List UInt8}{c:Rx×Int×Unit}(h:ju s c):XX c.1:=by
 rcases h with⟨r,h1,_,rfl⟩|⟨_,rfl⟩;.grind[uT,XY]
 .exact⟨by decide,by decide,by decide,by simp,trivial⟩
def pL(s:List UInt8)(hs:s.length<=1048576):∃c:Rx×Int×Unit,ju s c/\aA tbl 99 [.d tS s] [] bR c:=by
 obtain⟨num,hn,hc⟩:=zbw s hs;refine xK (sh:=bR) (λ_=>rfl) (WE H3 rfl (λO n=>xpZ (GX O n s)) (gh (VM hs hn hc 33 0 rfl 0 (D_ _)) ?_));cases e:wY num s 33 0 with
 |none=>refine aa ⟨_,rfl,.inr ⟨λr hr hp=>?_,rfl⟩⟩;rw[tT hn (by simp) hr hp]at e;grind|some x=>
  obtain⟨r,j⟩:=x;obtain⟨f,g,k⟩:=xF hn 33 0 r j (D_ _) e;have d:∀a,fG a=0->pat a=s->a=r:=λa h1 h2=>by rw[tT hn (by simp) h1 h2]at e;grind
  show Wp (λn=>m_ (m_ (gw (sg tbl n) 166 [.d .rx (Rx.mk r.out.1 r.out.2.1 r.out.2.2.1 r.out.2.2.2.1)] [] gJ) _) _) _;rw[b8];refine ae (aj (GQ r (by omega)) (ae (bf (b:= !(pat r==s)) (λh=>aa ?_) ?_)));.grind
  .refine au (λh=>aa (aa ⟨_,rfl,.inr ⟨λa h1 h2=>?_,rfl⟩⟩)) λh=>aa (aa ⟨_,rfl,.inl ⟨r,?_,?_,?_⟩⟩);.grind
   all_goals grind[b8]
def pJ(s:List UInt8)(hs:s.length<=1048576):∃c:Rx×Int×Unit,ju s c/\aA tbl 170 [.d tS s] [] bR c:=by
 obtain⟨num,hn,hc⟩:=ZB s hs;refine PY (sh:=bR) ?_;obtain⟨r,ok,j,n,e,a⟩:=LJ hs hn hc 32 1 rfl 0 (D_ _);refine aj a ?_;have f:∀d,fG d=0->pat d=s->d=r/\ok=true/\j=s.length:=λd h1 h2=>by rw[tT hn (by simp) h1 h2]at e;grind
 refine ae (bf (b:=decide (j<s.length)) (λ_=>aa ?_) ?_);.simp
 rw[b8];have l:ok=true->sz r<=1048576:=λh=>by rw[h]at e;have:=xF hn 32 0 r j (D_ _) e;omega
 refine ae (bf (b:=(fG r != 0)) (λh=>?_) ?_)
 .have g:ok=true:=by grind
  exact aj (GF r (l g)) (aa rfl)
 refine ae (bf (b:= !(pat r==s)) (λh=>?_) ?_)
 .have k:fG r=0:=by grind
  obtain⟨h1,h2,_⟩:=uT k;exact aj (Ca r h1 (by omega)) (aa rfl)
 refine au (λh=>aa ⟨_,rfl,.inr ⟨λd h1 h2=>?_,rfl⟩⟩) λh=>aa ⟨_,rfl,.inl ⟨r,?_,?_,rfl⟩⟩;all_goals grind
set_option maxRecDepth 100000
open Go Go.Av Go.Ev Go.Pl
def qN{b β:Type}{m:Option b}{a:b}{f:Nat->b->Option β}{Q:β->Prop}(h:m=some a)(k:Wp (λn=>f n a) Q):Wp (λn=>m_ m (f n)) Q:=by grind
open Classical in
noncomputable def dH(s:List UInt8):Int:=if ∃r,fG r=0/\pat r=s then 0 else 2
def SP{s:List UInt8}{c:Rx×Int×Unit}(h:ju s c):c.2.1=dH s:=by
 unfold dH;rcases h with⟨r,h1,h2,rfl⟩|⟨h1,rfl⟩;.rw[if_pos ⟨r,h1,h2⟩]
 grind
def jt{N:Nat}(s:List UInt8)(hs:s.length<=9223372036854775807)(d:N=197\/N=171:=by decide):aA tbl N [.d tS s] [] ap (jX s,()):=by
 rcases d with rfl|rfl;all_goals
  refine bN ?_;refine ae (kL (xs:=s) (P:=λc=>Fu c=true) (e:=(false,())) (g:=()) (λi a=>?_) ?_ (λh=>?_) λh=>?_);.refine aO a (aB a ?_);refine ae (bc (b:=decide ((s[i].toNat:Int)<=122)) (λ_=>aa rfl) ?_);refine ae (bf (b:=decide ((s[i].toNat:Int)>=65)&&decide ((s[i].toNat:Int)<=90)) (λ_=>ae (bc (b:=decide ((s[i].toNat:Int)<=90)) (λ_=>aa rfl) (aa rfl))) ?_);refine ae (bf (b:=decide ((s[i].toNat:Int)>=48)&&decide ((s[i].toNat:Int)<=57)) (λ_=>ae (bc (b:=decide ((s[i].toNat:Int)<=57)) (λ_=>aa rfl) (aa rfl))) ?_);refine ae (bf (b:=((s[i].toNat:Int)==45)) (λ_=>aa rfl) (ev ?_ (by rw[ao a hs])));show(!Fu s[i])=true↔_;cases Fu s[i]<;>simp
  .exact aH (aa rfl)
  .refine ae (bc (b:=decide ((s.length:Int)<=32)) (λ_=>aa rfl) (aa ?_));have e:jX s=(decide ((s.length:Int)>=1)&&decide ((s.length:Int)<=32)):=by unfold jX;rw[aA_.2 h,ar_];congr 1<;>exact decide_eq_decide.2 (by omega)
   rw[e]
  .refine aa ?_;have e:jX s=false:=by
    unfold jX;cases e:s.all Fu;.rfl
    .exact absurd (aA_.1 e) h
   rw[e]
def ka(l:List (List UInt8))(i:Nat)(f:i<l.length)(hl:l.length<=9223372036854775807)(hs:l[i].length<=9223372036854775807): aA tbl 163 [.d (.list tS) ((l.take (L_ (i:Int))).drop 0),.d tS l[i]] [] aw (kP l i,()):=by
 refine bN ?_;rw[aI_,s_];have d:kP l i=if jX l[i]=false then 1 else if 0<i/\tR l[i] (l.getD (i - 1) [])=true then 16 else 0:=by grind[kP]
 have a:(l.take i).length=i:=by grind
 refine aj (jt l[i] hs) (au (λh=>aa ?_) λh=>?_);.grind
 refine ae (bc (b:=tR l[i] (l.getD (i - 1) [])) (λc=>?_) (au (λh=>aa ?_) λh=>aa ?_))
 .rw[a]at c⊢;have e:e_ .i64 ((i:Int) - 1)=((i - 1:Nat):Int):=by grind[wrap_i64]
  rw[e];refine m8 ?_ (aa rfl);grind
 all_goals grind
abbrev yN:Ty:=pr [.list tS,.list tS,.list tS,.list tS]
def dB(s:PS):yN.den:=(s.1.map (·.1),s.2.1.map (·.1),s.2.2.1.map (·.1),s.2.2.2.1.map (·.1),())
def uQ{a β:Type}{f:a->β}{l:List a}{i:Nat}(b:i<l.length):(l.take i).map f++[f l[i]]=(l.take (i+1)).map f:=by grind[List.take_append_getElem]
def Dv(s:PS)(h1:s.1.length<=1048576)(h2:s.2.1.length<=1048576)(c:s.2.2.1.length<=1048576)(d:s.2.2.2.1.length<=1048576):aA tbl 89 [.d yS s] [] oa (dB s,()):=by
 refine bN ?_;have hg:∀{b:Type} {l:List b} {f:b->List UInt8} {i:Nat},i<l.length->l.length<=1048576->decide ((((l.take i).map f).length+1)*16<=140737488355328)=true:=fun{b l f i} a hl=>by grind
 refine ae (aI (N:=s.1.length) (I:=λi t=>t=((i:Int),(s.1.take i).map (·.1),())) rfl (λi t a ht=>?_) λt ht=>?_);.subst ht;refine aO a (aB a (ar rfl (ar (hg a h1) (ar rfl (aa ?_)))));rw[ao a,uQ (f:=λx:Zm=>x.1) a]
 subst ht;refine aH (aa ?_);rw[l_ (t_ _)];refine ae (aI (N:=s.2.1.length) (I:=λi t=>t=((i:Int),s.1.map (·.1),(s.2.1.take i).map (·.1),())) rfl (λi t a ht=>?_) λt ht=>?_);.subst ht;refine aO a (aB a (ar rfl (ar (hg a h2) (ar rfl (aa ?_)))));rw[ao a,uQ (f:=λx:Zl=>x.1) a]
 subst ht;refine aH (aa ?_);rw[l_ (t_ _)];refine ae (aI (N:=s.2.2.1.length) (I:=λi t=>t=((i:Int),s.1.map (·.1),s.2.1.map (·.1),(s.2.2.1.take i).map (·.1),())) rfl (λi t a ht=>?_) λt ht=>?_);.subst ht;refine aO a (aB a (ar rfl (ar (hg a c) (ar rfl (aa ?_)))));rw[ao a,uQ (f:=λx:Zi=>x.1) a]
 subst ht;refine aH (aa ?_);rw[l_ (t_ _)];refine ae (aI (N:=s.2.2.2.1.length) (I:=λi t=>t=((i:Int),s.1.map (·.1),s.2.1.map (·.1),s.2.2.1.map (·.1),(s.2.2.2.1.take i).map (·.1),())) rfl (λi t a ht=>?_) λt ht=>?_);.subst ht;refine aO a (aB a (ar rfl (ar (hg a d) (ar rfl (aa ?_)))));rw[ao a,uQ (f:=λx:sr=>x.1) a]
 subst ht;refine aH (aa (aa ?_));rw[l_ (t_ _)];rfl
def cE(n a b:Int):aA tbl 167 [.d tI n,.d tI a,.d tI b] [] ap (decide (a<=n)&&decide (n<=b),()):=by refine bN ?_;exact ae (bc (λ_=>aa rfl) (aa rfl))
def j9(l:List (List UInt8))(n:List UInt8)(hl:l.length<=9223372036854775807):aA tbl 236 [.d (.list tS) l,.d tS n] [] ap (l.any (·==n),()):=by
 refine bN (ae (zw (xs:=l) (p:=(·==n)) (g:=λ_=>(true,())) (e:=()) (λi r c=>?_) ?_ ?_))
 .have a:=(i_.1 c).1;refine aO a (m8 c (au (λh=>aa ?_) λh=>aa ?_));.grind
  .rw[if_neg (by grind),ao a hl]
 .exact aH (aa rfl)
 .cases e:l.find? (·==n)with
  |some r=>have b:l.any (·==n)=true:=aB_.2 ⟨r,List.mem_of_find?_eq_some e,List.find?_some (p:=(·==n)) e⟩;rw[b];exact aa rfl|none=>
   have b:l.any (·==n)=false:=by grind
   rw[b];exact aa rfl
def qE(k N a pl:Int)(nm:List UInt8)(nt:Bool):(true ^^ hZ yM (k,nm,N,(a,pl,()),nt,()) (k,nm,0,(0,0,()),nt,()))=true↔(N≠0\/a≠0\/pl≠0):=by simp[hZ]
def XB(k N a pl:Int)(nm:List UInt8)(nt:Bool):(true ^^ hZ yM (k,nm,N,(a,pl,()),nt,()) (k,[],N,(0,0,()),nt,()))=true↔(nm≠[]\/a≠0\/pl≠0):=by simp[hZ]
theorem XA(k N a pl:Int)(nm:List UInt8)(nt:Bool):(true ^^ hZ yM (k,nm,N,(a,pl,()),nt,()) (k,[],0,(a,pl,()),nt,()))=true↔(nm≠[]\/N≠0):=by simp[hZ]
def mg{b:Bool}{P:Prop}(h:b=false)(e:b=true↔P):¬P:=λp=>by rw[e.2 p]at h;cases h
def uW(s:PS)(m:oJ)(hs:okD yS s)(D:iF m.2.2.2.1.1):aA tbl 202 [.d yN (dB s),.d yM m] [] aw (iw s m,()):=by
 obtain⟨k,nm,N,⟨f,pl,⟨⟩⟩,nt,⟨⟩⟩:=m;refine bN ?_;refine ae (ae ?_);have g:(s.1.map (·.1)).length<=9223372036854775807:=by rw[g_];exact hs.1.1
 have j:(s.2.1.map (·.1)).length<=9223372036854775807:=by rw[g_];exact hs.2.1.1
 have l:(s.2.2.1.map (·.1)).length<=9223372036854775807:=by rw[g_];exact hs.2.2.1.1
 by_cases h1:k=1
 .subst h1;rw[jF (.inl rfl)];have c:(s.1.map (·.1)).any (·==nm)=yq s 1 nm:=by rw[av_];rfl
  refine aD rfl (aa (aD rfl (au (λh=>aa (aa ?_)) λh=>?_)));.rw[if_pos ((qE _ _ _ _ _ _).1 h)]
  .rw[if_neg (mg h (qE _ _ _ _ _ _))];refine qN (a:=s.1.map (·.1)) rfl (aj (j9 _ nm g) ?_);rw[c];refine au (λh=>aa (aa ?_)) λh=>aa (aa ?_);all_goals grind
 by_cases h2:k=2
 .subst h2;rw[jF (.inr (.inl rfl))];have c:(s.2.1.map (·.1)).any (·==nm)=yq s 2 nm:=by rw[av_];rfl
  refine ak rfl (aD rfl (aa (aD rfl (au (λh=>aa (aa ?_)) λh=>?_))));.rw[if_pos ((qE _ _ _ _ _ _).1 h)]
  .rw[if_neg (mg h (qE _ _ _ _ _ _))];refine qN (a:=s.2.1.map (·.1)) rfl (aj (j9 _ nm j) ?_);rw[c];refine au (λh=>aa (aa ?_)) λh=>aa (aa ?_);all_goals grind
 by_cases r:k=3
 .subst r;rw[jF (.inr (.inr rfl))];have c:(s.2.2.1.map (·.1)).any (·==nm)=yq s 3 nm:=by rw[av_];rfl
  refine ak rfl (ak rfl (aa (aD rfl (au (λh=>aa (aa ?_)) λh=>?_))));.rw[if_pos ((qE _ _ _ _ _ _).1 h)]
  .rw[if_neg (mg h (qE _ _ _ _ _ _))];refine qN (a:=s.2.2.1.map (·.1)) rfl (aj (j9 _ nm l) ?_);rw[c];refine au (λh=>aa (aa ?_)) λh=>aa (aa ?_);all_goals grind
 refine ak (beq_eq_false_iff_ne.2 h1) (ak (beq_eq_false_iff_ne.2 h2) (aa (ak (beq_eq_false_iff_ne.2 r) ?_)));by_cases y:k=7
 .subst y;rw[Fo];refine aD rfl (ae (bf (b:= !ik (f,pl,())) (λ_=>aj (bV (f,pl,()) D) (aa rfl)) ?_));refine au (λh=>aa (aa ?_)) λh=>aa (aa ?_)
  .by_cases e:nm≠[]\/N≠0;.grind
   .rw[if_neg e,if_neg];intro h';rcases Bool.or_eq_true_iff.1 h with h|h;all_goals grind[XA]
  .simp only[x_]at h;rw[if_neg (mg h.1 (XA _ _ _ _ _ _)),if_pos (by grind)]
 refine ak (beq_eq_false_iff_ne.2 y) ?_;have num:∀lo d:Int,(k=4\/k=5\/k=6\/k=8)->Xo k=lo->IC k=d->Wp (λn=>
  bif (true ^^ hZ yM (k,nm,N,(f,pl,()),nt,()) (k,([]:List UInt8),N,((0:Int),(0:Int),()),nt,()))then qc aw ((1:Int),())else
  m_ (gw (sg tbl n) 167 [.d tI N,.d tI lo,.d tI d] [] ap) λp=>
  bif (!p.1)then qc aw ((5:Int),())else qc aw ((0:Int),()))
  (λx=>x=some (gq aw (iw s (k,nm,N,(f,pl,()),nt,()),()))):=λlo d C A B=>by
  rw[Fp C,A,B]
  refine au (λh=>aa ?_) λh=>?_
  .rw[if_pos ((XB _ _ _ _ _ _).1 h)]
  .rw[if_neg (mg h (XB _ _ _ _ _ _))];refine aj (cE N lo d) (au (λh=>aa ?_) λh=>aa ?_);all_goals grind
 by_cases u:k=4;.subst u;exact aD rfl (aa (num 1 7 (by simp) rfl rfl))
 by_cases w:k=6;.subst w;exact ak rfl (aD rfl (aa (num 0 16777216 (by simp) rfl rfl)))
 by_cases z:k=8;.subst z;exact ak rfl (ak rfl (aD rfl (aa (num 0 2000 (by simp) rfl rfl))))
 by_cases v:k=5;.subst v;exact ak rfl (ak rfl (ak rfl (aD rfl (aa (num 0 4294967295 (by simp) rfl rfl)))))
 refine ak (beq_eq_false_iff_ne.2 u) (ak (beq_eq_false_iff_ne.2 w) (ak (beq_eq_false_iff_ne.2 z) (ak (beq_eq_false_iff_ne.2 v) (aa (aa ?_)))));grind[Fl]
set_option maxRecDepth 100000
theorem Fv{a b:j7}:(true ^^ hZ yA a b)=true↔¬a=b:=by rw[<-R6];cases hZ yA a b<;>simp
def sU(a:j7):aA tbl 203 [.d yA a] [] aw (eP a,()):=by
 refine bN ?_;refine ae (ae ?_);by_cases s:a.1<1\/8<a.1;.have g:∀k:Int,1<=k->k<=8->(a.1==k)=false:=λk h1 h2=>beq_eq_false_iff_ne.2 (by omega);refine ak (g 1 (by simp) (by simp)) (ak (g 2 (by simp) (by simp)) (aa (ak (g 4 (by simp) (by simp)) (ak (g 3 (by simp) (by simp)) (ak (g 5 (by simp) (by simp)) ?_)))));refine ae (ak (g 6 (by simp) (by simp)) (aa (ak (g 7 (by simp) (by simp)) (ak (g 8 (by simp) (by simp)) (aa (aa ?_))))));rw[show eP a=15 from if_pos s]
 have fin:∀(only:j7) (f:Bool),kC a=only->jk a=f->Wp (λ_=>bif (true ^^ hZ yA a only)then qc aw ((1:Int),())else bif (!f)then qc aw ((5:Int),())else qc aw ((0:Int),())) (λx=>x=some (gq aw (eP a,()))):=λonly f h1 h2=>by
  have e:eP a=if ¬a=only then 1 else if f=false then 5 else 0:=by grind[eP]
  rw[e]
  refine au (λh=>aa ?_) λh=>au (λh'=>aa ?_) λh'=>aa ?_
  .rw[if_pos (Fv.1 h)]
  .rw[if_neg (λx=>by grind[Fv]),if_pos (by grind)]
  .rw[if_neg (λx=>by grind[Fv]),if_neg (by grind)]
 have d:∀{k:Int},a.1≠k->(a.1==k)=false:=λh=>beq_eq_false_iff_ne.2 h;have c:∀{k:Int},a.1=k->(a.1==k)=true:=λh=>beq_iff_eq.2 h;by_cases h1:a.1=1;.refine aD (c h1) (aa (aD (c h1) (aj (cE a.2.1 0 4294967295) (aa (fin _ _ ?_ ?_)))));all_goals grind[kC,jk]
 refine ak (d h1) ?_;by_cases h2:a.1=2;.refine aD (c h2) (aa (aD (c h2) (aj (cE a.2.1 0 4294967295) (aa (fin _ _ ?_ ?_)))));all_goals grind[kC,jk]
 refine ak (d h2) (aa ?_);by_cases n:a.1=4;.refine aD (c n) (aj (cE a.2.1 0 4294967295) (aa (fin _ _ ?_ ?_)));all_goals grind[kC,jk]
 refine ak (d n) ?_;by_cases l:a.1=3;.refine aD (c l) (aj (cE a.2.1 0 16777216) (aa (fin _ _ ?_ ?_)));all_goals grind[kC,jk]
 refine ak (d l) ?_;by_cases p:a.1=5;.refine aD (c p) (aa (fin _ _ ?_ ?_));all_goals grind[kC,jk]
 refine ak (d p) (ae ?_);by_cases j:a.1=6;.refine aD (c j) (aa (aD (c j) (aa (fin _ _ ?_ ?_))));all_goals grind[kC,jk]
 refine ak (d j) (aa ?_);by_cases r:a.1=7;.refine aD (c r) (aa (fin _ _ ?_ ?_));all_goals grind[kC,jk]
 refine ak (d r) (aD (c (by omega)) (aj (cE a.2.2.1 1 4294967295) ?_));refine ae (bc (b:=decide (1<=a.2.1)&&decide (a.2.1<=16)) (λ_=>aj (cE a.2.1 1 16) (aa rfl)) (aa (fin _ _ ?_ ?_)));all_goals grind[kC,jk]
def qP(r:Tv):aA tbl 103 [.d yC r] [] aw (gE r,()):=by
 refine bN ?_;refine aj (cE r.2.1 (-1) 65535) (ae (bf (λ_=>aj (cE r.2.2.1 (-1) 65535) (aa rfl)) (au (λh=>aa ?_) λh=>aa ?_)));.rw[show gE r=5 from if_pos (by grind)]
 .rw[show gE r=0 from if_neg (by grind)]
def xD{a:Type}{p:a->Bool}{l:List a}:l.any p=(l.find? p).isSome:=by grind
def vW(s:PS)(hs:okD yS s)(a:List jd)(t:jd)(n:a.length<=9223372036854775807)(ht:okD yT t):aA tbl 168 [.d yN (dB s),.d (.list yT) a,.d yT t] [] aw (gu s a t,()):=by
 refine bN ?_;refine aj (jt t.1 ht.1) (au (λh=>aa ?_) λh=>?_);.rw[show gu s a t=1 from if_pos (by grind)]
 have hn:¬jX t.1=false:=by grind
 refine ae (zw (xs:=a) (p:=(·.1==t.1)) (g:=λ_=>((7:Int),())) (e:=()) (λi r b=>?_) ?_ ?_)
 .have d:=(i_.1 b).1;refine aO d (m8 b (au (λh=>aa ?_) λh=>aa ?_));.grind
  .rw[if_neg (by grind),ao d n]
 .exact aH (aa rfl)
 have c:a.any (·.1==t.1)=(a.find? (·.1==t.1)).isSome:=xD;cases e:a.find? (·.1==t.1)with
 |some r=>rw[e]at c;refine aa ?_;grind[gu]|none=>
  rw[e]at c;have v:¬a.any (·.1==t.1)=true:=by grind
  refine au (λh=>aa ?_) λh=>?_;.rw[show gu s a t=4 from by unfold gu;grind]
  have h1:¬t.2.1.length>64:=by grind
  refine ae (iu (l:=t.2.1) (f:=iw s) (enc:=λi=>((i:Int),())) (oB:=λe=>(e,())) (oE:=()) (λi b=>?_) ?_ ?_)
  .refine aO b (aB b (aj (uW s _ hs ((λm u=>((ht.2.1.2 m u).2.2.2.1).1) _ (a_ b))) (au (λh=>aa ?_) λh=>aa ?_)));.grind
   .rw[if_pos (by grind),ao b]
  .exact aH (aa rfl)
  by_cases j:bz (iw s) t.2.1=0
  .rw[if_pos j];refine au (λh=>aa ?_) λh=>?_;.rw[show gu s a t=4 from by unfold gu;grind]
   have h2:¬t.2.2.1.length>64:=by grind
   refine ae (iu (l:=t.2.2.1) (f:=eP) (enc:=λi=>((i:Int),())) (oB:=λe=>(e,())) (oE:=()) (λi b=>?_) ?_ ?_)
   .refine aO b (aB b (aj (sU _) (au (λh=>aa ?_) λh=>aa ?_)));.grind
    .rw[if_pos (by grind),ao b]
   .exact aH (aa rfl)
   by_cases k:bz eP t.2.2.1=0;.rw[if_pos k];refine aj (cE t.2.2.2.1 1 3) (au (λh=>aa ?_) λh=>aa ?_);all_goals grind[gu]
   .rw[if_neg k];refine aa ?_;rw[show gu s a t=bz eP t.2.2.1 from by unfold gu;grind]
  .rw[if_neg j];refine aa ?_;rw[show gu s a t=bz (iw s) t.2.1 from by unfold gu;grind]
def OY(s:PS)(l:List jd)(i:Nat):Int:=match l[i]? with|some t=>gu s (l.take i) t|none=>0
def SQ(s:PS)(p:sr):kQ s p=if gS (OY s p.2.1) p.2.1.length≠0 then gS (OY s p.2.1) p.2.1.length else if p.2.2.1≠1/\p.2.2.1≠2 then 15 else 0:=rfl
def OZ{s:PS}{l:List jd}{i:Nat}(a:i<l.length):OY s l i=gu s (l.take i) l[i]:=by grind[OY]
def sV(s:PS)(hs:okD yS s)(p:sr)(hp:okD yO p):aA tbl 106 [.d yN (dB s),.d yO p] [] aw (kQ s p,()):=by
 refine bN ?_;have hl:p.2.1.length<=9223372036854775807:=hp.2.1.1;refine ae (mG (N:=p.2.1.length) (f:=OY s p.2.1) (enc:=λi=>((i:Int),())) (oB:=λe=>(e,())) (oE:=()) (λi a=>?_) ?_ ?_)
 .refine aO a (aB a (ar (decide_eq_true (by simp)) (ar (by grind) ?_)));rw[aI_,s_];refine aj (vW s hs _ _ (by grind) (hp.2.1.2 _ (a_ a))) ?_;rw[<-OZ a];refine au (λh=>aa ?_) λh=>aa ?_;.grind
  .rw[if_pos (by grind),ao a hl]
 .exact aH (aa rfl)
 rw[SQ];by_cases e:gS (OY s p.2.1) p.2.1.length=0;.rw[if_pos e];refine ae (bc (λ_=>aa rfl) (au (λh=>aa ?_) λh=>aa ?_));all_goals grind
 .rw[if_neg e,if_pos e];exact aa rfl
def ZC(v:List Ly)(b:∀r∈v,iF r.2.1.1)(i:Nat)(a:i<v.length):aA tbl 94 [.d tI (i:Int),.ptr 0 0] [.box 46 [.d (.list yR) v]] dJ (gG v[i],v,()):=by refine bN ?_;exact aB a (aj (lO _ (b _ (a_ a))) (aa rfl))
def ZD(v:List Pt)(b:∀r∈v,r.2.1.length<=1048576)(i:Nat)(a:i<v.length):aA tbl 98 [.d tI (i:Int),.ptr 0 0] [.box 77 [.d (.list yH) v]] dK (dH v[i].2.1,v,()):=by refine bN ?_;obtain⟨c,h1,h2⟩:=pL v[i].2.1 (b _ (a_ a));rw[<-SP h1];exact aB a (aj h2 (aa rfl))
def ZE(v:List Tv)(b:∀r∈v,True)(i:Nat)(a:i<v.length):aA tbl 102 [.d tI (i:Int),.ptr 0 0] [.box 52 [.d (.list yC) v]] dL (gE v[i],v,()):=by refine bN ?_;exact aB a (aj (qP _) (aa rfl))
def VR(v:List Ly)(hl:v.length<=9223372036854775807)(b:∀r∈v,iF r.2.1.1):aA tbl 93 [.d tI (v.length:Int),.kj vZ [0]] [.box 46 [.d (.list yR) v]] dJ (bz gG v,v,()):=by
 refine bN ?_;refine ae (iu (l:=v) (f:=gG) (enc:=λi=>((i:Int),v,())) (oB:=λe=>(e,v,())) (oE:=(v,())) (λi a=>?_) ?_ ?_)
 .refine aO a (aj (ZC v b i a) (au (λh=>aa ?_) λh=>aa ?_));.rw[if_neg (by simpa using h)]
  .rw[if_pos (by simpa using h),ao a hl]
 .exact aH (aa rfl)
 by_cases e:bz gG v=0;.rw[if_pos e];refine aa ?_;rw[e]
 .rw[if_neg e];exact aa rfl
def VS(v:List Pt)(hl:v.length<=9223372036854775807)(b:∀r∈v,r.2.1.length<=1048576):aA tbl 10093 [.d tI (v.length:Int),.kj wa [0]] [.box 77 [.d (.list yH) v]] dK (bz (λr=>dH r.2.1) v,v,()):=by
 refine bN ?_;refine ae (iu (l:=v) (f:=(λr=>dH r.2.1)) (enc:=λi=>((i:Int),v,())) (oB:=λe=>(e,v,())) (oE:=(v,())) (λi a=>?_) ?_ ?_)
 .refine aO a (aj (ZD v b i a) (au (λh=>aa ?_) λh=>aa ?_));.rw[if_neg (by simpa using h)]
  .rw[if_pos (by simpa using h),ao a hl]
 .exact aH (aa rfl)
 by_cases e:bz (λr=>dH r.2.1) v=0;.rw[if_pos e];refine aa ?_;rw[e]
 .rw[if_neg e];exact aa rfl
def VT(v:List Tv)(hl:v.length<=9223372036854775807)(b:∀r∈v,True):aA tbl 20093 [.d tI (v.length:Int),.kj wb [0]] [.box 52 [.d (.list yC) v]] dL (bz gE v,v,()):=by
 refine bN ?_;refine ae (iu (l:=v) (f:=gE) (enc:=λi=>((i:Int),v,())) (oB:=λe=>(e,v,())) (oE:=(v,())) (λi a=>?_) ?_ ?_)
 .refine aO a (aj (ZE v b i a) (au (λh=>aa ?_) λh=>aa ?_));.rw[if_neg (by simpa using h)]
  .rw[if_pos (by simpa using h),ao a hl]
 .exact aH (aa rfl)
 by_cases e:bz gE v=0;.rw[if_pos e];refine aa ?_;rw[e]
 .rw[if_neg e];exact aa rfl
theorem xT{a:Type}{nm:a->List UInt8}{sz:a->Nat}{ck:a->Int}{l:List a}{i:Nat}(b:i<l.length):xS nm sz ck l i=if kP (l.map nm) i≠0 then kP (l.map nm) i else if sz l[i]>64 then 4 else ck l[i]:=by grind[xS]
def zeg{s:PS}(h:Bw s){i:Nat}(a:i<s.1.length):s.1[i].2.1.length<=9223372036854775807/\∀r∈s.1[i].2.1,iF r.2.1.1:=⟨(h.ok.1.2 _ (a_ a)).2.1.1,λr hr=>((h.ok.1.2 _ (a_ a)).2.1.2 r hr).2.1.1⟩
def zeh{s:PS}(h:Bw s){i:Nat}(a:i<s.2.1.length):s.2.1[i].2.1.length<=9223372036854775807/\∀r∈s.2.1[i].2.1,r.2.1.length<=1048576:=⟨(h.ok.2.1.2 _ (a_ a)).2.1.1,λr hr=>h.pt _ (a_ a) r hr⟩
def zei{s:PS}(h:Bw s){i:Nat}(a:i<s.2.2.1.length):s.2.2.1[i].2.1.length<=9223372036854775807/\∀r∈s.2.2.1[i].2.1,True:=⟨(h.ok.2.2.1.2 _ (a_ a)).2.1.1,λ_ _=>trivial⟩
def zeT{s:PS}(h:Bw s){i:Nat}(a:i<s.1.length):s.1[i].1.length<=9223372036854775807:=(h.ok.1.2 _ (a_ a)).1
def zeU{s:PS}(h:Bw s){i:Nat}(a:i<s.2.1.length):s.2.1[i].1.length<=9223372036854775807:=(h.ok.2.1.2 _ (a_ a)).1
def zeV{s:PS}(h:Bw s){i:Nat}(a:i<s.2.2.1.length):s.2.2.1[i].1.length<=9223372036854775807:=(h.ok.2.2.1.2 _ (a_ a)).1
theorem zeW{s:PS}(h:Bw s){i:Nat}(a:i<s.2.2.2.1.length):s.2.2.2.1[i].1.length<=9223372036854775807:=(h.ok.2.2.2.1.2 _ (a_ a)).1
abbrev RH(s:PS):Ob:=.box 27 [.d (.list yL) s.1,.d (.list yG) s.2.1,.d (.list yD) s.2.2.1,.d (.list yO) s.2.2.2.1]
def ZF(s:PS)(i:Nat)(a:i<s.1.length):aA tbl 91 [.d tI (i:Int),.ptr 0 0] [RH s] aS ((s.1[i].2.1.length:Int),s.1,s.2.1,s.2.2.1,s.2.2.2.1,()):=by refine bN ?_;exact aB a (aa rfl)
def VV(s:PS)(hs:Bw s)(i:Nat)(a:i<s.1.length):aA tbl 92 [.d tI (i:Int),.ptr 0 0] [RH s] aS (bz gG s.1[i].2.1,s.1,s.2.1,s.2.2.1,s.2.2.2.1,()):=by refine bN ?_;refine aB a (aj (VR _ (zeg hs a).1 (zeg hs a).2) (aa rfl))
def Zw(s:PS)(hs:Bw s):aA tbl 90 [.d (.list tS) (s.1.map (·.1)),.kj zM [0],.kj zN [0]] [RH s] aS (c8 (·.1) (λl=>l.2.1.length) (λl=>bz gG l.2.1) s.1,s.1,s.2.1,s.2.2.1,s.2.2.2.1,()):=by
 refine bN ?_;refine au (λh=>aa ?_) λh=>?_;.rw[show c8 (·.1) (λl=>l.2.1.length) (λl=>bz gG l.2.1) s.1=4 from if_pos (by have:=of_decide_eq_true h;rw[g_]at this;omega)]
 have d:¬s.1.length>64:=by have:=of_decide_eq_false h;rw[g_]at this;omega
 rw[show c8 (·.1) (λl=>l.2.1.length) (λl=>bz gG l.2.1) s.1=gS (xS (·.1) (λl=>l.2.1.length) (λl=>bz gG l.2.1) s.1) (s.1.map (·.1)).length from by unfold c8;rw[if_neg d,g_]];generalize g:xS (·.1) (λl=>l.2.1.length) (λl=>bz gG l.2.1) s.1=E;refine ae (mG (N:=(s.1.map (·.1)).length) (f:=E) (enc:=λi=>((i:Int),s.1,s.2.1,s.2.2.1,s.2.2.2.1,())) (oB:=λe=>(e,s.1,s.2.1,s.2.2.1,s.2.2.2.1,())) (oE:=(s.1,s.2.1,s.2.2.1,s.2.2.2.1,())) (λi c=>?_) ?_ ?_)
 .have a:i<s.1.length:=by rw[g_]at c;exact c
  have b:E i=if kP (s.1.map (·.1)) i≠0 then kP (s.1.map (·.1)) i else if s.1[i].2.1.length>64 then 4 else bz gG s.1[i].2.1:=by rw[<-g];exact xT a
  refine aO c (aB c (ar (decide_eq_true (by omega)) (ar (by simp;omega) ?_)));refine aj (ka _ i c (by rw[g_];omega) (by rw[ad_];exact zeT hs a)) ?_;refine au (λh=>aa ?_) λh=>?_
  .have h:kP (s.1.map (·.1)) i≠0:=by simpa using h
   rw[if_pos h]at b;rw[b,if_neg h]
  rw[if_neg (by simpa using h)]at b;refine aj (ZF s i a) (au (λh=>aa ?_) λh=>?_);.have h:decide ((s.1[i].2.1.length:Int)>64)=true:=h;rw[if_pos (by have:=of_decide_eq_true h;omega)]at b;rw[b,if_neg (by decide)]
  have h:decide ((s.1[i].2.1.length:Int)>64)=false:=h;rw[if_neg (by have:=of_decide_eq_false h;omega)]at b;refine aj (VV s hs i a) (au (λh=>aa ?_) λh=>aa ?_);.rw[b,if_neg (by simpa using h)]
  .rw[b,if_pos (by simpa using h),ao a]
 .exact aH (aa rfl)
 by_cases e:gS E (s.1.map (·.1)).length=0;.rw[if_pos e];refine aa ?_;rw[e]
 .rw[if_neg e];exact aa rfl
def ZG(s:PS)(i:Nat)(a:i<s.2.1.length):aA tbl 96 [.d tI (i:Int),.ptr 0 0] [RH s] aS ((s.2.1[i].2.1.length:Int),s.1,s.2.1,s.2.2.1,s.2.2.2.1,()):=by refine bN ?_;exact aB a (aa rfl)
def VW(s:PS)(hs:Bw s)(i:Nat)(a:i<s.2.1.length):aA tbl 97 [.d tI (i:Int),.ptr 0 0] [RH s] aS (bz (λr=>dH r.2.1) s.2.1[i].2.1,s.1,s.2.1,s.2.2.1,s.2.2.2.1,()):=by refine bN ?_;refine aB a (aj (VS _ (zeh hs a).1 (zeh hs a).2) (aa rfl))
def Zy(s:PS)(hs:Bw s):aA tbl 10090 [.d (.list tS) (s.2.1.map (·.1)),.kj zO [0],.kj zP [0]] [RH s] aS (c8 (·.1) (λl=>l.2.1.length) (λl=>bz (λr=>dH r.2.1) l.2.1) s.2.1,s.1,s.2.1,s.2.2.1,s.2.2.2.1,()):=by
 refine bN ?_;refine au (λh=>aa ?_) λh=>?_;.rw[show c8 (·.1) (λl=>l.2.1.length) (λl=>bz (λr=>dH r.2.1) l.2.1) s.2.1=4 from if_pos (by have:=of_decide_eq_true h;rw[g_]at this;omega)]
 have d:¬s.2.1.length>64:=by have:=of_decide_eq_false h;rw[g_]at this;omega
 rw[show c8 (·.1) (λl=>l.2.1.length) (λl=>bz (λr=>dH r.2.1) l.2.1) s.2.1=gS (xS (·.1) (λl=>l.2.1.length) (λl=>bz (λr=>dH r.2.1) l.2.1) s.2.1) (s.2.1.map (·.1)).length from by unfold c8;rw[if_neg d,g_]];generalize g:xS (·.1) (λl=>l.2.1.length) (λl=>bz (λr=>dH r.2.1) l.2.1) s.2.1=E;refine ae (mG (N:=(s.2.1.map (·.1)).length) (f:=E) (enc:=λi=>((i:Int),s.1,s.2.1,s.2.2.1,s.2.2.2.1,())) (oB:=λe=>(e,s.1,s.2.1,s.2.2.1,s.2.2.2.1,())) (oE:=(s.1,s.2.1,s.2.2.1,s.2.2.2.1,())) (λi c=>?_) ?_ ?_)
 .have a:i<s.2.1.length:=by rw[g_]at c;exact c
  have b:E i=if kP (s.2.1.map (·.1)) i≠0 then kP (s.2.1.map (·.1)) i else if s.2.1[i].2.1.length>64 then 4 else bz (λr=>dH r.2.1) s.2.1[i].2.1:=by rw[<-g];exact xT a
  refine aO c (aB c (ar (decide_eq_true (by omega)) (ar (by simp;omega) ?_)));refine aj (ka _ i c (by rw[g_];omega) (by rw[ad_];exact zeU hs a)) ?_;refine au (λh=>aa ?_) λh=>?_
  .have h:kP (s.2.1.map (·.1)) i≠0:=by simpa using h
   rw[if_pos h]at b;rw[b,if_neg h]
  rw[if_neg (by simpa using h)]at b;refine aj (ZG s i a) (au (λh=>aa ?_) λh=>?_);.have h:decide ((s.2.1[i].2.1.length:Int)>64)=true:=h;rw[if_pos (by have:=of_decide_eq_true h;omega)]at b;rw[b,if_neg (by decide)]
  have h:decide ((s.2.1[i].2.1.length:Int)>64)=false:=h;rw[if_neg (by have:=of_decide_eq_false h;omega)]at b;refine aj (VW s hs i a) (au (λh=>aa ?_) λh=>aa ?_);.rw[b,if_neg (by simpa using h)]
  .rw[b,if_pos (by simpa using h),ao a]
 .exact aH (aa rfl)
 by_cases e:gS E (s.2.1.map (·.1)).length=0;.rw[if_pos e];refine aa ?_;rw[e]
 .rw[if_neg e];exact aa rfl
def ZH(s:PS)(i:Nat)(a:i<s.2.2.1.length):aA tbl 100 [.d tI (i:Int),.ptr 0 0] [RH s] aS ((s.2.2.1[i].2.1.length:Int),s.1,s.2.1,s.2.2.1,s.2.2.2.1,()):=by refine bN ?_;exact aB a (aa rfl)
def VX(s:PS)(hs:Bw s)(i:Nat)(a:i<s.2.2.1.length):aA tbl 101 [.d tI (i:Int),.ptr 0 0] [RH s] aS (bz gE s.2.2.1[i].2.1,s.1,s.2.1,s.2.2.1,s.2.2.2.1,()):=by refine bN ?_;refine aB a (aj (VT _ (zei hs a).1 (zei hs a).2) (aa rfl))
def Zz(s:PS)(hs:Bw s):aA tbl 20090 [.d (.list tS) (s.2.2.1.map (·.1)),.kj zQ [0],.kj zS [0]] [RH s] aS (c8 (·.1) (λl=>l.2.1.length) (λl=>bz gE l.2.1) s.2.2.1,s.1,s.2.1,s.2.2.1,s.2.2.2.1,()):=by
 refine bN ?_;refine au (λh=>aa ?_) λh=>?_;.rw[show c8 (·.1) (λl=>l.2.1.length) (λl=>bz gE l.2.1) s.2.2.1=4 from if_pos (by have:=of_decide_eq_true h;rw[g_]at this;omega)]
 have d:¬s.2.2.1.length>64:=by have:=of_decide_eq_false h;rw[g_]at this;omega
 rw[show c8 (·.1) (λl=>l.2.1.length) (λl=>bz gE l.2.1) s.2.2.1=gS (xS (·.1) (λl=>l.2.1.length) (λl=>bz gE l.2.1) s.2.2.1) (s.2.2.1.map (·.1)).length from by unfold c8;rw[if_neg d,g_]];generalize g:xS (·.1) (λl=>l.2.1.length) (λl=>bz gE l.2.1) s.2.2.1=E;refine ae (mG (N:=(s.2.2.1.map (·.1)).length) (f:=E) (enc:=λi=>((i:Int),s.1,s.2.1,s.2.2.1,s.2.2.2.1,())) (oB:=λe=>(e,s.1,s.2.1,s.2.2.1,s.2.2.2.1,())) (oE:=(s.1,s.2.1,s.2.2.1,s.2.2.2.1,())) (λi c=>?_) ?_ ?_)
 .have a:i<s.2.2.1.length:=by rw[g_]at c;exact c
  have b:E i=if kP (s.2.2.1.map (·.1)) i≠0 then kP (s.2.2.1.map (·.1)) i else if s.2.2.1[i].2.1.length>64 then 4 else bz gE s.2.2.1[i].2.1:=by rw[<-g];exact xT a
  refine aO c (aB c (ar (decide_eq_true (by omega)) (ar (by simp;omega) ?_)));refine aj (ka _ i c (by rw[g_];omega) (by rw[ad_];exact zeV hs a)) ?_;refine au (λh=>aa ?_) λh=>?_
  .have h:kP (s.2.2.1.map (·.1)) i≠0:=by simpa using h
   rw[if_pos h]at b;rw[b,if_neg h]
  rw[if_neg (by simpa using h)]at b;refine aj (ZH s i a) (au (λh=>aa ?_) λh=>?_);.have h:decide ((s.2.2.1[i].2.1.length:Int)>64)=true:=h;rw[if_pos (by have:=of_decide_eq_true h;omega)]at b;rw[b,if_neg (by decide)]
  have h:decide ((s.2.2.1[i].2.1.length:Int)>64)=false:=h;rw[if_neg (by have:=of_decide_eq_false h;omega)]at b;refine aj (VX s hs i a) (au (λh=>aa ?_) λh=>aa ?_);.rw[b,if_neg (by simpa using h)]
  .rw[b,if_pos (by simpa using h),ao a]
 .exact aH (aa rfl)
 by_cases e:gS E (s.2.2.1.map (·.1)).length=0;.rw[if_pos e];refine aa ?_;rw[e]
 .rw[if_neg e];exact aa rfl
abbrev bxN(s:PS):Ob:=.box 162 [.d (.list tS) (dB s).1,.d (.list tS) (dB s).2.1,.d (.list tS) (dB s).2.2.1,.d (.list tS) (dB s).2.2.2.1]
def ZI(s:PS)(i:Nat)(a:i<s.2.2.2.1.length):aA tbl 104 [.d tI (i:Int),.ptr 0 0] [RH s] aS ((s.2.2.2.1[i].2.1.length:Int),s.1,s.2.1,s.2.2.1,s.2.2.2.1,()):=by refine bN ?_;exact aB a (aa rfl)
def VY(s:PS)(hs:Bw s)(i:Nat)(a:i<s.2.2.2.1.length):aA tbl 105 [.d tI (i:Int),.ptr 0 0,.ptr 1 0] [bxN s,RH s] iH (kQ s s.2.2.2.1[i],(dB s).1,(dB s).2.1,(dB s).2.2.1,(dB s).2.2.2.1,s.1,s.2.1,s.2.2.1,s.2.2.2.1,()):=by refine bN ?_;exact aB a (aj (sV s hs.ok _ (hs.ok.2.2.2.1.2 _ (a_ a))) (aa rfl))
def ZA(s:PS)(hs:Bw s):aA tbl 30090 [.d (.list tS) (s.2.2.2.1.map (·.1)),.kj zU [0],.kj zW [1,0]] [RH s,bxN s] iI (c8 (·.1) (λp=>p.2.1.length) (kQ s) s.2.2.2.1,s.1,s.2.1,s.2.2.1,s.2.2.2.1,(dB s).1,(dB s).2.1,(dB s).2.2.1,(dB s).2.2.2.1,()):=by
 refine bN ?_;refine au (λh=>aa ?_) λh=>?_;.rw[show c8 (·.1) (λp=>p.2.1.length) (kQ s) s.2.2.2.1=4 from if_pos (by grind)]
 have c:¬s.2.2.2.1.length>64:=by grind
 rw[show c8 (·.1) (λp=>p.2.1.length) (kQ s) s.2.2.2.1=gS (xS (·.1) (λp=>p.2.1.length) (kQ s) s.2.2.2.1) (s.2.2.2.1.map (·.1)).length from by unfold c8;grind];generalize g:xS (·.1) (λp=>p.2.1.length) (kQ s) s.2.2.2.1=E;refine ae (mG (N:=(s.2.2.2.1.map (·.1)).length) (f:=E) (enc:=λi=>((i:Int),s.1,s.2.1,s.2.2.1,s.2.2.2.1,(dB s).1,(dB s).2.1,(dB s).2.2.1,(dB s).2.2.2.1,())) (oB:=λe=>(e,s.1,s.2.1,s.2.2.1,s.2.2.2.1,(dB s).1,(dB s).2.1,(dB s).2.2.1,(dB s).2.2.2.1,())) (oE:=(s.1,s.2.1,s.2.2.1,s.2.2.2.1,(dB s).1,(dB s).2.1,(dB s).2.2.1,(dB s).2.2.2.1,())) (λi b=>?_) ?_ ?_)
 .have a:i<s.2.2.2.1.length:=by grind
  have d:E i=if kP (s.2.2.2.1.map (·.1)) i≠0 then kP (s.2.2.2.1.map (·.1)) i else if s.2.2.2.1[i].2.1.length>64 then 4 else kQ s s.2.2.2.1[i]:=by rw[<-g];grind[xT]
  refine aO b (aB b (ar (decide_eq_true (by simp)) (ar (by grind) ?_)));refine aj (ka _ i b (by grind) (by grind[zeW])) ?_;refine au (λh=>aa ?_) λh=>?_;.grind
  refine aj (ZI s i a) (au (λh=>aa ?_) λh=>?_);.grind
  refine aj (VY s hs i a) (au (λh=>aa ?_) λh=>aa ?_);.grind
  .rw[d,if_pos (by grind),ao a]
 .exact aH (aa rfl)
 by_cases e:gS E (s.2.2.2.1.map (·.1)).length=0;.rw[if_pos e];refine aa ?_;rw[e]
 .rw[if_neg e];exact aa rfl
def iy(s:PS)(hs:Bw s):aA tbl 36 [.d yS s] [] aw (j5 dH s,()):=by
 refine bN (aj (Dv s hs.l1 hs.l2 hs.l3 hs.l4) (ar rfl (aj (Zw s hs) ?_)));generalize g:c8 (·.1) (λl=>l.2.1.length) (λl=>bz gG l.2.1) s.1=b;generalize j:c8 (·.1) (λl=>l.2.1.length) (λl=>bz (λr=>dH r.2.1) l.2.1) s.2.1=c;generalize k:c8 (·.1) (λl=>l.2.1.length) (λl=>bz gE l.2.1) s.2.2.1=d;have hp:j5 dH s=if b≠0 then b else if c≠0 then c else if d≠0 then d else c8 (·.1) (λp=>p.2.1.length) (kQ s) s.2.2.2.1:=by grind[j5]
 have e:=Zy s hs;have f:=Zz s hs;refine au (λh=>aa ?_) λh=>ar rfl (aj e (au (λh'=>aa ?_) λh'=>ar rfl (aj f (au (λa=>aa ?_) λa=>ar rfl (aj (ZA s hs) (aa ?_))))));.grind
 all_goals grind
set_option maxRecDepth 100000
def xu(r:Tv):aA tbl 131 [.d yC r] [] aw (gE r,()):=by
 refine bN (ae (bf (λ_=>aa rfl) (ae (bf (λ_=>aa rfl) (ae (bf (λ_=>aa rfl) (au (λh=>aa ?_) λh=>aa ?_)))))));.rw[show gE r=5 from if_pos (by grind)]
 .rw[show gE r=0 from if_neg (by grind)]
def Qx(k:Int):Bool:=decide (k=4\/k=5\/k=6\/k=8)
def Jz(k:Int):∃lo g:Int,(Qx k=true->lo=Xo k/\g=IC k)/\aA tbl 129 [.d tI k] [] rT (lo,g,Qx k,()):=by
 have a:∀{j:Int},k≠j->(k==j)=false:=λh=>beq_eq_false_iff_ne.2 h;by_cases b:k=4;.subst b;refine⟨1,7,λ_=>⟨rfl,rfl⟩,bN ?_⟩;exact aD rfl (aa rfl)
 by_cases c:k=5;.subst c;refine⟨0,4294967295,λ_=>⟨rfl,rfl⟩,bN ?_⟩;exact ak rfl (aD rfl (aa rfl))
 by_cases d:k=6;.subst d;refine⟨0,16777216,λ_=>⟨rfl,rfl⟩,bN ?_⟩;exact ak rfl (ak rfl (aD rfl (aa rfl)))
 by_cases f:k=8;.subst f;refine⟨0,2000,λ_=>⟨rfl,rfl⟩,bN ?_⟩;exact ak rfl (ak rfl (ak rfl (aD rfl (aa rfl))))
 have e:Qx k=false:=decide_eq_false (by omega);rw[e];refine⟨0,0,(λh=>by grind),bN ?_⟩;exact ak (a b) (ak (a c) (ak (a d) (ak (a f) (aa rfl))))
def cn(s:PS)(n:List UInt8):Option Zm:=s.1.find? (·.1==n)
def qg(s:PS)(n:List UInt8)(hl:s.1.length<=9223372036854775807):aA tbl 141 [.d yS s,.d tS n] [] lF ((cn s n).getD ([],[],()),(cn s n).isSome,()):=by
 refine bN ?_;refine ae (iP (xs:=s.1) (p:=(·.1==n)) (enc:=λi=>((i:Int),([]:List UInt8),())) (g:=λx=>(true,x.1,x.2.1,())) (e:=(([]:List UInt8),())) (λi a=>?_) ?_ ?_)
 .refine aO a (aB a (au (λh=>aa ?_) λh=>aa ?_));.rw[if_pos h]
  .rw[if_neg (by simp[h]),ao a hl]
 .exact aH (aa rfl)
 .unfold cn;cases s.1.find? (·.1==n)with|some r=>exact aa rfl|none=>exact aa rfl
def fy(s:PS)(n:List UInt8):Option Zl:=s.2.1.find? (·.1==n)
def vE(s:PS)(n:List UInt8)(hl:s.2.1.length<=9223372036854775807):aA tbl 142 [.d yS s,.d tS n] [] qb ((fy s n).getD ([],[],()),(fy s n).isSome,()):=by
 refine bN ?_;refine ae (iP (xs:=s.2.1) (p:=(·.1==n)) (enc:=λi=>((i:Int),([]:List UInt8),())) (g:=λx=>(true,x.1,x.2.1,())) (e:=(([]:List UInt8),())) (λi a=>?_) ?_ ?_)
 .refine aO a (aB a (au (λh=>aa ?_) λh=>aa ?_));.rw[if_pos h]
  .rw[if_neg (by simp[h]),ao a hl]
 .exact aH (aa rfl)
 .unfold fy;cases s.2.1.find? (·.1==n)with|some r=>exact aa rfl|none=>exact aa rfl
def bD(s:PS)(n:List UInt8):Option Zi:=s.2.2.1.find? (·.1==n)
def mH(s:PS)(n:List UInt8)(hl:s.2.2.1.length<=9223372036854775807):aA tbl 144 [.d yS s,.d tS n] [] i8 ((bD s n).getD ([],[],()),(bD s n).isSome,()):=by
 refine bN ?_;refine ae (iP (xs:=s.2.2.1) (p:=(·.1==n)) (enc:=λi=>((i:Int),([]:List UInt8),())) (g:=λx=>(true,x.1,x.2.1,())) (e:=(([]:List UInt8),())) (λi a=>?_) ?_ ?_)
 .refine aO a (aB a (au (λh=>aa ?_) λh=>aa ?_));.rw[if_pos h]
  .rw[if_neg (by simp[h]),ao a hl]
 .exact aH (aa rfl)
 .unfold bD;cases s.2.2.1.find? (·.1==n)with|some r=>exact aa rfl|none=>exact aa rfl
def zci{s:PS}{n:List UInt8}:yq s 1 n=(cn s n).isSome:=by unfold yq cn;rw[if_pos rfl,xD]
def zcj{s:PS}{n:List UInt8}:yq s 2 n=(fy s n).isSome:=by unfold yq fy;rw[if_neg (by decide),if_pos rfl,xD]
def zck{s:PS}{n:List UInt8}:yq s 3 n=(bD s n).isSome:=by unfold yq bD;grind
def GL(s:PS)(m:oJ)(hs:okD yS s)(u:iF m.2.2.2.1.1):aA tbl 172 [.d yS s,.d yM m] [] aw (iw s m,()):=by
 obtain⟨k,nm,N,⟨d,pl,⟨⟩⟩,nt,⟨⟩⟩:=m;refine bN ?_;refine ae (bf (b:=decide (k>8)) (λ_=>aa rfl) (au (λh=>aa ?_) λh=>?_));.grind[Fl]
 have x:1<=k/\k<=8:=by grind
 obtain⟨lo,w,l,hc⟩:=Jz k;refine aj hc (ae (bc (b:= !(nm==[])) (λ_=>aa rfl) ?_));refine ae (bf (b:= !Qx k&&(N != 0)) (λ_=>ae (bc (b:=(N != 0)) (λ_=>aa rfl) (aa rfl))) ?_);refine ae (bf (b:=(k != 7)&&(true ^^ hZ yP (d,pl,()) (0,0,()))) (λ_=>ae (bc (b:=(true ^^ hZ yP (d,pl,()) (0,0,()))) (λ_=>aa rfl) (aa rfl))) ?_);have v:(true ^^ hZ yP (d,pl,()) (0,0,()))= !(d==0&&pl==0):=by show(true ^^ ((d==0)&&((pl==0)&&true)))=_;simp
 rw[v];have n:ik ((0:Int),(0:Int),())=true:=by decide
 have c:∀{j:Int},k≠j->(k==j)=false:=λh=>beq_eq_false_iff_ne.2 h;by_cases hn:k=1\/k=2\/k=3
 .rw[jF hn];have f:decide (k<=3)=true:=decide_eq_true (by omega);have e:Qx k=false:=decide_eq_false (by omega);have g:(k != 7)=true:=bne_iff_ne.2 (by omega);rw[f,e,g];simp only[aM_,aG_,aH_,ar_,Bool.false_or];refine au (λh=>aa ?_) λh=>?_;.grind
  simp at h;obtain⟨rfl,rfl,rfl⟩:=h;rw[if_neg (by simp)];refine ae (Wp.imp (Q:=λr=>r=(yq s k nm,())) ?_ λr hr=>?_)
  .rcases hn with rfl|rfl|rfl;.rw[zci];exact aD rfl (aj (qg s nm hs.1.1) (aa rfl))
   .rw[zcj];exact ak rfl (aD rfl (aj (vE s nm hs.2.1.1) (aa rfl)))
   .rw[zck];exact ak rfl (ak rfl (aD rfl (aj (mH s nm hs.2.2.1.1) (aa rfl))))
  .subst hr;refine au (λh=>aa ?_) λh=>ae (aa (ak rfl (aj (bV ((0:Int),(0:Int),()) (by omega)) ?_)));.grind
   .rw[n];refine ak rfl (aa ?_);grind
 by_cases p:k=7
 .subst p;rw[Fo];refine au (λh=>aa ?_) λh=>?_;.grind
  simp[Qx]at h;obtain⟨rfl,rfl⟩:=h;rw[if_neg (by simp)];refine ae (ak rfl (ak rfl (ak rfl (aa (ak rfl (ae (aa (aj (bV (d,pl,()) u) ?_))))))));refine au (λh=>aa ?_) λh=>aa ?_;all_goals grind
 have a:k=4\/k=5\/k=6\/k=8:=by omega
 rw[Fp a];have f:decide (k<=3)=false:=decide_eq_false (by omega);have e:Qx k=true:=decide_eq_true a;have g:(k != 7)=true:=bne_iff_ne.2 p;obtain⟨rfl,rfl⟩:=l e;rw[f,e,g];simp only[aM_,aG_,aH_,ar_,Bool.or_false];refine au (λh=>aa ?_) λh=>?_;.grind
 simp at h;obtain⟨rfl,rfl,rfl⟩:=h;refine ae (ak (c (by omega)) (ak (c (by omega)) (ak (c (by omega)) (aa (ak rfl ?_)))));refine ae (ae (bf (b:=decide (N>IC k)) (λ_=>aa rfl) (aa ?_)));refine au (λh=>aa ?_) λh=>aj (bV ((0:Int),(0:Int),()) (by omega)) ?_;.grind
 .refine ak rfl (aa ?_);grind
def sY(a:j7):aA tbl 62 [.d yA a] [] aw (eP a,()):=by
 refine bN ?_;refine ae (ae ?_);by_cases y:a.1<1\/8<a.1;.have g:∀k:Int,1<=k->k<=8->(a.1==k)=false:=λk h1 h2=>beq_eq_false_iff_ne.2 (by omega);refine ak (g 1 (by simp) (by simp)) (ak (g 2 (by simp) (by simp)) (aa (ak (g 4 (by simp) (by simp)) (ak (g 3 (by simp) (by simp)) (ak (g 5 (by simp) (by simp)) ?_)))));refine ae (ak (g 6 (by simp) (by simp)) (aa (ak (g 7 (by simp) (by simp)) (ak (g 8 (by simp) (by simp)) (aa (aa ?_))))));rw[show eP a=15 from if_pos y]
 have fin:∀(only:j7) (c:Int),kC a=only->(a=only->((a.2.1<0\/c<a.2.1\/(a.1=5/\a.2.2.2.2.1=0)\/(a.1=8/\(a.2.1<1\/a.2.2.1<1\/a.2.2.1>4294967295)))↔jk a=false))->Wp (λ_=>bif (true ^^ hZ yA a only)then qc aw ((1:Int),())else m_ (bif decide (a.2.1<(0:Int))then some (true)else some (decide (a.2.1>c))) λB=>bif B then qc aw ((5:Int),())else m_ (bif (a.1==(5:Int))then some ((a.2.2.2.2.1==(0:Int)))else some (false)) λC=>m_ (bif C then some (true)else m_ (bif (a.1==(8:Int))then m_ (bif decide (a.2.1<(1:Int))then some (true)else some (decide (a.2.2.1<(1:Int)))) λD=>m_ (bif D then some (true)else some (decide (a.2.2.1>(4294967295:Int)))) λE=>some (E)else some (false)) λF=>some (F)) λp=>bif p then qc aw ((5:Int),())else qc aw ((0:Int),())) (λx=>x=some (gq aw (eP a,()))):=λonly c h1 h2=>by
  have e:eP a=if ¬a=only then 1 else if jk a=false then 5 else 0:=by grind[eP]
  rw[e]
  refine au (λh=>aa ?_) λh=>?_
  .rw[if_pos (Fv.1 h)]
  have j:a=only:=f_ λx=>by grind[Fv]
  have h2:=h2 j
  rw[if_neg (not_not_intro j)]
  refine ae (bf (b:=decide (a.2.1>c)) (λ_=>aa rfl) (au (λh=>aa ?_) λh=>?_))
  .grind
  refine ae (bc (b:=(a.2.2.2.2.1==0)) (λ_=>aa rfl) ?_)
  refine ae (bf (b:=(a.1==8)&&((decide (a.2.1<1)||decide (a.2.2.1<1))||decide (a.2.2.1>4294967295))) (λ_=>ae (bc (b:=(decide (a.2.1<1)||decide (a.2.2.1<1))||decide (a.2.2.1>4294967295)) (λ_=>ae (bf (b:=decide (a.2.2.1<1)) (λ_=>aa rfl) (ae (bf (b:=decide (a.2.2.1>4294967295)) (λ_=>aa rfl) (aa rfl))))) (aa rfl))) ?_)
  refine au (λh'=>aa ?_) λh'=>aa ?_
  all_goals grind
 have f:∀{k:Int},a.1≠k->(a.1==k)=false:=λh=>beq_eq_false_iff_ne.2 h;have d:∀{k:Int},a.1=k->(a.1==k)=true:=λh=>beq_iff_eq.2 h;have l:∀(c:Int),(a.1=1\/a.1=2\/a.1=4)->c=4294967295->((a.2.1<0\/c<a.2.1\/(a.1=5/\a.2.2.2.2.1=0)\/(a.1=8/\(a.2.1<1\/a.2.2.1<1\/a.2.2.1>4294967295)))↔jk a=false):=λc A z=>by unfold jk;grind
 by_cases h1:a.1=1;.refine aD (d h1) (aa (aD (d h1) (aa (fin _ _ ?_ λ_=>l _ (by omega) rfl))));grind[kC]
 refine ak (f h1) ?_;by_cases h2:a.1=2;.refine aD (d h2) (aa (aD (d h2) (aa (fin _ _ ?_ λ_=>l _ (by omega) rfl))));grind[kC]
 refine ak (f h2) (aa ?_);by_cases u:a.1=4;.refine aD (d u) (aa (fin _ _ ?_ λ_=>l _ (by omega) rfl));grind[kC]
 refine ak (f u) ?_;by_cases s:a.1=3
 .refine aD (d s) (aa (fin _ _ ?_ λ_=>?_));.grind[kC]
  .unfold jk;grind
 refine ak (f s) ?_;by_cases v:a.1=5;.refine aD (d v) (aa (fin _ _ ?_ λj=>?_));all_goals grind[kC,jk]
 refine ak (f v) (ae ?_);have r:∀(only:j7) (c:Int),only.2.1=0->(a.1=6\/a.1=7)->c=4294967295->(a=only->((a.2.1<0\/c<a.2.1\/(a.1=5/\a.2.2.2.2.1=0)\/(a.1=8/\(a.2.1<1\/a.2.2.1<1\/a.2.2.1>4294967295)))↔jk a=false)):=λonly c I A z j=>by
  have H:a.2.1=0:=by grind
  unfold jk;grind
 by_cases n:a.1=6;.refine aD (d n) (aa (aD (d n) (aa (fin _ _ ?_ (r _ _ rfl (by omega) rfl)))));unfold kC;grind
 refine ak (f n) (aa ?_);by_cases w:a.1=7;.refine aD (d w) (aa (fin _ _ ?_ (r _ _ rfl (by omega) rfl)));unfold kC;grind
 refine ak (f w) (aD (d (by omega)) (aa (fin _ _ ?_ λj=>?_)));.unfold kC;grind
 .unfold jk;grind
def wJ(name a:List UInt8)(first:Bool)(sz:Nat):Int:=if jX name=false then 1 else if first=false/\tR name a=true then 16 else if sz>64 then 4 else 0
def ke(name a:List UInt8)(first:Bool)(sz:Nat)(hn:name.length<=9223372036854775807):aA tbl 114 [.d tS name,.d tS a,.d tB first,.d tI (sz:Int)] [] aw (wJ name a first sz,()):=by
 refine bN ?_;refine aj (jt name hn) (au (λh=>aa ?_) λh=>?_);.rw[show wJ name a first sz=1 from if_pos (by grind)]
 refine ae (bc (b:=tR name a) (λ_=>aa rfl) (au (λh=>aa ?_) λh=>?_));.grind[wJ]
 refine au (λh=>aa ?_) λh=>aa ?_;all_goals grind[wJ]
def Mw(l:List (List UInt8))(i:Nat):List UInt8:=if i=0 then []else l.getD (i - 1) []
def xE{a:Type}{nm:a->List UInt8}{l:List a}{i:Nat}(b:i<l.length):Mw (l.map nm) (i+1)=nm l[i]:=by unfold Mw;grind
def C6{a:Type}{nm:a->List UInt8}{sz:a->Nat}{ck:a->Int}{l:List a}{i:Nat}(b:i<l.length): xS nm sz ck l i=if wJ (nm l[i]) (Mw (l.map nm) i) ((i:Int)==0) (sz l[i])=0 then ck l[i]else wJ (nm l[i]) (Mw (l.map nm) i) ((i:Int)==0) (sz l[i]):=by
 rw[xT b];have c:kP (l.map nm) i=if jX (nm l[i])=false then 1 else if 0<i/\tR (nm l[i]) ((l.map nm).getD (i - 1) [])=true then 16 else 0:=by grind[kP]
 unfold wJ;by_cases h1:jX (nm l[i])=false;.grind
 .grind[Mw]
set_option maxRecDepth 100000
def Rr:ZK:=([],[],[],0,())
def mh(t:ee):ee:=if t.1=1 then(t.1,0,(0,0,()),t.2.2.2.1,Rr,[],())else if t.1=2 then(t.1,0,(0,0,()),[],t.2.2.2.2.1,[],())
 else if t.1=3 then(t.1,0,(0,0,()),[],Rr,t.2.2.2.2.2.1,())else if t.1=7 then(t.1,0,t.2.2.1,[],Rr,[],())else(t.1,t.2.1,(0,0,()),[],Rr,[],())
noncomputable def ue(t:ee):Int:=
 if t.1<1\/8<t.1 then 15 else if ¬t=mh t then 1 else if 64<t.2.2.2.1.length\/64<t.2.2.2.2.2.1.length then 4
 else if t.1=1 then bz gG t.2.2.2.1 else if t.1=2 then de t.2.2.2.2.1 else if t.1=3 then bz gE t.2.2.2.2.2.1
 else if t.1=7 then(if ik t.2.2.1 then 0 else 1)else if t.2.1<Xo t.1\/IC t.1<t.2.1 then 5 else 0
def HU(t:ee)(nm:List UInt8):List sr:=[([112],[([116],[(t.1,nm,t.2.1,t.2.2.1,false,())],[],1,())],1,())]
def nY(t:ee):PS:=if t.1=1 then([([108],t.2.2.2.1,())],[],[],HU t [108],())else if t.1=2 then([],[([108],[],())],[],HU t [108],())
 else if t.1=3 then([],[],[([108],t.2.2.2.2.2.1,())],HU t [108],())else([],[],[],HU t [],())
def B7(t:ee):aA tbl 128 [.d LG t] [] gW (nY t,()):=by
 refine bN ?_;unfold nY;refine ae (au (λh=>aa (aa ?_)) λh=>au (λh2=>aa (aa ?_)) λh2=>au (λa=>aa (aa ?_)) λa=>aa (aa ?_));.rw[if_pos (by grind)];rfl
 .rw[if_neg (by grind),if_pos (by grind)];rfl
 .rw[if_neg (by grind),if_neg (by grind),if_pos (by grind)];rfl
 .rw[if_neg (by grind),if_neg (by grind),if_neg (by grind)];rfl
def zcq{a:Type}(nm:a->List UInt8)(sz:a->Nat)(ck:a->Int)(x:a)(h:jX (nm x)=true):c8 nm sz ck [x]=if sz x>64 then 4 else ck x:=by
 have e:gS (xS nm sz ck [x]) 1=xS nm sz ck [x] 0:=by grind[gS,Ak]
 unfold c8;grind[xS,kP]
def zaQ{a:Type}(nm:a->List UInt8)(sz:a->Nat)(ck:a->Int):c8 nm sz ck []=0:=rfl
def zcC(s:PS)(t:ee)(nm:List UInt8):c8 (·.1) (λp=>p.2.1.length) (kQ s) (HU t nm)=iw s (t.1,nm,t.2.1,t.2.2.1,false,()):=by
 unfold HU;rw[zcq _ _ _ _ (by show jX [112]=true;decide)];have e (m:oJ):bz (iw s) [m]=iw s m:=by grind[bz,gS,Ak]
 have a:jX [116]=true:=by decide
 grind[kQ,q_,List.getElem?_cons_zero,gu,bz,gS,Ak]
def AY(a:List Zm)(b:List Zl)(c:List Zi)(p:List sr):j5 dH (a,b,c,p,())= if c8 (·.1) (λl=>l.2.1.length) (λl=>bz gG l.2.1) a≠0 then c8 (·.1) (λl=>l.2.1.length) (λl=>bz gG l.2.1) a else if c8 (·.1) (λl=>l.2.1.length) (λl=>bz (λr=>dH r.2.1) l.2.1) b≠0 then c8 (·.1) (λl=>l.2.1.length) (λl=>bz (λr=>dH r.2.1) l.2.1) b else if c8 (·.1) (λl=>l.2.1.length) (λl=>bz gE l.2.1) c≠0 then c8 (·.1) (λl=>l.2.1.length) (λl=>bz gE l.2.1) c else c8 (·.1) (λp=>p.2.1.length) (kQ (a,b,c,p,())) p:=rfl
theorem QF{t:ee}(h1:¬(t.1<1\/8<t.1))(h2:t=mh t)(h:¬(64<t.2.2.2.1.length\/64<t.2.2.2.2.2.1.length))(e:¬t.1=2):j5 dH (nY t)=ue t:=by
 have p:jX [108]=true:=by decide
 unfold ue;rw[if_neg h1,if_neg (not_not_intro h2),if_neg h];obtain⟨k,n,⟨r,s,⟨⟩⟩,pr,d,cm,⟨⟩⟩:=t;unfold mh at h2;simp only at h1 h e h2;by_cases a:k=1
 .subst a;rw[if_pos rfl]at h2⊢;obtain⟨rfl,⟨rfl,rfl⟩,rfl,rfl⟩:=h2;have g:c8 (·.1) (λl:Zm=>l.2.1.length) (λl=>bz gG l.2.1) [([108],pr,())]=if pr.length>64 then 4 else bz gG pr:=zcq _ _ _ _ p;rw[show nY (1,0,(0,0,()),pr,Rr,[],())=([([108],pr,())],[],[],HU (1,0,(0,0,()),pr,Rr,[],()) [108],())from if_pos rfl,AY,zcC,g,zaQ,zaQ,if_neg (c:=pr.length>64) (by omega),jF (.inl rfl)];by_cases j:bz gG pr=0;.rw[j];simp[yq]
  .rw[if_pos j]
 by_cases b:k=3;.subst b;obtain⟨rfl,⟨rfl,rfl⟩,rfl,rfl⟩:=h2;have g:c8 (·.1) (λl:Zi=>l.2.1.length) (λl=>bz gE l.2.1) [([108],cm,())]=if cm.length>64 then 4 else bz gE cm:=zcq _ _ _ _ p;rw[show nY (3,0,(0,0,()),[],Rr,cm,())=([],[],[([108],cm,())],HU (3,0,(0,0,()),[],Rr,cm,()) [108],())from by unfold nY;rw[if_neg (show ¬(3:Int)=1 by decide),if_neg (show ¬(3:Int)=2 by decide),if_pos rfl],AY,zcC,zaQ,zaQ,jF (.inr (.inr rfl))];grind[yq]
 have u:nY (k,n,(r,s,()),pr,d,cm,())=([],[],[],HU (k,n,(r,s,()),pr,d,cm,()) [],()):=by unfold nY;grind
 rw[u,AY,zcC,if_neg (by decide),if_neg (by decide),if_neg (by decide),if_neg a,if_neg e,if_neg b];rw[if_neg a,if_neg e,if_neg b]at h2;by_cases f:k=7;.subst f;rw[if_pos rfl]at h2⊢;simp only[aP_.injEq,true_and]at h2;rw[Fo,if_neg (by simp[h2.1])]
 .rw[if_neg f]at h2⊢;simp only[aP_.injEq,true_and]at h2;rw[Fp (by omega),if_neg (by simp[h2.1])]
set_option maxRecDepth 100000
def zaY:okD tI 1:=by show IntKind.min .i64<=(1:Int)/\(1:Int)<=IntKind.max .i64;decide
def SH{t:ee}(ht:okD LG t){nm:List UInt8}(hn:nm.length<=9223372036854775807):okD (.list yO) (HU t nm):=⟨(by show 1<=_;decide),λp hp=>by rw[d_.1 hp];refine⟨(by show 1<=_;decide),⟨(by show 1<=_;decide),λx a=>?_⟩,zaY,trivial⟩;rw[d_.1 a];refine⟨(by show 1<=_;decide),⟨(by show 1<=_;decide),λm b=>?_⟩,⟨(by simp),λx a=>by grind⟩,zaY,trivial⟩;rw[d_.1 b];exact⟨ht.1,hn,ht.2.1,ht.2.2.1,trivial,trivial⟩⟩
def f7{y:Ty}:okD (.list y) []:=⟨(by show 0<=_;decide),λx a=>by cases a⟩
def IT{y:Ty}{x:y.den}(h:okD y x):okD (.list y) [x]:=⟨(by show 1<=_;decide),λz a=>by rw[d_.1 a];exact h⟩
def zbh{t:ee}(ht:okD LG t):Bw (nY t):=by
 have a:([108]:List UInt8).length<=9223372036854775807:=by simp
 have b:([]:List UInt8).length<=9223372036854775807:=by simp
 unfold nY;split;.exact⟨⟨IT ⟨a,ht.2.2.2.1,trivial⟩,f7,f7,SH ht a,trivial⟩,(by simp),(by simp),(by simp),(by show 1<=_;simp),λl hl=>by grind⟩
 split;.exact⟨⟨f7,IT ⟨a,f7,trivial⟩,f7,SH ht a,trivial⟩,(by simp),(by simp),(by simp),(by show 1<=_;simp),λl hl r hr=>by grind⟩
 split;.exact⟨⟨f7,f7,IT ⟨a,ht.2.2.2.2.2.1,trivial⟩,SH ht a,trivial⟩,(by simp),(by simp),(by simp),(by show 1<=_;simp),λl hl=>by grind⟩
 .exact⟨⟨f7,f7,f7,SH ht b,trivial⟩,(by simp),(by simp),(by simp),(by show 1<=_;simp),λl hl=>by grind⟩
def uU(t:ee)(ht:okD LG t):aA tbl 57 [.d LG t] [] aw (ue t,()):=by
 refine bN ?_;refine ae (bf (λ_=>aa rfl) (au (λh=>aa ?_) λh=>?_));.rw[show ue t=15 from if_pos (by grind)]
 have h1:¬(t.1<1\/8<t.1):=by grind
 have c:=show ue t=_ from if_neg h1;refine ae (Wp.imp (Q:=λr=>r=((mh t).1,(mh t).2.1,(mh t).2.2.1.1,(mh t).2.2.1.2.1,(mh t).2.2.2.1,(mh t).2.2.2.2.1.1,(mh t).2.2.2.2.1.2.1,(mh t).2.2.2.2.1.2.2.1,(mh t).2.2.2.2.1.2.2.2.1,(mh t).2.2.2.2.2.1,())) ?_ λr hr=>?_)
 .unfold mh Rr;refine au (λh=>aa ?_) λh=>au (λh2=>aa ?_) λh2=>au (λa=>aa ?_) λa=>au (λb=>aa ?_) λb=>aa ?_;.grind
  .grind
  all_goals grind
 subst hr;refine aj (nr t (mh t) ht) (au (λh2=>aa ?_) λh2=>?_);.grind
 have h2:t=mh t:=by grind
 refine ae (bf (λ_=>aa rfl) (au (λa=>aa ?_) λa=>?_));.grind
 have a:¬(64<t.2.2.2.1.length\/64<t.2.2.2.2.2.1.length):=by grind
 by_cases b:t.1=2;.refine aD (beq_iff_eq.2 b) (aj (eJ _) (aa ?_));grind
 .refine ak (beq_eq_false_iff_ne.2 b) (aj (B7 t) (aj (iy (nY t) (zbh ht)) (aa ?_)));grind[QF]
set_option maxRecDepth 100000
def cu(a:eZ)(n:Int):Bool:=decide (n<(a.2.1.length:Int))&&decide (-(a.2.2.1.length:Int)<=n)
def ci(a:eZ)(n:Int):cF:=(a.2.1[n.toNat]?).getD (0,0,0,())
def G1(a:eZ)(n k:Int):Bool:=decide (n<0)||decide (k<(ci a n).1)
def Ce(a:eZ)(b:cF):Int:=if b.1<0\/(a.1.length:Int)<=b.1\/cu a b.2.1=false\/cu a b.2.2.1=false then 5 else if G1 a b.2.1 b.1=false\/G1 a b.2.2.1 b.1=false then 16 else 0
def acE(x:j7):Int:=if eP x=0 then 0 else 1
def vt(l:dM):Int:=if l.1=false/\l.2.1≠[]then 1 else bz acE l.2.1
noncomputable def DK(a:eZ):Int:=if 2000<a.1.length\/4096<a.2.1.length\/4096<a.2.2.1.length then 4 else if bz ue a.1≠0 then bz ue a.1
 else if cu a a.2.2.2.1=false then 5 else if bz (Ce a) a.2.1≠0 then bz (Ce a) a.2.1 else bz vt a.2.2.1
def nq(a:eZ)(n:Int)(hn:okD tI n)(hl:a.2.2.1.length<=9223372036854775807):aA tbl 58 [.d O8 a,.d tI n] [] ap (cu a n,()):=by
 refine bN ?_;have h1: -9223372036854775808<=n/\n<=9223372036854775807:=hn;refine au (λh=>aa ?_) λh=>aa ?_;.have h:=of_decide_eq_true h;unfold cu;rw[show decide (-(a.2.2.1.length:Int)<=n)=true from decide_eq_true (by omega),aL_]
 .have h:=of_decide_eq_false h;rw[wrap_i64];unfold cu;rw[show decide (n<(a.2.1.length:Int))=true from decide_eq_true (by omega)];grind
def nV{a:eZ}{n:Int}(h:cu a n=true)(b:0<=n):∃k:Nat,n=k/\k<a.2.1.length:=by unfold cu at h;simp only[z_,decide_eq_true_eq]at h;exact⟨n.toNat,by omega,by omega⟩
theorem nA{a:eZ}{k:Nat}(h:k<a.2.1.length):ci a k=a.2.1[k]:=by grind[ci]
def sa(a:eZ)(n k:Int)(hn:cu a n=true):aA tbl 59 [.d O8 a,.d tI n,.d tI k] [] ap (G1 a n k,()):=by refine bN ?_;refine ae (bf (λh=>?_) (aa rfl));obtain⟨i,rfl,b⟩:=nV hn (by grind);rw[nA b];exact aB b (aa rfl)
def zdo(x:j7):PS:=([],[],[],[([112],[([116],[],[x],1,())],1,())],())
def X4(x:j7):j5 dH (zdo x)=eP x:=YU dH x
def zef{x:j7}(b:okD yA x):Bw (zdo x):=by
 have a:∀c:UInt8,([c]:List UInt8).length<=9223372036854775807:=λc=>by simp
 exact⟨⟨f7,f7,f7,IT ⟨a _,IT ⟨a _,f7,IT b,zaY,trivial⟩,zaY,trivial⟩,trivial⟩,(by show 0<=_;simp),(by show 0<=_;simp),(by show 0<=_;simp),(by show 1<=_;simp),λl hl=>by cases hl⟩
def nb{b:Bool}:(!b)=true↔b=false:=by cases b<;>decide
def SJ{x y:Bool}:(!x|| !y)=true↔(x=false\/y=false):=by cases x<;>cases y<;>decide
def zb5{a:eZ}{b:cF}(h:(((decide (b.1<0)||decide (b.1>=(a.1.length:Int)))|| !cu a b.2.1)|| !cu a b.2.2.1)=true):Ce a b=5:=by grind[Ce]
def zb6{a:eZ}{b:cF}(h:(((decide (b.1<0)||decide (b.1>=(a.1.length:Int)))|| !cu a b.2.1)|| !cu a b.2.2.1)=false): cu a b.2.1=true/\cu a b.2.2.1=true/\Ce a b=if G1 a b.2.1 b.1=false\/G1 a b.2.2.1 b.1=false then 16 else 0:=by grind[Ce]
def B5(a:eZ)(p:okD O8 a):aA tbl 18 [.d O8 a] [] aw (DK a,()):=by
 refine bN ?_;refine ae (bf (λ_=>aa rfl) (ae (bf (λ_=>aa rfl) (au (λh=>aa ?_) λh=>?_))));.rw[show DK a=4 from if_pos (by simp at h;omega)]
 have h1:¬(2000<a.1.length\/4096<a.2.1.length\/4096<a.2.2.1.length):=by simp at h;omega
 have d:=show DK a=_ from if_neg h1;have hl:a.2.2.1.length<=9223372036854775807:=by omega
 refine ae (iu (l:=a.1) (f:=ue) (enc:=λi=>((i:Int),())) (oB:=λe=>(e,())) (oE:=()) (λi b=>?_) ?_ ?_)
 .refine aO b (aB b (aj (uU _ (p.1.2 _ (a_ b))) (au (λh=>aa ?_) λh=>aa ?_)));.rw[if_neg (by simpa using h)]
  .rw[if_pos (by simpa using h),ao b]
 .exact aH (aa rfl)
 by_cases n:bz ue a.1=0
 rotate_left
 .rw[if_neg n];refine aa ?_;rw[d,if_pos n]
 rw[if_pos n];rw[if_neg (not_not_intro n)]at d;refine aj (nq a _ p.2.2.2.1 hl) (au (λh=>aa ?_) λh=>?_);.rw[d,if_pos (by simpa using h)]
 rw[if_neg (by simpa using h)]at d;refine ae (iu (l:=a.2.1) (f:=Ce a) (enc:=λi=>((i:Int),())) (oB:=λe=>(e,())) (oE:=()) (λi b=>?_) ?_ ?_)
 .have k:=p.2.1.2 _ (a_ b);refine aO b (aB b ?_);refine ae (bf (λ_=>aa rfl) (ae (bf (λ_=>aj (nq a _ k.2.1 hl) (aa rfl)) (ae (bf (λ_=>aj (nq a _ k.2.2.1 hl) (aa rfl)) (au (λh=>aa ?_) λh=>?_))))));.rw[zb5 h];rfl
  obtain⟨s,u,c⟩:=zb6 h;refine aj (sa a _ _ s) (ae (bf (λ_=>aj (sa a _ _ u) (aa rfl)) (au (λh=>aa ?_) λh=>aa ?_)));.rw[if_pos (SJ.1 h)]at c;rw[c];rfl
  .rw[if_neg λx=>by rw[SJ.2 x]at h;cases h]at c;rw[c,if_pos rfl,ao b]
 .exact aH (aa rfl)
 by_cases c:bz (Ce a) a.2.1=0
 rotate_left
 .rw[if_neg c];refine aa ?_;rw[d,if_pos c]
 rw[if_pos c];rw[if_neg (not_not_intro c)]at d;refine ae (iu (l:=a.2.2.1) (f:=vt) (enc:=λi=>((i:Int),())) (oB:=λe=>(e,())) (oE:=()) (λi b=>?_) ?_ ?_)
 .have k:=p.2.2.1.2 _ (a_ b);refine aO b (aB b (ae (bc (λ_=>aa rfl) (au (λh=>aa ?_) λh=>?_))))
  .have h:a.2.2.1[i].1=false/\a.2.2.1[i].2.1≠[]:=by grind
   rw[show vt a.2.2.1[i]=1 from if_pos h];rfl
  have h:¬(a.2.2.1[i].1=false/\a.2.2.1[i].2.1≠[]):=fun⟨x,y⟩=>by have:=aq_.2 y;grind
  rw[show vt a.2.2.1[i]=bz acE a.2.2.1[i].2.1 from if_neg h];refine ae (iu (l:=a.2.2.1[i].2.1) (f:=acE) (enc:=λi=>((i:Int),())) (oB:=λe=>(e,())) (oE:=()) (λj r=>?_) ?_ ?_)
  .have hc:=iy _ (zef (k.2.1.2 _ (a_ r)));rw[X4]at hc;refine aO r (aB r (aj hc (au (λh=>aa ?_) λh=>aa ?_)));.rw[show acE a.2.2.1[i].2.1[j]=1 from if_neg (by simpa using h)];rfl
   .rw[show acE a.2.2.1[i].2.1[j]=0 from if_pos (by simpa using h),if_pos rfl,ao r k.2.1.1]
  .exact aH (aa rfl)
  by_cases g:bz acE a.2.2.1[i].2.1=0;.rw[if_pos g,if_pos g];refine aa ?_;rw[ao b]
  .rw[if_neg g,if_neg g];exact aa rfl
 .exact aH (aa rfl)
 by_cases g:bz vt a.2.2.1=0;.rw[if_pos g];refine aa ?_;rw[d,g]
 .rw[if_neg g];refine aa ?_;rw[d]
set_option maxRecDepth 100000
structure Dl(a:eZ):Prop where
 l1:a.1.length<=2000
 l2:a.2.1.length<=4096
 l3:a.2.2.1.length<=4096
 ts:∀t∈a.1,ue t=0
 rt:cu a a.2.2.2.1=true
 br:∀b∈a.2.1,Ce a b=0
 lf:∀l∈a.2.2.1,vt l=0
def ZZ{a:eZ}(h:Dl a):DK a=0:=by have h1:=h.l1;have h2:=h.l2;have b:=h.l3;unfold DK;rw[if_neg (by omega),if_neg (not_not_intro (fj.2 h.ts)),if_neg (by rw[h.rt];simp),if_neg (not_not_intro (fj.2 h.br)),fj.2 h.lf]
def JR{a:eZ}{b:cF}(h:Ce a b=0):(0<=b.1/\b.1<(a.1.length:Int))/\(cu a b.2.1=true/\cu a b.2.2.1=true)/\G1 a b.2.1 b.1=true/\G1 a b.2.2.1 b.1=true:=by grind[Ce]
inductive Zk(a:eZ)(res:Int->Bool):Int->Int->Nat->Prop
 |leaf {n:Int}:n<0->Zk a res n n 0
 |step {n m:Int} {k:Nat}:0<=n->Zk a res (if res (ci a n).1=true then(ci a n).2.1 else(ci a n).2.2.1) m k->Zk a res n m (k+1)
def mu(a:eZ)(n:Int):Nat:=if n<0 then 0 else a.1.length - (ci a n).1.toNat
def Xy{a:eZ}(h:Dl a){n:Int}(hn:cu a n=true)(b:0<=n):∀n',(n'=(ci a n).2.1\/n'=(ci a n).2.2.1)->cu a n'=true/\mu a n'<mu a n:=by obtain⟨k,rfl,c⟩:=nV hn b;obtain⟨⟨d,e⟩,⟨f,g⟩,j,l⟩:=JR (h.br _ (a_ c));grind[G1,mu,nA]
def zcd{a:eZ}(h:Dl a)(res:Int->Bool):∀(N:Nat) (n:Int),cu a n=true->mu a n<=N->∃m k,Zk a res n m k/\m<0/\cu a m=true/\k<=N:=by
 intro N;induction N with
 |zero=>
  intro n hn d;by_cases b:n<0;.exact⟨n,0,.leaf b,b,hn,D_ _⟩
  .have:=(Xy h hn (by omega) _ (.inl rfl)).2;omega
 |succ N e=>
  intro n hn d;by_cases b:n<0;.exact⟨n,0,.leaf b,b,hn,D_ _⟩
  .have hs:=Xy h hn (by omega) (if res (ci a n).1=true then(ci a n).2.1 else(ci a n).2.2.1) (by omega);obtain⟨m,k,h1,h2,c,f⟩:=e _ hs.1 (by omega);exact⟨m,k+1,.step (by omega) h1,h2,c,by omega⟩
structure xx(a:eZ)(res:Int->Bool)(m:Int)(K:Nat):Prop where
 ok:Dl a
 CL:Zk a res a.2.2.2.1 m K
 neg:m<0
 nd:cu a m=true
 le:K<=2000
def zc8{σ g:Type}{body:Nat->σ->Option (σ⊕g)}{enc:Int->Nat->σ}(b:σ->Int){Q:g->Prop}{a:eZ}{res:Int->Bool}{m:Int}{K:Nat}(h:xx a res m K)(y:∀n j,b (enc n j)=n) (hs:∀(n:Nat) (hn:n<a.2.1.length) (j:Nat) (i:Nat) (c:i<a.1.length),a.2.1[n].1=(i:Int)->j<K->Wp (λf=>body f (enc n j)) λr=>r= .inl (enc (if res i=true then a.2.1[n].2.1 else a.2.1[n].2.2.1) (j+1))) (hl:Wp (λf=>body f (enc m K)) λr=>match r with| .inl _=>False| .inr t=>Q t):Wp (λf=>ff f (body f) (enc a.2.2.2.1 0)) Q:=by refine Go.Ev.wp_loop (λs=>∃n j k,s=enc n j/\Zk a res n m k/\j+k=K/\cu a n=true) (λs=>mu a (b s)) ⟨_,0,K,rfl,h.CL,by omega,h.ok.rt⟩ ?_;rintro s ⟨n,j,k,rfl,p,u,hn⟩;cases p with|leaf d=>grind[Go.Ev.wp_mono]|step d e=>have v:=Xy h.ok hn d (if res (ci a n).1=true then(ci a n).2.1 else(ci a n).2.2.1) (by split;exact .inl rfl;exact .inr rfl);obtain⟨i,rfl,c⟩:=nV hn d;obtain⟨⟨l,w⟩,_⟩:=JR (h.ok.br _ (a_ c));obtain⟨x,ex⟩:=y_ l;refine Go.Ev.wp_mono (hs i c j x (by omega) ex (by omega)) λr hr=>?_;rw[nA c]at e v;grind
def eU(a:eZ)(m:Int):dM:=(a.2.2.1[(-1 - m).toNat]?).getD (false,[],())
def jW{a:eZ}{m:Int}(b:m<0)(h:cu a m=true):a.2.2.1[(-1 - m).toNat]? =some (eU a m):=by unfold cu at h;simp only[z_,decide_eq_true_eq]at h;unfold eU;rw[b_ (by omega)];rfl
def zbq{a:eZ}{res:Int->Bool}{m:Int}{K:Nat}(h:xx a res m K){β:Type}{f:Nat->dM->Option β}{Q:β->Prop}(c:Wp (λn=>f n (eU a m)) Q):Wp (λn=>m_ (lx a.2.2.1 (e_ .i64 ((-1:Int) - m))) (f n)) Q:=by have h1:=h.nd;have d:=h.ok.l3;have b:=h.neg;unfold cu at h1;simp only[z_,decide_eq_true_eq]at h1;rw[wrap_i64];exact bX (by omega) (jW b h.nd) c
section
variable {a:eZ} {l:List Bool} {m:Int} {K:Nat}
end
def UF{a:eZ}{res:Int->Bool}{m:Int}{K:Nat}(h:xx a res m K):eU a m∈a.2.2.1:=r_ (jW h.neg h.nd)
abbrev Gt:Type:=List (Int×Int)
abbrev CX:Type:=List cF×(List dM×Gt)
def lk(D:Gt)(n:Int):Option Int:=di tI tI D n
def KS(k v:Int)(l:Gt)(n:Int):lk ((k,v)::l) n=if n=k then some v else lk l n:=by
 show(bif hZ tI n k then some v else lk l n)=_;have:hZ tI n k=decide (n=k):=by rw[ag_];simp[hZ]
 rw[this,az_]
def rN:∀{D:Gt} {n k:Int},lk D n=some k->(n,k)∈D
 |[],_,_,h=>by cases h
 |(a,b)::l,n,k,h=>by
  rw[KS]at h;split at h;.rename_i e;cases h;subst e;exact h_ ..
  .exact c_ _ (rN h)
def yz:∀{D:Gt} {n:Int},lk D n=none->∀k,(n,k)∉D
 |[],_,_,_=>by simp
 |(a,b)::l,n,h,k=>by
  rw[KS]at h;split at h;.cases h
  .rename_i e;have:=yz h k;simp only[w_,aP_.injEq,not_or];exact⟨λx=>e x.1,this⟩
def IM:∀{D:Gt} {n k:Int},(D.map (·.1)).Nodup->(n,k)∈D->lk D n=some k
 |[],_,_,_,h=>by cases h
 |(a,b)::l,n,k,hd,h=>by
  rw[KS];rw[C_,ak_]at hd;rcases w_.1 h with h1|h1;.cases h1;rw[if_pos rfl]
  .rw[if_neg,IM hd.2 h1];intro e;subst e;exact hd.1 (n_.2 ⟨_,h1,rfl⟩)
def Xc{D:Gt}{n k a:Int}(hd:(D.map (·.1)).Nodup)(h:(n,k)∈D)(h':(n,a)∈D):k=a:=by have:=IM hd h;rw[IM hd h']at this;exact(aF_ this).symm
def nR{D:Gt}{n k:Int}(hd:(D.map (·.1)).Nodup)(h:∀k,(n,k)∉D):((D++[(n,k)]).map (·.1)).Nodup:=by rw[ai_,N_];refine⟨hd,by simp,?_⟩;rintro x b y a rfl;simp only[C_,ay_,d_]at a;subst a;obtain⟨⟨p,q⟩,hp,rfl⟩:=n_.1 b;exact h q hp
def dY(L:List dM)(l:dM):Int×List dM:=match L.findIdx? (λx=>decide (x=l))with
 |some i=>(-1 - (i:Int),L)
 |none=>(-((L.length:Int)+1),L++[l])
def dP(B:List cF)(b:cF):Int×List cF:=if b.2.1=b.2.2.1 then(b.2.1,B)else match B.findIdx? (λx=>decide (x=b))with
 |some i=>((i:Int),B)
 |none=>((B.length:Int),B++[b])
def lz(L:List dM)(l:dM):(dY L l).1<0/\(dY L l).2[(-1 - (dY L l).1).toNat]? =some l/\(∃E,(dY L l).2=L++E)/\(L.Nodup->(dY L l).2.Nodup)/\(∀x∈(dY L l).2,x∈L\/x=l)/\(dY L l).2.length<=L.length+1:=by
 unfold dY;cases e:L.findIdx? (λx=>decide (x=l))with
 |some i=>obtain⟨h1,h2,_⟩:=M_.1 e;refine⟨by simp only;omega,?_,⟨[],by simp⟩,id,λx a=>.inl a,by simp⟩;simp only;rw[show(-1 - (-1 - (i:Int))).toNat=i by omega,b_ h1];rw[of_decide_eq_true h2]
 |none=>
  have h:=ab_.1 e;refine⟨by simp only;omega,?_,⟨[l],rfl⟩,λhn=>?_,λx a=>?_,by simp⟩;.simp only;rw[show(-1 - -((L.length:Int)+1)).toNat=L.length by omega];simp
  .rw[N_];refine⟨hn,by simp,?_⟩;rintro x a y b rfl;rw[d_.1 b]at a;simpa using h l a
  .rcases p_.1 a with h|h;.exact .inl h
   .exact .inr (d_.1 h)
def we(B:List cF)(b:cF):(b.2.1=b.2.2.1/\dP B b=(b.2.1,B))\/(b.2.1≠b.2.2.1/\0<=(dP B b).1/\(dP B b).2[(dP B b).1.toNat]? =some b/\((dP B b).2=B\/((dP B b).2=B++[b]/\b∉B))):=by
 unfold dP;by_cases a:b.2.1=b.2.2.1;.rw[if_pos a];exact .inl ⟨a,rfl⟩
 rw[if_neg a];right;cases e:B.findIdx? (λx=>decide (x=b))with
 |some i=>obtain⟨h1,h2,_⟩:=M_.1 e;refine⟨a,by simp only;omega,?_,.inl rfl⟩;simp only;rw[s_,b_ h1,of_decide_eq_true h2]
 |none=>have h:=ab_.1 e;refine⟨a,by simp only;omega,?_,.inr ⟨rfl,λc=>by simpa using h b c⟩⟩;simp only;rw[s_];simp
def pp{a:Type}{l E:List a}{i:Nat}{x:a}(h:l[i]? =some x):(l++E)[i]? =some x:=by have:=(i_.1 h).1;rw[u_ this,h]
def ug(g:eZ):Nat->Int->CX->Int×CX
 |0,_,s=>(0,s)
 |f+1,n,s=>match lk s.2.2 n with
  |some k=>(k,s)
  |none=>if n<0 then(-((s.2.1.length:Int)+1),s.1,s.2.1++[eU g n],s.2.2++[(n,-((s.2.1.length:Int)+1))])
   else
    let y:=ug g f (ci g n).2.1 (s.1++[((ci g n).1,0,0,())],s.2.1,s.2.2++[(n,(s.1.length:Int))])
    let o:=ug g f (ci g n).2.2.1 y.2
    ((s.1.length:Int),o.2.1.set s.1.length ((ci g n).1,y.1,o.1,()),o.2.2.1,o.2.2.2)
def Low(g:eZ):Prop:=∀(i:Nat) b,g.2.1[i]? =some b->∀c,(c=b.2.1\/c=b.2.2.1)->c<(i:Int)/\-(g.2.2.1.length:Int)<=c
theorem cS{g:eZ}{n:Int}:cu g n=true↔n<(g.2.1.length:Int)/\-(g.2.2.1.length:Int)<=n:=by unfold cu;simp
theorem Low.kids{g:eZ}(h:Low g){n:Int}(hn:cu g n=true)(H:0<=n):∀c,(c=(ci g n).2.1\/c=(ci g n).2.2.1)->cu g c=true/\c<n:=by obtain⟨i,rfl,E⟩:=nV hn H;intro c hc;rw[nA E]at hc;obtain⟨h1,h2⟩:=h i _ (b_ E) c hc;exact⟨cS.2 ⟨by omega,h2⟩,h1⟩
structure VI(g:eZ)(B:List cF)(L:List dM)(D:Gt):Prop where
 kn:(D.map (·.1)).Nodup
 kd:∀n k,(n,k)∈D->cu g n=true
 lf:∀n k,(n,k)∈D->n<0->k<0/\L[(-1 - k).toNat]? =some (eU g n)
 br:∀n k,(n,k)∈D->0<=n->0<=k/\k<(B.length:Int)
 ij:∀n n' k,(n,k)∈D->(n',k)∈D->n=n'
 sb:∀i:Nat,i<B.length->∃n,(n,(i:Int))∈D
 sl:∀i:Nat,i<L.length->∃n,(n,-1 - (i:Int))∈D
 cb:B.length<=(D.filter λp=>decide (0<=p.1)).length
 cl:L.length<=(D.filter λp=>decide (p.1<0)).length
theorem VI.nil(g:eZ):VI g [] [] []:=⟨aa_,by simp,by simp,by simp,by simp,by simp,by simp,by simp,by simp⟩
def VI.leaf{g:eZ}{B:List cF}{L:List dM}{D:Gt}(h:VI g B L D){n:Int}(h0:n<0)(hn:cu g n=true)(hk:∀k,(n,k)∉D):VI g B (L++[eU g n]) (D++[(n,-((L.length:Int)+1))]):=by
 have J:∀{x k},(x,k)∈D++[(n,-((L.length:Int)+1))]->(x,k)∈D\/(x=n/\k= -((L.length:Int)+1)):=λE=>by simpa using E
 have H:∀x,(x,-((L.length:Int)+1))∉D:=λx E=>by
  by_cases I:x<0;.have:=(i_.1 (h.lf _ _ E I).2).1;omega
  .have:=h.br _ _ E (by omega);omega
 refine⟨nR h.kn hk,λx k E=>?_,λx k E I=>?_,λx k E I=>?_,λx y k E hy=>?_,λi Y=>?_,λi Y=>?_,?_,?_⟩
 .rcases J E with E|⟨rfl,rfl⟩;.exact h.kd x k E
  .exact hn
 .rcases J E with E|⟨rfl,rfl⟩;.obtain⟨q1,q2⟩:=h.lf x k E I;exact⟨q1,pp q2⟩
  .refine⟨by omega,?_⟩;rw[show(-1 - -((L.length:Int)+1)).toNat=L.length by omega];simp
 .rcases J E with E|⟨rfl,rfl⟩;.exact h.br x k E I
  .omega
 .rcases J E with N|⟨e1,e2⟩<;>rcases J hy with U|⟨e3,e4⟩;.exact h.ij x y k N U
  .rw[e4]at N;exact absurd N (H x)
  .rw[e2]at U;exact absurd U (H y)
  .rw[e1,e3]
 .obtain⟨m,J⟩:=h.sb i Y;exact⟨m,k_ _ J⟩
 .by_cases hj:i<L.length;.obtain⟨m,J⟩:=h.sl i hj;exact⟨m,k_ _ J⟩
  .simp only[j_,q_]at Y;refine⟨n,Q_ _ ?_⟩;rw[show -1 - (i:Int)= -((L.length:Int)+1) by omega];exact d_.2 rfl
 .have:=h.cb;rw[K_,j_];omega
 .have:=h.cl;rw[K_,j_,ac_ (by simpa using h0)];simp only[j_,B_,U_];omega
def VI.push{g:eZ}{B:List cF}{L:List dM}{D:Gt}(h:VI g B L D){n:Int}(h0:0<=n)(hn:cu g n=true)(hk:∀k,(n,k)∉D)(b:cF):VI g (B++[b]) L (D++[(n,(B.length:Int))]):=by
 have J:∀{x k},(x,k)∈D++[(n,(B.length:Int))]->(x,k)∈D\/(x=n/\k=(B.length:Int)):=λE=>by simpa using E
 have H:∀x,(x,(B.length:Int))∉D:=λx E=>by
  by_cases I:x<0;.have:=(h.lf _ _ E I).1;omega
  .have:=h.br _ _ E (by omega);omega
 refine⟨nR h.kn hk,λx k E=>?_,λx k E I=>?_,λx k E I=>?_,λx y k E hy=>?_,λi Y=>?_,λi Y=>?_,?_,?_⟩
 .rcases J E with E|⟨rfl,rfl⟩;.exact h.kd x k E
  .exact hn
 .rcases J E with E|⟨rfl,rfl⟩;.exact h.lf x k E I
  .omega
 .simp only[j_,q_];rcases J E with E|⟨rfl,rfl⟩;.have:=h.br x k E I;omega
  .omega
 .rcases J E with N|⟨e1,e2⟩<;>rcases J hy with U|⟨e3,e4⟩;.exact h.ij x y k N U
  .rw[e4]at N;exact absurd N (H x)
  .rw[e2]at U;exact absurd U (H y)
  .rw[e1,e3]
 .by_cases hj:i<B.length;.obtain⟨m,J⟩:=h.sb i hj;exact⟨m,k_ _ J⟩
  .simp only[j_,q_]at Y;refine⟨n,Q_ _ ?_⟩;rw[show i=B.length by omega];exact d_.2 rfl
 .obtain⟨m,J⟩:=h.sl i Y;exact⟨m,k_ _ J⟩
 .have:=h.cb;rw[K_,j_,ac_ (by simpa using h0)];simp only[j_,B_,U_];omega
 .have:=h.cl;rw[K_,j_];omega
def VI.set{g:eZ}{B:List cF}{L:List dM}{D:Gt}(h:VI g B L D)(i:Nat)(b:cF):VI g (B.set i b) L D:=⟨h.kn,h.kd,h.lf,by rw[V_];exact h.br,h.ij,by rw[V_];exact h.sb,h.sl,by rw[V_];exact h.cb,h.cl⟩
def Fin(g:eZ)(B:List cF)(D:Gt)(m:Int):Prop:=∃k b a,(m,k)∈D/\((ci g m).2.1,b)∈D/\((ci g m).2.2.1,a)∈D/\B[k.toNat]? =some ((ci g m).1,b,a,())
structure ZP(g:eZ)(n:Int)(s:CX)(r:Int×CX):Prop where
 inv:VI g r.2.1 r.2.2.1 r.2.2.2
 mem:(n,r.1)∈r.2.2.2
 ext:∀p∈s.2.2,p∈r.2.2.2
 len:s.1.length<=r.2.1.length
 old:∀i:Nat,i<s.1.length->r.2.1[i]? =s.1[i]?
 lvs:∃E,r.2.2.1=s.2.1++E
 lfs:∀l∈r.2.2.1,l∈s.2.1\/l∈g.2.2.1
 new:∀m k,(m,k)∈r.2.2.2->(m,k)∈s.2.2\/m<0\/Fin g r.2.1 r.2.2.2 m
def Rl{g:eZ}(hg:Low g):∀(f:Nat) (n:Int) (s:CX),cu g n=true->(n+1).toNat<f->VI g s.1 s.2.1 s.2.2->ZP g n s (ug g f n s):=by
 intro f;induction f with
 |zero=>intro n s _ J;omega|succ f F=>
  intro n s hn J hs;unfold ug;cases e:lk s.2.2 n with
  |some k=>exact⟨hs,rN e,λp hp=>hp,t_ _,λ_ _=>rfl,⟨[],by simp⟩,λl hl=>.inl hl,λm k h=>.inl h⟩|none=>
   have D:=yz e;by_cases b:n<0
   .simp only[if_pos b];refine⟨hs.leaf b hn D,by simp,λp hp=>k_ _ hp,t_ _,λ_ _=>rfl,⟨_,rfl⟩,λl hl=>?_,λm k h=>?_⟩
    .rcases p_.1 hl with hl|hl;.exact .inl hl
     .rw[d_.1 hl];exact .inr (r_ (jW b hn))
    .rcases p_.1 h with h|h;.exact .inl h
     .cases d_.1 h;exact .inr (.inl b)
   .simp only[if_neg b];have b:0<=n:=by omega
    have N:=hg.kids hn b _ (.inl rfl);have P:=hg.kids hn b _ (.inr rfl);have y:=F (ci g n).2.1 (s.1++[((ci g n).1,0,0,())],s.2.1,s.2.2++[(n,(s.1.length:Int))]) N.1 (by omega) (hs.push b hn D _);generalize ug g f (ci g n).2.1 (s.1++[((ci g n).1,0,0,())],s.2.1,s.2.2++[(n,(s.1.length:Int))])=Y at y;have o:=F _ Y.2 P.1 (by omega) y.inv;generalize ug g f (ci g n).2.2.1 Y.2=O at o;have M:s.1.length<Y.2.1.length:=by have:=y.len;simp only[j_,q_]at this;omega
    have A:s.1.length<O.2.1.length:=by have:=o.len;omega
    have a:(n,(s.1.length:Int))∈O.2.2.2:=o.ext _ (y.ext _ (Q_ _ (d_.2 rfl)));refine⟨o.inv.set _ _,a,λp hp=>o.ext _ (y.ext _ (k_ _ hp)),by rw[V_];omega,λi L=>?_,?_,λl hl=>?_,λm k h=>?_⟩;.rw[R_ (by omega),o.old i (by omega),y.old i (by simp only[j_];omega),u_ L]
    .obtain⟨E,I⟩:=y.lvs;obtain⟨E',z⟩:=o.lvs;exact⟨E++E',by rw[z,I,List.append_assoc]⟩
    .rcases o.lfs l hl with hl|hl;.exact y.lfs l hl
     .exact .inr hl
    .by_cases j:m<0;.exact .inr (.inl j)
     by_cases r:m=n;.subst r;refine .inr (.inr ⟨(s.1.length:Int),Y.1,O.1,a,o.ext _ y.mem,o.mem,?_⟩);rw[s_,List.getElem?_set_self A]
     have keep:∀{c:Int},(m,c)∈O.2.2.2->c.toNat≠s.1.length:=fun{c} d Q=>by
      have:=o.inv.br _ _ d (by omega);have H:c=(s.1.length:Int):=by omega
      rw[H]at d;exact r (o.inv.ij m n _ d a)
     rcases o.new m k h with h|h|⟨c,C,B,u,f2,w,v⟩
     .rcases y.new m k h with h|h|⟨c,C,B,u,f2,w,v⟩
      .rcases p_.1 h with h|h;.exact .inl h
       .exact absurd (congrArg Prod.fst (d_.1 h)) r
      .exact absurd h j
      .refine .inr (.inr ⟨c,C,B,o.ext _ u,o.ext _ f2,o.ext _ w,?_⟩);rw[R_ (λx=>keep (o.ext _ u) x.symm),o.old _ (i_.1 v).1,v]
     .exact absurd h j
     .exact .inr (.inr ⟨c,C,B,u,f2,w,by rw[R_ (λx=>keep u x.symm),v]⟩)
def eM(t:Int->Int)(D:Gt):Gt:=D.map λp=>(t p.1,p.2)
theorem uK{b β:Type}{f:b->β}:∀{l:List b},l.Nodup->(∀x∈l,∀y∈l,f x=f y->x=y)->(l.map f).Nodup
 |[],_,_=>aa_
 |a::l,h,c=>by rw[ak_]at h;rw[C_,ak_];refine⟨λg=>?_,uK h.2 λx d y e=>c x (c_ _ d) y (c_ _ e)⟩;grind
def QE:∀(n:Nat) (H:List Int),H.Nodup->(∀x∈H,0<=x/\x<(n:Int))->H.length<=n:=by
 intro n H hd a;have h:H.map L_⊆G_ n:=λx b=>by grind
 have hn:(H.map L_).Nodup:=by grind[uK]
 have:=hn.length_le_of_subset h;grind
def NB{D:Gt}(h:(D.map (·.1)).Nodup)(p:Int×Int->Bool):((D.filter p).map (·.1)).Nodup:=by grind
def RS{D:Gt}{g:eZ}(h:(D.map (·.1)).Nodup)(a:∀n k,(n,k)∈D->cu g n=true):(D.filter λp=>decide (0<=p.1)).length<=g.2.1.length:=by
 have:=QE g.2.1.length _ (NB h λp=>decide (0<=p.1)) λx b=>by grind[cS]
 grind
def RP{D:Gt}{g:eZ}(h:(D.map (·.1)).Nodup)(a:∀n k,(n,k)∈D->cu g n=true):(D.filter λp=>decide (p.1<0)).length<=g.2.2.1.length:=by
 have:=QE g.2.2.1.length (((D.filter λp=>decide (p.1<0)).map (·.1)).map λx=> -1 - x) (uK (NB h λp=>decide (p.1<0)) λx _ y _ e=>by omega) λx b=>by grind[cS]
 grind
def pi{g:eZ}{k:Int}{b:cF}(h:g.2.1[k.toNat]? =some b):ci g k=b:=by unfold ci;rw[h];rfl
def Fb{g:eZ}{k:Int}{l:dM}(h:g.2.2.1[(-1 - k).toNat]? =some l):eU g k=l:=by unfold eU;rw[h];rfl
structure CY(nt:Nat)(B:List cF)(L:List dM):Prop where
 bn:B.Nodup
 ln:L.Nodup
 bb:∀(i:Nat) b,B[i]? =some b->b.2.1≠b.2.2.1/\(0<=b.1/\b.1<(nt:Int))/\∀c,(c=b.2.1\/c=b.2.2.1)->c<(i:Int)/\-(L.length:Int)<=c/\(0<=c->∃b',B[c.toNat]? =some b'/\b.1<b'.1)
def CY.low{g:eZ}{nt:Nat}(h:CY nt g.2.1 g.2.2.1):Low g:=λi b E c hc=>by obtain⟨_,_,q⟩:=h.bb i b E;exact⟨(q c hc).1,(q c hc).2.1⟩
def vw(F:Nat)(g:eZ)(r:Int):Int×CX:=ug g F r ([],[],[])
def kA(F:Nat)(g:eZ)(r:Int):eZ:=(g.1,(vw F g r).2.1,(vw F g r).2.2.1,(vw F g r).1,())
structure Bu(F:Nat)(g:eZ)(r:Int):Prop where
 tab:CY g.1.length g.2.1 g.2.2.1
 v:ZP g r ([],[],[]) (vw F g r)
def XF{F:Nat}{g:eZ}{r:Int}(ht:CY g.1.length g.2.1 g.2.2.1)(hr:cu g r=true)(a:g.2.1.length<F):Bu F g r:=⟨ht,Rl ht.low F r ([],[],[]) hr (by grind[cS]) (VI.nil _)⟩
def Bu.fin{F:Nat}{g:eZ}{r:Int}(h:Bu F g r){m k:Int}(I:(m,k)∈(vw F g r).2.2.2)(h0:0<=m):∃H E,((ci g m).2.1,H)∈(vw F g r).2.2.2/\((ci g m).2.2.1,E)∈(vw F g r).2.2.2/\(kA F g r).2.1[k.toNat]? =some ((ci g m).1,H,E,()):=by
 rcases h.v.new m k I with Y|Y|⟨k',H,E,J,f2,N,U⟩;.grind
 .omega
 .rw[Xc h.v.inv.kn I J];exact⟨H,E,f2,N,U⟩
def Bu.gbr{F:Nat}{g:eZ}{r:Int}(h:Bu F g r){m:Int}(H:cu g m=true)(E:0<=m):g.2.1[m.toNat]? =some (ci g m):=by obtain⟨i,rfl,I⟩:=nV H E;grind[nA]
def Bu.sgn{F:Nat}{g:eZ}{r:Int}(h:Bu F g r){m k:Int}(E:(m,k)∈(vw F g r).2.2.2):(m<0↔k<0)/\cu (kA F g r) k=true:=by
 by_cases H:m<0;.obtain⟨J,I⟩:=h.v.inv.lf _ _ E H;have:=(i_.1 I).1;refine⟨by omega,cS.2 ⟨by omega,?_⟩⟩;show -((vw F g r).2.2.1.length:Int)<=k;omega
 .have:=h.v.inv.br _ _ E (by omega);refine⟨by omega,cS.2 ⟨this.2,by omega⟩⟩
def Bu.at{F:Nat}{g:eZ}{r:Int}(h:Bu F g r){i:Nat}{b:cF}(N:(kA F g r).2.1[i]? =some b):∃m,(m,(i:Int))∈(vw F g r).2.2.2/\0<=m/\∃H E,((ci g m).2.1,H)∈(vw F g r).2.2.2/\((ci g m).2.2.1,E)∈(vw F g r).2.2.2/\b=((ci g m).1,H,E,()):=by
 obtain⟨m,I⟩:=h.v.inv.sb i (i_.1 N).1;have J:0<=m:=by have:=(h.sgn I).1;omega
 obtain⟨H,E,U,f2,Y⟩:=h.fin I J;grind
def Bu.aut{F:Nat}{g:eZ}{r:Int}(h:Bu F g r)(l1:g.1.length<=2000)(l2:(kA F g r).2.1.length<=4096)(l3:(kA F g r).2.2.1.length<=4096)(ts:∀t∈g.1,ue t=0)(lf:∀l∈(kA F g r).2.2.1,vt l=0):Dl (kA F g r):=by
 refine⟨l1,l2,l3,ts,(h.sgn h.v.mem).2,λb J=>?_,lf⟩;obtain⟨i,N,rfl⟩:=an_.1 J;obtain⟨m,U,I,ky,ko,f1,f2,f3⟩:=h.at (b_ N);obtain⟨_,q2,Y⟩:=h.tab.bb _ _ (h.gbr (h.v.inv.kd _ _ U) I);have gk:∀c H,(c=(ci g m).2.1\/c=(ci g m).2.2.1)->(c,H)∈(vw F g r).2.2.2->cu (kA F g r) H=true/\G1 (kA F g r) H (ci g m).1=true:=λc H hc hd=>by
  refine⟨(h.sgn hd).2,?_⟩;unfold G1;by_cases hk:H<0;.grind
  .have E:0<=c:=by have:=(h.sgn hd).1;omega
   obtain⟨_,_,_,_,f⟩:=h.fin hd E;rw[pi f];obtain⟨b',s1,s2⟩:=(Y c hc).2.2 E;rw[pi s1,decide_eq_true s2,Bool.or_true]
 unfold Ce;rw[if_neg];.grind
 .have:(g.1.length:Int)=((kA F g r).1.length:Int):=rfl;grind
def Zk.uniq{a:eZ}{res:Int->Bool}:∀{n m m':Int} {K E:Nat},Zk a res n m K->Zk a res n m' E->m=m'/\K=E:=by
 intro n m m' K E h;induction h generalizing m' E with
 |leaf H=>intro h';cases h' with|leaf _=>simp|step h1 _=>omega
 |step H _ I=>intro h';cases h' with|leaf h1=>omega|step _ h2=>grind
def CO(B:List cF)(L:List dM)(n:Int):Prop:=n<(B.length:Int)/\-(L.length:Int)<=n
def BK(B:List cF)(n t:Int):Prop:=0<=n->∃b,B[n.toNat]? =some b/\t<b.1
def BK.app{B E:List cF}{n t:Int}(h:BK B n t):BK (B++E) n t:=λH=>let⟨b,h1,h2⟩:=h H;⟨b,pp h1,h2⟩
def BK.le{B:List cF}{n t E:Int}(h:BK B n t)(hl:E<=t):BK B n E:=λH=>let⟨b,h1,h2⟩:=h H;⟨b,h1,by omega⟩
def CO.app{B E:List cF}{L E':List dM}{n:Int}(h:CO B L n):CO (B++E) (L++E') n:=by obtain⟨h1,h2⟩:=h;unfold CO;grind
def CY.leaf{nt:Nat}{B:List cF}{L:List dM}(h:CY nt B L)(l:dM):CY nt B (dY L l).2:=by
 obtain⟨_,_,⟨E,N⟩,J,_,_⟩:=lz L l;have H:L.length<=(dY L l).2.length:=by rw[N];simp
 refine⟨h.bn,J h.ln,λi b I=>?_⟩;obtain⟨U,Y,q3⟩:=h.bb i b I;refine⟨U,Y,λc hc=>?_⟩;obtain⟨r1,r2,r3⟩:=q3 c hc;grind
def Sx(B:List cF)(L:List dM)(l:dM):CO B (dY L l).2 (dY L l).1/\(dY L l).1<0:=by obtain⟨a,b,_⟩:=lz L l;have:=(i_.1 b).1;exact⟨⟨by omega,by omega⟩,a⟩
def uu(B:List cF)(b:cF):(∃E,(dP B b).2=B++E)/\(dP B b).2.length<=B.length+1:=by
 rcases we B b with⟨_,h⟩|⟨_,_,_,h|⟨h,_⟩⟩;.rw[h];simp
 .rw[h];simp
 grind
def CY.Z6{nt:Nat}{B:List cF}{L:List dM}(h:CY nt B L){t y o:Int}(J:0<=t)(h1:t<(nt:Int))(hy:CO B L y)(ho:CO B L o)(gy:BK B y t)(go:BK B o t): CY nt (dP B (t,y,o,())).2 L/\CO (dP B (t,y,o,())).2 L (dP B (t,y,o,())).1/\(∀I,I<t->BK (dP B (t,y,o,())).2 (dP B (t,y,o,())).1 I)/\((dP B (t,y,o,())).1=y\/(dP B (t,y,o,())).2[(dP B (t,y,o,())).1.toNat]? =some (t,y,o,())):=by
 generalize hp:dP B (t,y,o,())=p;have hs:=we B (t,y,o,());rw[hp]at hs;have lt:∀{c:Int},BK B c t->0<=c->∃b',B[c.toNat]? =some b'/\t<b'.1:=λh J=>h J;rcases hs with⟨_,h2⟩|⟨n1,n2,n3,h2⟩;.rw[h2];exact⟨h,hy,λI ht=>gy.le (by omega),.inl rfl⟩
 have Y:CO p.2 L p.1:=⟨by grind,by omega⟩;refine⟨?_,Y,λI ht _=>⟨_,n3,ht⟩,.inr n3⟩;rcases h2 with h2|⟨h2,h3⟩;.grind
 refine⟨?_,h.ln,λj b H=>?_⟩;.rw[h2,N_];refine⟨h.bn,by simp,?_⟩;grind
 .by_cases hj:j<B.length;.rw[h2,u_ hj]at H;obtain⟨q1,q2,q3⟩:=h.bb j b H;grind
  .rw[h2,List.getElem?_append_right (by omega)]at H;obtain⟨el,E⟩:=i_.1 H;have U:j - B.length=0:=by grind
   simp only[U,List.getElem_cons_zero]at E;subst E;refine⟨n1,⟨J,h1⟩,λc hc=>?_⟩;have key:∀c,CO B L c->BK B c t->c<(j:Int)/\-(L.length:Int)<=c/\(0<=c->∃b',p.2[c.toNat]? =some b'/\t<b'.1):=λc hn hg=>⟨by grind,hn.2,λN=>let⟨b',s1,s2⟩:=hg N;⟨b',by grind,s2⟩⟩;grind
def Ps(B:List cF)(L:List dM)(R:List Int):Prop:=∀n∈R,CO B L n/\(0<=n->∃b,B[n.toNat]? =some b/\b.2.1∈R/\b.2.2.1∈R)
def Ps.app{B E:List cF}{L E':List dM}{R:List Int}(h:Ps B L R):Ps (B++E) (L++E') R:=λn hn=>⟨(h n hn).1.app,λH=>let⟨b,h1,h2⟩:=(h n hn).2 H;⟨b,pp h1,h2⟩⟩
def mZ(A:List j7)(l:dM):dM:=if l.1=true then(l.1,A++l.2.1,())else(l.1,l.2.1,())
def kS(g:eZ)(A:List j7):Nat->Int->CX->Int×CX
 |0,_,s=>(0,s)
 |f+1,n,s=>match lk s.2.2 n with
  |some k=>(k,s)
  |none=>if n<0 then((dY s.2.1 (mZ A (eU g n))).1,s.1,(dY s.2.1 (mZ A (eU g n))).2,s.2.2++[(n,(dY s.2.1 (mZ A (eU g n))).1)])
   else
    let y:=kS g A f (ci g n).2.1 s
    let o:=kS g A f (ci g n).2.2.1 y.2
    let p:=dP o.2.1 ((ci g n).1,y.1,o.1,())
    (p.1,p.2,o.2.2.1,o.2.2.2++[(n,p.1)])
structure PI(g:eZ)(A:List j7)(R:List Int)(s:CX):Prop where
 tab:CY g.1.length s.1 s.2.1
 eB:∃E,s.1=g.2.1++E
 eL:∃E,s.2.1=g.2.2.1++E
 kn:(s.2.2.map (·.1)).Nodup
 kR:∀n k,(n,k)∈s.2.2->n∈R
 nd:∀n k,(n,k)∈s.2.2->CO s.1 s.2.1 k/\(n<0->k<0)/\(0<=n->∀t,t<(ci g n).1->BK s.1 k t)
 cl:∀n k,(n,k)∈s.2.2->0<=k->∃b,s.1[k.toNat]? =some b/\(∃m,(m,b.2.1)∈s.2.2)/\∃m,(m,b.2.2.1)∈s.2.2
 cB:s.1.length<=g.2.1.length+s.2.2.length
 cL:s.2.1.length<=g.2.2.1.length+s.2.2.length
 lv:∀l∈s.2.1,l∈g.2.2.1\/∃l0∈g.2.2.1,l=mZ A l0
structure zey(g:eZ)(A:List j7)(R:List Int)(n:Int)(s:CX)(r:Int×CX):Prop where
 inv:PI g A R r.2
 mem:(n,r.1)∈r.2.2.2
 ext:∀p∈s.2.2,p∈r.2.2.2
 new:∀p∈r.2.2.2,p∈s.2.2\/p.1<=n
def PI.leaf{g:eZ}{A:List j7}{R:List Int}{s:CX}(h:PI g A R s)(hR:Ps g.2.1 g.2.2.1 R){n:Int}(hn:n∈R)(h0:n<0)(hk:∀k,(n,k)∉s.2.2): PI g A R (s.1,(dY s.2.1 (mZ A (eU g n))).2,s.2.2++[(n,(dY s.2.1 (mZ A (eU g n))).1)]):=by
 generalize hl:mZ A (eU g n)=l;obtain⟨p1,p2,⟨E,pE⟩,p4,p5,p6⟩:=lz s.2.1 l;have J:∀{x k},(x,k)∈s.2.2++[(n,(dY s.2.1 l).1)]->(x,k)∈s.2.2\/(x=n/\k=(dY s.2.1 l).1):=λH=>by simpa using H
 have N:cu g n=true:=cS.2 (hR n hn).1;obtain⟨E0,el⟩:=h.eL;refine⟨h.tab.leaf l,h.eB,⟨E0++E,by grind⟩,nR h.kn hk,λx k H=>?_,λx k H=>?_,λx k H I=>?_,?_,?_,λx H=>?_⟩
 .rcases J H with H|⟨rfl,_⟩;.exact h.kR x k H
  omega
 .rcases J H with H|⟨rfl,rfl⟩;.obtain⟨U,Y⟩:=h.nd x k H;refine⟨?_,Y⟩;simp only;rw[pE];have:=U.app (E:=[]) (E':=E);grind
  .exact⟨(Sx s.1 s.2.1 l).1,λ_=>p1,λh=>by omega⟩
 .rcases J H with H|⟨rfl,rfl⟩;.obtain⟨b,U,⟨m,Y⟩,m',q3⟩:=h.cl x k H I;exact⟨b,U,⟨m,k_ _ Y⟩,m',k_ _ q3⟩
  omega
 .have:=h.cB;simp only[j_,q_];omega
 .have:=h.cL;simp only[j_,q_];omega
 .rcases p5 x H with H|rfl;.exact h.lv x H
  .exact .inr ⟨_,r_ (jW h0 N),hl.symm⟩
def PI.Z6{g:eZ}{A:List j7}{R:List Int}{s:CX}(h:PI g A R s)(hR:Ps g.2.1 g.2.2.1 R)(ht:CY g.1.length g.2.1 g.2.2.1){n Y U:Int}(hn:n∈R)(h0:0<=n)(hk:∀k,(n,k)∉s.2.2) (hy:((ci g n).2.1,Y)∈s.2.2) (hz:((ci g n).2.2.1,U)∈s.2.2):PI g A R ((dP s.1 ((ci g n).1,Y,U,())).2,s.2.1,s.2.2++[(n,(dP s.1 ((ci g n).1,Y,U,())).1)]):=by
 have el:cu g n=true:=cS.2 (hR n hn).1;obtain⟨i,rfl,hi⟩:=nV el h0;obtain⟨_,⟨b1,b2⟩,b3⟩:=ht.bb i _ (b_ hi);rw[<-nA hi]at b1 b2 b3;have I:∀{c kc:Int},(c=(ci g i).2.1\/c=(ci g i).2.2.1)->(c,kc)∈s.2.2->CO s.1 s.2.1 kc/\BK s.1 kc (ci g i).1:=fun{c kc} hc hd=>by
  obtain⟨q1,q2,q3⟩:=h.nd _ _ hd;refine⟨q1,?_⟩;by_cases N:0<=c;.obtain⟨b',s1,s2⟩:=(b3 c hc).2.2 N;refine q3 N _ ?_;rw[pi s1];omega
  .intro J;omega
 obtain⟨y1,y2⟩:=I (.inl rfl) hy;obtain⟨z1,z2⟩:=I (.inr rfl) hz;obtain⟨t1,t2,t3,t4⟩:=h.tab.Z6 b1 b2 y1 z1 y2 z2;obtain⟨⟨E,hE⟩,gc⟩:=uu s.1 ((ci g i).1,Y,U,());generalize dP s.1 ((ci g i).1,Y,U,())=p at*;have hm:∀{x k},(x,k)∈s.2.2++[((i:Int),p.1)]->(x,k)∈s.2.2\/(x=i/\k=p.1):=λH=>by grind
 obtain⟨E0,qr⟩:=h.eB;have ph:∀x k,(x,k)∈s.2.2->0<=k->∃b,p.2[k.toNat]? =some b/\(∃m,(m,b.2.1)∈s.2.2++[((i:Int),p.1)])/\∃m,(m,b.2.2.1)∈s.2.2++[((i:Int),p.1)]:=λx k H J=>by obtain⟨b,q1,⟨m,q2⟩,m',q3⟩:=h.cl x k H J;grind
 refine⟨t1,⟨E0++E,by grind⟩,h.eL,nR h.kn hk,λx k H=>?_,λx k H=>?_,λx k H J=>?_,?_,?_,h.lv⟩
 .rcases hm H with H|⟨rfl,_⟩;.exact h.kR x k H
  omega
 .rcases hm H with H|⟨rfl,rfl⟩;.obtain⟨q1,q2,q3⟩:=h.nd x k H;have e:=q1.app (E:=E) (E':=[]);rw[S_]at e;simp only;rw[hE];exact⟨e,q2,λh0 t ht=>(q3 h0 t ht).app⟩
  grind
 .rcases hm H with H|⟨rfl,rfl⟩;all_goals grind
 .have:=h.cB;grind
 .have:=h.cL;grind
def AZ{g:eZ}(A:List j7){R:List Int}(d:Ps g.2.1 g.2.2.1 R)(ht:CY g.1.length g.2.1 g.2.2.1):∀(f:Nat) (n:Int) (s:CX),n∈R->(n+1).toNat<f->PI g A R s->zey g A R n s (kS g A f n s):=by
 intro f;induction f with
 |zero=>simp|succ f r=>
  intro n s hn x hs;unfold kS;cases e:lk s.2.2 n with
  |some k=>exact⟨hs,rN e,λp hp=>hp,λp hp=>.inl hp⟩|none=>
   have w:=yz e;by_cases c:n<0;.simp only[if_pos c];refine⟨hs.leaf d hn c w,by simp,λp hp=>k_ _ hp,λp hp=>?_⟩;grind
   .simp only[if_neg c];have c:0<=n:=by omega
    obtain⟨b,u,j,l⟩:=(d n hn).2 c;have kid:=ht.low.kids (cS.2 (d n hn).1) c;have v:=pi u;rw[<-v]at j l;have z:=(kid _ (.inl rfl)).2;have B:=(kid _ (.inr rfl)).2;have y:=r _ s j (by omega) hs;generalize kS g A f (ci g n).2.1 s=Y at y;have o:=r _ Y.2 l (by omega) y.inv;generalize kS g A f (ci g n).2.2.1 Y.2=O at o;have h:∀k,(n,k)∉O.2.2.2:=λk a=>by
     rcases o.new _ a with a|a;.rcases y.new _ a with a|a;all_goals grind
     omega
    refine⟨o.inv.Z6 d ht hn c h (o.ext _ y.mem) o.mem,by simp,λp hp=>k_ _ (o.ext _ (y.ext _ hp)),λp hp=>?_⟩;rcases p_.1 hp with hp|hp
    .rcases o.new _ hp with a|a;.rcases y.new _ a with a|a;all_goals grind
     omega
    grind
def PI.len{g:eZ}{A:List j7}{R:List Int}{s:CX}(h:PI g A R s):s.2.2.length<=R.length:=by
 have:=h.kn.length_le_of_subset (l₂:=R) λx E=>by obtain⟨⟨n,k⟩,hp,rfl⟩:=n_.1 E;exact h.kR n k hp
 grind
def PI.kj{g:eZ}{A:List j7}{R:List Int}{s:CX}(h:PI g A R s):Ps s.1 s.2.1 (s.2.2.map (·.2)):=λn hn=>by obtain⟨⟨m,k⟩,hp,rfl⟩:=n_.1 hn;refine⟨(h.nd m k hp).1,λE=>?_⟩;obtain⟨b,J,⟨H,N⟩,I,U⟩:=h.cl m k hp E;grind
theorem PI.nil{g:eZ}(A:List j7)(R:List Int)(ht:CY g.1.length g.2.1 g.2.2.1):PI g A R (g.2.1,g.2.2.1,[]):=⟨ht,⟨[],by simp⟩,⟨[],by simp⟩,aa_,by simp,by simp,by simp,by simp,by simp,λl hl=>.inl hl⟩
inductive Lv(B:List cF)(L:List dM)(res:Int->Bool):Int->dM->Prop
 |leaf {n:Int} {l:dM}:n<0->L[(-1 - n).toNat]? =some l->Lv B L res n l
 |step {n:Int} {b:cF} {l:dM}:0<=n->B[n.toNat]? =some b->Lv B L res (if res b.1=true then b.2.1 else b.2.2.1) l->Lv B L res n l
def Lv.app{B E:List cF}{L E':List dM}{res:Int->Bool}{n:Int}{l:dM}(h:Lv B L res n l):Lv (B++E) (L++E') res n l:=by induction h with|leaf H h1=>exact .leaf H (pp h1)|step H h1 _ I=>exact .step H (pp h1) I
def Lv.PE{B E:List cF}{L:List dM}{res:Int->Bool}{n:Int}{l:dM}(h:Lv B L res n l):Lv (B++E) L res n l:=by have:=h.app (E:=E) (E':=[]);rwa [S_]at this
def KV(B:List cF)(L:List dM)(res:Int->Bool)(l:dM):Lv B (dY L l).2 res (dY L l).1 l:=by obtain⟨a,b,_⟩:=lz L l;exact .leaf a b
def SA{B:List cF}{L:List dM}{res:Int->Bool}{t y o:Int}{l:dM}(b:res t=true->Lv B L res y l)(a:¬res t=true->Lv B L res o l):Lv (dP B (t,y,o,())).2 L res (dP B (t,y,o,())).1 l:=by
 obtain⟨⟨E,c⟩,_⟩:=uu B (t,y,o,());rcases we B (t,y,o,())with⟨h1,h2⟩|⟨_,d,f,_⟩
 .have h1:y=o:=h1;subst h1;rw[h2];by_cases e:res t=true;.exact b e
  .exact a e
 .refine .step d f ?_;rw[c];simp only;split;.rename_i e;exact(b e).PE
  .rename_i e;exact(a e).PE
def Lv.uniq{B:List cF}{L:List dM}{res:Int->Bool}{n:Int}{l l':dM}(h:Lv B L res n l)(h':Lv B L res n l'):l=l':=by
 induction h with
 |leaf H h1=>cases h' with|leaf _ E=>rw[h1]at E;exact aF_ E|step J=>omega
 |step H h1 _ I=>cases h' with|leaf J=>omega|step _ E N=>rw[h1]at E;cases E;exact I N
abbrev qT:Type:=Int×(Bool×Unit)
abbrev CW:Type:=List (cF×Int)
def lkC(D:CW)(k:cF):Option Int:=di xk tI D k
def NH(k:cF)(v:Int)(l:CW)(n:cF):lkC ((k,v)::l) n=if n=k then some v else lkC l n:=by show(bif hZ xk n k then some v else lkC l n)=_;rw[R5,az_]
def KR:∀{D:CW} {n:cF} {k:Int},lkC D n=some k->(n,k)∈D
 |[],_,_,h=>by cases h
 |(a,b)::l,n,k,h=>by
  rw[NH]at h;split at h;.grind
  .exact c_ _ (KR h)
def NI:∀{D:CW} {n:cF},lkC D n=none->∀k,(n,k)∉D
 |[],_,_=>by simp
 |(a,b)::l,n,h=>λk=>by
  rw[NH]at h;split at h;.grind
  .rename_i e;have:=NI h k;grind
def iW(B:List cF)(n t:Int)(r:Bool):Int:=if n<0\/((B[n.toNat]?).getD (0,0,0,())).1≠t then n else if r=true then((B[n.toNat]?).getD (0,0,0,())).2.1 else((B[n.toNat]?).getD (0,0,0,())).2.2.1
def mf(B:List cF)(t n:Int):Int:=if 0<=n/\((B[n.toNat]?).getD (0,0,0,())).1<t then((B[n.toNat]?).getD (0,0,0,())).1 else t
def Cg:Nat->List qT->Int->Int->List cF×CW->Int×(List cF×CW)
 |0,_,y,_,s=>(y,s)
 |_+1,[],y,_,s=>(y,s)
 |f+1,x::l,y,n,s=>if y=n then(y,s)else match lkC s.2 (((l.length+1:Nat):Int),y,n,())with
  |some k=>(k,s)
  |none=>
   let t:=mf s.1 (mf s.1 x.1 y) n
   let one:=fun(r:Bool) (s:List cF×CW)=>if x.1≠t then Cg f (x::l) (iW s.1 y t r) (iW s.1 n t r) s else if x.2.1≠r then(iW s.1 n t r,s)else Cg f l (iW s.1 y t r) (iW s.1 n t r) s
   let a:=one true s
   let b:=one false a.2
   let p:=dP b.2.1 (t,a.1,b.1,())
   (p.1,p.2,b.2.2++[((((l.length+1:Nat):Int),y,n,()),p.1)])
def Fi{B:List cF}{L:List dM}{res:Int->Bool}{n t:Int}{r:Bool}{l:dM}(h:Lv B L res n l)(hr:res t=r):Lv B L res (iW B n t r) l:=by
 unfold iW;split;.exact h
 .cases h with|leaf a=>omega|step a h1 h2=>rename_i hn b;rw[h1]at hn⊢;have:b.1=t:=f_ λe=>hn (.inr e);rw[this,hr]at h2;exact h2
abbrev wQ(res:Int->Bool)(x:qT):Bool:=res x.1==x.2.1
def Ma(lits:List qT)(B0:List cF)(L:List dM)(B:List cF)(k:cF)(v:Int):Prop:=∀res l,((lits.drop (lits.length - k.1.toNat)).all (wQ res)=true->Lv B0 L res k.2.1 l)->(¬(lits.drop (lits.length - k.1.toNat)).all (wQ res)=true->Lv B0 L res k.2.2.1 l)->Lv B L res v l
def Ma.app{lits:List qT}{B0 B E:List cF}{L:List dM}{k:cF}{v:Int}(h:Ma lits B0 L B k v):Ma lits B0 L (B++E) k v:=λres l h1 h2=>(h res l h1 h2).PE
def Bd(lits:List qT)(B0:List cF)(T:Int)(k:cF):Prop:=BK B0 k.2.1 T/\BK B0 k.2.2.1 T/\∀x,(lits.drop (lits.length - k.1.toNat)).head?=some x->T<x.1
structure CI(nt:Nat)(lits:List qT)(B0:List cF)(L:List dM)(RY RN:List Int)(s:List cF×CW):Prop where
 tab:CY nt s.1 L
 eB:∃E,s.1=B0++E
 kn:(s.2.map (·.1)).Nodup
 kd:∀k v,(k,v)∈s.2->(0<=k.1/\k.1<=(lits.length:Int))/\k.2.1∈RY/\k.2.2.1∈RN
 vd:∀k v,(k,v)∈s.2->CO s.1 L v/\∀T,Bd lits B0 T k->BK s.1 v T
 cB:s.1.length<=B0.length+s.2.length
 sv:∀k v,(k,v)∈s.2->Ma lits B0 L s.1 k v
structure zdk(nt:Nat)(lits:List qT)(B0:List cF)(L:List dM)(RY RN:List Int)(T:Int)(k:cF)(s:List cF×CW)(r:Int×(List cF×CW)):Prop where
 inv:CI nt lits B0 L RY RN r.2
 nd:CO r.2.1 L r.1
 gt:∀T',Bd lits B0 T' k->BK r.2.1 r.1 T'
 eB:∃E,r.2.1=s.1++E
 new:∀p∈r.2.2,p∈s.2\/Bd lits B0 T p.1
 sem:Ma lits B0 L r.2.1 k r.1
section
variable {nt:Nat} {lits:List qT} {B0:List cF} {L:List dM} {RY RN:List Int}
theorem Y0{B:List cF}(a:∃E,B=B0++E){n:Int}(hn:CO B0 L n)(t:Int)(r:Bool):iW B n t r=iW B0 n t r:=by
 obtain⟨E,rfl⟩:=a;unfold iW;by_cases b:n<0;.omega
 .rw[u_ (by have:=hn.1;omega)]
theorem Xp{B:List cF}(a:∃E,B=B0++E){n:Int}(hn:CO B0 L n)(t:Int):mf B t n=mf B0 t n:=by
 obtain⟨E,rfl⟩:=a;unfold mf;by_cases b:n<0;.omega
 .rw[u_ (by have:=hn.1;omega)]
theorem Xr(B:List cF)(t n:Int):mf B t n<=t:=by unfold mf;split<;>omega
theorem KU{B:List cF}{t n T:Int}(ht:T<t)(hn:BK B n T):T<mf B t n:=by
 unfold mf;split;.rename_i h;obtain⟨b,h1,h2⟩:=hn h.1;grind
 omega
theorem Xq{B:List cF}{t n a:Int}(hn:n<(B.length:Int))(hl:a<=mf B t n):0<=n->∃b,B[n.toNat]? =some b/\a<=b.1:=λd=>by
 have c:n.toNat<B.length:=by omega
 refine⟨_,b_ c,?_⟩;unfold mf at hl;grind
theorem Y1(ht:CY nt B0 L){R:List Int}(f:Ps B0 L R){n t:Int}(hn:n∈R)(hg:0<=n->∃b,B0[n.toNat]? =some b/\t<=b.1)(r:Bool):iW B0 n t r∈R/\BK B0 (iW B0 n t r) t:=by
 unfold iW;by_cases d:n<0;.rw[if_pos (.inl d)];exact⟨hn,λh=>by omega⟩
 obtain⟨b,h1,h2⟩:=hg (by omega);obtain⟨b',a,g,j⟩:=(f n hn).2 (by omega);rw[h1]at a;cases a;rw[h1];simp only[Option.getD_some];by_cases e:b.1=t
 .rw[if_neg (by omega)];obtain⟨_,_,q⟩:=ht.bb _ _ h1;have key:∀c,(c=b.2.1\/c=b.2.2.1)->BK B0 c t:=λc hc d=>by grind
  grind
 .rw[if_pos (.inr e)];exact⟨hn,λ_=>⟨b,h1,by omega⟩⟩
theorem Wo{T a:Int}{k:cF}(h:Bd lits B0 T k)(hl:a<=T):Bd lits B0 a k:=⟨h.1.le hl,h.2.1.le hl,λx b=>by have:=h.2.2 x b;omega⟩
theorem CI.put{s:List cF×CW}(h:CI nt lits B0 L RY RN s){k:cF}{p:Int×List cF}(hk:∀v,(k,v)∉s.2)(el:(0<=k.1/\k.1<=(lits.length:Int))/\k.2.1∈RY/\k.2.2.1∈RN) (tab:CY nt p.2 L) (eB:∃E,p.2=s.1++E) (hl:p.2.length<=s.1.length+1) (nd:CO p.2 L p.1) (gt:∀T,Bd lits B0 T k->BK p.2 p.1 T) (sem:Ma lits B0 L p.2 k p.1):CI nt lits B0 L RY RN (p.2,s.2++[(k,p.1)]):=by
 obtain⟨E,J⟩:=eB;obtain⟨N,U⟩:=h.eB;have I:∀{x v},(x,v)∈s.2++[(k,p.1)]->(x,v)∈s.2\/(x=k/\v=p.1):=λH=>by grind
 refine⟨tab,⟨N++E,by grind⟩,?_,λx v H=>?_,λx v H=>?_,?_,λx v H=>?_⟩;.simp only[ai_,C_,ay_];rw[N_];refine⟨h.kn,by simp,?_⟩;grind
 .rcases I H with H|⟨rfl,_⟩;.exact h.kd x v H
  omega
 .rcases I H with H|⟨rfl,rfl⟩;.obtain⟨q1,q2⟩:=h.vd x v H;have e:=q1.app (E:=E) (E':=[]);rw[S_]at e;simp only;rw[J];exact⟨e,λT Y=>(q2 T Y).app⟩
  grind
 .have:=h.cB;grind
 .rcases I H with H|⟨rfl,rfl⟩;.have:=(h.sv x v H).app (E:=E);simp only;rw[J];exact this
  exact sem
theorem Fc{a β:Type}{f:a->List β}{c:Nat}:∀{l:List a},(∀x,(f x).length=c)->(l.flatMap f).length=l.length*c
 |[],_=>by simp
 |x::l,h=>by rw[aw_,j_,h x,Fc h,B_,Nat.add_mul,Nat.one_mul,Nat.add_comm]
theorem CI.len{s:List cF×CW}(h:CI nt lits B0 L RY RN s):s.2.length<=(lits.length+1)*(RY.length*RN.length):=by
 have:=h.kn.length_le_of_subset (l₂:=(G_ (lits.length+1)).flatMap fun(i:Nat)=>RY.flatMap λy=>RN.map λn=>(((i:Int),y,n,()):cF)) λx I=>by obtain⟨⟨k,v⟩,hp,rfl⟩:=n_.1 I;obtain⟨⟨Y,q2⟩,E,H⟩:=h.kd k v hp;obtain⟨J,N,U,⟨⟩⟩:=k;simp only at Y q2 E H⊢;refine v_.2 ⟨J.toNat,o_.2 (by omega),v_.2 ⟨N,E,n_.2 ⟨U,H,?_⟩⟩⟩;grind
 rw[g_,Fc (c:=RY.length*RN.length) λi=>Fc λy=>by simp,ax_]at this;omega
theorem CI.nil(h:CY nt B0 L):CI nt lits B0 L RY RN (B0,[]):=⟨h,⟨[],by simp⟩,aa_,by simp,by simp,by simp,by simp⟩
end
def Bu.kj{F:Nat}{g:eZ}{r:Int}(h:Bu F g r):Ps g.2.1 g.2.2.1 ((vw F g r).2.2.2.map (·.1)):=λn hn=>by obtain⟨⟨m,k⟩,hp,rfl⟩:=n_.1 hn;refine⟨cS.1 (h.v.inv.kd m k hp),λE=>?_⟩;obtain⟨I,H,h1,h2,_⟩:=h.fin hp E;exact⟨_,h.gbr (h.v.inv.kd m k hp) E,n_.2 ⟨_,h1,rfl⟩,n_.2 ⟨_,h2,rfl⟩⟩
def Bu.mem{F:Nat}{g:eZ}{r:Int}(h:Bu F g r):r∈(vw F g r).2.2.2.map (·.1):=n_.2 ⟨_,h.v.mem,rfl⟩
def Bu.len{F:Nat}{g:eZ}{r:Int}(h:Bu F g r):((vw F g r).2.2.2.map (·.1)).length<=(kA F g r).2.1.length+(kA F g r).2.2.1.length:=by
 have hn:(vw F g r).2.2.2.Nodup:=List.Pairwise.of_map (S:=(·≠·)) (·.1) (λ_ _ h e=>h (by rw[e])) h.v.inv.kn;have H:=uK (f:=λp:Int×Int=>p.2+((kA F g r).2.2.1.length:Int)) hn λx E y I e=>by
  obtain⟨m,k⟩:=x;obtain⟨m',J⟩:=y;have e:k=J:=by omega
  subst e;rw[h.v.inv.ij _ _ _ E I]
 have:=QE ((kA F g r).2.1.length+(kA F g r).2.2.1.length) _ H λx E=>by obtain⟨⟨m,k⟩,hp,rfl⟩:=n_.1 E;have:=cS.1 (h.sgn hp).2;omega
 grind
def Bu.lvs{F:Nat}{g:eZ}{r:Int}(h:Bu F g r){l:dM}(hl:l∈(kA F g r).2.2.1):l∈g.2.2.1:=by
 rcases h.v.lfs l hl with hl|hl;.cases hl
 .exact hl
def Bu.lens{F:Nat}{g:eZ}{r:Int}(h:Bu F g r):(kA F g r).2.1.length<=g.2.1.length/\(kA F g r).2.2.1.length<=g.2.2.1.length:=⟨af_ h.v.inv.cb (RS h.v.inv.kn h.v.inv.kd),af_ h.v.inv.cl (RP h.v.inv.kn h.v.inv.kd)⟩
def C9{b:Bool}{A:List j7}(d:b=false->A=[])(h:∀a∈A,eP a=0):vt (b,A,())=0:=by unfold vt;rw[if_neg (by grind),fj];intro a c;unfold acE;grind
def zaI{l:dM}(h:vt l=0):(l.1=false->l.2.1=[])/\∀a∈l.2.1,eP a=0:=by
 unfold vt at h;split at h;.omega
 rename_i h1;refine⟨λe=>f_ λh2=>h1 ⟨e,h2⟩,λa b=>?_⟩;have:=fj.1 h a b;unfold acE at this;omega
def Xg{A:List j7}{l:dM}(c:∀a∈A,eP a=0)(h:vt l=0):vt (mZ A l)=0:=by
 obtain⟨h1,h2⟩:=zaI h;unfold mZ;split;.rename_i e;refine C9 (λb=>by grind) λa d=>?_;grind
 omega
def zcF{g:eZ}(A:List j7){R:List Int}(d:Ps g.2.1 g.2.2.1 R)(ht:CY g.1.length g.2.1 g.2.2.1){res:Int->Bool}:∀(f:Nat) (n:Int) (s:CX),n∈R->(n+1).toNat<f->PI g A R s->(∀m k,(m,k)∈s.2.2->∀l,Lv g.2.1 g.2.2.1 res m l->Lv s.1 s.2.1 res k (mZ A l))->∀m k,(m,k)∈(kS g A f n s).2.2.2->∀l,Lv g.2.1 g.2.2.1 res m l->Lv (kS g A f n s).2.1 (kS g A f n s).2.2.1 res k (mZ A l):=by
 intro f;induction f with
 |zero=>intro n s _ z;exact absurd z (Nat.not_lt_zero _)|succ f B=>
  intro n s hn z hs v;unfold kS;cases e:lk s.2.2 n with
  |some k=>exact v|none=>
   by_cases c:n<0
   .simp only[if_pos c];intro m k a l hl;obtain⟨_,_,⟨E,D⟩,_⟩:=lz s.2.1 (mZ A (eU g n));rcases p_.1 a with a|a;.have:=(v m k a l hl).app (E:=[]) (E':=E);rwa [S_,<-D]at this
    .cases d_.1 a;have:eU g n=l:=by cases hl with|leaf _ h1=>exact Fb h1|step h1=>omega
     rw[<-this];exact KV ..
   .simp only[if_neg c];have c:0<=n:=by omega
    obtain⟨b,w,p,r⟩:=(d n hn).2 c;have kid:=ht.low.kids (cS.2 (d n hn).1) c;have x:=pi w;rw[<-x]at p r;have F:=(kid _ (.inl rfl)).2;have H:=(kid _ (.inr rfl)).2;have y:=AZ A d ht f _ s p (by omega) hs;have yv:=B _ s p (by omega) hs v;generalize kS g A f (ci g n).2.1 s=Y at y yv;have o:=AZ A d ht f _ Y.2 r (by omega) y.inv;have j:=B _ Y.2 r (by omega) y.inv yv;generalize kS g A f (ci g n).2.2.1 Y.2=O at o j;intro m k a l hl;obtain⟨⟨E,C⟩,_⟩:=uu O.2.1 ((ci g n).1,Y.1,O.1,());rcases p_.1 a with a|a;.show Lv (dP O.2.1 ((ci g n).1,Y.1,O.1,())).2 _ _ _ _;rw[C];exact(j m k a l hl).PE
    .cases d_.1 a;cases hl with
     |leaf h1=>omega|step h1 h2 u=>
      rw[w]at h2;cases h2;rw[<-x]at u;refine SA (λh=>j _ _ (o.ext _ y.mem) l ?_) λh=>j _ _ o.mem l ?_;.rwa [if_pos h]at u
      .rwa [if_neg h]at u
def zcv{F:Nat}{g:eZ}{r:Int}(h:Bu F g r){res:Int->Bool}{n:Int}{l:dM}(hl:Lv g.2.1 g.2.2.1 res n l):∀k,(n,k)∈(vw F g r).2.2.2->Lv (kA F g r).2.1 (kA F g r).2.2.1 res k l:=by
 induction hl with
 |leaf a h1=>intro k b;obtain⟨p,j⟩:=h.v.inv.lf _ _ b a;rw[Fb h1]at j;exact .leaf p j
 |step a h1 _ c=>
  intro k b;obtain⟨u,s,d,f2,f⟩:=h.fin b a;rw[pi h1]at d f2 f;refine .step (h.v.inv.br _ _ b a).1 f ?_;simp only;split;.rename_i e;rw[if_pos e]at c;exact c _ d
  .rename_i e;rw[if_neg e]at c;exact c _ f2
def zce{a:eZ}{res:Int->Bool}{n m:Int}{K:Nat}(h:Zk a res n m K):∀{l:dM},Lv a.2.1 a.2.2.1 res n l->eU a m=l:=by
 induction h with
 |leaf b=>intro l hl;cases hl with|leaf _ h1=>exact Fb h1|step h1=>omega
 |step b _ c=>intro l hl;cases hl with|leaf h1=>omega|step _ h1 h2=>rw[<-pi h1]at h2;exact c h2
def Y5(t:jd)(l:dM):dM:=if t.2.2.2.1=1 then(true,t.2.2.1,())else if t.2.2.2.1=2 then(false,[],())else mZ t.2.2.1 l
def vdF(hold:jd->Bool):List jd->dM->dM
 |[],d=>d
 |t::l,d=>if hold t=true then Y5 t (vdF hold l d)else vdF hold l d
def UY(o:List Int×List j7×Int):dM:=if o.2.2=2 then(false,[],())else(true,o.2.1,())
def Tu{hold:jd->Bool}{d:Int}:∀(l:List jd) (i:Nat),(∀t∈l,1<=t.2.2.2.1/\t.2.2.2.1<=3)->UY (fb hold l i d)=vdF hold l (UY ([],[],d))
 |[],_,_=>rfl
 |t::l,i,h=>by
  have b:=Tu (hold:=hold) (d:=d) l (i+1) λt ht=>h t (c_ _ ht);have c:=h t (h_ ..);unfold fb vdF;rw[<-b];generalize fb hold l (i+1) d=o;by_cases a:hold t=true;.rw[if_pos a,if_pos a];unfold Y5 UY mZ;grind
  .rw[if_neg a,if_neg a]
set_option maxRecDepth 100000
open Go Go.Av Go.Ev
open Classical in
noncomputable def gT(d:DF):DF:=if Good d then(d.1,d.2.1,d.2.2.1.map (!·),d.2.2.2.1,())else([],[],[],0,())
def AS{d:DF}(h:Good d):gT d=(d.1,d.2.1,d.2.2.1.map (!·),d.2.2.2.1,()):=by unfold gT;rw[if_pos h]
def W1{d:DF}(h:Good d):Good (gT d):=by rw[AS h];have:=h.small;exact⟨h.dt,by grind[Big],⟨h.len.1,by simpa using h.len.2⟩,h.rows,h.start,h.to⟩
def ui(d:DF):aA tbl 155 [.d Ud d] [] cd (gT d,()):=by
 refine bN ?_;refine aj (eJ d) (au (λh=>aa ?_) λh=>?_)
 .have:¬Good d:=λhg=>by rw[fX.2 hg]at h;simp at h
  rw[show gT d=([],[],[],0,())from by unfold gT;rw[if_neg this]]
 have hg:Good d:=fX.1 (by simpa using h);have hl:=fz hg;have hn:=hg.len;refine ar (decide_eq_true (by simp;omega)) ?_;refine ae (aI (N:=d.2.1.length) (I:=λi s=>s=((i:Int),(0:Int),([]:List Int)++d.1,d.2.2.2.1,d.2.1.take i,(d.2.2.1.take i).map (!·),())) (by simp) ?_ ?_)
 .rintro i s a rfl;have h2:i<d.2.2.1.length:=by omega
  have hr:=hg.rows _ (a_ a);refine aO a (aB a (ar (decide_eq_true (by simp;omega)) (ar (decide_eq_true (by simp;omega)) (aB h2 (ar (decide_eq_true (by simp;omega)) (aa ?_))))));simp only[ao a,O_,b_ a,b_ h2,ai_,Option.toList_some,C_,ay_,W_]
 .rintro s rfl;refine aH (aa (aa ?_));rw[AS hg];simp only[I_,W_];rw[l_ (by omega)]
end Go.Proofs.YtdgiglmmpbndmaaGreatDoor
namespace Go.Pl
def Asc(l:List Int):Prop:=l.Pairwise (·<·)
def DJ:∀(l l':List Int),Asc l->Asc l'->(∀x,x∈l↔x∈l')->l=l'
 |[],[],_,_,_=>rfl
 |[],y::l',_,_,h=>by have:=(h y).2 (h_ ..);cases this
 |x::l,[],_,_,h=>by have:=(h x).1 (h_ ..);cases this
 |x::l,y::l',h1,h2,h=>by
  have c:=as_.1 h1;have d:=as_.1 h2;have f:x=y:=by
   have g:=(h x).1 (h_ ..);have j:=(h y).2 (h_ ..);rcases w_.1 g with e|k;.exact e
   rcases w_.1 j with e|n;.exact e.symm
   have:=c.1 y n;have:=d.1 x k;omega
  subst f;rw[DJ l l' c.2 d.2 λz=>?_];constructor
  .intro b;rcases w_.1 ((h z).1 (c_ _ b))with rfl|a;.have:=c.1 z b;omega
   .exact a
  .intro b;rcases w_.1 ((h z).2 (c_ _ b))with rfl|a;.have:=d.1 z b;omega
   .exact a
def wd{l l':List Int}(h:Asc l)(h':Asc l')(a:∀x∈l,∀y∈l',x<y):Asc (l++l'):=List.pairwise_append.2 ⟨h,h',a⟩
def z6{l:List Int}(h:Asc l){i j:Nat}(a:i<j)(b:j<l.length):l[i]<l[j]:=List.pairwise_iff_getElem.1 h i j (by omega) b a
open Classical in
noncomputable def sw(l:List Int):List Int:=if h:∃c,Asc c/\∀x,x∈c↔x∈l then A_ h else []
def pd{l c:List Int}(hc:Asc c)(a:∀x,x∈c↔x∈l):sw l=c:=by have b:∃c,Asc c/\∀x,x∈c↔x∈l:=⟨c,hc,a⟩;unfold sw;rw[dif_pos b];have hs:=P_ b;exact DJ _ _ hs.1 hc λx=>(hs.2 x).trans (a x).symm
section
variable {σ β σ' β':Type}
inductive F2(R:σ->σ'->Prop):List σ->List σ'->Prop
 |nil:F2 R [] []
 |cons {x:σ} {y:σ'} {l:List σ} {l':List σ'}:R x y->F2 R l l'->F2 R (x::l) (y::l')
theorem F2.len{R:σ->σ'->Prop}{l:List σ}{l':List σ'}(h:F2 R l l'):l.length=l'.length:=by induction h with|nil=>rfl|cons _ _ E=>simp[E]
theorem F2.get{R:σ->σ'->Prop}{l:List σ}{l':List σ'}(h:F2 R l l'):∀{i:Nat} {x:σ} {y:σ'},l[i]? =some x->l'[i]? =some y->R x y:=by induction h with|nil=>intro i x y h;simp at h|cons hr _ I=>intro i x y E H;cases i with|zero=>simp at E H;subst E H;exact hr|succ i=>exact I (by simpa using E) (by simpa using H)
theorem F2.app{R:σ->σ'->Prop}{l k:List σ}{l' E:List σ'}(h:F2 R l l')(h':F2 R k E):F2 R (l++k) (l'++E):=by induction h with|nil=>exact h'|cons hr _ H=>exact .cons hr H
def Pe(f:σ->β->σ)(acc:σ->Bool)(ls:List β)(s t:σ):Prop:=∀w:List β,(∀c∈w,c∈ls)->acc (w.foldl f s)=acc (w.foldl f t)
variable {f:σ->β->σ} {acc:σ->Bool} {ls:List β}
theorem Pe.refl(s:σ):Pe f acc ls s s:=λ_ _=>rfl
theorem Pe.symm{s t:σ}(h:Pe f acc ls s t):Pe f acc ls t s:=λw E=>(h w E).symm
theorem Pe.trans{s t u:σ}(h:Pe f acc ls s t)(h':Pe f acc ls t u):Pe f acc ls s u:=λw E=>(h w E).trans (h' w E)
theorem Pe.nil{s t:σ}(h:Pe f acc ls s t):acc s=acc t:=h [] (by simp)
theorem Pe.step{s t:σ}(h:Pe f acc ls s t){c:β}(hc:c∈ls):Pe f acc ls (f s c) (f t c):=λw H=>h (c::w) λx E=>by
 rcases w_.1 E with rfl|E;.exact hc
 .exact H x E
theorem Rf{P:σ->Prop}{b:σ->Int}(a:∀s c,c∈ls->P s->P (f s c))(e:∀s t,P s->P t->b s=b t->acc s=acc t) (hs:∀s t c,c∈ls->P s->P t->b s=b t->b (f s c)=b (f t c)) {s t:σ} (h1:P s) (h2:P t) (h:b s=b t):Pe f acc ls s t:=by intro w;induction w generalizing s t with|nil=>intro _;exact e s t h1 h2 h|cons c w j=>intro d;have hc:=d c (h_ ..);exact j (a s c hc h1) (a t c hc h2) (hs s t c hc h1 h2 h) λx g=>d x (c_ _ g)
theorem Le{P:σ->Prop}{b b':σ->Int}{m:Nat}(k:∀i:Nat,i<m->∃s,P s/\b s=(i:Int))(f:∀s,P s->0<=b' s/\b' s<(m:Int)) (e:∀s t,P s->P t->b' s=b' t->b s=b t) {s t:σ} (h1:P s) (h2:P t) (h:b s=b t):b' s=b' t:=by
 obtain⟨d,a⟩:∃d:Nat->σ,∀i,i<m->P (d i)/\b (d i)=(i:Int):=⟨λi=>if h:i<m then A_ (k i h)else s,λi c=>by simp only[c,dif_pos];exact P_ (k i c)⟩;have p:((G_ m).map λi=>b' (d i)).Nodup:=by rw[Z_,List.pairwise_map];refine List.Pairwise.imp_of_mem ?_ (Z_.1 List.nodup_range);intro i j c n B l;have c:=o_.1 c;have n:=o_.1 n;have:=e _ _ (a i c).1 (a j n).1 l;rw[(a i c).2,(a j n).2]at this;omega
 have g:∀x:Int,0<=x->x<(m:Int)->x∈(G_ m).map λi=>b' (d i):=by
  intro x D E;refine f_ λhn=>?_;have v:x∈(G_ m).map fun(i:Nat)=>(i:Int):=n_.2 ⟨x.toNat,o_.2 (by omega),by omega⟩;have:=f5 ((G_ m).map λi=>b' (d i)) (((G_ m).map fun(i:Nat)=>(i:Int)).erase x) p λy C=>by obtain⟨i,c,rfl⟩:=n_.1 C;have c:=o_.1 c;have A:=f _ (a i c).1;refine(List.mem_erase_of_ne ?_).2 (n_.2 ⟨(b' (d i)).toNat,o_.2 (by omega),by omega⟩);rintro rfl;exact hn (n_.2 ⟨i,o_.2 c,rfl⟩)
  have w:=List.length_erase_of_mem v;have z:=List.length_pos_of_mem v;simp only[g_,ax_]at this w z;omega
 have key:∀u,P u->b' u=b' (d (b u).toNat):=by intro u r;obtain⟨i,c,l⟩:=n_.1 (g _ (f u r).1 (f u r).2);have c:=o_.1 c;have:=e _ _ (a i c).1 r l;rw[(a i c).2]at this;rw[<-this];simp only[s_];exact l.symm
 rw[key s h1,key t h2,h]
variable [DecidableEq σ] [DecidableEq σ']
def dU(L:List σ)(ys:List σ):List σ:=ys.foldl (λL y=>if y∈L then L else L++[y]) L
theorem F6{x:σ}{i:Nat}:∀(l:List β) (st:List σ×List (Nat×β)×List Nat),(l.foldl (bC f x i) st).1=dU st.1 (l.map (f x))
 |[],_=>rfl
 |c::l,st=>by rw[T_,F6 l,C_];unfold dU;rw[T_];congr 1;unfold bC;split<;>rfl
theorem GZ(L ys zs:List σ):dU L (ys++zs)=dU (dU L ys) zs:=H_
theorem TK{L:List σ}{y:σ}(h:y∈L):dU L [y]=L:=by simp[dU,h]
theorem Py{L:List σ}{y:σ}(h:y∉L):dU L [y]=L++[y]:=by simp[dU,h]
end
open Go Go.Ev
def wh(g:G):Option Nat->Nat
 |none=>bK g.fi
 |some b=>bK ((G_ g.sp.length).flatMap λk=>if b.testBit k then CL g.pr k else [])
def yI(g:G)(a:Int):Nat:=bK ((G_ g.sp.length).filter (mU g a))
def eW(g:G)(x:Option Nat)(a:Int):Option Nat:=some (wh g x&&&yI g a)
def qh(g:G):Option Nat->Bool
 |none=>g.em
 |some b=>b&&&bK g.la != 0
def q9(l:List (Int×Int)):List Int:=0::l.flatMap λp=>p.1::(if p.2<4294967295 then [p.2+1]else [])
def zaa{g:G}(h:GY 0 g)(x:Option Nat):wh g x<2^g.sp.length:=by
 cases x with
 |none=>exact fv λp hp=>by have:=h.fi p hp;omega|some b=>
  refine fv λp hp=>?_;obtain⟨k,a,hp⟩:=v_.1 hp;split at hp;.have:=h.pr _ _ (jx.1 hp);omega
  .cases hp
def zaR(g:G)(a:Int):yI g a<2^g.sp.length:=fv λp hp=>by have:=(aj_.1 hp).1;exact o_.1 this
def zay{g:G}{n:Int}{p:Nat}(h:mU g n p=true):p<g.sp.length:=by
 unfold mU at h;split at h;.rename_i q a;exact(i_.1 a).1
 .cases h
def Fs(g:G)(a:Int)(p:Nat):(yI g a).testBit p=mU g a p:=by
 unfold yI;rw[cW];cases e:mU g a p;.exact decide_eq_false λb=>by rw[(aj_.1 b).2]at e;cases e
 .exact decide_eq_true (aj_.2 ⟨o_.2 (zay e),e⟩)
def TX(g:G)(q:Nat):(wh g none).testBit q=(ja g []).1 q:=by show(bK g.fi).testBit q=decide (q∈g.fi);rw[cW]
def TY{g:G}(h:GY 0 g)(b:Nat)(q:Nat):(wh g (some b)).testBit q=VF g b.testBit q:=by
 show(bK _).testBit q=_;rw[cW];cases e:VF g b.testBit q
 .refine decide_eq_false λc=>?_;obtain⟨k,d,hp⟩:=v_.1 c;split at hp;.rename_i a;have:=uL.2 ⟨k,a,jx.1 hp⟩;rw[this]at e;cases e
  .cases hp
 .obtain⟨p,h1,h2⟩:=uL.1 e;refine decide_eq_true (v_.2 ⟨p,o_.2 (by have:=h.pr p q h2;omega),?_⟩);rw[if_pos h1];exact jx.2 h2
def Vh{g:G}(h:GY 0 g):∀(w:List Int),(∀q,(wh g (w.foldl (eW g) none)).testBit q=(ja g w).1 q)/\(w≠[]->∃b,w.foldl (eW g) none=some b/\∀p,b.testBit p=(ja g w).2 p):=by
 intro w;rw[<-List.reverse_reverse w];induction w.reverse with
 |nil=>exact⟨TX g,λh=>absurd rfl h⟩|cons v l d=>
  rw[List.reverse_cons,H_,T_,List.foldl_nil];have a:ja g (l.reverse++[v])=pI g (ja g l.reverse) v:=by unfold ja;rw[H_];rfl
  have c:∀p,(wh g (l.reverse.foldl (eW g) none)&&&yI g v).testBit p=(ja g (l.reverse++[v])).2 p:=λp=>by rw[a,al_,d.1,Fs];rfl
  refine⟨λq=>?_,λ_=>⟨_,rfl,c⟩⟩;show(wh g (some _)).testBit q=_;rw[TY h,show VF g (wh g (l.reverse.foldl (eW g) none)&&&yI g v).testBit q=VF g (ja g (l.reverse++[v])).2 q from by rw[show(wh g (l.reverse.foldl (eW g) none)&&&yI g v).testBit=(ja g (l.reverse++[v])).2 from funext c],a];rfl
def TH(g:G)(b:Nat):qh g (some b)=g.la.any b.testBit:=by
 show(b&&&bK g.la != 0)=_;cases e:g.la.any b.testBit
 .have:b&&&bK g.la=0:=ao_ λi=>by
   rw[al_,cW,aE_];by_cases a:i∈g.la;.have:=au_.1 e i a;simp[this]
   .simp[a]
  rw[this];rfl
 .obtain⟨p,hp,d⟩:=aB_.1 e;have:b&&&bK g.la≠0:=λc=>by
   have h1:(b&&&bK g.la).testBit p=true:=by rw[al_,cW,d];simp[hp]
   rw[c,aE_]at h1;cases h1
  simpa using this
def V8{g:G}(h:GY 0 g)(w:List Int):qh g (w.foldl (eW g) none)=fZ g w:=by unfold fZ;cases w with|nil=>rfl|cons v w=>obtain⟨b,h1,h2⟩:=(Vh h (v::w)).2 (by simp);rw[h1,TH,show b.testBit=(ja g (v::w)).2 from funext h2];rfl
def W5{g:G}(hg:∀q∈g.sp,0<=q.1/\q.2<=4294967295){a v:Int}(k:a<=v)(r:v<=4294967295)(b:∀x∈q9 g.sp,x<=v->x<=a)(p:Nat):mU g v p=mU g a p:=by
 unfold mU;cases e:g.sp[p]? with
 |none=>rfl|some q=>
  have c:=r_ e;have h1:q.1∈q9 g.sp:=c_ _ (v_.2 ⟨q,c,h_ ..⟩);have h2:q.2<4294967295->q.2+1∈q9 g.sp:=λh=>c_ _ (v_.2 ⟨q,c,c_ _ (by rw[if_pos h];simp)⟩);have j:=b _ h1;have n:=hg q c;simp only;have d:decide (q.1<=v)=decide (q.1<=a):=decide_eq_decide.2 ⟨λh=>j h,λh=>by omega⟩;have f:decide (v<=q.2)=decide (a<=q.2):=decide_eq_decide.2 ⟨λh=>by omega,λh=>by
   by_cases l:q.2<4294967295;.have:=b _ (h2 l);apply f_;intro hn;have:=this (by omega);omega
   .omega⟩
  rw[d,f]
def Vs{g:G}(hg:∀q∈g.sp,0<=q.1/\q.2<=4294967295){a v:Int}(c:a<=v)(d:v<=4294967295)(b:∀x∈q9 g.sp,x<=v->x<=a)(x:Option Nat):eW g x v=eW g x a:=by
 unfold eW;have:yI g v=yI g a:=ao_ λi=>by rw[Fs,Fs];exact W5 hg c d b i
 rw[this]
def Z5{g:G}(hg:∀q∈g.sp,0<=q.1/\q.2<=4294967295)(b:∀q∈g.sp,q.1<=q.2):∀x∈q9 g.sp,0<=x/\x<=4294967295:=by
 intro x a;rcases w_.1 a with rfl|a;.omega
 obtain⟨q,c,a⟩:=v_.1 a;have h1:=hg q c;have h2:=b q c;rcases w_.1 a with rfl|a;.omega
 .split at a;.simp at a;omega
  .cases a
def My(l:List (Int×Int)):(q9 l).length<=2*l.length+1:=by
 unfold q9;rw[B_];have:∀m:List (Int×Int),(m.flatMap λp=>p.1::(if p.2<4294967295 then [p.2+1]else [])).length<=2*m.length:=by
  intro m;induction m with
  |nil=>simp|cons q m a=>
   rw[aw_,j_,B_,B_];split;.simp only[B_,U_];omega
   .simp only[U_];omega
 have:=this l;omega
def zej:∀(r:Rx),cN r=true->∀o,∀q∈(bO r o).sp,q.1<=q.2:=by
 refine fg λk lo s ks j p o=>?_;obtain⟨hn,d⟩:=eF.1 p;have f:∀(l:List Rx) (a:G),(∀r∈l,r∈ks)->(∀q∈a.sp,q.1<=q.2)->∀q∈(bZ l o a).sp,q.1<=q.2:=by
  intro l;induction l with
  |nil=>intro a _ h;exact h|cons r l g=>
   intro a hl h;refine g _ (λr hr=>hl r (c_ _ hr)) λq b=>?_;rcases p_.1 b with b|b;.exact h q b
   .exact j r (hl r (h_ ..)) (d r (hl r (h_ ..))) _ q b
 have n:∀(l:List Rx) (a:G),(∀r∈l,r∈ks)->(∀q∈a.sp,q.1<=q.2)->∀q∈(cY l o a).sp,q.1<=q.2:=by
  intro l;induction l with
  |nil=>intro a _ h;exact h|cons r l g=>
   intro a hl h;refine g _ (λr hr=>hl r (c_ _ hr)) λq b=>?_;rcases p_.1 b with b|b;.exact h q b
   .exact j r (hl r (h_ ..)) (d r (hl r (h_ ..))) _ q b
 have c:∀(e:Bool),∀q∈(g0 e).sp,q.1<=q.2:=λe q b=>by simp[g0]at b
 unfold bO;split;.rename_i h1;have:=hn.za h1;intro q b;simp only[IB,d_]at b;subst b;exact this.2.1
 split;.intro q b;simp only[IB,d_]at b;subst b;show(0:Int)<=4294967295;decide
 split;.exact n _ _ (λ_ h=>h) (c _)
 split;.exact f _ _ (λ_ h=>h) (c _)
 split;.exact f _ _ (λ_ h=>h) (c _)
 split;.exact f _ _ (λ_ h=>h) (c _)
 split;.exact f _ _ (λ_ h=>h) (c _)
 .exact c _
end Go.Pl
