import Derived.Test.YtmfolppncelceaaGreatDoorDPlPfx
import Derived.Test.YtmfolppncelceaaGreatDoorDGlueB
import Derived.Test.YtmfolppncelceaaGreatDoorDL7
set_option linter.unusedVariables false
set_option linter.unusedSimpArgs false
open Bool renaming and_eq_true->g_,true_and->P_,or_eq_false_iff->Q_,and_assoc->W_,or_eq_true->ah_,and_eq_false_iff->aj_
open Classical renaming byContradiction->j_,choose_spec->K_,not_not->aF_,choose->aG_
open Int renaming toNat_natCast->e_,toNat->u_,toNat_of_nonneg->T_,natCast_nonneg->X_,le_refl->aa_,eq_ofNat_of_zero_le->ad_
open Go.IntKind renaming wrap->s_
open List renaming getElem?_eq_getElem->a_,getElem_mem->b_,length_map->c_,replicate->f_,mem_cons_self->h_,length_append->i_,mem_cons_of_mem->k_,mem_singleton->l_,take_length->m_,take_of_length_le->n_,take_add_one->o_,mem_append->p_,length_cons->q_,length_take->r_,length_singleton->t_,getD->v_,range->w_,getElem?_append_left->x_,ext_getElem->z_,getElem?_replicate->A_,length_nil->B_,map_append->C_,length_replicate->D_,mem_of_mem_take->E_,getElem_map->F_,getElem?_eq_some_iff->G_,nil_append->H_,append_assoc->I_,drop_eq_nil_of_le->J_,take_append_drop->L_,all_eq_true->M_,any_eq_true->N_,getElem_set->O_,pairwise_append->R_,foldl_cons->S_,take_replicate->U_,take_succ_cons->V_,getElem?_append_right->Y_,pairwise_iff_getElem->Z_,map_cons->ab_,take_append_getElem->ac_,length_eq_one_iff->ae_,all_append->ai_,getElem?_eq_none->ak_,mem_of_getElem?->al_,map_congr_left->am_,any_eq_false->ao_,any_map->ap_,foldl_append->aq_,countP_cons->ar_,any_append->au_,length_set->av_,drop_zero->ax_,foldl->ay_,mem_range->az_,take_take->aA_,mem_cons->aC_
open Nat renaming le_refl->y_,le_of_lt->af_,le_trans->ag_,zero_le->as_,min_eq_left->aw_,beq_refl->aD_
open Option renaming bind->d_,toList_some->an_
open Prod renaming ext->aB_,mk->aE_
namespace Go.Proofs.YtmfolppncelceaaGreatDoor
open Go Go.Av Go.Ev Go.Pl
abbrev qg(x:Int):Prop:=0<=x/\x<=4294967295
theorem Jd(n m:Int):aF tbl qP [.d tI n,.d tI m] [] nW (min (max n 0) m,()):=
 aw rfl (aC Kh rfl (λO k=>Ko O k n m) (aa rfl))
theorem TL(k:Nat):(2:Int)^k=((2^k:Nat):Int):=by
 induction k with
 |zero=>rfl
 |succ k ih=>rw[Int.pow_succ,ih,Nat.pow_succ];rfl
theorem Ky(n:Nat)(hn:n<=32):aF tbl su [.d tI (n:Int)] [] qi (((4294967295*2^(32 - n)%4294967296:Nat):Int),()):=by
 refine aw rfl (aC MH rfl (λO k=>MS O k (n:Int)) ?_)
 unfold Db
 refine an (Jd (n:Int) 32) ?_
 have e:s_ .i64 (32 - min (max (n:Int) 0) 32)=((32 - n:Nat):Int):=by
  rw[wrap_i64 (by omega) (by omega)];omega
 refine aG (by simp only[e];exact decide_eq_true (by omega)) (aa ?_)
 simp only[e]
 rw[show min (u_ ((32 - n:Nat):Int)) (IntKind.bits .u32)=32 - n from by show min _ 32=_;omega,wrap_u32,TL]
 rfl
theorem C7(x n:Int)(hx:qg x)(h0:0<=n)(h1:n<=32):aF tbl pV [.d tW x,.d tI n] [] m6 (FK x n,()):=by
 obtain⟨a,rfl⟩:=ad_ hx.1
 obtain⟨k,rfl⟩:=ad_ h0
 refine aw rfl (aC MG rfl (λO m=>MR O m (a:Int) (k:Int)) ?_)
 unfold Da
 refine an (Ky k (by omega)) (aa ?_)
 rw[Sm (by have:=hx.2;omega) (Nat.mod_lt _ (by decide)),QG (by have:=hx.2;omega) (by omega)]
 rfl
theorem fK(p:xX)(hp:qg p.1):aF tbl cC [.d yP p] [] cf (gW p,()):=by
 refine aw rfl (aC Gt rfl (λO n=>GJ O n p) ?_)
 unfold wl
 refine aj (cr (b:=decide (p.2.1<=32)) (λ_=>aa rfl) ?_)
 refine aj (cr (b:=(FK p.1 p.2.1==p.1)) (λh=>?_) (aa rfl))
 simp only[g_,decide_eq_true_eq]at h
 exact an (C7 p.1 p.2.1 hp h.1 h.2) (aa rfl)
theorem KD(a n:Int)(ha:qg a)(h0:0<=n)(h1:n<=32):aF tbl sw [.d tW a,.d tI n] [] qj ((FK a n,n,()),()):=by
 refine aw rfl (aC MI rfl (λO k=>MU O k a n) ?_)
 unfold Dc
 exact an (C7 a n ha h0 h1) (aa rfl)
def Lc(p:xX)(a:Int):Bool:=gW p&&(FK a p.2.1==p.1)
def U6(p q:xX):Bool:=gW q&&(decide (p.2.1<=q.2.1)&&Lc p q.1)
theorem Rt{p:xX}(h:gW p=true):0<=p.2.1/\p.2.1<=32:=by
 unfold gW at h
 simp only[g_,decide_eq_true_eq]at h
 exact h.1
theorem r8(p:xX)(a:Int)(hp:qg p.1)(ha:qg a):aF tbl gz [.d yP p,.d tW a] [] ez (Lc p a,()):=by
 refine aw rfl (aC BG rfl (λO n=>BW O n p a) ?_)
 unfold sj
 refine an (fK p hp) (aj (cr (b:=(FK a p.2.1==p.1)) (λh=>?_) (aa rfl)))
 have hv:=Rt h
 refine an (KD a p.2.1 ha hv.1 hv.2) (aa ?_)
 show(false ^^ ((FK a p.2.1==p.1)&&((p.2.1==p.2.1)&&true)))=_
 simp
theorem Dz(p q:xX)(hp:qg p.1)(hq:qg q.1):aF tbl mn [.d yP p,.d yP q] [] jq (U6 p q,()):=by
 refine aw rfl (aC Ed rfl (λO n=>Ep O n p q) ?_)
 unfold vw
 refine an (fK q hq) (aj (cr (b:=decide (p.2.1<=q.2.1)) (λ_=>aa rfl) ?_))
 refine aj (cr (b:=Lc p q.1) (λ_=>an (r8 p q.1 hp hq) (aa rfl)) (aa ?_))
 unfold U6
 rw[W_]
theorem yQ(r:UQ)(hr:qg r.2.1.1):aF tbl lJ [.d yR r] [] fD (tM r,()):=by
 refine aw rfl (aC HH rfl (λO n=>H0 O n r) ?_)
 unfold y5
 refine an (fK r.2.1 hr) (ar (λh=>aa ?_) λh=>?_)
 ·unfold tM
  rw[if_pos (by simpa using h)]
 ·have hv:¬gW r.2.1=false:=by simpa using h
  refine aj (dw (b:=decide (r.2.2.2.1<r.2.2.1)) (λ_=>aa rfl) (aj (dw (b:=decide (r.2.2.2.1>32)) (λ_=>aa rfl) ?_)))
  refine ar (λh=>aa ?_) λh=>aa ?_
  ·unfold tM
   rw[if_neg hv,if_pos (by simpa[or_assoc]using h)]
  ·unfold tM
   rw[if_neg hv,if_neg]
   intro h'
   simp only[Q_,decide_eq_false_iff_not]at h
   omega
def QN(r:UQ)(p:xX):Bool:=(tM r==0)&&(U6 r.2.1 p&&(decide (r.2.2.1<=p.2.1)&&decide (p.2.1<=r.2.2.2.1)))
def TJ(l:List UQ)(p:xX):Bool:=match l.find? (λz=>QN z p)with|some r=>r.1|none=>false
theorem GQ(r:UQ)(p:xX)(hr:qg r.2.1.1)(hp:qg p.1):aF tbl o9 [.d yR r,.d yP p] [] lX (QN r p,()):=by
 refine aw rfl (aC HI rfl (λO n=>H1 O n r p) ?_)
 unfold y6
 refine an (yQ r hr) (aj (cr (b:=U6 r.2.1 p) (λ_=>an (Dz r.2.1 p hr hp) (aa rfl)) ?_))
 refine aj (cr (b:=decide (r.2.2.1<=p.2.1)) (λ_=>aa rfl) (aj (cr (b:=decide (p.2.1<=r.2.2.2.1)) (λ_=>aa rfl) (aa ?_))))
 unfold QN
 rw[W_,W_]
theorem Dy(l:List UQ)(p:xX)(hl:l.length<=9223372036854775807)(hr:∀r∈l,qg r.2.1.1)(hp:qg p.1):aF tbl mj [.d (.list yR) l,.d yP p] [] gm (TJ l p,()):=by
 refine aw rfl (aC Ea rfl (λO n=>Em O n l p) ?_)
 unfold vr
 refine aj (BK (xs:=l) (p:=(λz=>QN z p)) (g:=λr=>(r.1,())) (e:=()) (λi r hi=>?_) ?_ ?_)
 ·unfold nw
  have hlt:=(G_.1 hi).1
  refine bD hlt (EL hi (an (GQ r p (hr r (al_ hi)) hp) ?_))
  refine ar (λh=>aa ?_) λh=>aa ?_
  ·rw[if_pos h]
  ·rw[if_neg (by have h:QN r p=false:=h;simp[h]),aA hlt hl]
 ·unfold nw
  exact be (aa rfl)
 ·unfold TJ
  cases l.find? (λz=>QN z p)with
  |some r=>exact aa rfl
  |none=>exact aa rfl
end Go.Proofs.YtmfolppncelceaaGreatDoor
namespace Go.Pl
open Go.Ev
def bJ(M:Nat)(f:Nat->Bool):List Bool:=(w_ M).map f
theorem ol(M:Nat)(f:Nat->Bool):(bJ M f).length=M:=by simp[bJ]
theorem Uo{M i:Nat}(f:Nat->Bool)(h:i<(bJ M f).length):(bJ M f)[i]=f i:=by simp[bJ]
theorem mR{M:Nat}{f g:Nat->Bool}(h:∀i,i<M->f i=g i):bJ M f=bJ M g:=am_ λi hi=>h i (az_.1 hi)
theorem GB{M i:Nat}(f:Nat->Bool)(b:Bool):(bJ M f).set i b=bJ M λj=>if j=i then b else f j:=by
 refine z_ (by simp[bJ]) λj h1 h2=>?_
 have hj:j<M:=by simpa[bJ]using h2
 rw[O_]
 by_cases e:i=j
 ·subst e;simp[bJ]
 ·have e':¬j=i:=λh=>e h.symm
  simp[bJ,e,e']
theorem GA(M:Nat):f_ M false=bJ M λ_=>false:=by
 refine z_ (by simp[bJ]) λj h1 h2=>?_
 simp[bJ]
def QD(g:G)(n:Int)(p:Nat):Bool:=match g.sp[p]? with
 |some q=>decide (q.1<=n)&&decide (n<=q.2)
 |none=>false
def G4(g:G)(can:Nat->Bool)(n:Int)(p:Nat):Bool:=can p&&QD g n p
def WQ(g:G)(at_:Nat->Bool)(q:Nat):Bool:=g.pr.any λx=>at_ x.1&&decide (x.2=q)
def tU(g:G)(s:(Nat->Bool)×(Nat->Bool))(n:Int):(Nat->Bool)×(Nat->Bool):=(WQ g (G4 g s.1 n),G4 g s.1 n)
def nZ(g:G)(path:List Int):(Nat->Bool)×(Nat->Bool):=path.foldl (tU g) (λp=>decide (p∈g.fi),λ_=>false)
def uK(g:G)(path:List Int):Bool:=bif path.isEmpty then g.em else g.la.any (nZ g path).2
theorem Q9{g:G}{path:List Int}{i:Nat}(h:i<path.length):nZ g (path.take (i+1))=tU g (nZ g (path.take i)) path[i]:=by
 unfold nZ
 rw[o_,a_ h,aq_]
 rfl
theorem nxF_iff{g:G}{f:Nat->Bool}{q:Nat}:WQ g f q=true↔∃p,f p=true/\(p,q)∈g.pr:=by
 unfold WQ
 rw[N_]
 constructor
 ·rintro⟨⟨p,q'⟩,h1,h2⟩
  simp only[g_,decide_eq_true_eq]at h2
  obtain⟨h2,rfl⟩:=h2
  exact⟨p,h2,h1⟩
 ·rintro⟨p,h1,h2⟩
  exact⟨(p,q),h2,by simp[h1]⟩
def kq(path:List Int):Bool:=path.all λn=>decide (0<=n)&&decide (n<=4294967295)
theorem X5:∀(r:Rx),dq r=true->∀o,∀q∈(iG r o).sp,0<=q.1/\q.2<=4294967295:=by
 refine mN λk lo hi ks ih hw o=>?_
 obtain⟨hn,hks⟩:=well_iff.1 hw
 have hA:∀(l:List Rx) (a:G),(∀r∈l,r∈ks)->(∀q∈a.sp,0<=q.1/\q.2<=4294967295)->∀q∈(jH l o a).sp,0<=q.1/\q.2<=4294967295:=by
  intro l
  induction l with
  |nil=>intro a _ h;exact h
  |cons r l il=>
   intro a hl h
   refine il _ (λr hr=>hl r (k_ _ hr)) λq hq=>?_
   rcases p_.1 hq with hq|hq
   ·exact h q hq
   ·exact ih r (hl r (h_ ..)) (hks r (hl r (h_ ..))) _ q hq
 have hS:∀(l:List Rx) (a:G),(∀r∈l,r∈ks)->(∀q∈a.sp,0<=q.1/\q.2<=4294967295)->∀q∈(lR l o a).sp,0<=q.1/\q.2<=4294967295:=by
  intro l
  induction l with
  |nil=>intro a _ h;exact h
  |cons r l il=>
   intro a hl h
   refine il _ (λr hr=>hl r (k_ _ hr)) λq hq=>?_
   rcases p_.1 hq with hq|hq
   ·exact h q hq
   ·exact ih r (hl r (h_ ..)) (hks r (hl r (h_ ..))) _ q hq
 have h0:∀(e:Bool),∀q∈(g0 e).sp,0<=q.1/\q.2<=4294967295:=λe q hq=>by simp[g0]at hq
 unfold iG
 split
 ·rename_i h1
  have:=hn.rng h1
  intro q hq
  simp only[O8,l_]at hq
  subst hq
  exact⟨by omega,by omega⟩
 split
 ·intro q hq
  simp only[O8,l_]at hq
  subst hq
  exact⟨by decide,by decide⟩
 split
 ·exact hS _ _ (λ_ h=>h) (h0 _)
 split
 ·exact hA _ _ (λ_ h=>h) (h0 _)
 split
 ·exact hA _ _ (λ_ h=>h) (h0 _)
 split
 ·exact hA _ _ (λ_ h=>h) (h0 _)
 split
 ·exact hA _ _ (λ_ h=>h) (h0 _)
 ·exact h0 _
theorem Mm{g:G}:∀(l:List Int) (s:(Nat->Bool)×(Nat->Bool)),(∀p,s.1 p=false)->(∀p,s.2 p=false)->∀p,(l.foldl (tU g) s).2 p=false
 |[],s,_,h2,p=>h2 p
 |n::l,s,h1,h2,p=>by
  have ha:∀p,(tU g s n).2 p=false:=λp=>by show(s.1 p&&_)=false;rw[h1];rfl
  refine Mm l (tU g s n) (λq=>?_) ha p
  cases e:(tU g s n).1 q
  ·rfl
  ·obtain⟨p,hp,_⟩:=nxF_iff.1 (show WQ g (G4 g s.1 n) q=true from e)
   have:=ha p
   rw[show(tU g s n).2 p=G4 g s.1 n p from rfl,hp]at this
   cases this
theorem QO{r:Rx}(hw:dq r=true){path:List Int}(h:kq path=false):uK (iG r 0) path=false:=by
 have:∃n∈path,¬(0<=n/\n<=4294967295):=by
  refine j_ λhn=>?_
  have:kq path=true:=by
   unfold kq
   rw[M_]
   intro n hm
   have:=j_ λhq=>hn ⟨n,hm,hq⟩
   simp[this.1,this.2]
  rw[h]at this;cases this
 obtain⟨n,hm,ho⟩:=this
 obtain⟨l1,l2,rfl⟩:=List.append_of_mem hm
 unfold uK
 have he:(l1++n::l2).isEmpty=false:=by cases l1<;>rfl
 rw[he]
 show(iG r 0).la.any _=false
 rw[ao_]
 intro p hp
 have hh:∀p,QD (iG r 0) n p=false:=λp=>by
  unfold QD
  split
  ·rename_i q hq
   have:=X5 r hw 0 q (al_ hq)
   by_cases h1:q.1<=n
   ·have:¬n<=q.2:=by omega
    simp[this]
   ·simp[h1]
  ·rfl
 have ha:∀(s:(Nat->Bool)×(Nat->Bool)) p,(tU (iG r 0) s n).2 p=false:=λs p=>by show(_&&QD _ n p)=false;rw[hh,Bool.and_false]
 have:(nZ (iG r 0) (l1++n::l2)).2 p=false:=by
  unfold nZ
  rw[aq_,S_]
  refine Mm l2 _ (λq=>?_) (ha _) p
  cases e:(tU (iG r 0) (ay_ (tU (iG r 0)) (λp=>decide (p∈(iG r 0).fi),λ_=>false) l1) n).1 q
  ·rfl
  ·obtain⟨p,hp,_⟩:=nxF_iff.1 (show WQ _ _ q=true from e)
   have:=ha (ay_ (tU (iG r 0)) (λp=>decide (p∈(iG r 0).fi),λ_=>false) l1) p
   rw[show(tU (iG r 0) (ay_ (tU (iG r 0)) (λp=>decide (p∈(iG r 0).fi),λ_=>false) l1) n).2 p=G4 _ _ n p from rfl,hp]at this
   cases this
 simp[this]
open Go Go.Ev Go.Lib
def hd(t:List UInt8):Nat:=(t.headD 0).toNat
def pk(s:List UInt8)(i:Nat):Nat:=(s.getD i 0).toNat
theorem oA(s:List UInt8)(i:Nat):pk s i=hd (s.drop i):=by
 unfold pk hd
 rw[List.headD_eq_head?_getD,List.head?_drop];rfl
theorem jp{s:List UInt8}{i:Nat}(h:pk s i≠0):i<s.length:=by
 apply j_
 intro hn
 apply h
 unfold pk
 rw[v_,ak_ (by omega)];rfl
theorem WY{s:List UInt8}{i:Nat}(h:i<s.length):pk s i=s[i].toNat:=by
 unfold pk
 rw[v_,a_ h];rfl
theorem WX{s:List UInt8}{i:Nat}(h:¬i<s.length):pk s i=0:=by
 unfold pk
 rw[v_,ak_ (by omega)];rfl
theorem kg{s a t:List UInt8}{i:Nat}(h:s.drop i=a++t):s.drop (i+a.length)=t:=by
 rw[<-List.drop_drop,h,List.drop_left]
theorem wz{s t:List UInt8}{b:UInt8}{i:Nat}(h:s.drop i=b::t):s.drop (i+1)=t:=kg (a:=[b]) h
theorem JN{a t:List UInt8}(h:a≠[]):hd (a++t)=hd a:=by
 cases a with
 |nil=>exact absurd rfl h
 |cons b a=>rfl
def dg(c:Nat):Prop:=48<=c/\c<=57
section
variable (num:Nat->Option (Int×Nat)) (s:List UInt8)
def ki(alt:Nat->Option (Rx×Nat))(i:Nat):Option (Rx×Nat):=
 if pk s i=46 then some (.mk 2 0 0 [],i+1)
 else if pk s i=33 then some (.mk 4 0 0 [],i+1)
 else if pk s i=91 then
  match num (i+1)with
  |none=>none
  |some (lo,j)=>if pk s j=45 then(match num (j+1)with
   |none=>none
   |some (up,k)=>if pk s k=93 then some (.mk 1 lo up [],k+1)else none)else none
 else if pk s i=40 then
  if pk s (i+1)=41 then some (.mk 0 0 0 [],i+2)else
  match alt (i+1)with
  |none=>none
  |some (r,j)=>if pk s j=41 then some (r,j+1)else none
 else match num i with
  |none=>none
  |some (n,j)=>some (.mk 1 n n [],j)
def Bm(alt:Nat->Option (Rx×Nat))(i:Nat):Option (Rx×Nat):=
 match ki num s alt i with
 |none=>none
 |some (r,j)=>if pk s j=42 then some (.mk 5 0 0 [r],j+1)else if pk s j=43 then some (.mk 6 0 0 [r],j+1)else if pk s j=63 then some (.mk 7 0 0 [r],j+1)else some (r,j)
def mZ(sep:Nat)(one:Nat->Option (Rx×Nat)):Nat->List Rx->Nat->Option (List Rx×Nat)
 |0,_,_=>none
 |f+1,acc,i=>match one i with
  |none=>none
  |some (r,j)=>if pk s j=sep then mZ sep one f (acc++[r]) (j+1)else some (acc++[r],j)
def QA(k:Int)(l:List Rx):Rx:=match l with
 |[x]=>x
 |l=>.mk k 0 0 l
def Ht(sep:Nat)(k:Int)(one:Nat->Option (Rx×Nat))(i:Nat):Option (Rx×Nat):=match mZ s sep one (s.length+1 - i) [] i with
 |none=>none
 |some (l,j)=>some (QA k l,j)
def Q0(alt:Nat->Option (Rx×Nat))(i:Nat):Option (Rx×Nat):=Ht s 32 3 (Bm num s alt) i
def Bl:Nat->Nat->Option (Rx×Nat)
 |0,_=>none
 |b+1,i=>Ht s 124 4 (Q0 num s (Bl b)) i
end
structure NumOk(s:List UInt8)(num:Nat->Option (Int×Nat)):Prop where
 bnd:∀i n j,i<=s.length->num i=some (n,j)->i<j/\j<=s.length
 txt:∀i (m:Nat) t,s.drop i=decDigits m++t->m<=4294967295->¬dg (hd t)->num i=some ((m:Int),i+(decDigits m).length)
def P3(s:List UInt8)(one:Nat->Option (Rx×Nat)):Prop:=∀i r j,i<=s.length->one i=some (r,j)->i<j/\j<=s.length/\sz r<=j - i
section
variable {num:Nat->Option (Int×Nat)} {s:List UInt8}
theorem Sn(hn:NumOk s num){alt:Nat->Option (Rx×Nat)}(ha:P3 s alt):P3 s (ki num s alt):=by
 intro i r j hi h
 unfold ki at h
 have one:sz (.mk 0 0 0 [])=1:=rfl
 split at h
 ·rename_i h1
  have:=jp (s:=s) (i:=i) (by omega)
  cases h;refine⟨by omega,by omega,?_⟩;show 1<=_;omega
 split at h
 ·have:=jp (s:=s) (i:=i) (by omega)
  cases h;refine⟨by omega,by omega,?_⟩;show 1<=_;omega
 split at h
 ·have:=jp (s:=s) (i:=i) (by omega)
  split at h
  ·cases h
  rename_i lo a e
  have b1:=hn.bnd _ _ _ (by omega) e
  split at h
  ·have:=jp (s:=s) (i:=a) (by omega)
   split at h
   ·cases h
   rename_i up b e2
   have b2:=hn.bnd _ _ _ (by omega) e2
   split at h
   ·have:=jp (s:=s) (i:=b) (by omega)
    cases h;refine⟨by omega,by omega,?_⟩;show 1<=_;omega
   ·cases h
  ·cases h
 split at h
 ·have:=jp (s:=s) (i:=i) (by omega)
  split at h
  ·have:=jp (s:=s) (i:=i+1) (by omega)
   cases h;refine⟨by omega,by omega,?_⟩;show 1<=_;omega
  split at h
  ·cases h
  rename_i r2 a e
  obtain⟨b1,b2,b3⟩:=ha _ _ _ (by omega) e
  split at h
  ·have:=jp (s:=s) (i:=a) (by omega)
   cases h;exact⟨by omega,by omega,by omega⟩
  ·cases h
 split at h
 ·cases h
 rename_i n a e
 have b1:=hn.bnd _ _ _ hi e
 cases h;refine⟨by omega,by omega,?_⟩;show 1<=_;omega
theorem E7(hn:NumOk s num){alt:Nat->Option (Rx×Nat)}(ha:P3 s alt):P3 s (Bm num s alt):=by
 intro i r j hi h
 unfold Bm at h
 split at h
 ·cases h
 rename_i r2 a e
 obtain⟨b1,b2,b3⟩:=Sn hn ha _ _ _ hi e
 have hs:∀k:Int,sz (.mk k 0 0 [r2])=sz r2+1:=λk=>by simp only[sz,wZ];omega
 split at h
 ·have:=jp (s:=s) (i:=a) (by omega)
  cases h;rw[hs];exact⟨by omega,by omega,by omega⟩
 split at h
 ·have:=jp (s:=s) (i:=a) (by omega)
  cases h;rw[hs];exact⟨by omega,by omega,by omega⟩
 split at h
 ·have:=jp (s:=s) (i:=a) (by omega)
  cases h;rw[hs];exact⟨by omega,by omega,by omega⟩
 ·cases h;exact⟨b1,b2,b3⟩
theorem K1{one:Nat->Option (Rx×Nat)}(ho:P3 s one){sep:Nat}(h0:sep≠0):∀(f:Nat) (acc:List Rx) (i:Nat) (l:List Rx) (j:Nat),i<=s.length->mZ s sep one f acc i=some (l,j)->
 i<j/\j<=s.length/\wZ l+l.length<=wZ acc+acc.length+(j - i)+1/\acc.length<l.length
 |0,_,_,_,_,_,h=>by simp[mZ]at h
 |f+1,acc,i,l,j,hi,h=>by
  rw[mZ]at h
  split at h
  ·cases h
  rename_i r a e
  obtain⟨b1,b2,b3⟩:=ho _ _ _ hi e
  have e1:wZ (acc++[r])=wZ acc+sz r:=by rw[Kg];simp[wZ]
  split at h
  ·have:=jp (s:=s) (i:=a) (by omega)
   obtain⟨c1,c2,c3,c4⟩:=K1 ho h0 f _ _ _ _ (by omega) h
   rw[e1,i_,t_]at c3
   rw[i_,t_]at c4
   exact⟨by omega,by omega,by omega,by omega⟩
  ·cases h
   rw[e1,i_,t_]
   exact⟨by omega,by omega,by omega,by omega⟩
theorem Jm{one:Nat->Option (Rx×Nat)}(ho:P3 s one){sep:Nat}(h0:sep≠0)(k:Int):P3 s (Ht s sep k one):=by
 intro i r j hi h
 unfold Ht at h
 split at h
 ·cases h
 rename_i l a e
 obtain⟨b1,b2,b3,b4⟩:=K1 ho h0 _ _ _ _ _ hi e
 cases h
 refine⟨b1,b2,?_⟩
 unfold QA
 split
 ·simp[wZ]at b3;omega
 ·rename_i hne
  have:2<=l.length:=by
   match l,hne,b4 with
   |[],_,b4=>simp at b4
   |[x],hne,_=>exact absurd rfl (hne x)
   |x::y::l,_,_=>simp
  simp only[sz]
  simp[wZ]at b3
  omega
theorem Jl(hn:NumOk s num):∀b:Nat,P3 s (Bl num s b)
 |0=>λi r j _ h=>by simp[Bl]at h
 |b+1=>λi r j hi h=>by
  rw[Bl]at h
  exact Jm (one:=Q0 num s (Bl num s b)) (λi r j hi h=>Jm (one:=Bm num s (Bl num s b)) (E7 hn (Jl hn b)) (by decide) 3 i r j hi h) (by decide) 4 i r j hi h
end
mutual
def Kv:Rx->Nat
 | .mk _ _ _ ks=>1+Nq ks
def Nq:List Rx->Nat
 |[]=>0
 |r::rs=>max (Kv r) (Nq rs)
end
theorem Ex:∀{ks:List Rx} {r:Rx},r∈ks->Kv r<=Nq ks
 |x::ks,r,h=>by
  simp only[Nq]
  rcases aC_.1 h with rfl|h
  ·omega
  ·have:=Ex h;omega
theorem SE(w:Bool)(l t:List UInt8):uC w l++t=bif w then 40::(l++41::t)else l++t:=by
 cases w<;>simp[uC]
def fst(c:Nat):Prop:=dg c\/c=46\/c=33\/c=91\/c=40
theorem Ju(n:Nat):decDigits n≠[]/\dg (hd (decDigits n)):=by
 have h:=Le n
 have hd0:=AO n
 cases e:decDigits n with
 |nil=>rw[e]at h;simp at h
 |cons b l=>
  rw[e]at hd0
  exact⟨by simp,hd0 b (by simp)⟩
theorem EG:∀(r:Rx),dq r=true->j4 r≠[]/\fst (hd (j4 r)):=by
 refine mN λk lo up ks ih hw=>?_
 obtain⟨hn,hks⟩:=well_iff.1 hw
 have hin:∀p:Int,∀x∈ks,na p x≠[]/\fst (hd (na p x)):=λp x hx=>by
  obtain⟨h1,h2⟩:=ih x hx (hks x hx)
  unfold na uC
  cases sR p x
  ·exact⟨h1,h2⟩
  ·exact⟨by simp,.inr (.inr (.inr (.inr rfl)))⟩
 have hh:∀p:Int,∀t:List UInt8,ks≠[]->(ks.map (na p)).headD []++t≠[]/\fst (hd ((ks.map (na p)).headD []++t)):=λp t h=>by
  cases ks with
  |nil=>exact absurd rfl h
  |cons x l=>
   obtain⟨h1,h2⟩:=hin p x (h_ ..)
   simp only[ab_,List.headD_cons]
   rw[JN h1]
   exact⟨by simp[h1],h2⟩
 have hj:∀p:Int,∀c:UInt8,ks≠[]->jn c (ks.map (na p))≠[]/\fst (hd (jn c (ks.map (na p)))):=λp c h=>by
  cases ks with
  |nil=>exact absurd rfl h
  |cons x l=>
   obtain⟨h1,h2⟩:=hin p x (h_ ..)
   cases l with
   |nil=>exact⟨h1,h2⟩
   |cons y l=>
    simp only[ab_,jn]
    rw[JN h1]
    exact⟨by simp[h1],h2⟩
 have hne:(k=5\/k=6\/k=7)->ks≠[]:=λh e=>by
  have:=hn.one h
  rw[e]at this;simp at this
 have hne3:k=3->ks≠[]:=λh e=>by
  have:=hn.seq h
  rw[e]at this;simp at this
 simp only[j4,iy]
 split
 ·exact⟨by simp,.inr (.inr (.inr (.inr rfl)))⟩
 split
 ·exact⟨by simp,.inr (.inl rfl)⟩
 split
 ·split
  ·exact⟨(Ju _).1,.inl (Ju _).2⟩
  ·exact⟨by simp,.inr (.inr (.inr (.inl rfl)))⟩
 split
 ·exact hh 5 _ (hne (by omega))
 split
 ·exact hh 6 _ (hne (by omega))
 split
 ·exact hh 7 _ (hne (by omega))
 split
 ·split
  ·exact⟨by simp,.inr (.inr (.inl rfl))⟩
  ·rename_i h;exact hj 4 124 h
 ·rcases hn.known with h|h|h|h|h|h|h|h<;>try exact absurd h (by assumption)
  exact hj 3 32 (hne3 h)
def comp:Rx->Bool
 | .mk k _ _ ks=>bif k==4 then !ks.isEmpty else(k==3||k==5||k==6||k==7)
def Fb:Rx->Bool
 | .mk k _ _ ks=>bif k==4 then !ks.isEmpty else k==3
def Fc:Rx->Bool
 | .mk k _ _ ks=>bif k==4 then !ks.isEmpty else false
section
variable {num:Nat->Option (Int×Nat)} {s:List UInt8}
theorem OO(hn:NumOk s num){alt:Nat->Option (Rx×Nat)}{r:Rx}(hw:dq r=true)
 (ha:comp r=true->∀i t,s.drop i=j4 r++t->(hd t=0\/hd t=41)->alt i=some (r,i+(j4 r).length)) {i:Nat} {t:List UInt8}
 (h:s.drop i=uC (comp r) (j4 r)++t) (hf:¬dg (hd t)):ki num s alt i=some (r,i+(uC (comp r) (j4 r)).length):=by
 cases hc:comp r with
 |true=>
  rw[hc,SE]at h
  have h:s.drop i=40::(j4 r++41::t):=h
  have p0:pk s i=40:=by rw[oA,h];rfl
  have h1:=wz h
  obtain⟨f1,f2⟩:=EG r hw
  have p1:pk s (i+1)≠41:=by
   rw[oA,h1,JN f1]
   intro e
   rw[e]at f2
   revert f2;unfold fst dg;omega
  have h2:=ha hc (i+1) (41::t) h1 (.inr rfl)
  have p2:pk s (i+1+(j4 r).length)=41:=by rw[oA,kg h1];rfl
  unfold ki
  rw[if_neg (by omega),if_neg (by omega),if_neg (by omega),if_pos p0,if_neg p1,h2]
  simp only
  rw[if_pos p2]
  simp[uC];omega
 |false=>
  rw[hc]at h
  have h:s.drop i=j4 r++t:=h
  show _=some (r,i+(j4 r).length)
  obtain⟨k,lo,up,ks⟩:=r
  obtain⟨nd,hks⟩:=well_iff.1 hw
  rcases nd.known with rfl|rfl|rfl|rfl|rfl|rfl|rfl|rfl
  ·have e:=len_nil (nd.leaf (by simp));subst e
   obtain⟨rfl,rfl⟩:=nd.zero (by decide)
   have h:s.drop i=40::41::t:=h
   have p0:pk s i=40:=by rw[oA,h];rfl
   have p1:pk s (i+1)=41:=by rw[oA,wz h];rfl
   unfold ki
   rw[if_neg (by omega),if_neg (by omega),if_neg (by omega),if_pos p0,if_pos p1];rfl
  ·have e:=len_nil (nd.leaf (by simp));subst e
   obtain⟨r1,r2,r3⟩:=nd.rng rfl
   by_cases hl:lo=up
   ·subst hl
    have ep:j4 (.mk 1 lo lo [])=decDigits lo.toNat:=by simp[j4]
    rw[ep]at h⊢
    obtain⟨d1,d2⟩:=Ju lo.toNat
    have p0:dg (pk s i):=by rw[oA,h,JN d1];exact d2
    unfold dg at p0
    have hm:=hn.txt i lo.toNat t h (by omega) hf
    unfold ki
    rw[if_neg (by omega),if_neg (by omega),if_neg (by omega),if_neg (by omega),hm]
    simp only
    rw[T_ r1]
   ·have ep:j4 (.mk 1 lo up [])=91::(decDigits lo.toNat++45::(decDigits up.toNat++[93])):=by simp[j4,hl]
    rw[ep]at h⊢
    have h:s.drop i=91::(decDigits lo.toNat++45::(decDigits up.toNat++93::t)):=by rw[h];simp
    have p0:pk s i=91:=by rw[oA,h];rfl
    have h1:=wz h
    have m1:=hn.txt _ lo.toNat _ h1 (by omega) (by show ¬dg 45;unfold dg;omega)
    have h2:=kg h1
    have p2:pk s (i+1+(decDigits lo.toNat).length)=45:=by rw[oA,h2];rfl
    have h3:=wz h2
    have m2:=hn.txt _ up.toNat _ h3 (by omega) (by show ¬dg 93;unfold dg;omega)
    have p3:pk s (i+1+(decDigits lo.toNat).length+1+(decDigits up.toNat).length)=93:=by rw[oA,kg h3];rfl
    unfold ki
    rw[if_neg (by omega),if_neg (by omega),if_pos p0,m1]
    simp only
    rw[if_pos p2,m2]
    simp only
    rw[if_pos p3,T_ r1,T_ (by omega)]
    simp;omega
  ·have e:=len_nil (nd.leaf (by simp));subst e
   obtain⟨rfl,rfl⟩:=nd.zero (by decide)
   have h:s.drop i=46::t:=h
   have p0:pk s i=46:=by rw[oA,h];rfl
   unfold ki
   rw[if_pos p0];rfl
  ·exact absurd hc (by simp[comp])
  ·obtain⟨rfl,rfl⟩:=nd.zero (by decide)
   have e:ks=[]:=by simpa[comp]using hc
   subst e
   have h:s.drop i=33::t:=by rw[h];simp[j4]
   have p0:pk s i=33:=by rw[oA,h];rfl
   unfold ki
   rw[if_neg (by omega),if_pos p0];simp[j4]
  ·exact absurd hc (by simp[comp])
  ·exact absurd hc (by simp[comp])
  ·exact absurd hc (by simp[comp])
def f2(c:Nat):Prop:=c=0\/c=41\/c=124\/c=32
def RL(s:List UInt8)(alt:Nat->Option (Rx×Nat))(b:Nat):Prop:=∀r,dq r=true->Kv r<=b->∀i t,s.drop i=j4 r++t->(hd t=0\/hd t=41)->alt i=some (r,i+(j4 r).length)
theorem Ph(hn:NumOk s num){alt:Nat->Option (Rx×Nat)}{b:Nat}(ha:RL s alt b){r:Rx}(hw:dq r=true)(hb:Kv r<=b+1)(hb2:Fb r=true->Kv r<=b){i:Nat}{t:List UInt8}
 (h:s.drop i=na 3 r++t) (hf:f2 (hd t)):Bm num s alt i=some (r,i+(na 3 r).length):=by
 obtain⟨k,lo,up,ks⟩:=r
 obtain⟨nd,hks⟩:=well_iff.1 hw
 have hnd:¬dg (hd t):=by unfold f2 at hf;unfold dg;omega
 by_cases hk:k=5\/k=6\/k=7
 ·obtain⟨x,rfl⟩:=sM (nd.one hk)
  obtain⟨rfl,rfl⟩:=nd.zero (by omega)
  have hx:x∈[x]:=h_ ..
  have hd1:=Ex hx
  have hdx:Kv x<=b:=by simp only[Kv]at hb;omega
  have hwr:∀p:Int,(p=5\/p=6\/p=7)->na p x=uC (comp x) (j4 x):=λp hp=>by
   obtain⟨a,_,_,l⟩:=x
   unfold na
   have:((p==5||p==6)||p==7)=true:=by simp;omega
   simp only[sR,comp,this,Bool.and_true]
   have h3:(p != 4)=true:=by simp;omega
   rw[h3]
   cases(a==4)<;>cases(a==3)<;>simp
  have hsg:∃c:UInt8,na 3 (.mk k 0 0 [x])=uC (comp x) (j4 x)++[c]/\(c.toNat=42/\k=5\/c.toNat=43/\k=6\/c.toNat=63/\k=7):=by
   rcases hk with rfl|rfl|rfl
   ·refine⟨42,?_,by decide⟩
    show j4 (.mk 5 0 0 [x])=_
    simp[j4,iy,hwr]
   ·refine⟨43,?_,by decide⟩
    show j4 (.mk 6 0 0 [x])=_
    simp[j4,iy,hwr]
   ·refine⟨63,?_,by decide⟩
    show j4 (.mk 7 0 0 [x])=_
    simp[j4,iy,hwr]
  obtain⟨c,e,hc⟩:=hsg
  rw[e]at h⊢
  have h:s.drop i=uC (comp x) (j4 x)++c::t:=by rw[h];simp
  have ha1:=OO hn (hks x hx) (λ_=>ha x (hks x hx) hdx) h (by show ¬dg c.toNat;unfold dg;omega)
  have p1:pk s (i+(uC (comp x) (j4 x)).length)=c.toNat:=by rw[oA,kg h];rfl
  unfold Bm
  rw[ha1]
  simp only[p1,i_,t_]
  rcases hc with⟨hc,rfl⟩|⟨hc,rfl⟩|⟨hc,rfl⟩<;>simp[hc]<;>omega
 ·have e:na 3 (.mk k lo up ks)=uC (comp (.mk k lo up ks)) (j4 (.mk k lo up ks)):=by
   unfold na
   simp only[sR,comp]
   have h5:(k==5)=false:=by simp;omega
   have h6:(k==6)=false:=by simp;omega
   have h7:(k==7)=false:=by simp;omega
   rw[h5,h6,h7]
   cases(k==4)<;>cases(k==3)<;>simp
  have e2:comp (.mk k lo up ks)=Fb (.mk k lo up ks):=by
   simp only[comp,Fb]
   have h5:(k==5)=false:=by simp;omega
   have h6:(k==6)=false:=by simp;omega
   have h7:(k==7)=false:=by simp;omega
   rw[h5,h6,h7]
   cases(k==4)<;>cases(k==3)<;>simp
  rw[e]at h⊢
  have ha1:=OO hn hw (λhc=>ha _ hw (hb2 (by rw[<-e2];exact hc))) h hnd
  have p1:pk s (i+(uC (comp (.mk k lo up ks)) (j4 (.mk k lo up ks))).length)=hd t:=by rw[oA,kg h]
  unfold Bm
  rw[ha1]
  unfold f2 at hf
  simp only[p1]
  rw[if_neg (by omega),if_neg (by omega),if_neg (by omega)]
theorem JV{one:Nat->Option (Rx×Nat)}{f:Rx->List UInt8}{sep:UInt8}{E:Nat->Prop}:∀(ks:List Rx),ks≠[]->
 (∀x∈ks,∀i t,s.drop i=f x++t->(E (hd t)\/hd t=sep.toNat)->one i=some (x,i+(f x).length))->
 (∀x∈ks,f x≠[])->∀(fu:Nat) (acc:List Rx) (i:Nat) (t:List UInt8),s.drop i=jn sep (ks.map f)++t->E (hd t)->hd t≠sep.toNat->s.length+1<=fu+i->i<=s.length->
 mZ s sep.toNat one fu acc i=some (acc++ks,i+(jn sep (ks.map f)).length)
 |[],h,_,_,_,_,_,_,_,_,_,_,_=>absurd rfl h
 |[x],_,ho,hne,fu,acc,i,t,h,he,hs,hf,hi=>by
  have h:s.drop i=f x++t:=h
  have h1:=ho x (by simp) i t h (.inl he)
  obtain⟨m,rfl⟩:∃m,fu=m+1:=⟨fu - 1,by omega⟩
  have p1:pk s (i+(f x).length)=hd t:=by rw[oA,kg h]
  rw[mZ,h1]
  simp only
  rw[if_neg (by rw[p1];exact hs)]
  rfl
 |x::y::ks,_,ho,hne,fu,acc,i,t,h,he,hs,hf,hi=>by
  have h:s.drop i=f x++sep::(jn sep ((y::ks).map f)++t):=by rw[h];simp[jn]
  have h1:=ho x (by simp) i _ h (.inr rfl)
  obtain⟨m,rfl⟩:∃m,fu=m+1:=⟨fu - 1,by omega⟩
  have h2:=kg h
  have p1:pk s (i+(f x).length)=sep.toNat:=by rw[oA,h2];rfl
  have hlt:i+(f x).length<s.length:=by
   apply j_
   intro hge
   rw[J_ (by omega)]at h2
   cases h2
  have:=JV (y::ks) (by simp) (λz hz=>ho z (k_ _ hz)) (λz hz=>hne z (k_ _ hz)) m (acc++[x]) (i+(f x).length+1) t (wz h2) he hs (by omega) (by omega)
  rw[mZ,h1]
  simp only
  rw[if_pos p1,this]
  simp[jn];omega
theorem A8{k:Int}{l:List Rx}(h:l.length≠1):QA k l= .mk k 0 0 l:=by
 unfold QA
 split
 ·simp at h
 ·rfl
theorem seq_ok(hn:NumOk s num){alt:Nat->Option (Rx×Nat)}{b:Nat}(ha:RL s alt b){r:Rx}(hw:dq r=true)(hb:Kv r<=b+1)(hb2:Fc r=true->Kv r<=b){i:Nat}{t:List UInt8}
 (h:s.drop i=na 4 r++t) (hf:hd t=0\/hd t=41\/hd t=124) (hi:i<=s.length):Q0 num s alt i=some (r,i+(na 4 r).length):=by
 obtain⟨k,lo,up,ks⟩:=r
 obtain⟨nd,hks⟩:=well_iff.1 hw
 unfold Q0 Ht
 by_cases hk:k=3
 ·subst hk
  obtain⟨rfl,rfl⟩:=nd.zero (by decide)
  have h2:2<=(ks.length:Int):=nd.seq rfl
  have e:na 4 (.mk 3 0 0 ks)=jn 32 (ks.map (na 3)):=by
   show j4 (.mk 3 0 0 ks)=_
   simp[j4,iy]
  rw[e]at h⊢
  have hdk:∀x∈ks,Kv x<=b:=λx hx=>by
   have:=Ex hx
   simp only[Kv]at hb;omega
  have hne:ks≠[]:=by intro e;rw[e]at h2;simp at h2
  have:=JV (one:=Bm num s alt) (f:=na 3) (sep:=32) (E:=λc=>c=0\/c=41\/c=124) ks hne (λx hx i t hd0 hc=>Ph hn ha (hks x hx) (by have:=hdk x hx;omega) (λ_=>hdk x hx) hd0 (by
   unfold f2
   rcases hc with hc|hc
   ·omega
   ·rw[hc];decide)) (λx hx=>by
   unfold na uC
   cases sR 3 x
   ·exact(EG x (hks x hx)).1
   ·simp) (s.length+1 - i) [] i t h hf (by
   show hd t≠32
   omega) (by omega) hi
  have this:mZ s 32 (Bm num s alt) (s.length+1 - i) [] i=_:=this
  rw[this]
  simp only[H_]
  rw[A8 (by omega)]
 ·have e:na 4 (.mk k lo up ks)=na 3 (.mk k lo up ks):=by
   unfold na
   simp only[sR]
   have h3:(k==3)=false:=by simpa using hk
   rw[h3]
   cases(k==4)<;>simp
  have e2:Fb (.mk k lo up ks)=Fc (.mk k lo up ks):=by
   simp only[Fb,Fc]
   have h3:(k==3)=false:=by simpa using hk
   rw[h3]
  rw[e]at h⊢
  have h1:=Ph hn ha hw hb (by rw[e2];exact hb2) h (by unfold f2;omega)
  have p1:pk s (i+(na 3 (.mk k lo up ks)).length)=hd t:=by rw[oA,kg h]
  obtain⟨m,hm⟩:∃m,s.length+1 - i=m+1:=⟨s.length - i,by omega⟩
  rw[hm,mZ,h1]
  simp only
  rw[if_neg (by rw[p1];omega)]
  simp[QA]
theorem Jv{a t:List UInt8}{i:Nat}(h:s.drop i=a++t)(ha:a≠[]):i<s.length:=by
 apply j_
 intro hge
 rw[J_ (by omega)]at h
 have:=List.append_eq_nil_iff.1 h.symm
 exact ha this.1
theorem SV(p:Int){x:Rx}(hx:dq x=true):na p x≠[]:=by
 unfold na uC
 cases sR p x
 ·exact(EG x hx).1
 ·simp
theorem Sd(hn:NumOk s num):∀b:Nat,RL s (Bl num s b) b
 |0=>λr _ hb=>by cases r;simp[Kv]at hb
 |b+1=>λr hw hb i t h hf=>by
  have hi:=Jv h (EG r hw).1
  have ha:=Sd hn b
  rw[Bl]
  unfold Ht
  cases hc:Fc r with
  |true=>
   obtain⟨k,lo,up,ks⟩:=r
   obtain⟨nd,hks⟩:=well_iff.1 hw
   have hk:k=4:=by
    simp only[Fc]at hc
    cases e:(k==4)
    ·rw[e]at hc;cases hc
    ·simpa using e
   subst hk
   obtain⟨rfl,rfl⟩:=nd.zero (by decide)
   have hne:ks≠[]:=by simpa[Fc]using hc
   have h1:(ks.length:Int)≠1:=nd.alt rfl
   have e:j4 (.mk 4 0 0 ks)=jn 124 (ks.map (na 4)):=by
    simp[j4,iy,hne]
   rw[e]at h⊢
   have hdk:∀x∈ks,Kv x<=b:=λx hx=>by
    have:=Ex hx
    simp only[Kv]at hb;omega
   have:=JV (one:=Q0 num s (Bl num s b)) (f:=na 4) (sep:=124) (E:=λc=>c=0\/c=41) ks hne (λx hx i t hd0 hc=>seq_ok hn ha (hks x hx) (by have:=hdk x hx;omega) (λ_=>hdk x hx) hd0 (by
    rcases hc with hc|hc
    ·omega
    ·rw[hc];decide) (af_ (Jv hd0 (SV 4 (hks x hx))))) (λx hx=>SV 4 (hks x hx)) (s.length+1 - i) [] i t h hf (by
    show hd t≠124
    omega) (by omega) (af_ hi)
   have this:mZ s 124 (Q0 num s (Bl num s b)) (s.length+1 - i) [] i=_:=this
   rw[this]
   simp only[H_]
   rw[A8 (by omega)]
  |false=>
   have e:j4 r=na 4 r:=by
    obtain⟨k,lo,up,ks⟩:=r
    unfold na
    simp only[sR]
    simp only[Fc]at hc
    cases h4:(k==4)
    ·cases h3:(k==3)
     ·simp[uC]
     ·simp[uC]
    ·rw[h4]at hc
     simp only[cond_true]at hc
     simp only[cond_true,hc]
     rfl
   rw[e]at h⊢
   have h1:=seq_ok hn ha hw hb (λh=>by rw[hc]at h;cases h) h (by omega) (af_ hi)
   have p1:pk s (i+(na 4 r).length)=hd t:=by rw[oA,kg h]
   obtain⟨m,hm⟩:∃m,s.length+1 - i=m+1:=⟨s.length - i,by omega⟩
   rw[hm,mZ,h1]
   simp only
   rw[if_neg (by rw[p1];omega)]
   simp[QA]
end
theorem U2:∀(r:Rx) (lv c:Int),(Am r lv c).2=0->lv+(Kv r:Int)<=17:=by
 refine mN λk lo up ks ih lv c h=>?_
 rw[Am]at h
 split at h
 ·cases h
 split at h
 ·cases h
 split at h
 ·rename_i h0;exact absurd h h0
 have hks:∀(l:List Rx),(∀r∈l,r∈ks)->∀(c:Int),(lD l (lv+1) c).2=0->lv+1+(Nq l:Int)<=17:=by
  intro l
  induction l with
  |nil=>intro _ c _;simp only[Nq];omega
  |cons r l il=>
   intro hm c h
   rw[lD]at h
   split at h
   ·rename_i h0;exact absurd h h0
   ·rename_i h0
    have h1:=ih r (hm r (h_ ..)) (lv+1) c (aF_.1 h0)
    have h2:=il (λx hx=>hm x (k_ _ hx)) _ h
    simp only[Nq]
    omega
 have:=hks ks (λ_ h=>h) _ h
 simp only[Kv]
 omega
theorem Q2{num:Nat->Option (Int×Nat)}{r:Rx}(hn:NumOk (j4 r) num)(hw:dq r=true){b:Nat}(hb:Kv r<=b):Bl num (j4 r) b 0=some (r,(j4 r).length):=by
 have:=Sd hn b r hw hb 0 [] (by simp) (.inl rfl)
 rw[this,Nat.zero_add]
end Go.Pl
namespace Go.Proofs.YtmfolppncelceaaGreatDoor
open Go Go.Av Go.Ev Go.Pl
theorem Jf(k n:Int):aF tbl qQ [.d tI k,.d tI n] [] fz (wO k,nS k n,()):=by
 refine aw rfl (aC Kj rfl (λO m=>Kq O m k n) ?_)
 unfold Aw
 by_cases h0:k=0
 ·subst h0;exact qO (λ_=>rfl) rfl
 by_cases h1:k=1
 ·subst h1;exact qO (λ_=>rfl) rfl
 by_cases h2:k=2
 ·subst h2;exact qO (λ_=>rfl) rfl
 by_cases h3:k=3
 ·subst h3;exact qO (λ_=>rfl) rfl
 by_cases h4:k=4
 ·subst h4;exact qO (λ_=>rfl) rfl
 by_cases h5:k=5
 ·subst h5;exact qO (λ_=>rfl) rfl
 by_cases h6:k=6
 ·subst h6;exact qO (λ_=>rfl) rfl
 by_cases h7:k=7
 ·subst h7;exact qO (λ_=>rfl) rfl
 have e0:(k==(0:Int))=false:=by simpa using h0
 have e1:(k==(1:Int))=false:=by simpa using h1
 have e2:(k==(2:Int))=false:=by simpa using h2
 have e3:(k==(3:Int))=false:=by simpa using h3
 have e4:(k==(4:Int))=false:=by simpa using h4
 have e5:(k==(5:Int))=false:=by simpa using h5
 have e6:(k==(6:Int))=false:=by simpa using h6
 have e7:(k==(7:Int))=false:=by simpa using h7
 simp only[e0,e1,e2,e3,e4,e5,e6,e7]
 refine qO (λ_=>rfl) ?_
 simp only[wO,nS,e0,e1,e2,e3,e4,e5,e6,e7]
 rfl
theorem Ar(r:Rx):aF tbl nD [.d .rx r] [] fA (oz r.out.1 r.out.2.1 r.out.2.2.1 (r.out.2.2.2.1.length:Int),()):=by
 refine aw rfl (aC Kk rfl (λO m=>Kr O m r) ?_)
 unfold Ax
 generalize r.out.1=k
 generalize r.out.2.1=lo
 generalize r.out.2.2.1=hi
 generalize(r.out.2.2.2.1.length:Int)=n
 refine an (Jf k n) ?_
 unfold oz
 cases wO k
 ·exact qO (λ_=>rfl) rfl
 cases e1:(k==(1:Int))
 ·have f1:(k != (1:Int))=true:=by simpa[bne]using e1
  rw[f1]
  cases(lo != (0:Int))<;>cases(hi != (0:Int))<;>cases nS k n<;>exact qO (λ_=>rfl) rfl
 ·have f1:(k != (1:Int))=false:=by simpa[bne]using e1
  rw[f1]
  cases decide (lo<(0:Int))<;>cases decide (lo>hi)<;>cases decide (hi>(4294967295:Int))<;>cases nS k n<;>exact qO (λ_=>rfl) rfl
theorem J7{k lo up:Int}{ks:List Rx}{M:Nat}(h:sz (.mk k lo up ks)<=M):ks.length<M/\∀r∈ks,sz r<M:=by
 simp only[sz]at h
 have h1:=EJ ks
 exact⟨by omega,λr hr=>by have:=xP hr;omega⟩
theorem Jh:∀(r:Rx),sz r<=1000000->aF tbl nE [.d .rx r] [] gR (dq r,()):=by
 refine mN λk lo up ks ih hs=>?_
 obtain⟨hlen,hkid⟩:=J7 hs
 refine aw rfl (aC Km rfl (λO m=>Kt O m (.mk k lo up ks)) ?_)
 unfold Az
 refine an (Ar _) ?_
 show Wp _ _
 have hw:dq (.mk k lo up ks)=(oz k lo up ks.length==0&&xk ks):=rfl
 refine ar (λh=>aa ?_) λh=>?_
 ·have:(oz k lo up ks.length==0)=false:=by
   have h:(oz k lo up ks.length != 0)=true:=h
   simpa[bne]using h
  rw[hw,this];rfl
 ·have h0:(oz k lo up ks.length==0)=true:=by
   have h:(oz k lo up ks.length != 0)=false:=h
   simpa[bne]using h
  rw[hw,h0,P_]
  refine aj (EK (xs:=ks) (P:=λr=>dq r=true) (e:=(false,())) (g:=()) (λi hi=>?_) ?_ (λhg=>?_) (λhb=>?_))
  ·unfold rq
   refine bD hi (aM hi ?_)
   rw[od]
   have hr:=b_ hi
   refine an (ih ks[i] hr (by have:=hkid _ hr;omega)) (BL ?_ (by rw[aA hi (by omega)]))
   show(!dq ks[i])=true↔_
   simp
  ·unfold rq
   exact be (aa rfl)
  ·refine aa ?_
   rw[(u4 ks).2 hg]
  ·refine aa ?_
   have:xk ks=false:=by
    cases hq:xk ks
    ·rfl
    ·exact absurd ((u4 ks).1 hq) hb
   rw[this]
theorem Il{ks:List Rx}{lv c:Int}:∀{i:Nat},(h:i<ks.length)->(lD (ks.take i) lv c).2=0->lD (ks.take (i+1)) lv c=(let p:=Am ks[i] lv (lD (ks.take i) lv c).1;(p.1,p.2)):=by
 intro i
 induction ks generalizing c i with
 |nil=>intro h;simp at h
 |cons r ks ih=>
  intro h h0
  cases i with
  |zero=>
   simp only[List.take_zero,V_,lD,List.getElem_cons_zero]
   split
   ·rfl
   ·rename_i hz
    have:(Am r lv c).2=0:=by simpa using hz
    exact aB_ rfl this.symm
  |succ i=>
   simp only[V_,lD,List.getElem_cons_succ]at h0⊢
   split at h0
   ·rename_i hz;exact absurd h0 hz
   ·rename_i hz
    rw[if_neg hz,if_neg hz]
    exact ih (by simpa using h) h0
theorem K5{lv:Int}:∀{ks:List Rx} {c:Int} {i:Nat},(lD (ks.take i) lv c).2≠0->lD ks lv c=lD (ks.take i) lv c:=by
 intro ks
 induction ks with
 |nil=>intro c i h;simp[lD]at h
 |cons r ks ih=>
  intro c i h
  cases i with
  |zero=>simp[lD]at h
  |succ i=>
   simp only[V_,lD]at h⊢
   split at h
   ·rename_i hz;rw[if_pos hz,if_pos hz]
   ·rename_i hz;rw[if_neg hz,if_neg hz];exact ih h
theorem Ik:∀(r:Rx) (lv c:Int),0<=c->c<=64->c<=(Am r lv c).1/\(Am r lv c).1<=64:=by
 refine mN λk lo up ks ih lv c h0 h1=>?_
 have hs:∀(l:List Rx) (lv c:Int),(∀r∈l,r∈ks)->0<=c->c<=64->c<=(lD l lv c).1/\(lD l lv c).1<=64:=by
  intro l
  induction l with
  |nil=>intro lv c _ h0 h1;exact⟨aa_ _,h1⟩
  |cons r l ihl=>
   intro lv c hl h0 h1
   have hr:=ih r (hl r (h_ ..)) lv c h0 h1
   simp only[lD]
   split
   ·exact hr
   ·have:=ihl lv (Am r lv c).1 (λx hx=>hl x (k_ _ hx)) (by omega) hr.2
    omega
 simp only[Am]
 split
 ·exact⟨aa_ _,h1⟩
 split
 ·exact⟨aa_ _,h1⟩
 split
 ·exact⟨aa_ _,h1⟩
 ·have:=hs ks (lv+1) (c+1) (λ_ h=>h) (by omega) (by omega)
  omega
theorem GY:∀(r:Rx),sz r<=1048576->∀(lv c:Int),0<=lv->lv<=17->0<=c->c<=64->∃s:Int,((Am r lv c).2=0->s=(Am r lv c).1)/\
 aF tbl ei [.d .rx r,.d tI lv,.ptr 0 0] [.box cV [.d tI c]] bA ((Am r lv c).2,s,()):=by
 refine mN λk lo up ks ih hs lv c hl0 hl1 hc0 hc1=>?_
 obtain⟨hlen,hkid⟩:=J7 hs
 suffices h:∃x:Int×Int×Unit,(x.1=(Am (.mk k lo up ks) lv c).2/\((Am (.mk k lo up ks) lv c).2=0->x.2.1=(Am (.mk k lo up ks) lv c).1))/\aF tbl ei [.d .rx (.mk k lo up ks),.d tI lv,.ptr 0 0] [.box cV [.d tI c]] bA x by
  obtain⟨⟨e,s,_⟩,⟨he,h1⟩,h2⟩:=h
  have he:e=_:=he
  subst he
  exact⟨s,h1,h2⟩
 refine AJ (sh:=bA) (λ_=>rfl) (aC BH rfl (λO m=>BX O m (.mk k lo up ks) lv c) ?_)
 unfold sn
 refine ar (λh=>aa ⟨_,rfl,?_⟩) λh=>?_
 ·have h:lv>16:=by simpa using h
  simp only[Am,if_pos h]
  exact⟨trivial,λh=>by cases h⟩
 have h1:¬lv>16:=by simpa using h
 refine ar (λh=>aa ⟨_,rfl,?_⟩) λh=>?_
 ·have h:c>=64:=by simpa using h
  simp only[Am,if_neg h1,if_pos h]
  exact⟨trivial,λh=>by cases h⟩
 have h2:¬c>=64:=by simpa using h
 refine an (Ar _) ?_
 show Wp _ _
 refine ar (λh=>aa ⟨_,rfl,?_⟩) λh=>?_
 ·have h:oz k lo up ks.length≠0:=by
   have h:(oz k lo up ks.length != 0)=true:=h
   simpa using h
  simp only[Am,if_neg h1,if_neg h2,if_pos h]
  exact⟨rfl,λh'=>absurd h' h⟩
 have h3:¬oz k lo up ks.length≠0:=by
  have h:(oz k lo up ks.length != 0)=false:=h
  simpa using h
 have ec:Am (.mk k lo up ks) lv c=lD ks (lv+1) (c+1):=by simp only[Am,if_neg h1,if_neg h2,if_neg h3]
 rw[ec,wrap_i64 (by omega) (by omega)]
 have hrange:∀i,(lD (ks.take i) (lv+1) (c+1)).2=0->0<=(lD (ks.take i) (lv+1) (c+1)).1/\(lD (ks.take i) (lv+1) (c+1)).1<=64:=by
  intro i
  induction i with
  |zero=>intro _;simp[lD];omega
  |succ i ihi=>
   intro h0
   by_cases hi:i<ks.length
   ·have hz:(lD (ks.take i) (lv+1) (c+1)).2=0:=j_ λhn=>by
     have:=K5 (ks:=ks.take (i+1)) (lv:=lv+1) (c:=c+1) (i:=i) (by rw[aA_,show min i (i+1)=i by omega];exact hn)
     rw[aA_,show min i (i+1)=i by omega]at this
     rw[this]at h0
     exact hn h0
    rw[Il hi hz]
    have hr:=ihi hz
    have:=Ik ks[i] (lv+1) _ hr.1 hr.2
    exact⟨by show 0<=(Am ks[i] _ _).1;omega,this.2⟩
   ·rw[show ks.take (i+1)=ks.take i by rw[n_ (by omega),n_ (by omega)]]at h0⊢
    exact ihi h0
 refine aj (bc (N:=ks.length) (I:=λi s=>s=((i:Int),(lD (ks.take i) (lv+1) (c+1)).1,())/\(lD (ks.take i) (lv+1) (c+1)).2=0) (by simp[lD]) (λi s hi hs=>?_) λs hs=>?_)
 ·obtain⟨rfl,hz⟩:=hs
  unfold lA
  refine bD hi (aM hi ?_)
  rw[od,wrap_i64 (by omega) (by omega)]
  have hr:=b_ hi
  have hrg:=hrange i hz
  obtain⟨s,hs0,hs1⟩:=ih ks[i] hr (by have:=hkid _ hr;omega) (lv+1) _ (by omega) (by omega) hrg.1 hrg.2
  refine an hs1 ?_
  have ht:=Il hi hz
  refine ar (λh=>aa ?_) λh=>aa ?_
  ·have hn:(Am ks[i] (lv+1) (lD (ks.take i) (lv+1) (c+1)).1).2≠0:=by simpa using h
   have he:=K5 (ks:=ks) (lv:=lv+1) (c:=c+1) (i:=i+1) (by rw[ht];exact hn)
   refine aa ⟨_,rfl,?_⟩
   rw[he,ht]
   exact⟨rfl,λh'=>absurd h' hn⟩
  ·have hn:(Am ks[i] (lv+1) (lD (ks.take i) (lv+1) (c+1)).1).2=0:=by simpa using h
   refine⟨?_,by rw[ht];exact hn⟩
   rw[aA hi (by omega),ht,hs0 hn]
 ·obtain⟨rfl,hz⟩:=hs
  unfold lA
  refine be (aa (aa ⟨_,rfl,?_⟩))
  rw[m_]at hz⊢
  exact⟨hz.symm,λ_=>rfl⟩
def iv(r:Rx):Int:=(Am r 1 0).2
theorem GU(r:Rx)(hs:sz r<=1048576):aF tbl pd [.d .rx r] [] lY (iv r,()):=by
 refine aw rfl (aC HM rfl (λO m=>H4 O m r) ?_)
 unfold y9
 obtain⟨s,_,h⟩:=GY r hs 1 0 (by decide) (by decide) (by decide) (by decide)
 exact an h (aa rfl)
theorem Ss:∀(r:Rx) (lv c:Int),(Am r lv c).2=0->dq r=true/\(Am r lv c).1=c+(sz r:Int):=by
 refine mN λk lo up ks ih lv c h=>?_
 have hs:∀(l:List Rx) (lv c:Int),(∀r∈l,r∈ks)->(lD l lv c).2=0->(∀r∈l,dq r=true)/\(lD l lv c).1=c+(wZ l:Int):=by
  intro l
  induction l with
  |nil=>intro lv c _ _;exact⟨by simp,by simp[lD,wZ]⟩
  |cons r l ihl=>
   intro lv c hl h
   simp only[lD]at h⊢
   split at h
   ·rename_i hz;exact absurd h hz
   ·rename_i hz
    rw[if_neg hz]
    have hz:(Am r lv c).2=0:=by simpa using hz
    obtain⟨h1,h2⟩:=ih r (hl r (h_ ..)) lv c hz
    obtain⟨h3,h4⟩:=ihl lv _ (λx hx=>hl x (k_ _ hx)) h
    refine⟨λx hx=>?_,by rw[h4,h2];simp only[wZ];omega⟩
    rcases aC_.1 hx with rfl|hx
    ·exact h1
    ·exact h3 x hx
 simp only[Am]at h⊢
 split at h
 ·exact absurd h (by simp)
 split at h
 ·exact absurd h (by simp)
 split at h
 ·rename_i hz;exact absurd h hz
 ·rename_i a b hz
  rw[if_neg a,if_neg b,if_neg hz]
  obtain⟨h1,h2⟩:=hs ks (lv+1) (c+1) (λ_ h=>h) h
  have hz:oz k lo up ks.length=0:=by simpa using hz
  exact⟨well_iff.2 ⟨nodeE_zero.1 hz,h1⟩,by rw[h2];simp only[sz];omega⟩
theorem Ij{r:Rx}(h:iv r=0):dq r=true/\sz r<=64:=by
 obtain⟨h1,h2⟩:=Ss r 1 0 h
 have:=Ik r 1 0 (by decide) (by decide)
 exact⟨h1,by omega⟩
open Go Go.Av Go.Ev Go.Pl Go.Lib
theorem Wj{n:Int}(h0:0<=n)(h1:n<=4294967295):aF tbl ke [.d tI n] [] rL (decDigits n.toNat,()):=by
 refine tx Gw ?_ rfl
 have hb:Vk n=true:=by simp only[Vk,g_,decide_eq_true_eq];omega
 have hi:Lib.itoa n=decDigits n.toNat:=by unfold Lib.itoa;rw[if_neg (by omega)]
 simp only[xK,hb,cond_true,hi]
 rfl
theorem B1{n:Int}(h0:0<=n)(h1:n<=4294967295):aF tbl gg [.d tI n] [] eF (decDigits n.toNat,()):=by
 refine aw rfl (aC D9 rfl (λO k=>El O k n) ?_)
 unfold vq
 exact an (Wj h0 h1) (aa rfl)
theorem Ul(ks:List Rx)(i:Nat):wZ (ks.take i)<=wZ ks:=by
 have:=Kg (ks.take i) (ks.drop i)
 rw[L_]at this
 omega
theorem SU(p:Int){x:Rx}(hw:dq x=true):(na p x).length+1<=26*sz x:=by
 have:=Pd p x
 have:=J0 x hw
 omega
theorem Wh(p:Int):∀l:List Rx,(∀x∈l,dq x=true)->((l.map (na p)).map λx=>x.length+1).sum<=26*wZ l
 |[],_=>by simp
 |r::l,h=>by
  have h1:=SU p (h r (h_ ..))
  have h2:=Wh p l λx hx=>h x (k_ _ hx)
  simp only[ab_,List.sum_cons,wZ]at*
  omega
theorem YF(c:UInt8)(p:Int)(l:List Rx)(h:∀x∈l,dq x=true):(jn c (l.map (na p))).length<=26*wZ l:=ag_ (NG c _) (Wh p l h)
theorem HU{α β:Type}(f:α->β){l:List α}{i:Nat}(h:i<l.length):(l.take (i+1)).map f=(l.take i).map f++[f l[i]]:=by
 rw[o_,a_ h,C_];rfl
theorem vm(k:Int):aF tbl ji [.d tI k] [] gn (k==5||k==6||k==7,()):=by
 refine aw rfl (aC Ef rfl (λO m=>Er O m k) ?_)
 unfold vA
 cases(k==(5:Int))<;>cases(k==(6:Int))<;>exact qO (λ_=>rfl) rfl
theorem Lz(ks:List Rx):decide ((ks.length:Int)>0)= !ks.isEmpty:=by
 cases ks with
 |nil=>rfl
 |cons x l=>simp
theorem Uu(p k lo up:Int)(ks:List Rx):sR p (.mk k lo up ks)=bif k==4 then !ks.isEmpty else bif k==3 then p != 4 else(k==5||k==6||k==7)&&(p==5||p==6||p==7):=rfl
theorem DF(p:Int)(x:Rx):aF tbl mq [.d tI p,.d .rx x] [] eH (sR p x,()):=by
 obtain⟨k,lo,up,ks⟩:=x
 refine aw rfl (aC Eg rfl (λO m=>Es O m p (.mk k lo up ks)) ?_)
 unfold vB
 rw[Uu]
 refine ar (λh=>aa ?_) λh=>?_
 ·have h:(k==4)=true:=h
  rw[h,cond_true,<-Lz];rfl
 have h:(k==4)=false:=h
 rw[h,cond_false]
 refine ar (λh=>aa ?_) λh=>?_
 ·have h:(k==3)=true:=h
  rw[h];rfl
 have h:(k==3)=false:=h
 rw[h,cond_false]
 refine an (vm k) (aj (cr (b:=(p==5||p==6||p==7)) (λ_=>an (vm p) (aa rfl)) (aa rfl)))
theorem LC(p:Int)(x:Rx)(hl:(j4 x).length<=1000000)(h:aF tbl gA [.d .rx x] [] d4 (j4 x,())):aF tbl fB [.d tI p,.d .rx x] [] cW (na p x,()):=by
 refine aw rfl (aC HR rfl (λO m=>H9 O m p x) ?_)
 unfold zh
 refine an h (an (DF p x) (ar (λhb=>aG (decide_eq_true ?_) (aG (decide_eq_true ?_) (aa ?_))) λhb=>aa ?_))
 ·show 1+(j4 x).length<=_;omega
 ·show(j4 x).length+1+1<=_;omega
 ·have hb:sR p x=true:=hb
  unfold na;rw[hb];rfl
 ·have hb:sR p x=false:=hb
  unfold na;rw[hb];rfl
theorem I6(k lo up:Int)(ks:List Rx)(c:UInt8)(hw:∀x∈ks,dq x=true)(hz:wZ ks<=1000)(h:∀x∈ks,aF tbl gA [.d .rx x] [] d4 (j4 x,())):
 Wp (λn=>aS n (ny (qw tbl n) n (.mk k lo up ks) ([c],())) (([]:List UInt8),(0:Int),())) λt=>t=(jn c (ks.map (na k)),()):=by
 have hlen:=EJ ks
 refine bc (N:=ks.length) (I:=λi s=>s=(jn c ((ks.take i).map (na k)),(i:Int),())) rfl ?_ ?_
 ·rintro i s hi rfl
  have hm:=b_ hi
  have hj:=YF c k (ks.take i) λx hx=>hw x (E_ hx)
  have hst:=Ul ks i
  have hin:=SU k (hw _ hm)
  have hsm:=xP hm
  have hp:=J0 _ (hw _ hm)
  unfold ny
  refine bD hi (aM hi ?_)
  have hc:=LC k ks[i] (by omega) (h _ hm)
  rw[HU _ hi,Pi]
  refine aj (Ev.wp_mono (Q:=λv=>v=((if(ks.take i).map (na k)=[]then []else jn c ((ks.take i).map (na k))++[c]),ks[i].out.1,ks[i].out.2.1,ks[i].out.2.2.1,ks[i].out.2.2.2.1,())) (ar (λhb=>aG (decide_eq_true ?_) (aa ?_)) λhb=>aa ?_) ?_)
  ·show(jn c ((ks.take i).map (na k))).length+1<=_;omega
  ·have hb:(i:Int)>0:=of_decide_eq_true hb
   rw[if_neg (by intro e;have:=congrArg List.length e;rw[c_,r_,B_]at this;omega)];rfl
  ·have hb:¬(i:Int)>0:=of_decide_eq_false hb
   have:i=0:=by omega
   subst this
   rfl
  rintro v rfl
  rw[od]
  refine an hc (aG (decide_eq_true ?_) (aa ?_))
  ·show(if(ks.take i).map (na k)=[]then []else jn c ((ks.take i).map (na k))++[c]).length+(na k ks[i]).length<=_
   split
   ·simp only[B_];omega
   ·simp only[i_,q_,B_];omega
  ·show(_,s_ .i64 ((i:Int)+1),())=_
   rw[aA hi (by omega)]
   refine aB_ ?_ rfl
   show(if(ks.take i).map (na k)=[]then []else jn c ((ks.take i).map (na k))++[c])++na k ks[i]=_
   split<;>simp
 ·rintro s rfl
  unfold ny
  rw[m_]
  exact be (aa rfl)
theorem Jg:∀(r:Rx),dq r=true->sz r<=1000->aF tbl gA [.d .rx r] [] d4 (j4 r,()):=by
 refine mN λk lo up ks ih hw hs=>?_
 obtain⟨nd,hks⟩:=well_iff.1 hw
 have hsz:wZ ks<=1000:=by simp only[sz]at hs;omega
 have hsh:∀x∈ks,aF tbl gA [.d .rx x] [] d4 (j4 x,()):=λx hx=>ih x hx (hks x hx) (by have:=xP hx;omega)
 refine aw rfl (aC Kl rfl (λO m=>Ks O m (.mk k lo up ks)) ?_)
 unfold Ay
 have one:∀x,ks=[x]->∀p:Int,aF tbl fB [.d tI p,.d .rx x] [] cW (na p x,())/\(na p x).length<=26000:=λx e p=>by
  have hx:x∈ks:=by rw[e];exact h_ ..
  have h1:=J0 x (hks x hx)
  have h2:=xP hx
  have h3:=SU p (hks x hx)
  exact⟨LC p x (by omega) (hsh x hx),by omega⟩
 rcases nd.known with rfl|rfl|rfl|rfl|rfl|rfl|rfl|rfl
 ·refine aj (aX rfl (aa (aa ?_)))
  simp[j4]
 ·obtain⟨r1,r2,r3⟩:=nd.rng rfl
  refine aj (aB rfl (aB rfl (aX rfl (ar (λh=>?_) λh=>?_))))
  ·have h:(lo==up)=true:=h
   have h:lo=up:=by simpa using h
   subst h
   refine an (B1 (n:=lo) r1 r3) (aa (aa ?_))
   simp[j4]
  ·have h:(lo==up)=false:=h
   have h:lo≠up:=by simpa using h
   have l1:=uq (n:=lo.toNat) (by omega)
   have l2:=uq (n:=up.toNat) (by omega)
   refine an (B1 (n:=lo) r1 (by omega)) (aG (decide_eq_true ?_) (aG (decide_eq_true ?_) (an (B1 (n:=up) (by omega) r3) (aG (decide_eq_true ?_) (aG (decide_eq_true ?_) (aa (aa ?_)))))))
   ·show 1+(decDigits lo.toNat).length<=_;omega
   ·show(decDigits lo.toNat).length+1+1<=_;omega
   ·simp only[i_,q_,B_];omega
   ·simp only[i_,q_,B_];omega
   ·simp[j4,h]
 ·refine aj (aB rfl (aX rfl (aa (aa ?_))))
  simp[j4]
 ·obtain⟨rfl,rfl⟩:=nd.zero (by decide)
  refine aj (aB rfl (aB rfl (aB rfl (aB rfl (aB rfl (aB rfl (aB rfl (aa ?_))))))))
  refine aj (Ev.wp_mono (I6 3 0 0 ks 32 hks hsz hsh) ?_)
  rintro t rfl
  refine aa ?_
  simp[j4,iy]
 ·obtain⟨rfl,rfl⟩:=nd.zero (by decide)
  refine aj (aB rfl (aB rfl (aB rfl (aB rfl (aB rfl (aB rfl (aX rfl (ar (λh=>aa (aa ?_)) λh=>aa ?_))))))))
  ·have h:((ks.length:Int)==0)=true:=h
   have h:=len_nil (by simpa using h)
   subst h
   simp[j4]
  ·have h:((ks.length:Int)==0)=false:=h
   have hne:ks≠[]:=by rintro rfl;simp at h
   refine aj (Ev.wp_mono (I6 4 0 0 ks 124 hks hsz hsh) ?_)
   rintro t rfl
   refine aa ?_
   simp[j4,iy,hne]
 ·obtain⟨rfl,rfl⟩:=nd.zero (by decide)
  obtain⟨x,rfl⟩:=sM (nd.one (by simp))
  obtain⟨c1,c2⟩:=one x rfl 5
  refine aj (aB rfl (aB rfl (aB rfl (aX rfl (oX (by decide) rfl (an c1 (aG (decide_eq_true ?_) (aa (aa ?_)))))))))
  ·show(na 5 x).length+1<=_;omega
  ·simp[j4,iy]
 ·obtain⟨rfl,rfl⟩:=nd.zero (by decide)
  obtain⟨x,rfl⟩:=sM (nd.one (by simp))
  obtain⟨c1,c2⟩:=one x rfl 6
  refine aj (aB rfl (aB rfl (aB rfl (aB rfl (aX rfl (oX (by decide) rfl (an c1 (aG (decide_eq_true ?_) (aa (aa ?_))))))))))
  ·show(na 6 x).length+1<=_;omega
  ·simp[j4,iy]
 ·obtain⟨rfl,rfl⟩:=nd.zero (by decide)
  obtain⟨x,rfl⟩:=sM (nd.one (by simp))
  obtain⟨c1,c2⟩:=one x rfl 7
  refine aj (aB rfl (aB rfl (aB rfl (aB rfl (aB rfl (aX rfl (oX (by decide) rfl (an c1 (aG (decide_eq_true ?_) (aa (aa ?_)))))))))))
  ·show(na 7 x).length+1<=_;omega
  ·simp[j4,iy]
theorem GX(r:Rx)(hs:sz r<=1048576):aF tbl ju [.d .rx r] [] gU (if iv r=0 then j4 r else [],iv r,()):=by
 refine aw rfl (aC HP rfl (λO m=>H7 O m r) ?_)
 unfold ze
 refine an (GU r hs) (ar (λh=>aa ?_) λh=>?_)
 ·have h:iv r≠0:=by
   have h:(iv r != 0)=true:=h
   simpa using h
  rw[if_neg h]
 ·have h:iv r=0:=by
   have h:(iv r != 0)=false:=h
   simpa using h
  obtain⟨h1,h2⟩:=Ij h
  refine an (Jg r h1 (by omega)) (aa ?_)
  rw[if_pos h,h]
end Go.Proofs.YtmfolppncelceaaGreatDoor
namespace Go.Ev
open Go Go.RowKit Go.Av
section
variable {tbl:Nat->Option Fun'}
def dA(tbl:Nat->Option Fun')(f:Nat)(ars:List V)(os:List Ob)(sh:Sh)(o:Option (HL sh.sl)):Prop:=∃n0,∀n,n0<=n->jP (qw tbl n) f ars os sh=some o
theorem If{f:Nat}{ars:List V}{os:List Ob}{sh:Sh}{R:Option (HL sh.sl)->Prop}(hp:∀c,wT sh (gX sh c)=some c)(h:Conv tbl f ars os λo=>∃c:Option (HL sh.sl),o=c.map (gX sh)/\R c):∃o,R o/\dA tbl f ars os sh o:=by
 obtain⟨o,⟨c,rfl,hr⟩,n0,hn⟩:=h
 refine⟨c,hr,n0,λn hn'=>?_⟩
 have e:=hn n hn'
 unfold jP
 have e:qw tbl n f ars os=_:=e
 cases c with
 |none=>rw[e];rfl
 |some c=>
  rw[e]
  have:=hp c
  unfold wT at this
  simp only[Option.map_some]
  cases hb:(Nat.beq (gX sh c).fr.length sh.n&&IN sh.n (gX sh c).fr)
  ·rw[hb]at this;cases this
  ·rw[hb]at this
   simp only[cond_true]at this
   simp only[cond_true,this]
theorem rb{f:Nat}{ars:List V}{os:List Ob}{sh:Sh}{o:Option (HL sh.sl)}(hp:∀c,wT sh (gX sh c)=some c)(h:Conv tbl f ars os (·=o.map (gX sh))):dA tbl f ars os sh o:=by
 obtain⟨o',rfl,h2⟩:=If (R:=λc=>c=o) hp (Qq h λx hx=>⟨o,hx,rfl⟩)
 exact h2
theorem iB{f:Nat}{ars:List V}{os:List Ob}{sh:Sh}{β:Type}{k:Nat->Option (HL sh.sl)->Option β}{Q:β->Prop}{o:Option (HL sh.sl)}(h:dA tbl f ars os sh o)(hk:Wp (λn=>k n o) Q):Wp (λn=>d_ (jP (qw tbl n) f ars os sh) (k n)) Q:=by
 obtain⟨n0,hn⟩:=h
 exact aj ⟨o,hk,n0,hn⟩
end
end Go.Ev
namespace Go.Proofs.YtmfolppncelceaaGreatDoor
open Go Go.Av Go.Ev Go.Pl Go.Lib
theorem Kz(s:List UInt8)(hs:s.length<=1048576):∃c:Bool×Unit,((∀n,s=decDigits n->c=(true,()))/\(c.1=true->s≠[]))/\aF tbl jL [.d tS s] [] cy c:=by
 refine AJ (sh:=cy) (λ_=>rfl) (aC BC rfl (λO k=>BQ O k s) ?_)
 unfold se
 refine aj (dw (b:=decide ((s.length:Int)>(1:Int))&&(((s.getD 0 0).toNat:Int)==(48:Int))) (λh0=>aj (cr (b:=(((s.getD 0 0).toNat:Int)==(48:Int))) (λh1=>?_) (aa rfl))) ?_)
 ·have hl:1<s.length:=by have:=of_decide_eq_true h1;omega
  refine oX (x:=s.getD 0 0) (aa_ _) ?_ (aa rfl)
  rw[v_,Int.toNat_zero,a_ (show 0<s.length by omega)];rfl
 ·refine ar (λh=>aa ⟨(false,()),rfl,λn hn=>?_,λh=>by cases h⟩) (λh=>?_)
  ·exfalso
   have hp:=Le n
   have hh:=Qr n
   rw[<-hn]at hp hh
   simp only[ah_,g_,decide_eq_true_eq,beq_iff_eq]at h
   rcases h with h|⟨h1,h2⟩
   ·rw[h]at hp;simp at hp
   ·exact hh (by omega) (by omega)
  ·have hne:s≠[]:=by
    rintro rfl
    simp at h
   refine aj (Wp.imp (Q:=λr=>match r with| .inl v=>v.1=false/\∀n,s≠decDigits n| .inr _=>True) (bc (N:=s.length) (I:=λi st=>st=((i:Int),())) rfl (λi st hi hst=>?_) λst hst=>?_) λr hr=>?_)
   ·subst hst
    unfold lu
    have hx:=a_ hi
    refine ar (λ_=>?_) (λh=>absurd h (by simp;omega))
    refine oX (X_ _) hx ?_
    refine aj (dw (b:=decide ((s[i].toNat:Int)>(57:Int))) (λ_=>oX (X_ _) hx (aa rfl)) ?_)
    refine ar (λhb=>aa ⟨rfl,λn hn=>?_⟩) (λ_=>aa ?_)
    ·have:=AO n s[i] (by rw[<-hn];exact b_ hi)
     unfold FJ at this
     simp only[ah_,decide_eq_true_eq]at hb
     omega
    ·simp only
     rw[aA hi (by omega)]
   ·subst hst
    unfold lu
    exact ar (λh=>absurd h (by simp)) λ_=>aa trivial
   ·cases r with
    |inl v=>exact aa ⟨_,rfl,λn hn=>absurd hn (hr.2 n),λ_=>hne⟩
    |inr v=>exact aa ⟨_,rfl,λ_ _=>rfl,λ_=>hne⟩
theorem RN(s:List UInt8)(hs:s.length<=1048576):∃c:Int×Int×Unit,((∀m:Nat,m<=4294967295->s=decDigits m->c=((m:Int),(0:Int),()))/\(c.2.1=0->s≠[]))/\aF tbl ka [.d tS s,.d tI (4294967295:Int)] [] cD c:=by
 obtain⟨cc,⟨hcc,hce⟩,hcall⟩:=Kz s hs
 refine AJ (sh:=cD) (λ_=>rfl) (aC Gn rfl (λO k=>GE O k s 4294967295) ?_)
 unfold wg
 refine an hcall (ar (λh=>aa ⟨_,rfl,λm hm hn=>?_,λh0=>by cases h0⟩) (λhc=>?_))
 ·rw[hcc m hn]at h;cases h
 have hne:s≠[]:=hce (by cases e:cc.1<;>simp[e]at hc⊢)
 refine aj (Wp.imp (Q:=λr=>match r with| .inl v=>∀m:Nat,m<=4294967295->s≠decDigits m| .inr v=>∀m:Nat,m<=4294967295->s=decDigits m->v.1=m) (bc (N:=s.length) (I:=λi st=>st.2.1=(i:Int)/\∀m:Nat,m<=4294967295->s=decDigits m->st.1=(xj (s.take i):Int)) ⟨rfl,λ_ _ _=>rfl⟩ (λi st hi hst=>?_) λst hst=>?_) λr hr=>?_)
 ·obtain⟨n,j,_⟩:=st
  obtain⟨h1,h2⟩:=hst
  simp only at h1 h2
  subst h1
  unfold oD
  have hx:=a_ hi
  have hk:∀m:Nat,m<=4294967295->s=decDigits m->n=(xj (s.take i):Int)/\xj (s.take i)<=4294967295/\FJ s[i]/\xj (s.take (i+1))<=4294967295/\xj (s.take (i+1))=10*xj (s.take i)+(s[i].toNat - 48):=λm hm hn=>by
   have hv:xj s=m:=by rw[hn,Lf]
   have hd:FJ s[i]:=AO m s[i] (by rw[<-hn];exact b_ hi)
   have e:s.getD i 0=s[i]:=by simp[v_,hx]
   exact⟨h2 m hm hn,by have:=Jb (l:=s) (k:=i) (by omega);omega,hd,by have:=Jb (l:=s) (k:=i+1) (by omega);omega,by rw[takeD hi,CX,e]⟩
  have hdg:FJ s[i]->s_ .i64 (s_ .u8 ((s[i].toNat:Int) - 48))=((s[i].toNat - 48:Nat):Int):=λh=>by
   unfold FJ at h
   rw[wrap_u8,wrap_i64 (by omega) (by omega)];omega
  refine ar (λ_=>?_) (λh=>absurd h (by simp;omega))
  refine oX (X_ _) hx ?_
  refine aG rfl (ar (λhb=>aa λm hm hn=>?_) (λ_=>aa ⟨?_,λm hm hn=>?_⟩))
  ·obtain⟨g1,g2,g3,g4,g5⟩:=hk m hm hn
   have hb':=of_decide_eq_true hb
   rw[hdg g3,g1]at hb'
   unfold FJ at g3
   rw[wrap_i64 (n:=9223372036854775807 - ((s[i].toNat - 48:Nat):Int)) (by omega) (by omega),Int.tdiv_eq_ediv_of_nonneg (by omega),wrap_i64 (by omega) (by omega)]at hb'
   omega
  ·simp only
   rw[aA hi (by omega)]
  ·obtain⟨g1,g2,g3,g4,g5⟩:=hk m hm hn
   simp only
   rw[hdg g3,g1,wrap_i64 (n:=10*((xj (s.take i):Nat):Int)) (by omega) (by omega),wrap_i64 (by omega) (by omega),g5]
   omega
 ·obtain⟨n,j,_⟩:=st
  obtain⟨h1,h2⟩:=hst
  simp only at h1 h2
  subst h1
  unfold oD
  refine ar (λh=>absurd h (by simp)) λ_=>aa λm hm hn=>?_
  simp only
  rw[h2 m hm hn,n_ (y_ _),hn,Lf]
 ·cases r with
  |inl v=>exact aa ⟨_,rfl,λm hm hn=>absurd hn (hr m hm),λ_=>hne⟩
  |inr v=>
   refine ar (λhb=>aa ⟨_,rfl,λm hm hn=>?_,λ_=>hne⟩) (λ_=>aa ⟨_,rfl,λm hm hn=>?_,λ_=>hne⟩)
   ·have:=hr m hm hn
    have:=of_decide_eq_true hb
    omega
   ·rw[hr m hm hn]
theorem wb(s:List UInt8)(i:Nat):aF tbl ba [.ptr 0 0] [.box ap [.d tS s,.d tI (i:Int)]] aV ((pk s i:Int),s,(i:Int),()):=by
 refine aw rfl (aC vV rfl (λO m=>wa O m s (i:Int)) ?_)
 unfold ov
 refine ar (λh=>?_) λh=>aa ?_
 ·have h:i<s.length:=by have:=of_decide_eq_true h;omega
  refine aM h (aa ?_)
  rw[WY h]
 ·have h:¬i<s.length:=by have:=of_decide_eq_false h;omega
  rw[WX h];rfl
structure Run(s:List UInt8)(i j:Nat):Prop where
 le:i<=j
 top:j<=s.length
 all:∀k,i<=k->k<j->dg (pk s k)
theorem PZ{s:List UInt8}{i j m:Nat}{t:List UInt8}(h:Run s i j)(he:¬dg (pk s j))(hd0:s.drop i=decDigits m++t)(ht:¬dg (hd t)):j=i+(decDigits m).length/\(s.take j).drop i=decDigits m:=by
 have h1:∀k,i<=k->k<i+(decDigits m).length->dg (pk s k):=λk hk1 hk2=>by
  have hl:k - i<(decDigits m).length:=by omega
  have e:s[k]? =some (decDigits m)[k - i]:=by
   have h2:(s.drop i)[k - i]? =s[k]? :=by rw[List.getElem?_drop];congr 1;omega
   rw[<-h2,hd0,x_ hl,a_ hl]
  have h3:=AO m _ (b_ hl)
  unfold pk
  rw[v_,e]
  exact h3
 have h2:¬dg (pk s (i+(decDigits m).length)):=by
  rw[oA,kg hd0];exact ht
 have hj:j=i+(decDigits m).length:=by
  apply j_
  intro hn
  have:=h.le
  rcases Nat.lt_or_gt_of_ne hn with hlt|hgt
  ·exact he (h1 j this hlt)
  ·exact h2 (h.all _ (by omega) hgt)
 refine⟨hj,?_⟩
 rw[List.drop_take,hd0,hj,Nat.add_sub_cancel_left,List.take_left]
theorem RZ(s:List UInt8)(hs:s.length<=1048576)(i:Nat)(hi:i<=s.length):∃o:Option (Int×Nat),(∀n j,o=some (n,j)->i<j/\j<=s.length)/\
 (∀(m:Nat) t,s.drop i=decDigits m++t->m<=4294967295->¬dg (hd t)->o=some ((m:Int),i+(decDigits m).length))/\
 dA tbl aY [.ptr 0 0] [.box ap [.d tS s,.d tI (i:Int)]] q_regex_parser_number_r (o.map λx=>(x.1,s,(x.2:Int),())):=by
 suffices h:∃v:Option (HL q_regex_parser_number_r.sl),(∃o:Option (Int×Nat),v=o.map (λx=>(x.1,s,(x.2:Int),()))/\(∀n j,o=some (n,j)->i<j/\j<=s.length)/\
  (∀(m:Nat) t,s.drop i=decDigits m++t->m<=4294967295->¬dg (hd t)->o=some ((m:Int),i+(decDigits m).length)))/\dA tbl aY [.ptr 0 0] [.box ap [.d tS s,.d tI (i:Int)]] q_regex_parser_number_r v by
  obtain⟨v,⟨o,rfl,h1,h2⟩,h3⟩:=h
  exact⟨o,h1,h2,h3⟩
 refine If (λ_=>rfl) (aC tX rfl (λO m=>ub O m s (i:Int)) ?_)
 unfold mT
 refine aj (Ev.wp_mono (Ev.wp_loop (Q:=λt=>∃j:Nat,t=(s,(j:Int),())/\Run s i j/\¬dg (pk s j)) (λt=>∃j:Nat,t=(s,(j:Int),())/\Run s i j) (λt=>s.length - t.2.1.toNat) ⟨i,rfl,⟨y_ _,hi,λk h1 h2=>absurd h2 (by omega)⟩⟩ ?_) ?_)
 ·rintro t ⟨j,rfl,hr⟩
  unfold lf
  refine an (wb s j) (ar (λh=>?_) λh=>aa ⟨j,rfl,hr,?_⟩)
  ·have h:(pk s j:Int)>=48:=of_decide_eq_true h
   have hlt:=jp (s:=s) (i:=j) (by omega)
   refine an (wb s j) (ar (λh'=>aa ?_) λh'=>aa ⟨j,rfl,hr,?_⟩)
   ·have h':(pk s j:Int)<=57:=of_decide_eq_true h'
    refine⟨⟨j+1,?_,⟨by have:=hr.le;omega,by omega,λk h1 h2=>?_⟩⟩,?_⟩
    ·show(s,s_ .i64 ((j:Int)+1),())=_
     rw[aA hlt (by omega)]
    ·by_cases e:k=j
     ·subst e;exact⟨by omega,by omega⟩
     ·exact hr.all k h1 (by omega)
    ·show s.length - (s_ .i64 ((j:Int)+1)).toNat<s.length - (j:Int).toNat
     rw[aA hlt (by omega)];omega
   ·have h':¬(pk s j:Int)<=57:=of_decide_eq_false h'
    unfold Pl.dg;omega
  ·have h:¬(pk s j:Int)>=48:=of_decide_eq_false h
   unfold Pl.dg;omega
 ·rintro t ⟨j,rfl,hr,he⟩
  have h1:=hr.le
  have h2:=hr.top
  refine aG (decide_eq_true (by omega)) (aG (decide_eq_true (by show 0<=(j:Int);omega)) (aG ?_ ?_))
  ·show(decide (u_ (i:Int)<=u_ (j:Int))&&decide (u_ (j:Int)<=s.length))=true
   simp only[g_,decide_eq_true_eq];omega
  show Wp (λn=>d_ (au (qw tbl n) ka [.d tS ((s.take (u_ (j:Int))).drop (u_ (i:Int))),.d tI (4294967295:Int)] [] cD) _) _
  rw[e_,e_]
  obtain⟨c,⟨c1,c2⟩,hc⟩:=RN ((s.take j).drop i) (by rw[List.length_drop,r_];omega)
  refine an (c:=c) hc (aj (ar (λh=>aa ?_) λh=>aa ?_))
  ·have h:c.2.1≠0:=by simpa using h
   refine aa ⟨none,rfl,none,rfl,(λ_ _ h=>by cases h),λm t hd0 hm ht=>?_⟩
   obtain⟨_,e2⟩:=PZ hr he hd0 ht
   rw[c1 m hm e2]at h
   exact absurd rfl h
  ·have h:c.2.1=0:=by simpa using h
   refine aa ⟨some (c.1,s,(j:Int),()),rfl,some (c.1,j),rfl,?_,λm t hd0 hm ht=>?_⟩
   ·intro n k hk
    cases hk
    have hne:=c2 h
    refine⟨?_,h2⟩
    apply j_
    intro hn
    apply hne
    rw[J_ (by rw[r_];omega)]
   ·obtain⟨e1,e2⟩:=PZ hr he hd0 ht
    rw[c1 m hm e2,<-e1]
theorem V1(s:List UInt8)(hs:s.length<=1048576):∃num:Nat->Option (Int×Nat),NumOk s num/\∀i,i<=s.length->
 dA tbl aY [.ptr 0 0] [.box ap [.d tS s,.d tI (i:Int)]] q_regex_parser_number_r ((num i).map λx=>(x.1,s,(x.2:Int),())):=by
 have h:∀i:Nat,∃o:Option (Int×Nat),i<=s.length->(∀n j,o=some (n,j)->i<j/\j<=s.length)/\
  (∀(m:Nat) t,s.drop i=decDigits m++t->m<=4294967295->¬dg (hd t)->o=some ((m:Int),i+(decDigits m).length))/\
  dA tbl aY [.ptr 0 0] [.box ap [.d tS s,.d tI (i:Int)]] q_regex_parser_number_r (o.map λx=>(x.1,s,(x.2:Int),())):=λi=>by
  by_cases hi:i<=s.length
  ·obtain⟨o,ho⟩:=RZ s hs i hi
   exact⟨o,λ_=>ho⟩
  ·exact⟨none,λh=>absurd h hi⟩
 refine⟨λi=>aG_ (h i),⟨λi n j hi e=>?_,λi m t hd0 hm ht=>?_⟩,λi hi=>?_⟩
 ·exact(K_ (h i) hi).1 n j e
 ·have hi:i<=s.length:=af_ (Jv hd0 (Ju m).1)
  exact(K_ (h i) hi).2.1 m t hd0 hm ht
 ·exact(K_ (h i) hi).2.2
abbrev G5(s:List UInt8)(i:Nat):List Ob:=[.box ap [.d tS s,.d tI (i:Int)]]
def RI(s:List UInt8)(o:Option (Rx×Nat)):Option (Rx×List UInt8×Int×Unit):=o.map λx=>(x.1,s,(x.2:Int),())
theorem eqT{a b:Nat}(h:((a:Int)==(b:Int))=true):a=b:=by simp at h;omega
theorem RE{a b:Nat}(h:((a:Int)==(b:Int))=false):a≠b:=by simp at h;omega
theorem Z6{a b:Nat}(h:((a:Int) != (b:Int))=true):a≠b:=by simp at h;omega
theorem Z5{a b:Nat}(h:((a:Int) != (b:Int))=false):a=b:=by simp at h;omega
theorem EO(s:List UInt8)(hs:s.length<=1048576)(i c:Nat)(hc:c≠0):dA tbl bo [.ptr 0 0,.d tY (c:Int)] (G5 s i) aZ (if pk s i=c then some (s,((i+1:Nat):Int),())else none):=by
 refine rb (λ_=>rfl) (aC s8 rfl (λO m=>td O m (c:Int) s (i:Int)) ?_)
 unfold lG
 refine aj (an (wb s i) (ar (λh=>aa (aa ?_)) λh=>aa (aa ?_)))
 ·rw[if_neg (Z6 h)];rfl
 ·have h:=Z5 h
  have hlt:=jp (s:=s) (i:=i) (by omega)
  rw[if_pos h]
  show some (gX aZ (s,s_ .i64 ((i:Int)+1),()))=_
  rw[aA hlt (by omega)];rfl
section
variable {s:List UInt8}
theorem Wk(hs:s.length<=1048576){num:Nat->Option (Int×Nat)}(hn:NumOk s num)(hc:∀i,i<=s.length->dA tbl aY [.ptr 0 0] (G5 s i) q_regex_parser_number_r ((num i).map λx=>(x.1,s,(x.2:Int),())))
 {alt:Nat->Option (Rx×Nat)} (hb:P3 s alt) (d:Nat) (hd0:d<=100) (ha:∀i,i<=s.length->dA tbl aW [.ptr 0 0,.d tI ((d+1:Nat):Int)] (G5 s i) aR (RI s (alt i))) (i:Nat) (hi:i<=s.length):
 dA tbl c8 [.ptr 0 0,.d tI (d:Int)] (G5 s i) bg (RI s (ki num s alt i)):=by
 refine rb (λ_=>rfl) (aC uV rfl (λO m=>vg O m (d:Int) s (i:Int)) ?_)
 unfold nq
 refine an (wb s i) ?_
 dsimp only
 refine ar (λh=>?_) λh46=>?_
 ·have h:=eqT (b:=46) h
  have hlt:=jp (s:=s) (i:=i) (by omega)
  rw[aA hlt (by omega),show ki num s alt i=some (.mk 2 0 0 [],i+1) by unfold ki;rw[if_pos h]]
  exact aa rfl
 have h46:=RE (b:=46) h46
 refine ar (λh=>?_) λh33=>?_
 ·have h:=eqT (b:=33) h
  have hlt:=jp (s:=s) (i:=i) (by omega)
  rw[aA hlt (by omega),show ki num s alt i=some (.mk 4 0 0 [],i+1) by unfold ki;rw[if_neg h46,if_pos h]]
  exact aa rfl
 have h33:=RE (b:=33) h33
 refine ar (λh91=>?_) λh91=>?_
 ·have h91:=eqT (b:=91) h91
  have hlt:=jp (s:=s) (i:=i) (by omega)
  have hp:ki num s alt i=match num (i+1)with
   |none=>none
   |some (lo,j)=>if pk s j=45 then(match num (j+1)with
    |none=>none
    |some (up,k)=>if pk s k=93 then some (.mk 1 lo up [],k+1)else none)else none:=by
   unfold ki
   rw[if_neg h46,if_neg h33,if_pos h91]
   all_goals rfl
  rw[aA hlt (by omega),hp]
  refine iB (hc (i+1) (by omega)) ?_
  cases e1:num (i+1)with
  |none=>exact aa rfl
  |some x=>
   obtain⟨lo,j⟩:=x
   have b1:=hn.bnd _ _ _ (by omega) e1
   show Wp (λn=>d_ (jP (qw tbl n) bo [.ptr 0 0,.d tY (45:Int)] (G5 s j) aZ) _) _
   refine iB (EO s hs j 45 (by decide)) ?_
   by_cases h45:pk s j=45
   ·have hlt2:=jp (s:=s) (i:=j) (by omega)
    simp only[if_pos h45]
    show Wp (λn=>d_ (jP (qw tbl n) aY [.ptr 0 0] (G5 s (j+1)) q_regex_parser_number_r) _) _
    refine iB (hc (j+1) (by omega)) ?_
    cases e2:num (j+1)with
    |none=>exact aa rfl
    |some y=>
     obtain⟨up,k⟩:=y
     show Wp (λn=>d_ (jP (qw tbl n) bo [.ptr 0 0,.d tY (93:Int)] (G5 s k) aZ) _) _
     refine iB (EO s hs k 93 (by decide)) ?_
     by_cases h93:pk s k=93
     ·simp only[if_pos h93]
      exact aa rfl
     ·simp only[if_neg h93]
      exact aa rfl
   ·simp only[if_neg h45]
    exact aa rfl
 have h91:=RE (b:=91) h91
 refine ar (λh40=>?_) λh40=>?_
 ·have h40:=eqT (b:=40) h40
  have hlt:=jp (s:=s) (i:=i) (by omega)
  rw[aA hlt (by omega)]
  refine an (wb s (i+1)) ?_
  dsimp only
  refine ar (λh=>?_) λh=>?_
  ·have h:=eqT (b:=41) h
   have hlt2:=jp (s:=s) (i:=i+1) (by omega)
   rw[aA hlt2 (by omega),show ki num s alt i=some (.mk 0 0 0 [],i+2) by unfold ki;rw[if_neg h46,if_neg h33,if_neg h91,if_pos h40,if_pos h]]
   exact aa rfl
  ·have h:=RE (b:=41) h
   have hp:ki num s alt i=match alt (i+1)with
    |none=>none
    |some (r,j)=>if pk s j=41 then some (r,j+1)else none:=by
    unfold ki
    rw[if_neg h46,if_neg h33,if_neg h91,if_pos h40,if_neg h]
    all_goals rfl
   rw[hp,show s_ .i64 ((d:Int)+1)=((d+1:Nat):Int) by rw[wrap_i64 (by omega) (by omega)];rfl]
   refine iB (ha (i+1) (by omega)) ?_
   cases e1:alt (i+1)with
   |none=>exact aa rfl
   |some x=>
    obtain⟨r,j⟩:=x
    show Wp (λn=>d_ (jP (qw tbl n) bo [.ptr 0 0,.d tY (41:Int)] (G5 s j) aZ) _) _
    refine iB (EO s hs j 41 (by decide)) ?_
    by_cases h41:pk s j=41
    ·simp only[if_pos h41]
     refine aa ?_
     rw[od];rfl
    ·simp only[if_neg h41]
     exact aa rfl
 ·have h40:=RE (b:=40) h40
  have hp:ki num s alt i=match num i with
   |none=>none
   |some (n,j)=>some (.mk 1 n n [],j):=by
   unfold ki
   rw[if_neg h46,if_neg h33,if_neg h91,if_neg h40]
   all_goals rfl
  rw[hp]
  refine iB (hc i hi) ?_
  cases e1:num i with
  |none=>exact aa rfl
  |some x=>exact aa rfl
def V8(s:List UInt8)(one:Nat->Option (Rx×Nat))(i:Nat):Option (Rx×Nat):=match one i with
 |none=>none
 |some (r,j)=>if pk s j=42 then some (.mk 5 0 0 [r],j+1)else if pk s j=43 then some (.mk 6 0 0 [r],j+1)else if pk s j=63 then some (.mk 7 0 0 [r],j+1)else some (r,j)
theorem Wl(hs:s.length<=1048576){one:Nat->Option (Rx×Nat)}(d:Nat)(ha:∀i,i<=s.length->dA tbl c8 [.ptr 0 0,.d tI (d:Int)] (G5 s i) bg (RI s (one i)))(i:Nat)(hi:i<=s.length):
 dA tbl bR [.ptr 0 0,.d tI (d:Int)] (G5 s i) a7 (RI s (V8 s one i)):=by
 refine rb (λ_=>rfl) (aC uW rfl (λO m=>vh O m (d:Int) s (i:Int)) ?_)
 unfold nr V8
 refine iB (ha i hi) ?_
 cases e1:one i with
 |none=>exact aa rfl
 |some x=>
  obtain⟨r,j⟩:=x
  simp only
  have key:∀(k:Int),j<s.length->some (gX a7 (Rx.mk k 0 0 [Rx.mk r.out.1 r.out.2.1 r.out.2.2.1 r.out.2.2.2.1],s,s_ .i64 ((j:Int)+1),()))=(RI s (some (.mk k 0 0 [r],j+1))).map (gX a7):=λk hj=>by
   rw[od,aA hj (by omega)];rfl
  show Wp (λn=>d_ (d_ (au (qw tbl n) ba [.ptr 0 0] (G5 s j) aV) _) _) _
  refine aj (an (wb s j) ?_)
  dsimp only
  refine ar (λh=>aa (aa ?_)) λh1=>?_
  ·have h:=eqT (b:=42) h
   rw[if_pos h];exact key 5 (jp (by omega))
  have h1:=RE (b:=42) h1
  refine ar (λh=>aa (aa ?_)) λh2=>?_
  ·have h:=eqT (b:=43) h
   rw[if_neg h1,if_pos h];exact key 6 (jp (by omega))
  have h2:=RE (b:=43) h2
  refine ar (λh=>aa (aa ?_)) λh3=>aa (aa ?_)
  ·have h:=eqT (b:=63) h
   rw[if_neg h1,if_neg h2,if_pos h];exact key 7 (jp (by omega))
  ·have h3:=RE (b:=63) h3
   rw[if_neg h1,if_neg h2,if_neg h3]
   show some (gX a7 (Rx.mk r.out.1 r.out.2.1 r.out.2.2.1 r.out.2.2.2.1,s,(j:Int),()))=_
   rw[od];rfl
theorem Hq(hs:s.length<=1048576){one:Nat->Option (Rx×Nat)}(hb:P3 s one)(d:Nat)(ha:∀i,i<=s.length->dA tbl bR [.ptr 0 0,.d tI (d:Int)] (G5 s i) a7 (RI s (one i)))(T:Option (List Rx×Nat))(r:Rx)(i f:Nat)(hi:i<=s.length)(h1:1<=i)(hf:s.length<=f+i)(hT:(if pk s i=32 then mZ s 32 one f [r] (i+1)else some ([r],i))=T):
 Wp (λn=>aS n (cG (qw tbl n) n (d:Int)) (s,(i:Int),(0:Int),(0:Int),(0:Int),([r]:List Rx),())) λt=>match t with
  | .inl _=>T=none
  | .inr t=>∃(acc:List Rx) (j:Nat),t=(s,(j:Int),(0:Int),(0:Int),(0:Int),acc,())/\T=some (acc,j):=by
 refine Ev.wp_loop (λt=>∃(acc:List Rx) (j f:Nat),t=(s,(j:Int),(0:Int),(0:Int),(0:Int),acc,())/\j<=s.length/\acc.length<=j/\s.length<=f+j/\(if pk s j=32 then mZ s 32 one f acc (j+1)else some (acc,j))=T) (λt=>s.length - t.2.1.toNat) ⟨[r],i,f,rfl,hi,h1,hf,hT⟩ ?_
 rintro t ⟨acc,j,f,rfl,hj,hacc,hf,hT⟩
 unfold cG
 refine an (wb s j) ?_
 dsimp only
 refine ar (λh=>?_) λh=>aa ⟨acc,j,rfl,?_⟩
 ·have h:=eqT (b:=32) h
  have hlt:=jp (s:=s) (i:=j) (by omega)
  rw[if_pos h]at hT
  rw[aA hlt (by omega)]
  refine iB (ha (j+1) (by omega)) ?_
  obtain⟨f2,rfl⟩:∃g,f=g+1:=⟨f - 1,by omega⟩
  rw[mZ]at hT
  cases e1:one (j+1)with
  |none=>
   rw[e1]at hT
   exact aa hT.symm
  |some x=>
   obtain⟨r2,k⟩:=x
   obtain⟨b1,b2,_⟩:=hb _ _ _ (by omega) e1
   rw[e1]at hT
   simp only at hT
   refine aG (decide_eq_true ?_) (aa ⟨⟨acc++[r2],k,f2,rfl,b2,?_,by omega,hT⟩,?_⟩)
   ·show(acc.length+1)*48<=140737488355328
    omega
   ·rw[i_,t_];omega
   ·show s.length - (k:Int).toNat<s.length - (j:Int).toNat
    omega
 ·have h:=RE (b:=32) h
  rw[if_neg h]at hT
  exact hT.symm
theorem Bf(hs:s.length<=1048576){one:Nat->Option (Rx×Nat)}(hb:P3 s one)(d:Nat)(ha:∀i,i<=s.length->dA tbl bq [.ptr 0 0,.d tI (d:Int)] (G5 s i) a6 (RI s (one i)))(T:Option (List Rx×Nat))(r:Rx)(i f:Nat)(hi:i<=s.length)(h1:1<=i)(hf:s.length<=f+i)(hT:(if pk s i=124 then mZ s 124 one f [r] (i+1)else some ([r],i))=T):
 Wp (λn=>aS n (bZ (qw tbl n) n (d:Int)) (s,(i:Int),(0:Int),(0:Int),(0:Int),([r]:List Rx),())) λt=>match t with
  | .inl _=>T=none
  | .inr t=>∃(acc:List Rx) (j:Nat),t=(s,(j:Int),(0:Int),(0:Int),(0:Int),acc,())/\T=some (acc,j):=by
 refine Ev.wp_loop (λt=>∃(acc:List Rx) (j f:Nat),t=(s,(j:Int),(0:Int),(0:Int),(0:Int),acc,())/\j<=s.length/\acc.length<=j/\s.length<=f+j/\(if pk s j=124 then mZ s 124 one f acc (j+1)else some (acc,j))=T) (λt=>s.length - t.2.1.toNat) ⟨[r],i,f,rfl,hi,h1,hf,hT⟩ ?_
 rintro t ⟨acc,j,f,rfl,hj,hacc,hf,hT⟩
 unfold bZ
 refine an (wb s j) ?_
 dsimp only
 refine ar (λh=>?_) λh=>aa ⟨acc,j,rfl,?_⟩
 ·have h:=eqT (b:=124) h
  have hlt:=jp (s:=s) (i:=j) (by omega)
  rw[if_pos h]at hT
  rw[aA hlt (by omega)]
  refine iB (ha (j+1) (by omega)) ?_
  obtain⟨f2,rfl⟩:∃g,f=g+1:=⟨f - 1,by omega⟩
  rw[mZ]at hT
  cases e1:one (j+1)with
  |none=>
   rw[e1]at hT
   exact aa hT.symm
  |some x=>
   obtain⟨r2,k⟩:=x
   obtain⟨b1,b2,_⟩:=hb _ _ _ (by omega) e1
   rw[e1]at hT
   simp only at hT
   refine aG (decide_eq_true ?_) (aa ⟨⟨acc++[r2],k,f2,rfl,b2,?_,by omega,hT⟩,?_⟩)
   ·show(acc.length+1)*48<=140737488355328
    omega
   ·rw[i_,t_];omega
   ·show s.length - (k:Int).toNat<s.length - (j:Int).toNat
    omega
 ·have h:=RE (b:=124) h
  rw[if_neg h]at hT
  exact hT.symm
theorem M1(hs:s.length<=1048576){one:Nat->Option (Rx×Nat)}(hb:P3 s one)(d:Nat)(ha:∀i,i<=s.length->dA tbl bR [.ptr 0 0,.d tI (d:Int)] (G5 s i) a7 (RI s (one i)))(i:Nat)(hi:i<=s.length):
 dA tbl bq [.ptr 0 0,.d tI (d:Int)] (G5 s i) a6 (RI s (Ht s 32 3 one i)):=by
 refine rb (λ_=>rfl) (aC rQ rfl (λO m=>rV O m (d:Int) s (i:Int)) ?_)
 unfold j5 Ht
 refine iB (ha i hi) ?_
 obtain⟨f,hf⟩:∃f,s.length+1 - i=f+1:=⟨s.length - i,by omega⟩
 rw[hf,mZ]
 cases e1:one i with
 |none=>exact aa rfl
 |some x=>
  obtain⟨r,j⟩:=x
  obtain⟨b1,b2,_⟩:=hb _ _ _ hi e1
  simp only[H_]
  show Wp (λn=>d_ (aS n (cG (qw tbl n) n (d:Int)) (s,(j:Int),(0:Int),(0:Int),(0:Int),([r]:List Rx),())) _) _
  refine aj (Ev.wp_mono (Hq hs hb d ha _ r j f b2 (by omega) (by omega) rfl) ?_)
  rintro(t|t) ht
  ·rw[show _=none from ht]
   exact aa rfl
  ·obtain⟨acc,k,rfl,hT⟩:=ht
   rw[hT]
   refine ar (λh=>?_) λh=>aa ?_
   ·have h:=eqT (b:=1) h
    obtain⟨x,rfl⟩:=ae_.1 h
    refine oX (by decide) rfl (rU rfl (aa ?_))
    rw[od];rfl
   ·have h:=RE (b:=1) h
    simp only
    rw[A8 h];rfl
theorem EM(hs:s.length<=1048576){one:Nat->Option (Rx×Nat)}(hb:P3 s one)(d:Nat)(hd0:d<=32)(ha:∀i,i<=s.length->dA tbl bq [.ptr 0 0,.d tI (d:Int)] (G5 s i) a6 (RI s (one i)))(i:Nat)(hi:i<=s.length):
 dA tbl aW [.ptr 0 0,.d tI (d:Int)] (G5 s i) aR (RI s (Ht s 124 4 one i)):=by
 refine rb (λ_=>rfl) (aC iA rfl (λO m=>iC O m (d:Int) s (i:Int)) ?_)
 unfold dL Ht
 refine aj (aB (decide_eq_false (by omega)) (aa ?_))
 show Wp (λn=>d_ (jP (qw tbl n) bq [.ptr 0 0,.d tI (d:Int)] (G5 s i) a6) _) _
 refine iB (ha i hi) ?_
 obtain⟨f,hf⟩:∃f,s.length+1 - i=f+1:=⟨s.length - i,by omega⟩
 rw[hf,mZ]
 cases e1:one i with
 |none=>exact aa rfl
 |some x=>
  obtain⟨r,j⟩:=x
  obtain⟨b1,b2,_⟩:=hb _ _ _ hi e1
  simp only[H_]
  show Wp (λn=>d_ (aS n (bZ (qw tbl n) n (d:Int)) (s,(j:Int),(0:Int),(0:Int),(0:Int),([r]:List Rx),())) _) _
  refine aj (Ev.wp_mono (Bf hs hb d ha _ r j f b2 (by omega) (by omega) rfl) ?_)
  rintro(t|t) ht
  ·rw[show _=none from ht]
   exact aa rfl
  ·obtain⟨acc,k,rfl,hT⟩:=ht
   rw[hT]
   refine ar (λh=>?_) λh=>aa ?_
   ·have h:=eqT (b:=1) h
    obtain⟨x,rfl⟩:=ae_.1 h
    refine oX (by decide) rfl (rU rfl (aa ?_))
    rw[od];rfl
   ·have h:=RE (b:=1) h
    simp only
    rw[A8 h];rfl
theorem Uz(i:Nat):dA tbl aW [.ptr 0 0,.d tI (33:Int)] (G5 s i) aR none:=by
 refine rb (λ_=>rfl) (aC iA rfl (λO m=>iC O m (33:Int) s (i:Int)) ?_)
 unfold dL
 exact aj (aX rfl (aa (aa rfl)))
theorem RO(hs:s.length<=1048576){num:Nat->Option (Int×Nat)}(hn:NumOk s num)(hc:∀i,i<=s.length->dA tbl aY [.ptr 0 0] (G5 s i) q_regex_parser_number_r ((num i).map λx=>(x.1,s,(x.2:Int),()))):
 ∀(b d:Nat),d+b=33->∀i,i<=s.length->dA tbl aW [.ptr 0 0,.d tI (d:Int)] (G5 s i) aR (RI s (Bl num s b i))
 |0,d,h,i,_=>by
  have:d=33:=by omega
  subst this
  exact Uz i
 |b+1,d,h,i,hi=>by
  have hb:=Jl hn b
  have h1:=Wk hs hn hc hb d (by omega) (RO hs hn hc b (d+1) (by omega))
  have h2:=Wl hs d h1
  have h3:=M1 hs (E7 hn hb) d h2
  exact EM hs (Jm (E7 hn hb) (by decide) 3) d (by omega) h3 i hi
end
def Rd(s:List UInt8)(one:Nat->Option (Rx×Nat))(C:Nat->Rx->Bool->Nat->Prop):Prop:=∀i,i<=s.length->∃(r:Rx) (ok:Bool) (j:Nat),(i<=j/\j<=s.length)/\one i=(if ok then some (r,j)else none)/\C i r ok j
section
variable {s:List UInt8}
theorem Rd.imp{one one':Nat->Option (Rx×Nat)}{C:Nat->Rx->Bool->Nat->Prop}(h:Rd s one C)(he:∀i,i<=s.length->one i=one' i):Rd s one' C:=λi hi=>by
 obtain⟨r,ok,j,h1,h2,h3⟩:=h i hi
 exact⟨r,ok,j,h1,by rw[<-he i hi];exact h2,h3⟩
end
def ParsedX(s:List UInt8)(c:Rx×Int×Unit):Prop:=(∃r,iv r=0/\j4 r=s/\c=(r,0,()))\/((∀r,iv r=0->j4 r≠s)/\c=(.mk 0 0 0 [],2,()))
theorem CY{r:Rx}(h:iv r=0):dq r=true/\sz r<=64/\Kv r<=16:=by
 obtain⟨h1,h2⟩:=Ij h
 have:=U2 r 1 0 h
 exact⟨h1,h2,by omega⟩
theorem Bn{num:Nat->Option (Int×Nat)}{s:List UInt8}(hn:NumOk s num){b:Nat}(hb:16<=b){r:Rx}(h:iv r=0)(hp:j4 r=s):Bl num s b 0=some (r,s.length):=by
 obtain⟨h1,_,h3⟩:=CY h
 subst hp
 exact Q2 hn h1 (by omega)
theorem ParsedX.pxUniq{s:List UInt8}(hs:s.length<=1048576){c c':Rx×Int×Unit}(h:ParsedX s c)(h':ParsedX s c'):c=c':=by
 obtain⟨num,hn,_⟩:=V1 s hs
 rcases h with⟨r,h1,h2,rfl⟩|⟨h1,rfl⟩<;>rcases h' with⟨r',k1,k2,rfl⟩|⟨k1,rfl⟩
 ·have e1:=Bn hn (b:=16) (by decide) h1 h2
  rw[Bn hn (by decide) k1 k2]at e1
  cases e1;rfl
 ·exact absurd h2 (k1 r h1)
 ·exact absurd k2 (h1 r' k1)
 ·rfl
theorem TA:∀(r:Rx),dq r=true->sz r<=1000->Tx r:=by
 refine mN λk lo up ks ih hw hs=>?_
 obtain⟨nd,hks⟩:=well_iff.1 hw
 have hl:=EJ ks
 simp only[sz]at hs
 have h1:lo=0/\up=0\/0<=lo/\lo<=up/\up<=4294967295:=by
  by_cases e:k=1
  ·exact .inr (nd.rng e)
  ·exact .inl (nd.zero e)
 have hk:=nd.known
 have m1:IntKind.i64.min= -9223372036854775808:=rfl
 have m2:IntKind.i64.max=9223372036854775807:=rfl
 refine⟨⟨by omega,by omega⟩,⟨by omega,by omega⟩,⟨by omega,by omega⟩,ag_ (show ks.length<=1000 by omega) (by decide),(CE ks).2 λr hr=>ih r hr (hks r hr) (by have:=xP hr;omega)⟩
theorem ParsedX.ok{s:List UInt8}{c:Rx×Int×Unit}(h:ParsedX s c):Tx c.1:=by
 rcases h with⟨r,h1,_,rfl⟩|⟨_,rfl⟩
 ·obtain⟨h2,h3,_⟩:=CY h1
  exact TA r h2 (by omega)
 ·exact⟨by decide,by decide,by decide,by decide,trivial⟩
theorem yV(s:List UInt8)(hs:s.length<=1048576):∃c:Rx×Int×Unit,ParsedX s c/\aF tbl lK [.d tS s] [] dZ c:=by
 obtain⟨num,hn,hc⟩:=V1 s hs
 refine AJ (sh:=dZ) (λ_=>rfl) (SA HO rfl (λO n=>H6 O n s) ?_)
 unfold zc
 refine iB (RO hs hn hc 33 0 rfl 0 (as_ _)) ?_
 cases e:Bl num s 33 0 with
 |none=>
  refine aa ⟨_,rfl,.inr ⟨λr hr hp=>?_,rfl⟩⟩
  rw[Bn hn (by decide) hr hp]at e;cases e
 |some x=>
  obtain⟨r,j⟩:=x
  obtain⟨b1,b2,b3⟩:=Jl hn 33 0 r j (as_ _) e
  have hbad:∀r',iv r'=0->j4 r'=s->r'=r:=λr' h1 h2=>by
   rw[Bn hn (by decide) h1 h2]at e;cases e;rfl
  show Wp (λn=>d_ (d_ (au (qw tbl n) ju [.d .rx (Rx.mk r.out.1 r.out.2.1 r.out.2.2.1 r.out.2.2.2.1)] [] gU) _) _) _
  rw[od]
  refine aj (an (GX r (by omega)) (aj (dw (b:= !(j4 r==s)) (λh=>aa ?_) ?_)))
  ·have h:iv r=0:=by
    have h:(iv r != 0)=false:=h
    simpa using h
   rw[if_pos h]
  ·refine ar (λh=>aa (aa ⟨_,rfl,.inr ⟨λr' h1 h2=>?_,rfl⟩⟩)) λh=>aa (aa ⟨_,rfl,.inl ⟨r,?_,?_,?_⟩⟩)
   ·have:=hbad r' h1 h2
    subst this
    have h:(iv r' != 0|| !(j4 r'==s))=true:=h
    rw[h1,h2]at h
    simp at h
   ·have h:(iv r != 0|| !(j4 r==s))=false:=h
    simp at h
    exact h.1
   ·have h:(iv r != 0|| !(j4 r==s))=false:=h
    simp at h
    exact h.2
   ·show(Rx.mk r.out.1 r.out.2.1 r.out.2.2.1 r.out.2.2.2.1,(0:Int),())=_
    rw[od]
open Go Go.Av Go.Ev Go.Pl
def cL(l:List Nat):List Int:=l.map fun(k:Nat)=>(k:Int)
theorem Sp(a b:List Nat):cL (a++b)=cL a++cL b:=C_
theorem eC(l:List Nat):(cL l).length=l.length:=c_ _
theorem Jn{l:List Nat}{i:Nat}(h:i<l.length):(cL l)[i]'(by rw[eC];exact h)=(l[i]:Int):=by simp[cL]
theorem NR{a:List Nat}{i:Nat}(h:i<a.length)(b:List Nat):m4 (a.take (i+1)) b=m4 (a.take i) b++m4 [a[i]] b:=by
 unfold m4
 rw[o_,a_ h,List.flatMap_append];rfl
theorem GZ:∀(r:Rx),sz r<=1000000->aF tbl lM [.d .rx r] [] jz ((cnt r:Int),()):=by
 refine mN λk lo up ks ih hs=>?_
 obtain⟨hlen,hkid⟩:=J7 hs
 refine aw rfl (aC HQ rfl (λO m=>H8 O m (.mk k lo up ks)) ?_)
 unfold zg
 have hb:cnt (.mk k lo up ks)<=1000000:=ag_ (Sx _) hs
 simp only[cnt]at hb
 have hc:∀i,d6 (ks.take i)<=d6 ks:=λi=>by
  have:d6 ks=d6 (ks.take i)+d6 (ks.drop i):=by rw[<-ww,L_]
  omega
 have h0:∀n:Nat,(d_ (d_ (bif (k==(1:Int))then some true else some (k==(2:Int))) λv=>bif v then some (((1:Int),()):Int×Unit)else some ((0:Int),())) fun(v:Int×Unit)=>some v)=some (((bif k==1||k==2 then 1 else 0:Nat):Int),()):=λ_=>by
  cases(k==(1:Int))<;>cases(k==(2:Int))<;>rfl
 have h0':(d_ (bif (k==(1:Int))then some true else some (k==(2:Int))) λv=>bif v then some (((1:Int),()):Int×Unit)else some ((0:Int),()))=some (((bif k==1||k==2 then 1 else 0:Nat):Int),()):=by
  cases(k==(1:Int))<;>cases(k==(2:Int))<;>rfl
 refine aj (qO (a:=(((bif k==1||k==2 then 1 else 0:Nat):Int),())) (λ_=>h0') ?_)
 refine aj (bc (N:=ks.length) (I:=λi s=>s=((((bif k==1||k==2 then 1 else 0)+d6 (ks.take i):Nat):Int),(i:Int),())) (by simp[d6]) (λi s hi hs=>?_) λs hs=>?_)
 ·subst hs
  unfold qt
  refine bD hi (aM hi ?_)
  rw[od]
  have hr:=b_ hi
  refine an (ih ks[i] hr (by have:=hkid _ hr;omega)) (aa ?_)
  have e2:d6 (ks.take (i+1))=d6 (ks.take i)+cnt ks[i]:=by
   rw[o_,a_ hi,ww];simp[d6]
  have:=hc (i+1)
  refine aB_ ?_ (aB_ (aA hi (by omega)) rfl)
  show s_ .i64 ((((bif k==1||k==2 then 1 else 0)+d6 (ks.take i):Nat):Int)+(cnt ks[i]:Int))=_
  rw[wrap_i64 (by omega) (by omega),e2]
  omega
 ·subst hs
  unfold qt
  refine be (aa (aa ?_))
  rw[m_]
  rfl
structure FolR(n:Nat)(F:List (List Int))(P:List (Nat×Nat)):Prop where
 len:F.length=n
 nd:∀l∈F,l.Nodup
 bd:∀l∈F,∀x∈l,0<=x/\x<(n:Int)
 mem:∀p (h:p<F.length) (q:Nat),(q:Int)∈F[p]↔(p,q)∈P
theorem FolR.congr{n:Nat}{F:List (List Int)}{P P':List (Nat×Nat)}(h:FolR n F P)(e:∀x,x∈P↔x∈P'):FolR n F P':=⟨h.len,h.nd,h.bd,λp hp q=>(h.mem p hp q).trans (e _)⟩
theorem FolR.add{n:Nat}{F:List (List Int)}{P:List (Nat×Nat)}(h:FolR n F P){p q:Nat}(hp:p<F.length)(hq:q<n)(hn:(q:Int)∉F[p]):FolR n (F.set p (F[p]++[(q:Int)])) (P++[(p,q)]):=by
 have hmem:∀l∈F.set p (F[p]++[(q:Int)]),l∈F\/l=F[p]++[(q:Int)]:=λl hl=>by
  rcases List.mem_or_eq_of_mem_set hl with h|h
  ·exact .inl h
  ·exact .inr h
 refine⟨by rw[av_,h.len],λl hl=>?_,λl hl x hx=>?_,λp' hp' q'=>?_⟩
 ·rcases hmem l hl with h1|rfl
  ·exact h.nd l h1
  ·exact List.nodup_append.2 ⟨h.nd _ (b_ hp),by simp,λa ha b hb=>by simp at hb;subst hb;rintro rfl;exact hn ha⟩
 ·rcases hmem l hl with h1|rfl
  ·exact h.bd l h1 x hx
  ·rcases p_.1 hx with h2|h2
   ·exact h.bd _ (b_ hp) x h2
   ·simp at h2;subst h2;omega
 ·have hp'':p'<F.length:=by simpa using hp'
  rw[O_]
  split
  ·rename_i e
   subst e
   simp only[p_,l_,h.mem p hp,aE_.injEq,true_and]
   constructor
   ·rintro(h1|h1)
    ·exact .inl h1
    ·exact .inr (by omega)
   ·rintro(h1|h1)
    ·exact .inl h1
    ·exact .inr (by omega)
  ·rename_i e
   simp only[p_,l_,h.mem p' hp'',aE_.injEq]
   constructor
   ·exact .inl
   ·rintro(h1|h1)
    ·exact h1
    ·exact absurd h1.1.symm e
theorem FolR.one{n:Nat}{F:List (List Int)}{P:List (Nat×Nat)}(h:FolR n F P)(hP:∀p q,(p,q)∈P->p<n):FolR (n+1) (F++[[]]) P:=by
 refine⟨by simp[h.len],λl hl=>?_,λl hl x hx=>?_,λp hp q=>?_⟩
 ·rcases p_.1 hl with h1|h1
  ·exact h.nd l h1
  ·simp at h1;subst h1;simp
 ·rcases p_.1 hl with h1|h1
  ·have:=h.bd l h1 x hx;omega
  ·simp at h1;subst h1;cases hx
 ·by_cases hpl:p<F.length
  ·rw[List.getElem_append_left hpl];exact h.mem p hpl q
  ·have:p=F.length:=by simp at hp;omega
   subst this
   simp only[List.getElem_concat_length,List.not_mem_nil,false_iff]
   intro hm
   have:=hP _ _ hm
   have:=h.len
   omega
def f5(M:Nat)(P:List (Nat×Nat)):List (List Bool):=(w_ M).map λi=>(w_ M).map λk=>decide ((i,k)∈P)
theorem FQ(M:Nat)(P:List (Nat×Nat)):(f5 M P).length=M:=by simp[f5]
theorem Bh{M:Nat}{P:List (Nat×Nat)}{i:Nat}(h:i<(f5 M P).length):(f5 M P)[i]=(w_ M).map λk=>decide ((i,k)∈P):=by simp[f5]
theorem Ta{M:Nat}{P:List (Nat×Nat)}{i k:Nat}(hi:i<M)(hk:k<M):(f5 M P).set i (((w_ M).map λk=>decide ((i,k)∈P)).set k true)=f5 M (P++[(i,k)]):=by
 refine z_ (by simp[f5]) λa h1 h2=>?_
 simp only[O_,Bh,av_]at h1⊢
 split
 ·rename_i e
  subst e
  refine z_ (by simp) λb h3 h4=>?_
  simp only[O_,F_,List.getElem_range,p_,l_,aE_.injEq,true_and]
  by_cases hb:k=b
  ·subst hb;simp
  ·rw[if_neg hb]
   refine decide_eq_decide.2 ⟨.inl,λh=>?_⟩
   rcases h with h|h
   ·exact h
   ·exact absurd h.symm hb
 ·rename_i e
  refine am_ λb _=>decide_eq_decide.2 ?_
  simp only[p_,l_,aE_.injEq]
  constructor
  ·exact .inl
  ·rintro(h|⟨h,_⟩)
   ·exact h
   ·exact absurd h.symm e
theorem iJ(a b:List Int)(ha:a.length<=1000000)(hb:b.length<=1000000):aF tbl i6 [.d (.list tI) a,.d (.list tI) b] [] gQ (a++b,()):=by
 refine aw rfl (aC Ki rfl (λO m=>Kp O m a b) ?_)
 unfold Au
 refine aG (decide_eq_true (by simp;omega)) (aG (decide_eq_true (by simp;omega)) (aa ?_))
 simp
theorem ri(x y:Int)(lo hi:List Int)(F:List (List Bool))(h1:lo.length<=1000000)(h2:hi.length<=1000000):aF tbl c9 [.ptr 0 0,.d tI x,.d tI y] [.box aU [.sl 1,.sl 2,.sl 3],.vec cV tI lo,.vec cV tI hi,.tree cO (.s 4 1 .e .e) (.list tB) F none] cq
 (([(lo.length:Int)],[(lo.length:Int)],false,()),lo++[x],hi++[y],F,()):=by
 refine aw rfl (aC uX rfl (λO m=>vi O m x y lo hi F) ?_)
 unfold nu
 exact aG (decide_eq_true (by simp;omega)) (aG (decide_eq_true (by simp;omega)) (aa rfl))
theorem lg{M:Nat}(P:List (Nat×Nat))(lo up:List Int){la fi:List Nat}(hla:∀p∈la,p<M)(hfi:∀q∈fi,q<M)(h1:la.length<=1000000)(h2:fi.length<=1000000)(hM:M<=1000000):
 aF tbl cN [.ptr 0 0,.d (.list tI) (cL la),.d (.list tI) (cL fi)] [.box aU [.sl 1,.sl 2,.sl 3],.vec cV tI lo,.vec cV tI up,.tree cO (.s 4 1 .e .e) (.list tB) (f5 M P) none] b7 (lo,up,f5 M (P++m4 la fi),()):=by
 refine aw rfl (aC tZ rfl (λO m=>uc O m (cL la) (cL fi) lo up (f5 M P)) ?_)
 unfold mU
 refine aj (bc (N:=(cL la).length) (I:=λi s=>s=((i:Int),lo,up,f5 M (P++m4 (la.take i) fi),())) (by simp[m4]) ?_ ?_)
 ·rintro i s hi' rfl
  have hi:i<la.length:=by rw[eC]at hi';exact hi'
  have hp:=hla _ (b_ hi)
  unfold f8
  refine bD hi' (aM hi' ?_)
  rw[Jn hi]
  refine aj (bc (N:=(cL fi).length) (I:=λj s=>s=((j:Int),lo,up,f5 M (P++m4 (la.take i) fi++m4 [la[i]] (fi.take j)),())) (by simp[m4]) ?_ ?_)
  ·rintro j s hj' rfl
   have hj:j<fi.length:=by rw[eC]at hj';exact hj'
   have hq:=hfi _ (b_ hj)
   unfold f6
   refine bD hj' (aM hj' ?_)
   rw[Jn hj]
   have hpl:la[i]<(f5 M (P++m4 (la.take i) fi++m4 [la[i]] (fi.take j))).length:=by rw[FQ];exact hp
   have hg:=a_ hpl
   rw[Bh]at hg
   refine aM hpl (aG (decide_eq_true (by omega)) ?_)
   simp only[e_]
   refine rU hg (rU hg (aG (aD_ _) ?_))
   have hql:fi[j]<((w_ M).map λk=>decide ((la[i],k)∈P++m4 (la.take i) fi++m4 [la[i]] (fi.take j))).length:=by simpa using hq
   refine aM hql (rU (a_ hql) (rU hg (aa ?_)))
   rw[aA hj' (by rw[eC];omega),Ta hp hq]
   congr 4
   rw[o_,a_ hj]
   simp only[m4,List.flatMap_cons,List.flatMap_nil,List.append_nil,C_,an_,ab_,List.map_nil,I_]
  ·rintro s rfl
   unfold f6
   refine be (aa (aa ?_))
   rw[aA hi' (by rw[eC];omega),eC,m_,NR hi,I_]
 ·rintro s rfl
  unfold f8
  refine be (aa (aa ?_))
  rw[eC,m_]
theorem YH{ks:List Rx}(hks:∀r∈ks,dq r=true)(o i:Nat):Lie o (lR (ks.take i) o (Pl.g0 true))/\(lR (ks.take i) o (Pl.g0 true)).sp.length=d6 (ks.take i):=by
 have hl:=uE (.mk 3 0 0 (ks.take i)) o
 have e:iG (.mk 3 0 0 (ks.take i)) o=lR (ks.take i) o (Pl.g0 true):=by simp[iG]
 rw[e]at hl
 refine⟨hl,?_⟩
 have:∀(l:List Rx) (a:G),(∀r∈l,r∈ks)->(lR l o a).sp.length=a.sp.length+d6 l:=by
  intro l
  induction l with
  |nil=>intro a _;simp[lR,d6]
  |cons r l ihl=>
   intro a hl
   have hr:=hl r (h_ ..)
   obtain⟨g1,g2⟩:=rD r (hks r hr) (o+a.sp.length)
   have g3:=ihl (tP a (iG r (o+a.sp.length))) λx hx=>hl x (k_ _ hx)
   simp only[lR,g3,d6]
   simp only[tP,i_,g1]
   omega
 have:=this (ks.take i) (Pl.g0 true) λr hr=>E_ hr
 simpa[Pl.g0]using this
theorem YG{ks:List Rx}(hks:∀r∈ks,dq r=true)(o i:Nat):Lie o (jH (ks.take i) o (Pl.g0 false))/\(jH (ks.take i) o (Pl.g0 false)).sp.length=d6 (ks.take i):=by
 have hl:=uE (.mk 4 0 0 (ks.take i)) o
 have e:iG (.mk 4 0 0 (ks.take i)) o=jH (ks.take i) o (Pl.g0 false):=by simp[iG]
 rw[e]at hl
 refine⟨hl,?_⟩
 have:∀(l:List Rx) (a:G),(∀r∈l,r∈ks)->(jH l o a).sp.length=a.sp.length+d6 l:=by
  intro l
  induction l with
  |nil=>intro a _;simp[jH,d6]
  |cons r l ihl=>
   intro a hl
   have hr:=hl r (h_ ..)
   obtain⟨g1,g2⟩:=rD r (hks r hr) (o+a.sp.length)
   have g3:=ihl (AB a (iG r (o+a.sp.length))) λx hx=>hl x (k_ _ hx)
   simp only[jH,g3,d6]
   simp only[AB,i_,g1]
   omega
 have:=this (ks.take i) (Pl.g0 false) λr hr=>E_ hr
 simpa[Pl.g0]using this
theorem Jr(ks:List Rx)(i:Nat):d6 (ks.take i)<=d6 ks:=by
 have:d6 ks=d6 (ks.take i)+d6 (ks.drop i):=by rw[<-ww,L_]
 omega
theorem AM{ks:List Rx}{i:Nat}(h:i<ks.length):d6 (ks.take i)+cnt ks[i]<=d6 ks:=by
 have e:d6 (ks.take (i+1))=d6 (ks.take i)+cnt ks[i]:=by
  rw[o_,a_ h,ww];simp[d6]
 have:=Jr ks (i+1);omega
theorem xW{M:Nat}(hM:M<=1000000):∀(r:Rx),dq r=true->sz r<=1000000->∀(lo hi:List Int) (P:List (Nat×Nat)),hi.length=lo.length->lo.length+cnt r<=M->
 aF tbl bS [.ptr 0 0,.d .rx r] [.box aU [.sl 1,.sl 2,.sl 3],.vec cV tI lo,.vec cV tI hi,.tree cO (.s 4 1 .e .e) (.list tB) (f5 M P) none] bp
  ((cL (iG r lo.length).fi,cL (iG r lo.length).la,(iG r lo.length).em,()),lo++(iG r lo.length).sp.map (·.1),hi++(iG r lo.length).sp.map (·.2),f5 M (P++(iG r lo.length).pr),()):=by
 refine mN λk lw up ks ih hw hs lo hi P hhi hcn=>?_
 obtain⟨hlen,hkid⟩:=J7 hs
 obtain⟨hn,hks⟩:=well_iff.1 hw
 have hcs:d6 ks<=cnt (.mk k lw up ks):=by simp only[cnt];omega
 refine aw rfl (aC uY rfl (λO m=>vj O m (.mk k lw up ks) lo hi (f5 M P)) ?_)
 unfold nv
 have hv3:(bif (k==(0:Int))then some true else some (k==(3:Int)))=some (k==0||k==3):=by cases(k==(0:Int))<;>rfl
 refine aj (qO (a:=(k==0||k==3)) (λ_=>hv3) ?_)
 rcases hn.known with rfl|rfl|rfl|rfl|rfl|rfl|rfl|rfl
 ·have:=len_nil (hn.leaf (by simp));subst this
  refine qO (a:=some (gX bp (([],[],true,()),lo,hi,f5 M P,()))) (λ_=>rfl) ?_
  simp[iG,Pl.g0,cL]
 ·have:=len_nil (hn.leaf (by simp));subst this
  refine aj (an (ri lw up lo hi _ (by omega) (by omega)) (aa (aa ?_)))
  simp[iG,O8,cL]
 ·have:=len_nil (hn.leaf (by simp));subst this
  refine aj (an (ri 0 4294967295 lo hi _ (by omega) (by omega)) (aa (aa ?_)))
  simp[iG,O8,cL]
 ·have eg:iG (.mk 3 lw up ks) lo.length=lR ks lo.length (Pl.g0 true):=by simp[iG]
  rw[eg]
  show Wp (λn=>d_ (d_ (aS n (dT (qw tbl n) n (.mk 3 lw up ks)) ((0:Int),lo,hi,f5 M P,false,([]:List Int),([]:List Int),true,())) _) _) _
  refine aj (aj (bc (N:=ks.length) (I:=λi s=>s=((i:Int),lo++(lR (ks.take i) lo.length (Pl.g0 true)).sp.map (·.1),hi++(lR (ks.take i) lo.length (Pl.g0 true)).sp.map (·.2),f5 M (P++(lR (ks.take i) lo.length (Pl.g0 true)).pr),false,cL (lR (ks.take i) lo.length (Pl.g0 true)).fi,cL (lR (ks.take i) lo.length (Pl.g0 true)).la,(lR (ks.take i) lo.length (Pl.g0 true)).em,())) (by simp[lR,Pl.g0,cL]) ?_ ?_))
  ·rintro i s hi' rfl
   obtain⟨l1,l2⟩:=YH hks lo.length i
   rw[QC hi']
   have hct:=AM hi'
   generalize lR (ks.take i) lo.length (Pl.g0 true)=a at*
   have hr:=b_ hi'
   obtain⟨w1,w2⟩:=rD ks[i] (hks _ hr) (lo.length+a.sp.length)
   have hlx:=uE ks[i] (lo.length+a.sp.length)
   unfold dT
   refine bD hi' (aM hi' ?_)
   rw[od]
   have hsz:=hkid _ hr
   have hc:=ih ks[i] hr (hks _ hr) (by omega) (lo++a.sp.map (·.1)) (hi++a.sp.map (·.2)) (P++a.pr) (by simp[hhi]) (by simp;omega)
   rw[show(lo++a.sp.map (·.1)).length=lo.length+a.sp.length by simp]at hc
   generalize iG ks[i] (lo.length+a.sp.length)=x at*
   have h1:=l1.fl;have h2:=l1.ll;have h3:=hlx.fl;have h4:=hlx.ll
   refine an hc (an (lg (P++a.pr++x.pr) _ _ (la:=a.la) (fi:=x.fi) (λp hp=>by have:=l1.la p hp;omega) (λq hq=>by have:=hlx.fi q hq;omega) (by omega) (by omega) hM) ?_)
   have hfin:∀b:Bool,a.em=b->∀b2:Bool,x.em=b2->((((i+1:Nat):Int),lo++a.sp.map (·.1)++x.sp.map (·.1),hi++a.sp.map (·.2)++x.sp.map (·.2),f5 M (P++a.pr++x.pr++m4 a.la x.fi),false,(bif b then cL a.fi++cL x.fi else cL a.fi),(bif b2 then cL a.la else [])++cL x.la,b&&b2,()):Int×List Int×List Int×List (List Bool)×Bool×List Int×List Int×Bool×Unit)=(((i+1:Nat):Int),lo++(tP a x).sp.map (·.1),hi++(tP a x).sp.map (·.2),f5 M (P++(tP a x).pr),false,cL (tP a x).fi,cL (tP a x).la,(tP a x).em,()):=λb hb b2 hb2=>by
    simp only[tP,hb,hb2,C_,I_]
    cases b<;>cases b2<;>simp[Sp,cL]
   show Wp (λn=>d_ (bif a.em then _ else _) _) _
   cases hb:a.em
   ·refine aj (aa ?_)
    show Wp (λn=>d_ (bif !x.em then _ else _) _) _
    cases hb2:x.em
    ·refine aj (aa (an (iJ [] (cL x.la) (by simp) (by rw[eC];omega)) (aj (aa (aa ?_)))))
     rw[aA hi' (by omega)];exact hfin false hb false hb2
    ·refine aj (aa (an (iJ (cL a.la) (cL x.la) (by rw[eC];omega) (by rw[eC];omega)) (aj (aa (aa ?_)))))
     rw[aA hi' (by omega)];exact hfin false hb true hb2
   ·refine aj (an (iJ (cL a.fi) (cL x.fi) (by rw[eC];omega) (by rw[eC];omega)) (aa ?_))
    show Wp (λn=>d_ (bif !x.em then _ else _) _) _
    cases hb2:x.em
    ·refine aj (aa (an (iJ [] (cL x.la) (by simp) (by rw[eC];omega)) (aj (aa (aa ?_)))))
     rw[aA hi' (by omega)];exact hfin true hb false hb2
    ·refine aj (aa (an (iJ (cL a.la) (cL x.la) (by rw[eC];omega) (by rw[eC];omega)) (aj (aa (aa ?_)))))
     rw[aA hi' (by omega)];exact hfin true hb true hb2
  ·rintro s rfl
   unfold dT
   refine be (aa (aa (aa ?_)))
   rw[m_]
 ·have eg:iG (.mk 4 lw up ks) lo.length=jH ks lo.length (Pl.g0 false):=by simp[iG]
  rw[eg]
  show Wp (λn=>d_ (d_ (aS n (dU (qw tbl n) n (.mk 4 lw up ks)) ((0:Int),lo,hi,f5 M P,false,([]:List Int),([]:List Int),false,())) _) _) _
  refine aj (aj (bc (N:=ks.length) (I:=λi s=>s=((i:Int),lo++(jH (ks.take i) lo.length (Pl.g0 false)).sp.map (·.1),hi++(jH (ks.take i) lo.length (Pl.g0 false)).sp.map (·.2),f5 M (P++(jH (ks.take i) lo.length (Pl.g0 false)).pr),false,cL (jH (ks.take i) lo.length (Pl.g0 false)).fi,cL (jH (ks.take i) lo.length (Pl.g0 false)).la,(jH (ks.take i) lo.length (Pl.g0 false)).em,())) (by simp[jH,Pl.g0,cL]) ?_ ?_))
  ·rintro i s hi' rfl
   obtain⟨l1,l2⟩:=YG hks lo.length i
   rw[QB hi']
   have hct:=AM hi'
   generalize jH (ks.take i) lo.length (Pl.g0 false)=a at*
   have hr:=b_ hi'
   obtain⟨w1,w2⟩:=rD ks[i] (hks _ hr) (lo.length+a.sp.length)
   have hlx:=uE ks[i] (lo.length+a.sp.length)
   unfold dU
   refine bD hi' (aM hi' ?_)
   rw[od]
   have hsz:=hkid _ hr
   have hc:=ih ks[i] hr (hks _ hr) (by omega) (lo++a.sp.map (·.1)) (hi++a.sp.map (·.2)) (P++a.pr) (by simp[hhi]) (by simp;omega)
   rw[show(lo++a.sp.map (·.1)).length=lo.length+a.sp.length by simp]at hc
   generalize iG ks[i] (lo.length+a.sp.length)=x at*
   have h1:=l1.fl;have h2:=l1.ll;have h3:=hlx.fl;have h4:=hlx.ll
   refine an hc (an (iJ (cL a.fi) (cL x.fi) (by rw[eC];omega) (by rw[eC];omega)) (an (iJ (cL a.la) (cL x.la) (by rw[eC];omega) (by rw[eC];omega)) ?_))
   refine aj (dw (b:=x.em) (λ_=>aa rfl) (aa ?_))
   rw[aA hi' (by omega)]
   simp only[AB,C_,Sp,I_]
  ·rintro s rfl
   unfold dU
   refine be (aa (aa (aa ?_)))
   rw[m_]
 ·obtain⟨x,rfl⟩:=sM (hn.one (by simp))
  have hr:x∈[x]:=l_.2 rfl
  have hsz:=hkid _ hr
  have hct:cnt x<=M - lo.length:=by simp only[d6]at hcs;omega
  have hc:=ih x hr (hks _ hr) (by omega) lo hi P hhi (by simp only[d6]at hcs;omega)
  have hlx:=uE x lo.length
  obtain⟨w1,w2⟩:=rD x (hks _ hr) lo.length
  have eA:jH [x] lo.length (Pl.g0 false)=iG x lo.length:=rfl
  have h3:=hlx.fl;have h4:=hlx.ll
  refine aj (an hc (aj (an (lg (P++(iG x lo.length).pr) _ _ (la:=(iG x lo.length).la) (fi:=(iG x lo.length).fi) (λp hp=>by have:=hlx.la p hp;omega) (λq hq=>by have:=hlx.fi q hq;omega) (by omega) (by omega) hM) (aa ?_))))
  refine aj (dw (b:=(5:Int) != 6) (λ_=>aa rfl) (aa (aa ?_)))
  have eg:iG (.mk 5 lw up [x]) lo.length=if(5:Int)=5 then SC (tF (iG x lo.length))else tF (iG x lo.length):=rfl
  rw[eg]
  simp[SC,tF]
 ·obtain⟨x,rfl⟩:=sM (hn.one (by simp))
  have hr:x∈[x]:=l_.2 rfl
  have hsz:=hkid _ hr
  have hct:cnt x<=M - lo.length:=by simp only[d6]at hcs;omega
  have hc:=ih x hr (hks _ hr) (by omega) lo hi P hhi (by simp only[d6]at hcs;omega)
  have hlx:=uE x lo.length
  obtain⟨w1,w2⟩:=rD x (hks _ hr) lo.length
  have eA:jH [x] lo.length (Pl.g0 false)=iG x lo.length:=rfl
  have h3:=hlx.fl;have h4:=hlx.ll
  refine aj (an hc (aj (an (lg (P++(iG x lo.length).pr) _ _ (la:=(iG x lo.length).la) (fi:=(iG x lo.length).fi) (λp hp=>by have:=hlx.la p hp;omega) (λq hq=>by have:=hlx.fi q hq;omega) (by omega) (by omega) hM) (aa ?_))))
  refine aj (dw (b:=(6:Int) != 6) (λ_=>aa rfl) (aa (aa ?_)))
  have eg:iG (.mk 6 lw up [x]) lo.length=if(6:Int)=5 then SC (tF (iG x lo.length))else tF (iG x lo.length):=rfl
  rw[eg]
  simp[SC,tF]
 ·obtain⟨x,rfl⟩:=sM (hn.one (by simp))
  have hr:x∈[x]:=l_.2 rfl
  have hsz:=hkid _ hr
  have hc:=ih x hr (hks _ hr) (by omega) lo hi P hhi (by simp only[d6]at hcs;omega)
  refine aj (an hc (aj (aa ?_)))
  refine aj (dw (b:=true) (λ_=>aa rfl) (aa (aa ?_)))
  have eg:iG (.mk 7 lw up [x]) lo.length=SC (iG x lo.length):=rfl
  rw[eg]
  simp[SC]
section
variable {α β:Type}
theorem Ut{xs:List α}{i:Nat}{f:Nat->α->Option β}{Q:β->Prop}(h:i<xs.length)(hk:Wp (λn=>f n xs[i]) Q):Wp (λn=>d_ (a8 xs (i:Int)) λ_=>d_ xs[u_ (i:Int)]? (f n)) Q:=by
 refine aM h ?_
 rw[e_]
 exact rU (a_ h) hk
theorem Ag{M i:Nat}{g:Nat->Bool}{f:Nat->Bool->Option β}{Q:β->Prop}(h:i<M)(hk:Wp (λn=>f n (g i)) Q):Wp (λn=>d_ (a8 (bJ M g) (i:Int)) λ_=>d_ (bJ M g)[u_ (i:Int)]? (f n)) Q:=by
 refine Ut (by rw[ol];exact h) ?_
 rw[Uo]
 exact hk
end
theorem N4{M:Nat}(hM:M<=1000000):Wp (λn=>aS n (l7 (qw tbl n) n ((M:Int),())) ((0:Int),f_ (u_ (M:Int)) ([]:List Bool),())) λt=>t=(f5 M [],()):=by
 have hz:f5 M []=f_ M (f_ M false):=by
  refine z_ (by simp[f5]) λi h1 h2=>?_
  rw[Bh,List.getElem_replicate]
  refine z_ (by simp) λj h3 h4=>by simp
 refine bc (N:=M) (I:=λi s=>s=((i:Int),(f_ M (f_ M false)).take i++f_ (M - i) [],())) (by simp) ?_ ?_
 ·rintro i s hi rfl
  have hln:((f_ M (f_ M false)).take i++f_ (M - i) ([]:List Bool)).length=M:=by simp;omega
  have hget:i<((f_ M (f_ M false)).take i++f_ (M - i) ([]:List Bool)).length:=by rw[hln];exact hi
  unfold l7
  show Wp (λn=>bif decide ((i:Int)<((f_ (u_ (M:Int)) ([]:List Bool)).length:Int))then _ else _) _
  rw[D_,e_]
  refine bD hi ?_
  show Wp (λn=>aK _ _) _
  refine aG (by rw[hln];simp only[g_,decide_eq_true_eq];omega) ?_
  refine aM hget (aG (decide_eq_true (by omega)) ?_)
  rw[e_]
  refine rU (a_ hget) (rU (a_ hget) (aG (aD_ _) (rU (a_ hget) (aa ?_))))
  rw[aA hi (by omega),hln,e_]
  congr 2
  refine List.ext_getElem? λj=>?_
  rw[List.getElem?_set]
  by_cases hj:i=j
  ·subst hj
   rw[if_pos rfl,if_pos hget,x_ (by simp;omega),U_,A_,if_pos (by omega)]
   rfl
  ·rw[if_neg hj]
   by_cases h1:j<i
   ·rw[x_ (by simp;omega),x_ (by simp;omega)]
    rw[U_,U_,A_,A_,if_pos (by omega),if_pos (by omega)]
   ·rw[Y_ (by simp;omega),Y_ (by simp;omega)]
    simp only[r_,D_,A_]
    rw[aw_ (by omega),aw_ (by omega)]
    by_cases h2:j<M
    ·rw[if_pos (by omega),if_pos (by omega)]
    ·rw[if_neg (by omega),if_neg (by omega)]
 ·rintro s rfl
  unfold l7
  show Wp (λn=>bif decide ((M:Int)<((f_ (u_ (M:Int)) ([]:List Bool)).length:Int))then _ else _) _
  rw[D_,e_]
  refine be (aa ?_)
  show(_,_)=(_,_)
  rw[hz]
  simp
theorem JI{M:Nat}(hM:M<=1000000)(fi la:List Nat)(em:Bool)(lo up:List Int)(F:List (List Bool))(hfi:∀p∈fi,p<M)(hl:fi.length<=1000000):
 Wp (λn=>aS n (l8 (qw tbl n) n ((cL fi,cL la,em,()),lo,up,F,())) ((0:Int),lo,up,F,cL fi,cL la,em,bJ M (λ_=>false),())) λt=>t=(lo,up,F,cL fi,cL la,em,bJ M (λp=>decide (p∈fi)),()):=by
 refine bc (N:=(cL fi).length) (I:=λi s=>s=((i:Int),lo,up,F,cL fi,cL la,em,bJ M (λp=>decide (p∈fi.take i)),())) (by simp) ?_ ?_
 ·rintro i s hi' rfl
  have hi:i<fi.length:=by rw[eC]at hi';exact hi'
  have hp:=hfi _ (b_ hi)
  unfold l8
  refine bD hi' (aM hi' ?_)
  rw[Jn hi]
  refine Ag hp (aa ?_)
  rw[aA hi' (by rw[eC];omega),e_,GB]
  have e:(bJ M λj=>if j=fi[i]then true else decide (j∈fi.take i))=bJ M λp=>decide (p∈fi.take (i+1)):=mR λj _=>by
   have ht:∀x,x∈fi.take (i+1)↔x∈fi.take i\/x=fi[i]:=λx=>by
    rw[o_,a_ hi,p_,an_,l_]
   by_cases h:j=fi[i]
   ·rw[if_pos h,decide_eq_true ((ht j).2 (.inr h))]
   ·rw[if_neg h]
    refine decide_eq_decide.2 ⟨λh1=>(ht j).2 (.inl h1),λh1=>((ht j).1 h1).resolve_right h⟩
  rw[e]
 ·rintro s rfl
  unfold l8
  refine be (aa ?_)
  rw[eC,m_]
theorem NL{M:Nat}(hM:M<=1000000){i:Nat}(hi:i<M)(P:List (Nat×Nat))(lo up fi la:List Int)(em:Bool)(fc fa0 fa fn:Nat->Bool):
 Wp (λn=>aS n (l9 (qw tbl n) n ((i:Int),f5 M P,lo,up,fi,la,em,bJ M fc,bJ M fa0,bJ M fn,())) ((0:Int),f5 M P,lo,up,fi,la,em,bJ M fc,bJ M fa,bJ M fn,())) λt=>
  t=(f5 M P,lo,up,fi,la,em,bJ M fc,bJ M fa,bJ M (λq=>fn q||(fa i&&decide ((i,q)∈P))),()):=by
 refine bc (N:=(bJ M fn).length) (I:=λk s=>s=((k:Int),f5 M P,lo,up,fi,la,em,bJ M fc,bJ M fa,bJ M (λq=>if q<k then fn q||(fa i&&decide ((i,q)∈P))else fn q),())) (by simp) ?_ ?_
 ·rintro k s hk' rfl
  have hk:k<M:=by rw[ol]at hk';exact hk'
  unfold l9
  refine bD hk' (Ag hk ?_)
  rw[if_neg (Nat.lt_irrefl k)]
  refine aj (dw (b:=fa i&&decide ((i,k)∈P)) (λ_=>?_) ?_)
  ·refine Ag hi (aj (cr (b:=decide ((i,k)∈P)) (λ_=>?_) (aa rfl)))
   refine aM (xs:=f5 M P) (by rw[FQ];exact hi) ?_
   rw[Bh]
   refine aM (by simpa using hk) (aa ?_)
   simp
  ·refine Ag hk (aa ?_)
   rw[aA hk' (by rw[ol];omega),e_,GB]
   have e:(bJ M λj=>if j=k then fn k||(fa i&&decide ((i,k)∈P))else if j<k then fn j||(fa i&&decide ((i,j)∈P))else fn j)=bJ M λq=>if q<k+1 then fn q||(fa i&&decide ((i,q)∈P))else fn q:=mR λj _=>by
    by_cases h:j=k
    ·subst h;simp
    ·by_cases h1:j<k
     ·simp[h,h1,show j<k+1 by omega]
     ·simp[h,h1,show ¬j<k+1 by omega]
   rw[e]
 ·rintro s rfl
  unfold l9
  refine be (aa ?_)
  rw[ol]
  have e:(bJ M λq=>if q<M then fn q||(fa i&&decide ((i,q)∈P))else fn q)=bJ M λq=>fn q||(fa i&&decide ((i,q)∈P)):=mR λj hj=>by rw[if_pos hj]
  rw[e]
theorem EX(f:Nat->Bool)(i:Nat):(w_ (i+1)).any f=((w_ i).any f||f i):=by
 rw[List.range_succ,au_];simp
theorem Oy{M:Nat}(hM:M<=1000000)(g:G)(hsp:g.sp.length=M)(hpr:∀p q,(p,q)∈g.pr->p<M)(JP:Int)(fi la:List Int)(em:Bool)(fc fa:Nat->Bool)(v:Int):
 Wp (λn=>aS n (mb (qw tbl n) n (JP,f5 M g.pr,g.sp.map (·.1),g.sp.map (·.2),fi,la,em,bJ M fc,bJ M fa,()) v) ((0:Int),f5 M g.pr,g.sp.map (·.1),g.sp.map (·.2),fi,la,em,bJ M fc,bJ M fa,bJ M (λ_=>false),())) λt=>
  t=(f5 M g.pr,g.sp.map (·.1),g.sp.map (·.2),fi,la,em,bJ M (G4 g fc v),bJ M (WQ g (G4 g fc v)),()):=by
 refine bc (N:=(bJ M fa).length) (I:=λi s=>s=((i:Int),f5 M g.pr,g.sp.map (·.1),g.sp.map (·.2),fi,la,em,bJ M fc,bJ M (λj=>if j<i then G4 g fc v j else fa j),bJ M (λq=>(w_ i).any λj=>G4 g fc v j&&decide ((j,q)∈g.pr)),())) (by simp) ?_ ?_
 ·rintro i s hi' rfl
  have hi:i<M:=by rw[ol]at hi';exact hi'
  have his:i<g.sp.length:=by omega
  have hh:QD g v i=(decide (g.sp[i].1<=v)&&decide (v<=g.sp[i].2)):=by
   unfold QD
   rw[a_ his]
  unfold mb
  refine bD hi' (Ag hi ?_)
  refine aj (cr (b:=decide (g.sp[i].1<=v)) (λ_=>?_) ?_)
  ·refine Ut (xs:=g.sp.map (·.1)) (by simpa using his) ?_
   refine aa ?_
   simp
  refine aj (cr (b:=decide (v<=g.sp[i].2)) (λ_=>?_) ?_)
  ·refine Ut (xs:=g.sp.map (·.2)) (by simpa using his) ?_
   refine aa ?_
   simp
  refine Ag hi ?_
  have ha:((fc i&&decide (g.sp[i].1<=v))&&decide (v<=g.sp[i].2))=G4 g fc v i:=by
   unfold G4
   rw[hh,W_]
  rw[ha,e_]
  have e1:(bJ M λj=>if j<i then G4 g fc v j else fa j).set i (G4 g fc v i)=bJ M λj=>if j<i+1 then G4 g fc v j else fa j:=by
   rw[GB]
   refine mR λj _=>?_
   by_cases h:j=i
   ·subst h;simp
   ·by_cases h1:j<i
    ·simp[h,h1,show j<i+1 by omega]
    ·simp[h,h1,show ¬j<i+1 by omega]
  rw[e1]
  refine aj (Ev.wp_mono (NL hM hi g.pr _ _ fi la em fc _ _ _) ?_)
  rintro t rfl
  refine aa ?_
  rw[aA hi' (by rw[ol];omega)]
  have e2:(bJ M λq=>((w_ i).any λj=>G4 g fc v j&&decide ((j,q)∈g.pr))||((if i<i+1 then G4 g fc v i else fa i)&&decide ((i,q)∈g.pr)))=bJ M λq=>(w_ (i+1)).any λj=>G4 g fc v j&&decide ((j,q)∈g.pr):=mR λq _=>by
   rw[EX,if_pos (Nat.lt_succ_self i)]
  rw[e2]
 ·rintro s rfl
  unfold mb
  refine be (aa ?_)
  rw[ol]
  have e1:(bJ M λj=>if j<M then G4 g fc v j else fa j)=bJ M (G4 g fc v):=mR λj hj=>by rw[if_pos hj]
  have e2:(bJ M λq=>(w_ M).any λj=>G4 g fc v j&&decide ((j,q)∈g.pr))=bJ M (WQ g (G4 g fc v)):=mR λq _=>by
   refine Bool.eq_iff_iff.2 ?_
   rw[nxF_iff,N_]
   constructor
   ·rintro⟨p,_,h⟩
    simp only[g_,decide_eq_true_eq]at h
    exact⟨p,h⟩
   ·rintro⟨p,h1,h2⟩
    exact⟨p,az_.2 (hpr p q h2),by simp[h1,h2]⟩
  rw[e1,e2]
theorem Mc{path:List Int}{i:Nat}(h:i<path.length):kq (path.take (i+1))=(kq (path.take i)&&(decide (0<=path[i])&&decide (path[i]<=4294967295))):=by
 unfold kq
 rw[o_,a_ h,ai_]
 simp
theorem Md{path:List Int}{i:Nat}(h:kq (path.take i)=false):kq path=false:=by
 cases e:kq path
 ·rfl
 ·have:kq (path.take i)=true:=by
   unfold kq at e⊢
   rw[M_]at e⊢
   exact λx hx=>e x (E_ hx)
  rw[this]at h;cases h
theorem NQ{M:Nat}(hM:M<=1000000)(g:G)(hsp:g.sp.length=M)(hpr:∀p q,(p,q)∈g.pr->p<M)(fi la:List Int)(em:Bool)(path:List Int)(hp:path.length<=1000000):
 Wp (λn=>aS n (mc (qw tbl n) n path) ((0:Int),f5 M g.pr,g.sp.map (·.1),g.sp.map (·.2),fi,la,em,bJ M (nZ g []).1,bJ M (nZ g []).2,())) λt=>match t with
  | .inl e=>e=(false,())/\kq path=false
  | .inr t=>kq path=true/\t=(fi,la,em,bJ M (nZ g path).2,()):=by
 refine bc (N:=path.length) (I:=λi s=>kq (path.take i)=true/\s=((i:Int),f5 M g.pr,g.sp.map (·.1),g.sp.map (·.2),fi,la,em,bJ M (nZ g (path.take i)).1,bJ M (nZ g (path.take i)).2,())) ⟨rfl,by simp⟩ ?_ ?_
 ·rintro i s hi ⟨hr,rfl⟩
  have hsu:=Mc hi
  rw[hr,P_]at hsu
  unfold mc
  refine bD hi (aM hi ?_)
  refine aj (dw (b:=decide (path[i]>4294967295)) (λ_=>aa rfl) ?_)
  refine ar (λh=>aa ⟨rfl,?_⟩) λh=>?_
  ·refine Md (i:=i+1) ?_
   rw[hsu]
   have h:(decide (path[i]<0)||decide (path[i]>4294967295))=true:=h
   simp only[ah_,decide_eq_true_eq]at h
   simp only[aj_,decide_eq_false_iff_not]
   omega
  ·have h:(decide (path[i]<0)||decide (path[i]>4294967295))=false:=h
   simp only[Q_,decide_eq_false_iff_not]at h
   have hl:(bJ M (nZ g (path.take i)).1).length=M:=ol _ _
   refine aG ?_ ?_
   ·show(decide (0<=((bJ M (nZ g (path.take i)).1).length:Int))&&decide (((bJ M (nZ g (path.take i)).1).length:Int)<=((bJ M (nZ g (path.take i)).1).length:Int))&&decide (((bJ M (nZ g (path.take i)).1).length:Int)<=9223372036854775807)&&decide (1*((bJ M (nZ g (path.take i)).1).length:Int)<=281474976710656))=true
    rw[hl]
    simp only[g_,decide_eq_true_eq]
    omega
   have h3:=Oy hM g hsp hpr (i:Int) fi la em (nZ g (path.take i)).1 (nZ g (path.take i)).2 path[i]
   have hz:f_ (u_ ((bJ M (nZ g (path.take i)).1).length:Int)) (Ty.zero tB)=bJ M λ_=>false:=by
    rw[hl,e_];exact GA M
   rw[<-hz]at h3
   refine aj (Ev.wp_mono h3 ?_)
   rintro t rfl
   refine aa ⟨?_,?_⟩
   ·rw[hsu]
    simp only[g_,decide_eq_true_eq]
    omega
   ·rw[aA hi (by omega),Q9 hi]
    rfl
 ·rintro s ⟨hr,rfl⟩
  unfold mc
  rw[m_]at hr
  refine be (aa ⟨hr,?_⟩)
  rw[m_]
theorem GV(r:Rx)(hs:sz r<=100000)(path:List Int)(hp:path.length<=1000000):
 aF tbl pg [.d .rx r,.d (.list tI) path] [] dY (dq r&&(kq path&&uK (iG r 0) path),()):=by
 refine aw rfl (aC HN rfl (λO m=>H5 O m r path) ?_)
 unfold za
 refine an (Jh r (by omega)) (ar (λh=>aa ?_) λh=>?_)
 ·have h:(!dq r)=true:=h
  have:dq r=false:=by simpa using h
  rw[this];rfl
 have hw:dq r=true:=by
  have h:(!dq r)=false:=h
  simpa using h
 rw[hw,P_]
 have hM:cnt r<=100000:=ag_ (Sx r) hs
 obtain⟨hsp,_⟩:=rD r hw 0
 have hlie:=uE r 0
 refine an (GZ r (by omega)) (aG ?_ (aj (Ev.wp_mono (N4 (M:=cnt r) (by omega)) ?_)))
 ·show(decide (0<=(cnt r:Int))&&decide ((cnt r:Int)<=(cnt r:Int))&&decide ((cnt r:Int)<=9223372036854775807)&&decide (24*(cnt r:Int)<=281474976710656))=true
  simp only[g_,decide_eq_true_eq]
  omega
 rintro t rfl
 have hwk:=xW (M:=cnt r) (by omega) r hw (by omega) [] [] [] rfl (by simp)
 simp only[H_,B_]at hwk
 generalize hg:iG r 0=g at*
 have hl:(f5 (cnt r) g.pr).length=cnt r:=FQ _ _
 have hz:f_ (u_ ((f5 (cnt r) g.pr).length:Int)) (Ty.zero tB)=bJ (cnt r) λ_=>false:=by
  rw[hl,e_];exact GA _
 refine an hwk (aG ?_ ?_)
 ·show(decide (0<=((f5 (cnt r) g.pr).length:Int))&&decide (((f5 (cnt r) g.pr).length:Int)<=((f5 (cnt r) g.pr).length:Int))&&decide (((f5 (cnt r) g.pr).length:Int)<=9223372036854775807)&&decide (1*((f5 (cnt r) g.pr).length:Int)<=281474976710656))=true
  rw[hl]
  simp only[g_,decide_eq_true_eq]
  omega
 have h1:=JI (M:=cnt r) (by omega) g.fi g.la g.em (g.sp.map (·.1)) (g.sp.map (·.2)) (f5 (cnt r) g.pr) (λp hp=>by have:=hlie.fi p hp;omega) (by have:=hlie.fl;omega)
 rw[<-hz]at h1
 refine aj (Ev.wp_mono h1 ?_)
 rintro t rfl
 have hl2:(bJ (cnt r) λp=>decide (p∈g.fi)).length=cnt r:=ol _ _
 have hz2:f_ (u_ ((bJ (cnt r) λp=>decide (p∈g.fi)).length:Int)) (Ty.zero tB)=bJ (cnt r) λ_=>false:=by
  rw[hl2,e_];exact GA _
 refine aG ?_ ?_
 ·show(decide (0<=((bJ (cnt r) λp=>decide (p∈g.fi)).length:Int))&&decide (((bJ (cnt r) λp=>decide (p∈g.fi)).length:Int)<=((bJ (cnt r) λp=>decide (p∈g.fi)).length:Int))&&decide (((bJ (cnt r) λp=>decide (p∈g.fi)).length:Int)<=9223372036854775807)&&decide (1*((bJ (cnt r) λp=>decide (p∈g.fi)).length:Int)<=281474976710656))=true
  rw[hl2]
  simp only[g_,decide_eq_true_eq]
  omega
 have h4:=NQ (M:=cnt r) (by omega) g hsp (λp q h=>by have:=(hlie.pr p q h).1;omega) (cL g.fi) (cL g.la) g.em path hp
 have hst:(bJ (cnt r) (nZ g []).2)=f_ (u_ ((bJ (cnt r) λp=>decide (p∈g.fi)).length:Int)) (Ty.zero tB):=hz2.symm
 rw[hst]at h4
 refine aj (Ev.wp_mono h4 ?_)
 rintro(e|t) ht
 ·obtain⟨rfl,hr⟩:=ht
  refine aa ?_
  rw[hr];rfl
 obtain⟨hr,rfl⟩:=ht
 rw[hr,P_]
 refine ar (λh=>aa ?_) λh=>?_
 ·have:path=[]:=List.eq_nil_of_length_eq_zero (by
   have h:((path.length:Int)==0)=true:=h
   simpa using h)
  subst this
  rfl
 ·have hne:path.isEmpty=false:=by
   cases path with
   |nil=>cases h
   |cons=>rfl
  have hmg:uK g path=g.la.any (nZ g path).2:=by unfold uK;rw[hne];rfl
  rw[hmg]
  have hlast:Wp (λn=>aS n (mf (qw tbl n) n (cL g.fi,cL g.la,g.em,bJ (cnt r) (nZ g path).2,())) ((0:Int),bJ (cnt r) (nZ g path).2,())) λt=>match t with
   | .inl e=>e=(true,())/\g.la.any (nZ g path).2=true
   | .inr _=>g.la.any (nZ g path).2=false:=by
   refine bc (N:=(cL g.la).length) (I:=λi s=>s=((i:Int),bJ (cnt r) (nZ g path).2,())/\(g.la.take i).any (nZ g path).2=false) ⟨rfl,rfl⟩ ?_ ?_
   ·rintro i s hi' ⟨rfl,ha⟩
    have hi:i<g.la.length:=by rw[eC]at hi';exact hi'
    have hm:=b_ hi
    have hlt:g.la[i]<cnt r:=by have:=hlie.la _ hm;omega
    have hll:=hlie.ll
    unfold mf
    refine bD hi' (aM hi' ?_)
    rw[Jn hi]
    refine Ag hlt (ar (λh=>aa ⟨rfl,?_⟩) λh=>aa ⟨?_,?_⟩)
    ·exact N_.2 ⟨_,hm,h⟩
    ·rw[aA hi' (by rw[eC];omega)]
    ·rw[o_,a_ hi,au_,ha]
     simp[h]
   ·rintro s ⟨rfl,ha⟩
    unfold mf
    refine be (aa ?_)
    rw[eC,m_]at ha
    exact ha
  refine aj (Ev.wp_mono hlast ?_)
  rintro(e|t) ht
  ·obtain⟨rfl,ha⟩:=ht
   refine aa ?_
   rw[ha]
  ·refine aa ?_
   rw[show g.la.any (nZ g path).2=false from ht]
structure CurR(M:Nat)(C:List Int)(can:Nat->Bool):Prop where
 bd:∀x∈C,0<=x/\x<(M:Int)
 mem:∀q:Nat,(q:Int)∈C↔can q=true
 len:C.length<=10000000000
theorem t7{α β:Type}{m:Option α}{a:α}{f:Nat->α->Option β}{Q:β->Prop}(h:m=some a)(k:Wp (λn=>f n a) Q):Wp (λn=>d_ m (f n)) Q:=by
 subst h;exact k
open Classical in
noncomputable def m9(s:List UInt8):Int:=if ∃r,iv r=0/\j4 r=s then 0 else 2
theorem VD{s:List UInt8}{c:Rx×Int×Unit}(h:ParsedX s c):c.2.1=m9 s:=by
 unfold m9
 rcases h with⟨r,h1,h2,rfl⟩|⟨h1,rfl⟩
 ·rw[if_pos ⟨r,h1,h2⟩]
 ·rw[if_neg fun⟨r,h2,h3⟩=>h1 r h2 h3]
theorem vl(s:List UInt8)(hs:s.length<=9223372036854775807):aF tbl jh [.d tS s] [] eG (rI s,()):=by
 refine aw rfl (aC Eb rfl (λO n=>En O n s) ?_)
 unfold vt
 refine aj (EK (xs:=s) (P:=λc=>FU c=true) (e:=(false,())) (g:=()) (λi hi=>?_) ?_ (λh=>?_) λh=>?_)
 ·unfold nx
  refine bD hi (aM hi ?_)
  refine aj (cr (b:=decide ((s[i].toNat:Int)<=122)) (λ_=>aa rfl) ?_)
  refine aj (dw (b:=decide ((s[i].toNat:Int)>=65)&&decide ((s[i].toNat:Int)<=90)) (λ_=>aj (cr (b:=decide ((s[i].toNat:Int)<=90)) (λ_=>aa rfl) (aa rfl))) ?_)
  refine aj (dw (b:=decide ((s[i].toNat:Int)>=48)&&decide ((s[i].toNat:Int)<=57)) (λ_=>aj (cr (b:=decide ((s[i].toNat:Int)<=57)) (λ_=>aa rfl) (aa rfl))) ?_)
  refine aj (dw (b:=((s[i].toNat:Int)==45)) (λ_=>aa rfl) (BL ?_ (by rw[aA hi hs])))
  show(!FU s[i])=true↔_
  cases FU s[i]<;>simp
 ·unfold nx
  exact be (aa rfl)
 ·refine aj (cr (b:=decide ((s.length:Int)<=32)) (λ_=>aa rfl) (aa ?_))
  have e:rI s=(decide ((s.length:Int)>=1)&&decide ((s.length:Int)<=32)):=by
   unfold rI
   rw[M_.2 h,P_]
   congr 1<;>exact decide_eq_decide.2 (by omega)
  rw[e]
 ·refine aa ?_
  have e:rI s=false:=by
   unfold rI
   cases e:s.all FU
   ·rfl
   ·exact absurd (M_.1 e) h
  rw[e]
theorem nf(l:List (List UInt8))(i:Nat)(hi:i<l.length)(hl:l.length<=9223372036854775807)(hs:l[i].length<=9223372036854775807):
 aF tbl fP [.d (.list tS) ((l.take (u_ (i:Int))).drop 0),.d tS l[i]] [] cE (rH l i,()):=by
 refine aw rfl (aC Gr rfl (λO n=>GH O n _ _) ?_)
 unfold wj
 rw[ax_,e_]
 have en:rH l i=if rI l[i]=false then 1 else if 0<i/\NO l[i] (l.getD (i - 1) [])=true then 16 else 0:=by
  unfold rH
  rw[a_ hi]
 have hlen:(l.take i).length=i:=by rw[r_];omega
 refine an (vl l[i] hs) (ar (λh=>aa ?_) λh=>?_)
 ·rw[en,if_pos (by simpa using h)]
 have hn:¬rI l[i]=false:=by simpa using h
 refine aj (cr (b:=NO l[i] (l.getD (i - 1) [])) (λh0=>?_) (ar (λh=>aa ?_) λh=>aa ?_))
 ·have h0:=of_decide_eq_true h0
  rw[hlen]at h0⊢
  have e:s_ .i64 ((i:Int) - 1)=((i - 1:Nat):Int):=by rw[wrap_i64 (by omega) (by omega)];omega
  rw[e]
  refine EL (x:=l.getD (i - 1) []) ?_ (aa rfl)
  rw[List.getElem?_take_of_lt (by omega),v_,a_ (by omega)]
  rfl
 ·rw[hlen]at h
  simp only[g_,decide_eq_true_eq]at h
  rw[en,if_neg hn,if_pos ⟨by omega,h.2⟩]
 ·rw[hlen]at h
  simp only[aj_,decide_eq_false_iff_not]at h
  rw[en,if_neg hn,if_neg]
  rintro⟨h1,h2⟩
  rcases h with h|h
  ·exact h (by omega)
  ·rw[h]at h2;cases h2
abbrev yN:Ty:=pr [.list tS,.list tS,.list tS,.list tS]
def bT(s:PS):yN.den:=(s.1.map (·.1),s.2.1.map (·.1),s.2.2.1.map (·.1),s.2.2.2.1.map (·.1),())
theorem xQ{α β:Type}{f:α->β}{l:List α}{i:Nat}(hi:i<l.length):(l.take i).map f++[f l[i]]=(l.take (i+1)).map f:=by
 rw[<-ac_ hi,C_];rfl
theorem EP(s:PS)(h1:s.1.length<=1048576)(h2:s.2.1.length<=1048576)(h3:s.2.2.1.length<=1048576)(h4:s.2.2.2.1.length<=1048576):aF tbl nB [.d yS s] [] km (bT s,()):=by
 refine aw rfl (aC Gs rfl (λO n=>GI O n s) ?_)
 unfold wk
 have hg:∀{α:Type} {l:List α} {f:α->List UInt8} {i:Nat},i<l.length->l.length<=1048576->decide ((((l.take i).map f).length+1)*16<=140737488355328)=true:=fun{α l f i} hi hl=>by
  rw[c_,r_];exact decide_eq_true (by omega)
 refine aj (bc (N:=s.1.length) (I:=λi t=>t=((i:Int),(s.1.take i).map (·.1),())) rfl (λi t hi ht=>?_) λt ht=>?_)
 ·subst ht
  unfold oG
  refine bD hi (aM hi (aG rfl (aG (hg hi h1) (aG rfl (aa ?_)))))
  simp only
  rw[aA hi (by omega),xQ (f:=λx:Xx=>x.1) hi]
 subst ht
 unfold oG
 refine be (aa ?_)
 rw[n_ (y_ _)]
 refine aj (bc (N:=s.2.1.length) (I:=λi t=>t=((i:Int),s.1.map (·.1),(s.2.1.take i).map (·.1),())) rfl (λi t hi ht=>?_) λt ht=>?_)
 ·subst ht
  unfold oH
  refine bD hi (aM hi (aG rfl (aG (hg hi h2) (aG rfl (aa ?_)))))
  simp only
  rw[aA hi (by omega),xQ (f:=λx:Xw=>x.1) hi]
 subst ht
 unfold oH
 refine be (aa ?_)
 rw[n_ (y_ _)]
 refine aj (bc (N:=s.2.2.1.length) (I:=λi t=>t=((i:Int),s.1.map (·.1),s.2.1.map (·.1),(s.2.2.1.take i).map (·.1),())) rfl (λi t hi ht=>?_) λt ht=>?_)
 ·subst ht
  unfold oI
  refine bD hi (aM hi (aG rfl (aG (hg hi h3) (aG rfl (aa ?_)))))
  simp only
  rw[aA hi (by omega),xQ (f:=λx:Xv=>x.1) hi]
 subst ht
 unfold oI
 refine be (aa ?_)
 rw[n_ (y_ _)]
 refine aj (bc (N:=s.2.2.2.1.length) (I:=λi t=>t=((i:Int),s.1.map (·.1),s.2.1.map (·.1),s.2.2.1.map (·.1),(s.2.2.2.1.take i).map (·.1),())) rfl (λi t hi ht=>?_) λt ht=>?_)
 ·subst ht
  unfold oJ
  refine bD hi (aM hi (aG rfl (aG (hg hi h4) (aG rfl (aa ?_)))))
  simp only
  rw[aA hi (by omega),xQ (f:=λx:De=>x.1) hi]
 subst ht
 unfold oJ
 refine be (aa (aa ?_))
 rw[n_ (y_ _)]
 rfl
theorem cg(n a b:Int):aF tbl bN [.d tI n,.d tI a,.d tI b] [] bF (decide (a<=n)&&decide (n<=b),()):=by
 refine aw rfl (aC Ec rfl (λO k=>Eo O k n a b) ?_)
 unfold vu
 exact aj (cr (b:=decide (n<=b)) (λ_=>aa rfl) (aa rfl))
theorem nb(l:List (List UInt8))(n:List UInt8)(hl:l.length<=9223372036854775807):aF tbl jM [.d (.list tS) l,.d tS n] [] ev (l.any (·==n),()):=by
 refine aw rfl (aC BD rfl (λO k=>BR O k l n) ?_)
 unfold sf
 refine aj (BK (xs:=l) (p:=(·==n)) (g:=λ_=>(true,())) (e:=()) (λi r hi=>?_) ?_ ?_)
 ·unfold lx
  have hlt:=(G_.1 hi).1
  refine bD hlt (EL hi (ar (λh=>aa ?_) λh=>aa ?_))
  ·rw[if_pos h]
  ·rw[if_neg (by simp[h]),aA hlt hl]
 ·unfold lx
  exact be (aa rfl)
 ·cases e:l.find? (·==n)with
  |some r=>
   have e2:l.any (·==n)=true:=N_.2 ⟨r,List.mem_of_find?_eq_some e,List.find?_some (p:=(·==n)) e⟩
   rw[e2]
   exact aa rfl
  |none=>
   have e2:l.any (·==n)=false:=by
    rw[List.find?_eq_none]at e
    exact ao_.2 e
   rw[e2]
   exact aa rfl
theorem tK(k N pa pl:Int)(nm:List UInt8)(nt:Bool):(true ^^ m8 yM (k,nm,N,(pa,pl,()),nt,()) (k,nm,0,(0,0,()),nt,()))=true↔(N≠0\/pa≠0\/pl≠0):=by
 by_cases a:N=0<;>by_cases b:pa=0<;>by_cases c:pl=0<;>simp[m8,a,b,c]
theorem Tj(k N pa pl:Int)(nm:List UInt8)(nt:Bool):(true ^^ m8 yM (k,nm,N,(pa,pl,()),nt,()) (k,[],N,(0,0,()),nt,()))=true↔(nm≠[]\/pa≠0\/pl≠0):=by
 by_cases a:nm=[]<;>by_cases b:pa=0<;>by_cases c:pl=0<;>simp[m8,a,b,c]
theorem Ti(k N pa pl:Int)(nm:List UInt8)(nt:Bool):(true ^^ m8 yM (k,nm,N,(pa,pl,()),nt,()) (k,[],0,(pa,pl,()),nt,()))=true↔(nm≠[]\/N≠0):=by
 by_cases a:nm=[]<;>by_cases b:N=0<;>simp[m8,a,b]
theorem qf{b:Bool}{P:Prop}(h:b=false)(e:b=true↔P):¬P:=λp=>by rw[e.2 p]at h;cases h
theorem xV(s:PS)(m:Uw)(hs:okD yS s)(hm:qg m.2.2.2.1.1):aF tbl g9 [.d yN (bT s),.d yM m] [] bn (vO s m,()):=by
 obtain⟨k,nm,N,⟨pa,pl,⟨⟩⟩,nt,⟨⟩⟩:=m
 refine aw rfl (aC yq rfl (λO n=>yJ O n (bT s) (k,nm,N,(pa,pl,()),nt,())) ?_)
 unfold qM
 refine aj (aj ?_)
 have hl1:(s.1.map (·.1)).length<=9223372036854775807:=by rw[c_];exact hs.1.1
 have hl2:(s.2.1.map (·.1)).length<=9223372036854775807:=by rw[c_];exact hs.2.1.1
 have hl3:(s.2.2.1.map (·.1)).length<=9223372036854775807:=by rw[c_];exact hs.2.2.1.1
 by_cases h1:k=1
 ·subst h1
  rw[zU (.inl rfl)]
  have ha:(s.1.map (·.1)).any (·==nm)=SY s 1 nm:=by rw[ap_];rfl
  refine aX rfl (aa (aX rfl (ar (λh=>aa (aa ?_)) λh=>?_)))
  ·rw[if_pos ((tK _ _ _ _ _ _).1 h)]
  ·rw[if_neg (qf h (tK _ _ _ _ _ _))]
   refine t7 (a:=s.1.map (·.1)) rfl (an (nb _ nm hl1) ?_)
   rw[ha]
   refine ar (λh=>aa (aa ?_)) λh=>aa (aa ?_)
   ·rw[if_neg (by simpa using h)]
   ·rw[if_pos (by simpa using h)]
 by_cases h2:k=2
 ·subst h2
  rw[zU (.inr (.inl rfl))]
  have ha:(s.2.1.map (·.1)).any (·==nm)=SY s 2 nm:=by rw[ap_];rfl
  refine aB rfl (aX rfl (aa (aX rfl (ar (λh=>aa (aa ?_)) λh=>?_))))
  ·rw[if_pos ((tK _ _ _ _ _ _).1 h)]
  ·rw[if_neg (qf h (tK _ _ _ _ _ _))]
   refine t7 (a:=s.2.1.map (·.1)) rfl (an (nb _ nm hl2) ?_)
   rw[ha]
   refine ar (λh=>aa (aa ?_)) λh=>aa (aa ?_)
   ·rw[if_neg (by simpa using h)]
   ·rw[if_pos (by simpa using h)]
 by_cases h3:k=3
 ·subst h3
  rw[zU (.inr (.inr rfl))]
  have ha:(s.2.2.1.map (·.1)).any (·==nm)=SY s 3 nm:=by rw[ap_];rfl
  refine aB rfl (aB rfl (aa (aX rfl (ar (λh=>aa (aa ?_)) λh=>?_))))
  ·rw[if_pos ((tK _ _ _ _ _ _).1 h)]
  ·rw[if_neg (qf h (tK _ _ _ _ _ _))]
   refine t7 (a:=s.2.2.1.map (·.1)) rfl (an (nb _ nm hl3) ?_)
   rw[ha]
   refine ar (λh=>aa (aa ?_)) λh=>aa (aa ?_)
   ·rw[if_neg (by simpa using h)]
   ·rw[if_pos (by simpa using h)]
 refine aB (beq_eq_false_iff_ne.2 h1) (aB (beq_eq_false_iff_ne.2 h2) (aa (aB (beq_eq_false_iff_ne.2 h3) ?_)))
 by_cases h7:k=7
 ·subst h7
  rw[Tb]
  refine aX rfl (aj (dw (b:= !gW (pa,pl,())) (λ_=>an (fK (pa,pl,()) hm) (aa rfl)) ?_))
  refine ar (λh=>aa (aa ?_)) λh=>aa (aa ?_)
  ·by_cases e:nm≠[]\/N≠0
   ·rw[if_pos e]
   ·rw[if_neg e,if_neg]
    intro h'
    rcases Bool.or_eq_true_iff.1 h with h|h
    ·exact e ((Ti _ _ _ _ _ _).1 h)
    ·rw[h']at h;cases h
  ·simp only[Q_]at h
   rw[if_neg (qf h.1 (Ti _ _ _ _ _ _)),if_pos (by simpa using h.2)]
 refine aB (beq_eq_false_iff_ne.2 h7) ?_
 have num:∀lo hi:Int,(k=4\/k=5\/k=6\/k=8)->WN k=lo->SR k=hi->Wp (λn=>
  bif (true ^^ m8 yM (k,nm,N,(pa,pl,()),nt,()) (k,([]:List UInt8),N,((0:Int),(0:Int),()),nt,()))then aD bn ((1:Int),())else
  d_ (au (qw tbl n) bN [.d tI N,.d tI lo,.d tI hi] [] bF) λv10=>
  bif (!v10.1)then aD bn ((5:Int),())else aD bn ((0:Int),()))
  (λx=>x=some (gX bn (vO s (k,nm,N,(pa,pl,()),nt,()),()))):=λlo hi hk e1 e2=>by
  rw[Tc hk,e1,e2]
  refine ar (λh=>aa ?_) λh=>?_
  ·rw[if_pos ((Tj _ _ _ _ _ _).1 h)]
  ·rw[if_neg (qf h (Tj _ _ _ _ _ _))]
   refine an (cg N lo hi) (ar (λh=>aa ?_) λh=>aa ?_)
   ·rw[if_pos (by simp at h;omega)]
   ·rw[if_neg (by simp at h;omega)]
 by_cases h4:k=4
 ·subst h4;exact aX rfl (aa (num 1 7 (by omega) rfl rfl))
 by_cases h6:k=6
 ·subst h6;exact aB rfl (aX rfl (aa (num 0 16777216 (by omega) rfl rfl)))
 by_cases h8:k=8
 ·subst h8;exact aB rfl (aB rfl (aX rfl (aa (num 0 2000 (by omega) rfl rfl))))
 by_cases h5:k=5
 ·subst h5;exact aB rfl (aB rfl (aB rfl (aX rfl (aa (num 0 4294967295 (by omega) rfl rfl)))))
 refine aB (beq_eq_false_iff_ne.2 h4) (aB (beq_eq_false_iff_ne.2 h6) (aB (beq_eq_false_iff_ne.2 h8) (aB (beq_eq_false_iff_ne.2 h5) (aa (aa ?_)))))
 rw[LO (show k<1\/8<k by omega)]
theorem ne_eqD{a b:B0}:(true ^^ m8 yA a b)=true↔¬a=b:=by
 rw[<-U8]
 cases m8 yA a b<;>simp
theorem wc(a:B0):aF tbl gq [.d yA a] [] bk (jk a,()):=by
 refine aw rfl (aC w9 rfl (λO n=>xq O n a) ?_)
 unfold pO
 refine aj (aj ?_)
 by_cases hb:a.1<1\/8<a.1
 ·have n1:∀k:Int,1<=k->k<=8->(a.1==k)=false:=λk h1 h2=>beq_eq_false_iff_ne.2 (by omega)
  refine aB (n1 1 (by decide) (by decide)) (aB (n1 2 (by decide) (by decide)) (aa (aB (n1 4 (by decide) (by decide)) (aB (n1 3 (by decide) (by decide)) (aB (n1 5 (by decide) (by decide)) ?_)))))
  refine aj (aB (n1 6 (by decide) (by decide)) (aa (aB (n1 7 (by decide) (by decide)) (aB (n1 8 (by decide) (by decide)) (aa (aa ?_))))))
  rw[show jk a=15 from if_pos hb]
 have fin:∀(only:B0) (f:Bool),zr a=only->tE a=f->Wp (λ_=>bif (true ^^ m8 yA a only)then aD bk ((1:Int),())else bif (!f)then aD bk ((5:Int),())else aD bk ((0:Int),()))
  (λx=>x=some (gX bk (jk a,()))):=λonly f h1 h2=>by
  have e:jk a=if ¬a=only then 1 else if f=false then 5 else 0:=by unfold jk;rw[if_neg hb,h1,h2]
  rw[e]
  refine ar (λh=>aa ?_) λh=>ar (λh'=>aa ?_) λh'=>aa ?_
  ·rw[if_pos (ne_eqD.1 h)]
  ·rw[if_neg (λx=>by rw[ne_eqD.2 x]at h;cases h),if_pos (by simpa using h')]
  ·rw[if_neg (λx=>by rw[ne_eqD.2 x]at h;cases h),if_neg (by simpa using h')]
 have kne:∀{k:Int},a.1≠k->(a.1==k)=false:=λh=>beq_eq_false_iff_ne.2 h
 have keq:∀{k:Int},a.1=k->(a.1==k)=true:=λh=>beq_iff_eq.2 h
 by_cases h1:a.1=1
 ·refine aX (keq h1) (aa (aX (keq h1) (an (cg a.2.1 0 4294967295) (aa (fin _ _ ?_ ?_)))))
  ·unfold zr;rw[if_pos (by omega)]
  ·unfold tE;rw[if_neg (by omega),if_pos (by omega)]
 refine aB (kne h1) ?_
 by_cases h2:a.1=2
 ·refine aX (keq h2) (aa (aX (keq h2) (an (cg a.2.1 0 4294967295) (aa (fin _ _ ?_ ?_)))))
  ·unfold zr;rw[if_pos (by omega)]
  ·unfold tE;rw[if_neg (by omega),if_pos (by omega)]
 refine aB (kne h2) (aa ?_)
 by_cases h4:a.1=4
 ·refine aX (keq h4) (an (cg a.2.1 0 4294967295) (aa (fin _ _ ?_ ?_)))
  ·unfold zr;rw[if_pos (by omega)]
  ·unfold tE;rw[if_neg (by omega),if_pos (by omega)]
 refine aB (kne h4) ?_
 by_cases h3:a.1=3
 ·refine aX (keq h3) (an (cg a.2.1 0 16777216) (aa (fin _ _ ?_ ?_)))
  ·unfold zr;rw[if_pos (by omega)]
  ·unfold tE;rw[if_pos (by omega)]
 refine aB (kne h3) ?_
 by_cases h5:a.1=5
 ·refine aX (keq h5) (aa (fin _ _ ?_ ?_))
  ·unfold zr;rw[if_neg (by omega),if_pos (by omega)]
  ·unfold tE;rw[if_neg (by omega),if_neg (by omega),if_pos (by omega)]
 refine aB (kne h5) (aj ?_)
 by_cases h6:a.1=6
 ·refine aX (keq h6) (aa (aX (keq h6) (aa (fin _ _ ?_ ?_))))
  ·unfold zr;rw[if_neg (by omega),if_neg (by omega),if_pos (by omega)]
  ·unfold tE;rw[if_neg (by omega),if_neg (by omega),if_neg (by omega),if_pos (by omega)]
 refine aB (kne h6) (aa ?_)
 by_cases h7:a.1=7
 ·refine aX (keq h7) (aa (fin _ _ ?_ ?_))
  ·unfold zr;rw[if_neg (by omega),if_neg (by omega),if_pos (by omega)]
  ·unfold tE;rw[if_neg (by omega),if_neg (by omega),if_neg (by omega),if_pos (by omega)]
 refine aB (kne h7) (aX (keq (by omega)) (an (cg a.2.2.1 1 4294967295) ?_))
 refine aj (cr (b:=decide (1<=a.2.1)&&decide (a.2.1<=16)) (λ_=>an (cg a.2.1 1 16) (aa rfl)) (aa (fin _ _ ?_ ?_)))
 ·unfold zr;rw[if_neg (by omega),if_neg (by omega),if_neg (by omega)]
 ·unfold tE;rw[if_neg (by omega),if_neg (by omega),if_neg (by omega),if_neg (by omega)]
theorem ue(r:XC):aF tbl fj [.d yC r] [] co (vF r,()):=by
 refine aw rfl (aC uS rfl (λO n=>vc O n r) ?_)
 unfold nk
 refine an (cg r.2.1 (-1) 65535) (aj (dw (b:= !(decide (-1<=r.2.2.1)&&decide (r.2.2.1<=65535))) (λ_=>an (cg r.2.2.1 (-1) 65535) (aa rfl)) ?_))
 refine ar (λh=>aa ?_) λh=>aa ?_
 ·rw[show vF r=5 from if_pos (by simp at h;omega)]
 ·rw[show vF r=0 from if_neg (by simp at h;omega)]
theorem Se{α:Type}{p:α->Bool}{l:List α}:l.any p=(l.find? p).isSome:=by
 induction l with
 |nil=>rfl
 |cons x l ih=>rw[List.any_cons,List.find?_cons,ih];cases p x<;>rfl
theorem zw(s:PS)(hs:okD yS s)(before:List zB)(t:zB)(hb:before.length<=9223372036854775807)(ht:okD yT t):aF tbl iY [.d yN (bT s),.d (.list yT) before,.d yT t] [] bw (oj s before t,()):=by
 refine aw rfl (aC Ac rfl (λO n=>Aj O n (bT s) before t) ?_)
 unfold rk
 have hm:∀m∈t.2.1,qg m.2.2.2.1.1:=λm hm=>((ht.2.1.2 m hm).2.2.2.1).1
 refine an (vl t.1 ht.1) (ar (λh=>aa ?_) λh=>?_)
 ·rw[show oj s before t=1 from if_pos (by simpa using h)]
 have hn:¬rI t.1=false:=by simpa using h
 refine aj (BK (xs:=before) (p:=(·.1==t.1)) (g:=λ_=>((7:Int),())) (e:=()) (λi r hi=>?_) ?_ ?_)
 ·unfold j6
  have hlt:=(G_.1 hi).1
  refine bD hlt (EL hi (ar (λh=>aa ?_) λh=>aa ?_))
  ·rw[if_pos h]
  ·rw[if_neg (by simp[h]),aA hlt hb]
 ·unfold j6
  exact be (aa rfl)
 have hany:before.any (·.1==t.1)=(before.find? (·.1==t.1)).isSome:=Se
 cases e:before.find? (·.1==t.1)with
 |some r=>
  rw[e]at hany
  refine aa ?_
  have hany:before.any (·.1==t.1)=true:=hany
  rw[show oj s before t=7 from by unfold oj;rw[if_neg hn,if_pos hany]]
 |none=>
  rw[e]at hany
  have ha:¬before.any (·.1==t.1)=true:=by rw[hany];decide
  refine ar (λh=>aa ?_) λh=>?_
  ·rw[show oj s before t=4 from by unfold oj;rw[if_neg hn,if_neg ha,if_pos (by have:=of_decide_eq_true h;omega)]]
  have h1:¬t.2.1.length>64:=by have:=of_decide_eq_false h;omega
  refine aj (u6 (l:=t.2.1) (f:=vO s) (enc:=λi=>((i:Int),())) (oB:=λe=>(e,())) (oE:=()) (λi hi=>?_) ?_ ?_)
  ·unfold j7
   refine bD hi (aM hi (an (xV s _ hs (hm _ (b_ hi))) (ar (λh=>aa ?_) λh=>aa ?_)))
   ·rw[if_neg (by simpa using h)]
   ·rw[if_pos (by simpa using h),aA hi (by omega)]
  ·unfold j7
   exact be (aa rfl)
  by_cases e1:dH (vO s) t.2.1=0
  ·rw[if_pos e1]
   refine ar (λh=>aa ?_) λh=>?_
   ·rw[show oj s before t=4 from by unfold oj;rw[if_neg hn,if_neg ha,if_neg h1,if_neg (not_not_intro e1),if_pos (by have:=of_decide_eq_true h;omega)]]
   have h2:¬t.2.2.1.length>64:=by have:=of_decide_eq_false h;omega
   refine aj (u6 (l:=t.2.2.1) (f:=jk) (enc:=λi=>((i:Int),())) (oB:=λe=>(e,())) (oE:=()) (λi hi=>?_) ?_ ?_)
   ·unfold j8
    refine bD hi (aM hi (an (wc _) (ar (λh=>aa ?_) λh=>aa ?_)))
    ·rw[if_neg (by simpa using h)]
    ·rw[if_pos (by simpa using h),aA hi (by omega)]
   ·unfold j8
    exact be (aa rfl)
   by_cases e2:dH jk t.2.2.1=0
   ·rw[if_pos e2]
    refine an (cg t.2.2.2.1 1 3) (ar (λh=>aa ?_) λh=>aa ?_)
    ·rw[show oj s before t=15 from by unfold oj;rw[if_neg hn,if_neg ha,if_neg h1,if_neg (not_not_intro e1),if_neg h2,if_neg (not_not_intro e2),if_pos (by simp at h;omega)]]
    ·rw[show oj s before t=0 from by unfold oj;rw[if_neg hn,if_neg ha,if_neg h1,if_neg (not_not_intro e1),if_neg h2,if_neg (not_not_intro e2),if_neg (by simp at h;omega)]]
   ·rw[if_neg e2]
    refine aa ?_
    rw[show oj s before t=dH jk t.2.2.1 from by unfold oj;rw[if_neg hn,if_neg ha,if_neg h1,if_neg (not_not_intro e1),if_neg h2,if_pos e2]]
  ·rw[if_neg e1]
   refine aa ?_
   rw[show oj s before t=dH (vO s) t.2.1 from by unfold oj;rw[if_neg hn,if_neg ha,if_neg h1,if_pos e1]]
def Rr(s:PS)(l:List zB)(i:Nat):Int:=match l[i]? with|some t=>oj s (l.take i) t|none=>0
theorem VE(s:PS)(p:De):s5 s p=if mL (Rr s p.2.1) p.2.1.length≠0 then mL (Rr s p.2.1) p.2.1.length else if p.2.2.1≠1/\p.2.2.1≠2 then 15 else 0:=rfl
theorem Um{s:PS}{l:List zB}{i:Nat}(hi:i<l.length):Rr s l i=oj s (l.take i) l[i]:=by
 unfold Rr
 rw[a_ hi]
theorem wd(s:PS)(hs:okD yS s)(p:De)(hp:okD yO p):aF tbl gr [.d yN (bT s),.d yO p] [] cb (s5 s p,()):=by
 refine aw rfl (aC xc rfl (λO n=>xr O n (bT s) p) ?_)
 unfold pP
 have hl:p.2.1.length<=9223372036854775807:=hp.2.1.1
 refine aj (u5 (N:=p.2.1.length) (f:=Rr s p.2.1) (enc:=λi=>((i:Int),())) (oB:=λe=>(e,())) (oE:=()) (λi hi=>?_) ?_ ?_)
 ·unfold iP
  refine bD hi (aM hi (aG (decide_eq_true (by omega)) (aG (by simp;omega) ?_)))
  rw[ax_,e_]
  refine an (zw s hs _ _ (by rw[r_];omega) (hp.2.1.2 _ (b_ hi))) ?_
  rw[<-Um hi]
  refine ar (λh=>aa ?_) λh=>aa ?_
  ·rw[if_neg (by simpa using h)]
  ·rw[if_pos (by simpa using h),aA hi hl]
 ·unfold iP
  exact be (aa rfl)
 rw[VE]
 by_cases e:mL (Rr s p.2.1) p.2.1.length=0
 ·rw[if_pos e,if_neg (not_not_intro e)]
  refine aj (cr (b:=(p.2.2.1 != 2)) (λ_=>aa rfl) (ar (λh=>aa ?_) λh=>aa ?_))
  ·rw[if_pos (by simpa using h)]
  ·rw[if_neg (by simp at h;omega)]
 ·rw[if_neg e,if_pos e]
  exact aa rfl
theorem UH(v:List UQ)(hv:∀r∈v,qg r.2.1.1)(i:Nat)(hi:i<v.length):aF tbl dD [.d tI (i:Int),.ptr 0 0] [.box bB [.d (.list yR) v]] dI (tM v[i],v,()):=by
 refine aw rfl (aC vR rfl (λO n=>vW O n (i:Int) v) ?_)
 unfold oo
 exact aM hi (an (yQ _ (hv _ (b_ hi))) (aa rfl))
theorem UI(v:List XD)(hv:∀r∈v,r.2.1.length<=1048576)(i:Nat)(hi:i<v.length):aF tbl dE [.d tI (i:Int),.ptr 0 0] [.box bL [.d (.list yH) v]] dJ (m9 v[i].2.1,v,()):=by
 refine aw rfl (aC vS rfl (λO n=>vX O n (i:Int) v) ?_)
 unfold oq
 obtain⟨c,h1,h2⟩:=yV v[i].2.1 (hv _ (b_ hi))
 rw[<-VD h1]
 exact aM hi (an h2 (aa rfl))
theorem UJ(v:List XC)(hv:∀r∈v,True)(i:Nat)(hi:i<v.length):aF tbl dF [.d tI (i:Int),.ptr 0 0] [.box br [.d (.list yC) v]] dK (vF v[i],v,()):=by
 refine aw rfl (aC vT rfl (λO n=>vY O n (i:Int) v) ?_)
 unfold ot
 exact aM hi (an (ue _) (aa rfl))
theorem RS(v:List UQ)(hl:v.length<=9223372036854775807)(hv:∀r∈v,qg r.2.1.1):aF tbl jO [.d tI (v.length:Int),.clo iK [0]] [.box bB [.d (.list yR) v]] ey (dH tM v,v,()):=by
 refine aw rfl (aC BF rfl (λO n=>BU O n (v.length:Int) v) ?_)
 unfold si
 refine aj (u6 (l:=v) (f:=tM) (enc:=λi=>((i:Int),v,())) (oB:=λe=>(e,v,())) (oE:=(v,())) (λi hi=>?_) ?_ ?_)
 ·unfold lz
  refine bD hi (an (UH v hv i hi) (ar (λh=>aa ?_) λh=>aa ?_))
  ·rw[if_neg (by simpa using h)]
  ·rw[if_pos (by simpa using h),aA hi hl]
 ·unfold lz
  exact be (aa rfl)
 by_cases e:dH tM v=0
 ·rw[if_pos e]
  refine aa ?_
  rw[e]
 ·rw[if_neg e]
  exact aa rfl
theorem RU(v:List XD)(hl:v.length<=9223372036854775807)(hv:∀r∈v,r.2.1.length<=1048576):aF tbl gx [.d tI (v.length:Int),.clo iL [0]] [.box bL [.d (.list yH) v]] cQ (dH (λr=>m9 r.2.1) v,v,()):=by
 refine aw rfl (aC xg rfl (λO n=>xw O n (v.length:Int) v) ?_)
 unfold pT
 refine aj (u6 (l:=v) (f:=(λr=>m9 r.2.1)) (enc:=λi=>((i:Int),v,())) (oB:=λe=>(e,v,())) (oE:=(v,())) (λi hi=>?_) ?_ ?_)
 ·unfold iT
  refine bD hi (an (UI v hv i hi) (ar (λh=>aa ?_) λh=>aa ?_))
  ·rw[if_neg (by simpa using h)]
  ·rw[if_pos (by simpa using h),aA hi hl]
 ·unfold iT
  exact be (aa rfl)
 by_cases e:dH (λr=>m9 r.2.1) v=0
 ·rw[if_pos e]
  refine aa ?_
  rw[e]
 ·rw[if_neg e]
  exact aa rfl
theorem RY(v:List XC)(hl:v.length<=9223372036854775807)(hv:∀r∈v,True):aF tbl gy [.d tI (v.length:Int),.clo iM [0]] [.box br [.d (.list yC) v]] cS (dH vF v,v,()):=by
 refine aw rfl (aC xi rfl (λO n=>xx O n (v.length:Int) v) ?_)
 unfold pU
 refine aj (u6 (l:=v) (f:=vF) (enc:=λi=>((i:Int),v,())) (oB:=λe=>(e,v,())) (oE:=(v,())) (λi hi=>?_) ?_ ?_)
 ·unfold iU
  refine bD hi (an (UJ v hv i hi) (ar (λh=>aa ?_) λh=>aa ?_))
  ·rw[if_neg (by simpa using h)]
  ·rw[if_pos (by simpa using h),aA hi hl]
 ·unfold iU
  exact be (aa rfl)
 by_cases e:dH vF v=0
 ·rw[if_pos e]
  refine aa ?_
  rw[e]
 ·rw[if_neg e]
  exact aa rfl
theorem Ey{α:Type}{nm:α->List UInt8}{sz:α->Nat}{ck:α->Int}{l:List α}{i:Nat}(hi:i<l.length):MY nm sz ck l i=if rH (l.map nm) i≠0 then rH (l.map nm) i else if sz l[i]>64 then 4 else ck l[i]:=by
 unfold MY
 rw[a_ hi]
theorem X2{s:PS}(h:SmP s){i:Nat}(hi:i<s.1.length):s.1[i].2.1.length<=9223372036854775807/\∀r∈s.1[i].2.1,qg r.2.1.1:=
 ⟨(h.ok.1.2 _ (b_ hi)).2.1.1,λr hr=>((h.ok.1.2 _ (b_ hi)).2.1.2 r hr).2.1.1⟩
theorem X3{s:PS}(h:SmP s){i:Nat}(hi:i<s.2.1.length):s.2.1[i].2.1.length<=9223372036854775807/\∀r∈s.2.1[i].2.1,r.2.1.length<=1048576:=
 ⟨(h.ok.2.1.2 _ (b_ hi)).2.1.1,λr hr=>h.pt _ (b_ hi) r hr⟩
theorem X4{s:PS}(h:SmP s){i:Nat}(hi:i<s.2.2.1.length):s.2.2.1[i].2.1.length<=9223372036854775807/\∀r∈s.2.2.1[i].2.1,True:=
 ⟨(h.ok.2.2.1.2 _ (b_ hi)).2.1.1,λ_ _=>trivial⟩
theorem YT{s:PS}(h:SmP s){i:Nat}(hi:i<s.1.length):s.1[i].1.length<=9223372036854775807:=(h.ok.1.2 _ (b_ hi)).1
theorem YU{s:PS}(h:SmP s){i:Nat}(hi:i<s.2.1.length):s.2.1[i].1.length<=9223372036854775807:=(h.ok.2.1.2 _ (b_ hi)).1
theorem YV{s:PS}(h:SmP s){i:Nat}(hi:i<s.2.2.1.length):s.2.2.1[i].1.length<=9223372036854775807:=(h.ok.2.2.1.2 _ (b_ hi)).1
theorem YW{s:PS}(h:SmP s){i:Nat}(hi:i<s.2.2.2.1.length):s.2.2.2.1[i].1.length<=9223372036854775807:=(h.ok.2.2.2.1.2 _ (b_ hi)).1
abbrev OQ(s:PS):Ob:=.box ao [.d (.list yL) s.1,.d (.list yG) s.2.1,.d (.list yD) s.2.2.1,.d (.list yO) s.2.2.2.1]
theorem UK(s:PS)(i:Nat)(hi:i<s.1.length):aF tbl eJ [.d tI (i:Int),.ptr 0 0] [OQ s] eV ((s.1[i].2.1.length:Int),s.1,s.2.1,s.2.2.1,s.2.2.2.1,()):=by
 refine aw rfl (aC yj rfl (λO n=>yw O n (i:Int) s.1 s.2.1 s.2.2.1 s.2.2.2.1) ?_)
 unfold qF
 exact aM hi (aa rfl)
theorem R0(s:PS)(hs:SmP s)(i:Nat)(hi:i<s.1.length):aF tbl eK [.d tI (i:Int),.ptr 0 0] [OQ s] eW (dH tM s.1[i].2.1,s.1,s.2.1,s.2.2.1,s.2.2.2.1,()):=by
 refine aw rfl (aC yk rfl (λO n=>yx O n (i:Int) s.1 s.2.1 s.2.2.1 s.2.2.2.1) ?_)
 unfold qG
 refine aM hi (an (RS _ (X2 hs hi).1 (X2 hs hi).2) (aa rfl))
theorem UC(s:PS)(hs:SmP s):aF tbl jN [.d (.list tS) (s.1.map (·.1)),.clo kz [0],.clo kA [0]] [OQ s] dj (j3 (·.1) (λl=>l.2.1.length) (λl=>dH tM l.2.1) s.1,s.1,s.2.1,s.2.2.1,s.2.2.2.1,()):=by
 refine aw rfl (aC BE rfl (λO n=>BS O n (s.1.map (·.1)) s.1 s.2.1 s.2.2.1 s.2.2.2.1) ?_)
 unfold sg
 refine ar (λh=>aa ?_) λh=>?_
 ·rw[show j3 (·.1) (λl=>l.2.1.length) (λl=>dH tM l.2.1) s.1=4 from if_pos (by have:=of_decide_eq_true h;rw[c_]at this;omega)]
 have hlen:¬s.1.length>64:=by have:=of_decide_eq_false h;rw[c_]at this;omega
 rw[show j3 (·.1) (λl=>l.2.1.length) (λl=>dH tM l.2.1) s.1=mL (MY (·.1) (λl=>l.2.1.length) (λl=>dH tM l.2.1) s.1) (s.1.map (·.1)).length from by unfold j3;rw[if_neg hlen,c_]]
 generalize hE:MY (·.1) (λl=>l.2.1.length) (λl=>dH tM l.2.1) s.1=E
 refine aj (u5 (N:=(s.1.map (·.1)).length) (f:=E) (enc:=λi=>((i:Int),s.1,s.2.1,s.2.2.1,s.2.2.2.1,())) (oB:=λe=>(e,s.1,s.2.1,s.2.2.1,s.2.2.2.1,())) (oE:=(s.1,s.2.1,s.2.2.1,s.2.2.2.1,())) (λi hi=>?_) ?_ ?_)
 ·unfold ly
  have hi':i<s.1.length:=by rw[c_]at hi;exact hi
  have en:E i=if rH (s.1.map (·.1)) i≠0 then rH (s.1.map (·.1)) i else if s.1[i].2.1.length>64 then 4 else dH tM s.1[i].2.1:=by rw[<-hE];exact Ey hi'
  refine bD hi (aM hi (aG (decide_eq_true (by omega)) (aG (by simp;omega) ?_)))
  refine an (nf _ i hi (by rw[c_];omega) (by rw[F_];exact YT hs hi')) ?_
  refine ar (λh=>aa ?_) λh=>?_
  ·have h:rH (s.1.map (·.1)) i≠0:=by simpa using h
   rw[if_pos h]at en
   rw[en,if_neg h]
  rw[if_neg (by simpa using h)]at en
  refine an (UK s i hi') (ar (λh=>aa ?_) λh=>?_)
  ·have h:decide ((s.1[i].2.1.length:Int)>64)=true:=h
   rw[if_pos (by have:=of_decide_eq_true h;omega)]at en
   rw[en,if_neg (by decide)]
  have h:decide ((s.1[i].2.1.length:Int)>64)=false:=h
  rw[if_neg (by have:=of_decide_eq_false h;omega)]at en
  refine an (R0 s hs i hi') (ar (λh=>aa ?_) λh=>aa ?_)
  ·rw[en,if_neg (by simpa using h)]
  ·rw[en,if_pos (by simpa using h),aA hi' (by omega)]
 ·unfold ly
  exact be (aa rfl)
 by_cases e:mL E (s.1.map (·.1)).length=0
 ·rw[if_pos e]
  refine aa ?_
  rw[e]
 ·rw[if_neg e]
  exact aa rfl
theorem UL(s:PS)(i:Nat)(hi:i<s.2.1.length):aF tbl eL [.d tI (i:Int),.ptr 0 0] [OQ s] eX ((s.2.1[i].2.1.length:Int),s.1,s.2.1,s.2.2.1,s.2.2.2.1,()):=by
 refine aw rfl (aC yl rfl (λO n=>yy O n (i:Int) s.1 s.2.1 s.2.2.1 s.2.2.2.1) ?_)
 unfold qH
 exact aM hi (aa rfl)
theorem R1(s:PS)(hs:SmP s)(i:Nat)(hi:i<s.2.1.length):aF tbl eM [.d tI (i:Int),.ptr 0 0] [OQ s] eY (dH (λr=>m9 r.2.1) s.2.1[i].2.1,s.1,s.2.1,s.2.2.1,s.2.2.2.1,()):=by
 refine aw rfl (aC ym rfl (λO n=>yz O n (i:Int) s.1 s.2.1 s.2.2.1 s.2.2.2.1) ?_)
 unfold qI
 refine aM hi (an (RU _ (X3 hs hi).1 (X3 hs hi).2) (aa rfl))
theorem UD(s:PS)(hs:SmP s):aF tbl gu [.d (.list tS) (s.2.1.map (·.1)),.clo kB [0],.clo kC [0]] [OQ s] cd (j3 (·.1) (λl=>l.2.1.length) (λl=>dH (λr=>m9 r.2.1) l.2.1) s.2.1,s.1,s.2.1,s.2.2.1,s.2.2.2.1,()):=by
 refine aw rfl (aC xd rfl (λO n=>xt O n (s.2.1.map (·.1)) s.1 s.2.1 s.2.2.1 s.2.2.2.1) ?_)
 unfold pQ
 refine ar (λh=>aa ?_) λh=>?_
 ·rw[show j3 (·.1) (λl=>l.2.1.length) (λl=>dH (λr=>m9 r.2.1) l.2.1) s.2.1=4 from if_pos (by have:=of_decide_eq_true h;rw[c_]at this;omega)]
 have hlen:¬s.2.1.length>64:=by have:=of_decide_eq_false h;rw[c_]at this;omega
 rw[show j3 (·.1) (λl=>l.2.1.length) (λl=>dH (λr=>m9 r.2.1) l.2.1) s.2.1=mL (MY (·.1) (λl=>l.2.1.length) (λl=>dH (λr=>m9 r.2.1) l.2.1) s.2.1) (s.2.1.map (·.1)).length from by unfold j3;rw[if_neg hlen,c_]]
 generalize hE:MY (·.1) (λl=>l.2.1.length) (λl=>dH (λr=>m9 r.2.1) l.2.1) s.2.1=E
 refine aj (u5 (N:=(s.2.1.map (·.1)).length) (f:=E) (enc:=λi=>((i:Int),s.1,s.2.1,s.2.2.1,s.2.2.2.1,())) (oB:=λe=>(e,s.1,s.2.1,s.2.2.1,s.2.2.2.1,())) (oE:=(s.1,s.2.1,s.2.2.1,s.2.2.2.1,())) (λi hi=>?_) ?_ ?_)
 ·unfold iQ
  have hi':i<s.2.1.length:=by rw[c_]at hi;exact hi
  have en:E i=if rH (s.2.1.map (·.1)) i≠0 then rH (s.2.1.map (·.1)) i else if s.2.1[i].2.1.length>64 then 4 else dH (λr=>m9 r.2.1) s.2.1[i].2.1:=by rw[<-hE];exact Ey hi'
  refine bD hi (aM hi (aG (decide_eq_true (by omega)) (aG (by simp;omega) ?_)))
  refine an (nf _ i hi (by rw[c_];omega) (by rw[F_];exact YU hs hi')) ?_
  refine ar (λh=>aa ?_) λh=>?_
  ·have h:rH (s.2.1.map (·.1)) i≠0:=by simpa using h
   rw[if_pos h]at en
   rw[en,if_neg h]
  rw[if_neg (by simpa using h)]at en
  refine an (UL s i hi') (ar (λh=>aa ?_) λh=>?_)
  ·have h:decide ((s.2.1[i].2.1.length:Int)>64)=true:=h
   rw[if_pos (by have:=of_decide_eq_true h;omega)]at en
   rw[en,if_neg (by decide)]
  have h:decide ((s.2.1[i].2.1.length:Int)>64)=false:=h
  rw[if_neg (by have:=of_decide_eq_false h;omega)]at en
  refine an (R1 s hs i hi') (ar (λh=>aa ?_) λh=>aa ?_)
  ·rw[en,if_neg (by simpa using h)]
  ·rw[en,if_pos (by simpa using h),aA hi' (by omega)]
 ·unfold iQ
  exact be (aa rfl)
 by_cases e:mL E (s.2.1.map (·.1)).length=0
 ·rw[if_pos e]
  refine aa ?_
  rw[e]
 ·rw[if_neg e]
  exact aa rfl
theorem UM(s:PS)(i:Nat)(hi:i<s.2.2.1.length):aF tbl eN [.d tI (i:Int),.ptr 0 0] [OQ s] eZ ((s.2.2.1[i].2.1.length:Int),s.1,s.2.1,s.2.2.1,s.2.2.2.1,()):=by
 refine aw rfl (aC yn rfl (λO n=>yB O n (i:Int) s.1 s.2.1 s.2.2.1 s.2.2.2.1) ?_)
 unfold qJ
 exact aM hi (aa rfl)
theorem R2(s:PS)(hs:SmP s)(i:Nat)(hi:i<s.2.2.1.length):aF tbl eO [.d tI (i:Int),.ptr 0 0] [OQ s] fb (dH vF s.2.2.1[i].2.1,s.1,s.2.1,s.2.2.1,s.2.2.2.1,()):=by
 refine aw rfl (aC yo rfl (λO n=>yE O n (i:Int) s.1 s.2.1 s.2.2.1 s.2.2.2.1) ?_)
 unfold qK
 refine aM hi (an (RY _ (X4 hs hi).1 (X4 hs hi).2) (aa rfl))
theorem UE(s:PS)(hs:SmP s):aF tbl gv [.d (.list tS) (s.2.2.1.map (·.1)),.clo kD [0],.clo kE [0]] [OQ s] ce (j3 (·.1) (λl=>l.2.1.length) (λl=>dH vF l.2.1) s.2.2.1,s.1,s.2.1,s.2.2.1,s.2.2.2.1,()):=by
 refine aw rfl (aC xe rfl (λO n=>xu O n (s.2.2.1.map (·.1)) s.1 s.2.1 s.2.2.1 s.2.2.2.1) ?_)
 unfold pR
 refine ar (λh=>aa ?_) λh=>?_
 ·rw[show j3 (·.1) (λl=>l.2.1.length) (λl=>dH vF l.2.1) s.2.2.1=4 from if_pos (by have:=of_decide_eq_true h;rw[c_]at this;omega)]
 have hlen:¬s.2.2.1.length>64:=by have:=of_decide_eq_false h;rw[c_]at this;omega
 rw[show j3 (·.1) (λl=>l.2.1.length) (λl=>dH vF l.2.1) s.2.2.1=mL (MY (·.1) (λl=>l.2.1.length) (λl=>dH vF l.2.1) s.2.2.1) (s.2.2.1.map (·.1)).length from by unfold j3;rw[if_neg hlen,c_]]
 generalize hE:MY (·.1) (λl=>l.2.1.length) (λl=>dH vF l.2.1) s.2.2.1=E
 refine aj (u5 (N:=(s.2.2.1.map (·.1)).length) (f:=E) (enc:=λi=>((i:Int),s.1,s.2.1,s.2.2.1,s.2.2.2.1,())) (oB:=λe=>(e,s.1,s.2.1,s.2.2.1,s.2.2.2.1,())) (oE:=(s.1,s.2.1,s.2.2.1,s.2.2.2.1,())) (λi hi=>?_) ?_ ?_)
 ·unfold iR
  have hi':i<s.2.2.1.length:=by rw[c_]at hi;exact hi
  have en:E i=if rH (s.2.2.1.map (·.1)) i≠0 then rH (s.2.2.1.map (·.1)) i else if s.2.2.1[i].2.1.length>64 then 4 else dH vF s.2.2.1[i].2.1:=by rw[<-hE];exact Ey hi'
  refine bD hi (aM hi (aG (decide_eq_true (by omega)) (aG (by simp;omega) ?_)))
  refine an (nf _ i hi (by rw[c_];omega) (by rw[F_];exact YV hs hi')) ?_
  refine ar (λh=>aa ?_) λh=>?_
  ·have h:rH (s.2.2.1.map (·.1)) i≠0:=by simpa using h
   rw[if_pos h]at en
   rw[en,if_neg h]
  rw[if_neg (by simpa using h)]at en
  refine an (UM s i hi') (ar (λh=>aa ?_) λh=>?_)
  ·have h:decide ((s.2.2.1[i].2.1.length:Int)>64)=true:=h
   rw[if_pos (by have:=of_decide_eq_true h;omega)]at en
   rw[en,if_neg (by decide)]
  have h:decide ((s.2.2.1[i].2.1.length:Int)>64)=false:=h
  rw[if_neg (by have:=of_decide_eq_false h;omega)]at en
  refine an (R2 s hs i hi') (ar (λh=>aa ?_) λh=>aa ?_)
  ·rw[en,if_neg (by simpa using h)]
  ·rw[en,if_pos (by simpa using h),aA hi' (by omega)]
 ·unfold iR
  exact be (aa rfl)
 by_cases e:mL E (s.2.2.1.map (·.1)).length=0
 ·rw[if_pos e]
  refine aa ?_
  rw[e]
 ·rw[if_neg e]
  exact aa rfl
abbrev Y3(s:PS):Ob:=.box eB [.d (.list tS) (bT s).1,.d (.list tS) (bT s).2.1,.d (.list tS) (bT s).2.2.1,.d (.list tS) (bT s).2.2.2.1]
theorem Z7(x:HL q_policy_Check_8_drr.sl):wT q_policy_Check_8_drr (gX q_policy_Check_8_drr x)=some x:=by kernel_rfl
theorem YQ(x:HL q_policy_each_dcc_v3.sl):wT q_policy_each_dcc_v3 (gX q_policy_each_dcc_v3 x)=some x:=by kernel_rfl
theorem UN(s:PS)(i:Nat)(hi:i<s.2.2.2.1.length):aF tbl eP [.d tI (i:Int),.ptr 0 0] [OQ s] fe ((s.2.2.2.1[i].2.1.length:Int),s.1,s.2.1,s.2.2.1,s.2.2.2.1,()):=by
 refine aw rfl (aC yp rfl (λO n=>yI O n (i:Int) s.1 s.2.1 s.2.2.1 s.2.2.2.1) ?_)
 unfold qL
 exact aM hi (aa rfl)
theorem R3(s:PS)(hs:SmP s)(i:Nat)(hi:i<s.2.2.2.1.length):aF tbl d5 [.d tI (i:Int),.ptr 0 0,.ptr 1 0] [Y3 s,OQ s] q_policy_Check_8_drr (s5 s s.2.2.2.1[i],(bT s).1,(bT s).2.1,(bT s).2.2.1,(bT s).2.2.2.1,s.1,s.2.1,s.2.2.1,s.2.2.2.1,()):=by
 refine aw (Z7 _) (aC w8 rfl (λO n=>xp O n (i:Int) (bT s).1 (bT s).2.1 (bT s).2.2.1 (bT s).2.2.2.1 s.1 s.2.1 s.2.2.1 s.2.2.2.1) ?_)
 unfold pN
 exact aM hi (an (wd s hs.ok _ (hs.ok.2.2.2.1.2 _ (b_ hi))) (aa rfl))
theorem UF(s:PS)(hs:SmP s):aF tbl gw [.d (.list tS) (s.2.2.2.1.map (·.1)),.clo kF [0],.clo kG [1,0]] [OQ s,Y3 s] q_policy_each_dcc_v3 (j3 (·.1) (λp=>p.2.1.length) (s5 s) s.2.2.2.1,s.1,s.2.1,s.2.2.1,s.2.2.2.1,(bT s).1,(bT s).2.1,(bT s).2.2.1,(bT s).2.2.2.1,()):=by
 refine aw (YQ _) (aC xf rfl (λO n=>xv O n (s.2.2.2.1.map (·.1)) s.1 s.2.1 s.2.2.1 s.2.2.2.1 (bT s).1 (bT s).2.1 (bT s).2.2.1 (bT s).2.2.2.1) ?_)
 unfold pS
 refine ar (λh=>aa ?_) λh=>?_
 ·rw[show j3 (·.1) (λp=>p.2.1.length) (s5 s) s.2.2.2.1=4 from if_pos (by have:=of_decide_eq_true h;rw[c_]at this;omega)]
 have hlen:¬s.2.2.2.1.length>64:=by have:=of_decide_eq_false h;rw[c_]at this;omega
 rw[show j3 (·.1) (λp=>p.2.1.length) (s5 s) s.2.2.2.1=mL (MY (·.1) (λp=>p.2.1.length) (s5 s) s.2.2.2.1) (s.2.2.2.1.map (·.1)).length from by unfold j3;rw[if_neg hlen,c_]]
 generalize hE:MY (·.1) (λp=>p.2.1.length) (s5 s) s.2.2.2.1=E
 refine aj (u5 (N:=(s.2.2.2.1.map (·.1)).length) (f:=E) (enc:=λi=>((i:Int),s.1,s.2.1,s.2.2.1,s.2.2.2.1,(bT s).1,(bT s).2.1,(bT s).2.2.1,(bT s).2.2.2.1,()))
  (oB:=λe=>(e,s.1,s.2.1,s.2.2.1,s.2.2.2.1,(bT s).1,(bT s).2.1,(bT s).2.2.1,(bT s).2.2.2.1,())) (oE:=(s.1,s.2.1,s.2.2.1,s.2.2.2.1,(bT s).1,(bT s).2.1,(bT s).2.2.1,(bT s).2.2.2.1,())) (λi hi=>?_) ?_ ?_)
 ·unfold iS
  have hi':i<s.2.2.2.1.length:=by rw[c_]at hi;exact hi
  have en:E i=if rH (s.2.2.2.1.map (·.1)) i≠0 then rH (s.2.2.2.1.map (·.1)) i else if s.2.2.2.1[i].2.1.length>64 then 4 else s5 s s.2.2.2.1[i]:=by rw[<-hE];exact Ey hi'
  refine bD hi (aM hi (aG (decide_eq_true (by omega)) (aG (by simp;omega) ?_)))
  refine an (nf _ i hi (by rw[c_];omega) (by rw[F_];exact YW hs hi')) ?_
  refine ar (λh=>aa ?_) λh=>?_
  ·have h:rH (s.2.2.2.1.map (·.1)) i≠0:=by simpa using h
   rw[if_pos h]at en
   rw[en,if_neg h]
  rw[if_neg (by simpa using h)]at en
  refine an (UN s i hi') (ar (λh=>aa ?_) λh=>?_)
  ·have h:decide ((s.2.2.2.1[i].2.1.length:Int)>64)=true:=h
   rw[if_pos (by have:=of_decide_eq_true h;omega)]at en
   rw[en,if_neg (by decide)]
  have h:decide ((s.2.2.2.1[i].2.1.length:Int)>64)=false:=h
  rw[if_neg (by have:=of_decide_eq_false h;omega)]at en
  refine an (R3 s hs i hi') (ar (λh=>aa ?_) λh=>aa ?_)
  ·rw[en,if_neg (by simpa using h)]
  ·rw[en,if_pos (by simpa using h),aA hi' (by omega)]
 ·unfold iS
  exact be (aa rfl)
 by_cases e:mL E (s.2.2.2.1.map (·.1)).length=0
 ·rw[if_pos e]
  refine aa ?_
  rw[e]
 ·rw[if_neg e]
  exact aa rfl
theorem rh(s:PS)(hs:SmP s):aF tbl fO [.d yS s] [] ca (vP m9 s,()):=by
 refine aw rfl (aC Gq rfl (λO n=>GG O n s) ?_)
 unfold wi
 refine an (EP s hs.l1 hs.l2 hs.l3 hs.l4) (aG rfl (an (UC s hs) ?_))
 generalize e1:j3 (·.1) (λl=>l.2.1.length) (λl=>dH tM l.2.1) s.1=E1
 generalize e2:j3 (·.1) (λl=>l.2.1.length) (λl=>dH (λr=>m9 r.2.1) l.2.1) s.2.1=E2
 generalize e3:j3 (·.1) (λl=>l.2.1.length) (λl=>dH vF l.2.1) s.2.2.1=E3
 have hp:vP m9 s=if E1≠0 then E1 else if E2≠0 then E2 else if E3≠0 then E3 else j3 (·.1) (λp=>p.2.1.length) (s5 s) s.2.2.2.1:=by unfold vP;rw[e1,e2,e3]
 have c2:=UD s hs
 have c3:=UE s hs
 rw[e2]at c2
 rw[e3]at c3
 rw[hp]
 refine ar (λh=>aa ?_) λh=>aG rfl (an c2 (ar (λh'=>aa ?_) λh'=>aG rfl (an c3 (ar (λh''=>aa ?_) λh''=>aG rfl (an (UF s hs) (aa ?_))))))
 ·rw[if_pos (by simpa using h)]
 ·rw[if_neg (by simpa using h),if_pos (by simpa using h')]
 ·rw[if_neg (by simpa using h),if_neg (by simpa using h'),if_pos (by simpa using h'')]
 ·rw[if_neg (by simpa using h),if_neg (by simpa using h'),if_neg (by simpa using h'')]
def wM(s:PS)(n:List UInt8):Option Xx:=s.1.find? (·.1==n)
def FF(s:PS)(n:List UInt8):Option Xw:=s.2.1.find? (·.1==n)
def rC(s:PS)(n:List UInt8):Option Xv:=s.2.2.1.find? (·.1==n)
abbrev Uv:De:=([],[],0,())
theorem yU(s:PS)(n:List UInt8)(hk:PolOk m9 s):aF tbl jt [.d yS s,.d tS n] [] fE ((vM s n).getD Uv,(vM s n).isSome,()):=by
 have hl:=hk.l4
 refine aw rfl (aC HJ rfl (λO k=>H2 O k s n) ?_)
 unfold y7
 refine aj (xm (xs:=s.2.2.2.1) (p:=(·.1==n)) (enc:=λi=>((i:Int),([]:List UInt8),(0:Int),())) (g:=λx=>(true,x.1,x.2.1,x.2.2.1,())) (e:=(([]:List UInt8),(0:Int),())) (λi hi=>?_) ?_ ?_)
 ·unfold qp
  refine bD hi (aM hi (ar (λh=>aa ?_) λh=>?_))
  ·rw[if_neg (by simpa using h),aA hi (by omega)]
  have hp:=hk.r4 _ (b_ hi)
  have h:(s.2.2.2.1[i].1==n)=true:=by simpa using h
  rw[if_pos h]
  generalize s.2.2.2.1[i]=p at hp
  have htl:=hp.tl
  refine aj (bc (N:=p.2.1.length) (I:=λj t=>t=((j:Int),([]:List UInt8),(0:Int),p.1,p.2.2.1,p.2.1.take j,())) rfl (λj t hj ht=>?_) λt ht=>?_)
  ·subst ht
   unfold qo
   have ht:=hp.tr _ (b_ hj)
   have h1:=ht.ml
   have h2:=ht.al
   refine bD hj (aM hj (aG (decide_eq_true (by show(0+p.2.1[j].2.1.length)*56<=_;omega)) (aG (decide_eq_true (by show(0+p.2.1[j].2.2.1.length)*32<=_;omega)) (aG ?_ (aa ?_)))))
   ·show decide (((p.2.1.take j).length+1)*72<=140737488355328)=true
    rw[r_];exact decide_eq_true (by omega)
   ·show(s_ .i64 ((j:Int)+1),([]:List UInt8),(0:Int),p.1,p.2.2.1,p.2.1.take j++[p.2.1[j]],())=_
    rw[aA hj (by omega),ac_ hj]
  ·subst ht
   unfold qo
   refine be (aa (aa ?_))
   rw[n_ (y_ _)]
 ·unfold qp
  exact be (aa rfl)
 ·unfold vM
  cases s.2.2.2.1.find? (·.1==n)with
  |some r=>exact aa rfl
  |none=>exact aa rfl
end Go.Proofs.YtmfolppncelceaaGreatDoor
namespace Go.Cm
def insGo(x:Int):List Int->Bool->List Int
 |[],d=>if d then []else [x]
 |y::r,d=>(if !d&&decide (x<=y)then [x]else [])++((if y != x then [y]else [])++insGo x r (d||decide (x<=y)))
abbrev ins(x:Int)(l:List Int):List Int:=insGo x l false
def asc(l:List Int):List Int:=l.foldl (λo x=>ins x o) []
abbrev Up(l:List Int):Prop:=l.Pairwise (·<·)
theorem Cw(x z:Int):∀(l:List Int) (d:Bool),z∈insGo x l d↔(z∈l/\z≠x)\/(d=false/\z=x)
 |[],d=>by cases d<;>simp[insGo]
 |y::r,d=>by
  have:=Cw x z r (d||decide (x<=y))
  grind [insGo]
theorem Vy(x z:Int)(l:List Int):z∈ins x l↔z∈l\/z=x:=by have:=Cw x z l false;grind
theorem IG(x:Int):∀(l:List Int) (d:Bool),(insGo x l d).length<=l.length+(if d then 0 else 1)
 |[],d=>by cases d<;>simp[insGo]
 |y::r,d=>by
  have:=IG x r (d||decide (x<=y))
  grind [insGo]
theorem len_ins(x:Int)(l:List Int):(ins x l).length<=l.length+1:=IG x l false
theorem MM(x:Int):∀(l:List Int) (d:Bool),Up l->(d=true->∀z∈l,x<=z)->Up (insGo x l d)
 |[],d,_,_=>by cases d<;>simp[insGo]
 |y::r,d,hl,hd=>by
  unfold Up at hl⊢
  rw[List.pairwise_cons]at hl
  have ih:=MM x r (d||decide (x<=y)) hl.2 (by grind)
  have hm:=λz=>Cw x z r (d||decide (x<=y))
  simp only[insGo,R_]
  grind [List.Pairwise.nil]
theorem Xr(x:Int)(l:List Int)(h:Up l):Up (ins x l):=MM x l false h (by simp)
theorem fold_ins:∀(l o:List Int),Up o->Up (l.foldl (λo x=>ins x o) o)/\(∀z,z∈l.foldl (λo x=>ins x o) o↔z∈o\/z∈l)/\(l.foldl (λo x=>ins x o) o).length<=o.length+l.length
 |[],o,h=>⟨h,by simp,by simp⟩
 |x::l,o,h=>by
  have⟨h1,h2,h3⟩:=fold_ins l (ins x o) (Xr x o h)
  have:=len_ins x o
  have hm:=λz=>Vy x z o
  refine⟨h1,λz=>?_,?_⟩
  ·rw[S_,h2,hm];grind
  ·rw[S_];grind
theorem len_asc(l:List Int):(asc l).length<=l.length:=by
 have:=(fold_ins l [] List.Pairwise.nil).2.2
 simpa[asc]using this
theorem insGo_step(x:Int)(l:List Int)(k:Nat)(d:Bool)(h:k<l.length):insGo x (l.drop k) d=(if !d&&decide (x<=l.getD k 0)then [x]else [])++((if l.getD k 0 != x then [l.getD k 0]else [])++insGo x (l.drop (k+1)) (d||decide (x<=l.getD k 0))):=by
 have e:l.getD k 0=l[k]:=by simp[v_,a_ h]
 rw[e,List.drop_eq_getElem_cons h]
 rfl
theorem rR{l:List Int}{k:Nat}(h:k<l.length):l.take (k+1)=l.take k++[l.getD k 0]:=by
 have e:l.getD k 0=l[k]:=by simp[v_,a_ h]
 rw[List.take_succ_eq_append_getElem h,e]
def left(l out:List Int):Nat:=l.countP λz=>out.all (λy=>decide (y<z))
theorem left_step{l out:List Int}{b:Int}(hb:b∈l)(hgt:∀y∈out,y<b):left l (out++[b])+1<=left l out:=by
 unfold left
 induction l with
 |nil=>simp at hb
 |cons z l ih=>
  rw[ar_,ar_]
  have mono:l.countP (λz=>(out++[b]).all λy=>decide (y<z))<=l.countP (λz=>out.all λy=>decide (y<z)):=by
   apply List.countP_mono_left
   intro z _ h
   simp only[ai_,g_]at h
   exact h.1
  by_cases e:z=b
  ·subst e
   have h1:((out++[z]).all λy=>decide (y<z))=false:=by simp
   have h2:(out.all λy=>decide (y<z))=true:=by simpa using hgt
   rw[h1,h2]
   simp only[Bool.false_eq_true,if_false,if_true]
   omega
  ·have hb':b∈l:=by simp at hb;rcases hb with h|h;exact absurd h.symm e;exact h
   have ih':=ih hb'
   have h1:(if((out++[b]).all λy=>decide (y<z))=true then 1 else 0)<=(if(out.all λy=>decide (y<z))=true then 1 else 0):=by
    split
    ·rename_i h
     simp only[ai_,g_]at h
     rw[if_pos h.1]
     exact y_ 1
    ·exact as_ _
   omega
structure Best(l out:List Int)(k:Nat)(found:Bool)(best:Int):Prop where
 yes:found=true->best∈l/\(∀y∈out,y<best)
 least:∀z∈l.take k,(∀y∈out,y<z)->found=true/\best<=z
structure Out(l out:List Int):Prop where
 up:Up out
 sub:∀z∈out,z∈l
 all:∀z∈l,z∈out\/∀y∈out,y<z
 len:out.length+left l out<=l.length
theorem Out.zero(l:List Int):Out l []:=⟨List.Pairwise.nil,by simp,by simp,by simp[left]⟩
theorem Out.step{l out:List Int}{b:Int}(h:Out l out)(hb:Best l out l.length true b):Out l (out++[b]):=by
 obtain⟨h1,h2⟩:=hb.yes rfl
 have hl:=left_step h1 h2
 have h3:=hb.least
 rw[m_]at h3
 refine⟨?_,?_,λz hz=>?_,?_⟩
 ·have:=h.up
  unfold Up at this⊢
  rw[R_]
  grind
 ·have:=h.sub;grind
 ·rcases h.all z hz with h4|h4
  ·grind
  ·have:=(h3 z hz h4).2
   by_cases e:z=b
   ·left;simp[e]
   ·right;grind
 ·have:=h.len;simp;omega
theorem Vo{out:List Int}(h:Up out)(hne:out≠[])(z:Int):(∀y∈out,y<z)↔out.getD (out.length - 1) 0<z:=by
 have hl:out.length - 1<out.length:=by have:=List.length_pos_iff.2 hne;omega
 have e:out.getD (out.length - 1) 0=out[out.length - 1]:=by simp[v_,a_ hl]
 rw[e]
 refine⟨λh=>h _ (b_ hl),λhz y hy=>?_⟩
 obtain⟨i,hi,rfl⟩:=List.getElem_of_mem hy
 unfold Up at h
 rw[Z_]at h
 by_cases e:i=out.length - 1
 ·subst e;exact hz
 ·have:=h i (out.length - 1) hi hl (by omega);omega
theorem Best.zero(l out:List Int)(b:Int):Best l out 0 false b:=⟨by simp,by simp⟩
theorem Best.take{l out:List Int}{k:Nat}{f:Bool}{b:Int}(h:Best l out k f b)(hk:k<l.length)(h1:∀y∈out,y<l.getD k 0)(h2:f=false\/l.getD k 0<b):Best l out (k+1) true (l.getD k 0):=by
 have e:l.getD k 0=l[k]:=by simp[v_,a_ hk]
 have hm:l.getD k 0∈l:=by rw[e];exact b_ hk
 refine⟨λ_=>⟨hm,h1⟩,λz hz hg=>⟨rfl,?_⟩⟩
 rw[rR hk]at hz
 have:=h.least z
 grind
theorem Best.skip{l out:List Int}{k:Nat}{f:Bool}{b:Int}(h:Best l out k f b)(hk:k<l.length)(h1:(∀y∈out,y<l.getD k 0)->f=true/\b<=l.getD k 0):Best l out (k+1) f b:=by
 refine⟨h.yes,λz hz hg=>?_⟩
 rw[rR hk]at hz
 have:=h.least z
 grind
theorem up_take{l:List Int}{k:Nat}(h:Up (l.take k))(hk:k<l.length)(h1:k=0\/l.getD (k - 1) 0<l.getD k 0):Up (l.take (k+1)):=by
 rw[rR hk]
 by_cases e:l.take k=[]
 ·rw[e];simp
 ·have:=(Vo h e (l.getD k 0)).2 ?_
  ·unfold Up at h⊢
   rw[R_]
   refine⟨h,by simp,λa ha b hb=>?_⟩
   simp only[l_]at hb
   rw[hb];exact this a ha
  ·have hk0:k≠0:=by intro h;subst h;simp at e
   have:(l.take k).getD ((l.take k).length - 1) 0=l.getD (k - 1) 0:=by
    simp only[v_,r_,List.getElem?_take]
    rw[show min k l.length=k by omega,if_pos (by omega)]
   rw[this]
   rcases h1 with h1|h1
   ·exact absurd h1 hk0
   ·exact h1
theorem not_up{l:List Int}{k:Nat}(hk:k<l.length)(h0:0<k)(h1:l.getD k 0<=l.getD (k - 1) 0):¬Up l:=by
 intro h
 unfold Up at h
 rw[Z_]at h
 have:=h (k - 1) k (by omega) hk (by omega)
 have e1:l.getD k 0=l[k]:=by simp[v_,a_ hk]
 have e2:l.getD (k - 1) 0=l[k - 1]:=by simp[v_,a_ (show k - 1<l.length by omega)]
 omega
def check(l:List Int):Int:=if 255<l.length then 4 else if Up l then 0 else 16
theorem check_long{l:List Int}(h:255<l.length):check l=4:=by unfold check;rw[if_pos h]
theorem check_up{l:List Int}(h:¬255<l.length)(hu:Up l):check l=0:=by unfold check;rw[if_neg h,if_pos hu]
theorem check_not{l:List Int}(h:¬255<l.length)(hu:¬Up l):check l=16:=by unfold check;rw[if_neg h,if_neg hu]
def add(l:List Int)(c:Int):List Int:=if 255<=(asc l).length/\c∉asc l then asc l else ins c (asc l)
def drop(l:List Int)(c:Int):List Int:=(asc l).filter (λx=>x != c)
end Go.Cm
namespace Go.Pl
open Go Go.Av Go.Ev
abbrev qR:Type:=xX×(Int×(Int×(List Int×(List Int×(Int×(Int×(Int×(Int×Unit))))))))
abbrev Uy:Ty:=pr [yP,tI,tW,.list tI,.list tW,tI,tI,tI,tI]
abbrev VZ:qR:=((0,0,()),0,0,[],[],0,0,0,0,())
abbrev lS(x:Int):Prop:=0<=x/\x<=4294967295
def Gk(r:qR):Int:=
 if gW r.1=false then 1
 else if r.2.1<1\/7<r.2.1 then 5
 else if r.2.2.2.1.length>2000 then 4
 else if ¬∀v∈r.2.2.2.1,1<=v/\v<=4294967295 then 5
 else if Cm.check r.2.2.2.2.1≠0 then Cm.check r.2.2.2.2.1
 else if ¬(lS r.2.2.2.2.2.1/\lS r.2.2.2.2.2.2.1/\lS r.2.2.2.2.2.2.2.2.1)\/r.2.2.2.2.2.2.2.1<0\/16777216<r.2.2.2.2.2.2.2.1 then 5 else 0
def Ew(a:B0):qR->qR
 |(p,po,nh,pt,cm,pf,md,mt,tg,u)=>
  if a.1=1 then(p,po,nh,pt,cm,a.2.1,md,mt,tg,u)
  else if a.1=2 then(p,po,nh,pt,cm,pf,a.2.1,mt,tg,u)
  else if a.1=3 then(p,po,nh,pt,cm,pf,md,a.2.1,tg,u)
  else if a.1=4 then(p,po,nh,pt,cm,pf,md,mt,a.2.1,u)
  else if a.1=5 then(p,po,a.2.2.2.2.1,pt,cm,pf,md,mt,tg,u)
  else if a.1=6 then(p,po,nh,pt,Cm.add cm a.2.2.2.1,pf,md,mt,tg,u)
  else if a.1=7 then(p,po,nh,pt,Cm.drop cm a.2.2.2.1,pf,md,mt,tg,u)
  else if(pt.length:Int)+a.2.1<=2000 then(p,po,nh,f_ a.2.1.toNat a.2.2.1++pt,cm,pf,md,mt,tg,u)
  else(p,po,nh,pt,cm,pf,md,mt,tg,u)
def Qd(a:B0)(r:qR):qR:=if jk a=0 then Ew a r else r
def KJ(l:List B0)(r:qR):qR:=l.foldl (λr a=>Qd a r) r
def nI(hold:zB->Bool):List zB->Nat->Int->List Int×List B0×Int
 |[],_,d=>([],[],d)
 |t::l,i,d=>if hold t then(if t.2.2.2.1≠3 then([(i:Int)],t.2.2.1,t.2.2.2.1)else((i:Int)::(nI hold l (i+1) d).1,t.2.2.1++(nI hold l (i+1) d).2.1,(nI hold l (i+1) d).2.2))else nI hold l (i+1) d
structure SmR(k:Nat)(r:qR):Prop where
 pt:r.2.2.2.1.length<=100000
 cm:r.2.2.2.2.1.length<=k
theorem Vq(l:List Int)(c:Int):(Cm.add l c).length<=l.length+1:=by
 have h1:=Cm.len_asc l
 have h2:=Cm.len_ins c (Cm.asc l)
 unfold Cm.add
 split<;>omega
theorem S3(l:List Int)(c:Int):(Cm.drop l c).length<=l.length:=by
 have h1:=Cm.len_asc l
 unfold Cm.drop
 have:=List.length_filter_le (λx=>x != c) (Cm.asc l)
 omega
theorem Wy{a:B0}(ha:jk a=0){k:Nat}{r:qR}(h:SmR k r):SmR (k+1) (Ew a r):=by
 obtain⟨p,po,nh,pt,cm,pf,md,mt,tg,u⟩:=r
 obtain⟨h1,h2⟩:=h
 simp only at h1 h2
 have h3:=Vq cm a.2.2.2.1
 have h4:=S3 cm a.2.2.2.1
 have h3':(Cm.add cm a.2.2.2.1).length<=k+1:=by omega
 have g:∀(p:xX) (po nh:Int) (pt' cm':List Int) (t:Int×Int×Int×Int×Unit),pt'.length<=100000->cm'.length<=k+1->SmR (k+1) (p,po,nh,pt',cm',t):=λ_ _ _ _ _ _ a b=>⟨a,b⟩
 simp only[Ew]
 split
 ·exact g _ _ _ _ _ _ h1 (by omega)
 split
 ·exact g _ _ _ _ _ _ h1 (by omega)
 split
 ·exact g _ _ _ _ _ _ h1 (by omega)
 split
 ·exact g _ _ _ _ _ _ h1 (by omega)
 split
 ·exact g _ _ _ _ _ _ h1 (by omega)
 split
 ·exact g _ _ _ _ _ _ h1 h3'
 split
 ·exact g _ _ _ _ _ _ h1 (by omega)
 split
 ·rename_i h
  exact g _ _ _ _ _ _ (by rw[i_,D_];omega) (by omega)
 ·exact g _ _ _ _ _ _ h1 (by omega)
theorem UW{a:B0}{k:Nat}{r:qR}(h:SmR k r):SmR (k+1) (Qd a r):=by
 unfold Qd
 split
 ·rename_i ha;exact Wy ha h
 ·exact⟨h.pt,by have:=h.cm;omega⟩
theorem OJ{l:List B0}:∀{k:Nat} {r:qR},SmR k r->SmR (k+l.length) (KJ l r):=by
 induction l with
 |nil=>intro k r h;exact h
 |cons a l ih=>
  intro k r h
  have:=ih (UW (a:=a) h)
  unfold KJ at this⊢
  rw[S_,q_]
  rwa [show k+(l.length+1)=k+1+l.length by omega]
theorem Co{hold:zB->Bool}:∀{l:List zB} {i:Nat} {d:Int},(∀t∈l,t.2.2.1.length<=64)->(nI hold l i d).1.length<=l.length/\(nI hold l i d).2.1.length<=64*l.length
 |[],_,_,_=>⟨y_ _,y_ _⟩
 |t::l,i,d,h=>by
  have ih:=Co (hold:=hold) (l:=l) (i:=i+1) (d:=d) λx hx=>h x (by simp[hx])
  have h0:=h t (by simp)
  unfold nI
  split
  ·split
   ·refine⟨by simp,?_⟩
    show t.2.2.1.length<=_
    rw[q_];omega
   ·refine⟨?_,?_⟩
    ·simp only[q_];omega
    ·simp only[i_,q_];omega
  ·exact⟨by rw[q_];omega,by rw[q_];omega⟩
abbrev P2(a:B0):PS:=([],[],[],[([112],[([116],[],[a],1,())],1,())],())
theorem Xo(pe:List UInt8->Int)(a:B0):vP pe (P2 a)=jk a:=by
 have t1:∀s:PS,oj s [] (([116],[],[a],1,()):zB)=jk a:=λs=>by
  have e1:dH (vO s) ([]:List Uw)=0:=rfl
  have e2:dH jk [a]=jk a:=by
   show(if jk a=0 then 0 else jk a)=jk a
   split
   ·rename_i h;exact h.symm
   ·rfl
  unfold oj
  rw[if_neg (by show ¬rI [116]=false;decide),if_neg (by show ¬false=true;decide),if_neg (by show ¬(0>64);decide),e1,if_neg (λh=>h rfl),if_neg (by show ¬(1>64);decide),e2]
  by_cases h:jk a=0
  ·rw[if_neg (not_not_intro h),h];rfl
  ·rw[if_pos h]
 have p1:∀s:PS,s5 s (([112],[([116],[],[a],1,())],1,()):De)=jk a:=λs=>by
  have e:mL (λi=>match([([116],[],[a],1,())]:List zB)[i]? with|some t=>oj s (([([116],[],[a],1,())]:List zB).take i) t|none=>0) 1=jk a:=by
   show(if oj s [] (([116],[],[a],1,()):zB)=0 then 0 else oj s [] (([116],[],[a],1,()):zB))=jk a
   rw[t1]
   split
   ·rename_i h;exact h.symm
   ·rfl
  unfold s5
  show(if mL (λi=>match([([116],[],[a],1,())]:List zB)[i]? with|some t=>oj s (([([116],[],[a],1,())]:List zB).take i) t|none=>0) 1≠0 then mL (λi=>match([([116],[],[a],1,())]:List zB)[i]? with|some t=>oj s (([([116],[],[a],1,())]:List zB).take i) t|none=>0) 1 else if(1:Int)≠1/\(1:Int)≠2 then 15 else 0)=jk a
  rw[e]
  by_cases h:jk a=0
  ·rw[if_neg (not_not_intro h),if_neg (by decide),h]
  ·rw[if_pos h]
 have l4:∀s:PS,j3 (·.1) (λp=>p.2.1.length) (s5 s) ([([112],[([116],[],[a],1,())],1,())]:List De)=jk a:=λs=>by
  have e0:MY (·.1) (λp=>p.2.1.length) (s5 s) ([([112],[([116],[],[a],1,())],1,())]:List De) 0=jk a:=by
   unfold MY
   rw[if_neg (show ¬(rH (([([112],[([116],[],[a],1,())],1,())]:List De).map (·.1)) 0≠0) by
    show ¬(rH [[112]] 0≠0)
    decide)]
   show(if(1:Nat)>64 then 4 else s5 s _)=jk a
   rw[if_neg (by decide),p1]
  unfold j3
  rw[if_neg (by show ¬(1>64);decide)]
  show(if MY (·.1) (λp=>p.2.1.length) (s5 s) ([([112],[([116],[],[a],1,())],1,())]:List De) 0=0 then 0 else MY (·.1) (λp=>p.2.1.length) (s5 s) ([([112],[([116],[],[a],1,())],1,())]:List De) 0)=jk a
  rw[e0]
  split
  ·rename_i h;exact h.symm
  ·rfl
 unfold vP
 have z1:∀{α:Type} (nm:α->List UInt8) (sz:α->Nat) (ck:α->Int),j3 nm sz ck []=0:=λ_ _ _=>rfl
 show(if j3 _ _ _ ([]:List Xx)≠0 then _ else if j3 _ _ _ ([]:List Xw)≠0 then _ else if j3 _ _ _ ([]:List Xv)≠0 then _ else j3 (·.1) (λp=>p.2.1.length) (s5 (P2 a)) ([([112],[([116],[],[a],1,())],1,())]:List De))=jk a
 rw[if_neg (not_not_intro (z1 _ _ _)),if_neg (not_not_intro (z1 _ _ _)),if_neg (not_not_intro (z1 _ _ _)),l4]
end Go.Pl
