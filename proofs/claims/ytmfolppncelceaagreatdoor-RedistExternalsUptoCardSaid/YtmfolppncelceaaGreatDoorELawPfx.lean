import Derived.Test.YtmfolppncelceaaGreatDoorEPlPfx
import Derived.Test.YtmfolppncelceaaGreatDoorEGlueB
import Derived.Test.YtmfolppncelceaaGreatDoorEL7
set_option linter.unusedVariables false
set_option linter.unusedSimpArgs false
open Bool renaming and_eq_true->x_,or_eq_false_iff->F_,true_and->M_
open Classical renaming byContradiction->h_,choose->C_,choose_spec->ae_,not_not->ah_
open Int renaming toNat_natCast->i_,eq_ofNat_of_zero_le->q_,toNat->r_,natCast_nonneg->y_,tdiv_eq_ediv_of_nonneg->K_,toNat_of_nonneg->T_,le_refl->af_
open Go.IntKind renaming wrap->c_,bits->P_
open List renaming getElem_mem->a_,getElem?_eq_getElem->b_,length_map->e_,replicate->f_,take_of_length_le->g_,mem_cons_self->j_,mem_cons_of_mem->k_,take_add_one->l_,take_length->m_,mem_singleton->n_,getElem?_eq_some_iff->o_,ext_getElem->s_,drop_eq_nil_of_le->t_,length_eq_one_iff->u_,map_append->v_,mem_append->w_,append_assoc->A_,take_append_drop->B_,all_eq_true->D_,getElem_map->E_,mem_of_mem_take->G_,nil_append->H_,take_succ_cons->I_,range->L_,map_cons->N_,getElem_set->O_,getElem?_eq_none->Q_,length_replicate->R_,mem_of_getElem?->S_,length_append->U_,any_map->W_,getD->Y_,length_set->Z_,drop_zero->aa_,sum_cons->ac_,length->ag_
open Nat renaming le_refl->p_,zero_le->z_,le_of_lt->J_,le_trans->X_,mod_lt->ab_,beq_refl->ad_
open Option renaming bind->d_,toList_some->V_
open Prod renaming ext->ai_
namespace Go.Proofs.YtmfolppncelceaaGreatDoor
open Go Go.Av Go.Ev Go.Pl
abbrev gU(x:Int):Prop:=0<=x/\x<=4294967295
theorem Rt(n m:Int):aC tbl vj [.d tI n,.d tI m] [] re (min (max n 0) m,()):=ap rfl (aA S5 rfl (λO k=>bK (RJ O k n m)) (aa rfl))
theorem TE(n m:Int):aC tbl xz [.d tI n,.d tI m] [] tO (min (max n 0) m,()):=ap rfl (aA Wt rfl (λO k=>bK (TP O k n m)) (aa rfl))
theorem Nv(k:Nat):(2:Int)^k=((2^k:Nat):Int):=by induction k with|zero=>rfl|succ k a=>rw[Int.pow_succ,a,Nat.pow_succ];rfl
theorem Tw(n:Nat)(hn:n<=32):aC tbl xw [.d tI (n:Int)] [] tM (((4294967295*2^(32 - n)%4294967296:Nat):Int),()):=by
 refine ap rfl (aA Wr rfl (λO k=>bK (Kb O k (n:Int))) ?_);unfold Kb;refine aj (Rt (n:Int) 32) ?_;have e:c_ .i64 (32 - min (max (n:Int) 0) 32)=((32 - n:Nat):Int):=by rw[wrap_i64 (by omega) (by omega)];omega
 refine aD (by grind) (aa ?_);simp only[e];rw[show min (r_ ((32 - n:Nat):Int)) (P_ .u32)=32 - n from by show min _ 32=_;simp,wrap_u32,Nv];rfl
theorem J7(x n:Int)(c:gU x)(b:0<=n)(d:n<=32):aC tbl tu [.d tW x,.d tI n] [] pU (Cg x n,()):=by obtain⟨a,rfl⟩:=q_ c.1;obtain⟨k,rfl⟩:=q_ b;refine ap rfl (aA Wq rfl (λO m=>bK (Ka O m (a:Int) (k:Int))) ?_);unfold Ka;refine aj (Tw k (by omega)) (aa ?_);rw[Ux (by omega) (ab_ _ (by simp)),zbE (by omega) (by omega)];rfl
theorem WR(x i:Nat)(f:x<=4294967295)(d:i<32):aC tbl Ar [.d tW (x:Int),.d tI (i:Int)] [] sw (((x/2^(31 - i)%2:Nat):Int),()):=by
 refine ap rfl (aA YU rfl (λO k=>bK (Mc O k (x:Int) (i:Int))) ?_);unfold Mc;refine ae (bn (b:=false) (λ_=>aa (decide_eq_false (by omega))) ?_);rw[decide_eq_false (show ¬(i:Int)<0 by simp)];have e:c_ .u64 (c_ .i64 (31 - (i:Int)))=((31 - i:Nat):Int):=by rw[wrap_i64 (by omega) (by omega),wrap_u64];omega
 refine an rfl (aD (by grind) (aa ?_));simp only[e];rw[show min (r_ ((31 - i:Nat):Int)) (P_ .u32)=31 - i from by show min _ 32=_;omega,Nv,Int.fdiv_eq_ediv_of_nonneg _ (y_ _)];have a:(x:Int)/((2^(31 - i):Nat):Int)=((x/2^(31 - i):Nat):Int):=rfl;have c:x/2^(31 - i)<=x:=Nat.div_le_self _ _;rw[a,show(1:Int)=((1:Nat):Int)from rfl,Ux (by omega) (by simp),Nat.and_one_is_mod];have:x/2^(31 - i)%2<2:=ab_ _ (by simp);rw[wrap_i64 (by omega) (by omega)]
theorem Ha(x n:Int)(h:gU x)(d:0<=n)(f:n<=32):aC tbl qx [.d tW x,.d tI n] [] m5 (Cg x n,()):=by
 obtain⟨a,rfl⟩:=q_ h.1;obtain⟨k,rfl⟩:=q_ d;have b:a<4294967296:=by omega
 refine ap rfl (aA S6 rfl (λO m=>bK (Hj O m (a:Int) (k:Int))) ?_);unfold Hj;refine aj (TE (k:Int) 32) ?_;have e:min (max (k:Int) 0) 32=(k:Int):=by omega
 rw[e];refine ae (bb (N:=k) (I:=λi s=>s=(((Cf a i:Nat):Int),(i:Int),())) (by rw[zbG b];rfl) (λi s g hs=>?_) λs hs=>?_)
 ·subst hs;unfold vT;refine a7 g (aj (WR a i (by omega) (by omega)) ?_);have e:c_ .u64 (c_ .i64 (31 - (i:Int)))=((31 - i:Nat):Int):=by rw[wrap_i64 (by omega) (by omega),wrap_u64];omega
  refine aD (by grind) (aa ?_);simp only[e];have j:a/2^(31 - i)%2<2:=ab_ _ (by simp);have hp:(a/2^(31 - i)%2)*2^(31 - i)<4294967296:=by have f:(a/2^(31 - i)%2)*2^(31 - i)<=1*2^31:=Nat.mul_le_mul (by omega) (Nat.pow_le_pow_right (by simp) (by simp));omega
  have c:c_ .u32 (c_ .u32 ((a/2^(31 - i)%2:Nat):Int)*2^(min (r_ ((31 - i:Nat):Int)) (P_ .u32)))=(((a/2^(31 - i)%2)*2^(31 - i):Nat):Int):=by rw[show min (r_ ((31 - i:Nat):Int)) (P_ .u32)=31 - i from by show min _ 32=_;omega,Nv,wrap_u32,wrap_u32];grind
  rw[c,ze7 (Nat.lt_of_le_of_lt (zdk a i) b) hp,<-zbF a (by omega),aB (n:=32) (by omega) (by simp)]
 ·subst hs;unfold vT;exact aU (aa (aa rfl))
theorem gE(p:HA)(hp:gU p.1):aC tbl db [.d yP p] [] cz (dE p,()):=by refine ap rfl (aA NT rfl (λO n=>bK (CZ O n p)) ?_);unfold CZ;refine ae (ba (b:=decide (p.2.1<=32)) (λ_=>aa rfl) ?_);refine ae (ba (b:=(Cg p.1 p.2.1==p.1)) (λh=>?_) (aa rfl));simp only[x_,decide_eq_true_eq]at h;exact aj (J7 p.1 p.2.1 hp h.1 h.2) (aa rfl)
theorem TB(a n:Int)(d:gU a)(b:0<=n)(c:n<=32):aC tbl xy [.d tW a,.d tI n] [] tN ((Cg a n,n,()),()):=by refine ap rfl (aA Ws rfl (λO k=>bK (Kc O k a n)) ?_);unfold Kc;exact aj (J7 a n d b c) (aa rfl)
theorem dG(p:HA)(hp:gU p.1):aC tbl dc [.d yP p] [] cE (dE p,()):=by refine ap rfl (aA PX rfl (λO n=>bK (FK O n p)) ?_);unfold FK;refine ae (ba (b:=decide (p.2.1<=32)) (λ_=>aa rfl) ?_);refine ae (ba (b:=(Cg p.1 p.2.1==p.1)) (λh=>?_) (aa rfl));simp only[x_,decide_eq_true_eq]at h;exact aj (Ha p.1 p.2.1 hp h.1 h.2) (aa rfl)
theorem Rw(a n:Int)(d:gU a)(b:0<=n)(c:n<=32):aC tbl vk [.d tW a,.d tI n] [] rf ((Cg a n,n,()),()):=by refine ap rfl (aA S7 rfl (λO k=>bK (Hk O k a n)) ?_);unfold Hk;exact aj (Ha a n d b c) (aa rfl)
def Kr(p:HA)(a:Int):Bool:=dE p&&(Cg a p.2.1==p.1)
def OL(p q:HA):Bool:=dE q&&(decide (p.2.1<=q.2.1)&&Kr p q.1)
theorem Rr{p:HA}(h:dE p=true):0<=p.2.1/\p.2.1<=32:=by unfold dE at h;simp only[x_,decide_eq_true_eq]at h;exact h.1
theorem xd(p:HA)(a:Int)(hp:gU p.1)(d:gU a):aC tbl iz [.d yP p,.d tW a] [] ft (Kr p a,()):=by refine ap rfl (aA IM rfl (λO n=>bK (xn O n p a)) ?_);unfold xn;refine aj (gE p hp) (ae (ba (b:=(Cg a p.2.1==p.1)) (λh=>?_) (aa rfl)));have c:=Rr h;refine aj (TB a p.2.1 d c.1 c.2) (aa ?_);show(false ^^ ((Cg a p.2.1==p.1)&&((p.2.1==p.2.1)&&true)))=_;simp
theorem zr(p:HA)(a:Int)(hp:gU p.1)(d:gU a):aC tbl ji [.d yP p,.d tW a] [] gC (Kr p a,()):=by refine ap rfl (aA JW rfl (λO n=>bK (zA O n p a)) ?_);unfold zA;refine aj (dG p hp) (ae (ba (b:=(Cg a p.2.1==p.1)) (λh=>?_) (aa rfl)));have c:=Rr h;refine aj (Rw a p.2.1 d c.1 c.2) (aa ?_);show(false ^^ ((Cg a p.2.1==p.1)&&((p.2.1==p.2.1)&&true)))=_;simp
theorem KL(p q:HA)(hp:gU p.1)(a:gU q.1):aC tbl oS [.d yP p,.d yP q] [] kE (OL p q,()):=by refine ap rfl (aA Lv rfl (λO n=>bK (B1 O n p q)) ?_);unfold B1;refine aj (gE q a) (ae (ba (b:=decide (p.2.1<=q.2.1)) (λ_=>aa rfl) ?_));refine ae (ba (b:=Kr p q.1) (λ_=>aj (xd p q.1 hp a) (aa rfl)) (aa ?_));unfold OL;grind
theorem L3(p q:HA)(hp:gU p.1)(a:gU q.1):aC tbl qy [.d yP p,.d yP q] [] mE (OL p q,()):=by refine ap rfl (aA NV rfl (λO n=>bK (C1 O n p q)) ?_);unfold C1;refine aj (dG q a) (ae (ba (b:=Kr p q.1) (λ_=>aj (zr p q.1 hp a) (aa rfl)) ?_));refine ae (ba (b:=decide (p.2.1<=q.2.1)) (λ_=>aa rfl) (aa ?_));unfold OL;grind
theorem Ft(r:PRU)(hr:gU r.2.1.1):aC tbl nW [.d yR r] [] gu (mB r,()):=by
 refine ap rfl (aA PR rfl (λO n=>bK (FG O n r)) ?_);unfold FG;refine aj (gE r.2.1 hr) (ao (λh=>aa ?_) λh=>?_);·unfold mB;rw[if_pos (by simpa using h)]
 ·have a:¬dE r.2.1=false:=by simpa using h
  refine ae (bn (b:=decide (r.2.2.2.1<r.2.2.1)) (λ_=>aa rfl) (ae (bn (b:=decide (r.2.2.2.1>32)) (λ_=>aa rfl) ?_)));refine ao (λh=>aa ?_) λh=>aa ?_;·unfold mB;rw[if_neg a,if_pos (by simpa[or_assoc]using h)]
  ·unfold mB;rw[if_neg a,if_neg];intro h';simp only[F_,decide_eq_false_iff_not]at h;omega
theorem Fw(r:PRU)(hr:gU r.2.1.1):aC tbl kI [.d yR r] [] eS (mB r,()):=by
 refine ap rfl (aA P4 rfl (λO n=>bK (FR O n r)) ?_);unfold FR;refine aj (dG r.2.1 hr) (ao (λh=>aa ?_) λh=>?_);·unfold mB;rw[if_pos (by simpa using h)]
 ·have a:¬dE r.2.1=false:=by simpa using h
  refine ae (bn (b:=decide (r.2.2.2.1<r.2.2.1)) (λ_=>aa rfl) (ae (bn (b:=decide (r.2.2.2.1>32)) (λ_=>aa rfl) ?_)));refine ao (λh=>aa ?_) λh=>aa ?_;·unfold mB;rw[if_neg a,if_pos (by simpa[or_assoc]using h)]
  ·unfold mB;rw[if_neg a,if_neg];intro h';simp only[F_,decide_eq_false_iff_not]at h;omega
def Ni(r:PRU)(p:HA):Bool:=(mB r==0)&&(OL r.2.1 p&&(decide (r.2.2.1<=p.2.1)&&decide (p.2.1<=r.2.2.2.1)))
def VS(l:List PRU)(p:HA):Bool:=match l.find? (λz=>Ni z p)with|some r=>r.1|none=>false
theorem Og(r:PRU)(p:HA)(hr:gU r.2.1.1)(hp:gU p.1):aC tbl sJ [.d yR r,.d yP p] [] oD (Ni r p,()):=by refine ap rfl (aA PT rfl (λO n=>bK (FH O n r p)) ?_);unfold FH;refine aj (Ft r hr) (ae (ba (b:=OL r.2.1 p) (λ_=>aj (KL r.2.1 p hr hp) (aa rfl)) ?_));refine ae (ba (b:=decide (r.2.2.1<=p.2.1)) (λ_=>aa rfl) (ae (ba (b:=decide (p.2.1<=r.2.2.2.1)) (λ_=>aa rfl) (aa ?_))));unfold Ni;grind
theorem On(r:PRU)(p:HA)(hr:gU r.2.1.1)(hp:gU p.1):aC tbl sP [.d yR r,.d yP p] [] oH (Ni r p,()):=by
 refine ap rfl (aA P5 rfl (λO n=>bK (zjh O n r p)) ?_);unfold zjh;refine aj (Fw r hr) (ae (ba (b:=dE p) (λ_=>aj (dG p hp) (aa rfl)) ?_));refine ae (ba (b:=OL r.2.1 p) (λ_=>aj (L3 r.2.1 p hr hp) (aa rfl)) ?_);refine ae (ba (b:=decide (p.2.1>=r.2.2.1)) (λ_=>aa rfl) (ae (ba (b:=decide (p.2.1<=r.2.2.2.1)) (λ_=>aa rfl) (aa ?_))));unfold Ni;have:(dE p&&OL r.2.1 p)=OL r.2.1 p:=by unfold OL;simp
 grind
theorem KJ(l:List PRU)(p:HA)(hl:l.length<=9223372036854775807)(hr:∀r∈l,gU r.2.1.1)(hp:gU p.1):aC tbl oR [.d (.list yR) l,.d yP p] [] ii (VS l p,()):=by
 refine ap rfl (aA Ls rfl (λO n=>bK (BY O n l p)) ?_);unfold BY;refine ae (xV (xs:=l) (p:=(λz=>Ni z p)) (g:=λr=>(r.1,())) (e:=()) (λi r b=>?_) ?_ ?_)
 ·unfold qm;have a:=(o_.1 b).1;refine a7 a (IV b (aj (Og r p (hr r (S_ b)) hp) ?_));refine ao (λh=>aa ?_) λh=>aa ?_;·rw[if_pos h]
  ·rw[if_neg (by have h:Ni r p=false:=h;simp[h]),aB a hl]
 ·unfold qm;exact aU (aa rfl)
 ·unfold VS;cases l.find? (λz=>Ni z p)with|some r=>exact aa rfl|none=>exact aa rfl
theorem BP(l:List PRU)(p:HA)(hl:l.length<=9223372036854775807)(hr:∀r∈l,gU r.2.1.1)(hp:gU p.1):aC tbl oV [.d (.list yR) l,.d yP p] [] ik (VS l p,()):=by
 refine ap rfl (aA LA rfl (λO n=>bK (B6 O n l p)) ?_);unfold B6;refine ae (xV (xs:=l) (p:=(λz=>Ni z p)) (g:=λr=>(r.1,())) (e:=()) (λi r b=>?_) ?_ ?_)
 ·unfold qq;have a:=(o_.1 b).1;refine a7 a (IV b (aj (On r p (hr r (S_ b)) hp) ?_));refine ao (λh=>aa ?_) λh=>aa ?_;·rw[if_pos h]
  ·rw[if_neg (by have h:Ni r p=false:=h;simp[h]),aB a hl]
 ·unfold qq;exact aU (aa rfl)
 ·unfold VS;cases l.find? (λz=>Ni z p)with|some r=>exact aa rfl|none=>exact aa rfl
end Go.Proofs.YtmfolppncelceaaGreatDoor
namespace Go.Pl
open Go.Ev
def uV(M:Nat)(f:Nat->Bool):List Bool:=(L_ M).map f
theorem WJ(M:Nat)(f:Nat->Bool):(uV M f).length=M:=by simp[uV]
theorem zeA{M i:Nat}(f:Nat->Bool)(h:i<(uV M f).length):(uV M f)[i]=f i:=by simp[uV]
theorem YX{M:Nat}{f g:Nat->Bool}(h:∀i,i<M->f i=g i):uV M f=uV M g:=List.map_congr_left λi a=>h i (List.mem_range.1 a)
theorem zeC{M i:Nat}(f:Nat->Bool)(b:Bool):(uV M f).set i b=uV M λj=>if j=i then b else f j:=by
 refine s_ (by simp[uV]) λj d c=>?_;have g:j<M:=by simpa[uV]using c
 rw[O_];by_cases e:i=j;·subst e;simp[uV]
 ·have a:¬j=i:=λh=>e h.symm;simp[uV,e,a]
theorem zeB(M:Nat):f_ M false=uV M λ_=>false:=by refine s_ (by simp[uV]) λj a b=>?_;simp[uV]
def zh4(g:G)(n:Int)(p:Nat):Bool:=match g.sp[p]? with
 |some q=>decide (q.1<=n)&&decide (n<=q.2)
 |none=>false
def atF(g:G)(can:Nat->Bool)(n:Int)(p:Nat):Bool:=can p&&zh4 g n p
def nxF(g:G)(a:Nat->Bool)(q:Nat):Bool:=g.pr.any λx=>a x.1&&decide (x.2=q)
def zhV(g:G)(s:(Nat->Bool)×(Nat->Bool))(n:Int):(Nat->Bool)×(Nat->Bool):=(nxF g (atF g s.1 n),atF g s.1 n)
def zih(g:G)(a:List Int):(Nat->Bool)×(Nat->Bool):=a.foldl (zhV g) (λp=>decide (p∈g.fi),λ_=>false)
def Nj(g:G)(a:List Int):Bool:=bif a.isEmpty then g.em else g.la.any (zih g a).2
open Go Go.Ev Go.Lib
def hd(t:List UInt8):Nat:=(t.headD 0).toNat
def pk(s:List UInt8)(i:Nat):Nat:=(s.getD i 0).toNat
theorem rb(s:List UInt8)(i:Nat):pk s i=hd (s.drop i):=by unfold pk hd;rw[List.headD_eq_head?_getD,List.head?_drop];rfl
theorem dP{s:List UInt8}{i:Nat}(h:pk s i≠0):i<s.length:=by apply h_;intro hn;apply h;unfold pk;rw[Y_,Q_ (by omega)];rfl
theorem Nu{s:List UInt8}{i:Nat}(h:i<s.length):pk s i=s[i].toNat:=by unfold pk;rw[Y_,b_ h];rfl
theorem zdQ{s:List UInt8}{i:Nat}(h:¬i<s.length):pk s i=0:=by unfold pk;rw[Y_,Q_ (by omega)];rfl
theorem kB{s a t:List UInt8}{i:Nat}(h:s.drop i=a++t):s.drop (i+a.length)=t:=by rw[<-List.drop_drop,h,List.drop_left]
theorem Dl{s t:List UInt8}{b:UInt8}{i:Nat}(h:s.drop i=b::t):s.drop (i+1)=t:=kB (a:=[b]) h
theorem Sw{a t:List UInt8}(h:a≠[]):hd (a++t)=hd a:=by cases a with|nil=>exact absurd rfl h|cons b a=>rfl
def dg(c:Nat):Prop:=48<=c/\c<=57
section
variable (num:Nat->Option (Int×Nat)) (s:List UInt8)
def fm(alt:Nat->Option (Rx×Nat))(i:Nat):Option (Rx×Nat):=
 if pk s i=46 then some (.mk 2 0 0 [],i+1)
 else if pk s i=33 then some (.mk 4 0 0 [],i+1)
 else if pk s i=91 then
  match num (i+1)with
  |none=>none
  |some (lo,j)=>if pk s j=45 then(match num (j+1)with
   |none=>none
   |some (up,k)=>if pk s k=93 then some (.mk 1 lo up [],k+1)else none)else none
 else if pk s i=40 then
  if pk s (i+1)=41 then some (.mk 0 0 0 [],i+2)else
  match alt (i+1)with
  |none=>none
  |some (r,j)=>if pk s j=41 then some (r,j+1)else none
 else match num i with
  |none=>none
  |some (n,j)=>some (.mk 1 n n [],j)
def Ir(alt:Nat->Option (Rx×Nat))(i:Nat):Option (Rx×Nat):=
 match fm num s alt i with
 |none=>none
 |some (r,j)=>if pk s j=42 then some (.mk 5 0 0 [r],j+1)else if pk s j=43 then some (.mk 6 0 0 [r],j+1)else if pk s j=63 then some (.mk 7 0 0 [r],j+1)else some (r,j)
def gP(sep:Nat)(one:Nat->Option (Rx×Nat)):Nat->List Rx->Nat->Option (List Rx×Nat)
 |0,_,_=>none
 |f+1,a,i=>match one i with
  |none=>none
  |some (r,j)=>if pk s j=sep then gP sep one f (a++[r]) (j+1)else some (a++[r],j)
def zby(k:Int)(l:List Rx):Rx:=match l with
 |[x]=>x
 |l=>.mk k 0 0 l
def Cw(sep:Nat)(k:Int)(one:Nat->Option (Rx×Nat))(i:Nat):Option (Rx×Nat):=match gP s sep one (s.length+1 - i) [] i with
 |none=>none
 |some (l,j)=>some (zby k l,j)
def zbV(alt:Nat->Option (Rx×Nat))(i:Nat):Option (Rx×Nat):=Cw s 32 3 (Ir num s alt) i
def GL:Nat->Nat->Option (Rx×Nat)
 |0,_=>none
 |b+1,i=>Cw s 124 4 (zbV num s (GL b)) i
end
structure NumOk(s:List UInt8)(num:Nat->Option (Int×Nat)):Prop where
 bnd:∀i n j,i<=s.length->num i=some (n,j)->i<j/\j<=s.length
 txt:∀i (m:Nat) t,s.drop i=decDigits m++t->m<=4294967295->¬dg (hd t)->num i=some ((m:Int),i+(decDigits m).length)
def WO(s:List UInt8)(one:Nat->Option (Rx×Nat)):Prop:=∀i r j,i<=s.length->one i=some (r,j)->i<j/\j<=s.length/\sz r<=j - i
section
variable {num:Nat->Option (Int×Nat)} {s:List UInt8}
theorem zcR(hn:NumOk s num){alt:Nat->Option (Rx×Nat)}(g:WO s alt):WO s (fm num s alt):=by
 intro i r j k h;unfold fm at h;have one:sz (.mk 0 0 0 [])=1:=rfl;split at h;·rename_i p;have:=dP (s:=s) (i:=i) (by omega);cases h;refine⟨by simp,by omega,?_⟩;show 1<=_;simp
 split at h;·have:=dP (s:=s) (i:=i) (by omega);cases h;refine⟨by simp,by omega,?_⟩;show 1<=_;simp
 split at h
 ·have:=dP (s:=s) (i:=i) (by omega);split at h;·grind
  rename_i lo a e;have c:=hn.bnd _ _ _ (by omega) e;split at h
  ·have:=dP (s:=s) (i:=a) (by omega);split at h;·grind
   rename_i up b f;have d:=hn.bnd _ _ _ (by omega) f;split at h;·have:=dP (s:=s) (i:=b) (by omega);cases h;refine⟨by omega,by omega,?_⟩;show 1<=_;omega
   grind
  grind
 split at h
 ·have:=dP (s:=s) (i:=i) (by omega);split at h;·have:=dP (s:=s) (i:=i+1) (by omega);grind
  split at h;·grind
  rename_i r2 a e;obtain⟨c,d,l⟩:=g _ _ _ (by omega) e;split at h;·have:=dP (s:=s) (i:=a) (by omega);grind
  grind
 split at h;·grind
 rename_i n a e;have c:=hn.bnd _ _ _ k e;cases h;refine⟨by omega,by omega,?_⟩;show 1<=_;omega
theorem Dd(hn:NumOk s num){alt:Nat->Option (Rx×Nat)}(b:WO s alt):WO s (Ir num s alt):=by
 intro i r j c h;unfold Ir at h;split at h;·grind
 rename_i r2 a e;obtain⟨d,f,g⟩:=zcR hn b _ _ _ c e;have hs:∀k:Int,sz (.mk k 0 0 [r2])=sz r2+1:=λk=>by simp only[sz,Cx];omega
 split at h;·have:=dP (s:=s) (i:=a) (by omega);grind
 split at h;·have:=dP (s:=s) (i:=a) (by omega);grind
 split at h;·have:=dP (s:=s) (i:=a) (by omega);grind
 grind
theorem Uy{one:Nat->Option (Rx×Nat)}(c:WO s one){sep:Nat}(d:sep≠0):∀(f:Nat) (b:List Rx) (i:Nat) (l:List Rx) (j:Nat),i<=s.length->gP s sep one f b i=some (l,j)->
 i<j/\j<=s.length/\Cx l+l.length<=Cx b+b.length+(j - i)+1/\b.length<l.length
 |0,_,_,_,_,_,h=>by simp[gP]at h
 |f+1,b,i,l,j,g,h=>by
  rw[gP]at h;split at h;·grind
  rename_i r a e;obtain⟨k,n,p⟩:=c _ _ _ g e;have y:Cx (b++[r])=Cx b+sz r:=by rw[S4];simp[Cx]
  split at h;·have:=dP (s:=s) (i:=a) (by omega);obtain⟨u,v,w,x⟩:=Uy c d f _ _ _ _ (by omega) h;grind
  grind
theorem LG{one:Nat->Option (Rx×Nat)}(u:WO s one){sep:Nat}(n:sep≠0)(k:Int):WO s (Cw s sep k one):=by
 intro i r j p h;unfold Cw at h;split at h;·grind
 rename_i l a e;obtain⟨f,g,c,d⟩:=Uy u n _ _ _ _ _ p e;cases h;refine⟨f,g,?_⟩;unfold zby;split;·simp[Cx]at c;omega
 ·rename_i b;have:2<=l.length:=by match l,b,d with|[],_,d=>omega|[x],b,_=>grind|x::y::l,_,_=>simp
  simp only[sz];simp[Cx]at c;omega
theorem HH(hn:NumOk s num):∀b:Nat,WO s (GL num s b)
 |0=>λi r j _ h=>by simp[GL]at h
 |b+1=>λi r j a h=>by rw[GL]at h;exact LG (one:=zbV num s (GL num s b)) (λi r j a h=>LG (one:=Ir num s (GL num s b)) (Dd hn (HH hn b)) (by simp) 3 i r j a h) (by simp) 4 i r j a h
end
mutual
def Ts:Rx->Nat
 | .mk _ _ _ ks=>1+Xq ks
def Xq:List Rx->Nat
 |[]=>0
 |r::a=>max (Ts r) (Xq a)
end
theorem LJ:∀{ks:List Rx} {r:Rx},r∈ks->Ts r<=Xq ks
 |x::ks,r,h=>by
  simp only[Xq];rcases List.mem_cons.1 h with rfl|h;·omega
  ·have:=LJ h;omega
theorem zc3(w:Bool)(l t:List UInt8):AR w l++t=bif w then 40::(l++41::t)else l++t:=by cases w<;>simp[AR]
def fst(c:Nat):Prop:=dg c\/c=46\/c=33\/c=91\/c=40
theorem Mw(n:Nat):decDigits n≠[]/\dg (hd (decDigits n)):=by have h:=Mv n;have a:=HR n;cases e:decDigits n with|nil=>grind|cons b l=>rw[e]at a;exact⟨by simp,a b (by simp)⟩
theorem LS:∀(r:Rx),dF r=true->jf r≠[]/\fst (hd (jf r)):=by
 refine lA λk lo up ks w v=>?_;obtain⟨hn,j⟩:=well_iff.1 v;have d:∀p:Int,∀x∈ks,pY p x≠[]/\fst (hd (pY p x)):=λp x s=>by
  obtain⟨a,b⟩:=w x s (j x s);unfold pY AR;cases tV p x;·exact⟨a,b⟩
  ·exact⟨by simp,.inr (.inr (.inr (.inr rfl)))⟩
 have n:∀p:Int,∀t:List UInt8,ks≠[]->(ks.map (pY p)).headD []++t≠[]/\fst (hd ((ks.map (pY p)).headD []++t)):=λp t h=>by cases ks with|nil=>exact absurd rfl h|cons x l=>obtain⟨a,b⟩:=d p x (j_ ..);simp only[N_,List.headD_cons];rw[Sw a];exact⟨by simp[a],b⟩
 have u:∀p:Int,∀c:UInt8,ks≠[]->jn c (ks.map (pY p))≠[]/\fst (hd (jn c (ks.map (pY p)))):=λp c h=>by cases ks with|nil=>exact absurd rfl h|cons x l=>obtain⟨a,b⟩:=d p x (j_ ..);cases l with|nil=>exact⟨a,b⟩|cons y l=>simp only[N_,jn];rw[Sw a];exact⟨by simp[a],b⟩
 have f:(k=5\/k=6\/k=7)->ks≠[]:=λh e=>by have:=hn.one h;rw[e]at this;simp at this
 have g:k=3->ks≠[]:=λh e=>by have:=hn.seq h;rw[e]at this;simp at this
 simp only[jf,eu];split;·exact⟨by simp,.inr (.inr (.inr (.inr rfl)))⟩
 split;·exact⟨by simp,.inr (.inl rfl)⟩
 split
 ·split;·exact⟨(Mw _).1,.inl (Mw _).2⟩
  ·exact⟨by simp,.inr (.inr (.inr (.inl rfl)))⟩
 split;·grind
 split;·exact n 6 _ (f (by omega))
 split;·exact n 7 _ (f (by omega))
 split
 ·split;·exact⟨by simp,.inr (.inr (.inl rfl))⟩
  grind
 ·rcases hn.known with h|h|h|h|h|h|h|h<;>try exact absurd h (by assumption)
  exact u 3 32 (g h)
def comp:Rx->Bool
 | .mk k _ _ ks=>bif k==4 then !ks.isEmpty else(k==3||k==5||k==6||k==7)
def Mt:Rx->Bool
 | .mk k _ _ ks=>bif k==4 then !ks.isEmpty else k==3
def Mu:Rx->Bool
 | .mk k _ _ ks=>bif k==4 then !ks.isEmpty else false
section
variable {num:Nat->Option (Int×Nat)} {s:List UInt8}
theorem Z4(hn:NumOk s num){alt:Nat->Option (Rx×Nat)}{r:Rx}(l:dF r=true) (u:comp r=true->∀i t,s.drop i=jf r++t->(hd t=0\/hd t=41)->alt i=some (r,i+(jf r).length)) {i:Nat} {t:List UInt8} (h:s.drop i=AR (comp r) (jf r)++t) (v:¬dg (hd t)):fm num s alt i=some (r,i+(AR (comp r) (jf r)).length):=by
 cases hc:comp r with
 |true=>
  rw[hc,zc3]at h;have h:s.drop i=40::(jf r++41::t):=h;have a:pk s i=40:=by rw[rb,h];rfl
  have b:=Dl h;obtain⟨p,f2⟩:=LS r l;have f:pk s (i+1)≠41:=by rw[rb,b,Sw p];intro e;rw[e]at f2;revert f2;unfold fst dg;simp
  have c:=u hc (i+1) (41::t) b (.inr rfl);have g:pk s (i+1+(jf r).length)=41:=by rw[rb,kB b];rfl
  unfold fm;rw[if_neg (by omega),if_neg (by omega),if_neg (by omega),if_pos a,if_neg f,c];simp only;rw[if_pos g];simp[AR];omega
 |false=>
  rw[hc]at h;have h:s.drop i=jf r++t:=h;show _=some (r,i+(jf r).length);obtain⟨k,lo,up,ks⟩:=r;obtain⟨nd,w⟩:=well_iff.1 l;rcases nd.known with rfl|rfl|rfl|rfl|rfl|rfl|rfl|rfl
  ·have e:=len_nil (nd.leaf (by simp));subst e;obtain⟨rfl,rfl⟩:=nd.zero (by simp);have h:s.drop i=40::41::t:=h;have a:pk s i=40:=by rw[rb,h];rfl
   have f:pk s (i+1)=41:=by rw[rb,Dl h];rfl
   unfold fm;rw[if_neg (by omega),if_neg (by omega),if_neg (by omega),if_pos a,if_pos f];rfl
  ·have e:=len_nil (nd.leaf (by simp));subst e;obtain⟨r1,r2,r3⟩:=nd.rng rfl;by_cases hl:lo=up
   ·subst hl;have d:jf (.mk 1 lo lo [])=decDigits lo.toNat:=by simp[jf]
    rw[d]at h⊢;obtain⟨n,A⟩:=Mw lo.toNat;have a:dg (pk s i):=by rw[rb,h,Sw n];omega
    unfold dg at a;have B:=hn.txt i lo.toNat t h (by omega) v;unfold fm;grind
   ·have d:jf (.mk 1 lo up [])=91::(decDigits lo.toNat++45::(decDigits up.toNat++[93])):=by simp[jf,hl]
    rw[d]at h⊢;have h:s.drop i=91::(decDigits lo.toNat++45::(decDigits up.toNat++93::t)):=by grind
    have a:pk s i=91:=by rw[rb,h];rfl
    have b:=Dl h;have x:=hn.txt _ lo.toNat _ b (by omega) (by show ¬dg 45;unfold dg;simp);have c:=kB b;have g:pk s (i+1+(decDigits lo.toNat).length)=45:=by rw[rb,c];rfl
    have j:=Dl c;have y:=hn.txt _ up.toNat _ j (by omega) (by show ¬dg 93;unfold dg;simp);have z:pk s (i+1+(decDigits lo.toNat).length+1+(decDigits up.toNat).length)=93:=by rw[rb,kB j];rfl
    unfold fm;rw[if_neg (by omega),if_neg (by omega),if_pos a,x];simp only;rw[if_pos g,y];simp only;rw[if_pos z,T_ r1,T_ (by omega)];simp;omega
  ·have e:=len_nil (nd.leaf (by simp));subst e;obtain⟨rfl,rfl⟩:=nd.zero (by simp);have h:s.drop i=46::t:=h;have a:pk s i=46:=by rw[rb,h];rfl
   unfold fm;rw[if_pos a];rfl
  ·exact absurd hc (by simp[comp])
  ·obtain⟨rfl,rfl⟩:=nd.zero (by simp);have e:ks=[]:=by simpa[comp]using hc
   subst e;have h:s.drop i=33::t:=by rw[h];simp[jf]
   have a:pk s i=33:=by rw[rb,h];rfl
   unfold fm;rw[if_neg (by omega),if_pos a];simp[jf]
  ·exact absurd hc (by simp[comp])
  ·exact absurd hc (by simp[comp])
  ·exact absurd hc (by simp[comp])
def f2(c:Nat):Prop:=c=0\/c=41\/c=124\/c=32
def zcp(s:List UInt8)(alt:Nat->Option (Rx×Nat))(b:Nat):Prop:=∀r,dF r=true->Ts r<=b->∀i t,s.drop i=jf r++t->(hd t=0\/hd t=41)->alt i=some (r,i+(jf r).length)
theorem zar(hn:NumOk s num){alt:Nat->Option (Rx×Nat)}{b:Nat}(z:zcp s alt b){r:Rx}(w:dF r=true)(C:Ts r<=b+1)(j:Mt r=true->Ts r<=b){i:Nat}{t:List UInt8} (h:s.drop i=pY 3 r++t) (A:f2 (hd t)):Ir num s alt i=some (r,i+(pY 3 r).length):=by
 obtain⟨k,lo,up,ks⟩:=r;obtain⟨nd,g⟩:=well_iff.1 w;have u:¬dg (hd t):=by unfold f2 at A;unfold dg;omega
 by_cases B:k=5\/k=6\/k=7
 ·obtain⟨x,rfl⟩:=q8 (nd.one B);obtain⟨rfl,rfl⟩:=nd.zero (by omega);have y:x∈[x]:=j_ ..;have D:=LJ y;have n:Ts x<=b:=by simp only[Ts]at C;omega
  have d:∀p:Int,(p=5\/p=6\/p=7)->pY p x=AR (comp x) (jf x):=λp hp=>by
   obtain⟨a,_,_,l⟩:=x;unfold pY;have:((p==5||p==6)||p==7)=true:=by grind
   simp only[tV,comp,this,Bool.and_true];have H:(p != 4)=true:=by grind
   grind
  have v:∃c:UInt8,pY 3 (.mk k 0 0 [x])=AR (comp x) (jf x)++[c]/\(c.toNat=42/\k=5\/c.toNat=43/\k=6\/c.toNat=63/\k=7):=by
   rcases B with rfl|rfl|rfl;·refine⟨42,?_,by simp⟩;show jf (.mk 5 0 0 [x])=_;simp[jf,eu,d]
   ·refine⟨43,?_,by simp⟩;show jf (.mk 6 0 0 [x])=_;simp[jf,eu,d]
   ·refine⟨63,?_,by simp⟩;show jf (.mk 7 0 0 [x])=_;simp[jf,eu,d]
  obtain⟨c,e,hc⟩:=v;rw[e]at h⊢;have h:s.drop i=AR (comp x) (jf x)++c::t:=by grind
  have f:=Z4 hn (g x y) (λ_=>z x (g x y) n) h (by show ¬dg c.toNat;unfold dg;omega);have E:pk s (i+(AR (comp x) (jf x)).length)=c.toNat:=by rw[rb,kB h];rfl
  unfold Ir;grind
 ·have e:pY 3 (.mk k lo up ks)=AR (comp (.mk k lo up ks)) (jf (.mk k lo up ks)):=by unfold pY;simp only[tV,comp];grind
  have F:comp (.mk k lo up ks)=Mt (.mk k lo up ks):=by simp only[comp,Mt];grind
  rw[e]at h⊢;have f:=Z4 hn w (λhc=>z _ w (j (by grind))) h u;have E:pk s (i+(AR (comp (.mk k lo up ks)) (jf (.mk k lo up ks))).length)=hd t:=by rw[rb,kB h]
  unfold Ir;rw[f];unfold f2 at A;grind
theorem SE{one:Nat->Option (Rx×Nat)}{f:Rx->List UInt8}{sep:UInt8}{E:Nat->Prop}:∀(ks:List Rx),ks≠[]->
 (∀x∈ks,∀i t,s.drop i=f x++t->(E (hd t)\/hd t=sep.toNat)->one i=some (x,i+(f x).length))->
 (∀x∈ks,f x≠[])->∀(b:Nat) (a:List Rx) (i:Nat) (t:List UInt8),s.drop i=jn sep (ks.map f)++t->E (hd t)->hd t≠sep.toNat->s.length+1<=b+i->i<=s.length->
 gP s sep.toNat one b a i=some (a++ks,i+(jn sep (ks.map f)).length)
 |[],h,_,_,_,_,_,_,_,_,_,_,_=>absurd rfl h
 |[x],_,d,c,b,a,i,t,h,j,hs,n,r=>by
  have h:s.drop i=f x++t:=h;have e:=d x (by simp) i t h (.inl j);obtain⟨m,rfl⟩:∃m,b=m+1:=⟨b - 1,by omega⟩;have l:pk s (i+(f x).length)=hd t:=by rw[rb,kB h]
  rw[gP,e];simp only;rw[if_neg (by omega)];rfl
 |x::y::ks,_,d,c,b,a,i,t,h,j,hs,n,r=>by
  have h:s.drop i=f x++sep::(jn sep ((y::ks).map f)++t):=by rw[h];simp[jn]
  have e:=d x (by simp) i _ h (.inr rfl);obtain⟨m,rfl⟩:∃m,b=m+1:=⟨b - 1,by omega⟩;have g:=kB h;have l:pk s (i+(f x).length)=sep.toNat:=by rw[rb,g];rfl
  have u:i+(f x).length<s.length:=by apply h_;intro p;rw[t_ (by omega)]at g;grind
  have:=SE (y::ks) (by simp) (λz k=>d z (k_ _ k)) (λz k=>c z (k_ _ k)) m (a++[x]) (i+(f x).length+1) t (Dl g) j hs (by omega) (by omega);rw[gP,e];simp only;rw[if_pos l,this];simp[jn];omega
theorem zW{k:Int}{l:List Rx}(h:l.length≠1):zby k l= .mk k 0 0 l:=by
 unfold zby;split;·simp at h
 ·rfl
theorem seq_ok(hn:NumOk s num){alt:Nat->Option (Rx×Nat)}{b:Nat}(n:zcp s alt b){r:Rx}(u:dF r=true)(p:Ts r<=b+1)(w:Mu r=true->Ts r<=b){i:Nat}{t:List UInt8} (h:s.drop i=pY 4 r++t) (y:hd t=0\/hd t=41\/hd t=124) (z:i<=s.length):zbV num s alt i=some (r,i+(pY 4 r).length):=by
 obtain⟨k,lo,up,ks⟩:=r;obtain⟨nd,d⟩:=well_iff.1 u;unfold zbV Cw;by_cases A:k=3
 ·subst A;obtain⟨rfl,rfl⟩:=nd.zero (by simp);have D:2<=(ks.length:Int):=nd.seq rfl;have e:pY 4 (.mk 3 0 0 ks)=jn 32 (ks.map (pY 3)):=by show jf (.mk 3 0 0 ks)=_;simp[jf,eu]
  rw[e]at h⊢;have j:∀x∈ks,Ts x<=b:=λx a=>by have:=LJ a;simp only[Ts]at p;omega
  have l:ks≠[]:=by grind
  have:=SE (one:=Ir num s alt) (f:=pY 3) (sep:=32) (E:=λc=>c=0\/c=41\/c=124) ks l (λx a i t g hc=>zar hn n (d x a) (by grind) (λ_=>j x a) g (by
   unfold f2;grind)) (λx a=>by
   unfold pY AR;cases tV 3 x;·exact(LS x (d x a)).1
   simp) (s.length+1 - i) [] i t h y (by
   grind) (by omega) z
  have this:gP s 32 (Ir num s alt) (s.length+1 - i) [] i=_:=this;rw[this];simp only[H_];rw[zW (by omega)]
 ·have e:pY 4 (.mk k lo up ks)=pY 3 (.mk k lo up ks):=by unfold pY;simp only[tV];grind
  have C:Mt (.mk k lo up ks)=Mu (.mk k lo up ks):=by simp only[Mt,Mu];grind
  rw[e]at h⊢;have v:=zar hn n u p (by grind) h (by unfold f2;omega);have F:pk s (i+(pY 3 (.mk k lo up ks)).length)=hd t:=by rw[rb,kB h]
  obtain⟨m,B⟩:∃m,s.length+1 - i=m+1:=⟨s.length - i,by omega⟩;rw[B,gP,v];simp only;rw[if_neg (by omega)];simp[zby]
theorem LK{a t:List UInt8}{i:Nat}(h:s.drop i=a++t)(c:a≠[]):i<s.length:=by apply h_;intro b;rw[t_ (by omega)]at h;have:=List.append_eq_nil_iff.1 h.symm;grind
theorem zdi(p:Int){x:Rx}(a:dF x=true):pY p x≠[]:=by
 unfold pY AR;cases tV p x;·exact(LS x a).1
 ·simp
theorem zcL(hn:NumOk s num):∀b:Nat,zcp s (GL num s b) b
 |0=>λr _ l=>by cases r;simp[Ts]at l
 |b+1=>λr p l i t h z=>by
  have w:=LK h (LS r p).1;have v:=zcL hn b;rw[GL];unfold Cw;cases hc:Mu r with
  |true=>
   obtain⟨k,lo,up,ks⟩:=r;obtain⟨nd,a⟩:=well_iff.1 p;have A:k=4:=by simp only[Mu]at hc;grind
   subst A;obtain⟨rfl,rfl⟩:=nd.zero (by simp);have j:ks≠[]:=by simpa[Mu]using hc
   have u:(ks.length:Int)≠1:=nd.alt rfl;have e:jf (.mk 4 0 0 ks)=jn 124 (ks.map (pY 4)):=by simp[jf,eu,j]
   rw[e]at h⊢;have n:∀x∈ks,Ts x<=b:=λx d=>by have:=LJ d;simp only[Ts]at l;omega
   have:=SE (one:=zbV num s (GL num s b)) (f:=pY 4) (sep:=124) (E:=λc=>c=0\/c=41) ks j (λx d i t g hc=>seq_ok hn v (a x d) (by grind) (λ_=>n x d) g (by
    grind) (J_ (LK g (zdi 4 (a x d))))) (λx d=>zdi 4 (a x d)) (s.length+1 - i) [] i t h z (by
    grind) (by omega) (J_ w)
   have this:gP s 124 (zbV num s (GL num s b)) (s.length+1 - i) [] i=_:=this;rw[this];simp only[H_];rw[zW (by omega)]
  |false=>
   have e:jf r=pY 4 r:=by
    obtain⟨k,lo,up,ks⟩:=r;unfold pY;simp only[tV];simp only[Mu]at hc;cases y:(k==4)
    ·cases C:(k==3);·simp[AR]
     ·simp[AR]
    ·rw[y]at hc;simp only[cond_true]at hc;simp only[cond_true,hc];rfl
   rw[e]at h⊢;have u:=seq_ok hn v p l (λh=>by grind) h (by omega) (J_ w);have D:pk s (i+(pY 4 r).length)=hd t:=by rw[rb,kB h]
   obtain⟨m,B⟩:∃m,s.length+1 - i=m+1:=⟨s.length - i,by omega⟩;rw[B,gP,u];simp only;rw[if_neg (by omega)];simp[zby]
end
theorem zfa:∀(r:Rx) (lv c:Int),(CK r lv c).2=0->lv+(Ts r:Int)<=17:=by
 refine lA λk lo up ks f lv c h=>?_;rw[CK]at h;split at h;·omega
 split at h;·omega
 split at h;·omega
 have a:∀(l:List Rx),(∀r∈l,r∈ks)->∀(c:Int),(iO l (lv+1) c).2=0->lv+1+(Xq l:Int)<=17:=by
  intro l;induction l with
  |nil=>intro _ c _;simp only[Xq];omega|cons r l g=>
   intro b c h;rw[iO]at h;split at h;·omega
   ·rename_i d;have j:=f r (b r (j_ ..)) (lv+1) c (ah_.1 d);have n:=g (λx e=>b x (k_ _ e)) _ h;simp only[Xq];omega
 have:=a ks (λ_ h=>h) _ h;simp only[Ts];omega
theorem zbX{num:Nat->Option (Int×Nat)}{r:Rx}(hn:NumOk (jf r) num)(c:dF r=true){b:Nat}(a:Ts r<=b):GL num (jf r) b 0=some (r,(jf r).length):=by have:=zcL hn b r c a 0 [] (by simp) (.inl rfl);grind
end Go.Pl
namespace Go.Proofs.YtmfolppncelceaaGreatDoor
open Go Go.Av Go.Ev Go.Pl
theorem RG(k n:Int):aC tbl vt [.d tI k,.d tI n] [] gn (za k,i7 k n,()):=by
 refine ap rfl (aA Tj rfl (λO m=>bK (Hv O m k n)) ?_);unfold Hv;by_cases j:k=0;·subst j;exact eK (λ_=>rfl) rfl
 by_cases l:k=1;·subst l;exact eK (λ_=>rfl) rfl
 by_cases p:k=2;·subst p;exact eK (λ_=>rfl) rfl
 by_cases r:k=3;·subst r;exact eK (λ_=>rfl) rfl
 by_cases s:k=4;·subst s;exact eK (λ_=>rfl) rfl
 by_cases u:k=5;·subst u;exact eK (λ_=>rfl) rfl
 by_cases v:k=6;·subst v;exact eK (λ_=>rfl) rfl
 by_cases w:k=7;·subst w;exact eK (λ_=>rfl) rfl
 have a:(k==(0:Int))=false:=by grind
 have b:(k==(1:Int))=false:=by grind
 have c:(k==(2:Int))=false:=by grind
 have d:(k==(3:Int))=false:=by grind
 have e:(k==(4:Int))=false:=by grind
 have f:(k==(5:Int))=false:=by grind
 have g:(k==(6:Int))=false:=by grind
 have h:(k==(7:Int))=false:=by grind
 simp only[a,b,c,d,e,f,g,h];refine eK (λ_=>rfl) ?_;simp only[za,i7,a,b,c,d,e,f,g,h];rfl
theorem Hh(r:Rx):aC tbl qE [.d .rx r] [] gp (gV r.out.1 r.out.2.1 r.out.2.2.1 (r.out.2.2.2.1.length:Int),()):=by
 refine ap rfl (aA Tk rfl (λO m=>bK (Hw O m r)) ?_);unfold Hw;generalize r.out.1=k;generalize r.out.2.1=lo;generalize r.out.2.2.1=b;generalize(r.out.2.2.2.1.length:Int)=n;refine aj (RG k n) ?_;unfold gV;cases za k;·exact eK (λ_=>rfl) rfl
 cases c:(k==(1:Int))
 ·have a:(k != (1:Int))=true:=by grind
  rw[a];cases(lo != (0:Int))<;>cases(b != (0:Int))<;>cases i7 k n<;>exact eK (λ_=>rfl) rfl
 ·have a:(k != (1:Int))=false:=by grind
  rw[a];cases decide (lo<(0:Int))<;>cases decide (lo>b)<;>cases decide (b>(4294967295:Int))<;>cases i7 k n<;>exact eK (λ_=>rfl) rfl
theorem zbP(k lo a:Int)(n:Int)(hn:0<=n):gV k lo a n= bif k==1 then(bif decide (lo<0)||decide (lo>a)||decide (a>4294967295)then 5 else bif decide (n>0)then 1 else 0) else bif !za k then 15 else bif !i7 k n then 1 else bif lo != 0||a != 0 then 1 else 0:=by
 unfold gV;cases c:(k==(1:Int));·grind
 ·have b:k=1:=by grind
  subst b;have:i7 1 n= !decide (n>0):=by show(n==0)=_;grind
  rw[this];cases decide (lo<(0:Int))<;>cases decide (lo>a)<;>cases decide (a>(4294967295:Int))<;>cases decide (n>0)<;>rfl
theorem CP(r:Rx):aC tbl l8 [.d .rx r] [] fe (gV r.out.1 r.out.2.1 r.out.2.2.1 (r.out.2.2.2.1.length:Int),()):=by
 refine ap rfl (aA NX rfl (λO m=>bK (C3 O m r)) ?_);unfold C3;have hn:(0:Int)<=(r.out.2.2.2.1.length:Int):=by simp
 generalize(r.out.2.2.2.1.length:Int)=n at hn;rw[zbP _ _ _ _ hn];generalize r.out.1=k;generalize r.out.2.1=lo;generalize r.out.2.2.1=a;by_cases u:k=1;·subst u;cases decide (lo<(0:Int))<;>cases decide (lo>a)<;>cases decide (a>(4294967295:Int))<;>cases decide (n>0)<;>exact eK (λ_=>rfl) rfl
 have d:(k==(1:Int))=false:=by grind
 rw[d];have c:∀m:Int,0<=m->(m==0)= !decide (m>0):=λm B=>by grind
 by_cases s:k=0;·subst s;rw[show i7 0 n= !decide (n>0)from c n hn];cases decide (n>0)<;>cases(lo != (0:Int))<;>cases(a != (0:Int))<;>exact eK (λ_=>rfl) rfl
 by_cases v:k=2;·subst v;rw[show i7 2 n= !decide (n>0)from c n hn];cases decide (n>0)<;>cases(lo != (0:Int))<;>cases(a != (0:Int))<;>exact eK (λ_=>rfl) rfl
 by_cases w:k=3
 ·subst w;have:i7 3 n= !decide (n<2):=by show decide (n>=2)=_;grind
  rw[this];cases decide (n<2)<;>cases(lo != (0:Int))<;>cases(a != (0:Int))<;>exact eK (λ_=>rfl) rfl
 by_cases x:k=4;·subst x;show Wp _ _;have:i7 4 n= !(n==1):=rfl;rw[this];cases(n==(1:Int))<;>cases(lo != (0:Int))<;>cases(a != (0:Int))<;>exact eK (λ_=>rfl) rfl
 have b:∀m:Int,(m==1)= !(m != 1):=λm=>by grind
 by_cases y:k=5;·subst y;rw[show i7 5 n= !(n != 1)from b n];cases(n != (1:Int))<;>cases(lo != (0:Int))<;>cases(a != (0:Int))<;>exact eK (λ_=>rfl) rfl
 by_cases z:k=6;·subst z;rw[show i7 6 n= !(n != 1)from b n];cases(n != (1:Int))<;>cases(lo != (0:Int))<;>cases(a != (0:Int))<;>exact eK (λ_=>rfl) rfl
 by_cases A:k=7;·subst A;rw[show i7 7 n= !(n != 1)from b n];cases(n != (1:Int))<;>cases(lo != (0:Int))<;>cases(a != (0:Int))<;>exact eK (λ_=>rfl) rfl
 have e:(k==(0:Int))=false:=by grind
 have f:(k==(2:Int))=false:=by grind
 have g:(k==(3:Int))=false:=by grind
 have h:(k==(4:Int))=false:=by grind
 have j:(k==(5:Int))=false:=by grind
 have l:(k==(6:Int))=false:=by grind
 have p:(k==(7:Int))=false:=by grind
 simp only[za,e,d,f,g,h,j,l,p];exact eK (λ_=>rfl) rfl
theorem GU{k lo up:Int}{ks:List Rx}{M:Nat}(h:sz (.mk k lo up ks)<=M):ks.length<M/\∀r∈ks,sz r<M:=by simp only[sz]at h;have a:=IE ks;exact⟨by omega,λr hr=>by have:=vE hr;omega⟩
theorem RI:∀(r:Rx),sz r<=1000000->aC tbl qF [.d .rx r] [] iL (dF r,()):=by
 refine lA λk lo up ks n hs=>?_;obtain⟨c,b⟩:=GU hs;refine ap rfl (aA Tm rfl (λO m=>bK (Hz O m (.mk k lo up ks))) ?_);unfold Hz;refine aj (Hh _) ?_;show Wp _ _;have l:dF (.mk k lo up ks)=(gV k lo up ks.length==0&&wT ks):=rfl;refine ao (λh=>aa ?_) λh=>?_
 ·have:(gV k lo up ks.length==0)=false:=by have h:(gV k lo up ks.length != 0)=true:=h;grind
  grind
 ·have d:(gV k lo up ks.length==0)=true:=by have h:(gV k lo up ks.length != 0)=false:=h;grind
  rw[l,d,M_];refine ae (vF (xs:=ks) (P:=λr=>dF r=true) (e:=(false,())) (g:=()) (λi a=>?_) ?_ (λhg=>?_) (λf=>?_));·unfold wa;refine a7 a (aG a ?_);rw[cP];have hr:=a_ a;refine aj (n ks[i] hr (by grind)) (s8 ?_ (by rw[aB a (by omega)]));simp
  ·unfold wa;exact aU (aa rfl)
  ·refine aa ?_;rw[(sE ks).2 hg]
  ·refine aa ?_;have:wT ks=false:=by
    cases j:wT ks;·rfl
    ·exact absurd ((sE ks).1 j) f
   grind
theorem Gp:∀(r:Rx),sz r<=1000000->aC tbl gK [.d .rx r] [] cA (dF r,()):=by
 refine lA λk lo up ks n hs=>?_;obtain⟨c,b⟩:=GU hs;refine ap rfl (aA G4 rfl (λO m=>bK (vS O m (.mk k lo up ks))) ?_);unfold vS;refine aj (CP _) ?_;show Wp _ _;have l:dF (.mk k lo up ks)=(gV k lo up ks.length==0&&wT ks):=rfl;refine ao (λh=>aa ?_) λh=>?_
 ·have:(gV k lo up ks.length==0)=false:=by have h:(gV k lo up ks.length != 0)=true:=h;grind
  grind
 ·have d:(gV k lo up ks.length==0)=true:=by have h:(gV k lo up ks.length != 0)=false:=h;grind
  rw[l,d,M_];refine ae (vF (xs:=ks) (P:=λr=>dF r=true) (e:=(false,())) (g:=()) (λi a=>?_) ?_ (λhg=>?_) (λf=>?_));·unfold l5;refine a7 a (aG a ?_);rw[cP];have hr:=a_ a;refine aj (n ks[i] hr (by grind)) (s8 ?_ (by rw[aB a (by omega)]));simp
  ·unfold l5;exact aU (aa rfl)
  ·refine aa ?_;rw[(sE ks).2 hg]
  ·refine aa ?_;have:wT ks=false:=by
    cases j:wT ks;·rfl
    ·exact absurd ((sE ks).1 j) f
   grind
theorem Eo{ks:List Rx}{lv c:Int}:∀{i:Nat},(h:i<ks.length)->(iO (ks.take i) lv c).2=0->iO (ks.take (i+1)) lv c=(let p:=CK ks[i] lv (iO (ks.take i) lv c).1;(p.1,p.2)):=by intro i;induction ks generalizing c i with|nil=>simp|cons r ks b=>intro h a;cases i with|zero=>simp only[List.take_zero,I_,iO,List.getElem_cons_zero];grind|succ i=>simp only[I_,iO,List.getElem_cons_succ]at a⊢;grind
theorem HN{lv:Int}:∀{ks:List Rx} {c:Int} {i:Nat},(iO (ks.take i) lv c).2≠0->iO ks lv c=iO (ks.take i) lv c:=by intro ks;induction ks with|nil=>simp|cons r ks a=>intro c i h;cases i with|zero=>simp[iO]at h|succ i=>simp only[I_,iO]at h⊢;grind
theorem Jb:∀(r:Rx) (lv c:Int),0<=c->c<=64->c<=(CK r lv c).1/\(CK r lv c).1<=64:=by
 refine lA λk lo up ks d lv c b a=>?_;have hs:∀(l:List Rx) (lv c:Int),(∀r∈l,r∈ks)->0<=c->c<=64->c<=(iO l lv c).1/\(iO l lv c).1<=64:=by intro l;induction l with|nil=>intro lv c _ b a;exact⟨af_ _,a⟩|cons r l e=>intro lv c hl b a;have hr:=d r (hl r (j_ ..)) lv c b a;simp only[iO];grind
 simp only[CK];grind
theorem Oj:∀(r:Rx),sz r<=1048576->∀(lv c:Int),0<=lv->lv<=17->0<=c->c<=64->aC tbl nX [.d .rx r,.d tI lv,.d tI c] [] dH ((CK r lv c).1,(CK r lv c).2,()):=by
 refine lA λk lo up ks B hs lv c y z w x=>?_;obtain⟨n,l⟩:=GU hs;refine ap rfl (aA P1 rfl (λO m=>bK (FO O m (.mk k lo up ks) lv c)) ?_);unfold FO;refine ao (λh=>aa ?_) λh=>?_
 ·have h:lv>16:=by grind
  simp only[CK,if_pos h]
 have f:¬lv>16:=by grind
 refine ao (λh=>aa ?_) λh=>?_
 ·have h:c>=64:=by grind
  simp only[CK,if_neg f,if_pos h]
 have j:¬c>=64:=by grind
 refine aj (CP _) ?_;show Wp _ _;refine ao (λh=>aa ?_) λh=>?_
 ·have h:gV k lo up ks.length≠0:=by have h:(gV k lo up ks.length != 0)=true:=h;grind
  simp only[CK,if_neg f,if_neg j,if_pos h];rfl
 have v:¬gV k lo up ks.length≠0:=by have h:(gV k lo up ks.length != 0)=false:=h;grind
 have p:CK (.mk k lo up ks) lv c=iO ks (lv+1) (c+1):=by simp only[CK,if_neg f,if_neg j,if_neg v]
 rw[p,wrap_i64 (by omega) (by omega)];have a:∀i,(iO (ks.take i) (lv+1) (c+1)).2=0->0<=(iO (ks.take i) (lv+1) (c+1)).1/\(iO (ks.take i) (lv+1) (c+1)).1<=64:=by
  intro i;induction i with
  |zero=>intro _;simp[iO];omega|succ i g=>
   intro u;by_cases b:i<ks.length
   ·have d:(iO (ks.take i) (lv+1) (c+1)).2=0:=h_ λhn=>by have:=HN (ks:=ks.take (i+1)) (lv:=lv+1) (c:=c+1) (i:=i) (by grind);grind
    rw[Eo b d];have hr:=g d;have:=Jb ks[i] (lv+1) _ hr.1 hr.2;grind
   ·rw[show ks.take (i+1)=ks.take i by rw[g_ (by omega),g_ (by omega)]]at u⊢;omega
 refine ae (bb (N:=ks.length) (I:=λi s=>s=((iO (ks.take i) (lv+1) (c+1)).1,(i:Int),())/\(iO (ks.take i) (lv+1) (c+1)).2=0) (by simp[iO]) (λi s b hs=>?_) λs hs=>?_)
 ·obtain⟨rfl,d⟩:=hs;unfold ud;refine a7 b (aG b ?_);rw[cP,wrap_i64 (by omega) (by omega)];have hr:=a_ b;have e:=a i d;refine aj (B ks[i] hr (by grind) (lv+1) _ (by omega) (by omega) e.1 e.2) ?_;have A:=Eo b d;refine ao (λh=>aa ?_) λh=>aa ?_
  ·have hn:(CK ks[i] (lv+1) (iO (ks.take i) (lv+1) (c+1)).1).2≠0:=by grind
   have C:=HN (ks:=ks) (lv:=lv+1) (c:=c+1) (i:=i+1) (by grind);refine aa ?_;grind
  ·have hn:(CK ks[i] (lv+1) (iO (ks.take i) (lv+1) (c+1)).1).2=0:=by grind
   refine⟨?_,by grind⟩;rw[aB b (by omega),A]
 ·obtain⟨rfl,d⟩:=hs;unfold ud;refine aU (aa (aa ?_));grind
theorem OD:∀(r:Rx),sz r<=1048576->∀(lv c:Int),0<=lv->lv<=17->0<=c->c<=64->∃s:Int,((CK r lv c).2=0->s=(CK r lv c).1)/\aC tbl fh [.d .rx r,.d tI lv,.ptr 0 0] [.box fM [.d tI c]] bJ ((CK r lv c).2,s,()):=by
 refine lA λk lo up ks E hs lv c B C z A=>?_;obtain⟨u,p⟩:=GU hs;suffices h:∃x:Int×Int×Unit,(x.1=(CK (.mk k lo up ks) lv c).2/\((CK (.mk k lo up ks) lv c).2=0->x.2.1=(CK (.mk k lo up ks) lv c).1))/\aC tbl fh [.d .rx (.mk k lo up ks),.d tI lv,.ptr 0 0] [.box fM [.d tI c]] bJ x by grind
 refine om (sh:=bJ) (λ_=>rfl) (aA IR rfl (λO m=>bK (xt O m (.mk k lo up ks) lv c)) ?_);unfold xt;refine ao (λh=>aa ⟨_,rfl,?_⟩) λh=>?_
 ·have h:lv>16:=by grind
  simp only[CK,if_pos h];simp
 have f:¬lv>16:=by grind
 refine ao (λh=>aa ⟨_,rfl,?_⟩) λh=>?_
 ·have h:c>=64:=by grind
  simp only[CK,if_neg f,if_pos h];simp
 have n:¬c>=64:=by grind
 refine aj (Hh _) ?_;show Wp _ _;refine ao (λh=>aa ⟨_,rfl,?_⟩) λh=>?_
 ·have h:gV k lo up ks.length≠0:=by have h:(gV k lo up ks.length != 0)=true:=h;grind
  simp only[CK,if_neg f,if_neg n,if_pos h];exact⟨rfl,λh'=>absurd h' h⟩
 have y:¬gV k lo up ks.length≠0:=by have h:(gV k lo up ks.length != 0)=false:=h;grind
 have v:CK (.mk k lo up ks) lv c=iO ks (lv+1) (c+1):=by simp only[CK,if_neg f,if_neg n,if_neg y]
 rw[v,wrap_i64 (by omega) (by omega)];have a:∀i,(iO (ks.take i) (lv+1) (c+1)).2=0->0<=(iO (ks.take i) (lv+1) (c+1)).1/\(iO (ks.take i) (lv+1) (c+1)).1<=64:=by
  intro i;induction i with
  |zero=>intro _;simp[iO];omega|succ i l=>
   intro w;by_cases b:i<ks.length
   ·have d:(iO (ks.take i) (lv+1) (c+1)).2=0:=h_ λhn=>by have:=HN (ks:=ks.take (i+1)) (lv:=lv+1) (c:=c+1) (i:=i) (by grind);grind
    rw[Eo b d];have hr:=l d;have:=Jb ks[i] (lv+1) _ hr.1 hr.2;grind
   ·rw[show ks.take (i+1)=ks.take i by rw[g_ (by omega),g_ (by omega)]]at w⊢;omega
 refine ae (bb (N:=ks.length) (I:=λi s=>s=((i:Int),(iO (ks.take i) (lv+1) (c+1)).1,())/\(iO (ks.take i) (lv+1) (c+1)).2=0) (by simp[iO]) (λi s b hs=>?_) λs hs=>?_)
 ·obtain⟨rfl,d⟩:=hs;unfold nB;refine a7 b (aG b ?_);rw[cP,wrap_i64 (by omega) (by omega)];have hr:=a_ b;have e:=a i d;obtain⟨s,g,j⟩:=E ks[i] hr (by grind) (lv+1) _ (by omega) (by omega) e.1 e.2;refine aj j ?_;have D:=Eo b d;refine ao (λh=>aa ?_) λh=>aa ?_
  ·have hn:(CK ks[i] (lv+1) (iO (ks.take i) (lv+1) (c+1)).1).2≠0:=by grind
   have F:=HN (ks:=ks) (lv:=lv+1) (c:=c+1) (i:=i+1) (by grind);refine aa ⟨_,rfl,?_⟩;grind
  ·have hn:(CK ks[i] (lv+1) (iO (ks.take i) (lv+1) (c+1)).1).2=0:=by grind
   refine⟨?_,by grind⟩;rw[aB b (by omega),D,g hn]
 ·obtain⟨rfl,d⟩:=hs;unfold nB;refine aU (aa (aa ⟨_,rfl,?_⟩));grind
def mg(r:Rx):Int:=(CK r 1 0).2
theorem Oi(r:Rx)(hs:sz r<=1048576):aC tbl sL [.d .rx r] [] oG (mg r,()):=by refine ap rfl (aA PY rfl (λO m=>bK (FL O m r)) ?_);unfold FL;exact aj (Oj r hs 1 0 (by simp) (by simp) (by simp) (by simp)) (aa rfl)
theorem OB(r:Rx)(hs:sz r<=1048576):aC tbl sZ [.d .rx r] [] oK (mg r,()):=by refine ap rfl (aA Qj rfl (λO m=>bK (F6 O m r)) ?_);unfold F6;obtain⟨s,_,h⟩:=OD r hs 1 0 (by simp) (by simp) (by simp) (by simp);exact aj h (aa rfl)
theorem zcV:∀(r:Rx) (lv c:Int),(CK r lv c).2=0->dF r=true/\(CK r lv c).1=c+(sz r:Int):=by
 refine lA λk lo up ks p lv c h=>?_;have hs:∀(l:List Rx) (lv c:Int),(∀r∈l,r∈ks)->(iO l lv c).2=0->(∀r∈l,dF r=true)/\(iO l lv c).1=c+(Cx l:Int):=by
  intro l;induction l with
  |nil=>intro lv c _ _;exact⟨by simp,by simp[iO,Cx]⟩|cons r l f=>
   intro lv c hl h;simp only[iO]at h⊢;split at h;·omega
   ·rename_i d;rw[if_neg d];have d:(CK r lv c).2=0:=by omega
    obtain⟨g,e⟩:=p r (hl r (j_ ..)) lv c d;obtain⟨s,n⟩:=f lv _ (λx j=>hl x (k_ _ j)) h;refine⟨λx j=>?_,by rw[n,e];simp only[Cx];omega⟩;grind
 simp only[CK]at h⊢;split at h;·omega
 split at h;·omega
 split at h;·omega
 ·rename_i a b d;rw[if_neg a,if_neg b,if_neg d];obtain⟨g,e⟩:=hs ks (lv+1) (c+1) (λ_ h=>h) h;have d:gV k lo up ks.length=0:=by omega
  exact⟨well_iff.2 ⟨nodeE_zero.1 d,g⟩,by rw[e];simp only[sz];omega⟩
theorem QE{r:Rx}(h:mg r=0):dF r=true/\sz r<=64:=by obtain⟨a,b⟩:=zcV r 1 0 h;have:=Jb r 1 0 (by simp) (by simp);grind
theorem I2:∀(r:Rx),sz r<=1000000->aC tbl jl [.d .rx r] [] bF (VH r,()):=by
 refine lA λk lo up ks B hs=>?_;obtain⟨e,d⟩:=GU hs;refine ap rfl (aA JX rfl (λO m=>bK (zB O m (.mk k lo up ks))) ?_);unfold zB;refine ae (bb (N:=ks.length) (I:=λi s=>s=(Cu (ks.take i),Ct (ks.take i),(i:Int),())) (by simp[Cu,Ct]) (λi s c hs=>?_) λs hs=>?_)
 ·subst hs;unfold pd;refine a7 c (aG c ?_);rw[cP];have hr:=a_ c;refine aj (B ks[i] hr (by grind)) ?_;refine ae (bn (b:=VH ks[i]) (λ_=>aa rfl) (ae (ba (b:=VH ks[i]) (λ_=>aa rfl) (aa ?_))));have g:Cu (ks.take (i+1))=(Cu (ks.take i)||VH ks[i]):=by rw[l_,b_ c,VJ];simp[Cu]
  have h:Ct (ks.take (i+1))=(Ct (ks.take i)&&VH ks[i]):=by rw[l_,b_ c,VI];simp[Ct]
  rw[g,h,aB c (by omega)]
 ·subst hs;unfold pd;refine aU (aa ?_);rw[m_];show Wp _ _;have hn:VH (.mk k lo up ks)=bif k==0||k==5||k==7 then true else bif k==3||k==6 then Ct ks else bif k==4 then Cu ks else false:=rfl;rw[hn];show Wp (λ_=>d_ (bif (k==(0:Int))then some (((k==(0:Int)),()))else bif (k==(5:Int))then some (((k==(5:Int)),()))else some (((k==(7:Int)),()))) _) _;by_cases v:k=0;·subst v;exact eK (λ_=>rfl) rfl
  by_cases y:k=5;·subst y;exact eK (λ_=>rfl) rfl
  by_cases A:k=7;·subst A;exact eK (λ_=>rfl) rfl
  by_cases w:k=3;·subst w;exact eK (λ_=>rfl) rfl
  by_cases z:k=6;·subst z;exact eK (λ_=>rfl) rfl
  by_cases x:k=4;·subst x;exact eK (λ_=>rfl) rfl
  have f:(k==(0:Int))=false:=by grind
  have j:(k==(3:Int))=false:=by grind
  have l:(k==(4:Int))=false:=by grind
  have n:(k==(5:Int))=false:=by grind
  have p:(k==(6:Int))=false:=by grind
  have u:(k==(7:Int))=false:=by grind
  refine eK (a:=some (kh bF (false,()))) (λ_=>?_) ?_;·show d_ (bif (k==(0:Int))then some (((k==(0:Int)),()))else bif (k==(5:Int))then some (((k==(5:Int)),()))else some (((k==(7:Int)),()))) (λC=>bif C.1 then aw bF (true,())else d_ (bif (k==(3:Int))then some (((k==(3:Int)),()))else some (((k==(6:Int)),()))) λD=>bif D.1 then aw bF (Ct ks,())else bif (k==(4:Int))then aw bF (Cu ks,())else aw bF (false,()))=_;rw[f,n,u,j,p,l];rfl
  grind
open Go Go.Av Go.Ev Go.Pl Go.Lib
theorem zgf{n:Int}(c:0<=n)(d:n<=4294967295):aC tbl mc [.d tI n] [] wI (decDigits n.toNat,()):=by
 refine I9 N4 ?_ rfl;have a:zfq n=true:=by simp only[zfq,x_,decide_eq_true_eq];omega
 have b:Lib.itoa n=decDigits n.toNat:=by unfold Lib.itoa;grind
 simp only[EB,a,cond_true,b];rfl
theorem IY{n:Int}(a:0<=n)(b:n<=4294967295):aC tbl g9 [.d tI n] [] fz (decDigits n.toNat,()):=by refine ap rfl (aA Lr rfl (λO k=>bK (BX O k n)) ?_);unfold BX;exact aj (zgf a b) (aa rfl)
theorem zcu:∀(n:Nat) (m:Int),m=(n:Int)->n<=4294967295->aC tbl jk [.d tQ m] [] fc (decDigits n,()):=by
 intro n;induction n using Nat.strongRecOn with
 |ind n h=>
  intro m g hn;subst g;refine ap rfl (aA NW rfl (λO k=>bK (C2 O k (n:Int))) ?_);unfold C2;have c:c_ .u8 (c_ .u64 ((48:Int)+(Int.tmod (n:Int) (10:Int))))=((48+n%10:Nat):Int):=by rw[wrap_u8,wrap_u64,Int.tmod_eq_emod_of_nonneg (by simp)];omega
  refine aD rfl ?_;refine ao (λf=>?_) (λe=>?_)
  ·have a:n<10:=by grind
   refine aa ?_;have:decDigits n=[UInt8.ofNat (48+n)]:=by rw[decDigits,dif_pos a]
   grind
  ·have b:10<=n:=by grind
   have d:c_ .u64 (Int.tdiv (n:Int) 10)=((n/10:Nat):Int):=by rw[wrap_u64,K_ (by simp)];omega
   have hl:=pn (show n/10<=4294967295 by omega);refine aD rfl (aj (h (n/10) (by omega) _ d (by omega)) (aD ?_ (aa ?_)));·grind
   ·rw[c];have:decDigits n=decDigits (n/10)++[UInt8.ofNat (48+n%10)]:=by conv=>lhs;rw[decDigits,dif_neg (by omega)]
    rw[this];rfl
theorem Aq{n:Int}(b:0<=n)(c:n<=4294967295):aC tbl hH [.d tI n] [] d5 (decDigits n.toNat,()):=by refine ap rfl (aA Lx rfl (λO k=>bK (B3 O k n)) ?_);unfold B3;refine ao (λa=>absurd (of_decide_eq_true a) (by omega)) (λ_=>?_);exact aj (zcu n.toNat _ (by rw[wrap_u64];omega) (by omega)) (aa rfl)
theorem zev(ks:List Rx)(i:Nat):Cx (ks.take i)<=Cx ks:=by have:=S4 (ks.take i) (ks.drop i);rw[B_]at this;omega
theorem zam(p:Int){x:Rx}(a:dF x=true):(pY p x).length+1<=26*sz x:=by have:=zan p x;have:=LU x a;omega
theorem zeu(p:Int):∀l:List Rx,(∀x∈l,dF x=true)->((l.map (pY p)).map λx=>x.length+1).sum<=26*Cx l
 |[],_=>by simp
 |r::l,h=>by have b:=zam p (h r (j_ ..));have c:=zeu p l λx a=>h x (k_ _ a);simp only[N_,ac_,Cx]at*;omega
theorem zh5(c:UInt8)(p:Int)(l:List Rx)(h:∀x∈l,dF x=true):(jn c (l.map (pY p))).length<=26*Cx l:=X_ (Sz c _) (zeu p l h)
theorem zp{α β:Type}(f:α->β){l:List α}{i:Nat}(h:i<l.length):(l.take (i+1)).map f=(l.take i).map f++[f l[i]]:=by rw[l_,b_ h,v_];rfl
theorem BR(k:Int):aC tbl kw [.d tI k] [] io (k==5||k==6||k==7,()):=by refine ap rfl (aA LD rfl (λO m=>bK (B9 O m k)) ?_);unfold B9;cases(k==(5:Int))<;>cases(k==(6:Int))<;>exact eK (λ_=>rfl) rfl
theorem Kv(ks:List Rx):decide ((ks.length:Int)>0)= !ks.isEmpty:=by cases ks with|nil=>rfl|cons x l=>simp
theorem WL(p k lo up:Int)(ks:List Rx):tV p (.mk k lo up ks)=bif k==4 then !ks.isEmpty else bif k==3 then p != 4 else(k==5||k==6||k==7)&&(p==5||p==6||p==7):=rfl
theorem KS(p:Int)(x:Rx):aC tbl oX [.d tI p,.d .rx x] [] fC (tV p x,()):=by
 obtain⟨k,lo,up,ks⟩:=x;refine ap rfl (aA LE rfl (λO m=>bK (Ca O m p (.mk k lo up ks))) ?_);unfold Ca;rw[WL];refine ao (λh=>aa ?_) λh=>?_;·have h:(k==4)=true:=h;rw[h,cond_true,<-Kv];rfl
 have h:(k==4)=false:=h;rw[h,cond_false];refine ao (λh=>aa ?_) λh=>?_;·have h:(k==3)=true:=h;grind
 have h:(k==3)=false:=h;rw[h,cond_false];refine aj (BR k) (ae (ba (b:=(p==5||p==6||p==7)) (λ_=>aj (BR p) (aa rfl)) (aa rfl)))
theorem Vi(p:Int)(x:Rx)(hl:(jf x).length<=1000000)(h:aC tbl iC [.d .rx x] [] eW (jf x,())):aC tbl gq [.d tI p,.d .rx x] [] dJ (pY p x,()):=by
 refine ap rfl (aA Qo rfl (λO m=>bK (Gb O m p x)) ?_);unfold Gb;refine aj h (aj (KS p x) (ao (λa=>aD (decide_eq_true ?_) (aD (decide_eq_true ?_) (aa ?_))) λa=>aa ?_));·grind
 ·grind
 ·have a:tV p x=true:=a;unfold pY;rw[a];rfl
 ·have a:tV p x=false:=a;unfold pY;rw[a];rfl
theorem Rl(k lo up:Int)(ks:List Rx)(c:UInt8)(f:∀x∈ks,dF x=true)(w:Cx ks<=1000)(h:∀x∈ks,aC tbl iC [.d .rx x] [] eW (jf x,())): Wp (λn=>aL n (qt (s5 tbl n) n (.mk k lo up ks) ([c],())) (([]:List UInt8),(0:Int),())) λt=>t=(jn c (ks.map (pY k)),()):=by
 have g:=IE ks;refine bb (N:=ks.length) (I:=λi s=>s=(jn c ((ks.take i).map (pY k)),(i:Int),())) rfl ?_ ?_
 ·rintro i s b rfl;have d:=a_ b;have u:=zh5 c k (ks.take i) λx r=>f x (G_ r);have p:=zev ks i;have j:=zam k (f _ d);have l:=vE d;have hp:=LU _ (f _ d);unfold qt;refine a7 b (aG b ?_);have hc:=Vi k ks[i] (by omega) (h _ d);rw[zp _ b,SA];refine ae (Ev.wp_mono (Q:=λv=>v=((if(ks.take i).map (pY k)=[]then []else jn c ((ks.take i).map (pY k))++[c]),ks[i].out.1,ks[i].out.2.1,ks[i].out.2.2.1,ks[i].out.2.2.2.1,())) (ao (λa=>aD (decide_eq_true ?_) (aa ?_)) λa=>aa ?_) ?_);·grind
  ·have a:(i:Int)>0:=of_decide_eq_true a;rw[if_neg (by intro e;have:=congrArg ag_ e;grind)];rfl
  ·have a:¬(i:Int)>0:=of_decide_eq_false a;have:i=0:=by omega
   subst this;rfl
  rintro v rfl;rw[cP];refine aj hc (aD (decide_eq_true ?_) (aa ?_));·grind
  ·show(_,c_ .i64 ((i:Int)+1),())=_;rw[aB b (by omega)];grind
 ·rintro s rfl;unfold qt;rw[m_];exact aU (aa rfl)
theorem RH:∀(r:Rx),dF r=true->sz r<=1000->aC tbl iC [.d .rx r] [] eW (jf r,()):=by
 refine lA λk lo up ks l j hs=>?_;obtain⟨nd,a⟩:=well_iff.1 j;have hsz:Cx ks<=1000:=by simp only[sz]at hs;omega
 have c:∀x∈ks,aC tbl iC [.d .rx x] [] eW (jf x,()):=λx b=>l x b (a x b) (by have:=vE b;omega);refine ap rfl (aA Tl rfl (λO m=>bK (Hy O m (.mk k lo up ks))) ?_);unfold Hy;have one:∀x,ks=[x]->∀p:Int,aC tbl gq [.d tI p,.d .rx x] [] dJ (pY p x,())/\(pY p x).length<=26000:=λx e p=>by
  have b:x∈ks:=by grind
  have s:=LU x (a x b);have u:=vE b;have v:=zam p (a x b);exact⟨Vi p x (by omega) (c x b),by omega⟩
 rcases nd.known with rfl|rfl|rfl|rfl|rfl|rfl|rfl|rfl;·refine ae (aF rfl (aa (aa ?_)));simp[jf]
 ·obtain⟨r1,r2,r3⟩:=nd.rng rfl;refine ae (an rfl (an rfl (aF rfl (ao (λh=>?_) λh=>?_))))
  ·have h:(lo==up)=true:=h;have h:lo=up:=by grind
   subst h;refine aj (IY (n:=lo) r1 r3) (aa (aa ?_));simp[jf]
  ·have h:(lo==up)=false:=h;have h:lo≠up:=by grind
   have l1:=pn (n:=lo.toNat) (by omega);have l2:=pn (n:=up.toNat) (by omega);refine aj (IY (n:=lo) r1 (by omega)) (aD (decide_eq_true ?_) (aD (decide_eq_true ?_) (aj (IY (n:=up) (by omega) r3) (aD (decide_eq_true ?_) (aD (decide_eq_true ?_) (aa (aa ?_)))))));·grind
   ·grind
   ·grind
   ·grind
   ·simp[jf,h]
 ·refine ae (an rfl (aF rfl (aa (aa ?_))));simp[jf]
 ·obtain⟨rfl,rfl⟩:=nd.zero (by simp);refine ae (an rfl (an rfl (an rfl (an rfl (an rfl (an rfl (an rfl (aa ?_))))))));refine ae (Ev.wp_mono (Rl 3 0 0 ks 32 a hsz c) ?_);rintro t rfl;refine aa ?_;simp[jf,eu]
 ·obtain⟨rfl,rfl⟩:=nd.zero (by simp);refine ae (an rfl (an rfl (an rfl (an rfl (an rfl (an rfl (aF rfl (ao (λh=>aa (aa ?_)) λh=>aa ?_))))))));·have h:((ks.length:Int)==0)=true:=h;have h:=len_nil (by simpa using h);subst h;simp[jf]
  ·have h:((ks.length:Int)==0)=false:=h;have f:ks≠[]:=by grind
   refine ae (Ev.wp_mono (Rl 4 0 0 ks 124 a hsz c) ?_);rintro t rfl;refine aa ?_;simp[jf,eu,f]
 ·obtain⟨rfl,rfl⟩:=nd.zero (by simp);obtain⟨x,rfl⟩:=q8 (nd.one (by simp));obtain⟨d,g⟩:=one x rfl 5;refine ae (an rfl (an rfl (an rfl (aF rfl (i6 (by simp) rfl (aj d (aD (decide_eq_true ?_) (aa (aa ?_)))))))));·grind
  ·simp[jf,eu]
 ·obtain⟨rfl,rfl⟩:=nd.zero (by simp);obtain⟨x,rfl⟩:=q8 (nd.one (by simp));obtain⟨d,g⟩:=one x rfl 6;refine ae (an rfl (an rfl (an rfl (an rfl (aF rfl (i6 (by simp) rfl (aj d (aD (decide_eq_true ?_) (aa (aa ?_))))))))));·grind
  ·simp[jf,eu]
 ·obtain⟨rfl,rfl⟩:=nd.zero (by simp);obtain⟨x,rfl⟩:=q8 (nd.one (by simp));obtain⟨d,g⟩:=one x rfl 7;refine ae (an rfl (an rfl (an rfl (an rfl (an rfl (aF rfl (i6 (by simp) rfl (aj d (aD (decide_eq_true ?_) (aa (aa ?_)))))))))));·grind
  ·simp[jf,eu]
theorem OC(r:Rx)(hs:sz r<=1048576):aC tbl kK [.d .rx r] [] iW (if mg r=0 then jf r else [],mg r,()):=by
 refine ap rfl (aA Qm rfl (λO m=>bK (F9 O m r)) ?_);unfold F9;refine aj (OB r hs) (ao (λh=>aa ?_) λh=>?_);·grind
 ·have h:mg r=0:=by grind
  obtain⟨a,b⟩:=QE h;refine aj (RH r a (by omega)) (aa ?_);grind
theorem I3(p x:Rx):aC tbl mT [.d .rx p,.d .rx x] [] dD (tV p.out.1 x,()):=by
 obtain⟨k,lo,up,ks⟩:=x;refine ap rfl (aA JY rfl (λO m=>bK (zD O m p (.mk k lo up ks))) ?_);unfold zD;generalize p.out.1=q;refine ae (bn (b:=(q==6)) (λ_=>aa rfl) (ae (bn (b:=(q==7)) (λ_=>aa rfl) ?_)));rw[WL];refine ao (λh=>aa ?_) λh=>?_;·have h:(k==3)=true:=h;grind
 have a:(k==3)=false:=h;refine ao (λh=>aa ?_) λh=>?_;·have h:(k==4)=true:=h;rw[h,cond_true,<-Kv];rfl
 have c:(k==4)=false:=h;rw[a,c,cond_false,cond_false];refine ae (Ev.wp_mono (Q:=λv=>v=(k==5||k==6||k==7,())) (ao (λh=>aa ?_) λh=>ao (λh'=>aa ?_) λh'=>aa ?_) ?_);·have h:(k==5)=true:=h;grind
 ·have h:(k==5)=false:=h;have h':(k==6)=true:=h';grind
 ·have h:(k==5)=false:=h;have h':(k==6)=false:=h';show((k==7),())=_;grind
 rintro v rfl;refine ao (λh=>aa ?_) λh=>aa ?_;all_goals grind
theorem NM(f:List UInt8->Nat):∀(l:List (List UInt8)) (i:Nat),((l.take i).map f).sum<=(l.map f).sum
 |[],i=>by simp
 |x::l,0=>by simp
 |x::l,i+1=>by have:=NM f l i;grind
theorem CR(l:List (List UInt8))(c:UInt8)(hl:(l.map λx=>x.length+1).sum<=1000000):aC tbl l9 [.d (.list tS) l,.d tS [c]] [] jB (jn c l,()):=by
 refine ap rfl (aA NY rfl (λO m=>bK (C4 O m l [c])) ?_);unfold C4;have f:l.length<=(l.map λx=>x.length+1).sum:=by clear hl;induction l with|nil=>simp|cons x l n=>grind
 refine ae (Ev.wp_mono (Q:=λt=>t=(jn c l,())) (bb (N:=l.length) (I:=λi s=>s=(jn c (l.take i),(i:Int),())) rfl ?_ ?_) ?_)
 ·rintro i s b rfl;have j:=Sz c (l.take i);have k:=NM (λx=>x.length+1) l i;have d:=NM (λx=>x.length+1) l (i+1);have g:=zp (λx:List UInt8=>x.length+1) b;rw[g,List.sum_append]at d;simp only[ac_,List.sum_nil]at d;have h:l.take (i+1)=l.take i++[l[i]]:=by simp
  unfold rY;refine a7 b (aG b ?_);rw[h,SA];refine ae (Ev.wp_mono (Q:=λv=>v=((if l.take i=[]then []else jn c (l.take i)++[c]),())) (ao (λa=>aD (decide_eq_true ?_) (aa ?_)) λa=>aa ?_) ?_);·grind
  ·have a:(i:Int)>0:=of_decide_eq_true a;rw[if_neg (by intro e;have:=congrArg ag_ e;grind)]
  ·have a:¬(i:Int)>0:=of_decide_eq_false a;have:i=0:=by omega
   subst this;rfl
  rintro v rfl;refine aD (decide_eq_true ?_) (aa ?_);·grind
  ·show(_,c_ .i64 ((i:Int)+1),())=_;rw[aB b (by omega)];grind
 ·rintro s rfl;unfold rY;rw[m_];exact aU (aa rfl)
 ·rintro t rfl;exact aa rfl
theorem SL(k lo up:Int)(ks:List Rx)(f:∀x∈ks,dF x=true)(g:Cx ks<=1000)(h:∀x∈ks,aC tbl fw [.d .rx x] [] br (jf x,())): Wp (λn=>aL n (lC (s5 tbl n) n (.mk k lo up ks)) ((0:Int),([]:List (List UInt8)),())) λt=>t=(ks.map (pY k),()):=by
 have d:=IE ks;refine bb (N:=ks.length) (I:=λi s=>s=((i:Int),(ks.take i).map (pY k),())) rfl ?_ ?_
 ·rintro i s b rfl;have c:=a_ b;have e:=vE c;have hp:=LU _ (f _ c);unfold lC;refine a7 b (aG b ?_);rw[cP,zp _ b];refine aj (h _ c) (ae (Ev.wp_mono (Q:=λv=>v=(pY k ks[i],(ks.take i).map (pY k),())) (aj (I3 (.mk k lo up ks) ks[i]) (ao (λa=>aD (decide_eq_true ?_) (aD (decide_eq_true ?_) (aa ?_))) λa=>aa ?_)) ?_));·show 1+(jf ks[i]).length<=_;omega
  ·show(jf ks[i]).length+1+1<=_;omega
  ·have a:tV k ks[i]=true:=a;unfold pY;rw[a];rfl
  ·have a:tV k ks[i]=false:=a;unfold pY;rw[a];rfl
  rintro v rfl;refine aD (decide_eq_true ?_) (aa ?_);·grind
  ·show(c_ .i64 ((i:Int)+1),_)=_;rw[aB b (by omega)]
 ·rintro s rfl;unfold lC;rw[m_];exact aU (aa rfl)
theorem KR:∀(r:Rx),dF r=true->sz r<=1000->aC tbl fw [.d .rx r] [] br (jf r,()):=by
 refine lA λk lo up ks l j hs=>?_;obtain⟨nd,a⟩:=well_iff.1 j;have hsz:Cx ks<=1000:=by simp only[sz]at hs;omega
 have d:∀x∈ks,aC tbl fw [.d .rx x] [] br (jf x,()):=λx b=>l x b (a x b) (by have:=vE b;omega);refine ap rfl (aA Ly rfl (λO m=>bK (B4 O m (.mk k lo up ks))) ?_);unfold B4;refine ae (Ev.wp_mono (SL k lo up ks a hsz d) ?_);rintro t rfl;have g:=zeu k ks a;have one:∀x,ks=[x]->∀p:Int,(pY p x).length<=26000:=λx e p=>by
  have b:x∈ks:=by grind
  have s:=vE b;have u:=zam p (a x b);omega
 rcases nd.known with rfl|rfl|rfl|rfl|rfl|rfl|rfl|rfl;·refine aF rfl (aa ?_);simp[jf]
 ·obtain⟨r1,r2,r3⟩:=nd.rng rfl;refine an rfl (aF rfl (ao (λh=>?_) λh=>?_))
  ·have h:(lo==up)=true:=h;have h:lo=up:=by grind
   subst h;refine aj (Aq (n:=lo) r1 r3) (aa ?_);simp[jf]
  ·have h:(lo==up)=false:=h;have h:lo≠up:=by grind
   have l1:=pn (n:=lo.toNat) (by omega);have l2:=pn (n:=up.toNat) (by omega);refine aj (Aq (n:=lo) r1 (by omega)) (aD (decide_eq_true ?_) (aD (decide_eq_true ?_) (aj (Aq (n:=up) (by omega) r3) (aD (decide_eq_true ?_) (aD (decide_eq_true ?_) (aa ?_))))));·grind
   ·grind
   ·grind
   ·grind
   ·simp[jf,h]
 ·refine an rfl (an rfl (aF rfl (aa ?_)));simp[jf]
 ·obtain⟨rfl,rfl⟩:=nd.zero (by simp);refine an rfl (an rfl (an rfl (aF rfl (aj (CR (ks.map (pY 3)) 32 (by omega)) (aa ?_)))));simp[jf,eu]
 ·obtain⟨rfl,rfl⟩:=nd.zero (by simp);refine an rfl (an rfl (an rfl (an rfl (aF rfl (ao (λh=>aa ?_) λh=>aj (CR (ks.map (pY 4)) 124 (by omega)) (aa ?_))))));·have h:(((ks.map (pY 4)).length:Int)==0)=true:=h;rw[e_]at h;have h:=len_nil (by simpa using h);subst h;simp[jf]
  ·have h:(((ks.map (pY 4)).length:Int)==0)=false:=h;have c:ks≠[]:=by grind
   simp[jf,eu,c]
 ·obtain⟨rfl,rfl⟩:=nd.zero (by simp);obtain⟨x,rfl⟩:=q8 (nd.one (by simp));have f:=one x rfl 5;refine an rfl (an rfl (an rfl (an rfl (an rfl (aF rfl (i6 (by simp) rfl (mP rfl (aD (decide_eq_true ?_) (aa ?_)))))))));·grind
  ·simp[jf,eu]
 ·obtain⟨rfl,rfl⟩:=nd.zero (by simp);obtain⟨x,rfl⟩:=q8 (nd.one (by simp));have f:=one x rfl 6;refine an rfl (an rfl (an rfl (an rfl (an rfl (an rfl (aF rfl (i6 (by simp) rfl (mP rfl (aD (decide_eq_true ?_) (aa ?_))))))))));·grind
  ·simp[jf,eu]
 ·obtain⟨rfl,rfl⟩:=nd.zero (by simp);obtain⟨x,rfl⟩:=q8 (nd.one (by simp));have f:=one x rfl 7;refine an rfl (an rfl (an rfl (an rfl (an rfl (an rfl (an rfl (i6 (by simp) rfl (mP rfl (aD (decide_eq_true ?_) (aa ?_))))))))));·grind
  ·simp[jf,eu]
end Go.Proofs.YtmfolppncelceaaGreatDoor
namespace Go.Ev
open Go Go.RowKit Go.Av
section
variable {tbl:Nat->Option Fun'}
def ef(tbl:Nat->Option Fun')(f:Nat)(ars:List V)(os:List Ob)(sh:Sh)(o:Option (HL sh.sl)):Prop:=∃a,∀n,a<=n->lO (s5 tbl n) f ars os sh=some o
theorem QA{f:Nat}{ars:List V}{os:List Ob}{sh:Sh}{R:Option (HL sh.sl)->Prop}(hp:∀c,DY sh (kh sh c)=some c)(h:Conv tbl f ars os λo=>∃c:Option (HL sh.sl),o=c.map (kh sh)/\R c):∃o,R o/\ef tbl f ars os sh o:=by obtain⟨o,⟨c,rfl,hr⟩,b,hn⟩:=h;refine⟨c,hr,b,λn a=>?_⟩;have e:=hn n a;unfold lO;have e:s5 tbl n f ars os=_:=e;cases c with|none=>grind|some c=>rw[e];have:=hp c;unfold DY at this;grind
theorem vH{f:Nat}{ars:List V}{os:List Ob}{sh:Sh}{o:Option (HL sh.sl)}(hp:∀c,DY sh (kh sh c)=some c)(h:Conv tbl f ars os (·=o.map (kh sh))):ef tbl f ars os sh o:=by obtain⟨o',rfl,b⟩:=QA (R:=λc=>c=o) hp (zbo h λx a=>⟨o,a,rfl⟩);omega
theorem jE{f:Nat}{ars:List V}{os:List Ob}{sh:Sh}{β:Type}{k:Nat->Option (HL sh.sl)->Option β}{Q:β->Prop}{o:Option (HL sh.sl)}(h:ef tbl f ars os sh o)(a:Wp (λn=>k n o) Q):Wp (λn=>d_ (lO (s5 tbl n) f ars os sh) (k n)) Q:=by obtain⟨b,hn⟩:=h;exact ae ⟨o,a,b,hn⟩
end
end Go.Ev
namespace Go.Proofs.YtmfolppncelceaaGreatDoor
open Go Go.Av Go.Ev Go.Pl Go.Lib
theorem Tx(s:List UInt8)(hs:s.length<=1048576):∃c:Bool×Unit,((∀n,s=decDigits n->c=(true,()))/\(c.1=true->s≠[]))/\aC tbl lG [.d tS s] [] cW c:=by
 refine om (sh:=cW) (λ_=>rfl) (aA II rfl (λO k=>bK (xj O k s)) ?_);unfold xj;refine ae (bn (b:=decide ((s.length:Int)>(1:Int))&&(((s.getD 0 0).toNat:Int)==(48:Int))) (λg=>ae (ba (b:=(((s.getD 0 0).toNat:Int)==(48:Int))) (λj=>?_) (aa rfl))) ?_)
 ·have hl:1<s.length:=by grind
  refine i6 (x:=s.getD 0 0) (af_ _) ?_ (aa rfl);grind
 ·refine ao (λh=>aa ⟨(false,()),rfl,λn hn=>?_,λh=>by grind⟩) (λh=>?_);·exfalso;have hp:=Mv n;have p:=zbq n;grind
  ·have d:s≠[]:=by grind
   refine ae (Wp.imp (Q:=λr=>match r with| .inl v=>v.1=false/\∀n,s≠decDigits n| .inr _=>True) (bb (N:=s.length) (I:=λi st=>st=((i:Int),())) rfl (λi st e a=>?_) λst a=>?_) λr hr=>?_)
   ·subst a;unfold nu;have f:=b_ e;refine ao (λ_=>?_) (λh=>absurd h (by grind));refine i6 (y_ _) f ?_;refine ae (bn (b:=decide ((s[i].toNat:Int)>(57:Int))) (λ_=>i6 (y_ _) f (aa rfl)) ?_);refine ao (λl=>aa ⟨rfl,λn hn=>?_⟩) (λ_=>aa ?_);·have:=HR n s[i] (by grind);unfold M5 at this;grind
    ·simp only;rw[aB e (by omega)]
   ·subst a;unfold nu;exact ao (λh=>absurd h (by simp)) λ_=>aa trivial
   ·cases r with|inl v=>exact aa ⟨_,rfl,λn hn=>absurd hn (hr.2 n),λ_=>d⟩|inr v=>exact aa ⟨_,rfl,λ_ _=>rfl,λ_=>d⟩
theorem zcq(s:List UInt8)(hs:s.length<=1048576):∃c:Int×Int×Unit,((∀m:Nat,m<=4294967295->s=decDigits m->c=((m:Int),(0:Int),()))/\(c.2.1=0->s≠[]))/\aC tbl l6 [.d tS s,.d tI (4294967295:Int)] [] dh c:=by
 obtain⟨L,⟨H,z⟩,b⟩:=Tx s hs;refine om (sh:=dh) (λ_=>rfl) (aA NP rfl (λO k=>bK (CV O k s 4294967295)) ?_);unfold CV;refine aj b (ao (λh=>aa ⟨_,rfl,λm a hn=>?_,λM=>by grind⟩) (λhc=>?_));·grind
 have d:s≠[]:=z (by grind);refine ae (Wp.imp (Q:=λr=>match r with| .inl v=>∀m:Nat,m<=4294967295->s≠decDigits m| .inr v=>∀m:Nat,m<=4294967295->s=decDigits m->v.1=m) (bb (N:=s.length) (I:=λi st=>st.2.1=(i:Int)/\∀m:Nat,m<=4294967295->s=decDigits m->st.1=(sD (s.take i):Int)) ⟨rfl,λ_ _ _=>rfl⟩ (λi st A f=>?_) λst f=>?_) λr hr=>?_)
 ·obtain⟨n,j,_⟩:=st;obtain⟨g,p⟩:=f;simp only at g p;subst g;unfold rS;have J:=b_ A;have D:∀m:Nat,m<=4294967295->s=decDigits m->n=(sD (s.take i):Int)/\sD (s.take i)<=4294967295/\M5 s[i]/\sD (s.take (i+1))<=4294967295/\sD (s.take (i+1))=10*sD (s.take i)+(s[i].toNat - 48):=λm a hn=>by
   have P:sD s=m:=by rw[hn,HS]
   have hd:M5 s[i]:=HR m s[i] (by grind);have e:s.getD i 0=s[i]:=by grind
   exact⟨p m a hn,by have:=J5 (l:=s) (k:=i) (by omega);omega,hd,by have:=J5 (l:=s) (k:=i+1) (by omega);omega,by rw[takeD A,EJ,e]⟩
  have w:M5 s[i]->c_ .i64 (c_ .u8 ((s[i].toNat:Int) - 48))=((s[i].toNat - 48:Nat):Int):=λh=>by unfold M5 at h;rw[wrap_u8,wrap_i64 (by omega) (by omega)];omega
  refine ao (λ_=>?_) (λh=>absurd h (by grind));refine i6 (y_ _) J ?_;refine aD rfl (ao (λC=>aa λm a hn=>?_) (λ_=>aa ⟨?_,λm a hn=>?_⟩));·obtain⟨y,E,x,F,B⟩:=D m a hn;have u:=of_decide_eq_true C;rw[w x,y]at u;unfold M5 at x;rw[wrap_i64 (n:=9223372036854775807 - ((s[i].toNat - 48:Nat):Int)) (by omega) (by omega),K_ (by omega),wrap_i64 (by omega) (by omega)]at u;omega
  ·simp only;rw[aB A (by omega)]
  ·obtain⟨y,E,x,F,B⟩:=D m a hn;simp only;rw[w x,y,wrap_i64 (n:=10*((sD (s.take i):Nat):Int)) (by omega) (by omega),wrap_i64 (by omega) (by omega),B];simp
 ·obtain⟨n,j,_⟩:=st;obtain⟨g,p⟩:=f;simp only at g p;subst g;unfold rS;refine ao (λh=>absurd h (by simp)) λ_=>aa λm a hn=>?_;simp only;rw[p m a hn,g_ (p_ _),hn,HS]
 ·cases r with|inl v=>exact aa ⟨_,rfl,λm a hn=>absurd hn (hr m a),λ_=>d⟩|inr v=>refine ao (λC=>aa ⟨_,rfl,λm a hn=>?_,λ_=>d⟩) (λ_=>aa ⟨_,rfl,λm a hn=>?_,λ_=>d⟩);all_goals grind
theorem CM(s:List UInt8)(i:Nat):aC tbl bl [.ptr 0 0] [.box aH [.d tS s,.d tI (i:Int)]] a6 ((pk s i:Int),s,(i:Int),()):=by
 refine ap rfl (aA CJ rfl (λO m=>bK (rF O m s (i:Int))) ?_);unfold rF;refine ao (λh=>?_) λh=>aa ?_
 ·have h:i<s.length:=by grind
  refine aG h (aa ?_);rw[Nu h]
 ·have h:¬i<s.length:=by grind
  rw[zdQ h];rfl
structure Run(s:List UInt8)(i j:Nat):Prop where
 le:i<=j
 top:j<=s.length
 all:∀k,i<=k->k<j->dg (pk s k)
theorem SR{s:List UInt8}{i j m:Nat}{t:List UInt8}(h:Run s i j)(p:¬dg (pk s j))(a:s.drop i=decDigits m++t)(u:¬dg (hd t)):j=i+(decDigits m).length/\(s.take j).drop i=decDigits m:=by
 have n:∀k,i<=k->k<i+(decDigits m).length->dg (pk s k):=λk f g=>by
  have hl:k - i<(decDigits m).length:=by omega
  have e:s[k]? =some (decDigits m)[k - i]:=by
   have c:(s.drop i)[k - i]? =s[k]? :=by rw[List.getElem?_drop];congr 1;omega
   grind
  have d:=HR m _ (a_ hl);unfold pk;rw[Y_,e];exact d
 have c:¬dg (pk s (i+(decDigits m).length)):=by rw[rb,kB a];omega
 have r:j=i+(decDigits m).length:=by
  apply h_;intro hn;have:=h.le;rcases Nat.lt_or_gt_of_ne hn with l|b;·grind
  ·exact c (h.all _ (by simp) b)
 grind
theorem zcy(s:List UInt8)(hs:s.length<=1048576)(i:Nat)(u:i<=s.length):∃o:Option (Int×Nat),(∀n j,o=some (n,j)->i<j/\j<=s.length)/\(∀(m:Nat) t,s.drop i=decDigits m++t->m<=4294967295->¬dg (hd t)->o=some ((m:Int),i+(decDigits m).length))/\ef tbl bc [.ptr 0 0] [.box aH [.d tS s,.d tI (i:Int)]] q_regex_parser_number_r (o.map λx=>(x.1,s,(x.2:Int),())):=by
 suffices h:∃v:Option (HL q_regex_parser_number_r.sl),(∃o:Option (Int×Nat),v=o.map (λx=>(x.1,s,(x.2:Int),()))/\(∀n j,o=some (n,j)->i<j/\j<=s.length)/\(∀(m:Nat) t,s.drop i=decDigits m++t->m<=4294967295->¬dg (hd t)->o=some ((m:Int),i+(decDigits m).length)))/\ef tbl bc [.ptr 0 0] [.box aH [.d tS s,.d tI (i:Int)]] q_regex_parser_number_r v by
  obtain⟨v,⟨o,rfl,b,d⟩,r⟩:=h
  exact⟨o,b,d,r⟩
 refine QA (λ_=>rfl) (aA Ah rfl (λO m=>bK (pK O m s (i:Int))) ?_);unfold pK;refine ae (Ev.wp_mono (Ev.wp_loop (Q:=λt=>∃j:Nat,t=(s,(j:Int),())/\Run s i j/\¬dg (pk s j)) (λt=>∃j:Nat,t=(s,(j:Int),())/\Run s i j) (λt=>s.length - t.2.1.toNat) ⟨i,rfl,⟨p_ _,u,λk b d=>absurd d (by omega)⟩⟩ ?_) ?_)
 ·rintro t ⟨j,rfl,hr⟩;unfold nj;refine aj (CM s j) (ao (λh=>?_) λh=>aa ⟨j,rfl,hr,?_⟩)
  ·have h:(pk s j:Int)>=48:=of_decide_eq_true h;have f:=dP (s:=s) (i:=j) (by omega);refine aj (CM s j) (ao (λh'=>aa ?_) λh'=>aa ⟨j,rfl,hr,?_⟩)
   ·have h':(pk s j:Int)<=57:=of_decide_eq_true h';refine⟨⟨j+1,?_,⟨by have:=hr.le;omega,by omega,λk b d=>?_⟩⟩,?_⟩;·show(s,c_ .i64 ((j:Int)+1),())=_;rw[aB f (by omega)]
    ·by_cases e:k=j;·subst e;exact⟨by omega,by omega⟩
     ·exact hr.all k b (by omega)
    ·show s.length - (c_ .i64 ((j:Int)+1)).toNat<s.length - (j:Int).toNat;rw[aB f (by omega)];omega
   ·have h':¬(pk s j:Int)<=57:=of_decide_eq_false h';unfold Pl.dg;omega
  ·have h:¬(pk s j:Int)>=48:=of_decide_eq_false h;unfold Pl.dg;omega
 ·rintro t ⟨j,rfl,hr,l⟩;have b:=hr.le;have d:=hr.top;refine aD (decide_eq_true (by simp)) (aD (decide_eq_true (by simp)) (aD ?_ ?_));·grind
  show Wp (λn=>d_ (au (s5 tbl n) l6 [.d tS ((s.take (r_ (j:Int))).drop (r_ (i:Int))),.d tI (4294967295:Int)] [] dh) _) _;rw[i_,i_];obtain⟨c,⟨y,z⟩,hc⟩:=zcq ((s.take j).drop i) (by grind);refine aj (c:=c) hc (ae (ao (λh=>aa ?_) λh=>aa ?_))
  ·have h:c.2.1≠0:=by grind
   refine aa ⟨none,rfl,none,rfl,(λ_ _ h=>by grind),λm t a w g=>?_⟩;obtain⟨_,p⟩:=SR hr l a g;grind
  ·have h:c.2.1=0:=by grind
   refine aa ⟨some (c.1,s,(j:Int),()),rfl,some (c.1,j),rfl,?_,λm t a w g=>?_⟩;·grind
   ·obtain⟨A,p⟩:=SR hr l a g;grind
theorem zfZ(s:List UInt8)(hs:s.length<=1048576):∃num:Nat->Option (Int×Nat),NumOk s num/\∀i,i<=s.length->ef tbl bc [.ptr 0 0] [.box aH [.d tS s,.d tI (i:Int)]] q_regex_parser_number_r ((num i).map λx=>(x.1,s,(x.2:Int),())):=by
 have h:∀i:Nat,∃o:Option (Int×Nat),i<=s.length->(∀n j,o=some (n,j)->i<j/\j<=s.length)/\(∀(m:Nat) t,s.drop i=decDigits m++t->m<=4294967295->¬dg (hd t)->o=some ((m:Int),i+(decDigits m).length))/\ef tbl bc [.ptr 0 0] [.box aH [.d tS s,.d tI (i:Int)]] q_regex_parser_number_r (o.map λx=>(x.1,s,(x.2:Int),())):=λi=>by
  by_cases a:i<=s.length
  ·obtain⟨o,d⟩:=zcy s hs i a;grind
  ·exact⟨none,λh=>absurd h a⟩
 refine⟨λi=>C_ (h i),⟨λi n j a e=>?_,λi m t b c f=>?_⟩,λi a=>?_⟩;·grind
 ·have a:i<=s.length:=J_ (LK b (Mw m).1);grind
 grind
theorem Rv(s:List UInt8)(i:Nat)(c:Nat)(hc:c≠0)(hs:s.length<=1048576)(d:i<=s.length):aC tbl aS [.ptr 0 0,.d tY (c:Int)] [.box aI [.d tS s,.d tI (i:Int)]] aQ (decide (pk s i=c),s,((if pk s i=c then i+1 else i:Nat):Int),()):=by
 refine ap rfl (aA BG rfl (λO m=>bK (qg O m (c:Int) s (i:Int))) ?_);unfold qg;refine ae (ba (b:=decide (pk s i=c)) (λh=>?_) ?_)
 ·have h:i<s.length:=by grind
  refine aG h (aa ?_);rw[Nu h];grind
 ·by_cases e:pk s i=c;·have a:=dP (s:=s) (i:=i) (by omega);rw[decide_eq_true e,decide_eq_true (show(i:Int)<(s.length:Int) by omega),if_pos e];refine aF rfl (aa ?_);rw[aB a (by omega)]
  ·rw[decide_eq_false e,Bool.and_false,if_neg e];exact an rfl (aa rfl)
theorem WQ(s:List UInt8)(hs:s.length<=1048576)(i:Nat)(I:i<=s.length):∃(v:Int) (ok:Bool) (j:Nat),(i<=j/\j<=s.length/\(ok=true->i<j))/\(∀(m:Nat) t,s.drop i=decDigits m++t->m<=4294967295->¬dg (hd t)->v=(m:Int)/\ok=true/\j=i+(decDigits m).length)/\aC tbl bk [.ptr 0 0] [.box aI [.d tS s,.d tI (i:Int)]] q_ref15_parser_number_r (v,ok,s,(j:Int),()):=by
 suffices h:∃c:HL q_ref15_parser_number_r.sl,(∃(v:Int) (ok:Bool) (j:Nat),c=(v,ok,s,(j:Int),())/\(i<=j/\j<=s.length/\(ok=true->i<j))/\(∀(m:Nat) t,s.drop i=decDigits m++t->m<=4294967295->¬dg (hd t)->v=(m:Int)/\ok=true/\j=i+(decDigits m).length))/\aC tbl bk [.ptr 0 0] [.box aI [.d tS s,.d tI (i:Int)]] q_ref15_parser_number_r c by
  grind
 refine om (λ_=>rfl) (aA Ag rfl (λO m=>bK (pJ O m s (i:Int))) ?_);unfold pJ;refine ae (Ev.wp_mono (Ev.wp_loop (Q:=λr=>match r with
  | .inl t=>∃j:Nat,t=((0:Int),false,s,(j:Int),())/\(i<=j/\j<=s.length)/\∃k,Run s i k/\4294967295<sD ((s.take k).drop i)
  | .inr t=>∃j:Nat,t=((sD ((s.take j).drop i):Int),s,(j:Int),())/\Run s i j/\¬dg (pk s j))
  (λt=>∃j:Nat,t=((sD ((s.take j).drop i):Int),s,(j:Int),())/\Run s i j/\sD ((s.take j).drop i)<=4294967295) (λt=>s.length - t.2.2.1.toNat) ⟨i,?_,⟨p_ _,I,λk g u=>absurd u (by omega)⟩,?_⟩ ?_) ?_)
 ·rw[t_ (by grind)];rfl
 ·rw[t_ (by grind)];exact z_ _
 ·rintro t ⟨j,rfl,hr,z⟩;unfold ni;dsimp only;have g:=hr.le;have u:=hr.top;refine ae (ba (b:=decide (48<=pk s j)) (λh=>?_) ?_)
  ·have h:j<s.length:=by grind
   refine aG h (aa ?_);rw[Nu h];grind
  refine ae (ba (b:=decide (pk s j<=57)) (λh=>?_) ?_)
  ·have h:j<s.length:=by grind
   refine aG h (aa ?_);rw[Nu h];grind
  refine ao (λh=>?_) λh=>aa ⟨j,rfl,hr,?_⟩
  ·simp only[x_,decide_eq_true_eq]at h;obtain⟨⟨R,D⟩,E⟩:=h;have d:j<s.length:=by omega
   refine aG d ?_;have P:=Nu d;have x:c_ .i64 (c_ .u8 ((s[j].toNat:Int) - 48))=((s[j].toNat - 48:Nat):Int):=by rw[wrap_u8,wrap_i64 (by omega) (by omega)];omega
   have f:Run s i (j+1):=⟨by omega,by omega,λk N T=>by
    by_cases e:k=j;·subst e;exact⟨D,E⟩
    ·exact hr.all k N (by omega)⟩
   have w:sD ((s.take (j+1)).drop i)=10*sD ((s.take j).drop i)+(s[j].toNat - 48):=by rw[List.take_succ_eq_append_getElem d,List.drop_append_of_le_length (by grind),EJ]
   have C:c_ .i64 ((c_ .i64 ((10:Int)*((sD ((s.take j).drop i):Nat):Int)))+(c_ .i64 (c_ .u8 ((s[j].toNat:Int) - (48:Int)))))=((sD ((s.take (j+1)).drop i):Nat):Int):=by rw[x,wrap_i64 (n:=10*((sD ((s.take j).drop i):Nat):Int)) (by omega) (by omega),wrap_i64 (by omega) (by omega),w];simp
   rw[C,aB d (by omega)];refine ao (λF=>aa ⟨j+1,rfl,⟨by omega,by omega⟩,j+1,f,?_⟩) λF=>aa ⟨⟨j+1,rfl,f,?_⟩,?_⟩;all_goals grind
  ·simp only[Bool.and_eq_false_iff,decide_eq_false_iff_not]at h;unfold Pl.dg;rcases h with(h|h)|h;·have:pk s j=0:=zdQ (by omega);omega
   all_goals omega
 ·rintro(t|t) p
  ·obtain⟨j,rfl,y,k,J,z⟩:=p;refine aa ⟨_,rfl,0,false,j,rfl,⟨y.1,y.2,λh=>by grind⟩,λm t a M p=>?_⟩;exfalso;have L:k<=i+(decDigits m).length:=by
    apply h_;intro hn;have u:¬dg (pk s (i+(decDigits m).length)):=by rw[rb,kB a];omega
    exact u (J.all _ (by simp) (by omega))
   have e:(s.take k).drop i=(decDigits m).take (k - i):=by rw[List.drop_take,a,List.take_append_of_le_length (by omega)]
   rw[e]at z;have g:=J5 (l:=decDigits m) (k:=k - i) (by omega);rw[HS]at g;omega
  ·obtain⟨j,rfl,hr,H⟩:=p;have g:=hr.le;refine aa ⟨_,rfl,((sD ((s.take j).drop i):Nat):Int),decide (i<j),j,?_,⟨g,hr.top,λh=>of_decide_eq_true h⟩,λm t a M p=>?_⟩;·show(_,decide ((j:Int)>(i:Int)),_)=_;simp
   ·obtain⟨A,B⟩:=SR hr H a p;have:=Mv m;exact⟨by rw[B,HS],decide_eq_true (by omega),A⟩
theorem zeO(s:List UInt8)(hs:s.length<=1048576):∃num:Nat->Option (Int×Nat),NumOk s num/\∀i,i<=s.length->∃(v:Int) (ok:Bool) (j:Nat),(i<=j/\j<=s.length)/\num i=(if ok then some (v,j)else none)/\aC tbl bk [.ptr 0 0] [.box aI [.d tS s,.d tI (i:Int)]] q_ref15_parser_number_r (v,ok,s,(j:Int),()):=by
 have h:∀i:Nat,∃o:Int×Bool×Nat,i<=s.length->(i<=o.2.2/\o.2.2<=s.length/\(o.2.1=true->i<o.2.2))/\(∀(m:Nat) t,s.drop i=decDigits m++t->m<=4294967295->¬dg (hd t)->o.1=(m:Int)/\o.2.1=true/\o.2.2=i+(decDigits m).length)/\aC tbl bk [.ptr 0 0] [.box aI [.d tS s,.d tI (i:Int)]] q_ref15_parser_number_r (o.1,o.2.1,s,(o.2.2:Int),()):=λi=>by
  by_cases a:i<=s.length
  ·obtain⟨v,ok,j,c⟩:=WQ s hs i a;exact⟨(v,ok,j),λ_=>c⟩
  ·exact⟨(0,false,0),λh=>absurd h a⟩
 refine⟨λi=>if(C_ (h i)).2.1 then some ((C_ (h i)).1,(C_ (h i)).2.2)else none,⟨λi n j a e=>?_,λi m t b f g=>?_⟩,λi a=>?_⟩;·grind
 ·have a:i<=s.length:=J_ (LK b (Mw m).1);grind
 ·have d:=ae_ (h i) a;grind
abbrev OJ(s:List UInt8)(i:Nat):List Ob:=[.box aH [.d tS s,.d tI (i:Int)]]
def up3(s:List UInt8)(o:Option (Rx×Nat)):Option (Rx×List UInt8×Int×Unit):=o.map λx=>(x.1,s,(x.2:Int),())
theorem eqT{a b:Nat}(h:((a:Int)==(b:Int))=true):a=b:=by simp at h;omega
theorem eqF{a b:Nat}(h:((a:Int)==(b:Int))=false):a≠b:=by simp at h;omega
theorem neF{a b:Nat}(h:((a:Int) != (b:Int))=false):a=b:=by simp at h;omega
theorem LZ(s:List UInt8)(hs:s.length<=1048576)(i c:Nat)(hc:c≠0):ef tbl bC [.ptr 0 0,.d tY (c:Int)] (OJ s i) be (if pk s i=c then some (s,((i+1:Nat):Int),())else none):=by
 refine vH (λ_=>rfl) (aA zo rfl (λO m=>bK (nU O m (c:Int) s (i:Int))) ?_);unfold nU;refine ae (aj (CM s i) (ao (λh=>aa (aa ?_)) λh=>aa (aa ?_)));·grind
 ·have h:=neF h;have a:=dP (s:=s) (i:=i) (by omega);rw[if_pos h];show some (kh be (s,c_ .i64 ((i:Int)+1),()))=_;rw[aB a (by omega)];rfl
section
variable {s:List UInt8}
theorem zgh(hs:s.length<=1048576){num:Nat->Option (Int×Nat)}(hn:NumOk s num)(hc:∀i,i<=s.length->ef tbl bc [.ptr 0 0] (OJ s i) q_regex_parser_number_r ((num i).map λx=>(x.1,s,(x.2:Int),()))) {alt:Nat->Option (Rx×Nat)} (E:WO s alt) (d:Nat) (A:d<=100) (z:∀i,i<=s.length->ef tbl a8 [.ptr 0 0,.d tI ((d+1:Nat):Int)] (OJ s i) aY (up3 s (alt i))) (i:Nat) (B:i<=s.length): ef tbl dM [.ptr 0 0,.d tI (d:Int)] (OJ s i) bp (up3 s (fm num s alt i)):=by
 refine vH (λ_=>rfl) (aA BI rfl (λO m=>bK (qi O m (d:Int) s (i:Int))) ?_);unfold qi;refine aj (CM s i) ?_;dsimp only;refine ao (λh=>?_) λu=>?_;·have h:=eqT (b:=46) h;have a:=dP (s:=s) (i:=i) (by omega);rw[aB a (by omega),show fm num s alt i=some (.mk 2 0 0 [],i+1) by unfold fm;grind];exact aa rfl
 have u:=eqF (b:=46) u;refine ao (λh=>?_) λg=>?_;·have h:=eqT (b:=33) h;have a:=dP (s:=s) (i:=i) (by omega);rw[aB a (by omega),show fm num s alt i=some (.mk 4 0 0 [],i+1) by unfold fm;grind];exact aa rfl
 have g:=eqF (b:=33) g;refine ao (λe=>?_) λe=>?_
 ·have e:=eqT (b:=91) e;have a:=dP (s:=s) (i:=i) (by omega);have hp:fm num s alt i=match num (i+1)with
   |none=>none
   |some (lo,j)=>if pk s j=45 then(match num (j+1)with
    |none=>none
    |some (up,k)=>if pk s k=93 then some (.mk 1 lo up [],k+1)else none)else none:=by
   unfold fm
   grind
  rw[aB a (by omega),hp];refine jE (hc (i+1) (by omega)) ?_;cases w:num (i+1)with
  |none=>exact aa rfl|some x=>
   obtain⟨lo,j⟩:=x;have C:=hn.bnd _ _ _ (by omega) w;show Wp (λn=>d_ (lO (s5 tbl n) bC [.ptr 0 0,.d tY (45:Int)] (OJ s j) be) _) _;refine jE (LZ s hs j 45 (by simp)) ?_;by_cases p:pk s j=45
   ·have f:=dP (s:=s) (i:=j) (by omega);simp only[if_pos p];show Wp (λn=>d_ (lO (s5 tbl n) bc [.ptr 0 0] (OJ s (j+1)) q_regex_parser_number_r) _) _;refine jE (hc (j+1) (by omega)) ?_;cases D:num (j+1)with
    |none=>exact aa rfl|some y=>
     obtain⟨up,k⟩:=y;show Wp (λn=>d_ (lO (s5 tbl n) bC [.ptr 0 0,.d tY (93:Int)] (OJ s k) be) _) _;refine jE (LZ s hs k 93 (by simp)) ?_;by_cases v:pk s k=93;·simp only[if_pos v];exact aa rfl
     ·simp only[if_neg v];exact aa rfl
   ·simp only[if_neg p];exact aa rfl
 have e:=eqF (b:=91) e;refine ao (λc=>?_) λc=>?_
 ·have c:=eqT (b:=40) c;have a:=dP (s:=s) (i:=i) (by omega);rw[aB a (by omega)];refine aj (CM s (i+1)) ?_;dsimp only;refine ao (λh=>?_) λh=>?_;·have h:=eqT (b:=41) h;have f:=dP (s:=s) (i:=i+1) (by omega);rw[aB f (by omega),show fm num s alt i=some (.mk 0 0 0 [],i+2) by unfold fm;grind];exact aa rfl
  ·have h:=eqF (b:=41) h;have hp:fm num s alt i=match alt (i+1)with
    |none=>none
    |some (r,j)=>if pk s j=41 then some (r,j+1)else none:=by
    unfold fm
    grind
   rw[hp,show c_ .i64 ((d:Int)+1)=((d+1:Nat):Int) by rw[wrap_i64 (by omega) (by omega)];rfl];refine jE (z (i+1) (by omega)) ?_;cases w:alt (i+1)with
   |none=>exact aa rfl|some x=>
    obtain⟨r,j⟩:=x;show Wp (λn=>d_ (lO (s5 tbl n) bC [.ptr 0 0,.d tY (41:Int)] (OJ s j) be) _) _;refine jE (LZ s hs j 41 (by simp)) ?_;by_cases l:pk s j=41;·simp only[if_pos l];refine aa ?_;rw[cP];rfl
    ·simp only[if_neg l];exact aa rfl
 ·have c:=eqF (b:=40) c;have hp:fm num s alt i=match num i with
   |none=>none
   |some (n,j)=>some (.mk 1 n n [],j):=by
   unfold fm
   grind
  rw[hp];refine jE (hc i B) ?_;cases w:num i with|none=>exact aa rfl|some x=>exact aa rfl
def Vm(s:List UInt8)(one:Nat->Option (Rx×Nat))(i:Nat):Option (Rx×Nat):=match one i with
 |none=>none
 |some (r,j)=>if pk s j=42 then some (.mk 5 0 0 [r],j+1)else if pk s j=43 then some (.mk 6 0 0 [r],j+1)else if pk s j=63 then some (.mk 7 0 0 [r],j+1)else some (r,j)
theorem zgi(hs:s.length<=1048576){one:Nat->Option (Rx×Nat)}(d:Nat)(f:∀i,i<=s.length->ef tbl dM [.ptr 0 0,.d tI (d:Int)] (OJ s i) bp (up3 s (one i)))(i:Nat)(g:i<=s.length): ef tbl ca [.ptr 0 0,.d tI (d:Int)] (OJ s i) bi (up3 s (Vm s one i)):=by
 refine vH (λ_=>rfl) (aA BJ rfl (λO m=>bK (qj O m (d:Int) s (i:Int))) ?_);unfold qj Vm;refine jE (f i g) ?_;cases p:one i with
 |none=>exact aa rfl|some x=>
  obtain⟨r,j⟩:=x;simp only;have key:∀(k:Int),j<s.length->some (kh bi (Rx.mk k 0 0 [Rx.mk r.out.1 r.out.2.1 r.out.2.2.1 r.out.2.2.2.1],s,c_ .i64 ((j:Int)+1),()))=(up3 s (some (.mk k 0 0 [r],j+1))).map (kh bi):=λk l=>by rw[cP,aB l (by omega)];rfl
  show Wp (λn=>d_ (d_ (au (s5 tbl n) bl [.ptr 0 0] (OJ s j) a6) _) _) _;refine ae (aj (CM s j) ?_);dsimp only;refine ao (λh=>aa (aa ?_)) λa=>?_;·have h:=eqT (b:=42) h;rw[if_pos h];exact key 5 (dP (by omega))
  have a:=eqF (b:=42) a;refine ao (λh=>aa (aa ?_)) λc=>?_;·have h:=eqT (b:=43) h;rw[if_neg a,if_pos h];exact key 6 (dP (by omega))
  have c:=eqF (b:=43) c;refine ao (λh=>aa (aa ?_)) λe=>aa (aa ?_);·have h:=eqT (b:=63) h;rw[if_neg a,if_neg c,if_pos h];exact key 7 (dP (by omega))
  ·have e:=eqF (b:=63) e;rw[if_neg a,if_neg c,if_neg e];show some (kh bi (Rx.mk r.out.1 r.out.2.1 r.out.2.2.1 r.out.2.2.2.1,s,(j:Int),()))=_;rw[cP];rfl
theorem Pz(hs:s.length<=1048576){one:Nat->Option (Rx×Nat)}(z:WO s one)(d:Nat)(y:∀i,i<=s.length->ef tbl ca [.ptr 0 0,.d tI (d:Int)] (OJ s i) bi (up3 s (one i)))(T:Option (List Rx×Nat))(r:Rx)(i f:Nat)(A:i<=s.length)(w:1<=i)(u:s.length<=f+i)(c:(if pk s i=32 then gP s 32 one f [r] (i+1)else some ([r],i))=T): Wp (λn=>aL n (dn (s5 tbl n) n (d:Int)) (s,(i:Int),(0:Int),(0:Int),(0:Int),([r]:List Rx),())) λt=>match t with | .inl _=>T=none | .inr t=>∃(a:List Rx) (j:Nat),t=(s,(j:Int),(0:Int),(0:Int),(0:Int),a,())/\T=some (a,j):=by
 refine Ev.wp_loop (λt=>∃(a:List Rx) (j f:Nat),t=(s,(j:Int),(0:Int),(0:Int),(0:Int),a,())/\j<=s.length/\a.length<=j/\s.length<=f+j/\(if pk s j=32 then gP s 32 one f a (j+1)else some (a,j))=T) (λt=>s.length - t.2.1.toNat) ⟨[r],i,f,rfl,A,w,u,c⟩ ?_;rintro t ⟨a,j,f,rfl,C,p,u,c⟩;unfold dn;refine aj (CM s j) ?_;dsimp only;refine ao (λh=>?_) λh=>aa ⟨a,j,rfl,?_⟩;·have h:=eqT (b:=32) h;have l:=dP (s:=s) (i:=j) (by omega);rw[if_pos h]at c;rw[aB l (by omega)];refine jE (y (j+1) (by omega)) ?_;obtain⟨f2,rfl⟩:∃g,f=g+1:=⟨f - 1,by omega⟩;rw[gP]at c;cases e:one (j+1)with|none=>rw[e]at c;exact aa c.symm|some x=>obtain⟨r2,k⟩:=x;obtain⟨B,v,_⟩:=z _ _ _ (by omega) e;rw[e]at c;simp only at c;refine aD (decide_eq_true ?_) (aa ⟨⟨a++[r2],k,f2,rfl,v,?_,by omega,c⟩,?_⟩);all_goals grind
 grind
theorem Il(hs:s.length<=1048576){one:Nat->Option (Rx×Nat)}(z:WO s one)(d:Nat)(y:∀i,i<=s.length->ef tbl bE [.ptr 0 0,.d tI (d:Int)] (OJ s i) bg (up3 s (one i)))(T:Option (List Rx×Nat))(r:Rx)(i f:Nat)(A:i<=s.length)(w:1<=i)(u:s.length<=f+i)(c:(if pk s i=124 then gP s 124 one f [r] (i+1)else some ([r],i))=T): Wp (λn=>aL n (cj (s5 tbl n) n (d:Int)) (s,(i:Int),(0:Int),(0:Int),(0:Int),([r]:List Rx),())) λt=>match t with | .inl _=>T=none | .inr t=>∃(a:List Rx) (j:Nat),t=(s,(j:Int),(0:Int),(0:Int),(0:Int),a,())/\T=some (a,j):=by
 refine Ev.wp_loop (λt=>∃(a:List Rx) (j f:Nat),t=(s,(j:Int),(0:Int),(0:Int),(0:Int),a,())/\j<=s.length/\a.length<=j/\s.length<=f+j/\(if pk s j=124 then gP s 124 one f a (j+1)else some (a,j))=T) (λt=>s.length - t.2.1.toNat) ⟨[r],i,f,rfl,A,w,u,c⟩ ?_;rintro t ⟨a,j,f,rfl,C,p,u,c⟩;unfold cj;refine aj (CM s j) ?_;dsimp only;refine ao (λh=>?_) λh=>aa ⟨a,j,rfl,?_⟩;·have h:=eqT (b:=124) h;have l:=dP (s:=s) (i:=j) (by omega);rw[if_pos h]at c;rw[aB l (by omega)];refine jE (y (j+1) (by omega)) ?_;obtain⟨f2,rfl⟩:∃g,f=g+1:=⟨f - 1,by omega⟩;rw[gP]at c;cases e:one (j+1)with|none=>rw[e]at c;exact aa c.symm|some x=>obtain⟨r2,k⟩:=x;obtain⟨B,v,_⟩:=z _ _ _ (by omega) e;rw[e]at c;simp only at c;refine aD (decide_eq_true ?_) (aa ⟨⟨a++[r2],k,f2,rfl,v,?_,by omega,c⟩,?_⟩);all_goals grind
 grind
theorem WS(hs:s.length<=1048576){one:Nat->Option (Rx×Nat)}(c:WO s one)(d:Nat)(a:∀i,i<=s.length->ef tbl ca [.ptr 0 0,.d tI (d:Int)] (OJ s i) bi (up3 s (one i)))(i:Nat)(e:i<=s.length): ef tbl bE [.ptr 0 0,.d tI (d:Int)] (OJ s i) bg (up3 s (Cw s 32 3 one i)):=by
 refine vH (λ_=>rfl) (aA wP rfl (λO m=>bK (lV O m (d:Int) s (i:Int))) ?_);unfold lV Cw;refine jE (a i e) ?_;obtain⟨f,w⟩:∃f,s.length+1 - i=f+1:=⟨s.length - i,by omega⟩;rw[w,gP];cases u:one i with
 |none=>exact aa rfl|some x=>
  obtain⟨r,j⟩:=x;obtain⟨y,p,_⟩:=c _ _ _ e u;simp only[H_];show Wp (λn=>d_ (aL n (dn (s5 tbl n) n (d:Int)) (s,(j:Int),(0:Int),(0:Int),(0:Int),([r]:List Rx),())) _) _;refine ae (Ev.wp_mono (Pz hs c d a _ r j f p (by omega) (by omega) rfl) ?_);rintro(t|t) g;·rw[show _=none from g];exact aa rfl
  ·obtain⟨l,k,rfl,v⟩:=g;rw[v];refine ao (λh=>?_) λh=>aa ?_;·have h:=eqT (b:=1) h;obtain⟨x,rfl⟩:=u_.1 h;refine i6 (by simp) rfl (mP rfl (aa ?_));rw[cP];rfl
   ·have h:=eqF (b:=1) h;simp only;rw[zW h];rfl
theorem LX(hs:s.length<=1048576){one:Nat->Option (Rx×Nat)}(c:WO s one)(d:Nat)(w:d<=32)(a:∀i,i<=s.length->ef tbl bE [.ptr 0 0,.d tI (d:Int)] (OJ s i) bg (up3 s (one i)))(i:Nat)(e:i<=s.length): ef tbl a8 [.ptr 0 0,.d tI (d:Int)] (OJ s i) aY (up3 s (Cw s 124 4 one i)):=by
 refine vH (λ_=>rfl) (aA jD rfl (λO m=>bK (cH O m (d:Int) s (i:Int))) ?_);unfold cH Cw;refine ae (an (decide_eq_false (by omega)) (aa ?_));show Wp (λn=>d_ (lO (s5 tbl n) bE [.ptr 0 0,.d tI (d:Int)] (OJ s i) bg) _) _;refine jE (a i e) ?_;obtain⟨f,y⟩:∃f,s.length+1 - i=f+1:=⟨s.length - i,by omega⟩;rw[y,gP];cases u:one i with
 |none=>exact aa rfl|some x=>
  obtain⟨r,j⟩:=x;obtain⟨z,p,_⟩:=c _ _ _ e u;simp only[H_];show Wp (λn=>d_ (aL n (cj (s5 tbl n) n (d:Int)) (s,(j:Int),(0:Int),(0:Int),(0:Int),([r]:List Rx),())) _) _;refine ae (Ev.wp_mono (Il hs c d a _ r j f p (by omega) (by omega) rfl) ?_);rintro(t|t) g;·rw[show _=none from g];exact aa rfl
  ·obtain⟨l,k,rfl,v⟩:=g;rw[v];refine ao (λh=>?_) λh=>aa ?_;·have h:=eqT (b:=1) h;obtain⟨x,rfl⟩:=u_.1 h;refine i6 (by simp) rfl (mP rfl (aa ?_));rw[cP];rfl
   ·have h:=eqF (b:=1) h;simp only;rw[zW h];rfl
theorem zeG(i:Nat):ef tbl a8 [.ptr 0 0,.d tI (33:Int)] (OJ s i) aY none:=by refine vH (λ_=>rfl) (aA jD rfl (λO m=>bK (cH O m (33:Int) s (i:Int))) ?_);unfold cH;exact ae (aF rfl (aa (aa rfl)))
theorem zcr(hs:s.length<=1048576){num:Nat->Option (Int×Nat)}(hn:NumOk s num)(hc:∀i,i<=s.length->ef tbl bc [.ptr 0 0] (OJ s i) q_regex_parser_number_r ((num i).map λx=>(x.1,s,(x.2:Int),()))):
 ∀(b d:Nat),d+b=33->∀i,i<=s.length->ef tbl a8 [.ptr 0 0,.d tI (d:Int)] (OJ s i) aY (up3 s (GL num s b i))
 |0,d,h,i,_=>by
  have:d=33:=by omega
  subst this;exact zeG i
 |b+1,d,h,i,g=>by have a:=HH hn b;have c:=zgh hs hn hc a d (by omega) (zcr hs hn hc b (d+1) (by omega));have e:=zgi hs d c;have f:=WS hs (Dd hn a) d e;exact LX hs (LG (Dd hn a) (by simp) 3) d (by omega) f i g
end
abbrev Tq(s:List UInt8)(i:Nat):List Ob:=[.box aI [.d tS s,.d tI (i:Int)]]
def Rd(s:List UInt8)(one:Nat->Option (Rx×Nat))(C:Nat->Rx->Bool->Nat->Prop):Prop:=∀i,i<=s.length->∃(r:Rx) (ok:Bool) (j:Nat),(i<=j/\j<=s.length)/\one i=(if ok then some (r,j)else none)/\C i r ok j
section
variable {s:List UInt8}
theorem zcs(hs:s.length<=1048576){num:Nat->Option (Int×Nat)}(hc:∀i,i<=s.length->∃(v:Int) (ok:Bool) (j:Nat),(i<=j/\j<=s.length)/\num i=(if ok then some (v,j)else none)/\aC tbl bk [.ptr 0 0] (Tq s i) q_ref15_parser_number_r (v,ok,s,(j:Int),())) {alt:Nat->Option (Rx×Nat)} (d:Nat) (Y:d<=32) (U:Rd s alt λi r ok j=>aC tbl bX [.ptr 0 0,.d tI ((d+1:Nat):Int)] (Tq s i) q_ref15_parser_alt_rd (r,ok,s,(j:Int),())): Rd s (fm num s alt) λi r ok j=>aC tbl b9 [.ptr 0 0,.d tI (d:Int)] (Tq s i) q_ref15_parser_atom_rd (r,ok,s,(j:Int),()):=by
 intro i H;suffices h:∃c:HL q_ref15_parser_atom_rd.sl,(∃(r:Rx) (ok:Bool) (j:Nat),c=(r,ok,s,(j:Int),())/\(i<=j/\j<=s.length)/\fm num s alt i=(if ok then some (r,j)else none))/\aC tbl b9 [.ptr 0 0,.d tI (d:Int)] (Tq s i) q_ref15_parser_atom_rd c by grind
 refine om (λ_=>rfl) (aA rp rfl (λO m=>bK (f5 O m (d:Int) s (i:Int))) ?_);unfold f5;refine an (decide_eq_false (by omega)) ?_;have C:∀(k c:Nat),c≠0->k<=s.length->aC tbl aS [.ptr 0 0,.d tY (c:Int)] (Tq s k) aQ (decide (pk s k=c),s,((if pk s k=c then k+1 else k:Nat):Int),()):=λk c L hk=>Rv s k c L hs hk;refine aj (C i 46 (by simp) H) ?_;by_cases f:pk s i=46
 ·have E:=dP (s:=s) (i:=i) (by omega);refine aF (decide_eq_true f) (aa ⟨_,rfl,.mk 2 0 0 [],true,i+1,?_,⟨by simp,by omega⟩,?_⟩);·simp only[if_pos f];rfl
  ·unfold fm;grind
 refine an (decide_eq_false f) ?_;simp only[if_neg f];refine aj (C i 33 (by simp) H) ?_;by_cases b:pk s i=33
 ·have E:=dP (s:=s) (i:=i) (by omega);refine aF (decide_eq_true b) (aa ⟨_,rfl,.mk 4 0 0 [],true,i+1,?_,⟨by simp,by omega⟩,?_⟩);·simp only[if_pos b];rfl
  ·unfold fm;grind
 refine an (decide_eq_false b) ?_;simp only[if_neg b];refine aj (C i 40 (by simp) H) ?_;by_cases g:pk s i=40
 ·have E:=dP (s:=s) (i:=i) (by omega);refine aF (decide_eq_true g) ?_;simp only[if_pos g];refine aj (C (i+1) 41 (by simp) (by omega)) ?_;by_cases p:pk s (i+1)=41
  ·have B:=dP (s:=s) (i:=i+1) (by omega);refine aF (decide_eq_true p) (aa ⟨_,rfl,.mk 0 0 0 [],true,i+2,?_,⟨by simp,by omega⟩,?_⟩);·simp only[if_pos p];rfl
   ·unfold fm;rw[if_neg f,if_neg b,if_neg (by omega),if_pos g,if_pos p];rfl
  refine an (decide_eq_false p) ?_;simp only[if_neg p];rw[show c_ .i64 ((d:Int)+1)=((d+1:Nat):Int) by rw[wrap_i64 (by omega) (by omega)];rfl];obtain⟨r,ok,j,hj,e,D⟩:=U (i+1) (by omega);have hp:fm num s alt i=match alt (i+1)with
   |none=>none
   |some (r,j)=>if pk s j=41 then some (r,j+1)else none:=by
   unfold fm
   rw[if_neg f,if_neg b,if_neg (by omega),if_pos g,if_neg p]
   all_goals rfl
  rw[e]at hp;refine aj D ?_;cases ok with
  |true=>
   refine aF rfl (aj (C j 41 (by simp) hj.2) ?_);simp only[if_true]at hp;by_cases a:pk s j=41;·have B:=dP (s:=s) (i:=j) (by omega);rw[if_pos a]at hp;refine aa ⟨_,rfl,r,true,j+1,?_,⟨by omega,by omega⟩,hp⟩;show(Rx.mk r.out.1 r.out.2.1 r.out.2.2.1 r.out.2.2.2.1,decide (pk s j=41),s,((if pk s j=41 then j+1 else j:Nat):Int),())=_;rw[cP,if_pos a,decide_eq_true a]
   ·rw[if_neg a]at hp;refine aa ⟨_,rfl,r,false,j,?_,⟨by omega,by omega⟩,hp⟩;show(Rx.mk r.out.1 r.out.2.1 r.out.2.2.1 r.out.2.2.2.1,decide (pk s j=41),s,((if pk s j=41 then j+1 else j:Nat):Int),())=_;rw[cP,if_neg a,decide_eq_false a]
  |false=>refine an rfl (aa ⟨_,rfl,r,false,j,?_,⟨by omega,by omega⟩,hp⟩);show(Rx.mk r.out.1 r.out.2.1 r.out.2.2.1 r.out.2.2.2.1,false,s,(j:Int),())=_;rw[cP]
 refine an (decide_eq_false g) ?_;simp only[if_neg g];refine aj (C i 91 (by simp) H) ?_;by_cases u:pk s i=91
 ·have E:=dP (s:=s) (i:=i) (by omega);have hp:fm num s alt i=match num (i+1)with
   |none=>none
   |some (lo,j)=>if pk s j=45 then(match num (j+1)with
    |none=>none
    |some (up,k)=>if pk s k=93 then some (.mk 1 lo up [],k+1)else none)else none:=by
   unfold fm
   rw[if_neg f,if_neg b,if_pos u]
   all_goals rfl
  refine aF (decide_eq_true u) ?_;simp only[if_pos u];obtain⟨A,z,l,N,J,I⟩:=hc (i+1) (by omega);refine aj I (aj (C l 45 (by simp) N.2) ?_);have R:(if pk s l=45 then l+1 else l)<=s.length/\l<=(if pk s l=45 then l+1 else l):=by
   split;·have:=dP (s:=s) (i:=l) (by omega);omega
   omega
  obtain⟨F,M,w,Q,P,T⟩:=hc (if pk s l=45 then l+1 else l) R.1;refine aj T ?_;rw[J]at hp;cases z with
  |false=>exact an rfl (aa ⟨_,rfl,.mk 1 A F [],false,w,rfl,⟨by omega,by omega⟩,hp⟩)|true=>
   simp only[if_true]at hp;refine aF rfl ?_;by_cases x:pk s l=45
   ·rw[if_pos x]at hp P;refine aF (decide_eq_true x) ?_;rw[P]at hp;cases M with
    |false=>exact an rfl (aa ⟨_,rfl,.mk 1 A F [],false,w,rfl,⟨by omega,by omega⟩,hp⟩)|true=>
     simp only[if_true]at hp;refine aF rfl (aj (C w 93 (by simp) Q.2) ?_);by_cases y:pk s w=93;·have B:=dP (s:=s) (i:=w) (by omega);rw[if_pos y]at hp;refine aa ⟨_,rfl,.mk 1 A F [],true,w+1,?_,⟨by omega,by omega⟩,hp⟩;show(Rx.mk 1 A F [],decide (pk s w=93),s,((if pk s w=93 then w+1 else w:Nat):Int),())=_;rw[if_pos y,decide_eq_true y]
     ·rw[if_neg y]at hp;refine aa ⟨_,rfl,.mk 1 A F [],false,w,?_,⟨by omega,by omega⟩,hp⟩;grind
   ·rw[if_neg x]at hp;exact an (decide_eq_false x) (aa ⟨_,rfl,.mk 1 A F [],false,w,rfl,⟨by omega,by omega⟩,hp⟩)
 refine an (decide_eq_false u) ?_;simp only[if_neg u];obtain⟨A,z,l,N,J,I⟩:=hc i H;have hp:fm num s alt i=match num i with
  |none=>none
  |some (n,j)=>some (.mk 1 n n [],j):=by
  unfold fm
  rw[if_neg f,if_neg b,if_neg u,if_neg g]
  all_goals rfl
 rw[J]at hp;refine aj I (aa ⟨_,rfl,.mk 1 A A [],z,l,rfl,⟨by omega,by omega⟩,?_⟩);rw[hp];cases z<;>rfl
theorem TA(hs:s.length<=1048576){one:Nat->Option (Rx×Nat)}(d:Nat)(v:Rd s one λi r ok j=>aC tbl b9 [.ptr 0 0,.d tI (d:Int)] (Tq s i) q_ref15_parser_atom_rd (r,ok,s,(j:Int),())): Rd s (Vm s one) λi r ok j=>aC tbl cI [.ptr 0 0,.d tI (d:Int)] (Tq s i) q_ref15_parser_item_rd (r,ok,s,(j:Int),()):=by
 intro i w;suffices h:∃c:HL q_ref15_parser_item_rd.sl,(∃(r:Rx) (ok:Bool) (j:Nat),c=(r,ok,s,(j:Int),())/\(i<=j/\j<=s.length)/\Vm s one i=(if ok then some (r,j)else none))/\aC tbl cI [.ptr 0 0,.d tI (d:Int)] (Tq s i) q_ref15_parser_item_rd c by grind
 refine om (λ_=>rfl) (aA BF rfl (λO m=>bK (qf O m (d:Int) s (i:Int))) ?_);unfold qf;obtain⟨r,ok,j,l,e,a⟩:=v i w;have u:∀(k c:Nat),c≠0->k<=s.length->aC tbl aS [.ptr 0 0,.d tY (c:Int)] (Tq s k) aQ (decide (pk s k=c),s,((if pk s k=c then k+1 else k:Nat):Int),()):=λk c p x=>Rv s k c p hs x;refine aj a ?_;have hp:Vm s one i=match one i with
  |none=>none
  |some (r,j)=>if pk s j=42 then some (.mk 5 0 0 [r],j+1)else if pk s j=43 then some (.mk 6 0 0 [r],j+1)else if pk s j=63 then some (.mk 7 0 0 [r],j+1)else some (r,j):=rfl
 rw[e]at hp;cases ok with
 |false=>refine ae (aF rfl (aa (aa ⟨_,rfl,r,false,j,?_,l,hp⟩)));show(Rx.mk r.out.1 r.out.2.1 r.out.2.2.1 r.out.2.2.2.1,false,s,(j:Int),())=_;rw[cP]|true=>
  simp only[if_true]at hp;refine ae (an rfl ?_);refine aj (u j 42 (by simp) l.2) ?_;by_cases b:pk s j=42;·have n:=dP (s:=s) (i:=j) (by omega);rw[if_pos b]at hp;refine aF (decide_eq_true b) (aa ?_);refine eK (λ_=>rfl) (⟨_,rfl,.mk 5 0 0 [r],true,j+1,?_,⟨by omega,by omega⟩,hp⟩);show(Rx.mk 5 0 0 [Rx.mk r.out.1 r.out.2.1 r.out.2.2.1 r.out.2.2.2.1],true,s,((if pk s j=42 then j+1 else j:Nat):Int),())=_;rw[cP,if_pos b]
  rw[if_neg b]at hp;refine an (decide_eq_false b) ?_;simp only[if_neg b];refine aj (u j 43 (by simp) l.2) ?_;by_cases f:pk s j=43;·have n:=dP (s:=s) (i:=j) (by omega);rw[if_pos f]at hp;refine aF (decide_eq_true f) (aa ?_);refine eK (λ_=>rfl) (⟨_,rfl,.mk 6 0 0 [r],true,j+1,?_,⟨by omega,by omega⟩,hp⟩);show(Rx.mk 6 0 0 [Rx.mk r.out.1 r.out.2.1 r.out.2.2.1 r.out.2.2.2.1],true,s,((if pk s j=43 then j+1 else j:Nat):Int),())=_;rw[cP,if_pos f]
  rw[if_neg f]at hp;refine an (decide_eq_false f) ?_;simp only[if_neg f];refine aj (u j 63 (by simp) l.2) ?_;by_cases g:pk s j=63;·have n:=dP (s:=s) (i:=j) (by omega);rw[if_pos g]at hp;refine aF (decide_eq_true g) (aa ?_);refine eK (λ_=>rfl) (⟨_,rfl,.mk 7 0 0 [r],true,j+1,?_,⟨by omega,by omega⟩,hp⟩);show(Rx.mk 7 0 0 [Rx.mk r.out.1 r.out.2.1 r.out.2.2.1 r.out.2.2.2.1],true,s,((if pk s j=63 then j+1 else j:Nat):Int),())=_;rw[cP,if_pos g]
  rw[if_neg g]at hp;refine an (decide_eq_false g) (aa ?_);refine eK (λ_=>rfl) (⟨_,rfl,r,true,j,?_,l,hp⟩);show(Rx.mk r.out.1 r.out.2.1 r.out.2.2.1 r.out.2.2.2.1,true,s,((if pk s j=63 then j+1 else j:Nat):Int),())=_;rw[cP,if_neg g]
theorem Y5(hs:s.length<=1048576){one:Nat->Option (Rx×Nat)}(z:WO s one)(d:Nat)(y:Rd s one λi r ok j=>aC tbl cI [.ptr 0 0,.d tI (d:Int)] (Tq s i) q_ref15_parser_item_rd (r,ok,s,(j:Int),())): Rd s (Cw s 32 3 one) λi r ok j=>aC tbl cY [.ptr 0 0,.d tI (d:Int)] (Tq s i) q_ref15_parser_seq_rd (r,ok,s,(j:Int),()):=by
 intro i A;suffices h:∃c:HL q_ref15_parser_seq_rd.sl,(∃(r:Rx) (ok:Bool) (j:Nat),c=(r,ok,s,(j:Int),())/\(i<=j/\j<=s.length)/\Cw s 32 3 one i=(if ok then some (r,j)else none))/\aC tbl cY [.ptr 0 0,.d tI (d:Int)] (Tq s i) q_ref15_parser_seq_rd c by grind
 refine om (λ_=>rfl) (aA CI rfl (λO m=>bK (rE O m (d:Int) s (i:Int))) ?_);unfold rE;refine ae (Ev.wp_mono (Ev.wp_loop (Q:=λt=>match t with
  | .inl t=>∃j:Nat,t=(false,s,(j:Int),(0:Int),(0:Int),(0:Int),())/\(i<=j/\j<=s.length)/\gP s 32 one (s.length+1 - i) [] i=none
  | .inr t=>∃(a:List Rx) (j:Nat),t=(s,(j:Int),(0:Int),(0:Int),(0:Int),a,())/\(i<=j/\j<=s.length)/\gP s 32 one (s.length+1 - i) [] i=some (a,j))
  (λt=>∃(a:List Rx) (j f:Nat),t=(s,(j:Int),(0:Int),(0:Int),(0:Int),a,())/\i<=j/\j<=s.length/\a.length<=j/\s.length+1<=f+j/\gP s 32 one f a j=gP s 32 one (s.length+1 - i) [] i) (λt=>s.length - t.2.1.toNat)
  ⟨[],i,s.length+1 - i,rfl,p_ _,A,z_ _,by omega,rfl⟩ ?_) ?_)
 ·rintro t ⟨a,j,f,rfl,B,u,v,F,l⟩;unfold pN;obtain⟨r,ok,k,p,e,n⟩:=y j u;obtain⟨f2,rfl⟩:∃g,f=g+1:=⟨f - 1,by omega⟩;rw[gP,e]at l;refine aj n ?_;cases ok with
  |false=>exact aF rfl (aa ⟨k,rfl,⟨by omega,p.2⟩,l.symm⟩)|true=>
   simp only[if_true]at l e;obtain⟨D,E,_⟩:=z _ _ _ u e;refine an rfl (aD (decide_eq_true ?_) (aj (Rv s k 32 (by simp) hs p.2) ?_));·grind
   by_cases hp:pk s k=32
   ·have C:=dP (s:=s) (i:=k) (by omega);rw[if_pos hp]at l;refine an (by grind) (aa ⟨⟨a++[r],k+1,f2,?_,by omega,by omega,?_,by omega,l⟩,?_⟩);·show(s,((if pk s k=32 then k+1 else k:Nat):Int),(0:Int),(0:Int),(0:Int),a++[Rx.mk r.out.1 r.out.2.1 r.out.2.2.1 r.out.2.2.2.1],())=_;rw[cP,if_pos hp]
    all_goals grind
   ·rw[if_neg hp]at l;refine aF (by grind) (aa ⟨a++[r],k,?_,⟨by omega,p.2⟩,l.symm⟩);show(s,((if pk s k=32 then k+1 else k:Nat):Int),(0:Int),(0:Int),(0:Int),a++[Rx.mk r.out.1 r.out.2.1 r.out.2.2.1 r.out.2.2.2.1],())=_;rw[cP,if_neg hp]
 ·unfold Cw;rintro(t|t) w;·obtain⟨j,rfl,u,l⟩:=w;rw[l];exact aa ⟨_,rfl,.mk 0 0 0 [],false,j,rfl,u,rfl⟩
  ·obtain⟨a,k,rfl,p,l⟩:=w;rw[l];refine ao (λh=>?_) λh=>aa ⟨_,rfl,.mk 3 0 0 a,true,k,rfl,p,?_⟩;·have h:=eqT (b:=1) h;obtain⟨x,rfl⟩:=u_.1 h;refine i6 (by simp) rfl (mP rfl (aa ⟨_,rfl,x,true,k,?_,p,rfl⟩));rw[cP]
   ·have h:=eqF (b:=1) h;simp only;rw[zW h];rfl
theorem Y3(hs:s.length<=1048576){one:Nat->Option (Rx×Nat)}(z:WO s one)(d:Nat)(y:Rd s one λi r ok j=>aC tbl cY [.ptr 0 0,.d tI (d:Int)] (Tq s i) q_ref15_parser_seq_rd (r,ok,s,(j:Int),())): Rd s (Cw s 124 4 one) λi r ok j=>aC tbl bX [.ptr 0 0,.d tI (d:Int)] (Tq s i) q_ref15_parser_alt_rd (r,ok,s,(j:Int),()):=by
 intro i A;suffices h:∃c:HL q_ref15_parser_alt_rd.sl,(∃(r:Rx) (ok:Bool) (j:Nat),c=(r,ok,s,(j:Int),())/\(i<=j/\j<=s.length)/\Cw s 124 4 one i=(if ok then some (r,j)else none))/\aC tbl bX [.ptr 0 0,.d tI (d:Int)] (Tq s i) q_ref15_parser_alt_rd c by grind
 refine om (λ_=>rfl) (aA CG rfl (λO m=>bK (rD O m (d:Int) s (i:Int))) ?_);unfold rD;refine ae (Ev.wp_mono (Ev.wp_loop (Q:=λt=>match t with
  | .inl t=>∃j:Nat,t=(false,s,(j:Int),(0:Int),(0:Int),(0:Int),())/\(i<=j/\j<=s.length)/\gP s 124 one (s.length+1 - i) [] i=none
  | .inr t=>∃(a:List Rx) (j:Nat),t=(s,(j:Int),(0:Int),(0:Int),(0:Int),a,())/\(i<=j/\j<=s.length)/\gP s 124 one (s.length+1 - i) [] i=some (a,j))
  (λt=>∃(a:List Rx) (j f:Nat),t=(s,(j:Int),(0:Int),(0:Int),(0:Int),a,())/\i<=j/\j<=s.length/\a.length<=j/\s.length+1<=f+j/\gP s 124 one f a j=gP s 124 one (s.length+1 - i) [] i) (λt=>s.length - t.2.1.toNat)
  ⟨[],i,s.length+1 - i,rfl,p_ _,A,z_ _,by omega,rfl⟩ ?_) ?_)
 ·rintro t ⟨a,j,f,rfl,B,u,v,F,l⟩;unfold pM;obtain⟨r,ok,k,p,e,n⟩:=y j u;obtain⟨f2,rfl⟩:∃g,f=g+1:=⟨f - 1,by omega⟩;rw[gP,e]at l;refine aj n ?_;cases ok with
  |false=>exact aF rfl (aa ⟨k,rfl,⟨by omega,p.2⟩,l.symm⟩)|true=>
   simp only[if_true]at l e;obtain⟨D,E,_⟩:=z _ _ _ u e;refine an rfl (aD (decide_eq_true ?_) (aj (Rv s k 124 (by simp) hs p.2) ?_));·grind
   by_cases hp:pk s k=124
   ·have C:=dP (s:=s) (i:=k) (by omega);rw[if_pos hp]at l;refine an (by grind) (aa ⟨⟨a++[r],k+1,f2,?_,by omega,by omega,?_,by omega,l⟩,?_⟩);·show(s,((if pk s k=124 then k+1 else k:Nat):Int),(0:Int),(0:Int),(0:Int),a++[Rx.mk r.out.1 r.out.2.1 r.out.2.2.1 r.out.2.2.2.1],())=_;rw[cP,if_pos hp]
    all_goals grind
   ·rw[if_neg hp]at l;refine aF (by grind) (aa ⟨a++[r],k,?_,⟨by omega,p.2⟩,l.symm⟩);show(s,((if pk s k=124 then k+1 else k:Nat):Int),(0:Int),(0:Int),(0:Int),a++[Rx.mk r.out.1 r.out.2.1 r.out.2.2.1 r.out.2.2.2.1],())=_;rw[cP,if_neg hp]
 ·unfold Cw;rintro(t|t) w;·obtain⟨j,rfl,u,l⟩:=w;rw[l];exact aa ⟨_,rfl,.mk 0 0 0 [],false,j,rfl,u,rfl⟩
  ·obtain⟨a,k,rfl,p,l⟩:=w;rw[l];refine ao (λh=>?_) λh=>aa ⟨_,rfl,.mk 4 0 0 a,true,k,rfl,p,?_⟩;·have h:=eqT (b:=1) h;obtain⟨x,rfl⟩:=u_.1 h;refine i6 (by simp) rfl (mP rfl (aa ⟨_,rfl,x,true,k,?_,p,rfl⟩));rw[cP]
   ·have h:=eqF (b:=1) h;simp only;rw[zW h];rfl
theorem zct:Rd s (λ_=>none) λi r ok j=>aC tbl b9 [.ptr 0 0,.d tI ((33:Nat):Int)] (Tq s i) q_ref15_parser_atom_rd (r,ok,s,(j:Int),()):=by intro i a;refine⟨.mk 0 0 0 [],false,i,⟨p_ _,a⟩,rfl,?_⟩;refine ap rfl (aA rp rfl (λO m=>bK (f5 O m (33:Int) s (i:Int))) ?_);unfold f5;exact aF rfl (aa rfl)
theorem Uz:WO s λ_=>none:=λ_ _ _ _ h=>by cases h
theorem Rd.imp{one z:Nat->Option (Rx×Nat)}{C:Nat->Rx->Bool->Nat->Prop}(h:Rd s one C)(N:∀i,i<=s.length->one i=z i):Rd s z C:=λi E=>by obtain⟨r,ok,j,H,I,J⟩:=h i E;grind
theorem Vd(p:Nat)(k:Int)(i:Nat)(b:i<=s.length):Cw s p k (λ_=>none) i=none:=by obtain⟨f,a⟩:∃f,s.length+1 - i=f+1:=⟨s.length - i,by omega⟩;unfold Cw;rw[a,gP]
theorem Tt(hs:s.length<=1048576){num:Nat->Option (Int×Nat)}(hn:NumOk s num)(hc:∀i,i<=s.length->∃(v:Int) (ok:Bool) (j:Nat),(i<=j/\j<=s.length)/\num i=(if ok then some (v,j)else none)/\
 aC tbl bk [.ptr 0 0] (Tq s i) q_ref15_parser_number_r (v,ok,s,(j:Int),())):
 ∀(b d:Nat),d+b=33->Rd s (GL num s b) λi r ok j=>aC tbl bX [.ptr 0 0,.d tI (d:Int)] (Tq s i) q_ref15_parser_alt_rd (r,ok,s,(j:Int),())
 |0,d,h=>by
  have:d=33:=by omega
  subst this;have a:=TA hs 33 zct;have c:Rd s (λ_=>none) _:=a.imp λi _=>rfl;have e:=Y5 hs Uz 33 c;have f:Rd s (λ_=>none) _:=e.imp λi g=>Vd 32 3 i g;exact(Y3 hs Uz 33 f).imp λi g=>Vd 124 4 i g
 |b+1,d,h=>by have k:=HH hn b;have l:=zcs hs hc d (by omega) (Tt hs hn hc b (d+1) (by omega));have a:=TA hs d l;have e:=Y5 hs (Dd hn k) d a;exact Y3 hs (LG (Dd hn k) (by simp) 3) d e
end
def ParsedX(s:List UInt8)(c:Rx×Int×Unit):Prop:=(∃r,mg r=0/\jf r=s/\c=(r,0,()))\/((∀r,mg r=0->jf r≠s)/\c=(.mk 0 0 0 [],2,()))
theorem EK{r:Rx}(h:mg r=0):dF r=true/\sz r<=64/\Ts r<=16:=by obtain⟨a,b⟩:=QE h;have:=zfa r 1 0 h;exact⟨a,b,by omega⟩
theorem DZ{num:Nat->Option (Int×Nat)}{s:List UInt8}(hn:NumOk s num){b:Nat}(d:16<=b){r:Rx}(h:mg r=0)(hp:jf r=s):GL num s b 0=some (r,s.length):=by obtain⟨a,_,c⟩:=EK h;subst hp;exact zbX hn a (by omega)
theorem ParsedX.pxUniq{s:List UInt8}(hs:s.length<=1048576){c z:Rx×Int×Unit}(h:ParsedX s c)(h':ParsedX s z):c=z:=by
 obtain⟨num,hn,_⟩:=zfZ s hs;rcases h with⟨r,E,J,rfl⟩|⟨E,rfl⟩<;>rcases h' with⟨R,H,N,rfl⟩|⟨H,rfl⟩;·have I:=DZ hn (b:=16) (by simp) E J;rw[DZ hn (by simp) H N]at I;grind
 all_goals grind
theorem zdL:∀(r:Rx),dF r=true->sz r<=1000->zdK r:=by
 refine lA λk lo up ks c b hs=>?_;obtain⟨nd,a⟩:=well_iff.1 b;have hl:=IE ks;simp only[sz]at hs;have d:lo=0/\up=0\/0<=lo/\lo<=up/\up<=4294967295:=by
  by_cases e:k=1;·exact .inr (nd.rng e)
  ·exact .inl (nd.zero e)
 have f:=nd.known;have g:IntKind.i64.min= -9223372036854775808:=rfl;have h:IntKind.i64.max=9223372036854775807:=rfl;refine⟨⟨by omega,by omega⟩,⟨by omega,by omega⟩,⟨by omega,by omega⟩,X_ (show ks.length<=1000 by omega) (by decide),(JK ks).2 λr hr=>c r hr (a r hr) (by have:=vE hr;omega)⟩
theorem ParsedX.ok{s:List UInt8}{c:Rx×Int×Unit}(h:ParsedX s c):zdK c.1:=by
 rcases h with⟨r,z,_,rfl⟩|⟨_,rfl⟩;·obtain⟨E,H,_⟩:=EK z;exact zdL r E (by omega)
 ·exact⟨by decide,by decide,by decide,by simp,trivial⟩
theorem FB(s:List UInt8)(hs:s.length<=1048576):∃c:Rx×Int×Unit,ParsedX s c/\aC tbl oe [.d tS s] [] eV c:=by
 obtain⟨num,hn,hc⟩:=zfZ s hs;refine om (sh:=eV) (λ_=>rfl) (zc1 Ql rfl (λO n=>bK (F8 O n s)) ?_);unfold F8;refine jE (zcr hs hn hc 33 0 rfl 0 (z_ _)) ?_;cases e:GL num s 33 0 with
 |none=>refine aa ⟨_,rfl,.inr ⟨λr hr hp=>?_,rfl⟩⟩;rw[DZ hn (by simp) hr hp]at e;grind|some x=>
  obtain⟨r,j⟩:=x;obtain⟨k,l,p⟩:=HH hn 33 0 r j (z_ _) e;have g:∀a,mg a=0->jf a=s->a=r:=λa d f=>by rw[DZ hn (by simp) d f]at e;grind
  show Wp (λn=>d_ (d_ (au (s5 tbl n) kK [.d .rx (Rx.mk r.out.1 r.out.2.1 r.out.2.2.1 r.out.2.2.2.1)] [] iW) _) _) _;rw[cP];refine ae (aj (OC r (by omega)) (ae (bn (b:= !(jf r==s)) (λh=>aa ?_) ?_)));·grind
  ·refine ao (λh=>aa (aa ⟨_,rfl,.inr ⟨λa d f=>?_,rfl⟩⟩)) λh=>aa (aa ⟨_,rfl,.inl ⟨r,?_,?_,?_⟩⟩);·grind
   ·grind
   ·grind
   ·show(Rx.mk r.out.1 r.out.2.1 r.out.2.2.1 r.out.2.2.2.1,(0:Int),())=_;rw[cP]
theorem Fv(s:List UInt8)(hs:s.length<=1048576):∃c:Rx×Int×Unit,ParsedX s c/\aC tbl kH [.d tS s] [] eR c:=by
 obtain⟨num,hn,hc⟩:=zeO s hs;refine om (sh:=eR) (λ_=>rfl) (aA P0 rfl (λO n=>bK (FN O n s)) ?_);unfold FN;obtain⟨r,ok,j,v,e,a⟩:=Tt hs hn hc 32 1 rfl 0 (z_ _);refine aj a ?_;have k:∀d,mg d=0->jf d=s->d=r/\ok=true/\j=s.length:=λd f g=>by rw[DZ hn (by simp) f g]at e;grind
 refine ae (bn (b:=decide (j<s.length)) (λ_=>aa ?_) ?_);·simp
 rw[cP];have u:ok=true->sz r<=1048576:=λh=>by rw[h]at e;have:=HH hn 32 0 r j (z_ _) e;omega
 refine ae (bn (b:=(mg r != 0)) (λh=>?_) ?_)
 ·have h:((!ok)||decide (j<s.length))=false:=h;have l:ok=true:=by grind
  exact aj (Oi r (u l)) (aa rfl)
 refine ae (bn (b:= !(jf r==s)) (λh=>?_) ?_)
 ·have h:((!ok)||decide (j<s.length)||(mg r != 0))=false:=h;have p:mg r=0:=by grind
  obtain⟨f,g,_⟩:=EK p;exact aj (KR r f (by omega)) (aa rfl)
 refine ao (λh=>aa ⟨_,rfl,.inr ⟨λd f g=>?_,rfl⟩⟩) λh=>aa ⟨_,rfl,.inl ⟨r,?_,?_,rfl⟩⟩;all_goals grind
open Go Go.Av Go.Ev Go.Pl
def cL(l:List Nat):List Int:=l.map fun(k:Nat)=>(k:Int)
theorem zcS(a b:List Nat):cL (a++b)=cL a++cL b:=v_
theorem gY(l:List Nat):(cL l).length=l.length:=e_ _
theorem Xe{l:List Nat}{i:Nat}(h:i<l.length):(cL l)[i]'(by rw[gY];exact h)=(l[i]:Int):=by simp[cL]
theorem XP{a:List Nat}{i:Nat}(h:i<a.length)(b:List Nat):pS (a.take (i+1)) b=pS (a.take i) b++pS [a[i]] b:=by unfold pS;rw[l_,b_ h,List.flatMap_append];rfl
theorem OE:∀(r:Rx),sz r<=1000000->aC tbl oh [.d .rx r] [] kR ((cnt r:Int),()):=by
 refine lA λk lo up ks h hs=>?_;obtain⟨e,d⟩:=GU hs;refine ap rfl (aA Qn rfl (λO m=>bK (Ga O m (.mk k lo up ks))) ?_);unfold Ga;have g:cnt (.mk k lo up ks)<=1000000:=X_ (zcY _) hs;simp only[cnt]at g;have hc:∀i,fx (ks.take i)<=fx ks:=λi=>by
  have:fx ks=fx (ks.take i)+fx (ks.drop i):=by rw[<-Di,B_]
  omega
 have j:∀n:Nat,(d_ (d_ (bif (k==(1:Int))then some true else some (k==(2:Int))) λv=>bif v then some (((1:Int),()):Int×Unit)else some ((0:Int),())) fun(v:Int×Unit)=>some v)=some (((bif k==1||k==2 then 1 else 0:Nat):Int),()):=λ_=>by grind
 have c:(d_ (bif (k==(1:Int))then some true else some (k==(2:Int))) λv=>bif v then some (((1:Int),()):Int×Unit)else some ((0:Int),()))=some (((bif k==1||k==2 then 1 else 0:Nat):Int),()):=by grind
 refine ae (eK (a:=(((bif k==1||k==2 then 1 else 0:Nat):Int),())) (λ_=>c) ?_);refine ae (bb (N:=ks.length) (I:=λi s=>s=((((bif k==1||k==2 then 1 else 0)+fx (ks.take i):Nat):Int),(i:Int),())) (by simp[fx]) (λi s b hs=>?_) λs hs=>?_)
 ·subst hs;unfold uu;refine a7 b (aG b ?_);rw[cP];have hr:=a_ b;refine aj (h ks[i] hr (by grind)) (aa ?_);have f:fx (ks.take (i+1))=fx (ks.take i)+cnt ks[i]:=by rw[l_,b_ b,Di];simp[fx]
  have:=hc (i+1);refine ai_ ?_ (ai_ (aB b (by omega)) rfl);show c_ .i64 ((((bif k==1||k==2 then 1 else 0)+fx (ks.take i):Nat):Int)+(cnt ks[i]:Int))=_;rw[wrap_i64 (by omega) (by omega),f];omega
 ·subst hs;unfold uu;refine aU (aa (aa ?_));rw[m_];rfl
structure FolR(n:Nat)(F:List (List Int))(P:List (Nat×Nat)):Prop where
 len:F.length=n
 nd:∀l∈F,l.Nodup
 bd:∀l∈F,∀x∈l,0<=x/\x<(n:Int)
 mem:∀p (h:p<F.length) (q:Nat),(q:Int)∈F[p]↔(p,q)∈P
theorem FolR.congr{n:Nat}{F:List (List Int)}{P z:List (Nat×Nat)}(h:FolR n F P)(e:∀x,x∈P↔x∈z):FolR n F z:=⟨h.len,h.nd,h.bd,λp hp q=>(h.mem p hp q).trans (e _)⟩
theorem FolR.add{n:Nat}{F:List (List Int)}{P:List (Nat×Nat)}(h:FolR n F P){p q:Nat}(hp:p<F.length)(hq:q<n)(hn:(q:Int)∉F[p]):FolR n (F.set p (F[p]++[(q:Int)])) (P++[(p,q)]):=by
 have z:∀l∈F.set p (F[p]++[(q:Int)]),l∈F\/l=F[p]++[(q:Int)]:=λl hl=>by grind
 refine⟨by rw[Z_,h.len],λl hl=>?_,λl hl x J=>?_,λN R q'=>?_⟩
 ·rcases z l hl with H|rfl;·exact h.nd l H
  ·exact List.nodup_append.2 ⟨h.nd _ (a_ hp),by simp,λa U b Y=>by grind⟩
 ·rcases z l hl with H|rfl;·exact h.bd l H x J
  ·rcases w_.1 J with I|I;·exact h.bd _ (a_ hp) x I
   grind
 ·have E:N<F.length:=by grind
  rw[O_];split;·rename_i e;subst e;simp only[w_,n_,h.mem p hp,Prod.mk.injEq,true_and];grind
  ·rename_i e;simp only[w_,n_,h.mem N E,Prod.mk.injEq];grind
theorem FolR.one{n:Nat}{F:List (List Int)}{P:List (Nat×Nat)}(h:FolR n F P)(H:∀p q,(p,q)∈P->p<n):FolR (n+1) (F++[[]]) P:=by
 refine⟨by simp[h.len],λl hl=>?_,λl hl x J=>?_,λp hp q=>?_⟩
 ·rcases w_.1 hl with z|z;·exact h.nd l z
  grind
 ·rcases w_.1 hl with z|z;·have:=h.bd l z x J;omega
  grind
 ·by_cases E:p<F.length;·rw[List.getElem_append_left E];exact h.mem p E q
  ·have:p=F.length:=by grind
   subst this;simp only[List.getElem_concat_length,List.not_mem_nil,false_iff];intro I;have:=H _ _ I;have:=h.len;omega
def pZ(M:Nat)(P:List (Nat×Nat)):List (List Bool):=(L_ M).map λi=>(L_ M).map λk=>decide ((i,k)∈P)
theorem Vv(M:Nat)(P:List (Nat×Nat)):(pZ M P).length=M:=by simp[pZ]
theorem Ng{M:Nat}{P:List (Nat×Nat)}{i:Nat}(h:i<(pZ M P).length):(pZ M P)[i]=(L_ M).map λk=>decide ((i,k)∈P):=by simp[pZ]
theorem zdv{M:Nat}{P:List (Nat×Nat)}{i k:Nat}(h:i<M)(j:k<M):(pZ M P).set i (((L_ M).map λk=>decide ((i,k)∈P)).set k true)=pZ M (P++[(i,k)]):=by
 refine s_ (by simp[pZ]) λa c d=>?_;simp only[O_,Ng,Z_]at c⊢;split;·rename_i e;subst e;refine s_ (by simp) λb f g=>?_;grind
 grind
theorem jL(a b:List Int)(c:a.length<=1000000)(d:b.length<=1000000):aC tbl jZ [.d (.list tI) a,.d (.list tI) b] [] iK (a++b,()):=by refine ap rfl (aA Ti rfl (λO m=>bK (Hu O m a b)) ?_);unfold Hu;refine aD (decide_eq_true (by grind)) (aD (decide_eq_true (by grind)) (aa ?_));simp
theorem vN(x y:Int)(lo a:List Int)(F:List (List Bool))(b:lo.length<=1000000)(c:a.length<=1000000):aC tbl dN [.ptr 0 0,.d tI x,.d tI y] [.box bo [.sl 1,.sl 2,.sl 3],.vec fM tI lo,.vec fM tI a,.tree fj (.s 4 1 .e .e) (.list tB) F none] cO (([(lo.length:Int)],[(lo.length:Int)],false,()),lo++[x],a++[y],F,()):=by refine ap rfl (aA BK rfl (λO m=>bK (qk O m x y lo a F)) ?_);unfold qk;exact aD (decide_eq_true (by grind)) (aD (decide_eq_true (by grind)) (aa rfl))
theorem np{M:Nat}(P:List (Nat×Nat))(lo up:List Int){la fi:List Nat}(h:∀p∈la,p<M)(e:∀q∈fi,q<M)(n:la.length<=1000000)(r:fi.length<=1000000)(u:M<=1000000): aC tbl dx [.ptr 0 0,.d (.list tI) (cL la),.d (.list tI) (cL fi)] [.box bo [.sl 1,.sl 2,.sl 3],.vec fM tI lo,.vec fM tI up,.tree fj (.s 4 1 .e .e) (.list tB) (pZ M P) none] cp (lo,up,pZ M (P++pS la fi),()):=by
 refine ap rfl (aA Ai rfl (λO m=>bK (pL O m (cL la) (cL fi) lo up (pZ M P))) ?_);unfold pL;refine ae (bb (N:=(cL la).length) (I:=λi s=>s=((i:Int),lo,up,pZ M (P++pS (la.take i) fi),())) (by simp[pS]) ?_ ?_)
 ·rintro i s a rfl;have f:i<la.length:=by rw[gY]at a;omega
  have hp:=h _ (a_ f);unfold gX;refine a7 a (aG a ?_);rw[Xe f];refine ae (bb (N:=(cL fi).length) (I:=λj s=>s=((j:Int),lo,up,pZ M (P++pS (la.take i) fi++pS [la[i]] (fi.take j)),())) (by simp[pS]) ?_ ?_)
  ·rintro j s b rfl;have g:j<fi.length:=by rw[gY]at b;omega
   have l:=e _ (a_ g);unfold gW;refine a7 b (aG b ?_);rw[Xe g];have c:la[i]<(pZ M (P++pS (la.take i) fi++pS [la[i]] (fi.take j))).length:=by rw[Vv];omega
   have hg:=b_ c;rw[Ng]at hg;refine aG c (aD (decide_eq_true (by simp)) ?_);simp only[i_];refine mP hg (mP hg (aD (ad_ _) ?_));have d:fi[j]<((L_ M).map λk=>decide ((la[i],k)∈P++pS (la.take i) fi++pS [la[i]] (fi.take j))).length:=by grind
   refine aG d (mP (b_ d) (mP hg (aa ?_)));rw[aB b (by rw[gY];omega),zdv hp l];congr 4;rw[l_,b_ g];simp only[pS,List.flatMap_cons,List.flatMap_nil,List.append_nil,v_,V_,N_,List.map_nil,A_]
  ·rintro s rfl;unfold gW;refine aU (aa (aa ?_));rw[aB a (by rw[gY];omega),gY,m_,XP f,A_]
 ·rintro s rfl;unfold gX;refine aU (aa (aa ?_));rw[gY,m_]
theorem zh7{ks:List Rx}(b:∀r∈ks,dF r=true)(o i:Nat):Lie o (pA (ks.take i) o (Pl.g0 true))/\(pA (ks.take i) o (Pl.g0 true)).sp.length=fx (ks.take i):=by
 have hl:=Bg (.mk 3 0 0 (ks.take i)) o;have e:ow (.mk 3 0 0 (ks.take i)) o=pA (ks.take i) o (Pl.g0 true):=by simp[ow]
 rw[e]at hl;refine⟨hl,?_⟩;have:∀(l:List Rx) (a:G),(∀r∈l,r∈ks)->(pA l o a).sp.length=a.sp.length+fx l:=by intro l;induction l with|nil=>intro a _;simp[pA,fx]|cons r l c=>intro a hl;have hr:=hl r (j_ ..);obtain⟨d,h⟩:=tz r (b r hr) (o+a.sp.length);have f:=c (Ac a (ow r (o+a.sp.length))) λx g=>hl x (k_ _ g);simp only[pA,f,fx];simp only[Ac,U_,d];omega
 have:=this (ks.take i) (Pl.g0 true) λr hr=>G_ hr;simpa[Pl.g0]using this
theorem zh6{ks:List Rx}(b:∀r∈ks,dF r=true)(o i:Nat):Lie o (lU (ks.take i) o (Pl.g0 false))/\(lU (ks.take i) o (Pl.g0 false)).sp.length=fx (ks.take i):=by
 have hl:=Bg (.mk 4 0 0 (ks.take i)) o;have e:ow (.mk 4 0 0 (ks.take i)) o=lU (ks.take i) o (Pl.g0 false):=by simp[ow]
 rw[e]at hl;refine⟨hl,?_⟩;have:∀(l:List Rx) (a:G),(∀r∈l,r∈ks)->(lU l o a).sp.length=a.sp.length+fx l:=by intro l;induction l with|nil=>intro a _;simp[lU,fx]|cons r l c=>intro a hl;have hr:=hl r (j_ ..);obtain⟨d,h⟩:=tz r (b r hr) (o+a.sp.length);have f:=c (HC a (ow r (o+a.sp.length))) λx g=>hl x (k_ _ g);simp only[lU,f,fx];simp only[HC,U_,d];omega
 have:=this (ks.take i) (Pl.g0 false) λr hr=>G_ hr;simpa[Pl.g0]using this
theorem RZ(ks:List Rx)(i:Nat):fx (ks.take i)<=fx ks:=by
 have:fx ks=fx (ks.take i)+fx (ks.drop i):=by rw[<-Di,B_]
 omega
theorem HP{ks:List Rx}{i:Nat}(h:i<ks.length):fx (ks.take i)+cnt ks[i]<=fx ks:=by
 have e:fx (ks.take (i+1))=fx (ks.take i)+cnt ks[i]:=by rw[l_,b_ h,Di];simp[fx]
 have:=RZ ks (i+1);omega
theorem EO{M:Nat}(E:M<=1000000):∀(r:Rx),dF r=true->sz r<=1000000->∀(lo f:List Int) (P:List (Nat×Nat)),f.length=lo.length->lo.length+cnt r<=M->aC tbl cb [.ptr 0 0,.d .rx r] [.box bo [.sl 1,.sl 2,.sl 3],.vec fM tI lo,.vec fM tI f,.tree fj (.s 4 1 .e .e) (.list tB) (pZ M P) none] bD ((cL (ow r lo.length).fi,cL (ow r lo.length).la,(ow r lo.length).em,()),lo++(ow r lo.length).sp.map (·.1),f++(ow r lo.length).sp.map (·.2),pZ M (P++(ow r lo.length).pr),()):=by
 refine lA λk l up ks B Y hs lo f P w U=>?_;obtain⟨L,g⟩:=GU hs;obtain⟨hn,e⟩:=well_iff.1 Y;have hcs:fx ks<=cnt (.mk k l up ks):=by simp only[cnt];simp
 refine ap rfl (aA BL rfl (λO m=>bK (ql O m (.mk k l up ks) lo f (pZ M P))) ?_);unfold ql;have F:(bif (k==(0:Int))then some true else some (k==(3:Int)))=some (k==0||k==3):=by grind
 refine ae (eK (a:=(k==0||k==3)) (λ_=>F) ?_);rcases hn.known with rfl|rfl|rfl|rfl|rfl|rfl|rfl|rfl
 ·have:=len_nil (hn.leaf (by simp));subst this;refine eK (a:=some (kh bD (([],[],true,()),lo,f,pZ M P,()))) (λ_=>rfl) ?_;simp[ow,Pl.g0,cL]
 ·have:=len_nil (hn.leaf (by simp));subst this;refine ae (aj (vN l up lo f _ (by omega) (by omega)) (aa (aa ?_)));simp[ow,gAt,cL]
 ·have:=len_nil (hn.leaf (by simp));subst this;refine ae (aj (vN 0 4294967295 lo f _ (by omega) (by omega)) (aa (aa ?_)));simp[ow,gAt,cL]
 ·have u:ow (.mk 3 l up ks) lo.length=pA ks lo.length (Pl.g0 true):=by simp[ow]
  rw[u];show Wp (λn=>d_ (d_ (aL n (eO (s5 tbl n) n (.mk 3 l up ks)) ((0:Int),lo,f,pZ M P,false,([]:List Int),([]:List Int),true,())) _) _) _;refine ae (ae (bb (N:=ks.length) (I:=λi s=>s=((i:Int),lo++(pA (ks.take i) lo.length (Pl.g0 true)).sp.map (·.1),f++(pA (ks.take i) lo.length (Pl.g0 true)).sp.map (·.2),pZ M (P++(pA (ks.take i) lo.length (Pl.g0 true)).pr),false,cL (pA (ks.take i) lo.length (Pl.g0 true)).fi,cL (pA (ks.take i) lo.length (Pl.g0 true)).la,(pA (ks.take i) lo.length (Pl.g0 true)).em,())) (by simp[pA,Pl.g0,cL]) ?_ ?_))
  ·rintro i s c rfl;obtain⟨l1,l2⟩:=zh7 e lo.length i;rw[zbC c];have v:=HP c;generalize pA (ks.take i) lo.length (Pl.g0 true)=a at*;have hr:=a_ c;obtain⟨H,J⟩:=tz ks[i] (e _ hr) (lo.length+a.sp.length);have d:=Bg ks[i] (lo.length+a.sp.length);unfold eO;refine a7 c (aG c ?_);rw[cP];have hsz:=g _ hr;have hc:=B ks[i] hr (e _ hr) (by omega) (lo++a.sp.map (·.1)) (f++a.sp.map (·.2)) (P++a.pr) (by grind) (by grind);rw[show(lo++a.sp.map (·.1)).length=lo.length+a.sp.length by simp]at hc;generalize ow ks[i] (lo.length+a.sp.length)=x at*;have R:=l1.fl;have T:=l1.ll;have C:=d.fl;have D:=d.ll;refine aj hc (aj (np (P++a.pr++x.pr) _ _ (la:=a.la) (fi:=x.fi) (λp hp=>by have:=l1.la p hp;omega) (λq A=>by have:=d.fi q A;omega) (by omega) (by omega) E) ?_);have j:∀b:Bool,a.em=b->∀z:Bool,x.em=z->((((i+1:Nat):Int),lo++a.sp.map (·.1)++x.sp.map (·.1),f++a.sp.map (·.2)++x.sp.map (·.2),pZ M (P++a.pr++x.pr++pS a.la x.fi),false,(bif b then cL a.fi++cL x.fi else cL a.fi),(bif z then cL a.la else [])++cL x.la,b&&z,()):Int×List Int×List Int×List (List Bool)×Bool×List Int×List Int×Bool×Unit)=(((i+1:Nat):Int),lo++(Ac a x).sp.map (·.1),f++(Ac a x).sp.map (·.2),pZ M (P++(Ac a x).pr),false,cL (Ac a x).fi,cL (Ac a x).la,(Ac a x).em,()):=λb y z h=>by simp only[Ac,y,h,v_,A_];cases b<;>cases z<;>simp[zcS,cL]
   show Wp (λn=>d_ (bif a.em then _ else _) _) _;cases y:a.em
   ·refine ae (aa ?_);show Wp (λn=>d_ (bif !x.em then _ else _) _) _;cases h:x.em;·refine ae (aa (aj (jL [] (cL x.la) (by simp) (by rw[gY];omega)) (ae (aa (aa ?_)))));rw[aB c (by omega)];exact j false y false h
    ·refine ae (aa (aj (jL (cL a.la) (cL x.la) (by rw[gY];omega) (by rw[gY];omega)) (ae (aa (aa ?_)))));rw[aB c (by omega)];exact j false y true h
   ·refine ae (aj (jL (cL a.fi) (cL x.fi) (by rw[gY];omega) (by rw[gY];omega)) (aa ?_));show Wp (λn=>d_ (bif !x.em then _ else _) _) _;cases h:x.em;·refine ae (aa (aj (jL [] (cL x.la) (by simp) (by rw[gY];omega)) (ae (aa (aa ?_)))));rw[aB c (by omega)];exact j true y false h
    ·refine ae (aa (aj (jL (cL a.la) (cL x.la) (by rw[gY];omega) (by rw[gY];omega)) (ae (aa (aa ?_)))));rw[aB c (by omega)];exact j true y true h
  ·rintro s rfl;unfold eO;refine aU (aa (aa (aa ?_)));simp
 ·have u:ow (.mk 4 l up ks) lo.length=lU ks lo.length (Pl.g0 false):=by simp[ow]
  rw[u];show Wp (λn=>d_ (d_ (aL n (eP (s5 tbl n) n (.mk 4 l up ks)) ((0:Int),lo,f,pZ M P,false,([]:List Int),([]:List Int),false,())) _) _) _;refine ae (ae (bb (N:=ks.length) (I:=λi s=>s=((i:Int),lo++(lU (ks.take i) lo.length (Pl.g0 false)).sp.map (·.1),f++(lU (ks.take i) lo.length (Pl.g0 false)).sp.map (·.2),pZ M (P++(lU (ks.take i) lo.length (Pl.g0 false)).pr),false,cL (lU (ks.take i) lo.length (Pl.g0 false)).fi,cL (lU (ks.take i) lo.length (Pl.g0 false)).la,(lU (ks.take i) lo.length (Pl.g0 false)).em,())) (by simp[lU,Pl.g0,cL]) ?_ ?_));·rintro i s c rfl;obtain⟨l1,l2⟩:=zh6 e lo.length i;rw[zbB c];have v:=HP c;generalize lU (ks.take i) lo.length (Pl.g0 false)=a at*;have hr:=a_ c;obtain⟨H,J⟩:=tz ks[i] (e _ hr) (lo.length+a.sp.length);have d:=Bg ks[i] (lo.length+a.sp.length);unfold eP;refine a7 c (aG c ?_);rw[cP];have hsz:=g _ hr;have hc:=B ks[i] hr (e _ hr) (by omega) (lo++a.sp.map (·.1)) (f++a.sp.map (·.2)) (P++a.pr) (by grind) (by grind);rw[show(lo++a.sp.map (·.1)).length=lo.length+a.sp.length by simp]at hc;generalize ow ks[i] (lo.length+a.sp.length)=x at*;have R:=l1.fl;have T:=l1.ll;have C:=d.fl;have D:=d.ll;refine aj hc (aj (jL (cL a.fi) (cL x.fi) (by rw[gY];omega) (by rw[gY];omega)) (aj (jL (cL a.la) (cL x.la) (by rw[gY];omega) (by rw[gY];omega)) ?_));refine ae (bn (b:=x.em) (λ_=>aa rfl) (aa ?_));rw[aB c (by omega)];simp only[HC,v_,zcS,A_]
  ·rintro s rfl;unfold eP;refine aU (aa (aa (aa ?_)));simp
 ·obtain⟨x,rfl⟩:=q8 (hn.one (by simp));have hr:x∈[x]:=n_.2 rfl;have hsz:=g _ hr;have v:cnt x<=M - lo.length:=by simp only[fx]at hcs;omega
  have hc:=B x hr (e _ hr) (by omega) lo f P w (by omega);have d:=Bg x lo.length;obtain⟨H,J⟩:=tz x (e _ hr) lo.length;have Q:lU [x] lo.length (Pl.g0 false)=ow x lo.length:=rfl;have C:=d.fl;have D:=d.ll;refine ae (aj hc (ae (aj (np (P++(ow x lo.length).pr) _ _ (la:=(ow x lo.length).la) (fi:=(ow x lo.length).fi) (λp hp=>by have:=d.la p hp;omega) (λq A=>by have:=d.fi q A;omega) (by omega) (by omega) E) (aa ?_))));refine ae (bn (b:=(5:Int) != 6) (λ_=>aa rfl) (aa (aa ?_)));have u:ow (.mk 5 l up [x]) lo.length=if(5:Int)=5 then emG (zZ (ow x lo.length))else zZ (ow x lo.length):=rfl;rw[u];simp[emG,zZ]
 ·obtain⟨x,rfl⟩:=q8 (hn.one (by simp));have hr:x∈[x]:=n_.2 rfl;have hsz:=g _ hr;have v:cnt x<=M - lo.length:=by simp only[fx]at hcs;omega
  have hc:=B x hr (e _ hr) (by omega) lo f P w (by omega);have d:=Bg x lo.length;obtain⟨H,J⟩:=tz x (e _ hr) lo.length;have Q:lU [x] lo.length (Pl.g0 false)=ow x lo.length:=rfl;have C:=d.fl;have D:=d.ll;refine ae (aj hc (ae (aj (np (P++(ow x lo.length).pr) _ _ (la:=(ow x lo.length).la) (fi:=(ow x lo.length).fi) (λp hp=>by have:=d.la p hp;omega) (λq A=>by have:=d.fi q A;omega) (by omega) (by omega) E) (aa ?_))));refine ae (bn (b:=(6:Int) != 6) (λ_=>aa rfl) (aa (aa ?_)));have u:ow (.mk 6 l up [x]) lo.length=if(6:Int)=5 then emG (zZ (ow x lo.length))else zZ (ow x lo.length):=rfl;rw[u];simp[emG,zZ]
 ·obtain⟨x,rfl⟩:=q8 (hn.one (by simp));have hr:x∈[x]:=n_.2 rfl;have hsz:=g _ hr;have hc:=B x hr (e _ hr) (by omega) lo f P w (by simp only[fx]at hcs;omega);refine ae (aj hc (ae (aa ?_)));refine ae (bn (b:=true) (λ_=>aa rfl) (aa (aa ?_)));have u:ow (.mk 7 l up [x]) lo.length=emG (ow x lo.length):=rfl;rw[u];simp[emG]
section
variable {α β:Type}
theorem zhZ{xs:List α}{i:Nat}{f:Nat->α->Option β}{Q:β->Prop}(h:i<xs.length)(a:Wp (λn=>f n xs[i]) Q):Wp (λn=>d_ (aR xs (i:Int)) λ_=>d_ xs[r_ (i:Int)]? (f n)) Q:=by refine aG h ?_;grind
theorem zhg{M i:Nat}{g:Nat->Bool}{f:Nat->Bool->Option β}{Q:β->Prop}(h:i<M)(a:Wp (λn=>f n (g i)) Q):Wp (λn=>d_ (aR (uV M g) (i:Int)) λ_=>d_ (uV M g)[r_ (i:Int)]? (f n)) Q:=by refine zhZ (by rw[WJ];omega) ?_;rw[zeA];omega
end
theorem XZ{M:Nat}(k:M<=1000000):Wp (λn=>aL n (oM (s5 tbl n) n ((M:Int),())) ((0:Int),f_ (r_ (M:Int)) ([]:List Bool),())) λt=>t=(pZ M [],()):=by
 have l:pZ M []=f_ M (f_ M false):=by refine s_ (by simp[pZ]) λi e f=>?_;rw[Ng,List.getElem_replicate];refine s_ (by simp) λj g h=>by simp
 refine bb (N:=M) (I:=λi s=>s=((i:Int),(f_ M (f_ M false)).take i++f_ (M - i) [],())) (by simp) ?_ ?_
 ·rintro i s c rfl;have b:((f_ M (f_ M false)).take i++f_ (M - i) ([]:List Bool)).length=M:=by grind
  have a:i<((f_ M (f_ M false)).take i++f_ (M - i) ([]:List Bool)).length:=by omega
  unfold oM;show Wp (λn=>bif decide ((i:Int)<((f_ (r_ (M:Int)) ([]:List Bool)).length:Int))then _ else _) _;rw[R_,i_];refine a7 c ?_;show Wp (λn=>aE _ _) _;refine aD (by grind) ?_;refine aG a (aD (decide_eq_true (by simp)) ?_);rw[i_];refine mP (b_ a) (mP (b_ a) (aD (ad_ _) (mP (b_ a) (aa ?_))));rw[aB c (by omega),b,i_];congr 2;refine List.ext_getElem? λj=>?_;rw[List.getElem?_set];by_cases d:i=j;·subst d;rw[if_pos rfl,if_pos a,List.getElem?_append_left (by grind),List.take_replicate,List.getElem?_replicate,if_pos (by omega)];rfl
  grind
 ·rintro s rfl;unfold oM;show Wp (λn=>bif decide ((M:Int)<((f_ (r_ (M:Int)) ([]:List Bool)).length:Int))then _ else _) _;rw[R_,i_];refine aU (aa ?_);grind
theorem Sr{M:Nat}(d:M<=1000000)(fi la:List Nat)(em:Bool)(lo up:List Int)(F:List (List Bool))(b:∀p∈fi,p<M)(hl:fi.length<=1000000): Wp (λn=>aL n (oN (s5 tbl n) n ((cL fi,cL la,em,()),lo,up,F,())) ((0:Int),lo,up,F,cL fi,cL la,em,uV M (λ_=>false),())) λt=>t=(lo,up,F,cL fi,cL la,em,uV M (λp=>decide (p∈fi)),()):=by
 refine bb (N:=(cL fi).length) (I:=λi s=>s=((i:Int),lo,up,F,cL fi,cL la,em,uV M (λp=>decide (p∈fi.take i)),())) (by simp) ?_ ?_
 ·rintro i s a rfl;have c:i<fi.length:=by rw[gY]at a;omega
  have hp:=b _ (a_ c);unfold oN;refine a7 a (aG a ?_);rw[Xe c];refine zhg hp (aa ?_);rw[aB a (by rw[gY];omega),i_,zeC];have e:(uV M λj=>if j=fi[i]then true else decide (j∈fi.take i))=uV M λp=>decide (p∈fi.take (i+1)):=YX λj _=>by
   have f:∀x,x∈fi.take (i+1)↔x∈fi.take i\/x=fi[i]:=λx=>by rw[l_,b_ c,w_,V_,n_]
   grind
  rw[e]
 ·rintro s rfl;unfold oN;refine aU (aa ?_);rw[gY,m_]
structure CurR(M:Nat)(C:List Int)(can:Nat->Bool):Prop where
 bd:∀x∈C,0<=x/\x<(M:Int)
 mem:∀q:Nat,(q:Int)∈C↔can q=true
 len:C.length<=10000000000
theorem Ak{α β:Type}{m:Option α}{a:α}{f:Nat->α->Option β}{Q:β->Prop}(h:m=some a)(k:Wp (λn=>f n a) Q):Wp (λn=>d_ m (f n)) Q:=by grind
open Classical in
noncomputable def gl(s:List UInt8):Int:=if ∃r,mg r=0/\jf r=s then 0 else 2
theorem zaH{s:List UInt8}{c:Rx×Int×Unit}(h:ParsedX s c):c.2.1=gl s:=by
 unfold gl;rcases h with⟨r,a,b,rfl⟩|⟨a,rfl⟩;·rw[if_pos ⟨r,a,b⟩]
 grind
theorem BN(s:List UInt8)(hs:s.length<=9223372036854775807):aC tbl ku [.d tS s] [] fA (mA s,()):=by
 refine ap rfl (aA Lt rfl (λO n=>bK (BZ O n s)) ?_);unfold BZ;refine ae (vF (xs:=s) (P:=λc=>Bq c=true) (e:=(false,())) (g:=()) (λi a=>?_) ?_ (λh=>?_) λh=>?_);·unfold qn;refine a7 a (aG a ?_);refine ae (ba (b:=decide ((s[i].toNat:Int)<=122)) (λ_=>aa rfl) ?_);refine ae (bn (b:=decide ((s[i].toNat:Int)>=65)&&decide ((s[i].toNat:Int)<=90)) (λ_=>ae (ba (b:=decide ((s[i].toNat:Int)<=90)) (λ_=>aa rfl) (aa rfl))) ?_);refine ae (bn (b:=decide ((s[i].toNat:Int)>=48)&&decide ((s[i].toNat:Int)<=57)) (λ_=>ae (ba (b:=decide ((s[i].toNat:Int)<=57)) (λ_=>aa rfl) (aa rfl))) ?_);refine ae (bn (b:=((s[i].toNat:Int)==45)) (λ_=>aa rfl) (s8 ?_ (by rw[aB a hs])));show(!Bq s[i])=true↔_;cases Bq s[i]<;>simp
 ·unfold qn;exact aU (aa rfl)
 ·refine ae (ba (b:=decide ((s.length:Int)<=32)) (λ_=>aa rfl) (aa ?_));have e:mA s=(decide ((s.length:Int)>=1)&&decide ((s.length:Int)<=32)):=by unfold mA;rw[D_.2 h,M_];congr 1<;>exact decide_eq_decide.2 (by omega)
  rw[e]
 ·refine aa ?_;have e:mA s=false:=by
   unfold mA;cases e:s.all Bq;·rfl
   ·exact absurd (D_.1 e) h
  rw[e]
theorem He(s:List UInt8)(hs:s.length<=9223372036854775807):aC tbl qA [.d tS s] [] kj (mA s,()):=by
 refine ap rfl (aA Ta rfl (λO n=>bK (Hn O n s)) ?_);unfold Hn;refine ae (vF (xs:=s) (P:=λc=>Bq c=true) (e:=(false,())) (g:=()) (λi a=>?_) ?_ (λh=>?_) λh=>?_);·unfold vV;refine a7 a (aG a ?_);refine ae (ba (b:=decide ((s[i].toNat:Int)<=122)) (λ_=>aa rfl) ?_);refine ae (bn (b:=decide ((s[i].toNat:Int)>=65)&&decide ((s[i].toNat:Int)<=90)) (λ_=>ae (ba (b:=decide ((s[i].toNat:Int)<=90)) (λ_=>aa rfl) (aa rfl))) ?_);refine ae (bn (b:=decide ((s[i].toNat:Int)>=48)&&decide ((s[i].toNat:Int)<=57)) (λ_=>ae (ba (b:=decide ((s[i].toNat:Int)<=57)) (λ_=>aa rfl) (aa rfl))) ?_);refine ae (bn (b:=((s[i].toNat:Int)==45)) (λ_=>aa rfl) (s8 ?_ (by rw[aB a hs])));show(!Bq s[i])=true↔_;cases Bq s[i]<;>simp
 ·unfold vV;exact aU (aa rfl)
 ·refine ae (ba (b:=decide ((s.length:Int)<=32)) (λ_=>aa rfl) (aa ?_));have e:mA s=(decide ((s.length:Int)>=1)&&decide ((s.length:Int)<=32)):=by unfold mA;rw[D_.2 h,M_];congr 1<;>exact decide_eq_decide.2 (by omega)
  rw[e]
 ·refine aa ?_;have e:mA s=false:=by
   unfold mA;cases e:s.all Bq;·rfl
   ·exact absurd (D_.1 e) h
  rw[e]
theorem p8(l:List (List UInt8))(i:Nat)(f:i<l.length)(hl:l.length<=9223372036854775807)(hs:l[i].length<=9223372036854775807): aC tbl gJ [.d (.list tS) ((l.take (r_ (i:Int))).drop 0),.d tS l[i]] [] dj (vB l i,()):=by
 refine ap rfl (aA NR rfl (λO n=>Oa O n _ _) ?_);unfold CX;rw[aa_,i_];have d:vB l i=if mA l[i]=false then 1 else if 0<i/\Bt l[i] (l.getD (i - 1) [])=true then 16 else 0:=by unfold vB;grind
 have a:(l.take i).length=i:=by grind
 refine aj (BN l[i] hs) (ao (λh=>aa ?_) λh=>?_);·grind
 have hn:¬mA l[i]=false:=by grind
 refine ae (ba (b:=Bt l[i] (l.getD (i - 1) [])) (λc=>?_) (ao (λh=>aa ?_) λh=>aa ?_))
 ·have c:=of_decide_eq_true c;rw[a]at c⊢;have e:c_ .i64 ((i:Int) - 1)=((i - 1:Nat):Int):=by rw[wrap_i64 (by omega) (by omega)];omega
  rw[e];refine IV (x:=l.getD (i - 1) []) ?_ (aa rfl);grind
 all_goals grind
abbrev yN:Ty:=pr [.list tS,.list tS,.list tS,.list tS]
def cd(s:PS):yN.den:=(s.1.map (·.1),s.2.1.map (·.1),s.2.2.1.map (·.1),s.2.2.2.1.map (·.1),())
theorem EG{α β:Type}{f:α->β}{l:List α}{i:Nat}(a:i<l.length):(l.take i).map f++[f l[i]]=(l.take (i+1)).map f:=by rw[<-List.take_append_getElem a,v_];rfl
theorem L1(s:PS)(c:s.1.length<=1048576)(d:s.2.1.length<=1048576)(e:s.2.2.1.length<=1048576)(g:s.2.2.2.1.length<=1048576):aC tbl qw [.d yS s] [] mD (cd s,()):=by
 refine ap rfl (aA NS rfl (λO n=>bK (CY O n s)) ?_);unfold CY;have hg:∀{α:Type} {l:List α} {f:α->List UInt8} {i:Nat},i<l.length->l.length<=1048576->decide ((((l.take i).map f).length+1)*16<=140737488355328)=true:=fun{α l f i} a hl=>by grind
 refine ae (bb (N:=s.1.length) (I:=λi t=>t=((i:Int),(s.1.take i).map (·.1),())) rfl (λi t a b=>?_) λt b=>?_);·subst b;unfold rT;refine a7 a (aG a (aD rfl (aD (hg a c) (aD rfl (aa ?_)))));simp only;rw[aB a (by omega),EG (f:=λx:PLS=>x.1) a]
 subst b;unfold rT;refine aU (aa ?_);rw[g_ (p_ _)];refine ae (bb (N:=s.2.1.length) (I:=λi t=>t=((i:Int),s.1.map (·.1),(s.2.1.take i).map (·.1),())) rfl (λi t a b=>?_) λt b=>?_);·subst b;unfold rU;refine a7 a (aG a (aD rfl (aD (hg a d) (aD rfl (aa ?_)))));simp only;rw[aB a (by omega),EG (f:=λx:HLS=>x.1) a]
 subst b;unfold rU;refine aU (aa ?_);rw[g_ (p_ _)];refine ae (bb (N:=s.2.2.1.length) (I:=λi t=>t=((i:Int),s.1.map (·.1),s.2.1.map (·.1),(s.2.2.1.take i).map (·.1),())) rfl (λi t a b=>?_) λt b=>?_);·subst b;unfold rV;refine a7 a (aG a (aD rfl (aD (hg a e) (aD rfl (aa ?_)))));simp only;rw[aB a (by omega),EG (f:=λx:CLS=>x.1) a]
 subst b;unfold rV;refine aU (aa ?_);rw[g_ (p_ _)];refine ae (bb (N:=s.2.2.2.1.length) (I:=λi t=>t=((i:Int),s.1.map (·.1),s.2.1.map (·.1),s.2.2.1.map (·.1),(s.2.2.2.1.take i).map (·.1),())) rfl (λi t a b=>?_) λt b=>?_);·subst b;unfold rW;refine a7 a (aG a (aD rfl (aD (hg a g) (aD rfl (aa ?_)))));simp only;rw[aB a (by omega),EG (f:=λx:Kl=>x.1) a]
 subst b;unfold rW;refine aU (aa (aa ?_));rw[g_ (p_ _)];rfl
theorem cC(n a b:Int):aC tbl bY [.d tI n,.d tI a,.d tI b] [] bQ (decide (a<=n)&&decide (n<=b),()):=by refine ap rfl (aA Lu rfl (λO k=>bK (B0 O k n a b)) ?_);unfold B0;exact ae (ba (b:=decide (n<=b)) (λ_=>aa rfl) (aa rfl))
theorem p7(l:List (List UInt8))(n:List UInt8)(hl:l.length<=9223372036854775807):aC tbl lH [.d (.list tS) l,.d tS n] [] fp (l.any (·==n),()):=by
 refine ap rfl (aA IJ rfl (λO k=>bK (xk O k l n)) ?_);unfold xk;refine ae (xV (xs:=l) (p:=(·==n)) (g:=λ_=>(true,())) (e:=()) (λi r c=>?_) ?_ ?_)
 ·unfold nv;have a:=(o_.1 c).1;refine a7 a (IV c (ao (λh=>aa ?_) λh=>aa ?_));·grind
  ·rw[if_neg (by grind),aB a hl]
 ·unfold nv;exact aU (aa rfl)
 ·cases e:l.find? (·==n)with
  |some r=>have b:l.any (·==n)=true:=List.any_eq_true.2 ⟨r,List.mem_of_find?_eq_some e,List.find?_some (p:=(·==n)) e⟩;rw[b];exact aa rfl|none=>
   have b:l.any (·==n)=false:=by grind
   rw[b];exact aa rfl
theorem z7(k N d pl:Int)(nm:List UInt8)(e:Bool):(true ^^ nk yM (k,nm,N,(d,pl,()),e,()) (k,nm,0,(0,0,()),e,()))=true↔(N≠0\/d≠0\/pl≠0):=by by_cases a:N=0<;>by_cases b:d=0<;>by_cases c:pl=0<;>simp[nk,a,b,c]
theorem zdz(k N d pl:Int)(nm:List UInt8)(e:Bool):(true ^^ nk yM (k,nm,N,(d,pl,()),e,()) (k,[],N,(0,0,()),e,()))=true↔(nm≠[]\/d≠0\/pl≠0):=by by_cases a:nm=[]<;>by_cases b:d=0<;>by_cases c:pl=0<;>simp[nk,a,b,c]
theorem zdy(k N d pl:Int)(nm:List UInt8)(c:Bool):(true ^^ nk yM (k,nm,N,(d,pl,()),c,()) (k,[],0,(d,pl,()),c,()))=true↔(nm≠[]\/N≠0):=by by_cases a:nm=[]<;>by_cases b:N=0<;>simp[nk,a,b]
theorem tJ{b:Bool}{P:Prop}(h:b=false)(e:b=true↔P):¬P:=λp=>by rw[e.2 p]at h;cases h
theorem EM(s:PS)(m:MAT)(hs:okD yS s)(H:gU m.2.2.2.1.1):aC tbl jc [.d yN (cd s),.d yM m] [] bB (wX s m,()):=by
 obtain⟨k,nm,N,⟨d,pl,⟨⟩⟩,g,⟨⟩⟩:=m;refine ap rfl (aA Fl rfl (λO n=>bK (vd O n (cd s) (k,nm,N,(d,pl,()),g,()))) ?_);unfold vd;refine ae (ae ?_);have j:(s.1.map (·.1)).length<=9223372036854775807:=by rw[e_];exact hs.1.1
 have l:(s.2.1.map (·.1)).length<=9223372036854775807:=by rw[e_];exact hs.2.1.1
 have p:(s.2.2.1.map (·.1)).length<=9223372036854775807:=by rw[e_];exact hs.2.2.1.1
 by_cases u:k=1
 ·subst u;rw[Bp (.inl rfl)];have c:(s.1.map (·.1)).any (·==nm)=Ln s 1 nm:=by rw[W_];rfl
  refine aF rfl (aa (aF rfl (ao (λh=>aa (aa ?_)) λh=>?_)));·rw[if_pos ((z7 _ _ _ _ _ _).1 h)]
  ·rw[if_neg (tJ h (z7 _ _ _ _ _ _))];refine Ak (a:=s.1.map (·.1)) rfl (aj (p7 _ nm j) ?_);rw[c];refine ao (λh=>aa (aa ?_)) λh=>aa (aa ?_);all_goals grind
 by_cases v:k=2
 ·subst v;rw[Bp (.inr (.inl rfl))];have c:(s.2.1.map (·.1)).any (·==nm)=Ln s 2 nm:=by rw[W_];rfl
  refine an rfl (aF rfl (aa (aF rfl (ao (λh=>aa (aa ?_)) λh=>?_))));·rw[if_pos ((z7 _ _ _ _ _ _).1 h)]
  ·rw[if_neg (tJ h (z7 _ _ _ _ _ _))];refine Ak (a:=s.2.1.map (·.1)) rfl (aj (p7 _ nm l) ?_);rw[c];refine ao (λh=>aa (aa ?_)) λh=>aa (aa ?_);all_goals grind
 by_cases w:k=3
 ·subst w;rw[Bp (.inr (.inr rfl))];have c:(s.2.2.1.map (·.1)).any (·==nm)=Ln s 3 nm:=by rw[W_];rfl
  refine an rfl (an rfl (aa (aF rfl (ao (λh=>aa (aa ?_)) λh=>?_))));·rw[if_pos ((z7 _ _ _ _ _ _).1 h)]
  ·rw[if_neg (tJ h (z7 _ _ _ _ _ _))];refine Ak (a:=s.2.2.1.map (·.1)) rfl (aj (p7 _ nm p) ?_);rw[c];refine ao (λh=>aa (aa ?_)) λh=>aa (aa ?_);all_goals grind
 refine an (beq_eq_false_iff_ne.2 u) (an (beq_eq_false_iff_ne.2 v) (aa (an (beq_eq_false_iff_ne.2 w) ?_)));by_cases B:k=7
 ·subst B;rw[Vw];refine aF rfl (ae (bn (b:= !dE (d,pl,())) (λ_=>aj (gE (d,pl,()) H) (aa rfl)) ?_));refine ao (λh=>aa (aa ?_)) λh=>aa (aa ?_)
  ·by_cases e:nm≠[]\/N≠0;·grind
   ·rw[if_neg e,if_neg];intro h';rcases Bool.or_eq_true_iff.1 h with h|h;·exact e ((zdy _ _ _ _ _ _).1 h)
    grind
  ·simp only[F_]at h;rw[if_neg (tJ h.1 (zdy _ _ _ _ _ _)),if_pos (by grind)]
 refine an (beq_eq_false_iff_ne.2 B) ?_;have num:∀lo f:Int,(k=4\/k=5\/k=6\/k=8)->zfA k=lo->Ve k=f->Wp (λn=>
  bif (true ^^ nk yM (k,nm,N,(d,pl,()),g,()) (k,([]:List UInt8),N,((0:Int),(0:Int),()),g,()))then aw bB ((1:Int),())else
  d_ (au (s5 tbl n) bY [.d tI N,.d tI lo,.d tI f] [] bQ) λr=>
  bif (!r.1)then aw bB ((5:Int),())else aw bB ((0:Int),()))
  (λx=>x=some (kh bB (wX s (k,nm,N,(d,pl,()),g,()),()))):=λlo f F D E=>by
  rw[Vx F,D,E]
  refine ao (λh=>aa ?_) λh=>?_
  ·rw[if_pos ((zdz _ _ _ _ _ _).1 h)]
  ·rw[if_neg (tJ h (zdz _ _ _ _ _ _))];refine aj (cC N lo f) (ao (λh=>aa ?_) λh=>aa ?_);all_goals grind
 by_cases y:k=4;·subst y;exact aF rfl (aa (num 1 7 (by simp) rfl rfl))
 by_cases A:k=6;·subst A;exact an rfl (aF rfl (aa (num 0 16777216 (by simp) rfl rfl)))
 by_cases C:k=8;·subst C;exact an rfl (an rfl (aF rfl (aa (num 0 2000 (by simp) rfl rfl))))
 by_cases z:k=5;·subst z;exact an rfl (an rfl (an rfl (aF rfl (aa (num 0 4294967295 (by simp) rfl rfl)))))
 refine an (beq_eq_false_iff_ne.2 y) (an (beq_eq_false_iff_ne.2 A) (an (beq_eq_false_iff_ne.2 C) (an (beq_eq_false_iff_ne.2 z) (aa (aa ?_)))));rw[Nh (show k<1\/8<k by omega)]
theorem ne_eqD{a b:CL}:(true ^^ nk yA a b)=true↔¬a=b:=by rw[<-zff];cases nk yA a b<;>simp
theorem CN(a:CL):aC tbl iq [.d yA a] [] bq (i8 a,()):=by
 refine ap rfl (aA Ec rfl (λO n=>bK (ti O n a)) ?_);unfold ti;refine ae (ae ?_);by_cases y:a.1<1\/8<a.1;·have j:∀k:Int,1<=k->k<=8->(a.1==k)=false:=λk l p=>beq_eq_false_iff_ne.2 (by omega);refine an (j 1 (by simp) (by simp)) (an (j 2 (by simp) (by simp)) (aa (an (j 4 (by simp) (by simp)) (an (j 3 (by simp) (by simp)) (an (j 5 (by simp) (by simp)) ?_)))));refine ae (an (j 6 (by simp) (by simp)) (aa (an (j 7 (by simp) (by simp)) (an (j 8 (by simp) (by simp)) (aa (aa ?_))))));rw[show i8 a=15 from if_pos y]
 have d:∀(only:CL) (f:Bool),ra a=only->ou a=f->Wp (λ_=>bif (true ^^ nk yA a only)then aw bq ((1:Int),())else bif (!f)then aw bq ((5:Int),())else aw bq ((0:Int),())) (λx=>x=some (kh bq (i8 a,()))):=λonly f l p=>by
  have e:i8 a=if ¬a=only then 1 else if f=false then 5 else 0:=by unfold i8;grind
  rw[e]
  refine ao (λh=>aa ?_) λh=>ao (λh'=>aa ?_) λh'=>aa ?_
  ·rw[if_pos (ne_eqD.1 h)]
  ·rw[if_neg (λx=>by rw[ne_eqD.2 x]at h;grind),if_pos (by grind)]
  ·rw[if_neg (λx=>by rw[ne_eqD.2 x]at h;grind),if_neg (by grind)]
 have g:∀{k:Int},a.1≠k->(a.1==k)=false:=λh=>beq_eq_false_iff_ne.2 h;have c:∀{k:Int},a.1=k->(a.1==k)=true:=λh=>beq_iff_eq.2 h;by_cases l:a.1=1
 ·refine aF (c l) (aa (aF (c l) (aj (cC a.2.1 0 4294967295) (aa (d _ _ ?_ ?_)))));·unfold ra;grind
  ·unfold ou;grind
 refine an (g l) ?_;by_cases p:a.1=2
 ·refine aF (c p) (aa (aF (c p) (aj (cC a.2.1 0 4294967295) (aa (d _ _ ?_ ?_)))));·unfold ra;grind
  ·unfold ou;grind
 refine an (g p) (aa ?_);by_cases u:a.1=4
 ·refine aF (c u) (aj (cC a.2.1 0 4294967295) (aa (d _ _ ?_ ?_)));·unfold ra;grind
  ·unfold ou;grind
 refine an (g u) ?_;by_cases s:a.1=3
 ·refine aF (c s) (aj (cC a.2.1 0 16777216) (aa (d _ _ ?_ ?_)));·unfold ra;grind
  ·unfold ou;grind
 refine an (g s) ?_;by_cases v:a.1=5
 ·refine aF (c v) (aa (d _ _ ?_ ?_));·unfold ra;grind
  ·unfold ou;grind
 refine an (g v) (ae ?_);by_cases r:a.1=6
 ·refine aF (c r) (aa (aF (c r) (aa (d _ _ ?_ ?_))));·unfold ra;grind
  ·unfold ou;grind
 refine an (g r) (aa ?_);by_cases w:a.1=7
 ·refine aF (c w) (aa (d _ _ ?_ ?_));·unfold ra;grind
  ·unfold ou;grind
 refine an (g w) (aF (c (by omega)) (aj (cC a.2.2.1 1 4294967295) ?_));refine ae (ba (b:=decide (1<=a.2.1)&&decide (a.2.1<=16)) (λ_=>aj (cC a.2.1 1 16) (aa rfl)) (aa (d _ _ ?_ ?_)));·unfold ra;grind
 ·unfold ou;grind
theorem Am(r:CRU):aC tbl gg [.d yC r] [] cK (oo r,()):=by
 refine ap rfl (aA BC rfl (λO n=>bK (qc O n r)) ?_);unfold qc;refine aj (cC r.2.1 (-1) 65535) (ae (bn (b:= !(decide (-1<=r.2.2.1)&&decide (r.2.2.1<=65535))) (λ_=>aj (cC r.2.2.1 (-1) 65535) (aa rfl)) ?_));refine ao (λh=>aa ?_) λh=>aa ?_;·rw[show oo r=5 from if_pos (by grind)]
 ·rw[show oo r=0 from if_neg (by grind)]
theorem HF{α:Type}{p:α->Bool}{l:List α}:l.any p=(l.find? p).isSome:=by grind
theorem Gl(s:PS)(hs:okD yS s)(a:List Gd)(t:Gd)(w:a.length<=9223372036854775807)(v:okD yT t):aC tbl jX [.d yN (cd s),.d (.list yT) a,.d yT t] [] bG (iZ s a t,()):=by
 refine ap rfl (aA G1 rfl (λO n=>bK (vP O n (cd s) a t)) ?_);unfold vP;have j:∀m∈t.2.1,gU m.2.2.2.1.1:=λm j=>((v.2.1.2 m j).2.2.2.1).1;refine aj (BN t.1 v.1) (ao (λh=>aa ?_) λh=>?_);·rw[show iZ s a t=1 from if_pos (by grind)]
 have hn:¬mA t.1=false:=by grind
 refine ae (xV (xs:=a) (p:=(·.1==t.1)) (g:=λ_=>((7:Int),())) (e:=()) (λi r c=>?_) ?_ ?_)
 ·unfold lW;have d:=(o_.1 c).1;refine a7 d (IV c (ao (λh=>aa ?_) λh=>aa ?_));·grind
  ·rw[if_neg (by grind),aB d w]
 ·unfold lW;exact aU (aa rfl)
 have b:a.any (·.1==t.1)=(a.find? (·.1==t.1)).isSome:=HF;cases e:a.find? (·.1==t.1)with
 |some r=>rw[e]at b;refine aa ?_;have b:a.any (·.1==t.1)=true:=b;rw[show iZ s a t=7 from by unfold iZ;grind]|none=>
  rw[e]at b;have z:¬a.any (·.1==t.1)=true:=by grind
  refine ao (λh=>aa ?_) λh=>?_;·rw[show iZ s a t=4 from by unfold iZ;grind]
  have x:¬t.2.1.length>64:=by grind
  refine ae (lR (l:=t.2.1) (f:=wX s) (enc:=λi=>((i:Int),())) (oB:=λe=>(e,())) (oE:=()) (λi c=>?_) ?_ ?_)
  ·unfold lX;refine a7 c (aG c (aj (EM s _ hs (j _ (a_ c))) (ao (λh=>aa ?_) λh=>aa ?_)));·grind
   ·rw[if_pos (by grind),aB c (by omega)]
  ·unfold lX;exact aU (aa rfl)
  by_cases k:bT (wX s) t.2.1=0
  ·rw[if_pos k];refine ao (λh=>aa ?_) λh=>?_;·rw[show iZ s a t=4 from by unfold iZ;grind]
   have y:¬t.2.2.1.length>64:=by grind
   refine ae (lR (l:=t.2.2.1) (f:=i8) (enc:=λi=>((i:Int),())) (oB:=λe=>(e,())) (oE:=()) (λi c=>?_) ?_ ?_)
   ·unfold lY;refine a7 c (aG c (aj (CN _) (ao (λh=>aa ?_) λh=>aa ?_)));·grind
    ·rw[if_pos (by grind),aB c (by omega)]
   ·unfold lY;exact aU (aa rfl)
   by_cases u:bT i8 t.2.2.1=0
   ·rw[if_pos u];refine aj (cC t.2.2.2.1 1 3) (ao (λh=>aa ?_) λh=>aa ?_);·rw[show iZ s a t=15 from by unfold iZ;grind]
    ·rw[show iZ s a t=0 from by unfold iZ;grind]
   ·rw[if_neg u];refine aa ?_;rw[show iZ s a t=bT i8 t.2.2.1 from by unfold iZ;grind]
  ·rw[if_neg k];refine aa ?_;rw[show iZ s a t=bT (wX s) t.2.1 from by unfold iZ;grind]
def WG(s:PS)(l:List Gd)(i:Nat):Int:=match l[i]? with|some t=>iZ s (l.take i) t|none=>0
theorem zaI(s:PS)(p:Kl):uR s p=if jG (WG s p.2.1) p.2.1.length≠0 then jG (WG s p.2.1) p.2.1.length else if p.2.2.1≠1/\p.2.2.1≠2 then 15 else 0:=rfl
theorem WH{s:PS}{l:List Gd}{i:Nat}(a:i<l.length):WG s l i=iZ s (l.take i) l[i]:=by unfold WG;rw[b_ a]
theorem CO(s:PS)(hs:okD yS s)(p:Kl)(hp:okD yO p):aC tbl ir [.d yN (cd s),.d yO p] [] cw (uR s p,()):=by
 refine ap rfl (aA Ed rfl (λO n=>bK (tj O n (cd s) p)) ?_);unfold tj;have hl:p.2.1.length<=9223372036854775807:=hp.2.1.1;refine ae (nR (N:=p.2.1.length) (f:=WG s p.2.1) (enc:=λi=>((i:Int),())) (oB:=λe=>(e,())) (oE:=()) (λi a=>?_) ?_ ?_)
 ·unfold jO;refine a7 a (aG a (aD (decide_eq_true (by simp)) (aD (by grind) ?_)));rw[aa_,i_];refine aj (Gl s hs _ _ (by grind) (hp.2.1.2 _ (a_ a))) ?_;rw[<-WH a];refine ao (λh=>aa ?_) λh=>aa ?_;·grind
  ·rw[if_pos (by grind),aB a hl]
 ·unfold jO;exact aU (aa rfl)
 rw[zaI];by_cases e:jG (WG s p.2.1) p.2.1.length=0;·rw[if_pos e,if_neg (not_not_intro e)];refine ae (ba (b:=(p.2.2.1 != 2)) (λ_=>aa rfl) (ao (λh=>aa ?_) λh=>aa ?_));all_goals grind
 ·rw[if_neg e,if_pos e];exact aa rfl
theorem zeP(v:List PRU)(b:∀r∈v,gU r.2.1.1)(i:Nat)(a:i<v.length):aC tbl ei [.d tI (i:Int),.ptr 0 0] [.box co [.d (.list yR) v]] ev (mB v[i],v,()):=by refine ap rfl (aA Cy rfl (λO n=>bK (ry O n (i:Int) v)) ?_);unfold ry;exact aG a (aj (Ft _ (b _ (a_ a))) (aa rfl))
theorem zeQ(v:List HRU)(e:∀r∈v,r.2.1.length<=1048576)(i:Nat)(a:i<v.length):aC tbl ek [.d tI (i:Int),.ptr 0 0] [.box cZ [.d (.list yH) v]] ey (gl v[i].2.1,v,()):=by refine ap rfl (aA Cz rfl (λO n=>bK (rz O n (i:Int) v)) ?_);unfold rz;obtain⟨c,b,d⟩:=FB v[i].2.1 (e _ (a_ a));rw[<-zaH b];exact aG a (aj d (aa rfl))
theorem zeR(v:List CRU)(b:∀r∈v,True)(i:Nat)(a:i<v.length):aC tbl et [.d tI (i:Int),.ptr 0 0] [.box bZ [.d (.list yC) v]] ez (oo v[i],v,()):=by refine ap rfl (aA CC rfl (λO n=>bK (rA O n (i:Int) v)) ?_);unfold rA;exact aG a (aj (Am _) (aa rfl))
theorem zcv(v:List PRU)(hl:v.length<=9223372036854775807)(b:∀r∈v,gU r.2.1.1):aC tbl lK [.d tI (v.length:Int),.clo oZ [0]] [.box co [.d (.list yR) v]] fq (bT mB v,v,()):=by
 refine ap rfl (aA IL rfl (λO n=>bK (xm O n (v.length:Int) v)) ?_);unfold xm;refine ae (lR (l:=v) (f:=mB) (enc:=λi=>((i:Int),v,())) (oB:=λe=>(e,v,())) (oE:=(v,())) (λi a=>?_) ?_ ?_)
 ·unfold ny;refine a7 a (aj (zeP v b i a) (ao (λh=>aa ?_) λh=>aa ?_));·rw[if_neg (by simpa using h)]
  ·rw[if_pos (by simpa using h),aB a hl]
 ·unfold ny;exact aU (aa rfl)
 by_cases e:bT mB v=0;·rw[if_pos e];refine aa ?_;rw[e]
 ·rw[if_neg e];exact aa rfl
theorem zcw(v:List HRU)(hl:v.length<=9223372036854775807)(b:∀r∈v,r.2.1.length<=1048576):aC tbl ix [.d tI (v.length:Int),.clo o7 [0]] [.box cZ [.d (.list yH) v]] dB (bT (λr=>gl r.2.1) v,v,()):=by
 refine ap rfl (aA Eh rfl (λO n=>bK (tq O n (v.length:Int) v)) ?_);unfold tq;refine ae (lR (l:=v) (f:=(λr=>gl r.2.1)) (enc:=λi=>((i:Int),v,())) (oB:=λe=>(e,v,())) (oE:=(v,())) (λi a=>?_) ?_ ?_)
 ·unfold jS;refine a7 a (aj (zeQ v b i a) (ao (λh=>aa ?_) λh=>aa ?_));·rw[if_neg (by simpa using h)]
  ·rw[if_pos (by simpa using h),aB a hl]
 ·unfold jS;exact aU (aa rfl)
 by_cases e:bT (λr=>gl r.2.1) v=0;·rw[if_pos e];refine aa ?_;rw[e]
 ·rw[if_neg e];exact aa rfl
theorem zcx(v:List CRU)(hl:v.length<=9223372036854775807)(b:∀r∈v,True):aC tbl iy [.d tI (v.length:Int),.clo o8 [0]] [.box bZ [.d (.list yC) v]] dC (bT oo v,v,()):=by
 refine ap rfl (aA Ei rfl (λO n=>bK (tt O n (v.length:Int) v)) ?_);unfold tt;refine ae (lR (l:=v) (f:=oo) (enc:=λi=>((i:Int),v,())) (oB:=λe=>(e,v,())) (oE:=(v,())) (λi a=>?_) ?_ ?_)
 ·unfold jT;refine a7 a (aj (zeR v b i a) (ao (λh=>aa ?_) λh=>aa ?_));·rw[if_neg (by simpa using h)]
  ·rw[if_pos (by simpa using h),aB a hl]
 ·unfold jT;exact aU (aa rfl)
 by_cases e:bT oo v=0;·rw[if_pos e];refine aa ?_;rw[e]
 ·rw[if_neg e];exact aa rfl
theorem H7{α:Type}{nm:α->List UInt8}{sz:α->Nat}{ck:α->Int}{l:List α}{i:Nat}(a:i<l.length):Lk nm sz ck l i=if vB (l.map nm) i≠0 then vB (l.map nm) i else if sz l[i]>64 then 4 else ck l[i]:=by unfold Lk;grind
theorem zhS{s:PS}(h:SmP s){i:Nat}(a:i<s.1.length):s.1[i].2.1.length<=9223372036854775807/\∀r∈s.1[i].2.1,gU r.2.1.1:=⟨(h.ok.1.2 _ (a_ a)).2.1.1,λr hr=>((h.ok.1.2 _ (a_ a)).2.1.2 r hr).2.1.1⟩
theorem zhT{s:PS}(h:SmP s){i:Nat}(a:i<s.2.1.length):s.2.1[i].2.1.length<=9223372036854775807/\∀r∈s.2.1[i].2.1,r.2.1.length<=1048576:=⟨(h.ok.2.1.2 _ (a_ a)).2.1.1,λr hr=>h.pt _ (a_ a) r hr⟩
theorem zhU{s:PS}(h:SmP s){i:Nat}(a:i<s.2.2.1.length):s.2.2.1[i].2.1.length<=9223372036854775807/\∀r∈s.2.2.1[i].2.1,True:=⟨(h.ok.2.2.1.2 _ (a_ a)).2.1.1,λ_ _=>trivial⟩
theorem zii{s:PS}(h:SmP s){i:Nat}(a:i<s.1.length):s.1[i].1.length<=9223372036854775807:=(h.ok.1.2 _ (a_ a)).1
theorem zij{s:PS}(h:SmP s){i:Nat}(a:i<s.2.1.length):s.2.1[i].1.length<=9223372036854775807:=(h.ok.2.1.2 _ (a_ a)).1
theorem zik{s:PS}(h:SmP s){i:Nat}(a:i<s.2.2.1.length):s.2.2.1[i].1.length<=9223372036854775807:=(h.ok.2.2.1.2 _ (a_ a)).1
theorem zil{s:PS}(h:SmP s){i:Nat}(a:i<s.2.2.2.1.length):s.2.2.2.1[i].1.length<=9223372036854775807:=(h.ok.2.2.2.1.2 _ (a_ a)).1
abbrev Z6(s:PS):Ob:=.box aK [.d (.list yL) s.1,.d (.list yG) s.2.1,.d (.list yD) s.2.2.1,.d (.list yO) s.2.2.2.1]
theorem zeS(s:PS)(i:Nat)(a:i<s.1.length):aC tbl fE [.d tI (i:Int),.ptr 0 0] [Z6 s] fT ((s.1[i].2.1.length:Int),s.1,s.2.1,s.2.2.1,s.2.2.2.1,()):=by refine ap rfl (aA Fc rfl (λO n=>bK (uZ O n (i:Int) s.1 s.2.1 s.2.2.1 s.2.2.2.1)) ?_);unfold uZ;exact aG a (aa rfl)
theorem zcz(s:PS)(hs:SmP s)(i:Nat)(a:i<s.1.length):aC tbl fF [.d tI (i:Int),.ptr 0 0] [Z6 s] fU (bT mB s.1[i].2.1,s.1,s.2.1,s.2.2.1,s.2.2.2.1,()):=by refine ap rfl (aA Fe rfl (λO n=>bK (u4 O n (i:Int) s.1 s.2.1 s.2.2.1 s.2.2.2.1)) ?_);unfold u4;refine aG a (aj (zcv _ (zhS hs a).1 (zhS hs a).2) (aa rfl))
theorem zeJ(s:PS)(hs:SmP s):aC tbl lJ [.d (.list tS) (s.1.map (·.1)),.clo rJ [0],.clo rK [0]] [Z6 s] dS (gO (·.1) (λl=>l.2.1.length) (λl=>bT mB l.2.1) s.1,s.1,s.2.1,s.2.2.1,s.2.2.2.1,()):=by
 refine ap rfl (aA IK rfl (λO n=>bK (xl O n (s.1.map (·.1)) s.1 s.2.1 s.2.2.1 s.2.2.2.1)) ?_);unfold xl;refine ao (λh=>aa ?_) λh=>?_;·rw[show gO (·.1) (λl=>l.2.1.length) (λl=>bT mB l.2.1) s.1=4 from if_pos (by have:=of_decide_eq_true h;rw[e_]at this;omega)]
 have d:¬s.1.length>64:=by have:=of_decide_eq_false h;rw[e_]at this;omega
 rw[show gO (·.1) (λl=>l.2.1.length) (λl=>bT mB l.2.1) s.1=jG (Lk (·.1) (λl=>l.2.1.length) (λl=>bT mB l.2.1) s.1) (s.1.map (·.1)).length from by unfold gO;rw[if_neg d,e_]];generalize g:Lk (·.1) (λl=>l.2.1.length) (λl=>bT mB l.2.1) s.1=E;refine ae (nR (N:=(s.1.map (·.1)).length) (f:=E) (enc:=λi=>((i:Int),s.1,s.2.1,s.2.2.1,s.2.2.2.1,())) (oB:=λe=>(e,s.1,s.2.1,s.2.2.1,s.2.2.2.1,())) (oE:=(s.1,s.2.1,s.2.2.1,s.2.2.2.1,())) (λi c=>?_) ?_ ?_)
 ·unfold nw;have a:i<s.1.length:=by rw[e_]at c;exact c
  have b:E i=if vB (s.1.map (·.1)) i≠0 then vB (s.1.map (·.1)) i else if s.1[i].2.1.length>64 then 4 else bT mB s.1[i].2.1:=by rw[<-g];exact H7 a
  refine a7 c (aG c (aD (decide_eq_true (by omega)) (aD (by simp;omega) ?_)));refine aj (p8 _ i c (by rw[e_];omega) (by rw[E_];exact zii hs a)) ?_;refine ao (λh=>aa ?_) λh=>?_
  ·have h:vB (s.1.map (·.1)) i≠0:=by simpa using h
   rw[if_pos h]at b;rw[b,if_neg h]
  rw[if_neg (by simpa using h)]at b;refine aj (zeS s i a) (ao (λh=>aa ?_) λh=>?_);·have h:decide ((s.1[i].2.1.length:Int)>64)=true:=h;rw[if_pos (by have:=of_decide_eq_true h;omega)]at b;rw[b,if_neg (by decide)]
  have h:decide ((s.1[i].2.1.length:Int)>64)=false:=h;rw[if_neg (by have:=of_decide_eq_false h;omega)]at b;refine aj (zcz s hs i a) (ao (λh=>aa ?_) λh=>aa ?_);·rw[b,if_neg (by simpa using h)]
  ·rw[b,if_pos (by simpa using h),aB a (by omega)]
 ·unfold nw;exact aU (aa rfl)
 by_cases e:jG E (s.1.map (·.1)).length=0;·rw[if_pos e];refine aa ?_;rw[e]
 ·rw[if_neg e];exact aa rfl
theorem zeT(s:PS)(i:Nat)(a:i<s.2.1.length):aC tbl fG [.d tI (i:Int),.ptr 0 0] [Z6 s] fV ((s.2.1[i].2.1.length:Int),s.1,s.2.1,s.2.2.1,s.2.2.2.1,()):=by refine ap rfl (aA Ff rfl (λO n=>bK (u5 O n (i:Int) s.1 s.2.1 s.2.2.1 s.2.2.2.1)) ?_);unfold u5;exact aG a (aa rfl)
theorem zcA(s:PS)(hs:SmP s)(i:Nat)(a:i<s.2.1.length):aC tbl fH [.d tI (i:Int),.ptr 0 0] [Z6 s] fW (bT (λr=>gl r.2.1) s.2.1[i].2.1,s.1,s.2.1,s.2.2.1,s.2.2.2.1,()):=by refine ap rfl (aA Fg rfl (λO n=>bK (u6 O n (i:Int) s.1 s.2.1 s.2.2.1 s.2.2.2.1)) ?_);unfold u6;refine aG a (aj (zcw _ (zhT hs a).1 (zhT hs a).2) (aa rfl))
theorem zeK(s:PS)(hs:SmP s):aC tbl iu [.d (.list tS) (s.2.1.map (·.1)),.clo rL [0],.clo rM [0]] [Z6 s] cx (gO (·.1) (λl=>l.2.1.length) (λl=>bT (λr=>gl r.2.1) l.2.1) s.2.1,s.1,s.2.1,s.2.2.1,s.2.2.2.1,()):=by
 refine ap rfl (aA Ee rfl (λO n=>bK (tk O n (s.2.1.map (·.1)) s.1 s.2.1 s.2.2.1 s.2.2.2.1)) ?_);unfold tk;refine ao (λh=>aa ?_) λh=>?_;·rw[show gO (·.1) (λl=>l.2.1.length) (λl=>bT (λr=>gl r.2.1) l.2.1) s.2.1=4 from if_pos (by have:=of_decide_eq_true h;rw[e_]at this;omega)]
 have d:¬s.2.1.length>64:=by have:=of_decide_eq_false h;rw[e_]at this;omega
 rw[show gO (·.1) (λl=>l.2.1.length) (λl=>bT (λr=>gl r.2.1) l.2.1) s.2.1=jG (Lk (·.1) (λl=>l.2.1.length) (λl=>bT (λr=>gl r.2.1) l.2.1) s.2.1) (s.2.1.map (·.1)).length from by unfold gO;rw[if_neg d,e_]];generalize g:Lk (·.1) (λl=>l.2.1.length) (λl=>bT (λr=>gl r.2.1) l.2.1) s.2.1=E;refine ae (nR (N:=(s.2.1.map (·.1)).length) (f:=E) (enc:=λi=>((i:Int),s.1,s.2.1,s.2.2.1,s.2.2.2.1,())) (oB:=λe=>(e,s.1,s.2.1,s.2.2.1,s.2.2.2.1,())) (oE:=(s.1,s.2.1,s.2.2.1,s.2.2.2.1,())) (λi c=>?_) ?_ ?_)
 ·unfold jP;have a:i<s.2.1.length:=by rw[e_]at c;exact c
  have b:E i=if vB (s.2.1.map (·.1)) i≠0 then vB (s.2.1.map (·.1)) i else if s.2.1[i].2.1.length>64 then 4 else bT (λr=>gl r.2.1) s.2.1[i].2.1:=by rw[<-g];exact H7 a
  refine a7 c (aG c (aD (decide_eq_true (by omega)) (aD (by simp;omega) ?_)));refine aj (p8 _ i c (by rw[e_];omega) (by rw[E_];exact zij hs a)) ?_;refine ao (λh=>aa ?_) λh=>?_
  ·have h:vB (s.2.1.map (·.1)) i≠0:=by simpa using h
   rw[if_pos h]at b;rw[b,if_neg h]
  rw[if_neg (by simpa using h)]at b;refine aj (zeT s i a) (ao (λh=>aa ?_) λh=>?_);·have h:decide ((s.2.1[i].2.1.length:Int)>64)=true:=h;rw[if_pos (by have:=of_decide_eq_true h;omega)]at b;rw[b,if_neg (by decide)]
  have h:decide ((s.2.1[i].2.1.length:Int)>64)=false:=h;rw[if_neg (by have:=of_decide_eq_false h;omega)]at b;refine aj (zcA s hs i a) (ao (λh=>aa ?_) λh=>aa ?_);·rw[b,if_neg (by simpa using h)]
  ·rw[b,if_pos (by simpa using h),aB a (by omega)]
 ·unfold jP;exact aU (aa rfl)
 by_cases e:jG E (s.2.1.map (·.1)).length=0;·rw[if_pos e];refine aa ?_;rw[e]
 ·rw[if_neg e];exact aa rfl
theorem zeU(s:PS)(i:Nat)(a:i<s.2.2.1.length):aC tbl fI [.d tI (i:Int),.ptr 0 0] [Z6 s] fX ((s.2.2.1[i].2.1.length:Int),s.1,s.2.1,s.2.2.1,s.2.2.2.1,()):=by refine ap rfl (aA Fh rfl (λO n=>bK (u7 O n (i:Int) s.1 s.2.1 s.2.2.1 s.2.2.2.1)) ?_);unfold u7;exact aG a (aa rfl)
theorem zcB(s:PS)(hs:SmP s)(i:Nat)(a:i<s.2.2.1.length):aC tbl fJ [.d tI (i:Int),.ptr 0 0] [Z6 s] fY (bT oo s.2.2.1[i].2.1,s.1,s.2.1,s.2.2.1,s.2.2.2.1,()):=by refine ap rfl (aA Fi rfl (λO n=>bK (u9 O n (i:Int) s.1 s.2.1 s.2.2.1 s.2.2.2.1)) ?_);unfold u9;refine aG a (aj (zcx _ (zhU hs a).1 (zhU hs a).2) (aa rfl))
theorem zeL(s:PS)(hs:SmP s):aC tbl iv [.d (.list tS) (s.2.2.1.map (·.1)),.clo rN [0],.clo rO [0]] [Z6 s] cy (gO (·.1) (λl=>l.2.1.length) (λl=>bT oo l.2.1) s.2.2.1,s.1,s.2.1,s.2.2.1,s.2.2.2.1,()):=by
 refine ap rfl (aA Ef rfl (λO n=>bK (tn O n (s.2.2.1.map (·.1)) s.1 s.2.1 s.2.2.1 s.2.2.2.1)) ?_);unfold tn;refine ao (λh=>aa ?_) λh=>?_;·rw[show gO (·.1) (λl=>l.2.1.length) (λl=>bT oo l.2.1) s.2.2.1=4 from if_pos (by have:=of_decide_eq_true h;rw[e_]at this;omega)]
 have d:¬s.2.2.1.length>64:=by have:=of_decide_eq_false h;rw[e_]at this;omega
 rw[show gO (·.1) (λl=>l.2.1.length) (λl=>bT oo l.2.1) s.2.2.1=jG (Lk (·.1) (λl=>l.2.1.length) (λl=>bT oo l.2.1) s.2.2.1) (s.2.2.1.map (·.1)).length from by unfold gO;rw[if_neg d,e_]];generalize g:Lk (·.1) (λl=>l.2.1.length) (λl=>bT oo l.2.1) s.2.2.1=E;refine ae (nR (N:=(s.2.2.1.map (·.1)).length) (f:=E) (enc:=λi=>((i:Int),s.1,s.2.1,s.2.2.1,s.2.2.2.1,())) (oB:=λe=>(e,s.1,s.2.1,s.2.2.1,s.2.2.2.1,())) (oE:=(s.1,s.2.1,s.2.2.1,s.2.2.2.1,())) (λi c=>?_) ?_ ?_)
 ·unfold jQ;have a:i<s.2.2.1.length:=by rw[e_]at c;exact c
  have b:E i=if vB (s.2.2.1.map (·.1)) i≠0 then vB (s.2.2.1.map (·.1)) i else if s.2.2.1[i].2.1.length>64 then 4 else bT oo s.2.2.1[i].2.1:=by rw[<-g];exact H7 a
  refine a7 c (aG c (aD (decide_eq_true (by omega)) (aD (by simp;omega) ?_)));refine aj (p8 _ i c (by rw[e_];omega) (by rw[E_];exact zik hs a)) ?_;refine ao (λh=>aa ?_) λh=>?_
  ·have h:vB (s.2.2.1.map (·.1)) i≠0:=by simpa using h
   rw[if_pos h]at b;rw[b,if_neg h]
  rw[if_neg (by simpa using h)]at b;refine aj (zeU s i a) (ao (λh=>aa ?_) λh=>?_);·have h:decide ((s.2.2.1[i].2.1.length:Int)>64)=true:=h;rw[if_pos (by have:=of_decide_eq_true h;omega)]at b;rw[b,if_neg (by decide)]
  have h:decide ((s.2.2.1[i].2.1.length:Int)>64)=false:=h;rw[if_neg (by have:=of_decide_eq_false h;omega)]at b;refine aj (zcB s hs i a) (ao (λh=>aa ?_) λh=>aa ?_);·rw[b,if_neg (by simpa using h)]
  ·rw[b,if_pos (by simpa using h),aB a (by omega)]
 ·unfold jQ;exact aU (aa rfl)
 by_cases e:jG E (s.2.2.1.map (·.1)).length=0;·rw[if_pos e];refine aa ?_;rw[e]
 ·rw[if_neg e];exact aa rfl
abbrev bxN(s:PS):Ob:=.box kz [.d (.list tS) (cd s).1,.d (.list tS) (cd s).2.1,.d (.list tS) (cd s).2.2.1,.d (.list tS) (cd s).2.2.2.1]
theorem pk8(x:HL q_policy_Check_8_drr.sl):DY q_policy_Check_8_drr (kh q_policy_Check_8_drr x)=some x:=by kernel_rfl
theorem zie(x:HL q_policy_each_dcc_v3.sl):DY q_policy_each_dcc_v3 (kh q_policy_each_dcc_v3 x)=some x:=by kernel_rfl
theorem zeV(s:PS)(i:Nat)(a:i<s.2.2.2.1.length):aC tbl fK [.d tI (i:Int),.ptr 0 0] [Z6 s] fZ ((s.2.2.2.1[i].2.1.length:Int),s.1,s.2.1,s.2.2.1,s.2.2.2.1,()):=by refine ap rfl (aA Fj rfl (λO n=>bK (vc O n (i:Int) s.1 s.2.1 s.2.2.1 s.2.2.2.1)) ?_);unfold vc;exact aG a (aa rfl)
theorem zcC(s:PS)(hs:SmP s)(i:Nat)(a:i<s.2.2.2.1.length):aC tbl eY [.d tI (i:Int),.ptr 0 0,.ptr 1 0] [bxN s,Z6 s] q_policy_Check_8_drr (uR s s.2.2.2.1[i],(cd s).1,(cd s).2.1,(cd s).2.2.1,(cd s).2.2.2.1,s.1,s.2.1,s.2.2.1,s.2.2.2.1,()):=by refine ap (pk8 _) (aA Eb rfl (λO n=>bK (tf O n (i:Int) (cd s).1 (cd s).2.1 (cd s).2.2.1 (cd s).2.2.2.1 s.1 s.2.1 s.2.2.1 s.2.2.2.1)) ?_);unfold tf;exact aG a (aj (CO s hs.ok _ (hs.ok.2.2.2.1.2 _ (a_ a))) (aa rfl))
theorem zeM(s:PS)(hs:SmP s):aC tbl iw [.d (.list tS) (s.2.2.2.1.map (·.1)),.clo rP [0],.clo rQ [1,0]] [Z6 s,bxN s] q_policy_each_dcc_v3 (gO (·.1) (λp=>p.2.1.length) (uR s) s.2.2.2.1,s.1,s.2.1,s.2.2.1,s.2.2.2.1,(cd s).1,(cd s).2.1,(cd s).2.2.1,(cd s).2.2.2.1,()):=by
 refine ap (zie _) (aA Eg rfl (λO n=>bK (tp O n (s.2.2.2.1.map (·.1)) s.1 s.2.1 s.2.2.1 s.2.2.2.1 (cd s).1 (cd s).2.1 (cd s).2.2.1 (cd s).2.2.2.1)) ?_);unfold tp;refine ao (λh=>aa ?_) λh=>?_;·rw[show gO (·.1) (λp=>p.2.1.length) (uR s) s.2.2.2.1=4 from if_pos (by grind)]
 have d:¬s.2.2.2.1.length>64:=by grind
 rw[show gO (·.1) (λp=>p.2.1.length) (uR s) s.2.2.2.1=jG (Lk (·.1) (λp=>p.2.1.length) (uR s) s.2.2.2.1) (s.2.2.2.1.map (·.1)).length from by unfold gO;grind];generalize g:Lk (·.1) (λp=>p.2.1.length) (uR s) s.2.2.2.1=E;refine ae (nR (N:=(s.2.2.2.1.map (·.1)).length) (f:=E) (enc:=λi=>((i:Int),s.1,s.2.1,s.2.2.1,s.2.2.2.1,(cd s).1,(cd s).2.1,(cd s).2.2.1,(cd s).2.2.2.1,())) (oB:=λe=>(e,s.1,s.2.1,s.2.2.1,s.2.2.2.1,(cd s).1,(cd s).2.1,(cd s).2.2.1,(cd s).2.2.2.1,())) (oE:=(s.1,s.2.1,s.2.2.1,s.2.2.2.1,(cd s).1,(cd s).2.1,(cd s).2.2.1,(cd s).2.2.2.1,())) (λi c=>?_) ?_ ?_)
 ·unfold jR;have a:i<s.2.2.2.1.length:=by grind
  have b:E i=if vB (s.2.2.2.1.map (·.1)) i≠0 then vB (s.2.2.2.1.map (·.1)) i else if s.2.2.2.1[i].2.1.length>64 then 4 else uR s s.2.2.2.1[i]:=by rw[<-g];exact H7 a
  refine a7 c (aG c (aD (decide_eq_true (by simp)) (aD (by grind) ?_)));refine aj (p8 _ i c (by grind) (by rw[E_];exact zil hs a)) ?_;refine ao (λh=>aa ?_) λh=>?_;·grind
  rw[if_neg (by grind)]at b;refine aj (zeV s i a) (ao (λh=>aa ?_) λh=>?_);·grind
  have h:decide ((s.2.2.2.1[i].2.1.length:Int)>64)=false:=h;rw[if_neg (by grind)]at b;refine aj (zcC s hs i a) (ao (λh=>aa ?_) λh=>aa ?_);·grind
  ·rw[b,if_pos (by grind),aB a (by omega)]
 ·unfold jR;exact aU (aa rfl)
 by_cases e:jG E (s.2.2.2.1.map (·.1)).length=0;·rw[if_pos e];refine aa ?_;rw[e]
 ·rw[if_neg e];exact aa rfl
theorem vM(s:PS)(hs:SmP s):aC tbl gI [.d yS s] [] cu (sv gl s,()):=by
 refine ap rfl (aA NQ rfl (λO n=>bK (CW O n s)) ?_);unfold CW;refine aj (L1 s hs.l1 hs.l2 hs.l3 hs.l4) (aD rfl (aj (zeJ s hs) ?_));generalize k:gO (·.1) (λl=>l.2.1.length) (λl=>bT mB l.2.1) s.1=b;generalize g:gO (·.1) (λl=>l.2.1.length) (λl=>bT (λr=>gl r.2.1) l.2.1) s.2.1=c;generalize j:gO (·.1) (λl=>l.2.1.length) (λl=>bT oo l.2.1) s.2.2.1=d;have hp:sv gl s=if b≠0 then b else if c≠0 then c else if d≠0 then d else gO (·.1) (λp=>p.2.1.length) (uR s) s.2.2.2.1:=by unfold sv;omega
 have e:=zeK s hs;have f:=zeL s hs;rw[g]at e;rw[j]at f;rw[hp];refine ao (λh=>aa ?_) λh=>aD rfl (aj e (ao (λh'=>aa ?_) λh'=>aD rfl (aj f (ao (λa=>aa ?_) λa=>aD rfl (aj (zeM s hs) (aa ?_))))));·grind
 all_goals grind
end Go.Proofs.YtmfolppncelceaaGreatDoor
