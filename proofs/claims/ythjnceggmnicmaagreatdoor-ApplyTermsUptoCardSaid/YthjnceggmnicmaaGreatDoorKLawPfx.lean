import Derived.Test.YthjnceggmnicmaaGreatDoorKPlPfx
import Derived.Test.YthjnceggmnicmaaGreatDoorKGlueB
import Derived.Test.YthjnceggmnicmaaGreatDoorKL7
set_option linter.unusedVariables false
set_option linter.unusedSimpArgs false
open Bool renaming or_eq_false_iff->u_,true_and->y_,and_eq_true->G_
open Classical renaming byContradiction->k_,choose->L_,choose_spec->as_,not_not->aw_
open Int renaming toNat_natCast->e_,toNat->p_,eq_ofNat_of_zero_le->z_,natCast_nonneg->J_,tdiv_eq_ediv_of_nonneg->V_,toNat_of_nonneg->ag_,le_refl->au_
open Go.IntKind renaming wrap->d_,bits->aa_
open List renaming getElem?_eq_getElem->a_,getElem_mem->b_,take_length->f_,take_add_one->g_,replicate->h_,mem_cons_of_mem->i_,mem_singleton->j_,take_of_length_le->l_,mem_cons_self->m_,mem_append->n_,length_append->o_,append_assoc->q_,map_append->r_,range->s_,mem_of_mem_take->v_,ext_getElem->A_,drop_eq_nil_of_le->B_,length_eq_one_iff->C_,length_map->D_,nil_append->E_,take_append_drop->F_,mem_map->H_,getElem?_eq_some_iff->I_,all_eq_true->M_,map_cons->N_,eq_nil_of_length_eq_zero->O_,mem_of_getElem?->P_,append_nil->Q_,length_nil->R_,take_succ_cons->S_,flatMap_cons->W_,any_eq_true->X_,flatMap_nil->Y_,getElem_set->Z_,getElem?_eq_none->ab_,length_replicate->ac_,length_singleton->ad_,mem_range->ae_,flatMap_append->ah_,any_eq_false->ai_,any_map->aj_,foldl_append->ak_,getD->al_,any_append->am_,length_set->an_,foldl->ao_,sum_cons->aq_,map_nil->ar_,length->av_
open Nat renaming le_refl->w_,le_trans->x_,zero_le->K_,beq_refl->T_,le_of_lt->U_,mul_le_mul->af_,mod_lt->ap_
open Option renaming bind->c_,toList_some->t_
open Prod renaming ext->ax_
namespace Go.Proofs.YthjnceggmnicmaaGreatDoor
open Go Go.Av Go.Ev Go.Pl
abbrev hZ(x:Int):Prop:=0<=x/\x<=4294967295
theorem RN(n m:Int):aC tbl uZ [.d tI n,.d tI m] [] rj (min (max n 0) m,()):=aw rfl (aA TI rfl (λO k=>T1 O k n m) (aa rfl))
theorem UK(n m:Int):aC tbl xy [.d tI n,.d tI m] [] t6 (min (max n 0) m,()):=aw rfl (aA W3 rfl (λO k=>Xn O k n m) (aa rfl))
theorem M9(k:Nat):(2:Int)^k=((2^k:Nat):Int):=by induction k with|zero=>rfl|succ k a=>rw[Int.pow_succ,a,Nat.pow_succ];rfl
theorem UF(n:Nat)(hn:n<=32):aC tbl xw [.d tI (n:Int)] [] tX (((4294967295*2^(32 - n)%4294967296:Nat):Int),()):=by
 refine aw rfl (aA W1 rfl (λO k=>Xl O k (n:Int)) ?_);unfold Ki;refine aj (RN (n:Int) 32) ?_;have e:d_ .i64 (32 - min (max (n:Int) 0) 32)=((32 - n:Nat):Int):=by rw[wrap_i64 (by omega) (by omega)];omega
 refine aE (by grind) (aa ?_);simp only[e];rw[show min (p_ ((32 - n:Nat):Int)) (aa_ .u32)=32 - n from by show min _ 32=_;simp,wrap_u32,M9];rfl
theorem Kd(x n:Int)(c:hZ x)(b:0<=n)(d:n<=32):aC tbl tG [.d tW x,.d tI n] [] p9 (BG x n,()):=by obtain⟨a,rfl⟩:=z_ c.1;obtain⟨k,rfl⟩:=z_ b;refine aw rfl (aA W0 rfl (λO m=>Xk O m (a:Int) (k:Int)) ?_);unfold Kh;refine aj (UF k (by omega)) (aa ?_);rw[Ve (by omega) (ap_ _ (by simp)),zbH (by omega) (by omega)];rfl
theorem XA(x i:Nat)(f:x<=4294967295)(d:i<32):aC tbl zO [.d tW (x:Int),.d tI (i:Int)] [] r8 (((x/2^(31 - i)%2:Nat):Int),()):=by
 refine aw rfl (aA Z5 rfl (λO k=>zaa O k (x:Int) (i:Int)) ?_);unfold LS;refine ae (bG (b:=false) (λ_=>aa (decide_eq_false (by omega))) ?_);rw[decide_eq_false (show ¬(i:Int)<0 by simp)];have e:d_ .u64 (d_ .i64 (31 - (i:Int)))=((31 - i:Nat):Int):=by rw[wrap_i64 (by omega) (by omega),wrap_u64];omega
 refine an rfl (aE (by grind) (aa ?_));simp only[e];rw[show min (p_ ((31 - i:Nat):Int)) (aa_ .u32)=31 - i from by show min _ 32=_;omega,M9,Int.fdiv_eq_ediv_of_nonneg _ (J_ _)];have a:(x:Int)/((2^(31 - i):Nat):Int)=((x/2^(31 - i):Nat):Int):=rfl;have c:x/2^(31 - i)<=x:=Nat.div_le_self _ _;rw[a,show(1:Int)=((1:Nat):Int)from rfl,Ve (by omega) (by simp),Nat.and_one_is_mod];have:x/2^(31 - i)%2<2:=ap_ _ (by simp);rw[wrap_i64 (by omega) (by omega)]
theorem GX(x n:Int)(h:hZ x)(d:0<=n)(f:n<=32):aC tbl qE [.d tW x,.d tI n] [] ny (BG x n,()):=by
 obtain⟨a,rfl⟩:=z_ h.1;obtain⟨k,rfl⟩:=z_ d;have b:a<4294967296:=by omega
 refine aw rfl (aA TJ rfl (λO m=>T2 O m (a:Int) (k:Int)) ?_);unfold G3;refine aj (UK (k:Int) 32) ?_;have e:min (max (k:Int) 0) 32=(k:Int):=by omega
 rw[e];refine ae (aX (N:=k) (I:=λi s=>s=(((BF a i:Nat):Int),(i:Int),())) (by rw[zbJ b];rfl) (λi s g hs=>?_) λs hs=>?_)
 ·subst hs;unfold vW;refine a8 g (aj (XA a i (by omega) (by omega)) ?_);have e:d_ .u64 (d_ .i64 (31 - (i:Int)))=((31 - i:Nat):Int):=by rw[wrap_i64 (by omega) (by omega),wrap_u64];omega
  refine aE (by grind) (aa ?_);simp only[e];have j:a/2^(31 - i)%2<2:=ap_ _ (by simp);have hp:(a/2^(31 - i)%2)*2^(31 - i)<4294967296:=by have f:(a/2^(31 - i)%2)*2^(31 - i)<=1*2^31:=af_ (by omega) (Nat.pow_le_pow_right (by simp) (by simp));omega
  have c:d_ .u32 (d_ .u32 ((a/2^(31 - i)%2:Nat):Int)*2^(min (p_ ((31 - i:Nat):Int)) (aa_ .u32)))=(((a/2^(31 - i)%2)*2^(31 - i):Nat):Int):=by rw[show min (p_ ((31 - i:Nat):Int)) (aa_ .u32)=31 - i from by show min _ 32=_;omega,M9,wrap_u32,wrap_u32];grind
  rw[c,zeS (Nat.lt_of_le_of_lt (zdg a i) b) hp,<-zbI a (by omega),ap (n:=32) (by omega) (by simp)]
 ·subst hs;unfold vW;exact aR (aa (aa rfl))
theorem mj(p:NZ)(hp:hZ p.1):aC tbl eX [.d yP p] [] dS (jr p,()):=by refine aw rfl (aA Nz rfl (λO n=>NS O n p) ?_);unfold Ck;refine ae (bz (b:=decide (p.2.1<=32)) (λ_=>aa rfl) ?_);refine ae (bz (b:=(BG p.1 p.2.1==p.1)) (λh=>?_) (aa rfl));simp only[G_,decide_eq_true_eq]at h;exact aj (Kd p.1 p.2.1 hp h.1 h.2) (aa rfl)
theorem UJ(a n:Int)(d:hZ a)(b:0<=n)(c:n<=32):aC tbl xx [.d tW a,.d tI n] [] tZ ((BG a n,n,()),()):=by refine aw rfl (aA W2 rfl (λO k=>Xm O k a n) ?_);unfold Kj;exact aj (Kd a n d b c) (aa rfl)
theorem gF(p:NZ)(hp:hZ p.1):aC tbl eO [.d yP p] [] dH (jr p,()):=by refine aw rfl (aA PM rfl (λO n=>Qp O n p) ?_);unfold Fl;refine ae (bz (b:=decide (p.2.1<=32)) (λ_=>aa rfl) ?_);refine ae (bz (b:=(BG p.1 p.2.1==p.1)) (λh=>?_) (aa rfl));simp only[G_,decide_eq_true_eq]at h;exact aj (GX p.1 p.2.1 hp h.1 h.2) (aa rfl)
theorem RP(a n:Int)(d:hZ a)(b:0<=n)(c:n<=32):aC tbl u4 [.d tW a,.d tI n] [] rk ((BG a n,n,()),()):=by refine aw rfl (aA TK rfl (λO k=>T3 O k a n) ?_);unfold G4;exact aj (GX a n d b c) (aa rfl)
def Kt(p:NZ)(a:Int):Bool:=jr p&&(BG a p.2.1==p.1)
def OA(p q:NZ):Bool:=jr q&&(decide (p.2.1<=q.2.1)&&Kt p q.1)
theorem RI{p:NZ}(h:jr p=true):0<=p.2.1/\p.2.1<=32:=by unfold jr at h;simp only[G_,decide_eq_true_eq]at h;exact h.1
theorem xj(p:NZ)(a:Int)(hp:hZ p.1)(d:hZ a):aC tbl iM [.d yP p,.d tW a] [] fy (Kt p a,()):=by refine aw rfl (aA IJ rfl (λO n=>IY O n p a) ?_);unfold xr;refine aj (mj p hp) (ae (bz (b:=(BG a p.2.1==p.1)) (λh=>?_) (aa rfl)));have c:=RI h;refine aj (UJ a p.2.1 d c.1 c.2) (aa ?_);show(false ^^ ((BG a p.2.1==p.1)&&((p.2.1==p.2.1)&&true)))=_;simp
theorem yQ(p:NZ)(a:Int)(hp:hZ p.1)(d:hZ a):aC tbl jO [.d yP p,.d tW a] [] gQ (Kt p a,()):=by refine aw rfl (aA JU rfl (λO n=>J7 O n p a) ?_);unfold yZ;refine aj (gF p hp) (ae (bz (b:=(BG a p.2.1==p.1)) (λh=>?_) (aa rfl)));have c:=RI h;refine aj (RP a p.2.1 d c.1 c.2) (aa ?_);show(false ^^ ((BG a p.2.1==p.1)&&((p.2.1==p.2.1)&&true)))=_;simp
theorem KG(p q:NZ)(hp:hZ p.1)(a:hZ q.1):aC tbl pc [.d yP p,.d yP q] [] kX (OA p q,()):=by refine aw rfl (aA Ld rfl (λO n=>Lq O n p q) ?_);unfold Br;refine aj (mj q a) (ae (bz (b:=decide (p.2.1<=q.2.1)) (λ_=>aa rfl) ?_));refine ae (bz (b:=Kt p q.1) (λ_=>aj (xj p q.1 hp a) (aa rfl)) (aa ?_));unfold OA;grind
theorem LR(p q:NZ)(hp:hZ p.1)(a:hZ q.1):aC tbl qF [.d yP p,.d yP q] [] mM (OA p q,()):=by refine aw rfl (aA NA rfl (λO n=>NT O n p q) ?_);unfold Cl;refine aj (gF q a) (ae (bz (b:=Kt p q.1) (λ_=>aj (yQ p q.1 hp a) (aa rfl)) ?_));refine ae (bz (b:=decide (p.2.1<=q.2.1)) (λ_=>aa rfl) (aa ?_));unfold OA;grind
theorem EW(r:PRU)(hr:hZ r.2.1.1):aC tbl oe [.d yR r] [] gK (mI r,()):=by
 refine aw rfl (aA PI rfl (λO n=>Qm O n r) ?_);unfold Fh;refine aj (mj r.2.1 hr) (au (λh=>aa ?_) λh=>?_);·unfold mI;rw[if_pos (by simpa using h)]
 ·have a:¬jr r.2.1=false:=by simpa using h
  refine ae (bG (b:=decide (r.2.2.2.1<r.2.2.1)) (λ_=>aa rfl) (ae (bG (b:=decide (r.2.2.2.1>32)) (λ_=>aa rfl) ?_)));refine au (λh=>aa ?_) λh=>aa ?_;·unfold mI;rw[if_neg a,if_pos (by simpa[or_assoc]using h)]
  ·unfold mI;rw[if_neg a,if_neg];intro h';simp only[u_,decide_eq_false_iff_not]at h;omega
theorem EY(r:PRU)(hr:hZ r.2.1.1):aC tbl lg [.d yR r] [] eS (mI r,()):=by
 refine aw rfl (aA PW rfl (λO n=>Qw O n r) ?_);unfold Fv;refine aj (gF r.2.1 hr) (au (λh=>aa ?_) λh=>?_);·unfold mI;rw[if_pos (by simpa using h)]
 ·have a:¬jr r.2.1=false:=by simpa using h
  refine ae (bG (b:=decide (r.2.2.2.1<r.2.2.1)) (λ_=>aa rfl) (ae (bG (b:=decide (r.2.2.2.1>32)) (λ_=>aa rfl) ?_)));refine au (λh=>aa ?_) λh=>aa ?_;·unfold mI;rw[if_neg a,if_pos (by simpa[or_assoc]using h)]
  ·unfold mI;rw[if_neg a,if_neg];intro h';simp only[u_,decide_eq_false_iff_not]at h;omega
def MX(r:PRU)(p:NZ):Bool:=(mI r==0)&&(OA r.2.1 p&&(decide (r.2.2.1<=p.2.1)&&decide (p.2.1<=r.2.2.2.1)))
def Wr(l:List PRU)(p:NZ):Bool:=match l.find? (λz=>MX z p)with|some r=>r.1|none=>false
theorem N4(r:PRU)(p:NZ)(hr:hZ r.2.1.1)(hp:hZ p.1):aC tbl sn [.d yR r,.d yP p] [] oI (MX r p,()):=by refine aw rfl (aA PK rfl (λO n=>Qn O n r p) ?_);unfold Fi;refine aj (EW r hr) (ae (bz (b:=OA r.2.1 p) (λ_=>aj (KG r.2.1 p hr hp) (aa rfl)) ?_));refine ae (bz (b:=decide (r.2.2.1<=p.2.1)) (λ_=>aa rfl) (ae (bz (b:=decide (p.2.1<=r.2.2.2.1)) (λ_=>aa rfl) (aa ?_))));unfold MX;grind
theorem Oc(r:PRU)(p:NZ)(hr:hZ r.2.1.1)(hp:hZ p.1):aC tbl sx [.d yR r,.d yP p] [] oK (MX r p,()):=by
 refine aw rfl (aA PX rfl (λO n=>Qx O n r p) ?_);unfold Fw;refine aj (EY r hr) (ae (bz (b:=jr p) (λ_=>aj (gF p hp) (aa rfl)) ?_));refine ae (bz (b:=OA r.2.1 p) (λ_=>aj (LR r.2.1 p hr hp) (aa rfl)) ?_);refine ae (bz (b:=decide (p.2.1>=r.2.2.1)) (λ_=>aa rfl) (ae (bz (b:=decide (p.2.1<=r.2.2.2.1)) (λ_=>aa rfl) (aa ?_))));unfold MX;have:(jr p&&OA r.2.1 p)=OA r.2.1 p:=by unfold OA;simp
 grind
theorem KF(l:List PRU)(p:NZ)(hl:l.length<=9223372036854775807)(hr:∀r∈l,hZ r.2.1.1)(hp:hZ p.1):aC tbl o9 [.d (.list yR) l,.d yP p] [] iB (Wr l p,()):=by
 refine aw rfl (aA La rfl (λO n=>Ln O n l p) ?_);unfold Bo;refine ae (ye (xs:=l) (p:=(λz=>MX z p)) (g:=λr=>(r.1,())) (e:=()) (λi r b=>?_) ?_ ?_)
 ·unfold qv;have a:=(I_.1 b).1;refine a8 a (IQ b (aj (N4 r p (hr r (P_ b)) hp) ?_));refine au (λh=>aa ?_) λh=>aa ?_;·rw[if_pos h]
  ·rw[if_neg (by have h:MX r p=false:=h;simp[h]),ap a hl]
 ·unfold qv;exact aR (aa rfl)
 ·unfold Wr;cases l.find? (λz=>MX z p)with|some r=>exact aa rfl|none=>exact aa rfl
theorem Bi(l:List PRU)(p:NZ)(hl:l.length<=9223372036854775807)(hr:∀r∈l,hZ r.2.1.1)(hp:hZ p.1):aC tbl pg [.d (.list yR) l,.d yP p] [] iD (Wr l p,()):=by
 refine aw rfl (aA Lh rfl (λO n=>Lu O n l p) ?_);unfold Bv;refine ae (ye (xs:=l) (p:=(λz=>MX z p)) (g:=λr=>(r.1,())) (e:=()) (λi r b=>?_) ?_ ?_)
 ·unfold qz;have a:=(I_.1 b).1;refine a8 a (IQ b (aj (Oc r p (hr r (P_ b)) hp) ?_));refine au (λh=>aa ?_) λh=>aa ?_;·rw[if_pos h]
  ·rw[if_neg (by have h:MX r p=false:=h;simp[h]),ap a hl]
 ·unfold qz;exact aR (aa rfl)
 ·unfold Wr;cases l.find? (λz=>MX z p)with|some r=>exact aa rfl|none=>exact aa rfl
end Go.Proofs.YthjnceggmnicmaaGreatDoor
namespace Go.Pl
open Go.Ev
def cr(M:Nat)(f:Nat->Bool):List Bool:=(s_ M).map f
theorem rD(M:Nat)(f:Nat->Bool):(cr M f).length=M:=by simp[cr]
theorem zer{M i:Nat}(f:Nat->Bool)(h:i<(cr M f).length):(cr M f)[i]=f i:=by simp[cr]
theorem wU{M:Nat}{f g:Nat->Bool}(h:∀i,i<M->f i=g i):cr M f=cr M g:=List.map_congr_left λi a=>h i (ae_.1 a)
theorem IP{M i:Nat}(f:Nat->Bool)(b:Bool):(cr M f).set i b=cr M λj=>if j=i then b else f j:=by
 refine A_ (by simp[cr]) λj d c=>?_;have g:j<M:=by simpa[cr]using c
 rw[Z_];by_cases e:i=j;·subst e;simp[cr]
 ·have a:¬j=i:=λh=>e h.symm;simp[cr,e,a]
theorem NK(M:Nat):h_ M false=cr M λ_=>false:=by refine A_ (by simp[cr]) λj a b=>?_;simp[cr]
def S4(g:G)(n:Int)(p:Nat):Bool:=match g.sp[p]? with
 |some q=>decide (q.1<=n)&&decide (n<=q.2)
 |none=>false
def KL(g:G)(can:Nat->Bool)(n:Int)(p:Nat):Bool:=can p&&S4 g n p
def nxF(g:G)(a:Nat->Bool)(q:Nat):Bool:=g.pr.any λx=>a x.1&&decide (x.2=q)
def zw(g:G)(s:(Nat->Bool)×(Nat->Bool))(n:Int):(Nat->Bool)×(Nat->Bool):=(nxF g (KL g s.1 n),KL g s.1 n)
def qe(g:G)(a:List Int):(Nat->Bool)×(Nat->Bool):=a.foldl (zw g) (λp=>decide (p∈g.fi),λ_=>false)
def uC(g:G)(a:List Int):Bool:=bif a.isEmpty then g.em else g.la.any (qe g a).2
theorem JM{g:G}{a:List Int}{i:Nat}(h:i<a.length):qe g (a.take (i+1))=zw g (qe g (a.take i)) a[i]:=by unfold qe;rw[g_,a_ h,ak_];rfl
theorem nxF_iff{g:G}{f:Nat->Bool}{q:Nat}:nxF g f q=true↔∃p,f p=true/\(p,q)∈g.pr:=by unfold nxF;grind
def mP(a:List Int):Bool:=a.all λn=>decide (0<=n)&&decide (n<=4294967295)
theorem zhk:∀(r:Rx),dm r=true->∀o,∀q∈(dn r o).sp,0<=q.1/\q.2<=4294967295:=by
 refine j6 λk lo s ks u p o=>?_;obtain⟨hn,n⟩:=well_iff.1 p;have d:∀(l:List Rx) (a:G),(∀r∈l,r∈ks)->(∀q∈a.sp,0<=q.1/\q.2<=4294967295)->∀q∈(cC l o a).sp,0<=q.1/\q.2<=4294967295:=by intro l;induction l with|nil=>intro a _ h;exact h|cons r l f=>intro a hl h;refine f _ (λr hr=>hl r (i_ _ hr)) λq b=>?_;rcases n_.1 b with b|b;all_goals grind
 have j:∀(l:List Rx) (a:G),(∀r∈l,r∈ks)->(∀q∈a.sp,0<=q.1/\q.2<=4294967295)->∀q∈(fj l o a).sp,0<=q.1/\q.2<=4294967295:=by intro l;induction l with|nil=>intro a _ h;exact h|cons r l f=>intro a hl h;refine f _ (λr hr=>hl r (i_ _ hr)) λq b=>?_;rcases n_.1 b with b|b;all_goals grind
 have c:∀(e:Bool),∀q∈(g0 e).sp,0<=q.1/\q.2<=4294967295:=λe q b=>by simp[g0]at b
 unfold dn;split;·rename_i g;have:=hn.rng g;intro q b;simp only[Xy,j_]at b;grind
 split;·intro q b;simp only[Xy,j_]at b;grind
 split;·exact j _ _ (λ_ h=>h) (c _)
 split;·exact d _ _ (λ_ h=>h) (c _)
 split;·exact d _ _ (λ_ h=>h) (c _)
 split;·exact d _ _ (λ_ h=>h) (c _)
 split;·exact d _ _ (λ_ h=>h) (c _)
 grind
theorem WF{g:G}:∀(l:List Int) (s:(Nat->Bool)×(Nat->Bool)),(∀p,s.1 p=false)->(∀p,s.2 p=false)->∀p,(l.foldl (zw g) s).2 p=false
 |[],s,_,a,p=>a p
 |n::l,s,c,a,p=>by
  have b:∀p,(zw g s n).2 p=false:=λp=>by show(s.1 p&&_)=false;grind
  refine WF l (zw g s n) (λq=>?_) b p;cases e:(zw g s n).1 q;·rfl
  ·obtain⟨p,hp,_⟩:=nxF_iff.1 (show nxF g (KL g s.1 n) q=true from e);have:=b p;rw[show(zw g s n).2 p=KL g s.1 n p from rfl,hp]at this;omega
theorem zbN{r:Rx}(g:dm r=true){a:List Int}(h:mP a=false):uC (dn r 0) a=false:=by
 have:∃n∈a,¬(0<=n/\n<=4294967295):=by
  refine k_ λhn=>?_;have:mP a=true:=by unfold mP;grind
  grind
 obtain⟨n,d,k⟩:=this;obtain⟨l1,l2,rfl⟩:=List.append_of_mem d;unfold uC;have c:(l1++n::l2).isEmpty=false:=by simp
 rw[c];show(dn r 0).la.any _=false;rw[ai_];intro p hp;have j:∀p,S4 (dn r 0) n p=false:=λp=>by
  unfold S4;split;·rename_i q f;have:=zhk r g 0 q (P_ f);grind
  simp
 have b:∀(s:(Nat->Bool)×(Nat->Bool)) p,(zw (dn r 0) s n).2 p=false:=λs p=>by show(_&&S4 _ n p)=false;grind
 have:(qe (dn r 0) (l1++n::l2)).2 p=false:=by
  unfold qe;rw[ak_,List.foldl_cons];refine WF l2 _ (λq=>?_) (b _) p;cases e:(zw (dn r 0) (ao_ (zw (dn r 0)) (λp=>decide (p∈(dn r 0).fi),λ_=>false) l1) n).1 q;·rfl
  ·obtain⟨p,hp,_⟩:=nxF_iff.1 (show nxF _ _ q=true from e);have:=b (ao_ (zw (dn r 0)) (λp=>decide (p∈(dn r 0).fi),λ_=>false) l1) p;rw[show(zw (dn r 0) (ao_ (zw (dn r 0)) (λp=>decide (p∈(dn r 0).fi),λ_=>false) l1) n).2 p=KL _ _ n p from rfl,hp]at this;omega
 grind
open Go Go.Ev Go.Lib
def hd(t:List UInt8):Nat:=(t.headD 0).toNat
def pk(s:List UInt8)(i:Nat):Nat:=(s.getD i 0).toNat
theorem ri(s:List UInt8)(i:Nat):pk s i=hd (s.drop i):=by unfold pk hd;rw[List.headD_eq_head?_getD,List.head?_drop];rfl
theorem dP{s:List UInt8}{i:Nat}(h:pk s i≠0):i<s.length:=by apply k_;intro hn;apply h;unfold pk;rw[al_,ab_ (by omega)];rfl
theorem M8{s:List UInt8}{i:Nat}(h:i<s.length):pk s i=s[i].toNat:=by unfold pk;rw[al_,a_ h];rfl
theorem zdH{s:List UInt8}{i:Nat}(h:¬i<s.length):pk s i=0:=by unfold pk;rw[al_,ab_ (by omega)];rfl
theorem kV{s a t:List UInt8}{i:Nat}(h:s.drop i=a++t):s.drop (i+a.length)=t:=by rw[<-List.drop_drop,h,List.drop_left]
theorem CF{s t:List UInt8}{b:UInt8}{i:Nat}(h:s.drop i=b::t):s.drop (i+1)=t:=kV (a:=[b]) h
theorem S3{a t:List UInt8}(h:a≠[]):hd (a++t)=hd a:=by cases a with|nil=>exact absurd rfl h|cons b a=>rfl
def dg(c:Nat):Prop:=48<=c/\c<=57
section
variable (num:Nat->Option (Int×Nat)) (s:List UInt8)
def ft(alt:Nat->Option (Rx×Nat))(i:Nat):Option (Rx×Nat):=
 if pk s i=46 then some (.mk 2 0 0 [],i+1)
 else if pk s i=33 then some (.mk 4 0 0 [],i+1)
 else if pk s i=91 then
  match num (i+1)with
  |none=>none
  |some (lo,j)=>if pk s j=45 then(match num (j+1)with
   |none=>none
   |some (up,k)=>if pk s k=93 then some (.mk 1 lo up [],k+1)else none)else none
 else if pk s i=40 then
  if pk s (i+1)=41 then some (.mk 0 0 0 [],i+2)else
  match alt (i+1)with
  |none=>none
  |some (r,j)=>if pk s j=41 then some (r,j+1)else none
 else match num i with
  |none=>none
  |some (n,j)=>some (.mk 1 n n [],j)
def Ii(alt:Nat->Option (Rx×Nat))(i:Nat):Option (Rx×Nat):=
 match ft num s alt i with
 |none=>none
 |some (r,j)=>if pk s j=42 then some (.mk 5 0 0 [r],j+1)else if pk s j=43 then some (.mk 6 0 0 [r],j+1)else if pk s j=63 then some (.mk 7 0 0 [r],j+1)else some (r,j)
def ic(sep:Nat)(one:Nat->Option (Rx×Nat)):Nat->List Rx->Nat->Option (List Rx×Nat)
 |0,_,_=>none
 |f+1,a,i=>match one i with
  |none=>none
  |some (r,j)=>if pk s j=sep then ic sep one f (a++[r]) (j+1)else some (a++[r],j)
def zbE(k:Int)(l:List Rx):Rx:=match l with
 |[x]=>x
 |l=>.mk k 0 0 l
def BS(sep:Nat)(k:Int)(one:Nat->Option (Rx×Nat))(i:Nat):Option (Rx×Nat):=match ic s sep one (s.length+1 - i) [] i with
 |none=>none
 |some (l,j)=>some (zbE k l,j)
def zbX(alt:Nat->Option (Rx×Nat))(i:Nat):Option (Rx×Nat):=BS s 32 3 (Ii num s alt) i
def Gv:Nat->Nat->Option (Rx×Nat)
 |0,_=>none
 |b+1,i=>BS s 124 4 (zbX num s (Gv b)) i
end
structure NumOk(s:List UInt8)(num:Nat->Option (Int×Nat)):Prop where
 bnd:∀i n j,i<=s.length->num i=some (n,j)->i<j/\j<=s.length
 txt:∀i (m:Nat) t,s.drop i=decDigits m++t->m<=4294967295->¬dg (hd t)->num i=some ((m:Int),i+(decDigits m).length)
def Xw(s:List UInt8)(one:Nat->Option (Rx×Nat)):Prop:=∀i r j,i<=s.length->one i=some (r,j)->i<j/\j<=s.length/\sz r<=j - i
section
variable {num:Nat->Option (Int×Nat)} {s:List UInt8}
theorem zcT(hn:NumOk s num){alt:Nat->Option (Rx×Nat)}(g:Xw s alt):Xw s (ft num s alt):=by
 intro i r j k h;unfold ft at h;have one:sz (.mk 0 0 0 [])=1:=rfl;split at h;·rename_i p;have:=dP (s:=s) (i:=i) (by omega);cases h;refine⟨by simp,by omega,?_⟩;show 1<=_;simp
 split at h;·have:=dP (s:=s) (i:=i) (by omega);cases h;refine⟨by simp,by omega,?_⟩;show 1<=_;simp
 split at h
 ·have:=dP (s:=s) (i:=i) (by omega);split at h;·grind
  rename_i lo a e;have c:=hn.bnd _ _ _ (by omega) e;split at h
  ·have:=dP (s:=s) (i:=a) (by omega);split at h;·grind
   rename_i up b f;have d:=hn.bnd _ _ _ (by omega) f;split at h;·have:=dP (s:=s) (i:=b) (by omega);cases h;refine⟨by omega,by omega,?_⟩;show 1<=_;omega
   grind
  grind
 split at h
 ·have:=dP (s:=s) (i:=i) (by omega);split at h;·have:=dP (s:=s) (i:=i+1) (by omega);grind
  split at h;·grind
  rename_i r2 a e;obtain⟨c,d,l⟩:=g _ _ _ (by omega) e;split at h;·have:=dP (s:=s) (i:=a) (by omega);grind
  grind
 split at h;·grind
 rename_i n a e;have c:=hn.bnd _ _ _ k e;cases h;refine⟨by omega,by omega,?_⟩;show 1<=_;omega
theorem Cw(hn:NumOk s num){alt:Nat->Option (Rx×Nat)}(b:Xw s alt):Xw s (Ii num s alt):=by
 intro i r j c h;unfold Ii at h;split at h;·grind
 rename_i r2 a e;obtain⟨d,f,g⟩:=zcT hn b _ _ _ c e;have hs:∀k:Int,sz (.mk k 0 0 [r2])=sz r2+1:=λk=>by simp only[sz,BU];omega
 split at h;·have:=dP (s:=s) (i:=a) (by omega);grind
 split at h;·have:=dP (s:=s) (i:=a) (by omega);grind
 split at h;·have:=dP (s:=s) (i:=a) (by omega);grind
 grind
theorem Vf{one:Nat->Option (Rx×Nat)}(c:Xw s one){sep:Nat}(d:sep≠0):∀(f:Nat) (b:List Rx) (i:Nat) (l:List Rx) (j:Nat),i<=s.length->ic s sep one f b i=some (l,j)->
 i<j/\j<=s.length/\BU l+l.length<=BU b+b.length+(j - i)+1/\b.length<l.length
 |0,_,_,_,_,_,h=>by simp[ic]at h
 |f+1,b,i,l,j,g,h=>by
  rw[ic]at h;split at h;·grind
  rename_i r a e;obtain⟨k,n,p⟩:=c _ _ _ g e;have y:BU (b++[r])=BU b+sz r:=by rw[TH];simp[BU]
  split at h;·have:=dP (s:=s) (i:=a) (by omega);obtain⟨u,v,w,x⟩:=Vf c d f _ _ _ _ (by omega) h;grind
  grind
theorem Ly{one:Nat->Option (Rx×Nat)}(u:Xw s one){sep:Nat}(n:sep≠0)(k:Int):Xw s (BS s sep k one):=by
 intro i r j p h;unfold BS at h;split at h;·grind
 rename_i l a e;obtain⟨f,g,c,d⟩:=Vf u n _ _ _ _ _ p e;cases h;refine⟨f,g,?_⟩;unfold zbE;split;·simp[BU]at c;omega
 ·rename_i b;have:2<=l.length:=by match l,b,d with|[],_,d=>omega|[x],b,_=>grind|x::y::l,_,_=>simp
  simp only[sz];simp[BU]at c;omega
theorem Hr(hn:NumOk s num):∀b:Nat,Xw s (Gv num s b)
 |0=>λi r j _ h=>by simp[Gv]at h
 |b+1=>λi r j a h=>by rw[Gv]at h;exact Ly (one:=zbX num s (Gv num s b)) (λi r j a h=>Ly (one:=Ii num s (Gv num s b)) (Cw hn (Hr hn b)) (by simp) 3 i r j a h) (by simp) 4 i r j a h
end
mutual
def UB:Rx->Nat
 | .mk _ _ _ ks=>1+XX ks
def XX:List Rx->Nat
 |[]=>0
 |r::a=>max (UB r) (XX a)
end
theorem LA:∀{ks:List Rx} {r:Rx},r∈ks->UB r<=XX ks
 |x::ks,r,h=>by
  simp only[XX];rcases List.mem_cons.1 h with rfl|h;·omega
  ·have:=LA h;omega
theorem zc1(w:Bool)(l t:List UInt8):Ao w l++t=bif w then 40::(l++41::t)else l++t:=by cases w<;>simp[Ao]
def fst(c:Nat):Prop:=dg c\/c=46\/c=33\/c=91\/c=40
theorem Mg(n:Nat):decDigits n≠[]/\dg (hd (decDigits n)):=by have h:=Mf n;have a:=HA n;cases e:decDigits n with|nil=>grind|cons b l=>rw[e]at a;exact⟨by simp,a b (by simp)⟩
theorem LJ:∀(r:Rx),dm r=true->jM r≠[]/\fst (hd (jM r)):=by
 refine j6 λk lo up ks w v=>?_;obtain⟨hn,j⟩:=well_iff.1 v;have d:∀p:Int,∀x∈ks,qd p x≠[]/\fst (hd (qd p x)):=λp x s=>by
  obtain⟨a,b⟩:=w x s (j x s);unfold qd Ao;cases ub p x;·exact⟨a,b⟩
  ·exact⟨by simp,.inr (.inr (.inr (.inr rfl)))⟩
 have n:∀p:Int,∀t:List UInt8,ks≠[]->(ks.map (qd p)).headD []++t≠[]/\fst (hd ((ks.map (qd p)).headD []++t)):=λp t h=>by cases ks with|nil=>exact absurd rfl h|cons x l=>obtain⟨a,b⟩:=d p x (m_ ..);simp only[N_,List.headD_cons];rw[S3 a];exact⟨by simp[a],b⟩
 have u:∀p:Int,∀c:UInt8,ks≠[]->jn c (ks.map (qd p))≠[]/\fst (hd (jn c (ks.map (qd p)))):=λp c h=>by cases ks with|nil=>exact absurd rfl h|cons x l=>obtain⟨a,b⟩:=d p x (m_ ..);cases l with|nil=>exact⟨a,b⟩|cons y l=>simp only[N_,jn];rw[S3 a];exact⟨by simp[a],b⟩
 have f:(k=5\/k=6\/k=7)->ks≠[]:=λh e=>by have:=hn.one h;rw[e]at this;simp at this
 have g:k=3->ks≠[]:=λh e=>by have:=hn.seq h;rw[e]at this;simp at this
 simp only[jM,et];split;·exact⟨by simp,.inr (.inr (.inr (.inr rfl)))⟩
 split;·exact⟨by simp,.inr (.inl rfl)⟩
 split
 ·split;·exact⟨(Mg _).1,.inl (Mg _).2⟩
  ·exact⟨by simp,.inr (.inr (.inr (.inl rfl)))⟩
 split;·grind
 split;·exact n 6 _ (f (by omega))
 split;·exact n 7 _ (f (by omega))
 split
 ·split;·exact⟨by simp,.inr (.inr (.inl rfl))⟩
  grind
 ·rcases hn.known with h|h|h|h|h|h|h|h<;>try exact absurd h (by assumption)
  exact u 3 32 (g h)
def comp:Rx->Bool
 | .mk k _ _ ks=>bif k==4 then !ks.isEmpty else(k==3||k==5||k==6||k==7)
def Md:Rx->Bool
 | .mk k _ _ ks=>bif k==4 then !ks.isEmpty else k==3
def Me:Rx->Bool
 | .mk k _ _ ks=>bif k==4 then !ks.isEmpty else false
section
variable {num:Nat->Option (Int×Nat)} {s:List UInt8}
theorem zak(hn:NumOk s num){alt:Nat->Option (Rx×Nat)}{r:Rx}(l:dm r=true) (u:comp r=true->∀i t,s.drop i=jM r++t->(hd t=0\/hd t=41)->alt i=some (r,i+(jM r).length)) {i:Nat} {t:List UInt8} (h:s.drop i=Ao (comp r) (jM r)++t) (v:¬dg (hd t)):ft num s alt i=some (r,i+(Ao (comp r) (jM r)).length):=by
 cases hc:comp r with
 |true=>
  rw[hc,zc1]at h;have h:s.drop i=40::(jM r++41::t):=h;have a:pk s i=40:=by rw[ri,h];rfl
  have b:=CF h;obtain⟨p,f2⟩:=LJ r l;have f:pk s (i+1)≠41:=by rw[ri,b,S3 p];intro e;rw[e]at f2;revert f2;unfold fst dg;simp
  have c:=u hc (i+1) (41::t) b (.inr rfl);have g:pk s (i+1+(jM r).length)=41:=by rw[ri,kV b];rfl
  unfold ft;rw[if_neg (by omega),if_neg (by omega),if_neg (by omega),if_pos a,if_neg f,c];simp only;rw[if_pos g];simp[Ao];omega
 |false=>
  rw[hc]at h;have h:s.drop i=jM r++t:=h;show _=some (r,i+(jM r).length);obtain⟨k,lo,up,ks⟩:=r;obtain⟨nd,w⟩:=well_iff.1 l;rcases nd.known with rfl|rfl|rfl|rfl|rfl|rfl|rfl|rfl
  ·have e:=len_nil (nd.leaf (by simp));subst e;obtain⟨rfl,rfl⟩:=nd.zero (by simp);have h:s.drop i=40::41::t:=h;have a:pk s i=40:=by rw[ri,h];rfl
   have f:pk s (i+1)=41:=by rw[ri,CF h];rfl
   unfold ft;rw[if_neg (by omega),if_neg (by omega),if_neg (by omega),if_pos a,if_pos f];rfl
  ·have e:=len_nil (nd.leaf (by simp));subst e;obtain⟨r1,r2,r3⟩:=nd.rng rfl;by_cases hl:lo=up
   ·subst hl;have d:jM (.mk 1 lo lo [])=decDigits lo.toNat:=by simp[jM]
    rw[d]at h⊢;obtain⟨n,A⟩:=Mg lo.toNat;have a:dg (pk s i):=by rw[ri,h,S3 n];omega
    unfold dg at a;have B:=hn.txt i lo.toNat t h (by omega) v;unfold ft;grind
   ·have d:jM (.mk 1 lo up [])=91::(decDigits lo.toNat++45::(decDigits up.toNat++[93])):=by simp[jM,hl]
    rw[d]at h⊢;have h:s.drop i=91::(decDigits lo.toNat++45::(decDigits up.toNat++93::t)):=by grind
    have a:pk s i=91:=by rw[ri,h];rfl
    have b:=CF h;have x:=hn.txt _ lo.toNat _ b (by omega) (by show ¬dg 45;unfold dg;simp);have c:=kV b;have g:pk s (i+1+(decDigits lo.toNat).length)=45:=by rw[ri,c];rfl
    have j:=CF c;have y:=hn.txt _ up.toNat _ j (by omega) (by show ¬dg 93;unfold dg;simp);have z:pk s (i+1+(decDigits lo.toNat).length+1+(decDigits up.toNat).length)=93:=by rw[ri,kV j];rfl
    unfold ft;rw[if_neg (by omega),if_neg (by omega),if_pos a,x];simp only;rw[if_pos g,y];simp only;rw[if_pos z,ag_ r1,ag_ (by omega)];simp;omega
  ·have e:=len_nil (nd.leaf (by simp));subst e;obtain⟨rfl,rfl⟩:=nd.zero (by simp);have h:s.drop i=46::t:=h;have a:pk s i=46:=by rw[ri,h];rfl
   unfold ft;rw[if_pos a];rfl
  ·exact absurd hc (by simp[comp])
  ·obtain⟨rfl,rfl⟩:=nd.zero (by simp);have e:ks=[]:=by simpa[comp]using hc
   subst e;have h:s.drop i=33::t:=by rw[h];simp[jM]
   have a:pk s i=33:=by rw[ri,h];rfl
   unfold ft;rw[if_neg (by omega),if_pos a];simp[jM]
  ·exact absurd hc (by simp[comp])
  ·exact absurd hc (by simp[comp])
  ·exact absurd hc (by simp[comp])
def f2(c:Nat):Prop:=c=0\/c=41\/c=124\/c=32
def zcq(s:List UInt8)(alt:Nat->Option (Rx×Nat))(b:Nat):Prop:=∀r,dm r=true->UB r<=b->∀i t,s.drop i=jM r++t->(hd t=0\/hd t=41)->alt i=some (r,i+(jM r).length)
theorem zaE(hn:NumOk s num){alt:Nat->Option (Rx×Nat)}{b:Nat}(z:zcq s alt b){r:Rx}(w:dm r=true)(C:UB r<=b+1)(j:Md r=true->UB r<=b){i:Nat}{t:List UInt8} (h:s.drop i=qd 3 r++t) (A:f2 (hd t)):Ii num s alt i=some (r,i+(qd 3 r).length):=by
 obtain⟨k,lo,up,ks⟩:=r;obtain⟨nd,g⟩:=well_iff.1 w;have u:¬dg (hd t):=by unfold f2 at A;unfold dg;omega
 by_cases B:k=5\/k=6\/k=7
 ·obtain⟨x,rfl⟩:=re (nd.one B);obtain⟨rfl,rfl⟩:=nd.zero (by omega);have y:x∈[x]:=m_ ..;have D:=LA y;have n:UB x<=b:=by simp only[UB]at C;omega
  have d:∀p:Int,(p=5\/p=6\/p=7)->qd p x=Ao (comp x) (jM x):=λp hp=>by
   obtain⟨a,_,_,l⟩:=x;unfold qd;have:((p==5||p==6)||p==7)=true:=by grind
   simp only[ub,comp,this,Bool.and_true];have H:(p != 4)=true:=by grind
   grind
  have v:∃c:UInt8,qd 3 (.mk k 0 0 [x])=Ao (comp x) (jM x)++[c]/\(c.toNat=42/\k=5\/c.toNat=43/\k=6\/c.toNat=63/\k=7):=by
   rcases B with rfl|rfl|rfl;·refine⟨42,?_,by simp⟩;show jM (.mk 5 0 0 [x])=_;simp[jM,et,d]
   ·refine⟨43,?_,by simp⟩;show jM (.mk 6 0 0 [x])=_;simp[jM,et,d]
   ·refine⟨63,?_,by simp⟩;show jM (.mk 7 0 0 [x])=_;simp[jM,et,d]
  obtain⟨c,e,hc⟩:=v;rw[e]at h⊢;have h:s.drop i=Ao (comp x) (jM x)++c::t:=by grind
  have f:=zak hn (g x y) (λ_=>z x (g x y) n) h (by show ¬dg c.toNat;unfold dg;omega);have E:pk s (i+(Ao (comp x) (jM x)).length)=c.toNat:=by rw[ri,kV h];rfl
  unfold Ii;grind
 ·have e:qd 3 (.mk k lo up ks)=Ao (comp (.mk k lo up ks)) (jM (.mk k lo up ks)):=by unfold qd;simp only[ub,comp];grind
  have F:comp (.mk k lo up ks)=Md (.mk k lo up ks):=by simp only[comp,Md];grind
  rw[e]at h⊢;have f:=zak hn w (λhc=>z _ w (j (by grind))) h u;have E:pk s (i+(Ao (comp (.mk k lo up ks)) (jM (.mk k lo up ks))).length)=hd t:=by rw[ri,kV h]
  unfold Ii;rw[f];unfold f2 at A;grind
theorem Te{one:Nat->Option (Rx×Nat)}{f:Rx->List UInt8}{sep:UInt8}{E:Nat->Prop}:∀(ks:List Rx),ks≠[]->
 (∀x∈ks,∀i t,s.drop i=f x++t->(E (hd t)\/hd t=sep.toNat)->one i=some (x,i+(f x).length))->
 (∀x∈ks,f x≠[])->∀(b:Nat) (a:List Rx) (i:Nat) (t:List UInt8),s.drop i=jn sep (ks.map f)++t->E (hd t)->hd t≠sep.toNat->s.length+1<=b+i->i<=s.length->
 ic s sep.toNat one b a i=some (a++ks,i+(jn sep (ks.map f)).length)
 |[],h,_,_,_,_,_,_,_,_,_,_,_=>absurd rfl h
 |[x],_,d,c,b,a,i,t,h,j,hs,n,r=>by
  have h:s.drop i=f x++t:=h;have e:=d x (by simp) i t h (.inl j);obtain⟨m,rfl⟩:∃m,b=m+1:=⟨b - 1,by omega⟩;have l:pk s (i+(f x).length)=hd t:=by rw[ri,kV h]
  rw[ic,e];simp only;rw[if_neg (by omega)];rfl
 |x::y::ks,_,d,c,b,a,i,t,h,j,hs,n,r=>by
  have h:s.drop i=f x++sep::(jn sep ((y::ks).map f)++t):=by rw[h];simp[jn]
  have e:=d x (by simp) i _ h (.inr rfl);obtain⟨m,rfl⟩:∃m,b=m+1:=⟨b - 1,by omega⟩;have g:=kV h;have l:pk s (i+(f x).length)=sep.toNat:=by rw[ri,g];rfl
  have u:i+(f x).length<s.length:=by apply k_;intro p;rw[B_ (by omega)]at g;grind
  have:=Te (y::ks) (by simp) (λz k=>d z (i_ _ k)) (λz k=>c z (i_ _ k)) m (a++[x]) (i+(f x).length+1) t (CF g) j hs (by omega) (by omega);rw[ic,e];simp only;rw[if_pos l,this];simp[jn];omega
theorem zj{k:Int}{l:List Rx}(h:l.length≠1):zbE k l= .mk k 0 0 l:=by
 unfold zbE;split;·simp at h
 ·rfl
theorem seq_ok(hn:NumOk s num){alt:Nat->Option (Rx×Nat)}{b:Nat}(n:zcq s alt b){r:Rx}(u:dm r=true)(p:UB r<=b+1)(w:Me r=true->UB r<=b){i:Nat}{t:List UInt8} (h:s.drop i=qd 4 r++t) (y:hd t=0\/hd t=41\/hd t=124) (z:i<=s.length):zbX num s alt i=some (r,i+(qd 4 r).length):=by
 obtain⟨k,lo,up,ks⟩:=r;obtain⟨nd,d⟩:=well_iff.1 u;unfold zbX BS;by_cases A:k=3
 ·subst A;obtain⟨rfl,rfl⟩:=nd.zero (by simp);have D:2<=(ks.length:Int):=nd.seq rfl;have e:qd 4 (.mk 3 0 0 ks)=jn 32 (ks.map (qd 3)):=by show jM (.mk 3 0 0 ks)=_;simp[jM,et]
  rw[e]at h⊢;have j:∀x∈ks,UB x<=b:=λx a=>by have:=LA a;simp only[UB]at p;omega
  have l:ks≠[]:=by grind
  have:=Te (one:=Ii num s alt) (f:=qd 3) (sep:=32) (E:=λc=>c=0\/c=41\/c=124) ks l (λx a i t g hc=>zaE hn n (d x a) (by grind) (λ_=>j x a) g (by
   unfold f2;grind)) (λx a=>by
   unfold qd Ao;cases ub 3 x;·exact(LJ x (d x a)).1
   simp) (s.length+1 - i) [] i t h y (by
   grind) (by omega) z
  have this:ic s 32 (Ii num s alt) (s.length+1 - i) [] i=_:=this;rw[this];simp only[E_];rw[zj (by omega)]
 ·have e:qd 4 (.mk k lo up ks)=qd 3 (.mk k lo up ks):=by unfold qd;simp only[ub];grind
  have C:Md (.mk k lo up ks)=Me (.mk k lo up ks):=by simp only[Md,Me];grind
  rw[e]at h⊢;have v:=zaE hn n u p (by grind) h (by unfold f2;omega);have F:pk s (i+(qd 3 (.mk k lo up ks)).length)=hd t:=by rw[ri,kV h]
  obtain⟨m,B⟩:∃m,s.length+1 - i=m+1:=⟨s.length - i,by omega⟩;rw[B,ic,v];simp only;rw[if_neg (by omega)];simp[zbE]
theorem LB{a t:List UInt8}{i:Nat}(h:s.drop i=a++t)(c:a≠[]):i<s.length:=by apply k_;intro b;rw[B_ (by omega)]at h;have:=List.append_eq_nil_iff.1 h.symm;grind
theorem zde(p:Int){x:Rx}(a:dm x=true):qd p x≠[]:=by
 unfold qd Ao;cases ub p x;·exact(LJ x a).1
 ·simp
theorem zcN(hn:NumOk s num):∀b:Nat,zcq s (Gv num s b) b
 |0=>λr _ l=>by cases r;simp[UB]at l
 |b+1=>λr p l i t h z=>by
  have w:=LB h (LJ r p).1;have v:=zcN hn b;rw[Gv];unfold BS;cases hc:Me r with
  |true=>
   obtain⟨k,lo,up,ks⟩:=r;obtain⟨nd,a⟩:=well_iff.1 p;have A:k=4:=by simp only[Me]at hc;grind
   subst A;obtain⟨rfl,rfl⟩:=nd.zero (by simp);have j:ks≠[]:=by simpa[Me]using hc
   have u:(ks.length:Int)≠1:=nd.alt rfl;have e:jM (.mk 4 0 0 ks)=jn 124 (ks.map (qd 4)):=by simp[jM,et,j]
   rw[e]at h⊢;have n:∀x∈ks,UB x<=b:=λx d=>by have:=LA d;simp only[UB]at l;omega
   have:=Te (one:=zbX num s (Gv num s b)) (f:=qd 4) (sep:=124) (E:=λc=>c=0\/c=41) ks j (λx d i t g hc=>seq_ok hn v (a x d) (by grind) (λ_=>n x d) g (by
    grind) (U_ (LB g (zde 4 (a x d))))) (λx d=>zde 4 (a x d)) (s.length+1 - i) [] i t h z (by
    grind) (by omega) (U_ w)
   have this:ic s 124 (zbX num s (Gv num s b)) (s.length+1 - i) [] i=_:=this;rw[this];simp only[E_];rw[zj (by omega)]
  |false=>
   have e:jM r=qd 4 r:=by
    obtain⟨k,lo,up,ks⟩:=r;unfold qd;simp only[ub];simp only[Me]at hc;cases y:(k==4)
    ·cases C:(k==3);·simp[Ao]
     ·simp[Ao]
    ·rw[y]at hc;simp only[cond_true]at hc;simp only[cond_true,hc];rfl
   rw[e]at h⊢;have u:=seq_ok hn v p l (λh=>by grind) h (by omega) (U_ w);have D:pk s (i+(qd 4 r).length)=hd t:=by rw[ri,kV h]
   obtain⟨m,B⟩:∃m,s.length+1 - i=m+1:=⟨s.length - i,by omega⟩;rw[B,ic,u];simp only;rw[if_neg (by omega)];simp[zbE]
end
theorem zeV:∀(r:Rx) (lv c:Int),(B8 r lv c).2=0->lv+(UB r:Int)<=17:=by
 refine j6 λk lo up ks f lv c h=>?_;rw[B8]at h;split at h;·omega
 split at h;·omega
 split at h;·omega
 have a:∀(l:List Rx),(∀r∈l,r∈ks)->∀(c:Int),(jf l (lv+1) c).2=0->lv+1+(XX l:Int)<=17:=by
  intro l;induction l with
  |nil=>intro _ c _;simp only[XX];omega|cons r l g=>
   intro b c h;rw[jf]at h;split at h;·omega
   ·rename_i d;have j:=f r (b r (m_ ..)) (lv+1) c (aw_.1 d);have n:=g (λx e=>b x (i_ _ e)) _ h;simp only[XX];omega
 have:=a ks (λ_ h=>h) _ h;simp only[UB];omega
theorem zbZ{num:Nat->Option (Int×Nat)}{r:Rx}(hn:NumOk (jM r) num)(c:dm r=true){b:Nat}(a:UB r<=b):Gv num (jM r) b 0=some (r,(jM r).length):=by have:=zcN hn b r c a 0 [] (by simp) (.inl rfl);grind
end Go.Pl
namespace Go.Proofs.YthjnceggmnicmaaGreatDoor
open Go Go.Av Go.Ev Go.Pl
theorem R4(k n:Int):aC tbl vg [.d tI k,.d tI n] [] gD (yu k,jt k n,()):=by
 refine aw rfl (aA TV rfl (λO m=>Uu O m k n) ?_);unfold Hg;by_cases j:k=0;·subst j;exact dV (λ_=>rfl) rfl
 by_cases l:k=1;·subst l;exact dV (λ_=>rfl) rfl
 by_cases p:k=2;·subst p;exact dV (λ_=>rfl) rfl
 by_cases r:k=3;·subst r;exact dV (λ_=>rfl) rfl
 by_cases s:k=4;·subst s;exact dV (λ_=>rfl) rfl
 by_cases u:k=5;·subst u;exact dV (λ_=>rfl) rfl
 by_cases v:k=6;·subst v;exact dV (λ_=>rfl) rfl
 by_cases w:k=7;·subst w;exact dV (λ_=>rfl) rfl
 have a:(k==(0:Int))=false:=by grind
 have b:(k==(1:Int))=false:=by grind
 have c:(k==(2:Int))=false:=by grind
 have d:(k==(3:Int))=false:=by grind
 have e:(k==(4:Int))=false:=by grind
 have f:(k==(5:Int))=false:=by grind
 have g:(k==(6:Int))=false:=by grind
 have h:(k==(7:Int))=false:=by grind
 simp only[a,b,c,d,e,f,g,h];refine dV (λ_=>rfl) ?_;simp only[yu,jt,a,b,c,d,e,f,g,h];rfl
theorem G2(r:Rx):aC tbl qI [.d .rx r] [] gE (ir r.out.1 r.out.2.1 r.out.2.2.1 (r.out.2.2.2.1.length:Int),()):=by
 refine aw rfl (aA TW rfl (λO m=>Uv O m r) ?_);unfold Hh;generalize r.out.1=k;generalize r.out.2.1=lo;generalize r.out.2.2.1=b;generalize(r.out.2.2.2.1.length:Int)=n;refine aj (R4 k n) ?_;unfold ir;cases yu k;·exact dV (λ_=>rfl) rfl
 cases c:(k==(1:Int))
 ·have a:(k != (1:Int))=true:=by grind
  rw[a];cases(lo != (0:Int))<;>cases(b != (0:Int))<;>cases jt k n<;>exact dV (λ_=>rfl) rfl
 ·have a:(k != (1:Int))=false:=by grind
  rw[a];cases decide (lo<(0:Int))<;>cases decide (lo>b)<;>cases decide (b>(4294967295:Int))<;>cases jt k n<;>exact dV (λ_=>rfl) rfl
theorem zbS(k lo a:Int)(n:Int)(hn:0<=n):ir k lo a n= bif k==1 then(bif decide (lo<0)||decide (lo>a)||decide (a>4294967295)then 5 else bif decide (n>0)then 1 else 0) else bif !yu k then 15 else bif !jt k n then 1 else bif lo != 0||a != 0 then 1 else 0:=by
 unfold ir;cases c:(k==(1:Int));·grind
 ·have b:k=1:=by grind
  subst b;have:jt 1 n= !decide (n>0):=by show(n==0)=_;grind
  rw[this];cases decide (lo<(0:Int))<;>cases decide (lo>a)<;>cases decide (a>(4294967295:Int))<;>cases decide (n>0)<;>rfl
theorem Cc(r:Rx):aC tbl mA [.d .rx r] [] fg (ir r.out.1 r.out.2.1 r.out.2.2.1 (r.out.2.2.2.1.length:Int),()):=by
 refine aw rfl (aA NC rfl (λO m=>NV O m r) ?_);unfold Co;have hn:(0:Int)<=(r.out.2.2.2.1.length:Int):=by simp
 generalize(r.out.2.2.2.1.length:Int)=n at hn;rw[zbS _ _ _ _ hn];generalize r.out.1=k;generalize r.out.2.1=lo;generalize r.out.2.2.1=a;by_cases u:k=1;·subst u;cases decide (lo<(0:Int))<;>cases decide (lo>a)<;>cases decide (a>(4294967295:Int))<;>cases decide (n>0)<;>exact dV (λ_=>rfl) rfl
 have d:(k==(1:Int))=false:=by grind
 rw[d];have c:∀m:Int,0<=m->(m==0)= !decide (m>0):=λm B=>by grind
 by_cases s:k=0;·subst s;rw[show jt 0 n= !decide (n>0)from c n hn];cases decide (n>0)<;>cases(lo != (0:Int))<;>cases(a != (0:Int))<;>exact dV (λ_=>rfl) rfl
 by_cases v:k=2;·subst v;rw[show jt 2 n= !decide (n>0)from c n hn];cases decide (n>0)<;>cases(lo != (0:Int))<;>cases(a != (0:Int))<;>exact dV (λ_=>rfl) rfl
 by_cases w:k=3
 ·subst w;have:jt 3 n= !decide (n<2):=by show decide (n>=2)=_;grind
  rw[this];cases decide (n<2)<;>cases(lo != (0:Int))<;>cases(a != (0:Int))<;>exact dV (λ_=>rfl) rfl
 by_cases x:k=4;·subst x;show Wp _ _;have:jt 4 n= !(n==1):=rfl;rw[this];cases(n==(1:Int))<;>cases(lo != (0:Int))<;>cases(a != (0:Int))<;>exact dV (λ_=>rfl) rfl
 have b:∀m:Int,(m==1)= !(m != 1):=λm=>by grind
 by_cases y:k=5;·subst y;rw[show jt 5 n= !(n != 1)from b n];cases(n != (1:Int))<;>cases(lo != (0:Int))<;>cases(a != (0:Int))<;>exact dV (λ_=>rfl) rfl
 by_cases z:k=6;·subst z;rw[show jt 6 n= !(n != 1)from b n];cases(n != (1:Int))<;>cases(lo != (0:Int))<;>cases(a != (0:Int))<;>exact dV (λ_=>rfl) rfl
 by_cases A:k=7;·subst A;rw[show jt 7 n= !(n != 1)from b n];cases(n != (1:Int))<;>cases(lo != (0:Int))<;>cases(a != (0:Int))<;>exact dV (λ_=>rfl) rfl
 have e:(k==(0:Int))=false:=by grind
 have f:(k==(2:Int))=false:=by grind
 have g:(k==(3:Int))=false:=by grind
 have h:(k==(4:Int))=false:=by grind
 have j:(k==(5:Int))=false:=by grind
 have l:(k==(6:Int))=false:=by grind
 have p:(k==(7:Int))=false:=by grind
 simp only[yu,e,d,f,g,h,j,l,p];exact dV (λ_=>rfl) rfl
theorem Df{k lo up:Int}{ks:List Rx}{M:Nat}(h:sz (.mk k lo up ks)<=M):ks.length<M/\∀r∈ks,sz r<M:=by simp only[sz]at h;have a:=IB ks;exact⟨by omega,λr hr=>by have:=vK hr;omega⟩
theorem R6:∀(r:Rx),sz r<=1000000->aC tbl qJ [.d .rx r] [] jb (dm r,()):=by
 refine j6 λk lo up ks n hs=>?_;obtain⟨c,b⟩:=Df hs;refine aw rfl (aA TY rfl (λO m=>Ux O m (.mk k lo up ks)) ?_);unfold Hj;refine aj (G2 _) ?_;show Wp _ _;have l:dm (.mk k lo up ks)=(ir k lo up ks.length==0&&wV ks):=rfl;refine au (λh=>aa ?_) λh=>?_
 ·have:(ir k lo up ks.length==0)=false:=by have h:(ir k lo up ks.length != 0)=true:=h;grind
  grind
 ·have d:(ir k lo up ks.length==0)=true:=by have h:(ir k lo up ks.length != 0)=false:=h;grind
  rw[l,d,y_];refine ae (vL (xs:=ks) (P:=λr=>dm r=true) (e:=(false,())) (g:=()) (λi a=>?_) ?_ (λhg=>?_) (λf=>?_));·unfold wk;refine a8 a (aI a ?_);rw[cy];have hr:=b_ a;refine aj (n ks[i] hr (by grind)) (nG ?_ (by rw[ap a (by omega)]));simp
  ·unfold wk;exact aR (aa rfl)
  ·refine aa ?_;rw[(sg ks).2 hg]
  ·refine aa ?_;have:wV ks=false:=by
    cases j:wV ks;·rfl
    ·exact absurd ((sg ks).1 j) f
   grind
theorem F8:∀(r:Rx),sz r<=1000000->aC tbl gY [.d .rx r] [] cI (dm r,()):=by
 refine j6 λk lo up ks n hs=>?_;obtain⟨c,b⟩:=Df hs;refine aw rfl (aA GJ rfl (λO m=>GP O m (.mk k lo up ks)) ?_);unfold vV;refine aj (Cc _) ?_;show Wp _ _;have l:dm (.mk k lo up ks)=(ir k lo up ks.length==0&&wV ks):=rfl;refine au (λh=>aa ?_) λh=>?_
 ·have:(ir k lo up ks.length==0)=false:=by have h:(ir k lo up ks.length != 0)=true:=h;grind
  grind
 ·have d:(ir k lo up ks.length==0)=true:=by have h:(ir k lo up ks.length != 0)=false:=h;grind
  rw[l,d,y_];refine ae (vL (xs:=ks) (P:=λr=>dm r=true) (e:=(false,())) (g:=()) (λi a=>?_) ?_ (λhg=>?_) (λf=>?_));·unfold my;refine a8 a (aI a ?_);rw[cy];have hr:=b_ a;refine aj (n ks[i] hr (by grind)) (nG ?_ (by rw[ap a (by omega)]));simp
  ·unfold my;exact aR (aa rfl)
  ·refine aa ?_;rw[(sg ks).2 hg]
  ·refine aa ?_;have:wV ks=false:=by
    cases j:wV ks;·rfl
    ·exact absurd ((sg ks).1 j) f
   grind
theorem DI{ks:List Rx}{lv c:Int}:∀{i:Nat},(h:i<ks.length)->(jf (ks.take i) lv c).2=0->jf (ks.take (i+1)) lv c=(let p:=B8 ks[i] lv (jf (ks.take i) lv c).1;(p.1,p.2)):=by intro i;induction ks generalizing c i with|nil=>simp|cons r ks b=>intro h a;cases i with|zero=>simp only[List.take_zero,S_,jf,List.getElem_cons_zero];grind|succ i=>simp only[S_,jf,List.getElem_cons_succ]at a⊢;grind
theorem Hw{lv:Int}:∀{ks:List Rx} {c:Int} {i:Nat},(jf (ks.take i) lv c).2≠0->jf ks lv c=jf (ks.take i) lv c:=by intro ks;induction ks with|nil=>simp|cons r ks a=>intro c i h;cases i with|zero=>simp[jf]at h|succ i=>simp only[S_,jf]at h⊢;grind
theorem Je:∀(r:Rx) (lv c:Int),0<=c->c<=64->c<=(B8 r lv c).1/\(B8 r lv c).1<=64:=by
 refine j6 λk lo up ks d lv c b a=>?_;have hs:∀(l:List Rx) (lv c:Int),(∀r∈l,r∈ks)->0<=c->c<=64->c<=(jf l lv c).1/\(jf l lv c).1<=64:=by intro l;induction l with|nil=>intro lv c _ b a;exact⟨au_ _,a⟩|cons r l e=>intro lv c hl b a;have hr:=d r (hl r (m_ ..)) lv c b a;simp only[jf];grind
 simp only[B8];grind
theorem N8:∀(r:Rx),sz r<=1048576->∀(lv c:Int),0<=lv->lv<=17->0<=c->c<=64->aC tbl oh [.d .rx r,.d tI lv,.d tI c] [] dI ((B8 r lv c).1,(B8 r lv c).2,()):=by
 refine j6 λk lo up ks B hs lv c y z w x=>?_;obtain⟨n,l⟩:=Df hs;refine aw rfl (aA PR rfl (λO m=>Qt O m (.mk k lo up ks) lv c) ?_);unfold Fs;refine au (λh=>aa ?_) λh=>?_
 ·have h:lv>16:=by grind
  simp only[B8,if_pos h]
 have f:¬lv>16:=by grind
 refine au (λh=>aa ?_) λh=>?_
 ·have h:c>=64:=by grind
  simp only[B8,if_neg f,if_pos h]
 have j:¬c>=64:=by grind
 refine aj (Cc _) ?_;show Wp _ _;refine au (λh=>aa ?_) λh=>?_
 ·have h:ir k lo up ks.length≠0:=by have h:(ir k lo up ks.length != 0)=true:=h;grind
  simp only[B8,if_neg f,if_neg j,if_pos h];rfl
 have v:¬ir k lo up ks.length≠0:=by have h:(ir k lo up ks.length != 0)=false:=h;grind
 have p:B8 (.mk k lo up ks) lv c=jf ks (lv+1) (c+1):=by simp only[B8,if_neg f,if_neg j,if_neg v]
 rw[p,wrap_i64 (by omega) (by omega)];have a:∀i,(jf (ks.take i) (lv+1) (c+1)).2=0->0<=(jf (ks.take i) (lv+1) (c+1)).1/\(jf (ks.take i) (lv+1) (c+1)).1<=64:=by
  intro i;induction i with
  |zero=>intro _;simp[jf];omega|succ i g=>
   intro u;by_cases b:i<ks.length
   ·have d:(jf (ks.take i) (lv+1) (c+1)).2=0:=k_ λhn=>by have:=Hw (ks:=ks.take (i+1)) (lv:=lv+1) (c:=c+1) (i:=i) (by grind);grind
    rw[DI b d];have hr:=g d;have:=Je ks[i] (lv+1) _ hr.1 hr.2;grind
   ·rw[show ks.take (i+1)=ks.take i by rw[l_ (by omega),l_ (by omega)]]at u⊢;omega
 refine ae (aX (N:=ks.length) (I:=λi s=>s=((jf (ks.take i) (lv+1) (c+1)).1,(i:Int),())/\(jf (ks.take i) (lv+1) (c+1)).2=0) (by simp[jf]) (λi s b hs=>?_) λs hs=>?_)
 ·obtain⟨rfl,d⟩:=hs;unfold uh;refine a8 b (aI b ?_);rw[cy,wrap_i64 (by omega) (by omega)];have hr:=b_ b;have e:=a i d;refine aj (B ks[i] hr (by grind) (lv+1) _ (by omega) (by omega) e.1 e.2) ?_;have A:=DI b d;refine au (λh=>aa ?_) λh=>aa ?_
  ·have hn:(B8 ks[i] (lv+1) (jf (ks.take i) (lv+1) (c+1)).1).2≠0:=by grind
   have C:=Hw (ks:=ks) (lv:=lv+1) (c:=c+1) (i:=i+1) (by grind);refine aa ?_;grind
  ·have hn:(B8 ks[i] (lv+1) (jf (ks.take i) (lv+1) (c+1)).1).2=0:=by grind
   refine⟨?_,by grind⟩;rw[ap b (by omega),A]
 ·obtain⟨rfl,d⟩:=hs;unfold uh;refine aR (aa (aa ?_));grind
theorem Oj:∀(r:Rx),sz r<=1048576->∀(lv c:Int),0<=lv->lv<=17->0<=c->c<=64->∃s:Int,((B8 r lv c).2=0->s=(B8 r lv c).1)/\aC tbl fk [.d .rx r,.d tI lv,.ptr 0 0] [.box dF [.d tI c]] bP ((B8 r lv c).2,s,()):=by
 refine j6 λk lo up ks E hs lv c B C z A=>?_;obtain⟨u,p⟩:=Df hs;suffices h:∃x:Int×Int×Unit,(x.1=(B8 (.mk k lo up ks) lv c).2/\((B8 (.mk k lo up ks) lv c).2=0->x.2.1=(B8 (.mk k lo up ks) lv c).1))/\aC tbl fk [.d .rx (.mk k lo up ks),.d tI lv,.ptr 0 0] [.box dF [.d tI c]] bP x by grind
 refine jV (sh:=bP) (λ_=>rfl) (aA IM rfl (λO m=>I1 O m (.mk k lo up ks) lv c) ?_);unfold xv;refine au (λh=>aa ⟨_,rfl,?_⟩) λh=>?_
 ·have h:lv>16:=by grind
  simp only[B8,if_pos h];simp
 have f:¬lv>16:=by grind
 refine au (λh=>aa ⟨_,rfl,?_⟩) λh=>?_
 ·have h:c>=64:=by grind
  simp only[B8,if_neg f,if_pos h];simp
 have n:¬c>=64:=by grind
 refine aj (G2 _) ?_;show Wp _ _;refine au (λh=>aa ⟨_,rfl,?_⟩) λh=>?_
 ·have h:ir k lo up ks.length≠0:=by have h:(ir k lo up ks.length != 0)=true:=h;grind
  simp only[B8,if_neg f,if_neg n,if_pos h];exact⟨rfl,λh'=>absurd h' h⟩
 have y:¬ir k lo up ks.length≠0:=by have h:(ir k lo up ks.length != 0)=false:=h;grind
 have v:B8 (.mk k lo up ks) lv c=jf ks (lv+1) (c+1):=by simp only[B8,if_neg f,if_neg n,if_neg y]
 rw[v,wrap_i64 (by omega) (by omega)];have a:∀i,(jf (ks.take i) (lv+1) (c+1)).2=0->0<=(jf (ks.take i) (lv+1) (c+1)).1/\(jf (ks.take i) (lv+1) (c+1)).1<=64:=by
  intro i;induction i with
  |zero=>intro _;simp[jf];omega|succ i l=>
   intro w;by_cases b:i<ks.length
   ·have d:(jf (ks.take i) (lv+1) (c+1)).2=0:=k_ λhn=>by have:=Hw (ks:=ks.take (i+1)) (lv:=lv+1) (c:=c+1) (i:=i) (by grind);grind
    rw[DI b d];have hr:=l d;have:=Je ks[i] (lv+1) _ hr.1 hr.2;grind
   ·rw[show ks.take (i+1)=ks.take i by rw[l_ (by omega),l_ (by omega)]]at w⊢;omega
 refine ae (aX (N:=ks.length) (I:=λi s=>s=((i:Int),(jf (ks.take i) (lv+1) (c+1)).1,())/\(jf (ks.take i) (lv+1) (c+1)).2=0) (by simp[jf]) (λi s b hs=>?_) λs hs=>?_)
 ·obtain⟨rfl,d⟩:=hs;unfold nV;refine a8 b (aI b ?_);rw[cy,wrap_i64 (by omega) (by omega)];have hr:=b_ b;have e:=a i d;obtain⟨s,g,j⟩:=E ks[i] hr (by grind) (lv+1) _ (by omega) (by omega) e.1 e.2;refine aj j ?_;have D:=DI b d;refine au (λh=>aa ?_) λh=>aa ?_
  ·have hn:(B8 ks[i] (lv+1) (jf (ks.take i) (lv+1) (c+1)).1).2≠0:=by grind
   have F:=Hw (ks:=ks) (lv:=lv+1) (c:=c+1) (i:=i+1) (by grind);refine aa ⟨_,rfl,?_⟩;grind
  ·have hn:(B8 ks[i] (lv+1) (jf (ks.take i) (lv+1) (c+1)).1).2=0:=by grind
   refine⟨?_,by grind⟩;rw[ap b (by omega),D,g hn]
 ·obtain⟨rfl,d⟩:=hs;unfold nV;refine aR (aa (aa ⟨_,rfl,?_⟩));grind
def mF(r:Rx):Int:=(B8 r 1 0).2
theorem N6(r:Rx)(hs:sz r<=1048576):aC tbl sr [.d .rx r] [] oJ (mF r,()):=by refine aw rfl (aA PN rfl (λO m=>Qq O m r) ?_);unfold Fo;exact aj (N8 r hs 1 0 (by simp) (by simp) (by simp) (by simp)) (aa rfl)
theorem Og(r:Rx)(hs:sz r<=1048576):aC tbl sC [.d .rx r] [] oO (mF r,()):=by refine aw rfl (aA P7 rfl (λO m=>QH O m r) ?_);unfold FG;obtain⟨s,_,h⟩:=Oj r hs 1 0 (by simp) (by simp) (by simp) (by simp);exact aj h (aa rfl)
theorem zcW:∀(r:Rx) (lv c:Int),(B8 r lv c).2=0->dm r=true/\(B8 r lv c).1=c+(sz r:Int):=by
 refine j6 λk lo up ks p lv c h=>?_;have hs:∀(l:List Rx) (lv c:Int),(∀r∈l,r∈ks)->(jf l lv c).2=0->(∀r∈l,dm r=true)/\(jf l lv c).1=c+(BU l:Int):=by
  intro l;induction l with
  |nil=>intro lv c _ _;exact⟨by simp,by simp[jf,BU]⟩|cons r l f=>
   intro lv c hl h;simp only[jf]at h⊢;split at h;·omega
   ·rename_i d;rw[if_neg d];have d:(B8 r lv c).2=0:=by omega
    obtain⟨g,e⟩:=p r (hl r (m_ ..)) lv c d;obtain⟨s,n⟩:=f lv _ (λx j=>hl x (i_ _ j)) h;refine⟨λx j=>?_,by rw[n,e];simp only[BU];omega⟩;grind
 simp only[B8]at h⊢;split at h;·omega
 split at h;·omega
 split at h;·omega
 ·rename_i a b d;rw[if_neg a,if_neg b,if_neg d];obtain⟨g,e⟩:=hs ks (lv+1) (c+1) (λ_ h=>h) h;have d:ir k lo up ks.length=0:=by omega
  exact⟨well_iff.2 ⟨nodeE_zero.1 d,g⟩,by rw[e];simp only[sz];omega⟩
theorem QV{r:Rx}(h:mF r=0):dm r=true/\sz r<=64:=by obtain⟨a,b⟩:=zcW r 1 0 h;have:=Je r 1 0 (by simp) (by simp);grind
theorem yU:∀(r:Rx),sz r<=1000000->aC tbl gO [.d .rx r] [] bA (Wh r,()):=by
 refine j6 λk lo up ks B hs=>?_;obtain⟨e,d⟩:=Df hs;refine aw rfl (aA JV rfl (λO m=>J8 O m (.mk k lo up ks)) ?_);unfold y5;refine ae (aX (N:=ks.length) (I:=λi s=>s=(BQ (ks.take i),w9 (ks.take i),(i:Int),())) (by simp[BQ,w9]) (λi s c hs=>?_) λs hs=>?_)
 ·subst hs;unfold pJ;refine a8 c (aI c ?_);rw[cy];have hr:=b_ c;refine aj (B ks[i] hr (by grind)) ?_;refine ae (bG (b:=Wh ks[i]) (λ_=>aa rfl) (ae (bz (b:=Wh ks[i]) (λ_=>aa rfl) (aa ?_))));have g:BQ (ks.take (i+1))=(BQ (ks.take i)||Wh ks[i]):=by rw[g_,a_ c,Wj];simp[BQ]
  have h:w9 (ks.take (i+1))=(w9 (ks.take i)&&Wh ks[i]):=by rw[g_,a_ c,Wi];simp[w9]
  rw[g,h,ap c (by omega)]
 ·subst hs;unfold pJ;refine aR (aa ?_);rw[f_];show Wp _ _;have hn:Wh (.mk k lo up ks)=bif k==0||k==5||k==7 then true else bif k==3||k==6 then w9 ks else bif k==4 then BQ ks else false:=rfl;rw[hn];show Wp (λ_=>c_ (bif (k==(0:Int))then some (((k==(0:Int)),()))else bif (k==(5:Int))then some (((k==(5:Int)),()))else some (((k==(7:Int)),()))) _) _;by_cases v:k=0;·subst v;exact dV (λ_=>rfl) rfl
  by_cases y:k=5;·subst y;exact dV (λ_=>rfl) rfl
  by_cases A:k=7;·subst A;exact dV (λ_=>rfl) rfl
  by_cases w:k=3;·subst w;exact dV (λ_=>rfl) rfl
  by_cases z:k=6;·subst z;exact dV (λ_=>rfl) rfl
  by_cases x:k=4;·subst x;exact dV (λ_=>rfl) rfl
  have f:(k==(0:Int))=false:=by grind
  have j:(k==(3:Int))=false:=by grind
  have l:(k==(4:Int))=false:=by grind
  have n:(k==(5:Int))=false:=by grind
  have p:(k==(6:Int))=false:=by grind
  have u:(k==(7:Int))=false:=by grind
  refine dV (a:=some (kJ bA (false,()))) (λ_=>?_) ?_;·show c_ (bif (k==(0:Int))then some (((k==(0:Int)),()))else bif (k==(5:Int))then some (((k==(5:Int)),()))else some (((k==(7:Int)),()))) (λC=>bif C.1 then aB bA (true,())else c_ (bif (k==(3:Int))then some (((k==(3:Int)),()))else some (((k==(6:Int)),()))) λD=>bif D.1 then aB bA (w9 ks,())else bif (k==(4:Int))then aB bA (BQ ks,())else aB bA (false,()))=_;rw[f,n,u,j,p,l];rfl
  grind
open Go Go.Av Go.Ev Go.Pl Go.Lib
theorem zfR{n:Int}(c:0<=n)(d:n<=4294967295):aC tbl mD [.d tI n] [] wI (decDigits n.toNat,()):=by
 refine zbr NG ?_ rfl;have a:ze6 n=true:=by simp only[ze6,G_,decide_eq_true_eq];omega
 have b:Lib.itoa n=decDigits n.toNat:=by unfold Lib.itoa;grind
 simp only[DW,a,cond_true,b];rfl
theorem I5{n:Int}(a:0<=n)(b:n<=4294967295):aC tbl ix [.d tI n] [] fF (decDigits n.toNat,()):=by refine aw rfl (aA K9 rfl (λO k=>Lm O k n) ?_);unfold Bn;exact aj (zfR a b) (aa rfl)
theorem zcv:∀(n:Nat) (m:Int),m=(n:Int)->n<=4294967295->aC tbl jP [.d tQ m] [] ff (decDigits n,()):=by
 intro n;induction n using Nat.strongRecOn with
 |ind n h=>
  intro m g hn;subst g;refine aw rfl (aA NB rfl (λO k=>NU O k (n:Int)) ?_);unfold Cn;have c:d_ .u8 (d_ .u64 ((48:Int)+(Int.tmod (n:Int) (10:Int))))=((48+n%10:Nat):Int):=by rw[wrap_u8,wrap_u64,Int.tmod_eq_emod_of_nonneg (by simp)];omega
  refine aE rfl ?_;refine au (λf=>?_) (λe=>?_)
  ·have a:n<10:=by grind
   refine aa ?_;have:decDigits n=[UInt8.ofNat (48+n)]:=by rw[decDigits,dif_pos a]
   grind
  ·have b:10<=n:=by grind
   have d:d_ .u64 (Int.tdiv (n:Int) 10)=((n/10:Nat):Int):=by rw[wrap_u64,V_ (by simp)];omega
   have hl:=pP (show n/10<=4294967295 by omega);refine aE rfl (aj (h (n/10) (by omega) _ d (by omega)) (aE ?_ (aa ?_)));·grind
   ·rw[c];have:decDigits n=decDigits (n/10)++[UInt8.ofNat (48+n%10)]:=by conv=>lhs;rw[decDigits,dif_neg (by omega)]
    rw[this];rfl
theorem zN{n:Int}(b:0<=n)(c:n<=4294967295):aC tbl iy [.d tI n] [] d6 (decDigits n.toNat,()):=by refine aw rfl (aA Le rfl (λO k=>Lr O k n) ?_);unfold Bs;refine au (λa=>absurd (of_decide_eq_true a) (by omega)) (λ_=>?_);exact aj (zcv n.toNat _ (by rw[wrap_u64];omega) (by omega)) (aa rfl)
theorem zen(ks:List Rx)(i:Nat):BU (ks.take i)<=BU ks:=by have:=TH (ks.take i) (ks.drop i);rw[F_]at this;omega
theorem zaB(p:Int){x:Rx}(a:dm x=true):(qd p x).length+1<=26*sz x:=by have:=zaC p x;have:=LK x a;omega
theorem zem(p:Int):∀l:List Rx,(∀x∈l,dm x=true)->((l.map (qd p)).map λx=>x.length+1).sum<=26*BU l
 |[],_=>by simp
 |r::l,h=>by have b:=zaB p (h r (m_ ..));have c:=zem p l λx a=>h x (i_ _ a);simp only[N_,aq_,BU]at*;omega
theorem zhq(c:UInt8)(p:Int)(l:List Rx)(h:∀x∈l,dm x=true):(jn c (l.map (qd p))).length<=26*BU l:=x_ (S7 c _) (zem p l h)
theorem yE{α β:Type}(f:α->β){l:List α}{i:Nat}(h:i<l.length):(l.take (i+1)).map f=(l.take i).map f++[f l[i]]:=by rw[g_,a_ h,r_];rfl
theorem Bj(k:Int):aC tbl kT [.d tI k] [] iE (k==5||k==6||k==7,()):=by refine aw rfl (aA Li rfl (λO m=>Lv O m k) ?_);unfold Bw;cases(k==(5:Int))<;>cases(k==(6:Int))<;>exact dV (λ_=>rfl) rfl
theorem Kv(ks:List Rx):decide ((ks.length:Int)>0)= !ks.isEmpty:=by cases ks with|nil=>rfl|cons x l=>simp
theorem Xh(p k lo up:Int)(ks:List Rx):ub p (.mk k lo up ks)=bif k==4 then !ks.isEmpty else bif k==3 then p != 4 else(k==5||k==6||k==7)&&(p==5||p==6||p==7):=rfl
theorem KI(p:Int)(x:Rx):aC tbl pi [.d tI p,.d .rx x] [] fH (ub p x,()):=by
 obtain⟨k,lo,up,ks⟩:=x;refine aw rfl (aA Lj rfl (λO m=>Lw O m p (.mk k lo up ks)) ?_);unfold By;rw[Xh];refine au (λh=>aa ?_) λh=>?_;·have h:(k==4)=true:=h;rw[h,cond_true,<-Kv];rfl
 have h:(k==4)=false:=h;rw[h,cond_false];refine au (λh=>aa ?_) λh=>?_;·have h:(k==3)=true:=h;grind
 have h:(k==3)=false:=h;rw[h,cond_false];refine aj (Bj k) (ae (bz (b:=(p==5||p==6||p==7)) (λ_=>aj (Bj p) (aa rfl)) (aa rfl)))
theorem VR(p:Int)(x:Rx)(hl:(jM x).length<=1000000)(h:aC tbl iP [.d .rx x] [] eV (jM x,())):aC tbl gH [.d tI p,.d .rx x] [] dJ (qd p x,()):=by
 refine aw rfl (aA Qc rfl (λO m=>QM O m p x) ?_);unfold FL;refine aj h (aj (KI p x) (au (λa=>aE (decide_eq_true ?_) (aE (decide_eq_true ?_) (aa ?_))) λa=>aa ?_));·grind
 ·grind
 ·have a:ub p x=true:=a;unfold qd;rw[a];rfl
 ·have a:ub p x=false:=a;unfold qd;rw[a];rfl
theorem RB(k lo up:Int)(ks:List Rx)(c:UInt8)(f:∀x∈ks,dm x=true)(w:BU ks<=1000)(h:∀x∈ks,aC tbl iP [.d .rx x] [] eV (jM x,())): Wp (λn=>aL n (qA (qc tbl n) n (.mk k lo up ks) ([c],())) (([]:List UInt8),(0:Int),())) λt=>t=(jn c (ks.map (qd k)),()):=by
 have g:=IB ks;refine aX (N:=ks.length) (I:=λi s=>s=(jn c ((ks.take i).map (qd k)),(i:Int),())) rfl ?_ ?_
 ·rintro i s b rfl;have d:=b_ b;have u:=zhq c k (ks.take i) λx r=>f x (v_ r);have p:=zen ks i;have j:=zaB k (f _ d);have l:=vK d;have hp:=LK _ (f _ d);unfold qA;refine a8 b (aI b ?_);have hc:=VR k ks[i] (by omega) (h _ d);rw[yE _ b,S8];refine ae (Ev.wp_mono (Q:=λv=>v=((if(ks.take i).map (qd k)=[]then []else jn c ((ks.take i).map (qd k))++[c]),ks[i].out.1,ks[i].out.2.1,ks[i].out.2.2.1,ks[i].out.2.2.2.1,())) (au (λa=>aE (decide_eq_true ?_) (aa ?_)) λa=>aa ?_) ?_);·grind
  ·have a:(i:Int)>0:=of_decide_eq_true a;rw[if_neg (by intro e;have:=congrArg av_ e;grind)];rfl
  ·have a:¬(i:Int)>0:=of_decide_eq_false a;have:i=0:=by omega
   subst this;rfl
  rintro v rfl;rw[cy];refine aj hc (aE (decide_eq_true ?_) (aa ?_));·grind
  ·show(_,d_ .i64 ((i:Int)+1),())=_;rw[ap b (by omega)];grind
 ·rintro s rfl;unfold qA;rw[f_];exact aR (aa rfl)
theorem R5:∀(r:Rx),dm r=true->sz r<=1000->aC tbl iP [.d .rx r] [] eV (jM r,()):=by
 refine j6 λk lo up ks l j hs=>?_;obtain⟨nd,a⟩:=well_iff.1 j;have hsz:BU ks<=1000:=by simp only[sz]at hs;omega
 have c:∀x∈ks,aC tbl iP [.d .rx x] [] eV (jM x,()):=λx b=>l x b (a x b) (by have:=vK b;omega);refine aw rfl (aA TX rfl (λO m=>Uw O m (.mk k lo up ks)) ?_);unfold Hi;have one:∀x,ks=[x]->∀p:Int,aC tbl gH [.d tI p,.d .rx x] [] dJ (qd p x,())/\(qd p x).length<=26000:=λx e p=>by
  have b:x∈ks:=by grind
  have s:=LK x (a x b);have u:=vK b;have v:=zaB p (a x b);exact⟨VR p x (by omega) (c x b),by omega⟩
 rcases nd.known with rfl|rfl|rfl|rfl|rfl|rfl|rfl|rfl;·refine ae (aJ rfl (aa (aa ?_)));simp[jM]
 ·obtain⟨r1,r2,r3⟩:=nd.rng rfl;refine ae (an rfl (an rfl (aJ rfl (au (λh=>?_) λh=>?_))))
  ·have h:(lo==up)=true:=h;have h:lo=up:=by grind
   subst h;refine aj (I5 (n:=lo) r1 r3) (aa (aa ?_));simp[jM]
  ·have h:(lo==up)=false:=h;have h:lo≠up:=by grind
   have l1:=pP (n:=lo.toNat) (by omega);have l2:=pP (n:=up.toNat) (by omega);refine aj (I5 (n:=lo) r1 (by omega)) (aE (decide_eq_true ?_) (aE (decide_eq_true ?_) (aj (I5 (n:=up) (by omega) r3) (aE (decide_eq_true ?_) (aE (decide_eq_true ?_) (aa (aa ?_)))))));·grind
   ·grind
   ·grind
   ·grind
   ·simp[jM,h]
 ·refine ae (an rfl (aJ rfl (aa (aa ?_))));simp[jM]
 ·obtain⟨rfl,rfl⟩:=nd.zero (by simp);refine ae (an rfl (an rfl (an rfl (an rfl (an rfl (an rfl (an rfl (aa ?_))))))));refine ae (Ev.wp_mono (RB 3 0 0 ks 32 a hsz c) ?_);rintro t rfl;refine aa ?_;simp[jM,et]
 ·obtain⟨rfl,rfl⟩:=nd.zero (by simp);refine ae (an rfl (an rfl (an rfl (an rfl (an rfl (an rfl (aJ rfl (au (λh=>aa (aa ?_)) λh=>aa ?_))))))));·have h:((ks.length:Int)==0)=true:=h;have h:=len_nil (by simpa using h);subst h;simp[jM]
  ·have h:((ks.length:Int)==0)=false:=h;have f:ks≠[]:=by grind
   refine ae (Ev.wp_mono (RB 4 0 0 ks 124 a hsz c) ?_);rintro t rfl;refine aa ?_;simp[jM,et,f]
 ·obtain⟨rfl,rfl⟩:=nd.zero (by simp);obtain⟨x,rfl⟩:=re (nd.one (by simp));obtain⟨d,g⟩:=one x rfl 5;refine ae (an rfl (an rfl (an rfl (aJ rfl (kQ (by simp) rfl (aj d (aE (decide_eq_true ?_) (aa (aa ?_)))))))));·grind
  ·simp[jM,et]
 ·obtain⟨rfl,rfl⟩:=nd.zero (by simp);obtain⟨x,rfl⟩:=re (nd.one (by simp));obtain⟨d,g⟩:=one x rfl 6;refine ae (an rfl (an rfl (an rfl (an rfl (aJ rfl (kQ (by simp) rfl (aj d (aE (decide_eq_true ?_) (aa (aa ?_))))))))));·grind
  ·simp[jM,et]
 ·obtain⟨rfl,rfl⟩:=nd.zero (by simp);obtain⟨x,rfl⟩:=re (nd.one (by simp));obtain⟨d,g⟩:=one x rfl 7;refine ae (an rfl (an rfl (an rfl (an rfl (an rfl (aJ rfl (kQ (by simp) rfl (aj d (aE (decide_eq_true ?_) (aa (aa ?_)))))))))));·grind
  ·simp[jM,et]
theorem Oi(r:Rx)(hs:sz r<=1048576):aC tbl lh [.d .rx r] [] jo (if mF r=0 then jM r else [],mF r,()):=by
 refine aw rfl (aA Qa rfl (λO m=>QK O m r) ?_);unfold FJ;refine aj (Og r hs) (au (λh=>aa ?_) λh=>?_);·grind
 ·have h:mF r=0:=by grind
  obtain⟨a,b⟩:=QV h;refine aj (R5 r a (by omega)) (aa ?_);grind
theorem I7(p x:Rx):aC tbl m9 [.d .rx p,.d .rx x] [] dB (ub p.out.1 x,()):=by
 obtain⟨k,lo,up,ks⟩:=x;refine aw rfl (aA JW rfl (λO m=>J9 O m p (.mk k lo up ks)) ?_);unfold y6;generalize p.out.1=q;refine ae (bG (b:=(q==6)) (λ_=>aa rfl) (ae (bG (b:=(q==7)) (λ_=>aa rfl) ?_)));rw[Xh];refine au (λh=>aa ?_) λh=>?_;·have h:(k==3)=true:=h;grind
 have a:(k==3)=false:=h;refine au (λh=>aa ?_) λh=>?_;·have h:(k==4)=true:=h;rw[h,cond_true,<-Kv];rfl
 have c:(k==4)=false:=h;rw[a,c,cond_false,cond_false];refine ae (Ev.wp_mono (Q:=λv=>v=(k==5||k==6||k==7,())) (au (λh=>aa ?_) λh=>au (λh'=>aa ?_) λh'=>aa ?_) ?_);·have h:(k==5)=true:=h;grind
 ·have h:(k==5)=false:=h;have h':(k==6)=true:=h';grind
 ·have h:(k==5)=false:=h;have h':(k==6)=false:=h';show((k==7),())=_;grind
 rintro v rfl;refine au (λh=>aa ?_) λh=>aa ?_;all_goals grind
theorem Ns(f:List UInt8->Nat):∀(l:List (List UInt8)) (i:Nat),((l.take i).map f).sum<=(l.map f).sum
 |[],i=>by simp
 |x::l,0=>by simp
 |x::l,i+1=>by have:=Ns f l i;grind
theorem Cd(l:List (List UInt8))(c:UInt8)(hl:(l.map λx=>x.length+1).sum<=1000000):aC tbl mB [.d (.list tS) l,.d tS [c]] [] j5 (jn c l,()):=by
 refine aw rfl (aA ND rfl (λO m=>NW O m l [c]) ?_);unfold Cp;have f:l.length<=(l.map λx=>x.length+1).sum:=by clear hl;induction l with|nil=>simp|cons x l n=>grind
 refine ae (Ev.wp_mono (Q:=λt=>t=(jn c l,())) (aX (N:=l.length) (I:=λi s=>s=(jn c (l.take i),(i:Int),())) rfl ?_ ?_) ?_)
 ·rintro i s b rfl;have j:=S7 c (l.take i);have k:=Ns (λx=>x.length+1) l i;have d:=Ns (λx=>x.length+1) l (i+1);have g:=yE (λx:List UInt8=>x.length+1) b;rw[g,List.sum_append]at d;simp only[aq_,List.sum_nil]at d;have h:l.take (i+1)=l.take i++[l[i]]:=by simp
  unfold rV;refine a8 b (aI b ?_);rw[h,S8];refine ae (Ev.wp_mono (Q:=λv=>v=((if l.take i=[]then []else jn c (l.take i)++[c]),())) (au (λa=>aE (decide_eq_true ?_) (aa ?_)) λa=>aa ?_) ?_);·grind
  ·have a:(i:Int)>0:=of_decide_eq_true a;rw[if_neg (by intro e;have:=congrArg av_ e;grind)]
  ·have a:¬(i:Int)>0:=of_decide_eq_false a;have:i=0:=by omega
   subst this;rfl
  rintro v rfl;refine aE (decide_eq_true ?_) (aa ?_);·grind
  ·show(_,d_ .i64 ((i:Int)+1),())=_;rw[ap b (by omega)];grind
 ·rintro s rfl;unfold rV;rw[f_];exact aR (aa rfl)
 ·rintro t rfl;exact aa rfl
theorem Tn(k lo up:Int)(ks:List Rx)(f:∀x∈ks,dm x=true)(g:BU ks<=1000)(h:∀x∈ks,aC tbl fD [.d .rx x] [] bw (jM x,())): Wp (λn=>aL n (lO (qc tbl n) n (.mk k lo up ks)) ((0:Int),([]:List (List UInt8)),())) λt=>t=(ks.map (qd k),()):=by
 have d:=IB ks;refine aX (N:=ks.length) (I:=λi s=>s=((i:Int),(ks.take i).map (qd k),())) rfl ?_ ?_
 ·rintro i s b rfl;have c:=b_ b;have e:=vK c;have hp:=LK _ (f _ c);unfold lO;refine a8 b (aI b ?_);rw[cy,yE _ b];refine aj (h _ c) (ae (Ev.wp_mono (Q:=λv=>v=(qd k ks[i],(ks.take i).map (qd k),())) (aj (I7 (.mk k lo up ks) ks[i]) (au (λa=>aE (decide_eq_true ?_) (aE (decide_eq_true ?_) (aa ?_))) λa=>aa ?_)) ?_));·show 1+(jM ks[i]).length<=_;omega
  ·show(jM ks[i]).length+1+1<=_;omega
  ·have a:ub k ks[i]=true:=a;unfold qd;rw[a];rfl
  ·have a:ub k ks[i]=false:=a;unfold qd;rw[a];rfl
  rintro v rfl;refine aE (decide_eq_true ?_) (aa ?_);·grind
  ·show(d_ .i64 ((i:Int)+1),_)=_;rw[ap b (by omega)]
 ·rintro s rfl;unfold lO;rw[f_];exact aR (aa rfl)
theorem KH:∀(r:Rx),dm r=true->sz r<=1000->aC tbl fD [.d .rx r] [] bw (jM r,()):=by
 refine j6 λk lo up ks l j hs=>?_;obtain⟨nd,a⟩:=well_iff.1 j;have hsz:BU ks<=1000:=by simp only[sz]at hs;omega
 have d:∀x∈ks,aC tbl fD [.d .rx x] [] bw (jM x,()):=λx b=>l x b (a x b) (by have:=vK b;omega);refine aw rfl (aA Lf rfl (λO m=>Ls O m (.mk k lo up ks)) ?_);unfold Bt;refine ae (Ev.wp_mono (Tn k lo up ks a hsz d) ?_);rintro t rfl;have g:=zem k ks a;have one:∀x,ks=[x]->∀p:Int,(qd p x).length<=26000:=λx e p=>by
  have b:x∈ks:=by grind
  have s:=vK b;have u:=zaB p (a x b);omega
 rcases nd.known with rfl|rfl|rfl|rfl|rfl|rfl|rfl|rfl;·refine aJ rfl (aa ?_);simp[jM]
 ·obtain⟨r1,r2,r3⟩:=nd.rng rfl;refine an rfl (aJ rfl (au (λh=>?_) λh=>?_))
  ·have h:(lo==up)=true:=h;have h:lo=up:=by grind
   subst h;refine aj (zN (n:=lo) r1 r3) (aa ?_);simp[jM]
  ·have h:(lo==up)=false:=h;have h:lo≠up:=by grind
   have l1:=pP (n:=lo.toNat) (by omega);have l2:=pP (n:=up.toNat) (by omega);refine aj (zN (n:=lo) r1 (by omega)) (aE (decide_eq_true ?_) (aE (decide_eq_true ?_) (aj (zN (n:=up) (by omega) r3) (aE (decide_eq_true ?_) (aE (decide_eq_true ?_) (aa ?_))))));·grind
   ·grind
   ·grind
   ·grind
   ·simp[jM,h]
 ·refine an rfl (an rfl (aJ rfl (aa ?_)));simp[jM]
 ·obtain⟨rfl,rfl⟩:=nd.zero (by simp);refine an rfl (an rfl (an rfl (aJ rfl (aj (Cd (ks.map (qd 3)) 32 (by omega)) (aa ?_)))));simp[jM,et]
 ·obtain⟨rfl,rfl⟩:=nd.zero (by simp);refine an rfl (an rfl (an rfl (an rfl (aJ rfl (au (λh=>aa ?_) λh=>aj (Cd (ks.map (qd 4)) 124 (by omega)) (aa ?_))))));·have h:(((ks.map (qd 4)).length:Int)==0)=true:=h;rw[D_]at h;have h:=len_nil (by simpa using h);subst h;simp[jM]
  ·have h:(((ks.map (qd 4)).length:Int)==0)=false:=h;have c:ks≠[]:=by grind
   simp[jM,et,c]
 ·obtain⟨rfl,rfl⟩:=nd.zero (by simp);obtain⟨x,rfl⟩:=re (nd.one (by simp));have f:=one x rfl 5;refine an rfl (an rfl (an rfl (an rfl (an rfl (aJ rfl (kQ (by simp) rfl (fI rfl (aE (decide_eq_true ?_) (aa ?_)))))))));·grind
  ·simp[jM,et]
 ·obtain⟨rfl,rfl⟩:=nd.zero (by simp);obtain⟨x,rfl⟩:=re (nd.one (by simp));have f:=one x rfl 6;refine an rfl (an rfl (an rfl (an rfl (an rfl (an rfl (aJ rfl (kQ (by simp) rfl (fI rfl (aE (decide_eq_true ?_) (aa ?_))))))))));·grind
  ·simp[jM,et]
 ·obtain⟨rfl,rfl⟩:=nd.zero (by simp);obtain⟨x,rfl⟩:=re (nd.one (by simp));have f:=one x rfl 7;refine an rfl (an rfl (an rfl (an rfl (an rfl (an rfl (an rfl (kQ (by simp) rfl (fI rfl (aE (decide_eq_true ?_) (aa ?_))))))))));·grind
  ·simp[jM,et]
end Go.Proofs.YthjnceggmnicmaaGreatDoor
namespace Go.Ev
open Go Go.RowKit Go.Av
section
variable {tbl:Nat->Option Fun'}
def ea(tbl:Nat->Option Fun')(f:Nat)(ars:List V)(os:List Ob)(sh:Sh)(o:Option (HL sh.sl)):Prop:=∃a,∀n,a<=n->lW (qc tbl n) f ars os sh=some o
theorem QT{f:Nat}{ars:List V}{os:List Ob}{sh:Sh}{R:Option (HL sh.sl)->Prop}(hp:∀c,C4 sh (kJ sh c)=some c)(h:Conv tbl f ars os λo=>∃c:Option (HL sh.sl),o=c.map (kJ sh)/\R c):∃o,R o/\ea tbl f ars os sh o:=by obtain⟨o,⟨c,rfl,hr⟩,b,hn⟩:=h;refine⟨c,hr,b,λn a=>?_⟩;have e:=hn n a;unfold lW;have e:qc tbl n f ars os=_:=e;cases c with|none=>grind|some c=>rw[e];have:=hp c;unfold C4 at this;grind
theorem vN{f:Nat}{ars:List V}{os:List Ob}{sh:Sh}{o:Option (HL sh.sl)}(hp:∀c,C4 sh (kJ sh c)=some c)(h:Conv tbl f ars os (·=o.map (kJ sh))):ea tbl f ars os sh o:=by obtain⟨o',rfl,b⟩:=QT (R:=λc=>c=o) hp (zbw h λx a=>⟨o,a,rfl⟩);omega
theorem j8{f:Nat}{ars:List V}{os:List Ob}{sh:Sh}{β:Type}{k:Nat->Option (HL sh.sl)->Option β}{Q:β->Prop}{o:Option (HL sh.sl)}(h:ea tbl f ars os sh o)(a:Wp (λn=>k n o) Q):Wp (λn=>c_ (lW (qc tbl n) f ars os sh) (k n)) Q:=by obtain⟨b,hn⟩:=h;exact ae ⟨o,a,b,hn⟩
end
end Go.Ev
namespace Go.Proofs.YthjnceggmnicmaaGreatDoor
open Go Go.Av Go.Ev Go.Pl Go.Lib
theorem UG(s:List UInt8)(hs:s.length<=1048576):∃c:Bool×Unit,((∀n,s=decDigits n->c=(true,()))/\(c.1=true->s≠[]))/\aC tbl lS [.d tS s] [] cY c:=by
 refine jV (sh:=cY) (λ_=>rfl) (aA IF rfl (λO k=>IU O k s) ?_);unfold xn;refine ae (bG (b:=decide ((s.length:Int)>(1:Int))&&(((s.getD 0 0).toNat:Int)==(48:Int))) (λg=>ae (bz (b:=(((s.getD 0 0).toNat:Int)==(48:Int))) (λj=>?_) (aa rfl))) ?_)
 ·have hl:1<s.length:=by grind
  refine kQ (x:=s.getD 0 0) (au_ _) ?_ (aa rfl);grind
 ·refine au (λh=>aa ⟨(false,()),rfl,λn hn=>?_,λh=>by grind⟩) (λh=>?_);·exfalso;have hp:=Mf n;have p:=zbx n;grind
  ·have d:s≠[]:=by grind
   refine ae (Wp.imp (Q:=λr=>match r with| .inl v=>v.1=false/\∀n,s≠decDigits n| .inr _=>True) (aX (N:=s.length) (I:=λi st=>st=((i:Int),())) rfl (λi st e a=>?_) λst a=>?_) λr hr=>?_)
   ·subst a;unfold nQ;have f:=a_ e;refine au (λ_=>?_) (λh=>absurd h (by grind));refine kQ (J_ _) f ?_;refine ae (bG (b:=decide ((s[i].toNat:Int)>(57:Int))) (λ_=>kQ (J_ _) f (aa rfl)) ?_);refine au (λl=>aa ⟨rfl,λn hn=>?_⟩) (λ_=>aa ?_);·have:=HA n s[i] (by grind);unfold MM at this;grind
    ·simp only;rw[ap e (by omega)]
   ·subst a;unfold nQ;exact au (λh=>absurd h (by simp)) λ_=>aa trivial
   ·cases r with|inl v=>exact aa ⟨_,rfl,λn hn=>absurd hn (hr.2 n),λ_=>d⟩|inr v=>exact aa ⟨_,rfl,λ_ _=>rfl,λ_=>d⟩
theorem zcr(s:List UInt8)(hs:s.length<=1048576):∃c:Int×Int×Unit,((∀m:Nat,m<=4294967295->s=decDigits m->c=((m:Int),(0:Int),()))/\(c.2.1=0->s≠[]))/\aC tbl mz [.d tS s,.d tI (4294967295:Int)] [] db c:=by
 obtain⟨L,⟨H,z⟩,b⟩:=UG s hs;refine jV (sh:=db) (λ_=>rfl) (aA Nv rfl (λO k=>NO O k s 4294967295) ?_);unfold Cg;refine aj b (au (λh=>aa ⟨_,rfl,λm a hn=>?_,λM=>by grind⟩) (λhc=>?_));·grind
 have d:s≠[]:=z (by grind);refine ae (Wp.imp (Q:=λr=>match r with| .inl v=>∀m:Nat,m<=4294967295->s≠decDigits m| .inr v=>∀m:Nat,m<=4294967295->s=decDigits m->v.1=m) (aX (N:=s.length) (I:=λi st=>st.2.1=(i:Int)/\∀m:Nat,m<=4294967295->s=decDigits m->st.1=(sf (s.take i):Int)) ⟨rfl,λ_ _ _=>rfl⟩ (λi st A f=>?_) λst f=>?_) λr hr=>?_)
 ·obtain⟨n,j,_⟩:=st;obtain⟨g,p⟩:=f;simp only at g p;subst g;unfold rQ;have J:=a_ A;have D:∀m:Nat,m<=4294967295->s=decDigits m->n=(sf (s.take i):Int)/\sf (s.take i)<=4294967295/\MM s[i]/\sf (s.take (i+1))<=4294967295/\sf (s.take (i+1))=10*sf (s.take i)+(s[i].toNat - 48):=λm a hn=>by
   have P:sf s=m:=by rw[hn,HB]
   have hd:MM s[i]:=HA m s[i] (by grind);have e:s.getD i 0=s[i]:=by grind
   exact⟨p m a hn,by have:=J2 (l:=s) (k:=i) (by omega);omega,hd,by have:=J2 (l:=s) (k:=i+1) (by omega);omega,by rw[takeD A,D8,e]⟩
  have w:MM s[i]->d_ .i64 (d_ .u8 ((s[i].toNat:Int) - 48))=((s[i].toNat - 48:Nat):Int):=λh=>by unfold MM at h;rw[wrap_u8,wrap_i64 (by omega) (by omega)];omega
  refine au (λ_=>?_) (λh=>absurd h (by grind));refine kQ (J_ _) J ?_;refine aE rfl (au (λC=>aa λm a hn=>?_) (λ_=>aa ⟨?_,λm a hn=>?_⟩));·obtain⟨y,E,x,F,B⟩:=D m a hn;have u:=of_decide_eq_true C;rw[w x,y]at u;unfold MM at x;rw[wrap_i64 (n:=9223372036854775807 - ((s[i].toNat - 48:Nat):Int)) (by omega) (by omega),V_ (by omega),wrap_i64 (by omega) (by omega)]at u;omega
  ·simp only;rw[ap A (by omega)]
  ·obtain⟨y,E,x,F,B⟩:=D m a hn;simp only;rw[w x,y,wrap_i64 (n:=10*((sf (s.take i):Nat):Int)) (by omega) (by omega),wrap_i64 (by omega) (by omega),B];simp
 ·obtain⟨n,j,_⟩:=st;obtain⟨g,p⟩:=f;simp only at g p;subst g;unfold rQ;refine au (λh=>absurd h (by simp)) λ_=>aa λm a hn=>?_;simp only;rw[p m a hn,l_ (w_ _),hn,HB]
 ·cases r with|inl v=>exact aa ⟨_,rfl,λm a hn=>absurd hn (hr m a),λ_=>d⟩|inr v=>refine au (λC=>aa ⟨_,rfl,λm a hn=>?_,λ_=>d⟩) (λ_=>aa ⟨_,rfl,λm a hn=>?_,λ_=>d⟩);all_goals grind
theorem B9(s:List UInt8)(i:Nat):aC tbl bo [.ptr 0 0] [.box aF [.d tS s,.d tI (i:Int)]] bb ((pk s i:Int),s,(i:Int),()):=by
 refine aw rfl (aA B1 rfl (λO m=>B7 O m s (i:Int)) ?_);unfold rM;refine au (λh=>?_) λh=>aa ?_
 ·have h:i<s.length:=by grind
  refine aI h (aa ?_);rw[M8 h]
 ·have h:¬i<s.length:=by grind
  rw[zdH h];rfl
structure Run(s:List UInt8)(i j:Nat):Prop where
 le:i<=j
 top:j<=s.length
 all:∀k,i<=k->k<j->dg (pk s k)
theorem Tt{s:List UInt8}{i j m:Nat}{t:List UInt8}(h:Run s i j)(p:¬dg (pk s j))(a:s.drop i=decDigits m++t)(u:¬dg (hd t)):j=i+(decDigits m).length/\(s.take j).drop i=decDigits m:=by
 have n:∀k,i<=k->k<i+(decDigits m).length->dg (pk s k):=λk f g=>by
  have hl:k - i<(decDigits m).length:=by omega
  have e:s[k]? =some (decDigits m)[k - i]:=by
   have c:(s.drop i)[k - i]? =s[k]? :=by rw[List.getElem?_drop];congr 1;omega
   grind
  have d:=HA m _ (b_ hl);unfold pk;rw[al_,e];exact d
 have c:¬dg (pk s (i+(decDigits m).length)):=by rw[ri,kV a];omega
 have r:j=i+(decDigits m).length:=by
  apply k_;intro hn;have:=h.le;rcases Nat.lt_or_gt_of_ne hn with l|b;·grind
  ·exact c (h.all _ (by simp) b)
 grind
theorem zcz(s:List UInt8)(hs:s.length<=1048576)(i:Nat)(u:i<=s.length):∃o:Option (Int×Nat),(∀n j,o=some (n,j)->i<j/\j<=s.length)/\(∀(m:Nat) t,s.drop i=decDigits m++t->m<=4294967295->¬dg (hd t)->o=some ((m:Int),i+(decDigits m).length))/\ea tbl be [.ptr 0 0] [.box aF [.d tS s,.d tI (i:Int)]] q_regex_parser_number_r (o.map λx=>(x.1,s,(x.2:Int),())):=by
 suffices h:∃v:Option (HL q_regex_parser_number_r.sl),(∃o:Option (Int×Nat),v=o.map (λx=>(x.1,s,(x.2:Int),()))/\(∀n j,o=some (n,j)->i<j/\j<=s.length)/\(∀(m:Nat) t,s.drop i=decDigits m++t->m<=4294967295->¬dg (hd t)->o=some ((m:Int),i+(decDigits m).length)))/\ea tbl be [.ptr 0 0] [.box aF [.d tS s,.d tI (i:Int)]] q_regex_parser_number_r v by
  obtain⟨v,⟨o,rfl,b,d⟩,r⟩:=h
  exact⟨o,b,d,r⟩
 refine QT (λ_=>rfl) (aA zz rfl (λO m=>zH O m s (i:Int)) ?_);unfold pV;refine ae (Ev.wp_mono (Ev.wp_loop (Q:=λt=>∃j:Nat,t=(s,(j:Int),())/\Run s i j/\¬dg (pk s j)) (λt=>∃j:Nat,t=(s,(j:Int),())/\Run s i j) (λt=>s.length - t.2.1.toNat) ⟨i,rfl,⟨w_ _,u,λk b d=>absurd d (by omega)⟩⟩ ?_) ?_)
 ·rintro t ⟨j,rfl,hr⟩;unfold nL;refine aj (B9 s j) (au (λh=>?_) λh=>aa ⟨j,rfl,hr,?_⟩)
  ·have h:(pk s j:Int)>=48:=of_decide_eq_true h;have f:=dP (s:=s) (i:=j) (by omega);refine aj (B9 s j) (au (λh'=>aa ?_) λh'=>aa ⟨j,rfl,hr,?_⟩)
   ·have h':(pk s j:Int)<=57:=of_decide_eq_true h';refine⟨⟨j+1,?_,⟨by have:=hr.le;omega,by omega,λk b d=>?_⟩⟩,?_⟩;·show(s,d_ .i64 ((j:Int)+1),())=_;rw[ap f (by omega)]
    ·by_cases e:k=j;·subst e;exact⟨by omega,by omega⟩
     ·exact hr.all k b (by omega)
    ·show s.length - (d_ .i64 ((j:Int)+1)).toNat<s.length - (j:Int).toNat;rw[ap f (by omega)];omega
   ·have h':¬(pk s j:Int)<=57:=of_decide_eq_false h';unfold Pl.dg;omega
  ·have h:¬(pk s j:Int)>=48:=of_decide_eq_false h;unfold Pl.dg;omega
 ·rintro t ⟨j,rfl,hr,l⟩;have b:=hr.le;have d:=hr.top;refine aE (decide_eq_true (by simp)) (aE (decide_eq_true (by simp)) (aE ?_ ?_));·grind
  show Wp (λn=>c_ (ar (qc tbl n) mz [.d tS ((s.take (p_ (j:Int))).drop (p_ (i:Int))),.d tI (4294967295:Int)] [] db) _) _;rw[e_,e_];obtain⟨c,⟨y,z⟩,hc⟩:=zcr ((s.take j).drop i) (by grind);refine aj (c:=c) hc (ae (au (λh=>aa ?_) λh=>aa ?_))
  ·have h:c.2.1≠0:=by grind
   refine aa ⟨none,rfl,none,rfl,(λ_ _ h=>by grind),λm t a w g=>?_⟩;obtain⟨_,p⟩:=Tt hr l a g;grind
  ·have h:c.2.1=0:=by grind
   refine aa ⟨some (c.1,s,(j:Int),()),rfl,some (c.1,j),rfl,?_,λm t a w g=>?_⟩;·grind
   ·obtain⟨A,p⟩:=Tt hr l a g;grind
theorem zfC(s:List UInt8)(hs:s.length<=1048576):∃num:Nat->Option (Int×Nat),NumOk s num/\∀i,i<=s.length->ea tbl be [.ptr 0 0] [.box aF [.d tS s,.d tI (i:Int)]] q_regex_parser_number_r ((num i).map λx=>(x.1,s,(x.2:Int),())):=by
 have h:∀i:Nat,∃o:Option (Int×Nat),i<=s.length->(∀n j,o=some (n,j)->i<j/\j<=s.length)/\(∀(m:Nat) t,s.drop i=decDigits m++t->m<=4294967295->¬dg (hd t)->o=some ((m:Int),i+(decDigits m).length))/\ea tbl be [.ptr 0 0] [.box aF [.d tS s,.d tI (i:Int)]] q_regex_parser_number_r (o.map λx=>(x.1,s,(x.2:Int),())):=λi=>by
  by_cases a:i<=s.length
  ·obtain⟨o,d⟩:=zcz s hs i a;grind
  ·exact⟨none,λh=>absurd h a⟩
 refine⟨λi=>L_ (h i),⟨λi n j a e=>?_,λi m t b c f=>?_⟩,λi a=>?_⟩;·grind
 ·have a:i<=s.length:=U_ (LB b (Mg m).1);grind
 grind
theorem RO(s:List UInt8)(i:Nat)(c:Nat)(hc:c≠0)(hs:s.length<=1048576)(d:i<=s.length):aC tbl aS [.ptr 0 0,.d tY (c:Int)] [.box aG [.d tS s,.d tI (i:Int)]] aQ (decide (pk s i=c),s,((if pk s i=c then i+1 else i:Nat):Int),()):=by
 refine aw rfl (aA AO rfl (λO m=>AZ O m (c:Int) s (i:Int)) ?_);unfold qn;refine ae (bz (b:=decide (pk s i=c)) (λh=>?_) ?_)
 ·have h:i<s.length:=by grind
  refine aI h (aa ?_);rw[M8 h];grind
 ·by_cases e:pk s i=c;·have a:=dP (s:=s) (i:=i) (by omega);rw[decide_eq_true e,decide_eq_true (show(i:Int)<(s.length:Int) by omega),if_pos e];refine aJ rfl (aa ?_);rw[ap a (by omega)]
  ·rw[decide_eq_false e,Bool.and_false,if_neg e];exact an rfl (aa rfl)
theorem Xz(s:List UInt8)(hs:s.length<=1048576)(i:Nat)(I:i<=s.length):∃(v:Int) (ok:Bool) (j:Nat),(i<=j/\j<=s.length/\(ok=true->i<j))/\(∀(m:Nat) t,s.drop i=decDigits m++t->m<=4294967295->¬dg (hd t)->v=(m:Int)/\ok=true/\j=i+(decDigits m).length)/\aC tbl bn [.ptr 0 0] [.box aG [.d tS s,.d tI (i:Int)]] q_ref15_parser_number_r (v,ok,s,(j:Int),()):=by
 suffices h:∃c:HL q_ref15_parser_number_r.sl,(∃(v:Int) (ok:Bool) (j:Nat),c=(v,ok,s,(j:Int),())/\(i<=j/\j<=s.length/\(ok=true->i<j))/\(∀(m:Nat) t,s.drop i=decDigits m++t->m<=4294967295->¬dg (hd t)->v=(m:Int)/\ok=true/\j=i+(decDigits m).length))/\aC tbl bn [.ptr 0 0] [.box aG [.d tS s,.d tI (i:Int)]] q_ref15_parser_number_r c by
  grind
 refine jV (λ_=>rfl) (aA zy rfl (λO m=>zG O m s (i:Int)) ?_);unfold pU;refine ae (Ev.wp_mono (Ev.wp_loop (Q:=λr=>match r with
  | .inl t=>∃j:Nat,t=((0:Int),false,s,(j:Int),())/\(i<=j/\j<=s.length)/\∃k,Run s i k/\4294967295<sf ((s.take k).drop i)
  | .inr t=>∃j:Nat,t=((sf ((s.take j).drop i):Int),s,(j:Int),())/\Run s i j/\¬dg (pk s j))
  (λt=>∃j:Nat,t=((sf ((s.take j).drop i):Int),s,(j:Int),())/\Run s i j/\sf ((s.take j).drop i)<=4294967295) (λt=>s.length - t.2.2.1.toNat) ⟨i,?_,⟨w_ _,I,λk g u=>absurd u (by omega)⟩,?_⟩ ?_) ?_)
 ·rw[B_ (by grind)];rfl
 ·rw[B_ (by grind)];exact K_ _
 ·rintro t ⟨j,rfl,hr,z⟩;unfold nK;dsimp only;have g:=hr.le;have u:=hr.top;refine ae (bz (b:=decide (48<=pk s j)) (λh=>?_) ?_)
  ·have h:j<s.length:=by grind
   refine aI h (aa ?_);rw[M8 h];grind
  refine ae (bz (b:=decide (pk s j<=57)) (λh=>?_) ?_)
  ·have h:j<s.length:=by grind
   refine aI h (aa ?_);rw[M8 h];grind
  refine au (λh=>?_) λh=>aa ⟨j,rfl,hr,?_⟩
  ·simp only[G_,decide_eq_true_eq]at h;obtain⟨⟨R,D⟩,E⟩:=h;have d:j<s.length:=by omega
   refine aI d ?_;have P:=M8 d;have x:d_ .i64 (d_ .u8 ((s[j].toNat:Int) - 48))=((s[j].toNat - 48:Nat):Int):=by rw[wrap_u8,wrap_i64 (by omega) (by omega)];omega
   have f:Run s i (j+1):=⟨by omega,by omega,λk N T=>by
    by_cases e:k=j;·subst e;exact⟨D,E⟩
    ·exact hr.all k N (by omega)⟩
   have w:sf ((s.take (j+1)).drop i)=10*sf ((s.take j).drop i)+(s[j].toNat - 48):=by rw[List.take_succ_eq_append_getElem d,List.drop_append_of_le_length (by grind),D8]
   have C:d_ .i64 ((d_ .i64 ((10:Int)*((sf ((s.take j).drop i):Nat):Int)))+(d_ .i64 (d_ .u8 ((s[j].toNat:Int) - (48:Int)))))=((sf ((s.take (j+1)).drop i):Nat):Int):=by rw[x,wrap_i64 (n:=10*((sf ((s.take j).drop i):Nat):Int)) (by omega) (by omega),wrap_i64 (by omega) (by omega),w];simp
   rw[C,ap d (by omega)];refine au (λF=>aa ⟨j+1,rfl,⟨by omega,by omega⟩,j+1,f,?_⟩) λF=>aa ⟨⟨j+1,rfl,f,?_⟩,?_⟩;all_goals grind
  ·simp only[Bool.and_eq_false_iff,decide_eq_false_iff_not]at h;unfold Pl.dg;rcases h with(h|h)|h;·have:pk s j=0:=zdH (by omega);omega
   all_goals omega
 ·rintro(t|t) p
  ·obtain⟨j,rfl,y,k,J,z⟩:=p;refine aa ⟨_,rfl,0,false,j,rfl,⟨y.1,y.2,λh=>by grind⟩,λm t a M p=>?_⟩;exfalso;have L:k<=i+(decDigits m).length:=by
    apply k_;intro hn;have u:¬dg (pk s (i+(decDigits m).length)):=by rw[ri,kV a];omega
    exact u (J.all _ (by simp) (by omega))
   have e:(s.take k).drop i=(decDigits m).take (k - i):=by rw[List.drop_take,a,List.take_append_of_le_length (by omega)]
   rw[e]at z;have g:=J2 (l:=decDigits m) (k:=k - i) (by omega);rw[HB]at g;omega
  ·obtain⟨j,rfl,hr,H⟩:=p;have g:=hr.le;refine aa ⟨_,rfl,((sf ((s.take j).drop i):Nat):Int),decide (i<j),j,?_,⟨g,hr.top,λh=>of_decide_eq_true h⟩,λm t a M p=>?_⟩;·show(_,decide ((j:Int)>(i:Int)),_)=_;simp
   ·obtain⟨A,B⟩:=Tt hr H a p;have:=Mf m;exact⟨by rw[B,HB],decide_eq_true (by omega),A⟩
theorem zez(s:List UInt8)(hs:s.length<=1048576):∃num:Nat->Option (Int×Nat),NumOk s num/\∀i,i<=s.length->∃(v:Int) (ok:Bool) (j:Nat),(i<=j/\j<=s.length)/\num i=(if ok then some (v,j)else none)/\aC tbl bn [.ptr 0 0] [.box aG [.d tS s,.d tI (i:Int)]] q_ref15_parser_number_r (v,ok,s,(j:Int),()):=by
 have h:∀i:Nat,∃o:Int×Bool×Nat,i<=s.length->(i<=o.2.2/\o.2.2<=s.length/\(o.2.1=true->i<o.2.2))/\(∀(m:Nat) t,s.drop i=decDigits m++t->m<=4294967295->¬dg (hd t)->o.1=(m:Int)/\o.2.1=true/\o.2.2=i+(decDigits m).length)/\aC tbl bn [.ptr 0 0] [.box aG [.d tS s,.d tI (i:Int)]] q_ref15_parser_number_r (o.1,o.2.1,s,(o.2.2:Int),()):=λi=>by
  by_cases a:i<=s.length
  ·obtain⟨v,ok,j,c⟩:=Xz s hs i a;exact⟨(v,ok,j),λ_=>c⟩
  ·exact⟨(0,false,0),λh=>absurd h a⟩
 refine⟨λi=>if(L_ (h i)).2.1 then some ((L_ (h i)).1,(L_ (h i)).2.2)else none,⟨λi n j a e=>?_,λi m t b f g=>?_⟩,λi a=>?_⟩;·grind
 ·have a:i<=s.length:=U_ (LB b (Mg m).1);grind
 ·have d:=as_ (h i) a;grind
abbrev Oy(s:List UInt8)(i:Nat):List Ob:=[.box aF [.d tS s,.d tI (i:Int)]]
def up3(s:List UInt8)(o:Option (Rx×Nat)):Option (Rx×List UInt8×Int×Unit):=o.map λx=>(x.1,s,(x.2:Int),())
theorem eqT{a b:Nat}(h:((a:Int)==(b:Int))=true):a=b:=by simp at h;omega
theorem eqF{a b:Nat}(h:((a:Int)==(b:Int))=false):a≠b:=by simp at h;omega
theorem neF{a b:Nat}(h:((a:Int) != (b:Int))=false):a=b:=by simp at h;omega
theorem LP(s:List UInt8)(hs:s.length<=1048576)(i c:Nat)(hc:c≠0):ea tbl bE [.ptr 0 0,.d tY (c:Int)] (Oy s i) bi (if pk s i=c then some (s,((i+1:Nat):Int),())else none):=by
 refine vN (λ_=>rfl) (aA yB rfl (λO m=>yJ O m (c:Int) s (i:Int)) ?_);unfold oa;refine ae (aj (B9 s i) (au (λh=>aa (aa ?_)) λh=>aa (aa ?_)));·grind
 ·have h:=neF h;have a:=dP (s:=s) (i:=i) (by omega);rw[if_pos h];show some (kJ bi (s,d_ .i64 ((i:Int)+1),()))=_;rw[ap a (by omega)];rfl
section
variable {s:List UInt8}
theorem zfT(hs:s.length<=1048576){num:Nat->Option (Int×Nat)}(hn:NumOk s num)(hc:∀i,i<=s.length->ea tbl be [.ptr 0 0] (Oy s i) q_regex_parser_number_r ((num i).map λx=>(x.1,s,(x.2:Int),()))) {alt:Nat->Option (Rx×Nat)} (E:Xw s alt) (d:Nat) (A:d<=100) (z:∀i,i<=s.length->ea tbl bc [.ptr 0 0,.d tI ((d+1:Nat):Int)] (Oy s i) aZ (up3 s (alt i))) (i:Nat) (B:i<=s.length): ea tbl dK [.ptr 0 0,.d tI (d:Int)] (Oy s i) bq (up3 s (ft num s alt i)):=by
 refine vN (λ_=>rfl) (aA AQ rfl (λO m=>Bb O m (d:Int) s (i:Int)) ?_);unfold qp;refine aj (B9 s i) ?_;dsimp only;refine au (λh=>?_) λu=>?_;·have h:=eqT (b:=46) h;have a:=dP (s:=s) (i:=i) (by omega);rw[ap a (by omega),show ft num s alt i=some (.mk 2 0 0 [],i+1) by unfold ft;grind];exact aa rfl
 have u:=eqF (b:=46) u;refine au (λh=>?_) λg=>?_;·have h:=eqT (b:=33) h;have a:=dP (s:=s) (i:=i) (by omega);rw[ap a (by omega),show ft num s alt i=some (.mk 4 0 0 [],i+1) by unfold ft;grind];exact aa rfl
 have g:=eqF (b:=33) g;refine au (λe=>?_) λe=>?_
 ·have e:=eqT (b:=91) e;have a:=dP (s:=s) (i:=i) (by omega);have hp:ft num s alt i=match num (i+1)with
   |none=>none
   |some (lo,j)=>if pk s j=45 then(match num (j+1)with
    |none=>none
    |some (up,k)=>if pk s k=93 then some (.mk 1 lo up [],k+1)else none)else none:=by
   unfold ft
   grind
  rw[ap a (by omega),hp];refine j8 (hc (i+1) (by omega)) ?_;cases w:num (i+1)with
  |none=>exact aa rfl|some x=>
   obtain⟨lo,j⟩:=x;have C:=hn.bnd _ _ _ (by omega) w;show Wp (λn=>c_ (lW (qc tbl n) bE [.ptr 0 0,.d tY (45:Int)] (Oy s j) bi) _) _;refine j8 (LP s hs j 45 (by simp)) ?_;by_cases p:pk s j=45
   ·have f:=dP (s:=s) (i:=j) (by omega);simp only[if_pos p];show Wp (λn=>c_ (lW (qc tbl n) be [.ptr 0 0] (Oy s (j+1)) q_regex_parser_number_r) _) _;refine j8 (hc (j+1) (by omega)) ?_;cases D:num (j+1)with
    |none=>exact aa rfl|some y=>
     obtain⟨up,k⟩:=y;show Wp (λn=>c_ (lW (qc tbl n) bE [.ptr 0 0,.d tY (93:Int)] (Oy s k) bi) _) _;refine j8 (LP s hs k 93 (by simp)) ?_;by_cases v:pk s k=93;·simp only[if_pos v];exact aa rfl
     ·simp only[if_neg v];exact aa rfl
   ·simp only[if_neg p];exact aa rfl
 have e:=eqF (b:=91) e;refine au (λc=>?_) λc=>?_
 ·have c:=eqT (b:=40) c;have a:=dP (s:=s) (i:=i) (by omega);rw[ap a (by omega)];refine aj (B9 s (i+1)) ?_;dsimp only;refine au (λh=>?_) λh=>?_;·have h:=eqT (b:=41) h;have f:=dP (s:=s) (i:=i+1) (by omega);rw[ap f (by omega),show ft num s alt i=some (.mk 0 0 0 [],i+2) by unfold ft;grind];exact aa rfl
  ·have h:=eqF (b:=41) h;have hp:ft num s alt i=match alt (i+1)with
    |none=>none
    |some (r,j)=>if pk s j=41 then some (r,j+1)else none:=by
    unfold ft
    grind
   rw[hp,show d_ .i64 ((d:Int)+1)=((d+1:Nat):Int) by rw[wrap_i64 (by omega) (by omega)];rfl];refine j8 (z (i+1) (by omega)) ?_;cases w:alt (i+1)with
   |none=>exact aa rfl|some x=>
    obtain⟨r,j⟩:=x;show Wp (λn=>c_ (lW (qc tbl n) bE [.ptr 0 0,.d tY (41:Int)] (Oy s j) bi) _) _;refine j8 (LP s hs j 41 (by simp)) ?_;by_cases l:pk s j=41;·simp only[if_pos l];refine aa ?_;rw[cy];rfl
    ·simp only[if_neg l];exact aa rfl
 ·have c:=eqF (b:=40) c;have hp:ft num s alt i=match num i with
   |none=>none
   |some (n,j)=>some (.mk 1 n n [],j):=by
   unfold ft
   grind
  rw[hp];refine j8 (hc i B) ?_;cases w:num i with|none=>exact aa rfl|some x=>exact aa rfl
def VW(s:List UInt8)(one:Nat->Option (Rx×Nat))(i:Nat):Option (Rx×Nat):=match one i with
 |none=>none
 |some (r,j)=>if pk s j=42 then some (.mk 5 0 0 [r],j+1)else if pk s j=43 then some (.mk 6 0 0 [r],j+1)else if pk s j=63 then some (.mk 7 0 0 [r],j+1)else some (r,j)
theorem zfU(hs:s.length<=1048576){one:Nat->Option (Rx×Nat)}(d:Nat)(f:∀i,i<=s.length->ea tbl dK [.ptr 0 0,.d tI (d:Int)] (Oy s i) bq (up3 s (one i)))(i:Nat)(g:i<=s.length): ea tbl cn [.ptr 0 0,.d tI (d:Int)] (Oy s i) bl (up3 s (VW s one i)):=by
 refine vN (λ_=>rfl) (aA AR rfl (λO m=>Bc O m (d:Int) s (i:Int)) ?_);unfold qq VW;refine j8 (f i g) ?_;cases p:one i with
 |none=>exact aa rfl|some x=>
  obtain⟨r,j⟩:=x;simp only;have key:∀(k:Int),j<s.length->some (kJ bl (Rx.mk k 0 0 [Rx.mk r.out.1 r.out.2.1 r.out.2.2.1 r.out.2.2.2.1],s,d_ .i64 ((j:Int)+1),()))=(up3 s (some (.mk k 0 0 [r],j+1))).map (kJ bl):=λk l=>by rw[cy,ap l (by omega)];rfl
  show Wp (λn=>c_ (c_ (ar (qc tbl n) bo [.ptr 0 0] (Oy s j) bb) _) _) _;refine ae (aj (B9 s j) ?_);dsimp only;refine au (λh=>aa (aa ?_)) λa=>?_;·have h:=eqT (b:=42) h;rw[if_pos h];exact key 5 (dP (by omega))
  have a:=eqF (b:=42) a;refine au (λh=>aa (aa ?_)) λc=>?_;·have h:=eqT (b:=43) h;rw[if_neg a,if_pos h];exact key 6 (dP (by omega))
  have c:=eqF (b:=43) c;refine au (λh=>aa (aa ?_)) λe=>aa (aa ?_);·have h:=eqT (b:=63) h;rw[if_neg a,if_neg c,if_pos h];exact key 7 (dP (by omega))
  ·have e:=eqF (b:=63) e;rw[if_neg a,if_neg c,if_neg e];show some (kJ bl (Rx.mk r.out.1 r.out.2.1 r.out.2.2.1 r.out.2.2.2.1,s,(j:Int),()))=_;rw[cy];rfl
theorem Pr(hs:s.length<=1048576){one:Nat->Option (Rx×Nat)}(z:Xw s one)(d:Nat)(y:∀i,i<=s.length->ea tbl cn [.ptr 0 0,.d tI (d:Int)] (Oy s i) bl (up3 s (one i)))(T:Option (List Rx×Nat))(r:Rx)(i f:Nat)(A:i<=s.length)(w:1<=i)(u:s.length<=f+i)(c:(if pk s i=32 then ic s 32 one f [r] (i+1)else some ([r],i))=T): Wp (λn=>aL n (dq (qc tbl n) n (d:Int)) (s,(i:Int),(0:Int),(0:Int),(0:Int),([r]:List Rx),())) λt=>match t with | .inl _=>T=none | .inr t=>∃(a:List Rx) (j:Nat),t=(s,(j:Int),(0:Int),(0:Int),(0:Int),a,())/\T=some (a,j):=by
 refine Ev.wp_loop (λt=>∃(a:List Rx) (j f:Nat),t=(s,(j:Int),(0:Int),(0:Int),(0:Int),a,())/\j<=s.length/\a.length<=j/\s.length<=f+j/\(if pk s j=32 then ic s 32 one f a (j+1)else some (a,j))=T) (λt=>s.length - t.2.1.toNat) ⟨[r],i,f,rfl,A,w,u,c⟩ ?_;rintro t ⟨a,j,f,rfl,C,p,u,c⟩;unfold dq;refine aj (B9 s j) ?_;dsimp only;refine au (λh=>?_) λh=>aa ⟨a,j,rfl,?_⟩;·have h:=eqT (b:=32) h;have l:=dP (s:=s) (i:=j) (by omega);rw[if_pos h]at c;rw[ap l (by omega)];refine j8 (y (j+1) (by omega)) ?_;obtain⟨f2,rfl⟩:∃g,f=g+1:=⟨f - 1,by omega⟩;rw[ic]at c;cases e:one (j+1)with|none=>rw[e]at c;exact aa c.symm|some x=>obtain⟨r2,k⟩:=x;obtain⟨B,v,_⟩:=z _ _ _ (by omega) e;rw[e]at c;simp only at c;refine aE (decide_eq_true ?_) (aa ⟨⟨a++[r2],k,f2,rfl,v,?_,by omega,c⟩,?_⟩);all_goals grind
 grind
theorem Ie(hs:s.length<=1048576){one:Nat->Option (Rx×Nat)}(z:Xw s one)(d:Nat)(y:∀i,i<=s.length->ea tbl bH [.ptr 0 0,.d tI (d:Int)] (Oy s i) bk (up3 s (one i)))(T:Option (List Rx×Nat))(r:Rx)(i f:Nat)(A:i<=s.length)(w:1<=i)(u:s.length<=f+i)(c:(if pk s i=124 then ic s 124 one f [r] (i+1)else some ([r],i))=T): Wp (λn=>aL n (cu (qc tbl n) n (d:Int)) (s,(i:Int),(0:Int),(0:Int),(0:Int),([r]:List Rx),())) λt=>match t with | .inl _=>T=none | .inr t=>∃(a:List Rx) (j:Nat),t=(s,(j:Int),(0:Int),(0:Int),(0:Int),a,())/\T=some (a,j):=by
 refine Ev.wp_loop (λt=>∃(a:List Rx) (j f:Nat),t=(s,(j:Int),(0:Int),(0:Int),(0:Int),a,())/\j<=s.length/\a.length<=j/\s.length<=f+j/\(if pk s j=124 then ic s 124 one f a (j+1)else some (a,j))=T) (λt=>s.length - t.2.1.toNat) ⟨[r],i,f,rfl,A,w,u,c⟩ ?_;rintro t ⟨a,j,f,rfl,C,p,u,c⟩;unfold cu;refine aj (B9 s j) ?_;dsimp only;refine au (λh=>?_) λh=>aa ⟨a,j,rfl,?_⟩;·have h:=eqT (b:=124) h;have l:=dP (s:=s) (i:=j) (by omega);rw[if_pos h]at c;rw[ap l (by omega)];refine j8 (y (j+1) (by omega)) ?_;obtain⟨f2,rfl⟩:∃g,f=g+1:=⟨f - 1,by omega⟩;rw[ic]at c;cases e:one (j+1)with|none=>rw[e]at c;exact aa c.symm|some x=>obtain⟨r2,k⟩:=x;obtain⟨B,v,_⟩:=z _ _ _ (by omega) e;rw[e]at c;simp only at c;refine aE (decide_eq_true ?_) (aa ⟨⟨a++[r2],k,f2,rfl,v,?_,by omega,c⟩,?_⟩);all_goals grind
 grind
theorem XB(hs:s.length<=1048576){one:Nat->Option (Rx×Nat)}(c:Xw s one)(d:Nat)(a:∀i,i<=s.length->ea tbl cn [.ptr 0 0,.d tI (d:Int)] (Oy s i) bl (up3 s (one i)))(i:Nat)(e:i<=s.length): ea tbl bH [.ptr 0 0,.d tI (d:Int)] (Oy s i) bk (up3 s (BS s 32 3 one i)):=by
 refine vN (λ_=>rfl) (aA wR rfl (λO m=>wX O m (d:Int) s (i:Int)) ?_);unfold mo BS;refine j8 (a i e) ?_;obtain⟨f,w⟩:∃f,s.length+1 - i=f+1:=⟨s.length - i,by omega⟩;rw[w,ic];cases u:one i with
 |none=>exact aa rfl|some x=>
  obtain⟨r,j⟩:=x;obtain⟨y,p,_⟩:=c _ _ _ e u;simp only[E_];show Wp (λn=>c_ (aL n (dq (qc tbl n) n (d:Int)) (s,(j:Int),(0:Int),(0:Int),(0:Int),([r]:List Rx),())) _) _;refine ae (Ev.wp_mono (Pr hs c d a _ r j f p (by omega) (by omega) rfl) ?_);rintro(t|t) g;·rw[show _=none from g];exact aa rfl
  ·obtain⟨l,k,rfl,v⟩:=g;rw[v];refine au (λh=>?_) λh=>aa ?_;·have h:=eqT (b:=1) h;obtain⟨x,rfl⟩:=C_.1 h;refine kQ (by simp) rfl (fI rfl (aa ?_));rw[cy];rfl
   ·have h:=eqF (b:=1) h;simp only;rw[zj h];rfl
theorem LN(hs:s.length<=1048576){one:Nat->Option (Rx×Nat)}(c:Xw s one)(d:Nat)(w:d<=32)(a:∀i,i<=s.length->ea tbl bH [.ptr 0 0,.d tI (d:Int)] (Oy s i) bk (up3 s (one i)))(i:Nat)(e:i<=s.length): ea tbl bc [.ptr 0 0,.d tI (d:Int)] (Oy s i) aZ (up3 s (BS s 124 4 one i)):=by
 refine vN (λ_=>rfl) (aA j7 rfl (λO m=>j9 O m (d:Int) s (i:Int)) ?_);unfold ez BS;refine ae (an (decide_eq_false (by omega)) (aa ?_));show Wp (λn=>c_ (lW (qc tbl n) bH [.ptr 0 0,.d tI (d:Int)] (Oy s i) bk) _) _;refine j8 (a i e) ?_;obtain⟨f,y⟩:∃f,s.length+1 - i=f+1:=⟨s.length - i,by omega⟩;rw[y,ic];cases u:one i with
 |none=>exact aa rfl|some x=>
  obtain⟨r,j⟩:=x;obtain⟨z,p,_⟩:=c _ _ _ e u;simp only[E_];show Wp (λn=>c_ (aL n (cu (qc tbl n) n (d:Int)) (s,(j:Int),(0:Int),(0:Int),(0:Int),([r]:List Rx),())) _) _;refine ae (Ev.wp_mono (Ie hs c d a _ r j f p (by omega) (by omega) rfl) ?_);rintro(t|t) g;·rw[show _=none from g];exact aa rfl
  ·obtain⟨l,k,rfl,v⟩:=g;rw[v];refine au (λh=>?_) λh=>aa ?_;·have h:=eqT (b:=1) h;obtain⟨x,rfl⟩:=C_.1 h;refine kQ (by simp) rfl (fI rfl (aa ?_));rw[cy];rfl
   ·have h:=eqF (b:=1) h;simp only;rw[zj h];rfl
theorem zet(i:Nat):ea tbl bc [.ptr 0 0,.d tI (33:Int)] (Oy s i) aZ none:=by refine vN (λ_=>rfl) (aA j7 rfl (λO m=>j9 O m (33:Int) s (i:Int)) ?_);unfold ez;exact ae (aJ rfl (aa (aa rfl)))
theorem zcs(hs:s.length<=1048576){num:Nat->Option (Int×Nat)}(hn:NumOk s num)(hc:∀i,i<=s.length->ea tbl be [.ptr 0 0] (Oy s i) q_regex_parser_number_r ((num i).map λx=>(x.1,s,(x.2:Int),()))):
 ∀(b d:Nat),d+b=33->∀i,i<=s.length->ea tbl bc [.ptr 0 0,.d tI (d:Int)] (Oy s i) aZ (up3 s (Gv num s b i))
 |0,d,h,i,_=>by
  have:d=33:=by omega
  subst this;exact zet i
 |b+1,d,h,i,g=>by have a:=Hr hn b;have c:=zfT hs hn hc a d (by omega) (zcs hs hn hc b (d+1) (by omega));have e:=zfU hs d c;have f:=XB hs (Cw hn a) d e;exact LN hs (Ly (Cw hn a) (by simp) 3) d (by omega) f i g
end
abbrev UA(s:List UInt8)(i:Nat):List Ob:=[.box aG [.d tS s,.d tI (i:Int)]]
def Rd(s:List UInt8)(one:Nat->Option (Rx×Nat))(C:Nat->Rx->Bool->Nat->Prop):Prop:=∀i,i<=s.length->∃(r:Rx) (ok:Bool) (j:Nat),(i<=j/\j<=s.length)/\one i=(if ok then some (r,j)else none)/\C i r ok j
section
variable {s:List UInt8}
theorem zct(hs:s.length<=1048576){num:Nat->Option (Int×Nat)}(hc:∀i,i<=s.length->∃(v:Int) (ok:Bool) (j:Nat),(i<=j/\j<=s.length)/\num i=(if ok then some (v,j)else none)/\aC tbl bn [.ptr 0 0] (UA s i) q_ref15_parser_number_r (v,ok,s,(j:Int),())) {alt:Nat->Option (Rx×Nat)} (d:Nat) (Y:d<=32) (U:Rd s alt λi r ok j=>aC tbl b6 [.ptr 0 0,.d tI ((d+1:Nat):Int)] (UA s i) q_ref15_parser_alt_rd (r,ok,s,(j:Int),())): Rd s (ft num s alt) λi r ok j=>aC tbl cj [.ptr 0 0,.d tI (d:Int)] (UA s i) q_ref15_parser_atom_rd (r,ok,s,(j:Int),()):=by
 intro i H;suffices h:∃c:HL q_ref15_parser_atom_rd.sl,(∃(r:Rx) (ok:Bool) (j:Nat),c=(r,ok,s,(j:Int),())/\(i<=j/\j<=s.length)/\ft num s alt i=(if ok then some (r,j)else none))/\aC tbl cj [.ptr 0 0,.d tI (d:Int)] (UA s i) q_ref15_parser_atom_rd c by grind
 refine jV (λ_=>rfl) (aA rA rfl (λO m=>rE O m (d:Int) s (i:Int)) ?_);unfold km;refine an (decide_eq_false (by omega)) ?_;have C:∀(k c:Nat),c≠0->k<=s.length->aC tbl aS [.ptr 0 0,.d tY (c:Int)] (UA s k) aQ (decide (pk s k=c),s,((if pk s k=c then k+1 else k:Nat):Int),()):=λk c L hk=>RO s k c L hs hk;refine aj (C i 46 (by simp) H) ?_;by_cases f:pk s i=46
 ·have E:=dP (s:=s) (i:=i) (by omega);refine aJ (decide_eq_true f) (aa ⟨_,rfl,.mk 2 0 0 [],true,i+1,?_,⟨by simp,by omega⟩,?_⟩);·simp only[if_pos f];rfl
  ·unfold ft;grind
 refine an (decide_eq_false f) ?_;simp only[if_neg f];refine aj (C i 33 (by simp) H) ?_;by_cases b:pk s i=33
 ·have E:=dP (s:=s) (i:=i) (by omega);refine aJ (decide_eq_true b) (aa ⟨_,rfl,.mk 4 0 0 [],true,i+1,?_,⟨by simp,by omega⟩,?_⟩);·simp only[if_pos b];rfl
  ·unfold ft;grind
 refine an (decide_eq_false b) ?_;simp only[if_neg b];refine aj (C i 40 (by simp) H) ?_;by_cases g:pk s i=40
 ·have E:=dP (s:=s) (i:=i) (by omega);refine aJ (decide_eq_true g) ?_;simp only[if_pos g];refine aj (C (i+1) 41 (by simp) (by omega)) ?_;by_cases p:pk s (i+1)=41
  ·have B:=dP (s:=s) (i:=i+1) (by omega);refine aJ (decide_eq_true p) (aa ⟨_,rfl,.mk 0 0 0 [],true,i+2,?_,⟨by simp,by omega⟩,?_⟩);·simp only[if_pos p];rfl
   ·unfold ft;rw[if_neg f,if_neg b,if_neg (by omega),if_pos g,if_pos p];rfl
  refine an (decide_eq_false p) ?_;simp only[if_neg p];rw[show d_ .i64 ((d:Int)+1)=((d+1:Nat):Int) by rw[wrap_i64 (by omega) (by omega)];rfl];obtain⟨r,ok,j,hj,e,D⟩:=U (i+1) (by omega);have hp:ft num s alt i=match alt (i+1)with
   |none=>none
   |some (r,j)=>if pk s j=41 then some (r,j+1)else none:=by
   unfold ft
   rw[if_neg f,if_neg b,if_neg (by omega),if_pos g,if_neg p]
   all_goals rfl
  rw[e]at hp;refine aj D ?_;cases ok with
  |true=>
   refine aJ rfl (aj (C j 41 (by simp) hj.2) ?_);simp only[if_true]at hp;by_cases a:pk s j=41;·have B:=dP (s:=s) (i:=j) (by omega);rw[if_pos a]at hp;refine aa ⟨_,rfl,r,true,j+1,?_,⟨by omega,by omega⟩,hp⟩;show(Rx.mk r.out.1 r.out.2.1 r.out.2.2.1 r.out.2.2.2.1,decide (pk s j=41),s,((if pk s j=41 then j+1 else j:Nat):Int),())=_;rw[cy,if_pos a,decide_eq_true a]
   ·rw[if_neg a]at hp;refine aa ⟨_,rfl,r,false,j,?_,⟨by omega,by omega⟩,hp⟩;show(Rx.mk r.out.1 r.out.2.1 r.out.2.2.1 r.out.2.2.2.1,decide (pk s j=41),s,((if pk s j=41 then j+1 else j:Nat):Int),())=_;rw[cy,if_neg a,decide_eq_false a]
  |false=>refine an rfl (aa ⟨_,rfl,r,false,j,?_,⟨by omega,by omega⟩,hp⟩);show(Rx.mk r.out.1 r.out.2.1 r.out.2.2.1 r.out.2.2.2.1,false,s,(j:Int),())=_;rw[cy]
 refine an (decide_eq_false g) ?_;simp only[if_neg g];refine aj (C i 91 (by simp) H) ?_;by_cases u:pk s i=91
 ·have E:=dP (s:=s) (i:=i) (by omega);have hp:ft num s alt i=match num (i+1)with
   |none=>none
   |some (lo,j)=>if pk s j=45 then(match num (j+1)with
    |none=>none
    |some (up,k)=>if pk s k=93 then some (.mk 1 lo up [],k+1)else none)else none:=by
   unfold ft
   rw[if_neg f,if_neg b,if_pos u]
   all_goals rfl
  refine aJ (decide_eq_true u) ?_;simp only[if_pos u];obtain⟨A,z,l,N,J,I⟩:=hc (i+1) (by omega);refine aj I (aj (C l 45 (by simp) N.2) ?_);have R:(if pk s l=45 then l+1 else l)<=s.length/\l<=(if pk s l=45 then l+1 else l):=by
   split;·have:=dP (s:=s) (i:=l) (by omega);omega
   omega
  obtain⟨F,M,w,Q,P,T⟩:=hc (if pk s l=45 then l+1 else l) R.1;refine aj T ?_;rw[J]at hp;cases z with
  |false=>exact an rfl (aa ⟨_,rfl,.mk 1 A F [],false,w,rfl,⟨by omega,by omega⟩,hp⟩)|true=>
   simp only[if_true]at hp;refine aJ rfl ?_;by_cases x:pk s l=45
   ·rw[if_pos x]at hp P;refine aJ (decide_eq_true x) ?_;rw[P]at hp;cases M with
    |false=>exact an rfl (aa ⟨_,rfl,.mk 1 A F [],false,w,rfl,⟨by omega,by omega⟩,hp⟩)|true=>
     simp only[if_true]at hp;refine aJ rfl (aj (C w 93 (by simp) Q.2) ?_);by_cases y:pk s w=93;·have B:=dP (s:=s) (i:=w) (by omega);rw[if_pos y]at hp;refine aa ⟨_,rfl,.mk 1 A F [],true,w+1,?_,⟨by omega,by omega⟩,hp⟩;show(Rx.mk 1 A F [],decide (pk s w=93),s,((if pk s w=93 then w+1 else w:Nat):Int),())=_;rw[if_pos y,decide_eq_true y]
     ·rw[if_neg y]at hp;refine aa ⟨_,rfl,.mk 1 A F [],false,w,?_,⟨by omega,by omega⟩,hp⟩;grind
   ·rw[if_neg x]at hp;exact an (decide_eq_false x) (aa ⟨_,rfl,.mk 1 A F [],false,w,rfl,⟨by omega,by omega⟩,hp⟩)
 refine an (decide_eq_false u) ?_;simp only[if_neg u];obtain⟨A,z,l,N,J,I⟩:=hc i H;have hp:ft num s alt i=match num i with
  |none=>none
  |some (n,j)=>some (.mk 1 n n [],j):=by
  unfold ft
  rw[if_neg f,if_neg b,if_neg u,if_neg g]
  all_goals rfl
 rw[J]at hp;refine aj I (aa ⟨_,rfl,.mk 1 A A [],z,l,rfl,⟨by omega,by omega⟩,?_⟩);rw[hp];cases z<;>rfl
theorem UI(hs:s.length<=1048576){one:Nat->Option (Rx×Nat)}(d:Nat)(v:Rd s one λi r ok j=>aC tbl cj [.ptr 0 0,.d tI (d:Int)] (UA s i) q_ref15_parser_atom_rd (r,ok,s,(j:Int),())): Rd s (VW s one) λi r ok j=>aC tbl cN [.ptr 0 0,.d tI (d:Int)] (UA s i) q_ref15_parser_item_rd (r,ok,s,(j:Int),()):=by
 intro i w;suffices h:∃c:HL q_ref15_parser_item_rd.sl,(∃(r:Rx) (ok:Bool) (j:Nat),c=(r,ok,s,(j:Int),())/\(i<=j/\j<=s.length)/\VW s one i=(if ok then some (r,j)else none))/\aC tbl cN [.ptr 0 0,.d tI (d:Int)] (UA s i) q_ref15_parser_item_rd c by grind
 refine jV (λ_=>rfl) (aA AN rfl (λO m=>AY O m (d:Int) s (i:Int)) ?_);unfold qm;obtain⟨r,ok,j,l,e,a⟩:=v i w;have u:∀(k c:Nat),c≠0->k<=s.length->aC tbl aS [.ptr 0 0,.d tY (c:Int)] (UA s k) aQ (decide (pk s k=c),s,((if pk s k=c then k+1 else k:Nat):Int),()):=λk c p x=>RO s k c p hs x;refine aj a ?_;have hp:VW s one i=match one i with
  |none=>none
  |some (r,j)=>if pk s j=42 then some (.mk 5 0 0 [r],j+1)else if pk s j=43 then some (.mk 6 0 0 [r],j+1)else if pk s j=63 then some (.mk 7 0 0 [r],j+1)else some (r,j):=rfl
 rw[e]at hp;cases ok with
 |false=>refine ae (aJ rfl (aa (aa ⟨_,rfl,r,false,j,?_,l,hp⟩)));show(Rx.mk r.out.1 r.out.2.1 r.out.2.2.1 r.out.2.2.2.1,false,s,(j:Int),())=_;rw[cy]|true=>
  simp only[if_true]at hp;refine ae (an rfl ?_);refine aj (u j 42 (by simp) l.2) ?_;by_cases b:pk s j=42;·have n:=dP (s:=s) (i:=j) (by omega);rw[if_pos b]at hp;refine aJ (decide_eq_true b) (aa ?_);refine dV (λ_=>rfl) (⟨_,rfl,.mk 5 0 0 [r],true,j+1,?_,⟨by omega,by omega⟩,hp⟩);show(Rx.mk 5 0 0 [Rx.mk r.out.1 r.out.2.1 r.out.2.2.1 r.out.2.2.2.1],true,s,((if pk s j=42 then j+1 else j:Nat):Int),())=_;rw[cy,if_pos b]
  rw[if_neg b]at hp;refine an (decide_eq_false b) ?_;simp only[if_neg b];refine aj (u j 43 (by simp) l.2) ?_;by_cases f:pk s j=43;·have n:=dP (s:=s) (i:=j) (by omega);rw[if_pos f]at hp;refine aJ (decide_eq_true f) (aa ?_);refine dV (λ_=>rfl) (⟨_,rfl,.mk 6 0 0 [r],true,j+1,?_,⟨by omega,by omega⟩,hp⟩);show(Rx.mk 6 0 0 [Rx.mk r.out.1 r.out.2.1 r.out.2.2.1 r.out.2.2.2.1],true,s,((if pk s j=43 then j+1 else j:Nat):Int),())=_;rw[cy,if_pos f]
  rw[if_neg f]at hp;refine an (decide_eq_false f) ?_;simp only[if_neg f];refine aj (u j 63 (by simp) l.2) ?_;by_cases g:pk s j=63;·have n:=dP (s:=s) (i:=j) (by omega);rw[if_pos g]at hp;refine aJ (decide_eq_true g) (aa ?_);refine dV (λ_=>rfl) (⟨_,rfl,.mk 7 0 0 [r],true,j+1,?_,⟨by omega,by omega⟩,hp⟩);show(Rx.mk 7 0 0 [Rx.mk r.out.1 r.out.2.1 r.out.2.2.1 r.out.2.2.2.1],true,s,((if pk s j=63 then j+1 else j:Nat):Int),())=_;rw[cy,if_pos g]
  rw[if_neg g]at hp;refine an (decide_eq_false g) (aa ?_);refine dV (λ_=>rfl) (⟨_,rfl,r,true,j,?_,l,hp⟩);show(Rx.mk r.out.1 r.out.2.1 r.out.2.2.1 r.out.2.2.2.1,true,s,((if pk s j=63 then j+1 else j:Nat):Int),())=_;rw[cy,if_neg g]
theorem zae(hs:s.length<=1048576){one:Nat->Option (Rx×Nat)}(z:Xw s one)(d:Nat)(y:Rd s one λi r ok j=>aC tbl cN [.ptr 0 0,.d tI (d:Int)] (UA s i) q_ref15_parser_item_rd (r,ok,s,(j:Int),())): Rd s (BS s 32 3 one) λi r ok j=>aC tbl cZ [.ptr 0 0,.d tI (d:Int)] (UA s i) q_ref15_parser_seq_rd (r,ok,s,(j:Int),()):=by
 intro i A;suffices h:∃c:HL q_ref15_parser_seq_rd.sl,(∃(r:Rx) (ok:Bool) (j:Nat),c=(r,ok,s,(j:Int),())/\(i<=j/\j<=s.length)/\BS s 32 3 one i=(if ok then some (r,j)else none))/\aC tbl cZ [.ptr 0 0,.d tI (d:Int)] (UA s i) q_ref15_parser_seq_rd c by grind
 refine jV (λ_=>rfl) (aA B0 rfl (λO m=>B6 O m (d:Int) s (i:Int)) ?_);unfold rL;refine ae (Ev.wp_mono (Ev.wp_loop (Q:=λt=>match t with
  | .inl t=>∃j:Nat,t=(false,s,(j:Int),(0:Int),(0:Int),(0:Int),())/\(i<=j/\j<=s.length)/\ic s 32 one (s.length+1 - i) [] i=none
  | .inr t=>∃(a:List Rx) (j:Nat),t=(s,(j:Int),(0:Int),(0:Int),(0:Int),a,())/\(i<=j/\j<=s.length)/\ic s 32 one (s.length+1 - i) [] i=some (a,j))
  (λt=>∃(a:List Rx) (j f:Nat),t=(s,(j:Int),(0:Int),(0:Int),(0:Int),a,())/\i<=j/\j<=s.length/\a.length<=j/\s.length+1<=f+j/\ic s 32 one f a j=ic s 32 one (s.length+1 - i) [] i) (λt=>s.length - t.2.1.toNat)
  ⟨[],i,s.length+1 - i,rfl,w_ _,A,K_ _,by omega,rfl⟩ ?_) ?_)
 ·rintro t ⟨a,j,f,rfl,B,u,v,F,l⟩;unfold pY;obtain⟨r,ok,k,p,e,n⟩:=y j u;obtain⟨f2,rfl⟩:∃g,f=g+1:=⟨f - 1,by omega⟩;rw[ic,e]at l;refine aj n ?_;cases ok with
  |false=>exact aJ rfl (aa ⟨k,rfl,⟨by omega,p.2⟩,l.symm⟩)|true=>
   simp only[if_true]at l e;obtain⟨D,E,_⟩:=z _ _ _ u e;refine an rfl (aE (decide_eq_true ?_) (aj (RO s k 32 (by simp) hs p.2) ?_));·grind
   by_cases hp:pk s k=32
   ·have C:=dP (s:=s) (i:=k) (by omega);rw[if_pos hp]at l;refine an (by grind) (aa ⟨⟨a++[r],k+1,f2,?_,by omega,by omega,?_,by omega,l⟩,?_⟩);·show(s,((if pk s k=32 then k+1 else k:Nat):Int),(0:Int),(0:Int),(0:Int),a++[Rx.mk r.out.1 r.out.2.1 r.out.2.2.1 r.out.2.2.2.1],())=_;rw[cy,if_pos hp]
    all_goals grind
   ·rw[if_neg hp]at l;refine aJ (by grind) (aa ⟨a++[r],k,?_,⟨by omega,p.2⟩,l.symm⟩);show(s,((if pk s k=32 then k+1 else k:Nat):Int),(0:Int),(0:Int),(0:Int),a++[Rx.mk r.out.1 r.out.2.1 r.out.2.2.1 r.out.2.2.2.1],())=_;rw[cy,if_neg hp]
 ·unfold BS;rintro(t|t) w;·obtain⟨j,rfl,u,l⟩:=w;rw[l];exact aa ⟨_,rfl,.mk 0 0 0 [],false,j,rfl,u,rfl⟩
  ·obtain⟨a,k,rfl,p,l⟩:=w;rw[l];refine au (λh=>?_) λh=>aa ⟨_,rfl,.mk 3 0 0 a,true,k,rfl,p,?_⟩;·have h:=eqT (b:=1) h;obtain⟨x,rfl⟩:=C_.1 h;refine kQ (by simp) rfl (fI rfl (aa ⟨_,rfl,x,true,k,?_,p,rfl⟩));rw[cy]
   ·have h:=eqF (b:=1) h;simp only;rw[zj h];rfl
theorem zac(hs:s.length<=1048576){one:Nat->Option (Rx×Nat)}(z:Xw s one)(d:Nat)(y:Rd s one λi r ok j=>aC tbl cZ [.ptr 0 0,.d tI (d:Int)] (UA s i) q_ref15_parser_seq_rd (r,ok,s,(j:Int),())): Rd s (BS s 124 4 one) λi r ok j=>aC tbl b6 [.ptr 0 0,.d tI (d:Int)] (UA s i) q_ref15_parser_alt_rd (r,ok,s,(j:Int),()):=by
 intro i A;suffices h:∃c:HL q_ref15_parser_alt_rd.sl,(∃(r:Rx) (ok:Bool) (j:Nat),c=(r,ok,s,(j:Int),())/\(i<=j/\j<=s.length)/\BS s 124 4 one i=(if ok then some (r,j)else none))/\aC tbl b6 [.ptr 0 0,.d tI (d:Int)] (UA s i) q_ref15_parser_alt_rd c by grind
 refine jV (λ_=>rfl) (aA BZ rfl (λO m=>B5 O m (d:Int) s (i:Int)) ?_);unfold rK;refine ae (Ev.wp_mono (Ev.wp_loop (Q:=λt=>match t with
  | .inl t=>∃j:Nat,t=(false,s,(j:Int),(0:Int),(0:Int),(0:Int),())/\(i<=j/\j<=s.length)/\ic s 124 one (s.length+1 - i) [] i=none
  | .inr t=>∃(a:List Rx) (j:Nat),t=(s,(j:Int),(0:Int),(0:Int),(0:Int),a,())/\(i<=j/\j<=s.length)/\ic s 124 one (s.length+1 - i) [] i=some (a,j))
  (λt=>∃(a:List Rx) (j f:Nat),t=(s,(j:Int),(0:Int),(0:Int),(0:Int),a,())/\i<=j/\j<=s.length/\a.length<=j/\s.length+1<=f+j/\ic s 124 one f a j=ic s 124 one (s.length+1 - i) [] i) (λt=>s.length - t.2.1.toNat)
  ⟨[],i,s.length+1 - i,rfl,w_ _,A,K_ _,by omega,rfl⟩ ?_) ?_)
 ·rintro t ⟨a,j,f,rfl,B,u,v,F,l⟩;unfold pX;obtain⟨r,ok,k,p,e,n⟩:=y j u;obtain⟨f2,rfl⟩:∃g,f=g+1:=⟨f - 1,by omega⟩;rw[ic,e]at l;refine aj n ?_;cases ok with
  |false=>exact aJ rfl (aa ⟨k,rfl,⟨by omega,p.2⟩,l.symm⟩)|true=>
   simp only[if_true]at l e;obtain⟨D,E,_⟩:=z _ _ _ u e;refine an rfl (aE (decide_eq_true ?_) (aj (RO s k 124 (by simp) hs p.2) ?_));·grind
   by_cases hp:pk s k=124
   ·have C:=dP (s:=s) (i:=k) (by omega);rw[if_pos hp]at l;refine an (by grind) (aa ⟨⟨a++[r],k+1,f2,?_,by omega,by omega,?_,by omega,l⟩,?_⟩);·show(s,((if pk s k=124 then k+1 else k:Nat):Int),(0:Int),(0:Int),(0:Int),a++[Rx.mk r.out.1 r.out.2.1 r.out.2.2.1 r.out.2.2.2.1],())=_;rw[cy,if_pos hp]
    all_goals grind
   ·rw[if_neg hp]at l;refine aJ (by grind) (aa ⟨a++[r],k,?_,⟨by omega,p.2⟩,l.symm⟩);show(s,((if pk s k=124 then k+1 else k:Nat):Int),(0:Int),(0:Int),(0:Int),a++[Rx.mk r.out.1 r.out.2.1 r.out.2.2.1 r.out.2.2.2.1],())=_;rw[cy,if_neg hp]
 ·unfold BS;rintro(t|t) w;·obtain⟨j,rfl,u,l⟩:=w;rw[l];exact aa ⟨_,rfl,.mk 0 0 0 [],false,j,rfl,u,rfl⟩
  ·obtain⟨a,k,rfl,p,l⟩:=w;rw[l];refine au (λh=>?_) λh=>aa ⟨_,rfl,.mk 4 0 0 a,true,k,rfl,p,?_⟩;·have h:=eqT (b:=1) h;obtain⟨x,rfl⟩:=C_.1 h;refine kQ (by simp) rfl (fI rfl (aa ⟨_,rfl,x,true,k,?_,p,rfl⟩));rw[cy]
   ·have h:=eqF (b:=1) h;simp only;rw[zj h];rfl
theorem zcu:Rd s (λ_=>none) λi r ok j=>aC tbl cj [.ptr 0 0,.d tI ((33:Nat):Int)] (UA s i) q_ref15_parser_atom_rd (r,ok,s,(j:Int),()):=by intro i a;refine⟨.mk 0 0 0 [],false,i,⟨w_ _,a⟩,rfl,?_⟩;refine aw rfl (aA rA rfl (λO m=>rE O m (33:Int) s (i:Int)) ?_);unfold km;exact aJ rfl (aa rfl)
theorem Vg:Xw s λ_=>none:=λ_ _ _ _ h=>by cases h
theorem Rd.imp{one z:Nat->Option (Rx×Nat)}{C:Nat->Rx->Bool->Nat->Prop}(h:Rd s one C)(N:∀i,i<=s.length->one i=z i):Rd s z C:=λi E=>by obtain⟨r,ok,j,H,I,J⟩:=h i E;grind
theorem VO(p:Nat)(k:Int)(i:Nat)(b:i<=s.length):BS s p k (λ_=>none) i=none:=by obtain⟨f,a⟩:∃f,s.length+1 - i=f+1:=⟨s.length - i,by omega⟩;unfold BS;rw[a,ic]
theorem UC(hs:s.length<=1048576){num:Nat->Option (Int×Nat)}(hn:NumOk s num)(hc:∀i,i<=s.length->∃(v:Int) (ok:Bool) (j:Nat),(i<=j/\j<=s.length)/\num i=(if ok then some (v,j)else none)/\
 aC tbl bn [.ptr 0 0] (UA s i) q_ref15_parser_number_r (v,ok,s,(j:Int),())):
 ∀(b d:Nat),d+b=33->Rd s (Gv num s b) λi r ok j=>aC tbl b6 [.ptr 0 0,.d tI (d:Int)] (UA s i) q_ref15_parser_alt_rd (r,ok,s,(j:Int),())
 |0,d,h=>by
  have:d=33:=by omega
  subst this;have a:=UI hs 33 zcu;have c:Rd s (λ_=>none) _:=a.imp λi _=>rfl;have e:=zae hs Vg 33 c;have f:Rd s (λ_=>none) _:=e.imp λi g=>VO 32 3 i g;exact(zac hs Vg 33 f).imp λi g=>VO 124 4 i g
 |b+1,d,h=>by have k:=Hr hn b;have l:=zct hs hc d (by omega) (UC hs hn hc b (d+1) (by omega));have a:=UI hs d l;have e:=zae hs (Cw hn k) d a;exact zac hs (Ly (Cw hn k) (by simp) 3) d e
end
def ParsedX(s:List UInt8)(c:Rx×Int×Unit):Prop:=(∃r,mF r=0/\jM r=s/\c=(r,0,()))\/((∀r,mF r=0->jM r≠s)/\c=(.mk 0 0 0 [],2,()))
theorem D9{r:Rx}(h:mF r=0):dm r=true/\sz r<=64/\UB r<=16:=by obtain⟨a,b⟩:=QV h;have:=zeV r 1 0 h;exact⟨a,b,by omega⟩
theorem C5{num:Nat->Option (Int×Nat)}{s:List UInt8}(hn:NumOk s num){b:Nat}(d:16<=b){r:Rx}(h:mF r=0)(hp:jM r=s):Gv num s b 0=some (r,s.length):=by obtain⟨a,_,c⟩:=D9 h;subst hp;exact zbZ hn a (by omega)
theorem ParsedX.pxUniq{s:List UInt8}(hs:s.length<=1048576){c z:Rx×Int×Unit}(h:ParsedX s c)(h':ParsedX s z):c=z:=by
 obtain⟨num,hn,_⟩:=zfC s hs;rcases h with⟨r,E,J,rfl⟩|⟨E,rfl⟩<;>rcases h' with⟨R,H,N,rfl⟩|⟨H,rfl⟩;·have I:=C5 hn (b:=16) (by simp) E J;rw[C5 hn (by simp) H N]at I;grind
 all_goals grind
theorem zdD:∀(r:Rx),dm r=true->sz r<=1000->zdC r:=by
 refine j6 λk lo up ks c b hs=>?_;obtain⟨nd,a⟩:=well_iff.1 b;have hl:=IB ks;simp only[sz]at hs;have d:lo=0/\up=0\/0<=lo/\lo<=up/\up<=4294967295:=by
  by_cases e:k=1;·exact .inr (nd.rng e)
  ·exact .inl (nd.zero e)
 have f:=nd.known;have g:IntKind.i64.min= -9223372036854775808:=rfl;have h:IntKind.i64.max=9223372036854775807:=rfl;refine⟨⟨by omega,by omega⟩,⟨by omega,by omega⟩,⟨by omega,by omega⟩,x_ (show ks.length<=1000 by omega) (by decide),(JI ks).2 λr hr=>c r hr (a r hr) (by have:=vK hr;omega)⟩
theorem ParsedX.ok{s:List UInt8}{c:Rx×Int×Unit}(h:ParsedX s c):zdC c.1:=by
 rcases h with⟨r,z,_,rfl⟩|⟨_,rfl⟩;·obtain⟨E,H,_⟩:=D9 z;exact zdD r E (by omega)
 ·exact⟨by decide,by decide,by decide,by simp,trivial⟩
theorem E8(s:List UInt8)(hs:s.length<=1048576):∃c:Rx×Int×Unit,ParsedX s c/\aC tbl ot [.d tS s] [] eU c:=by
 obtain⟨num,hn,hc⟩:=zfC s hs;refine jV (sh:=eU) (λ_=>rfl) (zcZ P9 rfl (λO n=>QJ O n s) ?_);unfold FI;refine j8 (zcs hs hn hc 33 0 rfl 0 (K_ _)) ?_;cases e:Gv num s 33 0 with
 |none=>refine aa ⟨_,rfl,.inr ⟨λr hr hp=>?_,rfl⟩⟩;rw[C5 hn (by simp) hr hp]at e;grind|some x=>
  obtain⟨r,j⟩:=x;obtain⟨k,l,p⟩:=Hr hn 33 0 r j (K_ _) e;have g:∀a,mF a=0->jM a=s->a=r:=λa d f=>by rw[C5 hn (by simp) d f]at e;grind
  show Wp (λn=>c_ (c_ (ar (qc tbl n) lh [.d .rx (Rx.mk r.out.1 r.out.2.1 r.out.2.2.1 r.out.2.2.2.1)] [] jo) _) _) _;rw[cy];refine ae (aj (Oi r (by omega)) (ae (bG (b:= !(jM r==s)) (λh=>aa ?_) ?_)));·grind
  ·refine au (λh=>aa (aa ⟨_,rfl,.inr ⟨λa d f=>?_,rfl⟩⟩)) λh=>aa (aa ⟨_,rfl,.inl ⟨r,?_,?_,?_⟩⟩);·grind
   ·grind
   ·grind
   ·show(Rx.mk r.out.1 r.out.2.1 r.out.2.2.1 r.out.2.2.2.1,(0:Int),())=_;rw[cy]
theorem EX(s:List UInt8)(hs:s.length<=1048576):∃c:Rx×Int×Unit,ParsedX s c/\aC tbl lf [.d tS s] [] eR c:=by
 obtain⟨num,hn,hc⟩:=zez s hs;refine jV (sh:=eR) (λ_=>rfl) (aA PQ rfl (λO n=>Qs O n s) ?_);unfold Fq;obtain⟨r,ok,j,v,e,a⟩:=UC hs hn hc 32 1 rfl 0 (K_ _);refine aj a ?_;have k:∀d,mF d=0->jM d=s->d=r/\ok=true/\j=s.length:=λd f g=>by rw[C5 hn (by simp) f g]at e;grind
 refine ae (bG (b:=decide (j<s.length)) (λ_=>aa ?_) ?_);·simp
 rw[cy];have u:ok=true->sz r<=1048576:=λh=>by rw[h]at e;have:=Hr hn 32 0 r j (K_ _) e;omega
 refine ae (bG (b:=(mF r != 0)) (λh=>?_) ?_)
 ·have h:((!ok)||decide (j<s.length))=false:=h;have l:ok=true:=by grind
  exact aj (N6 r (u l)) (aa rfl)
 refine ae (bG (b:= !(jM r==s)) (λh=>?_) ?_)
 ·have h:((!ok)||decide (j<s.length)||(mF r != 0))=false:=h;have p:mF r=0:=by grind
  obtain⟨f,g,_⟩:=D9 p;exact aj (KH r f (by omega)) (aa rfl)
 refine au (λh=>aa ⟨_,rfl,.inr ⟨λd f g=>?_,rfl⟩⟩) λh=>aa ⟨_,rfl,.inl ⟨r,?_,?_,rfl⟩⟩;all_goals grind
open Go Go.Av Go.Ev Go.Pl
def cL(l:List Nat):List Int:=l.map fun(k:Nat)=>(k:Int)
theorem Sk(a b:List Nat):cL (a++b)=cL a++cL b:=r_
theorem cb(l:List Nat):(cL l).length=l.length:=D_ _
theorem Jc{l:List Nat}{i:Nat}(h:i<l.length):(cL l)[i]'(by rw[cb];exact h)=(l[i]:Int):=by simp[cL]
theorem Na{a:List Nat}{i:Nat}(h:i<a.length)(b:List Nat):fW (a.take (i+1)) b=fW (a.take i) b++fW [a[i]] b:=by unfold fW;rw[g_,a_ h,ah_];rfl
theorem Ol:∀(r:Rx),sz r<=1000000->aC tbl ou [.d .rx r] [] lA ((cnt r:Int),()):=by
 refine j6 λk lo up ks h hs=>?_;obtain⟨e,d⟩:=Df hs;refine aw rfl (aA Qb rfl (λO m=>QL O m (.mk k lo up ks)) ?_);unfold FK;have g:cnt (.mk k lo up ks)<=1000000:=x_ (XQ _) hs;simp only[cnt]at g;have hc:∀i,cM (ks.take i)<=cM ks:=λi=>by
  have:cM ks=cM (ks.take i)+cM (ks.drop i):=by rw[<-wo,F_]
  omega
 have j:∀n:Nat,(c_ (c_ (bif (k==(1:Int))then some true else some (k==(2:Int))) λv=>bif v then some (((1:Int),()):Int×Unit)else some ((0:Int),())) fun(v:Int×Unit)=>some v)=some (((bif k==1||k==2 then 1 else 0:Nat):Int),()):=λ_=>by grind
 have c:(c_ (bif (k==(1:Int))then some true else some (k==(2:Int))) λv=>bif v then some (((1:Int),()):Int×Unit)else some ((0:Int),()))=some (((bif k==1||k==2 then 1 else 0:Nat):Int),()):=by grind
 refine ae (dV (a:=(((bif k==1||k==2 then 1 else 0:Nat):Int),())) (λ_=>c) ?_);refine ae (aX (N:=ks.length) (I:=λi s=>s=((((bif k==1||k==2 then 1 else 0)+cM (ks.take i):Nat):Int),(i:Int),())) (by simp[cM]) (λi s b hs=>?_) λs hs=>?_)
 ·subst hs;unfold uv;refine a8 b (aI b ?_);rw[cy];have hr:=b_ b;refine aj (h ks[i] hr (by grind)) (aa ?_);have f:cM (ks.take (i+1))=cM (ks.take i)+cnt ks[i]:=by rw[g_,a_ b,wo];simp[cM]
  have:=hc (i+1);refine ax_ ?_ (ax_ (ap b (by omega)) rfl);show d_ .i64 ((((bif k==1||k==2 then 1 else 0)+cM (ks.take i):Nat):Int)+(cnt ks[i]:Int))=_;rw[wrap_i64 (by omega) (by omega),f];omega
 ·subst hs;unfold uv;refine aR (aa (aa ?_));rw[f_];rfl
structure FolR(n:Nat)(F:List (List Int))(P:List (Nat×Nat)):Prop where
 len:F.length=n
 nd:∀l∈F,l.Nodup
 bd:∀l∈F,∀x∈l,0<=x/\x<(n:Int)
 mem:∀p (h:p<F.length) (q:Nat),(q:Int)∈F[p]↔(p,q)∈P
theorem FolR.congr{n:Nat}{F:List (List Int)}{P z:List (Nat×Nat)}(h:FolR n F P)(e:∀x,x∈P↔x∈z):FolR n F z:=⟨h.len,h.nd,h.bd,λp hp q=>(h.mem p hp q).trans (e _)⟩
theorem FolR.len1{n:Nat}{F:List (List Int)}{P:List (Nat×Nat)}(h:FolR n F P){p:Nat}(hp:p<F.length):F[p].length<=n:=by
 have E:=JD F[p] ((s_ n).map fun(k:Nat)=>(k:Int)) (h.nd _ (b_ hp)) λx z=>by have:=h.bd _ (b_ hp) x z;exact H_.2 ⟨x.toNat,ae_.2 (by omega),by omega⟩
 grind
theorem FolR.add{n:Nat}{F:List (List Int)}{P:List (Nat×Nat)}(h:FolR n F P){p q:Nat}(hp:p<F.length)(hq:q<n)(hn:(q:Int)∉F[p]):FolR n (F.set p (F[p]++[(q:Int)])) (P++[(p,q)]):=by
 have z:∀l∈F.set p (F[p]++[(q:Int)]),l∈F\/l=F[p]++[(q:Int)]:=λl hl=>by grind
 refine⟨by rw[an_,h.len],λl hl=>?_,λl hl x J=>?_,λN R q'=>?_⟩
 ·rcases z l hl with H|rfl;·exact h.nd l H
  ·exact List.nodup_append.2 ⟨h.nd _ (b_ hp),by simp,λa U b Y=>by grind⟩
 ·rcases z l hl with H|rfl;·exact h.bd l H x J
  ·rcases n_.1 J with I|I;·exact h.bd _ (b_ hp) x I
   grind
 ·have E:N<F.length:=by grind
  rw[Z_];split;·rename_i e;subst e;simp only[n_,j_,h.mem p hp,Prod.mk.injEq,true_and];grind
  ·rename_i e;simp only[n_,j_,h.mem N E,Prod.mk.injEq];grind
theorem GY{n:Nat}{F:List (List Int)}{P:List (Nat×Nat)}(L:FolR n F P)(sp:List (Int×(Int×Unit))){la fi:List Nat}(D:∀p∈la,p<n)(C:∀q∈fi,q<n)(R:la.length<=1000000)(T:fi.length<=1000000)(hn:n<=1000000): ∃g,FolR n g (P++fW la fi)/\aC tbl ca [.ptr 0 0,.d (.list tI) (cL la),.d (.list tI) (cL fi)] [.box bg [.sl 1,.sl 2],.vec bN (pr [tI,tI]) sp,.tree jR (.s 3 1 .e .e) (.list tI) F none] bJ (sp,g,()):=by
 suffices h:∃c:List (Int×(Int×Unit))×List (List Int)×Unit,(∃g,c=(sp,g,())/\FolR n g (P++fW la fi))/\aC tbl ca [.ptr 0 0,.d (.list tI) (cL la),.d (.list tI) (cL fi)] [.box bg [.sl 1,.sl 2],.vec bN (pr [tI,tI]) sp,.tree jR (.s 3 1 .e .e) (.list tI) F none] bJ c by grind
 refine jV (sh:=bJ) (λ_=>rfl) (aA wQ rfl (λO m=>wW O m (cL la) (cL fi) sp F) ?_);unfold mn;refine ae (aX (N:=(cL la).length) (I:=λi s=>∃g,s=((i:Int),sp,g,())/\FolR n g (P++fW (la.take i) fi)) ⟨F,rfl,L.congr λx=>by simp[fW]⟩ ?_ ?_)
 ·rintro i s z ⟨A,rfl,l⟩;have r:i<la.length:=by rw[cb]at z;omega
  unfold fC;refine a8 z (aI z ?_);rw[Jc r];have hp:la[i]<n:=D _ (b_ r);have M:la[i]<n:=hp;refine ae (aX (N:=(cL fi).length) (I:=λj s=>∃g,s=((j:Int),sp,g,())/\FolR n g (P++fW (la.take i) fi++fW [la[i]] (fi.take j))) ⟨A,rfl,l.congr λx=>by simp[fW]⟩ ?_ ?_)
  ·rintro j s w ⟨a,rfl,e⟩;have u:j<fi.length:=by rw[cb]at w;omega
   have Q:fi[j]<n:=C _ (b_ u);have d:la[i]<a.length:=by rw[e.len];omega
   unfold fB;refine a8 w (ae (aI w ?_));rw[Jc u];refine aI d (aE (decide_eq_true (by simp)) ?_);refine fI (x:=a[la[i]]) (by simp) (fI (x:=a[la[i]]) (by simp) (aE (T_ _) ?_));refine ae (aX (N:=a[la[i]].length) (I:=λm s=>s=((a[la[i]].take m).any (·==((fi[j]:Nat):Int)),(m:Int),sp,(a,((la[i]:Nat):Int)),a[la[i]],())) (by simp) ?_ ?_);·rintro m s v rfl;have hl:=e.len1 d;unfold fA;refine a8 v (aI v (fI (x:=a[la[i]][m]) (by simp) ?_));refine ae (bG (b:=(a[la[i]][m]==((fi[j]:Nat):Int))) (λ_=>aa rfl) (aa ?_));rw[ap v (by omega),g_,a_ v,am_];simp
   ·rintro s rfl;unfold fA;refine aR (aa ?_);rw[f_];have y:a.set la[i] a[la[i]]=a:=List.set_getElem_self d;have f:a[la[i]]? =some a[la[i]]:=a_ d;have H:(p_ ((la[i]:Nat):Int))=la[i]:=by simp
    simp only[H,e_,y];refine fI (x:=a[la[i]]) f ?_;have hl:=e.len1 d;have k:∀B,FolR n B (P++fW (la.take i) fi++fW [la[i]] (fi.take j)++[(la[i],fi[j])])->FolR n B (P++fW (la.take i) fi++fW [la[i]] (fi.take (j+1))):=λB J=>J.congr λx=>by rw[g_,a_ u];simp only[fW,W_,Y_,Q_,r_,t_,N_,ar_,q_]
    refine au (λh=>?_) λh=>aa (aa ⟨a,?_,k a ?_⟩)
    ·have E:((fi[j]:Nat):Int)∉a[la[i]]:=λv=>by grind
     refine aE (decide_eq_true (by simp)) (fI (x:=a[la[i]]) f (aI d (fI (x:=a[la[i]]) f (aE (T_ _) ?_))));refine aE (decide_eq_true (by grind)) (aI d (fI (x:=a[la[i]]) f (aE (T_ _) (fI (x:=a[la[i]]) f (aa (aa ⟨_,?_,k _ (e.add d Q E)⟩))))));rw[ap w (by rw[cb];omega)]
    ·rw[ap w (by rw[cb];omega)]
    ·refine e.congr λx=>?_;have v:((fi[j]:Nat):Int)∈a[la[i]]:=by grind
     have:=(e.mem _ d fi[j]).1 v;grind
  ·rintro s ⟨a,rfl,e⟩;unfold fB;refine aR (aa (aa ⟨a,?_,e.congr λx=>?_⟩));·rw[ap z (by rw[cb];omega)]
   ·rw[cb,f_,Na r,q_]
 ·rintro s ⟨A,rfl,l⟩;unfold fC;refine aR (aa (aa ⟨_,rfl,A,rfl,l.congr λx=>?_⟩));rw[cb,f_]
def D3(l:List (Int×Int)):List (Int×(Int×Unit)):=l.map λp=>(p.1,p.2,())
theorem zbe(a b:List (Int×Int)):D3 (a++b)=D3 a++D3 b:=r_
theorem IA(l:List (Int×Int)):(D3 l).length=l.length:=D_ _
theorem FolR.one{n:Nat}{F:List (List Int)}{P:List (Nat×Nat)}(h:FolR n F P)(H:∀p q,(p,q)∈P->p<n):FolR (n+1) (F++[[]]) P:=by
 refine⟨by simp[h.len],λl hl=>?_,λl hl x J=>?_,λp hp q=>?_⟩
 ·rcases n_.1 hl with z|z;·exact h.nd l z
  grind
 ·rcases n_.1 hl with z|z;·have:=h.bd l z x J;omega
  grind
 ·by_cases E:p<F.length;·rw[List.getElem_append_left E];exact h.mem p E q
  ·have:p=F.length:=by grind
   subst this;simp only[List.getElem_concat_length,List.not_mem_nil,false_iff];intro I;have:=H _ _ I;have:=h.len;omega
theorem RR:∀(r:Rx),dm r=true->sz r<=1000000->∀(sp:List (Int×(Int×Unit))) (F:List (List Int)) (P:List (Nat×Nat)),FolR sp.length F P->(∀p q,(p,q)∈P->p<sp.length)->sp.length+cnt r<=1000000->∃d,FolR (sp.length+(dn r sp.length).sp.length) d (P++(dn r sp.length).pr)/\aC tbl bT [.ptr 0 0,.d .rx r] [.box bg [.sl 1,.sl 2],.vec bN (pr [tI,tI]) sp,.tree jR (.s 3 1 .e .e) (.list tI) F none] bm (cL (dn r sp.length).fi,cL (dn r sp.length).la,sp++D3 (dn r sp.length).sp,d,()):=by
 refine j6 λk lo up ks ih hw hs sp F P hF hP hM=>?_;obtain⟨At,E⟩:=Df hs;obtain⟨hn,v⟩:=well_iff.1 hw;have CT:=jZ _ hw sp.length;have CD:=nv (.mk k lo up ks) sp.length;have hcs:cM ks<=cnt (.mk k lo up ks):=by simp only[cnt];simp
 suffices h:∃c:List Int×List Int×List (Int×(Int×Unit))×List (List Int)×Unit,(∃d,c=(cL (dn (.mk k lo up ks) sp.length).fi,cL (dn (.mk k lo up ks) sp.length).la,sp++D3 (dn (.mk k lo up ks) sp.length).sp,d,())/\FolR (sp.length+(dn (.mk k lo up ks) sp.length).sp.length) d (P++(dn (.mk k lo up ks) sp.length).pr))/\aC tbl bT [.ptr 0 0,.d .rx (.mk k lo up ks)] [.box bg [.sl 1,.sl 2],.vec bN (pr [tI,tI]) sp,.tree jR (.s 3 1 .e .e) (.list tI) F none] bm c by
  grind
 refine jV (sh:=bm) (λ_=>rfl) (aA xe rfl (λO m=>xi O m (.mk k lo up ks) sp F) ?_);unfold nJ;by_cases M:k=1\/k=2
 ·have B:∀y z,dn (.mk k lo up ks) sp.length=Xy sp.length y z->Wp (λ_=>(aH (decide ((sp.length+(([(y,z,())]:List (Int×(Int×Unit)))).length)*16<=140737488355328)) (aH (decide ((F.length+(([([]:List Int)]:List (List Int))).length)*24<=140737488355328)) (some ((.inr ((([d_ .i64 (((sp++(([(y,z,())]:List (Int×(Int×Unit))))).length:Int) - (1:Int))]:List Int),([d_ .i64 (((sp++(([(y,z,())]:List (Int×(Int×Unit))))).length:Int) - (1:Int))]:List Int),sp++(([(y,z,())]:List (Int×(Int×Unit)))),F++(([([]:List Int)]:List (List Int))),()))):(List (Int×(Int×Unit))×List (List Int)×List Int×List Int×Unit)⊕(List Int×List Int×List (Int×(Int×Unit))×List (List Int)×Unit)))))) λr=>∃d,r= .inr (cL (dn (.mk k lo up ks) sp.length).fi,cL (dn (.mk k lo up ks) sp.length).la,sp++D3 (dn (.mk k lo up ks) sp.length).sp,d,())/\FolR (sp.length+(dn (.mk k lo up ks) sp.length).sp.length) d (P++(dn (.mk k lo up ks) sp.length).pr):=λy z he=>by
   have BT:=hF.len
   refine aE (decide_eq_true (by grind)) (aE (decide_eq_true (by grind)) (aa ⟨F++[[]],?_,?_⟩))
   ·rw[he];simp only[o_,ad_];rw[wrap_i64 (by simp) (by omega),show((sp.length+1:Nat):Int) - 1=(sp.length:Int) by simp];rfl
   ·rw[he];simp only[Xy,ad_,Q_];exact hF.one hP
  rcases M with rfl|rfl;·refine ae (Wp.imp (B lo up (by simp[dn])) λr hr=>?_);obtain⟨d,rfl,R⟩:=hr;exact aa ⟨_,rfl,d,rfl,R⟩
  ·have hz:=hn.zero (by simp);refine ae (Wp.imp (B lo 4294967295 (by rw[hz.1];simp[dn])) λr hr=>?_);obtain⟨d,rfl,R⟩:=hr;exact aa ⟨_,rfl,d,rfl,R⟩
 have h1:k≠1:=λe=>M (.inl e);have h2:k≠2:=λe=>M (.inr e);have e1:(k==(1:Int))=false:=by grind
 have e2:(k==(2:Int))=false:=by grind
 have key:∀(g:G),g.sp.length<=cnt (.mk k lo up ks)->Lie sp.length g->g.fi.length<=1000000/\g.la.length<=1000000:=λg h hl=>by have:=hl.fl;have:=hl.ll;omega
 have Bx:∀(g:G),Lie sp.length g->∀p q,(p,q)∈P++g.pr->p<sp.length+g.sp.length:=λg hl p q h=>by
  rcases n_.1 h with h|h;·grind
  ·have:=hl.pr p q h;omega
 have Dg:∀i,cM (ks.take i)<=cM ks:=λi=>by
  have:cM ks=cM (ks.take i)+cM (ks.drop i):=by rw[<-wo,F_]
  omega
 have H:∀i (h:i<ks.length),cM (ks.take i)+cnt ks[i]<=cM ks:=λi h=>by
  have e:cM (ks.take (i+1))=cM (ks.take i)+cnt ks[i]:=by rw[g_,a_ h,wo];simp[cM]
  grind
 have zgb:∀i,Lie sp.length (fj (ks.take i) sp.length (Pl.g0 true))/\(fj (ks.take i) sp.length (Pl.g0 true)).sp.length=cM (ks.take i)/\(fj (ks.take i) sp.length (Pl.g0 true)).em=w9 (ks.take i):=λi=>by
  have hl:=nv (.mk 3 0 0 (ks.take i)) sp.length;have e:dn (.mk 3 0 0 (ks.take i)) sp.length=fj (ks.take i) sp.length (Pl.g0 true):=by simp[dn]
  rw[e]at hl;refine⟨hl,?_⟩;have:∀(l:List Rx) (a:G),(∀r∈l,r∈ks)->(fj l sp.length a).sp.length=a.sp.length+cM l/\(fj l sp.length a).em=(a.em&&w9 l):=by intro l;induction l with|nil=>intro a _;simp[fj,cM,w9]|cons r l el=>intro a hl;have hr:=hl r (m_ ..);obtain⟨g1,g2⟩:=jZ r (v r hr) (sp.length+a.sp.length);obtain⟨g3,g4⟩:=el (qf a (dn r (sp.length+a.sp.length))) λx hx=>hl x (i_ _ hx);simp only[fj,g3,g4,cM,w9];simp only[qf,o_,g1,g2,Bool.and_assoc];grind
  have:=this (ks.take i) (Pl.g0 true) λr hr=>v_ hr;simpa[Pl.g0]using this
 have zfc:∀i,Lie sp.length (cC (ks.take i) sp.length (Pl.g0 false))/\(cC (ks.take i) sp.length (Pl.g0 false)).sp.length=cM (ks.take i):=λi=>by
  have hl:=nv (.mk 4 0 0 (ks.take i)) sp.length;have e:dn (.mk 4 0 0 (ks.take i)) sp.length=cC (ks.take i) sp.length (Pl.g0 false):=by simp[dn]
  rw[e]at hl;refine⟨hl,?_⟩;have:∀(l:List Rx) (a:G),(∀r∈l,r∈ks)->(cC l sp.length a).sp.length=a.sp.length+cM l:=by intro l;induction l with|nil=>intro a _;simp[cC,cM]|cons r l el=>intro a hl;have hr:=hl r (m_ ..);obtain⟨g1,g2⟩:=jZ r (v r hr) (sp.length+a.sp.length);have g3:=el (BI a (dn r (sp.length+a.sp.length))) λx hx=>hl x (i_ _ hx);simp only[cC,g3,cM];simp only[BI,o_,g1];omega
  have:=this (ks.take i) (Pl.g0 false) λr hr=>v_ hr;simpa[Pl.g0]using this
 refine ae (ae (dV (a:=(false,sp,F,())) (λ_=>?_) ?_));·show(bif (k==(1:Int))then some ((k==(1:Int)),sp,F,())else some ((k==(2:Int)),sp,F,()))=_;grind
 show Wp (λn=>bif (k==(3:Int))then _ else _) _;by_cases h3:k=3
 ·subst h3;have eg:dn (.mk 3 lo up ks) sp.length=fj ks sp.length (Pl.g0 true):=by simp[dn]
  show Wp (λn=>c_ (aL n (dD (qc tbl n) n (.mk 3 lo up ks)) (true,(0:Int),sp,F,([]:List Int),([]:List Int),())) _) _;refine ae (aX (N:=ks.length) (I:=λi s=>∃d,s=((fj (ks.take i) sp.length (Pl.g0 true)).em,(i:Int),sp++D3 (fj (ks.take i) sp.length (Pl.g0 true)).sp,d,cL (fj (ks.take i) sp.length (Pl.g0 true)).fi,cL (fj (ks.take i) sp.length (Pl.g0 true)).la,())/\FolR (sp.length+(fj (ks.take i) sp.length (Pl.g0 true)).sp.length) d (P++(fj (ks.take i) sp.length (Pl.g0 true)).pr)) ⟨F,by simp[fj,Pl.g0,D3,cL],by simpa[fj,Pl.g0]using hF⟩ ?_ ?_)
  ·rintro i s f ⟨J,rfl,u⟩;obtain⟨l1,l2,l3⟩:=zgb i;rw[Q5 f];have C:(sp++D3 (fj (ks.take i) sp.length (Pl.g0 true)).sp).length=sp.length+(fj (ks.take i) sp.length (Pl.g0 true)).sp.length:=by rw[o_,IA]
   have D:=key _ (by grind) l1;generalize fj (ks.take i) sp.length (Pl.g0 true)=a at*;have hr:=b_ f;obtain⟨w1,w2⟩:=jZ ks[i] (v _ hr) (sp.length+a.sp.length);have w:=nv ks[i] (sp.length+a.sp.length);unfold dD;refine a8 f (aI f ?_);rw[cy];have hsz:=E _ hr;have rg:=H i f;obtain⟨F2,A,hc⟩:=ih ks[i] hr (v _ hr) (by omega) (sp++D3 a.sp) J (P++a.pr) (by grind) (by grind) (by omega);rw[C]at A hc;generalize dn ks[i] (sp.length+a.sp.length)=x at*;refine aj hc (aj (yU ks[i] (by omega)) ?_);have ur:=w.fl;have gc:=w.ll;obtain⟨L,Bk,qr⟩:=GY A (sp++D3 a.sp++D3 x.sp) (la:=a.la) (fi:=x.fi) (λp hp=>by have:=l1.la p hp;omega) (λq hq=>by have:=w.fi q hq;omega) (by omega) (by omega) (by omega);refine aj qr ?_;have j:FolR (sp.length+(qf a x).sp.length) L (P++(qf a x).pr):=by simp only[qf,o_];grind
   have wr:∀b:Bool,a.em=b->∀b2:Bool,x.em=b2->((b&&b2,((i+1:Nat):Int),sp++D3 a.sp++D3 x.sp,L,(bif b then cL a.fi++cL x.fi else cL a.fi),(bif b2 then cL a.la else [])++cL x.la,()):Bool×Int×List (Int×(Int×Unit))×List (List Int)×List Int×List Int×Unit)=((qf a x).em,((i+1:Nat):Int),sp++D3 (qf a x).sp,L,cL (qf a x).fi,cL (qf a x).la,()):=λb hb b2 T=>by simp only[qf,hb,T,zbe,q_];cases b<;>cases b2<;>simp[Sk,cL]
   rw[<-w2];show Wp (λn=>c_ (bif a.em then _ else _) _) _;cases hb:a.em
   ·refine ae (aa (ae (aa ?_)));cases T:x.em;·refine ae (aa (aE (decide_eq_true (by simp only[cb,R_];omega)) (aa ⟨L,?_,j⟩)));rw[ap f (by omega)];grind
    ·refine ae (aa (aE (decide_eq_true (by simp only[cb];omega)) (aa ⟨L,?_,j⟩)));rw[ap f (by omega)];grind
   ·refine ae (aE (decide_eq_true (by simp only[cb];omega)) (aa (ae (aa ?_))));cases T:x.em;·refine ae (aa (aE (decide_eq_true (by simp only[cb,R_];omega)) (aa ⟨L,?_,j⟩)));rw[ap f (by omega)];grind
    ·refine ae (aa (aE (decide_eq_true (by simp only[cb];omega)) (aa ⟨L,?_,j⟩)));rw[ap f (by omega)];grind
  ·rintro s ⟨J,rfl,u⟩;unfold dD;rw[f_]at u⊢;refine aR (aa (aa (aa ⟨_,rfl,J,?_,by grind⟩)));grind
 ·have e3:(k==(3:Int))=false:=by grind
  rw[e3];show Wp (λn=>c_ (aL n (dE (qc tbl n) n (.mk k lo up ks)) ((0:Int),sp,F,([]:List Int),([]:List Int),())) _) _;refine ae (aX (N:=ks.length) (I:=λi s=>∃d,s=((i:Int),sp++D3 (cC (ks.take i) sp.length (Pl.g0 false)).sp,d,cL (cC (ks.take i) sp.length (Pl.g0 false)).fi,cL (cC (ks.take i) sp.length (Pl.g0 false)).la,())/\FolR (sp.length+(cC (ks.take i) sp.length (Pl.g0 false)).sp.length) d (P++(cC (ks.take i) sp.length (Pl.g0 false)).pr)) ⟨F,by simp[cC,Pl.g0,D3,cL],by simpa[cC,Pl.g0]using hF⟩ ?_ ?_)
  ·rintro i s f ⟨J,rfl,u⟩;obtain⟨l1,l2⟩:=zfc i;rw[Q4 f];have C:(sp++D3 (cC (ks.take i) sp.length (Pl.g0 false)).sp).length=sp.length+(cC (ks.take i) sp.length (Pl.g0 false)).sp.length:=by rw[o_,IA]
   have D:=key _ (by grind) l1;generalize cC (ks.take i) sp.length (Pl.g0 false)=a at*;have hr:=b_ f;obtain⟨w1,w2⟩:=jZ ks[i] (v _ hr) (sp.length+a.sp.length);have w:=nv ks[i] (sp.length+a.sp.length);unfold dE;refine a8 f (aI f ?_);rw[cy];have hsz:=E _ hr;have rg:=H i f;obtain⟨F2,A,hc⟩:=ih ks[i] hr (v _ hr) (by omega) (sp++D3 a.sp) J (P++a.pr) (by grind) (by grind) (by omega);rw[C]at A hc;generalize dn ks[i] (sp.length+a.sp.length)=x at*;have ur:=w.fl;have gc:=w.ll;refine aj hc (aE (decide_eq_true (by simp only[cb];omega)) (aE (decide_eq_true (by simp only[cb];omega)) (aa ⟨F2,?_,?_⟩)));·rw[ap f (by omega)];simp only[BI,zbe,Sk,q_]
   ·simp only[BI,o_];grind
  ·rintro s ⟨J,rfl,u⟩;unfold dE;obtain⟨l1,l2⟩:=zfc ks.length;rw[f_]at u l1 l2⊢;have D:=key _ (by omega) l1;refine aR (aa ?_);have Y:∀(hk:dn (.mk k lo up ks) sp.length=wB (cC ks sp.length (Pl.g0 false))\/dn (.mk k lo up ks) sp.length=emG (wB (cC ks sp.length (Pl.g0 false)))),(dn (.mk k lo up ks) sp.length).fi=(cC ks sp.length (Pl.g0 false)).fi/\(dn (.mk k lo up ks) sp.length).la=(cC ks sp.length (Pl.g0 false)).la/\(dn (.mk k lo up ks) sp.length).sp=(cC ks sp.length (Pl.g0 false)).sp/\(dn (.mk k lo up ks) sp.length).pr=(cC ks sp.length (Pl.g0 false)).pr++fW (cC ks sp.length (Pl.g0 false)).la (cC ks sp.length (Pl.g0 false)).fi:=λhk=>by rcases hk with h|h<;>rw[h]<;>exact⟨rfl,rfl,rfl,rfl⟩
   have U:∀(hk:dn (.mk k lo up ks) sp.length=cC ks sp.length (Pl.g0 false)\/dn (.mk k lo up ks) sp.length=emG (cC ks sp.length (Pl.g0 false))),(dn (.mk k lo up ks) sp.length).fi=(cC ks sp.length (Pl.g0 false)).fi/\(dn (.mk k lo up ks) sp.length).la=(cC ks sp.length (Pl.g0 false)).la/\(dn (.mk k lo up ks) sp.length).sp=(cC ks sp.length (Pl.g0 false)).sp/\(dn (.mk k lo up ks) sp.length).pr=(cC ks sp.length (Pl.g0 false)).pr:=λhk=>by rcases hk with h|h<;>rw[h]<;>exact⟨rfl,rfl,rfl,rfl⟩
   by_cases Q:k=5\/k=6
   ·have hb:(bif (k==(5:Int))then some true else some (k==(6:Int)))=some true:=by grind
    refine ae (dV (a:=true) (λ_=>hb) ?_);obtain⟨q1,q2,q3,q4⟩:=Y (by
     rcases Q with rfl|rfl;·exact .inr (by simp[dn])
     ·exact .inl (by simp[dn]))
    obtain⟨F2,A,ph⟩:=GY u (sp++D3 (cC ks sp.length (Pl.g0 false)).sp) (la:=(cC ks sp.length (Pl.g0 false)).la) (fi:=(cC ks sp.length (Pl.g0 false)).fi) (λp hp=>by have:=l1.la p hp;omega) (λq hq=>by have:=l1.fi q hq;omega) D.2 D.1 (by omega);refine aj ph (aa (aa ⟨_,rfl,F2,?_,?_⟩));all_goals grind
   ·have h5:k≠5:=λe=>Q (.inl e);have h6:k≠6:=λe=>Q (.inr e);have hb:(bif (k==(5:Int))then some true else some (k==(6:Int)))=some false:=by grind
    refine ae (dV (a:=false) (λ_=>hb) ?_);obtain⟨q1,q2,q3,q4⟩:=U (by
     rcases hn.known with rfl|rfl|rfl|rfl|rfl|rfl|rfl|rfl;·have:=len_nil (hn.leaf (by simp));subst this;exact .inr (by simp[dn,cC,Pl.g0,emG])
     ·omega
     ·omega
     ·omega
     ·exact .inl (by simp[dn])
     ·omega
     ·omega
     ·exact .inr (by simp[dn]))
    refine aa (aa ⟨_,rfl,J,?_,?_⟩);all_goals grind
def j0(M:Nat)(P:List (Nat×Nat)):List (List Bool):=(s_ M).map λi=>(s_ M).map λk=>decide ((i,k)∈P)
theorem MW(M:Nat)(P:List (Nat×Nat)):(j0 M P).length=M:=by simp[j0]
theorem Ig{M:Nat}{P:List (Nat×Nat)}{i:Nat}(h:i<(j0 M P).length):(j0 M P)[i]=(s_ M).map λk=>decide ((i,k)∈P):=by simp[j0]
theorem zdn{M:Nat}{P:List (Nat×Nat)}{i k:Nat}(h:i<M)(j:k<M):(j0 M P).set i (((s_ M).map λk=>decide ((i,k)∈P)).set k true)=j0 M (P++[(i,k)]):=by
 refine A_ (by simp[j0]) λa c d=>?_;simp only[Z_,Ig,an_]at c⊢;split;·rename_i e;subst e;refine A_ (by simp) λb f g=>?_;grind
 grind
theorem kg(a b:List Int)(c:a.length<=1000000)(d:b.length<=1000000):aC tbl kC [.d (.list tI) a,.d (.list tI) b] [] ja (a++b,()):=by refine aw rfl (aA TU rfl (λO m=>Ut O m a b) ?_);unfold Hf;refine aE (decide_eq_true (by grind)) (aE (decide_eq_true (by grind)) (aa ?_));simp
theorem vR(x y:Int)(lo a:List Int)(F:List (List Bool))(b:lo.length<=1000000)(c:a.length<=1000000):aC tbl dL [.ptr 0 0,.d tI x,.d tI y] [.box ba [.sl 1,.sl 2,.sl 3],.vec dF tI lo,.vec dF tI a,.tree dw (.s 4 1 .e .e) (.list tB) F none] cS (([(lo.length:Int)],[(lo.length:Int)],false,()),lo++[x],a++[y],F,()):=by refine aw rfl (aA AS rfl (λO m=>Bd O m x y lo a F) ?_);unfold qt;exact aE (decide_eq_true (by grind)) (aE (decide_eq_true (by grind)) (aa rfl))
theorem nN{M:Nat}(P:List (Nat×Nat))(lo up:List Int){la fi:List Nat}(h:∀p∈la,p<M)(e:∀q∈fi,q<M)(n:la.length<=1000000)(r:fi.length<=1000000)(u:M<=1000000): aC tbl dv [.ptr 0 0,.d (.list tI) (cL la),.d (.list tI) (cL fi)] [.box ba [.sl 1,.sl 2,.sl 3],.vec dF tI lo,.vec dF tI up,.tree dw (.s 4 1 .e .e) (.list tB) (j0 M P) none] cA (lo,up,j0 M (P++fW la fi),()):=by
 refine aw rfl (aA zA rfl (λO m=>zI O m (cL la) (cL fi) lo up (j0 M P)) ?_);unfold pW;refine ae (aX (N:=(cL la).length) (I:=λi s=>s=((i:Int),lo,up,j0 M (P++fW (la.take i) fi),())) (by simp[fW]) ?_ ?_)
 ·rintro i s a rfl;have f:i<la.length:=by rw[cb]at a;omega
  have hp:=h _ (b_ f);unfold iv;refine a8 a (aI a ?_);rw[Jc f];refine ae (aX (N:=(cL fi).length) (I:=λj s=>s=((j:Int),lo,up,j0 M (P++fW (la.take i) fi++fW [la[i]] (fi.take j)),())) (by simp[fW]) ?_ ?_)
  ·rintro j s b rfl;have g:j<fi.length:=by rw[cb]at b;omega
   have l:=e _ (b_ g);unfold iu;refine a8 b (aI b ?_);rw[Jc g];have c:la[i]<(j0 M (P++fW (la.take i) fi++fW [la[i]] (fi.take j))).length:=by rw[MW];omega
   have hg:=a_ c;rw[Ig]at hg;refine aI c (aE (decide_eq_true (by simp)) ?_);simp only[e_];refine fI hg (fI hg (aE (T_ _) ?_));have d:fi[j]<((s_ M).map λk=>decide ((la[i],k)∈P++fW (la.take i) fi++fW [la[i]] (fi.take j))).length:=by grind
   refine aI d (fI (a_ d) (fI hg (aa ?_)));rw[ap b (by rw[cb];omega),zdn hp l];congr 4;rw[g_,a_ g];simp only[fW,W_,Y_,Q_,r_,t_,N_,ar_,q_]
  ·rintro s rfl;unfold iu;refine aR (aa (aa ?_));rw[ap a (by rw[cb];omega),cb,f_,Na f,q_]
 ·rintro s rfl;unfold iv;refine aR (aa (aa ?_));rw[cb,f_]
theorem zgb{ks:List Rx}(b:∀r∈ks,dm r=true)(o i:Nat):Lie o (fj (ks.take i) o (Pl.g0 true))/\(fj (ks.take i) o (Pl.g0 true)).sp.length=cM (ks.take i):=by
 have hl:=nv (.mk 3 0 0 (ks.take i)) o;have e:dn (.mk 3 0 0 (ks.take i)) o=fj (ks.take i) o (Pl.g0 true):=by simp[dn]
 rw[e]at hl;refine⟨hl,?_⟩;have:∀(l:List Rx) (a:G),(∀r∈l,r∈ks)->(fj l o a).sp.length=a.sp.length+cM l:=by intro l;induction l with|nil=>intro a _;simp[fj,cM]|cons r l c=>intro a hl;have hr:=hl r (m_ ..);obtain⟨d,h⟩:=jZ r (b r hr) (o+a.sp.length);have f:=c (qf a (dn r (o+a.sp.length))) λx g=>hl x (i_ _ g);simp only[fj,f,cM];simp only[qf,o_,d];omega
 have:=this (ks.take i) (Pl.g0 true) λr hr=>v_ hr;simpa[Pl.g0]using this
theorem zfc{ks:List Rx}(b:∀r∈ks,dm r=true)(o i:Nat):Lie o (cC (ks.take i) o (Pl.g0 false))/\(cC (ks.take i) o (Pl.g0 false)).sp.length=cM (ks.take i):=by
 have hl:=nv (.mk 4 0 0 (ks.take i)) o;have e:dn (.mk 4 0 0 (ks.take i)) o=cC (ks.take i) o (Pl.g0 false):=by simp[dn]
 rw[e]at hl;refine⟨hl,?_⟩;have:∀(l:List Rx) (a:G),(∀r∈l,r∈ks)->(cC l o a).sp.length=a.sp.length+cM l:=by intro l;induction l with|nil=>intro a _;simp[cC,cM]|cons r l c=>intro a hl;have hr:=hl r (m_ ..);obtain⟨d,h⟩:=jZ r (b r hr) (o+a.sp.length);have f:=c (BI a (dn r (o+a.sp.length))) λx g=>hl x (i_ _ g);simp only[cC,f,cM];simp only[BI,o_,d];omega
 have:=this (ks.take i) (Pl.g0 false) λr hr=>v_ hr;simpa[Pl.g0]using this
theorem Sp(ks:List Rx)(i:Nat):cM (ks.take i)<=cM ks:=by
 have:cM ks=cM (ks.take i)+cM (ks.drop i):=by rw[<-wo,F_]
 omega
theorem Hy{ks:List Rx}{i:Nat}(h:i<ks.length):cM (ks.take i)+cnt ks[i]<=cM ks:=by
 have e:cM (ks.take (i+1))=cM (ks.take i)+cnt ks[i]:=by rw[g_,a_ h,wo];simp[cM]
 have:=Sp ks (i+1);omega
theorem Ed{M:Nat}(E:M<=1000000):∀(r:Rx),dm r=true->sz r<=1000000->∀(lo f:List Int) (P:List (Nat×Nat)),f.length=lo.length->lo.length+cnt r<=M->aC tbl co [.ptr 0 0,.d .rx r] [.box ba [.sl 1,.sl 2,.sl 3],.vec dF tI lo,.vec dF tI f,.tree dw (.s 4 1 .e .e) (.list tB) (j0 M P) none] bF ((cL (dn r lo.length).fi,cL (dn r lo.length).la,(dn r lo.length).em,()),lo++(dn r lo.length).sp.map (·.1),f++(dn r lo.length).sp.map (·.2),j0 M (P++(dn r lo.length).pr),()):=by
 refine j6 λk l up ks B Y hs lo f P w U=>?_;obtain⟨L,g⟩:=Df hs;obtain⟨hn,e⟩:=well_iff.1 Y;have hcs:cM ks<=cnt (.mk k l up ks):=by simp only[cnt];simp
 refine aw rfl (aA AT rfl (λO m=>Be O m (.mk k l up ks) lo f (j0 M P)) ?_);unfold qu;have F:(bif (k==(0:Int))then some true else some (k==(3:Int)))=some (k==0||k==3):=by grind
 refine ae (dV (a:=(k==0||k==3)) (λ_=>F) ?_);rcases hn.known with rfl|rfl|rfl|rfl|rfl|rfl|rfl|rfl
 ·have:=len_nil (hn.leaf (by simp));subst this;refine dV (a:=some (kJ bF (([],[],true,()),lo,f,j0 M P,()))) (λ_=>rfl) ?_;simp[dn,Pl.g0,cL]
 ·have:=len_nil (hn.leaf (by simp));subst this;refine ae (aj (vR l up lo f _ (by omega) (by omega)) (aa (aa ?_)));simp[dn,Xy,cL]
 ·have:=len_nil (hn.leaf (by simp));subst this;refine ae (aj (vR 0 4294967295 lo f _ (by omega) (by omega)) (aa (aa ?_)));simp[dn,Xy,cL]
 ·have u:dn (.mk 3 l up ks) lo.length=fj ks lo.length (Pl.g0 true):=by simp[dn]
  rw[u];show Wp (λn=>c_ (c_ (aL n (eK (qc tbl n) n (.mk 3 l up ks)) ((0:Int),lo,f,j0 M P,false,([]:List Int),([]:List Int),true,())) _) _) _;refine ae (ae (aX (N:=ks.length) (I:=λi s=>s=((i:Int),lo++(fj (ks.take i) lo.length (Pl.g0 true)).sp.map (·.1),f++(fj (ks.take i) lo.length (Pl.g0 true)).sp.map (·.2),j0 M (P++(fj (ks.take i) lo.length (Pl.g0 true)).pr),false,cL (fj (ks.take i) lo.length (Pl.g0 true)).fi,cL (fj (ks.take i) lo.length (Pl.g0 true)).la,(fj (ks.take i) lo.length (Pl.g0 true)).em,())) (by simp[fj,Pl.g0,cL]) ?_ ?_))
  ·rintro i s c rfl;obtain⟨l1,l2⟩:=zgb e lo.length i;rw[Q5 c];have v:=Hy c;generalize fj (ks.take i) lo.length (Pl.g0 true)=a at*;have hr:=b_ c;obtain⟨H,J⟩:=jZ ks[i] (e _ hr) (lo.length+a.sp.length);have d:=nv ks[i] (lo.length+a.sp.length);unfold eK;refine a8 c (aI c ?_);rw[cy];have hsz:=g _ hr;have hc:=B ks[i] hr (e _ hr) (by omega) (lo++a.sp.map (·.1)) (f++a.sp.map (·.2)) (P++a.pr) (by grind) (by grind);rw[show(lo++a.sp.map (·.1)).length=lo.length+a.sp.length by simp]at hc;generalize dn ks[i] (lo.length+a.sp.length)=x at*;have R:=l1.fl;have T:=l1.ll;have C:=d.fl;have D:=d.ll;refine aj hc (aj (nN (P++a.pr++x.pr) _ _ (la:=a.la) (fi:=x.fi) (λp hp=>by have:=l1.la p hp;omega) (λq A=>by have:=d.fi q A;omega) (by omega) (by omega) E) ?_);have j:∀b:Bool,a.em=b->∀z:Bool,x.em=z->((((i+1:Nat):Int),lo++a.sp.map (·.1)++x.sp.map (·.1),f++a.sp.map (·.2)++x.sp.map (·.2),j0 M (P++a.pr++x.pr++fW a.la x.fi),false,(bif b then cL a.fi++cL x.fi else cL a.fi),(bif z then cL a.la else [])++cL x.la,b&&z,()):Int×List Int×List Int×List (List Bool)×Bool×List Int×List Int×Bool×Unit)=(((i+1:Nat):Int),lo++(qf a x).sp.map (·.1),f++(qf a x).sp.map (·.2),j0 M (P++(qf a x).pr),false,cL (qf a x).fi,cL (qf a x).la,(qf a x).em,()):=λb y z h=>by simp only[qf,y,h,r_,q_];cases b<;>cases z<;>simp[Sk,cL]
   show Wp (λn=>c_ (bif a.em then _ else _) _) _;cases y:a.em
   ·refine ae (aa ?_);show Wp (λn=>c_ (bif !x.em then _ else _) _) _;cases h:x.em;·refine ae (aa (aj (kg [] (cL x.la) (by simp) (by rw[cb];omega)) (ae (aa (aa ?_)))));rw[ap c (by omega)];exact j false y false h
    ·refine ae (aa (aj (kg (cL a.la) (cL x.la) (by rw[cb];omega) (by rw[cb];omega)) (ae (aa (aa ?_)))));rw[ap c (by omega)];exact j false y true h
   ·refine ae (aj (kg (cL a.fi) (cL x.fi) (by rw[cb];omega) (by rw[cb];omega)) (aa ?_));show Wp (λn=>c_ (bif !x.em then _ else _) _) _;cases h:x.em;·refine ae (aa (aj (kg [] (cL x.la) (by simp) (by rw[cb];omega)) (ae (aa (aa ?_)))));rw[ap c (by omega)];exact j true y false h
    ·refine ae (aa (aj (kg (cL a.la) (cL x.la) (by rw[cb];omega) (by rw[cb];omega)) (ae (aa (aa ?_)))));rw[ap c (by omega)];exact j true y true h
  ·rintro s rfl;unfold eK;refine aR (aa (aa (aa ?_)));simp
 ·have u:dn (.mk 4 l up ks) lo.length=cC ks lo.length (Pl.g0 false):=by simp[dn]
  rw[u];show Wp (λn=>c_ (c_ (aL n (eL (qc tbl n) n (.mk 4 l up ks)) ((0:Int),lo,f,j0 M P,false,([]:List Int),([]:List Int),false,())) _) _) _;refine ae (ae (aX (N:=ks.length) (I:=λi s=>s=((i:Int),lo++(cC (ks.take i) lo.length (Pl.g0 false)).sp.map (·.1),f++(cC (ks.take i) lo.length (Pl.g0 false)).sp.map (·.2),j0 M (P++(cC (ks.take i) lo.length (Pl.g0 false)).pr),false,cL (cC (ks.take i) lo.length (Pl.g0 false)).fi,cL (cC (ks.take i) lo.length (Pl.g0 false)).la,(cC (ks.take i) lo.length (Pl.g0 false)).em,())) (by simp[cC,Pl.g0,cL]) ?_ ?_));·rintro i s c rfl;obtain⟨l1,l2⟩:=zfc e lo.length i;rw[Q4 c];have v:=Hy c;generalize cC (ks.take i) lo.length (Pl.g0 false)=a at*;have hr:=b_ c;obtain⟨H,J⟩:=jZ ks[i] (e _ hr) (lo.length+a.sp.length);have d:=nv ks[i] (lo.length+a.sp.length);unfold eL;refine a8 c (aI c ?_);rw[cy];have hsz:=g _ hr;have hc:=B ks[i] hr (e _ hr) (by omega) (lo++a.sp.map (·.1)) (f++a.sp.map (·.2)) (P++a.pr) (by grind) (by grind);rw[show(lo++a.sp.map (·.1)).length=lo.length+a.sp.length by simp]at hc;generalize dn ks[i] (lo.length+a.sp.length)=x at*;have R:=l1.fl;have T:=l1.ll;have C:=d.fl;have D:=d.ll;refine aj hc (aj (kg (cL a.fi) (cL x.fi) (by rw[cb];omega) (by rw[cb];omega)) (aj (kg (cL a.la) (cL x.la) (by rw[cb];omega) (by rw[cb];omega)) ?_));refine ae (bG (b:=x.em) (λ_=>aa rfl) (aa ?_));rw[ap c (by omega)];simp only[BI,r_,Sk,q_]
  ·rintro s rfl;unfold eL;refine aR (aa (aa (aa ?_)));simp
 ·obtain⟨x,rfl⟩:=re (hn.one (by simp));have hr:x∈[x]:=j_.2 rfl;have hsz:=g _ hr;have v:cnt x<=M - lo.length:=by simp only[cM]at hcs;omega
  have hc:=B x hr (e _ hr) (by omega) lo f P w (by omega);have d:=nv x lo.length;obtain⟨H,J⟩:=jZ x (e _ hr) lo.length;have Q:cC [x] lo.length (Pl.g0 false)=dn x lo.length:=rfl;have C:=d.fl;have D:=d.ll;refine ae (aj hc (ae (aj (nN (P++(dn x lo.length).pr) _ _ (la:=(dn x lo.length).la) (fi:=(dn x lo.length).fi) (λp hp=>by have:=d.la p hp;omega) (λq A=>by have:=d.fi q A;omega) (by omega) (by omega) E) (aa ?_))));refine ae (bG (b:=(5:Int) != 6) (λ_=>aa rfl) (aa (aa ?_)));have u:dn (.mk 5 l up [x]) lo.length=if(5:Int)=5 then emG (wB (dn x lo.length))else wB (dn x lo.length):=rfl;rw[u];simp[emG,wB]
 ·obtain⟨x,rfl⟩:=re (hn.one (by simp));have hr:x∈[x]:=j_.2 rfl;have hsz:=g _ hr;have v:cnt x<=M - lo.length:=by simp only[cM]at hcs;omega
  have hc:=B x hr (e _ hr) (by omega) lo f P w (by omega);have d:=nv x lo.length;obtain⟨H,J⟩:=jZ x (e _ hr) lo.length;have Q:cC [x] lo.length (Pl.g0 false)=dn x lo.length:=rfl;have C:=d.fl;have D:=d.ll;refine ae (aj hc (ae (aj (nN (P++(dn x lo.length).pr) _ _ (la:=(dn x lo.length).la) (fi:=(dn x lo.length).fi) (λp hp=>by have:=d.la p hp;omega) (λq A=>by have:=d.fi q A;omega) (by omega) (by omega) E) (aa ?_))));refine ae (bG (b:=(6:Int) != 6) (λ_=>aa rfl) (aa (aa ?_)));have u:dn (.mk 6 l up [x]) lo.length=if(6:Int)=5 then emG (wB (dn x lo.length))else wB (dn x lo.length):=rfl;rw[u];simp[emG,wB]
 ·obtain⟨x,rfl⟩:=re (hn.one (by simp));have hr:x∈[x]:=j_.2 rfl;have hsz:=g _ hr;have hc:=B x hr (e _ hr) (by omega) lo f P w (by simp only[cM]at hcs;omega);refine ae (aj hc (ae (aa ?_)));refine ae (bG (b:=true) (λ_=>aa rfl) (aa (aa ?_)));have u:dn (.mk 7 l up [x]) lo.length=emG (dn x lo.length):=rfl;rw[u];simp[emG]
section
variable {α β:Type}
theorem RL{xs:List α}{i:Nat}{f:Nat->α->Option β}{Q:β->Prop}(h:i<xs.length)(a:Wp (λn=>f n xs[i]) Q):Wp (λn=>c_ (aU xs (i:Int)) λ_=>c_ xs[p_ (i:Int)]? (f n)) Q:=by refine aI h ?_;grind
theorem AU{M i:Nat}{g:Nat->Bool}{f:Nat->Bool->Option β}{Q:β->Prop}(h:i<M)(a:Wp (λn=>f n (g i)) Q):Wp (λn=>c_ (aU (cr M g) (i:Int)) λ_=>c_ (cr M g)[p_ (i:Int)]? (f n)) Q:=by refine RL (by rw[rD];omega) ?_;rw[zer];omega
end
theorem YR{M:Nat}(k:M<=1000000):Wp (λn=>aL n (oV (qc tbl n) n ((M:Int),())) ((0:Int),h_ (p_ (M:Int)) ([]:List Bool),())) λt=>t=(j0 M [],()):=by
 have l:j0 M []=h_ M (h_ M false):=by refine A_ (by simp[j0]) λi e f=>?_;rw[Ig,List.getElem_replicate];refine A_ (by simp) λj g h=>by simp
 refine aX (N:=M) (I:=λi s=>s=((i:Int),(h_ M (h_ M false)).take i++h_ (M - i) [],())) (by simp) ?_ ?_
 ·rintro i s c rfl;have b:((h_ M (h_ M false)).take i++h_ (M - i) ([]:List Bool)).length=M:=by grind
  have a:i<((h_ M (h_ M false)).take i++h_ (M - i) ([]:List Bool)).length:=by omega
  unfold oV;show Wp (λn=>bif decide ((i:Int)<((h_ (p_ (M:Int)) ([]:List Bool)).length:Int))then _ else _) _;rw[ac_,e_];refine a8 c ?_;show Wp (λn=>aH _ _) _;refine aE (by grind) ?_;refine aI a (aE (decide_eq_true (by simp)) ?_);rw[e_];refine fI (a_ a) (fI (a_ a) (aE (T_ _) (fI (a_ a) (aa ?_))));rw[ap c (by omega),b,e_];congr 2;refine List.ext_getElem? λj=>?_;rw[List.getElem?_set];by_cases d:i=j;·subst d;rw[if_pos rfl,if_pos a,List.getElem?_append_left (by grind),List.take_replicate,List.getElem?_replicate,if_pos (by omega)];rfl
  grind
 ·rintro s rfl;unfold oV;show Wp (λn=>bif decide ((M:Int)<((h_ (p_ (M:Int)) ([]:List Bool)).length:Int))then _ else _) _;rw[ac_,e_];refine aR (aa ?_);grind
theorem S0{M:Nat}(d:M<=1000000)(fi la:List Nat)(em:Bool)(lo up:List Int)(F:List (List Bool))(b:∀p∈fi,p<M)(hl:fi.length<=1000000): Wp (λn=>aL n (oW (qc tbl n) n ((cL fi,cL la,em,()),lo,up,F,())) ((0:Int),lo,up,F,cL fi,cL la,em,cr M (λ_=>false),())) λt=>t=(lo,up,F,cL fi,cL la,em,cr M (λp=>decide (p∈fi)),()):=by
 refine aX (N:=(cL fi).length) (I:=λi s=>s=((i:Int),lo,up,F,cL fi,cL la,em,cr M (λp=>decide (p∈fi.take i)),())) (by simp) ?_ ?_
 ·rintro i s a rfl;have c:i<fi.length:=by rw[cb]at a;omega
  have hp:=b _ (b_ c);unfold oW;refine a8 a (aI a ?_);rw[Jc c];refine AU hp (aa ?_);rw[ap a (by rw[cb];omega),e_,IP];have e:(cr M λj=>if j=fi[i]then true else decide (j∈fi.take i))=cr M λp=>decide (p∈fi.take (i+1)):=wU λj _=>by
   have f:∀x,x∈fi.take (i+1)↔x∈fi.take i\/x=fi[i]:=λx=>by rw[g_,a_ c,n_,t_,j_]
   grind
  rw[e]
 ·rintro s rfl;unfold oW;refine aR (aa ?_);rw[cb,f_]
theorem YD{M:Nat}(l:M<=1000000){i:Nat}(h:i<M)(P:List (Nat×Nat))(lo up fi la:List Int)(em:Bool)(d f a fn:Nat->Bool): Wp (λn=>aL n (oX (qc tbl n) n ((i:Int),j0 M P,lo,up,fi,la,em,cr M d,cr M f,cr M fn,())) ((0:Int),j0 M P,lo,up,fi,la,em,cr M d,cr M a,cr M fn,())) λt=>t=(j0 M P,lo,up,fi,la,em,cr M d,cr M a,cr M (λq=>fn q||(a i&&decide ((i,q)∈P))),()):=by
 refine aX (N:=(cr M fn).length) (I:=λk s=>s=((k:Int),j0 M P,lo,up,fi,la,em,cr M d,cr M a,cr M (λq=>if q<k then fn q||(a i&&decide ((i,q)∈P))else fn q),())) (by simp) ?_ ?_
 ·rintro k s c rfl;have g:k<M:=by rw[rD]at c;omega
  unfold oX;refine a8 c (AU g ?_);rw[if_neg (Nat.lt_irrefl k)];refine ae (bG (b:=a i&&decide ((i,k)∈P)) (λ_=>?_) ?_);·refine AU h (ae (bz (b:=decide ((i,k)∈P)) (λ_=>?_) (aa rfl)));refine aI (xs:=j0 M P) (by rw[MW];omega) ?_;rw[Ig];refine aI (by grind) (aa ?_);simp
  ·refine AU g (aa ?_);rw[ap c (by rw[rD];omega),e_,IP];grind
 ·rintro s rfl;unfold oX;refine aR (aa ?_);rw[rD];have e:(cr M λq=>if q<M then fn q||(a i&&decide ((i,q)∈P))else fn q)=cr M λq=>fn q||(a i&&decide ((i,q)∈P)):=wU λj p=>by grind
  rw[e]
theorem Z4{M:Nat}(l:M<=1000000)(g:G)(w:g.sp.length=M)(u:∀p q,(p,q)∈g.pr->p<M)(Pp:Int)(fi la:List Int)(em:Bool)(a c:Nat->Bool)(v:Int): Wp (λn=>aL n (oY (qc tbl n) n (Pp,j0 M g.pr,g.sp.map (·.1),g.sp.map (·.2),fi,la,em,cr M a,cr M c,()) v) ((0:Int),j0 M g.pr,g.sp.map (·.1),g.sp.map (·.2),fi,la,em,cr M a,cr M c,cr M (λ_=>false),())) λt=>t=(j0 M g.pr,g.sp.map (·.1),g.sp.map (·.2),fi,la,em,cr M (KL g a v),cr M (nxF g (KL g a v)),()):=by
 refine aX (N:=(cr M c).length) (I:=λi s=>s=((i:Int),j0 M g.pr,g.sp.map (·.1),g.sp.map (·.2),fi,la,em,cr M a,cr M (λj=>if j<i then KL g a v j else c j),cr M (λq=>(s_ i).any λj=>KL g a v j&&decide ((j,q)∈g.pr)),())) (by simp) ?_ ?_
 ·rintro i s d rfl;have f:i<M:=by rw[rD]at d;omega
  have e:i<g.sp.length:=by omega
  have x:S4 g v i=(decide (g.sp[i].1<=v)&&decide (v<=g.sp[i].2)):=by unfold S4;grind
  unfold oY;refine a8 d (AU f ?_);refine ae (bz (b:=decide (g.sp[i].1<=v)) (λ_=>?_) ?_);·refine RL (xs:=g.sp.map (·.1)) (by simpa using e) ?_;refine aa ?_;simp
  refine ae (bz (b:=decide (v<=g.sp[i].2)) (λ_=>?_) ?_);·refine RL (xs:=g.sp.map (·.2)) (by simpa using e) ?_;refine aa ?_;simp
  refine AU f ?_;have r:((a i&&decide (g.sp[i].1<=v))&&decide (v<=g.sp[i].2))=KL g a v i:=by unfold KL;grind
  rw[r,e_];have h:(cr M λj=>if j<i then KL g a v j else c j).set i (KL g a v i)=cr M λj=>if j<i+1 then KL g a v j else c j:=by rw[IP];grind
  rw[h];refine ae (Ev.wp_mono (YD l f g.pr _ _ fi la em a _ _ _) ?_);rintro t rfl;refine aa ?_;rw[ap d (by rw[rD];omega)];have k:(cr M λq=>((s_ i).any λj=>KL g a v j&&decide ((j,q)∈g.pr))||((if i<i+1 then KL g a v i else c i)&&decide ((i,q)∈g.pr)))=cr M λq=>(s_ (i+1)).any λj=>KL g a v j&&decide ((j,q)∈g.pr):=wU λq _=>by grind
  grind
 ·rintro s rfl;unfold oY;refine aR (aa ?_);rw[rD];have h:(cr M λj=>if j<M then KL g a v j else c j)=cr M (KL g a v):=wU λj y=>by grind
  have k:(cr M λq=>(s_ M).any λj=>KL g a v j&&decide ((j,q)∈g.pr))=cr M (nxF g (KL g a v)):=wU λq _=>by refine Bool.eq_iff_iff.2 ?_;rw[nxF_iff,X_];grind
  grind
theorem Ww{a:List Int}{i:Nat}(h:i<a.length):mP (a.take (i+1))=(mP (a.take i)&&(decide (0<=a[i])&&decide (a[i]<=4294967295))):=by unfold mP;rw[g_,a_ h,List.all_append];simp
theorem Wx{a:List Int}{i:Nat}(h:mP (a.take i)=false):mP a=false:=by
 cases e:mP a;·rfl
 ·have:mP (a.take i)=true:=by unfold mP at e⊢;grind
  grind
theorem YI{M:Nat}(l:M<=1000000)(g:G)(f:g.sp.length=M)(d:∀p q,(p,q)∈g.pr->p<M)(fi la:List Int)(em:Bool)(a:List Int)(hp:a.length<=1000000): Wp (λn=>aL n (oZ (qc tbl n) n a) ((0:Int),j0 M g.pr,g.sp.map (·.1),g.sp.map (·.2),fi,la,em,cr M (qe g []).1,cr M (qe g []).2,())) λt=>match t with | .inl e=>e=(false,())/\mP a=false | .inr t=>mP a=true/\t=(fi,la,em,cr M (qe g a).2,()):=by
 refine aX (N:=a.length) (I:=λi s=>mP (a.take i)=true/\s=((i:Int),j0 M g.pr,g.sp.map (·.1),g.sp.map (·.2),fi,la,em,cr M (qe g (a.take i)).1,cr M (qe g (a.take i)).2,())) ⟨rfl,by simp⟩ ?_ ?_
 ·rintro i s c ⟨hr,rfl⟩;have j:=Ww c;rw[hr,y_]at j;unfold oZ;refine a8 c (aI c ?_);refine ae (bG (b:=decide (a[i]>4294967295)) (λ_=>aa rfl) ?_);refine au (λh=>aa ⟨rfl,?_⟩) λh=>?_;·refine Wx (i:=i+1) ?_;grind
  ·have h:(decide (a[i]<0)||decide (a[i]>4294967295))=false:=h;simp only[u_,decide_eq_false_iff_not]at h;have hl:(cr M (qe g (a.take i)).1).length=M:=rD _ _;refine aE ?_ ?_;·grind
   have k:=Z4 l g f d (i:Int) fi la em (qe g (a.take i)).1 (qe g (a.take i)).2 a[i];have r:h_ (p_ ((cr M (qe g (a.take i)).1).length:Int)) (Ty.zero tB)=cr M λ_=>false:=by rw[hl,e_];exact NK M
   rw[<-r]at k;refine ae (Ev.wp_mono k ?_);rintro t rfl;refine aa ⟨?_,?_⟩;·grind
   ·rw[ap c (by omega),JM c];rfl
 ·rintro s ⟨hr,rfl⟩;unfold oZ;rw[f_]at hr;refine aR (aa ⟨hr,?_⟩);simp
theorem Oh(r:Rx)(hs:sz r<=100000)(a:List Int)(hp:a.length<=1000000): aC tbl sD [.d .rx r,.d (.list tI) a] [] eT (dm r&&(mP a&&uC (dn r 0) a),()):=by
 refine aw rfl (aA P8 rfl (λO m=>QI O m r a) ?_);unfold FH;refine aj (R6 r (by omega)) (au (λh=>aa ?_) λh=>?_);·grind
 have y:dm r=true:=by grind
 rw[y,y_];have J:cnt r<=100000:=x_ (XQ r) hs;obtain⟨w,_⟩:=jZ r y 0;have b:=nv r 0;refine aj (Ol r (by omega)) (aE ?_ (ae (Ev.wp_mono (YR (M:=cnt r) (by omega)) ?_)));·grind
 rintro t rfl;have f:=Ed (M:=cnt r) (by omega) r y (by omega) [] [] [] rfl (by simp);simp only[E_,R_]at f;generalize hg:dn r 0=g at*;have hl:(j0 (cnt r) g.pr).length=cnt r:=MW _ _;have H:h_ (p_ ((j0 (cnt r) g.pr).length:Int)) (Ty.zero tB)=cr (cnt r) λ_=>false:=by rw[hl,e_];exact NK _
 refine aj f (aE ?_ ?_);·grind
 have A:=S0 (M:=cnt r) (by omega) g.fi g.la g.em (g.sp.map (·.1)) (g.sp.map (·.2)) (j0 (cnt r) g.pr) (λp hp=>by have:=b.fi p hp;omega) (by have:=b.fl;omega);rw[<-H]at A;refine ae (Ev.wp_mono A ?_);rintro t rfl;have C:(cr (cnt r) λp=>decide (p∈g.fi)).length=cnt r:=rD _ _;have z:h_ (p_ ((cr (cnt r) λp=>decide (p∈g.fi)).length:Int)) (Ty.zero tB)=cr (cnt r) λ_=>false:=by grind
 refine aE ?_ ?_;·grind
 have B:=YI (M:=cnt r) (by omega) g w (λp q h=>by have:=(b.pr p q h).1;omega) (cL g.fi) (cL g.la) g.em a hp;have x:(cr (cnt r) (qe g []).2)=h_ (p_ ((cr (cnt r) λp=>decide (p∈g.fi)).length:Int)) (Ty.zero tB):=z.symm;rw[x]at B;refine ae (Ev.wp_mono B ?_);rintro(e|t) k;·obtain⟨rfl,hr⟩:=k;refine aa ?_;grind
 obtain⟨hr,rfl⟩:=k;rw[hr,y_];refine au (λh=>aa ?_) λh=>?_
 ·have:a=[]:=O_ (by grind)
  subst this;rfl
 ·have F:a.isEmpty=false:=by grind
  have v:uC g a=g.la.any (qe g a).2:=by unfold uC;grind
  rw[v];have d:Wp (λn=>aL n (o7 (qc tbl n) n (cL g.fi,cL g.la,g.em,cr (cnt r) (qe g a).2,())) ((0:Int),cr (cnt r) (qe g a).2,())) λt=>match t with
   | .inl e=>e=(true,())/\g.la.any (qe g a).2=true
   | .inr _=>g.la.any (qe g a).2=false:=by
   refine aX (N:=(cL g.la).length) (I:=λi s=>s=((i:Int),cr (cnt r) (qe g a).2,())/\(g.la.take i).any (qe g a).2=false) ⟨rfl,rfl⟩ ?_ ?_
   ·rintro i s c ⟨rfl,j⟩;have l:i<g.la.length:=by rw[cb]at c;omega
    have E:=b_ l;have u:g.la[i]<cnt r:=by have:=b.la _ E;omega
    have D:=b.ll;unfold o7;refine a8 c (aI c ?_);rw[Jc l];refine AU u (au (λh=>aa ⟨rfl,?_⟩) λh=>aa ⟨?_,?_⟩);·grind
    ·rw[ap c (by rw[cb];omega)]
    ·rw[g_,a_ l,am_,j];grind
   ·rintro s ⟨rfl,j⟩;unfold o7;refine aR (aa ?_);rw[cb,f_]at j;omega
  refine ae (Ev.wp_mono d ?_);rintro(e|t) k;·obtain⟨rfl,j⟩:=k;refine aa ?_;grind
  ·refine aa ?_;grind
structure CurR(M:Nat)(C:List Int)(can:Nat->Bool):Prop where
 bd:∀x∈C,0<=x/\x<(M:Int)
 mem:∀q:Nat,(q:Int)∈C↔can q=true
 len:C.length<=10000000000
theorem getD_lt{F:List (List Int)}{i:Nat}(h:i<F.length):F.getD i []=F[i]:=by rw[List.getD_eq_getElem?_getD,a_ h];rfl
def xZ(F:List (List Int))(H:List Int):List Int:=H.flatMap λx=>F.getD x.toNat []
theorem JC{n:Nat}{F:List (List Int)}{P:List (Nat×Nat)}(a:FolR n F P):∀(H:List Int),(xZ F H).length<=H.length*n
 |[]=>by simp[xZ]
 |x::H=>by
  have b:(F.getD x.toNat []).length<=n:=by
   by_cases h:x.toNat<F.length;·rw[getD_lt h];exact a.len1 h
   grind
  have:=JC a H;rw[show xZ F (x::H)=F.getD x.toNat []++xZ F H from rfl,o_,List.length_cons,Nat.add_mul,Nat.one_mul];omega
theorem MZ{n:Nat}{H:List Int}(hd:H.Nodup)(a:∀x∈H,0<=x/\x<(n:Int)):H.length<=n:=by
 have:=JD H ((s_ n).map fun(k:Nat)=>(k:Int)) hd λx b=>by have:=a x b;exact H_.2 ⟨x.toNat,ae_.2 (by omega),by omega⟩
 grind
theorem Yy{M:Nat}(J:M<=100000)(g:G)(el:g.sp.length=M){F:List (List Int)}(f:FolR M F g.pr)(U:∀p q,(p,q)∈g.pr->p<M/\q<M){C:List Int}{can:Nat->Bool}(L:CurR M C can)(Pp:Int)(R:List Int)(v:Int): Wp (λn=>aL n (oR (qc tbl n) n (C,Pp,F,D3 g.sp,R,()) v) ((0:Int),F,D3 g.sp,[],cr M (λ_=>false),[],())) λt=>∃H,t=(F,D3 g.sp,H,xZ F H,())/\CurR M H (KL g can v)/\CurR M (xZ F H) (nxF g (KL g can v)):=by
 have O:=L.len;refine aX (N:=C.length) (I:=λk s=>∃H:List Int,s=((k:Int),F,D3 g.sp,H,cr M (λp=>decide ((p:Int)∈H)),xZ F H,())/\H.Nodup/\(∀x∈H,0<=x/\x<(M:Int))/\∀p:Nat,(p:Int)∈H↔(p:Int)∈C.take k/\S4 g v p=true) ⟨[],by simp[xZ],by simp,by simp,by simp⟩ ?_ ?_
 ·rintro k s w ⟨H,rfl,hd,A,B⟩;have hx:=L.bd _ (b_ w);obtain⟨p,hp⟩:∃p:Nat,C[k]=(p:Int):=⟨C[k].toNat,by omega⟩;have D:p<M:=by omega
  have Y:p<g.sp.length:=by omega
  have E:∀x,x∈C.take (k+1)↔x∈C.take k\/x=(p:Int):=λx=>by rw[g_,a_ w,n_,t_,j_,hp]
  have hh:S4 g v p=(decide (g.sp[p].1<=v)&&decide (v<=g.sp[p].2)):=by unfold S4;grind
  have l:=MZ hd A;have P:=JC f H;have z:H.length*M<=10000000000:=x_ (af_ (x_ l J) J) (by simp);unfold oR;refine a8 w ?_;refine ae (aI w ?_);rw[hp];refine AU D ?_;refine ae (bG (b:=decide (v<g.sp[p].1)) (λ_=>?_) ?_);·refine RL (xs:=D3 g.sp) (by rw[IA];omega) ?_;refine aa ?_;simp[D3]
  refine ae (bG (b:=decide (v>g.sp[p].2)) (λ_=>?_) ?_);·refine RL (xs:=D3 g.sp) (by rw[IA];omega) ?_;refine aa ?_;simp[D3]
  refine au (λh=>?_) λh=>?_
  ·refine aa (aa ⟨H,by rw[ap w (by omega)],hd,A,λq=>?_⟩);have h:((decide ((p:Int)∈H)||decide (v<g.sp[p].1))||decide (v>g.sp[p].2))=true:=h;simp only[Bool.or_eq_true,decide_eq_true_eq]at h;rw[B q,E];constructor;·grind
   ·rintro⟨d,c⟩;refine⟨d.elim id λe=>?_,c⟩;obtain rfl:q=p:=by omega
    grind
  ·have h:((decide ((p:Int)∈H)||decide (v<g.sp[p].1))||decide (v>g.sp[p].2))=false:=h;simp only[u_,decide_eq_false_iff_not]at h;obtain⟨⟨d,c⟩,h3⟩:=h;have u:p<F.length:=by rw[f.len];omega
   have T:=f.len1 u;have Q:xZ F (H++[(p:Int)])=xZ F H++F[p]:=by unfold xZ;rw[ah_,W_,Y_,Q_,e_,getD_lt u]
   refine AU D (aE (decide_eq_true ?_) (aI u (aE (decide_eq_true ?_) (aa (aa ⟨H++[(p:Int)],?_,?_,?_,?_⟩)))));·grind
   ·grind
   ·rw[ap w (by omega),Q,e_,IP];grind
   ·grind
   ·grind
   ·intro q;rw[n_,B q,E,j_];constructor
    ·rintro(⟨a,b⟩|a);·grind
     ·refine⟨.inr a,?_⟩;obtain rfl:q=p:=by omega
      grind
    grind
 ·rintro s ⟨H,rfl,hd,A,B⟩;have l:=MZ hd A;have P:=JC f H;have z:H.length*M<=10000000000:=x_ (af_ (x_ l J) J) (by simp);rw[f_]at B;have r:∀q:Nat,(q:Int)∈H↔KL g can v q=true:=λq=>by rw[B q,L.mem q];unfold KL;simp
  have j:∀y,y∈xZ F H↔∃p:Nat,(p:Int)∈H/\∃h:p<F.length,y∈F[p]:=by
   intro y;unfold xZ;rw[List.mem_flatMap];constructor;·grind
   ·rintro⟨p,d,hp,c⟩;exact⟨p,d,by rw[e_,getD_lt hp];omega⟩
  unfold oR;refine aR (aa ⟨H,rfl,⟨A,r,by omega⟩,⟨λy hy=>?_,λq=>?_,by omega⟩⟩);·obtain⟨p,_,hp,c⟩:=(j y).1 hy;exact f.bd _ (b_ hp) y c
  ·rw[j,nxF_iff];constructor;·rintro⟨p,d,hp,c⟩;exact⟨p,(r p).1 d,(f.mem p hp q).1 c⟩
   ·rintro⟨p,d,c⟩;have hp:p<F.length:=by rw[f.len];grind
    exact⟨p,(r p).2 d,hp,(f.mem p hp q).2 c⟩
theorem Tl{M:Nat}(x:M<=100000)(g:G)(j:g.sp.length=M){F:List (List Int)}(w:FolR M F g.pr)(f:∀p q,(p,q)∈g.pr->p<M/\q<M){c:List Int}(d:CurR M c (qe g []).1)(a:List Int)(hp:a.length<=1000000): Wp (λn=>aL n (oS (qc tbl n) n a) (c,(0:Int),F,D3 g.sp,[],())) λt=>∃H,t=(H,())/\CurR M H (qe g a).2:=by
 refine aX (N:=a.length) (I:=λi s=>∃C H:List Int,s=(C,(i:Int),F,D3 g.sp,H,())/\CurR M C (qe g (a.take i)).1/\CurR M H (qe g (a.take i)).2) ⟨c,[],rfl,d,⟨by simp,λq=>⟨λh=>by grind,λh=>by cases h⟩,by simp⟩⟩ ?_ ?_
 ·rintro i s b ⟨C,H,rfl,r,e⟩;have hl:(D3 g.sp).length=M:=by rw[IA];omega
  have y:h_ (p_ ((D3 g.sp).length:Int)) (Ty.zero tB)=cr M λ_=>false:=by rw[hl,e_];exact NK M
  unfold oS;refine a8 b (aI b (aE ?_ ?_));·grind
  have l:=Yy x g j w f r (i:Int) H a[i];rw[<-y]at l;refine ae (Ev.wp_mono l ?_);rintro t ⟨k,rfl,u,v⟩;refine aa ⟨xZ F k,k,?_,?_,?_⟩;·rw[ap b (by omega)]
  ·rw[JM b];exact v
  ·rw[JM b];exact u
 ·rintro s ⟨C,H,rfl,r,e⟩;unfold oS;rw[f_]at e;exact aR (aa ⟨H,rfl,e⟩)
theorem Ta(a:(List Int)×(List Int)×(List (Int×(Int×Unit)))×(List (List Int))×Unit)(r:a.2.1.length<=1000000)(H:List Int)(p:H.length<=10000000000): Wp (λn=>aL n (oU (qc tbl n) n a (H,())) ((0:Int),H,())) λt=>match t with | .inl e=>e=(true,())/\∃x∈H,x∈a.2.1 | .inr _=>∀x∈H,x∉a.2.1:=by
 refine aX (N:=H.length) (I:=λi s=>s=((i:Int),H,())/\∀x∈H.take i,x∉a.2.1) ⟨rfl,by simp⟩ ?_ ?_
 ·rintro i s b ⟨rfl,f⟩;unfold oU;refine a8 b ?_;refine RL (xs:=H) b ?_;have k:Wp (λn=>aL n (oT (qc tbl n) n a H[i]) ((0:Int),H,())) λt=>match t with
   | .inl e=>e=(true,())/\H[i]∈a.2.1
   | .inr t=>t=(H,())/\H[i]∉a.2.1:=by
   refine aX (N:=a.2.1.length) (I:=λj s=>s=((j:Int),H,())/\H[i]∉a.2.1.take j) ⟨rfl,by simp⟩ ?_ ?_
   ·rintro j s c ⟨rfl,hn⟩;unfold oT;refine a8 c (aI c (au (λh=>aa ⟨rfl,?_⟩) λh=>aa ⟨?_,λd=>?_⟩));·grind
    ·rw[ap c (by omega)]
    ·have h:H[i]≠a.2.1[j]:=by grind
     rw[g_,a_ c,n_,t_,j_]at d;grind
   ·rintro s ⟨rfl,hn⟩;unfold oT;rw[f_]at hn;exact aR (aa ⟨rfl,hn⟩)
  refine ae (Ev.wp_mono k ?_);rintro(e|t) g;·obtain⟨rfl,d⟩:=g;exact aa ⟨rfl,_,b_ b,d⟩
  ·obtain⟨rfl,d⟩:=g;refine aa ⟨by rw[ap b (by omega)],λx l=>?_⟩;rw[g_,a_ b,n_,t_,j_]at l;grind
 ·rintro s ⟨rfl,f⟩;unfold oU;rw[f_]at f;exact aR (aa f)
theorem N7(r:Rx)(hs:sz r<=100000)(a:List Int)(hp:a.length<=1000000): aC tbl su [.d .rx r,.d (.list tI) a] [] gL (dm r&&uC (dn r 0) a,()):=by
 refine aw rfl (aA PP rfl (λO m=>Qr O m r a) ?_);unfold Fp;refine aj (F8 r (by omega)) (au (λh=>aa ?_) λh=>?_);·grind
 have w:dm r=true:=by grind
 rw[w,y_];have A:cnt r<=100000:=x_ (XQ r) hs;obtain⟨d,u⟩:=jZ r w 0;have b:=nv r 0;refine au (λh=>?_) λh=>?_
 ·have:a=[]:=O_ (by grind)
  subst this;refine aj (yU r (by omega)) (aa ?_);rw[<-u];rfl
 have D:a.isEmpty=false:=by grind
 have v:uC (dn r 0) a=(dn r 0).la.any (qe (dn r 0) a).2:=by unfold uC;grind
 rw[v];obtain⟨F,n,f⟩:=RR r w (by omega) [] [] [] ⟨rfl,by simp,by simp,λp h=>absurd h (by simp)⟩ (by simp) (by grind);simp only[E_,R_,Nat.zero_add]at f n;generalize hg:dn r 0=g at*;rw[d]at n;have B:=b.fl;have C:=b.ll;refine aj f ?_;have l:CurR (cnt r) (cL g.fi) (qe g []).1:=⟨λx j=>by
  obtain⟨p,c,rfl⟩:=H_.1 j;have:=b.fi p c;omega,λq=>by
  show(q:Int)∈cL g.fi↔decide (q∈g.fi)=true;rw[decide_eq_true_eq];constructor;·intro j;obtain⟨p,c,k⟩:=H_.1 j;grind
  ·exact λj=>H_.2 ⟨q,j,rfl⟩,by rw[cb];omega⟩
 refine ae (Ev.wp_mono (Tl A g d n (λp q h=>by have:=b.pr p q h;omega) l a hp) ?_);rintro t ⟨H,rfl,s⟩;refine ae (Ev.wp_mono (Ta (cL g.fi,cL g.la,D3 g.sp,F,()) (by rw[cb];omega) H s.len) ?_);rintro(e|t) y;·obtain⟨rfl,x,c,k⟩:=y;obtain⟨p,z,rfl⟩:=H_.1 (show x∈cL g.la from k);refine aa ?_;rw[X_.2 ⟨p,z,(s.mem p).1 c⟩]
 ·refine aa ?_;have:g.la.any (qe g a).2=false:=by rw[ai_];intro p c k;exact y (p:Int) ((s.mem p).2 k) (H_.2 ⟨p,c,rfl⟩)
  grind
theorem zD{α β:Type}{m:Option α}{a:α}{f:Nat->α->Option β}{Q:β->Prop}(h:m=some a)(k:Wp (λn=>f n a) Q):Wp (λn=>c_ m (f n)) Q:=by grind
open Classical in
noncomputable def ig(s:List UInt8):Int:=if ∃r,mF r=0/\jM r=s then 0 else 2
theorem zaR{s:List UInt8}{c:Rx×Int×Unit}(h:ParsedX s c):c.2.1=ig s:=by
 unfold ig;rcases h with⟨r,a,b,rfl⟩|⟨a,rfl⟩;·rw[if_pos ⟨r,a,b⟩]
 grind
theorem Bg(s:List UInt8)(hs:s.length<=9223372036854775807):aC tbl kS [.d tS s] [] fG (mh s,()):=by
 refine aw rfl (aA Lb rfl (λO n=>Lo O n s) ?_);unfold Bp;refine ae (vL (xs:=s) (P:=λc=>AD c=true) (e:=(false,())) (g:=()) (λi a=>?_) ?_ (λh=>?_) λh=>?_);·unfold qw;refine a8 a (aI a ?_);refine ae (bz (b:=decide ((s[i].toNat:Int)<=122)) (λ_=>aa rfl) ?_);refine ae (bG (b:=decide ((s[i].toNat:Int)>=65)&&decide ((s[i].toNat:Int)<=90)) (λ_=>ae (bz (b:=decide ((s[i].toNat:Int)<=90)) (λ_=>aa rfl) (aa rfl))) ?_);refine ae (bG (b:=decide ((s[i].toNat:Int)>=48)&&decide ((s[i].toNat:Int)<=57)) (λ_=>ae (bz (b:=decide ((s[i].toNat:Int)<=57)) (λ_=>aa rfl) (aa rfl))) ?_);refine ae (bG (b:=((s[i].toNat:Int)==45)) (λ_=>aa rfl) (nG ?_ (by rw[ap a hs])));show(!AD s[i])=true↔_;cases AD s[i]<;>simp
 ·unfold qw;exact aR (aa rfl)
 ·refine ae (bz (b:=decide ((s.length:Int)<=32)) (λ_=>aa rfl) (aa ?_));have e:mh s=(decide ((s.length:Int)>=1)&&decide ((s.length:Int)<=32)):=by unfold mh;rw[M_.2 h,y_];congr 1<;>exact decide_eq_decide.2 (by omega)
  rw[e]
 ·refine aa ?_;have e:mh s=false:=by
   unfold mh;cases e:s.all AD;·rfl
   ·exact absurd (M_.1 e) h
  rw[e]
theorem G1(s:List UInt8)(hs:s.length<=9223372036854775807):aC tbl qG [.d tS s] [] kM (mh s,()):=by
 refine aw rfl (aA TO rfl (λO n=>T7 O n s) ?_);unfold G8;refine ae (vL (xs:=s) (P:=λc=>AD c=true) (e:=(false,())) (g:=()) (λi a=>?_) ?_ (λh=>?_) λh=>?_);·unfold vZ;refine a8 a (aI a ?_);refine ae (bz (b:=decide ((s[i].toNat:Int)<=122)) (λ_=>aa rfl) ?_);refine ae (bG (b:=decide ((s[i].toNat:Int)>=65)&&decide ((s[i].toNat:Int)<=90)) (λ_=>ae (bz (b:=decide ((s[i].toNat:Int)<=90)) (λ_=>aa rfl) (aa rfl))) ?_);refine ae (bG (b:=decide ((s[i].toNat:Int)>=48)&&decide ((s[i].toNat:Int)<=57)) (λ_=>ae (bz (b:=decide ((s[i].toNat:Int)<=57)) (λ_=>aa rfl) (aa rfl))) ?_);refine ae (bG (b:=((s[i].toNat:Int)==45)) (λ_=>aa rfl) (nG ?_ (by rw[ap a hs])));show(!AD s[i])=true↔_;cases AD s[i]<;>simp
 ·unfold vZ;exact aR (aa rfl)
 ·refine ae (bz (b:=decide ((s.length:Int)<=32)) (λ_=>aa rfl) (aa ?_));have e:mh s=(decide ((s.length:Int)>=1)&&decide ((s.length:Int)<=32)):=by unfold mh;rw[M_.2 h,y_];congr 1<;>exact decide_eq_decide.2 (by omega)
  rw[e]
 ·refine aa ?_;have e:mh s=false:=by
   unfold mh;cases e:s.all AD;·rfl
   ·exact absurd (M_.1 e) h
  rw[e]
theorem qi(l:List (List UInt8))(i:Nat)(f:i<l.length)(hl:l.length<=9223372036854775807)(hs:l[i].length<=9223372036854775807): aC tbl gX [.d (.list tS) ((l.take (p_ (i:Int))).drop 0),.d tS l[i]] [] de (tR l i,()):=by
 refine aw rfl (aA Nx rfl (λO n=>NQ O n _ _) ?_);unfold Ci;rw[List.drop_zero,e_];have d:tR l i=if mh l[i]=false then 1 else if 0<i/\AG l[i] (l.getD (i - 1) [])=true then 16 else 0:=by unfold tR;grind
 have a:(l.take i).length=i:=by grind
 refine aj (Bg l[i] hs) (au (λh=>aa ?_) λh=>?_);·grind
 have hn:¬mh l[i]=false:=by grind
 refine ae (bz (b:=AG l[i] (l.getD (i - 1) [])) (λc=>?_) (au (λh=>aa ?_) λh=>aa ?_))
 ·have c:=of_decide_eq_true c;rw[a]at c⊢;have e:d_ .i64 ((i:Int) - 1)=((i - 1:Nat):Int):=by rw[wrap_i64 (by omega) (by omega)];omega
  rw[e];refine IQ (x:=l.getD (i - 1) []) ?_ (aa rfl);grind
 all_goals grind
abbrev yN:Ty:=pr [.list tS,.list tS,.list tS,.list tS]
def cp(s:PS):yN.den:=(s.1.map (·.1),s.2.1.map (·.1),s.2.2.1.map (·.1),s.2.2.2.1.map (·.1),())
theorem D6{α β:Type}{f:α->β}{l:List α}{i:Nat}(a:i<l.length):(l.take i).map f++[f l[i]]=(l.take (i+1)).map f:=by rw[<-List.take_append_getElem a,r_];rfl
theorem LQ(s:PS)(c:s.1.length<=1048576)(d:s.2.1.length<=1048576)(e:s.2.2.1.length<=1048576)(g:s.2.2.2.1.length<=1048576):aC tbl qD [.d yS s] [] mL (cp s,()):=by
 refine aw rfl (aA Ny rfl (λO n=>NR O n s) ?_);unfold Cj;have hg:∀{α:Type} {l:List α} {f:α->List UInt8} {i:Nat},i<l.length->l.length<=1048576->decide ((((l.take i).map f).length+1)*16<=140737488355328)=true:=fun{α l f i} a hl=>by grind
 refine ae (aX (N:=s.1.length) (I:=λi t=>t=((i:Int),(s.1.take i).map (·.1),())) rfl (λi t a b=>?_) λt b=>?_);·subst b;unfold rR;refine a8 a (aI a (aE rfl (aE (hg a c) (aE rfl (aa ?_)))));simp only;rw[ap a (by omega),D6 (f:=λx:PLS=>x.1) a]
 subst b;unfold rR;refine aR (aa ?_);rw[l_ (w_ _)];refine ae (aX (N:=s.2.1.length) (I:=λi t=>t=((i:Int),s.1.map (·.1),(s.2.1.take i).map (·.1),())) rfl (λi t a b=>?_) λt b=>?_);·subst b;unfold rS;refine a8 a (aI a (aE rfl (aE (hg a d) (aE rfl (aa ?_)))));simp only;rw[ap a (by omega),D6 (f:=λx:HLS=>x.1) a]
 subst b;unfold rS;refine aR (aa ?_);rw[l_ (w_ _)];refine ae (aX (N:=s.2.2.1.length) (I:=λi t=>t=((i:Int),s.1.map (·.1),s.2.1.map (·.1),(s.2.2.1.take i).map (·.1),())) rfl (λi t a b=>?_) λt b=>?_);·subst b;unfold rT;refine a8 a (aI a (aE rfl (aE (hg a e) (aE rfl (aa ?_)))));simp only;rw[ap a (by omega),D6 (f:=λx:CLS=>x.1) a]
 subst b;unfold rT;refine aR (aa ?_);rw[l_ (w_ _)];refine ae (aX (N:=s.2.2.2.1.length) (I:=λi t=>t=((i:Int),s.1.map (·.1),s.2.1.map (·.1),s.2.2.1.map (·.1),(s.2.2.2.1.take i).map (·.1),())) rfl (λi t a b=>?_) λt b=>?_);·subst b;unfold rU;refine a8 a (aI a (aE rfl (aE (hg a g) (aE rfl (aa ?_)))));simp only;rw[ap a (by omega),D6 (f:=λx:FM=>x.1) a]
 subst b;unfold rU;refine aR (aa (aa ?_));rw[l_ (w_ _)];rfl
theorem cK(n a b:Int):aC tbl b8 [.d tI n,.d tI a,.d tI b] [] bV (decide (a<=n)&&decide (n<=b),()):=by refine aw rfl (aA Lc rfl (λO k=>Lp O k n a b) ?_);unfold Bq;exact ae (bz (b:=decide (n<=b)) (λ_=>aa rfl) (aa rfl))
theorem qh(l:List (List UInt8))(n:List UInt8)(hl:l.length<=9223372036854775807):aC tbl lT [.d (.list tS) l,.d tS n] [] fw (l.any (·==n),()):=by
 refine aw rfl (aA IG rfl (λO k=>IV O k l n) ?_);unfold xo;refine ae (ye (xs:=l) (p:=(·==n)) (g:=λ_=>(true,())) (e:=()) (λi r c=>?_) ?_ ?_)
 ·unfold nR;have a:=(I_.1 c).1;refine a8 a (IQ c (au (λh=>aa ?_) λh=>aa ?_));·grind
  ·rw[if_neg (by grind),ap a hl]
 ·unfold nR;exact aR (aa rfl)
 ·cases e:l.find? (·==n)with
  |some r=>have b:l.any (·==n)=true:=X_.2 ⟨r,List.mem_of_find?_eq_some e,List.find?_some (p:=(·==n)) e⟩;rw[b];exact aa rfl|none=>
   have b:l.any (·==n)=false:=by grind
   rw[b];exact aa rfl
theorem zo(k N d pl:Int)(nm:List UInt8)(e:Bool):(true ^^ uy yM (k,nm,N,(d,pl,()),e,()) (k,nm,0,(0,0,()),e,()))=true↔(N≠0\/d≠0\/pl≠0):=by by_cases a:N=0<;>by_cases b:d=0<;>by_cases c:pl=0<;>simp[uy,a,b,c]
theorem zdr(k N d pl:Int)(nm:List UInt8)(e:Bool):(true ^^ uy yM (k,nm,N,(d,pl,()),e,()) (k,[],N,(0,0,()),e,()))=true↔(nm≠[]\/d≠0\/pl≠0):=by by_cases a:nm=[]<;>by_cases b:d=0<;>by_cases c:pl=0<;>simp[uy,a,b,c]
theorem zdq(k N d pl:Int)(nm:List UInt8)(c:Bool):(true ^^ uy yM (k,nm,N,(d,pl,()),c,()) (k,[],0,(d,pl,()),c,()))=true↔(nm≠[]\/N≠0):=by by_cases a:nm=[]<;>by_cases b:N=0<;>simp[uy,a,b]
theorem tT{b:Bool}{P:Prop}(h:b=false)(e:b=true↔P):¬P:=λp=>by rw[e.2 p]at h;cases h
theorem Eb(s:PS)(m:Uy)(hs:okD yS s)(H:hZ m.2.2.2.1.1):aC tbl jx [.d yN (cp s),.d yM m] [] bD (gP s m,()):=by
 obtain⟨k,nm,N,⟨d,pl,⟨⟩⟩,g,⟨⟩⟩:=m;refine aw rfl (aA EE rfl (λO n=>EQ O n (cp s) (k,nm,N,(d,pl,()),g,())) ?_);unfold uR;refine ae (ae ?_);have j:(s.1.map (·.1)).length<=9223372036854775807:=by rw[D_];exact hs.1.1
 have l:(s.2.1.map (·.1)).length<=9223372036854775807:=by rw[D_];exact hs.2.1.1
 have p:(s.2.2.1.map (·.1)).length<=9223372036854775807:=by rw[D_];exact hs.2.2.1.1
 by_cases u:k=1
 ·subst u;rw[AB (.inl rfl)];have c:(s.1.map (·.1)).any (·==nm)=K6 s 1 nm:=by rw[aj_];rfl
  refine aJ rfl (aa (aJ rfl (au (λh=>aa (aa ?_)) λh=>?_)));·rw[if_pos ((zo _ _ _ _ _ _).1 h)]
  ·rw[if_neg (tT h (zo _ _ _ _ _ _))];refine zD (a:=s.1.map (·.1)) rfl (aj (qh _ nm j) ?_);rw[c];refine au (λh=>aa (aa ?_)) λh=>aa (aa ?_);all_goals grind
 by_cases v:k=2
 ·subst v;rw[AB (.inr (.inl rfl))];have c:(s.2.1.map (·.1)).any (·==nm)=K6 s 2 nm:=by rw[aj_];rfl
  refine an rfl (aJ rfl (aa (aJ rfl (au (λh=>aa (aa ?_)) λh=>?_))));·rw[if_pos ((zo _ _ _ _ _ _).1 h)]
  ·rw[if_neg (tT h (zo _ _ _ _ _ _))];refine zD (a:=s.2.1.map (·.1)) rfl (aj (qh _ nm l) ?_);rw[c];refine au (λh=>aa (aa ?_)) λh=>aa (aa ?_);all_goals grind
 by_cases w:k=3
 ·subst w;rw[AB (.inr (.inr rfl))];have c:(s.2.2.1.map (·.1)).any (·==nm)=K6 s 3 nm:=by rw[aj_];rfl
  refine an rfl (an rfl (aa (aJ rfl (au (λh=>aa (aa ?_)) λh=>?_))));·rw[if_pos ((zo _ _ _ _ _ _).1 h)]
  ·rw[if_neg (tT h (zo _ _ _ _ _ _))];refine zD (a:=s.2.2.1.map (·.1)) rfl (aj (qh _ nm p) ?_);rw[c];refine au (λh=>aa (aa ?_)) λh=>aa (aa ?_);all_goals grind
 refine an (beq_eq_false_iff_ne.2 u) (an (beq_eq_false_iff_ne.2 v) (aa (an (beq_eq_false_iff_ne.2 w) ?_)));by_cases B:k=7
 ·subst B;rw[V6];refine aJ rfl (ae (bG (b:= !jr (d,pl,())) (λ_=>aj (mj (d,pl,()) H) (aa rfl)) ?_));refine au (λh=>aa (aa ?_)) λh=>aa (aa ?_)
  ·by_cases e:nm≠[]\/N≠0;·grind
   ·rw[if_neg e,if_neg];intro h';rcases Bool.or_eq_true_iff.1 h with h|h;·exact e ((zdq _ _ _ _ _ _).1 h)
    grind
  ·simp only[u_]at h;rw[if_neg (tT h.1 (zdq _ _ _ _ _ _)),if_pos (by grind)]
 refine an (beq_eq_false_iff_ne.2 B) ?_;have num:∀lo f:Int,(k=4\/k=5\/k=6\/k=8)->zfg k=lo->VP k=f->Wp (λn=>
  bif (true ^^ uy yM (k,nm,N,(d,pl,()),g,()) (k,([]:List UInt8),N,((0:Int),(0:Int),()),g,()))then aB bD ((1:Int),())else
  c_ (ar (qc tbl n) b8 [.d tI N,.d tI lo,.d tI f] [] bV) λr=>
  bif (!r.1)then aB bD ((5:Int),())else aB bD ((0:Int),()))
  (λx=>x=some (kJ bD (gP s (k,nm,N,(d,pl,()),g,()),()))):=λlo f F D E=>by
  rw[V7 F,D,E]
  refine au (λh=>aa ?_) λh=>?_
  ·rw[if_pos ((zdr _ _ _ _ _ _).1 h)]
  ·rw[if_neg (tT h (zdr _ _ _ _ _ _))];refine aj (cK N lo f) (au (λh=>aa ?_) λh=>aa ?_);all_goals grind
 by_cases y:k=4;·subst y;exact aJ rfl (aa (num 1 7 (by simp) rfl rfl))
 by_cases A:k=6;·subst A;exact an rfl (aJ rfl (aa (num 0 16777216 (by simp) rfl rfl)))
 by_cases C:k=8;·subst C;exact an rfl (an rfl (aJ rfl (aa (num 0 2000 (by simp) rfl rfl))))
 by_cases z:k=5;·subst z;exact an rfl (an rfl (an rfl (aJ rfl (aa (num 0 4294967295 (by simp) rfl rfl)))))
 refine an (beq_eq_false_iff_ne.2 y) (an (beq_eq_false_iff_ne.2 A) (an (beq_eq_false_iff_ne.2 C) (an (beq_eq_false_iff_ne.2 z) (aa (aa ?_)))));rw[Ih (show k<1\/8<k by omega)]
end Go.Proofs.YthjnceggmnicmaaGreatDoor
