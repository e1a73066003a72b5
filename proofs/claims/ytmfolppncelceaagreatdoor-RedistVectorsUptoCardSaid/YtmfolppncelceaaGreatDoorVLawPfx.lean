import Derived.Test.YtmfolppncelceaaGreatDoorVPlPfx
import Derived.Test.YtmfolppncelceaaGreatDoorVGlueB
import Derived.Test.YtmfolppncelceaaGreatDoorVL7
set_option linter.unusedVariables false
set_option linter.unusedSimpArgs false
open Bool renaming and_eq_true->x_,or_eq_false_iff->F_,true_and->M_
open Classical renaming byContradiction->h_,choose->C_,choose_spec->ae_,not_not->ah_
open Int renaming toNat_natCast->i_,eq_ofNat_of_zero_le->q_,toNat->r_,natCast_nonneg->y_,tdiv_eq_ediv_of_nonneg->K_,toNat_of_nonneg->T_,le_refl->af_
open Go.IntKind renaming wrap->c_,bits->P_
open List renaming getElem_mem->a_,getElem?_eq_getElem->b_,length_map->e_,replicate->f_,take_of_length_le->g_,mem_cons_self->j_,mem_cons_of_mem->k_,take_add_one->l_,take_length->m_,mem_singleton->n_,getElem?_eq_some_iff->o_,ext_getElem->s_,drop_eq_nil_of_le->t_,length_eq_one_iff->u_,map_append->v_,mem_append->w_,append_assoc->A_,take_append_drop->B_,all_eq_true->D_,getElem_map->E_,mem_of_mem_take->G_,nil_append->H_,take_succ_cons->I_,range->L_,map_cons->N_,getElem_set->O_,getElem?_eq_none->Q_,length_replicate->R_,mem_of_getElem?->S_,length_append->U_,any_map->W_,getD->Y_,length_set->Z_,drop_zero->aa_,sum_cons->ac_,length->ag_
open Nat renaming le_refl->p_,zero_le->z_,le_of_lt->J_,le_trans->X_,mod_lt->ab_,beq_refl->ad_
open Option renaming bind->d_,toList_some->V_
open Prod renaming ext->ai_
namespace Go.Proofs.YtmfolppncelceaaGreatDoor
open Go Go.Av Go.Ev Go.Pl
abbrev hU(x:Int):Prop:=0<=x/\x<=4294967295
theorem Sm(n m:Int):aC tbl vN [.d tI n,.d tI m] [] rI (min (max n 0) m,()):=ap rfl (aA TV rfl (λO k=>bI (SC O k n m)) (aa rfl))
theorem UL(n m:Int):aC tbl x7 [.d tI n,.d tI m] [] uq (min (max n 0) m,()):=ap rfl (aA Xm rfl (λO k=>bI (UV O k n m)) (aa rfl))
theorem Oc(k:Nat):(2:Int)^k=((2^k:Nat):Int):=by induction k with|zero=>rfl|succ k a=>rw[Int.pow_succ,a,Nat.pow_succ];rfl
theorem UG(n:Nat)(hn:n<=32):aC tbl xZ [.d tI (n:Int)] [] um (((4294967295*2^(32 - n)%4294967296:Nat):Int),()):=by
 refine ap rfl (aA Xk rfl (λO k=>bI (KR O k (n:Int))) ?_);unfold KR;refine aj (Sm (n:Int) 32) ?_;have e:c_ .i64 (32 - min (max (n:Int) 0) 32)=((32 - n:Nat):Int):=by rw[wrap_i64 (by omega) (by omega)];omega
 refine aD (by grind) (aa ?_);simp only[e];rw[show min (r_ ((32 - n:Nat):Int)) (P_ .u32)=32 - n from by show min _ 32=_;simp,wrap_u32,Oc];rfl
theorem KJ(x n:Int)(c:hU x)(b:0<=n)(d:n<=32):aC tbl tX [.d tW x,.d tI n] [] ql (CP x n,()):=by obtain⟨a,rfl⟩:=q_ c.1;obtain⟨k,rfl⟩:=q_ b;refine ap rfl (aA Xj rfl (λO m=>bI (KN O m (a:Int) (k:Int))) ?_);unfold KN;refine aj (UG k (by omega)) (aa ?_);rw[Vj (by omega) (ab_ _ (by simp)),zcq (by omega) (by omega)];rfl
theorem XL(x i:Nat)(f:x<=4294967295)(d:i<32):aC tbl A4 [.d tW (x:Int),.d tI (i:Int)] [] sV (((x/2^(31 - i)%2:Nat):Int),()):=by
 refine ap rfl (aA zaD rfl (λO k=>bI (MS O k (x:Int) (i:Int))) ?_);unfold MS;refine ae (bn (b:=false) (λ_=>aa (decide_eq_false (by omega))) ?_);rw[decide_eq_false (show ¬(i:Int)<0 by simp)];have e:c_ .u64 (c_ .i64 (31 - (i:Int)))=((31 - i:Nat):Int):=by rw[wrap_i64 (by omega) (by omega),wrap_u64];omega
 refine an rfl (aD (by grind) (aa ?_));simp only[e];rw[show min (r_ ((31 - i:Nat):Int)) (P_ .u32)=31 - i from by show min _ 32=_;omega,Oc,Int.fdiv_eq_ediv_of_nonneg _ (y_ _)];have a:(x:Int)/((2^(31 - i):Nat):Int)=((x/2^(31 - i):Nat):Int):=rfl;have c:x/2^(31 - i)<=x:=Nat.div_le_self _ _;rw[a,show(1:Int)=((1:Nat):Int)from rfl,Vj (by omega) (by simp),Nat.and_one_is_mod];have:x/2^(31 - i)%2<2:=ab_ _ (by simp);rw[wrap_i64 (by omega) (by omega)]
theorem HJ(x n:Int)(h:hU x)(d:0<=n)(f:n<=32):aC tbl qT [.d tW x,.d tI n] [] nv (CP x n,()):=by
 obtain⟨a,rfl⟩:=q_ h.1;obtain⟨k,rfl⟩:=q_ d;have b:a<4294967296:=by omega
 refine ap rfl (aA TW rfl (λO m=>bI (HR O m (a:Int) (k:Int))) ?_);unfold HR;refine aj (UL (k:Int) 32) ?_;have e:min (max (k:Int) 0) 32=(k:Int):=by omega
 rw[e];refine ae (a8 (N:=k) (I:=λi s=>s=(((CO a i:Nat):Int),(i:Int),())) (by rw[zcs b];rfl) (λi s g hs=>?_) λs hs=>?_)
 ·subst hs;unfold ww;refine a6 g (aj (XL a i (by omega) (by omega)) ?_);have e:c_ .u64 (c_ .i64 (31 - (i:Int)))=((31 - i:Nat):Int):=by rw[wrap_i64 (by omega) (by omega),wrap_u64];omega
  refine aD (by grind) (aa ?_);simp only[e];have j:a/2^(31 - i)%2<2:=ab_ _ (by simp);have hp:(a/2^(31 - i)%2)*2^(31 - i)<4294967296:=by have f:(a/2^(31 - i)%2)*2^(31 - i)<=1*2^31:=Nat.mul_le_mul (by omega) (Nat.pow_le_pow_right (by simp) (by simp));omega
  have c:c_ .u32 (c_ .u32 ((a/2^(31 - i)%2:Nat):Int)*2^(min (r_ ((31 - i:Nat):Int)) (P_ .u32)))=(((a/2^(31 - i)%2)*2^(31 - i):Nat):Int):=by rw[show min (r_ ((31 - i:Nat):Int)) (P_ .u32)=31 - i from by show min _ 32=_;omega,Oc,wrap_u32,wrap_u32];grind
  rw[c,zfV (Nat.lt_of_le_of_lt (zd9 a i) b) hp,<-zcr a (by omega),aB (n:=32) (by omega) (by simp)]
 ·subst hs;unfold ww;exact aT (aa (aa rfl))
theorem gM(p:G2)(hp:hU p.1):aC tbl de [.d yP p] [] cC (dE p,()):=by refine ap rfl (aA OF rfl (λO n=>bI (Dv O n p)) ?_);unfold Dv;refine ae (bb (b:=decide (p.2.1<=32)) (λ_=>aa rfl) ?_);refine ae (bb (b:=(CP p.1 p.2.1==p.1)) (λh=>?_) (aa rfl));simp only[x_,decide_eq_true_eq]at h;exact aj (KJ p.1 p.2.1 hp h.1 h.2) (aa rfl)
theorem UK(a n:Int)(d:hU a)(b:0<=n)(c:n<=32):aC tbl x6 [.d tW a,.d tI n] [] uo ((CP a n,n,()),()):=by refine ap rfl (aA Xl rfl (λO k=>bI (KS O k a n)) ?_);unfold KS;exact aj (KJ a n d b c) (aa rfl)
theorem dG(p:G2)(hp:hU p.1):aC tbl dh [.d yP p] [] cH (dE p,()):=by refine ap rfl (aA QF rfl (λO n=>bI (Gg O n p)) ?_);unfold Gg;refine ae (bb (b:=decide (p.2.1<=32)) (λ_=>aa rfl) ?_);refine ae (bb (b:=(CP p.1 p.2.1==p.1)) (λh=>?_) (aa rfl));simp only[x_,decide_eq_true_eq]at h;exact aj (HJ p.1 p.2.1 hp h.1 h.2) (aa rfl)
theorem Sq(a n:Int)(d:hU a)(b:0<=n)(c:n<=32):aC tbl vO [.d tW a,.d tI n] [] rJ ((CP a n,n,()),()):=by refine ap rfl (aA TX rfl (λO k=>bI (HS O k a n)) ?_);unfold HS;exact aj (HJ a n d b c) (aa rfl)
def K7(p:G2)(a:Int):Bool:=dE p&&(CP a p.2.1==p.1)
def PE(p q:G2):Bool:=dE q&&(decide (p.2.1<=q.2.1)&&K7 p q.1)
theorem Sk{p:G2}(h:dE p=true):0<=p.2.1/\p.2.1<=32:=by unfold dE at h;simp only[x_,decide_eq_true_eq]at h;exact h.1
theorem xI(p:G2)(a:Int)(hp:hU p.1)(d:hU a):aC tbl iJ [.d yP p,.d tW a] [] fz (K7 p a,()):=by refine ap rfl (aA Ji rfl (λO n=>bI (xS O n p a)) ?_);unfold xS;refine aj (gM p hp) (ae (bb (b:=(CP a p.2.1==p.1)) (λh=>?_) (aa rfl)));have c:=Sk h;refine aj (UK a p.2.1 d c.1 c.2) (aa ?_);show(false ^^ ((CP a p.2.1==p.1)&&((p.2.1==p.2.1)&&true)))=_;simp
theorem Aa(p:G2)(a:Int)(hp:hU p.1)(d:hU a):aC tbl jz [.d yP p,.d tW a] [] gK (K7 p a,()):=by refine ap rfl (aA Kv rfl (λO n=>bI (Ai O n p a)) ?_);unfold Ai;refine aj (dG p hp) (ae (bb (b:=(CP a p.2.1==p.1)) (λh=>?_) (aa rfl)));have c:=Sk h;refine aj (Sq a p.2.1 d c.1 c.2) (aa ?_);show(false ^^ ((CP a p.2.1==p.1)&&((p.2.1==p.2.1)&&true)))=_;simp
theorem Lo(p q:G2)(hp:hU p.1)(a:hU q.1):aC tbl pq [.d yP p,.d yP q] [] kQ (PE p q,()):=by refine ap rfl (aA Mb rfl (λO n=>bI (Cv O n p q)) ?_);unfold Cv;refine aj (gM q a) (ae (bb (b:=decide (p.2.1<=q.2.1)) (λ_=>aa rfl) ?_));refine ae (bb (b:=K7 p q.1) (λ_=>aj (xI p q.1 hp a) (aa rfl)) (aa ?_));unfold PE;grind
theorem MJ(p q:G2)(hp:hU p.1)(a:hU q.1):aC tbl qU [.d yP p,.d yP q] [] mU (PE p q,()):=by refine ap rfl (aA OI rfl (λO n=>bI (Dy O n p q)) ?_);unfold Dy;refine aj (dG q a) (ae (bb (b:=K7 p q.1) (λ_=>aj (Aa p q.1 hp a) (aa rfl)) ?_));refine ae (bb (b:=decide (p.2.1<=q.2.1)) (λ_=>aa rfl) (aa ?_));unfold PE;grind
theorem FZ(r:PRU)(hr:hU r.2.1.1):aC tbl oz [.d yR r] [] gB (mR r,()):=by
 refine ap rfl (aA QB rfl (λO n=>bI (Gc O n r)) ?_);unfold Gc;refine aj (gM r.2.1 hr) (ao (λh=>aa ?_) λh=>?_);·unfold mR;rw[if_pos (by simpa using h)]
 ·have a:¬dE r.2.1=false:=by simpa using h
  refine ae (bn (b:=decide (r.2.2.2.1<r.2.2.1)) (λ_=>aa rfl) (ae (bn (b:=decide (r.2.2.2.1>32)) (λ_=>aa rfl) ?_)));refine ao (λh=>aa ?_) λh=>aa ?_;·unfold mR;rw[if_neg a,if_pos (by simpa[or_assoc]using h)]
  ·unfold mR;rw[if_neg a,if_neg];intro h';simp only[F_,decide_eq_false_iff_not]at h;omega
theorem F2(r:PRU)(hr:hU r.2.1.1):aC tbl kU [.d yR r] [] eW (mR r,()):=by
 refine ap rfl (aA QM rfl (λO n=>bI (Gn O n r)) ?_);unfold Gn;refine aj (dG r.2.1 hr) (ao (λh=>aa ?_) λh=>?_);·unfold mR;rw[if_pos (by simpa using h)]
 ·have a:¬dE r.2.1=false:=by simpa using h
  refine ae (bn (b:=decide (r.2.2.2.1<r.2.2.1)) (λ_=>aa rfl) (ae (bn (b:=decide (r.2.2.2.1>32)) (λ_=>aa rfl) ?_)));refine ao (λh=>aa ?_) λh=>aa ?_;·unfold mR;rw[if_neg a,if_pos (by simpa[or_assoc]using h)]
  ·unfold mR;rw[if_neg a,if_neg];intro h';simp only[F_,decide_eq_false_iff_not]at h;omega
def NX(r:PRU)(p:G2):Bool:=(mR r==0)&&(PE r.2.1 p&&(decide (r.2.2.1<=p.2.1)&&decide (p.2.1<=r.2.2.2.1)))
def WG(l:List PRU)(p:G2):Bool:=match l.find? (λz=>NX z p)with|some r=>r.1|none=>false
theorem O5(r:PRU)(p:G2)(hr:hU r.2.1.1)(hp:hU p.1):aC tbl td [.d yR r,.d yP p] [] oY (NX r p,()):=by refine ap rfl (aA QC rfl (λO n=>bI (Gd O n r p)) ?_);unfold Gd;refine aj (FZ r hr) (ae (bb (b:=PE r.2.1 p) (λ_=>aj (Lo r.2.1 p hr hp) (aa rfl)) ?_));refine ae (bb (b:=decide (r.2.2.1<=p.2.1)) (λ_=>aa rfl) (ae (bb (b:=decide (p.2.1<=r.2.2.2.1)) (λ_=>aa rfl) (aa ?_))));unfold NX;grind
theorem Pe(r:PRU)(p:G2)(hr:hU r.2.1.1)(hp:hU p.1):aC tbl tn [.d yR r,.d yP p] [] o7 (NX r p,()):=by
 refine ap rfl (aA QN rfl (λO n=>bI (Gp O n r p)) ?_);unfold Gp;refine aj (F2 r hr) (ae (bb (b:=dE p) (λ_=>aj (dG p hp) (aa rfl)) ?_));refine ae (bb (b:=PE r.2.1 p) (λ_=>aj (MJ r.2.1 p hr hp) (aa rfl)) ?_);refine ae (bb (b:=decide (p.2.1>=r.2.2.1)) (λ_=>aa rfl) (ae (bb (b:=decide (p.2.1<=r.2.2.2.1)) (λ_=>aa rfl) (aa ?_))));unfold NX;have:(dE p&&PE r.2.1 p)=PE r.2.1 p:=by unfold PE;simp
 grind
theorem Ln(l:List PRU)(p:G2)(hl:l.length<=9223372036854775807)(hr:∀r∈l,hU r.2.1.1)(hp:hU p.1):aC tbl pp [.d (.list yR) l,.d yP p] [] iv (WG l p,()):=by
 refine ap rfl (aA L8 rfl (λO n=>bI (Cs O n l p)) ?_);unfold Cs;refine ae (yt (xs:=l) (p:=(λz=>NX z p)) (g:=λr=>(r.1,())) (e:=()) (λi r b=>?_) ?_ ?_)
 ·unfold qI;have a:=(o_.1 b).1;refine a6 a (Jr b (aj (O5 r p (hr r (S_ b)) hp) ?_));refine ao (λh=>aa ?_) λh=>aa ?_;·rw[if_pos h]
  ·rw[if_neg (by have h:NX r p=false:=h;simp[h]),aB a hl]
 ·unfold qI;exact aT (aa rfl)
 ·unfold WG;cases l.find? (λz=>NX z p)with|some r=>exact aa rfl|none=>exact aa rfl
theorem Cl(l:List PRU)(p:G2)(hl:l.length<=9223372036854775807)(hr:∀r∈l,hU r.2.1.1)(hp:hU p.1):aC tbl px [.d (.list yR) l,.d yP p] [] ix (WG l p,()):=by
 refine ap rfl (aA Mg rfl (λO n=>bI (CC O n l p)) ?_);unfold CC;refine ae (yt (xs:=l) (p:=(λz=>NX z p)) (g:=λr=>(r.1,())) (e:=()) (λi r b=>?_) ?_ ?_)
 ·unfold qM;have a:=(o_.1 b).1;refine a6 a (Jr b (aj (Pe r p (hr r (S_ b)) hp) ?_));refine ao (λh=>aa ?_) λh=>aa ?_;·rw[if_pos h]
  ·rw[if_neg (by have h:NX r p=false:=h;simp[h]),aB a hl]
 ·unfold qM;exact aT (aa rfl)
 ·unfold WG;cases l.find? (λz=>NX z p)with|some r=>exact aa rfl|none=>exact aa rfl
end Go.Proofs.YtmfolppncelceaaGreatDoor
namespace Go.Pl
open Go.Ev
def vt(M:Nat)(f:Nat->Bool):List Bool:=(L_ M).map f
theorem XB(M:Nat)(f:Nat->Bool):(vt M f).length=M:=by simp[vt]
theorem zfp{M i:Nat}(f:Nat->Bool)(h:i<(vt M f).length):(vt M f)[i]=f i:=by simp[vt]
theorem zaG{M:Nat}{f g:Nat->Bool}(h:∀i,i<M->f i=g i):vt M f=vt M g:=List.map_congr_left λi a=>h i (List.mem_range.1 a)
theorem zfr{M i:Nat}(f:Nat->Bool)(b:Bool):(vt M f).set i b=vt M λj=>if j=i then b else f j:=by
 refine s_ (by simp[vt]) λj d c=>?_;have g:j<M:=by simpa[vt]using c
 rw[O_];by_cases e:i=j;·subst e;simp[vt]
 ·have a:¬j=i:=λh=>e h.symm;simp[vt,e,a]
theorem zfq(M:Nat):f_ M false=vt M λ_=>false:=by refine s_ (by simp[vt]) λj a b=>?_;simp[vt]
def ziU(g:G)(n:Int)(p:Nat):Bool:=match g.sp[p]? with
 |some q=>decide (q.1<=n)&&decide (n<=q.2)
 |none=>false
def atF(g:G)(can:Nat->Bool)(n:Int)(p:Nat):Bool:=can p&&ziU g n p
def nxF(g:G)(a:Nat->Bool)(q:Nat):Bool:=g.pr.any λx=>a x.1&&decide (x.2=q)
def ziL(g:G)(s:(Nat->Bool)×(Nat->Bool))(n:Int):(Nat->Bool)×(Nat->Bool):=(nxF g (atF g s.1 n),atF g s.1 n)
def zi7(g:G)(a:List Int):(Nat->Bool)×(Nat->Bool):=a.foldl (ziL g) (λp=>decide (p∈g.fi),λ_=>false)
def NY(g:G)(a:List Int):Bool:=bif a.isEmpty then g.em else g.la.any (zi7 g a).2
open Go Go.Ev Go.Lib
def hd(t:List UInt8):Nat:=(t.headD 0).toNat
def pk(s:List UInt8)(i:Nat):Nat:=(s.getD i 0).toNat
theorem rH(s:List UInt8)(i:Nat):pk s i=hd (s.drop i):=by unfold pk hd;rw[List.headD_eq_head?_getD,List.head?_drop];rfl
theorem dQ{s:List UInt8}{i:Nat}(h:pk s i≠0):i<s.length:=by apply h_;intro hn;apply h;unfold pk;rw[Y_,Q_ (by omega)];rfl
theorem Oa{s:List UInt8}{i:Nat}(h:i<s.length):pk s i=s[i].toNat:=by unfold pk;rw[Y_,b_ h];rfl
theorem zeF{s:List UInt8}{i:Nat}(h:¬i<s.length):pk s i=0:=by unfold pk;rw[Y_,Q_ (by omega)];rfl
theorem kN{s a t:List UInt8}{i:Nat}(h:s.drop i=a++t):s.drop (i+a.length)=t:=by rw[<-List.drop_drop,h,List.drop_left]
theorem DZ{s t:List UInt8}{b:UInt8}{i:Nat}(h:s.drop i=b::t):s.drop (i+1)=t:=kN (a:=[b]) h
theorem Tm{a t:List UInt8}(h:a≠[]):hd (a++t)=hd a:=by cases a with|nil=>exact absurd rfl h|cons b a=>rfl
def dg(c:Nat):Prop:=48<=c/\c<=57
section
variable (num:Nat->Option (Int×Nat)) (s:List UInt8)
def ft(alt:Nat->Option (Rx×Nat))(i:Nat):Option (Rx×Nat):=
 if pk s i=46 then some (.mk 2 0 0 [],i+1)
 else if pk s i=33 then some (.mk 4 0 0 [],i+1)
 else if pk s i=91 then
  match num (i+1)with
  |none=>none
  |some (lo,j)=>if pk s j=45 then(match num (j+1)with
   |none=>none
   |some (up,k)=>if pk s k=93 then some (.mk 1 lo up [],k+1)else none)else none
 else if pk s i=40 then
  if pk s (i+1)=41 then some (.mk 0 0 0 [],i+2)else
  match alt (i+1)with
  |none=>none
  |some (r,j)=>if pk s j=41 then some (r,j+1)else none
 else match num i with
  |none=>none
  |some (n,j)=>some (.mk 1 n n [],j)
def IV(alt:Nat->Option (Rx×Nat))(i:Nat):Option (Rx×Nat):=
 match ft num s alt i with
 |none=>none
 |some (r,j)=>if pk s j=42 then some (.mk 5 0 0 [r],j+1)else if pk s j=43 then some (.mk 6 0 0 [r],j+1)else if pk s j=63 then some (.mk 7 0 0 [r],j+1)else some (r,j)
def gX(sep:Nat)(one:Nat->Option (Rx×Nat)):Nat->List Rx->Nat->Option (List Rx×Nat)
 |0,_,_=>none
 |f+1,a,i=>match one i with
  |none=>none
  |some (r,j)=>if pk s j=sep then gX sep one f (a++[r]) (j+1)else some (a++[r],j)
def zck(k:Int)(l:List Rx):Rx:=match l with
 |[x]=>x
 |l=>.mk k 0 0 l
def C7(sep:Nat)(k:Int)(one:Nat->Option (Rx×Nat))(i:Nat):Option (Rx×Nat):=match gX s sep one (s.length+1 - i) [] i with
 |none=>none
 |some (l,j)=>some (zck k l,j)
def zcH(alt:Nat->Option (Rx×Nat))(i:Nat):Option (Rx×Nat):=C7 s 32 3 (IV num s alt) i
def Hn:Nat->Nat->Option (Rx×Nat)
 |0,_=>none
 |b+1,i=>C7 s 124 4 (zcH num s (Hn b)) i
end
structure NumOk(s:List UInt8)(num:Nat->Option (Int×Nat)):Prop where
 bnd:∀i n j,i<=s.length->num i=some (n,j)->i<j/\j<=s.length
 txt:∀i (m:Nat) t,s.drop i=decDigits m++t->m<=4294967295->¬dg (hd t)->num i=some ((m:Int),i+(decDigits m).length)
def XI(s:List UInt8)(one:Nat->Option (Rx×Nat)):Prop:=∀i r j,i<=s.length->one i=some (r,j)->i<j/\j<=s.length/\sz r<=j - i
section
variable {num:Nat->Option (Int×Nat)} {s:List UInt8}
theorem zdF(hn:NumOk s num){alt:Nat->Option (Rx×Nat)}(g:XI s alt):XI s (ft num s alt):=by
 intro i r j k h;unfold ft at h;have one:sz (.mk 0 0 0 [])=1:=rfl;split at h;·rename_i p;have:=dQ (s:=s) (i:=i) (by omega);cases h;refine⟨by simp,by omega,?_⟩;show 1<=_;simp
 split at h;·have:=dQ (s:=s) (i:=i) (by omega);cases h;refine⟨by simp,by omega,?_⟩;show 1<=_;simp
 split at h
 ·have:=dQ (s:=s) (i:=i) (by omega);split at h;·grind
  rename_i lo a e;have c:=hn.bnd _ _ _ (by omega) e;split at h
  ·have:=dQ (s:=s) (i:=a) (by omega);split at h;·grind
   rename_i up b f;have d:=hn.bnd _ _ _ (by omega) f;split at h;·have:=dQ (s:=s) (i:=b) (by omega);cases h;refine⟨by omega,by omega,?_⟩;show 1<=_;omega
   grind
  grind
 split at h
 ·have:=dQ (s:=s) (i:=i) (by omega);split at h;·have:=dQ (s:=s) (i:=i+1) (by omega);grind
  split at h;·grind
  rename_i r2 a e;obtain⟨c,d,l⟩:=g _ _ _ (by omega) e;split at h;·have:=dQ (s:=s) (i:=a) (by omega);grind
  grind
 split at h;·grind
 rename_i n a e;have c:=hn.bnd _ _ _ k e;cases h;refine⟨by omega,by omega,?_⟩;show 1<=_;omega
theorem DR(hn:NumOk s num){alt:Nat->Option (Rx×Nat)}(b:XI s alt):XI s (IV num s alt):=by
 intro i r j c h;unfold IV at h;split at h;·grind
 rename_i r2 a e;obtain⟨d,f,g⟩:=zdF hn b _ _ _ c e;have hs:∀k:Int,sz (.mk k 0 0 [r2])=sz r2+1:=λk=>by simp only[sz,C8];omega
 split at h;·have:=dQ (s:=s) (i:=a) (by omega);grind
 split at h;·have:=dQ (s:=s) (i:=a) (by omega);grind
 split at h;·have:=dQ (s:=s) (i:=a) (by omega);grind
 grind
theorem Vk{one:Nat->Option (Rx×Nat)}(c:XI s one){sep:Nat}(d:sep≠0):∀(f:Nat) (b:List Rx) (i:Nat) (l:List Rx) (j:Nat),i<=s.length->gX s sep one f b i=some (l,j)->
 i<j/\j<=s.length/\C8 l+l.length<=C8 b+b.length+(j - i)+1/\b.length<l.length
 |0,_,_,_,_,_,h=>by simp[gX]at h
 |f+1,b,i,l,j,g,h=>by
  rw[gX]at h;split at h;·grind
  rename_i r a e;obtain⟨k,n,p⟩:=c _ _ _ g e;have y:C8 (b++[r])=C8 b+sz r:=by rw[TU];simp[C8]
  split at h;·have:=dQ (s:=s) (i:=a) (by omega);obtain⟨u,v,w,x⟩:=Vk c d f _ _ _ _ (by omega) h;grind
  grind
theorem Mn{one:Nat->Option (Rx×Nat)}(u:XI s one){sep:Nat}(n:sep≠0)(k:Int):XI s (C7 s sep k one):=by
 intro i r j p h;unfold C7 at h;split at h;·grind
 rename_i l a e;obtain⟨f,g,c,d⟩:=Vk u n _ _ _ _ _ p e;cases h;refine⟨f,g,?_⟩;unfold zck;split;·simp[C8]at c;omega
 ·rename_i b;have:2<=l.length:=by match l,b,d with|[],_,d=>omega|[x],b,_=>grind|x::y::l,_,_=>simp
  simp only[sz];simp[C8]at c;omega
theorem Ic(hn:NumOk s num):∀b:Nat,XI s (Hn num s b)
 |0=>λi r j _ h=>by simp[Hn]at h
 |b+1=>λi r j a h=>by rw[Hn]at h;exact Mn (one:=zcH num s (Hn num s b)) (λi r j a h=>Mn (one:=IV num s (Hn num s b)) (DR hn (Ic hn b)) (by simp) 3 i r j a h) (by simp) 4 i r j a h
end
mutual
def UC:Rx->Nat
 | .mk _ _ _ ks=>1+YP ks
def YP:List Rx->Nat
 |[]=>0
 |r::a=>max (UC r) (YP a)
end
theorem Mq:∀{ks:List Rx} {r:Rx},r∈ks->UC r<=YP ks
 |x::ks,r,h=>by
  simp only[YP];rcases List.mem_cons.1 h with rfl|h;·omega
  ·have:=Mq h;omega
theorem zdS(w:Bool)(l t:List UInt8):Br w l++t=bif w then 40::(l++41::t)else l++t:=by cases w<;>simp[Br]
def fst(c:Nat):Prop:=dg c\/c=46\/c=33\/c=91\/c=40
theorem Nc(n:Nat):decDigits n≠[]/\dg (hd (decDigits n)):=by have h:=Nb n;have a:=Im n;cases e:decDigits n with|nil=>grind|cons b l=>rw[e]at a;exact⟨by simp,a b (by simp)⟩
theorem Mz:∀(r:Rx),dF r=true->jv r≠[]/\fst (hd (jv r)):=by
 refine lT λk lo up ks w v=>?_;obtain⟨hn,j⟩:=well_iff.1 v;have d:∀p:Int,∀x∈ks,qp p x≠[]/\fst (hd (qp p x)):=λp x s=>by
  obtain⟨a,b⟩:=w x s (j x s);unfold qp Br;cases ux p x;·exact⟨a,b⟩
  ·exact⟨by simp,.inr (.inr (.inr (.inr rfl)))⟩
 have n:∀p:Int,∀t:List UInt8,ks≠[]->(ks.map (qp p)).headD []++t≠[]/\fst (hd ((ks.map (qp p)).headD []++t)):=λp t h=>by cases ks with|nil=>exact absurd rfl h|cons x l=>obtain⟨a,b⟩:=d p x (j_ ..);simp only[N_,List.headD_cons];rw[Tm a];exact⟨by simp[a],b⟩
 have u:∀p:Int,∀c:UInt8,ks≠[]->jn c (ks.map (qp p))≠[]/\fst (hd (jn c (ks.map (qp p)))):=λp c h=>by cases ks with|nil=>exact absurd rfl h|cons x l=>obtain⟨a,b⟩:=d p x (j_ ..);cases l with|nil=>exact⟨a,b⟩|cons y l=>simp only[N_,jn];rw[Tm a];exact⟨by simp[a],b⟩
 have f:(k=5\/k=6\/k=7)->ks≠[]:=λh e=>by have:=hn.one h;rw[e]at this;simp at this
 have g:k=3->ks≠[]:=λh e=>by have:=hn.seq h;rw[e]at this;simp at this
 simp only[jv,ez];split;·exact⟨by simp,.inr (.inr (.inr (.inr rfl)))⟩
 split;·exact⟨by simp,.inr (.inl rfl)⟩
 split
 ·split;·exact⟨(Nc _).1,.inl (Nc _).2⟩
  ·exact⟨by simp,.inr (.inr (.inr (.inl rfl)))⟩
 split;·grind
 split;·exact n 6 _ (f (by omega))
 split;·exact n 7 _ (f (by omega))
 split
 ·split;·exact⟨by simp,.inr (.inr (.inl rfl))⟩
  grind
 ·rcases hn.known with h|h|h|h|h|h|h|h<;>try exact absurd h (by assumption)
  exact u 3 32 (g h)
def comp:Rx->Bool
 | .mk k _ _ ks=>bif k==4 then !ks.isEmpty else(k==3||k==5||k==6||k==7)
def M9:Rx->Bool
 | .mk k _ _ ks=>bif k==4 then !ks.isEmpty else k==3
def Na:Rx->Bool
 | .mk k _ _ ks=>bif k==4 then !ks.isEmpty else false
section
variable {num:Nat->Option (Int×Nat)} {s:List UInt8}
theorem zaT(hn:NumOk s num){alt:Nat->Option (Rx×Nat)}{r:Rx}(l:dF r=true) (u:comp r=true->∀i t,s.drop i=jv r++t->(hd t=0\/hd t=41)->alt i=some (r,i+(jv r).length)) {i:Nat} {t:List UInt8} (h:s.drop i=Br (comp r) (jv r)++t) (v:¬dg (hd t)):ft num s alt i=some (r,i+(Br (comp r) (jv r)).length):=by
 cases hc:comp r with
 |true=>
  rw[hc,zdS]at h;have h:s.drop i=40::(jv r++41::t):=h;have a:pk s i=40:=by rw[rH,h];rfl
  have b:=DZ h;obtain⟨p,f2⟩:=Mz r l;have f:pk s (i+1)≠41:=by rw[rH,b,Tm p];intro e;rw[e]at f2;revert f2;unfold fst dg;simp
  have c:=u hc (i+1) (41::t) b (.inr rfl);have g:pk s (i+1+(jv r).length)=41:=by rw[rH,kN b];rfl
  unfold ft;rw[if_neg (by omega),if_neg (by omega),if_neg (by omega),if_pos a,if_neg f,c];simp only;rw[if_pos g];simp[Br];omega
 |false=>
  rw[hc]at h;have h:s.drop i=jv r++t:=h;show _=some (r,i+(jv r).length);obtain⟨k,lo,up,ks⟩:=r;obtain⟨nd,w⟩:=well_iff.1 l;rcases nd.known with rfl|rfl|rfl|rfl|rfl|rfl|rfl|rfl
  ·have e:=len_nil (nd.leaf (by simp));subst e;obtain⟨rfl,rfl⟩:=nd.zero (by simp);have h:s.drop i=40::41::t:=h;have a:pk s i=40:=by rw[rH,h];rfl
   have f:pk s (i+1)=41:=by rw[rH,DZ h];rfl
   unfold ft;rw[if_neg (by omega),if_neg (by omega),if_neg (by omega),if_pos a,if_pos f];rfl
  ·have e:=len_nil (nd.leaf (by simp));subst e;obtain⟨r1,r2,r3⟩:=nd.rng rfl;by_cases hl:lo=up
   ·subst hl;have d:jv (.mk 1 lo lo [])=decDigits lo.toNat:=by simp[jv]
    rw[d]at h⊢;obtain⟨n,A⟩:=Nc lo.toNat;have a:dg (pk s i):=by rw[rH,h,Tm n];omega
    unfold dg at a;have B:=hn.txt i lo.toNat t h (by omega) v;unfold ft;grind
   ·have d:jv (.mk 1 lo up [])=91::(decDigits lo.toNat++45::(decDigits up.toNat++[93])):=by simp[jv,hl]
    rw[d]at h⊢;have h:s.drop i=91::(decDigits lo.toNat++45::(decDigits up.toNat++93::t)):=by grind
    have a:pk s i=91:=by rw[rH,h];rfl
    have b:=DZ h;have x:=hn.txt _ lo.toNat _ b (by omega) (by show ¬dg 45;unfold dg;simp);have c:=kN b;have g:pk s (i+1+(decDigits lo.toNat).length)=45:=by rw[rH,c];rfl
    have j:=DZ c;have y:=hn.txt _ up.toNat _ j (by omega) (by show ¬dg 93;unfold dg;simp);have z:pk s (i+1+(decDigits lo.toNat).length+1+(decDigits up.toNat).length)=93:=by rw[rH,kN j];rfl
    unfold ft;rw[if_neg (by omega),if_neg (by omega),if_pos a,x];simp only;rw[if_pos g,y];simp only;rw[if_pos z,T_ r1,T_ (by omega)];simp;omega
  ·have e:=len_nil (nd.leaf (by simp));subst e;obtain⟨rfl,rfl⟩:=nd.zero (by simp);have h:s.drop i=46::t:=h;have a:pk s i=46:=by rw[rH,h];rfl
   unfold ft;rw[if_pos a];rfl
  ·exact absurd hc (by simp[comp])
  ·obtain⟨rfl,rfl⟩:=nd.zero (by simp);have e:ks=[]:=by simpa[comp]using hc
   subst e;have h:s.drop i=33::t:=by rw[h];simp[jv]
   have a:pk s i=33:=by rw[rH,h];rfl
   unfold ft;rw[if_neg (by omega),if_pos a];simp[jv]
  ·exact absurd hc (by simp[comp])
  ·exact absurd hc (by simp[comp])
  ·exact absurd hc (by simp[comp])
def f2(c:Nat):Prop:=c=0\/c=41\/c=124\/c=32
def zdb(s:List UInt8)(alt:Nat->Option (Rx×Nat))(b:Nat):Prop:=∀r,dF r=true->UC r<=b->∀i t,s.drop i=jv r++t->(hd t=0\/hd t=41)->alt i=some (r,i+(jv r).length)
theorem zbf(hn:NumOk s num){alt:Nat->Option (Rx×Nat)}{b:Nat}(z:zdb s alt b){r:Rx}(w:dF r=true)(C:UC r<=b+1)(j:M9 r=true->UC r<=b){i:Nat}{t:List UInt8} (h:s.drop i=qp 3 r++t) (A:f2 (hd t)):IV num s alt i=some (r,i+(qp 3 r).length):=by
 obtain⟨k,lo,up,ks⟩:=r;obtain⟨nd,g⟩:=well_iff.1 w;have u:¬dg (hd t):=by unfold f2 at A;unfold dg;omega
 by_cases B:k=5\/k=6\/k=7
 ·obtain⟨x,rfl⟩:=rE (nd.one B);obtain⟨rfl,rfl⟩:=nd.zero (by omega);have y:x∈[x]:=j_ ..;have D:=Mq y;have n:UC x<=b:=by simp only[UC]at C;omega
  have d:∀p:Int,(p=5\/p=6\/p=7)->qp p x=Br (comp x) (jv x):=λp hp=>by
   obtain⟨a,_,_,l⟩:=x;unfold qp;have:((p==5||p==6)||p==7)=true:=by grind
   simp only[ux,comp,this,Bool.and_true];have H:(p != 4)=true:=by grind
   grind
  have v:∃c:UInt8,qp 3 (.mk k 0 0 [x])=Br (comp x) (jv x)++[c]/\(c.toNat=42/\k=5\/c.toNat=43/\k=6\/c.toNat=63/\k=7):=by
   rcases B with rfl|rfl|rfl;·refine⟨42,?_,by simp⟩;show jv (.mk 5 0 0 [x])=_;simp[jv,ez,d]
   ·refine⟨43,?_,by simp⟩;show jv (.mk 6 0 0 [x])=_;simp[jv,ez,d]
   ·refine⟨63,?_,by simp⟩;show jv (.mk 7 0 0 [x])=_;simp[jv,ez,d]
  obtain⟨c,e,hc⟩:=v;rw[e]at h⊢;have h:s.drop i=Br (comp x) (jv x)++c::t:=by grind
  have f:=zaT hn (g x y) (λ_=>z x (g x y) n) h (by show ¬dg c.toNat;unfold dg;omega);have E:pk s (i+(Br (comp x) (jv x)).length)=c.toNat:=by rw[rH,kN h];rfl
  unfold IV;grind
 ·have e:qp 3 (.mk k lo up ks)=Br (comp (.mk k lo up ks)) (jv (.mk k lo up ks)):=by unfold qp;simp only[ux,comp];grind
  have F:comp (.mk k lo up ks)=M9 (.mk k lo up ks):=by simp only[comp,M9];grind
  rw[e]at h⊢;have f:=zaT hn w (λhc=>z _ w (j (by grind))) h u;have E:pk s (i+(Br (comp (.mk k lo up ks)) (jv (.mk k lo up ks))).length)=hd t:=by rw[rH,kN h]
  unfold IV;rw[f];unfold f2 at A;grind
theorem Tv{one:Nat->Option (Rx×Nat)}{f:Rx->List UInt8}{sep:UInt8}{E:Nat->Prop}:∀(ks:List Rx),ks≠[]->
 (∀x∈ks,∀i t,s.drop i=f x++t->(E (hd t)\/hd t=sep.toNat)->one i=some (x,i+(f x).length))->
 (∀x∈ks,f x≠[])->∀(b:Nat) (a:List Rx) (i:Nat) (t:List UInt8),s.drop i=jn sep (ks.map f)++t->E (hd t)->hd t≠sep.toNat->s.length+1<=b+i->i<=s.length->
 gX s sep.toNat one b a i=some (a++ks,i+(jn sep (ks.map f)).length)
 |[],h,_,_,_,_,_,_,_,_,_,_,_=>absurd rfl h
 |[x],_,d,c,b,a,i,t,h,j,hs,n,r=>by
  have h:s.drop i=f x++t:=h;have e:=d x (by simp) i t h (.inl j);obtain⟨m,rfl⟩:∃m,b=m+1:=⟨b - 1,by omega⟩;have l:pk s (i+(f x).length)=hd t:=by rw[rH,kN h]
  rw[gX,e];simp only;rw[if_neg (by omega)];rfl
 |x::y::ks,_,d,c,b,a,i,t,h,j,hs,n,r=>by
  have h:s.drop i=f x++sep::(jn sep ((y::ks).map f)++t):=by rw[h];simp[jn]
  have e:=d x (by simp) i _ h (.inr rfl);obtain⟨m,rfl⟩:∃m,b=m+1:=⟨b - 1,by omega⟩;have g:=kN h;have l:pk s (i+(f x).length)=sep.toNat:=by rw[rH,g];rfl
  have u:i+(f x).length<s.length:=by apply h_;intro p;rw[t_ (by omega)]at g;grind
  have:=Tv (y::ks) (by simp) (λz k=>d z (k_ _ k)) (λz k=>c z (k_ _ k)) m (a++[x]) (i+(f x).length+1) t (DZ g) j hs (by omega) (by omega);rw[gX,e];simp only;rw[if_pos l,this];simp[jn];omega
theorem AA{k:Int}{l:List Rx}(h:l.length≠1):zck k l= .mk k 0 0 l:=by
 unfold zck;split;·simp at h
 ·rfl
theorem seq_ok(hn:NumOk s num){alt:Nat->Option (Rx×Nat)}{b:Nat}(n:zdb s alt b){r:Rx}(u:dF r=true)(p:UC r<=b+1)(w:Na r=true->UC r<=b){i:Nat}{t:List UInt8} (h:s.drop i=qp 4 r++t) (y:hd t=0\/hd t=41\/hd t=124) (z:i<=s.length):zcH num s alt i=some (r,i+(qp 4 r).length):=by
 obtain⟨k,lo,up,ks⟩:=r;obtain⟨nd,d⟩:=well_iff.1 u;unfold zcH C7;by_cases A:k=3
 ·subst A;obtain⟨rfl,rfl⟩:=nd.zero (by simp);have D:2<=(ks.length:Int):=nd.seq rfl;have e:qp 4 (.mk 3 0 0 ks)=jn 32 (ks.map (qp 3)):=by show jv (.mk 3 0 0 ks)=_;simp[jv,ez]
  rw[e]at h⊢;have j:∀x∈ks,UC x<=b:=λx a=>by have:=Mq a;simp only[UC]at p;omega
  have l:ks≠[]:=by grind
  have:=Tv (one:=IV num s alt) (f:=qp 3) (sep:=32) (E:=λc=>c=0\/c=41\/c=124) ks l (λx a i t g hc=>zbf hn n (d x a) (by grind) (λ_=>j x a) g (by
   unfold f2;grind)) (λx a=>by
   unfold qp Br;cases ux 3 x;·exact(Mz x (d x a)).1
   simp) (s.length+1 - i) [] i t h y (by
   grind) (by omega) z
  have this:gX s 32 (IV num s alt) (s.length+1 - i) [] i=_:=this;rw[this];simp only[H_];rw[AA (by omega)]
 ·have e:qp 4 (.mk k lo up ks)=qp 3 (.mk k lo up ks):=by unfold qp;simp only[ux];grind
  have C:M9 (.mk k lo up ks)=Na (.mk k lo up ks):=by simp only[M9,Na];grind
  rw[e]at h⊢;have v:=zbf hn n u p (by grind) h (by unfold f2;omega);have F:pk s (i+(qp 3 (.mk k lo up ks)).length)=hd t:=by rw[rH,kN h]
  obtain⟨m,B⟩:∃m,s.length+1 - i=m+1:=⟨s.length - i,by omega⟩;rw[B,gX,v];simp only;rw[if_neg (by omega)];simp[zck]
theorem Mr{a t:List UInt8}{i:Nat}(h:s.drop i=a++t)(c:a≠[]):i<s.length:=by apply h_;intro b;rw[t_ (by omega)]at h;have:=List.append_eq_nil_iff.1 h.symm;grind
theorem zd7(p:Int){x:Rx}(a:dF x=true):qp p x≠[]:=by
 unfold qp Br;cases ux p x;·exact(Mz x a).1
 ·simp
theorem zdz(hn:NumOk s num):∀b:Nat,zdb s (Hn num s b) b
 |0=>λr _ l=>by cases r;simp[UC]at l
 |b+1=>λr p l i t h z=>by
  have w:=Mr h (Mz r p).1;have v:=zdz hn b;rw[Hn];unfold C7;cases hc:Na r with
  |true=>
   obtain⟨k,lo,up,ks⟩:=r;obtain⟨nd,a⟩:=well_iff.1 p;have A:k=4:=by simp only[Na]at hc;grind
   subst A;obtain⟨rfl,rfl⟩:=nd.zero (by simp);have j:ks≠[]:=by simpa[Na]using hc
   have u:(ks.length:Int)≠1:=nd.alt rfl;have e:jv (.mk 4 0 0 ks)=jn 124 (ks.map (qp 4)):=by simp[jv,ez,j]
   rw[e]at h⊢;have n:∀x∈ks,UC x<=b:=λx d=>by have:=Mq d;simp only[UC]at l;omega
   have:=Tv (one:=zcH num s (Hn num s b)) (f:=qp 4) (sep:=124) (E:=λc=>c=0\/c=41) ks j (λx d i t g hc=>seq_ok hn v (a x d) (by grind) (λ_=>n x d) g (by
    grind) (J_ (Mr g (zd7 4 (a x d))))) (λx d=>zd7 4 (a x d)) (s.length+1 - i) [] i t h z (by
    grind) (by omega) (J_ w)
   have this:gX s 124 (zcH num s (Hn num s b)) (s.length+1 - i) [] i=_:=this;rw[this];simp only[H_];rw[AA (by omega)]
  |false=>
   have e:jv r=qp 4 r:=by
    obtain⟨k,lo,up,ks⟩:=r;unfold qp;simp only[ux];simp only[Na]at hc;cases y:(k==4)
    ·cases C:(k==3);·simp[Br]
     ·simp[Br]
    ·rw[y]at hc;simp only[cond_true]at hc;simp only[cond_true,hc];rfl
   rw[e]at h⊢;have u:=seq_ok hn v p l (λh=>by grind) h (by omega) (J_ w);have D:pk s (i+(qp 4 r).length)=hd t:=by rw[rH,kN h]
   obtain⟨m,B⟩:∃m,s.length+1 - i=m+1:=⟨s.length - i,by omega⟩;rw[B,gX,u];simp only;rw[if_neg (by omega)];simp[zck]
end
theorem zfY:∀(r:Rx) (lv c:Int),(Di r lv c).2=0->lv+(UC r:Int)<=17:=by
 refine lT λk lo up ks f lv c h=>?_;rw[Di]at h;split at h;·omega
 split at h;·omega
 split at h;·omega
 have a:∀(l:List Rx),(∀r∈l,r∈ks)->∀(c:Int),(iY l (lv+1) c).2=0->lv+1+(YP l:Int)<=17:=by
  intro l;induction l with
  |nil=>intro _ c _;simp only[YP];omega|cons r l g=>
   intro b c h;rw[iY]at h;split at h;·omega
   ·rename_i d;have j:=f r (b r (j_ ..)) (lv+1) c (ah_.1 d);have n:=g (λx e=>b x (k_ _ e)) _ h;simp only[YP];omega
 have:=a ks (λ_ h=>h) _ h;simp only[UC];omega
theorem zcJ{num:Nat->Option (Int×Nat)}{r:Rx}(hn:NumOk (jv r) num)(c:dF r=true){b:Nat}(a:UC r<=b):Hn num (jv r) b 0=some (r,(jv r).length):=by have:=zdz hn b r c a 0 [] (by simp) (.inl rfl);grind
end Go.Pl
namespace Go.Proofs.YtmfolppncelceaaGreatDoor
open Go Go.Av Go.Ev Go.Pl
theorem Sz(k n:Int):aC tbl vW [.d tI k,.d tI n] [] gx (zO k,jk k n,()):=by
 refine ap rfl (aA T8 rfl (λO m=>bI (H3 O m k n)) ?_);unfold H3;by_cases j:k=0;·subst j;exact eO (λ_=>rfl) rfl
 by_cases l:k=1;·subst l;exact eO (λ_=>rfl) rfl
 by_cases p:k=2;·subst p;exact eO (λ_=>rfl) rfl
 by_cases r:k=3;·subst r;exact eO (λ_=>rfl) rfl
 by_cases s:k=4;·subst s;exact eO (λ_=>rfl) rfl
 by_cases u:k=5;·subst u;exact eO (λ_=>rfl) rfl
 by_cases v:k=6;·subst v;exact eO (λ_=>rfl) rfl
 by_cases w:k=7;·subst w;exact eO (λ_=>rfl) rfl
 have a:(k==(0:Int))=false:=by grind
 have b:(k==(1:Int))=false:=by grind
 have c:(k==(2:Int))=false:=by grind
 have d:(k==(3:Int))=false:=by grind
 have e:(k==(4:Int))=false:=by grind
 have f:(k==(5:Int))=false:=by grind
 have g:(k==(6:Int))=false:=by grind
 have h:(k==(7:Int))=false:=by grind
 simp only[a,b,c,d,e,f,g,h];refine eO (λ_=>rfl) ?_;simp only[zO,jk,a,b,c,d,e,f,g,h];rfl
theorem HP(r:Rx):aC tbl q6 [.d .rx r] [] gy (hZ r.out.1 r.out.2.1 r.out.2.2.1 (r.out.2.2.2.1.length:Int),()):=by
 refine ap rfl (aA T9 rfl (λO m=>bI (H4 O m r)) ?_);unfold H4;generalize r.out.1=k;generalize r.out.2.1=lo;generalize r.out.2.2.1=b;generalize(r.out.2.2.2.1.length:Int)=n;refine aj (Sz k n) ?_;unfold hZ;cases zO k;·exact eO (λ_=>rfl) rfl
 cases c:(k==(1:Int))
 ·have a:(k != (1:Int))=true:=by grind
  rw[a];cases(lo != (0:Int))<;>cases(b != (0:Int))<;>cases jk k n<;>exact eO (λ_=>rfl) rfl
 ·have a:(k != (1:Int))=false:=by grind
  rw[a];cases decide (lo<(0:Int))<;>cases decide (lo>b)<;>cases decide (b>(4294967295:Int))<;>cases jk k n<;>exact eO (λ_=>rfl) rfl
theorem zcB(k lo a:Int)(n:Int)(hn:0<=n):hZ k lo a n= bif k==1 then(bif decide (lo<0)||decide (lo>a)||decide (a>4294967295)then 5 else bif decide (n>0)then 1 else 0) else bif !zO k then 15 else bif !jk k n then 1 else bif lo != 0||a != 0 then 1 else 0:=by
 unfold hZ;cases c:(k==(1:Int));·grind
 ·have b:k=1:=by grind
  subst b;have:jk 1 n= !decide (n>0):=by show(n==0)=_;grind
  rw[this];cases decide (lo<(0:Int))<;>cases decide (lo>a)<;>cases decide (a>(4294967295:Int))<;>cases decide (n>0)<;>rfl
theorem Dn(r:Rx):aC tbl my [.d .rx r] [] fj (hZ r.out.1 r.out.2.1 r.out.2.2.1 (r.out.2.2.2.1.length:Int),()):=by
 refine ap rfl (aA OK rfl (λO m=>bI (DC O m r)) ?_);unfold DC;have hn:(0:Int)<=(r.out.2.2.2.1.length:Int):=by simp
 generalize(r.out.2.2.2.1.length:Int)=n at hn;rw[zcB _ _ _ _ hn];generalize r.out.1=k;generalize r.out.2.1=lo;generalize r.out.2.2.1=a;by_cases u:k=1;·subst u;cases decide (lo<(0:Int))<;>cases decide (lo>a)<;>cases decide (a>(4294967295:Int))<;>cases decide (n>0)<;>exact eO (λ_=>rfl) rfl
 have d:(k==(1:Int))=false:=by grind
 rw[d];have c:∀m:Int,0<=m->(m==0)= !decide (m>0):=λm B=>by grind
 by_cases s:k=0;·subst s;rw[show jk 0 n= !decide (n>0)from c n hn];cases decide (n>0)<;>cases(lo != (0:Int))<;>cases(a != (0:Int))<;>exact eO (λ_=>rfl) rfl
 by_cases v:k=2;·subst v;rw[show jk 2 n= !decide (n>0)from c n hn];cases decide (n>0)<;>cases(lo != (0:Int))<;>cases(a != (0:Int))<;>exact eO (λ_=>rfl) rfl
 by_cases w:k=3
 ·subst w;have:jk 3 n= !decide (n<2):=by show decide (n>=2)=_;grind
  rw[this];cases decide (n<2)<;>cases(lo != (0:Int))<;>cases(a != (0:Int))<;>exact eO (λ_=>rfl) rfl
 by_cases x:k=4;·subst x;show Wp _ _;have:jk 4 n= !(n==1):=rfl;rw[this];cases(n==(1:Int))<;>cases(lo != (0:Int))<;>cases(a != (0:Int))<;>exact eO (λ_=>rfl) rfl
 have b:∀m:Int,(m==1)= !(m != 1):=λm=>by grind
 by_cases y:k=5;·subst y;rw[show jk 5 n= !(n != 1)from b n];cases(n != (1:Int))<;>cases(lo != (0:Int))<;>cases(a != (0:Int))<;>exact eO (λ_=>rfl) rfl
 by_cases z:k=6;·subst z;rw[show jk 6 n= !(n != 1)from b n];cases(n != (1:Int))<;>cases(lo != (0:Int))<;>cases(a != (0:Int))<;>exact eO (λ_=>rfl) rfl
 by_cases A:k=7;·subst A;rw[show jk 7 n= !(n != 1)from b n];cases(n != (1:Int))<;>cases(lo != (0:Int))<;>cases(a != (0:Int))<;>exact eO (λ_=>rfl) rfl
 have e:(k==(0:Int))=false:=by grind
 have f:(k==(2:Int))=false:=by grind
 have g:(k==(3:Int))=false:=by grind
 have h:(k==(4:Int))=false:=by grind
 have j:(k==(5:Int))=false:=by grind
 have l:(k==(6:Int))=false:=by grind
 have p:(k==(7:Int))=false:=by grind
 simp only[zO,e,d,f,g,h,j,l,p];exact eO (λ_=>rfl) rfl
theorem Hu{k lo up:Int}{ks:List Rx}{M:Nat}(h:sz (.mk k lo up ks)<=M):ks.length<M/\∀r∈ks,sz r<M:=by simp only[sz]at h;have a:=I9 ks;exact⟨by omega,λr hr=>by have:=we hr;omega⟩
theorem SB:∀(r:Rx),sz r<=1000000->aC tbl q7 [.d .rx r] [] iV (dF r,()):=by
 refine lT λk lo up ks n hs=>?_;obtain⟨c,b⟩:=Hu hs;refine ap rfl (aA Uw rfl (λO m=>bI (H6 O m (.mk k lo up ks))) ?_);unfold H6;refine aj (HP _) ?_;show Wp _ _;have l:dF (.mk k lo up ks)=(hZ k lo up ks.length==0&&xz ks):=rfl;refine ao (λh=>aa ?_) λh=>?_
 ·have:(hZ k lo up ks.length==0)=false:=by have h:(hZ k lo up ks.length != 0)=true:=h;grind
  grind
 ·have d:(hZ k lo up ks.length==0)=true:=by have h:(hZ k lo up ks.length != 0)=false:=h;grind
  rw[l,d,M_];refine ae (wg (xs:=ks) (P:=λr=>dF r=true) (e:=(false,())) (g:=()) (λi a=>?_) ?_ (λhg=>?_) (λf=>?_));·unfold wD;refine a6 a (aF a ?_);rw[cT];have hr:=a_ a;refine aj (n ks[i] hr (by grind)) (pE ?_ (by rw[aB a (by omega)]));simp
  ·unfold wD;exact aT (aa rfl)
  ·refine aa ?_;rw[(s5 ks).2 hg]
  ·refine aa ?_;have:xz ks=false:=by
    cases j:xz ks;·rfl
    ·exact absurd ((s5 ks).1 j) f
   grind
theorem GY:∀(r:Rx),sz r<=1000000->aC tbl gS [.d .rx r] [] cD (dF r,()):=by
 refine lT λk lo up ks n hs=>?_;obtain⟨c,b⟩:=Hu hs;refine ap rfl (aA HC rfl (λO m=>bI (wv O m (.mk k lo up ks))) ?_);unfold wv;refine aj (Dn _) ?_;show Wp _ _;have l:dF (.mk k lo up ks)=(hZ k lo up ks.length==0&&xz ks):=rfl;refine ao (λh=>aa ?_) λh=>?_
 ·have:(hZ k lo up ks.length==0)=false:=by have h:(hZ k lo up ks.length != 0)=true:=h;grind
  grind
 ·have d:(hZ k lo up ks.length==0)=true:=by have h:(hZ k lo up ks.length != 0)=false:=h;grind
  rw[l,d,M_];refine ae (wg (xs:=ks) (P:=λr=>dF r=true) (e:=(false,())) (g:=()) (λi a=>?_) ?_ (λhg=>?_) (λf=>?_));·unfold mr;refine a6 a (aF a ?_);rw[cT];have hr:=a_ a;refine aj (n ks[i] hr (by grind)) (pE ?_ (by rw[aB a (by omega)]));simp
  ·unfold mr;exact aT (aa rfl)
  ·refine aa ?_;rw[(s5 ks).2 hg]
  ·refine aa ?_;have:xz ks=false:=by
    cases j:xz ks;·rfl
    ·exact absurd ((s5 ks).1 j) f
   grind
theorem EY{ks:List Rx}{lv c:Int}:∀{i:Nat},(h:i<ks.length)->(iY (ks.take i) lv c).2=0->iY (ks.take (i+1)) lv c=(let p:=Di ks[i] lv (iY (ks.take i) lv c).1;(p.1,p.2)):=by intro i;induction ks generalizing c i with|nil=>simp|cons r ks b=>intro h a;cases i with|zero=>simp only[List.take_zero,I_,iY,List.getElem_cons_zero];grind|succ i=>simp only[I_,iY,List.getElem_cons_succ]at a⊢;grind
theorem Ii{lv:Int}:∀{ks:List Rx} {c:Int} {i:Nat},(iY (ks.take i) lv c).2≠0->iY ks lv c=iY (ks.take i) lv c:=by intro ks;induction ks with|nil=>simp|cons r ks a=>intro c i h;cases i with|zero=>simp[iY]at h|succ i=>simp only[I_,iY]at h⊢;grind
theorem JL:∀(r:Rx) (lv c:Int),0<=c->c<=64->c<=(Di r lv c).1/\(Di r lv c).1<=64:=by
 refine lT λk lo up ks d lv c b a=>?_;have hs:∀(l:List Rx) (lv c:Int),(∀r∈l,r∈ks)->0<=c->c<=64->c<=(iY l lv c).1/\(iY l lv c).1<=64:=by intro l;induction l with|nil=>intro lv c _ b a;exact⟨af_ _,a⟩|cons r l e=>intro lv c hl b a;have hr:=d r (hl r (j_ ..)) lv c b a;simp only[iY];grind
 simp only[Di];grind
theorem O8:∀(r:Rx),sz r<=1048576->∀(lv c:Int),0<=lv->lv<=17->0<=c->c<=64->aC tbl oA [.d .rx r,.d tI lv,.d tI c] [] dH ((Di r lv c).1,(Di r lv c).2,()):=by
 refine lT λk lo up ks B hs lv c y z w x=>?_;obtain⟨n,l⟩:=Hu hs;refine ap rfl (aA QJ rfl (λO m=>bI (Gk O m (.mk k lo up ks) lv c)) ?_);unfold Gk;refine ao (λh=>aa ?_) λh=>?_
 ·have h:lv>16:=by grind
  simp only[Di,if_pos h]
 have f:¬lv>16:=by grind
 refine ao (λh=>aa ?_) λh=>?_
 ·have h:c>=64:=by grind
  simp only[Di,if_neg f,if_pos h]
 have j:¬c>=64:=by grind
 refine aj (Dn _) ?_;show Wp _ _;refine ao (λh=>aa ?_) λh=>?_
 ·have h:hZ k lo up ks.length≠0:=by have h:(hZ k lo up ks.length != 0)=true:=h;grind
  simp only[Di,if_neg f,if_neg j,if_pos h];rfl
 have v:¬hZ k lo up ks.length≠0:=by have h:(hZ k lo up ks.length != 0)=false:=h;grind
 have p:Di (.mk k lo up ks) lv c=iY ks (lv+1) (c+1):=by simp only[Di,if_neg f,if_neg j,if_neg v]
 rw[p,wrap_i64 (by omega) (by omega)];have a:∀i,(iY (ks.take i) (lv+1) (c+1)).2=0->0<=(iY (ks.take i) (lv+1) (c+1)).1/\(iY (ks.take i) (lv+1) (c+1)).1<=64:=by
  intro i;induction i with
  |zero=>intro _;simp[iY];omega|succ i g=>
   intro u;by_cases b:i<ks.length
   ·have d:(iY (ks.take i) (lv+1) (c+1)).2=0:=h_ λhn=>by have:=Ii (ks:=ks.take (i+1)) (lv:=lv+1) (c:=c+1) (i:=i) (by grind);grind
    rw[EY b d];have hr:=g d;have:=JL ks[i] (lv+1) _ hr.1 hr.2;grind
   ·rw[show ks.take (i+1)=ks.take i by rw[g_ (by omega),g_ (by omega)]]at u⊢;omega
 refine ae (a8 (N:=ks.length) (I:=λi s=>s=((iY (ks.take i) (lv+1) (c+1)).1,(i:Int),())/\(iY (ks.take i) (lv+1) (c+1)).2=0) (by simp[iY]) (λi s b hs=>?_) λs hs=>?_)
 ·obtain⟨rfl,d⟩:=hs;unfold uF;refine a6 b (aF b ?_);rw[cT,wrap_i64 (by omega) (by omega)];have hr:=a_ b;have e:=a i d;refine aj (B ks[i] hr (by grind) (lv+1) _ (by omega) (by omega) e.1 e.2) ?_;have A:=EY b d;refine ao (λh=>aa ?_) λh=>aa ?_
  ·have hn:(Di ks[i] (lv+1) (iY (ks.take i) (lv+1) (c+1)).1).2≠0:=by grind
   have C:=Ii (ks:=ks) (lv:=lv+1) (c:=c+1) (i:=i+1) (by grind);refine aa ?_;grind
  ·have hn:(Di ks[i] (lv+1) (iY (ks.take i) (lv+1) (c+1)).1).2=0:=by grind
   refine⟨?_,by grind⟩;rw[aB b (by omega),A]
 ·obtain⟨rfl,d⟩:=hs;unfold uF;refine aT (aa (aa ?_));grind
theorem Ps:∀(r:Rx),sz r<=1048576->∀(lv c:Int),0<=lv->lv<=17->0<=c->c<=64->∃s:Int,((Di r lv c).2=0->s=(Di r lv c).1)/\aC tbl fo [.d .rx r,.d tI lv,.ptr 0 0] [.box fS [.d tI c]] bL ((Di r lv c).2,s,()):=by
 refine lT λk lo up ks E hs lv c B C z A=>?_;obtain⟨u,p⟩:=Hu hs;suffices h:∃x:Int×Int×Unit,(x.1=(Di (.mk k lo up ks) lv c).2/\((Di (.mk k lo up ks) lv c).2=0->x.2.1=(Di (.mk k lo up ks) lv c).1))/\aC tbl fo [.d .rx (.mk k lo up ks),.d tI lv,.ptr 0 0] [.box fS [.d tI c]] bL x by grind
 refine oN (sh:=bL) (λ_=>rfl) (aA Jm rfl (λO m=>bI (xW O m (.mk k lo up ks) lv c)) ?_);unfold xW;refine ao (λh=>aa ⟨_,rfl,?_⟩) λh=>?_
 ·have h:lv>16:=by grind
  simp only[Di,if_pos h];simp
 have f:¬lv>16:=by grind
 refine ao (λh=>aa ⟨_,rfl,?_⟩) λh=>?_
 ·have h:c>=64:=by grind
  simp only[Di,if_neg f,if_pos h];simp
 have n:¬c>=64:=by grind
 refine aj (HP _) ?_;show Wp _ _;refine ao (λh=>aa ⟨_,rfl,?_⟩) λh=>?_
 ·have h:hZ k lo up ks.length≠0:=by have h:(hZ k lo up ks.length != 0)=true:=h;grind
  simp only[Di,if_neg f,if_neg n,if_pos h];exact⟨rfl,λh'=>absurd h' h⟩
 have y:¬hZ k lo up ks.length≠0:=by have h:(hZ k lo up ks.length != 0)=false:=h;grind
 have v:Di (.mk k lo up ks) lv c=iY ks (lv+1) (c+1):=by simp only[Di,if_neg f,if_neg n,if_neg y]
 rw[v,wrap_i64 (by omega) (by omega)];have a:∀i,(iY (ks.take i) (lv+1) (c+1)).2=0->0<=(iY (ks.take i) (lv+1) (c+1)).1/\(iY (ks.take i) (lv+1) (c+1)).1<=64:=by
  intro i;induction i with
  |zero=>intro _;simp[iY];omega|succ i l=>
   intro w;by_cases b:i<ks.length
   ·have d:(iY (ks.take i) (lv+1) (c+1)).2=0:=h_ λhn=>by have:=Ii (ks:=ks.take (i+1)) (lv:=lv+1) (c:=c+1) (i:=i) (by grind);grind
    rw[EY b d];have hr:=l d;have:=JL ks[i] (lv+1) _ hr.1 hr.2;grind
   ·rw[show ks.take (i+1)=ks.take i by rw[g_ (by omega),g_ (by omega)]]at w⊢;omega
 refine ae (a8 (N:=ks.length) (I:=λi s=>s=((i:Int),(iY (ks.take i) (lv+1) (c+1)).1,())/\(iY (ks.take i) (lv+1) (c+1)).2=0) (by simp[iY]) (λi s b hs=>?_) λs hs=>?_)
 ·obtain⟨rfl,d⟩:=hs;unfold nR;refine a6 b (aF b ?_);rw[cT,wrap_i64 (by omega) (by omega)];have hr:=a_ b;have e:=a i d;obtain⟨s,g,j⟩:=E ks[i] hr (by grind) (lv+1) _ (by omega) (by omega) e.1 e.2;refine aj j ?_;have D:=EY b d;refine ao (λh=>aa ?_) λh=>aa ?_
  ·have hn:(Di ks[i] (lv+1) (iY (ks.take i) (lv+1) (c+1)).1).2≠0:=by grind
   have F:=Ii (ks:=ks) (lv:=lv+1) (c:=c+1) (i:=i+1) (by grind);refine aa ⟨_,rfl,?_⟩;grind
  ·have hn:(Di ks[i] (lv+1) (iY (ks.take i) (lv+1) (c+1)).1).2=0:=by grind
   refine⟨?_,by grind⟩;rw[aB b (by omega),D,g hn]
 ·obtain⟨rfl,d⟩:=hs;unfold nR;refine aT (aa (aa ⟨_,rfl,?_⟩));grind
def mD(r:Rx):Int:=(Di r 1 0).2
theorem O7(r:Rx)(hs:sz r<=1048576):aC tbl tf [.d .rx r] [] oZ (mD r,()):=by refine ap rfl (aA QG rfl (λO m=>bI (Gh O m r)) ?_);unfold Gh;exact aj (O8 r hs 1 0 (by simp) (by simp) (by simp) (by simp)) (aa rfl)
theorem Pq(r:Rx)(hs:sz r<=1048576):aC tbl tC [.d .rx r] [] pc (mD r,()):=by refine ap rfl (aA Q2 rfl (λO m=>bI (zje O m r)) ?_);unfold zje;obtain⟨s,_,h⟩:=Ps r hs 1 0 (by simp) (by simp) (by simp) (by simp);exact aj h (aa rfl)
theorem zdJ:∀(r:Rx) (lv c:Int),(Di r lv c).2=0->dF r=true/\(Di r lv c).1=c+(sz r:Int):=by
 refine lT λk lo up ks p lv c h=>?_;have hs:∀(l:List Rx) (lv c:Int),(∀r∈l,r∈ks)->(iY l lv c).2=0->(∀r∈l,dF r=true)/\(iY l lv c).1=c+(C8 l:Int):=by
  intro l;induction l with
  |nil=>intro lv c _ _;exact⟨by simp,by simp[iY,C8]⟩|cons r l f=>
   intro lv c hl h;simp only[iY]at h⊢;split at h;·omega
   ·rename_i d;rw[if_neg d];have d:(Di r lv c).2=0:=by omega
    obtain⟨g,e⟩:=p r (hl r (j_ ..)) lv c d;obtain⟨s,n⟩:=f lv _ (λx j=>hl x (k_ _ j)) h;refine⟨λx j=>?_,by rw[n,e];simp only[C8];omega⟩;grind
 simp only[Di]at h⊢;split at h;·omega
 split at h;·omega
 split at h;·omega
 ·rename_i a b d;rw[if_neg a,if_neg b,if_neg d];obtain⟨g,e⟩:=hs ks (lv+1) (c+1) (λ_ h=>h) h;have d:hZ k lo up ks.length=0:=by omega
  exact⟨well_iff.2 ⟨nodeE_zero.1 d,g⟩,by rw[e];simp only[sz];omega⟩
theorem Rp{r:Rx}(h:mD r=0):dF r=true/\sz r<=64:=by obtain⟨a,b⟩:=zdJ r 1 0 h;have:=JL r 1 0 (by simp) (by simp);grind
theorem JC:∀(r:Rx),sz r<=1000000->aC tbl jB [.d .rx r] [] bF (Wu r,()):=by
 refine lT λk lo up ks B hs=>?_;obtain⟨e,d⟩:=Hu hs;refine ap rfl (aA Kx rfl (λO m=>bI (Ak O m (.mk k lo up ks))) ?_);unfold Ak;refine ae (a8 (N:=ks.length) (I:=λi s=>s=(C5 (ks.take i),C4 (ks.take i),(i:Int),())) (by simp[C5,C4]) (λi s c hs=>?_) λs hs=>?_)
 ·subst hs;unfold pN;refine a6 c (aF c ?_);rw[cT];have hr:=a_ c;refine aj (B ks[i] hr (by grind)) ?_;refine ae (bn (b:=Wu ks[i]) (λ_=>aa rfl) (ae (bb (b:=Wu ks[i]) (λ_=>aa rfl) (aa ?_))));have g:C5 (ks.take (i+1))=(C5 (ks.take i)||Wu ks[i]):=by rw[l_,b_ c,Ww];simp[C5]
  have h:C4 (ks.take (i+1))=(C4 (ks.take i)&&Wu ks[i]):=by rw[l_,b_ c,Wv];simp[C4]
  rw[g,h,aB c (by omega)]
 ·subst hs;unfold pN;refine aT (aa ?_);rw[m_];show Wp _ _;have hn:Wu (.mk k lo up ks)=bif k==0||k==5||k==7 then true else bif k==3||k==6 then C4 ks else bif k==4 then C5 ks else false:=rfl;rw[hn];show Wp (λ_=>d_ (bif (k==(0:Int))then some (((k==(0:Int)),()))else bif (k==(5:Int))then some (((k==(5:Int)),()))else some (((k==(7:Int)),()))) _) _;by_cases v:k=0;·subst v;exact eO (λ_=>rfl) rfl
  by_cases y:k=5;·subst y;exact eO (λ_=>rfl) rfl
  by_cases A:k=7;·subst A;exact eO (λ_=>rfl) rfl
  by_cases w:k=3;·subst w;exact eO (λ_=>rfl) rfl
  by_cases z:k=6;·subst z;exact eO (λ_=>rfl) rfl
  by_cases x:k=4;·subst x;exact eO (λ_=>rfl) rfl
  have f:(k==(0:Int))=false:=by grind
  have j:(k==(3:Int))=false:=by grind
  have l:(k==(4:Int))=false:=by grind
  have n:(k==(5:Int))=false:=by grind
  have p:(k==(6:Int))=false:=by grind
  have u:(k==(7:Int))=false:=by grind
  refine eO (a:=some (jm bF (false,()))) (λ_=>?_) ?_;·show d_ (bif (k==(0:Int))then some (((k==(0:Int)),()))else bif (k==(5:Int))then some (((k==(5:Int)),()))else some (((k==(7:Int)),()))) (λC=>bif C.1 then ar bF (true,())else d_ (bif (k==(3:Int))then some (((k==(3:Int)),()))else some (((k==(6:Int)),()))) λD=>bif D.1 then ar bF (C4 ks,())else bif (k==(4:Int))then ar bF (C5 ks,())else ar bF (false,()))=_;rw[f,n,u,j,p,l];rfl
  grind
open Go Go.Av Go.Ev Go.Pl Go.Lib
theorem zg5{n:Int}(c:0<=n)(d:n<=4294967295):aC tbl mB [.d tI n] [] xm (decDigits n.toNat,()):=by
 refine As OR ?_ rfl;have a:zge n=true:=by simp only[zge,x_,decide_eq_true_eq];omega
 have b:Lib.itoa n=decDigits n.toNat:=by unfold Lib.itoa;grind
 simp only[Fc,a,cond_true,b];rfl
theorem Jv{n:Int}(a:0<=n)(b:n<=4294967295):aC tbl im [.d tI n] [] fE (decDigits n.toNat,()):=by refine ap rfl (aA L6 rfl (λO k=>bI (Cr O k n)) ?_);unfold Cr;exact aj (zg5 a b) (aa rfl)
theorem zdi:∀(n:Nat) (m:Int),m=(n:Int)->n<=4294967295->aC tbl jA [.d tQ m] [] fh (decDigits n,()):=by
 intro n;induction n using Nat.strongRecOn with
 |ind n h=>
  intro m g hn;subst g;refine ap rfl (aA OJ rfl (λO k=>bI (Dz O k (n:Int))) ?_);unfold Dz;have c:c_ .u8 (c_ .u64 ((48:Int)+(Int.tmod (n:Int) (10:Int))))=((48+n%10:Nat):Int):=by rw[wrap_u8,wrap_u64,Int.tmod_eq_emod_of_nonneg (by simp)];omega
  refine aD rfl ?_;refine ao (λf=>?_) (λe=>?_)
  ·have a:n<10:=by grind
   refine aa ?_;have:decDigits n=[UInt8.ofNat (48+n)]:=by rw[decDigits,dif_pos a]
   grind
  ·have b:10<=n:=by grind
   have d:c_ .u64 (Int.tdiv (n:Int) 10)=((n/10:Nat):Int):=by rw[wrap_u64,K_ (by simp)];omega
   have hl:=pT (show n/10<=4294967295 by omega);refine aD rfl (aj (h (n/10) (by omega) _ d (by omega)) (aD ?_ (aa ?_)));·grind
   ·rw[c];have:decDigits n=decDigits (n/10)++[UInt8.ofNat (48+n%10)]:=by conv=>lhs;rw[decDigits,dif_neg (by omega)]
    rw[this];rfl
theorem AZ{n:Int}(b:0<=n)(c:n<=4294967295):aC tbl io [.d tI n] [] d7 (decDigits n.toNat,()):=by refine ap rfl (aA Md rfl (λO k=>bI (Cx O k n)) ?_);unfold Cx;refine ao (λa=>absurd (of_decide_eq_true a) (by omega)) (λ_=>?_);exact aj (zdi n.toNat _ (by rw[wrap_u64];omega) (by omega)) (aa rfl)
theorem zfk(ks:List Rx)(i:Nat):C8 (ks.take i)<=C8 ks:=by have:=TU (ks.take i) (ks.drop i);rw[B_]at this;omega
theorem zba(p:Int){x:Rx}(a:dF x=true):(qp p x).length+1<=26*sz x:=by have:=zbb p x;have:=MA x a;omega
theorem zfj(p:Int):∀l:List Rx,(∀x∈l,dF x=true)->((l.map (qp p)).map λx=>x.length+1).sum<=26*C8 l
 |[],_=>by simp
 |r::l,h=>by have b:=zba p (h r (j_ ..));have c:=zfj p l λx a=>h x (k_ _ a);simp only[N_,ac_,C8]at*;omega
theorem ziV(c:UInt8)(p:Int)(l:List Rx)(h:∀x∈l,dF x=true):(jn c (l.map (qp p))).length<=26*C8 l:=X_ (Tp c _) (zfj p l h)
theorem z6{α β:Type}(f:α->β){l:List α}{i:Nat}(h:i<l.length):(l.take (i+1)).map f=(l.take i).map f++[f l[i]]:=by rw[l_,b_ h,v_];rfl
theorem Cn(k:Int):aC tbl kK [.d tI k] [] iz (k==5||k==6||k==7,()):=by refine ap rfl (aA Mk rfl (λO m=>bI (CI O m k)) ?_);unfold CI;cases(k==(5:Int))<;>cases(k==(6:Int))<;>exact eO (λ_=>rfl) rfl
theorem Lb(ks:List Rx):decide ((ks.length:Int)>0)= !ks.isEmpty:=by cases ks with|nil=>rfl|cons x l=>simp
theorem XF(p k lo up:Int)(ks:List Rx):ux p (.mk k lo up ks)=bif k==4 then !ks.isEmpty else bif k==3 then p != 4 else(k==5||k==6||k==7)&&(p==5||p==6||p==7):=rfl
theorem Lu(p:Int)(x:Rx):aC tbl pB [.d tI p,.d .rx x] [] fI (ux p x,()):=by
 obtain⟨k,lo,up,ks⟩:=x;refine ap rfl (aA Ml rfl (λO m=>bI (CJ O m p (.mk k lo up ks))) ?_);unfold CJ;rw[XF];refine ao (λh=>aa ?_) λh=>?_;·have h:(k==4)=true:=h;rw[h,cond_true,<-Lb];rfl
 have h:(k==4)=false:=h;rw[h,cond_false];refine ao (λh=>aa ?_) λh=>?_;·have h:(k==3)=true:=h;grind
 have h:(k==3)=false:=h;rw[h,cond_false];refine aj (Cn k) (ae (bb (b:=(p==5||p==6||p==7)) (λ_=>aj (Cn p) (aa rfl)) (aa rfl)))
theorem V3(p:Int)(x:Rx)(hl:(jv x).length<=1000000)(h:aC tbl iM [.d .rx x] [] fa (jv x,())):aC tbl gz [.d tI p,.d .rx x] [] dJ (qp p x,()):=by
 refine ap rfl (aA Q7 rfl (λO m=>bI (GJ O m p x)) ?_);unfold GJ;refine aj h (aj (Lu p x) (ao (λa=>aD (decide_eq_true ?_) (aD (decide_eq_true ?_) (aa ?_))) λa=>aa ?_));·grind
 ·grind
 ·have a:ux p x=true:=a;unfold qp;rw[a];rfl
 ·have a:ux p x=false:=a;unfold qp;rw[a];rfl
theorem Sd(k lo up:Int)(ks:List Rx)(c:UInt8)(f:∀x∈ks,dF x=true)(w:C8 ks<=1000)(h:∀x∈ks,aC tbl iM [.d .rx x] [] fa (jv x,())): Wp (λn=>aL n (qO (sC tbl n) n (.mk k lo up ks) ([c],())) (([]:List UInt8),(0:Int),())) λt=>t=(jn c (ks.map (qp k)),()):=by
 have g:=I9 ks;refine a8 (N:=ks.length) (I:=λi s=>s=(jn c ((ks.take i).map (qp k)),(i:Int),())) rfl ?_ ?_
 ·rintro i s b rfl;have d:=a_ b;have u:=ziV c k (ks.take i) λx r=>f x (G_ r);have p:=zfk ks i;have j:=zba k (f _ d);have l:=we d;have hp:=MA _ (f _ d);unfold qO;refine a6 b (aF b ?_);have hc:=V3 k ks[i] (by omega) (h _ d);rw[z6 _ b,Tq];refine ae (Ev.wp_mono (Q:=λv=>v=((if(ks.take i).map (qp k)=[]then []else jn c ((ks.take i).map (qp k))++[c]),ks[i].out.1,ks[i].out.2.1,ks[i].out.2.2.1,ks[i].out.2.2.2.1,())) (ao (λa=>aD (decide_eq_true ?_) (aa ?_)) λa=>aa ?_) ?_);·grind
  ·have a:(i:Int)>0:=of_decide_eq_true a;rw[if_neg (by intro e;have:=congrArg ag_ e;grind)];rfl
  ·have a:¬(i:Int)>0:=of_decide_eq_false a;have:i=0:=by omega
   subst this;rfl
  rintro v rfl;rw[cT];refine aj hc (aD (decide_eq_true ?_) (aa ?_));·grind
  ·show(_,c_ .i64 ((i:Int)+1),())=_;rw[aB b (by omega)];grind
 ·rintro s rfl;unfold qO;rw[m_];exact aT (aa rfl)
theorem SA:∀(r:Rx),dF r=true->sz r<=1000->aC tbl iM [.d .rx r] [] fa (jv r,()):=by
 refine lT λk lo up ks l j hs=>?_;obtain⟨nd,a⟩:=well_iff.1 j;have hsz:C8 ks<=1000:=by simp only[sz]at hs;omega
 have c:∀x∈ks,aC tbl iM [.d .rx x] [] fa (jv x,()):=λx b=>l x b (a x b) (by have:=we b;omega);refine ap rfl (aA Uv rfl (λO m=>bI (H5 O m (.mk k lo up ks))) ?_);unfold H5;have one:∀x,ks=[x]->∀p:Int,aC tbl gz [.d tI p,.d .rx x] [] dJ (qp p x,())/\(qp p x).length<=26000:=λx e p=>by
  have b:x∈ks:=by grind
  have s:=MA x (a x b);have u:=we b;have v:=zba p (a x b);exact⟨V3 p x (by omega) (c x b),by omega⟩
 rcases nd.known with rfl|rfl|rfl|rfl|rfl|rfl|rfl|rfl;·refine ae (aE rfl (aa (aa ?_)));simp[jv]
 ·obtain⟨r1,r2,r3⟩:=nd.rng rfl;refine ae (an rfl (an rfl (aE rfl (ao (λh=>?_) λh=>?_))))
  ·have h:(lo==up)=true:=h;have h:lo=up:=by grind
   subst h;refine aj (Jv (n:=lo) r1 r3) (aa (aa ?_));simp[jv]
  ·have h:(lo==up)=false:=h;have h:lo≠up:=by grind
   have l1:=pT (n:=lo.toNat) (by omega);have l2:=pT (n:=up.toNat) (by omega);refine aj (Jv (n:=lo) r1 (by omega)) (aD (decide_eq_true ?_) (aD (decide_eq_true ?_) (aj (Jv (n:=up) (by omega) r3) (aD (decide_eq_true ?_) (aD (decide_eq_true ?_) (aa (aa ?_)))))));·grind
   ·grind
   ·grind
   ·grind
   ·simp[jv,h]
 ·refine ae (an rfl (aE rfl (aa (aa ?_))));simp[jv]
 ·obtain⟨rfl,rfl⟩:=nd.zero (by simp);refine ae (an rfl (an rfl (an rfl (an rfl (an rfl (an rfl (an rfl (aa ?_))))))));refine ae (Ev.wp_mono (Sd 3 0 0 ks 32 a hsz c) ?_);rintro t rfl;refine aa ?_;simp[jv,ez]
 ·obtain⟨rfl,rfl⟩:=nd.zero (by simp);refine ae (an rfl (an rfl (an rfl (an rfl (an rfl (an rfl (aE rfl (ao (λh=>aa (aa ?_)) λh=>aa ?_))))))));·have h:((ks.length:Int)==0)=true:=h;have h:=len_nil (by simpa using h);subst h;simp[jv]
  ·have h:((ks.length:Int)==0)=false:=h;have f:ks≠[]:=by grind
   refine ae (Ev.wp_mono (Sd 4 0 0 ks 124 a hsz c) ?_);rintro t rfl;refine aa ?_;simp[jv,ez,f]
 ·obtain⟨rfl,rfl⟩:=nd.zero (by simp);obtain⟨x,rfl⟩:=rE (nd.one (by simp));obtain⟨d,g⟩:=one x rfl 5;refine ae (an rfl (an rfl (an rfl (aE rfl (jh (by simp) rfl (aj d (aD (decide_eq_true ?_) (aa (aa ?_)))))))));·grind
  ·simp[jv,ez]
 ·obtain⟨rfl,rfl⟩:=nd.zero (by simp);obtain⟨x,rfl⟩:=rE (nd.one (by simp));obtain⟨d,g⟩:=one x rfl 6;refine ae (an rfl (an rfl (an rfl (an rfl (aE rfl (jh (by simp) rfl (aj d (aD (decide_eq_true ?_) (aa (aa ?_))))))))));·grind
  ·simp[jv,ez]
 ·obtain⟨rfl,rfl⟩:=nd.zero (by simp);obtain⟨x,rfl⟩:=rE (nd.one (by simp));obtain⟨d,g⟩:=one x rfl 7;refine ae (an rfl (an rfl (an rfl (an rfl (an rfl (aE rfl (jh (by simp) rfl (aj d (aD (decide_eq_true ?_) (aa (aa ?_)))))))))));·grind
  ·simp[jv,ez]
theorem Pr(r:Rx)(hs:sz r<=1048576):aC tbl kW [.d .rx r] [] jd (if mD r=0 then jv r else [],mD r,()):=by
 refine ap rfl (aA Q5 rfl (λO m=>bI (GH O m r)) ?_);unfold GH;refine aj (Pq r hs) (ao (λh=>aa ?_) λh=>?_);·grind
 ·have h:mD r=0:=by grind
  obtain⟨a,b⟩:=Rp h;refine aj (SA r a (by omega)) (aa ?_);grind
theorem JD(p x:Rx):aC tbl nj [.d .rx p,.d .rx x] [] dD (ux p.out.1 x,()):=by
 obtain⟨k,lo,up,ks⟩:=x;refine ap rfl (aA Ky rfl (λO m=>bI (Al O m p (.mk k lo up ks))) ?_);unfold Al;generalize p.out.1=q;refine ae (bn (b:=(q==6)) (λ_=>aa rfl) (ae (bn (b:=(q==7)) (λ_=>aa rfl) ?_)));rw[XF];refine ao (λh=>aa ?_) λh=>?_;·have h:(k==3)=true:=h;grind
 have a:(k==3)=false:=h;refine ao (λh=>aa ?_) λh=>?_;·have h:(k==4)=true:=h;rw[h,cond_true,<-Lb];rfl
 have c:(k==4)=false:=h;rw[a,c,cond_false,cond_false];refine ae (Ev.wp_mono (Q:=λv=>v=(k==5||k==6||k==7,())) (ao (λh=>aa ?_) λh=>ao (λh'=>aa ?_) λh'=>aa ?_) ?_);·have h:(k==5)=true:=h;grind
 ·have h:(k==5)=false:=h;have h':(k==6)=true:=h';grind
 ·have h:(k==5)=false:=h;have h':(k==6)=false:=h';show((k==7),())=_;grind
 rintro v rfl;refine ao (λh=>aa ?_) λh=>aa ?_;all_goals grind
theorem Oy(f:List UInt8->Nat):∀(l:List (List UInt8)) (i:Nat),((l.take i).map f).sum<=(l.map f).sum
 |[],i=>by simp
 |x::l,0=>by simp
 |x::l,i+1=>by have:=Oy f l i;grind
theorem Do(l:List (List UInt8))(c:UInt8)(hl:(l.map λx=>x.length+1).sum<=1000000):aC tbl mz [.d (.list tS) l,.d tS [c]] [] jM (jn c l,()):=by
 refine ap rfl (aA OL rfl (λO m=>bI (DD O m l [c])) ?_);unfold DD;have f:l.length<=(l.map λx=>x.length+1).sum:=by clear hl;induction l with|nil=>simp|cons x l n=>grind
 refine ae (Ev.wp_mono (Q:=λt=>t=(jn c l,())) (a8 (N:=l.length) (I:=λi s=>s=(jn c (l.take i),(i:Int),())) rfl ?_ ?_) ?_)
 ·rintro i s b rfl;have j:=Tp c (l.take i);have k:=Oy (λx=>x.length+1) l i;have d:=Oy (λx=>x.length+1) l (i+1);have g:=z6 (λx:List UInt8=>x.length+1) b;rw[g,List.sum_append]at d;simp only[ac_,List.sum_nil]at d;have h:l.take (i+1)=l.take i++[l[i]]:=by simp
  unfold sx;refine a6 b (aF b ?_);rw[h,Tq];refine ae (Ev.wp_mono (Q:=λv=>v=((if l.take i=[]then []else jn c (l.take i)++[c]),())) (ao (λa=>aD (decide_eq_true ?_) (aa ?_)) λa=>aa ?_) ?_);·grind
  ·have a:(i:Int)>0:=of_decide_eq_true a;rw[if_neg (by intro e;have:=congrArg ag_ e;grind)]
  ·have a:¬(i:Int)>0:=of_decide_eq_false a;have:i=0:=by omega
   subst this;rfl
  rintro v rfl;refine aD (decide_eq_true ?_) (aa ?_);·grind
  ·show(_,c_ .i64 ((i:Int)+1),())=_;rw[aB b (by omega)];grind
 ·rintro s rfl;unfold sx;rw[m_];exact aT (aa rfl)
 ·rintro t rfl;exact aa rfl
theorem TG(k lo up:Int)(ks:List Rx)(f:∀x∈ks,dF x=true)(g:C8 ks<=1000)(h:∀x∈ks,aC tbl fB [.d .rx x] [] br (jv x,())): Wp (λn=>aL n (lU (sC tbl n) n (.mk k lo up ks)) ((0:Int),([]:List (List UInt8)),())) λt=>t=(ks.map (qp k),()):=by
 have d:=I9 ks;refine a8 (N:=ks.length) (I:=λi s=>s=((i:Int),(ks.take i).map (qp k),())) rfl ?_ ?_
 ·rintro i s b rfl;have c:=a_ b;have e:=we c;have hp:=MA _ (f _ c);unfold lU;refine a6 b (aF b ?_);rw[cT,z6 _ b];refine aj (h _ c) (ae (Ev.wp_mono (Q:=λv=>v=(qp k ks[i],(ks.take i).map (qp k),())) (aj (JD (.mk k lo up ks) ks[i]) (ao (λa=>aD (decide_eq_true ?_) (aD (decide_eq_true ?_) (aa ?_))) λa=>aa ?_)) ?_));·show 1+(jv ks[i]).length<=_;omega
  ·show(jv ks[i]).length+1+1<=_;omega
  ·have a:ux k ks[i]=true:=a;unfold qp;rw[a];rfl
  ·have a:ux k ks[i]=false:=a;unfold qp;rw[a];rfl
  rintro v rfl;refine aD (decide_eq_true ?_) (aa ?_);·grind
  ·show(c_ .i64 ((i:Int)+1),_)=_;rw[aB b (by omega)]
 ·rintro s rfl;unfold lU;rw[m_];exact aT (aa rfl)
theorem Lr:∀(r:Rx),dF r=true->sz r<=1000->aC tbl fB [.d .rx r] [] br (jv r,()):=by
 refine lT λk lo up ks l j hs=>?_;obtain⟨nd,a⟩:=well_iff.1 j;have hsz:C8 ks<=1000:=by simp only[sz]at hs;omega
 have d:∀x∈ks,aC tbl fB [.d .rx x] [] br (jv x,()):=λx b=>l x b (a x b) (by have:=we b;omega);refine ap rfl (aA Me rfl (λO m=>bI (Cy O m (.mk k lo up ks))) ?_);unfold Cy;refine ae (Ev.wp_mono (TG k lo up ks a hsz d) ?_);rintro t rfl;have g:=zfj k ks a;have one:∀x,ks=[x]->∀p:Int,(qp p x).length<=26000:=λx e p=>by
  have b:x∈ks:=by grind
  have s:=we b;have u:=zba p (a x b);omega
 rcases nd.known with rfl|rfl|rfl|rfl|rfl|rfl|rfl|rfl;·refine aE rfl (aa ?_);simp[jv]
 ·obtain⟨r1,r2,r3⟩:=nd.rng rfl;refine an rfl (aE rfl (ao (λh=>?_) λh=>?_))
  ·have h:(lo==up)=true:=h;have h:lo=up:=by grind
   subst h;refine aj (AZ (n:=lo) r1 r3) (aa ?_);simp[jv]
  ·have h:(lo==up)=false:=h;have h:lo≠up:=by grind
   have l1:=pT (n:=lo.toNat) (by omega);have l2:=pT (n:=up.toNat) (by omega);refine aj (AZ (n:=lo) r1 (by omega)) (aD (decide_eq_true ?_) (aD (decide_eq_true ?_) (aj (AZ (n:=up) (by omega) r3) (aD (decide_eq_true ?_) (aD (decide_eq_true ?_) (aa ?_))))));·grind
   ·grind
   ·grind
   ·grind
   ·simp[jv,h]
 ·refine an rfl (an rfl (aE rfl (aa ?_)));simp[jv]
 ·obtain⟨rfl,rfl⟩:=nd.zero (by simp);refine an rfl (an rfl (an rfl (aE rfl (aj (Do (ks.map (qp 3)) 32 (by omega)) (aa ?_)))));simp[jv,ez]
 ·obtain⟨rfl,rfl⟩:=nd.zero (by simp);refine an rfl (an rfl (an rfl (an rfl (aE rfl (ao (λh=>aa ?_) λh=>aj (Do (ks.map (qp 4)) 124 (by omega)) (aa ?_))))));·have h:(((ks.map (qp 4)).length:Int)==0)=true:=h;rw[e_]at h;have h:=len_nil (by simpa using h);subst h;simp[jv]
  ·have h:(((ks.map (qp 4)).length:Int)==0)=false:=h;have c:ks≠[]:=by grind
   simp[jv,ez,c]
 ·obtain⟨rfl,rfl⟩:=nd.zero (by simp);obtain⟨x,rfl⟩:=rE (nd.one (by simp));have f:=one x rfl 5;refine an rfl (an rfl (an rfl (an rfl (an rfl (aE rfl (jh (by simp) rfl (m9 rfl (aD (decide_eq_true ?_) (aa ?_)))))))));·grind
  ·simp[jv,ez]
 ·obtain⟨rfl,rfl⟩:=nd.zero (by simp);obtain⟨x,rfl⟩:=rE (nd.one (by simp));have f:=one x rfl 6;refine an rfl (an rfl (an rfl (an rfl (an rfl (an rfl (aE rfl (jh (by simp) rfl (m9 rfl (aD (decide_eq_true ?_) (aa ?_))))))))));·grind
  ·simp[jv,ez]
 ·obtain⟨rfl,rfl⟩:=nd.zero (by simp);obtain⟨x,rfl⟩:=rE (nd.one (by simp));have f:=one x rfl 7;refine an rfl (an rfl (an rfl (an rfl (an rfl (an rfl (an rfl (jh (by simp) rfl (m9 rfl (aD (decide_eq_true ?_) (aa ?_))))))))));·grind
  ·simp[jv,ez]
end Go.Proofs.YtmfolppncelceaaGreatDoor
namespace Go.Ev
open Go Go.RowKit Go.Av
section
variable {tbl:Nat->Option Fun'}
def ek(tbl:Nat->Option Fun')(f:Nat)(ars:List V)(os:List Ob)(sh:Sh)(o:Option (HL sh.sl)):Prop:=∃a,∀n,a<=n->l9 (sC tbl n) f ars os sh=some o
theorem Rl{f:Nat}{ars:List V}{os:List Ob}{sh:Sh}{R:Option (HL sh.sl)->Prop}(hp:∀c,EB sh (jm sh c)=some c)(h:Conv tbl f ars os λo=>∃c:Option (HL sh.sl),o=c.map (jm sh)/\R c):∃o,R o/\ek tbl f ars os sh o:=by obtain⟨o,⟨c,rfl,hr⟩,b,hn⟩:=h;refine⟨c,hr,b,λn a=>?_⟩;have e:=hn n a;unfold l9;have e:sC tbl n f ars os=_:=e;cases c with|none=>grind|some c=>rw[e];have:=hp c;unfold EB at this;grind
theorem wi{f:Nat}{ars:List V}{os:List Ob}{sh:Sh}{o:Option (HL sh.sl)}(hp:∀c,EB sh (jm sh c)=some c)(h:Conv tbl f ars os (·=o.map (jm sh))):ek tbl f ars os sh o:=by obtain⟨o',rfl,b⟩:=Rl (R:=λc=>c=o) hp (zcc h λx a=>⟨o,a,rfl⟩);omega
theorem jP{f:Nat}{ars:List V}{os:List Ob}{sh:Sh}{β:Type}{k:Nat->Option (HL sh.sl)->Option β}{Q:β->Prop}{o:Option (HL sh.sl)}(h:ek tbl f ars os sh o)(a:Wp (λn=>k n o) Q):Wp (λn=>d_ (l9 (sC tbl n) f ars os sh) (k n)) Q:=by obtain⟨b,hn⟩:=h;exact ae ⟨o,a,b,hn⟩
end
end Go.Ev
namespace Go.Proofs.YtmfolppncelceaaGreatDoor
open Go Go.Av Go.Ev Go.Pl Go.Lib
theorem UH(s:List UInt8)(hs:s.length<=1048576):∃c:Bool×Unit,((∀n,s=decDigits n->c=(true,()))/\(c.1=true->s≠[]))/\aC tbl lY [.d tS s] [] c8 c:=by
 refine oN (sh:=c8) (λ_=>rfl) (aA Jd rfl (λO k=>bI (xN O k s)) ?_);unfold xN;refine ae (bn (b:=decide ((s.length:Int)>(1:Int))&&(((s.getD 0 0).toNat:Int)==(48:Int))) (λg=>ae (bb (b:=(((s.getD 0 0).toNat:Int)==(48:Int))) (λj=>?_) (aa rfl))) ?_)
 ·have hl:1<s.length:=by grind
  refine jh (x:=s.getD 0 0) (af_ _) ?_ (aa rfl);grind
 ·refine ao (λh=>aa ⟨(false,()),rfl,λn hn=>?_,λh=>by grind⟩) (λh=>?_);·exfalso;have hp:=Nb n;have p:=zcd n;grind
  ·have d:s≠[]:=by grind
   refine ae (Wp.imp (Q:=λr=>match r with| .inl v=>v.1=false/\∀n,s≠decDigits n| .inr _=>True) (a8 (N:=s.length) (I:=λi st=>st=((i:Int),())) rfl (λi st e a=>?_) λst a=>?_) λr hr=>?_)
   ·subst a;unfold nM;have f:=b_ e;refine ao (λ_=>?_) (λh=>absurd h (by grind));refine jh (y_ _) f ?_;refine ae (bn (b:=decide ((s[i].toNat:Int)>(57:Int))) (λ_=>jh (y_ _) f (aa rfl)) ?_);refine ao (λl=>aa ⟨rfl,λn hn=>?_⟩) (λ_=>aa ?_);·have:=Im n s[i] (by grind);unfold NM at this;grind
    ·simp only;rw[aB e (by omega)]
   ·subst a;unfold nM;exact ao (λh=>absurd h (by simp)) λ_=>aa trivial
   ·cases r with|inl v=>exact aa ⟨_,rfl,λn hn=>absurd hn (hr.2 n),λ_=>d⟩|inr v=>exact aa ⟨_,rfl,λ_ _=>rfl,λ_=>d⟩
theorem zdc(s:List UInt8)(hs:s.length<=1048576):∃c:Int×Int×Unit,((∀m:Nat,m<=4294967295->s=decDigits m->c=((m:Int),(0:Int),()))/\(c.2.1=0->s≠[]))/\aC tbl mu [.d tS s,.d tI (4294967295:Int)] [] dm c:=by
 obtain⟨L,⟨H,z⟩,b⟩:=UH s hs;refine oN (sh:=dm) (λ_=>rfl) (aA OB rfl (λO k=>bI (Dr O k s 4294967295)) ?_);unfold Dr;refine aj b (ao (λh=>aa ⟨_,rfl,λm a hn=>?_,λM=>by grind⟩) (λhc=>?_));·grind
 have d:s≠[]:=z (by grind);refine ae (Wp.imp (Q:=λr=>match r with| .inl v=>∀m:Nat,m<=4294967295->s≠decDigits m| .inr v=>∀m:Nat,m<=4294967295->s=decDigits m->v.1=m) (a8 (N:=s.length) (I:=λi st=>st.2.1=(i:Int)/\∀m:Nat,m<=4294967295->s=decDigits m->st.1=(s4 (s.take i):Int)) ⟨rfl,λ_ _ _=>rfl⟩ (λi st A f=>?_) λst f=>?_) λr hr=>?_)
 ·obtain⟨n,j,_⟩:=st;obtain⟨g,p⟩:=f;simp only at g p;subst g;unfold sn;have J:=b_ A;have D:∀m:Nat,m<=4294967295->s=decDigits m->n=(s4 (s.take i):Int)/\s4 (s.take i)<=4294967295/\NM s[i]/\s4 (s.take (i+1))<=4294967295/\s4 (s.take (i+1))=10*s4 (s.take i)+(s[i].toNat - 48):=λm a hn=>by
   have P:s4 s=m:=by rw[hn,Io]
   have hd:NM s[i]:=Im m s[i] (by grind);have e:s.getD i 0=s[i]:=by grind
   exact⟨p m a hn,by have:=KG (l:=s) (k:=i) (by omega);omega,hd,by have:=KG (l:=s) (k:=i+1) (by omega);omega,by rw[takeD A,Fo,e]⟩
  have w:NM s[i]->c_ .i64 (c_ .u8 ((s[i].toNat:Int) - 48))=((s[i].toNat - 48:Nat):Int):=λh=>by unfold NM at h;rw[wrap_u8,wrap_i64 (by omega) (by omega)];omega
  refine ao (λ_=>?_) (λh=>absurd h (by grind));refine jh (y_ _) J ?_;refine aD rfl (ao (λC=>aa λm a hn=>?_) (λ_=>aa ⟨?_,λm a hn=>?_⟩));·obtain⟨y,E,x,F,B⟩:=D m a hn;have u:=of_decide_eq_true C;rw[w x,y]at u;unfold NM at x;rw[wrap_i64 (n:=9223372036854775807 - ((s[i].toNat - 48:Nat):Int)) (by omega) (by omega),K_ (by omega),wrap_i64 (by omega) (by omega)]at u;omega
  ·simp only;rw[aB A (by omega)]
  ·obtain⟨y,E,x,F,B⟩:=D m a hn;simp only;rw[w x,y,wrap_i64 (n:=10*((s4 (s.take i):Nat):Int)) (by omega) (by omega),wrap_i64 (by omega) (by omega),B];simp
 ·obtain⟨n,j,_⟩:=st;obtain⟨g,p⟩:=f;simp only at g p;subst g;unfold sn;refine ao (λh=>absurd h (by simp)) λ_=>aa λm a hn=>?_;simp only;rw[p m a hn,g_ (p_ _),hn,Io]
 ·cases r with|inl v=>exact aa ⟨_,rfl,λm a hn=>absurd hn (hr m a),λ_=>d⟩|inr v=>refine ao (λC=>aa ⟨_,rfl,λm a hn=>?_,λ_=>d⟩) (λ_=>aa ⟨_,rfl,λm a hn=>?_,λ_=>d⟩);all_goals grind
theorem Dk(s:List UInt8)(i:Nat):aC tbl bl [.ptr 0 0] [.box aH [.d tS s,.d tI (i:Int)]] a7 ((pk s i:Int),s,(i:Int),()):=by
 refine ap rfl (aA Dh rfl (λO m=>bI (rZ O m s (i:Int))) ?_);unfold rZ;refine ao (λh=>?_) λh=>aa ?_
 ·have h:i<s.length:=by grind
  refine aF h (aa ?_);rw[Oa h]
 ·have h:¬i<s.length:=by grind
  rw[zeF h];rfl
structure Run(s:List UInt8)(i j:Nat):Prop where
 le:i<=j
 top:j<=s.length
 all:∀k,i<=k->k<j->dg (pk s k)
theorem TK{s:List UInt8}{i j m:Nat}{t:List UInt8}(h:Run s i j)(p:¬dg (pk s j))(a:s.drop i=decDigits m++t)(u:¬dg (hd t)):j=i+(decDigits m).length/\(s.take j).drop i=decDigits m:=by
 have n:∀k,i<=k->k<i+(decDigits m).length->dg (pk s k):=λk f g=>by
  have hl:k - i<(decDigits m).length:=by omega
  have e:s[k]? =some (decDigits m)[k - i]:=by
   have c:(s.drop i)[k - i]? =s[k]? :=by rw[List.getElem?_drop];congr 1;omega
   grind
  have d:=Im m _ (a_ hl);unfold pk;rw[Y_,e];exact d
 have c:¬dg (pk s (i+(decDigits m).length)):=by rw[rH,kN a];omega
 have r:j=i+(decDigits m).length:=by
  apply h_;intro hn;have:=h.le;rcases Nat.lt_or_gt_of_ne hn with l|b;·grind
  ·exact c (h.all _ (by simp) b)
 grind
theorem zdm(s:List UInt8)(hs:s.length<=1048576)(i:Nat)(u:i<=s.length):∃o:Option (Int×Nat),(∀n j,o=some (n,j)->i<j/\j<=s.length)/\(∀(m:Nat) t,s.drop i=decDigits m++t->m<=4294967295->¬dg (hd t)->o=some ((m:Int),i+(decDigits m).length))/\ek tbl bc [.ptr 0 0] [.box aH [.d tS s,.d tI (i:Int)]] q_regex_parser_number_r (o.map λx=>(x.1,s,(x.2:Int),())):=by
 suffices h:∃v:Option (HL q_regex_parser_number_r.sl),(∃o:Option (Int×Nat),v=o.map (λx=>(x.1,s,(x.2:Int),()))/\(∀n j,o=some (n,j)->i<j/\j<=s.length)/\(∀(m:Nat) t,s.drop i=decDigits m++t->m<=4294967295->¬dg (hd t)->o=some ((m:Int),i+(decDigits m).length)))/\ek tbl bc [.ptr 0 0] [.box aH [.d tS s,.d tI (i:Int)]] q_regex_parser_number_r v by
  obtain⟨v,⟨o,rfl,b,d⟩,r⟩:=h
  exact⟨o,b,d,r⟩
 refine Rl (λ_=>rfl) (aA AP rfl (λO m=>bI (qb O m s (i:Int))) ?_);unfold qb;refine ae (Ev.wp_mono (Ev.wp_loop (Q:=λt=>∃j:Nat,t=(s,(j:Int),())/\Run s i j/\¬dg (pk s j)) (λt=>∃j:Nat,t=(s,(j:Int),())/\Run s i j) (λt=>s.length - t.2.1.toNat) ⟨i,rfl,⟨p_ _,u,λk b d=>absurd d (by omega)⟩⟩ ?_) ?_)
 ·rintro t ⟨j,rfl,hr⟩;unfold nG;refine aj (Dk s j) (ao (λh=>?_) λh=>aa ⟨j,rfl,hr,?_⟩)
  ·have h:(pk s j:Int)>=48:=of_decide_eq_true h;have f:=dQ (s:=s) (i:=j) (by omega);refine aj (Dk s j) (ao (λh'=>aa ?_) λh'=>aa ⟨j,rfl,hr,?_⟩)
   ·have h':(pk s j:Int)<=57:=of_decide_eq_true h';refine⟨⟨j+1,?_,⟨by have:=hr.le;omega,by omega,λk b d=>?_⟩⟩,?_⟩;·show(s,c_ .i64 ((j:Int)+1),())=_;rw[aB f (by omega)]
    ·by_cases e:k=j;·subst e;exact⟨by omega,by omega⟩
     ·exact hr.all k b (by omega)
    ·show s.length - (c_ .i64 ((j:Int)+1)).toNat<s.length - (j:Int).toNat;rw[aB f (by omega)];omega
   ·have h':¬(pk s j:Int)<=57:=of_decide_eq_false h';unfold Pl.dg;omega
  ·have h:¬(pk s j:Int)>=48:=of_decide_eq_false h;unfold Pl.dg;omega
 ·rintro t ⟨j,rfl,hr,l⟩;have b:=hr.le;have d:=hr.top;refine aD (decide_eq_true (by simp)) (aD (decide_eq_true (by simp)) (aD ?_ ?_));·grind
  show Wp (λn=>d_ (au (sC tbl n) mu [.d tS ((s.take (r_ (j:Int))).drop (r_ (i:Int))),.d tI (4294967295:Int)] [] dm) _) _;rw[i_,i_];obtain⟨c,⟨y,z⟩,hc⟩:=zdc ((s.take j).drop i) (by grind);refine aj (c:=c) hc (ae (ao (λh=>aa ?_) λh=>aa ?_))
  ·have h:c.2.1≠0:=by grind
   refine aa ⟨none,rfl,none,rfl,(λ_ _ h=>by grind),λm t a w g=>?_⟩;obtain⟨_,p⟩:=TK hr l a g;grind
  ·have h:c.2.1=0:=by grind
   refine aa ⟨some (c.1,s,(j:Int),()),rfl,some (c.1,j),rfl,?_,λm t a w g=>?_⟩;·grind
   ·obtain⟨A,p⟩:=TK hr l a g;grind
theorem zgP(s:List UInt8)(hs:s.length<=1048576):∃num:Nat->Option (Int×Nat),NumOk s num/\∀i,i<=s.length->ek tbl bc [.ptr 0 0] [.box aH [.d tS s,.d tI (i:Int)]] q_regex_parser_number_r ((num i).map λx=>(x.1,s,(x.2:Int),())):=by
 have h:∀i:Nat,∃o:Option (Int×Nat),i<=s.length->(∀n j,o=some (n,j)->i<j/\j<=s.length)/\(∀(m:Nat) t,s.drop i=decDigits m++t->m<=4294967295->¬dg (hd t)->o=some ((m:Int),i+(decDigits m).length))/\ek tbl bc [.ptr 0 0] [.box aH [.d tS s,.d tI (i:Int)]] q_regex_parser_number_r (o.map λx=>(x.1,s,(x.2:Int),())):=λi=>by
  by_cases a:i<=s.length
  ·obtain⟨o,d⟩:=zdm s hs i a;grind
  ·exact⟨none,λh=>absurd h a⟩
 refine⟨λi=>C_ (h i),⟨λi n j a e=>?_,λi m t b c f=>?_⟩,λi a=>?_⟩;·grind
 ·have a:i<=s.length:=J_ (Mr b (Nc m).1);grind
 grind
theorem Sp(s:List UInt8)(i:Nat)(c:Nat)(hc:c≠0)(hs:s.length<=1048576)(d:i<=s.length):aC tbl aS [.ptr 0 0,.d tY (c:Int)] [.box aI [.d tS s,.d tI (i:Int)]] aQ (decide (pk s i=c),s,((if pk s i=c then i+1 else i:Nat):Int),()):=by
 refine ap rfl (aA Cb rfl (λO m=>bI (qC O m (c:Int) s (i:Int))) ?_);unfold qC;refine ae (bb (b:=decide (pk s i=c)) (λh=>?_) ?_)
 ·have h:i<s.length:=by grind
  refine aF h (aa ?_);rw[Oa h];grind
 ·by_cases e:pk s i=c;·have a:=dQ (s:=s) (i:=i) (by omega);rw[decide_eq_true e,decide_eq_true (show(i:Int)<(s.length:Int) by omega),if_pos e];refine aE rfl (aa ?_);rw[aB a (by omega)]
  ·rw[decide_eq_false e,Bool.and_false,if_neg e];exact an rfl (aa rfl)
theorem XK(s:List UInt8)(hs:s.length<=1048576)(i:Nat)(I:i<=s.length):∃(v:Int) (ok:Bool) (j:Nat),(i<=j/\j<=s.length/\(ok=true->i<j))/\(∀(m:Nat) t,s.drop i=decDigits m++t->m<=4294967295->¬dg (hd t)->v=(m:Int)/\ok=true/\j=i+(decDigits m).length)/\aC tbl bk [.ptr 0 0] [.box aI [.d tS s,.d tI (i:Int)]] q_ref15_parser_number_r (v,ok,s,(j:Int),()):=by
 suffices h:∃c:HL q_ref15_parser_number_r.sl,(∃(v:Int) (ok:Bool) (j:Nat),c=(v,ok,s,(j:Int),())/\(i<=j/\j<=s.length/\(ok=true->i<j))/\(∀(m:Nat) t,s.drop i=decDigits m++t->m<=4294967295->¬dg (hd t)->v=(m:Int)/\ok=true/\j=i+(decDigits m).length))/\aC tbl bk [.ptr 0 0] [.box aI [.d tS s,.d tI (i:Int)]] q_ref15_parser_number_r c by
  grind
 refine oN (λ_=>rfl) (aA AO rfl (λO m=>bI (qa O m s (i:Int))) ?_);unfold qa;refine ae (Ev.wp_mono (Ev.wp_loop (Q:=λr=>match r with
  | .inl t=>∃j:Nat,t=((0:Int),false,s,(j:Int),())/\(i<=j/\j<=s.length)/\∃k,Run s i k/\4294967295<s4 ((s.take k).drop i)
  | .inr t=>∃j:Nat,t=((s4 ((s.take j).drop i):Int),s,(j:Int),())/\Run s i j/\¬dg (pk s j))
  (λt=>∃j:Nat,t=((s4 ((s.take j).drop i):Int),s,(j:Int),())/\Run s i j/\s4 ((s.take j).drop i)<=4294967295) (λt=>s.length - t.2.2.1.toNat) ⟨i,?_,⟨p_ _,I,λk g u=>absurd u (by omega)⟩,?_⟩ ?_) ?_)
 ·rw[t_ (by grind)];rfl
 ·rw[t_ (by grind)];exact z_ _
 ·rintro t ⟨j,rfl,hr,z⟩;unfold nF;dsimp only;have g:=hr.le;have u:=hr.top;refine ae (bb (b:=decide (48<=pk s j)) (λh=>?_) ?_)
  ·have h:j<s.length:=by grind
   refine aF h (aa ?_);rw[Oa h];grind
  refine ae (bb (b:=decide (pk s j<=57)) (λh=>?_) ?_)
  ·have h:j<s.length:=by grind
   refine aF h (aa ?_);rw[Oa h];grind
  refine ao (λh=>?_) λh=>aa ⟨j,rfl,hr,?_⟩
  ·simp only[x_,decide_eq_true_eq]at h;obtain⟨⟨R,D⟩,E⟩:=h;have d:j<s.length:=by omega
   refine aF d ?_;have P:=Oa d;have x:c_ .i64 (c_ .u8 ((s[j].toNat:Int) - 48))=((s[j].toNat - 48:Nat):Int):=by rw[wrap_u8,wrap_i64 (by omega) (by omega)];omega
   have f:Run s i (j+1):=⟨by omega,by omega,λk N T=>by
    by_cases e:k=j;·subst e;exact⟨D,E⟩
    ·exact hr.all k N (by omega)⟩
   have w:s4 ((s.take (j+1)).drop i)=10*s4 ((s.take j).drop i)+(s[j].toNat - 48):=by rw[List.take_succ_eq_append_getElem d,List.drop_append_of_le_length (by grind),Fo]
   have C:c_ .i64 ((c_ .i64 ((10:Int)*((s4 ((s.take j).drop i):Nat):Int)))+(c_ .i64 (c_ .u8 ((s[j].toNat:Int) - (48:Int)))))=((s4 ((s.take (j+1)).drop i):Nat):Int):=by rw[x,wrap_i64 (n:=10*((s4 ((s.take j).drop i):Nat):Int)) (by omega) (by omega),wrap_i64 (by omega) (by omega),w];simp
   rw[C,aB d (by omega)];refine ao (λF=>aa ⟨j+1,rfl,⟨by omega,by omega⟩,j+1,f,?_⟩) λF=>aa ⟨⟨j+1,rfl,f,?_⟩,?_⟩;all_goals grind
  ·simp only[Bool.and_eq_false_iff,decide_eq_false_iff_not]at h;unfold Pl.dg;rcases h with(h|h)|h;·have:pk s j=0:=zeF (by omega);omega
   all_goals omega
 ·rintro(t|t) p
  ·obtain⟨j,rfl,y,k,J,z⟩:=p;refine aa ⟨_,rfl,0,false,j,rfl,⟨y.1,y.2,λh=>by grind⟩,λm t a M p=>?_⟩;exfalso;have L:k<=i+(decDigits m).length:=by
    apply h_;intro hn;have u:¬dg (pk s (i+(decDigits m).length)):=by rw[rH,kN a];omega
    exact u (J.all _ (by simp) (by omega))
   have e:(s.take k).drop i=(decDigits m).take (k - i):=by rw[List.drop_take,a,List.take_append_of_le_length (by omega)]
   rw[e]at z;have g:=KG (l:=decDigits m) (k:=k - i) (by omega);rw[Io]at g;omega
  ·obtain⟨j,rfl,hr,H⟩:=p;have g:=hr.le;refine aa ⟨_,rfl,((s4 ((s.take j).drop i):Nat):Int),decide (i<j),j,?_,⟨g,hr.top,λh=>of_decide_eq_true h⟩,λm t a M p=>?_⟩;·show(_,decide ((j:Int)>(i:Int)),_)=_;simp
   ·obtain⟨A,B⟩:=TK hr H a p;have:=Nb m;exact⟨by rw[B,Io],decide_eq_true (by omega),A⟩
theorem zfC(s:List UInt8)(hs:s.length<=1048576):∃num:Nat->Option (Int×Nat),NumOk s num/\∀i,i<=s.length->∃(v:Int) (ok:Bool) (j:Nat),(i<=j/\j<=s.length)/\num i=(if ok then some (v,j)else none)/\aC tbl bk [.ptr 0 0] [.box aI [.d tS s,.d tI (i:Int)]] q_ref15_parser_number_r (v,ok,s,(j:Int),()):=by
 have h:∀i:Nat,∃o:Int×Bool×Nat,i<=s.length->(i<=o.2.2/\o.2.2<=s.length/\(o.2.1=true->i<o.2.2))/\(∀(m:Nat) t,s.drop i=decDigits m++t->m<=4294967295->¬dg (hd t)->o.1=(m:Int)/\o.2.1=true/\o.2.2=i+(decDigits m).length)/\aC tbl bk [.ptr 0 0] [.box aI [.d tS s,.d tI (i:Int)]] q_ref15_parser_number_r (o.1,o.2.1,s,(o.2.2:Int),()):=λi=>by
  by_cases a:i<=s.length
  ·obtain⟨v,ok,j,c⟩:=XK s hs i a;exact⟨(v,ok,j),λ_=>c⟩
  ·exact⟨(0,false,0),λh=>absurd h a⟩
 refine⟨λi=>if(C_ (h i)).2.1 then some ((C_ (h i)).1,(C_ (h i)).2.2)else none,⟨λi n j a e=>?_,λi m t b f g=>?_⟩,λi a=>?_⟩;·grind
 ·have a:i<=s.length:=J_ (Mr b (Nc m).1);grind
 ·have d:=ae_ (h i) a;grind
abbrev PC(s:List UInt8)(i:Nat):List Ob:=[.box aH [.d tS s,.d tI (i:Int)]]
def up3(s:List UInt8)(o:Option (Rx×Nat)):Option (Rx×List UInt8×Int×Unit):=o.map λx=>(x.1,s,(x.2:Int),())
theorem eqT{a b:Nat}(h:((a:Int)==(b:Int))=true):a=b:=by simp at h;omega
theorem eqF{a b:Nat}(h:((a:Int)==(b:Int))=false):a≠b:=by simp at h;omega
theorem neF{a b:Nat}(h:((a:Int) != (b:Int))=false):a=b:=by simp at h;omega
theorem MF(s:List UInt8)(hs:s.length<=1048576)(i c:Nat)(hc:c≠0):ek tbl bC [.ptr 0 0,.d tY (c:Int)] (PC s i) be (if pk s i=c then some (s,((i+1:Nat):Int),())else none):=by
 refine wi (λ_=>rfl) (aA zZ rfl (λO m=>bI (ow O m (c:Int) s (i:Int))) ?_);unfold ow;refine ae (aj (Dk s i) (ao (λh=>aa (aa ?_)) λh=>aa (aa ?_)));·grind
 ·have h:=neF h;have a:=dQ (s:=s) (i:=i) (by omega);rw[if_pos h];show some (jm be (s,c_ .i64 ((i:Int)+1),()))=_;rw[aB a (by omega)];rfl
section
variable {s:List UInt8}
theorem zg7(hs:s.length<=1048576){num:Nat->Option (Int×Nat)}(hn:NumOk s num)(hc:∀i,i<=s.length->ek tbl bc [.ptr 0 0] (PC s i) q_regex_parser_number_r ((num i).map λx=>(x.1,s,(x.2:Int),()))) {alt:Nat->Option (Rx×Nat)} (E:XI s alt) (d:Nat) (A:d<=100) (z:∀i,i<=s.length->ek tbl ba [.ptr 0 0,.d tI ((d+1:Nat):Int)] (PC s i) aY (up3 s (alt i))) (i:Nat) (B:i<=s.length): ek tbl dM [.ptr 0 0,.d tI (d:Int)] (PC s i) bp (up3 s (ft num s alt i)):=by
 refine wi (λ_=>rfl) (aA Cd rfl (λO m=>bI (qE O m (d:Int) s (i:Int))) ?_);unfold qE;refine aj (Dk s i) ?_;dsimp only;refine ao (λh=>?_) λu=>?_;·have h:=eqT (b:=46) h;have a:=dQ (s:=s) (i:=i) (by omega);rw[aB a (by omega),show ft num s alt i=some (.mk 2 0 0 [],i+1) by unfold ft;grind];exact aa rfl
 have u:=eqF (b:=46) u;refine ao (λh=>?_) λg=>?_;·have h:=eqT (b:=33) h;have a:=dQ (s:=s) (i:=i) (by omega);rw[aB a (by omega),show ft num s alt i=some (.mk 4 0 0 [],i+1) by unfold ft;grind];exact aa rfl
 have g:=eqF (b:=33) g;refine ao (λe=>?_) λe=>?_
 ·have e:=eqT (b:=91) e;have a:=dQ (s:=s) (i:=i) (by omega);have hp:ft num s alt i=match num (i+1)with
   |none=>none
   |some (lo,j)=>if pk s j=45 then(match num (j+1)with
    |none=>none
    |some (up,k)=>if pk s k=93 then some (.mk 1 lo up [],k+1)else none)else none:=by
   unfold ft
   grind
  rw[aB a (by omega),hp];refine jP (hc (i+1) (by omega)) ?_;cases w:num (i+1)with
  |none=>exact aa rfl|some x=>
   obtain⟨lo,j⟩:=x;have C:=hn.bnd _ _ _ (by omega) w;show Wp (λn=>d_ (l9 (sC tbl n) bC [.ptr 0 0,.d tY (45:Int)] (PC s j) be) _) _;refine jP (MF s hs j 45 (by simp)) ?_;by_cases p:pk s j=45
   ·have f:=dQ (s:=s) (i:=j) (by omega);simp only[if_pos p];show Wp (λn=>d_ (l9 (sC tbl n) bc [.ptr 0 0] (PC s (j+1)) q_regex_parser_number_r) _) _;refine jP (hc (j+1) (by omega)) ?_;cases D:num (j+1)with
    |none=>exact aa rfl|some y=>
     obtain⟨up,k⟩:=y;show Wp (λn=>d_ (l9 (sC tbl n) bC [.ptr 0 0,.d tY (93:Int)] (PC s k) be) _) _;refine jP (MF s hs k 93 (by simp)) ?_;by_cases v:pk s k=93;·simp only[if_pos v];exact aa rfl
     ·simp only[if_neg v];exact aa rfl
   ·simp only[if_neg p];exact aa rfl
 have e:=eqF (b:=91) e;refine ao (λc=>?_) λc=>?_
 ·have c:=eqT (b:=40) c;have a:=dQ (s:=s) (i:=i) (by omega);rw[aB a (by omega)];refine aj (Dk s (i+1)) ?_;dsimp only;refine ao (λh=>?_) λh=>?_;·have h:=eqT (b:=41) h;have f:=dQ (s:=s) (i:=i+1) (by omega);rw[aB f (by omega),show ft num s alt i=some (.mk 0 0 0 [],i+2) by unfold ft;grind];exact aa rfl
  ·have h:=eqF (b:=41) h;have hp:ft num s alt i=match alt (i+1)with
    |none=>none
    |some (r,j)=>if pk s j=41 then some (r,j+1)else none:=by
    unfold ft
    grind
   rw[hp,show c_ .i64 ((d:Int)+1)=((d+1:Nat):Int) by rw[wrap_i64 (by omega) (by omega)];rfl];refine jP (z (i+1) (by omega)) ?_;cases w:alt (i+1)with
   |none=>exact aa rfl|some x=>
    obtain⟨r,j⟩:=x;show Wp (λn=>d_ (l9 (sC tbl n) bC [.ptr 0 0,.d tY (41:Int)] (PC s j) be) _) _;refine jP (MF s hs j 41 (by simp)) ?_;by_cases l:pk s j=41;·simp only[if_pos l];refine aa ?_;rw[cT];rfl
    ·simp only[if_neg l];exact aa rfl
 ·have c:=eqF (b:=40) c;have hp:ft num s alt i=match num i with
   |none=>none
   |some (n,j)=>some (.mk 1 n n [],j):=by
   unfold ft
   grind
  rw[hp];refine jP (hc i B) ?_;cases w:num i with|none=>exact aa rfl|some x=>exact aa rfl
def V7(s:List UInt8)(one:Nat->Option (Rx×Nat))(i:Nat):Option (Rx×Nat):=match one i with
 |none=>none
 |some (r,j)=>if pk s j=42 then some (.mk 5 0 0 [r],j+1)else if pk s j=43 then some (.mk 6 0 0 [r],j+1)else if pk s j=63 then some (.mk 7 0 0 [r],j+1)else some (r,j)
theorem zg8(hs:s.length<=1048576){one:Nat->Option (Rx×Nat)}(d:Nat)(f:∀i,i<=s.length->ek tbl dM [.ptr 0 0,.d tI (d:Int)] (PC s i) bp (up3 s (one i)))(i:Nat)(g:i<=s.length): ek tbl b9 [.ptr 0 0,.d tI (d:Int)] (PC s i) bi (up3 s (V7 s one i)):=by
 refine wi (λ_=>rfl) (aA Ce rfl (λO m=>bI (qF O m (d:Int) s (i:Int))) ?_);unfold qF V7;refine jP (f i g) ?_;cases p:one i with
 |none=>exact aa rfl|some x=>
  obtain⟨r,j⟩:=x;simp only;have key:∀(k:Int),j<s.length->some (jm bi (Rx.mk k 0 0 [Rx.mk r.out.1 r.out.2.1 r.out.2.2.1 r.out.2.2.2.1],s,c_ .i64 ((j:Int)+1),()))=(up3 s (some (.mk k 0 0 [r],j+1))).map (jm bi):=λk l=>by rw[cT,aB l (by omega)];rfl
  show Wp (λn=>d_ (d_ (au (sC tbl n) bl [.ptr 0 0] (PC s j) a7) _) _) _;refine ae (aj (Dk s j) ?_);dsimp only;refine ao (λh=>aa (aa ?_)) λa=>?_;·have h:=eqT (b:=42) h;rw[if_pos h];exact key 5 (dQ (by omega))
  have a:=eqF (b:=42) a;refine ao (λh=>aa (aa ?_)) λc=>?_;·have h:=eqT (b:=43) h;rw[if_neg a,if_pos h];exact key 6 (dQ (by omega))
  have c:=eqF (b:=43) c;refine ao (λh=>aa (aa ?_)) λe=>aa (aa ?_);·have h:=eqT (b:=63) h;rw[if_neg a,if_neg c,if_pos h];exact key 7 (dQ (by omega))
  ·have e:=eqF (b:=63) e;rw[if_neg a,if_neg c,if_neg e];show some (jm bi (Rx.mk r.out.1 r.out.2.1 r.out.2.2.1 r.out.2.2.2.1,s,(j:Int),()))=_;rw[cT];rfl
theorem Qo(hs:s.length<=1048576){one:Nat->Option (Rx×Nat)}(z:XI s one)(d:Nat)(y:∀i,i<=s.length->ek tbl b9 [.ptr 0 0,.d tI (d:Int)] (PC s i) bi (up3 s (one i)))(T:Option (List Rx×Nat))(r:Rx)(i f:Nat)(A:i<=s.length)(w:1<=i)(u:s.length<=f+i)(c:(if pk s i=32 then gX s 32 one f [r] (i+1)else some ([r],i))=T): Wp (λn=>aL n (dt (sC tbl n) n (d:Int)) (s,(i:Int),(0:Int),(0:Int),(0:Int),([r]:List Rx),())) λt=>match t with | .inl _=>T=none | .inr t=>∃(a:List Rx) (j:Nat),t=(s,(j:Int),(0:Int),(0:Int),(0:Int),a,())/\T=some (a,j):=by
 refine Ev.wp_loop (λt=>∃(a:List Rx) (j f:Nat),t=(s,(j:Int),(0:Int),(0:Int),(0:Int),a,())/\j<=s.length/\a.length<=j/\s.length<=f+j/\(if pk s j=32 then gX s 32 one f a (j+1)else some (a,j))=T) (λt=>s.length - t.2.1.toNat) ⟨[r],i,f,rfl,A,w,u,c⟩ ?_;rintro t ⟨a,j,f,rfl,C,p,u,c⟩;unfold dt;refine aj (Dk s j) ?_;dsimp only;refine ao (λh=>?_) λh=>aa ⟨a,j,rfl,?_⟩;·have h:=eqT (b:=32) h;have l:=dQ (s:=s) (i:=j) (by omega);rw[if_pos h]at c;rw[aB l (by omega)];refine jP (y (j+1) (by omega)) ?_;obtain⟨f2,rfl⟩:∃g,f=g+1:=⟨f - 1,by omega⟩;rw[gX]at c;cases e:one (j+1)with|none=>rw[e]at c;exact aa c.symm|some x=>obtain⟨r2,k⟩:=x;obtain⟨B,v,_⟩:=z _ _ _ (by omega) e;rw[e]at c;simp only at c;refine aD (decide_eq_true ?_) (aa ⟨⟨a++[r2],k,f2,rfl,v,?_,by omega,c⟩,?_⟩);all_goals grind
 grind
theorem IR(hs:s.length<=1048576){one:Nat->Option (Rx×Nat)}(z:XI s one)(d:Nat)(y:∀i,i<=s.length->ek tbl bE [.ptr 0 0,.d tI (d:Int)] (PC s i) bg (up3 s (one i)))(T:Option (List Rx×Nat))(r:Rx)(i f:Nat)(A:i<=s.length)(w:1<=i)(u:s.length<=f+i)(c:(if pk s i=124 then gX s 124 one f [r] (i+1)else some ([r],i))=T): Wp (λn=>aL n (co (sC tbl n) n (d:Int)) (s,(i:Int),(0:Int),(0:Int),(0:Int),([r]:List Rx),())) λt=>match t with | .inl _=>T=none | .inr t=>∃(a:List Rx) (j:Nat),t=(s,(j:Int),(0:Int),(0:Int),(0:Int),a,())/\T=some (a,j):=by
 refine Ev.wp_loop (λt=>∃(a:List Rx) (j f:Nat),t=(s,(j:Int),(0:Int),(0:Int),(0:Int),a,())/\j<=s.length/\a.length<=j/\s.length<=f+j/\(if pk s j=124 then gX s 124 one f a (j+1)else some (a,j))=T) (λt=>s.length - t.2.1.toNat) ⟨[r],i,f,rfl,A,w,u,c⟩ ?_;rintro t ⟨a,j,f,rfl,C,p,u,c⟩;unfold co;refine aj (Dk s j) ?_;dsimp only;refine ao (λh=>?_) λh=>aa ⟨a,j,rfl,?_⟩;·have h:=eqT (b:=124) h;have l:=dQ (s:=s) (i:=j) (by omega);rw[if_pos h]at c;rw[aB l (by omega)];refine jP (y (j+1) (by omega)) ?_;obtain⟨f2,rfl⟩:∃g,f=g+1:=⟨f - 1,by omega⟩;rw[gX]at c;cases e:one (j+1)with|none=>rw[e]at c;exact aa c.symm|some x=>obtain⟨r2,k⟩:=x;obtain⟨B,v,_⟩:=z _ _ _ (by omega) e;rw[e]at c;simp only at c;refine aD (decide_eq_true ?_) (aa ⟨⟨a++[r2],k,f2,rfl,v,?_,by omega,c⟩,?_⟩);all_goals grind
 grind
theorem XM(hs:s.length<=1048576){one:Nat->Option (Rx×Nat)}(c:XI s one)(d:Nat)(a:∀i,i<=s.length->ek tbl b9 [.ptr 0 0,.d tI (d:Int)] (PC s i) bi (up3 s (one i)))(i:Nat)(e:i<=s.length): ek tbl bE [.ptr 0 0,.d tI (d:Int)] (PC s i) bg (up3 s (C7 s 32 3 one i)):=by
 refine wi (λ_=>rfl) (aA xw rfl (λO m=>bI (mj O m (d:Int) s (i:Int))) ?_);unfold mj C7;refine jP (a i e) ?_;obtain⟨f,w⟩:∃f,s.length+1 - i=f+1:=⟨s.length - i,by omega⟩;rw[w,gX];cases u:one i with
 |none=>exact aa rfl|some x=>
  obtain⟨r,j⟩:=x;obtain⟨y,p,_⟩:=c _ _ _ e u;simp only[H_];show Wp (λn=>d_ (aL n (dt (sC tbl n) n (d:Int)) (s,(j:Int),(0:Int),(0:Int),(0:Int),([r]:List Rx),())) _) _;refine ae (Ev.wp_mono (Qo hs c d a _ r j f p (by omega) (by omega) rfl) ?_);rintro(t|t) g;·rw[show _=none from g];exact aa rfl
  ·obtain⟨l,k,rfl,v⟩:=g;rw[v];refine ao (λh=>?_) λh=>aa ?_;·have h:=eqT (b:=1) h;obtain⟨x,rfl⟩:=u_.1 h;refine jh (by simp) rfl (m9 rfl (aa ?_));rw[cT];rfl
   ·have h:=eqF (b:=1) h;simp only;rw[AA h];rfl
theorem MD(hs:s.length<=1048576){one:Nat->Option (Rx×Nat)}(c:XI s one)(d:Nat)(w:d<=32)(a:∀i,i<=s.length->ek tbl bE [.ptr 0 0,.d tI (d:Int)] (PC s i) bg (up3 s (one i)))(i:Nat)(e:i<=s.length): ek tbl ba [.ptr 0 0,.d tI (d:Int)] (PC s i) aY (up3 s (C7 s 124 4 one i)):=by
 refine wi (λ_=>rfl) (aA jO rfl (λO m=>bI (cK O m (d:Int) s (i:Int))) ?_);unfold cK C7;refine ae (an (decide_eq_false (by omega)) (aa ?_));show Wp (λn=>d_ (l9 (sC tbl n) bE [.ptr 0 0,.d tI (d:Int)] (PC s i) bg) _) _;refine jP (a i e) ?_;obtain⟨f,y⟩:∃f,s.length+1 - i=f+1:=⟨s.length - i,by omega⟩;rw[y,gX];cases u:one i with
 |none=>exact aa rfl|some x=>
  obtain⟨r,j⟩:=x;obtain⟨z,p,_⟩:=c _ _ _ e u;simp only[H_];show Wp (λn=>d_ (aL n (co (sC tbl n) n (d:Int)) (s,(j:Int),(0:Int),(0:Int),(0:Int),([r]:List Rx),())) _) _;refine ae (Ev.wp_mono (IR hs c d a _ r j f p (by omega) (by omega) rfl) ?_);rintro(t|t) g;·rw[show _=none from g];exact aa rfl
  ·obtain⟨l,k,rfl,v⟩:=g;rw[v];refine ao (λh=>?_) λh=>aa ?_;·have h:=eqT (b:=1) h;obtain⟨x,rfl⟩:=u_.1 h;refine jh (by simp) rfl (m9 rfl (aa ?_));rw[cT];rfl
   ·have h:=eqF (b:=1) h;simp only;rw[AA h];rfl
theorem zfu(i:Nat):ek tbl ba [.ptr 0 0,.d tI (33:Int)] (PC s i) aY none:=by refine wi (λ_=>rfl) (aA jO rfl (λO m=>bI (cK O m (33:Int) s (i:Int))) ?_);unfold cK;exact ae (aE rfl (aa (aa rfl)))
theorem zdd(hs:s.length<=1048576){num:Nat->Option (Int×Nat)}(hn:NumOk s num)(hc:∀i,i<=s.length->ek tbl bc [.ptr 0 0] (PC s i) q_regex_parser_number_r ((num i).map λx=>(x.1,s,(x.2:Int),()))):
 ∀(b d:Nat),d+b=33->∀i,i<=s.length->ek tbl ba [.ptr 0 0,.d tI (d:Int)] (PC s i) aY (up3 s (Hn num s b i))
 |0,d,h,i,_=>by
  have:d=33:=by omega
  subst this;exact zfu i
 |b+1,d,h,i,g=>by have a:=Ic hn b;have c:=zg7 hs hn hc a d (by omega) (zdd hs hn hc b (d+1) (by omega));have e:=zg8 hs d c;have f:=XM hs (DR hn a) d e;exact MD hs (Mn (DR hn a) (by simp) 3) d (by omega) f i g
end
abbrev UB(s:List UInt8)(i:Nat):List Ob:=[.box aI [.d tS s,.d tI (i:Int)]]
def Rd(s:List UInt8)(one:Nat->Option (Rx×Nat))(C:Nat->Rx->Bool->Nat->Prop):Prop:=∀i,i<=s.length->∃(r:Rx) (ok:Bool) (j:Nat),(i<=j/\j<=s.length)/\one i=(if ok then some (r,j)else none)/\C i r ok j
section
variable {s:List UInt8}
theorem zde(hs:s.length<=1048576){num:Nat->Option (Int×Nat)}(hc:∀i,i<=s.length->∃(v:Int) (ok:Bool) (j:Nat),(i<=j/\j<=s.length)/\num i=(if ok then some (v,j)else none)/\aC tbl bk [.ptr 0 0] (UB s i) q_ref15_parser_number_r (v,ok,s,(j:Int),())) {alt:Nat->Option (Rx×Nat)} (d:Nat) (Y:d<=32) (U:Rd s alt λi r ok j=>aC tbl bW [.ptr 0 0,.d tI ((d+1:Nat):Int)] (UB s i) q_ref15_parser_alt_rd (r,ok,s,(j:Int),())): Rd s (ft num s alt) λi r ok j=>aC tbl b8 [.ptr 0 0,.d tI (d:Int)] (UB s i) q_ref15_parser_atom_rd (r,ok,s,(j:Int),()):=by
 intro i H;suffices h:∃c:HL q_ref15_parser_atom_rd.sl,(∃(r:Rx) (ok:Bool) (j:Nat),c=(r,ok,s,(j:Int),())/\(i<=j/\j<=s.length)/\ft num s alt i=(if ok then some (r,j)else none))/\aC tbl b8 [.ptr 0 0,.d tI (d:Int)] (UB s i) q_ref15_parser_atom_rd c by grind
 refine oN (λ_=>rfl) (aA rP rfl (λO m=>bI (gl O m (d:Int) s (i:Int))) ?_);unfold gl;refine an (decide_eq_false (by omega)) ?_;have C:∀(k c:Nat),c≠0->k<=s.length->aC tbl aS [.ptr 0 0,.d tY (c:Int)] (UB s k) aQ (decide (pk s k=c),s,((if pk s k=c then k+1 else k:Nat):Int),()):=λk c L hk=>Sp s k c L hs hk;refine aj (C i 46 (by simp) H) ?_;by_cases f:pk s i=46
 ·have E:=dQ (s:=s) (i:=i) (by omega);refine aE (decide_eq_true f) (aa ⟨_,rfl,.mk 2 0 0 [],true,i+1,?_,⟨by simp,by omega⟩,?_⟩);·simp only[if_pos f];rfl
  ·unfold ft;grind
 refine an (decide_eq_false f) ?_;simp only[if_neg f];refine aj (C i 33 (by simp) H) ?_;by_cases b:pk s i=33
 ·have E:=dQ (s:=s) (i:=i) (by omega);refine aE (decide_eq_true b) (aa ⟨_,rfl,.mk 4 0 0 [],true,i+1,?_,⟨by simp,by omega⟩,?_⟩);·simp only[if_pos b];rfl
  ·unfold ft;grind
 refine an (decide_eq_false b) ?_;simp only[if_neg b];refine aj (C i 40 (by simp) H) ?_;by_cases g:pk s i=40
 ·have E:=dQ (s:=s) (i:=i) (by omega);refine aE (decide_eq_true g) ?_;simp only[if_pos g];refine aj (C (i+1) 41 (by simp) (by omega)) ?_;by_cases p:pk s (i+1)=41
  ·have B:=dQ (s:=s) (i:=i+1) (by omega);refine aE (decide_eq_true p) (aa ⟨_,rfl,.mk 0 0 0 [],true,i+2,?_,⟨by simp,by omega⟩,?_⟩);·simp only[if_pos p];rfl
   ·unfold ft;rw[if_neg f,if_neg b,if_neg (by omega),if_pos g,if_pos p];rfl
  refine an (decide_eq_false p) ?_;simp only[if_neg p];rw[show c_ .i64 ((d:Int)+1)=((d+1:Nat):Int) by rw[wrap_i64 (by omega) (by omega)];rfl];obtain⟨r,ok,j,hj,e,D⟩:=U (i+1) (by omega);have hp:ft num s alt i=match alt (i+1)with
   |none=>none
   |some (r,j)=>if pk s j=41 then some (r,j+1)else none:=by
   unfold ft
   rw[if_neg f,if_neg b,if_neg (by omega),if_pos g,if_neg p]
   all_goals rfl
  rw[e]at hp;refine aj D ?_;cases ok with
  |true=>
   refine aE rfl (aj (C j 41 (by simp) hj.2) ?_);simp only[if_true]at hp;by_cases a:pk s j=41;·have B:=dQ (s:=s) (i:=j) (by omega);rw[if_pos a]at hp;refine aa ⟨_,rfl,r,true,j+1,?_,⟨by omega,by omega⟩,hp⟩;show(Rx.mk r.out.1 r.out.2.1 r.out.2.2.1 r.out.2.2.2.1,decide (pk s j=41),s,((if pk s j=41 then j+1 else j:Nat):Int),())=_;rw[cT,if_pos a,decide_eq_true a]
   ·rw[if_neg a]at hp;refine aa ⟨_,rfl,r,false,j,?_,⟨by omega,by omega⟩,hp⟩;show(Rx.mk r.out.1 r.out.2.1 r.out.2.2.1 r.out.2.2.2.1,decide (pk s j=41),s,((if pk s j=41 then j+1 else j:Nat):Int),())=_;rw[cT,if_neg a,decide_eq_false a]
  |false=>refine an rfl (aa ⟨_,rfl,r,false,j,?_,⟨by omega,by omega⟩,hp⟩);show(Rx.mk r.out.1 r.out.2.1 r.out.2.2.1 r.out.2.2.2.1,false,s,(j:Int),())=_;rw[cT]
 refine an (decide_eq_false g) ?_;simp only[if_neg g];refine aj (C i 91 (by simp) H) ?_;by_cases u:pk s i=91
 ·have E:=dQ (s:=s) (i:=i) (by omega);have hp:ft num s alt i=match num (i+1)with
   |none=>none
   |some (lo,j)=>if pk s j=45 then(match num (j+1)with
    |none=>none
    |some (up,k)=>if pk s k=93 then some (.mk 1 lo up [],k+1)else none)else none:=by
   unfold ft
   rw[if_neg f,if_neg b,if_pos u]
   all_goals rfl
  refine aE (decide_eq_true u) ?_;simp only[if_pos u];obtain⟨A,z,l,N,J,I⟩:=hc (i+1) (by omega);refine aj I (aj (C l 45 (by simp) N.2) ?_);have R:(if pk s l=45 then l+1 else l)<=s.length/\l<=(if pk s l=45 then l+1 else l):=by
   split;·have:=dQ (s:=s) (i:=l) (by omega);omega
   omega
  obtain⟨F,M,w,Q,P,T⟩:=hc (if pk s l=45 then l+1 else l) R.1;refine aj T ?_;rw[J]at hp;cases z with
  |false=>exact an rfl (aa ⟨_,rfl,.mk 1 A F [],false,w,rfl,⟨by omega,by omega⟩,hp⟩)|true=>
   simp only[if_true]at hp;refine aE rfl ?_;by_cases x:pk s l=45
   ·rw[if_pos x]at hp P;refine aE (decide_eq_true x) ?_;rw[P]at hp;cases M with
    |false=>exact an rfl (aa ⟨_,rfl,.mk 1 A F [],false,w,rfl,⟨by omega,by omega⟩,hp⟩)|true=>
     simp only[if_true]at hp;refine aE rfl (aj (C w 93 (by simp) Q.2) ?_);by_cases y:pk s w=93;·have B:=dQ (s:=s) (i:=w) (by omega);rw[if_pos y]at hp;refine aa ⟨_,rfl,.mk 1 A F [],true,w+1,?_,⟨by omega,by omega⟩,hp⟩;show(Rx.mk 1 A F [],decide (pk s w=93),s,((if pk s w=93 then w+1 else w:Nat):Int),())=_;rw[if_pos y,decide_eq_true y]
     ·rw[if_neg y]at hp;refine aa ⟨_,rfl,.mk 1 A F [],false,w,?_,⟨by omega,by omega⟩,hp⟩;grind
   ·rw[if_neg x]at hp;exact an (decide_eq_false x) (aa ⟨_,rfl,.mk 1 A F [],false,w,rfl,⟨by omega,by omega⟩,hp⟩)
 refine an (decide_eq_false u) ?_;simp only[if_neg u];obtain⟨A,z,l,N,J,I⟩:=hc i H;have hp:ft num s alt i=match num i with
  |none=>none
  |some (n,j)=>some (.mk 1 n n [],j):=by
  unfold ft
  rw[if_neg f,if_neg b,if_neg u,if_neg g]
  all_goals rfl
 rw[J]at hp;refine aj I (aa ⟨_,rfl,.mk 1 A A [],z,l,rfl,⟨by omega,by omega⟩,?_⟩);rw[hp];cases z<;>rfl
theorem UJ(hs:s.length<=1048576){one:Nat->Option (Rx×Nat)}(d:Nat)(v:Rd s one λi r ok j=>aC tbl b8 [.ptr 0 0,.d tI (d:Int)] (UB s i) q_ref15_parser_atom_rd (r,ok,s,(j:Int),())): Rd s (V7 s one) λi r ok j=>aC tbl cM [.ptr 0 0,.d tI (d:Int)] (UB s i) q_ref15_parser_item_rd (r,ok,s,(j:Int),()):=by
 intro i w;suffices h:∃c:HL q_ref15_parser_item_rd.sl,(∃(r:Rx) (ok:Bool) (j:Nat),c=(r,ok,s,(j:Int),())/\(i<=j/\j<=s.length)/\V7 s one i=(if ok then some (r,j)else none))/\aC tbl cM [.ptr 0 0,.d tI (d:Int)] (UB s i) q_ref15_parser_item_rd c by grind
 refine oN (λ_=>rfl) (aA Ca rfl (λO m=>bI (qB O m (d:Int) s (i:Int))) ?_);unfold qB;obtain⟨r,ok,j,l,e,a⟩:=v i w;have u:∀(k c:Nat),c≠0->k<=s.length->aC tbl aS [.ptr 0 0,.d tY (c:Int)] (UB s k) aQ (decide (pk s k=c),s,((if pk s k=c then k+1 else k:Nat):Int),()):=λk c p x=>Sp s k c p hs x;refine aj a ?_;have hp:V7 s one i=match one i with
  |none=>none
  |some (r,j)=>if pk s j=42 then some (.mk 5 0 0 [r],j+1)else if pk s j=43 then some (.mk 6 0 0 [r],j+1)else if pk s j=63 then some (.mk 7 0 0 [r],j+1)else some (r,j):=rfl
 rw[e]at hp;cases ok with
 |false=>refine ae (aE rfl (aa (aa ⟨_,rfl,r,false,j,?_,l,hp⟩)));show(Rx.mk r.out.1 r.out.2.1 r.out.2.2.1 r.out.2.2.2.1,false,s,(j:Int),())=_;rw[cT]|true=>
  simp only[if_true]at hp;refine ae (an rfl ?_);refine aj (u j 42 (by simp) l.2) ?_;by_cases b:pk s j=42;·have n:=dQ (s:=s) (i:=j) (by omega);rw[if_pos b]at hp;refine aE (decide_eq_true b) (aa ?_);refine eO (λ_=>rfl) (⟨_,rfl,.mk 5 0 0 [r],true,j+1,?_,⟨by omega,by omega⟩,hp⟩);show(Rx.mk 5 0 0 [Rx.mk r.out.1 r.out.2.1 r.out.2.2.1 r.out.2.2.2.1],true,s,((if pk s j=42 then j+1 else j:Nat):Int),())=_;rw[cT,if_pos b]
  rw[if_neg b]at hp;refine an (decide_eq_false b) ?_;simp only[if_neg b];refine aj (u j 43 (by simp) l.2) ?_;by_cases f:pk s j=43;·have n:=dQ (s:=s) (i:=j) (by omega);rw[if_pos f]at hp;refine aE (decide_eq_true f) (aa ?_);refine eO (λ_=>rfl) (⟨_,rfl,.mk 6 0 0 [r],true,j+1,?_,⟨by omega,by omega⟩,hp⟩);show(Rx.mk 6 0 0 [Rx.mk r.out.1 r.out.2.1 r.out.2.2.1 r.out.2.2.2.1],true,s,((if pk s j=43 then j+1 else j:Nat):Int),())=_;rw[cT,if_pos f]
  rw[if_neg f]at hp;refine an (decide_eq_false f) ?_;simp only[if_neg f];refine aj (u j 63 (by simp) l.2) ?_;by_cases g:pk s j=63;·have n:=dQ (s:=s) (i:=j) (by omega);rw[if_pos g]at hp;refine aE (decide_eq_true g) (aa ?_);refine eO (λ_=>rfl) (⟨_,rfl,.mk 7 0 0 [r],true,j+1,?_,⟨by omega,by omega⟩,hp⟩);show(Rx.mk 7 0 0 [Rx.mk r.out.1 r.out.2.1 r.out.2.2.1 r.out.2.2.2.1],true,s,((if pk s j=63 then j+1 else j:Nat):Int),())=_;rw[cT,if_pos g]
  rw[if_neg g]at hp;refine an (decide_eq_false g) (aa ?_);refine eO (λ_=>rfl) (⟨_,rfl,r,true,j,?_,l,hp⟩);show(Rx.mk r.out.1 r.out.2.1 r.out.2.2.1 r.out.2.2.2.1,true,s,((if pk s j=63 then j+1 else j:Nat):Int),())=_;rw[cT,if_neg g]
theorem zaM(hs:s.length<=1048576){one:Nat->Option (Rx×Nat)}(z:XI s one)(d:Nat)(y:Rd s one λi r ok j=>aC tbl cM [.ptr 0 0,.d tI (d:Int)] (UB s i) q_ref15_parser_item_rd (r,ok,s,(j:Int),())): Rd s (C7 s 32 3 one) λi r ok j=>aC tbl c9 [.ptr 0 0,.d tI (d:Int)] (UB s i) q_ref15_parser_seq_rd (r,ok,s,(j:Int),()):=by
 intro i A;suffices h:∃c:HL q_ref15_parser_seq_rd.sl,(∃(r:Rx) (ok:Bool) (j:Nat),c=(r,ok,s,(j:Int),())/\(i<=j/\j<=s.length)/\C7 s 32 3 one i=(if ok then some (r,j)else none))/\aC tbl c9 [.ptr 0 0,.d tI (d:Int)] (UB s i) q_ref15_parser_seq_rd c by grind
 refine oN (λ_=>rfl) (aA Df rfl (λO m=>bI (rY O m (d:Int) s (i:Int))) ?_);unfold rY;refine ae (Ev.wp_mono (Ev.wp_loop (Q:=λt=>match t with
  | .inl t=>∃j:Nat,t=(false,s,(j:Int),(0:Int),(0:Int),(0:Int),())/\(i<=j/\j<=s.length)/\gX s 32 one (s.length+1 - i) [] i=none
  | .inr t=>∃(a:List Rx) (j:Nat),t=(s,(j:Int),(0:Int),(0:Int),(0:Int),a,())/\(i<=j/\j<=s.length)/\gX s 32 one (s.length+1 - i) [] i=some (a,j))
  (λt=>∃(a:List Rx) (j f:Nat),t=(s,(j:Int),(0:Int),(0:Int),(0:Int),a,())/\i<=j/\j<=s.length/\a.length<=j/\s.length+1<=f+j/\gX s 32 one f a j=gX s 32 one (s.length+1 - i) [] i) (λt=>s.length - t.2.1.toNat)
  ⟨[],i,s.length+1 - i,rfl,p_ _,A,z_ _,by omega,rfl⟩ ?_) ?_)
 ·rintro t ⟨a,j,f,rfl,B,u,v,F,l⟩;unfold qe;obtain⟨r,ok,k,p,e,n⟩:=y j u;obtain⟨f2,rfl⟩:∃g,f=g+1:=⟨f - 1,by omega⟩;rw[gX,e]at l;refine aj n ?_;cases ok with
  |false=>exact aE rfl (aa ⟨k,rfl,⟨by omega,p.2⟩,l.symm⟩)|true=>
   simp only[if_true]at l e;obtain⟨D,E,_⟩:=z _ _ _ u e;refine an rfl (aD (decide_eq_true ?_) (aj (Sp s k 32 (by simp) hs p.2) ?_));·grind
   by_cases hp:pk s k=32
   ·have C:=dQ (s:=s) (i:=k) (by omega);rw[if_pos hp]at l;refine an (by grind) (aa ⟨⟨a++[r],k+1,f2,?_,by omega,by omega,?_,by omega,l⟩,?_⟩);·show(s,((if pk s k=32 then k+1 else k:Nat):Int),(0:Int),(0:Int),(0:Int),a++[Rx.mk r.out.1 r.out.2.1 r.out.2.2.1 r.out.2.2.2.1],())=_;rw[cT,if_pos hp]
    all_goals grind
   ·rw[if_neg hp]at l;refine aE (by grind) (aa ⟨a++[r],k,?_,⟨by omega,p.2⟩,l.symm⟩);show(s,((if pk s k=32 then k+1 else k:Nat):Int),(0:Int),(0:Int),(0:Int),a++[Rx.mk r.out.1 r.out.2.1 r.out.2.2.1 r.out.2.2.2.1],())=_;rw[cT,if_neg hp]
 ·unfold C7;rintro(t|t) w;·obtain⟨j,rfl,u,l⟩:=w;rw[l];exact aa ⟨_,rfl,.mk 0 0 0 [],false,j,rfl,u,rfl⟩
  ·obtain⟨a,k,rfl,p,l⟩:=w;rw[l];refine ao (λh=>?_) λh=>aa ⟨_,rfl,.mk 3 0 0 a,true,k,rfl,p,?_⟩;·have h:=eqT (b:=1) h;obtain⟨x,rfl⟩:=u_.1 h;refine jh (by simp) rfl (m9 rfl (aa ⟨_,rfl,x,true,k,?_,p,rfl⟩));rw[cT]
   ·have h:=eqF (b:=1) h;simp only;rw[AA h];rfl
theorem zaK(hs:s.length<=1048576){one:Nat->Option (Rx×Nat)}(z:XI s one)(d:Nat)(y:Rd s one λi r ok j=>aC tbl c9 [.ptr 0 0,.d tI (d:Int)] (UB s i) q_ref15_parser_seq_rd (r,ok,s,(j:Int),())): Rd s (C7 s 124 4 one) λi r ok j=>aC tbl bW [.ptr 0 0,.d tI (d:Int)] (UB s i) q_ref15_parser_alt_rd (r,ok,s,(j:Int),()):=by
 intro i A;suffices h:∃c:HL q_ref15_parser_alt_rd.sl,(∃(r:Rx) (ok:Bool) (j:Nat),c=(r,ok,s,(j:Int),())/\(i<=j/\j<=s.length)/\C7 s 124 4 one i=(if ok then some (r,j)else none))/\aC tbl bW [.ptr 0 0,.d tI (d:Int)] (UB s i) q_ref15_parser_alt_rd c by grind
 refine oN (λ_=>rfl) (aA De rfl (λO m=>bI (rX O m (d:Int) s (i:Int))) ?_);unfold rX;refine ae (Ev.wp_mono (Ev.wp_loop (Q:=λt=>match t with
  | .inl t=>∃j:Nat,t=(false,s,(j:Int),(0:Int),(0:Int),(0:Int),())/\(i<=j/\j<=s.length)/\gX s 124 one (s.length+1 - i) [] i=none
  | .inr t=>∃(a:List Rx) (j:Nat),t=(s,(j:Int),(0:Int),(0:Int),(0:Int),a,())/\(i<=j/\j<=s.length)/\gX s 124 one (s.length+1 - i) [] i=some (a,j))
  (λt=>∃(a:List Rx) (j f:Nat),t=(s,(j:Int),(0:Int),(0:Int),(0:Int),a,())/\i<=j/\j<=s.length/\a.length<=j/\s.length+1<=f+j/\gX s 124 one f a j=gX s 124 one (s.length+1 - i) [] i) (λt=>s.length - t.2.1.toNat)
  ⟨[],i,s.length+1 - i,rfl,p_ _,A,z_ _,by omega,rfl⟩ ?_) ?_)
 ·rintro t ⟨a,j,f,rfl,B,u,v,F,l⟩;unfold qd;obtain⟨r,ok,k,p,e,n⟩:=y j u;obtain⟨f2,rfl⟩:∃g,f=g+1:=⟨f - 1,by omega⟩;rw[gX,e]at l;refine aj n ?_;cases ok with
  |false=>exact aE rfl (aa ⟨k,rfl,⟨by omega,p.2⟩,l.symm⟩)|true=>
   simp only[if_true]at l e;obtain⟨D,E,_⟩:=z _ _ _ u e;refine an rfl (aD (decide_eq_true ?_) (aj (Sp s k 124 (by simp) hs p.2) ?_));·grind
   by_cases hp:pk s k=124
   ·have C:=dQ (s:=s) (i:=k) (by omega);rw[if_pos hp]at l;refine an (by grind) (aa ⟨⟨a++[r],k+1,f2,?_,by omega,by omega,?_,by omega,l⟩,?_⟩);·show(s,((if pk s k=124 then k+1 else k:Nat):Int),(0:Int),(0:Int),(0:Int),a++[Rx.mk r.out.1 r.out.2.1 r.out.2.2.1 r.out.2.2.2.1],())=_;rw[cT,if_pos hp]
    all_goals grind
   ·rw[if_neg hp]at l;refine aE (by grind) (aa ⟨a++[r],k,?_,⟨by omega,p.2⟩,l.symm⟩);show(s,((if pk s k=124 then k+1 else k:Nat):Int),(0:Int),(0:Int),(0:Int),a++[Rx.mk r.out.1 r.out.2.1 r.out.2.2.1 r.out.2.2.2.1],())=_;rw[cT,if_neg hp]
 ·unfold C7;rintro(t|t) w;·obtain⟨j,rfl,u,l⟩:=w;rw[l];exact aa ⟨_,rfl,.mk 0 0 0 [],false,j,rfl,u,rfl⟩
  ·obtain⟨a,k,rfl,p,l⟩:=w;rw[l];refine ao (λh=>?_) λh=>aa ⟨_,rfl,.mk 4 0 0 a,true,k,rfl,p,?_⟩;·have h:=eqT (b:=1) h;obtain⟨x,rfl⟩:=u_.1 h;refine jh (by simp) rfl (m9 rfl (aa ⟨_,rfl,x,true,k,?_,p,rfl⟩));rw[cT]
   ·have h:=eqF (b:=1) h;simp only;rw[AA h];rfl
theorem zdf:Rd s (λ_=>none) λi r ok j=>aC tbl b8 [.ptr 0 0,.d tI ((33:Nat):Int)] (UB s i) q_ref15_parser_atom_rd (r,ok,s,(j:Int),()):=by intro i a;refine⟨.mk 0 0 0 [],false,i,⟨p_ _,a⟩,rfl,?_⟩;refine ap rfl (aA rP rfl (λO m=>bI (gl O m (33:Int) s (i:Int))) ?_);unfold gl;exact aE rfl (aa rfl)
theorem Vl:XI s λ_=>none:=λ_ _ _ _ h=>by cases h
theorem Rd.imp{one z:Nat->Option (Rx×Nat)}{C:Nat->Rx->Bool->Nat->Prop}(h:Rd s one C)(N:∀i,i<=s.length->one i=z i):Rd s z C:=λi E=>by obtain⟨r,ok,j,H,I,J⟩:=h i E;grind
theorem VY(p:Nat)(k:Int)(i:Nat)(b:i<=s.length):C7 s p k (λ_=>none) i=none:=by obtain⟨f,a⟩:∃f,s.length+1 - i=f+1:=⟨s.length - i,by omega⟩;unfold C7;rw[a,gX]
theorem UD(hs:s.length<=1048576){num:Nat->Option (Int×Nat)}(hn:NumOk s num)(hc:∀i,i<=s.length->∃(v:Int) (ok:Bool) (j:Nat),(i<=j/\j<=s.length)/\num i=(if ok then some (v,j)else none)/\
 aC tbl bk [.ptr 0 0] (UB s i) q_ref15_parser_number_r (v,ok,s,(j:Int),())):
 ∀(b d:Nat),d+b=33->Rd s (Hn num s b) λi r ok j=>aC tbl bW [.ptr 0 0,.d tI (d:Int)] (UB s i) q_ref15_parser_alt_rd (r,ok,s,(j:Int),())
 |0,d,h=>by
  have:d=33:=by omega
  subst this;have a:=UJ hs 33 zdf;have c:Rd s (λ_=>none) _:=a.imp λi _=>rfl;have e:=zaM hs Vl 33 c;have f:Rd s (λ_=>none) _:=e.imp λi g=>VY 32 3 i g;exact(zaK hs Vl 33 f).imp λi g=>VY 124 4 i g
 |b+1,d,h=>by have k:=Ic hn b;have l:=zde hs hc d (by omega) (UD hs hn hc b (d+1) (by omega));have a:=UJ hs d l;have e:=zaM hs (DR hn k) d a;exact zaK hs (Mn (DR hn k) (by simp) 3) d e
end
def ParsedX(s:List UInt8)(c:Rx×Int×Unit):Prop:=(∃r,mD r=0/\jv r=s/\c=(r,0,()))\/((∀r,mD r=0->jv r≠s)/\c=(.mk 0 0 0 [],2,()))
theorem Fp{r:Rx}(h:mD r=0):dF r=true/\sz r<=64/\UC r<=16:=by obtain⟨a,b⟩:=Rp h;have:=zfY r 1 0 h;exact⟨a,b,by omega⟩
theorem EC{num:Nat->Option (Int×Nat)}{s:List UInt8}(hn:NumOk s num){b:Nat}(d:16<=b){r:Rx}(h:mD r=0)(hp:jv r=s):Hn num s b 0=some (r,s.length):=by obtain⟨a,_,c⟩:=Fp h;subst hp;exact zcJ hn a (by omega)
theorem ParsedX.pxUniq{s:List UInt8}(hs:s.length<=1048576){c z:Rx×Int×Unit}(h:ParsedX s c)(h':ParsedX s z):c=z:=by
 obtain⟨num,hn,_⟩:=zgP s hs;rcases h with⟨r,E,J,rfl⟩|⟨E,rfl⟩<;>rcases h' with⟨R,H,N,rfl⟩|⟨H,rfl⟩;·have I:=EC hn (b:=16) (by simp) E J;rw[EC hn (by simp) H N]at I;grind
 all_goals grind
theorem zeA:∀(r:Rx),dF r=true->sz r<=1000->zez r:=by
 refine lT λk lo up ks c b hs=>?_;obtain⟨nd,a⟩:=well_iff.1 b;have hl:=I9 ks;simp only[sz]at hs;have d:lo=0/\up=0\/0<=lo/\lo<=up/\up<=4294967295:=by
  by_cases e:k=1;·exact .inr (nd.rng e)
  ·exact .inl (nd.zero e)
 have f:=nd.known;have g:IntKind.i64.min= -9223372036854775808:=rfl;have h:IntKind.i64.max=9223372036854775807:=rfl;refine⟨⟨by omega,by omega⟩,⟨by omega,by omega⟩,⟨by omega,by omega⟩,X_ (show ks.length<=1000 by omega) (by decide),(Kj ks).2 λr hr=>c r hr (a r hr) (by have:=we hr;omega)⟩
theorem ParsedX.ok{s:List UInt8}{c:Rx×Int×Unit}(h:ParsedX s c):zez c.1:=by
 rcases h with⟨r,z,_,rfl⟩|⟨_,rfl⟩;·obtain⟨E,H,_⟩:=Fp z;exact zeA r E (by omega)
 ·exact⟨by decide,by decide,by decide,by simp,trivial⟩
theorem F7(s:List UInt8)(hs:s.length<=1048576):∃c:Rx×Int×Unit,ParsedX s c/\aC tbl oI [.d tS s] [] eZ c:=by
 obtain⟨num,hn,hc⟩:=zgP s hs;refine oN (sh:=eZ) (λ_=>rfl) (zdP Q4 rfl (λO n=>bI (GG O n s)) ?_);unfold GG;refine jP (zdd hs hn hc 33 0 rfl 0 (z_ _)) ?_;cases e:Hn num s 33 0 with
 |none=>refine aa ⟨_,rfl,.inr ⟨λr hr hp=>?_,rfl⟩⟩;rw[EC hn (by simp) hr hp]at e;grind|some x=>
  obtain⟨r,j⟩:=x;obtain⟨k,l,p⟩:=Ic hn 33 0 r j (z_ _) e;have g:∀a,mD a=0->jv a=s->a=r:=λa d f=>by rw[EC hn (by simp) d f]at e;grind
  show Wp (λn=>d_ (d_ (au (sC tbl n) kW [.d .rx (Rx.mk r.out.1 r.out.2.1 r.out.2.2.1 r.out.2.2.2.1)] [] jd) _) _) _;rw[cT];refine ae (aj (Pr r (by omega)) (ae (bn (b:= !(jv r==s)) (λh=>aa ?_) ?_)));·grind
  ·refine ao (λh=>aa (aa ⟨_,rfl,.inr ⟨λa d f=>?_,rfl⟩⟩)) λh=>aa (aa ⟨_,rfl,.inl ⟨r,?_,?_,?_⟩⟩);·grind
   ·grind
   ·grind
   ·show(Rx.mk r.out.1 r.out.2.1 r.out.2.2.1 r.out.2.2.2.1,(0:Int),())=_;rw[cT]
theorem F1(s:List UInt8)(hs:s.length<=1048576):∃c:Rx×Int×Unit,ParsedX s c/\aC tbl kT [.d tS s] [] eV c:=by
 obtain⟨num,hn,hc⟩:=zfC s hs;refine oN (sh:=eV) (λ_=>rfl) (aA QI rfl (λO n=>bI (Gj O n s)) ?_);unfold Gj;obtain⟨r,ok,j,v,e,a⟩:=UD hs hn hc 32 1 rfl 0 (z_ _);refine aj a ?_;have k:∀d,mD d=0->jv d=s->d=r/\ok=true/\j=s.length:=λd f g=>by rw[EC hn (by simp) f g]at e;grind
 refine ae (bn (b:=decide (j<s.length)) (λ_=>aa ?_) ?_);·simp
 rw[cT];have u:ok=true->sz r<=1048576:=λh=>by rw[h]at e;have:=Ic hn 32 0 r j (z_ _) e;omega
 refine ae (bn (b:=(mD r != 0)) (λh=>?_) ?_)
 ·have h:((!ok)||decide (j<s.length))=false:=h;have l:ok=true:=by grind
  exact aj (O7 r (u l)) (aa rfl)
 refine ae (bn (b:= !(jv r==s)) (λh=>?_) ?_)
 ·have h:((!ok)||decide (j<s.length)||(mD r != 0))=false:=h;have p:mD r=0:=by grind
  obtain⟨f,g,_⟩:=Fp p;exact aj (Lr r f (by omega)) (aa rfl)
 refine ao (λh=>aa ⟨_,rfl,.inr ⟨λd f g=>?_,rfl⟩⟩) λh=>aa ⟨_,rfl,.inl ⟨r,?_,?_,rfl⟩⟩;all_goals grind
open Go Go.Av Go.Ev Go.Pl
def cL(l:List Nat):List Int:=l.map fun(k:Nat)=>(k:Int)
theorem zdG(a b:List Nat):cL (a++b)=cL a++cL b:=v_
theorem ii(l:List Nat):(cL l).length=l.length:=e_ _
theorem X2{l:List Nat}{i:Nat}(h:i<l.length):(cL l)[i]'(by rw[ii];exact h)=(l[i]:Int):=by simp[cL]
theorem Z6{a:List Nat}{i:Nat}(h:i<a.length)(b:List Nat):qj (a.take (i+1)) b=qj (a.take i) b++qj [a[i]] b:=by unfold qj;rw[l_,b_ h,List.flatMap_append];rfl
theorem Pt:∀(r:Rx),sz r<=1000000->aC tbl oJ [.d .rx r] [] lm ((cnt r:Int),()):=by
 refine lT λk lo up ks h hs=>?_;obtain⟨e,d⟩:=Hu hs;refine ap rfl (aA Q6 rfl (λO m=>bI (GI O m (.mk k lo up ks))) ?_);unfold GI;have g:cnt (.mk k lo up ks)<=1000000:=X_ (zdM _) hs;simp only[cnt]at g;have hc:∀i,fC (ks.take i)<=fC ks:=λi=>by
  have:fC ks=fC (ks.take i)+fC (ks.drop i):=by rw[<-DW,B_]
  omega
 have j:∀n:Nat,(d_ (d_ (bif (k==(1:Int))then some true else some (k==(2:Int))) λv=>bif v then some (((1:Int),()):Int×Unit)else some ((0:Int),())) fun(v:Int×Unit)=>some v)=some (((bif k==1||k==2 then 1 else 0:Nat):Int),()):=λ_=>by grind
 have c:(d_ (bif (k==(1:Int))then some true else some (k==(2:Int))) λv=>bif v then some (((1:Int),()):Int×Unit)else some ((0:Int),()))=some (((bif k==1||k==2 then 1 else 0:Nat):Int),()):=by grind
 refine ae (eO (a:=(((bif k==1||k==2 then 1 else 0:Nat):Int),())) (λ_=>c) ?_);refine ae (a8 (N:=ks.length) (I:=λi s=>s=((((bif k==1||k==2 then 1 else 0)+fC (ks.take i):Nat):Int),(i:Int),())) (by simp[fC]) (λi s b hs=>?_) λs hs=>?_)
 ·subst hs;unfold uR;refine a6 b (aF b ?_);rw[cT];have hr:=a_ b;refine aj (h ks[i] hr (by grind)) (aa ?_);have f:fC (ks.take (i+1))=fC (ks.take i)+cnt ks[i]:=by rw[l_,b_ b,DW];simp[fC]
  have:=hc (i+1);refine ai_ ?_ (ai_ (aB b (by omega)) rfl);show c_ .i64 ((((bif k==1||k==2 then 1 else 0)+fC (ks.take i):Nat):Int)+(cnt ks[i]:Int))=_;rw[wrap_i64 (by omega) (by omega),f];omega
 ·subst hs;unfold uR;refine aT (aa (aa ?_));rw[m_];rfl
structure FolR(n:Nat)(F:List (List Int))(P:List (Nat×Nat)):Prop where
 len:F.length=n
 nd:∀l∈F,l.Nodup
 bd:∀l∈F,∀x∈l,0<=x/\x<(n:Int)
 mem:∀p (h:p<F.length) (q:Nat),(q:Int)∈F[p]↔(p,q)∈P
theorem FolR.congr{n:Nat}{F:List (List Int)}{P z:List (Nat×Nat)}(h:FolR n F P)(e:∀x,x∈P↔x∈z):FolR n F z:=⟨h.len,h.nd,h.bd,λp hp q=>(h.mem p hp q).trans (e _)⟩
theorem FolR.add{n:Nat}{F:List (List Int)}{P:List (Nat×Nat)}(h:FolR n F P){p q:Nat}(hp:p<F.length)(hq:q<n)(hn:(q:Int)∉F[p]):FolR n (F.set p (F[p]++[(q:Int)])) (P++[(p,q)]):=by
 have z:∀l∈F.set p (F[p]++[(q:Int)]),l∈F\/l=F[p]++[(q:Int)]:=λl hl=>by grind
 refine⟨by rw[Z_,h.len],λl hl=>?_,λl hl x J=>?_,λN R q'=>?_⟩
 ·rcases z l hl with H|rfl;·exact h.nd l H
  ·exact List.nodup_append.2 ⟨h.nd _ (a_ hp),by simp,λa U b Y=>by grind⟩
 ·rcases z l hl with H|rfl;·exact h.bd l H x J
  ·rcases w_.1 J with I|I;·exact h.bd _ (a_ hp) x I
   grind
 ·have E:N<F.length:=by grind
  rw[O_];split;·rename_i e;subst e;simp only[w_,n_,h.mem p hp,Prod.mk.injEq,true_and];grind
  ·rename_i e;simp only[w_,n_,h.mem N E,Prod.mk.injEq];grind
theorem FolR.one{n:Nat}{F:List (List Int)}{P:List (Nat×Nat)}(h:FolR n F P)(H:∀p q,(p,q)∈P->p<n):FolR (n+1) (F++[[]]) P:=by
 refine⟨by simp[h.len],λl hl=>?_,λl hl x J=>?_,λp hp q=>?_⟩
 ·rcases w_.1 hl with z|z;·exact h.nd l z
  grind
 ·rcases w_.1 hl with z|z;·have:=h.bd l z x J;omega
  grind
 ·by_cases E:p<F.length;·rw[List.getElem_append_left E];exact h.mem p E q
  ·have:p=F.length:=by grind
   subst this;simp only[List.getElem_concat_length,List.not_mem_nil,false_iff];intro I;have:=H _ _ I;have:=h.len;omega
def qq(M:Nat)(P:List (Nat×Nat)):List (List Bool):=(L_ M).map λi=>(L_ M).map λk=>decide ((i,k)∈P)
theorem Wh(M:Nat)(P:List (Nat×Nat)):(qq M P).length=M:=by simp[qq]
theorem NV{M:Nat}{P:List (Nat×Nat)}{i:Nat}(h:i<(qq M P).length):(qq M P)[i]=(L_ M).map λk=>decide ((i,k)∈P):=by simp[qq]
theorem zek{M:Nat}{P:List (Nat×Nat)}{i k:Nat}(h:i<M)(j:k<M):(qq M P).set i (((L_ M).map λk=>decide ((i,k)∈P)).set k true)=qq M (P++[(i,k)]):=by
 refine s_ (by simp[qq]) λa c d=>?_;simp only[O_,NV,Z_]at c⊢;split;·rename_i e;subst e;refine s_ (by simp) λb f g=>?_;grind
 grind
theorem jW(a b:List Int)(c:a.length<=1000000)(d:b.length<=1000000):aC tbl ke [.d (.list tI) a,.d (.list tI) b] [] iU (a++b,()):=by refine ap rfl (aA T7 rfl (λO m=>bI (H2 O m a b)) ?_);unfold H2;refine aD (decide_eq_true (by grind)) (aD (decide_eq_true (by grind)) (aa ?_));simp
theorem wq(x y:Int)(lo a:List Int)(F:List (List Bool))(b:lo.length<=1000000)(c:a.length<=1000000):aC tbl dN [.ptr 0 0,.d tI x,.d tI y] [.box bo [.sl 1,.sl 2,.sl 3],.vec fS tI lo,.vec fS tI a,.tree fp (.s 4 1 .e .e) (.list tB) F none] cS (([(lo.length:Int)],[(lo.length:Int)],false,()),lo++[x],a++[y],F,()):=by refine ap rfl (aA Cf rfl (λO m=>bI (qG O m x y lo a F)) ?_);unfold qG;exact aD (decide_eq_true (by grind)) (aD (decide_eq_true (by grind)) (aa rfl))
theorem nJ{M:Nat}(P:List (Nat×Nat))(lo up:List Int){la fi:List Nat}(h:∀p∈la,p<M)(e:∀q∈fi,q<M)(n:la.length<=1000000)(r:fi.length<=1000000)(u:M<=1000000): aC tbl dy [.ptr 0 0,.d (.list tI) (cL la),.d (.list tI) (cL fi)] [.box bo [.sl 1,.sl 2,.sl 3],.vec fS tI lo,.vec fS tI up,.tree fp (.s 4 1 .e .e) (.list tB) (qq M P) none] cr (lo,up,qq M (P++qj la fi),()):=by
 refine ap rfl (aA AQ rfl (λO m=>bI (qc O m (cL la) (cL fi) lo up (qq M P))) ?_);unfold qc;refine ae (a8 (N:=(cL la).length) (I:=λi s=>s=((i:Int),lo,up,qq M (P++qj (la.take i) fi),())) (by simp[qj]) ?_ ?_)
 ·rintro i s a rfl;have f:i<la.length:=by rw[ii]at a;omega
  have hp:=h _ (a_ f);unfold ig;refine a6 a (aF a ?_);rw[X2 f];refine ae (a8 (N:=(cL fi).length) (I:=λj s=>s=((j:Int),lo,up,qq M (P++qj (la.take i) fi++qj [la[i]] (fi.take j)),())) (by simp[qj]) ?_ ?_)
  ·rintro j s b rfl;have g:j<fi.length:=by rw[ii]at b;omega
   have l:=e _ (a_ g);unfold ic;refine a6 b (aF b ?_);rw[X2 g];have c:la[i]<(qq M (P++qj (la.take i) fi++qj [la[i]] (fi.take j))).length:=by rw[Wh];omega
   have hg:=b_ c;rw[NV]at hg;refine aF c (aD (decide_eq_true (by simp)) ?_);simp only[i_];refine m9 hg (m9 hg (aD (ad_ _) ?_));have d:fi[j]<((L_ M).map λk=>decide ((la[i],k)∈P++qj (la.take i) fi++qj [la[i]] (fi.take j))).length:=by grind
   refine aF d (m9 (b_ d) (m9 hg (aa ?_)));rw[aB b (by rw[ii];omega),zek hp l];congr 4;rw[l_,b_ g];simp only[qj,List.flatMap_cons,List.flatMap_nil,List.append_nil,v_,V_,N_,List.map_nil,A_]
  ·rintro s rfl;unfold ic;refine aT (aa (aa ?_));rw[aB a (by rw[ii];omega),ii,m_,Z6 f,A_]
 ·rintro s rfl;unfold ig;refine aT (aa (aa ?_));rw[ii,m_]
theorem ziX{ks:List Rx}(b:∀r∈ks,dF r=true)(o i:Nat):Lie o (pZ (ks.take i) o (Pl.g0 true))/\(pZ (ks.take i) o (Pl.g0 true)).sp.length=fC (ks.take i):=by
 have hl:=BM (.mk 3 0 0 (ks.take i)) o;have e:oT (.mk 3 0 0 (ks.take i)) o=pZ (ks.take i) o (Pl.g0 true):=by simp[oT]
 rw[e]at hl;refine⟨hl,?_⟩;have:∀(l:List Rx) (a:G),(∀r∈l,r∈ks)->(pZ l o a).sp.length=a.sp.length+fC l:=by intro l;induction l with|nil=>intro a _;simp[pZ,fC]|cons r l c=>intro a hl;have hr:=hl r (j_ ..);obtain⟨d,h⟩:=ua r (b r hr) (o+a.sp.length);have f:=c (AL a (oT r (o+a.sp.length))) λx g=>hl x (k_ _ g);simp only[pZ,f,fC];simp only[AL,U_,d];omega
 have:=this (ks.take i) (Pl.g0 true) λr hr=>G_ hr;simpa[Pl.g0]using this
theorem ziW{ks:List Rx}(b:∀r∈ks,dF r=true)(o i:Nat):Lie o (mi (ks.take i) o (Pl.g0 false))/\(mi (ks.take i) o (Pl.g0 false)).sp.length=fC (ks.take i):=by
 have hl:=BM (.mk 4 0 0 (ks.take i)) o;have e:oT (.mk 4 0 0 (ks.take i)) o=mi (ks.take i) o (Pl.g0 false):=by simp[oT]
 rw[e]at hl;refine⟨hl,?_⟩;have:∀(l:List Rx) (a:G),(∀r∈l,r∈ks)->(mi l o a).sp.length=a.sp.length+fC l:=by intro l;induction l with|nil=>intro a _;simp[mi,fC]|cons r l c=>intro a hl;have hr:=hl r (j_ ..);obtain⟨d,h⟩:=ua r (b r hr) (o+a.sp.length);have f:=c (H8 a (oT r (o+a.sp.length))) λx g=>hl x (k_ _ g);simp only[mi,f,fC];simp only[H8,U_,d];omega
 have:=this (ks.take i) (Pl.g0 false) λr hr=>G_ hr;simpa[Pl.g0]using this
theorem SN(ks:List Rx)(i:Nat):fC (ks.take i)<=fC ks:=by
 have:fC ks=fC (ks.take i)+fC (ks.drop i):=by rw[<-DW,B_]
 omega
theorem Ik{ks:List Rx}{i:Nat}(h:i<ks.length):fC (ks.take i)+cnt ks[i]<=fC ks:=by
 have e:fC (ks.take (i+1))=fC (ks.take i)+cnt ks[i]:=by rw[l_,b_ h,DW];simp[fC]
 have:=SN ks (i+1);omega
theorem Fv{M:Nat}(E:M<=1000000):∀(r:Rx),dF r=true->sz r<=1000000->∀(lo f:List Int) (P:List (Nat×Nat)),f.length=lo.length->lo.length+cnt r<=M->aC tbl ca [.ptr 0 0,.d .rx r] [.box bo [.sl 1,.sl 2,.sl 3],.vec fS tI lo,.vec fS tI f,.tree fp (.s 4 1 .e .e) (.list tB) (qq M P) none] bD ((cL (oT r lo.length).fi,cL (oT r lo.length).la,(oT r lo.length).em,()),lo++(oT r lo.length).sp.map (·.1),f++(oT r lo.length).sp.map (·.2),qq M (P++(oT r lo.length).pr),()):=by
 refine lT λk l up ks B Y hs lo f P w U=>?_;obtain⟨L,g⟩:=Hu hs;obtain⟨hn,e⟩:=well_iff.1 Y;have hcs:fC ks<=cnt (.mk k l up ks):=by simp only[cnt];simp
 refine ap rfl (aA Cg rfl (λO m=>bI (qH O m (.mk k l up ks) lo f (qq M P))) ?_);unfold qH;have F:(bif (k==(0:Int))then some true else some (k==(3:Int)))=some (k==0||k==3):=by grind
 refine ae (eO (a:=(k==0||k==3)) (λ_=>F) ?_);rcases hn.known with rfl|rfl|rfl|rfl|rfl|rfl|rfl|rfl
 ·have:=len_nil (hn.leaf (by simp));subst this;refine eO (a:=some (jm bD (([],[],true,()),lo,f,qq M P,()))) (λ_=>rfl) ?_;simp[oT,Pl.g0,cL]
 ·have:=len_nil (hn.leaf (by simp));subst this;refine ae (aj (wq l up lo f _ (by omega) (by omega)) (aa (aa ?_)));simp[oT,gAt,cL]
 ·have:=len_nil (hn.leaf (by simp));subst this;refine ae (aj (wq 0 4294967295 lo f _ (by omega) (by omega)) (aa (aa ?_)));simp[oT,gAt,cL]
 ·have u:oT (.mk 3 l up ks) lo.length=pZ ks lo.length (Pl.g0 true):=by simp[oT]
  rw[u];show Wp (λn=>d_ (d_ (aL n (eS (sC tbl n) n (.mk 3 l up ks)) ((0:Int),lo,f,qq M P,false,([]:List Int),([]:List Int),true,())) _) _) _;refine ae (ae (a8 (N:=ks.length) (I:=λi s=>s=((i:Int),lo++(pZ (ks.take i) lo.length (Pl.g0 true)).sp.map (·.1),f++(pZ (ks.take i) lo.length (Pl.g0 true)).sp.map (·.2),qq M (P++(pZ (ks.take i) lo.length (Pl.g0 true)).pr),false,cL (pZ (ks.take i) lo.length (Pl.g0 true)).fi,cL (pZ (ks.take i) lo.length (Pl.g0 true)).la,(pZ (ks.take i) lo.length (Pl.g0 true)).em,())) (by simp[pZ,Pl.g0,cL]) ?_ ?_))
  ·rintro i s c rfl;obtain⟨l1,l2⟩:=ziX e lo.length i;rw[zco c];have v:=Ik c;generalize pZ (ks.take i) lo.length (Pl.g0 true)=a at*;have hr:=a_ c;obtain⟨H,J⟩:=ua ks[i] (e _ hr) (lo.length+a.sp.length);have d:=BM ks[i] (lo.length+a.sp.length);unfold eS;refine a6 c (aF c ?_);rw[cT];have hsz:=g _ hr;have hc:=B ks[i] hr (e _ hr) (by omega) (lo++a.sp.map (·.1)) (f++a.sp.map (·.2)) (P++a.pr) (by grind) (by grind);rw[show(lo++a.sp.map (·.1)).length=lo.length+a.sp.length by simp]at hc;generalize oT ks[i] (lo.length+a.sp.length)=x at*;have R:=l1.fl;have T:=l1.ll;have C:=d.fl;have D:=d.ll;refine aj hc (aj (nJ (P++a.pr++x.pr) _ _ (la:=a.la) (fi:=x.fi) (λp hp=>by have:=l1.la p hp;omega) (λq A=>by have:=d.fi q A;omega) (by omega) (by omega) E) ?_);have j:∀b:Bool,a.em=b->∀z:Bool,x.em=z->((((i+1:Nat):Int),lo++a.sp.map (·.1)++x.sp.map (·.1),f++a.sp.map (·.2)++x.sp.map (·.2),qq M (P++a.pr++x.pr++qj a.la x.fi),false,(bif b then cL a.fi++cL x.fi else cL a.fi),(bif z then cL a.la else [])++cL x.la,b&&z,()):Int×List Int×List Int×List (List Bool)×Bool×List Int×List Int×Bool×Unit)=(((i+1:Nat):Int),lo++(AL a x).sp.map (·.1),f++(AL a x).sp.map (·.2),qq M (P++(AL a x).pr),false,cL (AL a x).fi,cL (AL a x).la,(AL a x).em,()):=λb y z h=>by simp only[AL,y,h,v_,A_];cases b<;>cases z<;>simp[zdG,cL]
   show Wp (λn=>d_ (bif a.em then _ else _) _) _;cases y:a.em
   ·refine ae (aa ?_);show Wp (λn=>d_ (bif !x.em then _ else _) _) _;cases h:x.em;·refine ae (aa (aj (jW [] (cL x.la) (by simp) (by rw[ii];omega)) (ae (aa (aa ?_)))));rw[aB c (by omega)];exact j false y false h
    ·refine ae (aa (aj (jW (cL a.la) (cL x.la) (by rw[ii];omega) (by rw[ii];omega)) (ae (aa (aa ?_)))));rw[aB c (by omega)];exact j false y true h
   ·refine ae (aj (jW (cL a.fi) (cL x.fi) (by rw[ii];omega) (by rw[ii];omega)) (aa ?_));show Wp (λn=>d_ (bif !x.em then _ else _) _) _;cases h:x.em;·refine ae (aa (aj (jW [] (cL x.la) (by simp) (by rw[ii];omega)) (ae (aa (aa ?_)))));rw[aB c (by omega)];exact j true y false h
    ·refine ae (aa (aj (jW (cL a.la) (cL x.la) (by rw[ii];omega) (by rw[ii];omega)) (ae (aa (aa ?_)))));rw[aB c (by omega)];exact j true y true h
  ·rintro s rfl;unfold eS;refine aT (aa (aa (aa ?_)));simp
 ·have u:oT (.mk 4 l up ks) lo.length=mi ks lo.length (Pl.g0 false):=by simp[oT]
  rw[u];show Wp (λn=>d_ (d_ (aL n (eT (sC tbl n) n (.mk 4 l up ks)) ((0:Int),lo,f,qq M P,false,([]:List Int),([]:List Int),false,())) _) _) _;refine ae (ae (a8 (N:=ks.length) (I:=λi s=>s=((i:Int),lo++(mi (ks.take i) lo.length (Pl.g0 false)).sp.map (·.1),f++(mi (ks.take i) lo.length (Pl.g0 false)).sp.map (·.2),qq M (P++(mi (ks.take i) lo.length (Pl.g0 false)).pr),false,cL (mi (ks.take i) lo.length (Pl.g0 false)).fi,cL (mi (ks.take i) lo.length (Pl.g0 false)).la,(mi (ks.take i) lo.length (Pl.g0 false)).em,())) (by simp[mi,Pl.g0,cL]) ?_ ?_));·rintro i s c rfl;obtain⟨l1,l2⟩:=ziW e lo.length i;rw[zcn c];have v:=Ik c;generalize mi (ks.take i) lo.length (Pl.g0 false)=a at*;have hr:=a_ c;obtain⟨H,J⟩:=ua ks[i] (e _ hr) (lo.length+a.sp.length);have d:=BM ks[i] (lo.length+a.sp.length);unfold eT;refine a6 c (aF c ?_);rw[cT];have hsz:=g _ hr;have hc:=B ks[i] hr (e _ hr) (by omega) (lo++a.sp.map (·.1)) (f++a.sp.map (·.2)) (P++a.pr) (by grind) (by grind);rw[show(lo++a.sp.map (·.1)).length=lo.length+a.sp.length by simp]at hc;generalize oT ks[i] (lo.length+a.sp.length)=x at*;have R:=l1.fl;have T:=l1.ll;have C:=d.fl;have D:=d.ll;refine aj hc (aj (jW (cL a.fi) (cL x.fi) (by rw[ii];omega) (by rw[ii];omega)) (aj (jW (cL a.la) (cL x.la) (by rw[ii];omega) (by rw[ii];omega)) ?_));refine ae (bn (b:=x.em) (λ_=>aa rfl) (aa ?_));rw[aB c (by omega)];simp only[H8,v_,zdG,A_]
  ·rintro s rfl;unfold eT;refine aT (aa (aa (aa ?_)));simp
 ·obtain⟨x,rfl⟩:=rE (hn.one (by simp));have hr:x∈[x]:=n_.2 rfl;have hsz:=g _ hr;have v:cnt x<=M - lo.length:=by simp only[fC]at hcs;omega
  have hc:=B x hr (e _ hr) (by omega) lo f P w (by omega);have d:=BM x lo.length;obtain⟨H,J⟩:=ua x (e _ hr) lo.length;have Q:mi [x] lo.length (Pl.g0 false)=oT x lo.length:=rfl;have C:=d.fl;have D:=d.ll;refine ae (aj hc (ae (aj (nJ (P++(oT x lo.length).pr) _ _ (la:=(oT x lo.length).la) (fi:=(oT x lo.length).fi) (λp hp=>by have:=d.la p hp;omega) (λq A=>by have:=d.fi q A;omega) (by omega) (by omega) E) (aa ?_))));refine ae (bn (b:=(5:Int) != 6) (λ_=>aa rfl) (aa (aa ?_)));have u:oT (.mk 5 l up [x]) lo.length=if(5:Int)=5 then emG (AB (oT x lo.length))else AB (oT x lo.length):=rfl;rw[u];simp[emG,AB]
 ·obtain⟨x,rfl⟩:=rE (hn.one (by simp));have hr:x∈[x]:=n_.2 rfl;have hsz:=g _ hr;have v:cnt x<=M - lo.length:=by simp only[fC]at hcs;omega
  have hc:=B x hr (e _ hr) (by omega) lo f P w (by omega);have d:=BM x lo.length;obtain⟨H,J⟩:=ua x (e _ hr) lo.length;have Q:mi [x] lo.length (Pl.g0 false)=oT x lo.length:=rfl;have C:=d.fl;have D:=d.ll;refine ae (aj hc (ae (aj (nJ (P++(oT x lo.length).pr) _ _ (la:=(oT x lo.length).la) (fi:=(oT x lo.length).fi) (λp hp=>by have:=d.la p hp;omega) (λq A=>by have:=d.fi q A;omega) (by omega) (by omega) E) (aa ?_))));refine ae (bn (b:=(6:Int) != 6) (λ_=>aa rfl) (aa (aa ?_)));have u:oT (.mk 6 l up [x]) lo.length=if(6:Int)=5 then emG (AB (oT x lo.length))else AB (oT x lo.length):=rfl;rw[u];simp[emG,AB]
 ·obtain⟨x,rfl⟩:=rE (hn.one (by simp));have hr:x∈[x]:=n_.2 rfl;have hsz:=g _ hr;have hc:=B x hr (e _ hr) (by omega) lo f P w (by simp only[fC]at hcs;omega);refine ae (aj hc (ae (aa ?_)));refine ae (bn (b:=true) (λ_=>aa rfl) (aa (aa ?_)));have u:oT (.mk 7 l up [x]) lo.length=emG (oT x lo.length):=rfl;rw[u];simp[emG]
section
variable {α β:Type}
theorem ziP{xs:List α}{i:Nat}{f:Nat->α->Option β}{Q:β->Prop}(h:i<xs.length)(a:Wp (λn=>f n xs[i]) Q):Wp (λn=>d_ (aR xs (i:Int)) λ_=>d_ xs[r_ (i:Int)]? (f n)) Q:=by refine aF h ?_;grind
theorem zh6{M i:Nat}{g:Nat->Bool}{f:Nat->Bool->Option β}{Q:β->Prop}(h:i<M)(a:Wp (λn=>f n (g i)) Q):Wp (λn=>d_ (aR (vt M g) (i:Int)) λ_=>d_ (vt M g)[r_ (i:Int)]? (f n)) Q:=by refine ziP (by rw[XB];omega) ?_;rw[zfp];omega
end
theorem zaf{M:Nat}(k:M<=1000000):Wp (λn=>aL n (pg (sC tbl n) n ((M:Int),())) ((0:Int),f_ (r_ (M:Int)) ([]:List Bool),())) λt=>t=(qq M [],()):=by
 have l:qq M []=f_ M (f_ M false):=by refine s_ (by simp[qq]) λi e f=>?_;rw[NV,List.getElem_replicate];refine s_ (by simp) λj g h=>by simp
 refine a8 (N:=M) (I:=λi s=>s=((i:Int),(f_ M (f_ M false)).take i++f_ (M - i) [],())) (by simp) ?_ ?_
 ·rintro i s c rfl;have b:((f_ M (f_ M false)).take i++f_ (M - i) ([]:List Bool)).length=M:=by grind
  have a:i<((f_ M (f_ M false)).take i++f_ (M - i) ([]:List Bool)).length:=by omega
  unfold pg;show Wp (λn=>bif decide ((i:Int)<((f_ (r_ (M:Int)) ([]:List Bool)).length:Int))then _ else _) _;rw[R_,i_];refine a6 c ?_;show Wp (λn=>aG _ _) _;refine aD (by grind) ?_;refine aF a (aD (decide_eq_true (by simp)) ?_);rw[i_];refine m9 (b_ a) (m9 (b_ a) (aD (ad_ _) (m9 (b_ a) (aa ?_))));rw[aB c (by omega),b,i_];congr 2;refine List.ext_getElem? λj=>?_;rw[List.getElem?_set];by_cases d:i=j;·subst d;rw[if_pos rfl,if_pos a,List.getElem?_append_left (by grind),List.take_replicate,List.getElem?_replicate,if_pos (by omega)];rfl
  grind
 ·rintro s rfl;unfold pg;show Wp (λn=>bif decide ((M:Int)<((f_ (r_ (M:Int)) ([]:List Bool)).length:Int))then _ else _) _;rw[R_,i_];refine aT (aa ?_);grind
theorem Tg{M:Nat}(d:M<=1000000)(fi la:List Nat)(em:Bool)(lo up:List Int)(F:List (List Bool))(b:∀p∈fi,p<M)(hl:fi.length<=1000000): Wp (λn=>aL n (pi (sC tbl n) n ((cL fi,cL la,em,()),lo,up,F,())) ((0:Int),lo,up,F,cL fi,cL la,em,vt M (λ_=>false),())) λt=>t=(lo,up,F,cL fi,cL la,em,vt M (λp=>decide (p∈fi)),()):=by
 refine a8 (N:=(cL fi).length) (I:=λi s=>s=((i:Int),lo,up,F,cL fi,cL la,em,vt M (λp=>decide (p∈fi.take i)),())) (by simp) ?_ ?_
 ·rintro i s a rfl;have c:i<fi.length:=by rw[ii]at a;omega
  have hp:=b _ (a_ c);unfold pi;refine a6 a (aF a ?_);rw[X2 c];refine zh6 hp (aa ?_);rw[aB a (by rw[ii];omega),i_,zfr];have e:(vt M λj=>if j=fi[i]then true else decide (j∈fi.take i))=vt M λp=>decide (p∈fi.take (i+1)):=zaG λj _=>by
   have f:∀x,x∈fi.take (i+1)↔x∈fi.take i\/x=fi[i]:=λx=>by rw[l_,b_ c,w_,V_,n_]
   grind
  rw[e]
 ·rintro s rfl;unfold pi;refine aT (aa ?_);rw[ii,m_]
structure CurR(M:Nat)(C:List Int)(can:Nat->Bool):Prop where
 bd:∀x∈C,0<=x/\x<(M:Int)
 mem:∀q:Nat,(q:Int)∈C↔can q=true
 len:C.length<=10000000000
theorem AS{α β:Type}{m:Option α}{a:α}{f:Nat->α->Option β}{Q:β->Prop}(h:m=some a)(k:Wp (λn=>f n a) Q):Wp (λn=>d_ m (f n)) Q:=by grind
open Classical in
noncomputable def gv(s:List UInt8):Int:=if ∃r,mD r=0/\jv r=s then 0 else 2
theorem zbv{s:List UInt8}{c:Rx×Int×Unit}(h:ParsedX s c):c.2.1=gv s:=by
 unfold gv;rcases h with⟨r,a,b,rfl⟩|⟨a,rfl⟩;·rw[if_pos ⟨r,a,b⟩]
 grind
theorem Cj(s:List UInt8)(hs:s.length<=9223372036854775807):aC tbl kJ [.d tS s] [] fF (mQ s,()):=by
 refine ap rfl (aA L9 rfl (λO n=>bI (Ct O n s)) ?_);unfold Ct;refine ae (wg (xs:=s) (P:=λc=>BX c=true) (e:=(false,())) (g:=()) (λi a=>?_) ?_ (λh=>?_) λh=>?_);·unfold qJ;refine a6 a (aF a ?_);refine ae (bb (b:=decide ((s[i].toNat:Int)<=122)) (λ_=>aa rfl) ?_);refine ae (bn (b:=decide ((s[i].toNat:Int)>=65)&&decide ((s[i].toNat:Int)<=90)) (λ_=>ae (bb (b:=decide ((s[i].toNat:Int)<=90)) (λ_=>aa rfl) (aa rfl))) ?_);refine ae (bn (b:=decide ((s[i].toNat:Int)>=48)&&decide ((s[i].toNat:Int)<=57)) (λ_=>ae (bb (b:=decide ((s[i].toNat:Int)<=57)) (λ_=>aa rfl) (aa rfl))) ?_);refine ae (bn (b:=((s[i].toNat:Int)==45)) (λ_=>aa rfl) (pE ?_ (by rw[aB a hs])));show(!BX s[i])=true↔_;cases BX s[i]<;>simp
 ·unfold qJ;exact aT (aa rfl)
 ·refine ae (bb (b:=decide ((s.length:Int)<=32)) (λ_=>aa rfl) (aa ?_));have e:mQ s=(decide ((s.length:Int)>=1)&&decide ((s.length:Int)<=32)):=by unfold mQ;rw[D_.2 h,M_];congr 1<;>exact decide_eq_decide.2 (by omega)
  rw[e]
 ·refine aa ?_;have e:mQ s=false:=by
   unfold mQ;cases e:s.all BX;·rfl
   ·exact absurd (D_.1 e) h
  rw[e]
theorem HN(s:List UInt8)(hs:s.length<=9223372036854775807):aC tbl qW [.d tS s] [] kD (mQ s,()):=by
 refine ap rfl (aA T0 rfl (λO n=>bI (HV O n s)) ?_);unfold HV;refine ae (wg (xs:=s) (P:=λc=>BX c=true) (e:=(false,())) (g:=()) (λi a=>?_) ?_ (λh=>?_) λh=>?_);·unfold wy;refine a6 a (aF a ?_);refine ae (bb (b:=decide ((s[i].toNat:Int)<=122)) (λ_=>aa rfl) ?_);refine ae (bn (b:=decide ((s[i].toNat:Int)>=65)&&decide ((s[i].toNat:Int)<=90)) (λ_=>ae (bb (b:=decide ((s[i].toNat:Int)<=90)) (λ_=>aa rfl) (aa rfl))) ?_);refine ae (bn (b:=decide ((s[i].toNat:Int)>=48)&&decide ((s[i].toNat:Int)<=57)) (λ_=>ae (bb (b:=decide ((s[i].toNat:Int)<=57)) (λ_=>aa rfl) (aa rfl))) ?_);refine ae (bn (b:=((s[i].toNat:Int)==45)) (λ_=>aa rfl) (pE ?_ (by rw[aB a hs])));show(!BX s[i])=true↔_;cases BX s[i]<;>simp
 ·unfold wy;exact aT (aa rfl)
 ·refine ae (bb (b:=decide ((s.length:Int)<=32)) (λ_=>aa rfl) (aa ?_));have e:mQ s=(decide ((s.length:Int)>=1)&&decide ((s.length:Int)<=32)):=by unfold mQ;rw[D_.2 h,M_];congr 1<;>exact decide_eq_decide.2 (by omega)
  rw[e]
 ·refine aa ?_;have e:mQ s=false:=by
   unfold mQ;cases e:s.all BX;·rfl
   ·exact absurd (D_.1 e) h
  rw[e]
theorem qu(l:List (List UInt8))(i:Nat)(f:i<l.length)(hl:l.length<=9223372036854775807)(hs:l[i].length<=9223372036854775807): aC tbl gR [.d (.list tS) ((l.take (r_ (i:Int))).drop 0),.d tS l[i]] [] dn (wb l i,()):=by
 refine ap rfl (aA OD rfl (λO n=>OX O n _ _) ?_);unfold Dt;rw[aa_,i_];have d:wb l i=if mQ l[i]=false then 1 else if 0<i/\B0 l[i] (l.getD (i - 1) [])=true then 16 else 0:=by unfold wb;grind
 have a:(l.take i).length=i:=by grind
 refine aj (Cj l[i] hs) (ao (λh=>aa ?_) λh=>?_);·grind
 have hn:¬mQ l[i]=false:=by grind
 refine ae (bb (b:=B0 l[i] (l.getD (i - 1) [])) (λc=>?_) (ao (λh=>aa ?_) λh=>aa ?_))
 ·have c:=of_decide_eq_true c;rw[a]at c⊢;have e:c_ .i64 ((i:Int) - 1)=((i - 1:Nat):Int):=by rw[wrap_i64 (by omega) (by omega)];omega
  rw[e];refine Jr (x:=l.getD (i - 1) []) ?_ (aa rfl);grind
 all_goals grind
abbrev yN:Ty:=pr [.list tS,.list tS,.list tS,.list tS]
def cb(s:PS):yN.den:=(s.1.map (·.1),s.2.1.map (·.1),s.2.2.1.map (·.1),s.2.2.2.1.map (·.1),())
theorem Fi{α β:Type}{f:α->β}{l:List α}{i:Nat}(a:i<l.length):(l.take i).map f++[f l[i]]=(l.take (i+1)).map f:=by rw[<-List.take_append_getElem a,v_];rfl
theorem MG(s:PS)(c:s.1.length<=1048576)(d:s.2.1.length<=1048576)(e:s.2.2.1.length<=1048576)(g:s.2.2.2.1.length<=1048576):aC tbl qR [.d yS s] [] mT (cb s,()):=by
 refine ap rfl (aA OE rfl (λO n=>bI (Du O n s)) ?_);unfold Du;have hg:∀{α:Type} {l:List α} {f:α->List UInt8} {i:Nat},i<l.length->l.length<=1048576->decide ((((l.take i).map f).length+1)*16<=140737488355328)=true:=fun{α l f i} a hl=>by grind
 refine ae (a8 (N:=s.1.length) (I:=λi t=>t=((i:Int),(s.1.take i).map (·.1),())) rfl (λi t a b=>?_) λt b=>?_);·subst b;unfold sq;refine a6 a (aF a (aD rfl (aD (hg a c) (aD rfl (aa ?_)))));simp only;rw[aB a (by omega),Fi (f:=λx:PLS=>x.1) a]
 subst b;unfold sq;refine aT (aa ?_);rw[g_ (p_ _)];refine ae (a8 (N:=s.2.1.length) (I:=λi t=>t=((i:Int),s.1.map (·.1),(s.2.1.take i).map (·.1),())) rfl (λi t a b=>?_) λt b=>?_);·subst b;unfold sr;refine a6 a (aF a (aD rfl (aD (hg a d) (aD rfl (aa ?_)))));simp only;rw[aB a (by omega),Fi (f:=λx:HLS=>x.1) a]
 subst b;unfold sr;refine aT (aa ?_);rw[g_ (p_ _)];refine ae (a8 (N:=s.2.2.1.length) (I:=λi t=>t=((i:Int),s.1.map (·.1),s.2.1.map (·.1),(s.2.2.1.take i).map (·.1),())) rfl (λi t a b=>?_) λt b=>?_);·subst b;unfold su;refine a6 a (aF a (aD rfl (aD (hg a e) (aD rfl (aa ?_)))));simp only;rw[aB a (by omega),Fi (f:=λx:CLS=>x.1) a]
 subst b;unfold su;refine aT (aa ?_);rw[g_ (p_ _)];refine ae (a8 (N:=s.2.2.2.1.length) (I:=λi t=>t=((i:Int),s.1.map (·.1),s.2.1.map (·.1),s.2.2.1.map (·.1),(s.2.2.2.1.take i).map (·.1),())) rfl (λi t a b=>?_) λt b=>?_);·subst b;unfold sv;refine a6 a (aF a (aD rfl (aD (hg a g) (aD rfl (aa ?_)))));simp only;rw[aB a (by omega),Fi (f:=λx:K1=>x.1) a]
 subst b;unfold sv;refine aT (aa (aa ?_));rw[g_ (p_ _)];rfl
theorem cF(n a b:Int):aC tbl bX [.d tI n,.d tI a,.d tI b] [] bQ (decide (a<=n)&&decide (n<=b),()):=by refine ap rfl (aA Ma rfl (λO k=>bI (Cu O k n a b)) ?_);unfold Cu;exact ae (bb (b:=decide (n<=b)) (λ_=>aa rfl) (aa rfl))
theorem qt(l:List (List UInt8))(n:List UInt8)(hl:l.length<=9223372036854775807):aC tbl l5 [.d (.list tS) l,.d tS n] [] fx (l.any (·==n),()):=by
 refine ap rfl (aA Jf rfl (λO k=>bI (xP O k l n)) ?_);unfold xP;refine ae (yt (xs:=l) (p:=(·==n)) (g:=λ_=>(true,())) (e:=()) (λi r c=>?_) ?_ ?_)
 ·unfold nN;have a:=(o_.1 c).1;refine a6 a (Jr c (ao (λh=>aa ?_) λh=>aa ?_));·grind
  ·rw[if_neg (by grind),aB a hl]
 ·unfold nN;exact aT (aa rfl)
 ·cases e:l.find? (·==n)with
  |some r=>have b:l.any (·==n)=true:=List.any_eq_true.2 ⟨r,List.mem_of_find?_eq_some e,List.find?_some (p:=(·==n)) e⟩;rw[b];exact aa rfl|none=>
   have b:l.any (·==n)=false:=by grind
   rw[b];exact aa rfl
theorem AH(k N d pl:Int)(nm:List UInt8)(e:Bool):(true ^^ nH yM (k,nm,N,(d,pl,()),e,()) (k,nm,0,(0,0,()),e,()))=true↔(N≠0\/d≠0\/pl≠0):=by by_cases a:N=0<;>by_cases b:d=0<;>by_cases c:pl=0<;>simp[nH,a,b,c]
theorem zeo(k N d pl:Int)(nm:List UInt8)(e:Bool):(true ^^ nH yM (k,nm,N,(d,pl,()),e,()) (k,[],N,(0,0,()),e,()))=true↔(nm≠[]\/d≠0\/pl≠0):=by by_cases a:nm=[]<;>by_cases b:d=0<;>by_cases c:pl=0<;>simp[nH,a,b,c]
theorem zen(k N d pl:Int)(nm:List UInt8)(c:Bool):(true ^^ nH yM (k,nm,N,(d,pl,()),c,()) (k,[],0,(d,pl,()),c,()))=true↔(nm≠[]\/N≠0):=by by_cases a:nm=[]<;>by_cases b:N=0<;>simp[nH,a,b]
theorem ui{b:Bool}{P:Prop}(h:b=false)(e:b=true↔P):¬P:=λp=>by rw[e.2 p]at h;cases h
theorem Fs(s:PS)(m:MAT)(hs:okD yS s)(H:hU m.2.2.2.1.1):aC tbl jq [.d yN (cb s),.d yM m] [] bB (xD s m,()):=by
 obtain⟨k,nm,N,⟨d,pl,⟨⟩⟩,g,⟨⟩⟩:=m;refine ap rfl (aA FT rfl (λO n=>bI (vH O n (cb s) (k,nm,N,(d,pl,()),g,()))) ?_);unfold vH;refine ae (ae ?_);have j:(s.1.map (·.1)).length<=9223372036854775807:=by rw[e_];exact hs.1.1
 have l:(s.2.1.map (·.1)).length<=9223372036854775807:=by rw[e_];exact hs.2.1.1
 have p:(s.2.2.1.map (·.1)).length<=9223372036854775807:=by rw[e_];exact hs.2.2.1.1
 by_cases u:k=1
 ·subst u;rw[BW (.inl rfl)];have c:(s.1.map (·.1)).any (·==nm)=L2 s 1 nm:=by rw[W_];rfl
  refine aE rfl (aa (aE rfl (ao (λh=>aa (aa ?_)) λh=>?_)));·rw[if_pos ((AH _ _ _ _ _ _).1 h)]
  ·rw[if_neg (ui h (AH _ _ _ _ _ _))];refine AS (a:=s.1.map (·.1)) rfl (aj (qt _ nm j) ?_);rw[c];refine ao (λh=>aa (aa ?_)) λh=>aa (aa ?_);all_goals grind
 by_cases v:k=2
 ·subst v;rw[BW (.inr (.inl rfl))];have c:(s.2.1.map (·.1)).any (·==nm)=L2 s 2 nm:=by rw[W_];rfl
  refine an rfl (aE rfl (aa (aE rfl (ao (λh=>aa (aa ?_)) λh=>?_))));·rw[if_pos ((AH _ _ _ _ _ _).1 h)]
  ·rw[if_neg (ui h (AH _ _ _ _ _ _))];refine AS (a:=s.2.1.map (·.1)) rfl (aj (qt _ nm l) ?_);rw[c];refine ao (λh=>aa (aa ?_)) λh=>aa (aa ?_);all_goals grind
 by_cases w:k=3
 ·subst w;rw[BW (.inr (.inr rfl))];have c:(s.2.2.1.map (·.1)).any (·==nm)=L2 s 3 nm:=by rw[W_];rfl
  refine an rfl (an rfl (aa (aE rfl (ao (λh=>aa (aa ?_)) λh=>?_))));·rw[if_pos ((AH _ _ _ _ _ _).1 h)]
  ·rw[if_neg (ui h (AH _ _ _ _ _ _))];refine AS (a:=s.2.2.1.map (·.1)) rfl (aj (qt _ nm p) ?_);rw[c];refine ao (λh=>aa (aa ?_)) λh=>aa (aa ?_);all_goals grind
 refine an (beq_eq_false_iff_ne.2 u) (an (beq_eq_false_iff_ne.2 v) (aa (an (beq_eq_false_iff_ne.2 w) ?_)));by_cases B:k=7
 ·subst B;rw[Wi];refine aE rfl (ae (bn (b:= !dE (d,pl,())) (λ_=>aj (gM (d,pl,()) H) (aa rfl)) ?_));refine ao (λh=>aa (aa ?_)) λh=>aa (aa ?_)
  ·by_cases e:nm≠[]\/N≠0;·grind
   ·rw[if_neg e,if_neg];intro h';rcases Bool.or_eq_true_iff.1 h with h|h;·exact e ((zen _ _ _ _ _ _).1 h)
    grind
  ·simp only[F_]at h;rw[if_neg (ui h.1 (zen _ _ _ _ _ _)),if_pos (by grind)]
 refine an (beq_eq_false_iff_ne.2 B) ?_;have num:∀lo f:Int,(k=4\/k=5\/k=6\/k=8)->zgo k=lo->VZ k=f->Wp (λn=>
  bif (true ^^ nH yM (k,nm,N,(d,pl,()),g,()) (k,([]:List UInt8),N,((0:Int),(0:Int),()),g,()))then ar bB ((1:Int),())else
  d_ (au (sC tbl n) bX [.d tI N,.d tI lo,.d tI f] [] bQ) λr=>
  bif (!r.1)then ar bB ((5:Int),())else ar bB ((0:Int),()))
  (λx=>x=some (jm bB (xD s (k,nm,N,(d,pl,()),g,()),()))):=λlo f F D E=>by
  rw[Wj F,D,E]
  refine ao (λh=>aa ?_) λh=>?_
  ·rw[if_pos ((zeo _ _ _ _ _ _).1 h)]
  ·rw[if_neg (ui h (zeo _ _ _ _ _ _))];refine aj (cF N lo f) (ao (λh=>aa ?_) λh=>aa ?_);all_goals grind
 by_cases y:k=4;·subst y;exact aE rfl (aa (num 1 7 (by simp) rfl rfl))
 by_cases A:k=6;·subst A;exact an rfl (aE rfl (aa (num 0 16777216 (by simp) rfl rfl)))
 by_cases C:k=8;·subst C;exact an rfl (an rfl (aE rfl (aa (num 0 2000 (by simp) rfl rfl))))
 by_cases z:k=5;·subst z;exact an rfl (an rfl (an rfl (aE rfl (aa (num 0 4294967295 (by simp) rfl rfl)))))
 refine an (beq_eq_false_iff_ne.2 y) (an (beq_eq_false_iff_ne.2 A) (an (beq_eq_false_iff_ne.2 C) (an (beq_eq_false_iff_ne.2 z) (aa (aa ?_)))));rw[NW (show k<1\/8<k by omega)]
theorem ne_eqD{a b:Dj}:(true ^^ nH yA a b)=true↔¬a=b:=by rw[<-zf3];cases nH yA a b<;>simp
theorem Dl(a:Dj):aC tbl iC [.d yA a] [] bq (jl a,()):=by
 refine ap rfl (aA EM rfl (λO n=>bI (tN O n a)) ?_);unfold tN;refine ae (ae ?_);by_cases y:a.1<1\/8<a.1;·have j:∀k:Int,1<=k->k<=8->(a.1==k)=false:=λk l p=>beq_eq_false_iff_ne.2 (by omega);refine an (j 1 (by simp) (by simp)) (an (j 2 (by simp) (by simp)) (aa (an (j 4 (by simp) (by simp)) (an (j 3 (by simp) (by simp)) (an (j 5 (by simp) (by simp)) ?_)))));refine ae (an (j 6 (by simp) (by simp)) (aa (an (j 7 (by simp) (by simp)) (an (j 8 (by simp) (by simp)) (aa (aa ?_))))));rw[show jl a=15 from if_pos y]
 have d:∀(only:Dj) (f:Bool),rG a=only->oR a=f->Wp (λ_=>bif (true ^^ nH yA a only)then ar bq ((1:Int),())else bif (!f)then ar bq ((5:Int),())else ar bq ((0:Int),())) (λx=>x=some (jm bq (jl a,()))):=λonly f l p=>by
  have e:jl a=if ¬a=only then 1 else if f=false then 5 else 0:=by unfold jl;grind
  rw[e]
  refine ao (λh=>aa ?_) λh=>ao (λh'=>aa ?_) λh'=>aa ?_
  ·rw[if_pos (ne_eqD.1 h)]
  ·rw[if_neg (λx=>by rw[ne_eqD.2 x]at h;grind),if_pos (by grind)]
  ·rw[if_neg (λx=>by rw[ne_eqD.2 x]at h;grind),if_neg (by grind)]
 have g:∀{k:Int},a.1≠k->(a.1==k)=false:=λh=>beq_eq_false_iff_ne.2 h;have c:∀{k:Int},a.1=k->(a.1==k)=true:=λh=>beq_iff_eq.2 h;by_cases l:a.1=1
 ·refine aE (c l) (aa (aE (c l) (aj (cF a.2.1 0 4294967295) (aa (d _ _ ?_ ?_)))));·unfold rG;grind
  ·unfold oR;grind
 refine an (g l) ?_;by_cases p:a.1=2
 ·refine aE (c p) (aa (aE (c p) (aj (cF a.2.1 0 4294967295) (aa (d _ _ ?_ ?_)))));·unfold rG;grind
  ·unfold oR;grind
 refine an (g p) (aa ?_);by_cases u:a.1=4
 ·refine aE (c u) (aj (cF a.2.1 0 4294967295) (aa (d _ _ ?_ ?_)));·unfold rG;grind
  ·unfold oR;grind
 refine an (g u) ?_;by_cases s:a.1=3
 ·refine aE (c s) (aj (cF a.2.1 0 16777216) (aa (d _ _ ?_ ?_)));·unfold rG;grind
  ·unfold oR;grind
 refine an (g s) ?_;by_cases v:a.1=5
 ·refine aE (c v) (aa (d _ _ ?_ ?_));·unfold rG;grind
  ·unfold oR;grind
 refine an (g v) (ae ?_);by_cases r:a.1=6
 ·refine aE (c r) (aa (aE (c r) (aa (d _ _ ?_ ?_))));·unfold rG;grind
  ·unfold oR;grind
 refine an (g r) (aa ?_);by_cases w:a.1=7
 ·refine aE (c w) (aa (d _ _ ?_ ?_));·unfold rG;grind
  ·unfold oR;grind
 refine an (g w) (aE (c (by omega)) (aj (cF a.2.2.1 1 4294967295) ?_));refine ae (bb (b:=decide (1<=a.2.1)&&decide (a.2.1<=16)) (λ_=>aj (cF a.2.1 1 16) (aa rfl)) (aa (d _ _ ?_ ?_)));·unfold rG;grind
 ·unfold oR;grind
theorem AU(r:CRU):aC tbl gq [.d yC r] [] cO (oO r,()):=by
 refine ap rfl (aA B7 rfl (λO n=>bI (qy O n r)) ?_);unfold qy;refine aj (cF r.2.1 (-1) 65535) (ae (bn (b:= !(decide (-1<=r.2.2.1)&&decide (r.2.2.1<=65535))) (λ_=>aj (cF r.2.2.1 (-1) 65535) (aa rfl)) ?_));refine ao (λh=>aa ?_) λh=>aa ?_;·rw[show oO r=5 from if_pos (by grind)]
 ·rw[show oO r=0 from if_neg (by grind)]
theorem Ia{α:Type}{p:α->Bool}{l:List α}:l.any p=(l.find? p).isSome:=by grind
theorem GV(s:PS)(hs:okD yS s)(a:List GL)(t:GL)(w:a.length<=9223372036854775807)(v:okD yT t):aC tbl kb [.d yN (cb s),.d (.list yT) a,.d yT t] [] bG (jg s a t,()):=by
 refine ap rfl (aA HA rfl (λO n=>bI (wt O n (cb s) a t)) ?_);unfold wt;have j:∀m∈t.2.1,hU m.2.2.2.1.1:=λm j=>((v.2.1.2 m j).2.2.2.1).1;refine aj (Cj t.1 v.1) (ao (λh=>aa ?_) λh=>?_);·rw[show jg s a t=1 from if_pos (by grind)]
 have hn:¬mQ t.1=false:=by grind
 refine ae (yt (xs:=a) (p:=(·.1==t.1)) (g:=λ_=>((7:Int),())) (e:=()) (λi r c=>?_) ?_ ?_)
 ·unfold mn;have d:=(o_.1 c).1;refine a6 d (Jr c (ao (λh=>aa ?_) λh=>aa ?_));·grind
  ·rw[if_neg (by grind),aB d w]
 ·unfold mn;exact aT (aa rfl)
 have b:a.any (·.1==t.1)=(a.find? (·.1==t.1)).isSome:=Ia;cases e:a.find? (·.1==t.1)with
 |some r=>rw[e]at b;refine aa ?_;have b:a.any (·.1==t.1)=true:=b;rw[show jg s a t=7 from by unfold jg;grind]|none=>
  rw[e]at b;have z:¬a.any (·.1==t.1)=true:=by grind
  refine ao (λh=>aa ?_) λh=>?_;·rw[show jg s a t=4 from by unfold jg;grind]
  have x:¬t.2.1.length>64:=by grind
  refine ae (mg (l:=t.2.1) (f:=xD s) (enc:=λi=>((i:Int),())) (oB:=λe=>(e,())) (oE:=()) (λi c=>?_) ?_ ?_)
  ·unfold mo;refine a6 c (aF c (aj (Fs s _ hs (j _ (a_ c))) (ao (λh=>aa ?_) λh=>aa ?_)));·grind
   ·rw[if_pos (by grind),aB c (by omega)]
  ·unfold mo;exact aT (aa rfl)
  by_cases k:bS (xD s) t.2.1=0
  ·rw[if_pos k];refine ao (λh=>aa ?_) λh=>?_;·rw[show jg s a t=4 from by unfold jg;grind]
   have y:¬t.2.2.1.length>64:=by grind
   refine ae (mg (l:=t.2.2.1) (f:=jl) (enc:=λi=>((i:Int),())) (oB:=λe=>(e,())) (oE:=()) (λi c=>?_) ?_ ?_)
   ·unfold mq;refine a6 c (aF c (aj (Dl _) (ao (λh=>aa ?_) λh=>aa ?_)));·grind
    ·rw[if_pos (by grind),aB c (by omega)]
   ·unfold mq;exact aT (aa rfl)
   by_cases u:bS jl t.2.2.1=0
   ·rw[if_pos u];refine aj (cF t.2.2.2.1 1 3) (ao (λh=>aa ?_) λh=>aa ?_);·rw[show jg s a t=15 from by unfold jg;grind]
    ·rw[show jg s a t=0 from by unfold jg;grind]
   ·rw[if_neg u];refine aa ?_;rw[show jg s a t=bS jl t.2.2.1 from by unfold jg;grind]
  ·rw[if_neg k];refine aa ?_;rw[show jg s a t=bS (xD s) t.2.1 from by unfold jg;grind]
def Xy(s:PS)(l:List GL)(i:Nat):Int:=match l[i]? with|some t=>jg s (l.take i) t|none=>0
theorem zbw(s:PS)(p:K1):vn s p=if jR (Xy s p.2.1) p.2.1.length≠0 then jR (Xy s p.2.1) p.2.1.length else if p.2.2.1≠1/\p.2.2.1≠2 then 15 else 0:=rfl
theorem Xz{s:PS}{l:List GL}{i:Nat}(a:i<l.length):Xy s l i=jg s (l.take i) l[i]:=by unfold Xy;rw[b_ a]
theorem Dm(s:PS)(hs:okD yS s)(p:K1)(hp:okD yO p):aC tbl iD [.d yN (cb s),.d yO p] [] cz (vn s p,()):=by
 refine ap rfl (aA EN rfl (λO n=>bI (tO O n (cb s) p)) ?_);unfold tO;have hl:p.2.1.length<=9223372036854775807:=hp.2.1.1;refine ae (ot (N:=p.2.1.length) (f:=Xy s p.2.1) (enc:=λi=>((i:Int),())) (oB:=λe=>(e,())) (oE:=()) (λi a=>?_) ?_ ?_)
 ·unfold j0;refine a6 a (aF a (aD (decide_eq_true (by simp)) (aD (by grind) ?_)));rw[aa_,i_];refine aj (GV s hs _ _ (by grind) (hp.2.1.2 _ (a_ a))) ?_;rw[<-Xz a];refine ao (λh=>aa ?_) λh=>aa ?_;·grind
  ·rw[if_pos (by grind),aB a hl]
 ·unfold j0;exact aT (aa rfl)
 rw[zbw];by_cases e:jR (Xy s p.2.1) p.2.1.length=0;·rw[if_pos e,if_neg (not_not_intro e)];refine ae (bb (b:=(p.2.2.1 != 2)) (λ_=>aa rfl) (ao (λh=>aa ?_) λh=>aa ?_));all_goals grind
 ·rw[if_neg e,if_pos e];exact aa rfl
theorem zfD(v:List PRU)(b:∀r∈v,hU r.2.1.1)(i:Nat)(a:i<v.length):aC tbl et [.d tI (i:Int),.ptr 0 0] [.box cq [.d (.list yR) v]] eB (mR v[i],v,()):=by refine ap rfl (aA Da rfl (λO n=>bI (rT O n (i:Int) v)) ?_);unfold rT;exact aF a (aj (FZ _ (b _ (a_ a))) (aa rfl))
theorem zfE(v:List HRU)(e:∀r∈v,r.2.1.length<=1048576)(i:Nat)(a:i<v.length):aC tbl eu [.d tI (i:Int),.ptr 0 0] [.box da [.d (.list yH) v]] eC (gv v[i].2.1,v,()):=by refine ap rfl (aA Db rfl (λO n=>bI (rU O n (i:Int) v)) ?_);unfold rU;obtain⟨c,b,d⟩:=F7 v[i].2.1 (e _ (a_ a));rw[<-zbv b];exact aF a (aj d (aa rfl))
theorem zfF(v:List CRU)(b:∀r∈v,True)(i:Nat)(a:i<v.length):aC tbl ev [.d tI (i:Int),.ptr 0 0] [.box bY [.d (.list yC) v]] eD (oO v[i],v,()):=by refine ap rfl (aA Dc rfl (λO n=>bI (rV O n (i:Int) v)) ?_);unfold rV;exact aF a (aj (AU _) (aa rfl))
theorem zdj(v:List PRU)(hl:v.length<=9223372036854775807)(b:∀r∈v,hU r.2.1.1):aC tbl l7 [.d tI (v.length:Int),.clo pF [0]] [.box cq [.d (.list yR) v]] fy (bS mR v,v,()):=by
 refine ap rfl (aA Jh rfl (λO n=>bI (xR O n (v.length:Int) v)) ?_);unfold xR;refine ae (mg (l:=v) (f:=mR) (enc:=λi=>((i:Int),v,())) (oB:=λe=>(e,v,())) (oE:=(v,())) (λi a=>?_) ?_ ?_)
 ·unfold nP;refine a6 a (aj (zfD v b i a) (ao (λh=>aa ?_) λh=>aa ?_));·rw[if_neg (by simpa using h)]
  ·rw[if_pos (by simpa using h),aB a hl]
 ·unfold nP;exact aT (aa rfl)
 by_cases e:bS mR v=0;·rw[if_pos e];refine aa ?_;rw[e]
 ·rw[if_neg e];exact aa rfl
theorem zdk(v:List HRU)(hl:v.length<=9223372036854775807)(b:∀r∈v,r.2.1.length<=1048576):aC tbl iH [.d tI (v.length:Int),.clo pG [0]] [.box da [.d (.list yH) v]] dB (bS (λr=>gv r.2.1) v,v,()):=by
 refine ap rfl (aA ER rfl (λO n=>bI (tU O n (v.length:Int) v)) ?_);unfold tU;refine ae (mg (l:=v) (f:=(λr=>gv r.2.1)) (enc:=λi=>((i:Int),v,())) (oB:=λe=>(e,v,())) (oE:=(v,())) (λi a=>?_) ?_ ?_)
 ·unfold j6;refine a6 a (aj (zfE v b i a) (ao (λh=>aa ?_) λh=>aa ?_));·rw[if_neg (by simpa using h)]
  ·rw[if_pos (by simpa using h),aB a hl]
 ·unfold j6;exact aT (aa rfl)
 by_cases e:bS (λr=>gv r.2.1) v=0;·rw[if_pos e];refine aa ?_;rw[e]
 ·rw[if_neg e];exact aa rfl
theorem zdl(v:List CRU)(hl:v.length<=9223372036854775807)(b:∀r∈v,True):aC tbl iI [.d tI (v.length:Int),.clo pH [0]] [.box bY [.d (.list yC) v]] dC (bS oO v,v,()):=by
 refine ap rfl (aA ES rfl (λO n=>bI (tV O n (v.length:Int) v)) ?_);unfold tV;refine ae (mg (l:=v) (f:=oO) (enc:=λi=>((i:Int),v,())) (oB:=λe=>(e,v,())) (oE:=(v,())) (λi a=>?_) ?_ ?_)
 ·unfold j7;refine a6 a (aj (zfF v b i a) (ao (λh=>aa ?_) λh=>aa ?_));·rw[if_neg (by simpa using h)]
  ·rw[if_pos (by simpa using h),aB a hl]
 ·unfold j7;exact aT (aa rfl)
 by_cases e:bS oO v=0;·rw[if_pos e];refine aa ?_;rw[e]
 ·rw[if_neg e];exact aa rfl
theorem ID{α:Type}{nm:α->List UInt8}{sz:α->Nat}{ck:α->Int}{l:List α}{i:Nat}(a:i<l.length):LY nm sz ck l i=if wb (l.map nm) i≠0 then wb (l.map nm) i else if sz l[i]>64 then 4 else ck l[i]:=by unfold LY;grind
theorem ziI{s:PS}(h:SmP s){i:Nat}(a:i<s.1.length):s.1[i].2.1.length<=9223372036854775807/\∀r∈s.1[i].2.1,hU r.2.1.1:=⟨(h.ok.1.2 _ (a_ a)).2.1.1,λr hr=>((h.ok.1.2 _ (a_ a)).2.1.2 r hr).2.1.1⟩
theorem ziJ{s:PS}(h:SmP s){i:Nat}(a:i<s.2.1.length):s.2.1[i].2.1.length<=9223372036854775807/\∀r∈s.2.1[i].2.1,r.2.1.length<=1048576:=⟨(h.ok.2.1.2 _ (a_ a)).2.1.1,λr hr=>h.pt _ (a_ a) r hr⟩
theorem ziK{s:PS}(h:SmP s){i:Nat}(a:i<s.2.2.1.length):s.2.2.1[i].2.1.length<=9223372036854775807/\∀r∈s.2.2.1[i].2.1,True:=⟨(h.ok.2.2.1.2 _ (a_ a)).2.1.1,λ_ _=>trivial⟩
theorem zi8{s:PS}(h:SmP s){i:Nat}(a:i<s.1.length):s.1[i].1.length<=9223372036854775807:=(h.ok.1.2 _ (a_ a)).1
theorem zi9{s:PS}(h:SmP s){i:Nat}(a:i<s.2.1.length):s.2.1[i].1.length<=9223372036854775807:=(h.ok.2.1.2 _ (a_ a)).1
theorem zja{s:PS}(h:SmP s){i:Nat}(a:i<s.2.2.1.length):s.2.2.1[i].1.length<=9223372036854775807:=(h.ok.2.2.1.2 _ (a_ a)).1
theorem zjb{s:PS}(h:SmP s){i:Nat}(a:i<s.2.2.2.1.length):s.2.2.2.1[i].1.length<=9223372036854775807:=(h.ok.2.2.2.1.2 _ (a_ a)).1
abbrev bxS(s:PS):Ob:=.box aK [.d (.list yL) s.1,.d (.list yG) s.2.1,.d (.list yD) s.2.2.1,.d (.list yO) s.2.2.2.1]
theorem zfG(s:PS)(i:Nat)(a:i<s.1.length):aC tbl fK [.d tI (i:Int),.ptr 0 0] [bxS s] fZ ((s.1[i].2.1.length:Int),s.1,s.2.1,s.2.2.1,s.2.2.2.1,()):=by refine ap rfl (aA FM rfl (λO n=>bI (vA O n (i:Int) s.1 s.2.1 s.2.2.1 s.2.2.2.1)) ?_);unfold vA;exact aF a (aa rfl)
theorem zdn(s:PS)(hs:SmP s)(i:Nat)(a:i<s.1.length):aC tbl fL [.d tI (i:Int),.ptr 0 0] [bxS s] f7 (bS mR s.1[i].2.1,s.1,s.2.1,s.2.2.1,s.2.2.2.1,()):=by refine ap rfl (aA FN rfl (λO n=>bI (vB O n (i:Int) s.1 s.2.1 s.2.2.1 s.2.2.2.1)) ?_);unfold vB;refine aF a (aj (zdj _ (ziI hs a).1 (ziI hs a).2) (aa rfl))
theorem zfx(s:PS)(hs:SmP s):aC tbl l6 [.d (.list tS) (s.1.map (·.1)),.clo r9 [0],.clo sa [0]] [bxS s] dU (gW (·.1) (λl=>l.2.1.length) (λl=>bS mR l.2.1) s.1,s.1,s.2.1,s.2.2.1,s.2.2.2.1,()):=by
 refine ap rfl (aA Jg rfl (λO n=>bI (xQ O n (s.1.map (·.1)) s.1 s.2.1 s.2.2.1 s.2.2.2.1)) ?_);unfold xQ;refine ao (λh=>aa ?_) λh=>?_;·rw[show gW (·.1) (λl=>l.2.1.length) (λl=>bS mR l.2.1) s.1=4 from if_pos (by have:=of_decide_eq_true h;rw[e_]at this;omega)]
 have d:¬s.1.length>64:=by have:=of_decide_eq_false h;rw[e_]at this;omega
 rw[show gW (·.1) (λl=>l.2.1.length) (λl=>bS mR l.2.1) s.1=jR (LY (·.1) (λl=>l.2.1.length) (λl=>bS mR l.2.1) s.1) (s.1.map (·.1)).length from by unfold gW;rw[if_neg d,e_]];generalize g:LY (·.1) (λl=>l.2.1.length) (λl=>bS mR l.2.1) s.1=E;refine ae (ot (N:=(s.1.map (·.1)).length) (f:=E) (enc:=λi=>((i:Int),s.1,s.2.1,s.2.2.1,s.2.2.2.1,())) (oB:=λe=>(e,s.1,s.2.1,s.2.2.1,s.2.2.2.1,())) (oE:=(s.1,s.2.1,s.2.2.1,s.2.2.2.1,())) (λi c=>?_) ?_ ?_)
 ·unfold nO;have a:i<s.1.length:=by rw[e_]at c;exact c
  have b:E i=if wb (s.1.map (·.1)) i≠0 then wb (s.1.map (·.1)) i else if s.1[i].2.1.length>64 then 4 else bS mR s.1[i].2.1:=by rw[<-g];exact ID a
  refine a6 c (aF c (aD (decide_eq_true (by omega)) (aD (by simp;omega) ?_)));refine aj (qu _ i c (by rw[e_];omega) (by rw[E_];exact zi8 hs a)) ?_;refine ao (λh=>aa ?_) λh=>?_
  ·have h:wb (s.1.map (·.1)) i≠0:=by simpa using h
   rw[if_pos h]at b;rw[b,if_neg h]
  rw[if_neg (by simpa using h)]at b;refine aj (zfG s i a) (ao (λh=>aa ?_) λh=>?_);·have h:decide ((s.1[i].2.1.length:Int)>64)=true:=h;rw[if_pos (by have:=of_decide_eq_true h;omega)]at b;rw[b,if_neg (by decide)]
  have h:decide ((s.1[i].2.1.length:Int)>64)=false:=h;rw[if_neg (by have:=of_decide_eq_false h;omega)]at b;refine aj (zdn s hs i a) (ao (λh=>aa ?_) λh=>aa ?_);·rw[b,if_neg (by simpa using h)]
  ·rw[b,if_pos (by simpa using h),aB a (by omega)]
 ·unfold nO;exact aT (aa rfl)
 by_cases e:jR E (s.1.map (·.1)).length=0;·rw[if_pos e];refine aa ?_;rw[e]
 ·rw[if_neg e];exact aa rfl
theorem zfH(s:PS)(i:Nat)(a:i<s.2.1.length):aC tbl fM [.d tI (i:Int),.ptr 0 0] [bxS s] f8 ((s.2.1[i].2.1.length:Int),s.1,s.2.1,s.2.2.1,s.2.2.2.1,()):=by refine ap rfl (aA FO rfl (λO n=>bI (vC O n (i:Int) s.1 s.2.1 s.2.2.1 s.2.2.2.1)) ?_);unfold vC;exact aF a (aa rfl)
theorem zdo(s:PS)(hs:SmP s)(i:Nat)(a:i<s.2.1.length):aC tbl fN [.d tI (i:Int),.ptr 0 0] [bxS s] f9 (bS (λr=>gv r.2.1) s.2.1[i].2.1,s.1,s.2.1,s.2.2.1,s.2.2.2.1,()):=by refine ap rfl (aA FP rfl (λO n=>bI (vD O n (i:Int) s.1 s.2.1 s.2.2.1 s.2.2.2.1)) ?_);unfold vD;refine aF a (aj (zdk _ (ziJ hs a).1 (ziJ hs a).2) (aa rfl))
theorem zfy(s:PS)(hs:SmP s):aC tbl iE [.d (.list tS) (s.2.1.map (·.1)),.clo sb [0],.clo sd [0]] [bxS s] cA (gW (·.1) (λl=>l.2.1.length) (λl=>bS (λr=>gv r.2.1) l.2.1) s.2.1,s.1,s.2.1,s.2.2.1,s.2.2.2.1,()):=by
 refine ap rfl (aA EO rfl (λO n=>bI (tP O n (s.2.1.map (·.1)) s.1 s.2.1 s.2.2.1 s.2.2.2.1)) ?_);unfold tP;refine ao (λh=>aa ?_) λh=>?_;·rw[show gW (·.1) (λl=>l.2.1.length) (λl=>bS (λr=>gv r.2.1) l.2.1) s.2.1=4 from if_pos (by have:=of_decide_eq_true h;rw[e_]at this;omega)]
 have d:¬s.2.1.length>64:=by have:=of_decide_eq_false h;rw[e_]at this;omega
 rw[show gW (·.1) (λl=>l.2.1.length) (λl=>bS (λr=>gv r.2.1) l.2.1) s.2.1=jR (LY (·.1) (λl=>l.2.1.length) (λl=>bS (λr=>gv r.2.1) l.2.1) s.2.1) (s.2.1.map (·.1)).length from by unfold gW;rw[if_neg d,e_]];generalize g:LY (·.1) (λl=>l.2.1.length) (λl=>bS (λr=>gv r.2.1) l.2.1) s.2.1=E;refine ae (ot (N:=(s.2.1.map (·.1)).length) (f:=E) (enc:=λi=>((i:Int),s.1,s.2.1,s.2.2.1,s.2.2.2.1,())) (oB:=λe=>(e,s.1,s.2.1,s.2.2.1,s.2.2.2.1,())) (oE:=(s.1,s.2.1,s.2.2.1,s.2.2.2.1,())) (λi c=>?_) ?_ ?_)
 ·unfold j3;have a:i<s.2.1.length:=by rw[e_]at c;exact c
  have b:E i=if wb (s.2.1.map (·.1)) i≠0 then wb (s.2.1.map (·.1)) i else if s.2.1[i].2.1.length>64 then 4 else bS (λr=>gv r.2.1) s.2.1[i].2.1:=by rw[<-g];exact ID a
  refine a6 c (aF c (aD (decide_eq_true (by omega)) (aD (by simp;omega) ?_)));refine aj (qu _ i c (by rw[e_];omega) (by rw[E_];exact zi9 hs a)) ?_;refine ao (λh=>aa ?_) λh=>?_
  ·have h:wb (s.2.1.map (·.1)) i≠0:=by simpa using h
   rw[if_pos h]at b;rw[b,if_neg h]
  rw[if_neg (by simpa using h)]at b;refine aj (zfH s i a) (ao (λh=>aa ?_) λh=>?_);·have h:decide ((s.2.1[i].2.1.length:Int)>64)=true:=h;rw[if_pos (by have:=of_decide_eq_true h;omega)]at b;rw[b,if_neg (by decide)]
  have h:decide ((s.2.1[i].2.1.length:Int)>64)=false:=h;rw[if_neg (by have:=of_decide_eq_false h;omega)]at b;refine aj (zdo s hs i a) (ao (λh=>aa ?_) λh=>aa ?_);·rw[b,if_neg (by simpa using h)]
  ·rw[b,if_pos (by simpa using h),aB a (by omega)]
 ·unfold j3;exact aT (aa rfl)
 by_cases e:jR E (s.2.1.map (·.1)).length=0;·rw[if_pos e];refine aa ?_;rw[e]
 ·rw[if_neg e];exact aa rfl
theorem zfI(s:PS)(i:Nat)(a:i<s.2.2.1.length):aC tbl fO [.d tI (i:Int),.ptr 0 0] [bxS s] gg ((s.2.2.1[i].2.1.length:Int),s.1,s.2.1,s.2.2.1,s.2.2.2.1,()):=by refine ap rfl (aA FQ rfl (λO n=>bI (vE O n (i:Int) s.1 s.2.1 s.2.2.1 s.2.2.2.1)) ?_);unfold vE;exact aF a (aa rfl)
theorem zdp(s:PS)(hs:SmP s)(i:Nat)(a:i<s.2.2.1.length):aC tbl fP [.d tI (i:Int),.ptr 0 0] [bxS s] gh (bS oO s.2.2.1[i].2.1,s.1,s.2.1,s.2.2.1,s.2.2.2.1,()):=by refine ap rfl (aA FR rfl (λO n=>bI (vF O n (i:Int) s.1 s.2.1 s.2.2.1 s.2.2.2.1)) ?_);unfold vF;refine aF a (aj (zdl _ (ziK hs a).1 (ziK hs a).2) (aa rfl))
theorem zfz(s:PS)(hs:SmP s):aC tbl iF [.d (.list tS) (s.2.2.1.map (·.1)),.clo se [0],.clo sf [0]] [bxS s] cB (gW (·.1) (λl=>l.2.1.length) (λl=>bS oO l.2.1) s.2.2.1,s.1,s.2.1,s.2.2.1,s.2.2.2.1,()):=by
 refine ap rfl (aA EP rfl (λO n=>bI (tR O n (s.2.2.1.map (·.1)) s.1 s.2.1 s.2.2.1 s.2.2.2.1)) ?_);unfold tR;refine ao (λh=>aa ?_) λh=>?_;·rw[show gW (·.1) (λl=>l.2.1.length) (λl=>bS oO l.2.1) s.2.2.1=4 from if_pos (by have:=of_decide_eq_true h;rw[e_]at this;omega)]
 have d:¬s.2.2.1.length>64:=by have:=of_decide_eq_false h;rw[e_]at this;omega
 rw[show gW (·.1) (λl=>l.2.1.length) (λl=>bS oO l.2.1) s.2.2.1=jR (LY (·.1) (λl=>l.2.1.length) (λl=>bS oO l.2.1) s.2.2.1) (s.2.2.1.map (·.1)).length from by unfold gW;rw[if_neg d,e_]];generalize g:LY (·.1) (λl=>l.2.1.length) (λl=>bS oO l.2.1) s.2.2.1=E;refine ae (ot (N:=(s.2.2.1.map (·.1)).length) (f:=E) (enc:=λi=>((i:Int),s.1,s.2.1,s.2.2.1,s.2.2.2.1,())) (oB:=λe=>(e,s.1,s.2.1,s.2.2.1,s.2.2.2.1,())) (oE:=(s.1,s.2.1,s.2.2.1,s.2.2.2.1,())) (λi c=>?_) ?_ ?_)
 ·unfold j4;have a:i<s.2.2.1.length:=by rw[e_]at c;exact c
  have b:E i=if wb (s.2.2.1.map (·.1)) i≠0 then wb (s.2.2.1.map (·.1)) i else if s.2.2.1[i].2.1.length>64 then 4 else bS oO s.2.2.1[i].2.1:=by rw[<-g];exact ID a
  refine a6 c (aF c (aD (decide_eq_true (by omega)) (aD (by simp;omega) ?_)));refine aj (qu _ i c (by rw[e_];omega) (by rw[E_];exact zja hs a)) ?_;refine ao (λh=>aa ?_) λh=>?_
  ·have h:wb (s.2.2.1.map (·.1)) i≠0:=by simpa using h
   rw[if_pos h]at b;rw[b,if_neg h]
  rw[if_neg (by simpa using h)]at b;refine aj (zfI s i a) (ao (λh=>aa ?_) λh=>?_);·have h:decide ((s.2.2.1[i].2.1.length:Int)>64)=true:=h;rw[if_pos (by have:=of_decide_eq_true h;omega)]at b;rw[b,if_neg (by decide)]
  have h:decide ((s.2.2.1[i].2.1.length:Int)>64)=false:=h;rw[if_neg (by have:=of_decide_eq_false h;omega)]at b;refine aj (zdp s hs i a) (ao (λh=>aa ?_) λh=>aa ?_);·rw[b,if_neg (by simpa using h)]
  ·rw[b,if_pos (by simpa using h),aB a (by omega)]
 ·unfold j4;exact aT (aa rfl)
 by_cases e:jR E (s.2.2.1.map (·.1)).length=0;·rw[if_pos e];refine aa ?_;rw[e]
 ·rw[if_neg e];exact aa rfl
abbrev bxN(s:PS):Ob:=.box kL [.d (.list tS) (cb s).1,.d (.list tS) (cb s).2.1,.d (.list tS) (cb s).2.2.1,.d (.list tS) (cb s).2.2.2.1]
theorem pk8(x:HL q_policy_Check_8_drr.sl):EB q_policy_Check_8_drr (jm q_policy_Check_8_drr x)=some x:=by kernel_rfl
theorem zi4(x:HL q_policy_each_dcc_v3.sl):EB q_policy_each_dcc_v3 (jm q_policy_each_dcc_v3 x)=some x:=by kernel_rfl
theorem zfJ(s:PS)(i:Nat)(a:i<s.2.2.2.1.length):aC tbl fQ [.d tI (i:Int),.ptr 0 0] [bxS s] gj ((s.2.2.2.1[i].2.1.length:Int),s.1,s.2.1,s.2.2.1,s.2.2.2.1,()):=by refine ap rfl (aA zjh rfl (λO n=>bI (vG O n (i:Int) s.1 s.2.1 s.2.2.1 s.2.2.2.1)) ?_);unfold vG;exact aF a (aa rfl)
theorem zdq(s:PS)(hs:SmP s)(i:Nat)(a:i<s.2.2.2.1.length):aC tbl fc [.d tI (i:Int),.ptr 0 0,.ptr 1 0] [bxN s,bxS s] q_policy_Check_8_drr (vn s s.2.2.2.1[i],(cb s).1,(cb s).2.1,(cb s).2.2.1,(cb s).2.2.2.1,s.1,s.2.1,s.2.2.1,s.2.2.2.1,()):=by refine ap (pk8 _) (aA EL rfl (λO n=>bI (tM O n (i:Int) (cb s).1 (cb s).2.1 (cb s).2.2.1 (cb s).2.2.2.1 s.1 s.2.1 s.2.2.1 s.2.2.2.1)) ?_);unfold tM;exact aF a (aj (Dm s hs.ok _ (hs.ok.2.2.2.1.2 _ (a_ a))) (aa rfl))
theorem zfA(s:PS)(hs:SmP s):aC tbl iG [.d (.list tS) (s.2.2.2.1.map (·.1)),.clo sg [0],.clo si [1,0]] [bxS s,bxN s] q_policy_each_dcc_v3 (gW (·.1) (λp=>p.2.1.length) (vn s) s.2.2.2.1,s.1,s.2.1,s.2.2.1,s.2.2.2.1,(cb s).1,(cb s).2.1,(cb s).2.2.1,(cb s).2.2.2.1,()):=by
 refine ap (zi4 _) (aA EQ rfl (λO n=>bI (tT O n (s.2.2.2.1.map (·.1)) s.1 s.2.1 s.2.2.1 s.2.2.2.1 (cb s).1 (cb s).2.1 (cb s).2.2.1 (cb s).2.2.2.1)) ?_);unfold tT;refine ao (λh=>aa ?_) λh=>?_;·rw[show gW (·.1) (λp=>p.2.1.length) (vn s) s.2.2.2.1=4 from if_pos (by grind)]
 have d:¬s.2.2.2.1.length>64:=by grind
 rw[show gW (·.1) (λp=>p.2.1.length) (vn s) s.2.2.2.1=jR (LY (·.1) (λp=>p.2.1.length) (vn s) s.2.2.2.1) (s.2.2.2.1.map (·.1)).length from by unfold gW;grind];generalize g:LY (·.1) (λp=>p.2.1.length) (vn s) s.2.2.2.1=E;refine ae (ot (N:=(s.2.2.2.1.map (·.1)).length) (f:=E) (enc:=λi=>((i:Int),s.1,s.2.1,s.2.2.1,s.2.2.2.1,(cb s).1,(cb s).2.1,(cb s).2.2.1,(cb s).2.2.2.1,())) (oB:=λe=>(e,s.1,s.2.1,s.2.2.1,s.2.2.2.1,(cb s).1,(cb s).2.1,(cb s).2.2.1,(cb s).2.2.2.1,())) (oE:=(s.1,s.2.1,s.2.2.1,s.2.2.2.1,(cb s).1,(cb s).2.1,(cb s).2.2.1,(cb s).2.2.2.1,())) (λi c=>?_) ?_ ?_)
 ·unfold j5;have a:i<s.2.2.2.1.length:=by grind
  have b:E i=if wb (s.2.2.2.1.map (·.1)) i≠0 then wb (s.2.2.2.1.map (·.1)) i else if s.2.2.2.1[i].2.1.length>64 then 4 else vn s s.2.2.2.1[i]:=by rw[<-g];exact ID a
  refine a6 c (aF c (aD (decide_eq_true (by simp)) (aD (by grind) ?_)));refine aj (qu _ i c (by grind) (by rw[E_];exact zjb hs a)) ?_;refine ao (λh=>aa ?_) λh=>?_;·grind
  rw[if_neg (by grind)]at b;refine aj (zfJ s i a) (ao (λh=>aa ?_) λh=>?_);·grind
  have h:decide ((s.2.2.2.1[i].2.1.length:Int)>64)=false:=h;rw[if_neg (by grind)]at b;refine aj (zdq s hs i a) (ao (λh=>aa ?_) λh=>aa ?_);·grind
  ·rw[b,if_pos (by grind),aB a (by omega)]
 ·unfold j5;exact aT (aa rfl)
 by_cases e:jR E (s.2.2.2.1.map (·.1)).length=0;·rw[if_pos e];refine aa ?_;rw[e]
 ·rw[if_neg e];exact aa rfl
theorem wo(s:PS)(hs:SmP s):aC tbl gQ [.d yS s] [] cy (sU gv s,()):=by
 refine ap rfl (aA OC rfl (λO n=>bI (Ds O n s)) ?_);unfold Ds;refine aj (MG s hs.l1 hs.l2 hs.l3 hs.l4) (aD rfl (aj (zfx s hs) ?_));generalize k:gW (·.1) (λl=>l.2.1.length) (λl=>bS mR l.2.1) s.1=b;generalize g:gW (·.1) (λl=>l.2.1.length) (λl=>bS (λr=>gv r.2.1) l.2.1) s.2.1=c;generalize j:gW (·.1) (λl=>l.2.1.length) (λl=>bS oO l.2.1) s.2.2.1=d;have hp:sU gv s=if b≠0 then b else if c≠0 then c else if d≠0 then d else gW (·.1) (λp=>p.2.1.length) (vn s) s.2.2.2.1:=by unfold sU;omega
 have e:=zfy s hs;have f:=zfz s hs;rw[g]at e;rw[j]at f;rw[hp];refine ao (λh=>aa ?_) λh=>aD rfl (aj e (ao (λh'=>aa ?_) λh'=>aD rfl (aj f (ao (λa=>aa ?_) λa=>aD rfl (aj (zfA s hs) (aa ?_))))));·grind
 all_goals grind
end Go.Proofs.YtmfolppncelceaaGreatDoor
