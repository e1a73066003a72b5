import Derived.Test.YthjnceggmnicmaaGreatDoorHPlPfx
import Derived.Test.YthjnceggmnicmaaGreatDoorHGlueB
import Derived.Test.YthjnceggmnicmaaGreatDoorHL7
import Derived.Test.YthjnceggmnicmaaGreatDoorHL5
set_option linter.unusedVariables false
set_option linter.unusedSimpArgs false
open Bool renaming true_and->t_,or_eq_false_iff->A_,and_eq_true->J_,false_eq_true->Z_
open Classical renaming byContradiction->f_,not_not->am_,choose->an_
open Int renaming toNat_natCast->h_,toNat->s_,eq_ofNat_of_zero_le->D_,natCast_nonneg->N_,toNat_of_nonneg->Y_,le_refl->al_
open Go.IntKind renaming wrap->d_,bits->ab_
open List renaming getElem_mem->a_,getElem?_eq_getElem->b_,replicate->c_,length_map->g_,mem_cons_of_mem->i_,take_length->j_,mem_cons_self->k_,take_of_length_le->l_,take_add_one->m_,mem_append->n_,mem_singleton->o_,take_succ_eq_append_getElem->p_,getElem?_eq_some_iff->q_,getElem?_eq_none->r_,ext_getElem->u_,range->w_,map_append->x_,length_replicate->y_,append_assoc->z_,append_nil->B_,nil_append->C_,drop_zero->F_,foldl_append->G_,take_append_drop->I_,getElem_map->K_,mem_of_mem_take->L_,take_succ_cons->M_,length_append->O_,ext_getElem?->P_,map_cons->Q_,take_append_getElem->R_,getElem_set->S_,drop_eq_nil_of_le->T_,length_eq_one_iff->U_,mem_of_getElem?->W_,getD->X_,any_map->ac_,all_eq_true->ad_,any_eq_true->ae_,drop_length->af_,all_append->ag_,length_set->ah_,foldl->ai_
open Nat renaming zero_le->v_,le_refl->E_,le_trans->H_,le_of_lt->V_,beq_refl->aj_,sub_self->ak_
open Option renaming bind->e_,toList_some->aa_
open Prod renaming ext->ao_
namespace Go.Proofs.YthjnceggmnicmaaGreatDoor
open Go Go.Av Go.Ev Go.Pl
abbrev qL(x:Int):Prop:=0<=x/\x<=4294967295
theorem JZ(n m:Int):aJ tbl pO [.d tI n,.d tI m] [] mN (min (max n 0) m,()):=aC rfl (aF Lw rfl (λO k=>LI O k n m) (aa rfl))
theorem UM(k:Nat):(2:Int)^k=((2^k:Nat):Int):=by induction k with|zero=>rfl|succ k a=>rw[Int.pow_succ,a,Nat.pow_succ];rfl
theorem LX(n:Nat)(hn:n<=32):aJ tbl rE [.d tI (n:Int)] [] oP (((4294967295*2^(32 - n)%4294967296:Nat):Int),()):=by
 refine aC rfl (aF N0 rfl (λO k=>Oc O k (n:Int)) ?_);unfold DG;refine an (JZ (n:Int) 32) ?_;have e:d_ .i64 (32 - min (max (n:Int) 0) 32)=((32 - n:Nat):Int):=by rw[wrap_i64 (by omega) (by omega)];omega
 refine aA (by grind) (aa ?_);simp only[e];rw[show min (s_ ((32 - n:Nat):Int)) (ab_ .u32)=32 - n from by show min _ 32=_;simp,wrap_u32,UM];rfl
theorem Dz(x n:Int)(c:qL x)(b:0<=n)(d:n<=32):aJ tbl oC [.d tW x,.d tI n] [] lR (Gg x n,()):=by obtain⟨a,rfl⟩:=D_ c.1;obtain⟨k,rfl⟩:=D_ b;refine aC rfl (aF NZ rfl (λO m=>Oa O m (a:Int) (k:Int)) ?_);unfold DF;refine an (LX k (by omega)) (aa ?_);rw[Tj (by omega) (Nat.mod_lt _ (by simp)),RF (by omega) (by omega)];rfl
theorem jd(p:L6)(hp:qL p.1):aJ tbl dK [.d yP p] [] cX (lD p,()):=by refine aC rfl (aF GX rfl (λO n=>Ha O n p) ?_);unfold vM;refine ae (cy (b:=decide (p.2.1<=32)) (λ_=>aa rfl) ?_);refine ae (cy (b:=(Gg p.1 p.2.1==p.1)) (λh=>?_) (aa rfl));simp only[J_,decide_eq_true_eq]at h;exact an (Dz p.1 p.2.1 hp h.1 h.2) (aa rfl)
theorem L1(a n:Int)(d:qL a)(b:0<=n)(c:n<=32):aJ tbl rF [.d tW a,.d tI n] [] oQ ((Gg a n,n,()),()):=by refine aC rfl (aF N1 rfl (λO k=>Od O k a n) ?_);unfold DI;exact an (Dz a n d b c) (aa rfl)
def MA(p:L6)(a:Int):Bool:=lD p&&(Gg a p.2.1==p.1)
def V9(p q:L6):Bool:=lD q&&(decide (p.2.1<=q.2.1)&&MA p q.1)
theorem SF{p:L6}(h:lD p=true):0<=p.2.1/\p.2.1<=32:=by unfold lD at h;simp only[J_,decide_eq_true_eq]at h;exact h.1
theorem rm(p:L6)(a:Int)(hp:qL p.1)(d:qL a):aJ tbl fM [.d yP p,.d tW a] [] dZ (MA p a,()):=by refine aC rfl (aF Co rfl (λO n=>CF O n p a) ?_);unfold rC;refine an (jd p hp) (ae (cy (b:=(Gg a p.2.1==p.1)) (λh=>?_) (aa rfl)));have c:=SF h;refine an (L1 a p.2.1 d c.1 c.2) (aa ?_);show(false ^^ ((Gg a p.2.1==p.1)&&((p.2.1==p.2.1)&&true)))=_;simp
theorem D8(p q:L6)(hp:qL p.1)(a:qL q.1):aJ tbl kT [.d yP p,.d yP q] [] iy (V9 p q,()):=by refine aC rfl (aF EA rfl (λO n=>EJ O n p q) ?_);unfold uU;refine an (jd q a) (ae (cy (b:=decide (p.2.1<=q.2.1)) (λ_=>aa rfl) ?_));refine ae (cy (b:=MA p q.1) (λ_=>an (rm p q.1 hp a) (aa rfl)) (aa ?_));unfold V9;grind
theorem yl(r:VT)(hr:qL r.2.1.1):aJ tbl kj [.d yR r] [] ff (sV r,()):=by
 refine aC rfl (aF IA rfl (λO n=>IS O n r) ?_);unfold yw;refine an (jd r.2.1 hr) (aE (λh=>aa ?_) λh=>?_);·unfold sV;rw[if_pos (by simpa using h)]
 ·have a:¬lD r.2.1=false:=by simpa using h
  refine ae (cY (b:=decide (r.2.2.2.1<r.2.2.1)) (λ_=>aa rfl) (ae (cY (b:=decide (r.2.2.2.1>32)) (λ_=>aa rfl) ?_)));refine aE (λh=>aa ?_) λh=>aa ?_;·unfold sV;rw[if_neg a,if_pos (by simpa[or_assoc]using h)]
  ·unfold sV;rw[if_neg a,if_neg];intro h';simp only[A_,decide_eq_false_iff_not]at h;omega
def RO(r:VT)(p:L6):Bool:=(sV r==0)&&(V9 r.2.1 p&&(decide (r.2.2.1<=p.2.1)&&decide (p.2.1<=r.2.2.2.1)))
def UI(l:List VT)(p:L6):Bool:=match l.find? (λz=>RO z p)with|some r=>r.1|none=>false
theorem Hj(r:VT)(p:L6)(hr:qL r.2.1.1)(hp:qL p.1):aJ tbl nJ [.d yR r,.d yP p] [] kG (RO r p,()):=by refine aC rfl (aF IB rfl (λO n=>IT O n r p) ?_);unfold yx;refine an (yl r hr) (ae (cy (b:=V9 r.2.1 p) (λ_=>an (D8 r.2.1 p hr hp) (aa rfl)) ?_));refine ae (cy (b:=decide (r.2.2.1<=p.2.1)) (λ_=>aa rfl) (ae (cy (b:=decide (p.2.1<=r.2.2.2.1)) (λ_=>aa rfl) (aa ?_))));unfold RO;grind
theorem D7(l:List VT)(p:L6)(hl:l.length<=9223372036854775807)(hr:∀r∈l,qL r.2.1.1)(hp:qL p.1):aJ tbl kS [.d (.list yR) l,.d yP p] [] fD (UI l p,()):=by
 refine aC rfl (aF Ex rfl (λO n=>EG O n l p) ?_);unfold uR;refine ae (Cu (xs:=l) (p:=(λz=>RO z p)) (g:=λr=>(r.1,())) (e:=()) (λi r b=>?_) ?_ ?_)
 ·unfold l7;have a:=(q_.1 b).1;refine bD a (E5 b (an (Hj r p (hr r (W_ b)) hp) ?_));refine aE (λh=>aa ?_) λh=>aa ?_;·rw[if_pos h]
  ·rw[if_neg (by have h:RO r p=false:=h;simp[h]),ar a hl]
 ·unfold l7;exact ba (aa rfl)
 ·unfold UI;cases l.find? (λz=>RO z p)with|some r=>exact aa rfl|none=>exact aa rfl
end Go.Proofs.YthjnceggmnicmaaGreatDoor
namespace Go.Pl
open Go.Ev
def bX(M:Nat)(f:Nat->Bool):List Bool:=(w_ M).map f
theorem mY(M:Nat)(f:Nat->Bool):(bX M f).length=M:=by simp[bX]
theorem Vy{M i:Nat}(f:Nat->Bool)(h:i<(bX M f).length):(bX M f)[i]=f i:=by simp[bX]
theorem q7{M:Nat}{f g:Nat->Bool}(h:∀i,i<M->f i=g i):bX M f=bX M g:=List.map_congr_left λi a=>h i (List.mem_range.1 a)
theorem G3{M i:Nat}(f:Nat->Bool)(b:Bool):(bX M f).set i b=bX M λj=>if j=i then b else f j:=by
 refine u_ (by simp[bX]) λj d c=>?_;have g:j<M:=by simpa[bX]using c
 rw[S_];by_cases e:i=j;·subst e;simp[bX]
 ·have a:¬j=i:=λh=>e h.symm;simp[bX,e,a]
theorem N6(M:Nat):c_ M false=bX M λ_=>false:=by refine u_ (by simp[bX]) λj a b=>?_;simp[bX]
def RB(g:G)(n:Int)(p:Nat):Bool:=match g.sp[p]? with
 |some q=>decide (q.1<=n)&&decide (n<=q.2)
 |none=>false
def HH(g:G)(can:Nat->Bool)(n:Int)(p:Nat):Bool:=can p&&RB g n p
def Xx(g:G)(a:Nat->Bool)(q:Nat):Bool:=g.pr.any λx=>a x.1&&decide (x.2=q)
def s5(g:G)(s:(Nat->Bool)×(Nat->Bool))(n:Int):(Nat->Bool)×(Nat->Bool):=(Xx g (HH g s.1 n),HH g s.1 n)
def qT(g:G)(a:List Int):(Nat->Bool)×(Nat->Bool):=a.foldl (s5 g) (λp=>decide (p∈g.fi),λ_=>false)
def uk(g:G)(a:List Int):Bool:=bif a.isEmpty then g.em else g.la.any (qT g a).2
theorem Sj{g:G}{a:List Int}{i:Nat}(h:i<a.length):qT g (a.take (i+1))=s5 g (qT g (a.take i)) a[i]:=by unfold qT;rw[m_,b_ h,G_];rfl
theorem nxF_iff{g:G}{f:Nat->Bool}{q:Nat}:Xx g f q=true↔∃p,f p=true/\(p,q)∈g.pr:=by unfold Xx;grind
def jy(a:List Int):Bool:=a.all λn=>decide (0<=n)&&decide (n<=4294967295)
theorem YK:∀(r:Rx),dR r=true->∀o,∀q∈(gL r o).sp,0<=q.1/\q.2<=4294967295:=by
 refine lz λk lo s ks u p o=>?_;obtain⟨hn,n⟩:=well_iff.1 p;have d:∀(l:List Rx) (a:G),(∀r∈l,r∈ks)->(∀q∈a.sp,0<=q.1/\q.2<=4294967295)->∀q∈(iK l o a).sp,0<=q.1/\q.2<=4294967295:=by intro l;induction l with|nil=>intro a _ h;exact h|cons r l f=>intro a hl h;refine f _ (λr hr=>hl r (i_ _ hr)) λq b=>?_;rcases n_.1 b with b|b;all_goals grind
 have j:∀(l:List Rx) (a:G),(∀r∈l,r∈ks)->(∀q∈a.sp,0<=q.1/\q.2<=4294967295)->∀q∈(kB l o a).sp,0<=q.1/\q.2<=4294967295:=by intro l;induction l with|nil=>intro a _ h;exact h|cons r l f=>intro a hl h;refine f _ (λr hr=>hl r (i_ _ hr)) λq b=>?_;rcases n_.1 b with b|b;all_goals grind
 have c:∀(e:Bool),∀q∈(g0 e).sp,0<=q.1/\q.2<=4294967295:=λe q b=>by simp[g0]at b
 unfold gL;split;·rename_i g;have:=hn.rng g;intro q b;simp only[Qm,o_]at b;grind
 split;·intro q b;simp only[Qm,o_]at b;grind
 split;·exact j _ _ (λ_ h=>h) (c _)
 split;·exact d _ _ (λ_ h=>h) (c _)
 split;·exact d _ _ (λ_ h=>h) (c _)
 split;·exact d _ _ (λ_ h=>h) (c _)
 split;·exact d _ _ (λ_ h=>h) (c _)
 grind
theorem NF{g:G}:∀(l:List Int) (s:(Nat->Bool)×(Nat->Bool)),(∀p,s.1 p=false)->(∀p,s.2 p=false)->∀p,(l.foldl (s5 g) s).2 p=false
 |[],s,_,a,p=>a p
 |n::l,s,c,a,p=>by
  have b:∀p,(s5 g s n).2 p=false:=λp=>by show(s.1 p&&_)=false;grind
  refine NF l (s5 g s n) (λq=>?_) b p;cases e:(s5 g s n).1 q;·rfl
  ·obtain⟨p,hp,_⟩:=nxF_iff.1 (show Xx g (HH g s.1 n) q=true from e);have:=b p;rw[show(s5 g s n).2 p=HH g s.1 n p from rfl,hp]at this;omega
theorem RP{r:Rx}(g:dR r=true){a:List Int}(h:jy a=false):uk (gL r 0) a=false:=by
 have:∃n∈a,¬(0<=n/\n<=4294967295):=by
  refine f_ λhn=>?_;have:jy a=true:=by unfold jy;grind
  grind
 obtain⟨n,d,k⟩:=this;obtain⟨l1,l2,rfl⟩:=List.append_of_mem d;unfold uk;have c:(l1++n::l2).isEmpty=false:=by simp
 rw[c];show(gL r 0).la.any _=false;rw[List.any_eq_false];intro p hp;have j:∀p,RB (gL r 0) n p=false:=λp=>by
  unfold RB;split;·rename_i q f;have:=YK r g 0 q (W_ f);grind
  simp
 have b:∀(s:(Nat->Bool)×(Nat->Bool)) p,(s5 (gL r 0) s n).2 p=false:=λs p=>by show(_&&RB _ n p)=false;grind
 have:(qT (gL r 0) (l1++n::l2)).2 p=false:=by
  unfold qT;rw[G_,List.foldl_cons];refine NF l2 _ (λq=>?_) (b _) p;cases e:(s5 (gL r 0) (ai_ (s5 (gL r 0)) (λp=>decide (p∈(gL r 0).fi),λ_=>false) l1) n).1 q;·rfl
  ·obtain⟨p,hp,_⟩:=nxF_iff.1 (show Xx _ _ q=true from e);have:=b (ai_ (s5 (gL r 0)) (λp=>decide (p∈(gL r 0).fi),λ_=>false) l1) p;rw[show(s5 (gL r 0) (ai_ (s5 (gL r 0)) (λp=>decide (p∈(gL r 0).fi),λ_=>false) l1) n).2 p=HH _ _ n p from rfl,hp]at this;omega
 grind
open Go Go.Ev Go.Lib
def hd(t:List UInt8):Nat:=(t.headD 0).toNat
def pk(s:List UInt8)(i:Nat):Nat:=(s.getD i 0).toNat
theorem ng(s:List UInt8)(i:Nat):pk s i=hd (s.drop i):=by unfold pk hd;rw[List.headD_eq_head?_getD,List.head?_drop];rfl
theorem ix{s:List UInt8}{i:Nat}(h:pk s i≠0):i<s.length:=by apply f_;intro hn;apply h;unfold pk;rw[X_,r_ (by omega)];rfl
theorem XC{s:List UInt8}{i:Nat}(h:i<s.length):pk s i=s[i].toNat:=by unfold pk;rw[X_,b_ h];rfl
theorem XB{s:List UInt8}{i:Nat}(h:¬i<s.length):pk s i=0:=by unfold pk;rw[X_,r_ (by omega)];rfl
theorem jo{s a t:List UInt8}{i:Nat}(h:s.drop i=a++t):s.drop (i+a.length)=t:=by rw[<-List.drop_drop,h,List.drop_left]
theorem vX{s t:List UInt8}{b:UInt8}{i:Nat}(h:s.drop i=b::t):s.drop (i+1)=t:=jo (a:=[b]) h
theorem K2{a t:List UInt8}(h:a≠[]):hd (a++t)=hd a:=by cases a with|nil=>exact absurd rfl h|cons b a=>rfl
def dg(c:Nat):Prop:=48<=c/\c<=57
section
variable (num:Nat->Option (Int×Nat)) (s:List UInt8)
def jt(alt:Nat->Option (Rx×Nat))(i:Nat):Option (Rx×Nat):=
 if pk s i=46 then some (.mk 2 0 0 [],i+1)
 else if pk s i=33 then some (.mk 4 0 0 [],i+1)
 else if pk s i=91 then
  match num (i+1)with
  |none=>none
  |some (lo,j)=>if pk s j=45 then(match num (j+1)with
   |none=>none
   |some (up,k)=>if pk s k=93 then some (.mk 1 lo up [],k+1)else none)else none
 else if pk s i=40 then
  if pk s (i+1)=41 then some (.mk 0 0 0 [],i+2)else
  match alt (i+1)with
  |none=>none
  |some (r,j)=>if pk s j=41 then some (r,j+1)else none
 else match num i with
  |none=>none
  |some (n,j)=>some (.mk 1 n n [],j)
def BS(alt:Nat->Option (Rx×Nat))(i:Nat):Option (Rx×Nat):=
 match jt num s alt i with
 |none=>none
 |some (r,j)=>if pk s j=42 then some (.mk 5 0 0 [r],j+1)else if pk s j=43 then some (.mk 6 0 0 [r],j+1)else if pk s j=63 then some (.mk 7 0 0 [r],j+1)else some (r,j)
def lP(sep:Nat)(one:Nat->Option (Rx×Nat)):Nat->List Rx->Nat->Option (List Rx×Nat)
 |0,_,_=>none
 |f+1,a,i=>match one i with
  |none=>none
  |some (r,j)=>if pk s j=sep then lP sep one f (a++[r]) (j+1)else some (a++[r],j)
def Rw(k:Int)(l:List Rx):Rx:=match l with
 |[x]=>x
 |l=>.mk k 0 0 l
def Il(sep:Nat)(k:Int)(one:Nat->Option (Rx×Nat))(i:Nat):Option (Rx×Nat):=match lP s sep one (s.length+1 - i) [] i with
 |none=>none
 |some (l,j)=>some (Rw k l,j)
def R6(alt:Nat->Option (Rx×Nat))(i:Nat):Option (Rx×Nat):=Il s 32 3 (BS num s alt) i
def BR:Nat->Nat->Option (Rx×Nat)
 |0,_=>none
 |b+1,i=>Il s 124 4 (R6 num s (BR b)) i
end
structure NumOk(s:List UInt8)(num:Nat->Option (Int×Nat)):Prop where
 bnd:∀i n j,i<=s.length->num i=some (n,j)->i<j/\j<=s.length
 txt:∀i (m:Nat) t,s.drop i=decDigits m++t->m<=4294967295->¬dg (hd t)->num i=some ((m:Int),i+(decDigits m).length)
def Q2(s:List UInt8)(one:Nat->Option (Rx×Nat)):Prop:=∀i r j,i<=s.length->one i=some (r,j)->i<j/\j<=s.length/\sz r<=j - i
section
variable {num:Nat->Option (Int×Nat)} {s:List UInt8}
theorem Tk(hn:NumOk s num){alt:Nat->Option (Rx×Nat)}(g:Q2 s alt):Q2 s (jt num s alt):=by
 intro i r j k h;unfold jt at h;have one:sz (.mk 0 0 0 [])=1:=rfl;split at h;·rename_i p;have:=ix (s:=s) (i:=i) (by omega);cases h;refine⟨by simp,by omega,?_⟩;show 1<=_;simp
 split at h;·have:=ix (s:=s) (i:=i) (by omega);cases h;refine⟨by simp,by omega,?_⟩;show 1<=_;simp
 split at h
 ·have:=ix (s:=s) (i:=i) (by omega);split at h;·grind
  rename_i lo a e;have c:=hn.bnd _ _ _ (by omega) e;split at h
  ·have:=ix (s:=s) (i:=a) (by omega);split at h;·grind
   rename_i up b f;have d:=hn.bnd _ _ _ (by omega) f;split at h;·have:=ix (s:=s) (i:=b) (by omega);cases h;refine⟨by omega,by omega,?_⟩;show 1<=_;omega
   grind
  grind
 split at h
 ·have:=ix (s:=s) (i:=i) (by omega);split at h;·have:=ix (s:=s) (i:=i+1) (by omega);grind
  split at h;·grind
  rename_i r2 a e;obtain⟨c,d,l⟩:=g _ _ _ (by omega) e;split at h;·have:=ix (s:=s) (i:=a) (by omega);grind
  grind
 split at h;·grind
 rename_i n a e;have c:=hn.bnd _ _ _ k e;cases h;refine⟨by omega,by omega,?_⟩;show 1<=_;omega
theorem Fz(hn:NumOk s num){alt:Nat->Option (Rx×Nat)}(b:Q2 s alt):Q2 s (BS num s alt):=by
 intro i r j c h;unfold BS at h;split at h;·grind
 rename_i r2 a e;obtain⟨d,f,g⟩:=Tk hn b _ _ _ c e;have hs:∀k:Int,sz (.mk k 0 0 [r2])=sz r2+1:=λk=>by simp only[sz,wQ];omega
 split at h;·have:=ix (s:=s) (i:=a) (by omega);grind
 split at h;·have:=ix (s:=s) (i:=a) (by omega);grind
 split at h;·have:=ix (s:=s) (i:=a) (by omega);grind
 grind
theorem Mq{one:Nat->Option (Rx×Nat)}(c:Q2 s one){sep:Nat}(d:sep≠0):∀(f:Nat) (b:List Rx) (i:Nat) (l:List Rx) (j:Nat),i<=s.length->lP s sep one f b i=some (l,j)->
 i<j/\j<=s.length/\wQ l+l.length<=wQ b+b.length+(j - i)+1/\b.length<l.length
 |0,_,_,_,_,_,h=>by simp[lP]at h
 |f+1,b,i,l,j,g,h=>by
  rw[lP]at h;split at h;·grind
  rename_i r a e;obtain⟨k,n,p⟩:=c _ _ _ g e;have y:wQ (b++[r])=wQ b+sz r:=by rw[Lv];simp[wQ]
  split at h;·have:=ix (s:=s) (i:=a) (by omega);obtain⟨u,v,w,x⟩:=Mq c d f _ _ _ _ (by omega) h;grind
  grind
theorem Km{one:Nat->Option (Rx×Nat)}(u:Q2 s one){sep:Nat}(n:sep≠0)(k:Int):Q2 s (Il s sep k one):=by
 intro i r j p h;unfold Il at h;split at h;·grind
 rename_i l a e;obtain⟨f,g,c,d⟩:=Mq u n _ _ _ _ _ p e;cases h;refine⟨f,g,?_⟩;unfold Rw;split;·simp[wQ]at c;omega
 ·rename_i b;have:2<=l.length:=by match l,b,d with|[],_,d=>omega|[x],b,_=>grind|x::y::l,_,_=>simp
  simp only[sz];simp[wQ]at c;omega
theorem Kl(hn:NumOk s num):∀b:Nat,Q2 s (BR num s b)
 |0=>λi r j _ h=>by simp[BR]at h
 |b+1=>λi r j a h=>by rw[BR]at h;exact Km (one:=R6 num s (BR num s b)) (λi r j a h=>Km (one:=BS num s (BR num s b)) (Fz hn (Kl hn b)) (by simp) 3 i r j a h) (by simp) 4 i r j a h
end
mutual
def LU:Rx->Nat
 | .mk _ _ _ ks=>1+OF ks
def OF:List Rx->Nat
 |[]=>0
 |r::a=>max (LU r) (OF a)
end
theorem EO:∀{ks:List Rx} {r:Rx},r∈ks->LU r<=OF ks
 |x::ks,r,h=>by
  simp only[OF];rcases List.mem_cons.1 h with rfl|h;·omega
  ·have:=EO h;omega
theorem Tx(w:Bool)(l t:List UInt8):ub w l++t=bif w then 40::(l++41::t)else l++t:=by cases w<;>simp[ub]
def Yo(c:Nat):Prop:=dg c\/c=46\/c=33\/c=91\/c=40
theorem Ku(n:Nat):decDigits n≠[]/\dg (hd (decDigits n)):=by have h:=MC n;have a:=Bb n;cases e:decDigits n with|nil=>grind|cons b l=>rw[e]at a;exact⟨by simp,a b (by simp)⟩
theorem EV:∀(r:Rx),dR r=true->kf r≠[]/\Yo (hd (kf r)):=by
 refine lz λk lo up ks w v=>?_;obtain⟨hn,j⟩:=well_iff.1 v;have d:∀p:Int,∀x∈ks,pK p x≠[]/\Yo (hd (pK p x)):=λp x s=>by
  obtain⟨a,b⟩:=w x s (j x s);unfold pK ub;cases se p x;·exact⟨a,b⟩
  ·exact⟨by simp,.inr (.inr (.inr (.inr rfl)))⟩
 have n:∀p:Int,∀t:List UInt8,ks≠[]->(ks.map (pK p)).headD []++t≠[]/\Yo (hd ((ks.map (pK p)).headD []++t)):=λp t h=>by cases ks with|nil=>exact absurd rfl h|cons x l=>obtain⟨a,b⟩:=d p x (k_ ..);simp only[Q_,List.headD_cons];rw[K2 a];exact⟨by simp[a],b⟩
 have u:∀p:Int,∀c:UInt8,ks≠[]->jn c (ks.map (pK p))≠[]/\Yo (hd (jn c (ks.map (pK p)))):=λp c h=>by cases ks with|nil=>exact absurd rfl h|cons x l=>obtain⟨a,b⟩:=d p x (k_ ..);cases l with|nil=>exact⟨a,b⟩|cons y l=>simp only[Q_,jn];rw[K2 a];exact⟨by simp[a],b⟩
 have f:(k=5\/k=6\/k=7)->ks≠[]:=λh e=>by have:=hn.one h;rw[e]at this;simp at this
 have g:k=3->ks≠[]:=λh e=>by have:=hn.seq h;rw[e]at this;simp at this
 simp only[kf,gE];split;·exact⟨by simp,.inr (.inr (.inr (.inr rfl)))⟩
 split;·exact⟨by simp,.inr (.inl rfl)⟩
 split
 ·split;·exact⟨(Ku _).1,.inl (Ku _).2⟩
  ·exact⟨by simp,.inr (.inr (.inr (.inl rfl)))⟩
 split;·grind
 split;·exact n 6 _ (f (by omega))
 split;·exact n 7 _ (f (by omega))
 split
 ·split;·exact⟨by simp,.inr (.inr (.inl rfl))⟩
  grind
 ·rcases hn.known with h|h|h|h|h|h|h|h<;>try exact absurd h (by assumption)
  exact u 3 32 (g h)
def comp:Rx->Bool
 | .mk k _ _ ks=>bif k==4 then !ks.isEmpty else(k==3||k==5||k==6||k==7)
def FE:Rx->Bool
 | .mk k _ _ ks=>bif k==4 then !ks.isEmpty else k==3
def FF:Rx->Bool
 | .mk k _ _ ks=>bif k==4 then !ks.isEmpty else false
section
variable {num:Nat->Option (Int×Nat)} {s:List UInt8}
theorem P4(hn:NumOk s num){alt:Nat->Option (Rx×Nat)}{r:Rx}(l:dR r=true) (u:comp r=true->∀i t,s.drop i=kf r++t->(hd t=0\/hd t=41)->alt i=some (r,i+(kf r).length)) {i:Nat} {t:List UInt8} (h:s.drop i=ub (comp r) (kf r)++t) (v:¬dg (hd t)):jt num s alt i=some (r,i+(ub (comp r) (kf r)).length):=by
 cases hc:comp r with
 |true=>
  rw[hc,Tx]at h;have h:s.drop i=40::(kf r++41::t):=h;have a:pk s i=40:=by rw[ng,h];rfl
  have b:=vX h;obtain⟨p,f2⟩:=EV r l;have f:pk s (i+1)≠41:=by rw[ng,b,K2 p];intro e;rw[e]at f2;revert f2;unfold Yo dg;simp
  have c:=u hc (i+1) (41::t) b (.inr rfl);have g:pk s (i+1+(kf r).length)=41:=by rw[ng,jo b];rfl
  unfold jt;rw[if_neg (by omega),if_neg (by omega),if_neg (by omega),if_pos a,if_neg f,c];simp only;rw[if_pos g];simp[ub];omega
 |false=>
  rw[hc]at h;have h:s.drop i=kf r++t:=h;show _=some (r,i+(kf r).length);obtain⟨k,lo,up,ks⟩:=r;obtain⟨nd,w⟩:=well_iff.1 l;rcases nd.known with rfl|rfl|rfl|rfl|rfl|rfl|rfl|rfl
  ·have e:=len_nil (nd.leaf (by simp));subst e;obtain⟨rfl,rfl⟩:=nd.zero (by simp);have h:s.drop i=40::41::t:=h;have a:pk s i=40:=by rw[ng,h];rfl
   have f:pk s (i+1)=41:=by rw[ng,vX h];rfl
   unfold jt;rw[if_neg (by omega),if_neg (by omega),if_neg (by omega),if_pos a,if_pos f];rfl
  ·have e:=len_nil (nd.leaf (by simp));subst e;obtain⟨r1,r2,r3⟩:=nd.rng rfl;by_cases hl:lo=up
   ·subst hl;have d:kf (.mk 1 lo lo [])=decDigits lo.toNat:=by simp[kf]
    rw[d]at h⊢;obtain⟨n,A⟩:=Ku lo.toNat;have a:dg (pk s i):=by rw[ng,h,K2 n];omega
    unfold dg at a;have B:=hn.txt i lo.toNat t h (by omega) v;unfold jt;grind
   ·have d:kf (.mk 1 lo up [])=91::(decDigits lo.toNat++45::(decDigits up.toNat++[93])):=by simp[kf,hl]
    rw[d]at h⊢;have h:s.drop i=91::(decDigits lo.toNat++45::(decDigits up.toNat++93::t)):=by grind
    have a:pk s i=91:=by rw[ng,h];rfl
    have b:=vX h;have x:=hn.txt _ lo.toNat _ b (by omega) (by show ¬dg 45;unfold dg;simp);have c:=jo b;have g:pk s (i+1+(decDigits lo.toNat).length)=45:=by rw[ng,c];rfl
    have j:=vX c;have y:=hn.txt _ up.toNat _ j (by omega) (by show ¬dg 93;unfold dg;simp);have z:pk s (i+1+(decDigits lo.toNat).length+1+(decDigits up.toNat).length)=93:=by rw[ng,jo j];rfl
    unfold jt;rw[if_neg (by omega),if_neg (by omega),if_pos a,x];simp only;rw[if_pos g,y];simp only;rw[if_pos z,Y_ r1,Y_ (by omega)];simp;omega
  ·have e:=len_nil (nd.leaf (by simp));subst e;obtain⟨rfl,rfl⟩:=nd.zero (by simp);have h:s.drop i=46::t:=h;have a:pk s i=46:=by rw[ng,h];rfl
   unfold jt;rw[if_pos a];rfl
  ·exact absurd hc (by simp[comp])
  ·obtain⟨rfl,rfl⟩:=nd.zero (by simp);have e:ks=[]:=by simpa[comp]using hc
   subst e;have h:s.drop i=33::t:=by rw[h];simp[kf]
   have a:pk s i=33:=by rw[ng,h];rfl
   unfold jt;rw[if_neg (by omega),if_pos a];simp[kf]
  ·exact absurd hc (by simp[comp])
  ·exact absurd hc (by simp[comp])
  ·exact absurd hc (by simp[comp])
def f2(c:Nat):Prop:=c=0\/c=41\/c=124\/c=32
def SP(s:List UInt8)(alt:Nat->Option (Rx×Nat))(b:Nat):Prop:=∀r,dR r=true->LU r<=b->∀i t,s.drop i=kf r++t->(hd t=0\/hd t=41)->alt i=some (r,i+(kf r).length)
theorem Qr(hn:NumOk s num){alt:Nat->Option (Rx×Nat)}{b:Nat}(z:SP s alt b){r:Rx}(w:dR r=true)(C:LU r<=b+1)(j:FE r=true->LU r<=b){i:Nat}{t:List UInt8} (h:s.drop i=pK 3 r++t) (A:f2 (hd t)):BS num s alt i=some (r,i+(pK 3 r).length):=by
 obtain⟨k,lo,up,ks⟩:=r;obtain⟨nd,g⟩:=well_iff.1 w;have u:¬dg (hd t):=by unfold f2 at A;unfold dg;omega
 by_cases B:k=5\/k=6\/k=7
 ·obtain⟨x,rfl⟩:=rX (nd.one B);obtain⟨rfl,rfl⟩:=nd.zero (by omega);have y:x∈[x]:=k_ ..;have D:=EO y;have n:LU x<=b:=by simp only[LU]at C;omega
  have d:∀p:Int,(p=5\/p=6\/p=7)->pK p x=ub (comp x) (kf x):=λp hp=>by
   obtain⟨a,_,_,l⟩:=x;unfold pK;have:((p==5||p==6)||p==7)=true:=by grind
   simp only[se,comp,this,Bool.and_true];have H:(p != 4)=true:=by grind
   grind
  have v:∃c:UInt8,pK 3 (.mk k 0 0 [x])=ub (comp x) (kf x)++[c]/\(c.toNat=42/\k=5\/c.toNat=43/\k=6\/c.toNat=63/\k=7):=by
   rcases B with rfl|rfl|rfl;·refine⟨42,?_,by simp⟩;show kf (.mk 5 0 0 [x])=_;simp[kf,gE,d]
   ·refine⟨43,?_,by simp⟩;show kf (.mk 6 0 0 [x])=_;simp[kf,gE,d]
   ·refine⟨63,?_,by simp⟩;show kf (.mk 7 0 0 [x])=_;simp[kf,gE,d]
  obtain⟨c,e,hc⟩:=v;rw[e]at h⊢;have h:s.drop i=ub (comp x) (kf x)++c::t:=by grind
  have f:=P4 hn (g x y) (λ_=>z x (g x y) n) h (by show ¬dg c.toNat;unfold dg;omega);have E:pk s (i+(ub (comp x) (kf x)).length)=c.toNat:=by rw[ng,jo h];rfl
  unfold BS;grind
 ·have e:pK 3 (.mk k lo up ks)=ub (comp (.mk k lo up ks)) (kf (.mk k lo up ks)):=by unfold pK;simp only[se,comp];grind
  have F:comp (.mk k lo up ks)=FE (.mk k lo up ks):=by simp only[comp,FE];grind
  rw[e]at h⊢;have f:=P4 hn w (λhc=>z _ w (j (by grind))) h u;have E:pk s (i+(ub (comp (.mk k lo up ks)) (kf (.mk k lo up ks))).length)=hd t:=by rw[ng,jo h]
  unfold BS;rw[f];unfold f2 at A;grind
theorem K9{one:Nat->Option (Rx×Nat)}{f:Rx->List UInt8}{sep:UInt8}{E:Nat->Prop}:∀(ks:List Rx),ks≠[]->
 (∀x∈ks,∀i t,s.drop i=f x++t->(E (hd t)\/hd t=sep.toNat)->one i=some (x,i+(f x).length))->
 (∀x∈ks,f x≠[])->∀(b:Nat) (a:List Rx) (i:Nat) (t:List UInt8),s.drop i=jn sep (ks.map f)++t->E (hd t)->hd t≠sep.toNat->s.length+1<=b+i->i<=s.length->
 lP s sep.toNat one b a i=some (a++ks,i+(jn sep (ks.map f)).length)
 |[],h,_,_,_,_,_,_,_,_,_,_,_=>absurd rfl h
 |[x],_,d,c,b,a,i,t,h,j,hs,n,r=>by
  have h:s.drop i=f x++t:=h;have e:=d x (by simp) i t h (.inl j);obtain⟨m,rfl⟩:∃m,b=m+1:=⟨b - 1,by omega⟩;have l:pk s (i+(f x).length)=hd t:=by rw[ng,jo h]
  rw[lP,e];simp only;rw[if_neg (by omega)];rfl
 |x::y::ks,_,d,c,b,a,i,t,h,j,hs,n,r=>by
  have h:s.drop i=f x++sep::(jn sep ((y::ks).map f)++t):=by rw[h];simp[jn]
  have e:=d x (by simp) i _ h (.inr rfl);obtain⟨m,rfl⟩:∃m,b=m+1:=⟨b - 1,by omega⟩;have g:=jo h;have l:pk s (i+(f x).length)=sep.toNat:=by rw[ng,g];rfl
  have u:i+(f x).length<s.length:=by apply f_;intro p;rw[T_ (by omega)]at g;grind
  have:=K9 (y::ks) (by simp) (λz k=>d z (i_ _ k)) (λz k=>c z (i_ _ k)) m (a++[x]) (i+(f x).length+1) t (vX g) j hs (by omega) (by omega);rw[lP,e];simp only;rw[if_pos l,this];simp[jn];omega
theorem BE{k:Int}{l:List Rx}(h:l.length≠1):Rw k l= .mk k 0 0 l:=by
 unfold Rw;split;·simp at h
 ·rfl
theorem seq_ok(hn:NumOk s num){alt:Nat->Option (Rx×Nat)}{b:Nat}(n:SP s alt b){r:Rx}(u:dR r=true)(p:LU r<=b+1)(w:FF r=true->LU r<=b){i:Nat}{t:List UInt8} (h:s.drop i=pK 4 r++t) (y:hd t=0\/hd t=41\/hd t=124) (z:i<=s.length):R6 num s alt i=some (r,i+(pK 4 r).length):=by
 obtain⟨k,lo,up,ks⟩:=r;obtain⟨nd,d⟩:=well_iff.1 u;unfold R6 Il;by_cases A:k=3
 ·subst A;obtain⟨rfl,rfl⟩:=nd.zero (by simp);have D:2<=(ks.length:Int):=nd.seq rfl;have e:pK 4 (.mk 3 0 0 ks)=jn 32 (ks.map (pK 3)):=by show kf (.mk 3 0 0 ks)=_;simp[kf,gE]
  rw[e]at h⊢;have j:∀x∈ks,LU x<=b:=λx a=>by have:=EO a;simp only[LU]at p;omega
  have l:ks≠[]:=by grind
  have:=K9 (one:=BS num s alt) (f:=pK 3) (sep:=32) (E:=λc=>c=0\/c=41\/c=124) ks l (λx a i t g hc=>Qr hn n (d x a) (by grind) (λ_=>j x a) g (by
   unfold f2;grind)) (λx a=>by
   unfold pK ub;cases se 3 x;·exact(EV x (d x a)).1
   simp) (s.length+1 - i) [] i t h y (by
   grind) (by omega) z
  have this:lP s 32 (BS num s alt) (s.length+1 - i) [] i=_:=this;rw[this];simp only[C_];rw[BE (by omega)]
 ·have e:pK 4 (.mk k lo up ks)=pK 3 (.mk k lo up ks):=by unfold pK;simp only[se];grind
  have C:FE (.mk k lo up ks)=FF (.mk k lo up ks):=by simp only[FE,FF];grind
  rw[e]at h⊢;have v:=Qr hn n u p (by grind) h (by unfold f2;omega);have F:pk s (i+(pK 3 (.mk k lo up ks)).length)=hd t:=by rw[ng,jo h]
  obtain⟨m,B⟩:∃m,s.length+1 - i=m+1:=⟨s.length - i,by omega⟩;rw[B,lP,v];simp only;rw[if_neg (by omega)];simp[Rw]
theorem Kv{a t:List UInt8}{i:Nat}(h:s.drop i=a++t)(c:a≠[]):i<s.length:=by apply f_;intro b;rw[T_ (by omega)]at h;have:=List.append_eq_nil_iff.1 h.symm;grind
theorem TQ(p:Int){x:Rx}(a:dR x=true):pK p x≠[]:=by
 unfold pK ub;cases se p x;·exact(EV x a).1
 ·simp
theorem Tc(hn:NumOk s num):∀b:Nat,SP s (BR num s b) b
 |0=>λr _ l=>by cases r;simp[LU]at l
 |b+1=>λr p l i t h z=>by
  have w:=Kv h (EV r p).1;have v:=Tc hn b;rw[BR];unfold Il;cases hc:FF r with
  |true=>
   obtain⟨k,lo,up,ks⟩:=r;obtain⟨nd,a⟩:=well_iff.1 p;have A:k=4:=by simp only[FF]at hc;grind
   subst A;obtain⟨rfl,rfl⟩:=nd.zero (by simp);have j:ks≠[]:=by simpa[FF]using hc
   have u:(ks.length:Int)≠1:=nd.alt rfl;have e:kf (.mk 4 0 0 ks)=jn 124 (ks.map (pK 4)):=by simp[kf,gE,j]
   rw[e]at h⊢;have n:∀x∈ks,LU x<=b:=λx d=>by have:=EO d;simp only[LU]at l;omega
   have:=K9 (one:=R6 num s (BR num s b)) (f:=pK 4) (sep:=124) (E:=λc=>c=0\/c=41) ks j (λx d i t g hc=>seq_ok hn v (a x d) (by grind) (λ_=>n x d) g (by
    grind) (V_ (Kv g (TQ 4 (a x d))))) (λx d=>TQ 4 (a x d)) (s.length+1 - i) [] i t h z (by
    grind) (by omega) (V_ w)
   have this:lP s 124 (R6 num s (BR num s b)) (s.length+1 - i) [] i=_:=this;rw[this];simp only[C_];rw[BE (by omega)]
  |false=>
   have e:kf r=pK 4 r:=by
    obtain⟨k,lo,up,ks⟩:=r;unfold pK;simp only[se];simp only[FF]at hc;cases y:(k==4)
    ·cases C:(k==3);·simp[ub]
     ·simp[ub]
    ·rw[y]at hc;simp only[cond_true]at hc;simp only[cond_true,hc];rfl
   rw[e]at h⊢;have u:=seq_ok hn v p l (λh=>by grind) h (by omega) (V_ w);have D:pk s (i+(pK 4 r).length)=hd t:=by rw[ng,jo h]
   obtain⟨m,B⟩:∃m,s.length+1 - i=m+1:=⟨s.length - i,by omega⟩;rw[B,lP,u];simp only;rw[if_neg (by omega)];simp[Rw]
end
theorem V8:∀(r:Rx) (lv c:Int),(CR r lv c).2=0->lv+(LU r:Int)<=17:=by
 refine lz λk lo up ks f lv c h=>?_;rw[CR]at h;split at h;·omega
 split at h;·omega
 split at h;·omega
 have a:∀(l:List Rx),(∀r∈l,r∈ks)->∀(c:Int),(ku l (lv+1) c).2=0->lv+1+(OF l:Int)<=17:=by
  intro l;induction l with
  |nil=>intro _ c _;simp only[OF];omega|cons r l g=>
   intro b c h;rw[ku]at h;split at h;·omega
   ·rename_i d;have j:=f r (b r (k_ ..)) (lv+1) c (am_.1 d);have n:=g (λx e=>b x (i_ _ e)) _ h;simp only[OF];omega
 have:=a ks (λ_ h=>h) _ h;simp only[LU];omega
theorem R8{num:Nat->Option (Int×Nat)}{r:Rx}(hn:NumOk (kf r) num)(c:dR r=true){b:Nat}(a:LU r<=b):BR num (kf r) b 0=some (r,(kf r).length):=by have:=Tc hn b r c a 0 [] (by simp) (.inl rfl);grind
end Go.Pl
namespace Go.Proofs.YthjnceggmnicmaaGreatDoor
open Go Go.Av Go.Ev Go.Pl
theorem J4(k n:Int):aJ tbl pR [.d tI k,.d tI n] [] eV (wy k,mH k n,()):=by
 refine aC rfl (aF LC rfl (λO m=>LO O m k n) ?_);unfold AI;by_cases j:k=0;·subst j;exact mZ (λ_=>rfl) rfl
 by_cases l:k=1;·subst l;exact mZ (λ_=>rfl) rfl
 by_cases p:k=2;·subst p;exact mZ (λ_=>rfl) rfl
 by_cases r:k=3;·subst r;exact mZ (λ_=>rfl) rfl
 by_cases s:k=4;·subst s;exact mZ (λ_=>rfl) rfl
 by_cases u:k=5;·subst u;exact mZ (λ_=>rfl) rfl
 by_cases v:k=6;·subst v;exact mZ (λ_=>rfl) rfl
 by_cases w:k=7;·subst w;exact mZ (λ_=>rfl) rfl
 have a:(k==(0:Int))=false:=by grind
 have b:(k==(1:Int))=false:=by grind
 have c:(k==(2:Int))=false:=by grind
 have d:(k==(3:Int))=false:=by grind
 have e:(k==(4:Int))=false:=by grind
 have f:(k==(5:Int))=false:=by grind
 have g:(k==(6:Int))=false:=by grind
 have h:(k==(7:Int))=false:=by grind
 simp only[a,b,c,d,e,f,g,h];refine mZ (λ_=>rfl) ?_;simp only[wy,mH,a,b,c,d,e,f,g,h];rfl
theorem AA(r:Rx):aJ tbl mh [.d .rx r] [] eW (nf r.out.1 r.out.2.1 r.out.2.2.1 (r.out.2.2.2.1.length:Int),()):=by
 refine aC rfl (aF LD rfl (λO m=>LP O m r) ?_);unfold AJ;generalize r.out.1=k;generalize r.out.2.1=lo;generalize r.out.2.2.1=b;generalize(r.out.2.2.2.1.length:Int)=n;refine an (J4 k n) ?_;unfold nf;cases wy k;·exact mZ (λ_=>rfl) rfl
 cases c:(k==(1:Int))
 ·have a:(k != (1:Int))=true:=by grind
  rw[a];cases(lo != (0:Int))<;>cases(b != (0:Int))<;>cases mH k n<;>exact mZ (λ_=>rfl) rfl
 ·have a:(k != (1:Int))=false:=by grind
  rw[a];cases decide (lo<(0:Int))<;>cases decide (lo>b)<;>cases decide (b>(4294967295:Int))<;>cases mH k n<;>exact mZ (λ_=>rfl) rfl
theorem Ll{k lo up:Int}{ks:List Rx}{M:Nat}(h:sz (.mk k lo up ks)<=M):ks.length<M/\∀r∈ks,sz r<M:=by simp only[sz]at h;have a:=EZ ks;exact⟨by omega,λr hr=>by have:=xE hr;omega⟩
theorem J6:∀(r:Rx),sz r<=1000000->aJ tbl mi [.d .rx r] [] f7 (dR r,()):=by
 refine lz λk lo up ks n hs=>?_;obtain⟨c,b⟩:=Ll hs;refine aC rfl (aF LF rfl (λO m=>LR O m (.mk k lo up ks)) ?_);unfold AL;refine an (AA _) ?_;show Wp _ _;have l:dR (.mk k lo up ks)=(nf k lo up ks.length==0&&w8 ks):=rfl;refine aE (λh=>aa ?_) λh=>?_
 ·have:(nf k lo up ks.length==0)=false:=by have h:(nf k lo up ks.length != 0)=true:=h;grind
  grind
 ·have d:(nf k lo up ks.length==0)=true:=by have h:(nf k lo up ks.length != 0)=false:=h;grind
  rw[l,d,t_];refine ae (E0 (xs:=ks) (P:=λr=>dR r=true) (e:=(false,())) (g:=()) (λi a=>?_) ?_ (λhg=>?_) (λf=>?_));·unfold qw;refine bD a (aN a ?_);rw[mV];have hr:=a_ a;refine an (n ks[i] hr (by grind)) (uE ?_ (by rw[ar a (by omega)]));simp
  ·unfold qw;exact ba (aa rfl)
  ·refine aa ?_;rw[(uD ks).2 hg]
  ·refine aa ?_;have:w8 ks=false:=by
    cases j:w8 ks;·rfl
    ·exact absurd ((uD ks).1 j) f
   grind
theorem Jb{ks:List Rx}{lv c:Int}:∀{i:Nat},(h:i<ks.length)->(ku (ks.take i) lv c).2=0->ku (ks.take (i+1)) lv c=(let p:=CR ks[i] lv (ku (ks.take i) lv c).1;(p.1,p.2)):=by intro i;induction ks generalizing c i with|nil=>simp|cons r ks b=>intro h a;cases i with|zero=>simp only[List.take_zero,M_,ku,List.getElem_cons_zero];grind|succ i=>simp only[M_,ku,List.getElem_cons_succ]at a⊢;grind
theorem Mu{lv:Int}:∀{ks:List Rx} {c:Int} {i:Nat},(ku (ks.take i) lv c).2≠0->ku ks lv c=ku (ks.take i) lv c:=by intro ks;induction ks with|nil=>simp|cons r ks a=>intro c i h;cases i with|zero=>simp[ku]at h|succ i=>simp only[M_,ku]at h⊢;grind
theorem Ja:∀(r:Rx) (lv c:Int),0<=c->c<=64->c<=(CR r lv c).1/\(CR r lv c).1<=64:=by
 refine lz λk lo up ks d lv c b a=>?_;have hs:∀(l:List Rx) (lv c:Int),(∀r∈l,r∈ks)->0<=c->c<=64->c<=(ku l lv c).1/\(ku l lv c).1<=64:=by intro l;induction l with|nil=>intro lv c _ b a;exact⟨al_ _,a⟩|cons r l e=>intro lv c hl b a;have hr:=d r (hl r (k_ ..)) lv c b a;simp only[ku];grind
 simp only[CR];grind
theorem Ho:∀(r:Rx),sz r<=1048576->∀(lv c:Int),0<=lv->lv<=17->0<=c->c<=64->∃s:Int,((CR r lv c).2=0->s=(CR r lv c).1)/\aJ tbl dS [.d .rx r,.d tI lv,.ptr 0 0] [.box cM [.d tI c]] bA ((CR r lv c).2,s,()):=by
 refine lz λk lo up ks E hs lv c B C z A=>?_;obtain⟨u,p⟩:=Ll hs;suffices h:∃x:Int×Int×Unit,(x.1=(CR (.mk k lo up ks) lv c).2/\((CR (.mk k lo up ks) lv c).2=0->x.2.1=(CR (.mk k lo up ks) lv c).1))/\aJ tbl dS [.d .rx (.mk k lo up ks),.d tI lv,.ptr 0 0] [.box cM [.d tI c]] bA x by grind
 refine vR (sh:=bA) (λ_=>rfl) (aF Cp rfl (λO m=>CG O m (.mk k lo up ks) lv c) ?_);unfold rD;refine aE (λh=>aa ⟨_,rfl,?_⟩) λh=>?_
 ·have h:lv>16:=by grind
  simp only[CR,if_pos h];simp
 have f:¬lv>16:=by grind
 refine aE (λh=>aa ⟨_,rfl,?_⟩) λh=>?_
 ·have h:c>=64:=by grind
  simp only[CR,if_neg f,if_pos h];simp
 have n:¬c>=64:=by grind
 refine an (AA _) ?_;show Wp _ _;refine aE (λh=>aa ⟨_,rfl,?_⟩) λh=>?_
 ·have h:nf k lo up ks.length≠0:=by have h:(nf k lo up ks.length != 0)=true:=h;grind
  simp only[CR,if_neg f,if_neg n,if_pos h];exact⟨rfl,λh'=>absurd h' h⟩
 have y:¬nf k lo up ks.length≠0:=by have h:(nf k lo up ks.length != 0)=false:=h;grind
 have v:CR (.mk k lo up ks) lv c=ku ks (lv+1) (c+1):=by simp only[CR,if_neg f,if_neg n,if_neg y]
 rw[v,wrap_i64 (by omega) (by omega)];have a:∀i,(ku (ks.take i) (lv+1) (c+1)).2=0->0<=(ku (ks.take i) (lv+1) (c+1)).1/\(ku (ks.take i) (lv+1) (c+1)).1<=64:=by
  intro i;induction i with
  |zero=>intro _;simp[ku];omega|succ i l=>
   intro w;by_cases b:i<ks.length
   ·have d:(ku (ks.take i) (lv+1) (c+1)).2=0:=f_ λhn=>by have:=Mu (ks:=ks.take (i+1)) (lv:=lv+1) (c:=c+1) (i:=i) (by grind);grind
    rw[Jb b d];have hr:=l d;have:=Ja ks[i] (lv+1) _ hr.1 hr.2;grind
   ·rw[show ks.take (i+1)=ks.take i by rw[l_ (by omega),l_ (by omega)]]at w⊢;omega
 refine ae (a8 (N:=ks.length) (I:=λi s=>s=((i:Int),(ku (ks.take i) (lv+1) (c+1)).1,())/\(ku (ks.take i) (lv+1) (c+1)).2=0) (by simp[ku]) (λi s b hs=>?_) λs hs=>?_)
 ·obtain⟨rfl,d⟩:=hs;unfold ka;refine bD b (aN b ?_);rw[mV,wrap_i64 (by omega) (by omega)];have hr:=a_ b;have e:=a i d;obtain⟨s,g,j⟩:=E ks[i] hr (by grind) (lv+1) _ (by omega) (by omega) e.1 e.2;refine an j ?_;have D:=Jb b d;refine aE (λh=>aa ?_) λh=>aa ?_
  ·have hn:(CR ks[i] (lv+1) (ku (ks.take i) (lv+1) (c+1)).1).2≠0:=by grind
   have F:=Mu (ks:=ks) (lv:=lv+1) (c:=c+1) (i:=i+1) (by grind);refine aa ⟨_,rfl,?_⟩;grind
  ·have hn:(CR ks[i] (lv+1) (ku (ks.take i) (lv+1) (c+1)).1).2=0:=by grind
   refine⟨?_,by grind⟩;rw[ar b (by omega),D,g hn]
 ·obtain⟨rfl,d⟩:=hs;unfold ka;refine ba (aa (aa ⟨_,rfl,?_⟩));grind
def pi(r:Rx):Int:=(CR r 1 0).2
theorem Hl(r:Rx)(hs:sz r<=1048576):aJ tbl nL [.d .rx r] [] kJ (pi r,()):=by refine aC rfl (aF IE rfl (λO m=>IW O m r) ?_);unfold yB;obtain⟨s,_,h⟩:=Ho r hs 1 0 (by simp) (by simp) (by simp) (by simp);exact an h (aa rfl)
theorem To:∀(r:Rx) (lv c:Int),(CR r lv c).2=0->dR r=true/\(CR r lv c).1=c+(sz r:Int):=by
 refine lz λk lo up ks p lv c h=>?_;have hs:∀(l:List Rx) (lv c:Int),(∀r∈l,r∈ks)->(ku l lv c).2=0->(∀r∈l,dR r=true)/\(ku l lv c).1=c+(wQ l:Int):=by
  intro l;induction l with
  |nil=>intro lv c _ _;exact⟨by simp,by simp[ku,wQ]⟩|cons r l f=>
   intro lv c hl h;simp only[ku]at h⊢;split at h;·omega
   ·rename_i d;rw[if_neg d];have d:(CR r lv c).2=0:=by omega
    obtain⟨g,e⟩:=p r (hl r (k_ ..)) lv c d;obtain⟨s,n⟩:=f lv _ (λx j=>hl x (i_ _ j)) h;refine⟨λx j=>?_,by rw[n,e];simp only[wQ];omega⟩;grind
 simp only[CR]at h⊢;split at h;·omega
 split at h;·omega
 split at h;·omega
 ·rename_i a b d;rw[if_neg a,if_neg b,if_neg d];obtain⟨g,e⟩:=hs ks (lv+1) (c+1) (λ_ h=>h) h;have d:nf k lo up ks.length=0:=by omega
  exact⟨well_iff.2 ⟨nodeE_zero.1 d,g⟩,by rw[e];simp only[sz];omega⟩
theorem I9{r:Rx}(h:pi r=0):dR r=true/\sz r<=64:=by obtain⟨a,b⟩:=To r 1 0 h;have:=Ja r 1 0 (by simp) (by simp);grind
open Go Go.Av Go.Ev Go.Pl Go.Lib
theorem Xa{n:Int}(c:0<=n)(d:n<=4294967295):aJ tbl jm [.d tI n] [] qP (decDigits n.toNat,()):=by
 refine Rj GY ?_ rfl;have a:Wl n=true:=by simp only[Wl,J_,decide_eq_true_eq];omega
 have b:Lib.itoa n=decDigits n.toNat:=by unfold Lib.itoa;grind
 simp only[xA,a,cond_true,b];rfl
theorem CK{n:Int}(a:0<=n)(b:n<=4294967295):aJ tbl fz [.d tI n] [] ea (decDigits n.toNat,()):=by refine aC rfl (aF Ew rfl (λO k=>EF O k n) ?_);unfold uQ;exact an (Xa a b) (aa rfl)
theorem Vt(ks:List Rx)(i:Nat):wQ (ks.take i)<=wQ ks:=by have:=Lv (ks.take i) (ks.drop i);rw[I_]at this;omega
theorem TP(p:Int){x:Rx}(a:dR x=true):(pK p x).length+1<=26*sz x:=by have:=Qp p x;have:=Lf x a;omega
theorem W9(p:Int):∀l:List Rx,(∀x∈l,dR x=true)->((l.map (pK p)).map λx=>x.length+1).sum<=26*wQ l
 |[],_=>by simp
 |r::l,h=>by have b:=TP p (h r (k_ ..));have c:=W9 p l λx a=>h x (i_ _ a);simp only[Q_,List.sum_cons,wQ]at*;omega
theorem Y7(c:UInt8)(p:Int)(l:List Rx)(h:∀x∈l,dR x=true):(jn c (l.map (pK p))).length<=26*wQ l:=H_ (OS c _) (W9 p l h)
theorem IK{α β:Type}(f:α->β){l:List α}{i:Nat}(h:i<l.length):(l.take (i+1)).map f=(l.take i).map f++[f l[i]]:=by rw[m_,b_ h,x_];rfl
theorem uN(k:Int):aJ tbl iu [.d tI k] [] fE (k==5||k==6||k==7,()):=by refine aC rfl (aF EB rfl (λO m=>EK O m k) ?_);unfold uV;cases(k==(5:Int))<;>cases(k==(6:Int))<;>exact mZ (λ_=>rfl) rfl
theorem MW(ks:List Rx):decide ((ks.length:Int)>0)= !ks.isEmpty:=by cases ks with|nil=>rfl|cons x l=>simp
theorem VB(p k lo up:Int)(ks:List Rx):se p (.mk k lo up ks)=bif k==4 then !ks.isEmpty else bif k==3 then p != 4 else(k==5||k==6||k==7)&&(p==5||p==6||p==7):=rfl
theorem D9(p:Int)(x:Rx):aJ tbl kU [.d tI p,.d .rx x] [] ee (se p x,()):=by
 obtain⟨k,lo,up,ks⟩:=x;refine aC rfl (aF EC rfl (λO m=>EL O m p (.mk k lo up ks)) ?_);unfold uW;rw[VB];refine aE (λh=>aa ?_) λh=>?_;·have h:(k==4)=true:=h;rw[h,cond_true,<-MW];rfl
 have h:(k==4)=false:=h;rw[h,cond_false];refine aE (λh=>aa ?_) λh=>?_;·have h:(k==3)=true:=h;grind
 have h:(k==3)=false:=h;rw[h,cond_false];refine an (uN k) (ae (cy (b:=(p==5||p==6||p==7)) (λ_=>an (uN p) (aa rfl)) (aa rfl)))
theorem MX(p:Int)(x:Rx)(hl:(kf x).length<=1000000)(h:aJ tbl fN [.d .rx x] [] dI (kf x,())):aJ tbl eY [.d tI p,.d .rx x] [] cN (pK p x,()):=by
 refine aC rfl (aF IJ rfl (λO m=>I1 O m p x) ?_);unfold yQ;refine an h (an (D9 p x) (aE (λa=>aA (decide_eq_true ?_) (aA (decide_eq_true ?_) (aa ?_))) λa=>aa ?_));·grind
 ·grind
 ·have a:se p x=true:=a;unfold pK;rw[a];rfl
 ·have a:se p x=false:=a;unfold pK;rw[a];rfl
theorem JQ(k lo up:Int)(ks:List Rx)(c:UInt8)(f:∀x∈ks,dR x=true)(w:wQ ks<=1000)(h:∀x∈ks,aJ tbl fN [.d .rx x] [] dI (kf x,())): Wp (λn=>aS n (l9 (q9 tbl n) n (.mk k lo up ks) ([c],())) (([]:List UInt8),(0:Int),())) λt=>t=(jn c (ks.map (pK k)),()):=by
 have g:=EZ ks;refine a8 (N:=ks.length) (I:=λi s=>s=(jn c ((ks.take i).map (pK k)),(i:Int),())) rfl ?_ ?_
 ·rintro i s b rfl;have d:=a_ b;have u:=Y7 c k (ks.take i) λx r=>f x (L_ r);have p:=Vt ks i;have j:=TP k (f _ d);have l:=xE d;have hp:=Lf _ (f _ d);unfold l9;refine bD b (aN b ?_);have hc:=MX k ks[i] (by omega) (h _ d);rw[IK _ b,Qs];refine ae (Ev.wp_mono (Q:=λv=>v=((if(ks.take i).map (pK k)=[]then []else jn c ((ks.take i).map (pK k))++[c]),ks[i].out.1,ks[i].out.2.1,ks[i].out.2.2.1,ks[i].out.2.2.2.1,())) (aE (λa=>aA (decide_eq_true ?_) (aa ?_)) λa=>aa ?_) ?_);·grind
  ·have a:(i:Int)>0:=of_decide_eq_true a;rw[if_neg (by intro e;have:=congrArg List.length e;grind)];rfl
  ·have a:¬(i:Int)>0:=of_decide_eq_false a;have:i=0:=by omega
   subst this;rfl
  rintro v rfl;rw[mV];refine an hc (aA (decide_eq_true ?_) (aa ?_));·grind
  ·show(_,d_ .i64 ((i:Int)+1),())=_;rw[ar b (by omega)];grind
 ·rintro s rfl;unfold l9;rw[j_];exact ba (aa rfl)
theorem J5:∀(r:Rx),dR r=true->sz r<=1000->aJ tbl fN [.d .rx r] [] dI (kf r,()):=by
 refine lz λk lo up ks l j hs=>?_;obtain⟨nd,a⟩:=well_iff.1 j;have hsz:wQ ks<=1000:=by simp only[sz]at hs;omega
 have c:∀x∈ks,aJ tbl fN [.d .rx x] [] dI (kf x,()):=λx b=>l x b (a x b) (by have:=xE b;omega);refine aC rfl (aF zah rfl (λO m=>LQ O m (.mk k lo up ks)) ?_);unfold AK;have one:∀x,ks=[x]->∀p:Int,aJ tbl eY [.d tI p,.d .rx x] [] cN (pK p x,())/\(pK p x).length<=26000:=λx e p=>by
  have b:x∈ks:=by grind
  have s:=Lf x (a x b);have u:=xE b;have v:=TP p (a x b);exact⟨MX p x (by omega) (c x b),by omega⟩
 rcases nd.known with rfl|rfl|rfl|rfl|rfl|rfl|rfl|rfl;·refine ae (bb rfl (aa (aa ?_)));simp[kf]
 ·obtain⟨r1,r2,r3⟩:=nd.rng rfl;refine ae (aw rfl (aw rfl (bb rfl (aE (λh=>?_) λh=>?_))))
  ·have h:(lo==up)=true:=h;have h:lo=up:=by grind
   subst h;refine an (CK (n:=lo) r1 r3) (aa (aa ?_));simp[kf]
  ·have h:(lo==up)=false:=h;have h:lo≠up:=by grind
   have l1:=tK (n:=lo.toNat) (by omega);have l2:=tK (n:=up.toNat) (by omega);refine an (CK (n:=lo) r1 (by omega)) (aA (decide_eq_true ?_) (aA (decide_eq_true ?_) (an (CK (n:=up) (by omega) r3) (aA (decide_eq_true ?_) (aA (decide_eq_true ?_) (aa (aa ?_)))))));·grind
   ·grind
   ·grind
   ·grind
   ·simp[kf,h]
 ·refine ae (aw rfl (bb rfl (aa (aa ?_))));simp[kf]
 ·obtain⟨rfl,rfl⟩:=nd.zero (by simp);refine ae (aw rfl (aw rfl (aw rfl (aw rfl (aw rfl (aw rfl (aw rfl (aa ?_))))))));refine ae (Ev.wp_mono (JQ 3 0 0 ks 32 a hsz c) ?_);rintro t rfl;refine aa ?_;simp[kf,gE]
 ·obtain⟨rfl,rfl⟩:=nd.zero (by simp);refine ae (aw rfl (aw rfl (aw rfl (aw rfl (aw rfl (aw rfl (bb rfl (aE (λh=>aa (aa ?_)) λh=>aa ?_))))))));·have h:((ks.length:Int)==0)=true:=h;have h:=len_nil (by simpa using h);subst h;simp[kf]
  ·have h:((ks.length:Int)==0)=false:=h;have f:ks≠[]:=by grind
   refine ae (Ev.wp_mono (JQ 4 0 0 ks 124 a hsz c) ?_);rintro t rfl;refine aa ?_;simp[kf,gE,f]
 ·obtain⟨rfl,rfl⟩:=nd.zero (by simp);obtain⟨x,rfl⟩:=rX (nd.one (by simp));obtain⟨d,g⟩:=one x rfl 5;refine ae (aw rfl (aw rfl (aw rfl (bb rfl (pq (by simp) rfl (an d (aA (decide_eq_true ?_) (aa (aa ?_)))))))));·grind
  ·simp[kf,gE]
 ·obtain⟨rfl,rfl⟩:=nd.zero (by simp);obtain⟨x,rfl⟩:=rX (nd.one (by simp));obtain⟨d,g⟩:=one x rfl 6;refine ae (aw rfl (aw rfl (aw rfl (aw rfl (bb rfl (pq (by simp) rfl (an d (aA (decide_eq_true ?_) (aa (aa ?_))))))))));·grind
  ·simp[kf,gE]
 ·obtain⟨rfl,rfl⟩:=nd.zero (by simp);obtain⟨x,rfl⟩:=rX (nd.one (by simp));obtain⟨d,g⟩:=one x rfl 7;refine ae (aw rfl (aw rfl (aw rfl (aw rfl (aw rfl (bb rfl (pq (by simp) rfl (an d (aA (decide_eq_true ?_) (aa (aa ?_)))))))))));·grind
  ·simp[kf,gE]
theorem Hn(r:Rx)(hs:sz r<=1048576):aJ tbl iB [.d .rx r] [] gf (if pi r=0 then kf r else [],pi r,()):=by
 refine aC rfl (aF IH rfl (λO m=>IZ O m r) ?_);unfold yJ;refine an (Hl r hs) (aE (λh=>aa ?_) λh=>?_);·grind
 ·have h:pi r=0:=by grind
  obtain⟨a,b⟩:=I9 h;refine an (J5 r a (by omega)) (aa ?_);grind
end Go.Proofs.YthjnceggmnicmaaGreatDoor
namespace Go.Ev
open Go Go.RowKit Go.Av
section
variable {tbl:Nat->Option Fun'}
def dc(tbl:Nat->Option Fun')(f:Nat)(ars:List V)(os:List Ob)(sh:Sh)(o:Option (HL sh.sl)):Prop:=∃a,∀n,a<=n->iS (q9 tbl n) f ars os sh=some o
theorem I7{f:Nat}{ars:List V}{os:List Ob}{sh:Sh}{R:Option (HL sh.sl)->Prop}(hp:∀c,wC sh (jr sh c)=some c)(h:Conv tbl f ars os λo=>∃c:Option (HL sh.sl),o=c.map (jr sh)/\R c):∃o,R o/\dc tbl f ars os sh o:=by obtain⟨o,⟨c,rfl,hr⟩,b,hn⟩:=h;refine⟨c,hr,b,λn a=>?_⟩;have e:=hn n a;unfold iS;have e:q9 tbl n f ars os=_:=e;cases c with|none=>grind|some c=>rw[e];have:=hp c;unfold wC at this;grind
theorem qf{f:Nat}{ars:List V}{os:List Ob}{sh:Sh}{o:Option (HL sh.sl)}(hp:∀c,wC sh (jr sh c)=some c)(h:Conv tbl f ars os (·=o.map (jr sh))):dc tbl f ars os sh o:=by obtain⟨o',rfl,b⟩:=I7 (R:=λc=>c=o) hp (Ro h λx a=>⟨o,a,rfl⟩);omega
theorem gH{f:Nat}{ars:List V}{os:List Ob}{sh:Sh}{β:Type}{k:Nat->Option (HL sh.sl)->Option β}{Q:β->Prop}{o:Option (HL sh.sl)}(h:dc tbl f ars os sh o)(a:Wp (λn=>k n o) Q):Wp (λn=>e_ (iS (q9 tbl n) f ars os sh) (k n)) Q:=by obtain⟨b,hn⟩:=h;exact ae ⟨o,a,b,hn⟩
end
end Go.Ev
namespace Go.Proofs.YthjnceggmnicmaaGreatDoor
open Go Go.Av Go.Ev Go.Pl Go.Lib
theorem LY(s:List UInt8)(hs:s.length<=1048576):∃c:Bool×Unit,((∀n,s=decDigits n->c=(true,()))/\(c.1=true->s≠[]))/\aJ tbl iO [.d tS s] [] cq c:=by
 refine vR (sh:=cq) (λ_=>rfl) (aF Cj rfl (λO k=>Cy O k s) ?_);unfold ry;refine ae (cY (b:=decide ((s.length:Int)>(1:Int))&&(((s.getD 0 0).toNat:Int)==(48:Int))) (λg=>ae (cy (b:=(((s.getD 0 0).toNat:Int)==(48:Int))) (λj=>?_) (aa rfl))) ?_)
 ·have hl:1<s.length:=by grind
  refine pq (x:=s.getD 0 0) (al_ _) ?_ (aa rfl);grind
 ·refine aE (λh=>aa ⟨(false,()),rfl,λn hn=>?_,λh=>by grind⟩) (λh=>?_);·exfalso;have hp:=MC n;have p:=Rp n;grind
  ·have d:s≠[]:=by grind
   refine ae (Wp.imp (Q:=λr=>match r with| .inl v=>v.1=false/\∀n,s≠decDigits n| .inr _=>True) (a8 (N:=s.length) (I:=λi st=>st=((i:Int),())) rfl (λi st e a=>?_) λst a=>?_) λr hr=>?_)
   ·subst a;unfold j6;have f:=b_ e;refine aE (λ_=>?_) (λh=>absurd h (by grind));refine pq (N_ _) f ?_;refine ae (cY (b:=decide ((s[i].toNat:Int)>(57:Int))) (λ_=>pq (N_ _) f (aa rfl)) ?_);refine aE (λl=>aa ⟨rfl,λn hn=>?_⟩) (λ_=>aa ?_);·have:=Bb n s[i] (by grind);unfold Gf at this;grind
    ·simp only;rw[ar e (by omega)]
   ·subst a;unfold j6;exact aE (λh=>absurd h (by simp)) λ_=>aa trivial
   ·cases r with|inl v=>exact aa ⟨_,rfl,λn hn=>absurd hn (hr.2 n),λ_=>d⟩|inr v=>exact aa ⟨_,rfl,λ_ _=>rfl,λ_=>d⟩
theorem SQ(s:List UInt8)(hs:s.length<=1048576):∃c:Int×Int×Unit,((∀m:Nat,m<=4294967295->s=decDigits m->c=((m:Int),(0:Int),()))/\(c.2.1=0->s≠[]))/\aJ tbl jk [.d tS s,.d tI (4294967295:Int)] [] cu c:=by
 obtain⟨L,⟨H,z⟩,b⟩:=LY s hs;refine vR (sh:=cu) (λ_=>rfl) (aF GQ rfl (λO k=>G6 O k s 4294967295) ?_);unfold vI;refine an b (aE (λh=>aa ⟨_,rfl,λm a hn=>?_,λM=>by grind⟩) (λhc=>?_));·grind
 have d:s≠[]:=z (by grind);refine ae (Wp.imp (Q:=λr=>match r with| .inl v=>∀m:Nat,m<=4294967295->s≠decDigits m| .inr v=>∀m:Nat,m<=4294967295->s=decDigits m->v.1=m) (a8 (N:=s.length) (I:=λi st=>st.2.1=(i:Int)/\∀m:Nat,m<=4294967295->s=decDigits m->st.1=(wZ (s.take i):Int)) ⟨rfl,λ_ _ _=>rfl⟩ (λi st A f=>?_) λst f=>?_) λr hr=>?_)
 ·obtain⟨n,j,_⟩:=st;obtain⟨g,p⟩:=f;simp only at g p;subst g;unfold nn;have J:=b_ A;have D:∀m:Nat,m<=4294967295->s=decDigits m->n=(wZ (s.take i):Int)/\wZ (s.take i)<=4294967295/\Gf s[i]/\wZ (s.take (i+1))<=4294967295/\wZ (s.take (i+1))=10*wZ (s.take i)+(s[i].toNat - 48):=λm a hn=>by
   have P:wZ s=m:=by rw[hn,MD]
   have hd:Gf s[i]:=Bb m s[i] (by grind);have e:s.getD i 0=s[i]:=by grind
   exact⟨p m a hn,by have:=JW (l:=s) (k:=i) (by omega);omega,hd,by have:=JW (l:=s) (k:=i+1) (by omega);omega,by rw[takeD A,Dt,e]⟩
  have w:Gf s[i]->d_ .i64 (d_ .u8 ((s[i].toNat:Int) - 48))=((s[i].toNat - 48:Nat):Int):=λh=>by unfold Gf at h;rw[wrap_u8,wrap_i64 (by omega) (by omega)];omega
  refine aE (λ_=>?_) (λh=>absurd h (by grind));refine pq (N_ _) J ?_;refine aA rfl (aE (λC=>aa λm a hn=>?_) (λ_=>aa ⟨?_,λm a hn=>?_⟩));·obtain⟨y,E,x,F,B⟩:=D m a hn;have u:=of_decide_eq_true C;rw[w x,y]at u;unfold Gf at x;rw[wrap_i64 (n:=9223372036854775807 - ((s[i].toNat - 48:Nat):Int)) (by omega) (by omega),Int.tdiv_eq_ediv_of_nonneg (by omega),wrap_i64 (by omega) (by omega)]at u;omega
  ·simp only;rw[ar A (by omega)]
  ·obtain⟨y,E,x,F,B⟩:=D m a hn;simp only;rw[w x,y,wrap_i64 (n:=10*((wZ (s.take i):Nat):Int)) (by omega) (by omega),wrap_i64 (by omega) (by omega),B];simp
 ·obtain⟨n,j,_⟩:=st;obtain⟨g,p⟩:=f;simp only at g p;subst g;unfold nn;refine aE (λh=>absurd h (by simp)) λ_=>aa λm a hn=>?_;simp only;rw[p m a hn,l_ (E_ _),hn,MD]
 ·cases r with|inl v=>exact aa ⟨_,rfl,λm a hn=>absurd hn (hr m a),λ_=>d⟩|inr v=>refine aE (λC=>aa ⟨_,rfl,λm a hn=>?_,λ_=>d⟩) (λ_=>aa ⟨_,rfl,λm a hn=>?_,λ_=>d⟩);all_goals grind
theorem vD(s:List UInt8)(i:Nat):aJ tbl bc [.ptr 0 0] [.box ap [.d tS s,.d tI (i:Int)]] aV ((pk s i:Int),s,(i:Int),()):=by
 refine aC rfl (aF vw rfl (λO m=>vC O m s (i:Int)) ?_);unfold m7;refine aE (λh=>?_) λh=>aa ?_
 ·have h:i<s.length:=by grind
  refine aN h (aa ?_);rw[XC h]
 ·have h:¬i<s.length:=by grind
  rw[XB h];rfl
structure Run(s:List UInt8)(i j:Nat):Prop where
 le:i<=j
 top:j<=s.length
 all:∀k,i<=k->k<j->dg (pk s k)
theorem QX{s:List UInt8}{i j m:Nat}{t:List UInt8}(h:Run s i j)(p:¬dg (pk s j))(a:s.drop i=decDigits m++t)(u:¬dg (hd t)):j=i+(decDigits m).length/\(s.take j).drop i=decDigits m:=by
 have n:∀k,i<=k->k<i+(decDigits m).length->dg (pk s k):=λk f g=>by
  have hl:k - i<(decDigits m).length:=by omega
  have e:s[k]? =some (decDigits m)[k - i]:=by
   have c:(s.drop i)[k - i]? =s[k]? :=by rw[List.getElem?_drop];congr 1;omega
   grind
  have d:=Bb m _ (a_ hl);unfold pk;rw[X_,e];exact d
 have c:¬dg (pk s (i+(decDigits m).length)):=by rw[ng,jo a];omega
 have r:j=i+(decDigits m).length:=by
  apply f_;intro hn;have:=h.le;rcases Nat.lt_or_gt_of_ne hn with l|b;·grind
  ·exact c (h.all _ (by simp) b)
 grind
theorem SY(s:List UInt8)(hs:s.length<=1048576)(i:Nat)(u:i<=s.length):∃o:Option (Int×Nat),(∀n j,o=some (n,j)->i<j/\j<=s.length)/\(∀(m:Nat) t,s.drop i=decDigits m++t->m<=4294967295->¬dg (hd t)->o=some ((m:Int),i+(decDigits m).length))/\dc tbl aX [.ptr 0 0] [.box ap [.d tS s,.d tI (i:Int)]] q_regex_parser_number_r (o.map λx=>(x.1,s,(x.2:Int),())):=by
 suffices h:∃v:Option (HL q_regex_parser_number_r.sl),(∃o:Option (Int×Nat),v=o.map (λx=>(x.1,s,(x.2:Int),()))/\(∀n j,o=some (n,j)->i<j/\j<=s.length)/\(∀(m:Nat) t,s.drop i=decDigits m++t->m<=4294967295->¬dg (hd t)->o=some ((m:Int),i+(decDigits m).length)))/\dc tbl aX [.ptr 0 0] [.box ap [.d tS s,.d tI (i:Int)]] q_regex_parser_number_r v by
  obtain⟨v,⟨o,rfl,b,d⟩,r⟩:=h
  exact⟨o,b,d,r⟩
 refine I7 (λ_=>rfl) (aF s8 rfl (λO m=>tj O m s (i:Int)) ?_);unfold lF;refine ae (Ev.wp_mono (Ev.wp_loop (Q:=λt=>∃j:Nat,t=(s,(j:Int),())/\Run s i j/\¬dg (pk s j)) (λt=>∃j:Nat,t=(s,(j:Int),())/\Run s i j) (λt=>s.length - t.2.1.toNat) ⟨i,rfl,⟨E_ _,u,λk b d=>absurd d (by omega)⟩⟩ ?_) ?_)
 ·rintro t ⟨j,rfl,hr⟩;unfold j0;refine an (vD s j) (aE (λh=>?_) λh=>aa ⟨j,rfl,hr,?_⟩)
  ·have h:(pk s j:Int)>=48:=of_decide_eq_true h;have f:=ix (s:=s) (i:=j) (by omega);refine an (vD s j) (aE (λh'=>aa ?_) λh'=>aa ⟨j,rfl,hr,?_⟩)
   ·have h':(pk s j:Int)<=57:=of_decide_eq_true h';refine⟨⟨j+1,?_,⟨by have:=hr.le;omega,by omega,λk b d=>?_⟩⟩,?_⟩;·show(s,d_ .i64 ((j:Int)+1),())=_;rw[ar f (by omega)]
    ·by_cases e:k=j;·subst e;exact⟨by omega,by omega⟩
     ·exact hr.all k b (by omega)
    ·show s.length - (d_ .i64 ((j:Int)+1)).toNat<s.length - (j:Int).toNat;rw[ar f (by omega)];omega
   ·have h':¬(pk s j:Int)<=57:=of_decide_eq_false h';unfold Pl.dg;omega
  ·have h:¬(pk s j:Int)>=48:=of_decide_eq_false h;unfold Pl.dg;omega
 ·rintro t ⟨j,rfl,hr,l⟩;have b:=hr.le;have d:=hr.top;refine aA (decide_eq_true (by simp)) (aA (decide_eq_true (by simp)) (aA ?_ ?_));·grind
  show Wp (λn=>e_ (aB (q9 tbl n) jk [.d tS ((s.take (s_ (j:Int))).drop (s_ (i:Int))),.d tI (4294967295:Int)] [] cu) _) _;rw[h_,h_];obtain⟨c,⟨y,z⟩,hc⟩:=SQ ((s.take j).drop i) (by grind);refine an (c:=c) hc (ae (aE (λh=>aa ?_) λh=>aa ?_))
  ·have h:c.2.1≠0:=by grind
   refine aa ⟨none,rfl,none,rfl,(λ_ _ h=>by grind),λm t a w g=>?_⟩;obtain⟨_,p⟩:=QX hr l a g;grind
  ·have h:c.2.1=0:=by grind
   refine aa ⟨some (c.1,s,(j:Int),()),rfl,some (c.1,j),rfl,?_,λm t a w g=>?_⟩;·grind
   ·obtain⟨A,p⟩:=QX hr l a g;grind
theorem WT(s:List UInt8)(hs:s.length<=1048576):∃num:Nat->Option (Int×Nat),NumOk s num/\∀i,i<=s.length->dc tbl aX [.ptr 0 0] [.box ap [.d tS s,.d tI (i:Int)]] q_regex_parser_number_r ((num i).map λx=>(x.1,s,(x.2:Int),())):=by
 have h:∀i:Nat,∃o:Option (Int×Nat),i<=s.length->(∀n j,o=some (n,j)->i<j/\j<=s.length)/\(∀(m:Nat) t,s.drop i=decDigits m++t->m<=4294967295->¬dg (hd t)->o=some ((m:Int),i+(decDigits m).length))/\dc tbl aX [.ptr 0 0] [.box ap [.d tS s,.d tI (i:Int)]] q_regex_parser_number_r (o.map λx=>(x.1,s,(x.2:Int),())):=λi=>by
  by_cases a:i<=s.length
  ·obtain⟨o,d⟩:=SY s hs i a;grind
  ·exact⟨none,λh=>absurd h a⟩
 refine⟨λi=>an_ (h i),⟨λi n j a e=>?_,λi m t b c f=>?_⟩,λi a=>?_⟩;·grind
 ·have a:i<=s.length:=V_ (Kv b (Ku m).1);grind
 grind
abbrev HI(s:List UInt8)(i:Nat):List Ob:=[.box ap [.d tS s,.d tI (i:Int)]]
def SO(s:List UInt8)(o:Option (Rx×Nat)):Option (Rx×List UInt8×Int×Unit):=o.map λx=>(x.1,s,(x.2:Int),())
theorem eqT{a b:Nat}(h:((a:Int)==(b:Int))=true):a=b:=by simp at h;omega
theorem VD{a b:Nat}(h:((a:Int)==(b:Int))=false):a≠b:=by simp at h;omega
theorem neF{a b:Nat}(h:((a:Int) != (b:Int))=false):a=b:=by simp at h;omega
theorem E8(s:List UInt8)(hs:s.length<=1048576)(i c:Nat)(hc:c≠0):dc tbl bm [.ptr 0 0,.d tY (c:Int)] (HI s i) aY (if pk s i=c then some (s,((i+1:Nat):Int),())else none):=by
 refine qf (λ_=>rfl) (aF sB rfl (λO m=>sD O m (c:Int) s (i:Int)) ?_);unfold ki;refine ae (an (vD s i) (aE (λh=>aa (aa ?_)) λh=>aa (aa ?_)));·grind
 ·have h:=neF h;have a:=ix (s:=s) (i:=i) (by omega);rw[if_pos h];show some (jr aY (s,d_ .i64 ((i:Int)+1),()))=_;rw[ar a (by omega)];rfl
section
variable {s:List UInt8}
theorem Xb(hs:s.length<=1048576){num:Nat->Option (Int×Nat)}(hn:NumOk s num)(hc:∀i,i<=s.length->dc tbl aX [.ptr 0 0] (HI s i) q_regex_parser_number_r ((num i).map λx=>(x.1,s,(x.2:Int),()))) {alt:Nat->Option (Rx×Nat)} (E:Q2 s alt) (d:Nat) (A:d<=100) (z:∀i,i<=s.length->dc tbl aW [.ptr 0 0,.d tI ((d+1:Nat):Int)] (HI s i) aR (SO s (alt i))) (i:Nat) (B:i<=s.length): dc tbl cO [.ptr 0 0,.d tI (d:Int)] (HI s i) bg (SO s (jt num s alt i)):=by
 refine qf (λ_=>rfl) (aF uz rfl (λO m=>uH O m (d:Int) s (i:Int)) ?_);unfold lY;refine an (vD s i) ?_;dsimp only;refine aE (λh=>?_) λu=>?_;·have h:=eqT (b:=46) h;have a:=ix (s:=s) (i:=i) (by omega);rw[ar a (by omega),show jt num s alt i=some (.mk 2 0 0 [],i+1) by unfold jt;grind];exact aa rfl
 have u:=VD (b:=46) u;refine aE (λh=>?_) λg=>?_;·have h:=eqT (b:=33) h;have a:=ix (s:=s) (i:=i) (by omega);rw[ar a (by omega),show jt num s alt i=some (.mk 4 0 0 [],i+1) by unfold jt;grind];exact aa rfl
 have g:=VD (b:=33) g;refine aE (λe=>?_) λe=>?_
 ·have e:=eqT (b:=91) e;have a:=ix (s:=s) (i:=i) (by omega);have hp:jt num s alt i=match num (i+1)with
   |none=>none
   |some (lo,j)=>if pk s j=45 then(match num (j+1)with
    |none=>none
    |some (up,k)=>if pk s k=93 then some (.mk 1 lo up [],k+1)else none)else none:=by
   unfold jt
   grind
  rw[ar a (by omega),hp];refine gH (hc (i+1) (by omega)) ?_;cases w:num (i+1)with
  |none=>exact aa rfl|some x=>
   obtain⟨lo,j⟩:=x;have C:=hn.bnd _ _ _ (by omega) w;show Wp (λn=>e_ (iS (q9 tbl n) bm [.ptr 0 0,.d tY (45:Int)] (HI s j) aY) _) _;refine gH (E8 s hs j 45 (by simp)) ?_;by_cases p:pk s j=45
   ·have f:=ix (s:=s) (i:=j) (by omega);simp only[if_pos p];show Wp (λn=>e_ (iS (q9 tbl n) aX [.ptr 0 0] (HI s (j+1)) q_regex_parser_number_r) _) _;refine gH (hc (j+1) (by omega)) ?_;cases D:num (j+1)with
    |none=>exact aa rfl|some y=>
     obtain⟨up,k⟩:=y;show Wp (λn=>e_ (iS (q9 tbl n) bm [.ptr 0 0,.d tY (93:Int)] (HI s k) aY) _) _;refine gH (E8 s hs k 93 (by simp)) ?_;by_cases v:pk s k=93;·simp only[if_pos v];exact aa rfl
     ·simp only[if_neg v];exact aa rfl
   ·simp only[if_neg p];exact aa rfl
 have e:=VD (b:=91) e;refine aE (λc=>?_) λc=>?_
 ·have c:=eqT (b:=40) c;have a:=ix (s:=s) (i:=i) (by omega);rw[ar a (by omega)];refine an (vD s (i+1)) ?_;dsimp only;refine aE (λh=>?_) λh=>?_;·have h:=eqT (b:=41) h;have f:=ix (s:=s) (i:=i+1) (by omega);rw[ar f (by omega),show jt num s alt i=some (.mk 0 0 0 [],i+2) by unfold jt;grind];exact aa rfl
  ·have h:=VD (b:=41) h;have hp:jt num s alt i=match alt (i+1)with
    |none=>none
    |some (r,j)=>if pk s j=41 then some (r,j+1)else none:=by
    unfold jt
    grind
   rw[hp,show d_ .i64 ((d:Int)+1)=((d+1:Nat):Int) by rw[wrap_i64 (by omega) (by omega)];rfl];refine gH (z (i+1) (by omega)) ?_;cases w:alt (i+1)with
   |none=>exact aa rfl|some x=>
    obtain⟨r,j⟩:=x;show Wp (λn=>e_ (iS (q9 tbl n) bm [.ptr 0 0,.d tY (41:Int)] (HI s j) aY) _) _;refine gH (E8 s hs j 41 (by simp)) ?_;by_cases l:pk s j=41;·simp only[if_pos l];refine aa ?_;rw[mV];rfl
    ·simp only[if_neg l];exact aa rfl
 ·have c:=VD (b:=40) c;have hp:jt num s alt i=match num i with
   |none=>none
   |some (n,j)=>some (.mk 1 n n [],j):=by
   unfold jt
   grind
  rw[hp];refine gH (hc i B) ?_;cases w:num i with|none=>exact aa rfl|some x=>exact aa rfl
def W0(s:List UInt8)(one:Nat->Option (Rx×Nat))(i:Nat):Option (Rx×Nat):=match one i with
 |none=>none
 |some (r,j)=>if pk s j=42 then some (.mk 5 0 0 [r],j+1)else if pk s j=43 then some (.mk 6 0 0 [r],j+1)else if pk s j=63 then some (.mk 7 0 0 [r],j+1)else some (r,j)
theorem Xc(hs:s.length<=1048576){one:Nat->Option (Rx×Nat)}(d:Nat)(f:∀i,i<=s.length->dc tbl cO [.ptr 0 0,.d tI (d:Int)] (HI s i) bg (SO s (one i)))(i:Nat)(g:i<=s.length): dc tbl bQ [.ptr 0 0,.d tI (d:Int)] (HI s i) a6 (SO s (W0 s one i)):=by
 refine qf (λ_=>rfl) (aF uA rfl (λO m=>uI O m (d:Int) s (i:Int)) ?_);unfold lZ W0;refine gH (f i g) ?_;cases p:one i with
 |none=>exact aa rfl|some x=>
  obtain⟨r,j⟩:=x;simp only;have key:∀(k:Int),j<s.length->some (jr a6 (Rx.mk k 0 0 [Rx.mk r.out.1 r.out.2.1 r.out.2.2.1 r.out.2.2.2.1],s,d_ .i64 ((j:Int)+1),()))=(SO s (some (.mk k 0 0 [r],j+1))).map (jr a6):=λk l=>by rw[mV,ar l (by omega)];rfl
  show Wp (λn=>e_ (e_ (aB (q9 tbl n) bc [.ptr 0 0] (HI s j) aV) _) _) _;refine ae (an (vD s j) ?_);dsimp only;refine aE (λh=>aa (aa ?_)) λa=>?_;·have h:=eqT (b:=42) h;rw[if_pos h];exact key 5 (ix (by omega))
  have a:=VD (b:=42) a;refine aE (λh=>aa (aa ?_)) λc=>?_;·have h:=eqT (b:=43) h;rw[if_neg a,if_pos h];exact key 6 (ix (by omega))
  have c:=VD (b:=43) c;refine aE (λh=>aa (aa ?_)) λe=>aa (aa ?_);·have h:=eqT (b:=63) h;rw[if_neg a,if_neg c,if_pos h];exact key 7 (ix (by omega))
  ·have e:=VD (b:=63) e;rw[if_neg a,if_neg c,if_neg e];show some (jr a6 (Rx.mk r.out.1 r.out.2.1 r.out.2.2.1 r.out.2.2.2.1,s,(j:Int),()))=_;rw[mV];rfl
theorem Ij(hs:s.length<=1048576){one:Nat->Option (Rx×Nat)}(z:Q2 s one)(d:Nat)(y:∀i,i<=s.length->dc tbl bQ [.ptr 0 0,.d tI (d:Int)] (HI s i) a6 (SO s (one i)))(T:Option (List Rx×Nat))(r:Rx)(i f:Nat)(A:i<=s.length)(w:1<=i)(u:s.length<=f+i)(c:(if pk s i=32 then lP s 32 one f [r] (i+1)else some ([r],i))=T): Wp (λn=>aS n (cz (q9 tbl n) n (d:Int)) (s,(i:Int),(0:Int),(0:Int),(0:Int),([r]:List Rx),())) λt=>match t with | .inl _=>T=none | .inr t=>∃(a:List Rx) (j:Nat),t=(s,(j:Int),(0:Int),(0:Int),(0:Int),a,())/\T=some (a,j):=by
 refine Ev.wp_loop (λt=>∃(a:List Rx) (j f:Nat),t=(s,(j:Int),(0:Int),(0:Int),(0:Int),a,())/\j<=s.length/\a.length<=j/\s.length<=f+j/\(if pk s j=32 then lP s 32 one f a (j+1)else some (a,j))=T) (λt=>s.length - t.2.1.toNat) ⟨[r],i,f,rfl,A,w,u,c⟩ ?_;rintro t ⟨a,j,f,rfl,C,p,u,c⟩;unfold cz;refine an (vD s j) ?_;dsimp only;refine aE (λh=>?_) λh=>aa ⟨a,j,rfl,?_⟩;·have h:=eqT (b:=32) h;have l:=ix (s:=s) (i:=j) (by omega);rw[if_pos h]at c;rw[ar l (by omega)];refine gH (y (j+1) (by omega)) ?_;obtain⟨f2,rfl⟩:∃g,f=g+1:=⟨f - 1,by omega⟩;rw[lP]at c;cases e:one (j+1)with|none=>rw[e]at c;exact aa c.symm|some x=>obtain⟨r2,k⟩:=x;obtain⟨B,v,_⟩:=z _ _ _ (by omega) e;rw[e]at c;simp only at c;refine aA (decide_eq_true ?_) (aa ⟨⟨a++[r2],k,f2,rfl,v,?_,by omega,c⟩,?_⟩);all_goals grind
 grind
theorem BN(hs:s.length<=1048576){one:Nat->Option (Rx×Nat)}(z:Q2 s one)(d:Nat)(y:∀i,i<=s.length->dc tbl bo [.ptr 0 0,.d tI (d:Int)] (HI s i) aZ (SO s (one i)))(T:Option (List Rx×Nat))(r:Rx)(i f:Nat)(A:i<=s.length)(w:1<=i)(u:s.length<=f+i)(c:(if pk s i=124 then lP s 124 one f [r] (i+1)else some ([r],i))=T): Wp (λn=>aS n (bV (q9 tbl n) n (d:Int)) (s,(i:Int),(0:Int),(0:Int),(0:Int),([r]:List Rx),())) λt=>match t with | .inl _=>T=none | .inr t=>∃(a:List Rx) (j:Nat),t=(s,(j:Int),(0:Int),(0:Int),(0:Int),a,())/\T=some (a,j):=by
 refine Ev.wp_loop (λt=>∃(a:List Rx) (j f:Nat),t=(s,(j:Int),(0:Int),(0:Int),(0:Int),a,())/\j<=s.length/\a.length<=j/\s.length<=f+j/\(if pk s j=124 then lP s 124 one f a (j+1)else some (a,j))=T) (λt=>s.length - t.2.1.toNat) ⟨[r],i,f,rfl,A,w,u,c⟩ ?_;rintro t ⟨a,j,f,rfl,C,p,u,c⟩;unfold bV;refine an (vD s j) ?_;dsimp only;refine aE (λh=>?_) λh=>aa ⟨a,j,rfl,?_⟩;·have h:=eqT (b:=124) h;have l:=ix (s:=s) (i:=j) (by omega);rw[if_pos h]at c;rw[ar l (by omega)];refine gH (y (j+1) (by omega)) ?_;obtain⟨f2,rfl⟩:∃g,f=g+1:=⟨f - 1,by omega⟩;rw[lP]at c;cases e:one (j+1)with|none=>rw[e]at c;exact aa c.symm|some x=>obtain⟨r2,k⟩:=x;obtain⟨B,v,_⟩:=z _ _ _ (by omega) e;rw[e]at c;simp only at c;refine aA (decide_eq_true ?_) (aa ⟨⟨a++[r2],k,f2,rfl,v,?_,by omega,c⟩,?_⟩);all_goals grind
 grind
theorem Of(hs:s.length<=1048576){one:Nat->Option (Rx×Nat)}(c:Q2 s one)(d:Nat)(a:∀i,i<=s.length->dc tbl bQ [.ptr 0 0,.d tI (d:Int)] (HI s i) a6 (SO s (one i)))(i:Nat)(e:i<=s.length): dc tbl bo [.ptr 0 0,.d tI (d:Int)] (HI s i) aZ (SO s (Il s 32 3 one i)):=by
 refine qf (λ_=>rfl) (aF qY rfl (λO m=>q8 O m (d:Int) s (i:Int)) ?_);unfold je Il;refine gH (a i e) ?_;obtain⟨f,w⟩:∃f,s.length+1 - i=f+1:=⟨s.length - i,by omega⟩;rw[w,lP];cases u:one i with
 |none=>exact aa rfl|some x=>
  obtain⟨r,j⟩:=x;obtain⟨y,p,_⟩:=c _ _ _ e u;simp only[C_];show Wp (λn=>e_ (aS n (cz (q9 tbl n) n (d:Int)) (s,(j:Int),(0:Int),(0:Int),(0:Int),([r]:List Rx),())) _) _;refine ae (Ev.wp_mono (Ij hs c d a _ r j f p (by omega) (by omega) rfl) ?_);rintro(t|t) g;·rw[show _=none from g];exact aa rfl
  ·obtain⟨l,k,rfl,v⟩:=g;rw[v];refine aE (λh=>?_) λh=>aa ?_;·have h:=eqT (b:=1) h;obtain⟨x,rfl⟩:=U_.1 h;refine pq (by simp) rfl (ip rfl (aa ?_));rw[mV];rfl
   ·have h:=VD (b:=1) h;simp only;rw[BE h];rfl
theorem E6(hs:s.length<=1048576){one:Nat->Option (Rx×Nat)}(c:Q2 s one)(d:Nat)(w:d<=32)(a:∀i,i<=s.length->dc tbl bo [.ptr 0 0,.d tI (d:Int)] (HI s i) aZ (SO s (one i)))(i:Nat)(e:i<=s.length): dc tbl aW [.ptr 0 0,.d tI (d:Int)] (HI s i) aR (SO s (Il s 124 4 one i)):=by
 refine qf (λ_=>rfl) (aF gG rfl (λO m=>gI O m (d:Int) s (i:Int)) ?_);unfold du Il;refine ae (aw (decide_eq_false (by omega)) (aa ?_));show Wp (λn=>e_ (iS (q9 tbl n) bo [.ptr 0 0,.d tI (d:Int)] (HI s i) aZ) _) _;refine gH (a i e) ?_;obtain⟨f,y⟩:∃f,s.length+1 - i=f+1:=⟨s.length - i,by omega⟩;rw[y,lP];cases u:one i with
 |none=>exact aa rfl|some x=>
  obtain⟨r,j⟩:=x;obtain⟨z,p,_⟩:=c _ _ _ e u;simp only[C_];show Wp (λn=>e_ (aS n (bV (q9 tbl n) n (d:Int)) (s,(j:Int),(0:Int),(0:Int),(0:Int),([r]:List Rx),())) _) _;refine ae (Ev.wp_mono (BN hs c d a _ r j f p (by omega) (by omega) rfl) ?_);rintro(t|t) g;·rw[show _=none from g];exact aa rfl
  ·obtain⟨l,k,rfl,v⟩:=g;rw[v];refine aE (λh=>?_) λh=>aa ?_;·have h:=eqT (b:=1) h;obtain⟨x,rfl⟩:=U_.1 h;refine pq (by simp) rfl (ip rfl (aa ?_));rw[mV];rfl
   ·have h:=VD (b:=1) h;simp only;rw[BE h];rfl
theorem VE(i:Nat):dc tbl aW [.ptr 0 0,.d tI (33:Int)] (HI s i) aR none:=by refine qf (λ_=>rfl) (aF gG rfl (λO m=>gI O m (33:Int) s (i:Int)) ?_);unfold du;exact ae (bb rfl (aa (aa rfl)))
theorem SR(hs:s.length<=1048576){num:Nat->Option (Int×Nat)}(hn:NumOk s num)(hc:∀i,i<=s.length->dc tbl aX [.ptr 0 0] (HI s i) q_regex_parser_number_r ((num i).map λx=>(x.1,s,(x.2:Int),()))):
 ∀(b d:Nat),d+b=33->∀i,i<=s.length->dc tbl aW [.ptr 0 0,.d tI (d:Int)] (HI s i) aR (SO s (BR num s b i))
 |0,d,h,i,_=>by
  have:d=33:=by omega
  subst this;exact VE i
 |b+1,d,h,i,g=>by have a:=Kl hn b;have c:=Xb hs hn hc a d (by omega) (SR hs hn hc b (d+1) (by omega));have e:=Xc hs d c;have f:=Of hs (Fz hn a) d e;exact E6 hs (Km (Fz hn a) (by simp) 3) d (by omega) f i g
end
def Rd(s:List UInt8)(one:Nat->Option (Rx×Nat))(C:Nat->Rx->Bool->Nat->Prop):Prop:=∀i,i<=s.length->∃(r:Rx) (ok:Bool) (j:Nat),(i<=j/\j<=s.length)/\one i=(if ok then some (r,j)else none)/\C i r ok j
section
variable {s:List UInt8}
theorem Rd.imp{one z:Nat->Option (Rx×Nat)}{C:Nat->Rx->Bool->Nat->Prop}(h:Rd s one C)(N:∀i,i<=s.length->one i=z i):Rd s z C:=λi E=>by obtain⟨r,ok,j,H,I,J⟩:=h i E;grind
end
def ParsedX(s:List UInt8)(c:Rx×Int×Unit):Prop:=(∃r,pi r=0/\kf r=s/\c=(r,0,()))\/((∀r,pi r=0->kf r≠s)/\c=(.mk 0 0 0 [],2,()))
theorem Du{r:Rx}(h:pi r=0):dR r=true/\sz r<=64/\LU r<=16:=by obtain⟨a,b⟩:=I9 h;have:=V8 r 1 0 h;exact⟨a,b,by omega⟩
theorem BU{num:Nat->Option (Int×Nat)}{s:List UInt8}(hn:NumOk s num){b:Nat}(d:16<=b){r:Rx}(h:pi r=0)(hp:kf r=s):BR num s b 0=some (r,s.length):=by obtain⟨a,_,c⟩:=Du h;subst hp;exact R8 hn a (by omega)
theorem ParsedX.pxUniq{s:List UInt8}(hs:s.length<=1048576){c z:Rx×Int×Unit}(h:ParsedX s c)(h':ParsedX s z):c=z:=by
 obtain⟨num,hn,_⟩:=WT s hs;rcases h with⟨r,E,J,rfl⟩|⟨E,rfl⟩<;>rcases h' with⟨R,H,N,rfl⟩|⟨H,rfl⟩;·have I:=BU hn (b:=16) (by simp) E J;rw[BU hn (by simp) H N]at I;grind
 all_goals grind
theorem UD:∀(r:Rx),dR r=true->sz r<=1000->UC r:=by
 refine lz λk lo up ks c b hs=>?_;obtain⟨nd,a⟩:=well_iff.1 b;have hl:=EZ ks;simp only[sz]at hs;have d:lo=0/\up=0\/0<=lo/\lo<=up/\up<=4294967295:=by
  by_cases e:k=1;·exact .inr (nd.rng e)
  ·exact .inl (nd.zero e)
 have f:=nd.known;have g:IntKind.i64.min= -9223372036854775808:=rfl;have h:IntKind.i64.max=9223372036854775807:=rfl;refine⟨⟨by omega,by omega⟩,⟨by omega,by omega⟩,⟨by omega,by omega⟩,H_ (show ks.length<=1000 by omega) (by decide),(Dh ks).2 λr hr=>c r hr (a r hr) (by have:=xE hr;omega)⟩
theorem ParsedX.ok{s:List UInt8}{c:Rx×Int×Unit}(h:ParsedX s c):UC c.1:=by
 rcases h with⟨r,z,_,rfl⟩|⟨_,rfl⟩;·obtain⟨E,H,_⟩:=Du z;exact UD r E (by omega)
 ·exact⟨by decide,by decide,by decide,by simp,trivial⟩
theorem yn(s:List UInt8)(hs:s.length<=1048576):∃c:Rx×Int×Unit,ParsedX s c/\aJ tbl ko [.d tS s] [] dH c:=by
 obtain⟨num,hn,hc⟩:=WT s hs;refine vR (sh:=dH) (λ_=>rfl) (Tt IG rfl (λO n=>IY O n s) ?_);unfold yI;refine gH (SR hs hn hc 33 0 rfl 0 (v_ _)) ?_;cases e:BR num s 33 0 with
 |none=>refine aa ⟨_,rfl,.inr ⟨λr hr hp=>?_,rfl⟩⟩;rw[BU hn (by simp) hr hp]at e;grind|some x=>
  obtain⟨r,j⟩:=x;obtain⟨k,l,p⟩:=Kl hn 33 0 r j (v_ _) e;have g:∀a,pi a=0->kf a=s->a=r:=λa d f=>by rw[BU hn (by simp) d f]at e;grind
  show Wp (λn=>e_ (e_ (aB (q9 tbl n) iB [.d .rx (Rx.mk r.out.1 r.out.2.1 r.out.2.2.1 r.out.2.2.2.1)] [] gf) _) _) _;rw[mV];refine ae (an (Hn r (by omega)) (ae (cY (b:= !(kf r==s)) (λh=>aa ?_) ?_)));·grind
  ·refine aE (λh=>aa (aa ⟨_,rfl,.inr ⟨λa d f=>?_,rfl⟩⟩)) λh=>aa (aa ⟨_,rfl,.inl ⟨r,?_,?_,?_⟩⟩);·grind
   ·grind
   ·grind
   ·show(Rx.mk r.out.1 r.out.2.1 r.out.2.2.1 r.out.2.2.2.1,(0:Int),())=_;rw[mV]
open Go Go.Av Go.Ev Go.Pl
def cL(l:List Nat):List Int:=l.map fun(k:Nat)=>(k:Int)
theorem Tl(a b:List Nat):cL (a++b)=cL a++cL b:=x_
theorem d6(l:List Nat):(cL l).length=l.length:=g_ _
theorem Kn{l:List Nat}{i:Nat}(h:i<l.length):(cL l)[i]'(by rw[d6];exact h)=(l[i]:Int):=by simp[cL]
theorem O7{a:List Nat}{i:Nat}(h:i<a.length)(b:List Nat):lQ (a.take (i+1)) b=lQ (a.take i) b++lQ [a[i]] b:=by unfold lQ;rw[m_,b_ h,List.flatMap_append];rfl
theorem Hp:∀(r:Rx),sz r<=1000000->aJ tbl kq [.d .rx r] [] iF ((cnt r:Int),()):=by
 refine lz λk lo up ks h hs=>?_;obtain⟨e,d⟩:=Ll hs;refine aC rfl (aF II rfl (λO m=>I0 O m (.mk k lo up ks)) ?_);unfold yK;have g:cnt (.mk k lo up ks)<=1000000:=H_ (Tp _) hs;simp only[cnt]at g;have hc:∀i,d7 (ks.take i)<=d7 ks:=λi=>by
  have:d7 ks=d7 (ks.take i)+d7 (ks.drop i):=by rw[<-vU,I_]
  omega
 have j:∀n:Nat,(e_ (e_ (bif (k==(1:Int))then some true else some (k==(2:Int))) λv=>bif v then some (((1:Int),()):Int×Unit)else some ((0:Int),())) fun(v:Int×Unit)=>some v)=some (((bif k==1||k==2 then 1 else 0:Nat):Int),()):=λ_=>by grind
 have c:(e_ (bif (k==(1:Int))then some true else some (k==(2:Int))) λv=>bif v then some (((1:Int),()):Int×Unit)else some ((0:Int),()))=some (((bif k==1||k==2 then 1 else 0:Nat):Int),()):=by grind
 refine ae (mZ (a:=(((bif k==1||k==2 then 1 else 0:Nat):Int),())) (λ_=>c) ?_);refine ae (a8 (N:=ks.length) (I:=λi s=>s=((((bif k==1||k==2 then 1 else 0)+d7 (ks.take i):Nat):Int),(i:Int),())) (by simp[d7]) (λi s b hs=>?_) λs hs=>?_)
 ·subst hs;unfold pc;refine bD b (aN b ?_);rw[mV];have hr:=a_ b;refine an (h ks[i] hr (by grind)) (aa ?_);have f:d7 (ks.take (i+1))=d7 (ks.take i)+cnt ks[i]:=by rw[m_,b_ b,vU];simp[d7]
  have:=hc (i+1);refine ao_ ?_ (ao_ (ar b (by omega)) rfl);show d_ .i64 ((((bif k==1||k==2 then 1 else 0)+d7 (ks.take i):Nat):Int)+(cnt ks[i]:Int))=_;rw[wrap_i64 (by omega) (by omega),f];omega
 ·subst hs;unfold pc;refine ba (aa (aa ?_));rw[j_];rfl
structure FolR(n:Nat)(F:List (List Int))(P:List (Nat×Nat)):Prop where
 len:F.length=n
 nd:∀l∈F,l.Nodup
 bd:∀l∈F,∀x∈l,0<=x/\x<(n:Int)
 mem:∀p (h:p<F.length) (q:Nat),(q:Int)∈F[p]↔(p,q)∈P
theorem FolR.congr{n:Nat}{F:List (List Int)}{P z:List (Nat×Nat)}(h:FolR n F P)(e:∀x,x∈P↔x∈z):FolR n F z:=⟨h.len,h.nd,h.bd,λp hp q=>(h.mem p hp q).trans (e _)⟩
theorem FolR.add{n:Nat}{F:List (List Int)}{P:List (Nat×Nat)}(h:FolR n F P){p q:Nat}(hp:p<F.length)(hq:q<n)(hn:(q:Int)∉F[p]):FolR n (F.set p (F[p]++[(q:Int)])) (P++[(p,q)]):=by
 have z:∀l∈F.set p (F[p]++[(q:Int)]),l∈F\/l=F[p]++[(q:Int)]:=λl hl=>by grind
 refine⟨by rw[ah_,h.len],λl hl=>?_,λl hl x J=>?_,λN R q'=>?_⟩
 ·rcases z l hl with H|rfl;·exact h.nd l H
  ·exact List.nodup_append.2 ⟨h.nd _ (a_ hp),by simp,λa U b Y=>by grind⟩
 ·rcases z l hl with H|rfl;·exact h.bd l H x J
  ·rcases n_.1 J with I|I;·exact h.bd _ (a_ hp) x I
   grind
 ·have E:N<F.length:=by grind
  rw[S_];split;·rename_i e;subst e;simp only[n_,o_,h.mem p hp,Prod.mk.injEq,true_and];grind
  ·rename_i e;simp only[n_,o_,h.mem N E,Prod.mk.injEq];grind
theorem FolR.one{n:Nat}{F:List (List Int)}{P:List (Nat×Nat)}(h:FolR n F P)(H:∀p q,(p,q)∈P->p<n):FolR (n+1) (F++[[]]) P:=by
 refine⟨by simp[h.len],λl hl=>?_,λl hl x J=>?_,λp hp q=>?_⟩
 ·rcases n_.1 hl with z|z;·exact h.nd l z
  grind
 ·rcases n_.1 hl with z|z;·have:=h.bd l z x J;omega
  grind
 ·by_cases E:p<F.length;·rw[List.getElem_append_left E];exact h.mem p E q
  ·have:p=F.length:=by grind
   subst this;simp only[List.getElem_concat_length,List.not_mem_nil,false_iff];intro I;have:=H _ _ I;have:=h.len;omega
def gD(M:Nat)(P:List (Nat×Nat)):List (List Bool):=(w_ M).map λi=>(w_ M).map λk=>decide ((i,k)∈P)
theorem Gn(M:Nat)(P:List (Nat×Nat)):(gD M P).length=M:=by simp[gD]
theorem BQ{M:Nat}{P:List (Nat×Nat)}{i:Nat}(h:i<(gD M P).length):(gD M P)[i]=(w_ M).map λk=>decide ((i,k)∈P):=by simp[gD]
theorem T3{M:Nat}{P:List (Nat×Nat)}{i k:Nat}(h:i<M)(j:k<M):(gD M P).set i (((w_ M).map λk=>decide ((i,k)∈P)).set k true)=gD M (P++[(i,k)]):=by
 refine u_ (by simp[gD]) λa c d=>?_;simp only[S_,BQ,ah_]at c⊢;split;·rename_i e;subst e;refine u_ (by simp) λb f g=>?_;grind
 grind
theorem gP(a b:List Int)(c:a.length<=1000000)(d:b.length<=1000000):aJ tbl ic [.d (.list tI) a,.d (.list tI) b] [] f6 (a++b,()):=by refine aC rfl (aF LB rfl (λO m=>LN O m a b) ?_);unfold AH;refine aA (decide_eq_true (by grind)) (aA (decide_eq_true (by grind)) (aa ?_));simp
theorem qj(x y:Int)(lo a:List Int)(F:List (List Bool))(b:lo.length<=1000000)(c:a.length<=1000000):aJ tbl cP [.ptr 0 0,.d tI x,.d tI y] [.box aU [.sl 1,.sl 2,.sl 3],.vec cM tI lo,.vec cM tI a,.tree cF (.s 4 1 .e .e) (.list tB) F none] ci (([(lo.length:Int)],[(lo.length:Int)],false,()),lo++[x],a++[y],F,()):=by refine aC rfl (aF uB rfl (λO m=>uJ O m x y lo a F) ?_);unfold l5;exact aA (decide_eq_true (by grind)) (aA (decide_eq_true (by grind)) (aa rfl))
theorem j3{M:Nat}(P:List (Nat×Nat))(lo up:List Int){la fi:List Nat}(h:∀p∈la,p<M)(e:∀q∈fi,q<M)(n:la.length<=1000000)(r:fi.length<=1000000)(u:M<=1000000): aJ tbl cE [.ptr 0 0,.d (.list tI) (cL la),.d (.list tI) (cL fi)] [.box aU [.sl 1,.sl 2,.sl 3],.vec cM tI lo,.vec cM tI up,.tree cF (.s 4 1 .e .e) (.list tB) (gD M P) none] b6 (lo,up,gD M (P++lQ la fi),()):=by
 refine aC rfl (aF s9 rfl (λO m=>tk O m (cL la) (cL fi) lo up (gD M P)) ?_);unfold lG;refine ae (a8 (N:=(cL la).length) (I:=λi s=>s=((i:Int),lo,up,gD M (P++lQ (la.take i) fi),())) (by simp[lQ]) ?_ ?_)
 ·rintro i s a rfl;have f:i<la.length:=by rw[d6]at a;omega
  have hp:=h _ (a_ f);unfold fy;refine bD a (aN a ?_);rw[Kn f];refine ae (a8 (N:=(cL fi).length) (I:=λj s=>s=((j:Int),lo,up,gD M (P++lQ (la.take i) fi++lQ [la[i]] (fi.take j)),())) (by simp[lQ]) ?_ ?_)
  ·rintro j s b rfl;have g:j<fi.length:=by rw[d6]at b;omega
   have l:=e _ (a_ g);unfold fx;refine bD b (aN b ?_);rw[Kn g];have c:la[i]<(gD M (P++lQ (la.take i) fi++lQ [la[i]] (fi.take j))).length:=by rw[Gn];omega
   have hg:=b_ c;rw[BQ]at hg;refine aN c (aA (decide_eq_true (by simp)) ?_);simp only[h_];refine ip hg (ip hg (aA (aj_ _) ?_));have d:fi[j]<((w_ M).map λk=>decide ((la[i],k)∈P++lQ (la.take i) fi++lQ [la[i]] (fi.take j))).length:=by grind
   refine aN d (ip (b_ d) (ip hg (aa ?_)));rw[ar b (by rw[d6];omega),T3 hp l];congr 4;rw[m_,b_ g];simp only[lQ,List.flatMap_cons,List.flatMap_nil,B_,x_,aa_,Q_,List.map_nil,z_]
  ·rintro s rfl;unfold fx;refine ba (aa (aa ?_));rw[ar a (by rw[d6];omega),d6,j_,O7 f,z_]
 ·rintro s rfl;unfold fy;refine ba (aa (aa ?_));rw[d6,j_]
theorem Y9{ks:List Rx}(b:∀r∈ks,dR r=true)(o i:Nat):Lie o (kB (ks.take i) o (Pl.g0 true))/\(kB (ks.take i) o (Pl.g0 true)).sp.length=d7 (ks.take i):=by
 have hl:=ud (.mk 3 0 0 (ks.take i)) o;have e:gL (.mk 3 0 0 (ks.take i)) o=kB (ks.take i) o (Pl.g0 true):=by simp[gL]
 rw[e]at hl;refine⟨hl,?_⟩;have:∀(l:List Rx) (a:G),(∀r∈l,r∈ks)->(kB l o a).sp.length=a.sp.length+d7 l:=by intro l;induction l with|nil=>intro a _;simp[kB,d7]|cons r l c=>intro a hl;have hr:=hl r (k_ ..);obtain⟨d,h⟩:=qF r (b r hr) (o+a.sp.length);have f:=c (s3 a (gL r (o+a.sp.length))) λx g=>hl x (i_ _ g);simp only[kB,f,d7];simp only[s3,O_,d];omega
 have:=this (ks.take i) (Pl.g0 true) λr hr=>L_ hr;simpa[Pl.g0]using this
theorem Y8{ks:List Rx}(b:∀r∈ks,dR r=true)(o i:Nat):Lie o (iK (ks.take i) o (Pl.g0 false))/\(iK (ks.take i) o (Pl.g0 false)).sp.length=d7 (ks.take i):=by
 have hl:=ud (.mk 4 0 0 (ks.take i)) o;have e:gL (.mk 4 0 0 (ks.take i)) o=iK (ks.take i) o (Pl.g0 false):=by simp[gL]
 rw[e]at hl;refine⟨hl,?_⟩;have:∀(l:List Rx) (a:G),(∀r∈l,r∈ks)->(iK l o a).sp.length=a.sp.length+d7 l:=by intro l;induction l with|nil=>intro a _;simp[iK,d7]|cons r l c=>intro a hl;have hr:=hl r (k_ ..);obtain⟨d,h⟩:=qF r (b r hr) (o+a.sp.length);have f:=c (AR a (gL r (o+a.sp.length))) λx g=>hl x (i_ _ g);simp only[iK,f,d7];simp only[AR,O_,d];omega
 have:=this (ks.take i) (Pl.g0 false) λr hr=>L_ hr;simpa[Pl.g0]using this
theorem Kr(ks:List Rx)(i:Nat):d7 (ks.take i)<=d7 ks:=by
 have:d7 ks=d7 (ks.take i)+d7 (ks.drop i):=by rw[<-vU,I_]
 omega
theorem AY{ks:List Rx}{i:Nat}(h:i<ks.length):d7 (ks.take i)+cnt ks[i]<=d7 ks:=by
 have e:d7 (ks.take (i+1))=d7 (ks.take i)+cnt ks[i]:=by rw[m_,b_ h,vU];simp[d7]
 have:=Kr ks (i+1);omega
theorem xJ{M:Nat}(E:M<=1000000):∀(r:Rx),dR r=true->sz r<=1000000->∀(lo f:List Int) (P:List (Nat×Nat)),f.length=lo.length->lo.length+cnt r<=M->aJ tbl bR [.ptr 0 0,.d .rx r] [.box aU [.sl 1,.sl 2,.sl 3],.vec cM tI lo,.vec cM tI f,.tree cF (.s 4 1 .e .e) (.list tB) (gD M P) none] bn ((cL (gL r lo.length).fi,cL (gL r lo.length).la,(gL r lo.length).em,()),lo++(gL r lo.length).sp.map (·.1),f++(gL r lo.length).sp.map (·.2),gD M (P++(gL r lo.length).pr),()):=by
 refine lz λk l up ks B Y hs lo f P w U=>?_;obtain⟨L,g⟩:=Ll hs;obtain⟨hn,e⟩:=well_iff.1 Y;have hcs:d7 ks<=cnt (.mk k l up ks):=by simp only[cnt];simp
 refine aC rfl (aF uC rfl (λO m=>uK O m (.mk k l up ks) lo f (gD M P)) ?_);unfold l6;have F:(bif (k==(0:Int))then some true else some (k==(3:Int)))=some (k==0||k==3):=by grind
 refine ae (mZ (a:=(k==0||k==3)) (λ_=>F) ?_);rcases hn.known with rfl|rfl|rfl|rfl|rfl|rfl|rfl|rfl
 ·have:=len_nil (hn.leaf (by simp));subst this;refine mZ (a:=some (jr bn (([],[],true,()),lo,f,gD M P,()))) (λ_=>rfl) ?_;simp[gL,Pl.g0,cL]
 ·have:=len_nil (hn.leaf (by simp));subst this;refine ae (an (qj l up lo f _ (by omega) (by omega)) (aa (aa ?_)));simp[gL,Qm,cL]
 ·have:=len_nil (hn.leaf (by simp));subst this;refine ae (an (qj 0 4294967295 lo f _ (by omega) (by omega)) (aa (aa ?_)));simp[gL,Qm,cL]
 ·have u:gL (.mk 3 l up ks) lo.length=kB ks lo.length (Pl.g0 true):=by simp[gL]
  rw[u];show Wp (λn=>e_ (e_ (aS n (dC (q9 tbl n) n (.mk 3 l up ks)) ((0:Int),lo,f,gD M P,false,([]:List Int),([]:List Int),true,())) _) _) _;refine ae (ae (a8 (N:=ks.length) (I:=λi s=>s=((i:Int),lo++(kB (ks.take i) lo.length (Pl.g0 true)).sp.map (·.1),f++(kB (ks.take i) lo.length (Pl.g0 true)).sp.map (·.2),gD M (P++(kB (ks.take i) lo.length (Pl.g0 true)).pr),false,cL (kB (ks.take i) lo.length (Pl.g0 true)).fi,cL (kB (ks.take i) lo.length (Pl.g0 true)).la,(kB (ks.take i) lo.length (Pl.g0 true)).em,())) (by simp[kB,Pl.g0,cL]) ?_ ?_))
  ·rintro i s c rfl;obtain⟨l1,l2⟩:=Y9 e lo.length i;rw[RA c];have v:=AY c;generalize kB (ks.take i) lo.length (Pl.g0 true)=a at*;have hr:=a_ c;obtain⟨H,J⟩:=qF ks[i] (e _ hr) (lo.length+a.sp.length);have d:=ud ks[i] (lo.length+a.sp.length);unfold dC;refine bD c (aN c ?_);rw[mV];have hsz:=g _ hr;have hc:=B ks[i] hr (e _ hr) (by omega) (lo++a.sp.map (·.1)) (f++a.sp.map (·.2)) (P++a.pr) (by grind) (by grind);rw[show(lo++a.sp.map (·.1)).length=lo.length+a.sp.length by simp]at hc;generalize gL ks[i] (lo.length+a.sp.length)=x at*;have R:=l1.fl;have T:=l1.ll;have C:=d.fl;have D:=d.ll;refine an hc (an (j3 (P++a.pr++x.pr) _ _ (la:=a.la) (fi:=x.fi) (λp hp=>by have:=l1.la p hp;omega) (λq A=>by have:=d.fi q A;omega) (by omega) (by omega) E) ?_);have j:∀b:Bool,a.em=b->∀z:Bool,x.em=z->((((i+1:Nat):Int),lo++a.sp.map (·.1)++x.sp.map (·.1),f++a.sp.map (·.2)++x.sp.map (·.2),gD M (P++a.pr++x.pr++lQ a.la x.fi),false,(bif b then cL a.fi++cL x.fi else cL a.fi),(bif z then cL a.la else [])++cL x.la,b&&z,()):Int×List Int×List Int×List (List Bool)×Bool×List Int×List Int×Bool×Unit)=(((i+1:Nat):Int),lo++(s3 a x).sp.map (·.1),f++(s3 a x).sp.map (·.2),gD M (P++(s3 a x).pr),false,cL (s3 a x).fi,cL (s3 a x).la,(s3 a x).em,()):=λb y z h=>by simp only[s3,y,h,x_,z_];cases b<;>cases z<;>simp[Tl,cL]
   show Wp (λn=>e_ (bif a.em then _ else _) _) _;cases y:a.em
   ·refine ae (aa ?_);show Wp (λn=>e_ (bif !x.em then _ else _) _) _;cases h:x.em;·refine ae (aa (an (gP [] (cL x.la) (by simp) (by rw[d6];omega)) (ae (aa (aa ?_)))));rw[ar c (by omega)];exact j false y false h
    ·refine ae (aa (an (gP (cL a.la) (cL x.la) (by rw[d6];omega) (by rw[d6];omega)) (ae (aa (aa ?_)))));rw[ar c (by omega)];exact j false y true h
   ·refine ae (an (gP (cL a.fi) (cL x.fi) (by rw[d6];omega) (by rw[d6];omega)) (aa ?_));show Wp (λn=>e_ (bif !x.em then _ else _) _) _;cases h:x.em;·refine ae (aa (an (gP [] (cL x.la) (by simp) (by rw[d6];omega)) (ae (aa (aa ?_)))));rw[ar c (by omega)];exact j true y false h
    ·refine ae (aa (an (gP (cL a.la) (cL x.la) (by rw[d6];omega) (by rw[d6];omega)) (ae (aa (aa ?_)))));rw[ar c (by omega)];exact j true y true h
  ·rintro s rfl;unfold dC;refine ba (aa (aa (aa ?_)));simp
 ·have u:gL (.mk 4 l up ks) lo.length=iK ks lo.length (Pl.g0 false):=by simp[gL]
  rw[u];show Wp (λn=>e_ (e_ (aS n (dD (q9 tbl n) n (.mk 4 l up ks)) ((0:Int),lo,f,gD M P,false,([]:List Int),([]:List Int),false,())) _) _) _;refine ae (ae (a8 (N:=ks.length) (I:=λi s=>s=((i:Int),lo++(iK (ks.take i) lo.length (Pl.g0 false)).sp.map (·.1),f++(iK (ks.take i) lo.length (Pl.g0 false)).sp.map (·.2),gD M (P++(iK (ks.take i) lo.length (Pl.g0 false)).pr),false,cL (iK (ks.take i) lo.length (Pl.g0 false)).fi,cL (iK (ks.take i) lo.length (Pl.g0 false)).la,(iK (ks.take i) lo.length (Pl.g0 false)).em,())) (by simp[iK,Pl.g0,cL]) ?_ ?_));·rintro i s c rfl;obtain⟨l1,l2⟩:=Y8 e lo.length i;rw[Rz c];have v:=AY c;generalize iK (ks.take i) lo.length (Pl.g0 false)=a at*;have hr:=a_ c;obtain⟨H,J⟩:=qF ks[i] (e _ hr) (lo.length+a.sp.length);have d:=ud ks[i] (lo.length+a.sp.length);unfold dD;refine bD c (aN c ?_);rw[mV];have hsz:=g _ hr;have hc:=B ks[i] hr (e _ hr) (by omega) (lo++a.sp.map (·.1)) (f++a.sp.map (·.2)) (P++a.pr) (by grind) (by grind);rw[show(lo++a.sp.map (·.1)).length=lo.length+a.sp.length by simp]at hc;generalize gL ks[i] (lo.length+a.sp.length)=x at*;have R:=l1.fl;have T:=l1.ll;have C:=d.fl;have D:=d.ll;refine an hc (an (gP (cL a.fi) (cL x.fi) (by rw[d6];omega) (by rw[d6];omega)) (an (gP (cL a.la) (cL x.la) (by rw[d6];omega) (by rw[d6];omega)) ?_));refine ae (cY (b:=x.em) (λ_=>aa rfl) (aa ?_));rw[ar c (by omega)];simp only[AR,x_,Tl,z_]
  ·rintro s rfl;unfold dD;refine ba (aa (aa (aa ?_)));simp
 ·obtain⟨x,rfl⟩:=rX (hn.one (by simp));have hr:x∈[x]:=o_.2 rfl;have hsz:=g _ hr;have v:cnt x<=M - lo.length:=by simp only[d7]at hcs;omega
  have hc:=B x hr (e _ hr) (by omega) lo f P w (by omega);have d:=ud x lo.length;obtain⟨H,J⟩:=qF x (e _ hr) lo.length;have Q:iK [x] lo.length (Pl.g0 false)=gL x lo.length:=rfl;have C:=d.fl;have D:=d.ll;refine ae (an hc (ae (an (j3 (P++(gL x lo.length).pr) _ _ (la:=(gL x lo.length).la) (fi:=(gL x lo.length).fi) (λp hp=>by have:=d.la p hp;omega) (λq A=>by have:=d.fi q A;omega) (by omega) (by omega) E) (aa ?_))));refine ae (cY (b:=(5:Int) != 6) (λ_=>aa rfl) (aa (aa ?_)));have u:gL (.mk 5 l up [x]) lo.length=if(5:Int)=5 then Tv (sR (gL x lo.length))else sR (gL x lo.length):=rfl;rw[u];simp[Tv,sR]
 ·obtain⟨x,rfl⟩:=rX (hn.one (by simp));have hr:x∈[x]:=o_.2 rfl;have hsz:=g _ hr;have v:cnt x<=M - lo.length:=by simp only[d7]at hcs;omega
  have hc:=B x hr (e _ hr) (by omega) lo f P w (by omega);have d:=ud x lo.length;obtain⟨H,J⟩:=qF x (e _ hr) lo.length;have Q:iK [x] lo.length (Pl.g0 false)=gL x lo.length:=rfl;have C:=d.fl;have D:=d.ll;refine ae (an hc (ae (an (j3 (P++(gL x lo.length).pr) _ _ (la:=(gL x lo.length).la) (fi:=(gL x lo.length).fi) (λp hp=>by have:=d.la p hp;omega) (λq A=>by have:=d.fi q A;omega) (by omega) (by omega) E) (aa ?_))));refine ae (cY (b:=(6:Int) != 6) (λ_=>aa rfl) (aa (aa ?_)));have u:gL (.mk 6 l up [x]) lo.length=if(6:Int)=5 then Tv (sR (gL x lo.length))else sR (gL x lo.length):=rfl;rw[u];simp[Tv,sR]
 ·obtain⟨x,rfl⟩:=rX (hn.one (by simp));have hr:x∈[x]:=o_.2 rfl;have hsz:=g _ hr;have hc:=B x hr (e _ hr) (by omega) lo f P w (by simp only[d7]at hcs;omega);refine ae (an hc (ae (aa ?_)));refine ae (cY (b:=true) (λ_=>aa rfl) (aa (aa ?_)));have u:gL (.mk 7 l up [x]) lo.length=Tv (gL x lo.length):=rfl;rw[u];simp[Tv]
section
variable {α β:Type}
theorem VA{xs:List α}{i:Nat}{f:Nat->α->Option β}{Q:β->Prop}(h:i<xs.length)(a:Wp (λn=>f n xs[i]) Q):Wp (λn=>e_ (a7 xs (i:Int)) λ_=>e_ xs[s_ (i:Int)]? (f n)) Q:=by refine aN h ?_;grind
theorem Ap{M i:Nat}{g:Nat->Bool}{f:Nat->Bool->Option β}{Q:β->Prop}(h:i<M)(a:Wp (λn=>f n (g i)) Q):Wp (λn=>e_ (a7 (bX M g) (i:Int)) λ_=>e_ (bX M g)[s_ (i:Int)]? (f n)) Q:=by refine VA (by rw[mY];omega) ?_;rw[Vy];omega
end
theorem Pj{M:Nat}(k:M<=1000000):Wp (λn=>aS n (kL (q9 tbl n) n ((M:Int),())) ((0:Int),c_ (s_ (M:Int)) ([]:List Bool),())) λt=>t=(gD M [],()):=by
 have l:gD M []=c_ M (c_ M false):=by refine u_ (by simp[gD]) λi e f=>?_;rw[BQ,List.getElem_replicate];refine u_ (by simp) λj g h=>by simp
 refine a8 (N:=M) (I:=λi s=>s=((i:Int),(c_ M (c_ M false)).take i++c_ (M - i) [],())) (by simp) ?_ ?_
 ·rintro i s c rfl;have b:((c_ M (c_ M false)).take i++c_ (M - i) ([]:List Bool)).length=M:=by grind
  have a:i<((c_ M (c_ M false)).take i++c_ (M - i) ([]:List Bool)).length:=by omega
  unfold kL;show Wp (λn=>bif decide ((i:Int)<((c_ (s_ (M:Int)) ([]:List Bool)).length:Int))then _ else _) _;rw[y_,h_];refine bD c ?_;show Wp (λn=>aD _ _) _;refine aA (by grind) ?_;refine aN a (aA (decide_eq_true (by simp)) ?_);rw[h_];refine ip (b_ a) (ip (b_ a) (aA (aj_ _) (ip (b_ a) (aa ?_))));rw[ar c (by omega),b,h_];congr 2;refine P_ λj=>?_;rw[List.getElem?_set];by_cases d:i=j;·subst d;rw[if_pos rfl,if_pos a,List.getElem?_append_left (by grind),List.take_replicate,List.getElem?_replicate,if_pos (by omega)];rfl
  grind
 ·rintro s rfl;unfold kL;show Wp (λn=>bif decide ((M:Int)<((c_ (s_ (M:Int)) ([]:List Bool)).length:Int))then _ else _) _;rw[y_,h_];refine ba (aa ?_);grind
theorem KZ{M:Nat}(d:M<=1000000)(fi la:List Nat)(em:Bool)(lo up:List Int)(F:List (List Bool))(b:∀p∈fi,p<M)(hl:fi.length<=1000000): Wp (λn=>aS n (kM (q9 tbl n) n ((cL fi,cL la,em,()),lo,up,F,())) ((0:Int),lo,up,F,cL fi,cL la,em,bX M (λ_=>false),())) λt=>t=(lo,up,F,cL fi,cL la,em,bX M (λp=>decide (p∈fi)),()):=by
 refine a8 (N:=(cL fi).length) (I:=λi s=>s=((i:Int),lo,up,F,cL fi,cL la,em,bX M (λp=>decide (p∈fi.take i)),())) (by simp) ?_ ?_
 ·rintro i s a rfl;have c:i<fi.length:=by rw[d6]at a;omega
  have hp:=b _ (a_ c);unfold kM;refine bD a (aN a ?_);rw[Kn c];refine Ap hp (aa ?_);rw[ar a (by rw[d6];omega),h_,G3];have e:(bX M λj=>if j=fi[i]then true else decide (j∈fi.take i))=bX M λp=>decide (p∈fi.take (i+1)):=q7 λj _=>by
   have f:∀x,x∈fi.take (i+1)↔x∈fi.take i\/x=fi[i]:=λx=>by rw[m_,b_ c,n_,aa_,o_]
   grind
  rw[e]
 ·rintro s rfl;unfold kM;refine ba (aa ?_);rw[d6,j_]
theorem OX{M:Nat}(l:M<=1000000){i:Nat}(h:i<M)(P:List (Nat×Nat))(lo up fi la:List Int)(em:Bool)(d f a fn:Nat->Bool): Wp (λn=>aS n (kN (q9 tbl n) n ((i:Int),gD M P,lo,up,fi,la,em,bX M d,bX M f,bX M fn,())) ((0:Int),gD M P,lo,up,fi,la,em,bX M d,bX M a,bX M fn,())) λt=>t=(gD M P,lo,up,fi,la,em,bX M d,bX M a,bX M (λq=>fn q||(a i&&decide ((i,q)∈P))),()):=by
 refine a8 (N:=(bX M fn).length) (I:=λk s=>s=((k:Int),gD M P,lo,up,fi,la,em,bX M d,bX M a,bX M (λq=>if q<k then fn q||(a i&&decide ((i,q)∈P))else fn q),())) (by simp) ?_ ?_
 ·rintro k s c rfl;have g:k<M:=by rw[mY]at c;omega
  unfold kN;refine bD c (Ap g ?_);rw[if_neg (Nat.lt_irrefl k)];refine ae (cY (b:=a i&&decide ((i,k)∈P)) (λ_=>?_) ?_);·refine Ap h (ae (cy (b:=decide ((i,k)∈P)) (λ_=>?_) (aa rfl)));refine aN (xs:=gD M P) (by rw[Gn];omega) ?_;rw[BQ];refine aN (by grind) (aa ?_);simp
  ·refine Ap g (aa ?_);rw[ar c (by rw[mY];omega),h_,G3];grind
 ·rintro s rfl;unfold kN;refine ba (aa ?_);rw[mY];have e:(bX M λq=>if q<M then fn q||(a i&&decide ((i,q)∈P))else fn q)=bX M λq=>fn q||(a i&&decide ((i,q)∈P)):=q7 λj p=>by grind
  rw[e]
theorem PN{M:Nat}(l:M<=1000000)(g:G)(w:g.sp.length=M)(u:∀p q,(p,q)∈g.pr->p<M)(K3:Int)(fi la:List Int)(em:Bool)(a c:Nat->Bool)(v:Int): Wp (λn=>aS n (kO (q9 tbl n) n (K3,gD M g.pr,g.sp.map (·.1),g.sp.map (·.2),fi,la,em,bX M a,bX M c,()) v) ((0:Int),gD M g.pr,g.sp.map (·.1),g.sp.map (·.2),fi,la,em,bX M a,bX M c,bX M (λ_=>false),())) λt=>t=(gD M g.pr,g.sp.map (·.1),g.sp.map (·.2),fi,la,em,bX M (HH g a v),bX M (Xx g (HH g a v)),()):=by
 refine a8 (N:=(bX M c).length) (I:=λi s=>s=((i:Int),gD M g.pr,g.sp.map (·.1),g.sp.map (·.2),fi,la,em,bX M a,bX M (λj=>if j<i then HH g a v j else c j),bX M (λq=>(w_ i).any λj=>HH g a v j&&decide ((j,q)∈g.pr)),())) (by simp) ?_ ?_
 ·rintro i s d rfl;have f:i<M:=by rw[mY]at d;omega
  have e:i<g.sp.length:=by omega
  have x:RB g v i=(decide (g.sp[i].1<=v)&&decide (v<=g.sp[i].2)):=by unfold RB;grind
  unfold kO;refine bD d (Ap f ?_);refine ae (cy (b:=decide (g.sp[i].1<=v)) (λ_=>?_) ?_);·refine VA (xs:=g.sp.map (·.1)) (by simpa using e) ?_;refine aa ?_;simp
  refine ae (cy (b:=decide (v<=g.sp[i].2)) (λ_=>?_) ?_);·refine VA (xs:=g.sp.map (·.2)) (by simpa using e) ?_;refine aa ?_;simp
  refine Ap f ?_;have r:((a i&&decide (g.sp[i].1<=v))&&decide (v<=g.sp[i].2))=HH g a v i:=by unfold HH;grind
  rw[r,h_];have h:(bX M λj=>if j<i then HH g a v j else c j).set i (HH g a v i)=bX M λj=>if j<i+1 then HH g a v j else c j:=by rw[G3];grind
  rw[h];refine ae (Ev.wp_mono (OX l f g.pr _ _ fi la em a _ _ _) ?_);rintro t rfl;refine aa ?_;rw[ar d (by rw[mY];omega)];have k:(bX M λq=>((w_ i).any λj=>HH g a v j&&decide ((j,q)∈g.pr))||((if i<i+1 then HH g a v i else c i)&&decide ((i,q)∈g.pr)))=bX M λq=>(w_ (i+1)).any λj=>HH g a v j&&decide ((j,q)∈g.pr):=q7 λq _=>by grind
  grind
 ·rintro s rfl;unfold kO;refine ba (aa ?_);rw[mY];have h:(bX M λj=>if j<M then HH g a v j else c j)=bX M (HH g a v):=q7 λj y=>by grind
  have k:(bX M λq=>(w_ M).any λj=>HH g a v j&&decide ((j,q)∈g.pr))=bX M (Xx g (HH g a v)):=q7 λq _=>by refine Bool.eq_iff_iff.2 ?_;rw[nxF_iff,ae_];grind
  grind
theorem Nw{a:List Int}{i:Nat}(h:i<a.length):jy (a.take (i+1))=(jy (a.take i)&&(decide (0<=a[i])&&decide (a[i]<=4294967295))):=by unfold jy;rw[m_,b_ h,ag_];simp
theorem Nx{a:List Int}{i:Nat}(h:jy (a.take i)=false):jy a=false:=by
 cases e:jy a;·rfl
 ·have:jy (a.take i)=true:=by unfold jy at e⊢;grind
  grind
theorem O6{M:Nat}(l:M<=1000000)(g:G)(f:g.sp.length=M)(d:∀p q,(p,q)∈g.pr->p<M)(fi la:List Int)(em:Bool)(a:List Int)(hp:a.length<=1000000): Wp (λn=>aS n (kP (q9 tbl n) n a) ((0:Int),gD M g.pr,g.sp.map (·.1),g.sp.map (·.2),fi,la,em,bX M (qT g []).1,bX M (qT g []).2,())) λt=>match t with | .inl e=>e=(false,())/\jy a=false | .inr t=>jy a=true/\t=(fi,la,em,bX M (qT g a).2,()):=by
 refine a8 (N:=a.length) (I:=λi s=>jy (a.take i)=true/\s=((i:Int),gD M g.pr,g.sp.map (·.1),g.sp.map (·.2),fi,la,em,bX M (qT g (a.take i)).1,bX M (qT g (a.take i)).2,())) ⟨rfl,by simp⟩ ?_ ?_
 ·rintro i s c ⟨hr,rfl⟩;have j:=Nw c;rw[hr,t_]at j;unfold kP;refine bD c (aN c ?_);refine ae (cY (b:=decide (a[i]>4294967295)) (λ_=>aa rfl) ?_);refine aE (λh=>aa ⟨rfl,?_⟩) λh=>?_;·refine Nx (i:=i+1) ?_;grind
  ·have h:(decide (a[i]<0)||decide (a[i]>4294967295))=false:=h;simp only[A_,decide_eq_false_iff_not]at h;have hl:(bX M (qT g (a.take i)).1).length=M:=mY _ _;refine aA ?_ ?_;·grind
   have k:=PN l g f d (i:Int) fi la em (qT g (a.take i)).1 (qT g (a.take i)).2 a[i];have r:c_ (s_ ((bX M (qT g (a.take i)).1).length:Int)) (Ty.zero tB)=bX M λ_=>false:=by rw[hl,h_];exact N6 M
   rw[<-r]at k;refine ae (Ev.wp_mono k ?_);rintro t rfl;refine aa ⟨?_,?_⟩;·grind
   ·rw[ar c (by omega),Sj c];rfl
 ·rintro s ⟨hr,rfl⟩;unfold kP;rw[j_]at hr;refine ba (aa ⟨hr,?_⟩);simp
theorem Hm(r:Rx)(hs:sz r<=100000)(a:List Int)(hp:a.length<=1000000): aJ tbl nM [.d .rx r,.d (.list tI) a] [] dG (dR r&&(jy a&&uk (gL r 0) a),()):=by
 refine aC rfl (aF IF rfl (λO m=>IX O m r a) ?_);unfold yE;refine an (J6 r (by omega)) (aE (λh=>aa ?_) λh=>?_);·grind
 have y:dR r=true:=by grind
 rw[y,t_];have J:cnt r<=100000:=H_ (Tp r) hs;obtain⟨w,_⟩:=qF r y 0;have b:=ud r 0;refine an (Hp r (by omega)) (aA ?_ (ae (Ev.wp_mono (Pj (M:=cnt r) (by omega)) ?_)));·grind
 rintro t rfl;have f:=xJ (M:=cnt r) (by omega) r y (by omega) [] [] [] rfl (by simp);simp only[C_,List.length_nil]at f;generalize hg:gL r 0=g at*;have hl:(gD (cnt r) g.pr).length=cnt r:=Gn _ _;have H:c_ (s_ ((gD (cnt r) g.pr).length:Int)) (Ty.zero tB)=bX (cnt r) λ_=>false:=by rw[hl,h_];exact N6 _
 refine an f (aA ?_ ?_);·grind
 have A:=KZ (M:=cnt r) (by omega) g.fi g.la g.em (g.sp.map (·.1)) (g.sp.map (·.2)) (gD (cnt r) g.pr) (λp hp=>by have:=b.fi p hp;omega) (by have:=b.fl;omega);rw[<-H]at A;refine ae (Ev.wp_mono A ?_);rintro t rfl;have C:(bX (cnt r) λp=>decide (p∈g.fi)).length=cnt r:=mY _ _;have z:c_ (s_ ((bX (cnt r) λp=>decide (p∈g.fi)).length:Int)) (Ty.zero tB)=bX (cnt r) λ_=>false:=by grind
 refine aA ?_ ?_;·grind
 have B:=O6 (M:=cnt r) (by omega) g w (λp q h=>by have:=(b.pr p q h).1;omega) (cL g.fi) (cL g.la) g.em a hp;have x:(bX (cnt r) (qT g []).2)=c_ (s_ ((bX (cnt r) λp=>decide (p∈g.fi)).length:Int)) (Ty.zero tB):=z.symm;rw[x]at B;refine ae (Ev.wp_mono B ?_);rintro(e|t) k;·obtain⟨rfl,hr⟩:=k;refine aa ?_;grind
 obtain⟨hr,rfl⟩:=k;rw[hr,t_];refine aE (λh=>aa ?_) λh=>?_
 ·have:a=[]:=List.eq_nil_of_length_eq_zero (by grind)
  subst this;rfl
 ·have F:a.isEmpty=false:=by grind
  have v:uk g a=g.la.any (qT g a).2:=by unfold uk;grind
  rw[v];have d:Wp (λn=>aS n (kQ (q9 tbl n) n (cL g.fi,cL g.la,g.em,bX (cnt r) (qT g a).2,())) ((0:Int),bX (cnt r) (qT g a).2,())) λt=>match t with
   | .inl e=>e=(true,())/\g.la.any (qT g a).2=true
   | .inr _=>g.la.any (qT g a).2=false:=by
   refine a8 (N:=(cL g.la).length) (I:=λi s=>s=((i:Int),bX (cnt r) (qT g a).2,())/\(g.la.take i).any (qT g a).2=false) ⟨rfl,rfl⟩ ?_ ?_
   ·rintro i s c ⟨rfl,j⟩;have l:i<g.la.length:=by rw[d6]at c;omega
    have E:=a_ l;have u:g.la[i]<cnt r:=by have:=b.la _ E;omega
    have D:=b.ll;unfold kQ;refine bD c (aN c ?_);rw[Kn l];refine Ap u (aE (λh=>aa ⟨rfl,?_⟩) λh=>aa ⟨?_,?_⟩);·grind
    ·rw[ar c (by rw[d6];omega)]
    ·rw[m_,b_ l,List.any_append,j];grind
   ·rintro s ⟨rfl,j⟩;unfold kQ;refine ba (aa ?_);rw[d6,j_]at j;omega
  refine ae (Ev.wp_mono d ?_);rintro(e|t) k;·obtain⟨rfl,j⟩:=k;refine aa ?_;grind
  ·refine aa ?_;grind
structure CurR(M:Nat)(C:List Int)(can:Nat->Bool):Prop where
 bd:∀x∈C,0<=x/\x<(M:Int)
 mem:∀q:Nat,(q:Int)∈C↔can q=true
 len:C.length<=10000000000
theorem te{α β:Type}{m:Option α}{a:α}{f:Nat->α->Option β}{Q:β->Prop}(h:m=some a)(k:Wp (λn=>f n a) Q):Wp (λn=>e_ m (f n)) Q:=by grind
open Classical in
noncomputable def mL(s:List UInt8):Int:=if ∃r,pi r=0/\kf r=s then 0 else 2
theorem Wz{s:List UInt8}{c:Rx×Int×Unit}(h:ParsedX s c):c.2.1=mL s:=by
 unfold mL;rcases h with⟨r,a,b,rfl⟩|⟨a,rfl⟩;·rw[if_pos ⟨r,a,b⟩]
 grind
theorem uM(s:List UInt8)(hs:s.length<=9223372036854775807):aJ tbl ir [.d tS s] [] eb (nb s,()):=by
 refine aC rfl (aF Ey rfl (λO n=>EH O n s) ?_);unfold uS;refine ae (E0 (xs:=s) (P:=λc=>Gp c=true) (e:=(false,())) (g:=()) (λi a=>?_) ?_ (λh=>?_) λh=>?_);·unfold l8;refine bD a (aN a ?_);refine ae (cy (b:=decide ((s[i].toNat:Int)<=122)) (λ_=>aa rfl) ?_);refine ae (cY (b:=decide ((s[i].toNat:Int)>=65)&&decide ((s[i].toNat:Int)<=90)) (λ_=>ae (cy (b:=decide ((s[i].toNat:Int)<=90)) (λ_=>aa rfl) (aa rfl))) ?_);refine ae (cY (b:=decide ((s[i].toNat:Int)>=48)&&decide ((s[i].toNat:Int)<=57)) (λ_=>ae (cy (b:=decide ((s[i].toNat:Int)<=57)) (λ_=>aa rfl) (aa rfl))) ?_);refine ae (cY (b:=((s[i].toNat:Int)==45)) (λ_=>aa rfl) (uE ?_ (by rw[ar a hs])));show(!Gp s[i])=true↔_;cases Gp s[i]<;>simp
 ·unfold l8;exact ba (aa rfl)
 ·refine ae (cy (b:=decide ((s.length:Int)<=32)) (λ_=>aa rfl) (aa ?_));have e:nb s=(decide ((s.length:Int)>=1)&&decide ((s.length:Int)<=32)):=by unfold nb;rw[ad_.2 h,t_];congr 1<;>exact decide_eq_decide.2 (by omega)
  rw[e]
 ·refine aa ?_;have e:nb s=false:=by
   unfold nb;cases e:s.all Gp;·rfl
   ·exact absurd (ad_.1 e) h
  rw[e]
theorem lV(l:List (List UInt8))(i:Nat)(f:i<l.length)(hl:l.length<=9223372036854775807)(hs:l[i].length<=9223372036854775807): aJ tbl fm [.d (.list tS) ((l.take (s_ (i:Int))).drop 0),.d tS l[i]] [] cw (qK l i,()):=by
 refine aC rfl (aF GU rfl (λO n=>G8 O n _ _) ?_);unfold vK;rw[F_,h_];have d:qK l i=if nb l[i]=false then 1 else if 0<i/\O4 l[i] (l.getD (i - 1) [])=true then 16 else 0:=by unfold qK;grind
 have a:(l.take i).length=i:=by grind
 refine an (uM l[i] hs) (aE (λh=>aa ?_) λh=>?_);·grind
 have hn:¬nb l[i]=false:=by grind
 refine ae (cy (b:=O4 l[i] (l.getD (i - 1) [])) (λc=>?_) (aE (λh=>aa ?_) λh=>aa ?_))
 ·have c:=of_decide_eq_true c;rw[a]at c⊢;have e:d_ .i64 ((i:Int) - 1)=((i - 1:Nat):Int):=by rw[wrap_i64 (by omega) (by omega)];omega
  rw[e];refine E5 (x:=l.getD (i - 1) []) ?_ (aa rfl);grind
 all_goals grind
abbrev yN:Ty:=pr [.list tS,.list tS,.list tS,.list tS]
def bT(s:PS):yN.den:=(s.1.map (·.1),s.2.1.map (·.1),s.2.2.1.map (·.1),s.2.2.2.1.map (·.1),())
theorem xF{α β:Type}{f:α->β}{l:List α}{i:Nat}(a:i<l.length):(l.take i).map f++[f l[i]]=(l.take (i+1)).map f:=by rw[<-R_ a,x_];rfl
theorem E9(s:PS)(c:s.1.length<=1048576)(d:s.2.1.length<=1048576)(e:s.2.2.1.length<=1048576)(g:s.2.2.2.1.length<=1048576):aJ tbl me [.d yS s] [] jx (bT s,()):=by
 refine aC rfl (aF GV rfl (λO n=>G9 O n s) ?_);unfold vL;have hg:∀{α:Type} {l:List α} {f:α->List UInt8} {i:Nat},i<l.length->l.length<=1048576->decide ((((l.take i).map f).length+1)*16<=140737488355328)=true:=fun{α l f i} a hl=>by grind
 refine ae (a8 (N:=s.1.length) (I:=λi t=>t=((i:Int),(s.1.take i).map (·.1),())) rfl (λi t a b=>?_) λt b=>?_);·subst b;unfold np;refine bD a (aN a (aA rfl (aA (hg a c) (aA rfl (aa ?_)))));simp only;rw[ar a (by omega),xF (f:=λx:X4=>x.1) a]
 subst b;unfold np;refine ba (aa ?_);rw[l_ (E_ _)];refine ae (a8 (N:=s.2.1.length) (I:=λi t=>t=((i:Int),s.1.map (·.1),(s.2.1.take i).map (·.1),())) rfl (λi t a b=>?_) λt b=>?_);·subst b;unfold nq;refine bD a (aN a (aA rfl (aA (hg a d) (aA rfl (aa ?_)))));simp only;rw[ar a (by omega),xF (f:=λx:X3=>x.1) a]
 subst b;unfold nq;refine ba (aa ?_);rw[l_ (E_ _)];refine ae (a8 (N:=s.2.2.1.length) (I:=λi t=>t=((i:Int),s.1.map (·.1),s.2.1.map (·.1),(s.2.2.1.take i).map (·.1),())) rfl (λi t a b=>?_) λt b=>?_);·subst b;unfold nr;refine bD a (aN a (aA rfl (aA (hg a e) (aA rfl (aa ?_)))));simp only;rw[ar a (by omega),xF (f:=λx:X2=>x.1) a]
 subst b;unfold nr;refine ba (aa ?_);rw[l_ (E_ _)];refine ae (a8 (N:=s.2.2.2.1.length) (I:=λi t=>t=((i:Int),s.1.map (·.1),s.2.1.map (·.1),s.2.2.1.map (·.1),(s.2.2.2.1.take i).map (·.1),())) rfl (λi t a b=>?_) λt b=>?_);·subst b;unfold nu;refine bD a (aN a (aA rfl (aA (hg a g) (aA rfl (aa ?_)))));simp only;rw[ar a (by omega),xF (f:=λx:pG=>x.1) a]
 subst b;unfold nu;refine ba (aa (aa ?_));rw[l_ (E_ _)];rfl
theorem cd(n a b:Int):aJ tbl bM [.d tI n,.d tI a,.d tI b] [] bH (decide (a<=n)&&decide (n<=b),()):=by refine aC rfl (aF Ez rfl (λO k=>EI O k n a b) ?_);unfold uT;exact ae (cy (b:=decide (n<=b)) (λ_=>aa rfl) (aa rfl))
theorem lU(l:List (List UInt8))(n:List UInt8)(hl:l.length<=9223372036854775807):aJ tbl iP [.d (.list tS) l,.d tS n] [] dX (l.any (·==n),()):=by
 refine aC rfl (aF Ck rfl (λO k=>Cz O k l n) ?_);unfold rz;refine ae (Cu (xs:=l) (p:=(·==n)) (g:=λ_=>(true,())) (e:=()) (λi r c=>?_) ?_ ?_)
 ·unfold j7;have a:=(q_.1 c).1;refine bD a (E5 c (aE (λh=>aa ?_) λh=>aa ?_));·grind
  ·rw[if_neg (by grind),ar a hl]
 ·unfold j7;exact ba (aa rfl)
 ·cases e:l.find? (·==n)with
  |some r=>have b:l.any (·==n)=true:=ae_.2 ⟨r,List.mem_of_find?_eq_some e,List.find?_some (p:=(·==n)) e⟩;rw[b];exact aa rfl|none=>
   have b:l.any (·==n)=false:=by grind
   rw[b];exact aa rfl
theorem sS(k N d pl:Int)(nm:List UInt8)(e:Bool):(true ^^ rJ yM (k,nm,N,(d,pl,()),e,()) (k,nm,0,(0,0,()),e,()))=true↔(N≠0\/d≠0\/pl≠0):=by by_cases a:N=0<;>by_cases b:d=0<;>by_cases c:pl=0<;>simp[rJ,a,b,c]
theorem Uo(k N d pl:Int)(nm:List UInt8)(e:Bool):(true ^^ rJ yM (k,nm,N,(d,pl,()),e,()) (k,[],N,(0,0,()),e,()))=true↔(nm≠[]\/d≠0\/pl≠0):=by by_cases a:nm=[]<;>by_cases b:d=0<;>by_cases c:pl=0<;>simp[rJ,a,b,c]
theorem T9(k N d pl:Int)(nm:List UInt8)(c:Bool):(true ^^ rJ yM (k,nm,N,(d,pl,()),c,()) (k,[],0,(d,pl,()),c,()))=true↔(nm≠[]\/N≠0):=by by_cases a:nm=[]<;>by_cases b:N=0<;>simp[rJ,a,b]
theorem oN{b:Bool}{P:Prop}(h:b=false)(e:b=true↔P):¬P:=λp=>by rw[e.2 p]at h;cases h
theorem xI(s:PS)(m:VC)(hs:okD yS s)(H:qL m.2.2.2.1.1):aJ tbl gm [.d yN (bT s),.d yM m] [] bl (vo s m,()):=by
 obtain⟨k,nm,N,⟨d,pl,⟨⟩⟩,g,⟨⟩⟩:=m;refine aC rfl (aF yb rfl (λO n=>yk O n (bT s) (k,nm,N,(d,pl,()),g,())) ?_);unfold pF;refine ae (ae ?_);have j:(s.1.map (·.1)).length<=9223372036854775807:=by rw[g_];exact hs.1.1
 have l:(s.2.1.map (·.1)).length<=9223372036854775807:=by rw[g_];exact hs.2.1.1
 have p:(s.2.2.1.map (·.1)).length<=9223372036854775807:=by rw[g_];exact hs.2.2.1.1
 by_cases u:k=1
 ·subst u;rw[z8 (.inl rfl)];have c:(s.1.map (·.1)).any (·==nm)=TR s 1 nm:=by rw[ac_];rfl
  refine bb rfl (aa (bb rfl (aE (λh=>aa (aa ?_)) λh=>?_)));·rw[if_pos ((sS _ _ _ _ _ _).1 h)]
  ·rw[if_neg (oN h (sS _ _ _ _ _ _))];refine te (a:=s.1.map (·.1)) rfl (an (lU _ nm j) ?_);rw[c];refine aE (λh=>aa (aa ?_)) λh=>aa (aa ?_);all_goals grind
 by_cases v:k=2
 ·subst v;rw[z8 (.inr (.inl rfl))];have c:(s.2.1.map (·.1)).any (·==nm)=TR s 2 nm:=by rw[ac_];rfl
  refine aw rfl (bb rfl (aa (bb rfl (aE (λh=>aa (aa ?_)) λh=>?_))));·rw[if_pos ((sS _ _ _ _ _ _).1 h)]
  ·rw[if_neg (oN h (sS _ _ _ _ _ _))];refine te (a:=s.2.1.map (·.1)) rfl (an (lU _ nm l) ?_);rw[c];refine aE (λh=>aa (aa ?_)) λh=>aa (aa ?_);all_goals grind
 by_cases w:k=3
 ·subst w;rw[z8 (.inr (.inr rfl))];have c:(s.2.2.1.map (·.1)).any (·==nm)=TR s 3 nm:=by rw[ac_];rfl
  refine aw rfl (aw rfl (aa (bb rfl (aE (λh=>aa (aa ?_)) λh=>?_))));·rw[if_pos ((sS _ _ _ _ _ _).1 h)]
  ·rw[if_neg (oN h (sS _ _ _ _ _ _))];refine te (a:=s.2.2.1.map (·.1)) rfl (an (lU _ nm p) ?_);rw[c];refine aE (λh=>aa (aa ?_)) λh=>aa (aa ?_);all_goals grind
 refine aw (beq_eq_false_iff_ne.2 u) (aw (beq_eq_false_iff_ne.2 v) (aa (aw (beq_eq_false_iff_ne.2 w) ?_)));by_cases B:k=7
 ·subst B;rw[T4];refine bb rfl (ae (cY (b:= !lD (d,pl,())) (λ_=>an (jd (d,pl,()) H) (aa rfl)) ?_));refine aE (λh=>aa (aa ?_)) λh=>aa (aa ?_)
  ·by_cases e:nm≠[]\/N≠0;·grind
   ·rw[if_neg e,if_neg];intro h';rcases Bool.or_eq_true_iff.1 h with h|h;·exact e ((T9 _ _ _ _ _ _).1 h)
    grind
  ·simp only[A_]at h;rw[if_neg (oN h.1 (T9 _ _ _ _ _ _)),if_pos (by grind)]
 refine aw (beq_eq_false_iff_ne.2 B) ?_;have num:∀lo f:Int,(k=4\/k=5\/k=6\/k=8)->Xu k=lo->TN k=f->Wp (λn=>
  bif (true ^^ rJ yM (k,nm,N,(d,pl,()),g,()) (k,([]:List UInt8),N,((0:Int),(0:Int),()),g,()))then aL bl ((1:Int),())else
  e_ (aB (q9 tbl n) bM [.d tI N,.d tI lo,.d tI f] [] bH) λr=>
  bif (!r.1)then aL bl ((5:Int),())else aL bl ((0:Int),()))
  (λx=>x=some (jr bl (vo s (k,nm,N,(d,pl,()),g,()),()))):=λlo f F D E=>by
  rw[T5 F,D,E]
  refine aE (λh=>aa ?_) λh=>?_
  ·rw[if_pos ((Uo _ _ _ _ _ _).1 h)]
  ·rw[if_neg (oN h (Uo _ _ _ _ _ _))];refine an (cd N lo f) (aE (λh=>aa ?_) λh=>aa ?_);all_goals grind
 by_cases y:k=4;·subst y;exact bb rfl (aa (num 1 7 (by simp) rfl rfl))
 by_cases A:k=6;·subst A;exact aw rfl (bb rfl (aa (num 0 16777216 (by simp) rfl rfl)))
 by_cases C:k=8;·subst C;exact aw rfl (aw rfl (bb rfl (aa (num 0 2000 (by simp) rfl rfl))))
 by_cases z:k=5;·subst z;exact aw rfl (aw rfl (aw rfl (bb rfl (aa (num 0 4294967295 (by simp) rfl rfl)))))
 refine aw (beq_eq_false_iff_ne.2 y) (aw (beq_eq_false_iff_ne.2 A) (aw (beq_eq_false_iff_ne.2 C) (aw (beq_eq_false_iff_ne.2 z) (aa (aa ?_)))));rw[Nc (show k<1\/8<k by omega)]
theorem ne_eqD{a b:Au}:(true ^^ rJ yA a b)=true↔¬a=b:=by rw[<-Wa];cases rJ yA a b<;>simp
theorem vF(a:Au):aJ tbl fF [.d yA a] [] bj (jb a,()):=by
 refine aC rfl (aF wS rfl (λO n=>xd O n a) ?_);unfold ot;refine ae (ae ?_);by_cases y:a.1<1\/8<a.1;·have j:∀k:Int,1<=k->k<=8->(a.1==k)=false:=λk l p=>beq_eq_false_iff_ne.2 (by omega);refine aw (j 1 (by simp) (by simp)) (aw (j 2 (by simp) (by simp)) (aa (aw (j 4 (by simp) (by simp)) (aw (j 3 (by simp) (by simp)) (aw (j 5 (by simp) (by simp)) ?_)))));refine ae (aw (j 6 (by simp) (by simp)) (aa (aw (j 7 (by simp) (by simp)) (aw (j 8 (by simp) (by simp)) (aa (aa ?_))))));rw[show jb a=15 from if_pos y]
 have d:∀(only:Au) (f:Bool),zo a=only->rT a=f->Wp (λ_=>bif (true ^^ rJ yA a only)then aL bj ((1:Int),())else bif (!f)then aL bj ((5:Int),())else aL bj ((0:Int),())) (λx=>x=some (jr bj (jb a,()))):=λonly f l p=>by
  have e:jb a=if ¬a=only then 1 else if f=false then 5 else 0:=by unfold jb;grind
  rw[e]
  refine aE (λh=>aa ?_) λh=>aE (λh'=>aa ?_) λh'=>aa ?_
  ·rw[if_pos (ne_eqD.1 h)]
  ·rw[if_neg (λx=>by rw[ne_eqD.2 x]at h;grind),if_pos (by grind)]
  ·rw[if_neg (λx=>by rw[ne_eqD.2 x]at h;grind),if_neg (by grind)]
 have g:∀{k:Int},a.1≠k->(a.1==k)=false:=λh=>beq_eq_false_iff_ne.2 h;have c:∀{k:Int},a.1=k->(a.1==k)=true:=λh=>beq_iff_eq.2 h;by_cases l:a.1=1
 ·refine bb (c l) (aa (bb (c l) (an (cd a.2.1 0 4294967295) (aa (d _ _ ?_ ?_)))));·unfold zo;grind
  ·unfold rT;grind
 refine aw (g l) ?_;by_cases p:a.1=2
 ·refine bb (c p) (aa (bb (c p) (an (cd a.2.1 0 4294967295) (aa (d _ _ ?_ ?_)))));·unfold zo;grind
  ·unfold rT;grind
 refine aw (g p) (aa ?_);by_cases u:a.1=4
 ·refine bb (c u) (an (cd a.2.1 0 4294967295) (aa (d _ _ ?_ ?_)));·unfold zo;grind
  ·unfold rT;grind
 refine aw (g u) ?_;by_cases s:a.1=3
 ·refine bb (c s) (an (cd a.2.1 0 16777216) (aa (d _ _ ?_ ?_)));·unfold zo;grind
  ·unfold rT;grind
 refine aw (g s) ?_;by_cases v:a.1=5
 ·refine bb (c v) (aa (d _ _ ?_ ?_));·unfold zo;grind
  ·unfold rT;grind
 refine aw (g v) (ae ?_);by_cases r:a.1=6
 ·refine bb (c r) (aa (bb (c r) (aa (d _ _ ?_ ?_))));·unfold zo;grind
  ·unfold rT;grind
 refine aw (g r) (aa ?_);by_cases w:a.1=7
 ·refine bb (c w) (aa (d _ _ ?_ ?_));·unfold zo;grind
  ·unfold rT;grind
 refine aw (g w) (bb (c (by omega)) (an (cd a.2.2.1 1 4294967295) ?_));refine ae (cy (b:=decide (1<=a.2.1)&&decide (a.2.1<=16)) (λ_=>an (cd a.2.1 1 16) (aa rfl)) (aa (d _ _ ?_ ?_)));·unfold zo;grind
 ·unfold rT;grind
theorem tt(r:Yf):aJ tbl eO [.d yC r] [] cg (vg r,()):=by
 refine aC rfl (aF uy rfl (λO n=>uG O n r) ?_);unfold lX;refine an (cd r.2.1 (-1) 65535) (ae (cY (b:= !(decide (-1<=r.2.2.1)&&decide (r.2.2.1<=65535))) (λ_=>an (cd r.2.2.1 (-1) 65535) (aa rfl)) ?_));refine aE (λh=>aa ?_) λh=>aa ?_;·rw[show vg r=5 from if_pos (by grind)]
 ·rw[show vg r=0 from if_neg (by grind)]
theorem Te{α:Type}{p:α->Bool}{l:List α}:l.any p=(l.find? p).isSome:=by grind
theorem zI(s:PS)(hs:okD yS s)(a:List tn)(t:tn)(w:a.length<=9223372036854775807)(v:okD yT t):aJ tbl hZ [.d yN (bT s),.d (.list yT) a,.d yT t] [] br (jB s a t,()):=by
 refine aC rfl (aF Am rfl (λO n=>As O n (bT s) a t) ?_);unfold ql;have j:∀m∈t.2.1,qL m.2.2.2.1.1:=λm j=>((v.2.1.2 m j).2.2.2.1).1;refine an (uM t.1 v.1) (aE (λh=>aa ?_) λh=>?_);·rw[show jB s a t=1 from if_pos (by grind)]
 have hn:¬nb t.1=false:=by grind
 refine ae (Cu (xs:=a) (p:=(·.1==t.1)) (g:=λ_=>((7:Int),())) (e:=()) (λi r c=>?_) ?_ ?_)
 ·unfold jg;have d:=(q_.1 c).1;refine bD d (E5 c (aE (λh=>aa ?_) λh=>aa ?_));·grind
  ·rw[if_neg (by grind),ar d w]
 ·unfold jg;exact ba (aa rfl)
 have b:a.any (·.1==t.1)=(a.find? (·.1==t.1)).isSome:=Te;cases e:a.find? (·.1==t.1)with
 |some r=>rw[e]at b;refine aa ?_;have b:a.any (·.1==t.1)=true:=b;rw[show jB s a t=7 from by unfold jB;grind]|none=>
  rw[e]at b;have z:¬a.any (·.1==t.1)=true:=by grind
  refine aE (λh=>aa ?_) λh=>?_;·rw[show jB s a t=4 from by unfold jB;grind]
  have x:¬t.2.1.length>64:=by grind
  refine ae (Ct (l:=t.2.1) (f:=vo s) (enc:=λi=>((i:Int),())) (oB:=λe=>(e,())) (oE:=()) (λi c=>?_) ?_ ?_)
  ·unfold jh;refine bD c (aN c (an (xI s _ hs (j _ (a_ c))) (aE (λh=>aa ?_) λh=>aa ?_)));·grind
   ·rw[if_pos (by grind),ar c (by omega)]
  ·unfold jh;exact ba (aa rfl)
  by_cases k:d9 (vo s) t.2.1=0
  ·rw[if_pos k];refine aE (λh=>aa ?_) λh=>?_;·rw[show jB s a t=4 from by unfold jB;grind]
   have y:¬t.2.2.1.length>64:=by grind
   refine ae (Ct (l:=t.2.2.1) (f:=jb) (enc:=λi=>((i:Int),())) (oB:=λe=>(e,())) (oE:=()) (λi c=>?_) ?_ ?_)
   ·unfold ji;refine bD c (aN c (an (vF _) (aE (λh=>aa ?_) λh=>aa ?_)));·grind
    ·rw[if_pos (by grind),ar c (by omega)]
   ·unfold ji;exact ba (aa rfl)
   by_cases u:d9 jb t.2.2.1=0
   ·rw[if_pos u];refine an (cd t.2.2.2.1 1 3) (aE (λh=>aa ?_) λh=>aa ?_);·rw[show jB s a t=15 from by unfold jB;grind]
    ·rw[show jB s a t=0 from by unfold jB;grind]
   ·rw[if_neg u];refine aa ?_;rw[show jB s a t=d9 jb t.2.2.1 from by unfold jB;grind]
  ·rw[if_neg k];refine aa ?_;rw[show jB s a t=d9 (vo s) t.2.1 from by unfold jB;grind]
def SD(s:PS)(l:List tn)(i:Nat):Int:=match l[i]? with|some t=>jB s (l.take i) t|none=>0
theorem WA(s:PS)(p:pG):mM s p=if oD (SD s p.2.1) p.2.1.length≠0 then oD (SD s p.2.1) p.2.1.length else if p.2.2.1≠1/\p.2.2.1≠2 then 15 else 0:=rfl
theorem Vv{s:PS}{l:List tn}{i:Nat}(a:i<l.length):SD s l i=jB s (l.take i) l[i]:=by unfold SD;rw[b_ a]
theorem vG(s:PS)(hs:okD yS s)(p:pG)(hp:okD yO p):aJ tbl fG [.d yN (bT s),.d yO p] [] b9 (mM s p,()):=by
 refine aC rfl (aF wT rfl (λO n=>xe O n (bT s) p) ?_);unfold ou;have hl:p.2.1.length<=9223372036854775807:=hp.2.1.1;refine ae (Ao (N:=p.2.1.length) (f:=SD s p.2.1) (enc:=λi=>((i:Int),())) (oB:=λe=>(e,())) (oE:=()) (λi a=>?_) ?_ ?_)
 ·unfold gV;refine bD a (aN a (aA (decide_eq_true (by simp)) (aA (by grind) ?_)));rw[F_,h_];refine an (zI s hs _ _ (by grind) (hp.2.1.2 _ (a_ a))) ?_;rw[<-Vv a];refine aE (λh=>aa ?_) λh=>aa ?_;·grind
  ·rw[if_pos (by grind),ar a hl]
 ·unfold gV;exact ba (aa rfl)
 rw[WA];by_cases e:oD (SD s p.2.1) p.2.1.length=0;·rw[if_pos e,if_neg (not_not_intro e)];refine ae (cy (b:=(p.2.2.1 != 2)) (λ_=>aa rfl) (aE (λh=>aa ?_) λh=>aa ?_));all_goals grind
 ·rw[if_neg e,if_pos e];exact aa rfl
theorem VL(v:List VT)(b:∀r∈v,qL r.2.1.1)(i:Nat)(a:i<v.length):aJ tbl di [.d tI (i:Int),.ptr 0 0] [.box bC [.d (.list yR) v]] dn (sV v[i],v,()):=by refine aC rfl (aF vr rfl (λO n=>vz O n (i:Int) v) ?_);unfold m4;exact aN a (an (yl _ (b _ (a_ a))) (aa rfl))
theorem VM(v:List Yg)(e:∀r∈v,r.2.1.length<=1048576)(i:Nat)(a:i<v.length):aJ tbl dj [.d tI (i:Int),.ptr 0 0] [.box bL [.d (.list yH) v]] dq (mL v[i].2.1,v,()):=by refine aC rfl (aF vt rfl (λO n=>vA O n (i:Int) v) ?_);unfold m5;obtain⟨c,b,d⟩:=yn v[i].2.1 (e _ (a_ a));rw[<-Wz b];exact aN a (an d (aa rfl))
theorem VN(v:List Yf)(b:∀r∈v,True)(i:Nat)(a:i<v.length):aJ tbl dm [.d tI (i:Int),.ptr 0 0] [.box bp [.d (.list yC) v]] dt (vg v[i],v,()):=by refine aC rfl (aF vu rfl (λO n=>vB O n (i:Int) v) ?_);unfold m6;exact aN a (an (tt _) (aa rfl))
theorem SS(v:List VT)(hl:v.length<=9223372036854775807)(b:∀r∈v,qL r.2.1.1):aJ tbl iR [.d tI (v.length:Int),.clo gQ [0]] [.box bC [.d (.list yR) v]] dY (d9 sV v,v,()):=by
 refine aC rfl (aF Cn rfl (λO n=>CE O n (v.length:Int) v) ?_);unfold rB;refine ae (Ct (l:=v) (f:=sV) (enc:=λi=>((i:Int),v,())) (oB:=λe=>(e,v,())) (oE:=(v,())) (λi a=>?_) ?_ ?_)
 ·unfold j9;refine bD a (an (VL v b i a) (aE (λh=>aa ?_) λh=>aa ?_));·rw[if_neg (by simpa using h)]
  ·rw[if_pos (by simpa using h),ar a hl]
 ·unfold j9;exact ba (aa rfl)
 by_cases e:d9 sV v=0;·rw[if_pos e];refine aa ?_;rw[e]
 ·rw[if_neg e];exact aa rfl
theorem SU(v:List Yg)(hl:v.length<=9223372036854775807)(b:∀r∈v,r.2.1.length<=1048576):aJ tbl fK [.d tI (v.length:Int),.clo gR [0]] [.box bL [.d (.list yH) v]] cJ (d9 (λr=>mL r.2.1) v,v,()):=by
 refine aC rfl (aF wX rfl (λO n=>xj O n (v.length:Int) v) ?_);unfold oz;refine ae (Ct (l:=v) (f:=(λr=>mL r.2.1)) (enc:=λi=>((i:Int),v,())) (oB:=λe=>(e,v,())) (oE:=(v,())) (λi a=>?_) ?_ ?_)
 ·unfold gZ;refine bD a (an (VM v b i a) (aE (λh=>aa ?_) λh=>aa ?_));·rw[if_neg (by simpa using h)]
  ·rw[if_pos (by simpa using h),ar a hl]
 ·unfold gZ;exact ba (aa rfl)
 by_cases e:d9 (λr=>mL r.2.1) v=0;·rw[if_pos e];refine aa ?_;rw[e]
 ·rw[if_neg e];exact aa rfl
theorem SV(v:List Yf)(hl:v.length<=9223372036854775807)(b:∀r∈v,True):aJ tbl fL [.d tI (v.length:Int),.clo gS [0]] [.box bp [.d (.list yC) v]] cK (d9 vg v,v,()):=by
 refine aC rfl (aF wY rfl (λO n=>xk O n (v.length:Int) v) ?_);unfold oA;refine ae (Ct (l:=v) (f:=vg) (enc:=λi=>((i:Int),v,())) (oB:=λe=>(e,v,())) (oE:=(v,())) (λi a=>?_) ?_ ?_)
 ·unfold hH;refine bD a (an (VN v b i a) (aE (λh=>aa ?_) λh=>aa ?_));·rw[if_neg (by simpa using h)]
  ·rw[if_pos (by simpa using h),ar a hl]
 ·unfold hH;exact ba (aa rfl)
 by_cases e:d9 vg v=0;·rw[if_pos e];refine aa ?_;rw[e]
 ·rw[if_neg e];exact aa rfl
theorem EP{α:Type}{nm:α->List UInt8}{sz:α->Nat}{a:α->Int}{l:List α}{i:Nat}(b:i<l.length):LV nm sz a l i=if qK (l.map nm) i≠0 then qK (l.map nm) i else if sz l[i]>64 then 4 else a l[i]:=by unfold LV;grind
theorem YH{s:PS}(h:SmP s){i:Nat}(a:i<s.1.length):s.1[i].2.1.length<=9223372036854775807/\∀r∈s.1[i].2.1,qL r.2.1.1:=⟨(h.ok.1.2 _ (a_ a)).2.1.1,λr hr=>((h.ok.1.2 _ (a_ a)).2.1.2 r hr).2.1.1⟩
theorem YI{s:PS}(h:SmP s){i:Nat}(a:i<s.2.1.length):s.2.1[i].2.1.length<=9223372036854775807/\∀r∈s.2.1[i].2.1,r.2.1.length<=1048576:=⟨(h.ok.2.1.2 _ (a_ a)).2.1.1,λr hr=>h.pt _ (a_ a) r hr⟩
theorem YJ{s:PS}(h:SmP s){i:Nat}(a:i<s.2.2.1.length):s.2.2.1[i].2.1.length<=9223372036854775807/\∀r∈s.2.2.1[i].2.1,True:=⟨(h.ok.2.2.1.2 _ (a_ a)).2.1.1,λ_ _=>trivial⟩
theorem Z8{s:PS}(h:SmP s){i:Nat}(a:i<s.1.length):s.1[i].1.length<=9223372036854775807:=(h.ok.1.2 _ (a_ a)).1
theorem Z9{s:PS}(h:SmP s){i:Nat}(a:i<s.2.1.length):s.2.1[i].1.length<=9223372036854775807:=(h.ok.2.1.2 _ (a_ a)).1
theorem zaa{s:PS}(h:SmP s){i:Nat}(a:i<s.2.2.1.length):s.2.2.1[i].1.length<=9223372036854775807:=(h.ok.2.2.1.2 _ (a_ a)).1
theorem zab{s:PS}(h:SmP s){i:Nat}(a:i<s.2.2.2.1.length):s.2.2.2.1[i].1.length<=9223372036854775807:=(h.ok.2.2.2.1.2 _ (a_ a)).1
abbrev P6(s:PS):Ob:=.box ao [.d (.list yL) s.1,.d (.list yG) s.2.1,.d (.list yD) s.2.2.1,.d (.list yO) s.2.2.2.1]
theorem VO(s:PS)(i:Nat)(a:i<s.1.length):aJ tbl ef [.d tI (i:Int),.ptr 0 0] [P6 s] eC ((s.1[i].2.1.length:Int),s.1,s.2.1,s.2.2.1,s.2.2.2.1,()):=by refine aC rfl (aF xZ rfl (λO n=>yd O n (i:Int) s.1 s.2.1 s.2.2.1 s.2.2.2.1) ?_);unfold pw;exact aN a (aa rfl)
theorem SZ(s:PS)(hs:SmP s)(i:Nat)(a:i<s.1.length):aJ tbl eh [.d tI (i:Int),.ptr 0 0] [P6 s] eD (d9 sV s.1[i].2.1,s.1,s.2.1,s.2.2.1,s.2.2.2.1,()):=by refine aC rfl (aF x5 rfl (λO n=>ye O n (i:Int) s.1 s.2.1 s.2.2.1 s.2.2.2.1) ?_);unfold px;refine aN a (an (SS _ (YH hs a).1 (YH hs a).2) (aa rfl))
theorem VH(s:PS)(hs:SmP s):aJ tbl iQ [.d (.list tS) (s.1.map (·.1)),.clo jE [0],.clo jF [0]] [P6 s] cW (jq (·.1) (λl=>l.2.1.length) (λl=>d9 sV l.2.1) s.1,s.1,s.2.1,s.2.2.1,s.2.2.2.1,()):=by
 refine aC rfl (aF Cl rfl (λO n=>CC O n (s.1.map (·.1)) s.1 s.2.1 s.2.2.1 s.2.2.2.1) ?_);unfold rA;refine aE (λh=>aa ?_) λh=>?_;·rw[show jq (·.1) (λl=>l.2.1.length) (λl=>d9 sV l.2.1) s.1=4 from if_pos (by have:=of_decide_eq_true h;rw[g_]at this;omega)]
 have d:¬s.1.length>64:=by have:=of_decide_eq_false h;rw[g_]at this;omega
 rw[show jq (·.1) (λl=>l.2.1.length) (λl=>d9 sV l.2.1) s.1=oD (LV (·.1) (λl=>l.2.1.length) (λl=>d9 sV l.2.1) s.1) (s.1.map (·.1)).length from by unfold jq;rw[if_neg d,g_]];generalize g:LV (·.1) (λl=>l.2.1.length) (λl=>d9 sV l.2.1) s.1=E;refine ae (Ao (N:=(s.1.map (·.1)).length) (f:=E) (enc:=λi=>((i:Int),s.1,s.2.1,s.2.2.1,s.2.2.2.1,())) (oB:=λe=>(e,s.1,s.2.1,s.2.2.1,s.2.2.2.1,())) (oE:=(s.1,s.2.1,s.2.2.1,s.2.2.2.1,())) (λi c=>?_) ?_ ?_)
 ·unfold j8;have a:i<s.1.length:=by rw[g_]at c;exact c
  have b:E i=if qK (s.1.map (·.1)) i≠0 then qK (s.1.map (·.1)) i else if s.1[i].2.1.length>64 then 4 else d9 sV s.1[i].2.1:=by rw[<-g];exact EP a
  refine bD c (aN c (aA (decide_eq_true (by omega)) (aA (by simp;omega) ?_)));refine an (lV _ i c (by rw[g_];omega) (by rw[K_];exact Z8 hs a)) ?_;refine aE (λh=>aa ?_) λh=>?_
  ·have h:qK (s.1.map (·.1)) i≠0:=by simpa using h
   rw[if_pos h]at b;rw[b,if_neg h]
  rw[if_neg (by simpa using h)]at b;refine an (VO s i a) (aE (λh=>aa ?_) λh=>?_);·have h:decide ((s.1[i].2.1.length:Int)>64)=true:=h;rw[if_pos (by have:=of_decide_eq_true h;omega)]at b;rw[b,if_neg (by decide)]
  have h:decide ((s.1[i].2.1.length:Int)>64)=false:=h;rw[if_neg (by have:=of_decide_eq_false h;omega)]at b;refine an (SZ s hs i a) (aE (λh=>aa ?_) λh=>aa ?_);·rw[b,if_neg (by simpa using h)]
  ·rw[b,if_pos (by simpa using h),ar a (by omega)]
 ·unfold j8;exact ba (aa rfl)
 by_cases e:oD E (s.1.map (·.1)).length=0;·rw[if_pos e];refine aa ?_;rw[e]
 ·rw[if_neg e];exact aa rfl
theorem VP(s:PS)(i:Nat)(a:i<s.2.1.length):aJ tbl ei [.d tI (i:Int),.ptr 0 0] [P6 s] eF ((s.2.1[i].2.1.length:Int),s.1,s.2.1,s.2.2.1,s.2.2.2.1,()):=by refine aC rfl (aF x6 rfl (λO n=>yf O n (i:Int) s.1 s.2.1 s.2.2.1 s.2.2.2.1) ?_);unfold py;exact aN a (aa rfl)
theorem S0(s:PS)(hs:SmP s)(i:Nat)(a:i<s.2.1.length):aJ tbl ej [.d tI (i:Int),.ptr 0 0] [P6 s] eG (d9 (λr=>mL r.2.1) s.2.1[i].2.1,s.1,s.2.1,s.2.2.1,s.2.2.2.1,()):=by refine aC rfl (aF x7 rfl (λO n=>yg O n (i:Int) s.1 s.2.1 s.2.2.1 s.2.2.2.1) ?_);unfold pA;refine aN a (an (SU _ (YI hs a).1 (YI hs a).2) (aa rfl))
theorem VI(s:PS)(hs:SmP s):aJ tbl fH [.d (.list tS) (s.2.1.map (·.1)),.clo jG [0],.clo jH [0]] [P6 s] ca (jq (·.1) (λl=>l.2.1.length) (λl=>d9 (λr=>mL r.2.1) l.2.1) s.2.1,s.1,s.2.1,s.2.2.1,s.2.2.2.1,()):=by
 refine aC rfl (aF wU rfl (λO n=>xf O n (s.2.1.map (·.1)) s.1 s.2.1 s.2.2.1 s.2.2.2.1) ?_);unfold ov;refine aE (λh=>aa ?_) λh=>?_;·rw[show jq (·.1) (λl=>l.2.1.length) (λl=>d9 (λr=>mL r.2.1) l.2.1) s.2.1=4 from if_pos (by have:=of_decide_eq_true h;rw[g_]at this;omega)]
 have d:¬s.2.1.length>64:=by have:=of_decide_eq_false h;rw[g_]at this;omega
 rw[show jq (·.1) (λl=>l.2.1.length) (λl=>d9 (λr=>mL r.2.1) l.2.1) s.2.1=oD (LV (·.1) (λl=>l.2.1.length) (λl=>d9 (λr=>mL r.2.1) l.2.1) s.2.1) (s.2.1.map (·.1)).length from by unfold jq;rw[if_neg d,g_]];generalize g:LV (·.1) (λl=>l.2.1.length) (λl=>d9 (λr=>mL r.2.1) l.2.1) s.2.1=E;refine ae (Ao (N:=(s.2.1.map (·.1)).length) (f:=E) (enc:=λi=>((i:Int),s.1,s.2.1,s.2.2.1,s.2.2.2.1,())) (oB:=λe=>(e,s.1,s.2.1,s.2.2.1,s.2.2.2.1,())) (oE:=(s.1,s.2.1,s.2.2.1,s.2.2.2.1,())) (λi c=>?_) ?_ ?_)
 ·unfold gW;have a:i<s.2.1.length:=by rw[g_]at c;exact c
  have b:E i=if qK (s.2.1.map (·.1)) i≠0 then qK (s.2.1.map (·.1)) i else if s.2.1[i].2.1.length>64 then 4 else d9 (λr=>mL r.2.1) s.2.1[i].2.1:=by rw[<-g];exact EP a
  refine bD c (aN c (aA (decide_eq_true (by omega)) (aA (by simp;omega) ?_)));refine an (lV _ i c (by rw[g_];omega) (by rw[K_];exact Z9 hs a)) ?_;refine aE (λh=>aa ?_) λh=>?_
  ·have h:qK (s.2.1.map (·.1)) i≠0:=by simpa using h
   rw[if_pos h]at b;rw[b,if_neg h]
  rw[if_neg (by simpa using h)]at b;refine an (VP s i a) (aE (λh=>aa ?_) λh=>?_);·have h:decide ((s.2.1[i].2.1.length:Int)>64)=true:=h;rw[if_pos (by have:=of_decide_eq_true h;omega)]at b;rw[b,if_neg (by decide)]
  have h:decide ((s.2.1[i].2.1.length:Int)>64)=false:=h;rw[if_neg (by have:=of_decide_eq_false h;omega)]at b;refine an (S0 s hs i a) (aE (λh=>aa ?_) λh=>aa ?_);·rw[b,if_neg (by simpa using h)]
  ·rw[b,if_pos (by simpa using h),ar a (by omega)]
 ·unfold gW;exact ba (aa rfl)
 by_cases e:oD E (s.2.1.map (·.1)).length=0;·rw[if_pos e];refine aa ?_;rw[e]
 ·rw[if_neg e];exact aa rfl
theorem VQ(s:PS)(i:Nat)(a:i<s.2.2.1.length):aJ tbl ek [.d tI (i:Int),.ptr 0 0] [P6 s] eH ((s.2.2.1[i].2.1.length:Int),s.1,s.2.1,s.2.2.1,s.2.2.2.1,()):=by refine aC rfl (aF x8 rfl (λO n=>yh O n (i:Int) s.1 s.2.1 s.2.2.1 s.2.2.2.1) ?_);unfold pB;exact aN a (aa rfl)
theorem S1(s:PS)(hs:SmP s)(i:Nat)(a:i<s.2.2.1.length):aJ tbl eo [.d tI (i:Int),.ptr 0 0] [P6 s] eI (d9 vg s.2.2.1[i].2.1,s.1,s.2.1,s.2.2.1,s.2.2.2.1,()):=by refine aC rfl (aF x9 rfl (λO n=>yi O n (i:Int) s.1 s.2.1 s.2.2.1 s.2.2.2.1) ?_);unfold pC;refine aN a (an (SV _ (YJ hs a).1 (YJ hs a).2) (aa rfl))
theorem VJ(s:PS)(hs:SmP s):aJ tbl fI [.d (.list tS) (s.2.2.1.map (·.1)),.clo jI [0],.clo jJ [0]] [P6 s] cb (jq (·.1) (λl=>l.2.1.length) (λl=>d9 vg l.2.1) s.2.2.1,s.1,s.2.1,s.2.2.1,s.2.2.2.1,()):=by
 refine aC rfl (aF wV rfl (λO n=>xg O n (s.2.2.1.map (·.1)) s.1 s.2.1 s.2.2.1 s.2.2.2.1) ?_);unfold ow;refine aE (λh=>aa ?_) λh=>?_;·rw[show jq (·.1) (λl=>l.2.1.length) (λl=>d9 vg l.2.1) s.2.2.1=4 from if_pos (by have:=of_decide_eq_true h;rw[g_]at this;omega)]
 have d:¬s.2.2.1.length>64:=by have:=of_decide_eq_false h;rw[g_]at this;omega
 rw[show jq (·.1) (λl=>l.2.1.length) (λl=>d9 vg l.2.1) s.2.2.1=oD (LV (·.1) (λl=>l.2.1.length) (λl=>d9 vg l.2.1) s.2.2.1) (s.2.2.1.map (·.1)).length from by unfold jq;rw[if_neg d,g_]];generalize g:LV (·.1) (λl=>l.2.1.length) (λl=>d9 vg l.2.1) s.2.2.1=E;refine ae (Ao (N:=(s.2.2.1.map (·.1)).length) (f:=E) (enc:=λi=>((i:Int),s.1,s.2.1,s.2.2.1,s.2.2.2.1,())) (oB:=λe=>(e,s.1,s.2.1,s.2.2.1,s.2.2.2.1,())) (oE:=(s.1,s.2.1,s.2.2.1,s.2.2.2.1,())) (λi c=>?_) ?_ ?_)
 ·unfold gX;have a:i<s.2.2.1.length:=by rw[g_]at c;exact c
  have b:E i=if qK (s.2.2.1.map (·.1)) i≠0 then qK (s.2.2.1.map (·.1)) i else if s.2.2.1[i].2.1.length>64 then 4 else d9 vg s.2.2.1[i].2.1:=by rw[<-g];exact EP a
  refine bD c (aN c (aA (decide_eq_true (by omega)) (aA (by simp;omega) ?_)));refine an (lV _ i c (by rw[g_];omega) (by rw[K_];exact zaa hs a)) ?_;refine aE (λh=>aa ?_) λh=>?_
  ·have h:qK (s.2.2.1.map (·.1)) i≠0:=by simpa using h
   rw[if_pos h]at b;rw[b,if_neg h]
  rw[if_neg (by simpa using h)]at b;refine an (VQ s i a) (aE (λh=>aa ?_) λh=>?_);·have h:decide ((s.2.2.1[i].2.1.length:Int)>64)=true:=h;rw[if_pos (by have:=of_decide_eq_true h;omega)]at b;rw[b,if_neg (by decide)]
  have h:decide ((s.2.2.1[i].2.1.length:Int)>64)=false:=h;rw[if_neg (by have:=of_decide_eq_false h;omega)]at b;refine an (S1 s hs i a) (aE (λh=>aa ?_) λh=>aa ?_);·rw[b,if_neg (by simpa using h)]
  ·rw[b,if_pos (by simpa using h),ar a (by omega)]
 ·unfold gX;exact ba (aa rfl)
 by_cases e:oD E (s.2.2.1.map (·.1)).length=0;·rw[if_pos e];refine aa ?_;rw[e]
 ·rw[if_neg e];exact aa rfl
abbrev bxN(s:PS):Ob:=.box d5 [.d (.list tS) (bT s).1,.d (.list tS) (bT s).2.1,.d (.list tS) (bT s).2.2.1,.d (.list tS) (bT s).2.2.2.1]
theorem pk8(x:HL q_policy_Check_8_drr.sl):wC q_policy_Check_8_drr (jr q_policy_Check_8_drr x)=some x:=by kernel_rfl
theorem Z5(x:HL q_policy_each_dcc_v3.sl):wC q_policy_each_dcc_v3 (jr q_policy_each_dcc_v3 x)=some x:=by kernel_rfl
theorem VR(s:PS)(i:Nat)(a:i<s.2.2.2.1.length):aJ tbl et [.d tI (i:Int),.ptr 0 0] [P6 s] eJ ((s.2.2.2.1[i].2.1.length:Int),s.1,s.2.1,s.2.2.1,s.2.2.2.1,()):=by refine aC rfl (aF ya rfl (λO n=>yj O n (i:Int) s.1 s.2.1 s.2.2.1 s.2.2.2.1) ?_);unfold pE;exact aN a (aa rfl)
theorem S2(s:PS)(hs:SmP s)(i:Nat)(a:i<s.2.2.2.1.length):aJ tbl dJ [.d tI (i:Int),.ptr 0 0,.ptr 1 0] [bxN s,P6 s] q_policy_Check_8_drr (mM s s.2.2.2.1[i],(bT s).1,(bT s).2.1,(bT s).2.2.1,(bT s).2.2.2.1,s.1,s.2.1,s.2.2.1,s.2.2.2.1,()):=by refine aC (pk8 _) (aF wR rfl (λO n=>xc O n (i:Int) (bT s).1 (bT s).2.1 (bT s).2.2.1 (bT s).2.2.2.1 s.1 s.2.1 s.2.2.1 s.2.2.2.1) ?_);unfold oq;exact aN a (an (vG s hs.ok _ (hs.ok.2.2.2.1.2 _ (a_ a))) (aa rfl))
theorem VK(s:PS)(hs:SmP s):aJ tbl fJ [.d (.list tS) (s.2.2.2.1.map (·.1)),.clo jK [0],.clo jL [1,0]] [P6 s,bxN s] q_policy_each_dcc_v3 (jq (·.1) (λp=>p.2.1.length) (mM s) s.2.2.2.1,s.1,s.2.1,s.2.2.1,s.2.2.2.1,(bT s).1,(bT s).2.1,(bT s).2.2.1,(bT s).2.2.2.1,()):=by
 refine aC (Z5 _) (aF wW rfl (λO n=>xi O n (s.2.2.2.1.map (·.1)) s.1 s.2.1 s.2.2.1 s.2.2.2.1 (bT s).1 (bT s).2.1 (bT s).2.2.1 (bT s).2.2.2.1) ?_);unfold oy;refine aE (λh=>aa ?_) λh=>?_;·rw[show jq (·.1) (λp=>p.2.1.length) (mM s) s.2.2.2.1=4 from if_pos (by grind)]
 have d:¬s.2.2.2.1.length>64:=by grind
 rw[show jq (·.1) (λp=>p.2.1.length) (mM s) s.2.2.2.1=oD (LV (·.1) (λp=>p.2.1.length) (mM s) s.2.2.2.1) (s.2.2.2.1.map (·.1)).length from by unfold jq;grind];generalize g:LV (·.1) (λp=>p.2.1.length) (mM s) s.2.2.2.1=E;refine ae (Ao (N:=(s.2.2.2.1.map (·.1)).length) (f:=E) (enc:=λi=>((i:Int),s.1,s.2.1,s.2.2.1,s.2.2.2.1,(bT s).1,(bT s).2.1,(bT s).2.2.1,(bT s).2.2.2.1,())) (oB:=λe=>(e,s.1,s.2.1,s.2.2.1,s.2.2.2.1,(bT s).1,(bT s).2.1,(bT s).2.2.1,(bT s).2.2.2.1,())) (oE:=(s.1,s.2.1,s.2.2.1,s.2.2.2.1,(bT s).1,(bT s).2.1,(bT s).2.2.1,(bT s).2.2.2.1,())) (λi c=>?_) ?_ ?_)
 ·unfold gY;have a:i<s.2.2.2.1.length:=by grind
  have b:E i=if qK (s.2.2.2.1.map (·.1)) i≠0 then qK (s.2.2.2.1.map (·.1)) i else if s.2.2.2.1[i].2.1.length>64 then 4 else mM s s.2.2.2.1[i]:=by rw[<-g];exact EP a
  refine bD c (aN c (aA (decide_eq_true (by simp)) (aA (by grind) ?_)));refine an (lV _ i c (by grind) (by rw[K_];exact zab hs a)) ?_;refine aE (λh=>aa ?_) λh=>?_;·grind
  rw[if_neg (by grind)]at b;refine an (VR s i a) (aE (λh=>aa ?_) λh=>?_);·grind
  have h:decide ((s.2.2.2.1[i].2.1.length:Int)>64)=false:=h;rw[if_neg (by grind)]at b;refine an (S2 s hs i a) (aE (λh=>aa ?_) λh=>aa ?_);·grind
  ·rw[b,if_pos (by grind),ar a (by omega)]
 ·unfold gY;exact ba (aa rfl)
 by_cases e:oD E (s.2.2.2.1.map (·.1)).length=0;·rw[if_pos e];refine aa ?_;rw[e]
 ·rw[if_neg e];exact aa rfl
theorem vE(s:PS)(hs:SmP s):aJ tbl jl [.d yS s] [] cV (re mL s,()):=by
 refine aC rfl (aF GR rfl (λO n=>G7 O n s) ?_);unfold vJ;refine an (E9 s hs.l1 hs.l2 hs.l3 hs.l4) (aA rfl (an (VH s hs) ?_));generalize k:jq (·.1) (λl=>l.2.1.length) (λl=>d9 sV l.2.1) s.1=b;generalize g:jq (·.1) (λl=>l.2.1.length) (λl=>d9 (λr=>mL r.2.1) l.2.1) s.2.1=c;generalize j:jq (·.1) (λl=>l.2.1.length) (λl=>d9 vg l.2.1) s.2.2.1=d;have hp:re mL s=if b≠0 then b else if c≠0 then c else if d≠0 then d else jq (·.1) (λp=>p.2.1.length) (mM s) s.2.2.2.1:=by unfold re;omega
 have e:=VI s hs;have f:=VJ s hs;rw[g]at e;rw[j]at f;rw[hp];refine aE (λh=>aa ?_) λh=>aA rfl (an e (aE (λh'=>aa ?_) λh'=>aA rfl (an f (aE (λa=>aa ?_) λa=>aA rfl (an (VK s hs) (aa ?_))))));·grind
 all_goals grind
def wx(s:PS)(n:List UInt8):Option X4:=s.1.find? (·.1==n)
def Ga(s:PS)(n:List UInt8):Option X3:=s.2.1.find? (·.1==n)
def qE(s:PS)(n:List UInt8):Option X2:=s.2.2.1.find? (·.1==n)
abbrev SH:pG:=([],[],0,())
theorem J2(s:PS)(n:List UInt8)(hl:s.2.2.2.1.length<=9223372036854775807):aJ tbl pQ [.d yS s,.d tS n] [] jS ((vn s n).getD SH,(vn s n).isSome,()):=by
 refine aC rfl (aF Ly rfl (λO k=>LK O k s n) ?_);unfold AD;refine ae (tf (xs:=s.2.2.2.1) (p:=(·.1==n)) (enc:=λi=>((i:Int),([]:List UInt8),(0:Int),())) (g:=λx=>(true,x.1,x.2.1,x.2.2.1,())) (e:=(([]:List UInt8),(0:Int),())) (λi a=>?_) ?_ ?_)
 ·unfold qn;refine bD a (aN a (aE (λh=>aa ?_) λh=>aa ?_));·grind
  ·rw[if_neg (by grind),ar a hl]
 ·unfold qn;exact ba (aa rfl)
 ·unfold vn;cases s.2.2.2.1.find? (·.1==n)with|some r=>exact aa rfl|none=>exact aa rfl
theorem Hk(s:PS)(n:List UInt8)(d:PolOk mL s):aJ tbl nK [.d yS s,.d tS n] [] iD ((vn s n).getD SH,(vn s n).isSome,()):=by
 have hl:=d.l4;refine aC rfl (aF IC rfl (λO k=>IU O k s n) ?_);unfold yy;refine ae (tf (xs:=s.2.2.2.1) (p:=(·.1==n)) (enc:=λi=>((i:Int),([]:List UInt8),(0:Int),())) (g:=λx=>(true,x.1,x.2.1,x.2.2.1,())) (e:=(([]:List UInt8),(0:Int),())) (λi c=>?_) ?_ ?_)
 ·unfold oX;refine bD c (aN c (aE (λh=>aa ?_) λh=>?_));·rw[if_neg (by grind),ar c (by omega)]
  have hp:=d.r4 _ (a_ c);have h:(s.2.2.2.1[i].1==n)=true:=by grind
  rw[if_pos h];generalize s.2.2.2.1[i]=p at hp;have f:=hp.tl;refine ae (a8 (N:=p.2.1.length) (I:=λj t=>t=((j:Int),([]:List UInt8),(0:Int),p.1,p.2.2.1,p.2.1.take j,())) rfl (λj t b a=>?_) λt a=>?_)
  ·subst a;unfold oW;have a:=hp.tr _ (a_ b);have l:=a.ml;have u:=a.al;refine bD b (aN b (aA (decide_eq_true (by grind)) (aA (decide_eq_true (by grind)) (aA ?_ (aa ?_)))));·grind
   ·show(d_ .i64 ((j:Int)+1),([]:List UInt8),(0:Int),p.1,p.2.2.1,p.2.1.take j++[p.2.1[j]],())=_;rw[ar b (by omega),R_ b]
  ·subst a;unfold oW;refine ba (aa (aa ?_));simp
 ·unfold oX;exact ba (aa rfl)
 ·unfold vn;cases s.2.2.2.1.find? (·.1==n)with|some r=>exact aa rfl|none=>exact aa rfl
open Go Go.Av Go.Ev
abbrev Q3:Type:=Bool×(Int×(Int×Unit))
def fits(r:Q3)(c:Int):Bool:=
 ((r.2.1==(-1:Int))||(r.2.1==d_ .i64 (Int.fdiv c (2^(min (s_ (16:Int)) (ab_ .u32))))))&&
 ((r.2.2.1==(-1:Int))||(r.2.2.1==d_ .i64 (rG .u32 .and c (65535:Int))))
def Da(r:Q3)(l:List Int):Bool:=(l.find? (fits r)).isSome
def wD(a:List Q3)(l:List Int):Bool:=match a.find? (λr=>Da r l)with
 |some r=>r.1
 |none=>false
theorem OV(r:Q3)(c:Int){β:Type}{k:Nat->Bool->Option β}{Q:β->Prop}(a:Wp (λn=>k n (fits r c)) Q):Wp (λn=>e_ (bif (r.2.1==(-1:Int))then some (true)else aD (decide (0<=(16:Int))) (let b:=d_ .i64 (Int.fdiv c (2^(min (s_ (16:Int)) (ab_ .u32))));some ((r.2.1==b)))) λd=>e_ (bif d then e_ (bif (r.2.2.1==(-1:Int))then some (true)else some ((r.2.2.1==d_ .i64 (rG .u32 .and c (65535:Int))))) λe=>some (e) else some (false)) λf=>k n f) Q:=by refine ae (cY (λ_=>aA rfl (aa rfl)) ?_);refine ae (cy (λ_=>ae (cY (λ_=>aa rfl) (aa rfl))) ?_);exact a
theorem Ay(r:Q3)(l:List Int)(hl:l.length<=9223372036854775807):aJ tbl iN [.d (pr [tB,tI,tI]) r,.d (.list tW) l] [] dW (Da r l,()):=by
 refine aC rfl (aF Ci rfl (λO n=>Cx O n r l) ?_);unfold ru;refine ae (Cu (xs:=l) (p:=fits r) (g:=λ_=>((true,()):Bool×Unit)) (e:=()) (λi x a=>?_) ?_ ?_)
 ·unfold j5;have b:=(q_.1 a).1;refine aE (λ_=>?_) (λh=>absurd h (by simp;omega));refine pq (by simp) (by simpa using a) ?_;refine OV r x ?_;cases fits r x;·exact aa (by simp only[Z_,if_false];rw[ar b hl])
  ·exact aa rfl
 ·unfold j5;exact aE (λh=>absurd h (by simp)) λ_=>aa rfl
 ·unfold Da;cases l.find? (fits r);·exact aa rfl
  ·exact aa rfl
theorem xH(a:List Q3)(l:List Int)(hr:a.length<=9223372036854775807)(hl:l.length<=9223372036854775807):aJ tbl gl [.d (.list (pr [tB,tI,tI])) a,.d (.list tW) l] [] c9 (wD a l,()):=by
 refine aC rfl (aF xY rfl (λO n=>yc O n a l) ?_);unfold pu;refine ae (Cu (xs:=a) (p:=λr=>Da r l) (g:=λr=>((r.1,()):Bool×Unit)) (e:=()) (λi x b=>?_) ?_ ?_)
 ·unfold iH;have c:=(q_.1 b).1;refine aE (λ_=>?_) (λh=>absurd h (by simp;omega));refine pq (by simp) (by simpa using b) ?_;refine an (Ay x l hl) ?_;cases h:Da x l;·exact aa (by simp only[Z_,if_false];rw[ar c hr])
  ·exact aa rfl
 ·unfold iH;exact aE (λh=>absurd h (by simp)) λ_=>aa rfl
 ·unfold wD;cases a.find? (λr=>Da r l);·exact aa rfl
  ·exact aa rfl
theorem Wj{l:List Int}{k:Nat}(h:k<l.length):l.getD k 0=l[k]:=by simp[X_,b_ h]
theorem Ax(l:List Int):aJ tbl iM [.d (.list tW) l] [] cU (Cm.check l,()):=by
 refine aC rfl (aF Ch rfl (λO n=>Cw O n l) ?_);unfold rq;refine aE (λh=>aa ?_) λh=>?_;·rw[Cm.check_long (by grind)]
 have hl:¬255<l.length:=by grind
 refine ae (LH (N:=l.length) (good:=λi=>i=0\/l.getD (i - 1) 0<l.getD i 0) (e:=((16:Int),())) (g:=()) (λi a=>?_) ?_ (λh=>?_) λh=>?_)
 ·unfold j4;refine bD a (ae (cy (b:=decide (l.getD i 0<=l.getD (i - 1) 0)) (λc=>?_) (uE ?_ (by rw[ar a (by omega)]))))
  ·have c:=of_decide_eq_true c;have e:d_ .i64 ((i:Int) - 1)=((i - 1:Nat):Int):=by rw[wrap_i64 (by omega) (by omega)];omega
   rw[e];refine aN a (aN (by omega) (aa ?_));grind
  grind
 ·unfold j4;exact ba (aa rfl)
 ·refine aa ?_;have d:∀k,k<=l.length->Cm.Up (l.take k):=by intro k;induction k with|zero=>simp|succ k f=>intro j;exact Cm.up_take (f (by omega)) (by omega) (h k (by omega))
  have:=d l.length (E_ _);rw[j_]at this;rw[Cm.check_up hl this]
 ·refine aa ?_;obtain⟨i,a,hg⟩:=h;rw[Cm.check_not hl (Cm.not_up a (by omega) (by omega))]
theorem LZ(l:List Int)(x:Int)(hl:l.length<=2000000):aJ tbl cj [.d (.list tW) l,.d tW x] [] bO (Cm.ins x l,()):=by
 refine aC rfl (aF rh rfl (λO n=>rj O n l x) ?_);unfold jY;have D:d_ .i64 ((l.length:Int)+1)=((l.length+1:Nat):Int):=by rw[wrap_i64 (by omega) (by omega)];rfl
 refine aA (by grind) ?_;refine ae (a8 (N:=l.length) (I:=λi s=>s.2.1=(i:Int)/\s.2.2.1++Cm.insGo x (l.drop i) s.1=Cm.ins x l/\s.2.2.1.length<=i+(if s.1 then 1 else 0)) ⟨rfl,by simp,by simp⟩ (λi s k hs=>?_) λs hs=>?_)
 ·obtain⟨d,j,c,⟨⟩⟩:=s;obtain⟨g,e,u⟩:=hs;simp only at g e u;subst g;unfold eL;rw[Cm.insGo_step x l i d k,Wj k]at e;have z:d_ .i64 ((i:Int)+1)=((i+1:Nat):Int):=ar k (by omega);refine bD k (ae (aN k (ae ?_)));generalize l[i]=y at e;have a:∀(f:Bool) (o:List Int),o++((if y != x then [y]else [])++Cm.insGo x (l.drop (i+1)) f)=Cm.ins x l->o.length<=i+(if f then 1 else 0)->Wp (λ_=>bif (y != x)then aD (decide ((o.length+([y]:List Int).length)*4<=140737488355328)) (some ((f,o++([y]:List Int),())))else some ((f,o,())))
   (λA:Bool×List Int×Unit=>Wp (λ_=>some (Sum.inl (A.1,d_ .i64 ((i:Int)+(1:Int)),A.2.1,()))) fun(r:(Bool×Int×List Int×Unit)⊕(Bool×List Int×Unit))=>match r with
    | .inl s'=>s'.2.1=((i+1:Nat):Int)/\s'.2.2.1++Cm.insGo x (l.drop (i+1)) s'.1=Cm.ins x l/\s'.2.2.1.length<=i+1+(if s'.1 then 1 else 0)
    | .inr _=>False):=λf o E B=>by
   have w:o.length<=i+1:=by grind
   refine aE (λh=>aA (decide_eq_true (by grind)) (aa (aa ⟨z,?_,?_⟩))) λh=>aa (aa ⟨z,?_,?_⟩)
   ·grind
   all_goals grind
  refine ae (cy (b:=decide (x<=y)) (λ_=>aa rfl) ?_);cases d with
  |true=>refine aw rfl (aa (Wp.imp (a true c (by grind) (by omega)) λv p=>Wp.imp p λr hr=>?_));grind|false=>
   by_cases C:x<=y;·refine bb (by grind) (aA (decide_eq_true (by grind)) (aa (Wp.imp (a true (c++[x]) (by grind) (by grind)) λv p=>Wp.imp p λr hr=>?_)));grind
   ·refine aw (by grind) (aa (Wp.imp (a false c (by grind) (by omega)) λv p=>Wp.imp p λr hr=>?_));grind
 ·obtain⟨d,j,c,⟨⟩⟩:=s;obtain⟨g,e,u⟩:=hs;simp only at g e u;subst g;unfold eL;refine ba (aa ?_);rw[af_]at e;cases d with|true=>refine ae (aw rfl (aa (aa ?_)));rw[<-e];simp[Cm.insGo]|false=>refine ae (bb rfl (aA (decide_eq_true (by grind)) (aa (aa ?_))));rw[<-e];simp[Cm.insGo]
theorem L2(l:List Int)(hl:l.length<=2000000):aJ tbl cn [.d (.list tW) l] [] bP (Cm.asc l,()):=by
 refine aC rfl (aF ri rfl (λO n=>rk O n l) ?_);unfold jZ;refine ae (a8 (N:=l.length) (I:=λi s=>s=((l.take i).foldl (λo x=>Cm.ins x o) [],(i:Int),())) rfl (λi s a hs=>?_) λs hs=>?_)
 ·subst hs;unfold eM;have b:((l.take i).foldl (λo x=>Cm.ins x o) []).length<=i:=by have:=(Cm.fold_ins (l.take i) [] List.Pairwise.nil).2.2;grind
  refine bD a (aN a (an (LZ ((l.take i).foldl (λo x=>Cm.ins x o) []) l[i] (by omega)) (aa ?_)));show(Cm.ins l[i] ((l.take i).foldl (λo x=>Cm.ins x o) []),d_ .i64 ((i:Int)+1),())=_;rw[ar a (by omega),p_ a,G_];rfl
 ·subst hs;unfold eM;refine ba (aa (aa ?_));rw[j_];rfl
theorem tq(l:List Int)(x:Int)(hl:l.length<=9223372036854775807):aJ tbl eN [.d (.list tW) l,.d tW x] [] cf (decide (x∈l),()):=by
 refine aC rfl (aF ux rfl (λO n=>uF O n l x) ?_);unfold lW;refine ae (E0 (xs:=l) (P:=λy=>y≠x) (e:=(true,())) (g:=()) (λi a=>?_) ?_ (λh=>aa ?_) λh=>aa ?_);·unfold f9;refine bD a (aN a (uE ?_ (by rw[ar a hl])));simp
 ·unfold f9;exact ba (aa rfl)
 ·rw[decide_eq_false λb=>h x b rfl]
 ·rw[decide_eq_true (f_ λb=>h λy c e=>b (e▸c))]
theorem D6(l:List Int)(c:Int)(hl:l.length<=1000000):aJ tbl kR [.d (.list tW) l,.d tW c] [] fC (Cm.add l c,()):=by
 refine aC rfl (aF Eu rfl (λO n=>EE O n l c) ?_);unfold uP;have a:=Cm.len_asc l;refine an (L2 l (by omega)) (ae (cy (b:= !decide (c∈Cm.asc l)) (λ_=>an (tq (Cm.asc l) c (by omega)) (aa rfl)) (aE (λh=>aa ?_) λh=>an (LZ (Cm.asc l) c (by omega)) (aa ?_))));·rw[show Cm.add l c=Cm.asc l from if_pos (by grind)]
 ·rw[show Cm.add l c=Cm.ins c (Cm.asc l)from if_neg (fun⟨d,e⟩=>by grind)]
theorem FG(c:Int)(v:List Int×Unit)(d:v.1.length<=1000000):Wp (λn=>aS n (gU (q9 tbl n) n c v) ((0:Int),([]:List Int),())) λr=>r=(v.1.filter (λx=>x != c),()):=by
 refine a8 (N:=v.1.length) (I:=λi s=>s=((i:Int),(v.1.take i).filter (λx=>x != c),())) rfl (λi s a hs=>?_) λs hs=>?_
 ·subst hs;unfold gU;have b:((v.1.take i).filter (λx=>x != c)).length<=i:=H_ (List.length_filter_le _ _) (by rw[List.length_take];omega);have e:(v.1.take (i+1)).filter (λx=>x != c)=(v.1.take i).filter (λx=>x != c)++(if v.1[i] != c then [v.1[i]]else []):=by rw[p_ a,List.filter_append];congr 1;cases h:(v.1[i] != c)<;>simp[List.filter,h]
  refine bD a (ae (aN a (aE (λh=>aA (decide_eq_true (by show(((v.1.take i).filter (λx=>x != c)).length+1)*4<=_;omega)) (aa (aa ?_))) λh=>aa (aa ?_))));·show(d_ .i64 ((i:Int)+1),(v.1.take i).filter (λx=>x != c)++[v.1[i]],())=_;rw[e,if_pos h,ar a (by omega)]
  ·show(d_ .i64 ((i:Int)+1),(v.1.take i).filter (λx=>x != c),())=_;rw[e,if_neg (by rw[h];decide),B_,ar a (by omega)]
 ·subst hs;unfold gU;refine ba (aa ?_);rw[j_]
theorem CL(l:List Int)(c:Int)(hl:l.length<=1000000):aJ tbl jM [.d (.list tW) l,.d tW c] [] gF (Cm.drop l c,()):=by refine aC rfl (aF Dp rfl (λO n=>Dx O n l c) ?_);unfold sG;refine an (L2 l (by omega)) (ae (Wp.imp (FG c (Cm.asc l,()) (H_ (Cm.len_asc l) hl)) λr hr=>?_));subst hr;exact aa rfl
theorem if5{P:Prop} [Decidable P]:(if P then(0:Int)else 5)=0\/(if P then(0:Int)else 5)=5:=by omega
theorem Sz{r:ly}(a:lD r.1=true)(b:¬(r.2.1<1\/7<r.2.1))(c:¬r.2.2.2.1.length>2000):rf r=if ¬∀v∈r.2.2.2.1,1<=v/\v<=4294967295 then 5 else if Cm.check r.2.2.2.2.1≠0 then Cm.check r.2.2.2.2.1 else if ¬(pj r.2.2.2.2.2.1/\pj r.2.2.2.2.2.2.1/\pj r.2.2.2.2.2.2.2.2.1)\/r.2.2.2.2.2.2.2.1<0\/16777216<r.2.2.2.2.2.2.2.1 then 5 else 0:=by unfold rf;grind
theorem Hc(r:ly)(hp:qL r.1.1):aJ tbl eX [.d Q1 r] [] bF (rf r,()):=by
 refine aC rfl (aF It rfl (λO n=>IL O n r) ?_);unfold yo;refine an (jd r.1 hp) (aE (λh=>aa ?_) λh=>?_);·rw[show rf r=1 from if_pos (by grind)]
 have p:lD r.1=true:=by grind
 refine ae (cY (b:=decide (r.2.1>7)) (λ_=>aa rfl) (aE (λh=>aa ?_) λh=>?_));·rw[show rf r=5 from by unfold rf;grind]
 have C:¬(r.2.1<1\/7<r.2.1):=by grind
 refine aE (λh=>aa ?_) λh=>?_;·rw[show rf r=4 from by unfold rf;grind]
 have D:¬r.2.2.2.1.length>2000:=by grind
 rw[Sz p C D];refine ae (E0 (xs:=r.2.2.2.1) (P:=λv=>1<=v/\v<=4294967295) (e:=((5:Int),())) (g:=()) (λi l=>?_) ?_ (λh=>?_) λh=>aa ?_);·unfold oT;refine bD l (aN l (ae (cY (b:=decide (r.2.2.2.1[i]>4294967295)) (λ_=>aa rfl) (uE ?_ (by rw[ar l (by omega)])))));grind
 ·unfold oT;exact ba (aa rfl)
 ·rw[if_neg (not_not_intro h)];refine an (Ax r.2.2.2.2.1) (aE (λh=>aa ?_) λh=>?_);·grind
  rw[if_neg (by grind)];generalize r.2.2.2.2.2.1=x0;generalize r.2.2.2.2.2.2.1=d;generalize r.2.2.2.2.2.2.2=y;obtain⟨F,k,⟨⟩⟩:=y;have one:∀x:Int,Wp (λ_=>e_ (bif decide (x<(0:Int))then some (true)else some (decide (x>(4294967295:Int)))) λv=>some v) (λb=>b= !decide (pj x)):=λx=>by refine ae (cY (b:=decide (x>4294967295)) (λ_=>aa rfl) (aa ?_));grind
  refine ae (Ao (N:=3) (f:=λi=>if pj (if i=0 then x0 else if i=1 then d else k)then 0 else 5) (enc:=λi=>((x0,d,k,()),(i:Int),())) (oB:=λe=>(e,())) (oE:=()) (λi l=>?_) ?_ ?_)
  ·unfold oU;have s:∀x:Int,x=(if i=0 then x0 else if i=1 then d else k)->Wp (λ_=>e_ (bif decide (x<(0:Int))then some (true)else some (decide (x>(4294967295:Int)))) λw=>
    bif w then some (.inr (.inl (((5:Int),()))))else some (.inl ((x0,d,k,()),d_ .i64 ((i:Int)+(1:Int)),())))
    (fun(r:((Int×Int×Int×Unit)×Int×Unit)⊕(Int×Unit)⊕Unit)=>r=if(if pj (if i=0 then x0 else if i=1 then d else k)then(0:Int)else 5)=0 then .inl ((x0,d,k,()),((i+1:Nat):Int),())else .inr (.inl ((if pj (if i=0 then x0 else if i=1 then d else k)then(0:Int)else 5),()))):=λx E=>by
    subst E
    refine ae (cY (b:=decide (_>4294967295)) (λ_=>aa rfl) (aE (λh=>aa ?_) λh=>aa ?_))
    ·grind
    ·rw[if_pos (show pj _ by grind),if_pos rfl,ar (n:=3) l (by simp)]
   refine bD l ?_;have u:i=0\/i=1\/i=2:=by omega
   rcases u with rfl|rfl|rfl;·exact te (a:=x0) rfl (s x0 rfl)
   ·exact te (a:=d) rfl (s d rfl)
   ·exact te (a:=k) rfl (s k rfl)
  ·unfold oU;exact ba (aa rfl)
  have A:oD (λi=>if pj (if i=0 then x0 else if i=1 then d else k)then(0:Int)else 5) 3=if pj x0/\pj d/\pj k then 0 else 5:=by
   by_cases h:pj x0/\pj d/\pj k;·rw[if_pos h];refine errN_zero.2 λj J=>?_;omega
   ·rw[if_neg h];refine(TE (c:=5) (λj=>if5)).resolve_left λB=>h ?_;have p:=errN_zero.1 B;have g0:=p 0 (by simp);have H:=p 1 (by simp);have I:=p 2 (by simp);omega
  rw[A];by_cases z:pj x0/\pj d/\pj k;·rw[if_pos z,if_pos rfl];refine ae (cY (b:=decide (F>16777216)) (λ_=>aa rfl) (aE (λh=>aa ?_) λh=>aa ?_));all_goals grind
  ·rw[if_neg z,if_neg (by simp)];refine aa ?_;grind
 grind
open Classical in
noncomputable def Ik(s:List UInt8)(a:List Int):Bool:=decide (∃r,pi r=0/\kf r=s/\uk (gL r 0) a=true)
noncomputable def UH(l:List Yg)(a:List Int):Bool:=match l.find? (λu=>Ik u.2.1 a)with|some u=>u.1|none=>false
open Classical in
theorem Wv{s:List UInt8}{c:Rx×Int×Unit}(h:ParsedX s c)(hc:(c.2.1==0)=false)(a:List Int):Ik s a=false:=by unfold Ik;refine decide_eq_false ?_;rintro⟨r,b,d,_⟩;rcases h with⟨f,_,_,rfl⟩|⟨e,_⟩;all_goals grind
open Classical in
theorem T6{s:List UInt8}(hs:s.length<=1048576){c:Rx×Int×Unit}(h:ParsedX s c)(hc:(c.2.1==0)=true)(a:List Int):∃r,c=(r,0,())/\dR r=true/\sz r<=64/\Ik s a=uk (gL r 0) a:=by
 rcases h with⟨r,b,d,rfl⟩|⟨_,rfl⟩
 ·obtain⟨e,f,_⟩:=Du b;refine⟨r,rfl,e,f,?_⟩;unfold Ik;cases l:uk (gL r 0) a;·refine decide_eq_false ?_;rintro⟨k,g,j,n⟩;have:=ParsedX.pxUniq hs (.inl ⟨k,g,j,rfl⟩) (.inl ⟨r,b,d,rfl⟩);grind
  grind
 grind
theorem Hg(l:List Yg)(a:List Int)(hl:l.length<=9223372036854775807)(hr:∀u∈l,u.2.1.length<=1048576)(hp:a.length<=1000000):aJ tbl nG [.d (.list yH) l,.d (.list tI) a] [] iC (UH l a,()):=by
 refine aC rfl (aF Iw rfl (λO n=>zag O n l a) ?_);unfold yq;refine ae (tf (xs:=l) (p:=λu=>Ik u.2.1 a) (enc:=λi=>((i:Int),())) (g:=λu=>(u.1,())) (e:=()) (λi d=>?_) ?_ ?_)
 ·unfold oV;have j:=hr _ (a_ d);obtain⟨c,f,s⟩:=yn l[i].2.1 j;refine bD d (aN d (an s (ae (cy (b:=Ik l[i].2.1 a) (λh=>?_) ?_))))
  ·obtain⟨r,rfl,k,w,v⟩:=T6 j f h a;rw[mV];refine an (Hm r (by omega) a hp) (aa ?_);rw[v,k];show(jy a&&uk (gL r 0) a)=_;cases e:jy a;·rw[RP k e];rfl
   simp
  ·have e:((c.2.1==0)&&Ik l[i].2.1 a)=Ik l[i].2.1 a:=by
    cases hc:(c.2.1==0);·rw[Wv f hc];rfl
    simp
   rw[e];refine aE (λh=>aa ?_) λh=>aa ?_;·grind
   ·rw[if_neg (by grind),ar d hl]
 ·unfold oV;exact ba (aa rfl)
 ·unfold UH;cases l.find? (λu=>Ik u.2.1 a)with|some r=>exact aa rfl|none=>exact aa rfl
noncomputable def vp(s:PS)(m:VC)(r:ly):Bool:=
 if m.1=1 then(match wx s m.2.1 with|some l=>UI l.2.1 r.1|none=>false)
 else if m.1=2 then(match Ga s m.2.1 with|some l=>UH l.2.1 r.2.2.2.1|none=>false)
 else if m.1=3 then(match qE s m.2.1 with|some l=>wD l.2.1 r.2.2.2.2.1|none=>false)
 else if m.1=4 then r.2.1==m.2.2.1
 else if m.1=5 then r.2.2.2.2.2.2.2.2.1==m.2.2.1
 else if m.1=6 then decide (r.2.2.2.2.2.2.2.1<=m.2.2.1)
 else if m.1=7 then MA m.2.2.2.1 r.2.2.1
 else decide ((r.2.2.2.1.length:Int)<=m.2.2.1)
noncomputable def RD(s:PS)(r:ly)(m:VC):Bool:=true ^^ (vp s m r==m.2.2.2.2.1)
noncomputable def Cr(s:PS)(r:ly)(t:tn):Bool:=t.2.1.all (RD s r)
structure SmQ(s:PS)(r:ly):Prop where
 s:SmP s
 p:qL r.1.1
 n:qL r.2.2.1
 pt:r.2.2.2.1.length<=100000
 cm:r.2.2.2.2.1.length<=100000
abbrev bxU(r:ly):Ob:=.box co [.d tW r.1.1,.d tI r.1.2.1,.d tI r.2.1,.d tW r.2.2.1,.d (.list tI) r.2.2.2.1,.d (.list tW) r.2.2.2.2.1,.d tI r.2.2.2.2.2.1,.d tI r.2.2.2.2.2.2.1,.d tI r.2.2.2.2.2.2.2.1,.d tI r.2.2.2.2.2.2.2.2.1]
abbrev cR(s:PS)(r:ly):List X4×List X3×List X2×List pG×Int×Int×Int×Int×List Int×List Int×Int×Int×Int×Int×Unit:=
 (s.1,s.2.1,s.2.2.1,s.2.2.2.1,r.1.1,r.1.2.1,r.2.1,r.2.2.1,r.2.2.2.1,r.2.2.2.2.1,r.2.2.2.2.2.1,r.2.2.2.2.2.2.1,r.2.2.2.2.2.2.2.1,r.2.2.2.2.2.2.2.2.1,())
theorem Z3(x:HL q_apply_conditions_1_drr.sl):wC q_apply_conditions_1_drr (jr q_apply_conditions_1_drr x)=some x:=by kernel_rfl
theorem Z4(x:HL q_apply_conditions_2_dr.sl):wC q_apply_conditions_2_dr (jr q_apply_conditions_2_dr x)=some x:=by kernel_rfl
theorem Z2(x:HL q_apply_conditions.sl):wC q_apply_conditions (jr q_apply_conditions x)=some x:=by kernel_rfl
theorem VF(s:PS)(m:VC)(r:ly)(h:SmQ s r)(D:1<=m.1/\m.1<=8)(w:qL m.2.2.2.1.1):aJ tbl ct [.d yM m,.ptr 0 0,.ptr 1 0] [P6 s,bxU r] q_apply_conditions_1_drr (vp s m r,cR s r):=by
 refine aC (Z3 _) (aF sA rfl (λO n=>sC O n m s.1 s.2.1 s.2.2.1 s.2.2.2.1 r.1.1 r.1.2.1 r.2.1 r.2.2.1 r.2.2.2.1 r.2.2.2.2.1 r.2.2.2.2.2.1 r.2.2.2.2.2.2.1 r.2.2.2.2.2.2.2.1 r.2.2.2.2.2.2.2.2.1) ?_);unfold kh;have f:=h.s.ok;have b:∀{k:Int},m.1≠k->(m.1==k)=false:=λh=>beq_eq_false_iff_ne.2 h;have c:∀{k:Int},m.1=k->(m.1==k)=true:=λh=>beq_iff_eq.2 h;by_cases j:m.1=1
 ·have a:vp s m r=match wx s m.2.1 with|some l=>UI l.2.1 r.1|none=>false:=by unfold vp;grind
  refine ae (bb (c j) (ae (tf (xs:=s.1) (p:=(·.1==m.2.1)) (enc:=λi=>((i:Int),cR s r)) (g:=λl=>(UI l.2.1 r.1,cR s r)) (e:=cR s r) (λi d=>?_) ?_ ?_)))
  ·unfold fh;refine bD d (aN d (aE (λh'=>?_) λh'=>aa ?_));·have hl:=f.1.2 _ (a_ d);refine an (D7 s.1[i].2.1 r.1 hl.2.1.1 (λu x=>(hl.2.1.2 u x).2.1.1) h.p) (aa ?_);grind
   ·rw[if_neg (by grind),ar d (by exact f.1.1)]
  ·unfold fh;exact ba (aa rfl)
  ·unfold wx at a;cases e:s.1.find? (·.1==m.2.1)with|some l=>rw[e]at a;rw[a];exact aa (aa rfl)|none=>rw[e]at a;rw[a];exact aa (aa rfl)
 by_cases v:m.1=2
 ·have a:vp s m r=match Ga s m.2.1 with|some l=>UH l.2.1 r.2.2.2.1|none=>false:=by unfold vp;grind
  refine ae (aw (b j) (bb (c v) (ae (tf (xs:=s.2.1) (p:=(·.1==m.2.1)) (enc:=λi=>((i:Int),cR s r)) (g:=λl=>(UH l.2.1 r.2.2.2.1,cR s r)) (e:=cR s r) (λi d=>?_) ?_ ?_))))
  ·unfold fj;refine bD d (aN d (aE (λh'=>?_) λh'=>aa ?_));·have hl:=f.2.1.2 _ (a_ d);refine an (Hg s.2.1[i].2.1 r.2.2.2.1 hl.2.1.1 (λu x=>h.s.pt _ (a_ d) u x) (by have:=h.pt;omega)) (aa ?_);grind
   ·rw[if_neg (by grind),ar d (by exact f.2.1.1)]
  ·unfold fj;exact ba (aa rfl)
  ·unfold Ga at a;cases e:s.2.1.find? (·.1==m.2.1)with|some l=>rw[e]at a;rw[a];exact aa (aa rfl)|none=>rw[e]at a;rw[a];exact aa (aa rfl)
 by_cases y:m.1=3
 ·have a:vp s m r=match qE s m.2.1 with|some l=>wD l.2.1 r.2.2.2.2.1|none=>false:=by unfold vp;grind
  refine ae (aw (b j) (aw (b v) (bb (c y) (ae (tf (xs:=s.2.2.1) (p:=(·.1==m.2.1)) (enc:=λi=>((i:Int),cR s r)) (g:=λl=>(wD l.2.1 r.2.2.2.2.1,cR s r)) (e:=cR s r) (λi d=>?_) ?_ ?_)))))
  ·unfold fk;refine bD d (aN d (aE (λh'=>?_) λh'=>aa ?_));·have hl:=f.2.2.1.2 _ (a_ d);refine an (xH s.2.2.1[i].2.1 r.2.2.2.2.1 hl.2.1.1 (by have:=h.cm;omega)) (aa ?_);grind
   ·rw[if_neg (by grind),ar d (by exact f.2.2.1.1)]
  ·unfold fk;exact ba (aa rfl)
  ·unfold qE at a;cases e:s.2.2.1.find? (·.1==m.2.1)with|some l=>rw[e]at a;rw[a];exact aa (aa rfl)|none=>rw[e]at a;rw[a];exact aa (aa rfl)
 refine ae (aw (b j) (aw (b v) (aw (b y) ?_)));by_cases z:m.1=4;·refine bb (c z) (aa (aa ?_));rw[show vp s m r=(r.2.1==m.2.2.1)from by unfold vp;grind]
 refine aw (b z) ?_;by_cases A:m.1=5;·refine bb (c A) (aa (aa ?_));rw[show vp s m r=(r.2.2.2.2.2.2.2.2.1==m.2.2.1)from by unfold vp;grind]
 refine aw (b A) ?_;by_cases B:m.1=6;·refine bb (c B) (aa (aa ?_));rw[show vp s m r=decide (r.2.2.2.2.2.2.2.1<=m.2.2.1)from by unfold vp;grind]
 refine aw (b B) ?_;by_cases C:m.1=7;·refine bb (c C) (an (rm m.2.2.2.1 r.2.2.1 w h.n) (aa (aa ?_)));rw[show vp s m r=MA m.2.2.2.1 r.2.2.1 from by unfold vp;grind]
 refine aw (b C) (bb (c (by omega)) (aa (aa ?_)));rw[show vp s m r=decide ((r.2.2.2.1.length:Int)<=m.2.2.1)from by unfold vp;grind]
theorem VG(s:PS)(m:VC)(r:ly)(h:SmQ s r)(b:1<=m.1/\m.1<=8)(a:qL m.2.2.2.1.1):aJ tbl bY [.d yM m,.ptr 0 0] [.box Fp [.clo cC [1,2]],P6 s,bxU r] q_apply_conditions_2_dr (RD s r m,cR s r):=by refine aC (Z4 _) (aF s7 rfl (λO n=>ti O n m s.1 s.2.1 s.2.2.1 s.2.2.2.1 r.1.1 r.1.2.1 r.2.1 r.2.2.1 r.2.2.2.1 r.2.2.2.2.1 r.2.2.2.2.2.1 r.2.2.2.2.2.2.1 r.2.2.2.2.2.2.2.1 r.2.2.2.2.2.2.2.2.1) ?_);unfold lE;exact an (VF s m r h b a) (aa rfl)
theorem J0(s:PS)(r:ly):aJ tbl hU [.d yS s,.d Q1 r] [] q_apply_conditions (cR s r):=aC (Z2 _) (aF Ak rfl (λO n=>Aq O n s r) (aa rfl))
theorem Aw(r:ly)(a:r.2.2.2.1.length<=1000000)(b:r.2.2.2.2.1.length<=1000000):aJ tbl iL [.d Q1 r] [] fZ (r,()):=by obtain⟨p,po,nh,pt,cm,t⟩:=r;simp only at a b;refine aC rfl (aF Cg rfl (λO n=>Cv O n (p,po,nh,pt,cm,t)) ?_);unfold rp;refine aA (by grind) (aA (by grind) (aa ?_));simp
theorem S8{a:Au}(b:jb a=0)(c:a.1=8):1<=a.2.1/\a.2.1<=16:=by
 unfold jb at b;split at b;·omega
 split at b;·omega
 split at b;·omega
 rename_i h;have h:rT a=true:=by grind
 unfold rT at h;grind
theorem Q9{a:Au}(b:jb a=0):1<=a.1/\a.1<=8:=by
 unfold jb at b;split at b;·cases b
 ·omega
section
variable {a:Au} {p:L6} {po nh:Int} {pt cm:List Int} {pf md mt tg:Int} {u:Unit}
theorem YY(h:a.1=1):DN a (p,po,nh,pt,cm,pf,md,mt,tg,u)=(p,po,nh,pt,cm,a.2.1,md,mt,tg,u):=by simp[DN,h]
theorem YZ(h:a.1=2):DN a (p,po,nh,pt,cm,pf,md,mt,tg,u)=(p,po,nh,pt,cm,pf,a.2.1,mt,tg,u):=by simp[DN,h]
theorem Y0(h:a.1=3):DN a (p,po,nh,pt,cm,pf,md,mt,tg,u)=(p,po,nh,pt,cm,pf,md,a.2.1,tg,u):=by simp[DN,h]
theorem Y1(h:a.1=4):DN a (p,po,nh,pt,cm,pf,md,mt,tg,u)=(p,po,nh,pt,cm,pf,md,mt,a.2.1,u):=by simp[DN,h]
theorem Y2(h:a.1=5):DN a (p,po,nh,pt,cm,pf,md,mt,tg,u)=(p,po,a.2.2.2.2.1,pt,cm,pf,md,mt,tg,u):=by simp[DN,h]
theorem Y3(h:a.1=6):DN a (p,po,nh,pt,cm,pf,md,mt,tg,u)=(p,po,nh,pt,Cm.add cm a.2.2.2.1,pf,md,mt,tg,u):=by simp[DN,h]
theorem Y4(h:a.1=7):DN a (p,po,nh,pt,cm,pf,md,mt,tg,u)=(p,po,nh,pt,Cm.drop cm a.2.2.2.1,pf,md,mt,tg,u):=by simp[DN,h]
theorem Y5(h:a.1=8)(hl:(pt.length:Int)+a.2.1<=2000):DN a (p,po,nh,pt,cm,pf,md,mt,tg,u)=(p,po,nh,c_ a.2.1.toNat a.2.2.1++pt,cm,pf,md,mt,tg,u):=by simp[DN,h,hl]
theorem Y6(h:a.1=8)(hl:¬(pt.length:Int)+a.2.1<=2000):DN a (p,po,nh,pt,cm,pf,md,mt,tg,u)=(p,po,nh,pt,cm,pf,md,mt,tg,u):=by simp[DN,h];intro h';exact absurd h' hl
end
theorem E7(a:Au)(r:ly)(A:jb a=0)(C:r.2.2.2.1.length<=900000)(D:r.2.2.2.2.1.length<=900000):aJ tbl mc [.d yA a,.d Q1 r] [] jv (DN a r,()):=by
 obtain⟨⟨y,z,⟨⟩⟩,po,nh,pt,cm,pf,md,mt,tg,⟨⟩⟩:=r;simp only at C D;refine aC rfl (aF GP rfl (λO n=>G5 O n a ((y,z,()),po,nh,pt,cm,pf,md,mt,tg,())) ?_);unfold vH;have J:=Q9 A;have b:∀{k:Int},a.1≠k->(a.1==k)=false:=λh=>beq_eq_false_iff_ne.2 h;have c:∀{k:Int},a.1=k->(a.1==k)=true:=λh=>beq_iff_eq.2 h;by_cases d:a.1=1;·rw[YY d];exact ae (bb (c d) (aa (aa rfl)))
 by_cases e:a.1=2;·rw[YZ e];exact ae (aw (b d) (bb (c e) (aa (aa rfl))))
 by_cases f:a.1=3;·rw[Y0 f];exact ae (aw (b d) (aw (b e) (bb (c f) (aa (aa rfl)))))
 by_cases g:a.1=4;·rw[Y1 g];exact ae (aw (b d) (aw (b e) (aw (b f) (bb (c g) (aa (aa rfl))))))
 by_cases j:a.1=5;·rw[Y2 j];exact ae (aw (b d) (aw (b e) (aw (b f) (aw (b g) (bb (c j) (aa (aa rfl)))))))
 by_cases p:a.1=6;·rw[Y3 p];exact ae (aw (b d) (aw (b e) (aw (b f) (aw (b g) (aw (b j) (bb (c p) (an (D6 cm a.2.2.2.1 (by omega)) (aa (aa rfl)))))))))
 by_cases w:a.1=7;·rw[Y4 w];exact ae (aw (b d) (aw (b e) (aw (b f) (aw (b g) (aw (b j) (aw (b p) (bb (c w) (an (CL cm a.2.2.2.1 (by omega)) (aa (aa rfl))))))))))
 have u:a.1=8:=by omega
 obtain⟨F,H⟩:=S8 A u;generalize l:a.2.1=N at F H;obtain⟨m,rfl⟩:=D_ (show 0<=N by omega);refine ae (aw (b d) (aw (b e) (aw (b f) (aw (b g) (aw (b j) (aw (b p) (aw (b w) (bb (c u) ?_))))))));have B:d_ .i64 ((pt.length:Int)+(m:Int))=(pt.length:Int)+(m:Int):=wrap_i64 (by omega) (by omega);have v:d_ .i64 ((m:Int)+(pt.length:Int))=(m:Int)+(pt.length:Int):=wrap_i64 (by omega) (by omega);simp only[l,B,v];refine aE (λh=>?_) λh=>aa (aa ?_)
 ·have h:=of_decide_eq_true h;rw[Y5 u (by omega),l];refine aA (by grind) ?_;refine ae (a8 (N:=m) (I:=λi s=>s=((i:Int),y,z,po,nh,pt,cm,pf,md,mt,tg,(0:Int),(0:Int),(0:Int),(0:Int),(0:Int),(0:Int),(0:Int),(0:Int),c_ i a.2.2.1++c_ (m - i) (0:Int),())) rfl (λi s E hs=>?_) λs hs=>?_)
  ·subst hs;unfold nk;simp only[l];have hl:(c_ i a.2.2.1++c_ (m - i) (0:Int)).length=m:=by grind
   refine bb (decide_eq_true (by grind)) ?_;refine aN (by omega) (ip (x:=(c_ i a.2.2.1++c_ (m - i) (0:Int))[i]'(by omega)) (by grind) (aa ?_));show(d_ .i64 ((i:Int)+1),y,z,po,nh,pt,cm,pf,md,mt,tg,(0:Int),(0:Int),(0:Int),(0:Int),(0:Int),(0:Int),(0:Int),(0:Int),(c_ i a.2.2.1++c_ (m - i) (0:Int)).set (s_ (i:Int)) a.2.2.1,())=_;rw[ar E (by omega),h_];have:(c_ i a.2.2.1++c_ (m - i) (0:Int)).set i a.2.2.1=c_ (i+1) a.2.2.1++c_ (m - (i+1)) (0:Int):=by rw[List.set_append_right _ _ (by simp),y_,ak_,show m - i=(m - (i+1))+1 by omega,List.replicate_succ,List.set_cons_zero,List.replicate_succ' (n:=i),z_];rfl
   grind
  ·subst hs;unfold nk;simp only[l];refine aw (decide_eq_false (by simp)) (aa ?_);simp only[ak_,List.replicate_zero,B_];refine aA (decide_eq_true (by grind)) (aa (aa ?_));simp
 ·have h:=of_decide_eq_false h;rw[Y6 u (by omega)]
theorem Hf(t:tn):aJ tbl nF [.d yT t] [] kD (([([112],[([116],t.2.1,t.2.2.1,1,())],1,())]:List pG),()):=aC rfl (aF Iv rfl (λO n=>IN O n t) (aa rfl))
theorem WO{a:Au}(h:okD yA a):SmP (Vo a):=by
 have l1:(1:Nat)<=maxLen:=by decide
 have c:IntKind.i64.min<=(1:Int)/\(1:Int)<=IntKind.i64.max:=by decide
 have e:okD yT ([116],[],[a],1,()):=by refine⟨l1,⟨v_ _,λy b=>by grind⟩,⟨l1,λx d=>?_⟩,c,trivial⟩;grind
 have hp:okD yO ([112],[([116],[],[a],1,())],1,()):=by refine⟨l1,⟨l1,λx d=>?_⟩,c,trivial⟩;grind
 refine⟨⟨⟨v_ _,λy b=>by grind⟩,⟨v_ _,λy b=>by grind⟩,⟨v_ _,λy b=>by grind⟩,⟨l1,λy b=>?_⟩,trivial⟩,v_ _,v_ _,v_ _,show(1:Nat)<=1048576 by simp,λl hl=>by grind⟩;grind
theorem LW(l:List Au)(r:ly)(hl:l.length<=100000)(g:∀a∈l,okD yA a)(hr:SmR 100000 r):aJ tbl lH [.d (.list yA) l,.d Q1 r] [] ju (Kh l r,()):=by
 refine aC rfl (aF NX rfl (λO n=>N8 O n l r) ?_);unfold DC;refine an (Aw r (by have:=hr.pt;omega) (by have:=hr.cm;omega)) ?_;have enc:∀x:ly,x=((x.1.1,x.1.2.1,()),x.2.1,x.2.2.1,x.2.2.2.1,x.2.2.2.2.1,x.2.2.2.2.2.1,x.2.2.2.2.2.2.1,x.2.2.2.2.2.2.2.1,x.2.2.2.2.2.2.2.2.1,()):=λx=>rfl;refine ae (a8 (N:=l.length) (I:=λi s=>∃x:ly,x=Kh (l.take i) r/\s=((i:Int),(0:Int),(0:Int),(0:Int),(0:Int),(0:Int),(0:Int),(0:Int),(0:Int),x.1.1,x.1.2.1,x.2.1,x.2.2.1,x.2.2.2.1,x.2.2.2.2.1,x.2.2.2.2.2.1,x.2.2.2.2.2.2.1,x.2.2.2.2.2.2.2.1,x.2.2.2.2.2.2.2.2.1,())) ⟨r,rfl,rfl⟩ (λi s c hs=>?_) λs hs=>?_)
 ·obtain⟨x,e,rfl⟩:=hs;unfold sf;have d:SmR (100000+(l.take i).length) x:=by rw[e];exact PZ hr
  have hc:=d.cm;have hp:=d.pt;have f:=g _ (a_ c);have b:Kh (l.take (i+1)) r=Ma l[i] x:=by unfold Kh at e⊢;rw[p_ c,G_,e];rfl
  refine bD c (ae (aN c (an (Hf _) (an (vE (Vo l[i]) (WO f)) ?_))));rw[XX];refine aE (λh=>?_) λh=>?_
  ·have h:jb l[i]=0:=by grind
   rw[show Ma l[i] x=DN l[i] x from if_pos h]at b;refine an (E7 l[i] x h (by omega) (by grind)) (aa (aa ⟨DN l[i] x,b.symm,?_⟩));show(d_ .i64 ((i:Int)+1),_)=_;rw[ar c (by omega)]
  ·have h:¬jb l[i]=0:=by grind
   rw[show Ma l[i] x=x from if_neg h]at b;refine aa (aa ⟨x,b.symm,?_⟩);show(d_ .i64 ((i:Int)+1),_)=_;rw[ar c (by omega)]
 ·obtain⟨x,e,rfl⟩:=hs;unfold sf;refine ba (aa (aa ?_));grind
theorem RN{s:PS}{m:VC}(h:vo s m=0):1<=m.1/\m.1<=8:=by refine f_ λhn=>?_;rw[Nc (show m.1<1\/8<m.1 by omega)]at h;omega
theorem Mc{α:Type}{p:α->Bool}{l:List α}{i:Nat}(a:i<l.length):(l.take (i+1)).all p=((l.take i).all p&&p l[i]):=by rw[p_ a,ag_];simp
abbrev eE{α:Type}(s:PS)(r:ly)(x:α):List X4×List X3×List X2×List pG×Int×Int×Int×Int×List Int×List Int×Int×Int×Int×Int×α:=
 (s.1,s.2.1,s.2.2.1,s.2.2.2.1,r.1.1,r.1.2.1,r.2.1,r.2.2.1,r.2.2.2.1,r.2.2.2.2.1,r.2.2.2.2.2.1,r.2.2.2.2.2.2.1,r.2.2.2.2.2.2.2.1,r.2.2.2.2.2.2.2.2.1,x)
abbrev zE{α:Type}(x:α):Bool×Int×Int×Int×Int×Int×Int×Int×Int×α:=(false,0,0,0,0,0,0,0,0,x)
theorem ev0(s:PS)(r:ly)(h:SmQ s r)(t:tn)(e:TrmOk s t)(f:∀m∈t.2.1,qL m.2.2.2.1.1)(T:List Int)(A:List Au): Wp (λn=>aS n (gT (q9 tbl n) n t) (true,(0:Int),zE (eE s r (T,A,t.1,t.2.1,t.2.2.1,t.2.2.2.1,())))) λx=>x=(Cr s r t,zE (eE s r (T,A,t.1,t.2.1,t.2.2.1,t.2.2.2.1,()))):=by
 refine a8 (N:=t.2.1.length) (I:=λi x=>x=((t.2.1.take i).all (RD s r),(i:Int),zE (eE s r (T,A,t.1,t.2.1,t.2.2.1,t.2.2.2.1,())))) rfl (λi x b d=>?_) λx d=>?_
 ·subst d;unfold gT;have hl:=e.ml;have c:=a_ b;refine bD b (aN b (aE (λa=>?_) λa=>aa ?_));·refine an (VG s t.2.1[i] r h (RN (e.ma _ c)) (f _ c)) (aa ?_);show(RD s r t.2.1[i],d_ .i64 ((i:Int)+1),_)=_;have a:(t.2.1.take i).all (RD s r)=true:=a;rw[Mc b,a,t_,ar b (by omega)]
  ·show(false,d_ .i64 ((i:Int)+1),_)=_;have a:(t.2.1.take i).all (RD s r)=false:=a;rw[Mc b,a,Bool.false_and,ar b (by omega)]
 ·subst d;unfold gT;refine ba (aa ?_);rw[j_];rfl
theorem F5{hold:tn->Bool}{t:tn}{l:List tn}{i:Nat}{d:Int}:ez hold (t::l) i d=if hold t then(if t.2.2.2.1≠3 then([(i:Int)],t.2.2.1,t.2.2.2.1)else((i:Int)::(ez hold l (i+1) d).1,t.2.2.1++(ez hold l (i+1) d).2.1,(ez hold l (i+1) d).2.2))else ez hold l (i+1) d:=rfl
noncomputable def tp(s:PS)(p:pG)(r:ly):List Int×List Au×Int:=ez (Cr s r) p.2.1 0 p.2.2.1
noncomputable def oS(s:PS)(p:pG)(r:ly):Bool×(ly×Unit):=if(tp s p r).2.2=2 then(false,PW,())else(true,Kh (tp s p r).2.1 r,())
theorem Xo{s:PS}{p:pG}{r:ly}(hs:okD yO p):∀a∈(tp s p r).2.1,okD yA a:=by
 have key:∀(l:List tn) (i:Nat) (d:Int),(∀t∈l,okD yT t)->∀a∈(ez (Cr s r) l i d).2.1,okD yA a:=by
  intro l;induction l with
  |nil=>intro i d _ a b;cases b|cons t l e=>
   intro i d h a b;rw[F5]at b;have c:=h t (by simp);split at b
   ·split at b;·exact c.2.2.1.2 a b
    ·rcases n_.1 b with b|b;·exact c.2.2.1.2 a b
     grind
   grind
 exact key p.2.1 0 p.2.2.1 hs.2.1.2
theorem sE(s:PS)(p:pG)(r:ly)(h:SmQ s r)(hp:PlcOk s p)(u:okD yO p):aJ tbl gA [.d yS s,.d yO p,.d Q1 r] [] dy ((tp s p r).1,oS s p r,()):=by
 refine aC rfl (aF Do rfl (λO n=>Dw O n s p r) ?_);unfold sF;have J:=hp.tl;have C:∀t∈p.2.1,t.2.2.1.length<=64:=λt H=>(hp.tr t H).al;generalize g:tp s p r=R;have D:R.1.length<=64/\R.2.1.length<=64*64:=by have:=xv (hold:=Cr s r) (l:=p.2.1) (i:=0) (d:=p.2.2.1) C;have e:ez (Cr s r) p.2.1 0 p.2.2.1=R:=g;grind
 refine an (J0 s r) (ae (Wp.imp (Q:=λx=>x=(R.2.2,zE (R.1,R.2.1,()))) (a8 (N:=p.2.1.length) (I:=λi x=>∃(T:List Int) (A:List Au),x=(p.2.2.1,(i:Int),zE (eE s r (T,A,())))/\T++(ez (Cr s r) (p.2.1.drop i) i p.2.2.1).1=R.1/\A++(ez (Cr s r) (p.2.1.drop i) i p.2.2.1).2.1=R.2.1/\(ez (Cr s r) (p.2.1.drop i) i p.2.2.1).2.2=R.2.2) ⟨[],[],rfl,by rw[F_,<-g];rfl,by rw[F_,<-g];rfl,by rw[F_,<-g];rfl⟩ (λi x k B=>?_) λx B=>?_) λx B=>?_))
 ·obtain⟨T,A,rfl,b,c,a⟩:=B;unfold lu;have hT:T.length<=64:=by grind
  have Y:A.length<=64*64:=by grind
  have hw:d_ .i64 ((i:Int)+1)=((i+1:Nat):Int):=ar k (by omega);rw[List.drop_eq_getElem_cons k,F5]at b c a;have w:=a_ k;have f:=hp.tr _ w;have v:=u.2.1.2 _ w;refine bD k (ae (aN k ?_));generalize p.2.1[i]=t at b c a f v;have E:=f.al;refine ae (Wp.imp (ev0 s r h t f (λm F=>((v.2.1.2 m F).2.2.2.1).1) T A) λy L=>?_);subst L;refine aE (λj=>aa (aa ?_)) λj=>?_;·grind
  ·have j:Cr s r t=true:=by grind
   rw[j]at b c a;refine aA (decide_eq_true (by grind)) (aA (decide_eq_true (by grind)) (aE (λz=>aa (aa ?_)) λz=>aa (aa ?_)));·grind
   ·have z:¬t.2.2.2.1≠3:=by grind
    rw[if_pos rfl,if_neg z]at b c a;refine⟨T++[(i:Int)],A++t.2.2.1,?_,?_,?_,a⟩;all_goals grind
 ·obtain⟨T,A,rfl,b,c,a⟩:=B;unfold lu;rw[af_]at b c a;refine ba (aa ?_);show(p.2.2.1,zE (T,A,()))=_;have M:T=R.1:=by rw[<-b];exact(B_ T).symm
  have P:A=R.2.1:=by rw[<-c];exact(B_ A).symm
  have U:p.2.2.1=R.2.2:=a;grind
 ·subst B;have z:oS s p r=if R.2.2=2 then(false,PW,())else(true,Kh R.2.1 r,()):=by unfold oS;grind
  rw[z];refine aE (λj=>aa ?_) λj=>?_;·grind
  ·rw[if_neg (by grind)];refine an (LW R.2.1 r (by omega) (by rw[<-g];exact Xo u) ⟨h.pt,h.cm⟩) (aa rfl)
noncomputable def vq(s:PS)(n:List UInt8)(r:ly):Int:=if re mL s≠0 then re mL s else if(vn s n).isSome=false then 6 else rf r
noncomputable def Ab(s:PS)(n:List UInt8):pG:=if re mL s≠0 then SH else(vn s n).getD SH
theorem uL(s:PS)(n:List UInt8)(r:ly)(h:SmQ s r):aJ tbl iq [.d yS s,.d tS n,.d Q1 r] [] da (Ab s n,vq s n r,()):=by
 refine aC rfl (aF Et rfl (λO k=>ED O k s n r) ?_);unfold uO;refine an (vE s h.s) (aE (λa=>aa ?_) λa=>?_)
 ·have a:re mL s≠0:=by grind
  rw[show Ab s n=SH from if_pos a,show vq s n r=re mL s from if_pos a]
 have a:¬re mL s≠0:=by grind
 have c:=Li (f_ a);rw[show Ab s n=(vn s n).getD SH from if_neg a,show vq s n r=if(vn s n).isSome=false then 6 else rf r from if_neg a];refine an (Hk s n c) (aE (λb=>aa ?_) λb=>an (Hc r h.p) (aa ?_))
 ·have b:(vn s n).isSome=false:=by grind
  rw[if_pos b];cases e:vn s n with|some p=>grind|none=>rfl
 grind
theorem B9{s:PS}{n:List UInt8}{r:ly}(h:vq s n r=0):∃p,vn s n=some p/\Ab s n=p/\PolOk mL s/\rf r=0:=by
 unfold vq at h;split at h;·omega
 rename_i a;split at h;·omega
 rename_i b;cases e:vn s n with|none=>grind|some p=>exact⟨p,rfl,by unfold Ab;grind,Li (f_ a),h⟩
noncomputable def Ca(s:PS)(n:List UInt8)(r:ly):Bool×(ly×Unit):=if vq s n r≠0 then(false,PW,())else oS s (Ab s n) r
noncomputable def runT(s:PS)(n:List UInt8)(r:ly):List Int:=if vq s n r≠0 then []else(tp s (Ab s n) r).1
theorem Dy(s:PS)(n:List UInt8)(r:ly)(h:SmQ s r):aJ tbl cD [.d yS s,.d tS n,.d Q1 r] [] b8 (Ca s n r,vq s n r,()):=by
 refine aC rfl (aF NY rfl (λO k=>N9 O k s n r) ?_);unfold DD;refine an (uL s n r h) (aE (λa=>aa ?_) λa=>?_)
 ·have a:vq s n r≠0:=by grind
  rw[show Ca s n r=(false,PW,())from if_pos a]
 ·have a:vq s n r=0:=by grind
  obtain⟨p,b,c,d,_⟩:=B9 a;rw[show Ca s n r=oS s (Ab s n) r from if_neg (not_not_intro a),c,a];exact an (sE s p r h (d.r4 p (sQ b)) (h.s.ok.2.2.2.1.2 p (sQ b))) (aa rfl)
end Go.Proofs.YthjnceggmnicmaaGreatDoor
namespace Go.Pl
open Go Go.Av Go.Ev
def NH(a b:ly):Bool:=
 (((((((((false ^^ rJ yP a.1 b.1)&&(a.2.1==b.2.1))&&(a.2.2.1==b.2.2.1))&&(a.2.2.2.2.2.1==b.2.2.2.2.2.1))&&(a.2.2.2.2.2.2.1==b.2.2.2.2.2.2.1))&&(a.2.2.2.2.2.2.2.1==b.2.2.2.2.2.2.2.1))&&(a.2.2.2.2.2.2.2.2.1==b.2.2.2.2.2.2.2.2.1))&&decide (a.2.2.2.1=b.2.2.2.1))&&decide (a.2.2.2.2.1=b.2.2.2.2.1))
theorem Wb(p:L6):rJ yP p p=true:=by show((p.1==p.1)&&((p.2.1==p.2.1)&&true))=true;simp
theorem JN(a:ly):NH a a=true:=by have h:=Wb a.1;unfold NH;rw[h];simp
theorem FD{l:List Int}:Cm.check l=0↔l.length<=255/\Cm.Up l:=by
 unfold Cm.check;split
 ·constructor;·intro h;cases h
  ·intro h;omega
 ·split;·rename_i b a;exact⟨λ_=>⟨by omega,a⟩,λ_=>rfl⟩
  ·rename_i b a;exact⟨λh=>(by cases h),λh=>absurd h.2 a⟩
theorem MY{x:Int}{l:List Int}(a:Cm.Up l)(h:x∈l):Cm.ins x l=l:=Cm.uniq _ _ (Cm.up_ins x l a) a λz=>by rw[Cm.mem_ins];grind
theorem Rl{l:List Int}(c:Int)(h:Cm.check l=0):Cm.check (Cm.add l c)=0:=by
 rw[FD]at h⊢;have a:=Cm.up_asc l;have hl:=Cm.len_asc l;unfold Cm.add;split;·exact⟨by omega,a⟩
 ·rename_i hn;refine⟨?_,Cm.up_ins c _ a⟩;by_cases hc:c∈Cm.asc l;·rw[MY a hc];omega
  ·have:=Cm.len_ins c (Cm.asc l);have:¬255<=(Cm.asc l).length:=λh=>hn ⟨h,hc⟩;omega
theorem Oz{l:List Int}(c:Int)(h:Cm.check l=0):Cm.check (Cm.drop l c)=0:=by rw[FD]at h⊢;have hl:=M5 l c;exact⟨by omega,(Cm.up_asc l).filter _⟩
theorem SA{r:ly}:rf r=0↔lD r.1=true/\(1<=r.2.1/\r.2.1<=7)/\r.2.2.2.1.length<=2000/\(∀v∈r.2.2.2.1,1<=v/\v<=4294967295)/\Cm.check r.2.2.2.2.1=0/\(pj r.2.2.2.2.2.1/\pj r.2.2.2.2.2.2.1/\pj r.2.2.2.2.2.2.2.2.1)/\0<=r.2.2.2.2.2.2.2.1/\r.2.2.2.2.2.2.2.1<=16777216:=by
 unfold rf;split;·rename_i h;simp[h]
 rename_i a;split;·rename_i h;simp;omega
 rename_i f;split;·rename_i h;simp;omega
 rename_i g;split;·rename_i h;simp only[h];simp
 rename_i b;have b:=f_ b;split;·rename_i h;simp[h]
 rename_i c;have c:=f_ c;have a:lD r.1=true:=by simpa using a
 split
 ·rename_i h;constructor;·intro e;cases e
  ·rintro⟨_,_,_,_,_,d,j⟩;rcases h with h|h|h;·exact absurd d h
   ·omega
   ·omega
 ·rename_i h;simp only[not_or,Int.not_lt]at h;exact⟨λ_=>⟨a,by omega,by omega,b,c,f_ h.1,h.2⟩,λ_=>rfl⟩
theorem Rm{a:Au}(d:jb a=0){r:ly}(h:rf r=0):rf (DN a r)=0:=by
 rw[SA]at h⊢;obtain⟨p,po,nh,pt,cm,pf,md,mt,tg,u⟩:=r;simp only at h;unfold jb at d;split at d;·cases d
 rename_i c;split at d;·cases d
 split at d;·cases d
 rename_i b;have b:rT a=true:=by simpa using b
 unfold rT at b;have j:pj a.2.1↔0<=a.2.1/\a.2.1<=4294967295:=Iff.rfl;simp only[DN];split;·rename_i c;simp[c]at b⊢;exact⟨h.1,h.2.1,h.2.2.1,h.2.2.2.1,h.2.2.2.2.1,⟨b,h.2.2.2.2.2.1.2⟩,h.2.2.2.2.2.2⟩
 split;·rename_i c;simp[c]at b⊢;exact⟨h.1,h.2.1,h.2.2.1,h.2.2.2.1,h.2.2.2.2.1,⟨h.2.2.2.2.2.1.1,b,h.2.2.2.2.2.1.2.2⟩,h.2.2.2.2.2.2⟩
 split;·rename_i c;simp[c]at b⊢;exact⟨h.1,h.2.1,h.2.2.1,h.2.2.2.1,h.2.2.2.2.1,h.2.2.2.2.2.1,b⟩
 split;·rename_i c;simp[c]at b⊢;exact⟨h.1,h.2.1,h.2.2.1,h.2.2.2.1,h.2.2.2.2.1,⟨h.2.2.2.2.2.1.1,h.2.2.2.2.2.1.2.1,b⟩,h.2.2.2.2.2.2⟩
 split;·exact h
 split;·exact⟨h.1,h.2.1,h.2.2.1,h.2.2.2.1,Rl _ h.2.2.2.2.1,h.2.2.2.2.2⟩
 split;·exact⟨h.1,h.2.1,h.2.2.1,h.2.2.2.1,Oz _ h.2.2.2.2.1,h.2.2.2.2.2⟩
 rename_i k l f n g s w;rw[if_neg f,if_neg (by omega),if_neg g,if_neg (by omega)]at b;simp only[J_,decide_eq_true_eq]at b;split
 ·rename_i hl;refine⟨h.1,h.2.1,?_,λv e=>?_,h.2.2.2.2⟩;·rw[O_,y_];omega
  ·rcases n_.1 e with e|e;·rw[(List.mem_replicate.1 e).2];exact b.1
   ·exact h.2.2.2.1 v e
 ·exact h
theorem Oi{l:List Au}:∀{r:ly},rf r=0->rf (Kh l r)=0:=by
 induction l with
 |nil=>intro r h;exact h|cons a l c=>
  intro r h;refine c (r:=Ma a r) ?_;unfold Ma;split;·rename_i b;exact Rm b h
  ·exact h
end Go.Pl
namespace Go.Proofs.YthjnceggmnicmaaGreatDoor
open Go Go.Av Go.Ev Go.Pl
theorem J1(a b:List Int)(hl:a.length<=9223372036854775807):aJ tbl pP [.d (.list tW) a,.d (.list tW) b] [] im (decide (a=b),()):=by
 refine aC rfl (aF Lx rfl (λO n=>LJ O n a b) ?_);unfold AB;refine aE (λh=>aa ?_) λh=>?_;·rw[decide_eq_false];rintro rfl;simp at h
 have d:a.length=b.length:=by simp at h;omega
 refine ae (LH (N:=a.length) (good:=λi=>a[i]? =b[i]?) (e:=(false,())) (g:=()) (λi c=>?_) ?_ (λh=>?_) λh=>?_);·unfold qm;refine bD c (aN c (aN (by omega) (uE ?_ (by rw[ar c hl]))));rw[b_ c,b_ (by omega)];simp
 ·unfold qm;exact ba (aa rfl)
 ·refine aa ?_;rw[decide_eq_true (P_ λi=>?_)];by_cases c:i<a.length;·exact h i c
  ·rw[r_ (by omega),r_ (by omega)]
 ·refine aa ?_;rw[decide_eq_false];rintro rfl;obtain⟨i,_,h⟩:=h;exact h rfl
theorem Az(a b:ly)(f:a.2.2.2.1.length<=9223372036854775807)(j:a.2.2.2.2.1.length<=9223372036854775807):aJ tbl mg [.d Q1 a,.d Q1 b] [] f5 (NH a b,()):=by
 refine aC rfl (aF LA rfl (λO n=>LM O n a b) ?_);unfold AG;refine ae (cY (λ_=>aa rfl) (ae (cY (λ_=>aa rfl) (ae (cY (λ_=>aa rfl) (ae (cY (λ_=>aa rfl) (ae (cY (λ_=>aa rfl) (ae (cY (λ_=>aa rfl) (ae (cY (λ_=>aa rfl) ?_)))))))))))));have key:NH a b=(!((((((((true ^^ rJ yP a.1 b.1)||(a.2.1 != b.2.1))||(a.2.2.1 != b.2.2.1))||(a.2.2.2.2.2.1 != b.2.2.2.2.2.1))||(a.2.2.2.2.2.2.1 != b.2.2.2.2.2.2.1))||(a.2.2.2.2.2.2.2.1 != b.2.2.2.2.2.2.2.1))||(a.2.2.2.2.2.2.2.2.1 != b.2.2.2.2.2.2.2.2.1))||((a.2.2.2.1.length:Int) != (b.2.2.2.1.length:Int)))&&(decide (a.2.2.2.1=b.2.2.2.1)&&decide (a.2.2.2.2.1=b.2.2.2.2.1))):=by
  have hl:decide (a.2.2.2.1=b.2.2.2.1)=(!((a.2.2.2.1.length:Int) != (b.2.2.2.1.length:Int))&&decide (a.2.2.2.1=b.2.2.2.1)):=by
   by_cases h:a.2.2.2.1=b.2.2.2.1;·rw[h];simp
   ·simp[h]
  unfold NH;rw[hl];simp only[bne,Bool.not_or,Bool.not_not,Bool.and_assoc,Bool.false_xor,Bool.true_xor,Bool.and_self_left]
 generalize(((((((true ^^ rJ yP a.1 b.1)||(a.2.1 != b.2.1))||(a.2.2.1 != b.2.2.1))||(a.2.2.2.2.2.1 != b.2.2.2.2.2.1))||(a.2.2.2.2.2.2.1 != b.2.2.2.2.2.2.1))||(a.2.2.2.2.2.2.2.1 != b.2.2.2.2.2.2.2.1))||(a.2.2.2.2.2.2.2.2.1 != b.2.2.2.2.2.2.2.2.1))=B at key⊢;rw[key];refine aE (λh=>aa ?_) λh=>?_;·rw[h];rfl
 rw[h,Bool.not_false,t_];have d:a.2.2.2.1.length=b.2.2.2.1.length:=by simp at h;omega
 refine ae (LH (N:=a.2.2.2.1.length) (good:=λi=>a.2.2.2.1[i]? =b.2.2.2.1[i]?) (e:=(false,())) (g:=()) (λi c=>?_) ?_ (λh=>?_) λh=>?_);·unfold qv;refine bD c (aN c (aN (by omega) (uE ?_ (by rw[ar c f]))));rw[b_ c,b_ (by omega)];simp
 ·unfold qv;exact ba (aa rfl)
 ·refine an (J1 a.2.2.2.2.1 b.2.2.2.2.1 j) (aa ?_);rw[decide_eq_true (p:=a.2.2.2.1=b.2.2.2.1) (P_ λi=>?_),t_];by_cases c:i<a.2.2.2.1.length;·exact h i c
  ·rw[r_ (by omega),r_ (by omega)]
 ·refine aa ?_;rw[decide_eq_false (p:=a.2.2.2.1=b.2.2.2.1)];·rfl
  ·intro e;obtain⟨i,_,h⟩:=h;rw[e]at h;exact h rfl
open Go Go.Av Go.Ev
theorem A0:aJ tbl pd [] [] lm ((([([111,119,110],([(true,((167772160,(8,())),(8,(24,()))))],()))],([],([([98,108,117,101],([(true,(65000,((-1),())))],()))],([([105,109,112,111,114,116],([([102,105,114,115,116],([(1,([111,119,110],(0,((0,(0,())),(true,())))))],([(1,(200,(0,(0,(0,())))))],(1,()))))],(2,())))],()))))),()):=mn (m:=90) λk=>by kernel_rfl
theorem A1:aJ tbl cD [.d (pr [(.list (pr [tS,(.list (pr [tB,(pr [tW,tI]),tI,tI]))])),(.list (pr [tS,(.list (pr [tB,tS]))])),(.list (pr [tS,(.list (pr [tB,tI,tI]))])),(.list (pr [tS,(.list (pr [tS,(.list (pr [tI,tS,tI,(pr [tW,tI]),tB])),(.list (pr [tI,tI,tI,tW,tW])),tI])),tI]))]) (([([111,119,110],([(true,((167772160,(8,())),(8,(24,()))))],()))],([],([([98,108,117,101],([(true,(65000,((-1),())))],()))],([([105,109,112,111,114,116],([([102,105,114,115,116],([(1,([111,119,110],(0,((0,(0,())),(true,())))))],([(1,(200,(0,(0,(0,())))))],(1,()))))],(2,())))],()))))),.d tS ([105,109,112,111,114,116]),.d (pr [(pr [tW,tI]),tI,tW,(.list tI),(.list tW),tI,tI,tI,tI]) (((2886729728,(12,())),(6,(0,([65001],([],(0,(0,(0,(0,()))))))))))] [] b8 (((true,(((2886729728,(12,())),(6,(0,([65001],([],(200,(0,(0,(0,()))))))))),()))),(0),()):=mn (m:=90) λk=>by kernel_rfl
theorem A2:aJ tbl cD [.d (pr [(.list (pr [tS,(.list (pr [tB,(pr [tW,tI]),tI,tI]))])),(.list (pr [tS,(.list (pr [tB,tS]))])),(.list (pr [tS,(.list (pr [tB,tI,tI]))])),(.list (pr [tS,(.list (pr [tS,(.list (pr [tI,tS,tI,(pr [tW,tI]),tB])),(.list (pr [tI,tI,tI,tW,tW])),tI])),tI]))]) (([([111,119,110],([(true,((167772160,(8,())),(8,(24,()))))],()))],([],([([98,108,117,101],([(true,(65000,((-1),())))],()))],([([105,109,112,111,114,116],([([102,105,114,115,116],([(1,([111,119,110],(0,((0,(0,())),(true,())))))],([(1,(200,(0,(0,(0,())))))],(1,()))))],(2,())))],()))))),.d tS ([105,109,112,111,114,116]),.d (pr [(pr [tW,tI]),tI,tW,(.list tI),(.list tW),tI,tI,tI,tI]) (((167837696,(16,())),(6,(0,([65001],([],(0,(0,(0,(0,()))))))))))] [] b8 (((false,(((0,(0,())),(0,(0,([],([],(0,(0,(0,(0,()))))))))),()))),(0),()):=mn (m:=90) λk=>by kernel_rfl
theorem A3:aJ tbl cD [.d (pr [(.list (pr [tS,(.list (pr [tB,(pr [tW,tI]),tI,tI]))])),(.list (pr [tS,(.list (pr [tB,tS]))])),(.list (pr [tS,(.list (pr [tB,tI,tI]))])),(.list (pr [tS,(.list (pr [tS,(.list (pr [tI,tS,tI,(pr [tW,tI]),tB])),(.list (pr [tI,tI,tI,tW,tW])),tI])),tI]))]) (([([111,119,110],([(true,((167772160,(8,())),(8,(24,()))))],()))],([],([([98,108,117,101],([(true,(65000,((-1),())))],()))],([([105,109,112,111,114,116],([([102,105,114,115,116],([(1,([111,119,110],(0,((0,(0,())),(true,())))))],([(1,(200,(0,(0,(0,())))))],(1,()))))],(2,())))],()))))),.d tS ([110,111,110,101]),.d (pr [(pr [tW,tI]),tI,tW,(.list tI),(.list tW),tI,tI,tI,tI]) (((167837696,(16,())),(6,(0,([65001],([],(0,(0,(0,(0,()))))))))))] [] b8 (((false,(((0,(0,())),(0,(0,([],([],(0,(0,(0,(0,()))))))))),()))),(6),()):=mn (m:=90) λk=>by kernel_rfl
theorem A4:aJ tbl iz [.d (pr [(.list (pr [tS,(.list (pr [tB,(pr [tW,tI]),tI,tI]))])),(.list (pr [tS,(.list (pr [tB,tS]))])),(.list (pr [tS,(.list (pr [tB,tI,tI]))])),(.list (pr [tS,(.list (pr [tS,(.list (pr [tI,tS,tI,(pr [tW,tI]),tB])),(.list (pr [tI,tI,tI,tW,tW])),tI])),tI]))]) (([([111,119,110],([(true,((167772160,(8,())),(8,(24,()))))],()))],([],([([98,108,117,101],([(true,(65000,((-1),())))],()))],([([105,109,112,111,114,116],([([102,105,114,115,116],([(1,([111,119,110],(0,((0,(0,())),(true,())))))],([(1,(200,(0,(0,(0,())))))],(1,()))))],(2,())))],()))))),.d tS ([105,109,112,111,114,116]),.d (pr [(pr [tW,tI]),tI,tW,(.list tI),(.list tW),tI,tI,tI,tI]) (((2886729728,(12,())),(6,(0,([65001],([],(0,(0,(0,(0,()))))))))))] [] fb (([0]),(0),()):=mn (m:=90) λk=>by kernel_rfl
theorem A5:aJ tbl sg [.d (pr [(.list (pr [tS,(.list (pr [tB,(pr [tW,tI]),tI,tI]))])),(.list (pr [tS,(.list (pr [tB,tS]))])),(.list (pr [tS,(.list (pr [tB,tI,tI]))])),(.list (pr [tS,(.list (pr [tS,(.list (pr [tI,tS,tI,(pr [tW,tI]),tB])),(.list (pr [tI,tI,tI,tW,tW])),tI])),tI]))]) (([([111,119,110],([(true,((167772160,(8,())),(8,(24,()))))],()))],([],([([98,108,117,101],([(true,(65000,((-1),())))],()))],([([105,109,112,111,114,116],([([102,105,114,115,116],([(1,([111,119,110],(0,((0,(0,())),(true,())))))],([(1,(200,(0,(0,(0,())))))],(1,()))))],(2,())))],()))))),.d (pr [tI,tS,tI,(pr [tW,tI]),tB]) ((1,([111,119,110],(0,((0,(0,())),(true,())))))),.d (pr [(pr [tW,tI]),tI,tW,(.list tI),(.list tW),tI,tI,tI,tI]) (((2886729728,(12,())),(6,(0,([65001],([],(0,(0,(0,(0,()))))))))))] [] om ((true),(0),()):=mn (m:=90) λk=>by kernel_rfl
theorem A6:aJ tbl lH [.d (.list (pr [tI,tI,tI,tW,tW])) ([(8,(2,(7,(0,(0,())))))]),.d (pr [(pr [tW,tI]),tI,tW,(.list tI),(.list tW),tI,tI,tI,tI]) (((167837696,(16,())),(6,(0,([65001],([],(0,(0,(0,(0,()))))))))))] [] ju ((((167837696,(16,())),(6,(0,([7,7,65001],([],(0,(0,(0,(0,())))))))))),()):=mn (m:=90) λk=>by kernel_rfl
theorem A7:aJ tbl eX [.d (pr [(pr [tW,tI]),tI,tW,(.list tI),(.list tW),tI,tI,tI,tI]) (((167837696,(16,())),(6,(0,([65001],([],(0,(0,(0,(0,()))))))))))] [] bF ((0),()):=mn (m:=90) λk=>by kernel_rfl
theorem A8:aJ tbl eX [.d (pr [(pr [tW,tI]),tI,tW,(.list tI),(.list tW),tI,tI,tI,tI]) (((0,(0,())),(0,(0,([],([],(0,(0,(0,(0,()))))))))))] [] bF ((5),()):=mn (m:=90) λk=>by kernel_rfl
theorem A9:aJ tbl mb [.d (pr [(pr [tW,tI]),tI,tW,(.list tI),(.list tW),tI,tI,tI,tI]) (((167837696,(16,())),(6,(0,([65001],([],(0,(0,(0,(0,())))))))))),.d (pr [(pr [tW,tI]),tI,tW,(.list tI),(.list tW),tI,tI,tI,tI]) (((167837696,(16,())),(6,(0,([65001],([],(0,(0,(0,(0,()))))))))))] [] jR ((true),()):=mn (m:=90) λk=>by kernel_rfl
theorem A10:aJ tbl mb [.d (pr [(pr [tW,tI]),tI,tW,(.list tI),(.list tW),tI,tI,tI,tI]) (((167837696,(16,())),(6,(0,([65001],([],(0,(0,(0,(0,())))))))))),.d (pr [(pr [tW,tI]),tI,tW,(.list tI),(.list tW),tI,tI,tI,tI]) (((2886729728,(12,())),(6,(0,([65001],([],(0,(0,(0,(0,()))))))))))] [] jR ((false),()):=mn (m:=90) λk=>by kernel_rfl
theorem JY:aJ tbl iA [] [] fe (true,()):=by
 refine aC rfl (aF Iz rfl (λO n=>IR O n) ?_);unfold yu;repeat first
  |refine an A0 ?_
  |refine an A1 ?_
  |refine an A2 ?_
  |refine an A3 ?_
  |refine an A4 ?_
  |refine an A5 ?_
  |refine an A6 ?_
  |refine an A7 ?_
  |refine an A8 ?_
  |refine an A9 ?_
  |refine an A10 ?_
  |refine bb rfl ?_
  |refine aw rfl ?_
  |refine aa ?_
  |refine pq (by decide) rfl ?_
  |refine ae ?_
 rfl
theorem Hi(r:ly):aJ tbl nI [.d Q1 r] [] kF (decide ((r.2.2.2.1.length:Int)>2100)||decide ((r.2.2.2.2.1.length:Int)>600),()):=by refine aC rfl (aF Iy rfl (λO n=>IQ O n r) ?_);unfold yt;exact ae (cY (λ_=>aa rfl) (aa rfl))
theorem RZ{r:ly}(h:(decide ((r.2.2.2.1.length:Int)>2100)||decide ((r.2.2.2.2.1.length:Int)>600))=false):r.2.2.2.1.length<=2100/\r.2.2.2.2.1.length<=600:=by simp only[A_,decide_eq_false_iff_not]at h;omega
end Go.Proofs.YthjnceggmnicmaaGreatDoor
