import Derived.Test.YthjnceggmnicmaaGreatDoorMPlPfx
import Derived.Test.YthjnceggmnicmaaGreatDoorMGlueB
import Derived.Test.YthjnceggmnicmaaGreatDoorML7
import Derived.Test.YthjnceggmnicmaaGreatDoorML5
set_option linter.unusedVariables false
set_option linter.unusedSimpArgs false
open Bool renaming and_eq_true->m_,or_eq_true->v_,and_eq_false_iff->x_,or_eq_false_iff->y_,true_and->Y_,not_eq_true'->ac_
open Classical renaming byContradiction->f_,choose_spec->G_,not_not->am_,choose->an_
open Int renaming toNat_natCast->h_,eq_ofNat_of_zero_le->r_,toNat->t_,natCast_nonneg->C_,toNat_of_nonneg->L_,le_refl->P_
open Go.IntKind renaming wrap->b_,bits->N_
open List renaming getElem?_eq_getElem->a_,length_map->c_,getElem_mem->d_,replicate->g_,length_append->i_,getElem?_eq_none->j_,length_replicate->k_,length_singleton->l_,take_of_length_le->n_,length_take->o_,take_succ_eq_append_getElem->p_,mem_cons_self->q_,take_length->s_,mem_cons_of_mem->u_,length_nil->A_,mem_append->B_,drop_eq_nil_of_le->D_,ext_getElem?->E_,getD->H_,getElem_map->I_,append_nil->J_,nil_append->K_,take_succ_cons->M_,getElem?_eq_some_iff->O_,foldl_append->Q_,length_cons->R_,length_eq_one_iff->S_,length_filter_le->U_,replicate_succ'->V_,length_pos_iff->W_,replicate_zero->X_,map_cons->Z_,filter_append->aa_,mem_singleton->ab_,any_map->ad_,all_eq_true->af_,map_append->ag_,drop_zero->ah_,take_take->ai_,mem_cons->ak_,filter->al_
open Nat renaming zero_le->w_,le_refl->z_,le_trans->F_,le_of_lt->T_,sub_self->ae_,mod_lt->aj_
open Option renaming bind->e_
open Prod renaming ext->ao_
namespace Go.Proofs.YthjnceggmnicmaaGreatDoor
open Go Go.Av Go.Ev Go.Pl
abbrev Ae(x:Int):Prop:=0<=x/\x<=4294967295
theorem Ik(n m:Int):aI tbl nT [.d tI n,.d tI m] [] lh (min (max n 0) m,()):=aA rfl (aE JH rfl (λO k=>JU O k n m) (aa rfl))
theorem Kb(n m:Int):aI tbl pU [.d tI n,.d tI m] [] nq (min (max n 0) m,()):=aA rfl (aE L9 rfl (λO k=>Ml O k n m) (aa rfl))
theorem EL(k:Nat):(2:Int)^k=((2^k:Nat):Int):=by induction k with|zero=>rfl|succ k a=>rw[Int.pow_succ,a,Nat.pow_succ];rfl
theorem J8(n:Nat)(hn:n<=32):aI tbl pT [.d tI (n:Int)] [] np (((4294967295*2^(32 - n)%4294967296:Nat):Int),()):=by
 refine aA rfl (aE L8 rfl (λO k=>Mk O k (n:Int)) ?_);unfold B6;refine ao (Ik (n:Int) 32) ?_;have e:b_ .i64 (32 - min (max (n:Int) 0) 32)=((32 - n:Nat):Int):=by rw[wrap_i64 (by omega) (by omega)];omega
 refine aL (by simp only[e];exact decide_eq_true (by omega)) (aa ?_);simp only[e];rw[show min (t_ ((32 - n:Nat):Int)) (N_ .u32)=32 - n from by show min _ 32=_;omega,wrap_u32,EL];rfl
theorem J7(x n:Int)(b:Ae x)(c:0<=n)(d:n<=32):aI tbl pS [.d tW x,.d tI n] [] nn (HG x n,()):=by obtain⟨a,rfl⟩:=r_ b.1;obtain⟨k,rfl⟩:=r_ c;refine aA rfl (aE L6 rfl (λO m=>Mj O m (a:Int) (k:Int)) ?_);unfold B5;refine ao (J8 k (by omega)) (aa ?_);rw[KB (by have:=b.2;omega) (aj_ _ (by decide)),Pr (by have:=b.2;omega) (by omega)];rfl
theorem Mu(x i:Nat)(f:x<=4294967295)(d:i<32):aI tbl rL [.d tW (x:Int),.d tI (i:Int)] [] me (((x/2^(31 - i)%2:Nat):Int),()):=by
 refine aA rfl (aE NJ rfl (λO k=>NO O k (x:Int) (i:Int)) ?_);unfold Dq;refine aj (cI (b:=false) (λ_=>aa (decide_eq_false (by omega))) ?_);rw[decide_eq_false (show ¬(i:Int)<0 by omega)];have e:b_ .u64 (b_ .i64 (31 - (i:Int)))=((31 - i:Nat):Int):=by rw[wrap_i64 (by omega) (by omega),wrap_u64];omega
 refine an rfl (aL (by simp only[e];exact decide_eq_true (by omega)) (aa ?_));simp only[e];rw[show min (t_ ((31 - i:Nat):Int)) (N_ .u32)=31 - i from by show min _ 32=_;omega,EL,Int.fdiv_eq_ediv_of_nonneg _ (C_ _)];have a:(x:Int)/((2^(31 - i):Nat):Int)=((x/2^(31 - i):Nat):Int):=rfl;have c:x/2^(31 - i)<=x:=Nat.div_le_self _ _;rw[a,show(1:Int)=((1:Nat):Int)from rfl,KB (by omega) (by decide),Nat.and_one_is_mod];have:x/2^(31 - i)%2<2:=aj_ _ (by decide);rw[wrap_i64 (by omega) (by omega)]
theorem Il(x n:Int)(c:Ae x)(f:0<=n)(g:n<=32):aI tbl nU [.d tW x,.d tI n] [] lm (HG x n,()):=by
 obtain⟨a,rfl⟩:=r_ c.1;obtain⟨k,rfl⟩:=r_ f;have b:a<4294967296:=by have:=c.2;omega
 refine aA rfl (aE JI rfl (λO m=>JV O m (a:Int) (k:Int)) ?_);unfold yI;refine ao (Kb (k:Int) 32) ?_;have e:min (max (k:Int) 0) 32=(k:Int):=by omega
 rw[e];refine aj (b9 (N:=k) (I:=λi s=>s=(((tp a i:Nat):Int),(i:Int),())) (by rw[Pt b];rfl) (λi s j hs=>?_) λs hs=>?_)
 ·subst hs;unfold oJ;refine cE j (ao (Mu a i (by omega) (by omega)) ?_);have e:b_ .u64 (b_ .i64 (31 - (i:Int)))=((31 - i:Nat):Int):=by rw[wrap_i64 (by omega) (by omega),wrap_u64];omega
  refine aL (by simp only[e];exact decide_eq_true (by omega)) (aa ?_);simp only[e];have l:a/2^(31 - i)%2<2:=aj_ _ (by decide);have hp:(a/2^(31 - i)%2)*2^(31 - i)<4294967296:=by have g:(a/2^(31 - i)%2)*2^(31 - i)<=1*2^31:=Nat.mul_le_mul (by omega) (Nat.pow_le_pow_right (by decide) (by omega));omega
  have d:b_ .u32 (b_ .u32 ((a/2^(31 - i)%2:Nat):Int)*2^(min (t_ ((31 - i:Nat):Int)) (N_ .u32)))=(((a/2^(31 - i)%2)*2^(31 - i):Nat):Int):=by
   rw[show min (t_ ((31 - i:Nat):Int)) (N_ .u32)=31 - i from by show min _ 32=_;omega,EL,wrap_u32,wrap_u32];have h:((a/2^(31 - i)%2:Nat):Int)%4294967296=((a/2^(31 - i)%2:Nat):Int):=by omega
   rw[h,<-Int.natCast_mul];omega
  rw[d,S4 (Nat.lt_of_le_of_lt (Rb a i) b) hp,<-Ps a (by omega),aJ (n:=32) (by omega) (by decide)]
 ·subst hs;unfold oJ;exact bO (aa (aa rfl))
theorem oG(p:OW)(hp:Ae p.1):aI tbl fF [.d yP p] [] eo (mq p,()):=by refine aA rfl (aE Fa rfl (λO n=>Fu O n p) ?_);unfold uh;refine aj (co (b:=decide (p.2.1<=32)) (λ_=>aa rfl) ?_);refine aj (co (b:=(HG p.1 p.2.1==p.1)) (λh=>?_) (aa rfl));simp only[m_,decide_eq_true_eq]at h;exact ao (J7 p.1 p.2.1 hp h.1 h.2) (aa rfl)
theorem FB(p:OW)(hp:Ae p.1):aI tbl mw [.d yP p] [] jC (mq p,()):=by refine aA rfl (aE GQ rfl (λO n=>G8 O n p) ?_);unfold wS;refine aj (co (b:=decide (p.2.1<=32)) (λ_=>aa rfl) ?_);refine aj (co (b:=(HG p.1 p.2.1==p.1)) (λh=>?_) (aa rfl));simp only[m_,decide_eq_true_eq]at h;exact ao (Il p.1 p.2.1 hp h.1 h.2) (aa rfl)
def TV(p:OW)(a:Int):Bool:=mq p&&(HG a p.2.1==p.1)
def Wh(p q:OW):Bool:=mq q&&(decide (p.2.1<=q.2.1)&&TV p q.1)
theorem FA(r:Uu)(hr:Ae r.2.1.1):aI tbl mu [.d yR r] [] fm (rp r,()):=by
 refine aA rfl (aE GP rfl (λO n=>G7 O n r) ?_);unfold wR;refine ao (oG r.2.1 hr) (aw (λh=>aa ?_) λh=>?_);·unfold rp;rw[if_pos (by simpa using h)]
 ·have a:¬mq r.2.1=false:=by simpa using h
  refine aj (cI (b:=decide (r.2.2.2.1<r.2.2.1)) (λ_=>aa rfl) (aj (cI (b:=decide (r.2.2.2.1>32)) (λ_=>aa rfl) ?_)));refine aw (λh=>aa ?_) λh=>aa ?_;·unfold rp;rw[if_neg a,if_pos (by simpa[or_assoc]using h)]
  ·unfold rp;rw[if_neg a,if_neg];intro h';simp only[y_,decide_eq_false_iff_not]at h;omega
def Wn(r:Uu)(p:OW):Bool:=(rp r==0)&&(Wh r.2.1 p&&(decide (r.2.2.1<=p.2.1)&&decide (p.2.1<=r.2.2.2.1)))
def Ws(l:List Uu)(p:OW):Bool:=match l.find? (λz=>Wn z p)with|some r=>r.1|none=>false
end Go.Proofs.YthjnceggmnicmaaGreatDoor
namespace Go.Pl
open Go.Ev
def Wj(g:G)(n:Int)(p:Nat):Bool:=match g.sp[p]? with
 |some q=>decide (q.1<=n)&&decide (n<=q.2)
 |none=>false
def WI(g:G)(can:Nat->Bool)(n:Int)(p:Nat):Bool:=can p&&Wj g n p
def WV(g:G)(a:Nat->Bool)(q:Nat):Bool:=g.pr.any λx=>a x.1&&decide (x.2=q)
def VY(g:G)(s:(Nat->Bool)×(Nat->Bool))(n:Int):(Nat->Bool)×(Nat->Bool):=(WV g (WI g s.1 n),WI g s.1 n)
def Wx(g:G)(a:List Int):(Nat->Bool)×(Nat->Bool):=a.foldl (VY g) (λp=>decide (p∈g.fi),λ_=>false)
def UL(g:G)(a:List Int):Bool:=bif a.isEmpty then g.em else g.la.any (Wx g a).2
open Go Go.Ev Go.Lib
def hd(t:List UInt8):Nat:=(t.headD 0).toNat
def pk(s:List UInt8)(i:Nat):Nat:=(s.getD i 0).toNat
theorem lR(s:List UInt8)(i:Nat):pk s i=hd (s.drop i):=by unfold pk hd;rw[List.headD_eq_head?_getD,List.head?_drop];rfl
theorem gI{s:List UInt8}{i:Nat}(h:pk s i≠0):i<s.length:=by apply f_;intro hn;apply h;unfold pk;rw[H_,j_ (by omega)];rfl
theorem US{s:List UInt8}{i:Nat}(h:i<s.length):pk s i=s[i].toNat:=by unfold pk;rw[H_,a_ h];rfl
theorem UR{s:List UInt8}{i:Nat}(h:¬i<s.length):pk s i=0:=by unfold pk;rw[H_,j_ (by omega)];rfl
theorem ix{s a t:List UInt8}{i:Nat}(h:s.drop i=a++t):s.drop (i+a.length)=t:=by rw[<-List.drop_drop,h,List.drop_left]
theorem uw{s t:List UInt8}{b:UInt8}{i:Nat}(h:s.drop i=b::t):s.drop (i+1)=t:=ix (a:=[b]) h
theorem Jh{a t:List UInt8}(h:a≠[]):hd (a++t)=hd a:=by cases a with|nil=>exact absurd rfl h|cons b a=>rfl
def dg(c:Nat):Prop:=48<=c/\c<=57
section
variable (num:Nat->Option (Int×Nat)) (s:List UInt8)
def iz(alt:Nat->Option (Rx×Nat))(i:Nat):Option (Rx×Nat):=
 if pk s i=46 then some (.mk 2 0 0 [],i+1)
 else if pk s i=33 then some (.mk 4 0 0 [],i+1)
 else if pk s i=91 then
  match num (i+1)with
  |none=>none
  |some (lo,j)=>if pk s j=45 then(match num (j+1)with
   |none=>none
   |some (up,k)=>if pk s k=93 then some (.mk 1 lo up [],k+1)else none)else none
 else if pk s i=40 then
  if pk s (i+1)=41 then some (.mk 0 0 0 [],i+2)else
  match alt (i+1)with
  |none=>none
  |some (r,j)=>if pk s j=41 then some (r,j+1)else none
 else match num i with
  |none=>none
  |some (n,j)=>some (.mk 1 n n [],j)
def Ag(alt:Nat->Option (Rx×Nat))(i:Nat):Option (Rx×Nat):=
 match iz num s alt i with
 |none=>none
 |some (r,j)=>if pk s j=42 then some (.mk 5 0 0 [r],j+1)else if pk s j=43 then some (.mk 6 0 0 [r],j+1)else if pk s j=63 then some (.mk 7 0 0 [r],j+1)else some (r,j)
def j9(sep:Nat)(one:Nat->Option (Rx×Nat)):Nat->List Rx->Nat->Option (List Rx×Nat)
 |0,_,_=>none
 |f+1,a,i=>match one i with
  |none=>none
  |some (r,j)=>if pk s j=sep then j9 sep one f (a++[r]) (j+1)else some (a++[r],j)
def Pq(k:Int)(l:List Rx):Rx:=match l with
 |[x]=>x
 |l=>.mk k 0 0 l
def GE(sep:Nat)(k:Int)(one:Nat->Option (Rx×Nat))(i:Nat):Option (Rx×Nat):=match j9 s sep one (s.length+1 - i) [] i with
 |none=>none
 |some (l,j)=>some (Pq k l,j)
def PI(alt:Nat->Option (Rx×Nat))(i:Nat):Option (Rx×Nat):=GE s 32 3 (Ag num s alt) i
def Af:Nat->Nat->Option (Rx×Nat)
 |0,_=>none
 |b+1,i=>GE s 124 4 (PI num s (Af b)) i
end
structure NumOk(s:List UInt8)(num:Nat->Option (Int×Nat)):Prop where
 bnd:∀i n j,i<=s.length->num i=some (n,j)->i<j/\j<=s.length
 txt:∀i (m:Nat) t,s.drop i=decDigits m++t->m<=4294967295->¬dg (hd t)->num i=some ((m:Int),i+(decDigits m).length)
def OV(s:List UInt8)(one:Nat->Option (Rx×Nat)):Prop:=∀i r j,i<=s.length->one i=some (r,j)->i<j/\j<=s.length/\sz r<=j - i
section
variable {num:Nat->Option (Int×Nat)} {s:List UInt8}
theorem QK(hn:NumOk s num){alt:Nat->Option (Rx×Nat)}(g:OV s alt):OV s (iz num s alt):=by
 intro i r j k h;unfold iz at h;have one:sz (.mk 0 0 0 [])=1:=rfl;split at h;·rename_i p;have:=gI (s:=s) (i:=i) (by omega);cases h;refine⟨by omega,by omega,?_⟩;show 1<=_;omega
 split at h;·have:=gI (s:=s) (i:=i) (by omega);cases h;refine⟨by omega,by omega,?_⟩;show 1<=_;omega
 split at h
 ·have:=gI (s:=s) (i:=i) (by omega);split at h;·cases h
  rename_i lo a e;have c:=hn.bnd _ _ _ (by omega) e;split at h
  ·have:=gI (s:=s) (i:=a) (by omega);split at h;·cases h
   rename_i up b f;have d:=hn.bnd _ _ _ (by omega) f;split at h;·have:=gI (s:=s) (i:=b) (by omega);cases h;refine⟨by omega,by omega,?_⟩;show 1<=_;omega
   ·cases h
  ·cases h
 split at h
 ·have:=gI (s:=s) (i:=i) (by omega);split at h;·have:=gI (s:=s) (i:=i+1) (by omega);cases h;refine⟨by omega,by omega,?_⟩;show 1<=_;omega
  split at h;·cases h
  rename_i r2 a e;obtain⟨c,d,l⟩:=g _ _ _ (by omega) e;split at h;·have:=gI (s:=s) (i:=a) (by omega);cases h;exact⟨by omega,by omega,by omega⟩
  ·cases h
 split at h;·cases h
 rename_i n a e;have c:=hn.bnd _ _ _ k e;cases h;refine⟨by omega,by omega,?_⟩;show 1<=_;omega
theorem DN(hn:NumOk s num){alt:Nat->Option (Rx×Nat)}(f:OV s alt):OV s (Ag num s alt):=by
 intro i r j g h;unfold Ag at h;split at h;·cases h
 rename_i r2 a e;obtain⟨b,c,d⟩:=QK hn f _ _ _ g e;have hs:∀k:Int,sz (.mk k 0 0 [r2])=sz r2+1:=λk=>by simp only[sz,wx];omega
 split at h;·have:=gI (s:=s) (i:=a) (by omega);cases h;rw[hs];exact⟨by omega,by omega,by omega⟩
 split at h;·have:=gI (s:=s) (i:=a) (by omega);cases h;rw[hs];exact⟨by omega,by omega,by omega⟩
 split at h;·have:=gI (s:=s) (i:=a) (by omega);cases h;rw[hs];exact⟨by omega,by omega,by omega⟩
 ·cases h;exact⟨b,c,d⟩
theorem KD{one:Nat->Option (Rx×Nat)}(d:OV s one){sep:Nat}(n:sep≠0):∀(f:Nat) (b:List Rx) (i:Nat) (l:List Rx) (j:Nat),i<=s.length->j9 s sep one f b i=some (l,j)->
 i<j/\j<=s.length/\wx l+l.length<=wx b+b.length+(j - i)+1/\b.length<l.length
 |0,_,_,_,_,_,h=>by simp[j9]at h
 |f+1,b,i,l,j,p,h=>by
  rw[j9]at h;split at h;·cases h
  rename_i r a e;obtain⟨u,v,w⟩:=d _ _ _ p e;have c:wx (b++[r])=wx b+sz r:=by rw[JF];simp[wx]
  split at h;·have:=gI (s:=s) (i:=a) (by omega);obtain⟨x,y,g,k⟩:=KD d n f _ _ _ _ (by omega) h;rw[c,i_,l_]at g;rw[i_,l_]at k;exact⟨by omega,by omega,by omega,by omega⟩
  ·cases h;rw[c,i_,l_];exact⟨by omega,by omega,by omega,by omega⟩
theorem II{one:Nat->Option (Rx×Nat)}(u:OV s one){sep:Nat}(n:sep≠0)(k:Int):OV s (GE s sep k one):=by
 intro i r j p h;unfold GE at h;split at h;·cases h
 rename_i l a e;obtain⟨f,g,d,c⟩:=KD u n _ _ _ _ _ p e;cases h;refine⟨f,g,?_⟩;unfold Pq;split;·simp[wx]at d;omega
 ·rename_i b;have:2<=l.length:=by match l,b,c with|[],_,c=>simp at c|[x],b,_=>exact absurd rfl (b x)|x::y::l,_,_=>simp
  simp only[sz];simp[wx]at d;omega
theorem IH(hn:NumOk s num):∀b:Nat,OV s (Af num s b)
 |0=>λi r j _ h=>by simp[Af]at h
 |b+1=>λi r j a h=>by rw[Af]at h;exact II (one:=PI num s (Af num s b)) (λi r j a h=>II (one:=Ag num s (Af num s b)) (DN hn (IH hn b)) (by decide) 3 i r j a h) (by decide) 4 i r j a h
end
mutual
def J4:Rx->Nat
 | .mk _ _ _ ks=>1+MM ks
def MM:List Rx->Nat
 |[]=>0
 |r::a=>max (J4 r) (MM a)
end
theorem C7:∀{ks:List Rx} {r:Rx},r∈ks->J4 r<=MM ks
 |x::ks,r,h=>by
  simp only[MM];rcases ak_.1 h with rfl|h;·omega
  ·have:=C7 h;omega
theorem QT(w:Bool)(l t:List UInt8):sr w l++t=bif w then 40::(l++41::t)else l++t:=by cases w<;>simp[sr]
def fst(c:Nat):Prop:=dg c\/c=46\/c=33\/c=91\/c=40
theorem IP(n:Nat):decDigits n≠[]/\dg (hd (decDigits n)):=by have h:=KS n;have a:=zo n;cases e:decDigits n with|nil=>rw[e]at h;simp at h|cons b l=>rw[e]at a;exact⟨by simp,a b (by simp)⟩
theorem Df:∀(r:Rx),iI r=true->ij r≠[]/\fst (hd (ij r)):=by
 refine vi λk lo up ks w v=>?_;obtain⟨hn,n⟩:=well_iff.1 v;have f:∀p:Int,∀x∈ks,kf p x≠[]/\fst (hd (kf p x)):=λp x u=>by
  obtain⟨a,d⟩:=w x u (n x u);unfold kf sr;cases qA p x;·exact⟨a,d⟩
  ·exact⟨by simp,.inr (.inr (.inr (.inr rfl)))⟩
 have j:∀p:Int,∀t:List UInt8,ks≠[]->(ks.map (kf p)).headD []++t≠[]/\fst (hd ((ks.map (kf p)).headD []++t)):=λp t h=>by cases ks with|nil=>exact absurd rfl h|cons x l=>obtain⟨a,d⟩:=f p x (q_ ..);simp only[Z_,List.headD_cons];rw[Jh a];exact⟨by simp[a],d⟩
 have s:∀p:Int,∀c:UInt8,ks≠[]->jn c (ks.map (kf p))≠[]/\fst (hd (jn c (ks.map (kf p)))):=λp c h=>by cases ks with|nil=>exact absurd rfl h|cons x l=>obtain⟨a,d⟩:=f p x (q_ ..);cases l with|nil=>exact⟨a,d⟩|cons y l=>simp only[Z_,jn];rw[Jh a];exact⟨by simp[a],d⟩
 have b:(k=5\/k=6\/k=7)->ks≠[]:=λh e=>by have:=hn.one h;rw[e]at this;simp at this
 have g:k=3->ks≠[]:=λh e=>by have:=hn.seq h;rw[e]at this;simp at this
 simp only[ij,fO];split;·exact⟨by simp,.inr (.inr (.inr (.inr rfl)))⟩
 split;·exact⟨by simp,.inr (.inl rfl)⟩
 split
 ·split;·exact⟨(IP _).1,.inl (IP _).2⟩
  ·exact⟨by simp,.inr (.inr (.inr (.inl rfl)))⟩
 split;·exact j 5 _ (b (by omega))
 split;·exact j 6 _ (b (by omega))
 split;·exact j 7 _ (b (by omega))
 split
 ·split;·exact⟨by simp,.inr (.inr (.inl rfl))⟩
  ·rename_i h;exact s 4 124 h
 ·rcases hn.known with h|h|h|h|h|h|h|h<;>try exact absurd h (by assumption)
  exact s 3 32 (g h)
def comp:Rx->Bool
 | .mk k _ _ ks=>bif k==4 then !ks.isEmpty else(k==3||k==5||k==6||k==7)
def DT:Rx->Bool
 | .mk k _ _ ks=>bif k==4 then !ks.isEmpty else k==3
def DU:Rx->Bool
 | .mk k _ _ ks=>bif k==4 then !ks.isEmpty else false
section
variable {num:Nat->Option (Int×Nat)} {s:List UInt8}
theorem NV(hn:NumOk s num){alt:Nat->Option (Rx×Nat)}{r:Rx}(l:iI r=true) (v:comp r=true->∀i t,s.drop i=ij r++t->(hd t=0\/hd t=41)->alt i=some (r,i+(ij r).length)) {i:Nat} {t:List UInt8} (h:s.drop i=sr (comp r) (ij r)++t) (w:¬dg (hd t)):iz num s alt i=some (r,i+(sr (comp r) (ij r)).length):=by
 cases hc:comp r with
 |true=>
  rw[hc,QT]at h;have h:s.drop i=40::(ij r++41::t):=h;have a:pk s i=40:=by rw[lR,h];rfl
  have b:=uw h;obtain⟨u,f2⟩:=Df r l;have f:pk s (i+1)≠41:=by rw[lR,b,Jh u];intro e;rw[e]at f2;revert f2;unfold fst dg;omega
  have c:=v hc (i+1) (41::t) b (.inr rfl);have g:pk s (i+1+(ij r).length)=41:=by rw[lR,ix b];rfl
  unfold iz;rw[if_neg (by omega),if_neg (by omega),if_neg (by omega),if_pos a,if_neg f,c];simp only;rw[if_pos g];simp[sr];omega
 |false=>
  rw[hc]at h;have h:s.drop i=ij r++t:=h;show _=some (r,i+(ij r).length);obtain⟨k,lo,up,ks⟩:=r;obtain⟨nd,x⟩:=well_iff.1 l;rcases nd.known with rfl|rfl|rfl|rfl|rfl|rfl|rfl|rfl
  ·have e:=len_nil (nd.leaf (by simp));subst e;obtain⟨rfl,rfl⟩:=nd.zero (by decide);have h:s.drop i=40::41::t:=h;have a:pk s i=40:=by rw[lR,h];rfl
   have f:pk s (i+1)=41:=by rw[lR,uw h];rfl
   unfold iz;rw[if_neg (by omega),if_neg (by omega),if_neg (by omega),if_pos a,if_pos f];rfl
  ·have e:=len_nil (nd.leaf (by simp));subst e;obtain⟨r1,r2,r3⟩:=nd.rng rfl;by_cases hl:lo=up
   ·subst hl;have d:ij (.mk 1 lo lo [])=decDigits lo.toNat:=by simp[ij]
    rw[d]at h⊢;obtain⟨n,p⟩:=IP lo.toNat;have a:dg (pk s i):=by rw[lR,h,Jh n];exact p
    unfold dg at a;have y:=hn.txt i lo.toNat t h (by omega) w;unfold iz;rw[if_neg (by omega),if_neg (by omega),if_neg (by omega),if_neg (by omega),y];simp only;rw[L_ r1]
   ·have d:ij (.mk 1 lo up [])=91::(decDigits lo.toNat++45::(decDigits up.toNat++[93])):=by simp[ij,hl]
    rw[d]at h⊢;have h:s.drop i=91::(decDigits lo.toNat++45::(decDigits up.toNat++93::t)):=by rw[h];simp
    have a:pk s i=91:=by rw[lR,h];rfl
    have b:=uw h;have z:=hn.txt _ lo.toNat _ b (by omega) (by show ¬dg 45;unfold dg;omega);have c:=ix b;have g:pk s (i+1+(decDigits lo.toNat).length)=45:=by rw[lR,c];rfl
    have j:=uw c;have A:=hn.txt _ up.toNat _ j (by omega) (by show ¬dg 93;unfold dg;omega);have B:pk s (i+1+(decDigits lo.toNat).length+1+(decDigits up.toNat).length)=93:=by rw[lR,ix j];rfl
    unfold iz;rw[if_neg (by omega),if_neg (by omega),if_pos a,z];simp only;rw[if_pos g,A];simp only;rw[if_pos B,L_ r1,L_ (by omega)];simp;omega
  ·have e:=len_nil (nd.leaf (by simp));subst e;obtain⟨rfl,rfl⟩:=nd.zero (by decide);have h:s.drop i=46::t:=h;have a:pk s i=46:=by rw[lR,h];rfl
   unfold iz;rw[if_pos a];rfl
  ·exact absurd hc (by simp[comp])
  ·obtain⟨rfl,rfl⟩:=nd.zero (by decide);have e:ks=[]:=by simpa[comp]using hc
   subst e;have h:s.drop i=33::t:=by rw[h];simp[ij]
   have a:pk s i=33:=by rw[lR,h];rfl
   unfold iz;rw[if_neg (by omega),if_pos a];simp[ij]
  ·exact absurd hc (by simp[comp])
  ·exact absurd hc (by simp[comp])
  ·exact absurd hc (by simp[comp])
def f2(c:Nat):Prop:=c=0\/c=41\/c=124\/c=32
def Qk(s:List UInt8)(alt:Nat->Option (Rx×Nat))(b:Nat):Prop:=∀r,iI r=true->J4 r<=b->∀i t,s.drop i=ij r++t->(hd t=0\/hd t=41)->alt i=some (r,i+(ij r).length)
theorem Oe(hn:NumOk s num){alt:Nat->Option (Rx×Nat)}{b:Nat}(D:Qk s alt b){r:Rx}(A:iI r=true)(J:J4 r<=b+1)(v:DT r=true->J4 r<=b){i:Nat}{t:List UInt8} (h:s.drop i=kf 3 r++t) (E:f2 (hd t)):Ag num s alt i=some (r,i+(kf 3 r).length):=by
 obtain⟨k,lo,up,ks⟩:=r;obtain⟨nd,g⟩:=well_iff.1 A;have y:¬dg (hd t):=by unfold f2 at E;unfold dg;omega
 by_cases F:k=5\/k=6\/k=7
 ·obtain⟨x,rfl⟩:=Db (nd.one F);obtain⟨rfl,rfl⟩:=nd.zero (by omega);have B:x∈[x]:=q_ ..;have L:=C7 B;have w:J4 x<=b:=by simp only[J4]at J;omega
  have f:∀p:Int,(p=5\/p=6\/p=7)->kf p x=sr (comp x) (ij x):=λp hp=>by
   obtain⟨a,_,_,l⟩:=x;unfold kf;have:((p==5||p==6)||p==7)=true:=by simp;omega
   simp only[qA,comp,this,Bool.and_true];have I:(p != 4)=true:=by simp;omega
   rw[I];cases(a==4)<;>cases(a==3)<;>simp
  have z:∃c:UInt8,kf 3 (.mk k 0 0 [x])=sr (comp x) (ij x)++[c]/\(c.toNat=42/\k=5\/c.toNat=43/\k=6\/c.toNat=63/\k=7):=by
   rcases F with rfl|rfl|rfl;·refine⟨42,?_,by decide⟩;show ij (.mk 5 0 0 [x])=_;simp[ij,fO,f]
   ·refine⟨43,?_,by decide⟩;show ij (.mk 6 0 0 [x])=_;simp[ij,fO,f]
   ·refine⟨63,?_,by decide⟩;show ij (.mk 7 0 0 [x])=_;simp[ij,fO,f]
  obtain⟨c,e,hc⟩:=z;rw[e]at h⊢;have h:s.drop i=sr (comp x) (ij x)++c::t:=by rw[h];simp
  have d:=NV hn (g x B) (λ_=>D x (g x B) w) h (by show ¬dg c.toNat;unfold dg;omega);have C:pk s (i+(sr (comp x) (ij x)).length)=c.toNat:=by rw[lR,ix h];rfl
  unfold Ag;rw[d];simp only[C,i_,l_];rcases hc with⟨hc,rfl⟩|⟨hc,rfl⟩|⟨hc,rfl⟩<;>simp[hc]<;>omega
 ·have e:kf 3 (.mk k lo up ks)=sr (comp (.mk k lo up ks)) (ij (.mk k lo up ks)):=by
   unfold kf;simp only[qA,comp];have j:(k==5)=false:=by simp;omega
   have n:(k==6)=false:=by simp;omega
   have u:(k==7)=false:=by simp;omega
   rw[j,n,u];cases(k==4)<;>cases(k==3)<;>simp
  have H:comp (.mk k lo up ks)=DT (.mk k lo up ks):=by
   simp only[comp,DT];have j:(k==5)=false:=by simp;omega
   have n:(k==6)=false:=by simp;omega
   have u:(k==7)=false:=by simp;omega
   rw[j,n,u];cases(k==4)<;>cases(k==3)<;>simp
  rw[e]at h⊢;have d:=NV hn A (λhc=>D _ A (v (by rw[<-H];exact hc))) h y;have C:pk s (i+(sr (comp (.mk k lo up ks)) (ij (.mk k lo up ks))).length)=hd t:=by rw[lR,ix h]
  unfold Ag;rw[d];unfold f2 at E;simp only[C];rw[if_neg (by omega),if_neg (by omega),if_neg (by omega)]
theorem Jn{one:Nat->Option (Rx×Nat)}{f:Rx->List UInt8}{sep:UInt8}{E:Nat->Prop}:∀(ks:List Rx),ks≠[]->
 (∀x∈ks,∀i t,s.drop i=f x++t->(E (hd t)\/hd t=sep.toNat)->one i=some (x,i+(f x).length))->
 (∀x∈ks,f x≠[])->∀(b:Nat) (a:List Rx) (i:Nat) (t:List UInt8),s.drop i=jn sep (ks.map f)++t->E (hd t)->hd t≠sep.toNat->s.length+1<=b+i->i<=s.length->
 j9 s sep.toNat one b a i=some (a++ks,i+(jn sep (ks.map f)).length)
 |[],h,_,_,_,_,_,_,_,_,_,_,_=>absurd rfl h
 |[x],_,e,c,b,a,i,t,h,j,hs,n,r=>by
  have h:s.drop i=f x++t:=h;have g:=e x (by simp) i t h (.inl j);obtain⟨m,rfl⟩:∃m,b=m+1:=⟨b - 1,by omega⟩;have l:pk s (i+(f x).length)=hd t:=by rw[lR,ix h]
  rw[j9,g];simp only;rw[if_neg (by rw[l];exact hs)];rfl
 |x::y::ks,_,e,c,b,a,i,t,h,j,hs,n,r=>by
  have h:s.drop i=f x++sep::(jn sep ((y::ks).map f)++t):=by rw[h];simp[jn]
  have g:=e x (by simp) i _ h (.inr rfl);obtain⟨m,rfl⟩:∃m,b=m+1:=⟨b - 1,by omega⟩;have d:=ix h;have l:pk s (i+(f x).length)=sep.toNat:=by rw[lR,d];rfl
  have u:i+(f x).length<s.length:=by apply f_;intro p;rw[D_ (by omega)]at d;cases d
  have:=Jn (y::ks) (by simp) (λz k=>e z (u_ _ k)) (λz k=>c z (u_ _ k)) m (a++[x]) (i+(f x).length+1) t (uw d) j hs (by omega) (by omega);rw[j9,g];simp only;rw[if_pos l,this];simp[jn];omega
theorem zY{k:Int}{l:List Rx}(h:l.length≠1):Pq k l= .mk k 0 0 l:=by
 unfold Pq;split;·simp at h
 ·rfl
theorem seq_ok(hn:NumOk s num){alt:Nat->Option (Rx×Nat)}{b:Nat}(w:Qk s alt b){r:Rx}(z:iI r=true)(y:J4 r<=b+1)(l:DU r=true->J4 r<=b){i:Nat}{t:List UInt8} (h:s.drop i=kf 4 r++t) (C:hd t=0\/hd t=41\/hd t=124) (D:i<=s.length):PI num s alt i=some (r,i+(kf 4 r).length):=by
 obtain⟨k,lo,up,ks⟩:=r;obtain⟨nd,g⟩:=well_iff.1 z;unfold PI GE;by_cases p:k=3
 ·subst p;obtain⟨rfl,rfl⟩:=nd.zero (by decide);have v:2<=(ks.length:Int):=nd.seq rfl;have e:kf 4 (.mk 3 0 0 ks)=jn 32 (ks.map (kf 3)):=by show ij (.mk 3 0 0 ks)=_;simp[ij,fO]
  rw[e]at h⊢;have d:∀x∈ks,J4 x<=b:=λx a=>by have:=C7 a;simp only[J4]at y;omega
  have u:ks≠[]:=by intro e;rw[e]at v;simp at v
  have:=Jn (one:=Ag num s alt) (f:=kf 3) (sep:=32) (E:=λc=>c=0\/c=41\/c=124) ks u (λx a i t n hc=>Oe hn w (g x a) (by have:=d x a;omega) (λ_=>d x a) n (by
   unfold f2;rcases hc with hc|hc;·omega
   ·rw[hc];decide)) (λx a=>by
   unfold kf sr;cases qA 3 x;·exact(Df x (g x a)).1
   ·simp) (s.length+1 - i) [] i t h C (by
   show hd t≠32;omega) (by omega) D
  have this:j9 s 32 (Ag num s alt) (s.length+1 - i) [] i=_:=this;rw[this];simp only[K_];rw[zY (by omega)]
 ·have e:kf 4 (.mk k lo up ks)=kf 3 (.mk k lo up ks):=by
   unfold kf;simp only[qA];have j:(k==3)=false:=by simpa using p
   rw[j];cases(k==4)<;>simp
  have A:DT (.mk k lo up ks)=DU (.mk k lo up ks):=by
   simp only[DT,DU];have j:(k==3)=false:=by simpa using p
   rw[j]
  rw[e]at h⊢;have B:=Oe hn w z y (by rw[A];exact l) h (by unfold f2;omega);have H:pk s (i+(kf 3 (.mk k lo up ks)).length)=hd t:=by rw[lR,ix h]
  obtain⟨m,F⟩:∃m,s.length+1 - i=m+1:=⟨s.length - i,by omega⟩;rw[F,j9,B];simp only;rw[if_neg (by rw[H];omega)];simp[Pq]
theorem IQ{a t:List UInt8}{i:Nat}(h:s.drop i=a++t)(b:a≠[]):i<s.length:=by apply f_;intro c;rw[D_ (by omega)]at h;have:=List.append_eq_nil_iff.1 h.symm;exact b this.1
theorem Q8(p:Int){x:Rx}(a:iI x=true):kf p x≠[]:=by
 unfold kf sr;cases qA p x;·exact(Df x a).1
 ·simp
theorem QE(hn:NumOk s num):∀b:Nat,Qk s (Af num s b) b
 |0=>λr _ n=>by cases r;simp[J4]at n
 |b+1=>λr p n i t h z=>by
  have w:=IQ h (Df r p).1;have v:=QE hn b;rw[Af];unfold GE;cases hc:DU r with
  |true=>
   obtain⟨k,lo,up,ks⟩:=r;obtain⟨nd,d⟩:=well_iff.1 p;have A:k=4:=by
    simp only[DU]at hc;cases e:(k==4);·rw[e]at hc;cases hc
    ·simpa using e
   subst A;obtain⟨rfl,rfl⟩:=nd.zero (by decide);have l:ks≠[]:=by simpa[DU]using hc
   have u:(ks.length:Int)≠1:=nd.alt rfl;have e:ij (.mk 4 0 0 ks)=jn 124 (ks.map (kf 4)):=by simp[ij,fO,l]
   rw[e]at h⊢;have j:∀x∈ks,J4 x<=b:=λx a=>by have:=C7 a;simp only[J4]at n;omega
   have:=Jn (one:=PI num s (Af num s b)) (f:=kf 4) (sep:=124) (E:=λc=>c=0\/c=41) ks l (λx a i t g hc=>seq_ok hn v (d x a) (by have:=j x a;omega) (λ_=>j x a) g (by
    rcases hc with hc|hc;·omega
    ·rw[hc];decide) (T_ (IQ g (Q8 4 (d x a))))) (λx a=>Q8 4 (d x a)) (s.length+1 - i) [] i t h z (by
    show hd t≠124;omega) (by omega) (T_ w)
   have this:j9 s 124 (PI num s (Af num s b)) (s.length+1 - i) [] i=_:=this;rw[this];simp only[K_];rw[zY (by omega)]
  |false=>
   have e:ij r=kf 4 r:=by
    obtain⟨k,lo,up,ks⟩:=r;unfold kf;simp only[qA];simp only[DU]at hc;cases y:(k==4)
    ·cases D:(k==3);·simp[sr]
     ·simp[sr]
    ·rw[y]at hc;simp only[cond_true]at hc;simp only[cond_true,hc];rfl
   rw[e]at h⊢;have u:=seq_ok hn v p n (λh=>by rw[hc]at h;cases h) h (by omega) (T_ w);have C:pk s (i+(kf 4 r).length)=hd t:=by rw[lR,ix h]
   obtain⟨m,B⟩:∃m,s.length+1 - i=m+1:=⟨s.length - i,by omega⟩;rw[B,j9,u];simp only;rw[if_neg (by rw[C];omega)];simp[Pq]
end
theorem S7:∀(r:Rx) (lv c:Int),(yt r lv c).2=0->lv+(J4 r:Int)<=17:=by
 refine vi λk lo up ks f lv c h=>?_;rw[yt]at h;split at h;·cases h
 split at h;·cases h
 split at h;·rename_i a;exact absurd h a
 have b:∀(l:List Rx),(∀r∈l,r∈ks)->∀(c:Int),(jo l (lv+1) c).2=0->lv+1+(MM l:Int)<=17:=by
  intro l;induction l with
  |nil=>intro _ c _;simp only[MM];omega|cons r l g=>
   intro d c h;rw[jo]at h;split at h;·rename_i a;exact absurd h a
   ·rename_i a;have j:=f r (d r (q_ ..)) (lv+1) c (am_.1 a);have n:=g (λx e=>d x (u_ _ e)) _ h;simp only[MM];omega
 have:=b ks (λ_ h=>h) _ h;simp only[J4];omega
theorem PL{num:Nat->Option (Int×Nat)}{r:Rx}(hn:NumOk (ij r) num)(c:iI r=true){b:Nat}(a:J4 r<=b):Af num (ij r) b 0=some (r,(ij r).length):=by have:=QE hn b r c a 0 [] (by simp) (.inl rfl);rw[this,Nat.zero_add]
end Go.Pl
namespace Go.Proofs.YthjnceggmnicmaaGreatDoor
open Go Go.Av Go.Ev Go.Pl
theorem Ip(k n:Int):aI tbl nX [.d tI k,.d tI n] [] d6 (uS k,kZ k n,()):=by
 refine aA rfl (aE JN rfl (λO m=>J0 O m k n) ?_);unfold yV;by_cases j:k=0;·subst j;exact rG (λ_=>rfl) rfl
 by_cases l:k=1;·subst l;exact rG (λ_=>rfl) rfl
 by_cases p:k=2;·subst p;exact rG (λ_=>rfl) rfl
 by_cases r:k=3;·subst r;exact rG (λ_=>rfl) rfl
 by_cases s:k=4;·subst s;exact rG (λ_=>rfl) rfl
 by_cases u:k=5;·subst u;exact rG (λ_=>rfl) rfl
 by_cases v:k=6;·subst v;exact rG (λ_=>rfl) rfl
 by_cases w:k=7;·subst w;exact rG (λ_=>rfl) rfl
 have a:(k==(0:Int))=false:=by simpa using j
 have b:(k==(1:Int))=false:=by simpa using l
 have c:(k==(2:Int))=false:=by simpa using p
 have d:(k==(3:Int))=false:=by simpa using r
 have e:(k==(4:Int))=false:=by simpa using s
 have f:(k==(5:Int))=false:=by simpa using u
 have g:(k==(6:Int))=false:=by simpa using v
 have h:(k==(7:Int))=false:=by simpa using w
 simp only[a,b,c,d,e,f,g,h];refine rG (λ_=>rfl) ?_;simp only[uS,kZ,a,b,c,d,e,f,g,h];rfl
theorem Iq(r:Rx):aI tbl nY [.d .rx r] [] fg (rk r.out.1 r.out.2.1 r.out.2.2.1 (r.out.2.2.2.1.length:Int),()):=by
 refine aA rfl (aE JO rfl (λO m=>J1 O m r) ?_);unfold yW;generalize r.out.1=k;generalize r.out.2.1=lo;generalize r.out.2.2.1=b;generalize(r.out.2.2.2.1.length:Int)=n;refine ao (Ip k n) ?_;unfold rk;cases uS k;·exact rG (λ_=>rfl) rfl
 cases c:(k==(1:Int))
 ·have a:(k != (1:Int))=true:=by simpa[bne]using c
  rw[a];cases(lo != (0:Int))<;>cases(b != (0:Int))<;>cases kZ k n<;>exact rG (λ_=>rfl) rfl
 ·have a:(k != (1:Int))=false:=by simpa[bne]using c
  rw[a];cases decide (lo<(0:Int))<;>cases decide (lo>b)<;>cases decide (b>(4294967295:Int))<;>cases kZ k n<;>exact rG (λ_=>rfl) rfl
theorem U8{k lo up:Int}{ks:List Rx}{M:Nat}(h:sz (.mk k lo up ks)<=M):ks.length<M/\∀r∈ks,sz r<M:=by simp only[sz]at h;have a:=Dj ks;exact⟨by omega,λr hr=>by have:=wa hr;omega⟩
theorem Hr{ks:List Rx}{lv c:Int}:∀{i:Nat},(h:i<ks.length)->(jo (ks.take i) lv c).2=0->jo (ks.take (i+1)) lv c=(let p:=yt ks[i] lv (jo (ks.take i) lv c).1;(p.1,p.2)):=by
 intro i;induction ks generalizing c i with
 |nil=>intro h;simp at h|cons r ks d=>
  intro h b;cases i with
  |zero=>
   simp only[List.take_zero,M_,jo,List.getElem_cons_zero];split;·rfl
   ·rename_i a;have:(yt r lv c).2=0:=by simpa using a
    exact ao_ rfl this.symm
  |succ i=>
   simp only[M_,jo,List.getElem_cons_succ]at b⊢;split at b;·rename_i a;exact absurd b a
   ·rename_i a;rw[if_neg a,if_neg a];exact d (by simpa using h) b
theorem KH{lv:Int}:∀{ks:List Rx} {c:Int} {i:Nat},(jo (ks.take i) lv c).2≠0->jo ks lv c=jo (ks.take i) lv c:=by
 intro ks;induction ks with
 |nil=>intro c i h;simp[jo]at h|cons r ks b=>
  intro c i h;cases i with
  |zero=>simp[jo]at h|succ i=>
   simp only[M_,jo]at h⊢;split at h;·rename_i a;rw[if_pos a,if_pos a]
   ·rename_i a;rw[if_neg a,if_neg a];exact b h
theorem Hq:∀(r:Rx) (lv c:Int),0<=c->c<=64->c<=(yt r lv c).1/\(yt r lv c).1<=64:=by
 refine vi λk lo up ks f lv c b a=>?_;have hs:∀(l:List Rx) (lv c:Int),(∀r∈l,r∈ks)->0<=c->c<=64->c<=(jo l lv c).1/\(jo l lv c).1<=64:=by
  intro l;induction l with
  |nil=>intro lv c _ b a;exact⟨P_ _,a⟩|cons r l d=>
   intro lv c hl b a;have hr:=f r (hl r (q_ ..)) lv c b a;simp only[jo];split;·exact hr
   ·have:=d lv (yt r lv c).1 (λx e=>hl x (u_ _ e)) (by omega) hr.2;omega
 simp only[yt];split;·exact⟨P_ _,a⟩
 split;·exact⟨P_ _,a⟩
 split;·exact⟨P_ _,a⟩
 ·have:=hs ks (lv+1) (c+1) (λ_ h=>h) (by omega) (by omega);omega
theorem FI:∀(r:Rx),sz r<=1048576->∀(lv c:Int),0<=lv->lv<=17->0<=c->c<=64->∃s:Int,((yt r lv c).2=0->s=(yt r lv c).1)/\aI tbl dm [.d .rx r,.d tI lv,.ptr 0 0] [.box s6 [.d tI c]] bo ((yt r lv c).2,s,()):=by
 refine vi λk lo up ks H hs lv c E F C D=>?_;obtain⟨z,j⟩:=U8 hs;suffices h:∃x:Int×Int×Unit,(x.1=(yt (.mk k lo up ks) lv c).2/\((yt (.mk k lo up ks) lv c).2=0->x.2.1=(yt (.mk k lo up ks) lv c).1))/\aI tbl dm [.d .rx (.mk k lo up ks),.d tI lv,.ptr 0 0] [.box s6 [.d tI c]] bo x by obtain⟨⟨e,s,_⟩,⟨g,f⟩,u⟩:=h;have g:e=_:=g;subst g;exact⟨s,f,u⟩
 refine zh (sh:=bo) (λ_=>rfl) (aE AO rfl (λO m=>Bc O m (.mk k lo up ks) lv c) ?_);unfold pR;refine aw (λh=>aa ⟨_,rfl,?_⟩) λh=>?_
 ·have h:lv>16:=by simpa using h
  simp only[yt,if_pos h];exact⟨trivial,λh=>by cases h⟩
 have f:¬lv>16:=by simpa using h
 refine aw (λh=>aa ⟨_,rfl,?_⟩) λh=>?_
 ·have h:c>=64:=by simpa using h
  simp only[yt,if_neg f,if_pos h];exact⟨trivial,λh=>by cases h⟩
 have u:¬c>=64:=by simpa using h
 refine ao (Iq _) ?_;show Wp _ _;refine aw (λh=>aa ⟨_,rfl,?_⟩) λh=>?_
 ·have h:rk k lo up ks.length≠0:=by have h:(rk k lo up ks.length != 0)=true:=h;simpa using h
  simp only[yt,if_neg f,if_neg u,if_pos h];exact⟨rfl,λh'=>absurd h' h⟩
 have B:¬rk k lo up ks.length≠0:=by have h:(rk k lo up ks.length != 0)=false:=h;simpa using h
 have A:yt (.mk k lo up ks) lv c=jo ks (lv+1) (c+1):=by simp only[yt,if_neg f,if_neg u,if_neg B]
 rw[A,wrap_i64 (by omega) (by omega)];have a:∀i,(jo (ks.take i) (lv+1) (c+1)).2=0->0<=(jo (ks.take i) (lv+1) (c+1)).1/\(jo (ks.take i) (lv+1) (c+1)).1<=64:=by
  intro i;induction i with
  |zero=>intro _;simp[jo];omega|succ i n=>
   intro p;by_cases d:i<ks.length
   ·have b:(jo (ks.take i) (lv+1) (c+1)).2=0:=f_ λhn=>by have:=KH (ks:=ks.take (i+1)) (lv:=lv+1) (c:=c+1) (i:=i) (by rw[ai_,show min i (i+1)=i by omega];exact hn);rw[ai_,show min i (i+1)=i by omega]at this;rw[this]at p;exact hn p
    rw[Hr d b];have hr:=n b;have:=Hq ks[i] (lv+1) _ hr.1 hr.2;exact⟨by show 0<=(yt ks[i] _ _).1;omega,this.2⟩
   ·rw[show ks.take (i+1)=ks.take i by rw[n_ (by omega),n_ (by omega)]]at p⊢;exact n p
 refine aj (b9 (N:=ks.length) (I:=λi s=>s=((i:Int),(jo (ks.take i) (lv+1) (c+1)).1,())/\(jo (ks.take i) (lv+1) (c+1)).2=0) (by simp[jo]) (λi s d hs=>?_) λs hs=>?_)
 ·obtain⟨rfl,b⟩:=hs;unfold jl;refine cE d (aW d ?_);rw[sG,wrap_i64 (by omega) (by omega)];have hr:=d_ d;have l:=a i b;obtain⟨s,w,y⟩:=H ks[i] hr (by have:=j _ hr;omega) (lv+1) _ (by omega) (by omega) l.1 l.2;refine ao y ?_;have v:=Hr d b;refine aw (λh=>aa ?_) λh=>aa ?_
  ·have hn:(yt ks[i] (lv+1) (jo (ks.take i) (lv+1) (c+1)).1).2≠0:=by simpa using h
   have g:=KH (ks:=ks) (lv:=lv+1) (c:=c+1) (i:=i+1) (by rw[v];exact hn);refine aa ⟨_,rfl,?_⟩;rw[g,v];exact⟨rfl,λh'=>absurd h' hn⟩
  ·have hn:(yt ks[i] (lv+1) (jo (ks.take i) (lv+1) (c+1)).1).2=0:=by simpa using h
   refine⟨?_,by rw[v];exact hn⟩;rw[aJ d (by omega),v,w hn]
 ·obtain⟨rfl,b⟩:=hs;unfold jl;refine bO (aa (aa ⟨_,rfl,?_⟩));rw[s_]at b⊢;exact⟨b.symm,λ_=>rfl⟩
def fL(r:Rx):Int:=(yt r 1 0).2
theorem FF(r:Rx)(hs:sz r<=1048576):aI tbl mB [.d .rx r] [] jG (fL r,()):=by refine aA rfl (aE GX rfl (λO m=>Hc O m r) ?_);unfold wW;obtain⟨s,_,h⟩:=FI r hs 1 0 (by decide) (by decide) (by decide) (by decide);exact ao h (aa rfl)
theorem QO:∀(r:Rx) (lv c:Int),(yt r lv c).2=0->iI r=true/\(yt r lv c).1=c+(sz r:Int):=by
 refine vi λk lo up ks s lv c h=>?_;have hs:∀(l:List Rx) (lv c:Int),(∀r∈l,r∈ks)->(jo l lv c).2=0->(∀r∈l,iI r=true)/\(jo l lv c).1=c+(wx l:Int):=by
  intro l;induction l with
  |nil=>intro lv c _ _;exact⟨by simp,by simp[jo,wx]⟩|cons r l j=>
   intro lv c hl h;simp only[jo]at h⊢;split at h;·rename_i d;exact absurd h d
   ·rename_i d;rw[if_neg d];have d:(yt r lv c).2=0:=by simpa using d
    obtain⟨f,g⟩:=s r (hl r (q_ ..)) lv c d;obtain⟨n,p⟩:=j lv _ (λx e=>hl x (u_ _ e)) h;refine⟨λx e=>?_,by rw[p,g];simp only[wx];omega⟩;rcases ak_.1 e with rfl|e;·exact f
    ·exact n x e
 simp only[yt]at h⊢;split at h;·exact absurd h (by simp)
 split at h;·exact absurd h (by simp)
 split at h;·rename_i d;exact absurd h d
 ·rename_i a b d;rw[if_neg a,if_neg b,if_neg d];obtain⟨f,g⟩:=hs ks (lv+1) (c+1) (λ_ h=>h) h;have d:rk k lo up ks.length=0:=by simpa using d
  exact⟨well_iff.2 ⟨nodeE_zero.1 d,f⟩,by rw[g];simp only[sz];omega⟩
theorem Hp{r:Rx}(h:fL r=0):iI r=true/\sz r<=64:=by obtain⟨a,b⟩:=QO r 1 0 h;have:=Hq r 1 0 (by decide) (by decide);exact⟨a,by omega⟩
open Go Go.Av Go.Ev Go.Pl Go.Lib
theorem T9{n:Int}(c:0<=n)(d:n<=4294967295):aI tbl iv [.d tI n] [] pg (decDigits n.toNat,()):=by
 refine Pd Fc ?_ rfl;have a:Tj n=true:=by simp only[Tj,m_,decide_eq_true_eq];omega
 have b:Lib.itoa n=decDigits n.toNat:=by unfold Lib.itoa;rw[if_neg (by omega)]
 simp only[vV,a,cond_true,b];rfl
theorem Bf{n:Int}(a:0<=n)(b:n<=4294967295):aI tbl eB [.d tI n] [] dw (decDigits n.toNat,()):=by refine aA rfl (aE CW rfl (λO k=>C2 O k n) ?_);unfold sX;exact ao (T9 a b) (aa rfl)
theorem Sv(ks:List Rx)(i:Nat):wx (ks.take i)<=wx ks:=by have:=JF (ks.take i) (ks.drop i);rw[List.take_append_drop]at this;omega
theorem Q7(p:Int){x:Rx}(a:iI x=true):(kf p x).length+1<=26*sz x:=by have:=Oc p x;have:=Js x a;omega
theorem T8(p:Int):∀l:List Rx,(∀x∈l,iI x=true)->((l.map (kf p)).map λx=>x.length+1).sum<=26*wx l
 |[],_=>by simp
 |r::l,h=>by have b:=Q7 p (h r (q_ ..));have c:=T8 p l λx a=>h x (u_ _ a);simp only[Z_,List.sum_cons,wx]at*;omega
theorem Wl(c:UInt8)(p:Int)(l:List Rx)(h:∀x∈l,iI x=true):(jn c (l.map (kf p))).length<=26*wx l:=F_ (M4 c _) (T8 p l h)
theorem G2{α β:Type}(f:α->β){l:List α}{i:Nat}(h:i<l.length):(l.take (i+1)).map f=(l.take i).map f++[f l[i]]:=by rw[List.take_add_one,a_ h,ag_];rfl
theorem sV(k:Int):aI tbl gD [.d tI k] [] eE (k==5||k==6||k==7,()):=by refine aA rfl (aE CZ rfl (λO m=>C5 O m k) ?_);unfold s3;cases(k==(5:Int))<;>cases(k==(6:Int))<;>exact rG (λ_=>rfl) rfl
theorem Le(ks:List Rx):decide ((ks.length:Int)>0)= !ks.isEmpty:=by cases ks with|nil=>rfl|cons x l=>simp
theorem SC(p k lo up:Int)(ks:List Rx):qA p (.mk k lo up ks)=bif k==4 then !ks.isEmpty else bif k==3 then p != 4 else(k==5||k==6||k==7)&&(p==5||p==6||p==7):=rfl
theorem Cs(p:Int)(x:Rx):aI tbl jJ [.d tI p,.d .rx x] [] dy (qA p x,()):=by
 obtain⟨k,lo,up,ks⟩:=x;refine aA rfl (aE C0 rfl (λO m=>C6 O m p (.mk k lo up ks)) ?_);unfold s4;rw[SC];refine aw (λh=>aa ?_) λh=>?_;·have h:(k==4)=true:=h;rw[h,cond_true,<-Le];rfl
 have h:(k==4)=false:=h;rw[h,cond_false];refine aw (λh=>aa ?_) λh=>?_;·have h:(k==3)=true:=h;rw[h];rfl
 have h:(k==3)=false:=h;rw[h,cond_false];refine ao (sV k) (aj (co (b:=(p==5||p==6||p==7)) (λ_=>ao (sV p) (aa rfl)) (aa rfl)))
theorem Lh(p:Int)(x:Rx)(hl:(ij x).length<=1000000)(h:aI tbl eO [.d .rx x] [] c9 (ij x,())):aI tbl ea [.d tI p,.d .rx x] [] cw (kf p x,()):=by
 refine aA rfl (aE G1 rfl (λO m=>Hg O m p x) ?_);unfold wZ;refine ao h (ao (Cs p x) (aw (λa=>aL (decide_eq_true ?_) (aL (decide_eq_true ?_) (aa ?_))) λa=>aa ?_));·show 1+(ij x).length<=_;omega
 ·show(ij x).length+1+1<=_;omega
 ·have a:qA p x=true:=a;unfold kf;rw[a];rfl
 ·have a:qA p x=false:=a;unfold kf;rw[a];rfl
theorem Ia(k lo up:Int)(ks:List Rx)(c:UInt8)(f:∀x∈ks,iI x=true)(w:wx ks<=1000)(h:∀x∈ks,aI tbl eO [.d .rx x] [] c9 (ij x,())): Wp (λn=>a8 n (kw (qW tbl n) n (.mk k lo up ks) ([c],())) (([]:List UInt8),(0:Int),())) λt=>t=(jn c (ks.map (kf k)),()):=by
 have g:=Dj ks;refine b9 (N:=ks.length) (I:=λi s=>s=(jn c ((ks.take i).map (kf k)),(i:Int),())) rfl ?_ ?_
 ·rintro i s b rfl;have d:=d_ b;have u:=Wl c k (ks.take i) λx r=>f x (List.mem_of_mem_take r);have p:=Sv ks i;have j:=Q7 k (f _ d);have l:=wa d;have hp:=Js _ (f _ d);unfold kw;refine cE b (aW b ?_);have hc:=Lh k ks[i] (by omega) (h _ d);rw[G2 _ b,Of];refine aj (Ev.wp_mono (Q:=λv=>v=((if(ks.take i).map (kf k)=[]then []else jn c ((ks.take i).map (kf k))++[c]),ks[i].out.1,ks[i].out.2.1,ks[i].out.2.2.1,ks[i].out.2.2.2.1,())) (aw (λa=>aL (decide_eq_true ?_) (aa ?_)) λa=>aa ?_) ?_);·show(jn c ((ks.take i).map (kf k))).length+1<=_;omega
  ·have a:(i:Int)>0:=of_decide_eq_true a;rw[if_neg (by intro e;have:=congrArg List.length e;rw[c_,o_,A_]at this;omega)];rfl
  ·have a:¬(i:Int)>0:=of_decide_eq_false a;have:i=0:=by omega
   subst this;rfl
  rintro v rfl;rw[sG];refine ao hc (aL (decide_eq_true ?_) (aa ?_))
  ·show(if(ks.take i).map (kf k)=[]then []else jn c ((ks.take i).map (kf k))++[c]).length+(kf k ks[i]).length<=_;split;·simp only[A_];omega
   ·simp only[i_,R_,A_];omega
  ·show(_,b_ .i64 ((i:Int)+1),())=_;rw[aJ b (by omega)];refine ao_ ?_ rfl;show(if(ks.take i).map (kf k)=[]then []else jn c ((ks.take i).map (kf k))++[c])++kf k ks[i]=_;split<;>simp
 ·rintro s rfl;unfold kw;rw[s_];exact bO (aa rfl)
theorem Ir:∀(r:Rx),iI r=true->sz r<=1000->aI tbl eO [.d .rx r] [] c9 (ij r,()):=by
 refine vi λk lo up ks l j hs=>?_;obtain⟨nd,a⟩:=well_iff.1 j;have hsz:wx ks<=1000:=by simp only[sz]at hs;omega
 have c:∀x∈ks,aI tbl eO [.d .rx x] [] c9 (ij x,()):=λx b=>l x b (a x b) (by have:=wa b;omega);refine aA rfl (aE JP rfl (λO m=>J2 O m (.mk k lo up ks)) ?_);unfold yX;have one:∀x,ks=[x]->∀p:Int,aI tbl ea [.d tI p,.d .rx x] [] cw (kf p x,())/\(kf p x).length<=26000:=λx e p=>by
  have b:x∈ks:=by rw[e];exact q_ ..
  have s:=Js x (a x b);have u:=wa b;have v:=Q7 p (a x b);exact⟨Lh p x (by omega) (c x b),by omega⟩
 rcases nd.known with rfl|rfl|rfl|rfl|rfl|rfl|rfl|rfl;·refine aj (aP rfl (aa (aa ?_)));simp[ij]
 ·obtain⟨r1,r2,r3⟩:=nd.rng rfl;refine aj (an rfl (an rfl (aP rfl (aw (λh=>?_) λh=>?_))))
  ·have h:(lo==up)=true:=h;have h:lo=up:=by simpa using h
   subst h;refine ao (Bf (n:=lo) r1 r3) (aa (aa ?_));simp[ij]
  ·have h:(lo==up)=false:=h;have h:lo≠up:=by simpa using h
   have l1:=r5 (n:=lo.toNat) (by omega);have l2:=r5 (n:=up.toNat) (by omega);refine ao (Bf (n:=lo) r1 (by omega)) (aL (decide_eq_true ?_) (aL (decide_eq_true ?_) (ao (Bf (n:=up) (by omega) r3) (aL (decide_eq_true ?_) (aL (decide_eq_true ?_) (aa (aa ?_)))))));·show 1+(decDigits lo.toNat).length<=_;omega
   ·show(decDigits lo.toNat).length+1+1<=_;omega
   ·simp only[i_,R_,A_];omega
   ·simp only[i_,R_,A_];omega
   ·simp[ij,h]
 ·refine aj (an rfl (aP rfl (aa (aa ?_))));simp[ij]
 ·obtain⟨rfl,rfl⟩:=nd.zero (by decide);refine aj (an rfl (an rfl (an rfl (an rfl (an rfl (an rfl (an rfl (aa ?_))))))));refine aj (Ev.wp_mono (Ia 3 0 0 ks 32 a hsz c) ?_);rintro t rfl;refine aa ?_;simp[ij,fO]
 ·obtain⟨rfl,rfl⟩:=nd.zero (by decide);refine aj (an rfl (an rfl (an rfl (an rfl (an rfl (an rfl (aP rfl (aw (λh=>aa (aa ?_)) λh=>aa ?_))))))));·have h:((ks.length:Int)==0)=true:=h;have h:=len_nil (by simpa using h);subst h;simp[ij]
  ·have h:((ks.length:Int)==0)=false:=h;have f:ks≠[]:=by rintro rfl;simp at h
   refine aj (Ev.wp_mono (Ia 4 0 0 ks 124 a hsz c) ?_);rintro t rfl;refine aa ?_;simp[ij,fO,f]
 ·obtain⟨rfl,rfl⟩:=nd.zero (by decide);obtain⟨x,rfl⟩:=Db (nd.one (by simp));obtain⟨d,g⟩:=one x rfl 5;refine aj (an rfl (an rfl (an rfl (aP rfl (qU (by decide) rfl (ao d (aL (decide_eq_true ?_) (aa (aa ?_)))))))));·show(kf 5 x).length+1<=_;omega
  ·simp[ij,fO]
 ·obtain⟨rfl,rfl⟩:=nd.zero (by decide);obtain⟨x,rfl⟩:=Db (nd.one (by simp));obtain⟨d,g⟩:=one x rfl 6;refine aj (an rfl (an rfl (an rfl (an rfl (aP rfl (qU (by decide) rfl (ao d (aL (decide_eq_true ?_) (aa (aa ?_))))))))));·show(kf 6 x).length+1<=_;omega
  ·simp[ij,fO]
 ·obtain⟨rfl,rfl⟩:=nd.zero (by decide);obtain⟨x,rfl⟩:=Db (nd.one (by simp));obtain⟨d,g⟩:=one x rfl 7;refine aj (an rfl (an rfl (an rfl (an rfl (an rfl (aP rfl (qU (by decide) rfl (ao d (aL (decide_eq_true ?_) (aa (aa ?_)))))))))));·show(kf 7 x).length+1<=_;omega
  ·simp[ij,fO]
theorem FH(r:Rx)(hs:sz r<=1048576):aI tbl gK [.d .rx r] [] fp (if fL r=0 then ij r else [],fL r,()):=by
 refine aA rfl (aE GZ rfl (λO m=>Hf O m r) ?_);unfold wY;refine ao (FF r hs) (aw (λh=>aa ?_) λh=>?_)
 ·have h:fL r≠0:=by have h:(fL r != 0)=true:=h;simpa using h
  rw[if_neg h]
 ·have h:fL r=0:=by have h:(fL r != 0)=false:=h;simpa using h
  obtain⟨a,b⟩:=Hp h;refine ao (Ir r a (by omega)) (aa ?_);rw[if_pos h,h]
end Go.Proofs.YthjnceggmnicmaaGreatDoor
namespace Go.Ev
open Go Go.RowKit Go.Av
section
variable {tbl:Nat->Option Fun'}
def cK(tbl:Nat->Option Fun')(f:Nat)(ars:List V)(os:List Ob)(sh:Sh)(o:Option (HL sh.sl)):Prop:=∃a,∀n,a<=n->gX (qW tbl n) f ars os sh=some o
theorem Hn{f:Nat}{ars:List V}{os:List Ob}{sh:Sh}{R:Option (HL sh.sl)->Prop}(hp:∀c,Cl sh (gP sh c)=some c)(h:Conv tbl f ars os λo=>∃c:Option (HL sh.sl),o=c.map (gP sh)/\R c):∃o,R o/\cK tbl f ars os sh o:=by
 obtain⟨o,⟨c,rfl,hr⟩,d,hn⟩:=h;refine⟨c,hr,d,λn a=>?_⟩;have e:=hn n a;unfold gX;have e:qW tbl n f ars os=_:=e;cases c with
 |none=>rw[e];rfl|some c=>
  rw[e];have:=hp c;unfold Cl at this;simp only[Option.map_some];cases b:(Nat.beq (gP sh c).fr.length sh.n&&HR sh.n (gP sh c).fr);·rw[b]at this;cases this
  ·rw[b]at this;simp only[cond_true]at this;simp only[cond_true,this]
theorem oC{f:Nat}{ars:List V}{os:List Ob}{sh:Sh}{o:Option (HL sh.sl)}(hp:∀c,Cl sh (gP sh c)=some c)(h:Conv tbl f ars os (·=o.map (gP sh))):cK tbl f ars os sh o:=by obtain⟨o',rfl,a⟩:=Hn (R:=λc=>c=o) hp (Pg h λx b=>⟨o,b,rfl⟩);exact a
theorem fS{f:Nat}{ars:List V}{os:List Ob}{sh:Sh}{β:Type}{k:Nat->Option (HL sh.sl)->Option β}{Q:β->Prop}{o:Option (HL sh.sl)}(h:cK tbl f ars os sh o)(a:Wp (λn=>k n o) Q):Wp (λn=>e_ (gX (qW tbl n) f ars os sh) (k n)) Q:=by obtain⟨b,hn⟩:=h;exact aj ⟨o,a,b,hn⟩
end
end Go.Ev
namespace Go.Proofs.YthjnceggmnicmaaGreatDoor
open Go Go.Av Go.Ev Go.Pl Go.Lib
theorem J9(s:List UInt8)(hs:s.length<=1048576):∃c:Bool×Unit,((∀n,s=decDigits n->c=(true,()))/\(c.1=true->s≠[]))/\aI tbl gT [.d tS s] [] cb c:=by
 refine zh (sh:=cb) (λ_=>rfl) (aE AI rfl (λO k=>AW O k s) ?_);unfold pL;refine aj (cI (b:=decide ((s.length:Int)>(1:Int))&&(((s.getD 0 0).toNat:Int)==(48:Int))) (λp=>aj (co (b:=(((s.getD 0 0).toNat:Int)==(48:Int))) (λf=>?_) (aa rfl))) ?_)
 ·have hl:1<s.length:=by have:=of_decide_eq_true f;omega
  refine qU (x:=s.getD 0 0) (P_ _) ?_ (aa rfl);rw[H_,Int.toNat_zero,a_ (show 0<s.length by omega)];rfl
 ·refine aw (λh=>aa ⟨(false,()),rfl,λn hn=>?_,λh=>by cases h⟩) (λh=>?_)
  ·exfalso;have hp:=KS n;have g:=Ph n;rw[<-hn]at hp g;simp only[v_,m_,decide_eq_true_eq,beq_iff_eq]at h;rcases h with h|⟨f,u⟩;·rw[h]at hp;simp at hp
   ·exact g (by omega) (by omega)
  ·have d:s≠[]:=by rintro rfl;simp at h
   refine aj (Wp.imp (Q:=λr=>match r with| .inl v=>v.1=false/\∀n,s≠decDigits n| .inr _=>True) (b9 (N:=s.length) (I:=λi st=>st=((i:Int),())) rfl (λi st e a=>?_) λst a=>?_) λr hr=>?_)
   ·subst a;unfold jf;have j:=a_ e;refine aw (λ_=>?_) (λh=>absurd h (by simp;omega));refine qU (C_ _) j ?_;refine aj (cI (b:=decide ((s[i].toNat:Int)>(57:Int))) (λ_=>qU (C_ _) j (aa rfl)) ?_);refine aw (λl=>aa ⟨rfl,λn hn=>?_⟩) (λ_=>aa ?_);·have:=zo n s[i] (by rw[<-hn];exact d_ e);unfold Eu at this;simp only[v_,decide_eq_true_eq]at l;omega
    ·simp only;rw[aJ e (by omega)]
   ·subst a;unfold jf;exact aw (λh=>absurd h (by simp)) λ_=>aa trivial
   ·cases r with|inl v=>exact aa ⟨_,rfl,λn hn=>absurd hn (hr.2 n),λ_=>d⟩|inr v=>exact aa ⟨_,rfl,λ_ _=>rfl,λ_=>d⟩
theorem Ql(s:List UInt8)(hs:s.length<=1048576):∃c:Int×Int×Unit,((∀m:Nat,m<=4294967295->s=decDigits m->c=((m:Int),(0:Int),()))/\(c.2.1=0->s≠[]))/\aI tbl iu [.d tS s,.d tI (4294967295:Int)] [] ce c:=by
 obtain⟨H,⟨B,C⟩,b⟩:=J9 s hs;refine zh (sh:=ce) (λ_=>rfl) (aE E6 rfl (λO k=>Fp O k s 4294967295) ?_);unfold ud;refine ao b (aw (λh=>aa ⟨_,rfl,λm a hn=>?_,λM=>by cases M⟩) (λhc=>?_));·rw[B m hn]at h;cases h
 have d:s≠[]:=C (by cases e:H.1<;>simp[e]at hc⊢);refine aj (Wp.imp (Q:=λr=>match r with| .inl v=>∀m:Nat,m<=4294967295->s≠decDigits m| .inr v=>∀m:Nat,m<=4294967295->s=decDigits m->v.1=m) (b9 (N:=s.length) (I:=λi st=>st.2.1=(i:Int)/\∀m:Nat,m<=4294967295->s=decDigits m->st.1=(vt (s.take i):Int)) ⟨rfl,λ_ _ _=>rfl⟩ (λi st y f=>?_) λst f=>?_) λr hr=>?_)
 ·obtain⟨n,j,_⟩:=st;obtain⟨g,p⟩:=f;simp only at g p;subst g;unfold lV;have F:=a_ y;have E:∀m:Nat,m<=4294967295->s=decDigits m->n=(vt (s.take i):Int)/\vt (s.take i)<=4294967295/\Eu s[i]/\vt (s.take (i+1))<=4294967295/\vt (s.take (i+1))=10*vt (s.take i)+(s[i].toNat - 48):=λm a hn=>by
   have P:vt s=m:=by rw[hn,KT]
   have hd:Eu s[i]:=zo m s[i] (by rw[<-hn];exact d_ y);have e:s.getD i 0=s[i]:=by simp[H_,F]
   exact⟨p m a hn,by have:=Ih (l:=s) (k:=i) (by omega);omega,hd,by have:=Ih (l:=s) (k:=i+1) (by omega);omega,by rw[takeD y,BZ,e]⟩
  have w:Eu s[i]->b_ .i64 (b_ .u8 ((s[i].toNat:Int) - 48))=((s[i].toNat - 48:Nat):Int):=λh=>by unfold Eu at h;rw[wrap_u8,wrap_i64 (by omega) (by omega)];omega
  refine aw (λ_=>?_) (λh=>absurd h (by simp;omega));refine qU (C_ _) F ?_;refine aL rfl (aw (λA=>aa λm a hn=>?_) (λ_=>aa ⟨?_,λm a hn=>?_⟩));·obtain⟨z,J,x,L,D⟩:=E m a hn;have u:=of_decide_eq_true A;rw[w x,z]at u;unfold Eu at x;rw[wrap_i64 (n:=9223372036854775807 - ((s[i].toNat - 48:Nat):Int)) (by omega) (by omega),Int.tdiv_eq_ediv_of_nonneg (by omega),wrap_i64 (by omega) (by omega)]at u;omega
  ·simp only;rw[aJ y (by omega)]
  ·obtain⟨z,J,x,L,D⟩:=E m a hn;simp only;rw[w x,z,wrap_i64 (n:=10*((vt (s.take i):Nat):Int)) (by omega) (by omega),wrap_i64 (by omega) (by omega),D];omega
 ·obtain⟨n,j,_⟩:=st;obtain⟨g,p⟩:=f;simp only at g p;subst g;unfold lV;refine aw (λh=>absurd h (by simp)) λ_=>aa λm a hn=>?_;simp only;rw[p m a hn,n_ (z_ _),hn,KT]
 ·cases r with
  |inl v=>exact aa ⟨_,rfl,λm a hn=>absurd hn (hr m a),λ_=>d⟩|inr v=>
   refine aw (λA=>aa ⟨_,rfl,λm a hn=>?_,λ_=>d⟩) (λ_=>aa ⟨_,rfl,λm a hn=>?_,λ_=>d⟩);·have:=hr m a hn;have:=of_decide_eq_true A;omega
   ·rw[hr m a hn]
theorem t7(s:List UInt8)(i:Nat):aI tbl a6 [.ptr 0 0] [.box ar [.d tS s,.d tI (i:Int)]] aT ((pk s i:Int),s,(i:Int),()):=by
 refine aA rfl (aE tT rfl (λO m=>tZ O m s (i:Int)) ?_);unfold lN;refine aw (λh=>?_) λh=>aa ?_
 ·have h:i<s.length:=by have:=of_decide_eq_true h;omega
  refine aW h (aa ?_);rw[US h]
 ·have h:¬i<s.length:=by have:=of_decide_eq_false h;omega
  rw[UR h];rfl
structure Run(s:List UInt8)(i j:Nat):Prop where
 le:i<=j
 top:j<=s.length
 all:∀k,i<=k->k<j->dg (pk s k)
theorem OQ{s:List UInt8}{i j m:Nat}{t:List UInt8}(h:Run s i j)(n:¬dg (pk s j))(a:s.drop i=decDigits m++t)(u:¬dg (hd t)):j=i+(decDigits m).length/\(s.take j).drop i=decDigits m:=by
 have g:∀k,i<=k->k<i+(decDigits m).length->dg (pk s k):=λk p r=>by
  have hl:k - i<(decDigits m).length:=by omega
  have e:s[k]? =some (decDigits m)[k - i]:=by
   have b:(s.drop i)[k - i]? =s[k]? :=by rw[List.getElem?_drop];congr 1;omega
   rw[<-b,a,List.getElem?_append_left hl,a_ hl]
  have l:=zo m _ (d_ hl);unfold pk;rw[H_,e];exact l
 have b:¬dg (pk s (i+(decDigits m).length)):=by rw[lR,ix a];exact u
 have f:j=i+(decDigits m).length:=by
  apply f_;intro hn;have:=h.le;rcases Nat.lt_or_gt_of_ne hn with d|c;·exact n (g j this d)
  ·exact b (h.all _ (by omega) c)
 refine⟨f,?_⟩;rw[List.drop_take,a,f,Nat.add_sub_cancel_left,List.take_left]
theorem Qq(s:List UInt8)(hs:s.length<=1048576)(i:Nat)(B:i<=s.length):∃o:Option (Int×Nat),(∀n j,o=some (n,j)->i<j/\j<=s.length)/\(∀(m:Nat) t,s.drop i=decDigits m++t->m<=4294967295->¬dg (hd t)->o=some ((m:Int),i+(decDigits m).length))/\cK tbl aV [.ptr 0 0] [.box ar [.d tS s,.d tI (i:Int)]] q_regex_parser_number_r (o.map λx=>(x.1,s,(x.2:Int),())):=by
 suffices h:∃v:Option (HL q_regex_parser_number_r.sl),(∃o:Option (Int×Nat),v=o.map (λx=>(x.1,s,(x.2:Int),()))/\(∀n j,o=some (n,j)->i<j/\j<=s.length)/\(∀(m:Nat) t,s.drop i=decDigits m++t->m<=4294967295->¬dg (hd t)->o=some ((m:Int),i+(decDigits m).length)))/\cK tbl aV [.ptr 0 0] [.box ar [.d tS s,.d tI (i:Int)]] q_regex_parser_number_r v by
  obtain⟨v,⟨o,rfl,d,b⟩,A⟩:=h
  exact⟨o,d,b,A⟩
 refine Hn (λ_=>rfl) (aE rD rfl (λO m=>rH O m s (i:Int)) ?_);unfold jY;refine aj (Ev.wp_mono (Ev.wp_loop (Q:=λt=>∃j:Nat,t=(s,(j:Int),())/\Run s i j/\¬dg (pk s j)) (λt=>∃j:Nat,t=(s,(j:Int),())/\Run s i j) (λt=>s.length - t.2.1.toNat) ⟨i,rfl,⟨z_ _,B,λk d b=>absurd b (by omega)⟩⟩ ?_) ?_)
 ·rintro t ⟨j,rfl,hr⟩;unfold jb;refine ao (t7 s j) (aw (λh=>?_) λh=>aa ⟨j,rfl,hr,?_⟩)
  ·have h:(pk s j:Int)>=48:=of_decide_eq_true h;have f:=gI (s:=s) (i:=j) (by omega);refine ao (t7 s j) (aw (λh'=>aa ?_) λh'=>aa ⟨j,rfl,hr,?_⟩)
   ·have h':(pk s j:Int)<=57:=of_decide_eq_true h';refine⟨⟨j+1,?_,⟨by have:=hr.le;omega,by omega,λk d b=>?_⟩⟩,?_⟩;·show(s,b_ .i64 ((j:Int)+1),())=_;rw[aJ f (by omega)]
    ·by_cases e:k=j;·subst e;exact⟨by omega,by omega⟩
     ·exact hr.all k d (by omega)
    ·show s.length - (b_ .i64 ((j:Int)+1)).toNat<s.length - (j:Int).toNat;rw[aJ f (by omega)];omega
   ·have h':¬(pk s j:Int)<=57:=of_decide_eq_false h';unfold Pl.dg;omega
  ·have h:¬(pk s j:Int)>=48:=of_decide_eq_false h;unfold Pl.dg;omega
 ·rintro t ⟨j,rfl,hr,w⟩;have d:=hr.le;have b:=hr.top;refine aL (decide_eq_true (by omega)) (aL (decide_eq_true (by show 0<=(j:Int);omega)) (aL ?_ ?_));·show(decide (t_ (i:Int)<=t_ (j:Int))&&decide (t_ (j:Int)<=s.length))=true;simp only[m_,decide_eq_true_eq];omega
  show Wp (λn=>e_ (aB (qW tbl n) iu [.d tS ((s.take (t_ (j:Int))).drop (t_ (i:Int))),.d tI (4294967295:Int)] [] ce) _) _;rw[h_,h_];obtain⟨c,⟨u,y⟩,hc⟩:=Ql ((s.take j).drop i) (by rw[List.length_drop,o_];omega);refine ao (c:=c) hc (aj (aw (λh=>aa ?_) λh=>aa ?_))
  ·have h:c.2.1≠0:=by simpa using h
   refine aa ⟨none,rfl,none,rfl,(λ_ _ h=>by cases h),λm t a l r=>?_⟩;obtain⟨_,g⟩:=OQ hr w a r;rw[u m l g]at h;exact absurd rfl h
  ·have h:c.2.1=0:=by simpa using h
   refine aa ⟨some (c.1,s,(j:Int),()),rfl,some (c.1,j),rfl,?_,λm t a l r=>?_⟩;·intro n k C;cases C;have p:=y h;refine⟨?_,b⟩;apply f_;intro hn;apply p;rw[D_ (by rw[o_];omega)]
   ·obtain⟨z,g⟩:=OQ hr w a r;rw[u m l g,<-z]
theorem Vn(s:List UInt8)(hs:s.length<=1048576):∃num:Nat->Option (Int×Nat),NumOk s num/\∀i,i<=s.length->cK tbl aV [.ptr 0 0] [.box ar [.d tS s,.d tI (i:Int)]] q_regex_parser_number_r ((num i).map λx=>(x.1,s,(x.2:Int),())):=by
 have h:∀i:Nat,∃o:Option (Int×Nat),i<=s.length->(∀n j,o=some (n,j)->i<j/\j<=s.length)/\(∀(m:Nat) t,s.drop i=decDigits m++t->m<=4294967295->¬dg (hd t)->o=some ((m:Int),i+(decDigits m).length))/\cK tbl aV [.ptr 0 0] [.box ar [.d tS s,.d tI (i:Int)]] q_regex_parser_number_r (o.map λx=>(x.1,s,(x.2:Int),())):=λi=>by
  by_cases a:i<=s.length
  ·obtain⟨o,d⟩:=Qq s hs i a;exact⟨o,λ_=>d⟩
  ·exact⟨none,λh=>absurd h a⟩
 refine⟨λi=>an_ (h i),⟨λi n j a e=>?_,λi m t b c f=>?_⟩,λi a=>?_⟩;·exact(G_ (h i) a).1 n j e
 ·have a:i<=s.length:=T_ (IQ b (IP m).1);exact(G_ (h i) a).2.1 m t b c f
 ·exact(G_ (h i) a).2.2
abbrev F1(s:List UInt8)(i:Nat):List Ob:=[.box ar [.d tS s,.d tI (i:Int)]]
def Qj(s:List UInt8)(o:Option (Rx×Nat)):Option (Rx×List UInt8×Int×Unit):=o.map λx=>(x.1,s,(x.2:Int),())
theorem eqT{a b:Nat}(h:((a:Int)==(b:Int))=true):a=b:=by simp at h;omega
theorem Qf{a b:Nat}(h:((a:Int)==(b:Int))=false):a≠b:=by simp at h;omega
theorem WU{a b:Nat}(h:((a:Int) != (b:Int))=true):a≠b:=by simp at h;omega
theorem WT{a b:Nat}(h:((a:Int) != (b:Int))=false):a=b:=by simp at h;omega
theorem Dm(s:List UInt8)(hs:s.length<=1048576)(i c:Nat)(hc:c≠0):cK tbl bi [.ptr 0 0,.d tY (c:Int)] (F1 s i) aX (if pk s i=c then some (s,((i+1:Nat):Int),())else none):=by
 refine oC (λ_=>rfl) (aE qT rfl (λO m=>qV O m (c:Int) s (i:Int)) ?_);unfold jq;refine aj (ao (t7 s i) (aw (λh=>aa (aa ?_)) λh=>aa (aa ?_)));·rw[if_neg (WU h)];rfl
 ·have h:=WT h;have a:=gI (s:=s) (i:=i) (by omega);rw[if_pos h];show some (gP aX (s,b_ .i64 ((i:Int)+1),()))=_;rw[aJ a (by omega)];rfl
section
variable {s:List UInt8}
theorem Uq(hs:s.length<=1048576){num:Nat->Option (Int×Nat)}(hn:NumOk s num)(hc:∀i,i<=s.length->cK tbl aV [.ptr 0 0] (F1 s i) q_regex_parser_number_r ((num i).map λx=>(x.1,s,(x.2:Int),()))) {alt:Nat->Option (Rx×Nat)} (E:OV s alt) (d:Nat) (A:d<=100) (z:∀i,i<=s.length->cK tbl aU [.ptr 0 0,.d tI ((d+1:Nat):Int)] (F1 s i) aR (Qj s (alt i))) (i:Nat) (B:i<=s.length): cK tbl cx [.ptr 0 0,.d tI (d:Int)] (F1 s i) ba (Qj s (iz num s alt i)):=by
 refine oC (λ_=>rfl) (aE sM rfl (λO m=>sR O m (d:Int) s (i:Int)) ?_);unfold ko;refine ao (t7 s i) ?_;dsimp only;refine aw (λh=>?_) λe=>?_;·have h:=eqT (b:=46) h;have f:=gI (s:=s) (i:=i) (by omega);rw[aJ f (by omega),show iz num s alt i=some (.mk 2 0 0 [],i+1) by unfold iz;rw[if_pos h]];exact aa rfl
 have e:=Qf (b:=46) e;refine aw (λh=>?_) λg=>?_;·have h:=eqT (b:=33) h;have f:=gI (s:=s) (i:=i) (by omega);rw[aJ f (by omega),show iz num s alt i=some (.mk 4 0 0 [],i+1) by unfold iz;rw[if_neg e,if_pos h]];exact aa rfl
 have g:=Qf (b:=33) g;refine aw (λa=>?_) λa=>?_
 ·have a:=eqT (b:=91) a;have f:=gI (s:=s) (i:=i) (by omega);have hp:iz num s alt i=match num (i+1)with
   |none=>none
   |some (lo,j)=>if pk s j=45 then(match num (j+1)with
    |none=>none
    |some (up,k)=>if pk s k=93 then some (.mk 1 lo up [],k+1)else none)else none:=by
   unfold iz
   rw[if_neg e,if_neg g,if_pos a]
   all_goals rfl
  rw[aJ f (by omega),hp];refine fS (hc (i+1) (by omega)) ?_;cases w:num (i+1)with
  |none=>exact aa rfl|some x=>
   obtain⟨lo,j⟩:=x;have C:=hn.bnd _ _ _ (by omega) w;show Wp (λn=>e_ (gX (qW tbl n) bi [.ptr 0 0,.d tY (45:Int)] (F1 s j) aX) _) _;refine fS (Dm s hs j 45 (by decide)) ?_;by_cases u:pk s j=45
   ·have l:=gI (s:=s) (i:=j) (by omega);simp only[if_pos u];show Wp (λn=>e_ (gX (qW tbl n) aV [.ptr 0 0] (F1 s (j+1)) q_regex_parser_number_r) _) _;refine fS (hc (j+1) (by omega)) ?_;cases D:num (j+1)with
    |none=>exact aa rfl|some y=>
     obtain⟨up,k⟩:=y;show Wp (λn=>e_ (gX (qW tbl n) bi [.ptr 0 0,.d tY (93:Int)] (F1 s k) aX) _) _;refine fS (Dm s hs k 93 (by decide)) ?_;by_cases v:pk s k=93;·simp only[if_pos v];exact aa rfl
     ·simp only[if_neg v];exact aa rfl
   ·simp only[if_neg u];exact aa rfl
 have a:=Qf (b:=91) a;refine aw (λc=>?_) λc=>?_
 ·have c:=eqT (b:=40) c;have f:=gI (s:=s) (i:=i) (by omega);rw[aJ f (by omega)];refine ao (t7 s (i+1)) ?_;dsimp only;refine aw (λh=>?_) λh=>?_;·have h:=eqT (b:=41) h;have l:=gI (s:=s) (i:=i+1) (by omega);rw[aJ l (by omega),show iz num s alt i=some (.mk 0 0 0 [],i+2) by unfold iz;rw[if_neg e,if_neg g,if_neg a,if_pos c,if_pos h]];exact aa rfl
  ·have h:=Qf (b:=41) h;have hp:iz num s alt i=match alt (i+1)with
    |none=>none
    |some (r,j)=>if pk s j=41 then some (r,j+1)else none:=by
    unfold iz
    rw[if_neg e,if_neg g,if_neg a,if_pos c,if_neg h]
    all_goals rfl
   rw[hp,show b_ .i64 ((d:Int)+1)=((d+1:Nat):Int) by rw[wrap_i64 (by omega) (by omega)];rfl];refine fS (z (i+1) (by omega)) ?_;cases w:alt (i+1)with
   |none=>exact aa rfl|some x=>
    obtain⟨r,j⟩:=x;show Wp (λn=>e_ (gX (qW tbl n) bi [.ptr 0 0,.d tY (41:Int)] (F1 s j) aX) _) _;refine fS (Dm s hs j 41 (by decide)) ?_;by_cases p:pk s j=41;·simp only[if_pos p];refine aa ?_;rw[sG];rfl
    ·simp only[if_neg p];exact aa rfl
 ·have c:=Qf (b:=40) c;have hp:iz num s alt i=match num i with
   |none=>none
   |some (n,j)=>some (.mk 1 n n [],j):=by
   unfold iz
   rw[if_neg e,if_neg g,if_neg a,if_neg c]
   all_goals rfl
  rw[hp];refine fS (hc i B) ?_;cases w:num i with|none=>exact aa rfl|some x=>exact aa rfl
def TY(s:List UInt8)(one:Nat->Option (Rx×Nat))(i:Nat):Option (Rx×Nat):=match one i with
 |none=>none
 |some (r,j)=>if pk s j=42 then some (.mk 5 0 0 [r],j+1)else if pk s j=43 then some (.mk 6 0 0 [r],j+1)else if pk s j=63 then some (.mk 7 0 0 [r],j+1)else some (r,j)
theorem Ur(hs:s.length<=1048576){one:Nat->Option (Rx×Nat)}(d:Nat)(f:∀i,i<=s.length->cK tbl cx [.ptr 0 0,.d tI (d:Int)] (F1 s i) ba (Qj s (one i)))(i:Nat)(g:i<=s.length): cK tbl bM [.ptr 0 0,.d tI (d:Int)] (F1 s i) aZ (Qj s (TY s one i)):=by
 refine oC (λ_=>rfl) (aE sN rfl (λO m=>sS O m (d:Int) s (i:Int)) ?_);unfold kq TY;refine fS (f i g) ?_;cases p:one i with
 |none=>exact aa rfl|some x=>
  obtain⟨r,j⟩:=x;simp only;have key:∀(k:Int),j<s.length->some (gP aZ (Rx.mk k 0 0 [Rx.mk r.out.1 r.out.2.1 r.out.2.2.1 r.out.2.2.2.1],s,b_ .i64 ((j:Int)+1),()))=(Qj s (some (.mk k 0 0 [r],j+1))).map (gP aZ):=λk l=>by rw[sG,aJ l (by omega)];rfl
  show Wp (λn=>e_ (e_ (aB (qW tbl n) a6 [.ptr 0 0] (F1 s j) aT) _) _) _;refine aj (ao (t7 s j) ?_);dsimp only;refine aw (λh=>aa (aa ?_)) λa=>?_;·have h:=eqT (b:=42) h;rw[if_pos h];exact key 5 (gI (by omega))
  have a:=Qf (b:=42) a;refine aw (λh=>aa (aa ?_)) λc=>?_;·have h:=eqT (b:=43) h;rw[if_neg a,if_pos h];exact key 6 (gI (by omega))
  have c:=Qf (b:=43) c;refine aw (λh=>aa (aa ?_)) λe=>aa (aa ?_);·have h:=eqT (b:=63) h;rw[if_neg a,if_neg c,if_pos h];exact key 7 (gI (by omega))
  ·have e:=Qf (b:=63) e;rw[if_neg a,if_neg c,if_neg e];show some (gP aZ (Rx.mk r.out.1 r.out.2.1 r.out.2.2.1 r.out.2.2.2.1,s,(j:Int),()))=_;rw[sG];rfl
theorem GD(hs:s.length<=1048576){one:Nat->Option (Rx×Nat)}(z:OV s one)(d:Nat)(y:∀i,i<=s.length->cK tbl bM [.ptr 0 0,.d tI (d:Int)] (F1 s i) aZ (Qj s (one i)))(T:Option (List Rx×Nat))(r:Rx)(i f:Nat)(A:i<=s.length)(w:1<=i)(u:s.length<=f+i)(c:(if pk s i=32 then j9 s 32 one f [r] (i+1)else some ([r],i))=T): Wp (λn=>a8 n (cj (qW tbl n) n (d:Int)) (s,(i:Int),(0:Int),(0:Int),(0:Int),([r]:List Rx),())) λt=>match t with | .inl _=>T=none | .inr t=>∃(a:List Rx) (j:Nat),t=(s,(j:Int),(0:Int),(0:Int),(0:Int),a,())/\T=some (a,j):=by
 refine Ev.wp_loop (λt=>∃(a:List Rx) (j f:Nat),t=(s,(j:Int),(0:Int),(0:Int),(0:Int),a,())/\j<=s.length/\a.length<=j/\s.length<=f+j/\(if pk s j=32 then j9 s 32 one f a (j+1)else some (a,j))=T) (λt=>s.length - t.2.1.toNat) ⟨[r],i,f,rfl,A,w,u,c⟩ ?_;rintro t ⟨a,j,f,rfl,C,p,u,c⟩;unfold cj;refine ao (t7 s j) ?_;dsimp only;refine aw (λh=>?_) λh=>aa ⟨a,j,rfl,?_⟩
 ·have h:=eqT (b:=32) h;have l:=gI (s:=s) (i:=j) (by omega);rw[if_pos h]at c;rw[aJ l (by omega)];refine fS (y (j+1) (by omega)) ?_;obtain⟨f2,rfl⟩:∃g,f=g+1:=⟨f - 1,by omega⟩;rw[j9]at c;cases e:one (j+1)with
  |none=>rw[e]at c;exact aa c.symm|some x=>
   obtain⟨r2,k⟩:=x;obtain⟨B,v,_⟩:=z _ _ _ (by omega) e;rw[e]at c;simp only at c;refine aL (decide_eq_true ?_) (aa ⟨⟨a++[r2],k,f2,rfl,v,?_,by omega,c⟩,?_⟩);·show(a.length+1)*48<=140737488355328;omega
   ·rw[i_,l_];omega
   ·show s.length - (k:Int).toNat<s.length - (j:Int).toNat;omega
 ·have h:=Qf (b:=32) h;rw[if_neg h]at c;exact c.symm
theorem Ac(hs:s.length<=1048576){one:Nat->Option (Rx×Nat)}(z:OV s one)(d:Nat)(y:∀i,i<=s.length->cK tbl bj [.ptr 0 0,.d tI (d:Int)] (F1 s i) aY (Qj s (one i)))(T:Option (List Rx×Nat))(r:Rx)(i f:Nat)(A:i<=s.length)(w:1<=i)(u:s.length<=f+i)(c:(if pk s i=124 then j9 s 124 one f [r] (i+1)else some ([r],i))=T): Wp (λn=>a8 n (bQ (qW tbl n) n (d:Int)) (s,(i:Int),(0:Int),(0:Int),(0:Int),([r]:List Rx),())) λt=>match t with | .inl _=>T=none | .inr t=>∃(a:List Rx) (j:Nat),t=(s,(j:Int),(0:Int),(0:Int),(0:Int),a,())/\T=some (a,j):=by
 refine Ev.wp_loop (λt=>∃(a:List Rx) (j f:Nat),t=(s,(j:Int),(0:Int),(0:Int),(0:Int),a,())/\j<=s.length/\a.length<=j/\s.length<=f+j/\(if pk s j=124 then j9 s 124 one f a (j+1)else some (a,j))=T) (λt=>s.length - t.2.1.toNat) ⟨[r],i,f,rfl,A,w,u,c⟩ ?_;rintro t ⟨a,j,f,rfl,C,p,u,c⟩;unfold bQ;refine ao (t7 s j) ?_;dsimp only;refine aw (λh=>?_) λh=>aa ⟨a,j,rfl,?_⟩
 ·have h:=eqT (b:=124) h;have l:=gI (s:=s) (i:=j) (by omega);rw[if_pos h]at c;rw[aJ l (by omega)];refine fS (y (j+1) (by omega)) ?_;obtain⟨f2,rfl⟩:∃g,f=g+1:=⟨f - 1,by omega⟩;rw[j9]at c;cases e:one (j+1)with
  |none=>rw[e]at c;exact aa c.symm|some x=>
   obtain⟨r2,k⟩:=x;obtain⟨B,v,_⟩:=z _ _ _ (by omega) e;rw[e]at c;simp only at c;refine aL (decide_eq_true ?_) (aa ⟨⟨a++[r2],k,f2,rfl,v,?_,by omega,c⟩,?_⟩);·show(a.length+1)*48<=140737488355328;omega
   ·rw[i_,l_];omega
   ·show s.length - (k:Int).toNat<s.length - (j:Int).toNat;omega
 ·have h:=Qf (b:=124) h;rw[if_neg h]at c;exact c.symm
theorem Mv(hs:s.length<=1048576){one:Nat->Option (Rx×Nat)}(c:OV s one)(d:Nat)(a:∀i,i<=s.length->cK tbl bM [.ptr 0 0,.d tI (d:Int)] (F1 s i) aZ (Qj s (one i)))(i:Nat)(e:i<=s.length): cK tbl bj [.ptr 0 0,.d tI (d:Int)] (F1 s i) aY (Qj s (GE s 32 3 one i)):=by
 refine oC (λ_=>rfl) (aE pq rfl (λO m=>py O m (d:Int) s (i:Int)) ?_);unfold im GE;refine fS (a i e) ?_;obtain⟨f,w⟩:∃f,s.length+1 - i=f+1:=⟨s.length - i,by omega⟩;rw[w,j9];cases u:one i with
 |none=>exact aa rfl|some x=>
  obtain⟨r,j⟩:=x;obtain⟨y,p,_⟩:=c _ _ _ e u;simp only[K_];show Wp (λn=>e_ (a8 n (cj (qW tbl n) n (d:Int)) (s,(j:Int),(0:Int),(0:Int),(0:Int),([r]:List Rx),())) _) _;refine aj (Ev.wp_mono (GD hs c d a _ r j f p (by omega) (by omega) rfl) ?_);rintro(t|t) g;·rw[show _=none from g];exact aa rfl
  ·obtain⟨l,k,rfl,v⟩:=g;rw[v];refine aw (λh=>?_) λh=>aa ?_;·have h:=eqT (b:=1) h;obtain⟨x,rfl⟩:=S_.1 h;refine qU (by decide) rfl (Fl rfl (aa ?_));rw[sG];rfl
   ·have h:=Qf (b:=1) h;simp only;rw[zY h];rfl
theorem Dk(hs:s.length<=1048576){one:Nat->Option (Rx×Nat)}(c:OV s one)(d:Nat)(w:d<=32)(a:∀i,i<=s.length->cK tbl bj [.ptr 0 0,.d tI (d:Int)] (F1 s i) aY (Qj s (one i)))(i:Nat)(e:i<=s.length): cK tbl aU [.ptr 0 0,.d tI (d:Int)] (F1 s i) aR (Qj s (GE s 124 4 one i)):=by
 refine oC (λ_=>rfl) (aE fR rfl (λO m=>fT O m (d:Int) s (i:Int)) ?_);unfold cT GE;refine aj (an (decide_eq_false (by omega)) (aa ?_));show Wp (λn=>e_ (gX (qW tbl n) bj [.ptr 0 0,.d tI (d:Int)] (F1 s i) aY) _) _;refine fS (a i e) ?_;obtain⟨f,y⟩:∃f,s.length+1 - i=f+1:=⟨s.length - i,by omega⟩;rw[y,j9];cases u:one i with
 |none=>exact aa rfl|some x=>
  obtain⟨r,j⟩:=x;obtain⟨z,p,_⟩:=c _ _ _ e u;simp only[K_];show Wp (λn=>e_ (a8 n (bQ (qW tbl n) n (d:Int)) (s,(j:Int),(0:Int),(0:Int),(0:Int),([r]:List Rx),())) _) _;refine aj (Ev.wp_mono (Ac hs c d a _ r j f p (by omega) (by omega) rfl) ?_);rintro(t|t) g;·rw[show _=none from g];exact aa rfl
  ·obtain⟨l,k,rfl,v⟩:=g;rw[v];refine aw (λh=>?_) λh=>aa ?_;·have h:=eqT (b:=1) h;obtain⟨x,rfl⟩:=S_.1 h;refine qU (by decide) rfl (Fl rfl (aa ?_));rw[sG];rfl
   ·have h:=Qf (b:=1) h;simp only;rw[zY h];rfl
theorem SD(i:Nat):cK tbl aU [.ptr 0 0,.d tI (33:Int)] (F1 s i) aR none:=by refine oC (λ_=>rfl) (aE fR rfl (λO m=>fT O m (33:Int) s (i:Int)) ?_);unfold cT;exact aj (aP rfl (aa (aa rfl)))
theorem Qm(hs:s.length<=1048576){num:Nat->Option (Int×Nat)}(hn:NumOk s num)(hc:∀i,i<=s.length->cK tbl aV [.ptr 0 0] (F1 s i) q_regex_parser_number_r ((num i).map λx=>(x.1,s,(x.2:Int),()))):
 ∀(b d:Nat),d+b=33->∀i,i<=s.length->cK tbl aU [.ptr 0 0,.d tI (d:Int)] (F1 s i) aR (Qj s (Af num s b i))
 |0,d,h,i,_=>by
  have:d=33:=by omega
  subst this;exact SD i
 |b+1,d,h,i,g=>by have a:=IH hn b;have c:=Uq hs hn hc a d (by omega) (Qm hs hn hc b (d+1) (by omega));have e:=Ur hs d c;have f:=Mv hs (DN hn a) d e;exact Dk hs (II (DN hn a) (by decide) 3) d (by omega) f i g
end
def Rd(s:List UInt8)(one:Nat->Option (Rx×Nat))(C:Nat->Rx->Bool->Nat->Prop):Prop:=∀i,i<=s.length->∃(r:Rx) (ok:Bool) (j:Nat),(i<=j/\j<=s.length)/\one i=(if ok then some (r,j)else none)/\C i r ok j
section
variable {s:List UInt8}
theorem Rd.imp{one z:Nat->Option (Rx×Nat)}{C:Nat->Rx->Bool->Nat->Prop}(h:Rd s one C)(N:∀i,i<=s.length->one i=z i):Rd s z C:=λi E=>by obtain⟨r,ok,j,H,I,J⟩:=h i E;exact⟨r,ok,j,H,by rw[<-N i E];exact I,J⟩
end
def ParsedX(s:List UInt8)(c:Rx×Int×Unit):Prop:=(∃r,fL r=0/\ij r=s/\c=(r,0,()))\/((∀r,fL r=0->ij r≠s)/\c=(.mk 0 0 0 [],2,()))
theorem Ii{r:Rx}(h:fL r=0):iI r=true/\sz r<=64/\J4 r<=16:=by obtain⟨a,b⟩:=Hp h;have:=S7 r 1 0 h;exact⟨a,b,by omega⟩
theorem LD{num:Nat->Option (Int×Nat)}{s:List UInt8}(hn:NumOk s num){b:Nat}(d:16<=b){r:Rx}(h:fL r=0)(hp:ij r=s):Af num s b 0=some (r,s.length):=by obtain⟨a,_,c⟩:=Ii h;subst hp;exact PL hn a (by omega)
theorem RF:∀(r:Rx),iI r=true->sz r<=1000->RE r:=by
 refine vi λk lo up ks c b hs=>?_;obtain⟨nd,a⟩:=well_iff.1 b;have hl:=Dj ks;simp only[sz]at hs;have d:lo=0/\up=0\/0<=lo/\lo<=up/\up<=4294967295:=by
  by_cases e:k=1;·exact .inr (nd.rng e)
  ·exact .inl (nd.zero e)
 have f:=nd.known;have g:IntKind.i64.min= -9223372036854775808:=rfl;have h:IntKind.i64.max=9223372036854775807:=rfl;refine⟨⟨by omega,by omega⟩,⟨by omega,by omega⟩,⟨by omega,by omega⟩,F_ (show ks.length<=1000 by omega) (by decide),(BM ks).2 λr hr=>c r hr (a r hr) (by have:=wa hr;omega)⟩
theorem ParsedX.ok{s:List UInt8}{c:Rx×Int×Unit}(h:ParsedX s c):RE c.1:=by
 rcases h with⟨r,z,_,rfl⟩|⟨_,rfl⟩;·obtain⟨E,H,_⟩:=Ii z;exact RF r E (by omega)
 ·exact⟨by decide,by decide,by decide,by decide,trivial⟩
theorem FG(s:List UInt8)(hs:s.length<=1048576):∃c:Rx×Int×Unit,ParsedX s c/\aI tbl mC [.d tS s] [] ee c:=by
 obtain⟨num,hn,hc⟩:=Vn s hs;refine zh (sh:=ee) (λ_=>rfl) (QR GY rfl (λO n=>He O n s) ?_);unfold wX;refine fS (Qm hs hn hc 33 0 rfl 0 (w_ _)) ?_;cases e:Af num s 33 0 with
 |none=>refine aa ⟨_,rfl,.inr ⟨λr hr hp=>?_,rfl⟩⟩;rw[LD hn (by decide) hr hp]at e;cases e|some x=>
  obtain⟨r,j⟩:=x;obtain⟨k,l,p⟩:=IH hn 33 0 r j (w_ _) e;have d:∀a,fL a=0->ij a=s->a=r:=λa f g=>by rw[LD hn (by decide) f g]at e;cases e;rfl
  show Wp (λn=>e_ (e_ (aB (qW tbl n) gK [.d .rx (Rx.mk r.out.1 r.out.2.1 r.out.2.2.1 r.out.2.2.2.1)] [] fp) _) _) _;rw[sG];refine aj (ao (FH r (by omega)) (aj (cI (b:= !(ij r==s)) (λh=>aa ?_) ?_)))
  ·have h:fL r=0:=by have h:(fL r != 0)=false:=h;simpa using h
   rw[if_pos h]
  ·refine aw (λh=>aa (aa ⟨_,rfl,.inr ⟨λa f g=>?_,rfl⟩⟩)) λh=>aa (aa ⟨_,rfl,.inl ⟨r,?_,?_,?_⟩⟩);·have:=d a f g;subst this;have h:(fL a != 0|| !(ij a==s))=true:=h;rw[f,g]at h;simp at h
   ·have h:(fL r != 0|| !(ij r==s))=false:=h;simp at h;exact h.1
   ·have h:(fL r != 0|| !(ij r==s))=false:=h;simp at h;exact h.2
   ·show(Rx.mk r.out.1 r.out.2.1 r.out.2.2.1 r.out.2.2.2.1,(0:Int),())=_;rw[sG]
open Go Go.Av Go.Ev Go.Pl
structure FolR(n:Nat)(F:List (List Int))(P:List (Nat×Nat)):Prop where
 len:F.length=n
 nd:∀l∈F,l.Nodup
 bd:∀l∈F,∀x∈l,0<=x/\x<(n:Int)
 mem:∀p (h:p<F.length) (q:Nat),(q:Int)∈F[p]↔(p,q)∈P
theorem FolR.congr{n:Nat}{F:List (List Int)}{P z:List (Nat×Nat)}(h:FolR n F P)(e:∀x,x∈P↔x∈z):FolR n F z:=⟨h.len,h.nd,h.bd,λp hp q=>(h.mem p hp q).trans (e _)⟩
theorem FolR.add{n:Nat}{F:List (List Int)}{P:List (Nat×Nat)}(h:FolR n F P){p q:Nat}(hp:p<F.length)(hq:q<n)(hn:(q:Int)∉F[p]):FolR n (F.set p (F[p]++[(q:Int)])) (P++[(p,q)]):=by
 have E:∀l∈F.set p (F[p]++[(q:Int)]),l∈F\/l=F[p]++[(q:Int)]:=λl hl=>by
  rcases List.mem_or_eq_of_mem_set hl with h|h;·exact .inl h
  ·exact .inr h
 refine⟨by rw[List.length_set,h.len],λl hl=>?_,λl hl x R=>?_,λU J q'=>?_⟩
 ·rcases E l hl with z|rfl;·exact h.nd l z
  ·exact List.nodup_append.2 ⟨h.nd _ (d_ hp),by simp,λa Y b N=>by simp at N;subst N;rintro rfl;exact hn Y⟩
 ·rcases E l hl with z|rfl;·exact h.bd l z x R
  ·rcases B_.1 R with I|I;·exact h.bd _ (d_ hp) x I
   ·simp at I;subst I;omega
 ·have H:U<F.length:=by simpa using J
  rw[List.getElem_set];split
  ·rename_i e;subst e;simp only[B_,ab_,h.mem p hp,Prod.mk.injEq,true_and];constructor
   ·rintro(z|z);·exact .inl z
    ·exact .inr (by omega)
   ·rintro(z|z);·exact .inl z
    ·exact .inr (by omega)
  ·rename_i e;simp only[B_,ab_,h.mem U H,Prod.mk.injEq];constructor;·exact .inl
   ·rintro(z|z);·exact z
    ·exact absurd z.1.symm e
theorem FolR.one{n:Nat}{F:List (List Int)}{P:List (Nat×Nat)}(h:FolR n F P)(I:∀p q,(p,q)∈P->p<n):FolR (n+1) (F++[[]]) P:=by
 refine⟨by simp[h.len],λl hl=>?_,λl hl x H=>?_,λp hp q=>?_⟩
 ·rcases B_.1 hl with z|z;·exact h.nd l z
  ·simp at z;subst z;simp
 ·rcases B_.1 hl with z|z;·have:=h.bd l z x H;omega
  ·simp at z;subst z;cases H
 ·by_cases E:p<F.length;·rw[List.getElem_append_left E];exact h.mem p E q
  ·have:p=F.length:=by simp at hp;omega
   subst this;simp only[List.getElem_concat_length,List.not_mem_nil,false_iff];intro J;have:=I _ _ J;have:=h.len;omega
section
variable {α β:Type}
end
structure CurR(M:Nat)(C:List Int)(can:Nat->Bool):Prop where
 bd:∀x∈C,0<=x/\x<(M:Int)
 mem:∀q:Nat,(q:Int)∈C↔can q=true
 len:C.length<=10000000000
theorem rF{α β:Type}{m:Option α}{a:α}{f:Nat->α->Option β}{Q:β->Prop}(h:m=some a)(k:Wp (λn=>f n a) Q):Wp (λn=>e_ m (f n)) Q:=by subst h;exact k
open Classical in
noncomputable def ww(s:List UInt8):Int:=if ∃r,fL r=0/\ij r=s then 0 else 2
theorem Tv{s:List UInt8}{c:Rx×Int×Unit}(h:ParsedX s c):c.2.1=ww s:=by
 unfold ww;rcases h with⟨r,a,b,rfl⟩|⟨a,rfl⟩;·rw[if_pos ⟨r,a,b⟩]
 ·rw[if_neg fun⟨r,b,d⟩=>a r b d]
theorem sU(s:List UInt8)(hs:s.length<=9223372036854775807):aI tbl gC [.d tS s] [] dx (tq s,()):=by
 refine aA rfl (aE CX rfl (λO n=>C3 O n s) ?_);unfold sY;refine aj (AQ (xs:=s) (P:=λc=>EC c=true) (e:=(false,())) (g:=()) (λi a=>?_) ?_ (λh=>?_) λh=>?_);·unfold kt;refine cE a (aW a ?_);refine aj (co (b:=decide ((s[i].toNat:Int)<=122)) (λ_=>aa rfl) ?_);refine aj (cI (b:=decide ((s[i].toNat:Int)>=65)&&decide ((s[i].toNat:Int)<=90)) (λ_=>aj (co (b:=decide ((s[i].toNat:Int)<=90)) (λ_=>aa rfl) (aa rfl))) ?_);refine aj (cI (b:=decide ((s[i].toNat:Int)>=48)&&decide ((s[i].toNat:Int)<=57)) (λ_=>aj (co (b:=decide ((s[i].toNat:Int)<=57)) (λ_=>aa rfl) (aa rfl))) ?_);refine aj (cI (b:=((s[i].toNat:Int)==45)) (λ_=>aa rfl) (mV ?_ (by rw[aJ a hs])));show(!EC s[i])=true↔_;cases EC s[i]<;>simp
 ·unfold kt;exact bO (aa rfl)
 ·refine aj (co (b:=decide ((s.length:Int)<=32)) (λ_=>aa rfl) (aa ?_));have e:tq s=(decide ((s.length:Int)>=1)&&decide ((s.length:Int)<=32)):=by unfold tq;rw[af_.2 h,Y_];congr 1<;>exact decide_eq_decide.2 (by omega)
  rw[e]
 ·refine aa ?_;have e:tq s=false:=by
   unfold tq;cases e:s.all EC;·rfl
   ·exact absurd (af_.1 e) h
  rw[e]
theorem kh(l:List (List UInt8))(i:Nat)(g:i<l.length)(hl:l.length<=9223372036854775807)(hs:l[i].length<=9223372036854775807): aI tbl eh [.d (.list tS) ((l.take (t_ (i:Int))).drop 0),.d tS l[i]] [] cf (qR l i,()):=by
 refine aA rfl (aE E8 rfl (λO n=>Fs O n _ _) ?_);unfold uf;rw[ah_,h_];have c:qR l i=if tq l[i]=false then 1 else if 0<i/\Na l[i] (l.getD (i - 1) [])=true then 16 else 0:=by unfold qR;rw[a_ g]
 have a:(l.take i).length=i:=by rw[o_];omega
 refine ao (sU l[i] hs) (aw (λh=>aa ?_) λh=>?_);·rw[c,if_pos (by simpa using h)]
 have hn:¬tq l[i]=false:=by simpa using h
 refine aj (co (b:=Na l[i] (l.getD (i - 1) [])) (λd=>?_) (aw (λh=>aa ?_) λh=>aa ?_))
 ·have d:=of_decide_eq_true d;rw[a]at d⊢;have e:b_ .i64 ((i:Int) - 1)=((i - 1:Nat):Int):=by rw[wrap_i64 (by omega) (by omega)];omega
  rw[e];refine JR (x:=l.getD (i - 1) []) ?_ (aa rfl);rw[List.getElem?_take_of_lt (by omega),H_,a_ (by omega)];rfl
 ·rw[a]at h;simp only[m_,decide_eq_true_eq]at h;rw[c,if_neg hn,if_pos ⟨by omega,h.2⟩]
 ·rw[a]at h;simp only[x_,decide_eq_false_iff_not]at h;rw[c,if_neg hn,if_neg];rintro⟨j,f⟩;rcases h with h|h;·exact h (by omega)
  ·rw[h]at f;cases f
abbrev yN:Ty:=pr [.list tS,.list tS,.list tS,.list tS]
def bN(s:PS):yN.den:=(s.1.map (·.1),s.2.1.map (·.1),s.2.2.1.map (·.1),s.2.2.2.1.map (·.1),())
theorem wb{α β:Type}{f:α->β}{l:List α}{i:Nat}(a:i<l.length):(l.take i).map f++[f l[i]]=(l.take (i+1)).map f:=by rw[<-List.take_append_getElem a,ag_];rfl
theorem Do(s:PS)(c:s.1.length<=1048576)(d:s.2.1.length<=1048576)(e:s.2.2.1.length<=1048576)(g:s.2.2.2.1.length<=1048576):aI tbl kB [.d yS s] [] iC (bN s,()):=by
 refine aA rfl (aE E9 rfl (λO n=>Ft O n s) ?_);unfold ug;have hg:∀{α:Type} {l:List α} {f:α->List UInt8} {i:Nat},i<l.length->l.length<=1048576->decide ((((l.take i).map f).length+1)*16<=140737488355328)=true:=fun{α l f i} a hl=>by rw[c_,o_];exact decide_eq_true (by omega)
 refine aj (b9 (N:=s.1.length) (I:=λi t=>t=((i:Int),(s.1.take i).map (·.1),())) rfl (λi t a b=>?_) λt b=>?_);·subst b;unfold lW;refine cE a (aW a (aL rfl (aL (hg a c) (aL rfl (aa ?_)))));simp only;rw[aJ a (by omega),wb (f:=λx:V8=>x.1) a]
 subst b;unfold lW;refine bO (aa ?_);rw[n_ (z_ _)];refine aj (b9 (N:=s.2.1.length) (I:=λi t=>t=((i:Int),s.1.map (·.1),(s.2.1.take i).map (·.1),())) rfl (λi t a b=>?_) λt b=>?_);·subst b;unfold lX;refine cE a (aW a (aL rfl (aL (hg a d) (aL rfl (aa ?_)))));simp only;rw[aJ a (by omega),wb (f:=λx:V6=>x.1) a]
 subst b;unfold lX;refine bO (aa ?_);rw[n_ (z_ _)];refine aj (b9 (N:=s.2.2.1.length) (I:=λi t=>t=((i:Int),s.1.map (·.1),s.2.1.map (·.1),(s.2.2.1.take i).map (·.1),())) rfl (λi t a b=>?_) λt b=>?_);·subst b;unfold lY;refine cE a (aW a (aL rfl (aL (hg a e) (aL rfl (aa ?_)))));simp only;rw[aJ a (by omega),wb (f:=λx:V5=>x.1) a]
 subst b;unfold lY;refine bO (aa ?_);rw[n_ (z_ _)];refine aj (b9 (N:=s.2.2.2.1.length) (I:=λi t=>t=((i:Int),s.1.map (·.1),s.2.1.map (·.1),s.2.2.1.map (·.1),(s.2.2.2.1.take i).map (·.1),())) rfl (λi t a b=>?_) λt b=>?_);·subst b;unfold lZ;refine cE a (aW a (aL rfl (aL (hg a g) (aL rfl (aa ?_)))));simp only;rw[aJ a (by omega),wb (f:=λx:Mt=>x.1) a]
 subst b;unfold lZ;refine bO (aa (aa ?_));rw[n_ (z_ _)];rfl
theorem bX(n a b:Int):aI tbl bH [.d tI n,.d tI a,.d tI b] [] bz (decide (a<=n)&&decide (n<=b),()):=by refine aA rfl (aE CY rfl (λO k=>C4 O k n a b) ?_);unfold sZ;exact aj (co (b:=decide (n<=b)) (λ_=>aa rfl) (aa rfl))
theorem kg(l:List (List UInt8))(n:List UInt8)(hl:l.length<=9223372036854775807):aI tbl gU [.d (.list tS) l,.d tS n] [] dq (l.any (·==n),()):=by
 refine aA rfl (aE AK rfl (λO k=>AY O k l n) ?_);unfold pN;refine aj (OU (xs:=l) (p:=(·==n)) (g:=λ_=>(true,())) (e:=()) (λi r c=>?_) ?_ ?_)
 ·unfold jg;have a:=(O_.1 c).1;refine cE a (JR c (aw (λh=>aa ?_) λh=>aa ?_));·rw[if_pos h]
  ·rw[if_neg (by simp[h]),aJ a hl]
 ·unfold jg;exact bO (aa rfl)
 ·cases e:l.find? (·==n)with
  |some r=>have b:l.any (·==n)=true:=List.any_eq_true.2 ⟨r,List.mem_of_find?_eq_some e,List.find?_some (p:=(·==n)) e⟩;rw[b];exact aa rfl|none=>
   have b:l.any (·==n)=false:=by rw[List.find?_eq_none]at e;exact List.any_eq_false.2 e
   rw[b];exact aa rfl
theorem rj(k N d pl:Int)(nm:List UInt8)(e:Bool):(true ^^ oR yM (k,nm,N,(d,pl,()),e,()) (k,nm,0,(0,0,()),e,()))=true↔(N≠0\/d≠0\/pl≠0):=by by_cases a:N=0<;>by_cases b:d=0<;>by_cases c:pl=0<;>simp[oR,a,b,c]
theorem Rq(k N d pl:Int)(nm:List UInt8)(e:Bool):(true ^^ oR yM (k,nm,N,(d,pl,()),e,()) (k,[],N,(0,0,()),e,()))=true↔(nm≠[]\/d≠0\/pl≠0):=by by_cases a:nm=[]<;>by_cases b:d=0<;>by_cases c:pl=0<;>simp[oR,a,b,c]
theorem Rp(k N d pl:Int)(nm:List UInt8)(c:Bool):(true ^^ oR yM (k,nm,N,(d,pl,()),c,()) (k,[],0,(d,pl,()),c,()))=true↔(nm≠[]\/N≠0):=by by_cases a:nm=[]<;>by_cases b:N=0<;>simp[oR,a,b]
theorem nk{b:Bool}{P:Prop}(h:b=false)(e:b=true↔P):¬P:=λp=>by rw[e.2 p]at h;cases h
theorem wd(s:PS)(m:Ut)(hs:okD yS s)(H:Ae m.2.2.2.1.1):aI tbl fv [.d yN (bN s),.d yM m] [] bg (uU s m,()):=by
 obtain⟨k,nm,N,⟨d,pl,⟨⟩⟩,g,⟨⟩⟩:=m;refine aA rfl (aE wF rfl (λO n=>wN O n (bN s) (k,nm,N,(d,pl,()),g,())) ?_);unfold nL;refine aj (aj ?_);have j:(s.1.map (·.1)).length<=9223372036854775807:=by rw[c_];exact hs.1.1
 have l:(s.2.1.map (·.1)).length<=9223372036854775807:=by rw[c_];exact hs.2.1.1
 have p:(s.2.2.1.map (·.1)).length<=9223372036854775807:=by rw[c_];exact hs.2.2.1.1
 by_cases u:k=1
 ·subst u;rw[yc (.inl rfl)];have c:(s.1.map (·.1)).any (·==nm)=Q9 s 1 nm:=by rw[ad_];rfl
  refine aP rfl (aa (aP rfl (aw (λh=>aa (aa ?_)) λh=>?_)));·rw[if_pos ((rj _ _ _ _ _ _).1 h)]
  ·rw[if_neg (nk h (rj _ _ _ _ _ _))];refine rF (a:=s.1.map (·.1)) rfl (ao (kg _ nm j) ?_);rw[c];refine aw (λh=>aa (aa ?_)) λh=>aa (aa ?_);·rw[if_neg (by simpa using h)]
   ·rw[if_pos (by simpa using h)]
 by_cases v:k=2
 ·subst v;rw[yc (.inr (.inl rfl))];have c:(s.2.1.map (·.1)).any (·==nm)=Q9 s 2 nm:=by rw[ad_];rfl
  refine an rfl (aP rfl (aa (aP rfl (aw (λh=>aa (aa ?_)) λh=>?_))));·rw[if_pos ((rj _ _ _ _ _ _).1 h)]
  ·rw[if_neg (nk h (rj _ _ _ _ _ _))];refine rF (a:=s.2.1.map (·.1)) rfl (ao (kg _ nm l) ?_);rw[c];refine aw (λh=>aa (aa ?_)) λh=>aa (aa ?_);·rw[if_neg (by simpa using h)]
   ·rw[if_pos (by simpa using h)]
 by_cases w:k=3
 ·subst w;rw[yc (.inr (.inr rfl))];have c:(s.2.2.1.map (·.1)).any (·==nm)=Q9 s 3 nm:=by rw[ad_];rfl
  refine an rfl (an rfl (aa (aP rfl (aw (λh=>aa (aa ?_)) λh=>?_))));·rw[if_pos ((rj _ _ _ _ _ _).1 h)]
  ·rw[if_neg (nk h (rj _ _ _ _ _ _))];refine rF (a:=s.2.2.1.map (·.1)) rfl (ao (kg _ nm p) ?_);rw[c];refine aw (λh=>aa (aa ?_)) λh=>aa (aa ?_);·rw[if_neg (by simpa using h)]
   ·rw[if_pos (by simpa using h)]
 refine an (beq_eq_false_iff_ne.2 u) (an (beq_eq_false_iff_ne.2 v) (aa (an (beq_eq_false_iff_ne.2 w) ?_)));by_cases B:k=7
 ·subst B;rw[Rl];refine aP rfl (aj (cI (b:= !mq (d,pl,())) (λ_=>ao (oG (d,pl,()) H) (aa rfl)) ?_));refine aw (λh=>aa (aa ?_)) λh=>aa (aa ?_)
  ·by_cases e:nm≠[]\/N≠0;·rw[if_pos e]
   ·rw[if_neg e,if_neg];intro h';rcases Bool.or_eq_true_iff.1 h with h|h;·exact e ((Rp _ _ _ _ _ _).1 h)
    ·rw[h']at h;cases h
  ·simp only[y_]at h;rw[if_neg (nk h.1 (Rp _ _ _ _ _ _)),if_pos (by simpa using h.2)]
 refine an (beq_eq_false_iff_ne.2 B) ?_;have num:∀lo f:Int,(k=4\/k=5\/k=6\/k=8)->UJ k=lo->Q6 k=f->Wp (λn=>
  bif (true ^^ oR yM (k,nm,N,(d,pl,()),g,()) (k,([]:List UInt8),N,((0:Int),(0:Int),()),g,()))then aH bg ((1:Int),())else
  e_ (aB (qW tbl n) bH [.d tI N,.d tI lo,.d tI f] [] bz) λr=>
  bif (!r.1)then aH bg ((5:Int),())else aH bg ((0:Int),()))
  (λx=>x=some (gP bg (uU s (k,nm,N,(d,pl,()),g,()),()))):=λlo f F D E=>by
  rw[Rm F,D,E]
  refine aw (λh=>aa ?_) λh=>?_
  ·rw[if_pos ((Rq _ _ _ _ _ _).1 h)]
  ·rw[if_neg (nk h (Rq _ _ _ _ _ _))];refine ao (bX N lo f) (aw (λh=>aa ?_) λh=>aa ?_);·rw[if_pos (by simp at h;omega)]
   ·rw[if_neg (by simp at h;omega)]
 by_cases y:k=4;·subst y;exact aP rfl (aa (num 1 7 (by omega) rfl rfl))
 by_cases A:k=6;·subst A;exact an rfl (aP rfl (aa (num 0 16777216 (by omega) rfl rfl)))
 by_cases C:k=8;·subst C;exact an rfl (an rfl (aP rfl (aa (num 0 2000 (by omega) rfl rfl))))
 by_cases z:k=5;·subst z;exact an rfl (an rfl (an rfl (aP rfl (aa (num 0 4294967295 (by omega) rfl rfl)))))
 refine an (beq_eq_false_iff_ne.2 y) (an (beq_eq_false_iff_ne.2 A) (an (beq_eq_false_iff_ne.2 C) (an (beq_eq_false_iff_ne.2 z) (aa (aa ?_)))));rw[Rk (show k<1\/8<k by omega)]
theorem ne_eqD{a b:yr}:(true ^^ oR yA a b)=true↔¬a=b:=by rw[<-S9];cases oR yA a b<;>simp
theorem ua(a:yr):aI tbl eG [.d yA a] [] bc (eP a,()):=by
 refine aA rfl (aE vl rfl (λO n=>vA O n a) ?_);unfold mZ;refine aj (aj ?_);by_cases y:a.1<1\/8<a.1;·have j:∀k:Int,1<=k->k<=8->(a.1==k)=false:=λk l p=>beq_eq_false_iff_ne.2 (by omega);refine an (j 1 (by decide) (by decide)) (an (j 2 (by decide) (by decide)) (aa (an (j 4 (by decide) (by decide)) (an (j 3 (by decide) (by decide)) (an (j 5 (by decide) (by decide)) ?_)))));refine aj (an (j 6 (by decide) (by decide)) (aa (an (j 7 (by decide) (by decide)) (an (j 8 (by decide) (by decide)) (aa (aa ?_))))));rw[show eP a=15 from if_pos y]
 have d:∀(only:yr) (f:Bool),lg a=only->jc a=f->Wp (λ_=>bif (true ^^ oR yA a only)then aH bc ((1:Int),())else bif (!f)then aH bc ((5:Int),())else aH bc ((0:Int),())) (λx=>x=some (gP bc (eP a,()))):=λonly f l p=>by
  have e:eP a=if ¬a=only then 1 else if f=false then 5 else 0:=by unfold eP;rw[if_neg y,l,p]
  rw[e]
  refine aw (λh=>aa ?_) λh=>aw (λh'=>aa ?_) λh'=>aa ?_
  ·rw[if_pos (ne_eqD.1 h)]
  ·rw[if_neg (λx=>by rw[ne_eqD.2 x]at h;cases h),if_pos (by simpa using h')]
  ·rw[if_neg (λx=>by rw[ne_eqD.2 x]at h;cases h),if_neg (by simpa using h')]
 have g:∀{k:Int},a.1≠k->(a.1==k)=false:=λh=>beq_eq_false_iff_ne.2 h;have c:∀{k:Int},a.1=k->(a.1==k)=true:=λh=>beq_iff_eq.2 h;by_cases l:a.1=1
 ·refine aP (c l) (aa (aP (c l) (ao (bX a.2.1 0 4294967295) (aa (d _ _ ?_ ?_)))));·unfold lg;rw[if_pos (by omega)]
  ·unfold jc;rw[if_neg (by omega),if_pos (by omega)]
 refine an (g l) ?_;by_cases p:a.1=2
 ·refine aP (c p) (aa (aP (c p) (ao (bX a.2.1 0 4294967295) (aa (d _ _ ?_ ?_)))));·unfold lg;rw[if_pos (by omega)]
  ·unfold jc;rw[if_neg (by omega),if_pos (by omega)]
 refine an (g p) (aa ?_);by_cases u:a.1=4
 ·refine aP (c u) (ao (bX a.2.1 0 4294967295) (aa (d _ _ ?_ ?_)));·unfold lg;rw[if_pos (by omega)]
  ·unfold jc;rw[if_neg (by omega),if_pos (by omega)]
 refine an (g u) ?_;by_cases s:a.1=3
 ·refine aP (c s) (ao (bX a.2.1 0 16777216) (aa (d _ _ ?_ ?_)));·unfold lg;rw[if_pos (by omega)]
  ·unfold jc;rw[if_pos (by omega)]
 refine an (g s) ?_;by_cases v:a.1=5
 ·refine aP (c v) (aa (d _ _ ?_ ?_));·unfold lg;rw[if_neg (by omega),if_pos (by omega)]
  ·unfold jc;rw[if_neg (by omega),if_neg (by omega),if_pos (by omega)]
 refine an (g v) (aj ?_);by_cases r:a.1=6
 ·refine aP (c r) (aa (aP (c r) (aa (d _ _ ?_ ?_))));·unfold lg;rw[if_neg (by omega),if_neg (by omega),if_pos (by omega)]
  ·unfold jc;rw[if_neg (by omega),if_neg (by omega),if_neg (by omega),if_pos (by omega)]
 refine an (g r) (aa ?_);by_cases w:a.1=7
 ·refine aP (c w) (aa (d _ _ ?_ ?_));·unfold lg;rw[if_neg (by omega),if_neg (by omega),if_pos (by omega)]
  ·unfold jc;rw[if_neg (by omega),if_neg (by omega),if_neg (by omega),if_pos (by omega)]
 refine an (g w) (aP (c (by omega)) (ao (bX a.2.2.1 1 4294967295) ?_));refine aj (co (b:=decide (1<=a.2.1)&&decide (a.2.1<=16)) (λ_=>ao (bX a.2.1 1 16) (aa rfl)) (aa (d _ _ ?_ ?_)));·unfold lg;rw[if_neg (by omega),if_neg (by omega),if_neg (by omega)]
 ·unfold jc;rw[if_neg (by omega),if_neg (by omega),if_neg (by omega),if_neg (by omega)]
theorem rJ(r:Vm):aI tbl dV [.d yC r] [] b6 (tD r,()):=by
 refine aA rfl (aE sK rfl (λO n=>sP O n r) ?_);unfold kj;refine ao (bX r.2.1 (-1) 65535) (aj (cI (b:= !(decide (-1<=r.2.2.1)&&decide (r.2.2.1<=65535))) (λ_=>ao (bX r.2.2.1 (-1) 65535) (aa rfl)) ?_));refine aw (λh=>aa ?_) λh=>aa ?_;·rw[show tD r=5 from if_pos (by simp at h;omega)]
 ·rw[show tD r=0 from if_neg (by simp at h;omega)]
theorem QF{α:Type}{p:α->Bool}{l:List α}:l.any p=(l.find? p).isSome:=by induction l with|nil=>rfl|cons x l a=>rw[List.any_cons,List.find?_cons,a];cases p x<;>rfl
theorem xR(s:PS)(hs:okD yS s)(a:List Fw)(t:Fw)(z:a.length<=9223372036854775807)(y:okD yT t):aI tbl gu [.d yN (bN s),.d (.list yT) a,.d yT t] [] bl (mj s a t,()):=by
 refine aA rfl (aE ym rfl (λO n=>yq O n (bN s) a t) ?_);unfold oI;have x:∀m∈t.2.1,Ae m.2.2.2.1.1:=λm x=>((y.2.1.2 m x).2.2.2.1).1;refine ao (sU t.1 y.1) (aw (λh=>aa ?_) λh=>?_);·rw[show mj s a t=1 from if_pos (by simpa using h)]
 have hn:¬tq t.1=false:=by simpa using h
 refine aj (OU (xs:=a) (p:=(·.1==t.1)) (g:=λ_=>((7:Int),())) (e:=()) (λi r c=>?_) ?_ ?_)
 ·unfold io;have v:=(O_.1 c).1;refine cE v (JR c (aw (λh=>aa ?_) λh=>aa ?_));·rw[if_pos h]
  ·rw[if_neg (by simp[h]),aJ v z]
 ·unfold io;exact bO (aa rfl)
 have b:a.any (·.1==t.1)=(a.find? (·.1==t.1)).isSome:=QF;cases e:a.find? (·.1==t.1)with
 |some r=>rw[e]at b;refine aa ?_;have b:a.any (·.1==t.1)=true:=b;rw[show mj s a t=7 from by unfold mj;rw[if_neg hn,if_pos b]]|none=>
  rw[e]at b;have j:¬a.any (·.1==t.1)=true:=by rw[b];decide
  refine aw (λh=>aa ?_) λh=>?_;·rw[show mj s a t=4 from by unfold mj;rw[if_neg hn,if_neg j,if_pos (by have:=of_decide_eq_true h;omega)]]
  have u:¬t.2.1.length>64:=by have:=of_decide_eq_false h;omega
  refine aj (AR (l:=t.2.1) (f:=uU s) (enc:=λi=>((i:Int),())) (oB:=λe=>(e,())) (oE:=()) (λi c=>?_) ?_ ?_)
  ·unfold ip;refine cE c (aW c (ao (wd s _ hs (x _ (d_ c))) (aw (λh=>aa ?_) λh=>aa ?_)));·rw[if_neg (by simpa using h)]
   ·rw[if_pos (by simpa using h),aJ c (by omega)]
  ·unfold ip;exact bO (aa rfl)
  by_cases d:ef (uU s) t.2.1=0
  ·rw[if_pos d];refine aw (λh=>aa ?_) λh=>?_;·rw[show mj s a t=4 from by unfold mj;rw[if_neg hn,if_neg j,if_neg u,if_neg (not_not_intro d),if_pos (by have:=of_decide_eq_true h;omega)]]
   have w:¬t.2.2.1.length>64:=by have:=of_decide_eq_false h;omega
   refine aj (AR (l:=t.2.2.1) (f:=eP) (enc:=λi=>((i:Int),())) (oB:=λe=>(e,())) (oE:=()) (λi c=>?_) ?_ ?_)
   ·unfold iq;refine cE c (aW c (ao (ua _) (aw (λh=>aa ?_) λh=>aa ?_)));·rw[if_neg (by simpa using h)]
    ·rw[if_pos (by simpa using h),aJ c (by omega)]
   ·unfold iq;exact bO (aa rfl)
   by_cases k:ef eP t.2.2.1=0
   ·rw[if_pos k];refine ao (bX t.2.2.2.1 1 3) (aw (λh=>aa ?_) λh=>aa ?_);·rw[show mj s a t=15 from by unfold mj;rw[if_neg hn,if_neg j,if_neg u,if_neg (not_not_intro d),if_neg w,if_neg (not_not_intro k),if_pos (by simp at h;omega)]]
    ·rw[show mj s a t=0 from by unfold mj;rw[if_neg hn,if_neg j,if_neg u,if_neg (not_not_intro d),if_neg w,if_neg (not_not_intro k),if_neg (by simp at h;omega)]]
   ·rw[if_neg k];refine aa ?_;rw[show mj s a t=ef eP t.2.2.1 from by unfold mj;rw[if_neg hn,if_neg j,if_neg u,if_neg (not_not_intro d),if_neg w,if_pos k]]
  ·rw[if_neg d];refine aa ?_;rw[show mj s a t=ef (uU s) t.2.1 from by unfold mj;rw[if_neg hn,if_neg j,if_neg u,if_pos d]]
def P9(s:PS)(l:List Fw)(i:Nat):Int:=match l[i]? with|some t=>mj s (l.take i) t|none=>0
theorem Tw(s:PS)(p:Mt):sD s p=if l8 (P9 s p.2.1) p.2.1.length≠0 then l8 (P9 s p.2.1) p.2.1.length else if p.2.2.1≠1/\p.2.2.1≠2 then 15 else 0:=rfl
theorem Sx{s:PS}{l:List Fw}{i:Nat}(a:i<l.length):P9 s l i=mj s (l.take i) l[i]:=by unfold P9;rw[a_ a]
theorem ub(s:PS)(hs:okD yS s)(p:Mt)(hp:okD yO p):aI tbl eH [.d yN (bN s),.d yO p] [] bU (sD s p,()):=by
 refine aA rfl (aE vm rfl (λO n=>vB O n (bN s) p) ?_);unfold m4;have hl:p.2.1.length<=9223372036854775807:=hp.2.1.1;refine aj (yo (N:=p.2.1.length) (f:=P9 s p.2.1) (enc:=λi=>((i:Int),())) (oB:=λe=>(e,())) (oE:=()) (λi a=>?_) ?_ ?_)
 ·unfold gl;refine cE a (aW a (aL (decide_eq_true (by omega)) (aL (by simp;omega) ?_)));rw[ah_,h_];refine ao (xR s hs _ _ (by rw[o_];omega) (hp.2.1.2 _ (d_ a))) ?_;rw[<-Sx a];refine aw (λh=>aa ?_) λh=>aa ?_;·rw[if_neg (by simpa using h)]
  ·rw[if_pos (by simpa using h),aJ a hl]
 ·unfold gl;exact bO (aa rfl)
 rw[Tw];by_cases e:l8 (P9 s p.2.1) p.2.1.length=0
 ·rw[if_pos e,if_neg (not_not_intro e)];refine aj (co (b:=(p.2.2.1 != 2)) (λ_=>aa rfl) (aw (λh=>aa ?_) λh=>aa ?_));·rw[if_pos (by simpa using h)]
  ·rw[if_neg (by simp at h;omega)]
 ·rw[if_neg e,if_pos e];exact aa rfl
theorem SI(v:List Uu)(b:∀r∈v,Ae r.2.1.1)(i:Nat)(a:i<v.length):aI tbl cN [.d tI (i:Int),.ptr 0 0] [.box bq [.d (.list yR) v]] cQ (rp v[i],v,()):=by refine aA rfl (aE tO rfl (λO n=>tU O n (i:Int) v) ?_);unfold lJ;exact aW a (ao (FA _ (b _ (d_ a))) (aa rfl))
theorem SJ(v:List V7)(e:∀r∈v,r.2.1.length<=1048576)(i:Nat)(a:i<v.length):aI tbl cO [.d tI (i:Int),.ptr 0 0] [.box bG [.d (.list yH) v]] cR (ww v[i].2.1,v,()):=by refine aA rfl (aE tP rfl (λO n=>tV O n (i:Int) v) ?_);unfold lK;obtain⟨c,b,d⟩:=FG v[i].2.1 (e _ (d_ a));rw[<-Tv b];exact aW a (ao d (aa rfl))
theorem SK(v:List Vm)(b:∀r∈v,True)(i:Nat)(a:i<v.length):aI tbl cP [.d tI (i:Int),.ptr 0 0] [.box bk [.d (.list yC) v]] cS (tD v[i],v,()):=by refine aA rfl (aE tR rfl (λO n=>tX O n (i:Int) v) ?_);unfold lM;exact aW a (ao (rJ _) (aa rfl))
theorem Qn(v:List Uu)(hl:v.length<=9223372036854775807)(b:∀r∈v,Ae r.2.1.1):aI tbl gW [.d tI (v.length:Int),.clo f8 [0]] [.box bq [.d (.list yR) v]] dt (ef rp v,v,()):=by
 refine aA rfl (aE AM rfl (λO n=>Ba O n (v.length:Int) v) ?_);unfold pP;refine aj (AR (l:=v) (f:=rp) (enc:=λi=>((i:Int),v,())) (oB:=λe=>(e,v,())) (oE:=(v,())) (λi a=>?_) ?_ ?_)
 ·unfold ji;refine cE a (ao (SI v b i a) (aw (λh=>aa ?_) λh=>aa ?_));·rw[if_neg (by simpa using h)]
  ·rw[if_pos (by simpa using h),aJ a hl]
 ·unfold ji;exact bO (aa rfl)
 by_cases e:ef rp v=0;·rw[if_pos e];refine aa ?_;rw[e]
 ·rw[if_neg e];exact aa rfl
theorem Qo(v:List V7)(hl:v.length<=9223372036854775807)(b:∀r∈v,r.2.1.length<=1048576):aI tbl eL [.d tI (v.length:Int),.clo gf [0]] [.box bG [.d (.list yH) v]] cq (ef (λr=>ww r.2.1) v,v,()):=by
 refine aA rfl (aE vq rfl (λO n=>vF O n (v.length:Int) v) ?_);unfold m8;refine aj (AR (l:=v) (f:=(λr=>ww r.2.1)) (enc:=λi=>((i:Int),v,())) (oB:=λe=>(e,v,())) (oE:=(v,())) (λi a=>?_) ?_ ?_)
 ·unfold gq;refine cE a (ao (SJ v b i a) (aw (λh=>aa ?_) λh=>aa ?_));·rw[if_neg (by simpa using h)]
  ·rw[if_pos (by simpa using h),aJ a hl]
 ·unfold gq;exact bO (aa rfl)
 by_cases e:ef (λr=>ww r.2.1) v=0;·rw[if_pos e];refine aa ?_;rw[e]
 ·rw[if_neg e];exact aa rfl
theorem Qp(v:List Vm)(hl:v.length<=9223372036854775807)(b:∀r∈v,True):aI tbl eM [.d tI (v.length:Int),.clo gg [0]] [.box bk [.d (.list yC) v]] cr (ef tD v,v,()):=by
 refine aA rfl (aE vr rfl (λO n=>vG O n (v.length:Int) v) ?_);unfold m9;refine aj (AR (l:=v) (f:=tD) (enc:=λi=>((i:Int),v,())) (oB:=λe=>(e,v,())) (oE:=(v,())) (λi a=>?_) ?_ ?_)
 ·unfold gr;refine cE a (ao (SK v b i a) (aw (λh=>aa ?_) λh=>aa ?_));·rw[if_neg (by simpa using h)]
  ·rw[if_pos (by simpa using h),aJ a hl]
 ·unfold gr;exact bO (aa rfl)
 by_cases e:ef tD v=0;·rw[if_pos e];refine aa ?_;rw[e]
 ·rw[if_neg e];exact aa rfl
theorem C8{α:Type}{nm:α->List UInt8}{sz:α->Nat}{a:α->Int}{l:List α}{i:Nat}(b:i<l.length):MU nm sz a l i=if qR (l.map nm) i≠0 then qR (l.map nm) i else if sz l[i]>64 then 4 else a l[i]:=by unfold MU;rw[a_ b]
theorem VV{s:PS}(h:SmP s){i:Nat}(a:i<s.1.length):s.1[i].2.1.length<=9223372036854775807/\∀r∈s.1[i].2.1,Ae r.2.1.1:=⟨(h.ok.1.2 _ (d_ a)).2.1.1,λr hr=>((h.ok.1.2 _ (d_ a)).2.1.2 r hr).2.1.1⟩
theorem VW{s:PS}(h:SmP s){i:Nat}(a:i<s.2.1.length):s.2.1[i].2.1.length<=9223372036854775807/\∀r∈s.2.1[i].2.1,r.2.1.length<=1048576:=⟨(h.ok.2.1.2 _ (d_ a)).2.1.1,λr hr=>h.pt _ (d_ a) r hr⟩
theorem VX{s:PS}(h:SmP s){i:Nat}(a:i<s.2.2.1.length):s.2.2.1[i].2.1.length<=9223372036854775807/\∀r∈s.2.2.1[i].2.1,True:=⟨(h.ok.2.2.1.2 _ (d_ a)).2.1.1,λ_ _=>trivial⟩
theorem Wz{s:PS}(h:SmP s){i:Nat}(a:i<s.1.length):s.1[i].1.length<=9223372036854775807:=(h.ok.1.2 _ (d_ a)).1
theorem WA{s:PS}(h:SmP s){i:Nat}(a:i<s.2.1.length):s.2.1[i].1.length<=9223372036854775807:=(h.ok.2.1.2 _ (d_ a)).1
theorem WB{s:PS}(h:SmP s){i:Nat}(a:i<s.2.2.1.length):s.2.2.1[i].1.length<=9223372036854775807:=(h.ok.2.2.1.2 _ (d_ a)).1
theorem WC{s:PS}(h:SmP s){i:Nat}(a:i<s.2.2.2.1.length):s.2.2.2.1[i].1.length<=9223372036854775807:=(h.ok.2.2.2.1.2 _ (d_ a)).1
abbrev Qe(s:PS):Ob:=.box ap [.d (.list yL) s.1,.d (.list yG) s.2.1,.d (.list yD) s.2.2.1,.d (.list yO) s.2.2.2.1]
theorem SL(s:PS)(i:Nat)(a:i<s.1.length):aI tbl dz [.d tI (i:Int),.ptr 0 0] [Qe s] dK ((s.1[i].2.1.length:Int),s.1,s.2.1,s.2.2.1,s.2.2.2.1,()):=by refine aA rfl (aE wy rfl (λO n=>wG O n (i:Int) s.1 s.2.1 s.2.2.1 s.2.2.2.1) ?_);unfold nE;exact aW a (aa rfl)
theorem Qr(s:PS)(hs:SmP s)(i:Nat)(a:i<s.1.length):aI tbl dA [.d tI (i:Int),.ptr 0 0] [Qe s] dL (ef rp s.1[i].2.1,s.1,s.2.1,s.2.2.1,s.2.2.2.1,()):=by refine aA rfl (aE wz rfl (λO n=>wH O n (i:Int) s.1 s.2.1 s.2.2.1 s.2.2.2.1) ?_);unfold nF;refine aW a (ao (Qn _ (VV hs a).1 (VV hs a).2) (aa rfl))
theorem SE(s:PS)(hs:SmP s):aI tbl gV [.d (.list tS) (s.1.map (·.1)),.clo iJ [0],.clo iK [0]] [Qe s] cC (iW (·.1) (λl=>l.2.1.length) (λl=>ef rp l.2.1) s.1,s.1,s.2.1,s.2.2.1,s.2.2.2.1,()):=by
 refine aA rfl (aE AL rfl (λO n=>AZ O n (s.1.map (·.1)) s.1 s.2.1 s.2.2.1 s.2.2.2.1) ?_);unfold pO;refine aw (λh=>aa ?_) λh=>?_;·rw[show iW (·.1) (λl=>l.2.1.length) (λl=>ef rp l.2.1) s.1=4 from if_pos (by have:=of_decide_eq_true h;rw[c_]at this;omega)]
 have d:¬s.1.length>64:=by have:=of_decide_eq_false h;rw[c_]at this;omega
 rw[show iW (·.1) (λl=>l.2.1.length) (λl=>ef rp l.2.1) s.1=l8 (MU (·.1) (λl=>l.2.1.length) (λl=>ef rp l.2.1) s.1) (s.1.map (·.1)).length from by unfold iW;rw[if_neg d,c_]];generalize g:MU (·.1) (λl=>l.2.1.length) (λl=>ef rp l.2.1) s.1=E;refine aj (yo (N:=(s.1.map (·.1)).length) (f:=E) (enc:=λi=>((i:Int),s.1,s.2.1,s.2.2.1,s.2.2.2.1,())) (oB:=λe=>(e,s.1,s.2.1,s.2.2.1,s.2.2.2.1,())) (oE:=(s.1,s.2.1,s.2.2.1,s.2.2.2.1,())) (λi c=>?_) ?_ ?_)
 ·unfold jh;have a:i<s.1.length:=by rw[c_]at c;exact c
  have b:E i=if qR (s.1.map (·.1)) i≠0 then qR (s.1.map (·.1)) i else if s.1[i].2.1.length>64 then 4 else ef rp s.1[i].2.1:=by rw[<-g];exact C8 a
  refine cE c (aW c (aL (decide_eq_true (by omega)) (aL (by simp;omega) ?_)));refine ao (kh _ i c (by rw[c_];omega) (by rw[I_];exact Wz hs a)) ?_;refine aw (λh=>aa ?_) λh=>?_
  ·have h:qR (s.1.map (·.1)) i≠0:=by simpa using h
   rw[if_pos h]at b;rw[b,if_neg h]
  rw[if_neg (by simpa using h)]at b;refine ao (SL s i a) (aw (λh=>aa ?_) λh=>?_);·have h:decide ((s.1[i].2.1.length:Int)>64)=true:=h;rw[if_pos (by have:=of_decide_eq_true h;omega)]at b;rw[b,if_neg (by decide)]
  have h:decide ((s.1[i].2.1.length:Int)>64)=false:=h;rw[if_neg (by have:=of_decide_eq_false h;omega)]at b;refine ao (Qr s hs i a) (aw (λh=>aa ?_) λh=>aa ?_);·rw[b,if_neg (by simpa using h)]
  ·rw[b,if_pos (by simpa using h),aJ a (by omega)]
 ·unfold jh;exact bO (aa rfl)
 by_cases e:l8 E (s.1.map (·.1)).length=0;·rw[if_pos e];refine aa ?_;rw[e]
 ·rw[if_neg e];exact aa rfl
theorem SN(s:PS)(i:Nat)(a:i<s.2.1.length):aI tbl dB [.d tI (i:Int),.ptr 0 0] [Qe s] dM ((s.2.1[i].2.1.length:Int),s.1,s.2.1,s.2.2.1,s.2.2.2.1,()):=by refine aA rfl (aE wA rfl (λO n=>wI O n (i:Int) s.1 s.2.1 s.2.2.1 s.2.2.2.1) ?_);unfold nG;exact aW a (aa rfl)
theorem Qs(s:PS)(hs:SmP s)(i:Nat)(a:i<s.2.1.length):aI tbl dC [.d tI (i:Int),.ptr 0 0] [Qe s] dN (ef (λr=>ww r.2.1) s.2.1[i].2.1,s.1,s.2.1,s.2.2.1,s.2.2.2.1,()):=by refine aA rfl (aE wB rfl (λO n=>wJ O n (i:Int) s.1 s.2.1 s.2.2.1 s.2.2.2.1) ?_);unfold nH;refine aW a (ao (Qo _ (VW hs a).1 (VW hs a).2) (aa rfl))
theorem SF(s:PS)(hs:SmP s):aI tbl eI [.d (.list tS) (s.2.1.map (·.1)),.clo iL [0],.clo iM [0]] [Qe s] bV (iW (·.1) (λl=>l.2.1.length) (λl=>ef (λr=>ww r.2.1) l.2.1) s.2.1,s.1,s.2.1,s.2.2.1,s.2.2.2.1,()):=by
 refine aA rfl (aE vn rfl (λO n=>vC O n (s.2.1.map (·.1)) s.1 s.2.1 s.2.2.1 s.2.2.2.1) ?_);unfold m5;refine aw (λh=>aa ?_) λh=>?_;·rw[show iW (·.1) (λl=>l.2.1.length) (λl=>ef (λr=>ww r.2.1) l.2.1) s.2.1=4 from if_pos (by have:=of_decide_eq_true h;rw[c_]at this;omega)]
 have d:¬s.2.1.length>64:=by have:=of_decide_eq_false h;rw[c_]at this;omega
 rw[show iW (·.1) (λl=>l.2.1.length) (λl=>ef (λr=>ww r.2.1) l.2.1) s.2.1=l8 (MU (·.1) (λl=>l.2.1.length) (λl=>ef (λr=>ww r.2.1) l.2.1) s.2.1) (s.2.1.map (·.1)).length from by unfold iW;rw[if_neg d,c_]];generalize g:MU (·.1) (λl=>l.2.1.length) (λl=>ef (λr=>ww r.2.1) l.2.1) s.2.1=E;refine aj (yo (N:=(s.2.1.map (·.1)).length) (f:=E) (enc:=λi=>((i:Int),s.1,s.2.1,s.2.2.1,s.2.2.2.1,())) (oB:=λe=>(e,s.1,s.2.1,s.2.2.1,s.2.2.2.1,())) (oE:=(s.1,s.2.1,s.2.2.1,s.2.2.2.1,())) (λi c=>?_) ?_ ?_)
 ·unfold gm;have a:i<s.2.1.length:=by rw[c_]at c;exact c
  have b:E i=if qR (s.2.1.map (·.1)) i≠0 then qR (s.2.1.map (·.1)) i else if s.2.1[i].2.1.length>64 then 4 else ef (λr=>ww r.2.1) s.2.1[i].2.1:=by rw[<-g];exact C8 a
  refine cE c (aW c (aL (decide_eq_true (by omega)) (aL (by simp;omega) ?_)));refine ao (kh _ i c (by rw[c_];omega) (by rw[I_];exact WA hs a)) ?_;refine aw (λh=>aa ?_) λh=>?_
  ·have h:qR (s.2.1.map (·.1)) i≠0:=by simpa using h
   rw[if_pos h]at b;rw[b,if_neg h]
  rw[if_neg (by simpa using h)]at b;refine ao (SN s i a) (aw (λh=>aa ?_) λh=>?_);·have h:decide ((s.2.1[i].2.1.length:Int)>64)=true:=h;rw[if_pos (by have:=of_decide_eq_true h;omega)]at b;rw[b,if_neg (by decide)]
  have h:decide ((s.2.1[i].2.1.length:Int)>64)=false:=h;rw[if_neg (by have:=of_decide_eq_false h;omega)]at b;refine ao (Qs s hs i a) (aw (λh=>aa ?_) λh=>aa ?_);·rw[b,if_neg (by simpa using h)]
  ·rw[b,if_pos (by simpa using h),aJ a (by omega)]
 ·unfold gm;exact bO (aa rfl)
 by_cases e:l8 E (s.2.1.map (·.1)).length=0;·rw[if_pos e];refine aa ?_;rw[e]
 ·rw[if_neg e];exact aa rfl
theorem SO(s:PS)(i:Nat)(a:i<s.2.2.1.length):aI tbl dD [.d tI (i:Int),.ptr 0 0] [Qe s] dO ((s.2.2.1[i].2.1.length:Int),s.1,s.2.1,s.2.2.1,s.2.2.2.1,()):=by refine aA rfl (aE wC rfl (λO n=>wK O n (i:Int) s.1 s.2.1 s.2.2.1 s.2.2.2.1) ?_);unfold nI;exact aW a (aa rfl)
theorem Qt(s:PS)(hs:SmP s)(i:Nat)(a:i<s.2.2.1.length):aI tbl dE [.d tI (i:Int),.ptr 0 0] [Qe s] dP (ef tD s.2.2.1[i].2.1,s.1,s.2.1,s.2.2.1,s.2.2.2.1,()):=by refine aA rfl (aE wD rfl (λO n=>wL O n (i:Int) s.1 s.2.1 s.2.2.1 s.2.2.2.1) ?_);unfold nJ;refine aW a (ao (Qp _ (VX hs a).1 (VX hs a).2) (aa rfl))
theorem SG(s:PS)(hs:SmP s):aI tbl eJ [.d (.list tS) (s.2.2.1.map (·.1)),.clo iN [0],.clo iO [0]] [Qe s] bW (iW (·.1) (λl=>l.2.1.length) (λl=>ef tD l.2.1) s.2.2.1,s.1,s.2.1,s.2.2.1,s.2.2.2.1,()):=by
 refine aA rfl (aE vo rfl (λO n=>vD O n (s.2.2.1.map (·.1)) s.1 s.2.1 s.2.2.1 s.2.2.2.1) ?_);unfold m6;refine aw (λh=>aa ?_) λh=>?_;·rw[show iW (·.1) (λl=>l.2.1.length) (λl=>ef tD l.2.1) s.2.2.1=4 from if_pos (by have:=of_decide_eq_true h;rw[c_]at this;omega)]
 have d:¬s.2.2.1.length>64:=by have:=of_decide_eq_false h;rw[c_]at this;omega
 rw[show iW (·.1) (λl=>l.2.1.length) (λl=>ef tD l.2.1) s.2.2.1=l8 (MU (·.1) (λl=>l.2.1.length) (λl=>ef tD l.2.1) s.2.2.1) (s.2.2.1.map (·.1)).length from by unfold iW;rw[if_neg d,c_]];generalize g:MU (·.1) (λl=>l.2.1.length) (λl=>ef tD l.2.1) s.2.2.1=E;refine aj (yo (N:=(s.2.2.1.map (·.1)).length) (f:=E) (enc:=λi=>((i:Int),s.1,s.2.1,s.2.2.1,s.2.2.2.1,())) (oB:=λe=>(e,s.1,s.2.1,s.2.2.1,s.2.2.2.1,())) (oE:=(s.1,s.2.1,s.2.2.1,s.2.2.2.1,())) (λi c=>?_) ?_ ?_)
 ·unfold gn;have a:i<s.2.2.1.length:=by rw[c_]at c;exact c
  have b:E i=if qR (s.2.2.1.map (·.1)) i≠0 then qR (s.2.2.1.map (·.1)) i else if s.2.2.1[i].2.1.length>64 then 4 else ef tD s.2.2.1[i].2.1:=by rw[<-g];exact C8 a
  refine cE c (aW c (aL (decide_eq_true (by omega)) (aL (by simp;omega) ?_)));refine ao (kh _ i c (by rw[c_];omega) (by rw[I_];exact WB hs a)) ?_;refine aw (λh=>aa ?_) λh=>?_
  ·have h:qR (s.2.2.1.map (·.1)) i≠0:=by simpa using h
   rw[if_pos h]at b;rw[b,if_neg h]
  rw[if_neg (by simpa using h)]at b;refine ao (SO s i a) (aw (λh=>aa ?_) λh=>?_);·have h:decide ((s.2.2.1[i].2.1.length:Int)>64)=true:=h;rw[if_pos (by have:=of_decide_eq_true h;omega)]at b;rw[b,if_neg (by decide)]
  have h:decide ((s.2.2.1[i].2.1.length:Int)>64)=false:=h;rw[if_neg (by have:=of_decide_eq_false h;omega)]at b;refine ao (Qt s hs i a) (aw (λh=>aa ?_) λh=>aa ?_);·rw[b,if_neg (by simpa using h)]
  ·rw[b,if_pos (by simpa using h),aJ a (by omega)]
 ·unfold gn;exact bO (aa rfl)
 by_cases e:l8 E (s.2.2.1.map (·.1)).length=0;·rw[if_pos e];refine aa ?_;rw[e]
 ·rw[if_neg e];exact aa rfl
abbrev WJ(s:PS):Ob:=.box dv [.d (.list tS) (bN s).1,.d (.list tS) (bN s).2.1,.d (.list tS) (bN s).2.2.1,.d (.list tS) (bN s).2.2.2.1]
theorem WW(x:HL q_policy_Check_8_drr.sl):Cl q_policy_Check_8_drr (gP q_policy_Check_8_drr x)=some x:=by kernel_rfl
theorem Wt(x:HL q_policy_each_dcc_v3.sl):Cl q_policy_each_dcc_v3 (gP q_policy_each_dcc_v3 x)=some x:=by kernel_rfl
theorem SP(s:PS)(i:Nat)(a:i<s.2.2.2.1.length):aI tbl dF [.d tI (i:Int),.ptr 0 0] [Qe s] dQ ((s.2.2.2.1[i].2.1.length:Int),s.1,s.2.1,s.2.2.1,s.2.2.2.1,()):=by refine aA rfl (aE wE rfl (λO n=>wM O n (i:Int) s.1 s.2.1 s.2.2.1 s.2.2.2.1) ?_);unfold nK;exact aW a (aa rfl)
theorem Qu(s:PS)(hs:SmP s)(i:Nat)(a:i<s.2.2.2.1.length):aI tbl da [.d tI (i:Int),.ptr 0 0,.ptr 1 0] [WJ s,Qe s] q_policy_Check_8_drr (sD s s.2.2.2.1[i],(bN s).1,(bN s).2.1,(bN s).2.2.1,(bN s).2.2.2.1,s.1,s.2.1,s.2.2.1,s.2.2.2.1,()):=by refine aA (WW _) (aE vk rfl (λO n=>vz O n (i:Int) (bN s).1 (bN s).2.1 (bN s).2.2.1 (bN s).2.2.2.1 s.1 s.2.1 s.2.2.1 s.2.2.2.1) ?_);unfold mY;exact aW a (ao (ub s hs.ok _ (hs.ok.2.2.2.1.2 _ (d_ a))) (aa rfl))
theorem SH(s:PS)(hs:SmP s):aI tbl eK [.d (.list tS) (s.2.2.2.1.map (·.1)),.clo iP [0],.clo iQ [1,0]] [Qe s,WJ s] q_policy_each_dcc_v3 (iW (·.1) (λp=>p.2.1.length) (sD s) s.2.2.2.1,s.1,s.2.1,s.2.2.1,s.2.2.2.1,(bN s).1,(bN s).2.1,(bN s).2.2.1,(bN s).2.2.2.1,()):=by
 refine aA (Wt _) (aE vp rfl (λO n=>vE O n (s.2.2.2.1.map (·.1)) s.1 s.2.1 s.2.2.1 s.2.2.2.1 (bN s).1 (bN s).2.1 (bN s).2.2.1 (bN s).2.2.2.1) ?_);unfold m7;refine aw (λh=>aa ?_) λh=>?_;·rw[show iW (·.1) (λp=>p.2.1.length) (sD s) s.2.2.2.1=4 from if_pos (by have:=of_decide_eq_true h;rw[c_]at this;omega)]
 have d:¬s.2.2.2.1.length>64:=by have:=of_decide_eq_false h;rw[c_]at this;omega
 rw[show iW (·.1) (λp=>p.2.1.length) (sD s) s.2.2.2.1=l8 (MU (·.1) (λp=>p.2.1.length) (sD s) s.2.2.2.1) (s.2.2.2.1.map (·.1)).length from by unfold iW;rw[if_neg d,c_]];generalize g:MU (·.1) (λp=>p.2.1.length) (sD s) s.2.2.2.1=E;refine aj (yo (N:=(s.2.2.2.1.map (·.1)).length) (f:=E) (enc:=λi=>((i:Int),s.1,s.2.1,s.2.2.1,s.2.2.2.1,(bN s).1,(bN s).2.1,(bN s).2.2.1,(bN s).2.2.2.1,())) (oB:=λe=>(e,s.1,s.2.1,s.2.2.1,s.2.2.2.1,(bN s).1,(bN s).2.1,(bN s).2.2.1,(bN s).2.2.2.1,())) (oE:=(s.1,s.2.1,s.2.2.1,s.2.2.2.1,(bN s).1,(bN s).2.1,(bN s).2.2.1,(bN s).2.2.2.1,())) (λi c=>?_) ?_ ?_)
 ·unfold gp;have a:i<s.2.2.2.1.length:=by rw[c_]at c;exact c
  have b:E i=if qR (s.2.2.2.1.map (·.1)) i≠0 then qR (s.2.2.2.1.map (·.1)) i else if s.2.2.2.1[i].2.1.length>64 then 4 else sD s s.2.2.2.1[i]:=by rw[<-g];exact C8 a
  refine cE c (aW c (aL (decide_eq_true (by omega)) (aL (by simp;omega) ?_)));refine ao (kh _ i c (by rw[c_];omega) (by rw[I_];exact WC hs a)) ?_;refine aw (λh=>aa ?_) λh=>?_
  ·have h:qR (s.2.2.2.1.map (·.1)) i≠0:=by simpa using h
   rw[if_pos h]at b;rw[b,if_neg h]
  rw[if_neg (by simpa using h)]at b;refine ao (SP s i a) (aw (λh=>aa ?_) λh=>?_);·have h:decide ((s.2.2.2.1[i].2.1.length:Int)>64)=true:=h;rw[if_pos (by have:=of_decide_eq_true h;omega)]at b;rw[b,if_neg (by decide)]
  have h:decide ((s.2.2.2.1[i].2.1.length:Int)>64)=false:=h;rw[if_neg (by have:=of_decide_eq_false h;omega)]at b;refine ao (Qu s hs i a) (aw (λh=>aa ?_) λh=>aa ?_);·rw[b,if_neg (by simpa using h)]
  ·rw[b,if_pos (by simpa using h),aJ a (by omega)]
 ·unfold gp;exact bO (aa rfl)
 by_cases e:l8 E (s.2.2.2.1.map (·.1)).length=0;·rw[if_pos e];refine aa ?_;rw[e]
 ·rw[if_neg e];exact aa rfl
theorem Dn(s:PS)(hs:SmP s):aI tbl kA [.d yS s] [] di (RN ww s,()):=by
 refine aA rfl (aE E7 rfl (λO n=>Fq O n s) ?_);unfold ue;refine ao (Do s hs.l1 hs.l2 hs.l3 hs.l4) (aL rfl (ao (SE s hs) ?_));generalize k:iW (·.1) (λl=>l.2.1.length) (λl=>ef rp l.2.1) s.1=b;generalize g:iW (·.1) (λl=>l.2.1.length) (λl=>ef (λr=>ww r.2.1) l.2.1) s.2.1=c;generalize j:iW (·.1) (λl=>l.2.1.length) (λl=>ef tD l.2.1) s.2.2.1=d;have hp:RN ww s=if b≠0 then b else if c≠0 then c else if d≠0 then d else iW (·.1) (λp=>p.2.1.length) (sD s) s.2.2.2.1:=by unfold RN;rw[k,g,j]
 have e:=SF s hs;have f:=SG s hs;rw[g]at e;rw[j]at f;rw[hp];refine aw (λh=>aa ?_) λh=>aL rfl (ao e (aw (λh'=>aa ?_) λh'=>aL rfl (ao f (aw (λa=>aa ?_) λa=>aL rfl (ao (SH s hs) (aa ?_))))));·rw[if_pos (by simpa using h)]
 ·rw[if_neg (by simpa using h),if_pos (by simpa using h')]
 ·rw[if_neg (by simpa using h),if_neg (by simpa using h'),if_pos (by simpa using a)]
 ·rw[if_neg (by simpa using h),if_neg (by simpa using h'),if_neg (by simpa using a)]
def Lb(s:PS)(n:List UInt8):Option V8:=s.1.find? (·.1==n)
def Q2(s:PS)(n:List UInt8):Option V6:=s.2.1.find? (·.1==n)
def W0(s:PS)(n:List UInt8):Option V5:=s.2.2.1.find? (·.1==n)
theorem Dp(a:yr):aI tbl kC [.d yA a] [] bB (eP a,()):=by
 refine aA rfl (aE Fb rfl (λO n=>Fv O n a) ?_);unfold ui;refine aj (aj ?_);by_cases C:a.1<1\/8<a.1;·have l:∀k:Int,1<=k->k<=8->(a.1==k)=false:=λk r j=>beq_eq_false_iff_ne.2 (by omega);refine an (l 1 (by decide) (by decide)) (an (l 2 (by decide) (by decide)) (aa (an (l 4 (by decide) (by decide)) (an (l 3 (by decide) (by decide)) (an (l 5 (by decide) (by decide)) ?_)))));refine aj (an (l 6 (by decide) (by decide)) (aa (an (l 7 (by decide) (by decide)) (an (l 8 (by decide) (by decide)) (aa (aa ?_))))));rw[show eP a=15 from if_pos C]
 have f:∀(only:yr) (c:Int),lg a=only->(a=only->((a.2.1<0\/c<a.2.1\/(a.1=5/\a.2.2.2.2.1=0)\/(a.1=8/\(a.2.1<1\/a.2.2.1<1\/a.2.2.1>4294967295)))↔jc a=false))->Wp (λ_=>bif (true ^^ oR yA a only)then aH bB ((1:Int),())else e_ (bif decide (a.2.1<(0:Int))then some (true)else some (decide (a.2.1>c))) λJ=>bif J then aH bB ((5:Int),())else e_ (bif (a.1==(5:Int))then some ((a.2.2.2.2.1==(0:Int)))else some (false)) λL=>e_ (bif L then some (true)else e_ (bif (a.1==(8:Int))then e_ (bif decide (a.2.1<(1:Int))then some (true)else some (decide (a.2.2.1<(1:Int)))) λM=>e_ (bif M then some (true)else some (decide (a.2.2.1>(4294967295:Int)))) λN=>some (N)else some (false)) λP=>some (P)) λv=>bif v then aH bB ((5:Int),())else aH bB ((0:Int),())) (λx=>x=some (gP bB (eP a,()))):=λonly c r j=>by
  have e:eP a=if ¬a=only then 1 else if jc a=false then 5 else 0:=by unfold eP;rw[if_neg C,r]
  rw[e]
  refine aw (λh=>aa ?_) λh=>?_
  ·rw[if_pos (ne_eqD.1 h)]
  have p:a=only:=f_ λx=>by rw[ne_eqD.2 x]at h;cases h
  have j:=j p
  rw[if_neg (not_not_intro p)]
  refine aj (cI (b:=decide (a.2.1>c)) (λ_=>aa rfl) (aw (λh=>aa ?_) λh=>?_))
  ·rw[if_pos (j.1 (by simp at h;omega))]
  refine aj (co (b:=(a.2.2.2.2.1==0)) (λ_=>aa rfl) ?_)
  refine aj (cI (b:=(a.1==8)&&((decide (a.2.1<1)||decide (a.2.2.1<1))||decide (a.2.2.1>4294967295))) (λ_=>aj (co (b:=(decide (a.2.1<1)||decide (a.2.2.1<1))||decide (a.2.2.1>4294967295)) (λ_=>aj (cI (b:=decide (a.2.2.1<1)) (λ_=>aa rfl) (aj (cI (b:=decide (a.2.2.1>4294967295)) (λ_=>aa rfl) (aa rfl))))) (aa rfl))) ?_)
  refine aw (λh'=>aa ?_) λh'=>aa ?_
  ·rw[if_pos (j.1 (by simp at h';omega))]
  ·rw[if_neg];intro E;have:=j.2 E;simp at h h';omega
 have g:∀{k:Int},a.1≠k->(a.1==k)=false:=λh=>beq_eq_false_iff_ne.2 h;have d:∀{k:Int},a.1=k->(a.1==k)=true:=λh=>beq_iff_eq.2 h;have s:∀(c:Int),(a.1=1\/a.1=2\/a.1=4)->c=4294967295->((a.2.1<0\/c<a.2.1\/(a.1=5/\a.2.2.2.2.1=0)\/(a.1=8/\(a.2.1<1\/a.2.2.1<1\/a.2.2.1>4294967295)))↔jc a=false):=λc H F=>by unfold jc;rw[if_neg (by omega),if_pos (by omega)];simp only[x_,decide_eq_false_iff_not];omega
 by_cases r:a.1=1;·refine aP (d r) (aa (aP (d r) (aa (f _ _ ?_ λ_=>s _ (by omega) rfl))));unfold lg;rw[if_pos (by omega)]
 refine an (g r) ?_;by_cases j:a.1=2;·refine aP (d j) (aa (aP (d j) (aa (f _ _ ?_ λ_=>s _ (by omega) rfl))));unfold lg;rw[if_pos (by omega)]
 refine an (g j) (aa ?_);by_cases z:a.1=4;·refine aP (d z) (aa (f _ _ ?_ λ_=>s _ (by omega) rfl));unfold lg;rw[if_pos (by omega)]
 refine an (g z) ?_;by_cases y:a.1=3
 ·refine aP (d y) (aa (f _ _ ?_ λ_=>?_));·unfold lg;rw[if_pos (by omega)]
  ·unfold jc;rw[if_pos (by omega)];simp only[x_,decide_eq_false_iff_not];omega
 refine an (g y) ?_;by_cases A:a.1=5
 ·refine aP (d A) (aa (f _ _ ?_ λp=>?_));·unfold lg;rw[if_neg (by omega),if_pos (by omega)]
  ·have D:a.2.1=0:=by rw[p]
   unfold jc;rw[if_neg (by omega),if_neg (by omega),if_pos (by omega)];simp only[bne_eq_false_iff_eq];omega
 refine an (g A) (aj ?_);have w:∀(only:yr) (c:Int),only.2.1=0->(a.1=6\/a.1=7)->c=4294967295->(a=only->((a.2.1<0\/c<a.2.1\/(a.1=5/\a.2.2.2.2.1=0)\/(a.1=8/\(a.2.1<1\/a.2.2.1<1\/a.2.2.1>4294967295)))↔jc a=false)):=λonly c I H F p=>by
  have D:a.2.1=0:=by rw[p];exact I
  unfold jc;rw[if_neg (by omega),if_neg (by omega),if_neg (by omega),if_pos (by omega)];simp only[Bool.true_eq_false,iff_false];omega
 by_cases u:a.1=6;·refine aP (d u) (aa (aP (d u) (aa (f _ _ ?_ (w _ _ rfl (by omega) rfl)))));unfold lg;rw[if_neg (by omega),if_neg (by omega),if_pos (by omega)]
 refine an (g u) (aa ?_);by_cases B:a.1=7;·refine aP (d B) (aa (f _ _ ?_ (w _ _ rfl (by omega) rfl)));unfold lg;rw[if_neg (by omega),if_neg (by omega),if_pos (by omega)]
 refine an (g B) (aP (d (by omega)) (aa (f _ _ ?_ λp=>?_)));·unfold lg;rw[if_neg (by omega),if_neg (by omega),if_neg (by omega)]
 ·unfold jc;rw[if_neg (by omega),if_neg (by omega),if_neg (by omega),if_neg (by omega)];simp only[x_,decide_eq_false_iff_not];omega
open Go Go.Av Go.Ev
abbrev Uv:Type:=Bool×(Int×(Int×Unit))
def fits(r:Uv)(c:Int):Bool:=
 ((r.2.1==(-1:Int))||(r.2.1==b_ .i64 (Int.fdiv c (2^(min (t_ (16:Int)) (N_ .u32))))))&&
 ((r.2.2.1==(-1:Int))||(r.2.2.1==b_ .i64 (oN .u32 .and c (65535:Int))))
def UM(r:Uv)(l:List Int):Bool:=(l.find? (fits r)).isSome
def RJ(a:List Uv)(l:List Int):Bool:=match a.find? (λr=>UM r l)with
 |some r=>r.1
 |none=>false
theorem fa{l:List Int}{k:Nat}(h:k<l.length):l.getD k 0=l[k]:=by simp[H_,a_ h]
theorem yz(l:List Int):aI tbl gS [.d (.list tW) l] [] cB (Cm.check l,()):=by
 refine aA rfl (aE AH rfl (λO n=>AU O n l) ?_);unfold pK;refine aw (λh=>aa ?_) λh=>?_;·rw[Cm.check_long (by have:=of_decide_eq_true h;omega)]
 have hl:¬255<l.length:=by have:=of_decide_eq_false h;omega
 refine aj (B1 (N:=l.length) (good:=λi=>i=0\/l.getD (i - 1) 0<l.getD i 0) (e:=((16:Int),())) (g:=()) (λi a=>?_) ?_ (λh=>?_) λh=>?_)
 ·unfold je;refine cE a (aj (co (b:=decide (l.getD i 0<=l.getD (i - 1) 0)) (λc=>?_) (mV ?_ (by rw[aJ a (by omega)]))))
  ·have c:=of_decide_eq_true c;have e:b_ .i64 ((i:Int) - 1)=((i - 1:Nat):Int):=by rw[wrap_i64 (by omega) (by omega)];omega
   rw[e];refine aW a (aW (by omega) (aa ?_));rw[fa a,fa (by omega)]
  ·simp only[m_,decide_eq_true_eq];omega
 ·unfold je;exact bO (aa rfl)
 ·refine aa ?_;have d:∀k,k<=l.length->Cm.Up (l.take k):=by intro k;induction k with|zero=>intro _;simp|succ k f=>intro j;exact Cm.up_take (f (by omega)) (by omega) (h k (by omega))
  have:=d l.length (z_ _);rw[s_]at this;rw[Cm.check_up hl this]
 ·refine aa ?_;obtain⟨i,a,hg⟩:=h;rw[Cm.check_not hl (Cm.not_up a (by omega) (by omega))]
theorem FC(l:List Int):aI tbl my [.d (.list tW) l] [] fo (Cm.check l,()):=by
 refine aA rfl (aE GR rfl (λO n=>G9 O n l) ?_);unfold wT;refine aw (λh=>aa ?_) λh=>?_;·rw[Cm.check_long (by have:=of_decide_eq_true h;omega)]
 have hl:¬255<l.length:=by have:=of_decide_eq_false h;omega
 refine aj (Wp.imp (Q:=λr=>(r= .inr ()/\Cm.Up l)\/(r= .inl ((16:Int),())/\¬Cm.Up l)) (Go.Ev.wp_loop (fun(s:Int×Unit)=>∃k:Nat,s=((k:Int),())/\1<=k/\(l.length<=1\/k<=l.length)/\Cm.Up (l.take k)) (fun(s:Int×Unit)=>l.length - s.1.toNat) ⟨1,rfl,by omega,by omega,?_⟩ λs hs=>?_) λr hr=>?_);·cases l with|nil=>simp|cons x l=>simp
 ·obtain⟨k,rfl,b,c,a⟩:=hs;unfold s5;refine aw (λh=>?_) λh=>aa (.inl ⟨rfl,?_⟩)
  ·have h:k<l.length:=by have:=of_decide_eq_true h;omega
   have e:b_ .i64 ((k:Int) - 1)=((k - 1:Nat):Int):=by rw[wrap_i64 (by omega) (by omega)];omega
   simp only;rw[e];refine aW h (aW (by omega) (aw (λh'=>aa (.inr ⟨rfl,?_⟩)) λh'=>aa ⟨⟨k+1,?_,by omega,by omega,?_⟩,?_⟩));·have h':=of_decide_eq_true h';exact Cm.not_up h (by omega) (by rw[fa h,fa (by omega)];exact h')
   ·rw[aJ h (by omega)]
   ·have h':=of_decide_eq_false h';refine Cm.up_take a h (.inr ?_);rw[fa h,fa (by omega)];omega
   ·show l.length - (b_ .i64 ((k:Int)+1)).toNat<l.length - ((k:Int)).toNat;rw[aJ h (by omega)];omega
  ·have h:¬k<l.length:=by have:=of_decide_eq_false h;omega
   rw[n_ (by omega)]at a;exact a
 ·rcases hr with⟨rfl,a⟩|⟨rfl,a⟩;·refine aa ?_;rw[Cm.check_up hl a]
  ·refine aa ?_;rw[Cm.check_not hl a]
theorem Ka(l:List Int)(x:Int)(hl:l.length<=2000000):aI tbl b7 [.d (.list tW) l,.d tW x] [] bK (Cm.ins x l,()):=by
 refine aA rfl (aE pC rfl (λO n=>pF O n l x) ?_);unfold i8;have E:b_ .i64 ((l.length:Int)+1)=((l.length+1:Nat):Int):=by rw[wrap_i64 (by omega) (by omega)];rfl
 refine aL (by rw[E];simp;omega) ?_;refine aj (b9 (N:=l.length) (I:=λi s=>s.2.1=(i:Int)/\s.2.2.1++Cm.insGo x (l.drop i) s.1=Cm.ins x l/\s.2.2.1.length<=i+(if s.1 then 1 else 0)) ⟨rfl,by simp,by simp⟩ (λi s u hs=>?_) λs hs=>?_)
 ·obtain⟨d,j,a,⟨⟩⟩:=s;obtain⟨p,c,k⟩:=hs;simp only at p c k;subst p;unfold dR;rw[Cm.insGo_step x l i d u,fa u]at c;have C:b_ .i64 ((i:Int)+1)=((i+1:Nat):Int):=aJ u (by omega);refine cE u (aj (aW u (aj ?_)));generalize l[i]=y at c;have e:∀(f:Bool) (o:List Int),o++((if y != x then [y]else [])++Cm.insGo x (l.drop (i+1)) f)=Cm.ins x l->o.length<=i+(if f then 1 else 0)->Wp (λ_=>bif (y != x)then aK (decide ((o.length+([y]:List Int).length)*4<=140737488355328)) (some ((f,o++([y]:List Int),())))else some ((f,o,())))
   (λD:Bool×List Int×Unit=>Wp (λ_=>some (Sum.inl (D.1,b_ .i64 ((i:Int)+(1:Int)),D.2.1,()))) fun(r:(Bool×Int×List Int×Unit)⊕(Bool×List Int×Unit))=>match r with
    | .inl s'=>s'.2.1=((i+1:Nat):Int)/\s'.2.2.1++Cm.insGo x (l.drop (i+1)) s'.1=Cm.ins x l/\s'.2.2.1.length<=i+1+(if s'.1 then 1 else 0)
    | .inr _=>False):=λf o z A=>by
   have B:o.length<=i+1:=by split at A<;>omega
   refine aw (λh=>aL (decide_eq_true (by show(o.length+1)*4<=_;omega)) (aa (aa ⟨C,?_,?_⟩))) λh=>aa (aa ⟨C,?_,?_⟩)
   ·show(o++[y])++Cm.insGo x (l.drop (i+1)) f=_;rw[if_pos h]at z;rw[<-z];simp
   ·show(o++[y]).length<=i+1+(if f=true then 1 else 0);rw[i_,l_];omega
   ·show o++Cm.insGo x (l.drop (i+1)) f=_;rw[if_neg (by rw[h];decide)]at z;rw[<-z];simp
   ·show o.length<=i+1+(if f=true then 1 else 0);omega
  refine aj (co (b:=decide (x<=y)) (λ_=>aa rfl) ?_);cases d with
  |true=>refine an rfl (aa (Wp.imp (e true a (by simpa using c) (by simpa using k)) λv w=>Wp.imp w λr hr=>?_));cases r with|inl s'=>exact hr|inr t=>exact hr.elim
  |false=>
   by_cases g:x<=y;·refine aP (by simp[g]) (aL (decide_eq_true (by show(a.length+1)*4<=_;simp at k;omega)) (aa (Wp.imp (e true (a++[x]) (by rw[<-c];simp[g]) (by simp at k⊢;omega)) λv w=>Wp.imp w λr hr=>?_)));cases r with|inl s'=>exact hr|inr t=>exact hr.elim
   ·refine an (by simp[g]) (aa (Wp.imp (e false a (by rw[<-c];simp[g]) (by simpa using k)) λv w=>Wp.imp w λr hr=>?_));cases r with|inl s'=>exact hr|inr t=>exact hr.elim
 ·obtain⟨d,j,a,⟨⟩⟩:=s;obtain⟨p,c,k⟩:=hs;simp only at p c k;subst p;unfold dR;refine bO (aa ?_);rw[List.drop_length]at c;cases d with|true=>refine aj (an rfl (aa (aa ?_)));rw[<-c];simp[Cm.insGo]|false=>refine aj (aP rfl (aL (decide_eq_true (by show(a.length+1)*4<=_;simp at k;omega)) (aa (aa ?_))));rw[<-c];simp[Cm.insGo]
theorem Kg(l:List Int)(hl:l.length<=2000000):aI tbl b8 [.d (.list tW) l] [] bL (Cm.asc l,()):=by
 refine aA rfl (aE pE rfl (λO n=>pG O n l) ?_);unfold ja;refine aj (b9 (N:=l.length) (I:=λi s=>s=((l.take i).foldl (λo x=>Cm.ins x o) [],(i:Int),())) rfl (λi s a hs=>?_) λs hs=>?_)
 ·subst hs;unfold dS;have b:((l.take i).foldl (λo x=>Cm.ins x o) []).length<=i:=by have:=(Cm.fold_ins (l.take i) [] List.Pairwise.nil).2.2;rw[o_]at this;simp at this;omega
  refine cE a (aW a (ao (Ka ((l.take i).foldl (λo x=>Cm.ins x o) []) l[i] (by omega)) (aa ?_)));show(Cm.ins l[i] ((l.take i).foldl (λo x=>Cm.ins x o) []),b_ .i64 ((i:Int)+1),())=_;rw[aJ a (by omega),p_ a,Q_];rfl
 ·subst hs;unfold dS;refine bO (aa (aa ?_));rw[s_];rfl
theorem rI(l:List Int)(x:Int)(hl:l.length<=9223372036854775807):aI tbl dU [.d (.list tW) l,.d tW x] [] bZ (decide (x∈l),()):=by
 refine aA rfl (aE sJ rfl (λO n=>sO O n l x) ?_);unfold ki;refine aj (AQ (xs:=l) (P:=λy=>y≠x) (e:=(true,())) (g:=()) (λi a=>?_) ?_ (λh=>aa ?_) λh=>aa ?_);·unfold fh;refine cE a (aW a (mV ?_ (by rw[aJ a hl])));simp
 ·unfold fh;exact bO (aa rfl)
 ·rw[decide_eq_false λb=>h x b rfl]
 ·rw[decide_eq_true (f_ λb=>h λy c e=>b (e▸c))]
theorem Kd(l:List Int)(x:Int)(hl:l.length<=9223372036854775807):aI tbl pW [.d (.list tW) l,.d tW x] [] kd (decide (x∈l),()):=by
 refine aA rfl (aE Mb rfl (λO n=>Mn O n l x) ?_);unfold B8;refine aj (AQ (xs:=l) (P:=λy=>y≠x) (e:=(true,())) (g:=()) (λi a=>?_) ?_ (λh=>aa ?_) λh=>aa ?_);·unfold qD;refine cE a (aW a (mV ?_ (by rw[aJ a hl])));simp
 ·unfold qD;exact bO (aa rfl)
 ·rw[decide_eq_false λb=>h x b rfl]
 ·rw[decide_eq_true (f_ λb=>h λy c e=>b (e▸c))]
theorem Cr(l:List Int)(c:Int)(hl:l.length<=1000000):aI tbl jI [.d (.list tW) l,.d tW c] [] eD (Cm.add l c,()):=by
 refine aA rfl (aE CV rfl (λO n=>C1 O n l c) ?_);unfold sW;have d:=Cm.len_asc l;refine ao (Kg l (by omega)) (aj (co (b:= !decide (c∈Cm.asc l)) (λ_=>ao (rI (Cm.asc l) c (by omega)) (aa rfl)) (aw (λh=>aa ?_) λh=>ao (Ka (Cm.asc l) c (by omega)) (aa ?_))));·rw[show Cm.add l c=Cm.asc l from if_pos (by simp at h;exact⟨by omega,h.2⟩)]
 ·rw[show Cm.add l c=Cm.ins c (Cm.asc l)from if_neg (fun⟨a,e⟩=>by
   have a:((Cm.asc l).length:Int)>=255:=by omega
   rw[decide_eq_true a,decide_eq_false e]at h;cases h)]
theorem DV(c:Int)(v:List Int×Unit)(d:v.1.length<=1000000):Wp (λn=>a8 n (gj (qW tbl n) n c v) ((0:Int),([]:List Int),())) λr=>r=(v.1.filter (λx=>x != c),()):=by
 refine b9 (N:=v.1.length) (I:=λi s=>s=((i:Int),(v.1.take i).filter (λx=>x != c),())) rfl (λi s a hs=>?_) λs hs=>?_
 ·subst hs;unfold gj;have b:((v.1.take i).filter (λx=>x != c)).length<=i:=F_ (U_ _ _) (by rw[o_];omega);have e:(v.1.take (i+1)).filter (λx=>x != c)=(v.1.take i).filter (λx=>x != c)++(if v.1[i] != c then [v.1[i]]else []):=by rw[p_ a,aa_];congr 1;cases h:(v.1[i] != c)<;>simp[al_,h]
  refine cE a (aj (aW a (aw (λh=>aL (decide_eq_true (by show(((v.1.take i).filter (λx=>x != c)).length+1)*4<=_;omega)) (aa (aa ?_))) λh=>aa (aa ?_))));·show(b_ .i64 ((i:Int)+1),(v.1.take i).filter (λx=>x != c)++[v.1[i]],())=_;rw[e,if_pos h,aJ a (by omega)]
  ·show(b_ .i64 ((i:Int)+1),(v.1.take i).filter (λx=>x != c),())=_;rw[e,if_neg (by rw[h];decide),J_,aJ a (by omega)]
 ·subst hs;unfold gj;refine bO (aa ?_);rw[s_]
theorem MR(c:Int)(v:List Int×Unit)(d:v.1.length<=1000000):Wp (λn=>a8 n (ku (qW tbl n) n c v) ((0:Int),([]:List Int),())) λr=>r=(v.1.filter (λx=>x != c),()):=by
 refine b9 (N:=v.1.length) (I:=λi s=>s=((i:Int),(v.1.take i).filter (λx=>x != c),())) rfl (λi s a hs=>?_) λs hs=>?_
 ·subst hs;unfold ku;have b:((v.1.take i).filter (λx=>x != c)).length<=i:=F_ (U_ _ _) (by rw[o_];omega);have e:(v.1.take (i+1)).filter (λx=>x != c)=(v.1.take i).filter (λx=>x != c)++(if v.1[i] != c then [v.1[i]]else []):=by rw[p_ a,aa_];congr 1;cases h:(v.1[i] != c)<;>simp[al_,h]
  refine cE a (aj (aW a (aw (λh=>aL (decide_eq_true (by show(((v.1.take i).filter (λx=>x != c)).length+1)*4<=_;omega)) (aa (aa ?_))) λh=>aa (aa ?_))));·show(b_ .i64 ((i:Int)+1),(v.1.take i).filter (λx=>x != c)++[v.1[i]],())=_;rw[e,if_pos h,aJ a (by omega)]
  ·show(b_ .i64 ((i:Int)+1),(v.1.take i).filter (λx=>x != c),())=_;rw[e,if_neg (by rw[h];decide),J_,aJ a (by omega)]
 ·subst hs;unfold ku;refine bO (aa ?_);rw[s_]
theorem Bg(l:List Int)(c:Int)(hl:l.length<=1000000):aI tbl iR [.d (.list tW) l,.d tW c] [] fQ (Cm.drop l c,()):=by refine aA rfl (aE BU rfl (λO n=>B2 O n l c) ?_);unfold qX;refine ao (Kg l (by omega)) (aj (Wp.imp (DV c (Cm.asc l,()) (F_ (Cm.len_asc l) hl)) λr hr=>?_));subst hr;exact aa rfl
theorem oV(l a:List Int)(hl:l.length<=1000000)(A:Cm.Out l a):Wp (λn=>a8 n (cY (qW tbl n) n l) (false,(0:Int),(0:Int),a,())) λr=>r.2.2.1=a/\Cm.Best l a l.length r.1 r.2.1:=by
 refine b9 (N:=l.length) (I:=λi s=>s.2.2.1=(i:Int)/\s.2.2.2.1=a/\Cm.Best l a i s.1 s.2.1) ⟨rfl,rfl,Cm.Best.zero l a 0⟩ (λi s c hs=>?_) λs hs=>?_
 ·obtain⟨f,b,j,o,⟨⟩⟩:=s;obtain⟨k,p,e⟩:=hs;simp only at k p e;subst k;subst p;have D:=A.len;unfold cY;have B:b_ .i64 ((i:Int)+1)=((i+1:Nat):Int):=aJ c (by omega);refine cE c (aj (aW c ?_));have w:∃g:Bool,(g=true↔∀y∈o,y<l[i])/\Wp (λn=>(bif ((o.length:Int)==(0:Int))then some (true)else e_ (bF o (b_ .i64 ((o.length:Int) - (1:Int)))) λ_=>e_ o[t_ (b_ .i64 ((o.length:Int) - (1:Int)))]? λF=>some (decide (l[i]>F)):Option Bool)) (·=g):=by
   by_cases u:o=[]
   ·subst u;exact⟨true,by simp,aP rfl (aa rfl)⟩
   ·have hp:0<o.length:=W_.2 u;have C:b_ .i64 ((o.length:Int) - 1)=((o.length - 1:Nat):Int):=by rw[wrap_i64 (by omega) (by omega)];omega
    refine⟨decide (l[i]>o[o.length - 1]),?_,an (beq_eq_false_iff_ne.2 (by omega)) ?_⟩;·rw[Cm.last_gt A.up u l[i],fa (by omega),decide_eq_true_eq]
    ·simp only[C];refine aW (by omega) (Fl (x:=o[o.length - 1]) ?_ (aa rfl));rw[h_];exact a_ _
  obtain⟨g,hg,z⟩:=w;refine aj (Wp.imp z λv E=>?_);subst E;refine aj (co (b:= !f||decide (l[i]<b)) (λ_=>aj (cI (b:=decide (l[i]<b)) (λ_=>aa rfl) (aa rfl))) (aw (λh=>aa (aa ⟨B,rfl,?_⟩)) λh=>aa (aa ⟨B,rfl,?_⟩)));·simp only[m_,v_,decide_eq_true_eq,ac_]at h;have:=Cm.Best.take e c (by rw[fa c];exact hg.1 h.1) (by rw[fa c];exact h.2);rw[fa c]at this;exact this
  ·refine Cm.Best.skip e c λd=>?_;rw[fa c]at d⊢;rw[hg.2 d]at h;simp at h;exact⟨h.1,h.2⟩
 ·obtain⟨f,b,j,o,⟨⟩⟩:=s;obtain⟨k,p,e⟩:=hs;simp only at k p e;subst k;subst p;unfold cY;exact bO (aa ⟨rfl,e⟩)
theorem tL(l a:List Int)(hl:l.length<=1000000)(A:Cm.Out l a):Wp (λn=>a8 n (ft (qW tbl n) n l) (false,(0:Int),(0:Int),a,())) λr=>r.2.2.1=a/\Cm.Best l a l.length r.1 r.2.1:=by
 refine b9 (N:=l.length) (I:=λi s=>s.2.2.1=(i:Int)/\s.2.2.2.1=a/\Cm.Best l a i s.1 s.2.1) ⟨rfl,rfl,Cm.Best.zero l a 0⟩ (λi s c hs=>?_) λs hs=>?_
 ·obtain⟨f,b,j,o,⟨⟩⟩:=s;obtain⟨k,p,e⟩:=hs;simp only at k p e;subst k;subst p;have D:=A.len;unfold ft;have B:b_ .i64 ((i:Int)+1)=((i+1:Nat):Int):=aJ c (by omega);refine cE c (aj (aW c ?_));have w:∃g:Bool,(g=true↔∀y∈o,y<l[i])/\Wp (λn=>(bif ((o.length:Int)==(0:Int))then some (true)else e_ (bF o (b_ .i64 ((o.length:Int) - (1:Int)))) λ_=>e_ o[t_ (b_ .i64 ((o.length:Int) - (1:Int)))]? λF=>some (decide (l[i]>F)):Option Bool)) (·=g):=by
   by_cases u:o=[]
   ·subst u;exact⟨true,by simp,aP rfl (aa rfl)⟩
   ·have hp:0<o.length:=W_.2 u;have C:b_ .i64 ((o.length:Int) - 1)=((o.length - 1:Nat):Int):=by rw[wrap_i64 (by omega) (by omega)];omega
    refine⟨decide (l[i]>o[o.length - 1]),?_,an (beq_eq_false_iff_ne.2 (by omega)) ?_⟩;·rw[Cm.last_gt A.up u l[i],fa (by omega),decide_eq_true_eq]
    ·simp only[C];refine aW (by omega) (Fl (x:=o[o.length - 1]) ?_ (aa rfl));rw[h_];exact a_ _
  obtain⟨g,hg,z⟩:=w;refine aj (Wp.imp z λv E=>?_);subst E;refine aj (co (b:= !f||decide (l[i]<b)) (λ_=>aj (cI (b:=decide (l[i]<b)) (λ_=>aa rfl) (aa rfl))) (aw (λh=>aa (aa ⟨B,rfl,?_⟩)) λh=>aa (aa ⟨B,rfl,?_⟩)));·simp only[m_,v_,decide_eq_true_eq,ac_]at h;have:=Cm.Best.take e c (by rw[fa c];exact hg.1 h.1) (by rw[fa c];exact h.2);rw[fa c]at this;exact this
  ·refine Cm.Best.skip e c λd=>?_;rw[fa c]at d⊢;rw[hg.2 d]at h;simp at h;exact⟨h.1,h.2⟩
 ·obtain⟨f,b,j,o,⟨⟩⟩:=s;obtain⟨k,p,e⟩:=hs;simp only at k p e;subst k;subst p;unfold ft;exact bO (aa ⟨rfl,e⟩)
theorem o7(l:List Int)(hl:l.length<=1000000):Wp (λn=>a8 n (fj (qW tbl n) n l) (([]:List Int),())) λr=>r=(Cm.asc l,()):=by refine Go.Ev.wp_loop (fun(s:List Int×Unit)=>Cm.Out l s.1) (fun(s:List Int×Unit)=>Cm.left l s.1) (Cm.Out.zero l) λs hs=>?_;unfold fj;have d:=hs.len;refine aj (Wp.imp (oV l s.1 hl hs) λr hr=>?_);obtain⟨f,b,o,⟨⟩⟩:=r;obtain⟨c,a⟩:=hr;simp only at c a;subst c;cases f with|false=>exact aP rfl (aa (by show(s.1,())=_;rw[Cm.Out.outDone hs a]))|true=>refine an rfl (aL (decide_eq_true (by show(s.1.length+1)*4<=_;omega)) (aa ⟨Cm.Out.step hs a,?_⟩));have:=a.yes rfl;exact Cm.left_step this.1 this.2
theorem tN(l:List Int)(hl:l.length<=1000000):Wp (λn=>a8 n (jk (qW tbl n) n l) (([]:List Int),())) λr=>r=(Cm.asc l,()):=by refine Go.Ev.wp_loop (fun(s:List Int×Unit)=>Cm.Out l s.1) (fun(s:List Int×Unit)=>Cm.left l s.1) (Cm.Out.zero l) λs hs=>?_;unfold jk;have d:=hs.len;refine aj (Wp.imp (tL l s.1 hl hs) λr hr=>?_);obtain⟨f,b,o,⟨⟩⟩:=r;obtain⟨c,a⟩:=hr;simp only at c a;subst c;cases f with|false=>exact aP rfl (aa (by show(s.1,())=_;rw[Cm.Out.outDone hs a]))|true=>refine an rfl (aL (decide_eq_true (by show(s.1.length+1)*4<=_;omega)) (aa ⟨Cm.Out.step hs a,?_⟩));have:=a.yes rfl;exact Cm.left_step this.1 this.2
theorem TQ(l:List Int)(hl:l.length<=1000000):aI tbl eN [.d (.list tW) l] [] du (Cm.asc l,()):=by refine aA rfl (aE AN rfl (λO n=>Bb O n l) ?_);unfold pQ;refine aj (Wp.imp (tN l hl) λr hr=>?_);subst hr;exact aa rfl
theorem Uo(l:List Int)(hl:l.length<=1000000):aI tbl dW [.d (.list tW) l] [] cD (Cm.asc l,()):=by refine aA rfl (aE sL rfl (λO n=>sQ O n l) ?_);unfold km;refine aj (Wp.imp (o7 l hl) λr hr=>?_);subst hr;exact aa rfl
theorem Kc(l:List Int)(c:Int)(hl:l.length<=900000):aI tbl pV [.d (.list tW) l,.d tW c] [] kb (Cm.add l c,()):=by
 refine aA rfl (aE Ma rfl (λO n=>Mm O n l c) ?_);unfold B7;have d:=Cm.len_asc l;have f:(Cm.asc l,()).1.length<=900000:=by show(Cm.asc l).length<=_;omega
 refine ao (Uo l (by omega)) (aj (co (b:= !decide (c∈Cm.asc l)) (λ_=>ao (Kd _ c (by omega)) (aa rfl)) (aw (λh=>aa ?_) λh=>aL (decide_eq_true (by show((Cm.asc l).length+1)*4<=_;omega)) (ao (TQ _ (by rw[i_,l_];omega)) (aa ?_)))));·rw[show Cm.add l c=Cm.asc l from if_pos (by simp at h;exact⟨by omega,h.2⟩)]
 ·rw[show Cm.add l c=Cm.ins c (Cm.asc l)from if_neg (fun⟨a,e⟩=>by
   have a:((Cm.asc l).length:Int)>=255:=by omega
   rw[decide_eq_true a,decide_eq_false e]at h;cases h),Cm.add_eq]
theorem Im(l:List Int)(c:Int)(hl:l.length<=1000000):aI tbl nV [.d (.list tW) l,.d tW c] [] ly (Cm.drop l c,()):=by refine aA rfl (aE JJ rfl (λO n=>JW O n l c) ?_);unfold yJ;refine ao (TQ l hl) (aj (Wp.imp (MR c (Cm.asc l,()) (F_ (Cm.len_asc l) hl)) λr hr=>?_));subst hr;exact aa rfl
theorem WS{P:Prop} [Decidable P]:(if P then(0:Int)else 5)=0\/(if P then(0:Int)else 5)=5:=by
 by_cases h:P;·exact .inl (if_pos h)
 ·exact .inr (if_neg h)
theorem Ig{r:vH}(a:mq r.1=true)(b:¬(r.2.1<1\/7<r.2.1))(c:¬r.2.2.2.1.length>2000):AD r=if ¬∀v∈r.2.2.2.1,1<=v/\v<=4294967295 then 5 else if Cm.check r.2.2.2.2.1≠0 then Cm.check r.2.2.2.2.1 else if ¬(gH r.2.2.2.2.2.1/\gH r.2.2.2.2.2.2.1/\gH r.2.2.2.2.2.2.2.2.1)\/r.2.2.2.2.2.2.2.1<0\/16777216<r.2.2.2.2.2.2.2.1 then 5 else 0:=by unfold AD;rw[if_neg (by rw[a];decide),if_neg b,if_neg c]
theorem Fy(r:vH)(hp:Ae r.1.1):aI tbl d7 [.d Mq r] [] br (AD r,()):=by
 refine aA rfl (aE GL rfl (λO n=>G3 O n r) ?_);unfold wO;refine ao (oG r.1 hp) (aw (λh=>aa ?_) λh=>?_);·rw[show AD r=1 from if_pos (by simpa using h)]
 have l:mq r.1=true:=by simpa using h
 refine aj (cI (b:=decide (r.2.1>7)) (λ_=>aa rfl) (aw (λh=>aa ?_) λh=>?_));·rw[show AD r=5 from by unfold AD;rw[if_neg (by rw[l];decide),if_pos (by simp at h;omega)]]
 have C:¬(r.2.1<1\/7<r.2.1):=by simp at h;omega
 refine aw (λh=>aa ?_) λh=>?_;·rw[show AD r=4 from by unfold AD;rw[if_neg (by rw[l];decide),if_neg C,if_pos (by have:=of_decide_eq_true h;omega)]]
 have I:¬r.2.2.2.1.length>2000:=by have:=of_decide_eq_false h;omega
 rw[Ig l C I];refine aj (AQ (xs:=r.2.2.2.1) (P:=λv=>1<=v/\v<=4294967295) (e:=((5:Int),())) (g:=()) (λi s=>?_) ?_ (λh=>?_) λh=>aa ?_);·unfold nv;refine cE s (aW s (aj (cI (b:=decide (r.2.2.2.1[i]>4294967295)) (λ_=>aa rfl) (mV ?_ (by rw[aJ s (by omega)])))));simp only[v_,decide_eq_true_eq];omega
 ·unfold nv;exact bO (aa rfl)
 ·rw[if_neg (not_not_intro h)];refine ao (yz r.2.2.2.2.1) (aw (λh=>aa ?_) λh=>?_);·rw[if_pos (by simpa using h)]
  rw[if_neg (by simpa using h)];generalize r.2.2.2.2.2.1=x0;generalize r.2.2.2.2.2.2.1=d;generalize r.2.2.2.2.2.2.2=y;obtain⟨p,k,⟨⟩⟩:=y;have one:∀x:Int,Wp (λ_=>e_ (bif decide (x<(0:Int))then some (true)else some (decide (x>(4294967295:Int)))) λv=>some v) (λb=>b= !decide (gH x)):=λx=>by
   refine aj (cI (b:=decide (x>4294967295)) (λ_=>aa rfl) (aa ?_));by_cases h:gH x;·rw[decide_eq_true h,decide_eq_false (by omega),decide_eq_false (by omega)];rfl
   ·rw[decide_eq_false h];show(decide (x<0)||decide (x>4294967295))=true;simp only[v_,decide_eq_true_eq];omega
  refine aj (yo (N:=3) (f:=λi=>if gH (if i=0 then x0 else if i=1 then d else k)then 0 else 5) (enc:=λi=>((x0,d,k,()),(i:Int),())) (oB:=λe=>(e,())) (oE:=()) (λi s=>?_) ?_ ?_)
  ·unfold nw;have w:∀x:Int,x=(if i=0 then x0 else if i=1 then d else k)->Wp (λ_=>e_ (bif decide (x<(0:Int))then some (true)else some (decide (x>(4294967295:Int)))) λB=>
    bif B then some (.inr (.inl (((5:Int),()))))else some (.inl ((x0,d,k,()),b_ .i64 ((i:Int)+(1:Int)),())))
    (fun(r:((Int×Int×Int×Unit)×Int×Unit)⊕(Int×Unit)⊕Unit)=>r=if(if gH (if i=0 then x0 else if i=1 then d else k)then(0:Int)else 5)=0 then .inl ((x0,d,k,()),((i+1:Nat):Int),())else .inr (.inl ((if gH (if i=0 then x0 else if i=1 then d else k)then(0:Int)else 5),()))):=λx J=>by
    subst J
    refine aj (cI (b:=decide (_>4294967295)) (λ_=>aa rfl) (aw (λh=>aa ?_) λh=>aa ?_))
    ·rw[if_neg (show ¬gH _ by simp only[v_,decide_eq_true_eq]at h;omega),if_neg (by decide)]
    ·rw[if_pos (show gH _ by simp only[y_,decide_eq_false_iff_not]at h;omega),if_pos rfl,aJ (n:=3) s (by decide)]
   refine cE s ?_;have z:i=0\/i=1\/i=2:=by omega
   rcases z with rfl|rfl|rfl;·exact rF (a:=x0) rfl (w x0 rfl)
   ·exact rF (a:=d) rfl (w d rfl)
   ·exact rF (a:=k) rfl (w k rfl)
  ·unfold nw;exact bO (aa rfl)
  have D:l8 (λi=>if gH (if i=0 then x0 else if i=1 then d else k)then(0:Int)else 5) 3=if gH x0/\gH d/\gH k then 0 else 5:=by
   by_cases h:gH x0/\gH d/\gH k
   ·rw[if_pos h];refine errN_zero.2 λj L=>?_;have A:j=0\/j=1\/j=2:=by omega
    rcases A with rfl|rfl|rfl;·exact if_pos h.1
    ·exact if_pos h.2.1
    ·exact if_pos h.2.2
   ·rw[if_neg h];refine(QX (c:=5) (λj=>WS)).resolve_left λH=>h ?_;have l:=errN_zero.1 H;have g0:=l 0 (by decide);have E:=l 1 (by decide);have F:=l 2 (by decide);have f:∀{P:Prop} [Decidable P],(if P then(0:Int)else 5)=0->P:=fun{P} _ h=>by
     by_cases hp:P;·exact hp
     ·rw[if_neg hp]at h;cases h
    exact⟨f g0,f E,f F⟩
  rw[D];by_cases u:gH x0/\gH d/\gH k
  ·rw[if_pos u,if_pos rfl];refine aj (cI (b:=decide (p>16777216)) (λ_=>aa rfl) (aw (λh=>aa ?_) λh=>aa ?_));·rw[if_pos (show ¬(gH x0/\gH d/\gH k)\/p<0\/16777216<p by simp at h;omega)]
   ·rw[if_neg (show ¬(¬(gH x0/\gH d/\gH k)\/p<0\/16777216<p) by simp at h;omega)]
  ·rw[if_neg u,if_neg (by decide)];refine aa ?_;rw[if_pos (show ¬(gH x0/\gH d/\gH k)\/p<0\/16777216<p from .inl u)]
 ·rw[if_pos h]
open Classical in
noncomputable def Wm(s:List UInt8)(a:List Int):Bool:=decide (∃r,fL r=0/\ij r=s/\UL (Wi r 0) a=true)
noncomputable def Wr(l:List V7)(a:List Int):Bool:=match l.find? (λu=>Wm u.2.1 a)with|some u=>u.1|none=>false
noncomputable def Ww(s:PS)(m:Ut)(r:vH):Bool:=
 if m.1=1 then(match Lb s m.2.1 with|some l=>Ws l.2.1 r.1|none=>false)
 else if m.1=2 then(match Q2 s m.2.1 with|some l=>Wr l.2.1 r.2.2.2.1|none=>false)
 else if m.1=3 then(match W0 s m.2.1 with|some l=>RJ l.2.1 r.2.2.2.2.1|none=>false)
 else if m.1=4 then r.2.1==m.2.2.1
 else if m.1=5 then r.2.2.2.2.2.2.2.2.1==m.2.2.1
 else if m.1=6 then decide (r.2.2.2.2.2.2.2.1<=m.2.2.1)
 else if m.1=7 then TV m.2.2.2.1 r.2.2.1
 else decide ((r.2.2.2.1.length:Int)<=m.2.2.1)
noncomputable def Wk(s:PS)(r:vH)(m:Ut):Bool:=true ^^ (Ww s m r==m.2.2.2.2.1)
noncomputable def WE(s:PS)(r:vH)(t:Fw):Bool:=t.2.1.all (Wk s r)
structure SmQ(s:PS)(r:vH):Prop where
 s:SmP s
 p:Ae r.1.1
 n:Ae r.2.2.1
 pt:r.2.2.2.1.length<=100000
 cm:r.2.2.2.2.1.length<=100000
theorem Ht{l:List Int}{z:Int}:l.take (g_ (t_ (l.length:Int)) z).length++(g_ (t_ (l.length:Int)) z).drop l.length=l:=by rw[k_,h_,s_,List.drop_replicate,ae_,X_,J_]
theorem yw(r:vH)(a:r.2.2.2.1.length<=1000000)(b:r.2.2.2.2.1.length<=1000000):aI tbl gQ [.d Mq r] [] fe (r,()):=by obtain⟨p,po,nh,pt,cm,t⟩:=r;simp only at a b;refine aA rfl (aE AF rfl (λO n=>AS O n (p,po,nh,pt,cm,t)) ?_);unfold pH;refine aL (by simp only[m_,decide_eq_true_eq];omega) (aL (by simp only[m_,decide_eq_true_eq];omega) (aa ?_));simp only;rw[Ht,Ht]
theorem FE(r:vH)(a:r.2.2.2.1.length<=1000000)(b:r.2.2.2.2.1.length<=1000000):aI tbl mA [.d Mq r] [] jF (r,()):=by obtain⟨p,po,nh,pt,cm,t⟩:=r;simp only at a b;refine aA rfl (aE GV rfl (λO n=>Hb O n (p,po,nh,pt,cm,t)) ?_);unfold wV;exact aL (decide_eq_true (by show(0+pt.length)*8<=_;omega)) (aL (decide_eq_true (by show(0+cm.length)*4<=_;omega)) (aa rfl))
theorem Kn{a:yr}(b:eP a=0)(c:a.1=8):1<=a.2.1/\a.2.1<=16:=by
 unfold eP at b;split at b;·cases b
 split at b;·cases b
 split at b;·cases b
 rename_i h;have h:jc a=true:=by cases e:jc a;exact absurd e h;rfl
 unfold jc at h;rw[if_neg (by omega),if_neg (by omega),if_neg (by omega),if_neg (by omega)]at h;simp at h;omega
theorem Hi{a:yr}(b:eP a=0):1<=a.1/\a.1<=8:=by
 unfold eP at b;split at b;·cases b
 ·omega
section
variable {a:yr} {p:OW} {po nh:Int} {pt cm:List Int} {pf md mt tg:Int} {u:Unit}
theorem Vs(h:a.1=1):CC a (p,po,nh,pt,cm,pf,md,mt,tg,u)=(p,po,nh,pt,cm,a.2.1,md,mt,tg,u):=by simp[CC,h]
theorem Vt(h:a.1=2):CC a (p,po,nh,pt,cm,pf,md,mt,tg,u)=(p,po,nh,pt,cm,pf,a.2.1,mt,tg,u):=by simp[CC,h]
theorem Vu(h:a.1=3):CC a (p,po,nh,pt,cm,pf,md,mt,tg,u)=(p,po,nh,pt,cm,pf,md,a.2.1,tg,u):=by simp[CC,h]
theorem Vv(h:a.1=4):CC a (p,po,nh,pt,cm,pf,md,mt,tg,u)=(p,po,nh,pt,cm,pf,md,mt,a.2.1,u):=by simp[CC,h]
theorem Vw(h:a.1=5):CC a (p,po,nh,pt,cm,pf,md,mt,tg,u)=(p,po,a.2.2.2.2.1,pt,cm,pf,md,mt,tg,u):=by simp[CC,h]
theorem Vx(h:a.1=6):CC a (p,po,nh,pt,cm,pf,md,mt,tg,u)=(p,po,nh,pt,Cm.add cm a.2.2.2.1,pf,md,mt,tg,u):=by simp[CC,h]
theorem Vy(h:a.1=7):CC a (p,po,nh,pt,cm,pf,md,mt,tg,u)=(p,po,nh,pt,Cm.drop cm a.2.2.2.1,pf,md,mt,tg,u):=by simp[CC,h]
theorem Vz(h:a.1=8)(hl:(pt.length:Int)+a.2.1<=2000):CC a (p,po,nh,pt,cm,pf,md,mt,tg,u)=(p,po,nh,g_ a.2.1.toNat a.2.2.1++pt,cm,pf,md,mt,tg,u):=by simp[CC,h,hl]
theorem VA(h:a.1=8)(hl:¬(pt.length:Int)+a.2.1<=2000):CC a (p,po,nh,pt,cm,pf,md,mt,tg,u)=(p,po,nh,pt,cm,pf,md,mt,tg,u):=by simp[CC,h];intro h';exact absurd h' hl
end
theorem Dl(a:yr)(r:vH)(B:eP a=0)(D:r.2.2.2.1.length<=900000)(E:r.2.2.2.2.1.length<=900000):aI tbl ky [.d yA a,.d Mq r] [] iB (CC a r,()):=by
 obtain⟨⟨z,A,⟨⟩⟩,po,nh,pt,cm,pf,md,mt,tg,⟨⟩⟩:=r;simp only at D E;refine aA rfl (aE E5 rfl (λO n=>Fo O n a ((z,A,()),po,nh,pt,cm,pf,md,mt,tg,())) ?_);unfold uc;have J:=Hi B;have b:∀{k:Int},a.1≠k->(a.1==k)=false:=λh=>beq_eq_false_iff_ne.2 h;have c:∀{k:Int},a.1=k->(a.1==k)=true:=λh=>beq_iff_eq.2 h;by_cases d:a.1=1;·rw[Vs d];exact aj (aP (c d) (aa (aa rfl)))
 by_cases e:a.1=2;·rw[Vt e];exact aj (an (b d) (aP (c e) (aa (aa rfl))))
 by_cases f:a.1=3;·rw[Vu f];exact aj (an (b d) (an (b e) (aP (c f) (aa (aa rfl)))))
 by_cases j:a.1=4;·rw[Vv j];exact aj (an (b d) (an (b e) (an (b f) (aP (c j) (aa (aa rfl))))))
 by_cases l:a.1=5;·rw[Vw l];exact aj (an (b d) (an (b e) (an (b f) (an (b j) (aP (c l) (aa (aa rfl)))))))
 by_cases p:a.1=6;·rw[Vx p];exact aj (an (b d) (an (b e) (an (b f) (an (b j) (an (b l) (aP (c p) (ao (Cr cm a.2.2.2.1 (by omega)) (aa (aa rfl)))))))))
 by_cases y:a.1=7;·rw[Vy y];exact aj (an (b d) (an (b e) (an (b f) (an (b j) (an (b l) (an (b p) (aP (c y) (ao (Bg cm a.2.2.2.1 (by omega)) (aa (aa rfl))))))))))
 have u:a.1=8:=by omega
 obtain⟨F,H⟩:=Kn B u;generalize g:a.2.1=N at F H;obtain⟨m,rfl⟩:=r_ (show 0<=N by omega);refine aj (an (b d) (an (b e) (an (b f) (an (b j) (an (b l) (an (b p) (an (b y) (aP (c u) ?_))))))));have C:b_ .i64 ((pt.length:Int)+(m:Int))=(pt.length:Int)+(m:Int):=wrap_i64 (by omega) (by omega);have v:b_ .i64 ((m:Int)+(pt.length:Int))=(m:Int)+(pt.length:Int):=wrap_i64 (by omega) (by omega);simp only[g,C,v];refine aw (λh=>?_) λh=>aa (aa ?_)
 ·have h:=of_decide_eq_true h;rw[Vz u (by rw[g];exact h),g];refine aL (by simp only[m_,decide_eq_true_eq];omega) ?_;refine aj (b9 (N:=m) (I:=λi s=>s=((i:Int),z,A,po,nh,pt,cm,pf,md,mt,tg,(0:Int),(0:Int),(0:Int),(0:Int),(0:Int),(0:Int),(0:Int),(0:Int),g_ i a.2.2.1++g_ (m - i) (0:Int),())) rfl (λi s w hs=>?_) λs hs=>?_)
  ·subst hs;unfold lU;simp only[g];have hl:(g_ i a.2.2.1++g_ (m - i) (0:Int)).length=m:=by rw[i_,k_,k_];omega
   refine aP (decide_eq_true (by rw[k_,h_];omega)) ?_;refine aW (by rw[hl];exact w) (Fl (x:=(g_ i a.2.2.1++g_ (m - i) (0:Int))[i]'(by rw[hl];exact w)) (by rw[h_];exact a_ _) (aa ?_));show(b_ .i64 ((i:Int)+1),z,A,po,nh,pt,cm,pf,md,mt,tg,(0:Int),(0:Int),(0:Int),(0:Int),(0:Int),(0:Int),(0:Int),(0:Int),(g_ i a.2.2.1++g_ (m - i) (0:Int)).set (t_ (i:Int)) a.2.2.1,())=_;rw[aJ w (by omega),h_];have:(g_ i a.2.2.1++g_ (m - i) (0:Int)).set i a.2.2.1=g_ (i+1) a.2.2.1++g_ (m - (i+1)) (0:Int):=by rw[List.set_append_right _ _ (by rw[k_];exact z_ _),k_,ae_,show m - i=(m - (i+1))+1 by omega,List.replicate_succ,List.set_cons_zero,V_ (n:=i),List.append_assoc];rfl
   rw[this]
  ·subst hs;unfold lU;simp only[g];refine an (decide_eq_false (by rw[k_,h_];omega)) (aa ?_);simp only[ae_,X_,J_];refine aL (decide_eq_true (by rw[k_];omega)) (aa (aa ?_));rw[h_]
 ·have h:=of_decide_eq_false h;rw[VA u (by rw[g];exact h)]
theorem Fz(t:Fw):aI tbl mr [.d yT t] [] jA (([([112],[([116],t.2.1,t.2.2.1,1,())],1,())]:List Mt),()):=aA rfl (aE GM rfl (λO n=>G4 O n t) (aa rfl))
theorem TM{a:yr}(h:okD yA a):SmP (OT a):=by
 have l1:(1:Nat)<=maxLen:=by decide
 have d:IntKind.i64.min<=(1:Int)/\(1:Int)<=IntKind.i64.max:=by decide
 have e:okD yT ([116],[],[a],1,()):=by
  refine⟨l1,⟨w_ _,λy b=>by cases b⟩,⟨l1,λx c=>?_⟩,d,trivial⟩;have c:x=a:=by simpa using c
  subst c;exact h
 have hp:okD yO ([112],[([116],[],[a],1,())],1,()):=by
  refine⟨l1,⟨l1,λx c=>?_⟩,d,trivial⟩;have c:x=(([116],[],[a],1,()):Fw):=by simpa using c
  subst c;exact e
 refine⟨⟨⟨w_ _,λy b=>by cases b⟩,⟨w_ _,λy b=>by cases b⟩,⟨w_ _,λy b=>by cases b⟩,⟨l1,λy b=>?_⟩,trivial⟩,w_ _,w_ _,w_ _,show(1:Nat)<=1048576 by decide,λl hl=>by cases hl⟩;have b:y=(([112],[([116],[],[a],1,())],1,()):Mt):=by simpa using b
 subst b;exact hp
theorem J6(l:List yr)(r:vH)(hl:l.length<=100000)(g:∀a∈l,okD yA a)(hr:SmR 100000 r):aI tbl jZ [.d (.list yA) l,.d Mq r] [] iA (Cz l r,()):=by
 refine aA rfl (aE L5 rfl (λO n=>Mi O n l r) ?_);unfold B4;refine ao (yw r (by have:=hr.pt;omega) (by have:=hr.cm;omega)) ?_;have enc:∀x:vH,x=((x.1.1,x.1.2.1,()),x.2.1,x.2.2.1,x.2.2.2.1,x.2.2.2.2.1,x.2.2.2.2.2.1,x.2.2.2.2.2.2.1,x.2.2.2.2.2.2.2.1,x.2.2.2.2.2.2.2.2.1,()):=λx=>rfl;refine aj (b9 (N:=l.length) (I:=λi s=>∃x:vH,x=Cz (l.take i) r/\s=((i:Int),(0:Int),(0:Int),(0:Int),(0:Int),(0:Int),(0:Int),(0:Int),(0:Int),x.1.1,x.1.2.1,x.2.1,x.2.2.1,x.2.2.2.1,x.2.2.2.2.1,x.2.2.2.2.2.1,x.2.2.2.2.2.2.1,x.2.2.2.2.2.2.2.1,x.2.2.2.2.2.2.2.2.1,())) ⟨r,rfl,rfl⟩ (λi s c hs=>?_) λs hs=>?_)
 ·obtain⟨x,d,rfl⟩:=hs;unfold qC;have e:SmR (100000+(l.take i).length) x:=by rw[d];exact ID hr
  have hc:=e.cm;have hp:=e.pt;have f:=g _ (d_ c);have b:Cz (l.take (i+1)) r=DC l[i] x:=by unfold Cz at d⊢;rw[p_ c,Q_,d];rfl
  refine cE c (aj (aW c (ao (Fz _) (ao (Dn (OT l[i]) (TM f)) ?_))));rw[Vb];refine aw (λh=>?_) λh=>?_
  ·have h:eP l[i]=0:=by simpa using h
   rw[show DC l[i] x=CC l[i] x from if_pos h]at b;refine ao (Dl l[i] x h (by omega) (by rw[o_]at hc;omega)) (aa (aa ⟨CC l[i] x,b.symm,?_⟩));show(b_ .i64 ((i:Int)+1),_)=_;rw[aJ c (by omega)]
  ·have h:¬eP l[i]=0:=by simpa using h
   rw[show DC l[i] x=x from if_neg h]at b;refine aa (aa ⟨x,b.symm,?_⟩);show(b_ .i64 ((i:Int)+1),_)=_;rw[aJ c (by omega)]
 ·obtain⟨x,d,rfl⟩:=hs;unfold qC;refine bO (aa (aa ?_));rw[s_]at d;rw[<-d]
theorem Kf(a:yr)(r:vH)(B:r.2.2.2.1.length<=900000)(C:r.2.2.2.2.1.length<=900000):aI tbl pY [.d yA a,.d Mq r] [] iD (DC a r,()):=by
 obtain⟨⟨g,j,⟨⟩⟩,po,nh,pt,cm,pf,md,mt,tg,⟨⟩⟩:=r;simp only at B C;refine aA rfl (aE Md rfl (λO n=>Mp O n a ((g,j,()),po,nh,pt,cm,pf,md,mt,tg,())) ?_);unfold Ca;refine ao (Dp a) (aw (λh=>aa ?_) λh=>?_);·rw[show DC a ((g,j,()),po,nh,pt,cm,pf,md,mt,tg,())=((g,j,()),po,nh,pt,cm,pf,md,mt,tg,())from if_neg (by simpa using h)]
 have x:eP a=0:=by simpa using h
 rw[show DC a ((g,j,()),po,nh,pt,cm,pf,md,mt,tg,())=CC a ((g,j,()),po,nh,pt,cm,pf,md,mt,tg,())from if_pos x];have F:=Hi x;have b:∀{k:Int},a.1≠k->(a.1==k)=false:=λh=>beq_eq_false_iff_ne.2 h;have c:∀{k:Int},a.1=k->(a.1==k)=true:=λh=>beq_iff_eq.2 h;by_cases d:a.1=1;·rw[Vs d];exact aj (aP (c d) (aa (aa rfl)))
 by_cases e:a.1=2;·rw[Vt e];exact aj (an (b d) (aP (c e) (aa (aa rfl))))
 by_cases f:a.1=3;·rw[Vu f];exact aj (an (b d) (an (b e) (aP (c f) (aa (aa rfl)))))
 by_cases p:a.1=4;·rw[Vv p];exact aj (an (b d) (an (b e) (an (b f) (aP (c p) (aa (aa rfl))))))
 by_cases u:a.1=5;·rw[Vw u];exact aj (an (b d) (an (b e) (an (b f) (an (b p) (aP (c u) (aa (aa rfl)))))))
 by_cases v:a.1=6;·rw[Vx v];exact aj (an (b d) (an (b e) (an (b f) (an (b p) (an (b u) (aP (c v) (ao (Kc cm a.2.2.2.1 (by omega)) (aa (aa rfl)))))))))
 by_cases y:a.1=7;·rw[Vy y];exact aj (an (b d) (an (b e) (an (b f) (an (b p) (an (b u) (an (b v) (aP (c y) (ao (Im cm a.2.2.2.1 (by omega)) (aa (aa rfl))))))))))
 have w:a.1=8:=by omega
 obtain⟨D,E⟩:=Kn x w;generalize l:a.2.1=N at D E;obtain⟨m,rfl⟩:=r_ (show 0<=N by omega);refine aj (an (b d) (an (b e) (an (b f) (an (b p) (an (b u) (an (b v) (an (b y) (aP (c w) ?_))))))));have A:b_ .i64 ((pt.length:Int)+(m:Int))=(pt.length:Int)+(m:Int):=wrap_i64 (by omega) (by omega);simp only[l,A];refine aw (λh=>aa (aa ?_)) λh=>?_;·have h:=of_decide_eq_true h;rw[VA w (by rw[l];omega)]
 ·have h:=of_decide_eq_false h;rw[Vz w (by rw[l];omega),l];refine aj (b9 (N:=m) (I:=λi s=>s=((i:Int),g,j,po,nh,pt,cm,pf,md,mt,tg,(0:Int),(0:Int),(0:Int),(0:Int),(0:Int),(0:Int),(0:Int),(0:Int),g_ i a.2.2.1,())) rfl (λi s z hs=>?_) λs hs=>?_);·subst hs;unfold qF;simp only[l];refine cE z (aL (decide_eq_true (by rw[k_,l_];omega)) (aa ?_));show(b_ .i64 ((i:Int)+1),g,j,po,nh,pt,cm,pf,md,mt,tg,(0:Int),(0:Int),(0:Int),(0:Int),(0:Int),(0:Int),(0:Int),(0:Int),g_ i a.2.2.1++[a.2.2.1],())=_;rw[aJ z (by omega),V_ (n:=i)]
  ·subst hs;unfold qF;simp only[l];refine bO (aa ?_);refine aL (decide_eq_true (by rw[k_];show(m+pt.length)*8<=_;omega)) (aa (aa ?_));rw[h_]
theorem Ke(l:List yr)(r:vH)(hl:l.length<=100000)(hr:SmR 100000 r):aI tbl pX [.d (.list yA) l,.d Mq r] [] nr (Cz l r,()):=by
 refine aA rfl (aE Mc rfl (λO n=>Mo O n l r) ?_);unfold B9;refine ao (FE r (by have:=hr.pt;omega) (by have:=hr.cm;omega)) ?_;refine aj (b9 (N:=l.length) (I:=λi s=>∃x:vH,x=Cz (l.take i) r/\s=((i:Int),x.1.1,x.1.2.1,x.2.1,x.2.2.1,x.2.2.2.1,x.2.2.2.2.1,x.2.2.2.2.2.1,x.2.2.2.2.2.2.1,x.2.2.2.2.2.2.2.1,x.2.2.2.2.2.2.2.2.1,(0:Int),(0:Int),(0:Int),(0:Int),(0:Int),(0:Int),(0:Int),(0:Int),())) ⟨r,rfl,rfl⟩ (λi s d hs=>?_) λs hs=>?_)
 ·obtain⟨x,b,rfl⟩:=hs;unfold qE;have c:SmR (100000+(l.take i).length) x:=by rw[b];exact ID hr
  have hc:=c.cm;have hp:=c.pt;have a:Cz (l.take (i+1)) r=DC l[i] x:=by unfold Cz at b⊢;rw[p_ d,Q_,b];rfl
  refine cE d (aW d (ao (Kf l[i] x (by omega) (by rw[o_]at hc;omega)) (aa ⟨DC l[i] x,a.symm,?_⟩)));show(b_ .i64 ((i:Int)+1),_)=_;rw[aJ d (by omega)]
 ·obtain⟨x,b,rfl⟩:=hs;unfold qE;refine bO (aa (aa ?_));rw[s_]at b;rw[<-b]
noncomputable def Pn(s:PS)(p:Mt)(r:vH):List Int×List yr×Int:=K8 (WE s r) p.2.1 0 p.2.2.1
theorem rK(x:Int):aI tbl iS [.d tI x] [] gA (decide (x>=0)&&decide (x<=4294967295),()):=by refine aA rfl (aE JM rfl (λO k=>JZ O k x) ?_);unfold yU;exact aj (co (b:=decide (x<=4294967295)) (λ_=>aa rfl) (aa rfl))
theorem FD(r:vH)(hp:Ae r.1.1):aI tbl mz [.d Mq r] [] cg (AD r,()):=by
 refine aA rfl (aE GU rfl (λO n=>Ha O n r) ?_);unfold wU;refine ao (FB r.1 hp) (aw (λh=>aa ?_) λh=>?_);·rw[show AD r=1 from if_pos (by simpa using h)]
 have f:mq r.1=true:=by simpa using h
 refine aj (cI (b:=decide (r.2.1>7)) (λ_=>aa rfl) (aw (λh=>aa ?_) λh=>?_));·rw[show AD r=5 from by unfold AD;rw[if_neg (by rw[f];decide),if_pos (by simp at h;omega)]]
 have k:¬(r.2.1<1\/7<r.2.1):=by simp at h;omega
 refine aw (λh=>aa ?_) λh=>?_;·rw[show AD r=4 from by unfold AD;rw[if_neg (by rw[f];decide),if_neg k,if_pos (by have:=of_decide_eq_true h;omega)]]
 have l:¬r.2.2.2.1.length>2000:=by have:=of_decide_eq_false h;omega
 rw[Ig f k l];refine aj (AQ (xs:=r.2.2.2.1) (P:=λv=>1<=v/\v<=4294967295) (e:=((5:Int),())) (g:=()) (λi j=>?_) ?_ (λh=>?_) λh=>aa ?_);·unfold nx;refine cE j (aW j (aj (cI (b:=decide (r.2.2.2.1[i]>4294967295)) (λ_=>aa rfl) (mV ?_ (by rw[aJ j (by omega)])))));simp only[v_,decide_eq_true_eq];omega
 ·unfold nx;exact bO (aa rfl)
 ·rw[if_neg (not_not_intro h)];refine ao (FC r.2.2.2.2.1) (aw (λh=>aa ?_) λh=>?_);·rw[if_pos (by simpa using h)]
  rw[if_neg (by simpa using h)];generalize r.2.2.2.2.2.1=x0;generalize r.2.2.2.2.2.2.1=c;generalize r.2.2.2.2.2.2.2=y;obtain⟨a,d,⟨⟩⟩:=y;refine ao (rK x0) (aj (cI (b:= !(decide (c>=0)&&decide (c<=4294967295))) (λ_=>ao (rK c) (aa rfl)) ?_));refine aj (cI (b:= !(decide (d>=0)&&decide (d<=4294967295))) (λ_=>ao (rK d) (aa rfl)) ?_);refine aj (cI (b:=decide (a<0)) (λ_=>aa rfl) (aj (cI (b:=decide (a>16777216)) (λ_=>aa rfl) (aw (λh=>aa ?_) λh=>aa ?_))));·rw[if_pos (show ¬(gH x0/\gH c/\gH d)\/a<0\/16777216<a by simp at h;omega)]
  ·rw[if_neg (show ¬(¬(gH x0/\gH c/\gH d)\/a<0\/16777216<a) by simp at h;omega)]
 ·rw[if_pos h]
end Go.Proofs.YthjnceggmnicmaaGreatDoor
namespace Go.Pl
open Go Go.Av Go.Ev
def H6(a b:vH):Bool:=
 (((((((((false ^^ oR yP a.1 b.1)&&(a.2.1==b.2.1))&&(a.2.2.1==b.2.2.1))&&(a.2.2.2.2.2.1==b.2.2.2.2.2.1))&&(a.2.2.2.2.2.2.1==b.2.2.2.2.2.2.1))&&(a.2.2.2.2.2.2.2.1==b.2.2.2.2.2.2.2.1))&&(a.2.2.2.2.2.2.2.2.1==b.2.2.2.2.2.2.2.2.1))&&decide (a.2.2.2.1=b.2.2.2.1))&&decide (a.2.2.2.2.1=b.2.2.2.2.1))
theorem Ta(p:OW):oR yP p p=true:=by show((p.1==p.1)&&((p.2.1==p.2.1)&&true))=true;simp
theorem H7(a:vH):H6 a a=true:=by have h:=Ta a.1;unfold H6;rw[h];simp
end Go.Pl
namespace Go.Proofs.YthjnceggmnicmaaGreatDoor
open Go Go.Av Go.Ev Go.Pl
theorem yx(a b:List Int)(hl:a.length<=9223372036854775807):aI tbl gR [.d (.list tI) a,.d (.list tI) b] [] cA (decide (a=b),()):=by
 refine aA rfl (aE AG rfl (λO n=>AT O n a b) ?_);unfold pJ;refine aw (λh=>aa ?_) λh=>?_;·rw[decide_eq_false];rintro rfl;simp at h
 have d:a.length=b.length:=by simp at h;omega
 refine aj (B1 (N:=a.length) (good:=λi=>a[i]? =b[i]?) (e:=(false,())) (g:=()) (λi c=>?_) ?_ (λh=>?_) λh=>?_);·unfold jd;refine cE c (aW c (aW (by omega) (mV ?_ (by rw[aJ c hl]))));rw[a_ c,a_ (by omega)];simp
 ·unfold jd;exact bO (aa rfl)
 ·refine aa ?_;rw[decide_eq_true (E_ λi=>?_)];by_cases c:i<a.length;·exact h i c
  ·rw[j_ (by omega),j_ (by omega)]
 ·refine aa ?_;rw[decide_eq_false];rintro rfl;obtain⟨i,_,h⟩:=h;exact h rfl
theorem t6(a b:List Int)(hl:a.length<=9223372036854775807):aI tbl eF [.d (.list tW) a,.d (.list tW) b] [] bT (decide (a=b),()):=by
 refine aA rfl (aE vj rfl (λO n=>vw O n a b) ?_);unfold mX;refine aw (λh=>aa ?_) λh=>?_;·rw[decide_eq_false];rintro rfl;simp at h
 have d:a.length=b.length:=by simp at h;omega
 refine aj (B1 (N:=a.length) (good:=λi=>a[i]? =b[i]?) (e:=(false,())) (g:=()) (λi c=>?_) ?_ (λh=>?_) λh=>?_);·unfold gh;refine cE c (aW c (aW (by omega) (mV ?_ (by rw[aJ c hl]))));rw[a_ c,a_ (by omega)];simp
 ·unfold gh;exact bO (aa rfl)
 ·refine aa ?_;rw[decide_eq_true (E_ λi=>?_)];by_cases c:i<a.length;·exact h i c
  ·rw[j_ (by omega),j_ (by omega)]
 ·refine aa ?_;rw[decide_eq_false];rintro rfl;obtain⟨i,_,h⟩:=h;exact h rfl
theorem Io(a b:List Int)(hl:a.length<=9223372036854775807):aI tbl nW [.d (.list tW) a,.d (.list tW) b] [] gz (decide (a=b),()):=by
 refine aA rfl (aE JK rfl (λO n=>JX O n a b) ?_);unfold yK;refine aw (λh=>aa ?_) λh=>?_;·rw[decide_eq_false];rintro rfl;simp at h
 have d:a.length=b.length:=by simp at h;omega
 refine aj (B1 (N:=a.length) (good:=λi=>a[i]? =b[i]?) (e:=(false,())) (g:=()) (λi c=>?_) ?_ (λh=>?_) λh=>?_);·unfold oK;refine cE c (aW c (aW (by omega) (mV ?_ (by rw[aJ c hl]))));rw[a_ c,a_ (by omega)];simp
 ·unfold oK;exact bO (aa rfl)
 ·refine aa ?_;rw[decide_eq_true (E_ λi=>?_)];by_cases c:i<a.length;·exact h i c
  ·rw[j_ (by omega),j_ (by omega)]
 ·refine aa ?_;rw[decide_eq_false];rintro rfl;obtain⟨i,_,h⟩:=h;exact h rfl
theorem yu(a b:vH)(c:a.2.2.2.1.length<=9223372036854775807)(d:a.2.2.2.2.1.length<=9223372036854775807):aI tbl dT [.d Mq a,.d Mq b] [] c8 (H6 a b,()):=by refine aA rfl (aE JG rfl (λO n=>JS O n a b) ?_);unfold yE;refine aj (co (λ_=>aa rfl) (aj (co (λ_=>aa rfl) (aj (co (λ_=>aa rfl) (aj (co (λ_=>aa rfl) (aj (co (λ_=>aa rfl) (aj (co (λ_=>aa rfl) ?_)))))))))));exact aj (co (λ_=>ao (yx a.2.2.2.1 b.2.2.2.1 c) (aa rfl)) (aj (co (λ_=>ao (t6 a.2.2.2.2.1 b.2.2.2.2.1 d) (aa rfl)) (aa rfl))))
theorem yB(a b:vH)(f:a.2.2.2.1.length<=9223372036854775807)(j:a.2.2.2.2.1.length<=9223372036854775807):aI tbl kD [.d Mq a,.d Mq b] [] ff (H6 a b,()):=by
 refine aA rfl (aE JL rfl (λO n=>JY O n a b) ?_);unfold yQ;refine aj (cI (λ_=>aa rfl) (aj (cI (λ_=>aa rfl) (aj (cI (λ_=>aa rfl) (aj (cI (λ_=>aa rfl) (aj (cI (λ_=>aa rfl) (aj (cI (λ_=>aa rfl) (aj (cI (λ_=>aa rfl) ?_)))))))))))));have key:H6 a b=(!((((((((true ^^ oR yP a.1 b.1)||(a.2.1 != b.2.1))||(a.2.2.1 != b.2.2.1))||(a.2.2.2.2.2.1 != b.2.2.2.2.2.1))||(a.2.2.2.2.2.2.1 != b.2.2.2.2.2.2.1))||(a.2.2.2.2.2.2.2.1 != b.2.2.2.2.2.2.2.1))||(a.2.2.2.2.2.2.2.2.1 != b.2.2.2.2.2.2.2.2.1))||((a.2.2.2.1.length:Int) != (b.2.2.2.1.length:Int)))&&(decide (a.2.2.2.1=b.2.2.2.1)&&decide (a.2.2.2.2.1=b.2.2.2.2.1))):=by
  have hl:decide (a.2.2.2.1=b.2.2.2.1)=(!((a.2.2.2.1.length:Int) != (b.2.2.2.1.length:Int))&&decide (a.2.2.2.1=b.2.2.2.1)):=by
   by_cases h:a.2.2.2.1=b.2.2.2.1;·rw[h];simp
   ·simp[h]
  unfold H6;rw[hl];simp only[bne,Bool.not_or,Bool.not_not,Bool.and_assoc,Bool.false_xor,Bool.true_xor,Bool.and_self_left]
 generalize(((((((true ^^ oR yP a.1 b.1)||(a.2.1 != b.2.1))||(a.2.2.1 != b.2.2.1))||(a.2.2.2.2.2.1 != b.2.2.2.2.2.1))||(a.2.2.2.2.2.2.1 != b.2.2.2.2.2.2.1))||(a.2.2.2.2.2.2.2.1 != b.2.2.2.2.2.2.2.1))||(a.2.2.2.2.2.2.2.2.1 != b.2.2.2.2.2.2.2.2.1))=B at key⊢;rw[key];refine aw (λh=>aa ?_) λh=>?_;·rw[h];rfl
 rw[h,Bool.not_false,Y_];have d:a.2.2.2.1.length=b.2.2.2.1.length:=by simp at h;omega
 refine aj (B1 (N:=a.2.2.2.1.length) (good:=λi=>a.2.2.2.1[i]? =b.2.2.2.1[i]?) (e:=(false,())) (g:=()) (λi c=>?_) ?_ (λh=>?_) λh=>?_);·unfold oL;refine cE c (aW c (aW (by omega) (mV ?_ (by rw[aJ c f]))));rw[a_ c,a_ (by omega)];simp
 ·unfold oL;exact bO (aa rfl)
 ·refine ao (Io a.2.2.2.2.1 b.2.2.2.2.1 j) (aa ?_);rw[decide_eq_true (p:=a.2.2.2.1=b.2.2.2.1) (E_ λi=>?_),Y_];by_cases c:i<a.2.2.2.1.length;·exact h i c
  ·rw[j_ (by omega),j_ (by omega)]
 ·refine aa ?_;rw[decide_eq_false (p:=a.2.2.2.1=b.2.2.2.1)];·rfl
  ·intro e;obtain⟨i,_,h⟩:=h;rw[e]at h;exact h rfl
open Go Go.Av Go.Ev
theorem A0:aI tbl ny [] [] jR ((([([111,119,110],([(true,((167772160,(8,())),(8,(24,()))))],()))],([],([([98,108,117,101],([(true,(65000,((-1),())))],()))],([([105,109,112,111,114,116],([([102,105,114,115,116],([(1,([111,119,110],(0,((0,(0,())),(true,())))))],([(1,(200,(0,(0,(0,())))))],(1,()))))],(2,())))],()))))),()):=kH (m:=90) λk=>by kernel_rfl
theorem A1:aI tbl ir [.d (pr [(.list (pr [tS,(.list (pr [tB,(pr [tW,tI]),tI,tI]))])),(.list (pr [tS,(.list (pr [tB,tS]))])),(.list (pr [tS,(.list (pr [tB,tI,tI]))])),(.list (pr [tS,(.list (pr [tS,(.list (pr [tI,tS,tI,(pr [tW,tI]),tB])),(.list (pr [tI,tI,tI,tW,tW])),tI])),tI]))]) (([([111,119,110],([(true,((167772160,(8,())),(8,(24,()))))],()))],([],([([98,108,117,101],([(true,(65000,((-1),())))],()))],([([105,109,112,111,114,116],([([102,105,114,115,116],([(1,([111,119,110],(0,((0,(0,())),(true,())))))],([(1,(200,(0,(0,(0,())))))],(1,()))))],(2,())))],()))))),.d tS ([105,109,112,111,114,116]),.d (pr [(pr [tW,tI]),tI,tW,(.list tI),(.list tW),tI,tI,tI,tI]) (((2886729728,(12,())),(6,(0,([65001],([],(0,(0,(0,(0,()))))))))))] [] fZ (((true,(((2886729728,(12,())),(6,(0,([65001],([],(200,(0,(0,(0,()))))))))),()))),(0),()):=kH (m:=90) λk=>by kernel_rfl
theorem A2:aI tbl ir [.d (pr [(.list (pr [tS,(.list (pr [tB,(pr [tW,tI]),tI,tI]))])),(.list (pr [tS,(.list (pr [tB,tS]))])),(.list (pr [tS,(.list (pr [tB,tI,tI]))])),(.list (pr [tS,(.list (pr [tS,(.list (pr [tI,tS,tI,(pr [tW,tI]),tB])),(.list (pr [tI,tI,tI,tW,tW])),tI])),tI]))]) (([([111,119,110],([(true,((167772160,(8,())),(8,(24,()))))],()))],([],([([98,108,117,101],([(true,(65000,((-1),())))],()))],([([105,109,112,111,114,116],([([102,105,114,115,116],([(1,([111,119,110],(0,((0,(0,())),(true,())))))],([(1,(200,(0,(0,(0,())))))],(1,()))))],(2,())))],()))))),.d tS ([105,109,112,111,114,116]),.d (pr [(pr [tW,tI]),tI,tW,(.list tI),(.list tW),tI,tI,tI,tI]) (((167837696,(16,())),(6,(0,([65001],([],(0,(0,(0,(0,()))))))))))] [] fZ (((false,(((0,(0,())),(0,(0,([],([],(0,(0,(0,(0,()))))))))),()))),(0),()):=kH (m:=90) λk=>by kernel_rfl
theorem A3:aI tbl ir [.d (pr [(.list (pr [tS,(.list (pr [tB,(pr [tW,tI]),tI,tI]))])),(.list (pr [tS,(.list (pr [tB,tS]))])),(.list (pr [tS,(.list (pr [tB,tI,tI]))])),(.list (pr [tS,(.list (pr [tS,(.list (pr [tI,tS,tI,(pr [tW,tI]),tB])),(.list (pr [tI,tI,tI,tW,tW])),tI])),tI]))]) (([([111,119,110],([(true,((167772160,(8,())),(8,(24,()))))],()))],([],([([98,108,117,101],([(true,(65000,((-1),())))],()))],([([105,109,112,111,114,116],([([102,105,114,115,116],([(1,([111,119,110],(0,((0,(0,())),(true,())))))],([(1,(200,(0,(0,(0,())))))],(1,()))))],(2,())))],()))))),.d tS ([110,111,110,101]),.d (pr [(pr [tW,tI]),tI,tW,(.list tI),(.list tW),tI,tI,tI,tI]) (((167837696,(16,())),(6,(0,([65001],([],(0,(0,(0,(0,()))))))))))] [] fZ (((false,(((0,(0,())),(0,(0,([],([],(0,(0,(0,(0,()))))))))),()))),(6),()):=kH (m:=90) λk=>by kernel_rfl
theorem A4:aI tbl qH [.d (pr [(.list (pr [tS,(.list (pr [tB,(pr [tW,tI]),tI,tI]))])),(.list (pr [tS,(.list (pr [tB,tS]))])),(.list (pr [tS,(.list (pr [tB,tI,tI]))])),(.list (pr [tS,(.list (pr [tS,(.list (pr [tI,tS,tI,(pr [tW,tI]),tB])),(.list (pr [tI,tI,tI,tW,tW])),tI])),tI]))]) (([([111,119,110],([(true,((167772160,(8,())),(8,(24,()))))],()))],([],([([98,108,117,101],([(true,(65000,((-1),())))],()))],([([105,109,112,111,114,116],([([102,105,114,115,116],([(1,([111,119,110],(0,((0,(0,())),(true,())))))],([(1,(200,(0,(0,(0,())))))],(1,()))))],(2,())))],()))))),.d tS ([105,109,112,111,114,116]),.d (pr [(pr [tW,tI]),tI,tW,(.list tI),(.list tW),tI,tI,tI,tI]) (((2886729728,(12,())),(6,(0,([65001],([],(0,(0,(0,(0,()))))))))))] [] mT (([0]),(0),()):=kH (m:=90) λk=>by kernel_rfl
theorem A5:aI tbl qG [.d (pr [(.list (pr [tS,(.list (pr [tB,(pr [tW,tI]),tI,tI]))])),(.list (pr [tS,(.list (pr [tB,tS]))])),(.list (pr [tS,(.list (pr [tB,tI,tI]))])),(.list (pr [tS,(.list (pr [tS,(.list (pr [tI,tS,tI,(pr [tW,tI]),tB])),(.list (pr [tI,tI,tI,tW,tW])),tI])),tI]))]) (([([111,119,110],([(true,((167772160,(8,())),(8,(24,()))))],()))],([],([([98,108,117,101],([(true,(65000,((-1),())))],()))],([([105,109,112,111,114,116],([([102,105,114,115,116],([(1,([111,119,110],(0,((0,(0,())),(true,())))))],([(1,(200,(0,(0,(0,())))))],(1,()))))],(2,())))],()))))),.d (pr [tI,tS,tI,(pr [tW,tI]),tB]) ((1,([111,119,110],(0,((0,(0,())),(true,())))))),.d (pr [(pr [tW,tI]),tI,tW,(.list tI),(.list tW),tI,tI,tI,tI]) (((2886729728,(12,())),(6,(0,([65001],([],(0,(0,(0,(0,()))))))))))] [] mS ((true),(0),()):=kH (m:=90) λk=>by kernel_rfl
theorem A6:aI tbl jZ [.d (.list (pr [tI,tI,tI,tW,tW])) ([(8,(2,(7,(0,(0,())))))]),.d (pr [(pr [tW,tI]),tI,tW,(.list tI),(.list tW),tI,tI,tI,tI]) (((167837696,(16,())),(6,(0,([65001],([],(0,(0,(0,(0,()))))))))))] [] iA ((((167837696,(16,())),(6,(0,([7,7,65001],([],(0,(0,(0,(0,())))))))))),()):=kH (m:=90) λk=>by kernel_rfl
theorem A7:aI tbl d7 [.d (pr [(pr [tW,tI]),tI,tW,(.list tI),(.list tW),tI,tI,tI,tI]) (((167837696,(16,())),(6,(0,([65001],([],(0,(0,(0,(0,()))))))))))] [] br ((0),()):=kH (m:=90) λk=>by kernel_rfl
theorem A8:aI tbl d7 [.d (pr [(pr [tW,tI]),tI,tW,(.list tI),(.list tW),tI,tI,tI,tI]) (((0,(0,())),(0,(0,([],([],(0,(0,(0,(0,()))))))))))] [] br ((5),()):=kH (m:=90) λk=>by kernel_rfl
theorem A9:aI tbl dT [.d (pr [(pr [tW,tI]),tI,tW,(.list tI),(.list tW),tI,tI,tI,tI]) (((167837696,(16,())),(6,(0,([65001],([],(0,(0,(0,(0,())))))))))),.d (pr [(pr [tW,tI]),tI,tW,(.list tI),(.list tW),tI,tI,tI,tI]) (((167837696,(16,())),(6,(0,([65001],([],(0,(0,(0,(0,()))))))))))] [] c8 ((true),()):=kH (m:=90) λk=>by kernel_rfl
theorem WR:aI tbl dT [.d (pr [(pr [tW,tI]),tI,tW,(.list tI),(.list tW),tI,tI,tI,tI]) (((167837696,(16,())),(6,(0,([65001],([],(0,(0,(0,(0,())))))))))),.d (pr [(pr [tW,tI]),tI,tW,(.list tI),(.list tW),tI,tI,tI,tI]) (((2886729728,(12,())),(6,(0,([65001],([],(0,(0,(0,(0,()))))))))))] [] c8 ((false),()):=kH (m:=90) λk=>by kernel_rfl
theorem yy:aI tbl d9 [] [] cu (true,()):=by
 refine aA rfl (aE GO rfl (λO n=>G6 O n) ?_);unfold wQ;repeat first
  |refine ao A0 ?_
  |refine ao A1 ?_
  |refine ao A2 ?_
  |refine ao A3 ?_
  |refine ao A4 ?_
  |refine ao A5 ?_
  |refine ao A6 ?_
  |refine ao A7 ?_
  |refine ao A8 ?_
  |refine ao A9 ?_
  |refine ao WR ?_
  |refine aP rfl ?_
  |refine an rfl ?_
  |refine aa ?_
  |refine qU (by decide) rfl ?_
  |refine aj ?_
 rfl
theorem qB(r:vH):aI tbl gJ [.d Mq r] [] fk (decide ((r.2.2.2.1.length:Int)>2100)||decide ((r.2.2.2.2.1.length:Int)>600),()):=by refine aA rfl (aE GN rfl (λO n=>G5 O n r) ?_);unfold wP;exact aj (cI (λ_=>aa rfl) (aa rfl))
theorem HQ{r:vH}(h:(decide ((r.2.2.2.1.length:Int)>2100)||decide ((r.2.2.2.2.1.length:Int)>600))=false):r.2.2.2.1.length<=2100/\r.2.2.2.2.1.length<=600:=by simp only[y_,decide_eq_false_iff_not]at h;omega
end Go.Proofs.YthjnceggmnicmaaGreatDoor
