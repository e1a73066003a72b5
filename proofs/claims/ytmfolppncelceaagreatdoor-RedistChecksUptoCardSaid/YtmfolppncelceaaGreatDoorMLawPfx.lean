import Derived.Test.YtmfolppncelceaaGreatDoorMPlPfx
import Derived.Test.YtmfolppncelceaaGreatDoorMGlueB
import Derived.Test.YtmfolppncelceaaGreatDoorML7
set_option linter.unusedVariables false
set_option linter.unusedSimpArgs false
open Bool renaming and_eq_true->n_,or_eq_false_iff->F_,and_eq_false_iff->Q_,or_eq_true->V_,true_and->aa_
open Classical renaming byContradiction->f_,choose_spec->m_,choose->B_,not_not->af_
open Int renaming eq_ofNat_of_zero_le->s_,toNat->u_,natCast_nonneg->y_,toNat_natCast->A_,toNat_of_nonneg->H_,tdiv_eq_ediv_of_nonneg->K_,le_refl->N_
open Go.IntKind renaming wrap->c_,bits->P_
open List renaming length_map->a_,getElem_mem->b_,getElem?_eq_getElem->d_,length_append->e_,take_of_length_le->g_,length_take->h_,length_singleton->i_,mem_cons_self->j_,length_nil->l_,mem_cons_of_mem->o_,drop_eq_nil_of_le->p_,length_cons->q_,length_eq_one_iff->t_,take_length->v_,take_succ_cons->w_,mem_append->x_,all_eq_true->C_,getElem_map->D_,map_cons->E_,nil_append->G_,getD->J_,take_take->L_,getElem?_eq_some_iff->M_,sum_cons->O_,getElem?_eq_none->R_,mem_singleton->S_,any_map->T_,take_add_one->U_,map_append->W_,drop_take->X_,drop_zero->Y_,mem_cons->ab_,length->ad_
open Nat renaming le_refl->r_,zero_le->z_,le_of_lt->I_,mod_lt->Z_,le_trans->ac_
open Option renaming bind->k_
open Prod renaming ext->ae_
namespace Go.Proofs.YtmfolppncelceaaGreatDoor
open Go Go.Av Go.Ev Go.Pl
abbrev Bl(x:Int):Prop:=0<=x/\x<=4294967295
theorem Jv(n m:Int):aE tbl pZ [.d tI n,.d tI m] [] mQ (min (max n 0) m,()):=
 aB rfl (aC KA rfl (λO k=>KM O k n m) (aa rfl))
theorem K5(n m:Int):aE tbl rE [.d tI n,.d tI m] [] pg (min (max n 0) m,()):=
 aB rfl (aC MY rfl (λO k=>M7 O k n m) (aa rfl))
theorem F3(k:Nat):(2:Int)^k=((2^k:Nat):Int):=by
 induction k with
 |zero=>rfl
 |succ k ih=>rw[Int.pow_succ,ih,Nat.pow_succ];rfl
theorem K2(n:Nat)(hn:n<=32):aE tbl rC [.d tI (n:Int)] [] pf (((4294967295*2^(32 - n)%4294967296:Nat):Int),()):=by
 refine aB rfl (aC MX rfl (λO k=>M6 O k (n:Int)) ?_)
 unfold C7
 refine an (Jv (n:Int) 32) ?_
 have e:c_ .i64 (32 - min (max (n:Int) 0) 32)=((32 - n:Nat):Int):=by
  rw[wrap_i64 (by omega) (by omega)];omega
 refine aN (by simp only[e];exact decide_eq_true (by omega)) (aa ?_)
 simp only[e]
 rw[show min (u_ ((32 - n:Nat):Int)) (P_ .u32)=32 - n from by show min _ 32=_;omega,wrap_u32,F3]
 rfl
theorem K1(x n:Int)(hx:Bl x)(h0:0<=n)(h1:n<=32):aE tbl rB [.d tW x,.d tI n] [] pd (L4 x n,()):=by
 obtain⟨a,rfl⟩:=s_ hx.1
 obtain⟨k,rfl⟩:=s_ h0
 refine aB rfl (aC MW rfl (λO m=>M5 O m (a:Int) (k:Int)) ?_)
 unfold C6
 refine an (K2 k (by omega)) (aa ?_)
 rw[Lr (by have:=hx.2;omega) (Z_ _ (by decide)),Qx (by have:=hx.2;omega) (by omega)]
 rfl
theorem Nf(x i:Nat)(hx:x<=4294967295)(hi:i<32):aE tbl ti [.d tW (x:Int),.d tI (i:Int)] [] nF (((x/2^(31 - i)%2:Nat):Int),()):=by
 refine aB rfl (aC OC rfl (λO k=>OI O k (x:Int) (i:Int)) ?_)
 unfold ER
 refine ak (cf (b:=false) (λ_=>aa (decide_eq_false (by omega))) ?_)
 rw[decide_eq_false (show ¬(i:Int)<0 by omega)]
 have e:c_ .u64 (c_ .i64 (31 - (i:Int)))=((31 - i:Nat):Int):=by
  rw[wrap_i64 (by omega) (by omega),wrap_u64];omega
 refine ao rfl (aN (by simp only[e];exact decide_eq_true (by omega)) (aa ?_))
 simp only[e]
 rw[show min (u_ ((31 - i:Nat):Int)) (P_ .u32)=31 - i from by show min _ 32=_;omega,F3,Int.fdiv_eq_ediv_of_nonneg _ (y_ _)]
 have e2:(x:Int)/((2^(31 - i):Nat):Int)=((x/2^(31 - i):Nat):Int):=rfl
 have h2:x/2^(31 - i)<=x:=Nat.div_le_self _ _
 rw[e2,show(1:Int)=((1:Nat):Int)from rfl,Lr (by omega) (by decide),Nat.and_one_is_mod]
 have:x/2^(31 - i)%2<2:=Z_ _ (by decide)
 rw[wrap_i64 (by omega) (by omega)]
theorem Jy(x n:Int)(hx:Bl x)(h0:0<=n)(h1:n<=32):aE tbl p5 [.d tW x,.d tI n] [] mU (L4 x n,()):=by
 obtain⟨a,rfl⟩:=s_ hx.1
 obtain⟨k,rfl⟩:=s_ h0
 have ha:a<4294967296:=by have:=hx.2;omega
 refine aB rfl (aC KB rfl (λO m=>KN O m (a:Int) (k:Int)) ?_)
 unfold Al
 refine an (K5 (k:Int) 32) ?_
 have e:min (max (k:Int) 0) 32=(k:Int):=by omega
 rw[e]
 refine ak (dI (N:=k) (I:=λi s=>s=(((uU a i:Nat):Int),(i:Int),())) (by rw[Qz ha];rfl) (λi s hi hs=>?_) λs hs=>?_)
 ·subst hs
  unfold qB
  refine cm hi (an (Nf a i (by omega) (by omega)) ?_)
  have e:c_ .u64 (c_ .i64 (31 - (i:Int)))=((31 - i:Nat):Int):=by
   rw[wrap_i64 (by omega) (by omega),wrap_u64];omega
  refine aN (by simp only[e];exact decide_eq_true (by omega)) (aa ?_)
  simp only[e]
  have hb:a/2^(31 - i)%2<2:=Z_ _ (by decide)
  have hp:(a/2^(31 - i)%2)*2^(31 - i)<4294967296:=by
   have h1:(a/2^(31 - i)%2)*2^(31 - i)<=1*2^31:=Nat.mul_le_mul (by omega) (Nat.pow_le_pow_right (by decide) (by omega))
   omega
  have e3:c_ .u32 (c_ .u32 ((a/2^(31 - i)%2:Nat):Int)*2^(min (u_ ((31 - i:Nat):Int)) (P_ .u32)))=(((a/2^(31 - i)%2)*2^(31 - i):Nat):Int):=by
   rw[show min (u_ ((31 - i:Nat):Int)) (P_ .u32)=31 - i from by show min _ 32=_;omega,F3,wrap_u32,wrap_u32]
   have h4:((a/2^(31 - i)%2:Nat):Int)%4294967296=((a/2^(31 - i)%2:Nat):Int):=by omega
   rw[h4,<-Int.natCast_mul]
   omega
  rw[e3,T6 (Nat.lt_of_le_of_lt (Sp a i) ha) hp,<-Qy a (by omega),aL (n:=32) (by omega) (by decide)]
 ·subst hs
  unfold qB
  exact bF (aa (aa rfl))
theorem vB(p:TX)(hp:Bl p.1):aE tbl jh [.d yP p] [] gE (ut p,()):=by
 refine aB rfl (aC Gr rfl (λO n=>GL O n p) ?_)
 unfold vH
 refine ak (bX (b:=decide (p.2.1<=32)) (λ_=>aa rfl) ?_)
 refine ak (bX (b:=(L4 p.1 p.2.1==p.1)) (λh=>?_) (aa rfl))
 simp only[n_,decide_eq_true_eq]at h
 exact an (K1 p.1 p.2.1 hp h.1 h.2) (aa rfl)
theorem nN(p:TX)(hp:Bl p.1):aE tbl ko [.d yP p] [] iA (ut p,()):=by
 refine aB rfl (aC H7 rfl (λO n=>Ir O n p) ?_)
 unfold yw
 refine ak (bX (b:=decide (p.2.1<=32)) (λ_=>aa rfl) ?_)
 refine ak (bX (b:=(L4 p.1 p.2.1==p.1)) (λh=>?_) (aa rfl))
 simp only[n_,decide_eq_true_eq]at h
 exact an (Jy p.1 p.2.1 hp h.1 h.2) (aa rfl)
theorem GX(r:V9)(hr:Bl r.2.1.1):aE tbl nP [.d yR r] [] fW (jT r,()):=by
 refine aB rfl (aC H5 rfl (λO n=>Ip O n r) ?_)
 unfold yt
 refine an (vB r.2.1 hr) (ap (λh=>aa ?_) λh=>?_)
 ·unfold jT
  rw[if_pos (by simpa using h)]
 ·have hv:¬ut r.2.1=false:=by simpa using h
  refine ak (cf (b:=decide (r.2.2.2.1<r.2.2.1)) (λ_=>aa rfl) (ak (cf (b:=decide (r.2.2.2.1>32)) (λ_=>aa rfl) ?_)))
  refine ap (λh=>aa ?_) λh=>aa ?_
  ·unfold jT
   rw[if_neg hv,if_pos (by simpa[or_assoc]using h)]
  ·unfold jT
   rw[if_neg hv,if_neg]
   intro h'
   simp only[F_,decide_eq_false_iff_not]at h
   omega
theorem G3(r:V9)(hr:Bl r.2.1.1):aE tbl ku [.d yR r] [] eJ (jT r,()):=by
 refine aB rfl (aC Ib rfl (λO n=>Iv O n r) ?_)
 unfold yB
 refine an (nN r.2.1 hr) (ap (λh=>aa ?_) λh=>?_)
 ·unfold jT
  rw[if_pos (by simpa using h)]
 ·have hv:¬ut r.2.1=false:=by simpa using h
  refine ak (cf (b:=decide (r.2.2.2.1<r.2.2.1)) (λ_=>aa rfl) (ak (cf (b:=decide (r.2.2.2.1>32)) (λ_=>aa rfl) ?_)))
  refine ap (λh=>aa ?_) λh=>aa ?_
  ·unfold jT
   rw[if_neg hv,if_pos (by simpa[or_assoc]using h)]
  ·unfold jT
   rw[if_neg hv,if_neg]
   intro h'
   simp only[F_,decide_eq_false_iff_not]at h
   omega
end Go.Proofs.YtmfolppncelceaaGreatDoor
namespace Go.Pl
open Go.Ev
open Go Go.Ev Go.Lib
def hd(t:List UInt8):Nat:=(t.headD 0).toNat
def pk(s:List UInt8)(i:Nat):Nat:=(s.getD i 0).toNat
theorem mP(s:List UInt8)(i:Nat):pk s i=hd (s.drop i):=by
 unfold pk hd
 rw[List.headD_eq_head?_getD,List.head?_drop];rfl
theorem cM{s:List UInt8}{i:Nat}(h:pk s i≠0):i<s.length:=by
 apply f_
 intro hn
 apply h
 unfold pk
 rw[J_,R_ (by omega)];rfl
theorem F2{s:List UInt8}{i:Nat}(h:i<s.length):pk s i=s[i].toNat:=by
 unfold pk
 rw[J_,d_ h];rfl
theorem SR{s:List UInt8}{i:Nat}(h:¬i<s.length):pk s i=0:=by
 unfold pk
 rw[J_,R_ (by omega)];rfl
theorem iq{s a t:List UInt8}{i:Nat}(h:s.drop i=a++t):s.drop (i+a.length)=t:=by
 rw[<-List.drop_drop,h,List.drop_left]
theorem wa{s t:List UInt8}{b:UInt8}{i:Nat}(h:s.drop i=b::t):s.drop (i+1)=t:=iq (a:=[b]) h
theorem J9{a t:List UInt8}(h:a≠[]):hd (a++t)=hd a:=by
 cases a with
 |nil=>exact absurd rfl h
 |cons b a=>rfl
def dg(c:Nat):Prop:=48<=c/\c<=57
section
variable (num:Nat->Option (Int×Nat)) (s:List UInt8)
def dM(alt:Nat->Option (Rx×Nat))(i:Nat):Option (Rx×Nat):=
 if pk s i=46 then some (.mk 2 0 0 [],i+1)
 else if pk s i=33 then some (.mk 4 0 0 [],i+1)
 else if pk s i=91 then
  match num (i+1)with
  |none=>none
  |some (lo,j)=>if pk s j=45 then(match num (j+1)with
   |none=>none
   |some (up,k)=>if pk s k=93 then some (.mk 1 lo up [],k+1)else none)else none
 else if pk s i=40 then
  if pk s (i+1)=41 then some (.mk 0 0 0 [],i+2)else
  match alt (i+1)with
  |none=>none
  |some (r,j)=>if pk s j=41 then some (r,j+1)else none
 else match num i with
  |none=>none
  |some (n,j)=>some (.mk 1 n n [],j)
def Bm(alt:Nat->Option (Rx×Nat))(i:Nat):Option (Rx×Nat):=
 match dM num s alt i with
 |none=>none
 |some (r,j)=>if pk s j=42 then some (.mk 5 0 0 [r],j+1)else if pk s j=43 then some (.mk 6 0 0 [r],j+1)else if pk s j=63 then some (.mk 7 0 0 [r],j+1)else some (r,j)
def eU(sep:Nat)(one:Nat->Option (Rx×Nat)):Nat->List Rx->Nat->Option (List Rx×Nat)
 |0,_,_=>none
 |f+1,acc,i=>match one i with
  |none=>none
  |some (r,j)=>if pk s j=sep then eU sep one f (acc++[r]) (j+1)else some (acc++[r],j)
def Qw(k:Int)(l:List Rx):Rx:=match l with
 |[x]=>x
 |l=>.mk k 0 0 l
def vh(sep:Nat)(k:Int)(one:Nat->Option (Rx×Nat))(i:Nat):Option (Rx×Nat):=match eU s sep one (s.length+1 - i) [] i with
 |none=>none
 |some (l,j)=>some (Qw k l,j)
def QN(alt:Nat->Option (Rx×Nat))(i:Nat):Option (Rx×Nat):=vh s 32 3 (Bm num s alt) i
def zU:Nat->Nat->Option (Rx×Nat)
 |0,_=>none
 |b+1,i=>vh s 124 4 (QN num s (zU b)) i
end
structure NumOk(s:List UInt8)(num:Nat->Option (Int×Nat)):Prop where
 bnd:∀i n j,i<=s.length->num i=some (n,j)->i<j/\j<=s.length
 txt:∀i (m:Nat) t,s.drop i=decDigits m++t->m<=4294967295->¬dg (hd t)->num i=some ((m:Int),i+(decDigits m).length)
def M9(s:List UInt8)(one:Nat->Option (Rx×Nat)):Prop:=∀i r j,i<=s.length->one i=some (r,j)->i<j/\j<=s.length/\sz r<=j - i
section
variable {num:Nat->Option (Int×Nat)} {s:List UInt8}
theorem R0(hn:NumOk s num){alt:Nat->Option (Rx×Nat)}(ha:M9 s alt):M9 s (dM num s alt):=by
 intro i r j hi h
 unfold dM at h
 have one:sz (.mk 0 0 0 [])=1:=rfl
 split at h
 ·rename_i h1
  have:=cM (s:=s) (i:=i) (by omega)
  cases h;refine⟨by omega,by omega,?_⟩;show 1<=_;omega
 split at h
 ·have:=cM (s:=s) (i:=i) (by omega)
  cases h;refine⟨by omega,by omega,?_⟩;show 1<=_;omega
 split at h
 ·have:=cM (s:=s) (i:=i) (by omega)
  split at h
  ·cases h
  rename_i lo a e
  have b1:=hn.bnd _ _ _ (by omega) e
  split at h
  ·have:=cM (s:=s) (i:=a) (by omega)
   split at h
   ·cases h
   rename_i up b e2
   have b2:=hn.bnd _ _ _ (by omega) e2
   split at h
   ·have:=cM (s:=s) (i:=b) (by omega)
    cases h;refine⟨by omega,by omega,?_⟩;show 1<=_;omega
   ·cases h
  ·cases h
 split at h
 ·have:=cM (s:=s) (i:=i) (by omega)
  split at h
  ·have:=cM (s:=s) (i:=i+1) (by omega)
   cases h;refine⟨by omega,by omega,?_⟩;show 1<=_;omega
  split at h
  ·cases h
  rename_i r2 a e
  obtain⟨b1,b2,b3⟩:=ha _ _ _ (by omega) e
  split at h
  ·have:=cM (s:=s) (i:=a) (by omega)
   cases h;exact⟨by omega,by omega,by omega⟩
  ·cases h
 split at h
 ·cases h
 rename_i n a e
 have b1:=hn.bnd _ _ _ hi e
 cases h;refine⟨by omega,by omega,?_⟩;show 1<=_;omega
theorem vU(hn:NumOk s num){alt:Nat->Option (Rx×Nat)}(ha:M9 s alt):M9 s (Bm num s alt):=by
 intro i r j hi h
 unfold Bm at h
 split at h
 ·cases h
 rename_i r2 a e
 obtain⟨b1,b2,b3⟩:=R0 hn ha _ _ _ hi e
 have hs:∀k:Int,sz (.mk k 0 0 [r2])=sz r2+1:=λk=>by simp only[sz,wE];omega
 split at h
 ·have:=cM (s:=s) (i:=a) (by omega)
  cases h;rw[hs];exact⟨by omega,by omega,by omega⟩
 split at h
 ·have:=cM (s:=s) (i:=a) (by omega)
  cases h;rw[hs];exact⟨by omega,by omega,by omega⟩
 split at h
 ·have:=cM (s:=s) (i:=a) (by omega)
  cases h;rw[hs];exact⟨by omega,by omega,by omega⟩
 ·cases h;exact⟨b1,b2,b3⟩
theorem Ls{one:Nat->Option (Rx×Nat)}(ho:M9 s one){sep:Nat}(h0:sep≠0):∀(f:Nat) (acc:List Rx) (i:Nat) (l:List Rx) (j:Nat),i<=s.length->eU s sep one f acc i=some (l,j)->
 i<j/\j<=s.length/\wE l+l.length<=wE acc+acc.length+(j - i)+1/\acc.length<l.length
 |0,_,_,_,_,_,h=>by simp[eU]at h
 |f+1,acc,i,l,j,hi,h=>by
  rw[eU]at h
  split at h
  ·cases h
  rename_i r a e
  obtain⟨b1,b2,b3⟩:=ho _ _ _ hi e
  have e1:wE (acc++[r])=wE acc+sz r:=by rw[Kz];simp[wE]
  split at h
  ·have:=cM (s:=s) (i:=a) (by omega)
   obtain⟨c1,c2,c3,c4⟩:=Ls ho h0 f _ _ _ _ (by omega) h
   rw[e1,e_,i_]at c3
   rw[e_,i_]at c4
   exact⟨by omega,by omega,by omega,by omega⟩
  ·cases h
   rw[e1,e_,i_]
   exact⟨by omega,by omega,by omega,by omega⟩
theorem XC{one:Nat->Option (Rx×Nat)}(ho:M9 s one){sep:Nat}(h0:sep≠0)(k:Int):M9 s (vh s sep k one):=by
 intro i r j hi h
 unfold vh at h
 split at h
 ·cases h
 rename_i l a e
 obtain⟨b1,b2,b3,b4⟩:=Ls ho h0 _ _ _ _ _ hi e
 cases h
 refine⟨b1,b2,?_⟩
 unfold Qw
 split
 ·simp[wE]at b3;omega
 ·rename_i hne
  have:2<=l.length:=by
   match l,hne,b4 with
   |[],_,b4=>simp at b4
   |[x],hne,_=>exact absurd rfl (hne x)
   |x::y::l,_,_=>simp
  simp only[sz]
  simp[wE]at b3
  omega
theorem AB(hn:NumOk s num):∀b:Nat,M9 s (zU num s b)
 |0=>λi r j _ h=>by simp[zU]at h
 |b+1=>λi r j hi h=>by
  rw[zU]at h
  exact XC (one:=QN num s (zU num s b)) (λi r j hi h=>XC (one:=Bm num s (zU num s b)) (vU hn (AB hn b)) (by decide) 3 i r j hi h) (by decide) 4 i r j hi h
end
mutual
def KZ:Rx->Nat
 | .mk _ _ _ ks=>1+NE ks
def NE:List Rx->Nat
 |[]=>0
 |r::rs=>max (KZ r) (NE rs)
end
theorem Et:∀{ks:List Rx} {r:Rx},r∈ks->KZ r<=NE ks
 |x::ks,r,h=>by
  simp only[NE]
  rcases ab_.1 h with rfl|h
  ·omega
  ·have:=Et h;omega
theorem Sb(w:Bool)(l t:List UInt8):tN w l++t=bif w then 40::(l++41::t)else l++t:=by
 cases w<;>simp[tN]
def fst(c:Nat):Prop:=dg c\/c=46\/c=33\/c=91\/c=40
theorem Ff(n:Nat):decDigits n≠[]/\dg (hd (decDigits n)):=by
 have h:=Fe n
 have hd0:=AL n
 cases e:decDigits n with
 |nil=>rw[e]at h;simp at h
 |cons b l=>
  rw[e]at hd0
  exact⟨by simp,hd0 b (by simp)⟩
theorem EE:∀(r:Rx),iw r=true->ff r≠[]/\fst (hd (ff r)):=by
 refine sg λk lo up ks ih hw=>?_
 obtain⟨hn,hks⟩:=well_iff.1 hw
 have hin:∀p:Int,∀x∈ks,iK p x≠[]/\fst (hd (iK p x)):=λp x hx=>by
  obtain⟨h1,h2⟩:=ih x hx (hks x hx)
  unfold iK tN
  cases pm p x
  ·exact⟨h1,h2⟩
  ·exact⟨by simp,.inr (.inr (.inr (.inr rfl)))⟩
 have hh:∀p:Int,∀t:List UInt8,ks≠[]->(ks.map (iK p)).headD []++t≠[]/\fst (hd ((ks.map (iK p)).headD []++t)):=λp t h=>by
  cases ks with
  |nil=>exact absurd rfl h
  |cons x l=>
   obtain⟨h1,h2⟩:=hin p x (j_ ..)
   simp only[E_,List.headD_cons]
   rw[J9 h1]
   exact⟨by simp[h1],h2⟩
 have hj:∀p:Int,∀c:UInt8,ks≠[]->jn c (ks.map (iK p))≠[]/\fst (hd (jn c (ks.map (iK p)))):=λp c h=>by
  cases ks with
  |nil=>exact absurd rfl h
  |cons x l=>
   obtain⟨h1,h2⟩:=hin p x (j_ ..)
   cases l with
   |nil=>exact⟨h1,h2⟩
   |cons y l=>
    simp only[E_,jn]
    rw[J9 h1]
    exact⟨by simp[h1],h2⟩
 have hne:(k=5\/k=6\/k=7)->ks≠[]:=λh e=>by
  have:=hn.one h
  rw[e]at this;simp at this
 have hne3:k=3->ks≠[]:=λh e=>by
  have:=hn.seq h
  rw[e]at this;simp at this
 simp only[ff,c9]
 split
 ·exact⟨by simp,.inr (.inr (.inr (.inr rfl)))⟩
 split
 ·exact⟨by simp,.inr (.inl rfl)⟩
 split
 ·split
  ·exact⟨(Ff _).1,.inl (Ff _).2⟩
  ·exact⟨by simp,.inr (.inr (.inr (.inl rfl)))⟩
 split
 ·exact hh 5 _ (hne (by omega))
 split
 ·exact hh 6 _ (hne (by omega))
 split
 ·exact hh 7 _ (hne (by omega))
 split
 ·split
  ·exact⟨by simp,.inr (.inr (.inl rfl))⟩
  ·rename_i h;exact hj 4 124 h
 ·rcases hn.known with h|h|h|h|h|h|h|h<;>try exact absurd h (by assumption)
  exact hj 3 32 (hne3 h)
def comp:Rx->Bool
 | .mk k _ _ ks=>bif k==4 then !ks.isEmpty else(k==3||k==5||k==6||k==7)
def Fb:Rx->Bool
 | .mk k _ _ ks=>bif k==4 then !ks.isEmpty else k==3
def Fc:Rx->Bool
 | .mk k _ _ ks=>bif k==4 then !ks.isEmpty else false
section
variable {num:Nat->Option (Int×Nat)} {s:List UInt8}
theorem OU(hn:NumOk s num){alt:Nat->Option (Rx×Nat)}{r:Rx}(hw:iw r=true)
 (ha:comp r=true->∀i t,s.drop i=ff r++t->(hd t=0\/hd t=41)->alt i=some (r,i+(ff r).length)) {i:Nat} {t:List UInt8}
 (h:s.drop i=tN (comp r) (ff r)++t) (hf:¬dg (hd t)):dM num s alt i=some (r,i+(tN (comp r) (ff r)).length):=by
 cases hc:comp r with
 |true=>
  rw[hc,Sb]at h
  have h:s.drop i=40::(ff r++41::t):=h
  have p0:pk s i=40:=by rw[mP,h];rfl
  have h1:=wa h
  obtain⟨f1,f2⟩:=EE r hw
  have p1:pk s (i+1)≠41:=by
   rw[mP,h1,J9 f1]
   intro e
   rw[e]at f2
   revert f2;unfold fst dg;omega
  have h2:=ha hc (i+1) (41::t) h1 (.inr rfl)
  have p2:pk s (i+1+(ff r).length)=41:=by rw[mP,iq h1];rfl
  unfold dM
  rw[if_neg (by omega),if_neg (by omega),if_neg (by omega),if_pos p0,if_neg p1,h2]
  simp only
  rw[if_pos p2]
  simp[tN];omega
 |false=>
  rw[hc]at h
  have h:s.drop i=ff r++t:=h
  show _=some (r,i+(ff r).length)
  obtain⟨k,lo,up,ks⟩:=r
  obtain⟨nd,hks⟩:=well_iff.1 hw
  rcases nd.known with rfl|rfl|rfl|rfl|rfl|rfl|rfl|rfl
  ·have e:=len_nil (nd.leaf (by simp));subst e
   obtain⟨rfl,rfl⟩:=nd.zero (by decide)
   have h:s.drop i=40::41::t:=h
   have p0:pk s i=40:=by rw[mP,h];rfl
   have p1:pk s (i+1)=41:=by rw[mP,wa h];rfl
   unfold dM
   rw[if_neg (by omega),if_neg (by omega),if_neg (by omega),if_pos p0,if_pos p1];rfl
  ·have e:=len_nil (nd.leaf (by simp));subst e
   obtain⟨r1,r2,r3⟩:=nd.rng rfl
   by_cases hl:lo=up
   ·subst hl
    have ep:ff (.mk 1 lo lo [])=decDigits lo.toNat:=by simp[ff]
    rw[ep]at h⊢
    obtain⟨d1,d2⟩:=Ff lo.toNat
    have p0:dg (pk s i):=by rw[mP,h,J9 d1];exact d2
    unfold dg at p0
    have hm:=hn.txt i lo.toNat t h (by omega) hf
    unfold dM
    rw[if_neg (by omega),if_neg (by omega),if_neg (by omega),if_neg (by omega),hm]
    simp only
    rw[H_ r1]
   ·have ep:ff (.mk 1 lo up [])=91::(decDigits lo.toNat++45::(decDigits up.toNat++[93])):=by simp[ff,hl]
    rw[ep]at h⊢
    have h:s.drop i=91::(decDigits lo.toNat++45::(decDigits up.toNat++93::t)):=by rw[h];simp
    have p0:pk s i=91:=by rw[mP,h];rfl
    have h1:=wa h
    have m1:=hn.txt _ lo.toNat _ h1 (by omega) (by show ¬dg 45;unfold dg;omega)
    have h2:=iq h1
    have p2:pk s (i+1+(decDigits lo.toNat).length)=45:=by rw[mP,h2];rfl
    have h3:=wa h2
    have m2:=hn.txt _ up.toNat _ h3 (by omega) (by show ¬dg 93;unfold dg;omega)
    have p3:pk s (i+1+(decDigits lo.toNat).length+1+(decDigits up.toNat).length)=93:=by rw[mP,iq h3];rfl
    unfold dM
    rw[if_neg (by omega),if_neg (by omega),if_pos p0,m1]
    simp only
    rw[if_pos p2,m2]
    simp only
    rw[if_pos p3,H_ r1,H_ (by omega)]
    simp;omega
  ·have e:=len_nil (nd.leaf (by simp));subst e
   obtain⟨rfl,rfl⟩:=nd.zero (by decide)
   have h:s.drop i=46::t:=h
   have p0:pk s i=46:=by rw[mP,h];rfl
   unfold dM
   rw[if_pos p0];rfl
  ·exact absurd hc (by simp[comp])
  ·obtain⟨rfl,rfl⟩:=nd.zero (by decide)
   have e:ks=[]:=by simpa[comp]using hc
   subst e
   have h:s.drop i=33::t:=by rw[h];simp[ff]
   have p0:pk s i=33:=by rw[mP,h];rfl
   unfold dM
   rw[if_neg (by omega),if_pos p0];simp[ff]
  ·exact absurd hc (by simp[comp])
  ·exact absurd hc (by simp[comp])
  ·exact absurd hc (by simp[comp])
def f2(c:Nat):Prop:=c=0\/c=41\/c=124\/c=32
def Rp(s:List UInt8)(alt:Nat->Option (Rx×Nat))(b:Nat):Prop:=∀r,iw r=true->KZ r<=b->∀i t,s.drop i=ff r++t->(hd t=0\/hd t=41)->alt i=some (r,i+(ff r).length)
theorem Pn(hn:NumOk s num){alt:Nat->Option (Rx×Nat)}{b:Nat}(ha:Rp s alt b){r:Rx}(hw:iw r=true)(hb:KZ r<=b+1)(hb2:Fb r=true->KZ r<=b){i:Nat}{t:List UInt8}
 (h:s.drop i=iK 3 r++t) (hf:f2 (hd t)):Bm num s alt i=some (r,i+(iK 3 r).length):=by
 obtain⟨k,lo,up,ks⟩:=r
 obtain⟨nd,hks⟩:=well_iff.1 hw
 have hnd:¬dg (hd t):=by unfold f2 at hf;unfold dg;omega
 by_cases hk:k=5\/k=6\/k=7
 ·obtain⟨x,rfl⟩:=tZ (nd.one hk)
  obtain⟨rfl,rfl⟩:=nd.zero (by omega)
  have hx:x∈[x]:=j_ ..
  have hd1:=Et hx
  have hdx:KZ x<=b:=by simp only[KZ]at hb;omega
  have hwr:∀p:Int,(p=5\/p=6\/p=7)->iK p x=tN (comp x) (ff x):=λp hp=>by
   obtain⟨a,_,_,l⟩:=x
   unfold iK
   have:((p==5||p==6)||p==7)=true:=by simp;omega
   simp only[pm,comp,this,Bool.and_true]
   have h3:(p != 4)=true:=by simp;omega
   rw[h3]
   cases(a==4)<;>cases(a==3)<;>simp
  have hsg:∃c:UInt8,iK 3 (.mk k 0 0 [x])=tN (comp x) (ff x)++[c]/\(c.toNat=42/\k=5\/c.toNat=43/\k=6\/c.toNat=63/\k=7):=by
   rcases hk with rfl|rfl|rfl
   ·refine⟨42,?_,by decide⟩
    show ff (.mk 5 0 0 [x])=_
    simp[ff,c9,hwr]
   ·refine⟨43,?_,by decide⟩
    show ff (.mk 6 0 0 [x])=_
    simp[ff,c9,hwr]
   ·refine⟨63,?_,by decide⟩
    show ff (.mk 7 0 0 [x])=_
    simp[ff,c9,hwr]
  obtain⟨c,e,hc⟩:=hsg
  rw[e]at h⊢
  have h:s.drop i=tN (comp x) (ff x)++c::t:=by rw[h];simp
  have ha1:=OU hn (hks x hx) (λ_=>ha x (hks x hx) hdx) h (by show ¬dg c.toNat;unfold dg;omega)
  have p1:pk s (i+(tN (comp x) (ff x)).length)=c.toNat:=by rw[mP,iq h];rfl
  unfold Bm
  rw[ha1]
  simp only[p1,e_,i_]
  rcases hc with⟨hc,rfl⟩|⟨hc,rfl⟩|⟨hc,rfl⟩<;>simp[hc]<;>omega
 ·have e:iK 3 (.mk k lo up ks)=tN (comp (.mk k lo up ks)) (ff (.mk k lo up ks)):=by
   unfold iK
   simp only[pm,comp]
   have h5:(k==5)=false:=by simp;omega
   have h6:(k==6)=false:=by simp;omega
   have h7:(k==7)=false:=by simp;omega
   rw[h5,h6,h7]
   cases(k==4)<;>cases(k==3)<;>simp
  have e2:comp (.mk k lo up ks)=Fb (.mk k lo up ks):=by
   simp only[comp,Fb]
   have h5:(k==5)=false:=by simp;omega
   have h6:(k==6)=false:=by simp;omega
   have h7:(k==7)=false:=by simp;omega
   rw[h5,h6,h7]
   cases(k==4)<;>cases(k==3)<;>simp
  rw[e]at h⊢
  have ha1:=OU hn hw (λhc=>ha _ hw (hb2 (by rw[<-e2];exact hc))) h hnd
  have p1:pk s (i+(tN (comp (.mk k lo up ks)) (ff (.mk k lo up ks))).length)=hd t:=by rw[mP,iq h]
  unfold Bm
  rw[ha1]
  unfold f2 at hf
  simp only[p1]
  rw[if_neg (by omega),if_neg (by omega),if_neg (by omega)]
theorem Kg{one:Nat->Option (Rx×Nat)}{f:Rx->List UInt8}{sep:UInt8}{E:Nat->Prop}:∀(ks:List Rx),ks≠[]->
 (∀x∈ks,∀i t,s.drop i=f x++t->(E (hd t)\/hd t=sep.toNat)->one i=some (x,i+(f x).length))->
 (∀x∈ks,f x≠[])->∀(fu:Nat) (acc:List Rx) (i:Nat) (t:List UInt8),s.drop i=jn sep (ks.map f)++t->E (hd t)->hd t≠sep.toNat->s.length+1<=fu+i->i<=s.length->
 eU s sep.toNat one fu acc i=some (acc++ks,i+(jn sep (ks.map f)).length)
 |[],h,_,_,_,_,_,_,_,_,_,_,_=>absurd rfl h
 |[x],_,ho,hne,fu,acc,i,t,h,he,hs,hf,hi=>by
  have h:s.drop i=f x++t:=h
  have h1:=ho x (by simp) i t h (.inl he)
  obtain⟨m,rfl⟩:∃m,fu=m+1:=⟨fu - 1,by omega⟩
  have p1:pk s (i+(f x).length)=hd t:=by rw[mP,iq h]
  rw[eU,h1]
  simp only
  rw[if_neg (by rw[p1];exact hs)]
  rfl
 |x::y::ks,_,ho,hne,fu,acc,i,t,h,he,hs,hf,hi=>by
  have h:s.drop i=f x++sep::(jn sep ((y::ks).map f)++t):=by rw[h];simp[jn]
  have h1:=ho x (by simp) i _ h (.inr rfl)
  obtain⟨m,rfl⟩:∃m,fu=m+1:=⟨fu - 1,by omega⟩
  have h2:=iq h
  have p1:pk s (i+(f x).length)=sep.toNat:=by rw[mP,h2];rfl
  have hlt:i+(f x).length<s.length:=by
   apply f_
   intro hge
   rw[p_ (by omega)]at h2
   cases h2
  have:=Kg (y::ks) (by simp) (λz hz=>ho z (o_ _ hz)) (λz hz=>hne z (o_ _ hz)) m (acc++[x]) (i+(f x).length+1) t (wa h2) he hs (by omega) (by omega)
  rw[eU,h1]
  simp only
  rw[if_pos p1,this]
  simp[jn];omega
theorem sN{k:Int}{l:List Rx}(h:l.length≠1):Qw k l= .mk k 0 0 l:=by
 unfold Qw
 split
 ·simp at h
 ·rfl
theorem seq_ok(hn:NumOk s num){alt:Nat->Option (Rx×Nat)}{b:Nat}(ha:Rp s alt b){r:Rx}(hw:iw r=true)(hb:KZ r<=b+1)(hb2:Fc r=true->KZ r<=b){i:Nat}{t:List UInt8}
 (h:s.drop i=iK 4 r++t) (hf:hd t=0\/hd t=41\/hd t=124) (hi:i<=s.length):QN num s alt i=some (r,i+(iK 4 r).length):=by
 obtain⟨k,lo,up,ks⟩:=r
 obtain⟨nd,hks⟩:=well_iff.1 hw
 unfold QN vh
 by_cases hk:k=3
 ·subst hk
  obtain⟨rfl,rfl⟩:=nd.zero (by decide)
  have h2:2<=(ks.length:Int):=nd.seq rfl
  have e:iK 4 (.mk 3 0 0 ks)=jn 32 (ks.map (iK 3)):=by
   show ff (.mk 3 0 0 ks)=_
   simp[ff,c9]
  rw[e]at h⊢
  have hdk:∀x∈ks,KZ x<=b:=λx hx=>by
   have:=Et hx
   simp only[KZ]at hb;omega
  have hne:ks≠[]:=by intro e;rw[e]at h2;simp at h2
  have:=Kg (one:=Bm num s alt) (f:=iK 3) (sep:=32) (E:=λc=>c=0\/c=41\/c=124) ks hne (λx hx i t hd0 hc=>Pn hn ha (hks x hx) (by have:=hdk x hx;omega) (λ_=>hdk x hx) hd0 (by
   unfold f2
   rcases hc with hc|hc
   ·omega
   ·rw[hc];decide)) (λx hx=>by
   unfold iK tN
   cases pm 3 x
   ·exact(EE x (hks x hx)).1
   ·simp) (s.length+1 - i) [] i t h hf (by
   show hd t≠32
   omega) (by omega) hi
  have this:eU s 32 (Bm num s alt) (s.length+1 - i) [] i=_:=this
  rw[this]
  simp only[G_]
  rw[sN (by omega)]
 ·have e:iK 4 (.mk k lo up ks)=iK 3 (.mk k lo up ks):=by
   unfold iK
   simp only[pm]
   have h3:(k==3)=false:=by simpa using hk
   rw[h3]
   cases(k==4)<;>simp
  have e2:Fb (.mk k lo up ks)=Fc (.mk k lo up ks):=by
   simp only[Fb,Fc]
   have h3:(k==3)=false:=by simpa using hk
   rw[h3]
  rw[e]at h⊢
  have h1:=Pn hn ha hw hb (by rw[e2];exact hb2) h (by unfold f2;omega)
  have p1:pk s (i+(iK 3 (.mk k lo up ks)).length)=hd t:=by rw[mP,iq h]
  obtain⟨m,hm⟩:∃m,s.length+1 - i=m+1:=⟨s.length - i,by omega⟩
  rw[hm,eU,h1]
  simp only
  rw[if_neg (by rw[p1];omega)]
  simp[Qw]
theorem Eu{a t:List UInt8}{i:Nat}(h:s.drop i=a++t)(ha:a≠[]):i<s.length:=by
 apply f_
 intro hge
 rw[p_ (by omega)]at h
 have:=List.append_eq_nil_iff.1 h.symm
 exact ha this.1
theorem Sm(p:Int){x:Rx}(hx:iw x=true):iK p x≠[]:=by
 unfold iK tN
 cases pm p x
 ·exact(EE x hx).1
 ·simp
theorem RR(hn:NumOk s num):∀b:Nat,Rp s (zU num s b) b
 |0=>λr _ hb=>by cases r;simp[KZ]at hb
 |b+1=>λr hw hb i t h hf=>by
  have hi:=Eu h (EE r hw).1
  have ha:=RR hn b
  rw[zU]
  unfold vh
  cases hc:Fc r with
  |true=>
   obtain⟨k,lo,up,ks⟩:=r
   obtain⟨nd,hks⟩:=well_iff.1 hw
   have hk:k=4:=by
    simp only[Fc]at hc
    cases e:(k==4)
    ·rw[e]at hc;cases hc
    ·simpa using e
   subst hk
   obtain⟨rfl,rfl⟩:=nd.zero (by decide)
   have hne:ks≠[]:=by simpa[Fc]using hc
   have h1:(ks.length:Int)≠1:=nd.alt rfl
   have e:ff (.mk 4 0 0 ks)=jn 124 (ks.map (iK 4)):=by
    simp[ff,c9,hne]
   rw[e]at h⊢
   have hdk:∀x∈ks,KZ x<=b:=λx hx=>by
    have:=Et hx
    simp only[KZ]at hb;omega
   have:=Kg (one:=QN num s (zU num s b)) (f:=iK 4) (sep:=124) (E:=λc=>c=0\/c=41) ks hne (λx hx i t hd0 hc=>seq_ok hn ha (hks x hx) (by have:=hdk x hx;omega) (λ_=>hdk x hx) hd0 (by
    rcases hc with hc|hc
    ·omega
    ·rw[hc];decide) (I_ (Eu hd0 (Sm 4 (hks x hx))))) (λx hx=>Sm 4 (hks x hx)) (s.length+1 - i) [] i t h hf (by
    show hd t≠124
    omega) (by omega) (I_ hi)
   have this:eU s 124 (QN num s (zU num s b)) (s.length+1 - i) [] i=_:=this
   rw[this]
   simp only[G_]
   rw[sN (by omega)]
  |false=>
   have e:ff r=iK 4 r:=by
    obtain⟨k,lo,up,ks⟩:=r
    unfold iK
    simp only[pm]
    simp only[Fc]at hc
    cases h4:(k==4)
    ·cases h3:(k==3)
     ·simp[tN]
     ·simp[tN]
    ·rw[h4]at hc
     simp only[cond_true]at hc
     simp only[cond_true,hc]
     rfl
   rw[e]at h⊢
   have h1:=seq_ok hn ha hw hb (λh=>by rw[hc]at h;cases h) h (by omega) (I_ hi)
   have p1:pk s (i+(iK 4 r).length)=hd t:=by rw[mP,iq h]
   obtain⟨m,hm⟩:∃m,s.length+1 - i=m+1:=⟨s.length - i,by omega⟩
   rw[hm,eU,h1]
   simp only
   rw[if_neg (by rw[p1];omega)]
   simp[Qw]
end
theorem T9:∀(r:Rx) (lv c:Int),(s9 r lv c).2=0->lv+(KZ r:Int)<=17:=by
 refine sg λk lo up ks ih lv c h=>?_
 rw[s9]at h
 split at h
 ·cases h
 split at h
 ·cases h
 split at h
 ·rename_i h0;exact absurd h h0
 have hks:∀(l:List Rx),(∀r∈l,r∈ks)->∀(c:Int),(fD l (lv+1) c).2=0->lv+1+(NE l:Int)<=17:=by
  intro l
  induction l with
  |nil=>intro _ c _;simp only[NE];omega
  |cons r l il=>
   intro hm c h
   rw[fD]at h
   split at h
   ·rename_i h0;exact absurd h h0
   ·rename_i h0
    have h1:=ih r (hm r (j_ ..)) (lv+1) c (af_.1 h0)
    have h2:=il (λx hx=>hm x (o_ _ hx)) _ h
    simp only[NE]
    omega
 have:=hks ks (λ_ h=>h) _ h
 simp only[KZ]
 omega
theorem QP{num:Nat->Option (Int×Nat)}{r:Rx}(hn:NumOk (ff r) num)(hw:iw r=true){b:Nat}(hb:KZ r<=b):zU num (ff r) b 0=some (r,(ff r).length):=by
 have:=RR hn b r hw hb 0 [] (by simp) (.inl rfl)
 rw[this,Nat.zero_add]
end Go.Pl
namespace Go.Proofs.YtmfolppncelceaaGreatDoor
open Go Go.Av Go.Ev Go.Pl
theorem JC(k n:Int):aE tbl p9 [.d tI k,.d tI n] [] eE (qO k,fQ k n,()):=by
 refine aB rfl (aC KG rfl (λO m=>KU O m k n) ?_)
 unfold Ap
 by_cases h0:k=0
 ·subst h0;exact gO (λ_=>rfl) rfl
 by_cases h1:k=1
 ·subst h1;exact gO (λ_=>rfl) rfl
 by_cases h2:k=2
 ·subst h2;exact gO (λ_=>rfl) rfl
 by_cases h3:k=3
 ·subst h3;exact gO (λ_=>rfl) rfl
 by_cases h4:k=4
 ·subst h4;exact gO (λ_=>rfl) rfl
 by_cases h5:k=5
 ·subst h5;exact gO (λ_=>rfl) rfl
 by_cases h6:k=6
 ·subst h6;exact gO (λ_=>rfl) rfl
 by_cases h7:k=7
 ·subst h7;exact gO (λ_=>rfl) rfl
 have e0:(k==(0:Int))=false:=by simpa using h0
 have e1:(k==(1:Int))=false:=by simpa using h1
 have e2:(k==(2:Int))=false:=by simpa using h2
 have e3:(k==(3:Int))=false:=by simpa using h3
 have e4:(k==(4:Int))=false:=by simpa using h4
 have e5:(k==(5:Int))=false:=by simpa using h5
 have e6:(k==(6:Int))=false:=by simpa using h6
 have e7:(k==(7:Int))=false:=by simpa using h7
 simp only[e0,e1,e2,e3,e4,e5,e6,e7]
 refine gO (λ_=>rfl) ?_
 simp only[qO,fQ,e0,e1,e2,e3,e4,e5,e6,e7]
 rfl
theorem JD(r:Rx):aE tbl qa [.d .rx r] [] fV (lK r.out.1 r.out.2.1 r.out.2.2.1 (r.out.2.2.2.1.length:Int),()):=by
 refine aB rfl (aC KH rfl (λO m=>KV O m r) ?_)
 unfold Aq
 generalize r.out.1=k
 generalize r.out.2.1=lo
 generalize r.out.2.2.1=hi
 generalize(r.out.2.2.2.1.length:Int)=n
 refine an (JC k n) ?_
 unfold lK
 cases qO k
 ·exact gO (λ_=>rfl) rfl
 cases e1:(k==(1:Int))
 ·have f1:(k != (1:Int))=true:=by simpa[bne]using e1
  rw[f1]
  cases(lo != (0:Int))<;>cases(hi != (0:Int))<;>cases fQ k n<;>exact gO (λ_=>rfl) rfl
 ·have f1:(k != (1:Int))=false:=by simpa[bne]using e1
  rw[f1]
  cases decide (lo<(0:Int))<;>cases decide (lo>hi)<;>cases decide (hi>(4294967295:Int))<;>cases fQ k n<;>exact gO (λ_=>rfl) rfl
theorem QI(k lo hi:Int)(n:Int)(hn:0<=n):lK k lo hi n=
 bif k==1 then(bif decide (lo<0)||decide (lo>hi)||decide (hi>4294967295)then 5 else bif decide (n>0)then 1 else 0)
 else bif !qO k then 15 else bif !fQ k n then 1 else bif lo != 0||hi != 0 then 1 else 0:=by
 unfold lK
 cases e1:(k==(1:Int))
 ·have f1:(k != (1:Int))=true:=by simpa[bne]using e1
  rw[f1]
  cases qO k<;>cases(lo != (0:Int))<;>cases(hi != (0:Int))<;>cases fQ k n<;>rfl
 ·have hk:k=1:=by simpa using e1
  subst hk
  have:fQ 1 n= !decide (n>0):=by
   show(n==0)=_
   by_cases h:n=0
   ·subst h;rfl
   ·rw[show(n==0)=false by simpa using h,decide_eq_true (show n>0 by omega)];rfl
  rw[this]
  cases decide (lo<(0:Int))<;>cases decide (lo>hi)<;>cases decide (hi>(4294967295:Int))<;>cases decide (n>0)<;>rfl
theorem EO(r:Rx):aE tbl mc [.d .rx r] [] eV (lK r.out.1 r.out.2.1 r.out.2.2.1 (r.out.2.2.2.1.length:Int),()):=by
 refine aB rfl (aC Gu rfl (λO m=>GO O m r) ?_)
 unfold vK
 have hn:(0:Int)<=(r.out.2.2.2.1.length:Int):=by omega
 generalize(r.out.2.2.2.1.length:Int)=n at hn
 rw[QI _ _ _ _ hn]
 generalize r.out.1=k
 generalize r.out.2.1=lo
 generalize r.out.2.2.1=hi
 by_cases h1:k=1
 ·subst h1
  cases decide (lo<(0:Int))<;>cases decide (lo>hi)<;>cases decide (hi>(4294967295:Int))<;>cases decide (n>0)<;>exact gO (λ_=>rfl) rfl
 have e1:(k==(1:Int))=false:=by simpa using h1
 rw[e1]
 have h02:∀m:Int,0<=m->(m==0)= !decide (m>0):=λm hm=>by
  by_cases h:m=0
  ·subst h;rfl
  ·rw[show(m==0)=false by simpa using h,decide_eq_true (show m>0 by omega)];rfl
 by_cases h0:k=0
 ·subst h0
  rw[show fQ 0 n= !decide (n>0)from h02 n hn]
  cases decide (n>0)<;>cases(lo != (0:Int))<;>cases(hi != (0:Int))<;>exact gO (λ_=>rfl) rfl
 by_cases h2:k=2
 ·subst h2
  rw[show fQ 2 n= !decide (n>0)from h02 n hn]
  cases decide (n>0)<;>cases(lo != (0:Int))<;>cases(hi != (0:Int))<;>exact gO (λ_=>rfl) rfl
 by_cases h3:k=3
 ·subst h3
  have:fQ 3 n= !decide (n<2):=by
   show decide (n>=2)=_
   by_cases h:n<2
   ·rw[decide_eq_true h,decide_eq_false (show ¬n>=2 by omega)];rfl
   ·rw[decide_eq_false h,decide_eq_true (show n>=2 by omega)];rfl
  rw[this]
  cases decide (n<2)<;>cases(lo != (0:Int))<;>cases(hi != (0:Int))<;>exact gO (λ_=>rfl) rfl
 by_cases h4:k=4
 ·subst h4
  show Wp _ _
  have:fQ 4 n= !(n==1):=rfl
  rw[this]
  cases(n==(1:Int))<;>cases(lo != (0:Int))<;>cases(hi != (0:Int))<;>exact gO (λ_=>rfl) rfl
 have hn1:∀m:Int,(m==1)= !(m != 1):=λm=>by simp[bne]
 by_cases h5:k=5
 ·subst h5
  rw[show fQ 5 n= !(n != 1)from hn1 n]
  cases(n != (1:Int))<;>cases(lo != (0:Int))<;>cases(hi != (0:Int))<;>exact gO (λ_=>rfl) rfl
 by_cases h6:k=6
 ·subst h6
  rw[show fQ 6 n= !(n != 1)from hn1 n]
  cases(n != (1:Int))<;>cases(lo != (0:Int))<;>cases(hi != (0:Int))<;>exact gO (λ_=>rfl) rfl
 by_cases h7:k=7
 ·subst h7
  rw[show fQ 7 n= !(n != 1)from hn1 n]
  cases(n != (1:Int))<;>cases(lo != (0:Int))<;>cases(hi != (0:Int))<;>exact gO (λ_=>rfl) rfl
 have e0:(k==(0:Int))=false:=by simpa using h0
 have e2:(k==(2:Int))=false:=by simpa using h2
 have e3:(k==(3:Int))=false:=by simpa using h3
 have e4:(k==(4:Int))=false:=by simpa using h4
 have e5:(k==(5:Int))=false:=by simpa using h5
 have e6:(k==(6:Int))=false:=by simpa using h6
 have e7:(k==(7:Int))=false:=by simpa using h7
 simp only[qO,e0,e1,e2,e3,e4,e5,e6,e7]
 exact gO (λ_=>rfl) rfl
theorem Tn{k lo up:Int}{ks:List Rx}{M:Nat}(h:sz (.mk k lo up ks)<=M):ks.length<M/\∀r∈ks,sz r<M:=by
 simp only[sz]at h
 have h1:=BB ks
 exact⟨by omega,λr hr=>by have:=qt hr;omega⟩
theorem xe{ks:List Rx}{lv c:Int}:∀{i:Nat},(h:i<ks.length)->(fD (ks.take i) lv c).2=0->fD (ks.take (i+1)) lv c=(let p:=s9 ks[i] lv (fD (ks.take i) lv c).1;(p.1,p.2)):=by
 intro i
 induction ks generalizing c i with
 |nil=>intro h;simp at h
 |cons r ks ih=>
  intro h h0
  cases i with
  |zero=>
   simp only[List.take_zero,w_,fD,List.getElem_cons_zero]
   split
   ·rfl
   ·rename_i hz
    have:(s9 r lv c).2=0:=by simpa using hz
    exact ae_ rfl this.symm
  |succ i=>
   simp only[w_,fD,List.getElem_cons_succ]at h0⊢
   split at h0
   ·rename_i hz;exact absurd h0 hz
   ·rename_i hz
    rw[if_neg hz,if_neg hz]
    exact ih (by simpa using h) h0
theorem AJ{lv:Int}:∀{ks:List Rx} {c:Int} {i:Nat},(fD (ks.take i) lv c).2≠0->fD ks lv c=fD (ks.take i) lv c:=by
 intro ks
 induction ks with
 |nil=>intro c i h;simp[fD]at h
 |cons r ks ih=>
  intro c i h
  cases i with
  |zero=>simp[fD]at h
  |succ i=>
   simp only[w_,fD]at h⊢
   split at h
   ·rename_i hz;rw[if_pos hz,if_pos hz]
   ·rename_i hz;rw[if_neg hz,if_neg hz];exact ih h
theorem Cb:∀(r:Rx) (lv c:Int),0<=c->c<=64->c<=(s9 r lv c).1/\(s9 r lv c).1<=64:=by
 refine sg λk lo up ks ih lv c h0 h1=>?_
 have hs:∀(l:List Rx) (lv c:Int),(∀r∈l,r∈ks)->0<=c->c<=64->c<=(fD l lv c).1/\(fD l lv c).1<=64:=by
  intro l
  induction l with
  |nil=>intro lv c _ h0 h1;exact⟨N_ _,h1⟩
  |cons r l ihl=>
   intro lv c hl h0 h1
   have hr:=ih r (hl r (j_ ..)) lv c h0 h1
   simp only[fD]
   split
   ·exact hr
   ·have:=ihl lv (s9 r lv c).1 (λx hx=>hl x (o_ _ hx)) (by omega) hr.2
    omega
 simp only[s9]
 split
 ·exact⟨N_ _,h1⟩
 split
 ·exact⟨N_ _,h1⟩
 split
 ·exact⟨N_ _,h1⟩
 ·have:=hs ks (lv+1) (c+1) (λ_ h=>h) (by omega) (by omega)
  omega
theorem G2:∀(r:Rx),sz r<=1048576->∀(lv c:Int),0<=lv->lv<=17->0<=c->c<=64->aE tbl kt [.d .rx r,.d tI lv,.d tI c] [] cF ((s9 r lv c).1,(s9 r lv c).2,()):=by
 refine sg λk lo up ks ih hs lv c hl0 hl1 hc0 hc1=>?_
 obtain⟨hlen,hkid⟩:=Tn hs
 refine aB rfl (aC Ia rfl (λO m=>Iu O m (.mk k lo up ks) lv c) ?_)
 unfold yz
 refine ap (λh=>aa ?_) λh=>?_
 ·have h:lv>16:=by simpa using h
  simp only[s9,if_pos h]
 have h1:¬lv>16:=by simpa using h
 refine ap (λh=>aa ?_) λh=>?_
 ·have h:c>=64:=by simpa using h
  simp only[s9,if_neg h1,if_pos h]
 have h2:¬c>=64:=by simpa using h
 refine an (EO _) ?_
 show Wp _ _
 refine ap (λh=>aa ?_) λh=>?_
 ·have h:lK k lo up ks.length≠0:=by
   have h:(lK k lo up ks.length != 0)=true:=h
   simpa using h
  simp only[s9,if_neg h1,if_neg h2,if_pos h]
  rfl
 have h3:¬lK k lo up ks.length≠0:=by
  have h:(lK k lo up ks.length != 0)=false:=h
  simpa using h
 have ec:s9 (.mk k lo up ks) lv c=fD ks (lv+1) (c+1):=by simp only[s9,if_neg h1,if_neg h2,if_neg h3]
 rw[ec,wrap_i64 (by omega) (by omega)]
 have hrange:∀i,(fD (ks.take i) (lv+1) (c+1)).2=0->0<=(fD (ks.take i) (lv+1) (c+1)).1/\(fD (ks.take i) (lv+1) (c+1)).1<=64:=by
  intro i
  induction i with
  |zero=>intro _;simp[fD];omega
  |succ i ihi=>
   intro h0
   by_cases hi:i<ks.length
   ·have hz:(fD (ks.take i) (lv+1) (c+1)).2=0:=f_ λhn=>by
     have:=AJ (ks:=ks.take (i+1)) (lv:=lv+1) (c:=c+1) (i:=i) (by rw[L_,show min i (i+1)=i by omega];exact hn)
     rw[L_,show min i (i+1)=i by omega]at this
     rw[this]at h0
     exact hn h0
    rw[xe hi hz]
    have hr:=ihi hz
    have:=Cb ks[i] (lv+1) _ hr.1 hr.2
    exact⟨by show 0<=(s9 ks[i] _ _).1;omega,this.2⟩
   ·rw[show ks.take (i+1)=ks.take i by rw[g_ (by omega),g_ (by omega)]]at h0⊢
    exact ihi h0
 refine ak (dI (N:=ks.length) (I:=λi s=>s=((fD (ks.take i) (lv+1) (c+1)).1,(i:Int),())/\(fD (ks.take i) (lv+1) (c+1)).2=0) (by simp[fD]) (λi s hi hs=>?_) λs hs=>?_)
 ·obtain⟨rfl,hz⟩:=hs
  unfold pp
  refine cm hi (aW hi ?_)
  rw[dG,wrap_i64 (by omega) (by omega)]
  have hr:=b_ hi
  have hrg:=hrange i hz
  refine an (ih ks[i] hr (by have:=hkid _ hr;omega) (lv+1) _ (by omega) (by omega) hrg.1 hrg.2) ?_
  have ht:=xe hi hz
  refine ap (λh=>aa ?_) λh=>aa ?_
  ·have hn:(s9 ks[i] (lv+1) (fD (ks.take i) (lv+1) (c+1)).1).2≠0:=by simpa using h
   have he:=AJ (ks:=ks) (lv:=lv+1) (c:=c+1) (i:=i+1) (by rw[ht];exact hn)
   refine aa ?_
   rw[he,ht]
  ·have hn:(s9 ks[i] (lv+1) (fD (ks.take i) (lv+1) (c+1)).1).2=0:=by simpa using h
   refine⟨?_,by rw[ht];exact hn⟩
   rw[aL hi (by omega),ht]
 ·obtain⟨rfl,hz⟩:=hs
  unfold pp
  refine bF (aa (aa ?_))
  rw[v_]at hz⊢
  rw[hz]
theorem Hc:∀(r:Rx),sz r<=1048576->∀(lv c:Int),0<=lv->lv<=17->0<=c->c<=64->∃s:Int,((s9 r lv c).2=0->s=(s9 r lv c).1)/\
 aE tbl dJ [.d .rx r,.d tI lv,.ptr 0 0] [.box uM [.d tI c]] bC ((s9 r lv c).2,s,()):=by
 refine sg λk lo up ks ih hs lv c hl0 hl1 hc0 hc1=>?_
 obtain⟨hlen,hkid⟩:=Tn hs
 suffices h:∃x:Int×Int×Unit,(x.1=(s9 (.mk k lo up ks) lv c).2/\((s9 (.mk k lo up ks) lv c).2=0->x.2.1=(s9 (.mk k lo up ks) lv c).1))/\aE tbl dJ [.d .rx (.mk k lo up ks),.d tI lv,.ptr 0 0] [.box uM [.d tI c]] bC x by
  obtain⟨⟨e,s,_⟩,⟨he,h1⟩,h2⟩:=h
  have he:e=_:=he
  subst he
  exact⟨s,h1,h2⟩
 refine kw (sh:=bC) (λ_=>rfl) (aC BI rfl (λO m=>BR O m (.mk k lo up ks) lv c) ?_)
 unfold rA
 refine ap (λh=>aa ⟨_,rfl,?_⟩) λh=>?_
 ·have h:lv>16:=by simpa using h
  simp only[s9,if_pos h]
  exact⟨trivial,λh=>by cases h⟩
 have h1:¬lv>16:=by simpa using h
 refine ap (λh=>aa ⟨_,rfl,?_⟩) λh=>?_
 ·have h:c>=64:=by simpa using h
  simp only[s9,if_neg h1,if_pos h]
  exact⟨trivial,λh=>by cases h⟩
 have h2:¬c>=64:=by simpa using h
 refine an (JD _) ?_
 show Wp _ _
 refine ap (λh=>aa ⟨_,rfl,?_⟩) λh=>?_
 ·have h:lK k lo up ks.length≠0:=by
   have h:(lK k lo up ks.length != 0)=true:=h
   simpa using h
  simp only[s9,if_neg h1,if_neg h2,if_pos h]
  exact⟨rfl,λh'=>absurd h' h⟩
 have h3:¬lK k lo up ks.length≠0:=by
  have h:(lK k lo up ks.length != 0)=false:=h
  simpa using h
 have ec:s9 (.mk k lo up ks) lv c=fD ks (lv+1) (c+1):=by simp only[s9,if_neg h1,if_neg h2,if_neg h3]
 rw[ec,wrap_i64 (by omega) (by omega)]
 have hrange:∀i,(fD (ks.take i) (lv+1) (c+1)).2=0->0<=(fD (ks.take i) (lv+1) (c+1)).1/\(fD (ks.take i) (lv+1) (c+1)).1<=64:=by
  intro i
  induction i with
  |zero=>intro _;simp[fD];omega
  |succ i ihi=>
   intro h0
   by_cases hi:i<ks.length
   ·have hz:(fD (ks.take i) (lv+1) (c+1)).2=0:=f_ λhn=>by
     have:=AJ (ks:=ks.take (i+1)) (lv:=lv+1) (c:=c+1) (i:=i) (by rw[L_,show min i (i+1)=i by omega];exact hn)
     rw[L_,show min i (i+1)=i by omega]at this
     rw[this]at h0
     exact hn h0
    rw[xe hi hz]
    have hr:=ihi hz
    have:=Cb ks[i] (lv+1) _ hr.1 hr.2
    exact⟨by show 0<=(s9 ks[i] _ _).1;omega,this.2⟩
   ·rw[show ks.take (i+1)=ks.take i by rw[g_ (by omega),g_ (by omega)]]at h0⊢
    exact ihi h0
 refine ak (dI (N:=ks.length) (I:=λi s=>s=((i:Int),(fD (ks.take i) (lv+1) (c+1)).1,())/\(fD (ks.take i) (lv+1) (c+1)).2=0) (by simp[fD]) (λi s hi hs=>?_) λs hs=>?_)
 ·obtain⟨rfl,hz⟩:=hs
  unfold ke
  refine cm hi (aW hi ?_)
  rw[dG,wrap_i64 (by omega) (by omega)]
  have hr:=b_ hi
  have hrg:=hrange i hz
  obtain⟨s,hs0,hs1⟩:=ih ks[i] hr (by have:=hkid _ hr;omega) (lv+1) _ (by omega) (by omega) hrg.1 hrg.2
  refine an hs1 ?_
  have ht:=xe hi hz
  refine ap (λh=>aa ?_) λh=>aa ?_
  ·have hn:(s9 ks[i] (lv+1) (fD (ks.take i) (lv+1) (c+1)).1).2≠0:=by simpa using h
   have he:=AJ (ks:=ks) (lv:=lv+1) (c:=c+1) (i:=i+1) (by rw[ht];exact hn)
   refine aa ⟨_,rfl,?_⟩
   rw[he,ht]
   exact⟨rfl,λh'=>absurd h' hn⟩
  ·have hn:(s9 ks[i] (lv+1) (fD (ks.take i) (lv+1) (c+1)).1).2=0:=by simpa using h
   refine⟨?_,by rw[ht];exact hn⟩
   rw[aL hi (by omega),ht,hs0 hn]
 ·obtain⟨rfl,hz⟩:=hs
  unfold ke
  refine bF (aa (aa ⟨_,rfl,?_⟩))
  rw[v_]at hz⊢
  exact⟨hz.symm,λ_=>rfl⟩
def dh(r:Rx):Int:=(s9 r 1 0).2
theorem GZ(r:Rx)(hs:sz r<=1048576):aE tbl nQ [.d .rx r] [] kF (dh r,()):=by
 refine aB rfl (aC H8 rfl (λO m=>Is O m r) ?_)
 unfold yx
 exact an (G2 r hs 1 0 (by decide) (by decide) (by decide) (by decide)) (aa rfl)
theorem G9(r:Rx)(hs:sz r<=1048576):aE tbl nW [.d .rx r] [] kG (dh r,()):=by
 refine aB rfl (aC Ii rfl (λO m=>IB O m r) ?_)
 unfold yU
 obtain⟨s,_,h⟩:=Hc r hs 1 0 (by decide) (by decide) (by decide) (by decide)
 exact an h (aa rfl)
theorem R3:∀(r:Rx) (lv c:Int),(s9 r lv c).2=0->iw r=true/\(s9 r lv c).1=c+(sz r:Int):=by
 refine sg λk lo up ks ih lv c h=>?_
 have hs:∀(l:List Rx) (lv c:Int),(∀r∈l,r∈ks)->(fD l lv c).2=0->(∀r∈l,iw r=true)/\(fD l lv c).1=c+(wE l:Int):=by
  intro l
  induction l with
  |nil=>intro lv c _ _;exact⟨by simp,by simp[fD,wE]⟩
  |cons r l ihl=>
   intro lv c hl h
   simp only[fD]at h⊢
   split at h
   ·rename_i hz;exact absurd h hz
   ·rename_i hz
    rw[if_neg hz]
    have hz:(s9 r lv c).2=0:=by simpa using hz
    obtain⟨h1,h2⟩:=ih r (hl r (j_ ..)) lv c hz
    obtain⟨h3,h4⟩:=ihl lv _ (λx hx=>hl x (o_ _ hx)) h
    refine⟨λx hx=>?_,by rw[h4,h2];simp only[wE];omega⟩
    rcases ab_.1 hx with rfl|hx
    ·exact h1
    ·exact h3 x hx
 simp only[s9]at h⊢
 split at h
 ·exact absurd h (by simp)
 split at h
 ·exact absurd h (by simp)
 split at h
 ·rename_i hz;exact absurd h hz
 ·rename_i a b hz
  rw[if_neg a,if_neg b,if_neg hz]
  obtain⟨h1,h2⟩:=hs ks (lv+1) (c+1) (λ_ h=>h) h
  have hz:lK k lo up ks.length=0:=by simpa using hz
  exact⟨well_iff.2 ⟨nodeE_zero.1 hz,h1⟩,by rw[h2];simp only[sz];omega⟩
theorem IN{r:Rx}(h:dh r=0):iw r=true/\sz r<=64:=by
 obtain⟨h1,h2⟩:=R3 r 1 0 h
 have:=Cb r 1 0 (by decide) (by decide)
 exact⟨h1,by omega⟩
open Go Go.Av Go.Ev Go.Pl Go.Lib
theorem U3{n:Int}(h0:0<=n)(h1:n<=4294967295):aE tbl jk [.d tI n] [] qW (decDigits n.toNat,()):=by
 refine Qi Gz ?_ rfl
 have hb:Um n=true:=by simp only[Um,n_,decide_eq_true_eq];omega
 have hi:Lib.itoa n=decDigits n.toNat:=by unfold Lib.itoa;rw[if_neg (by omega)]
 simp only[xr,hb,cond_true,hi]
 rfl
theorem BW{n:Int}(h0:0<=n)(h1:n<=4294967295):aE tbl fh [.d tI n] [] dR (decDigits n.toNat,()):=by
 refine aB rfl (aC D9 rfl (λO k=>Ei O k n) ?_)
 unfold uE
 exact an (U3 h0 h1) (aa rfl)
theorem Ru:∀(n:Nat) (m:Int),m=(n:Int)->n<=4294967295->aE tbl gz [.d tQ m] [] dF (decDigits n,()):=by
 intro n
 induction n using Nat.strongRecOn with
 |ind n ih=>
  intro m hm hn
  subst hm
  refine aB rfl (aC Gt rfl (λO k=>GN O k (n:Int)) ?_)
  unfold vJ
  have e1:c_ .u8 (c_ .u64 ((48:Int)+(Int.tmod (n:Int) (10:Int))))=((48+n%10:Nat):Int):=by
   rw[wrap_u8,wrap_u64,Int.tmod_eq_emod_of_nonneg (by omega)];omega
  refine aN rfl ?_
  refine ap (λhlt=>?_) (λhge=>?_)
  ·have hlt':n<10:=by have:=of_decide_eq_true hlt;omega
   refine aa ?_
   have:decDigits n=[UInt8.ofNat (48+n)]:=by rw[decDigits,dif_pos hlt']
   rw[this,e1,Nat.mod_eq_of_lt hlt']
   rfl
  ·have hge':10<=n:=by have:=of_decide_eq_false hge;omega
   have e3:c_ .u64 (Int.tdiv (n:Int) 10)=((n/10:Nat):Int):=by
    rw[wrap_u64,K_ (by omega)];omega
   have hl:=lg (show n/10<=4294967295 by omega)
   refine aN rfl (an (ih (n/10) (by omega) _ e3 (by omega)) (aN ?_ (aa ?_)))
   ·rw[decide_eq_true_eq]
    show(decDigits (n/10)).length+1<=9223372036854775807
    omega
   ·rw[e1]
    have:decDigits n=decDigits (n/10)++[UInt8.ofNat (48+n%10)]:=by
     conv=>lhs;rw[decDigits,dif_neg (by omega)]
    rw[this]
    rfl
theorem te{n:Int}(h0:0<=n)(h1:n<=4294967295):aE tbl fj [.d tI n] [] cT (decDigits n.toNat,()):=by
 refine aB rfl (aC Ec rfl (λO k=>El O k n) ?_)
 unfold uH
 refine ap (λhlt=>absurd (of_decide_eq_true hlt) (by omega)) (λ_=>?_)
 exact an (Ru n.toNat _ (by rw[wrap_u64];omega) (by omega)) (aa rfl)
theorem TA(ks:List Rx)(i:Nat):wE (ks.take i)<=wE ks:=by
 have:=Kz (ks.take i) (ks.drop i)
 rw[List.take_append_drop]at this
 omega
theorem Ph(p:Int){x:Rx}(hw:iw x=true):(iK p x).length+1<=26*sz x:=by
 have:=Pi p x
 have:=EF x hw
 omega
theorem Tz(p:Int):∀l:List Rx,(∀x∈l,iw x=true)->((l.map (iK p)).map λx=>x.length+1).sum<=26*wE l
 |[],_=>by simp
 |r::l,h=>by
  have h1:=Ph p (h r (j_ ..))
  have h2:=Tz p l λx hx=>h x (o_ _ hx)
  simp only[E_,O_,wE]at*
  omega
theorem W8(c:UInt8)(p:Int)(l:List Rx)(h:∀x∈l,iw x=true):(jn c (l.map (iK p))).length<=26*wE l:=ac_ (Kc c _) (Tz p l h)
theorem sj{α β:Type}(f:α->β){l:List α}{i:Nat}(h:i<l.length):(l.take (i+1)).map f=(l.take i).map f++[f l[i]]:=by
 rw[U_,d_ h,W_];rfl
theorem uC(k:Int):aE tbl ik [.d tI k] [] fo (k==5||k==6||k==7,()):=by
 refine aB rfl (aC Ef rfl (λO m=>Eo O m k) ?_)
 unfold uK
 cases(k==(5:Int))<;>cases(k==(6:Int))<;>exact gO (λ_=>rfl) rfl
theorem Dl(ks:List Rx):decide ((ks.length:Int)>0)= !ks.isEmpty:=by
 cases ks with
 |nil=>rfl
 |cons x l=>simp
theorem M4(p k lo up:Int)(ks:List Rx):pm p (.mk k lo up ks)=bif k==4 then !ks.isEmpty else bif k==3 then p != 4 else(k==5||k==6||k==7)&&(p==5||p==6||p==7):=rfl
theorem DD(p:Int)(x:Rx):aE tbl kK [.d tI p,.d .rx x] [] dT (pm p x,()):=by
 obtain⟨k,lo,up,ks⟩:=x
 refine aB rfl (aC Eg rfl (λO m=>Ep O m p (.mk k lo up ks)) ?_)
 unfold uL
 rw[M4]
 refine ap (λh=>aa ?_) λh=>?_
 ·have h:(k==4)=true:=h
  rw[h,cond_true,<-Dl];rfl
 have h:(k==4)=false:=h
 rw[h,cond_false]
 refine ap (λh=>aa ?_) λh=>?_
 ·have h:(k==3)=true:=h
  rw[h];rfl
 have h:(k==3)=false:=h
 rw[h,cond_false]
 refine an (uC k) (ak (bX (b:=(p==5||p==6||p==7)) (λ_=>an (uC p) (aa rfl)) (aa rfl)))
theorem LY(p:Int)(x:Rx)(hl:(ff x).length<=1000000)(h:aE tbl fC [.d .rx x] [] dx (ff x,())):aE tbl eF [.d tI p,.d .rx x] [] cI (iK p x,()):=by
 refine aB rfl (aC Il rfl (λO m=>IE O m p x) ?_)
 unfold yX
 refine an h (an (DD p x) (ap (λhb=>aN (decide_eq_true ?_) (aN (decide_eq_true ?_) (aa ?_))) λhb=>aa ?_))
 ·show 1+(ff x).length<=_;omega
 ·show(ff x).length+1+1<=_;omega
 ·have hb:pm p x=true:=hb
  unfold iK;rw[hb];rfl
 ·have hb:pm p x=false:=hb
  unfold iK;rw[hb];rfl
theorem Jp(k lo up:Int)(ks:List Rx)(c:UInt8)(hw:∀x∈ks,iw x=true)(hz:wE ks<=1000)(h:∀x∈ks,aE tbl fC [.d .rx x] [] dx (ff x,())):
 Wp (λn=>be n (l5 (sG tbl n) n (.mk k lo up ks) ([c],())) (([]:List UInt8),(0:Int),())) λt=>t=(jn c (ks.map (iK k)),()):=by
 have hlen:=BB ks
 refine dI (N:=ks.length) (I:=λi s=>s=(jn c ((ks.take i).map (iK k)),(i:Int),())) rfl ?_ ?_
 ·rintro i s hi rfl
  have hm:=b_ hi
  have hj:=W8 c k (ks.take i) λx hx=>hw x (List.mem_of_mem_take hx)
  have hst:=TA ks i
  have hin:=Ph k (hw _ hm)
  have hsm:=qt hm
  have hp:=EF _ (hw _ hm)
  unfold l5
  refine cm hi (aW hi ?_)
  have hc:=LY k ks[i] (by omega) (h _ hm)
  rw[sj _ hi,Kd]
  refine ak (Ev.wp_mono (Q:=λv=>v=((if(ks.take i).map (iK k)=[]then []else jn c ((ks.take i).map (iK k))++[c]),ks[i].out.1,ks[i].out.2.1,ks[i].out.2.2.1,ks[i].out.2.2.2.1,())) (ap (λhb=>aN (decide_eq_true ?_) (aa ?_)) λhb=>aa ?_) ?_)
  ·show(jn c ((ks.take i).map (iK k))).length+1<=_;omega
  ·have hb:(i:Int)>0:=of_decide_eq_true hb
   rw[if_neg (by intro e;have:=congrArg ad_ e;rw[a_,h_,l_]at this;omega)];rfl
  ·have hb:¬(i:Int)>0:=of_decide_eq_false hb
   have:i=0:=by omega
   subst this
   rfl
  rintro v rfl
  rw[dG]
  refine an hc (aN (decide_eq_true ?_) (aa ?_))
  ·show(if(ks.take i).map (iK k)=[]then []else jn c ((ks.take i).map (iK k))++[c]).length+(iK k ks[i]).length<=_
   split
   ·simp only[l_];omega
   ·simp only[e_,q_,l_];omega
  ·show(_,c_ .i64 ((i:Int)+1),())=_
   rw[aL hi (by omega)]
   refine ae_ ?_ rfl
   show(if(ks.take i).map (iK k)=[]then []else jn c ((ks.take i).map (iK k))++[c])++iK k ks[i]=_
   split<;>simp
 ·rintro s rfl
  unfold l5
  rw[v_]
  exact bF (aa rfl)
theorem JE:∀(r:Rx),iw r=true->sz r<=1000->aE tbl fC [.d .rx r] [] dx (ff r,()):=by
 refine sg λk lo up ks ih hw hs=>?_
 obtain⟨nd,hks⟩:=well_iff.1 hw
 have hsz:wE ks<=1000:=by simp only[sz]at hs;omega
 have hsh:∀x∈ks,aE tbl fC [.d .rx x] [] dx (ff x,()):=λx hx=>ih x hx (hks x hx) (by have:=qt hx;omega)
 refine aB rfl (aC KI rfl (λO m=>KW O m (.mk k lo up ks)) ?_)
 unfold Ar
 have one:∀x,ks=[x]->∀p:Int,aE tbl eF [.d tI p,.d .rx x] [] cI (iK p x,())/\(iK p x).length<=26000:=λx e p=>by
  have hx:x∈ks:=by rw[e];exact j_ ..
  have h1:=EF x (hks x hx)
  have h2:=qt hx
  have h3:=Ph p (hks x hx)
  exact⟨LY p x (by omega) (hsh x hx),by omega⟩
 rcases nd.known with rfl|rfl|rfl|rfl|rfl|rfl|rfl|rfl
 ·refine ak (aK rfl (aa (aa ?_)))
  simp[ff]
 ·obtain⟨r1,r2,r3⟩:=nd.rng rfl
  refine ak (ao rfl (ao rfl (aK rfl (ap (λh=>?_) λh=>?_))))
  ·have h:(lo==up)=true:=h
   have h:lo=up:=by simpa using h
   subst h
   refine an (BW (n:=lo) r1 r3) (aa (aa ?_))
   simp[ff]
  ·have h:(lo==up)=false:=h
   have h:lo≠up:=by simpa using h
   have l1:=lg (n:=lo.toNat) (by omega)
   have l2:=lg (n:=up.toNat) (by omega)
   refine an (BW (n:=lo) r1 (by omega)) (aN (decide_eq_true ?_) (aN (decide_eq_true ?_) (an (BW (n:=up) (by omega) r3) (aN (decide_eq_true ?_) (aN (decide_eq_true ?_) (aa (aa ?_)))))))
   ·show 1+(decDigits lo.toNat).length<=_;omega
   ·show(decDigits lo.toNat).length+1+1<=_;omega
   ·simp only[e_,q_,l_];omega
   ·simp only[e_,q_,l_];omega
   ·simp[ff,h]
 ·refine ak (ao rfl (aK rfl (aa (aa ?_))))
  simp[ff]
 ·obtain⟨rfl,rfl⟩:=nd.zero (by decide)
  refine ak (ao rfl (ao rfl (ao rfl (ao rfl (ao rfl (ao rfl (ao rfl (aa ?_))))))))
  refine ak (Ev.wp_mono (Jp 3 0 0 ks 32 hks hsz hsh) ?_)
  rintro t rfl
  refine aa ?_
  simp[ff,c9]
 ·obtain⟨rfl,rfl⟩:=nd.zero (by decide)
  refine ak (ao rfl (ao rfl (ao rfl (ao rfl (ao rfl (ao rfl (aK rfl (ap (λh=>aa (aa ?_)) λh=>aa ?_))))))))
  ·have h:((ks.length:Int)==0)=true:=h
   have h:=len_nil (by simpa using h)
   subst h
   simp[ff]
  ·have h:((ks.length:Int)==0)=false:=h
   have hne:ks≠[]:=by rintro rfl;simp at h
   refine ak (Ev.wp_mono (Jp 4 0 0 ks 124 hks hsz hsh) ?_)
   rintro t rfl
   refine aa ?_
   simp[ff,c9,hne]
 ·obtain⟨rfl,rfl⟩:=nd.zero (by decide)
  obtain⟨x,rfl⟩:=tZ (nd.one (by simp))
  obtain⟨c1,c2⟩:=one x rfl 5
  refine ak (ao rfl (ao rfl (ao rfl (aK rfl (jx (by decide) rfl (an c1 (aN (decide_eq_true ?_) (aa (aa ?_)))))))))
  ·show(iK 5 x).length+1<=_;omega
  ·simp[ff,c9]
 ·obtain⟨rfl,rfl⟩:=nd.zero (by decide)
  obtain⟨x,rfl⟩:=tZ (nd.one (by simp))
  obtain⟨c1,c2⟩:=one x rfl 6
  refine ak (ao rfl (ao rfl (ao rfl (ao rfl (aK rfl (jx (by decide) rfl (an c1 (aN (decide_eq_true ?_) (aa (aa ?_))))))))))
  ·show(iK 6 x).length+1<=_;omega
  ·simp[ff,c9]
 ·obtain⟨rfl,rfl⟩:=nd.zero (by decide)
  obtain⟨x,rfl⟩:=tZ (nd.one (by simp))
  obtain⟨c1,c2⟩:=one x rfl 7
  refine ak (ao rfl (ao rfl (ao rfl (ao rfl (ao rfl (aK rfl (jx (by decide) rfl (an c1 (aN (decide_eq_true ?_) (aa (aa ?_)))))))))))
  ·show(iK 7 x).length+1<=_;omega
  ·simp[ff,c9]
theorem Hb(r:Rx)(hs:sz r<=1048576):aE tbl ix [.d .rx r] [] fZ (if dh r=0 then ff r else [],dh r,()):=by
 refine aB rfl (aC Ik rfl (λO m=>ID O m r) ?_)
 unfold yW
 refine an (G9 r hs) (ap (λh=>aa ?_) λh=>?_)
 ·have h:dh r≠0:=by
   have h:(dh r != 0)=true:=h
   simpa using h
  rw[if_neg h]
 ·have h:dh r=0:=by
   have h:(dh r != 0)=false:=h
   simpa using h
  obtain⟨h1,h2⟩:=IN h
  refine an (JE r h1 (by omega)) (aa ?_)
  rw[if_pos h,h]
theorem BZ(p x:Rx):aE tbl jJ [.d .rx p,.d .rx x] [] cE (pm p.out.1 x,()):=by
 obtain⟨k,lo,up,ks⟩:=x
 refine aB rfl (aC CR rfl (λO m=>C3 O m p (.mk k lo up ks)) ?_)
 unfold sv
 generalize p.out.1=q
 refine ak (cf (b:=(q==6)) (λ_=>aa rfl) (ak (cf (b:=(q==7)) (λ_=>aa rfl) ?_)))
 rw[M4]
 refine ap (λh=>aa ?_) λh=>?_
 ·have h:(k==3)=true:=h
  have:k=3:=by simpa using h
  subst this
  rfl
 have h3:(k==3)=false:=h
 refine ap (λh=>aa ?_) λh=>?_
 ·have h:(k==4)=true:=h
  rw[h,cond_true,<-Dl];rfl
 have h4:(k==4)=false:=h
 rw[h3,h4,cond_false,cond_false]
 refine ak (Ev.wp_mono (Q:=λv=>v=(k==5||k==6||k==7,())) (ap (λh=>aa ?_) λh=>ap (λh'=>aa ?_) λh'=>aa ?_) ?_)
 ·have h:(k==5)=true:=h
  show((k==5),())=_
  rw[h];rfl
 ·have h:(k==5)=false:=h
  have h':(k==6)=true:=h'
  show((k==6),())=_
  rw[h,h'];rfl
 ·have h:(k==5)=false:=h
  have h':(k==6)=false:=h'
  show((k==7),())=_
  rw[h,h'];rfl
 rintro v rfl
 refine ap (λh=>aa ?_) λh=>aa ?_
 ·have h:(k==5||k==6||k==7)=true:=h
  rw[h];rfl
 ·have h:(k==5||k==6||k==7)=false:=h
  rw[h];rfl
theorem Gk(f:List UInt8->Nat):∀(l:List (List UInt8)) (i:Nat),((l.take i).map f).sum<=(l.map f).sum
 |[],i=>by simp
 |x::l,0=>by simp
 |x::l,i+1=>by
  have:=Gk f l i
  simp only[w_,E_,O_]
  omega
theorem vC(l:List (List UInt8))(c:UInt8)(hl:(l.map λx=>x.length+1).sum<=1000000):aE tbl ji [.d (.list tS) l,.d tS [c]] [] gG (jn c l,()):=by
 refine aB rfl (aC Gv rfl (λO m=>GP O m l [c]) ?_)
 unfold vL
 have hlen:l.length<=(l.map λx=>x.length+1).sum:=by
  clear hl
  induction l with
  |nil=>simp
  |cons x l il=>simp only[q_,E_,O_];omega
 refine ak (Ev.wp_mono (Q:=λt=>t=(jn c l,())) (dI (N:=l.length) (I:=λi s=>s=(jn c (l.take i),(i:Int),())) rfl ?_ ?_) ?_)
 ·rintro i s hi rfl
  have h1:=Kc c (l.take i)
  have h2:=Gk (λx=>x.length+1) l i
  have h3:=Gk (λx=>x.length+1) l (i+1)
  have e3:=sj (λx:List UInt8=>x.length+1) hi
  rw[e3,List.sum_append]at h3
  simp only[O_,List.sum_nil]at h3
  have ht:l.take (i+1)=l.take i++[l[i]]:=by rw[U_,d_ hi];rfl
  unfold ny
  refine cm hi (aW hi ?_)
  rw[ht,Kd]
  refine ak (Ev.wp_mono (Q:=λv=>v=((if l.take i=[]then []else jn c (l.take i)++[c]),())) (ap (λhb=>aN (decide_eq_true ?_) (aa ?_)) λhb=>aa ?_) ?_)
  ·show(jn c (l.take i)).length+1<=_;omega
  ·have hb:(i:Int)>0:=of_decide_eq_true hb
   rw[if_neg (by intro e;have:=congrArg ad_ e;rw[h_,l_]at this;omega)]
  ·have hb:¬(i:Int)>0:=of_decide_eq_false hb
   have:i=0:=by omega
   subst this
   rfl
  rintro v rfl
  refine aN (decide_eq_true ?_) (aa ?_)
  ·show(if l.take i=[]then []else jn c (l.take i)++[c]).length+l[i].length<=_
   split
   ·simp only[l_];omega
   ·simp only[e_,q_,l_];omega
  ·show(_,c_ .i64 ((i:Int)+1),())=_
   rw[aL hi (by omega)]
   refine ae_ ?_ rfl
   show(if l.take i=[]then []else jn c (l.take i)++[c])++l[i]=_
   split<;>simp
 ·rintro s rfl
  unfold ny
  rw[v_]
  exact bF (aa rfl)
 ·rintro t rfl
  exact aa rfl
theorem Km(k lo up:Int)(ks:List Rx)(hw:∀x∈ks,iw x=true)(hz:wE ks<=1000)(h:∀x∈ks,aE tbl dP [.d .rx x] [] bl (ff x,())):
 Wp (λn=>be n (iN (sG tbl n) n (.mk k lo up ks)) ((0:Int),([]:List (List UInt8)),())) λt=>t=(ks.map (iK k),()):=by
 have hlen:=BB ks
 refine dI (N:=ks.length) (I:=λi s=>s=((i:Int),(ks.take i).map (iK k),())) rfl ?_ ?_
 ·rintro i s hi rfl
  have hm:=b_ hi
  have hsm:=qt hm
  have hp:=EF _ (hw _ hm)
  unfold iN
  refine cm hi (aW hi ?_)
  rw[dG,sj _ hi]
  refine an (h _ hm) (ak (Ev.wp_mono (Q:=λv=>v=(iK k ks[i],(ks.take i).map (iK k),())) (an (BZ (.mk k lo up ks) ks[i]) (ap (λhb=>aN (decide_eq_true ?_) (aN (decide_eq_true ?_) (aa ?_))) λhb=>aa ?_)) ?_))
  ·show 1+(ff ks[i]).length<=_;omega
  ·show(ff ks[i]).length+1+1<=_;omega
  ·have hb:pm k ks[i]=true:=hb
   unfold iK;rw[hb];rfl
  ·have hb:pm k ks[i]=false:=hb
   unfold iK;rw[hb];rfl
  rintro v rfl
  refine aN (decide_eq_true ?_) (aa ?_)
  ·show(((ks.take i).map (iK k)).length+1)*16<=_
   rw[a_,h_];omega
  ·show(c_ .i64 ((i:Int)+1),_)=_
   rw[aL hi (by omega)]
 ·rintro s rfl
  unfold iN
  rw[v_]
  exact bF (aa rfl)
theorem Dz:∀(r:Rx),iw r=true->sz r<=1000->aE tbl dP [.d .rx r] [] bl (ff r,()):=by
 refine sg λk lo up ks ih hw hs=>?_
 obtain⟨nd,hks⟩:=well_iff.1 hw
 have hsz:wE ks<=1000:=by simp only[sz]at hs;omega
 have hsh:∀x∈ks,aE tbl dP [.d .rx x] [] bl (ff x,()):=λx hx=>ih x hx (hks x hx) (by have:=qt hx;omega)
 refine aB rfl (aC Ed rfl (λO m=>Em O m (.mk k lo up ks)) ?_)
 unfold uI
 refine ak (Ev.wp_mono (Km k lo up ks hks hsz hsh) ?_)
 rintro t rfl
 have hsum:=Tz k ks hks
 have one:∀x,ks=[x]->∀p:Int,(iK p x).length<=26000:=λx e p=>by
  have hx:x∈ks:=by rw[e];exact j_ ..
  have h2:=qt hx
  have h3:=Ph p (hks x hx)
  omega
 rcases nd.known with rfl|rfl|rfl|rfl|rfl|rfl|rfl|rfl
 ·refine aK rfl (aa ?_)
  simp[ff]
 ·obtain⟨r1,r2,r3⟩:=nd.rng rfl
  refine ao rfl (aK rfl (ap (λh=>?_) λh=>?_))
  ·have h:(lo==up)=true:=h
   have h:lo=up:=by simpa using h
   subst h
   refine an (te (n:=lo) r1 r3) (aa ?_)
   simp[ff]
  ·have h:(lo==up)=false:=h
   have h:lo≠up:=by simpa using h
   have l1:=lg (n:=lo.toNat) (by omega)
   have l2:=lg (n:=up.toNat) (by omega)
   refine an (te (n:=lo) r1 (by omega)) (aN (decide_eq_true ?_) (aN (decide_eq_true ?_) (an (te (n:=up) (by omega) r3) (aN (decide_eq_true ?_) (aN (decide_eq_true ?_) (aa ?_))))))
   ·show 1+(decDigits lo.toNat).length<=_;omega
   ·show(decDigits lo.toNat).length+1+1<=_;omega
   ·simp only[e_,q_,l_];omega
   ·simp only[e_,q_,l_];omega
   ·simp[ff,h]
 ·refine ao rfl (ao rfl (aK rfl (aa ?_)))
  simp[ff]
 ·obtain⟨rfl,rfl⟩:=nd.zero (by decide)
  refine ao rfl (ao rfl (ao rfl (aK rfl (an (vC (ks.map (iK 3)) 32 (by omega)) (aa ?_)))))
  simp[ff,c9]
 ·obtain⟨rfl,rfl⟩:=nd.zero (by decide)
  refine ao rfl (ao rfl (ao rfl (ao rfl (aK rfl (ap (λh=>aa ?_) λh=>an (vC (ks.map (iK 4)) 124 (by omega)) (aa ?_))))))
  ·have h:(((ks.map (iK 4)).length:Int)==0)=true:=h
   rw[a_]at h
   have h:=len_nil (by simpa using h)
   subst h
   simp[ff]
  ·have h:(((ks.map (iK 4)).length:Int)==0)=false:=h
   have hne:ks≠[]:=by rintro rfl;simp at h
   simp[ff,c9,hne]
 ·obtain⟨rfl,rfl⟩:=nd.zero (by decide)
  obtain⟨x,rfl⟩:=tZ (nd.one (by simp))
  have c2:=one x rfl 5
  refine ao rfl (ao rfl (ao rfl (ao rfl (ao rfl (aK rfl (jx (by decide) rfl (Ad rfl (aN (decide_eq_true ?_) (aa ?_)))))))))
  ·show(iK 5 x).length+1<=_;omega
  ·simp[ff,c9]
 ·obtain⟨rfl,rfl⟩:=nd.zero (by decide)
  obtain⟨x,rfl⟩:=tZ (nd.one (by simp))
  have c2:=one x rfl 6
  refine ao rfl (ao rfl (ao rfl (ao rfl (ao rfl (ao rfl (aK rfl (jx (by decide) rfl (Ad rfl (aN (decide_eq_true ?_) (aa ?_))))))))))
  ·show(iK 6 x).length+1<=_;omega
  ·simp[ff,c9]
 ·obtain⟨rfl,rfl⟩:=nd.zero (by decide)
  obtain⟨x,rfl⟩:=tZ (nd.one (by simp))
  have c2:=one x rfl 7
  refine ao rfl (ao rfl (ao rfl (ao rfl (ao rfl (ao rfl (ao rfl (jx (by decide) rfl (Ad rfl (aN (decide_eq_true ?_) (aa ?_))))))))))
  ·show(iK 7 x).length+1<=_;omega
  ·simp[ff,c9]
end Go.Proofs.YtmfolppncelceaaGreatDoor
namespace Go.Ev
open Go Go.RowKit Go.Av
section
variable {tbl:Nat->Option Fun'}
def cW(tbl:Nat->Option Fun')(f:Nat)(ars:List V)(os:List Ob)(sh:Sh)(o:Option (HL sh.sl)):Prop:=∃n0,∀n,n0<=n->iT (sG tbl n) f ars os sh=some o
theorem IJ{f:Nat}{ars:List V}{os:List Ob}{sh:Sh}{R:Option (HL sh.sl)->Prop}(hp:∀c,Dq sh (iL sh c)=some c)(h:Conv tbl f ars os λo=>∃c:Option (HL sh.sl),o=c.map (iL sh)/\R c):∃o,R o/\cW tbl f ars os sh o:=by
 obtain⟨o,⟨c,rfl,hr⟩,n0,hn⟩:=h
 refine⟨c,hr,n0,λn hn'=>?_⟩
 have e:=hn n hn'
 unfold iT
 have e:sG tbl n f ars os=_:=e
 cases c with
 |none=>rw[e];rfl
 |some c=>
  rw[e]
  have:=hp c
  unfold Dq at this
  simp only[Option.map_some]
  cases hb:(Nat.beq (iL sh c).fr.length sh.n&&I8 sh.n (iL sh c).fr)
  ·rw[hb]at this;cases this
  ·rw[hb]at this
   simp only[cond_true]at this
   simp only[cond_true,this]
theorem qv{f:Nat}{ars:List V}{os:List Ob}{sh:Sh}{o:Option (HL sh.sl)}(hp:∀c,Dq sh (iL sh c)=some c)(h:Conv tbl f ars os (·=o.map (iL sh))):cW tbl f ars os sh o:=by
 obtain⟨o',rfl,h2⟩:=IJ (R:=λc=>c=o) hp (Qn h λx hx=>⟨o,hx,rfl⟩)
 exact h2
theorem gI{f:Nat}{ars:List V}{os:List Ob}{sh:Sh}{β:Type}{k:Nat->Option (HL sh.sl)->Option β}{Q:β->Prop}{o:Option (HL sh.sl)}(h:cW tbl f ars os sh o)(hk:Wp (λn=>k n o) Q):Wp (λn=>k_ (iT (sG tbl n) f ars os sh) (k n)) Q:=by
 obtain⟨n0,hn⟩:=h
 exact ak ⟨o,hk,n0,hn⟩
end
end Go.Ev
namespace Go.Proofs.YtmfolppncelceaaGreatDoor
open Go Go.Av Go.Ev Go.Pl Go.Lib
theorem K3(s:List UInt8)(hs:s.length<=1048576):∃c:Bool×Unit,((∀n,s=decDigits n->c=(true,()))/\(c.1=true->s≠[]))/\aE tbl iO [.d tS s] [] cq c:=by
 refine kw (sh:=cq) (λ_=>rfl) (aC BC rfl (λO k=>BL O k s) ?_)
 unfold rm
 refine ak (cf (b:=decide ((s.length:Int)>(1:Int))&&(((s.getD 0 0).toNat:Int)==(48:Int))) (λh0=>ak (bX (b:=(((s.getD 0 0).toNat:Int)==(48:Int))) (λh1=>?_) (aa rfl))) ?_)
 ·have hl:1<s.length:=by have:=of_decide_eq_true h1;omega
  refine jx (x:=s.getD 0 0) (N_ _) ?_ (aa rfl)
  rw[J_,Int.toNat_zero,d_ (show 0<s.length by omega)];rfl
 ·refine ap (λh=>aa ⟨(false,()),rfl,λn hn=>?_,λh=>by cases h⟩) (λh=>?_)
  ·exfalso
   have hp:=Fe n
   have hh:=Qo n
   rw[<-hn]at hp hh
   simp only[V_,n_,decide_eq_true_eq,beq_iff_eq]at h
   rcases h with h|⟨h1,h2⟩
   ·rw[h]at hp;simp at hp
   ·exact hh (by omega) (by omega)
  ·have hne:s≠[]:=by
    rintro rfl
    simp at h
   refine ak (Wp.imp (Q:=λr=>match r with| .inl v=>v.1=false/\∀n,s≠decDigits n| .inr _=>True) (dI (N:=s.length) (I:=λi st=>st=((i:Int),())) rfl (λi st hi hst=>?_) λst hst=>?_) λr hr=>?_)
   ·subst hst
    unfold j9
    have hx:=d_ hi
    refine ap (λ_=>?_) (λh=>absurd h (by simp;omega))
    refine jx (y_ _) hx ?_
    refine ak (cf (b:=decide ((s[i].toNat:Int)>(57:Int))) (λ_=>jx (y_ _) hx (aa rfl)) ?_)
    refine ap (λhb=>aa ⟨rfl,λn hn=>?_⟩) (λ_=>aa ?_)
    ·have:=AL n s[i] (by rw[<-hn];exact b_ hi)
     unfold FM at this
     simp only[V_,decide_eq_true_eq]at hb
     omega
    ·simp only
     rw[aL hi (by omega)]
   ·subst hst
    unfold j9
    exact ap (λh=>absurd h (by simp)) λ_=>aa trivial
   ·cases r with
    |inl v=>exact aa ⟨_,rfl,λn hn=>absurd hn (hr.2 n),λ_=>hne⟩
    |inr v=>exact aa ⟨_,rfl,λ_ _=>rfl,λ_=>hne⟩
theorem Rq(s:List UInt8)(hs:s.length<=1048576):∃c:Int×Int×Unit,((∀m:Nat,m<=4294967295->s=decDigits m->c=((m:Int),(0:Int),()))/\(c.2.1=0->s≠[]))/\aE tbl jg [.d tS s,.d tI (4294967295:Int)] [] cu c:=by
 obtain⟨cc,⟨hcc,hce⟩,hcall⟩:=K3 s hs
 refine kw (sh:=cu) (λ_=>rfl) (aC Gm rfl (λO k=>GH O k s 4294967295) ?_)
 unfold vD
 refine an hcall (ap (λh=>aa ⟨_,rfl,λm hm hn=>?_,λh0=>by cases h0⟩) (λhc=>?_))
 ·rw[hcc m hn]at h;cases h
 have hne:s≠[]:=hce (by cases e:cc.1<;>simp[e]at hc⊢)
 refine ak (Wp.imp (Q:=λr=>match r with| .inl v=>∀m:Nat,m<=4294967295->s≠decDigits m| .inr v=>∀m:Nat,m<=4294967295->s=decDigits m->v.1=m) (dI (N:=s.length) (I:=λi st=>st.2.1=(i:Int)/\∀m:Nat,m<=4294967295->s=decDigits m->st.1=(nM (s.take i):Int)) ⟨rfl,λ_ _ _=>rfl⟩ (λi st hi hst=>?_) λst hst=>?_) λr hr=>?_)
 ·obtain⟨n,j,_⟩:=st
  obtain⟨h1,h2⟩:=hst
  simp only at h1 h2
  subst h1
  unfold np
  have hx:=d_ hi
  have hk:∀m:Nat,m<=4294967295->s=decDigits m->n=(nM (s.take i):Int)/\nM (s.take i)<=4294967295/\FM s[i]/\nM (s.take (i+1))<=4294967295/\nM (s.take (i+1))=10*nM (s.take i)+(s[i].toNat - 48):=λm hm hn=>by
   have hv:nM s=m:=by rw[hn,AM]
   have hd:FM s[i]:=AL m s[i] (by rw[<-hn];exact b_ hi)
   have e:s.getD i 0=s[i]:=by simp[J_,hx]
   exact⟨h2 m hm hn,by have:=CX (l:=s) (k:=i) (by omega);omega,hd,by have:=CX (l:=s) (k:=i+1) (by omega);omega,by rw[takeD hi,xB,e]⟩
  have hdg:FM s[i]->c_ .i64 (c_ .u8 ((s[i].toNat:Int) - 48))=((s[i].toNat - 48:Nat):Int):=λh=>by
   unfold FM at h
   rw[wrap_u8,wrap_i64 (by omega) (by omega)];omega
  refine ap (λ_=>?_) (λh=>absurd h (by simp;omega))
  refine jx (y_ _) hx ?_
  refine aN rfl (ap (λhb=>aa λm hm hn=>?_) (λ_=>aa ⟨?_,λm hm hn=>?_⟩))
  ·obtain⟨g1,g2,g3,g4,g5⟩:=hk m hm hn
   have hb':=of_decide_eq_true hb
   rw[hdg g3,g1]at hb'
   unfold FM at g3
   rw[wrap_i64 (n:=9223372036854775807 - ((s[i].toNat - 48:Nat):Int)) (by omega) (by omega),K_ (by omega),wrap_i64 (by omega) (by omega)]at hb'
   omega
  ·simp only
   rw[aL hi (by omega)]
  ·obtain⟨g1,g2,g3,g4,g5⟩:=hk m hm hn
   simp only
   rw[hdg g3,g1,wrap_i64 (n:=10*((nM (s.take i):Nat):Int)) (by omega) (by omega),wrap_i64 (by omega) (by omega),g5]
   omega
 ·obtain⟨n,j,_⟩:=st
  obtain⟨h1,h2⟩:=hst
  simp only at h1 h2
  subst h1
  unfold np
  refine ap (λh=>absurd h (by simp)) λ_=>aa λm hm hn=>?_
  simp only
  rw[h2 m hm hn,g_ (r_ _),hn,AM]
 ·cases r with
  |inl v=>exact aa ⟨_,rfl,λm hm hn=>absurd hn (hr m hm),λ_=>hne⟩
  |inr v=>
   refine ap (λhb=>aa ⟨_,rfl,λm hm hn=>?_,λ_=>hne⟩) (λ_=>aa ⟨_,rfl,λm hm hn=>?_,λ_=>hne⟩)
   ·have:=hr m hm hn
    have:=of_decide_eq_true hb
    omega
   ·rw[hr m hm hn]
theorem vw(s:List UInt8)(i:Nat):aE tbl bb [.ptr 0 0] [.box au [.d tS s,.d tI (i:Int)]] aX ((pk s i:Int),s,(i:Int),()):=by
 refine aB rfl (aC vn rfl (λO m=>vu O m s (i:Int)) ?_)
 unfold nh
 refine ap (λh=>?_) λh=>aa ?_
 ·have h:i<s.length:=by have:=of_decide_eq_true h;omega
  refine aW h (aa ?_)
  rw[F2 h]
 ·have h:¬i<s.length:=by have:=of_decide_eq_false h;omega
  rw[SR h];rfl
structure Run(s:List UInt8)(i j:Nat):Prop where
 le:i<=j
 top:j<=s.length
 all:∀k,i<=k->k<j->dg (pk s k)
theorem Kq{s:List UInt8}{i j m:Nat}{t:List UInt8}(h:Run s i j)(he:¬dg (pk s j))(hd0:s.drop i=decDigits m++t)(ht:¬dg (hd t)):j=i+(decDigits m).length/\(s.take j).drop i=decDigits m:=by
 have h1:∀k,i<=k->k<i+(decDigits m).length->dg (pk s k):=λk hk1 hk2=>by
  have hl:k - i<(decDigits m).length:=by omega
  have e:s[k]? =some (decDigits m)[k - i]:=by
   have h2:(s.drop i)[k - i]? =s[k]? :=by rw[List.getElem?_drop];congr 1;omega
   rw[<-h2,hd0,List.getElem?_append_left hl,d_ hl]
  have h3:=AL m _ (b_ hl)
  unfold pk
  rw[J_,e]
  exact h3
 have h2:¬dg (pk s (i+(decDigits m).length)):=by
  rw[mP,iq hd0];exact ht
 have hj:j=i+(decDigits m).length:=by
  apply f_
  intro hn
  have:=h.le
  rcases Nat.lt_or_gt_of_ne hn with hlt|hgt
  ·exact he (h1 j this hlt)
  ·exact h2 (h.all _ (by omega) hgt)
 refine⟨hj,?_⟩
 rw[X_,hd0,hj,Nat.add_sub_cancel_left,List.take_left]
theorem Rz(s:List UInt8)(hs:s.length<=1048576)(i:Nat)(hi:i<=s.length):∃o:Option (Int×Nat),(∀n j,o=some (n,j)->i<j/\j<=s.length)/\
 (∀(m:Nat) t,s.drop i=decDigits m++t->m<=4294967295->¬dg (hd t)->o=some ((m:Int),i+(decDigits m).length))/\
 cW tbl aZ [.ptr 0 0] [.box au [.d tS s,.d tI (i:Int)]] q_regex_parser_number_r (o.map λx=>(x.1,s,(x.2:Int),())):=by
 suffices h:∃v:Option (HL q_regex_parser_number_r.sl),(∃o:Option (Int×Nat),v=o.map (λx=>(x.1,s,(x.2:Int),()))/\(∀n j,o=some (n,j)->i<j/\j<=s.length)/\
  (∀(m:Nat) t,s.drop i=decDigits m++t->m<=4294967295->¬dg (hd t)->o=some ((m:Int),i+(decDigits m).length)))/\cW tbl aZ [.ptr 0 0] [.box au [.d tS s,.d tI (i:Int)]] q_regex_parser_number_r v by
  obtain⟨v,⟨o,rfl,h1,h2⟩,h3⟩:=h
  exact⟨o,h1,h2,h3⟩
 refine IJ (λ_=>rfl) (aC s4 rfl (λO m=>s8 O m s (i:Int)) ?_)
 unfold ly
 refine ak (Ev.wp_mono (Ev.wp_loop (Q:=λt=>∃j:Nat,t=(s,(j:Int),())/\Run s i j/\¬dg (pk s j)) (λt=>∃j:Nat,t=(s,(j:Int),())/\Run s i j) (λt=>s.length - t.2.1.toNat) ⟨i,rfl,⟨r_ _,hi,λk h1 h2=>absurd h2 (by omega)⟩⟩ ?_) ?_)
 ·rintro t ⟨j,rfl,hr⟩
  unfold j4
  refine an (vw s j) (ap (λh=>?_) λh=>aa ⟨j,rfl,hr,?_⟩)
  ·have h:(pk s j:Int)>=48:=of_decide_eq_true h
   have hlt:=cM (s:=s) (i:=j) (by omega)
   refine an (vw s j) (ap (λh'=>aa ?_) λh'=>aa ⟨j,rfl,hr,?_⟩)
   ·have h':(pk s j:Int)<=57:=of_decide_eq_true h'
    refine⟨⟨j+1,?_,⟨by have:=hr.le;omega,by omega,λk h1 h2=>?_⟩⟩,?_⟩
    ·show(s,c_ .i64 ((j:Int)+1),())=_
     rw[aL hlt (by omega)]
    ·by_cases e:k=j
     ·subst e;exact⟨by omega,by omega⟩
     ·exact hr.all k h1 (by omega)
    ·show s.length - (c_ .i64 ((j:Int)+1)).toNat<s.length - (j:Int).toNat
     rw[aL hlt (by omega)];omega
   ·have h':¬(pk s j:Int)<=57:=of_decide_eq_false h'
    unfold Pl.dg;omega
  ·have h:¬(pk s j:Int)>=48:=of_decide_eq_false h
   unfold Pl.dg;omega
 ·rintro t ⟨j,rfl,hr,he⟩
  have h1:=hr.le
  have h2:=hr.top
  refine aN (decide_eq_true (by omega)) (aN (decide_eq_true (by show 0<=(j:Int);omega)) (aN ?_ ?_))
  ·show(decide (u_ (i:Int)<=u_ (j:Int))&&decide (u_ (j:Int)<=s.length))=true
   simp only[n_,decide_eq_true_eq];omega
  show Wp (λn=>k_ (aD (sG tbl n) jg [.d tS ((s.take (u_ (j:Int))).drop (u_ (i:Int))),.d tI (4294967295:Int)] [] cu) _) _
  rw[A_,A_]
  obtain⟨c,⟨c1,c2⟩,hc⟩:=Rq ((s.take j).drop i) (by rw[List.length_drop,h_];omega)
  refine an (c:=c) hc (ak (ap (λh=>aa ?_) λh=>aa ?_))
  ·have h:c.2.1≠0:=by simpa using h
   refine aa ⟨none,rfl,none,rfl,(λ_ _ h=>by cases h),λm t hd0 hm ht=>?_⟩
   obtain⟨_,e2⟩:=Kq hr he hd0 ht
   rw[c1 m hm e2]at h
   exact absurd rfl h
  ·have h:c.2.1=0:=by simpa using h
   refine aa ⟨some (c.1,s,(j:Int),()),rfl,some (c.1,j),rfl,?_,λm t hd0 hm ht=>?_⟩
   ·intro n k hk
    cases hk
    have hne:=c2 h
    refine⟨?_,h2⟩
    apply f_
    intro hn
    apply hne
    rw[p_ (by rw[h_];omega)]
   ·obtain⟨e1,e2⟩:=Kq hr he hd0 ht
    rw[c1 m hm e2,<-e1]
theorem Wg(s:List UInt8)(hs:s.length<=1048576):∃num:Nat->Option (Int×Nat),NumOk s num/\∀i,i<=s.length->
 cW tbl aZ [.ptr 0 0] [.box au [.d tS s,.d tI (i:Int)]] q_regex_parser_number_r ((num i).map λx=>(x.1,s,(x.2:Int),())):=by
 have h:∀i:Nat,∃o:Option (Int×Nat),i<=s.length->(∀n j,o=some (n,j)->i<j/\j<=s.length)/\
  (∀(m:Nat) t,s.drop i=decDigits m++t->m<=4294967295->¬dg (hd t)->o=some ((m:Int),i+(decDigits m).length))/\
  cW tbl aZ [.ptr 0 0] [.box au [.d tS s,.d tI (i:Int)]] q_regex_parser_number_r (o.map λx=>(x.1,s,(x.2:Int),())):=λi=>by
  by_cases hi:i<=s.length
  ·obtain⟨o,ho⟩:=Rz s hs i hi
   exact⟨o,λ_=>ho⟩
  ·exact⟨none,λh=>absurd h hi⟩
 refine⟨λi=>B_ (h i),⟨λi n j hi e=>?_,λi m t hd0 hm ht=>?_⟩,λi hi=>?_⟩
 ·exact(m_ (h i) hi).1 n j e
 ·have hi:i<=s.length:=I_ (Eu hd0 (Ff m).1)
  exact(m_ (h i) hi).2.1 m t hd0 hm ht
 ·exact(m_ (h i) hi).2.2
theorem Jw(s:List UInt8)(i:Nat)(c:Nat)(hc:c≠0)(hs:s.length<=1048576)(hi:i<=s.length):aE tbl aP [.ptr 0 0,.d tY (c:Int)] [.box aw [.d tS s,.d tI (i:Int)]] aM (decide (pk s i=c),s,((if pk s i=c then i+1 else i:Nat):Int),()):=by
 refine aB rfl (aC um rfl (λO m=>ux O m (c:Int) s (i:Int)) ?_)
 unfold lW
 refine ak (bX (b:=decide (pk s i=c)) (λh=>?_) ?_)
 ·have h:i<s.length:=by have:=of_decide_eq_true h;omega
  refine aW h (aa ?_)
  rw[F2 h]
  by_cases e:s[i].toNat=c
  ·rw[decide_eq_true e,e];simp
  ·rw[decide_eq_false e];simp;omega
 ·by_cases e:pk s i=c
  ·have hlt:=cM (s:=s) (i:=i) (by omega)
   rw[decide_eq_true e,decide_eq_true (show(i:Int)<(s.length:Int) by omega),if_pos e]
   refine aK rfl (aa ?_)
   rw[aL hlt (by omega)]
  ·rw[decide_eq_false e,Bool.and_false,if_neg e]
   exact ao rfl (aa rfl)
theorem Nc(s:List UInt8)(hs:s.length<=1048576)(i:Nat)(hi:i<=s.length):∃(v:Int) (ok:Bool) (j:Nat),(i<=j/\j<=s.length/\(ok=true->i<j))/\
 (∀(m:Nat) t,s.drop i=decDigits m++t->m<=4294967295->¬dg (hd t)->v=(m:Int)/\ok=true/\j=i+(decDigits m).length)/\
 aE tbl ba [.ptr 0 0] [.box aw [.d tS s,.d tI (i:Int)]] q_ref15_parser_number_r (v,ok,s,(j:Int),()):=by
 suffices h:∃c:HL q_ref15_parser_number_r.sl,(∃(v:Int) (ok:Bool) (j:Nat),c=(v,ok,s,(j:Int),())/\(i<=j/\j<=s.length/\(ok=true->i<j))/\
  (∀(m:Nat) t,s.drop i=decDigits m++t->m<=4294967295->¬dg (hd t)->v=(m:Int)/\ok=true/\j=i+(decDigits m).length))/\
  aE tbl ba [.ptr 0 0] [.box aw [.d tS s,.d tI (i:Int)]] q_ref15_parser_number_r c by
  obtain⟨c,⟨v,ok,j,rfl,h1,h2⟩,h3⟩:=h
  exact⟨v,ok,j,h1,h2,h3⟩
 refine kw (λ_=>rfl) (aC s3 rfl (λO m=>s7 O m s (i:Int)) ?_)
 unfold lx
 refine ak (Ev.wp_mono (Ev.wp_loop (Q:=λr=>match r with
  | .inl t=>∃j:Nat,t=((0:Int),false,s,(j:Int),())/\(i<=j/\j<=s.length)/\∃k,Run s i k/\4294967295<nM ((s.take k).drop i)
  | .inr t=>∃j:Nat,t=((nM ((s.take j).drop i):Int),s,(j:Int),())/\Run s i j/\¬dg (pk s j))
  (λt=>∃j:Nat,t=((nM ((s.take j).drop i):Int),s,(j:Int),())/\Run s i j/\nM ((s.take j).drop i)<=4294967295) (λt=>s.length - t.2.2.1.toNat) ⟨i,?_,⟨r_ _,hi,λk h1 h2=>absurd h2 (by omega)⟩,?_⟩ ?_) ?_)
 ·rw[p_ (by rw[h_];omega)];rfl
 ·rw[p_ (by rw[h_];omega)];exact z_ _
 ·rintro t ⟨j,rfl,hr,hv⟩
  unfold j3
  dsimp only
  have h1:=hr.le
  have h2:=hr.top
  refine ak (bX (b:=decide (48<=pk s j)) (λh=>?_) ?_)
  ·have h:j<s.length:=by have:=of_decide_eq_true h;omega
   refine aW h (aa ?_)
   rw[F2 h]
   by_cases e:48<=s[j].toNat
   ·rw[decide_eq_true e,decide_eq_true (by omega)]
   ·rw[decide_eq_false e,decide_eq_false (by omega)]
  refine ak (bX (b:=decide (pk s j<=57)) (λh=>?_) ?_)
  ·have h:j<s.length:=by
    rw[n_]at h
    have:=of_decide_eq_true h.1;omega
   refine aW h (aa ?_)
   rw[F2 h]
   by_cases e:s[j].toNat<=57
   ·rw[decide_eq_true e,decide_eq_true (by omega)]
   ·rw[decide_eq_false e,decide_eq_false (by omega)]
  refine ap (λh=>?_) λh=>aa ⟨j,rfl,hr,?_⟩
  ·simp only[n_,decide_eq_true_eq]at h
   obtain⟨⟨h3,h4⟩,h5⟩:=h
   have hlt:j<s.length:=by omega
   refine aW hlt ?_
   have ej:=F2 hlt
   have hdg:c_ .i64 (c_ .u8 ((s[j].toNat:Int) - 48))=((s[j].toNat - 48:Nat):Int):=by
    rw[wrap_u8,wrap_i64 (by omega) (by omega)];omega
   have hrun:Run s i (j+1):=⟨by omega,by omega,λk k1 k2=>by
    by_cases e:k=j
    ·subst e;exact⟨h4,h5⟩
    ·exact hr.all k k1 (by omega)⟩
   have e10:nM ((s.take (j+1)).drop i)=10*nM ((s.take j).drop i)+(s[j].toNat - 48):=by
    rw[List.take_succ_eq_append_getElem hlt,List.drop_append_of_le_length (by rw[h_];omega),xB]
   have ew:c_ .i64 ((c_ .i64 ((10:Int)*((nM ((s.take j).drop i):Nat):Int)))+(c_ .i64 (c_ .u8 ((s[j].toNat:Int) - (48:Int)))))=((nM ((s.take (j+1)).drop i):Nat):Int):=by
    rw[hdg,wrap_i64 (n:=10*((nM ((s.take j).drop i):Nat):Int)) (by omega) (by omega),wrap_i64 (by omega) (by omega),e10];omega
   rw[ew,aL hlt (by omega)]
   refine ap (λhb=>aa ⟨j+1,rfl,⟨by omega,by omega⟩,j+1,hrun,?_⟩) λhb=>aa ⟨⟨j+1,rfl,hrun,?_⟩,?_⟩
   ·have:=of_decide_eq_true hb;omega
   ·have:=of_decide_eq_false hb;omega
   ·show s.length - (((j+1:Nat):Int)).toNat<s.length - (j:Int).toNat
    omega
  ·simp only[Q_,decide_eq_false_iff_not]at h
   unfold Pl.dg
   rcases h with(h|h)|h
   ·have:pk s j=0:=SR (by omega)
    omega
   ·omega
   ·omega
 ·rintro(t|t) ht
  ·obtain⟨j,rfl,hj,k,hk,hv⟩:=ht
   refine aa ⟨_,rfl,0,false,j,rfl,⟨hj.1,hj.2,λh=>by cases h⟩,λm t hd0 hm ht=>?_⟩
   exfalso
   have hle:k<=i+(decDigits m).length:=by
    apply f_
    intro hn
    have h2:¬dg (pk s (i+(decDigits m).length)):=by rw[mP,iq hd0];exact ht
    exact h2 (hk.all _ (by omega) (by omega))
   have e:(s.take k).drop i=(decDigits m).take (k - i):=by
    rw[X_,hd0,List.take_append_of_le_length (by omega)]
   rw[e]at hv
   have h1:=CX (l:=decDigits m) (k:=k - i) (by omega)
   rw[AM]at h1
   omega
  ·obtain⟨j,rfl,hr,he⟩:=ht
   have h1:=hr.le
   refine aa ⟨_,rfl,((nM ((s.take j).drop i):Nat):Int),decide (i<j),j,?_,⟨h1,hr.top,λh=>of_decide_eq_true h⟩,λm t hd0 hm ht=>?_⟩
   ·show(_,decide ((j:Int)>(i:Int)),_)=_
    have:decide ((j:Int)>(i:Int))=decide (i<j):=by
     by_cases e:i<j
     ·rw[decide_eq_true e,decide_eq_true (by omega)]
     ·rw[decide_eq_false e,decide_eq_false (by omega)]
    rw[this]
   ·obtain⟨e1,e2⟩:=Kq hr he hd0 ht
    have:=Fe m
    exact⟨by rw[e2,AM],decide_eq_true (by omega),e1⟩
theorem TO(s:List UInt8)(hs:s.length<=1048576):∃num:Nat->Option (Int×Nat),NumOk s num/\∀i,i<=s.length->∃(v:Int) (ok:Bool) (j:Nat),(i<=j/\j<=s.length)/\num i=(if ok then some (v,j)else none)/\
 aE tbl ba [.ptr 0 0] [.box aw [.d tS s,.d tI (i:Int)]] q_ref15_parser_number_r (v,ok,s,(j:Int),()):=by
 have h:∀i:Nat,∃o:Int×Bool×Nat,i<=s.length->(i<=o.2.2/\o.2.2<=s.length/\(o.2.1=true->i<o.2.2))/\
  (∀(m:Nat) t,s.drop i=decDigits m++t->m<=4294967295->¬dg (hd t)->o.1=(m:Int)/\o.2.1=true/\o.2.2=i+(decDigits m).length)/\
  aE tbl ba [.ptr 0 0] [.box aw [.d tS s,.d tI (i:Int)]] q_ref15_parser_number_r (o.1,o.2.1,s,(o.2.2:Int),()):=λi=>by
  by_cases hi:i<=s.length
  ·obtain⟨v,ok,j,ho⟩:=Nc s hs i hi
   exact⟨(v,ok,j),λ_=>ho⟩
  ·exact⟨(0,false,0),λh=>absurd h hi⟩
 refine⟨λi=>if(B_ (h i)).2.1 then some ((B_ (h i)).1,(B_ (h i)).2.2)else none,⟨λi n j hi e=>?_,λi m t hd0 hm ht=>?_⟩,λi hi=>?_⟩
 ·have hsp:=m_ (h i) hi
  split at e
  ·rename_i ht
   cases e
   exact⟨hsp.1.2.2 ht,hsp.1.2.1⟩
  ·cases e
 ·have hi:i<=s.length:=I_ (Eu hd0 (Ff m).1)
  obtain⟨e1,e2,e3⟩:=(m_ (h i) hi).2.1 m t hd0 hm ht
  rw[if_pos e2,e1,e3]
 ·have hsp:=m_ (h i) hi
  exact⟨_,_,_,⟨hsp.1.1,hsp.1.2.1⟩,rfl,hsp.2.2⟩
abbrev Hn(s:List UInt8)(i:Nat):List Ob:=[.box au [.d tS s,.d tI (i:Int)]]
def Ro(s:List UInt8)(o:Option (Rx×Nat)):Option (Rx×List UInt8×Int×Unit):=o.map λx=>(x.1,s,(x.2:Int),())
theorem eqT{a b:Nat}(h:((a:Int)==(b:Int))=true):a=b:=by simp at h;omega
theorem O6{a b:Nat}(h:((a:Int)==(b:Int))=false):a≠b:=by simp at h;omega
theorem Xw{a b:Nat}(h:((a:Int) != (b:Int))=true):a≠b:=by simp at h;omega
theorem Xv{a b:Nat}(h:((a:Int) != (b:Int))=false):a=b:=by simp at h;omega
theorem EK(s:List UInt8)(hs:s.length<=1048576)(i c:Nat)(hc:c≠0):cW tbl bq [.ptr 0 0,.d tY (c:Int)] (Hn s i) a6 (if pk s i=c then some (s,((i+1:Nat):Int),())else none):=by
 refine qv (λ_=>rfl) (aC si rfl (λO m=>sn O m (c:Int) s (i:Int)) ?_)
 unfold kh
 refine ak (an (vw s i) (ap (λh=>aa (aa ?_)) λh=>aa (aa ?_)))
 ·rw[if_neg (Xw h)];rfl
 ·have h:=Xv h
  have hlt:=cM (s:=s) (i:=i) (by omega)
  rw[if_pos h]
  show some (iL a6 (s,c_ .i64 ((i:Int)+1),()))=_
  rw[aL hlt (by omega)];rfl
section
variable {s:List UInt8}
theorem U4(hs:s.length<=1048576){num:Nat->Option (Int×Nat)}(hn:NumOk s num)(hc:∀i,i<=s.length->cW tbl aZ [.ptr 0 0] (Hn s i) q_regex_parser_number_r ((num i).map λx=>(x.1,s,(x.2:Int),())))
 {alt:Nat->Option (Rx×Nat)} (hb:M9 s alt) (d:Nat) (hd0:d<=100) (ha:∀i,i<=s.length->cW tbl aY [.ptr 0 0,.d tI ((d+1:Nat):Int)] (Hn s i) aU (Ro s (alt i))) (i:Nat) (hi:i<=s.length):
 cW tbl cJ [.ptr 0 0,.d tI (d:Int)] (Hn s i) bg (Ro s (dM num s alt i)):=by
 refine qv (λ_=>rfl) (aC uo rfl (λO m=>uy O m (d:Int) s (i:Int)) ?_)
 unfold lX
 refine an (vw s i) ?_
 dsimp only
 refine ap (λh=>?_) λh46=>?_
 ·have h:=eqT (b:=46) h
  have hlt:=cM (s:=s) (i:=i) (by omega)
  rw[aL hlt (by omega),show dM num s alt i=some (.mk 2 0 0 [],i+1) by unfold dM;rw[if_pos h]]
  exact aa rfl
 have h46:=O6 (b:=46) h46
 refine ap (λh=>?_) λh33=>?_
 ·have h:=eqT (b:=33) h
  have hlt:=cM (s:=s) (i:=i) (by omega)
  rw[aL hlt (by omega),show dM num s alt i=some (.mk 4 0 0 [],i+1) by unfold dM;rw[if_neg h46,if_pos h]]
  exact aa rfl
 have h33:=O6 (b:=33) h33
 refine ap (λh91=>?_) λh91=>?_
 ·have h91:=eqT (b:=91) h91
  have hlt:=cM (s:=s) (i:=i) (by omega)
  have hp:dM num s alt i=match num (i+1)with
   |none=>none
   |some (lo,j)=>if pk s j=45 then(match num (j+1)with
    |none=>none
    |some (up,k)=>if pk s k=93 then some (.mk 1 lo up [],k+1)else none)else none:=by
   unfold dM
   rw[if_neg h46,if_neg h33,if_pos h91]
   all_goals rfl
  rw[aL hlt (by omega),hp]
  refine gI (hc (i+1) (by omega)) ?_
  cases e1:num (i+1)with
  |none=>exact aa rfl
  |some x=>
   obtain⟨lo,j⟩:=x
   have b1:=hn.bnd _ _ _ (by omega) e1
   show Wp (λn=>k_ (iT (sG tbl n) bq [.ptr 0 0,.d tY (45:Int)] (Hn s j) a6) _) _
   refine gI (EK s hs j 45 (by decide)) ?_
   by_cases h45:pk s j=45
   ·have hlt2:=cM (s:=s) (i:=j) (by omega)
    simp only[if_pos h45]
    show Wp (λn=>k_ (iT (sG tbl n) aZ [.ptr 0 0] (Hn s (j+1)) q_regex_parser_number_r) _) _
    refine gI (hc (j+1) (by omega)) ?_
    cases e2:num (j+1)with
    |none=>exact aa rfl
    |some y=>
     obtain⟨up,k⟩:=y
     show Wp (λn=>k_ (iT (sG tbl n) bq [.ptr 0 0,.d tY (93:Int)] (Hn s k) a6) _) _
     refine gI (EK s hs k 93 (by decide)) ?_
     by_cases h93:pk s k=93
     ·simp only[if_pos h93]
      exact aa rfl
     ·simp only[if_neg h93]
      exact aa rfl
   ·simp only[if_neg h45]
    exact aa rfl
 have h91:=O6 (b:=91) h91
 refine ap (λh40=>?_) λh40=>?_
 ·have h40:=eqT (b:=40) h40
  have hlt:=cM (s:=s) (i:=i) (by omega)
  rw[aL hlt (by omega)]
  refine an (vw s (i+1)) ?_
  dsimp only
  refine ap (λh=>?_) λh=>?_
  ·have h:=eqT (b:=41) h
   have hlt2:=cM (s:=s) (i:=i+1) (by omega)
   rw[aL hlt2 (by omega),show dM num s alt i=some (.mk 0 0 0 [],i+2) by unfold dM;rw[if_neg h46,if_neg h33,if_neg h91,if_pos h40,if_pos h]]
   exact aa rfl
  ·have h:=O6 (b:=41) h
   have hp:dM num s alt i=match alt (i+1)with
    |none=>none
    |some (r,j)=>if pk s j=41 then some (r,j+1)else none:=by
    unfold dM
    rw[if_neg h46,if_neg h33,if_neg h91,if_pos h40,if_neg h]
    all_goals rfl
   rw[hp,show c_ .i64 ((d:Int)+1)=((d+1:Nat):Int) by rw[wrap_i64 (by omega) (by omega)];rfl]
   refine gI (ha (i+1) (by omega)) ?_
   cases e1:alt (i+1)with
   |none=>exact aa rfl
   |some x=>
    obtain⟨r,j⟩:=x
    show Wp (λn=>k_ (iT (sG tbl n) bq [.ptr 0 0,.d tY (41:Int)] (Hn s j) a6) _) _
    refine gI (EK s hs j 41 (by decide)) ?_
    by_cases h41:pk s j=41
    ·simp only[if_pos h41]
     refine aa ?_
     rw[dG];rfl
    ·simp only[if_neg h41]
     exact aa rfl
 ·have h40:=O6 (b:=40) h40
  have hp:dM num s alt i=match num i with
   |none=>none
   |some (n,j)=>some (.mk 1 n n [],j):=by
   unfold dM
   rw[if_neg h46,if_neg h33,if_neg h91,if_neg h40]
   all_goals rfl
  rw[hp]
  refine gI (hc i hi) ?_
  cases e1:num i with
  |none=>exact aa rfl
  |some x=>exact aa rfl
def L3(s:List UInt8)(one:Nat->Option (Rx×Nat))(i:Nat):Option (Rx×Nat):=match one i with
 |none=>none
 |some (r,j)=>if pk s j=42 then some (.mk 5 0 0 [r],j+1)else if pk s j=43 then some (.mk 6 0 0 [r],j+1)else if pk s j=63 then some (.mk 7 0 0 [r],j+1)else some (r,j)
theorem U5(hs:s.length<=1048576){one:Nat->Option (Rx×Nat)}(d:Nat)(ha:∀i,i<=s.length->cW tbl cJ [.ptr 0 0,.d tI (d:Int)] (Hn s i) bg (Ro s (one i)))(i:Nat)(hi:i<=s.length):
 cW tbl bT [.ptr 0 0,.d tI (d:Int)] (Hn s i) a8 (Ro s (L3 s one i)):=by
 refine qv (λ_=>rfl) (aC uq rfl (λO m=>uz O m (d:Int) s (i:Int)) ?_)
 unfold lY L3
 refine gI (ha i hi) ?_
 cases e1:one i with
 |none=>exact aa rfl
 |some x=>
  obtain⟨r,j⟩:=x
  simp only
  have key:∀(k:Int),j<s.length->some (iL a8 (Rx.mk k 0 0 [Rx.mk r.out.1 r.out.2.1 r.out.2.2.1 r.out.2.2.2.1],s,c_ .i64 ((j:Int)+1),()))=(Ro s (some (.mk k 0 0 [r],j+1))).map (iL a8):=λk hj=>by
   rw[dG,aL hj (by omega)];rfl
  show Wp (λn=>k_ (k_ (aD (sG tbl n) bb [.ptr 0 0] (Hn s j) aX) _) _) _
  refine ak (an (vw s j) ?_)
  dsimp only
  refine ap (λh=>aa (aa ?_)) λh1=>?_
  ·have h:=eqT (b:=42) h
   rw[if_pos h];exact key 5 (cM (by omega))
  have h1:=O6 (b:=42) h1
  refine ap (λh=>aa (aa ?_)) λh2=>?_
  ·have h:=eqT (b:=43) h
   rw[if_neg h1,if_pos h];exact key 6 (cM (by omega))
  have h2:=O6 (b:=43) h2
  refine ap (λh=>aa (aa ?_)) λh3=>aa (aa ?_)
  ·have h:=eqT (b:=63) h
   rw[if_neg h1,if_neg h2,if_pos h];exact key 7 (cM (by omega))
  ·have h3:=O6 (b:=63) h3
   rw[if_neg h1,if_neg h2,if_neg h3]
   show some (iL a8 (Rx.mk r.out.1 r.out.2.1 r.out.2.2.1 r.out.2.2.2.1,s,(j:Int),()))=_
   rw[dG];rfl
theorem HU(hs:s.length<=1048576){one:Nat->Option (Rx×Nat)}(hb:M9 s one)(d:Nat)(ha:∀i,i<=s.length->cW tbl bT [.ptr 0 0,.d tI (d:Int)] (Hn s i) a8 (Ro s (one i)))(T:Option (List Rx×Nat))(r:Rx)(i f:Nat)(hi:i<=s.length)(h1:1<=i)(hf:s.length<=f+i)(hT:(if pk s i=32 then eU s 32 one f [r] (i+1)else some ([r],i))=T):
 Wp (λn=>be n (cy (sG tbl n) n (d:Int)) (s,(i:Int),(0:Int),(0:Int),(0:Int),([r]:List Rx),())) λt=>match t with
  | .inl _=>T=none
  | .inr t=>∃(acc:List Rx) (j:Nat),t=(s,(j:Int),(0:Int),(0:Int),(0:Int),acc,())/\T=some (acc,j):=by
 refine Ev.wp_loop (λt=>∃(acc:List Rx) (j f:Nat),t=(s,(j:Int),(0:Int),(0:Int),(0:Int),acc,())/\j<=s.length/\acc.length<=j/\s.length<=f+j/\(if pk s j=32 then eU s 32 one f acc (j+1)else some (acc,j))=T) (λt=>s.length - t.2.1.toNat) ⟨[r],i,f,rfl,hi,h1,hf,hT⟩ ?_
 rintro t ⟨acc,j,f,rfl,hj,hacc,hf,hT⟩
 unfold cy
 refine an (vw s j) ?_
 dsimp only
 refine ap (λh=>?_) λh=>aa ⟨acc,j,rfl,?_⟩
 ·have h:=eqT (b:=32) h
  have hlt:=cM (s:=s) (i:=j) (by omega)
  rw[if_pos h]at hT
  rw[aL hlt (by omega)]
  refine gI (ha (j+1) (by omega)) ?_
  obtain⟨f2,rfl⟩:∃g,f=g+1:=⟨f - 1,by omega⟩
  rw[eU]at hT
  cases e1:one (j+1)with
  |none=>
   rw[e1]at hT
   exact aa hT.symm
  |some x=>
   obtain⟨r2,k⟩:=x
   obtain⟨b1,b2,_⟩:=hb _ _ _ (by omega) e1
   rw[e1]at hT
   simp only at hT
   refine aN (decide_eq_true ?_) (aa ⟨⟨acc++[r2],k,f2,rfl,b2,?_,by omega,hT⟩,?_⟩)
   ·show(acc.length+1)*48<=140737488355328
    omega
   ·rw[e_,i_];omega
   ·show s.length - (k:Int).toNat<s.length - (j:Int).toNat
    omega
 ·have h:=O6 (b:=32) h
  rw[if_neg h]at hT
  exact hT.symm
theorem Bh(hs:s.length<=1048576){one:Nat->Option (Rx×Nat)}(hb:M9 s one)(d:Nat)(ha:∀i,i<=s.length->cW tbl br [.ptr 0 0,.d tI (d:Int)] (Hn s i) a7 (Ro s (one i)))(T:Option (List Rx×Nat))(r:Rx)(i f:Nat)(hi:i<=s.length)(h1:1<=i)(hf:s.length<=f+i)(hT:(if pk s i=124 then eU s 124 one f [r] (i+1)else some ([r],i))=T):
 Wp (λn=>be n (bY (sG tbl n) n (d:Int)) (s,(i:Int),(0:Int),(0:Int),(0:Int),([r]:List Rx),())) λt=>match t with
  | .inl _=>T=none
  | .inr t=>∃(acc:List Rx) (j:Nat),t=(s,(j:Int),(0:Int),(0:Int),(0:Int),acc,())/\T=some (acc,j):=by
 refine Ev.wp_loop (λt=>∃(acc:List Rx) (j f:Nat),t=(s,(j:Int),(0:Int),(0:Int),(0:Int),acc,())/\j<=s.length/\acc.length<=j/\s.length<=f+j/\(if pk s j=124 then eU s 124 one f acc (j+1)else some (acc,j))=T) (λt=>s.length - t.2.1.toNat) ⟨[r],i,f,rfl,hi,h1,hf,hT⟩ ?_
 rintro t ⟨acc,j,f,rfl,hj,hacc,hf,hT⟩
 unfold bY
 refine an (vw s j) ?_
 dsimp only
 refine ap (λh=>?_) λh=>aa ⟨acc,j,rfl,?_⟩
 ·have h:=eqT (b:=124) h
  have hlt:=cM (s:=s) (i:=j) (by omega)
  rw[if_pos h]at hT
  rw[aL hlt (by omega)]
  refine gI (ha (j+1) (by omega)) ?_
  obtain⟨f2,rfl⟩:∃g,f=g+1:=⟨f - 1,by omega⟩
  rw[eU]at hT
  cases e1:one (j+1)with
  |none=>
   rw[e1]at hT
   exact aa hT.symm
  |some x=>
   obtain⟨r2,k⟩:=x
   obtain⟨b1,b2,_⟩:=hb _ _ _ (by omega) e1
   rw[e1]at hT
   simp only at hT
   refine aN (decide_eq_true ?_) (aa ⟨⟨acc++[r2],k,f2,rfl,b2,?_,by omega,hT⟩,?_⟩)
   ·show(acc.length+1)*48<=140737488355328
    omega
   ·rw[e_,i_];omega
   ·show s.length - (k:Int).toNat<s.length - (j:Int).toNat
    omega
 ·have h:=O6 (b:=124) h
  rw[if_neg h]at hT
  exact hT.symm
theorem Ng(hs:s.length<=1048576){one:Nat->Option (Rx×Nat)}(hb:M9 s one)(d:Nat)(ha:∀i,i<=s.length->cW tbl bT [.ptr 0 0,.d tI (d:Int)] (Hn s i) a8 (Ro s (one i)))(i:Nat)(hi:i<=s.length):
 cW tbl br [.ptr 0 0,.d tI (d:Int)] (Hn s i) a7 (Ro s (vh s 32 3 one i)):=by
 refine qv (λ_=>rfl) (aC q7 rfl (λO m=>rb O m (d:Int) s (i:Int)) ?_)
 unfold jc vh
 refine gI (ha i hi) ?_
 obtain⟨f,hf⟩:∃f,s.length+1 - i=f+1:=⟨s.length - i,by omega⟩
 rw[hf,eU]
 cases e1:one i with
 |none=>exact aa rfl
 |some x=>
  obtain⟨r,j⟩:=x
  obtain⟨b1,b2,_⟩:=hb _ _ _ hi e1
  simp only[G_]
  show Wp (λn=>k_ (be n (cy (sG tbl n) n (d:Int)) (s,(j:Int),(0:Int),(0:Int),(0:Int),([r]:List Rx),())) _) _
  refine ak (Ev.wp_mono (HU hs hb d ha _ r j f b2 (by omega) (by omega) rfl) ?_)
  rintro(t|t) ht
  ·rw[show _=none from ht]
   exact aa rfl
  ·obtain⟨acc,k,rfl,hT⟩:=ht
   rw[hT]
   refine ap (λh=>?_) λh=>aa ?_
   ·have h:=eqT (b:=1) h
    obtain⟨x,rfl⟩:=t_.1 h
    refine jx (by decide) rfl (Ad rfl (aa ?_))
    rw[dG];rfl
   ·have h:=O6 (b:=1) h
    simp only
    rw[sN h];rfl
theorem EJ(hs:s.length<=1048576){one:Nat->Option (Rx×Nat)}(hb:M9 s one)(d:Nat)(hd0:d<=32)(ha:∀i,i<=s.length->cW tbl br [.ptr 0 0,.d tI (d:Int)] (Hn s i) a7 (Ro s (one i)))(i:Nat)(hi:i<=s.length):
 cW tbl aY [.ptr 0 0,.d tI (d:Int)] (Hn s i) aU (Ro s (vh s 124 4 one i)):=by
 refine qv (λ_=>rfl) (aC gH rfl (λO m=>gJ O m (d:Int) s (i:Int)) ?_)
 unfold de vh
 refine ak (ao (decide_eq_false (by omega)) (aa ?_))
 show Wp (λn=>k_ (iT (sG tbl n) br [.ptr 0 0,.d tI (d:Int)] (Hn s i) a7) _) _
 refine gI (ha i hi) ?_
 obtain⟨f,hf⟩:∃f,s.length+1 - i=f+1:=⟨s.length - i,by omega⟩
 rw[hf,eU]
 cases e1:one i with
 |none=>exact aa rfl
 |some x=>
  obtain⟨r,j⟩:=x
  obtain⟨b1,b2,_⟩:=hb _ _ _ hi e1
  simp only[G_]
  show Wp (λn=>k_ (be n (bY (sG tbl n) n (d:Int)) (s,(j:Int),(0:Int),(0:Int),(0:Int),([r]:List Rx),())) _) _
  refine ak (Ev.wp_mono (Bh hs hb d ha _ r j f b2 (by omega) (by omega) rfl) ?_)
  rintro(t|t) ht
  ·rw[show _=none from ht]
   exact aa rfl
  ·obtain⟨acc,k,rfl,hT⟩:=ht
   rw[hT]
   refine ap (λh=>?_) λh=>aa ?_
   ·have h:=eqT (b:=1) h
    obtain⟨x,rfl⟩:=t_.1 h
    refine jx (by decide) rfl (Ad rfl (aa ?_))
    rw[dG];rfl
   ·have h:=O6 (b:=1) h
    simp only
    rw[sN h];rfl
theorem TI(i:Nat):cW tbl aY [.ptr 0 0,.d tI (33:Int)] (Hn s i) aU none:=by
 refine qv (λ_=>rfl) (aC gH rfl (λO m=>gJ O m (33:Int) s (i:Int)) ?_)
 unfold de
 exact ak (aK rfl (aa (aa rfl)))
theorem Rr(hs:s.length<=1048576){num:Nat->Option (Int×Nat)}(hn:NumOk s num)(hc:∀i,i<=s.length->cW tbl aZ [.ptr 0 0] (Hn s i) q_regex_parser_number_r ((num i).map λx=>(x.1,s,(x.2:Int),()))):
 ∀(b d:Nat),d+b=33->∀i,i<=s.length->cW tbl aY [.ptr 0 0,.d tI (d:Int)] (Hn s i) aU (Ro s (zU num s b i))
 |0,d,h,i,_=>by
  have:d=33:=by omega
  subst this
  exact TI i
 |b+1,d,h,i,hi=>by
  have hb:=AB hn b
  have h1:=U4 hs hn hc hb d (by omega) (Rr hs hn hc b (d+1) (by omega))
  have h2:=U5 hs d h1
  have h3:=Ng hs (vU hn hb) d h2
  exact EJ hs (XC (vU hn hb) (by decide) 3) d (by omega) h3 i hi
end
abbrev KY(s:List UInt8)(i:Nat):List Ob:=[.box aw [.d tS s,.d tI (i:Int)]]
def Rd(s:List UInt8)(one:Nat->Option (Rx×Nat))(C:Nat->Rx->Bool->Nat->Prop):Prop:=∀i,i<=s.length->∃(r:Rx) (ok:Bool) (j:Nat),(i<=j/\j<=s.length)/\one i=(if ok then some (r,j)else none)/\C i r ok j
section
variable {s:List UInt8}
theorem Rs(hs:s.length<=1048576){num:Nat->Option (Int×Nat)}(hc:∀i,i<=s.length->∃(v:Int) (ok:Bool) (j:Nat),(i<=j/\j<=s.length)/\num i=(if ok then some (v,j)else none)/\
 aE tbl ba [.ptr 0 0] (KY s i) q_ref15_parser_number_r (v,ok,s,(j:Int),()))
 {alt:Nat->Option (Rx×Nat)} (d:Nat) (hd0:d<=32) (ha:Rd s alt λi r ok j=>aE tbl bN [.ptr 0 0,.d tI ((d+1:Nat):Int)] (KY s i) q_ref15_parser_alt_rd (r,ok,s,(j:Int),())):
 Rd s (dM num s alt) λi r ok j=>aE tbl bS [.ptr 0 0,.d tI (d:Int)] (KY s i) q_ref15_parser_atom_rd (r,ok,s,(j:Int),()):=by
 intro i hi
 suffices h:∃c:HL q_ref15_parser_atom_rd.sl,(∃(r:Rx) (ok:Bool) (j:Nat),c=(r,ok,s,(j:Int),())/\(i<=j/\j<=s.length)/\dM num s alt i=(if ok then some (r,j)else none))/\aE tbl bS [.ptr 0 0,.d tI (d:Int)] (KY s i) q_ref15_parser_atom_rd c by
  obtain⟨c,⟨r,ok,j,rfl,h1,h2⟩,h3⟩:=h
  exact⟨r,ok,j,h1,h2,h3⟩
 refine kw (λ_=>rfl) (aC m4 rfl (λO m=>m7 O m (d:Int) s (i:Int)) ?_)
 unfold gS
 refine ao (decide_eq_false (by omega)) ?_
 have nx:∀(k c:Nat),c≠0->k<=s.length->aE tbl aP [.ptr 0 0,.d tY (c:Int)] (KY s k) aM (decide (pk s k=c),s,((if pk s k=c then k+1 else k:Nat):Int),()):=λk c hc0 hk=>Jw s k c hc0 hs hk
 refine an (nx i 46 (by decide) hi) ?_
 by_cases h46:pk s i=46
 ·have hlt:=cM (s:=s) (i:=i) (by omega)
  refine aK (decide_eq_true h46) (aa ⟨_,rfl,.mk 2 0 0 [],true,i+1,?_,⟨by omega,by omega⟩,?_⟩)
  ·simp only[if_pos h46];rfl
  ·unfold dM;rw[if_pos h46];rfl
 refine ao (decide_eq_false h46) ?_
 simp only[if_neg h46]
 refine an (nx i 33 (by decide) hi) ?_
 by_cases h33:pk s i=33
 ·have hlt:=cM (s:=s) (i:=i) (by omega)
  refine aK (decide_eq_true h33) (aa ⟨_,rfl,.mk 4 0 0 [],true,i+1,?_,⟨by omega,by omega⟩,?_⟩)
  ·simp only[if_pos h33];rfl
  ·unfold dM;rw[if_neg h46,if_pos h33];rfl
 refine ao (decide_eq_false h33) ?_
 simp only[if_neg h33]
 refine an (nx i 40 (by decide) hi) ?_
 by_cases h40:pk s i=40
 ·have hlt:=cM (s:=s) (i:=i) (by omega)
  refine aK (decide_eq_true h40) ?_
  simp only[if_pos h40]
  refine an (nx (i+1) 41 (by decide) (by omega)) ?_
  by_cases h41:pk s (i+1)=41
  ·have hlt2:=cM (s:=s) (i:=i+1) (by omega)
   refine aK (decide_eq_true h41) (aa ⟨_,rfl,.mk 0 0 0 [],true,i+2,?_,⟨by omega,by omega⟩,?_⟩)
   ·simp only[if_pos h41];rfl
   ·unfold dM;rw[if_neg h46,if_neg h33,if_neg (by omega),if_pos h40,if_pos h41];rfl
  refine ao (decide_eq_false h41) ?_
  simp only[if_neg h41]
  rw[show c_ .i64 ((d:Int)+1)=((d+1:Nat):Int) by rw[wrap_i64 (by omega) (by omega)];rfl]
  obtain⟨r,ok,j,hj,e,hcall⟩:=ha (i+1) (by omega)
  have hp:dM num s alt i=match alt (i+1)with
   |none=>none
   |some (r,j)=>if pk s j=41 then some (r,j+1)else none:=by
   unfold dM
   rw[if_neg h46,if_neg h33,if_neg (by omega),if_pos h40,if_neg h41]
   all_goals rfl
  rw[e]at hp
  refine an hcall ?_
  cases ok with
  |true=>
   refine aK rfl (an (nx j 41 (by decide) hj.2) ?_)
   simp only[if_true]at hp
   by_cases hj41:pk s j=41
   ·have hlt2:=cM (s:=s) (i:=j) (by omega)
    rw[if_pos hj41]at hp
    refine aa ⟨_,rfl,r,true,j+1,?_,⟨by omega,by omega⟩,hp⟩
    show(Rx.mk r.out.1 r.out.2.1 r.out.2.2.1 r.out.2.2.2.1,decide (pk s j=41),s,((if pk s j=41 then j+1 else j:Nat):Int),())=_
    rw[dG,if_pos hj41,decide_eq_true hj41]
   ·rw[if_neg hj41]at hp
    refine aa ⟨_,rfl,r,false,j,?_,⟨by omega,by omega⟩,hp⟩
    show(Rx.mk r.out.1 r.out.2.1 r.out.2.2.1 r.out.2.2.2.1,decide (pk s j=41),s,((if pk s j=41 then j+1 else j:Nat):Int),())=_
    rw[dG,if_neg hj41,decide_eq_false hj41]
  |false=>
   refine ao rfl (aa ⟨_,rfl,r,false,j,?_,⟨by omega,by omega⟩,hp⟩)
   show(Rx.mk r.out.1 r.out.2.1 r.out.2.2.1 r.out.2.2.2.1,false,s,(j:Int),())=_
   rw[dG]
 refine ao (decide_eq_false h40) ?_
 simp only[if_neg h40]
 refine an (nx i 91 (by decide) hi) ?_
 by_cases h91:pk s i=91
 ·have hlt:=cM (s:=s) (i:=i) (by omega)
  have hp:dM num s alt i=match num (i+1)with
   |none=>none
   |some (lo,j)=>if pk s j=45 then(match num (j+1)with
    |none=>none
    |some (up,k)=>if pk s k=93 then some (.mk 1 lo up [],k+1)else none)else none:=by
   unfold dM
   rw[if_neg h46,if_neg h33,if_pos h91]
   all_goals rfl
  refine aK (decide_eq_true h91) ?_
  simp only[if_pos h91]
  obtain⟨v1,ok1,j1,b1,e1,c1⟩:=hc (i+1) (by omega)
  refine an c1 (an (nx j1 45 (by decide) b1.2) ?_)
  have bj:(if pk s j1=45 then j1+1 else j1)<=s.length/\j1<=(if pk s j1=45 then j1+1 else j1):=by
   split
   ·have:=cM (s:=s) (i:=j1) (by omega);omega
   ·omega
  obtain⟨v2,ok2,j2,b2,e2,c2⟩:=hc (if pk s j1=45 then j1+1 else j1) bj.1
  refine an c2 ?_
  rw[e1]at hp
  cases ok1 with
  |false=>exact ao rfl (aa ⟨_,rfl,.mk 1 v1 v2 [],false,j2,rfl,⟨by omega,by omega⟩,hp⟩)
  |true=>
   simp only[if_true]at hp
   refine aK rfl ?_
   by_cases h45:pk s j1=45
   ·rw[if_pos h45]at hp e2
    refine aK (decide_eq_true h45) ?_
    rw[e2]at hp
    cases ok2 with
    |false=>exact ao rfl (aa ⟨_,rfl,.mk 1 v1 v2 [],false,j2,rfl,⟨by omega,by omega⟩,hp⟩)
    |true=>
     simp only[if_true]at hp
     refine aK rfl (an (nx j2 93 (by decide) b2.2) ?_)
     by_cases h93:pk s j2=93
     ·have hlt2:=cM (s:=s) (i:=j2) (by omega)
      rw[if_pos h93]at hp
      refine aa ⟨_,rfl,.mk 1 v1 v2 [],true,j2+1,?_,⟨by omega,by omega⟩,hp⟩
      show(Rx.mk 1 v1 v2 [],decide (pk s j2=93),s,((if pk s j2=93 then j2+1 else j2:Nat):Int),())=_
      rw[if_pos h93,decide_eq_true h93]
     ·rw[if_neg h93]at hp
      refine aa ⟨_,rfl,.mk 1 v1 v2 [],false,j2,?_,⟨by omega,by omega⟩,hp⟩
      show(Rx.mk 1 v1 v2 [],decide (pk s j2=93),s,((if pk s j2=93 then j2+1 else j2:Nat):Int),())=_
      rw[if_neg h93,decide_eq_false h93]
   ·rw[if_neg h45]at hp
    exact ao (decide_eq_false h45) (aa ⟨_,rfl,.mk 1 v1 v2 [],false,j2,rfl,⟨by omega,by omega⟩,hp⟩)
 refine ao (decide_eq_false h91) ?_
 simp only[if_neg h91]
 obtain⟨v1,ok1,j1,b1,e1,c1⟩:=hc i hi
 have hp:dM num s alt i=match num i with
  |none=>none
  |some (n,j)=>some (.mk 1 n n [],j):=by
  unfold dM
  rw[if_neg h46,if_neg h33,if_neg h91,if_neg h40]
  all_goals rfl
 rw[e1]at hp
 refine an c1 (aa ⟨_,rfl,.mk 1 v1 v1 [],ok1,j1,rfl,⟨by omega,by omega⟩,?_⟩)
 rw[hp]
 cases ok1<;>rfl
theorem K4(hs:s.length<=1048576){one:Nat->Option (Rx×Nat)}(d:Nat)(ha:Rd s one λi r ok j=>aE tbl bS [.ptr 0 0,.d tI (d:Int)] (KY s i) q_ref15_parser_atom_rd (r,ok,s,(j:Int),())):
 Rd s (L3 s one) λi r ok j=>aE tbl cg [.ptr 0 0,.d tI (d:Int)] (KY s i) q_ref15_parser_item_rd (r,ok,s,(j:Int),()):=by
 intro i hi
 suffices h:∃c:HL q_ref15_parser_item_rd.sl,(∃(r:Rx) (ok:Bool) (j:Nat),c=(r,ok,s,(j:Int),())/\(i<=j/\j<=s.length)/\L3 s one i=(if ok then some (r,j)else none))/\aE tbl cg [.ptr 0 0,.d tI (d:Int)] (KY s i) q_ref15_parser_item_rd c by
  obtain⟨c,⟨r,ok,j,rfl,h1,h2⟩,h3⟩:=h
  exact⟨r,ok,j,h1,h2,h3⟩
 refine kw (λ_=>rfl) (aC uk rfl (λO m=>uw O m (d:Int) s (i:Int)) ?_)
 unfold lV
 obtain⟨r,ok,j,hj,e,hcall⟩:=ha i hi
 have nx:∀(k c:Nat),c≠0->k<=s.length->aE tbl aP [.ptr 0 0,.d tY (c:Int)] (KY s k) aM (decide (pk s k=c),s,((if pk s k=c then k+1 else k:Nat):Int),()):=λk c hc0 hk=>Jw s k c hc0 hs hk
 refine an hcall ?_
 have hp:L3 s one i=match one i with
  |none=>none
  |some (r,j)=>if pk s j=42 then some (.mk 5 0 0 [r],j+1)else if pk s j=43 then some (.mk 6 0 0 [r],j+1)else if pk s j=63 then some (.mk 7 0 0 [r],j+1)else some (r,j):=rfl
 rw[e]at hp
 cases ok with
 |false=>
  refine ak (aK rfl (aa (aa ⟨_,rfl,r,false,j,?_,hj,hp⟩)))
  show(Rx.mk r.out.1 r.out.2.1 r.out.2.2.1 r.out.2.2.2.1,false,s,(j:Int),())=_
  rw[dG]
 |true=>
  simp only[if_true]at hp
  refine ak (ao rfl ?_)
  refine an (nx j 42 (by decide) hj.2) ?_
  by_cases h1:pk s j=42
  ·have hlt:=cM (s:=s) (i:=j) (by omega)
   rw[if_pos h1]at hp
   refine aK (decide_eq_true h1) (aa ?_)
   refine gO (λ_=>rfl) (⟨_,rfl,.mk 5 0 0 [r],true,j+1,?_,⟨by omega,by omega⟩,hp⟩)
   show(Rx.mk 5 0 0 [Rx.mk r.out.1 r.out.2.1 r.out.2.2.1 r.out.2.2.2.1],true,s,((if pk s j=42 then j+1 else j:Nat):Int),())=_
   rw[dG,if_pos h1]
  rw[if_neg h1]at hp
  refine ao (decide_eq_false h1) ?_
  simp only[if_neg h1]
  refine an (nx j 43 (by decide) hj.2) ?_
  by_cases h2:pk s j=43
  ·have hlt:=cM (s:=s) (i:=j) (by omega)
   rw[if_pos h2]at hp
   refine aK (decide_eq_true h2) (aa ?_)
   refine gO (λ_=>rfl) (⟨_,rfl,.mk 6 0 0 [r],true,j+1,?_,⟨by omega,by omega⟩,hp⟩)
   show(Rx.mk 6 0 0 [Rx.mk r.out.1 r.out.2.1 r.out.2.2.1 r.out.2.2.2.1],true,s,((if pk s j=43 then j+1 else j:Nat):Int),())=_
   rw[dG,if_pos h2]
  rw[if_neg h2]at hp
  refine ao (decide_eq_false h2) ?_
  simp only[if_neg h2]
  refine an (nx j 63 (by decide) hj.2) ?_
  by_cases h3:pk s j=63
  ·have hlt:=cM (s:=s) (i:=j) (by omega)
   rw[if_pos h3]at hp
   refine aK (decide_eq_true h3) (aa ?_)
   refine gO (λ_=>rfl) (⟨_,rfl,.mk 7 0 0 [r],true,j+1,?_,⟨by omega,by omega⟩,hp⟩)
   show(Rx.mk 7 0 0 [Rx.mk r.out.1 r.out.2.1 r.out.2.2.1 r.out.2.2.2.1],true,s,((if pk s j=63 then j+1 else j:Nat):Int),())=_
   rw[dG,if_pos h3]
  rw[if_neg h3]at hp
  refine ao (decide_eq_false h3) (aa ?_)
  refine gO (λ_=>rfl) (⟨_,rfl,r,true,j,?_,hj,hp⟩)
  show(Rx.mk r.out.1 r.out.2.1 r.out.2.2.1 r.out.2.2.2.1,true,s,((if pk s j=63 then j+1 else j:Nat):Int),())=_
  rw[dG,if_neg h3]
theorem OM(hs:s.length<=1048576){one:Nat->Option (Rx×Nat)}(hb:M9 s one)(d:Nat)(ha:Rd s one λi r ok j=>aE tbl cg [.ptr 0 0,.d tI (d:Int)] (KY s i) q_ref15_parser_item_rd (r,ok,s,(j:Int),())):
 Rd s (vh s 32 3 one) λi r ok j=>aE tbl cr [.ptr 0 0,.d tI (d:Int)] (KY s i) q_ref15_parser_seq_rd (r,ok,s,(j:Int),()):=by
 intro i hi
 suffices h:∃c:HL q_ref15_parser_seq_rd.sl,(∃(r:Rx) (ok:Bool) (j:Nat),c=(r,ok,s,(j:Int),())/\(i<=j/\j<=s.length)/\vh s 32 3 one i=(if ok then some (r,j)else none))/\aE tbl cr [.ptr 0 0,.d tI (d:Int)] (KY s i) q_ref15_parser_seq_rd c by
  obtain⟨c,⟨r,ok,j,rfl,h1,h2⟩,h3⟩:=h
  exact⟨r,ok,j,h1,h2,h3⟩
 refine kw (λ_=>rfl) (aC vm rfl (λO m=>vt O m (d:Int) s (i:Int)) ?_)
 unfold ng
 refine ak (Ev.wp_mono (Ev.wp_loop (Q:=λt=>match t with
  | .inl t=>∃j:Nat,t=(false,s,(j:Int),(0:Int),(0:Int),(0:Int),())/\(i<=j/\j<=s.length)/\eU s 32 one (s.length+1 - i) [] i=none
  | .inr t=>∃(acc:List Rx) (j:Nat),t=(s,(j:Int),(0:Int),(0:Int),(0:Int),acc,())/\(i<=j/\j<=s.length)/\eU s 32 one (s.length+1 - i) [] i=some (acc,j))
  (λt=>∃(acc:List Rx) (j f:Nat),t=(s,(j:Int),(0:Int),(0:Int),(0:Int),acc,())/\i<=j/\j<=s.length/\acc.length<=j/\s.length+1<=f+j/\eU s 32 one f acc j=eU s 32 one (s.length+1 - i) [] i) (λt=>s.length - t.2.1.toNat)
  ⟨[],i,s.length+1 - i,rfl,r_ _,hi,z_ _,by omega,rfl⟩ ?_) ?_)
 ·rintro t ⟨acc,j,f,rfl,hij,hj,hacc,hf,hT⟩
  unfold lA
  obtain⟨r,ok,k,hk,e,hcall⟩:=ha j hj
  obtain⟨f2,rfl⟩:∃g,f=g+1:=⟨f - 1,by omega⟩
  rw[eU,e]at hT
  refine an hcall ?_
  cases ok with
  |false=>exact aK rfl (aa ⟨k,rfl,⟨by omega,hk.2⟩,hT.symm⟩)
  |true=>
   simp only[if_true]at hT e
   obtain⟨b1,b2,_⟩:=hb _ _ _ hj e
   refine ao rfl (aN (decide_eq_true ?_) (an (Jw s k 32 (by decide) hs hk.2) ?_))
   ·show(acc.length+1)*48<=140737488355328
    omega
   by_cases hp:pk s k=32
   ·have hlt:=cM (s:=s) (i:=k) (by omega)
    rw[if_pos hp]at hT
    refine ao (by show(!decide (pk s k=32))=false;rw[decide_eq_true hp];rfl) (aa ⟨⟨acc++[r],k+1,f2,?_,by omega,by omega,?_,by omega,hT⟩,?_⟩)
    ·show(s,((if pk s k=32 then k+1 else k:Nat):Int),(0:Int),(0:Int),(0:Int),acc++[Rx.mk r.out.1 r.out.2.1 r.out.2.2.1 r.out.2.2.2.1],())=_
     rw[dG,if_pos hp]
    ·rw[e_,i_];omega
    ·show s.length - ((if pk s k=32 then k+1 else k:Nat):Int).toNat<s.length - (j:Int).toNat
     rw[if_pos hp];omega
   ·rw[if_neg hp]at hT
    refine aK (by show(!decide (pk s k=32))=true;rw[decide_eq_false hp];rfl) (aa ⟨acc++[r],k,?_,⟨by omega,hk.2⟩,hT.symm⟩)
    show(s,((if pk s k=32 then k+1 else k:Nat):Int),(0:Int),(0:Int),(0:Int),acc++[Rx.mk r.out.1 r.out.2.1 r.out.2.2.1 r.out.2.2.2.1],())=_
    rw[dG,if_neg hp]
 ·unfold vh
  rintro(t|t) ht
  ·obtain⟨j,rfl,hj,hT⟩:=ht
   rw[hT]
   exact aa ⟨_,rfl,.mk 0 0 0 [],false,j,rfl,hj,rfl⟩
  ·obtain⟨acc,k,rfl,hk,hT⟩:=ht
   rw[hT]
   refine ap (λh=>?_) λh=>aa ⟨_,rfl,.mk 3 0 0 acc,true,k,rfl,hk,?_⟩
   ·have h:=eqT (b:=1) h
    obtain⟨x,rfl⟩:=t_.1 h
    refine jx (by decide) rfl (Ad rfl (aa ⟨_,rfl,x,true,k,?_,hk,rfl⟩))
    rw[dG]
   ·have h:=O6 (b:=1) h
    simp only
    rw[sN h];rfl
theorem OK(hs:s.length<=1048576){one:Nat->Option (Rx×Nat)}(hb:M9 s one)(d:Nat)(ha:Rd s one λi r ok j=>aE tbl cr [.ptr 0 0,.d tI (d:Int)] (KY s i) q_ref15_parser_seq_rd (r,ok,s,(j:Int),())):
 Rd s (vh s 124 4 one) λi r ok j=>aE tbl bN [.ptr 0 0,.d tI (d:Int)] (KY s i) q_ref15_parser_alt_rd (r,ok,s,(j:Int),()):=by
 intro i hi
 suffices h:∃c:HL q_ref15_parser_alt_rd.sl,(∃(r:Rx) (ok:Bool) (j:Nat),c=(r,ok,s,(j:Int),())/\(i<=j/\j<=s.length)/\vh s 124 4 one i=(if ok then some (r,j)else none))/\aE tbl bN [.ptr 0 0,.d tI (d:Int)] (KY s i) q_ref15_parser_alt_rd c by
  obtain⟨c,⟨r,ok,j,rfl,h1,h2⟩,h3⟩:=h
  exact⟨r,ok,j,h1,h2,h3⟩
 refine kw (λ_=>rfl) (aC vl rfl (λO m=>vr O m (d:Int) s (i:Int)) ?_)
 unfold nf
 refine ak (Ev.wp_mono (Ev.wp_loop (Q:=λt=>match t with
  | .inl t=>∃j:Nat,t=(false,s,(j:Int),(0:Int),(0:Int),(0:Int),())/\(i<=j/\j<=s.length)/\eU s 124 one (s.length+1 - i) [] i=none
  | .inr t=>∃(acc:List Rx) (j:Nat),t=(s,(j:Int),(0:Int),(0:Int),(0:Int),acc,())/\(i<=j/\j<=s.length)/\eU s 124 one (s.length+1 - i) [] i=some (acc,j))
  (λt=>∃(acc:List Rx) (j f:Nat),t=(s,(j:Int),(0:Int),(0:Int),(0:Int),acc,())/\i<=j/\j<=s.length/\acc.length<=j/\s.length+1<=f+j/\eU s 124 one f acc j=eU s 124 one (s.length+1 - i) [] i) (λt=>s.length - t.2.1.toNat)
  ⟨[],i,s.length+1 - i,rfl,r_ _,hi,z_ _,by omega,rfl⟩ ?_) ?_)
 ·rintro t ⟨acc,j,f,rfl,hij,hj,hacc,hf,hT⟩
  unfold lz
  obtain⟨r,ok,k,hk,e,hcall⟩:=ha j hj
  obtain⟨f2,rfl⟩:∃g,f=g+1:=⟨f - 1,by omega⟩
  rw[eU,e]at hT
  refine an hcall ?_
  cases ok with
  |false=>exact aK rfl (aa ⟨k,rfl,⟨by omega,hk.2⟩,hT.symm⟩)
  |true=>
   simp only[if_true]at hT e
   obtain⟨b1,b2,_⟩:=hb _ _ _ hj e
   refine ao rfl (aN (decide_eq_true ?_) (an (Jw s k 124 (by decide) hs hk.2) ?_))
   ·show(acc.length+1)*48<=140737488355328
    omega
   by_cases hp:pk s k=124
   ·have hlt:=cM (s:=s) (i:=k) (by omega)
    rw[if_pos hp]at hT
    refine ao (by show(!decide (pk s k=124))=false;rw[decide_eq_true hp];rfl) (aa ⟨⟨acc++[r],k+1,f2,?_,by omega,by omega,?_,by omega,hT⟩,?_⟩)
    ·show(s,((if pk s k=124 then k+1 else k:Nat):Int),(0:Int),(0:Int),(0:Int),acc++[Rx.mk r.out.1 r.out.2.1 r.out.2.2.1 r.out.2.2.2.1],())=_
     rw[dG,if_pos hp]
    ·rw[e_,i_];omega
    ·show s.length - ((if pk s k=124 then k+1 else k:Nat):Int).toNat<s.length - (j:Int).toNat
     rw[if_pos hp];omega
   ·rw[if_neg hp]at hT
    refine aK (by show(!decide (pk s k=124))=true;rw[decide_eq_false hp];rfl) (aa ⟨acc++[r],k,?_,⟨by omega,hk.2⟩,hT.symm⟩)
    show(s,((if pk s k=124 then k+1 else k:Nat):Int),(0:Int),(0:Int),(0:Int),acc++[Rx.mk r.out.1 r.out.2.1 r.out.2.2.1 r.out.2.2.2.1],())=_
    rw[dG,if_neg hp]
 ·unfold vh
  rintro(t|t) ht
  ·obtain⟨j,rfl,hj,hT⟩:=ht
   rw[hT]
   exact aa ⟨_,rfl,.mk 0 0 0 [],false,j,rfl,hj,rfl⟩
  ·obtain⟨acc,k,rfl,hk,hT⟩:=ht
   rw[hT]
   refine ap (λh=>?_) λh=>aa ⟨_,rfl,.mk 4 0 0 acc,true,k,rfl,hk,?_⟩
   ·have h:=eqT (b:=1) h
    obtain⟨x,rfl⟩:=t_.1 h
    refine jx (by decide) rfl (Ad rfl (aa ⟨_,rfl,x,true,k,?_,hk,rfl⟩))
    rw[dG]
   ·have h:=O6 (b:=1) h
    simp only
    rw[sN h];rfl
theorem Rt:Rd s (λ_=>none) λi r ok j=>aE tbl bS [.ptr 0 0,.d tI ((33:Nat):Int)] (KY s i) q_ref15_parser_atom_rd (r,ok,s,(j:Int),()):=by
 intro i hi
 refine⟨.mk 0 0 0 [],false,i,⟨r_ _,hi⟩,rfl,?_⟩
 refine aB rfl (aC m4 rfl (λO m=>m7 O m (33:Int) s (i:Int)) ?_)
 unfold gS
 exact aK rfl (aa rfl)
theorem Lt:M9 s λ_=>none:=λ_ _ _ _ h=>by cases h
theorem Rd.imp{one one':Nat->Option (Rx×Nat)}{C:Nat->Rx->Bool->Nat->Prop}(h:Rd s one C)(he:∀i,i<=s.length->one i=one' i):Rd s one' C:=λi hi=>by
 obtain⟨r,ok,j,h1,h2,h3⟩:=h i hi
 exact⟨r,ok,j,h1,by rw[<-he i hi];exact h2,h3⟩
theorem LU(p:Nat)(k:Int)(i:Nat)(hi:i<=s.length):vh s p k (λ_=>none) i=none:=by
 obtain⟨f,hf⟩:∃f,s.length+1 - i=f+1:=⟨s.length - i,by omega⟩
 unfold vh
 rw[hf,eU]
theorem K0(hs:s.length<=1048576){num:Nat->Option (Int×Nat)}(hn:NumOk s num)(hc:∀i,i<=s.length->∃(v:Int) (ok:Bool) (j:Nat),(i<=j/\j<=s.length)/\num i=(if ok then some (v,j)else none)/\
 aE tbl ba [.ptr 0 0] (KY s i) q_ref15_parser_number_r (v,ok,s,(j:Int),())):
 ∀(b d:Nat),d+b=33->Rd s (zU num s b) λi r ok j=>aE tbl bN [.ptr 0 0,.d tI (d:Int)] (KY s i) q_ref15_parser_alt_rd (r,ok,s,(j:Int),())
 |0,d,h=>by
  have:d=33:=by omega
  subst this
  have h2:=K4 hs 33 Rt
  have h2':Rd s (λ_=>none) _:=h2.imp λi _=>rfl
  have h3:=OM hs Lt 33 h2'
  have h3':Rd s (λ_=>none) _:=h3.imp λi hi=>LU 32 3 i hi
  exact(OK hs Lt 33 h3').imp λi hi=>LU 124 4 i hi
 |b+1,d,h=>by
  have hb:=AB hn b
  have h1:=Rs hs hc d (by omega) (K0 hs hn hc b (d+1) (by omega))
  have h2:=K4 hs d h1
  have h3:=OM hs (vU hn hb) d h2
  exact OK hs (XC (vU hn hb) (by decide) 3) d h3
end
def ParsedX(s:List UInt8)(c:Rx×Int×Unit):Prop:=(∃r,dh r=0/\ff r=s/\c=(r,0,()))\/((∀r,dh r=0->ff r≠s)/\c=(.mk 0 0 0 [],2,()))
theorem CY{r:Rx}(h:dh r=0):iw r=true/\sz r<=64/\KZ r<=16:=by
 obtain⟨h1,h2⟩:=IN h
 have:=T9 r 1 0 h
 exact⟨h1,h2,by omega⟩
theorem F0{num:Nat->Option (Int×Nat)}{s:List UInt8}(hn:NumOk s num){b:Nat}(hb:16<=b){r:Rx}(h:dh r=0)(hp:ff r=s):zU num s b 0=some (r,s.length):=by
 obtain⟨h1,_,h3⟩:=CY h
 subst hp
 exact QP hn h1 (by omega)
theorem SN:∀(r:Rx),iw r=true->sz r<=1000->SL r:=by
 refine sg λk lo up ks ih hw hs=>?_
 obtain⟨nd,hks⟩:=well_iff.1 hw
 have hl:=BB ks
 simp only[sz]at hs
 have h1:lo=0/\up=0\/0<=lo/\lo<=up/\up<=4294967295:=by
  by_cases e:k=1
  ·exact .inr (nd.rng e)
  ·exact .inl (nd.zero e)
 have hk:=nd.known
 have m1:IntKind.i64.min= -9223372036854775808:=rfl
 have m2:IntKind.i64.max=9223372036854775807:=rfl
 refine⟨⟨by omega,by omega⟩,⟨by omega,by omega⟩,⟨by omega,by omega⟩,ac_ (show ks.length<=1000 by omega) (by decide),(CG ks).2 λr hr=>ih r hr (hks r hr) (by have:=qt hr;omega)⟩
theorem ParsedX.ok{s:List UInt8}{c:Rx×Int×Unit}(h:ParsedX s c):SL c.1:=by
 rcases h with⟨r,h1,_,rfl⟩|⟨_,rfl⟩
 ·obtain⟨h2,h3,_⟩:=CY h1
  exact SN r h2 (by omega)
 ·exact⟨by decide,by decide,by decide,by decide,trivial⟩
theorem Ha(s:List UInt8)(hs:s.length<=1048576):∃c:Rx×Int×Unit,ParsedX s c/\aE tbl nX [.d tS s] [] eL c:=by
 obtain⟨num,hn,hc⟩:=Wg s hs
 refine kw (sh:=eL) (λ_=>rfl) (R9 Ij rfl (λO n=>IC O n s) ?_)
 unfold yV
 refine gI (Rr hs hn hc 33 0 rfl 0 (z_ _)) ?_
 cases e:zU num s 33 0 with
 |none=>
  refine aa ⟨_,rfl,.inr ⟨λr hr hp=>?_,rfl⟩⟩
  rw[F0 hn (by decide) hr hp]at e;cases e
 |some x=>
  obtain⟨r,j⟩:=x
  obtain⟨b1,b2,b3⟩:=AB hn 33 0 r j (z_ _) e
  have hbad:∀r',dh r'=0->ff r'=s->r'=r:=λr' h1 h2=>by
   rw[F0 hn (by decide) h1 h2]at e;cases e;rfl
  show Wp (λn=>k_ (k_ (aD (sG tbl n) ix [.d .rx (Rx.mk r.out.1 r.out.2.1 r.out.2.2.1 r.out.2.2.2.1)] [] fZ) _) _) _
  rw[dG]
  refine ak (an (Hb r (by omega)) (ak (cf (b:= !(ff r==s)) (λh=>aa ?_) ?_)))
  ·have h:dh r=0:=by
    have h:(dh r != 0)=false:=h
    simpa using h
   rw[if_pos h]
  ·refine ap (λh=>aa (aa ⟨_,rfl,.inr ⟨λr' h1 h2=>?_,rfl⟩⟩)) λh=>aa (aa ⟨_,rfl,.inl ⟨r,?_,?_,?_⟩⟩)
   ·have:=hbad r' h1 h2
    subst this
    have h:(dh r' != 0|| !(ff r'==s))=true:=h
    rw[h1,h2]at h
    simp at h
   ·have h:(dh r != 0|| !(ff r==s))=false:=h
    simp at h
    exact h.1
   ·have h:(dh r != 0|| !(ff r==s))=false:=h
    simp at h
    exact h.2
   ·show(Rx.mk r.out.1 r.out.2.1 r.out.2.2.1 r.out.2.2.2.1,(0:Int),())=_
    rw[dG]
theorem G1(s:List UInt8)(hs:s.length<=1048576):∃c:Rx×Int×Unit,ParsedX s c/\aE tbl kq [.d tS s] [] eI c:=by
 obtain⟨num,hn,hc⟩:=TO s hs
 refine kw (sh:=eI) (λ_=>rfl) (aC H9 rfl (λO n=>It O n s) ?_)
 unfold yy
 obtain⟨r,ok,j,hj,e,hcall⟩:=K0 hs hn hc 32 1 rfl 0 (z_ _)
 refine an hcall ?_
 have hgood:∀r',dh r'=0->ff r'=s->r'=r/\ok=true/\j=s.length:=λr' h1 h2=>by
  rw[F0 hn (by decide) h1 h2]at e
  cases ok with
  |false=>cases e
  |true=>cases e;exact⟨rfl,rfl,rfl⟩
 refine ak (cf (b:=decide (j<s.length)) (λ_=>aa ?_) ?_)
 ·show decide ((j:Int)<(s.length:Int))=_
  by_cases h:j<s.length
  ·rw[decide_eq_true h,decide_eq_true (by omega)]
  ·rw[decide_eq_false h,decide_eq_false (by omega)]
 rw[dG]
 have hz:ok=true->sz r<=1048576:=λh=>by
  rw[h]at e
  have:=AB hn 32 0 r j (z_ _) e
  omega
 refine ak (cf (b:=(dh r != 0)) (λh=>?_) ?_)
 ·have h:((!ok)||decide (j<s.length))=false:=h
  have hok:ok=true:=by cases ok<;>simp_all
  exact an (GZ r (hz hok)) (aa rfl)
 refine ak (cf (b:= !(ff r==s)) (λh=>?_) ?_)
 ·have h:((!ok)||decide (j<s.length)||(dh r != 0))=false:=h
  have h0:dh r=0:=by simp at h;exact h.2
  obtain⟨h1,h2,_⟩:=CY h0
  exact an (Dz r h1 (by omega)) (aa rfl)
 refine ap (λh=>aa ⟨_,rfl,.inr ⟨λr' h1 h2=>?_,rfl⟩⟩) λh=>aa ⟨_,rfl,.inl ⟨r,?_,?_,rfl⟩⟩
 ·obtain⟨rfl,rfl,rfl⟩:=hgood r' h1 h2
  have h:((!true)||decide (s.length<s.length)||(dh r' != 0)|| !(ff r'==s))=true:=h
  rw[h1,h2]at h
  simp at h
 ·have h:((!ok)||decide (j<s.length)||(dh r != 0)|| !(ff r==s))=false:=h
  simp at h
  exact h.1.2
 ·have h:((!ok)||decide (j<s.length)||(dh r != 0)|| !(ff r==s))=false:=h
  simp at h
  exact h.2
open Go Go.Av Go.Ev Go.Pl
structure FolR(n:Nat)(F:List (List Int))(P:List (Nat×Nat)):Prop where
 len:F.length=n
 nd:∀l∈F,l.Nodup
 bd:∀l∈F,∀x∈l,0<=x/\x<(n:Int)
 mem:∀p (h:p<F.length) (q:Nat),(q:Int)∈F[p]↔(p,q)∈P
theorem FolR.congr{n:Nat}{F:List (List Int)}{P P':List (Nat×Nat)}(h:FolR n F P)(e:∀x,x∈P↔x∈P'):FolR n F P':=⟨h.len,h.nd,h.bd,λp hp q=>(h.mem p hp q).trans (e _)⟩
theorem FolR.add{n:Nat}{F:List (List Int)}{P:List (Nat×Nat)}(h:FolR n F P){p q:Nat}(hp:p<F.length)(hq:q<n)(hn:(q:Int)∉F[p]):FolR n (F.set p (F[p]++[(q:Int)])) (P++[(p,q)]):=by
 have hmem:∀l∈F.set p (F[p]++[(q:Int)]),l∈F\/l=F[p]++[(q:Int)]:=λl hl=>by
  rcases List.mem_or_eq_of_mem_set hl with h|h
  ·exact .inl h
  ·exact .inr h
 refine⟨by rw[List.length_set,h.len],λl hl=>?_,λl hl x hx=>?_,λp' hp' q'=>?_⟩
 ·rcases hmem l hl with h1|rfl
  ·exact h.nd l h1
  ·exact List.nodup_append.2 ⟨h.nd _ (b_ hp),by simp,λa ha b hb=>by simp at hb;subst hb;rintro rfl;exact hn ha⟩
 ·rcases hmem l hl with h1|rfl
  ·exact h.bd l h1 x hx
  ·rcases x_.1 hx with h2|h2
   ·exact h.bd _ (b_ hp) x h2
   ·simp at h2;subst h2;omega
 ·have hp'':p'<F.length:=by simpa using hp'
  rw[List.getElem_set]
  split
  ·rename_i e
   subst e
   simp only[x_,S_,h.mem p hp,Prod.mk.injEq,true_and]
   constructor
   ·rintro(h1|h1)
    ·exact .inl h1
    ·exact .inr (by omega)
   ·rintro(h1|h1)
    ·exact .inl h1
    ·exact .inr (by omega)
  ·rename_i e
   simp only[x_,S_,h.mem p' hp'',Prod.mk.injEq]
   constructor
   ·exact .inl
   ·rintro(h1|h1)
    ·exact h1
    ·exact absurd h1.1.symm e
theorem FolR.one{n:Nat}{F:List (List Int)}{P:List (Nat×Nat)}(h:FolR n F P)(hP:∀p q,(p,q)∈P->p<n):FolR (n+1) (F++[[]]) P:=by
 refine⟨by simp[h.len],λl hl=>?_,λl hl x hx=>?_,λp hp q=>?_⟩
 ·rcases x_.1 hl with h1|h1
  ·exact h.nd l h1
  ·simp at h1;subst h1;simp
 ·rcases x_.1 hl with h1|h1
  ·have:=h.bd l h1 x hx;omega
  ·simp at h1;subst h1;cases hx
 ·by_cases hpl:p<F.length
  ·rw[List.getElem_append_left hpl];exact h.mem p hpl q
  ·have:p=F.length:=by simp at hp;omega
   subst this
   simp only[List.getElem_concat_length,List.not_mem_nil,false_iff]
   intro hm
   have:=hP _ _ hm
   have:=h.len
   omega
section
variable {α β:Type}
end
structure CurR(M:Nat)(C:List Int)(can:Nat->Bool):Prop where
 bd:∀x∈C,0<=x/\x<(M:Int)
 mem:∀q:Nat,(q:Int)∈C↔can q=true
 len:C.length<=10000000000
theorem GG{α β:Type}{m:Option α}{a:α}{f:Nat->α->Option β}{Q:β->Prop}(h:m=some a)(k:Wp (λn=>f n a) Q):Wp (λn=>k_ m (f n)) Q:=by
 subst h;exact k
open Classical in
noncomputable def iM(s:List UInt8):Int:=if ∃r,dh r=0/\ff r=s then 0 else 2
theorem Py{s:List UInt8}{c:Rx×Int×Unit}(h:ParsedX s c):c.2.1=iM s:=by
 unfold iM
 rcases h with⟨r,h1,h2,rfl⟩|⟨h1,rfl⟩
 ·rw[if_pos ⟨r,h1,h2⟩]
 ·rw[if_neg fun⟨r,h2,h3⟩=>h1 r h2 h3]
theorem uB(s:List UInt8)(hs:s.length<=9223372036854775807):aE tbl ij [.d tS s] [] dS (ja s,()):=by
 refine aB rfl (aC Ea rfl (λO n=>Ej O n s) ?_)
 unfold uF
 refine ak (P4 (xs:=s) (P:=λc=>ua c=true) (e:=(false,())) (g:=()) (λi hi=>?_) ?_ (λh=>?_) λh=>?_)
 ·unfold lZ
  refine cm hi (aW hi ?_)
  refine ak (bX (b:=decide ((s[i].toNat:Int)<=122)) (λ_=>aa rfl) ?_)
  refine ak (cf (b:=decide ((s[i].toNat:Int)>=65)&&decide ((s[i].toNat:Int)<=90)) (λ_=>ak (bX (b:=decide ((s[i].toNat:Int)<=90)) (λ_=>aa rfl) (aa rfl))) ?_)
  refine ak (cf (b:=decide ((s[i].toNat:Int)>=48)&&decide ((s[i].toNat:Int)<=57)) (λ_=>ak (bX (b:=decide ((s[i].toNat:Int)<=57)) (λ_=>aa rfl) (aa rfl))) ?_)
  refine ak (cf (b:=((s[i].toNat:Int)==45)) (λ_=>aa rfl) (EI ?_ (by rw[aL hi hs])))
  show(!ua s[i])=true↔_
  cases ua s[i]<;>simp
 ·unfold lZ
  exact bF (aa rfl)
 ·refine ak (bX (b:=decide ((s.length:Int)<=32)) (λ_=>aa rfl) (aa ?_))
  have e:ja s=(decide ((s.length:Int)>=1)&&decide ((s.length:Int)<=32)):=by
   unfold ja
   rw[C_.2 h,aa_]
   congr 1<;>exact decide_eq_decide.2 (by omega)
  rw[e]
 ·refine aa ?_
  have e:ja s=false:=by
   unfold ja
   cases e:s.all ua
   ·rfl
   ·exact absurd (C_.1 e) h
  rw[e]
theorem Aj(s:List UInt8)(hs:s.length<=9223372036854775807):aE tbl mf [.d tS s] [] ig (ja s,()):=by
 refine aB rfl (aC KE rfl (λO n=>KS O n s) ?_)
 unfold An
 refine ak (P4 (xs:=s) (P:=λc=>ua c=true) (e:=(false,())) (g:=()) (λi hi=>?_) ?_ (λh=>?_) λh=>?_)
 ·unfold qD
  refine cm hi (aW hi ?_)
  refine ak (bX (b:=decide ((s[i].toNat:Int)<=122)) (λ_=>aa rfl) ?_)
  refine ak (cf (b:=decide ((s[i].toNat:Int)>=65)&&decide ((s[i].toNat:Int)<=90)) (λ_=>ak (bX (b:=decide ((s[i].toNat:Int)<=90)) (λ_=>aa rfl) (aa rfl))) ?_)
  refine ak (cf (b:=decide ((s[i].toNat:Int)>=48)&&decide ((s[i].toNat:Int)<=57)) (λ_=>ak (bX (b:=decide ((s[i].toNat:Int)<=57)) (λ_=>aa rfl) (aa rfl))) ?_)
  refine ak (cf (b:=((s[i].toNat:Int)==45)) (λ_=>aa rfl) (EI ?_ (by rw[aL hi hs])))
  show(!ua s[i])=true↔_
  cases ua s[i]<;>simp
 ·unfold qD
  exact bF (aa rfl)
 ·refine ak (bX (b:=decide ((s.length:Int)<=32)) (λ_=>aa rfl) (aa ?_))
  have e:ja s=(decide ((s.length:Int)>=1)&&decide ((s.length:Int)<=32)):=by
   unfold ja
   rw[C_.2 h,aa_]
   congr 1<;>exact decide_eq_decide.2 (by omega)
  rw[e]
 ·refine aa ?_
  have e:ja s=false:=by
   unfold ja
   cases e:s.all ua
   ·rfl
   ·exact absurd (C_.1 e) h
  rw[e]
theorem lR(l:List (List UInt8))(i:Nat)(hi:i<l.length)(hl:l.length<=9223372036854775807)(hs:l[i].length<=9223372036854775807):
 aE tbl eQ [.d (.list tS) ((l.take (u_ (i:Int))).drop 0),.d tS l[i]] [] cw (qS l i,()):=by
 refine aB rfl (aC Gp rfl (λO n=>GJ O n _ _) ?_)
 unfold vF
 rw[Y_,A_]
 have en:qS l i=if ja l[i]=false then 1 else if 0<i/\sf l[i] (l.getD (i - 1) [])=true then 16 else 0:=by
  unfold qS
  rw[d_ hi]
 have hlen:(l.take i).length=i:=by rw[h_];omega
 refine an (uB l[i] hs) (ap (λh=>aa ?_) λh=>?_)
 ·rw[en,if_pos (by simpa using h)]
 have hn:¬ja l[i]=false:=by simpa using h
 refine ak (bX (b:=sf l[i] (l.getD (i - 1) [])) (λh0=>?_) (ap (λh=>aa ?_) λh=>aa ?_))
 ·have h0:=of_decide_eq_true h0
  rw[hlen]at h0⊢
  have e:c_ .i64 ((i:Int) - 1)=((i - 1:Nat):Int):=by rw[wrap_i64 (by omega) (by omega)];omega
  rw[e]
  refine KL (x:=l.getD (i - 1) []) ?_ (aa rfl)
  rw[List.getElem?_take_of_lt (by omega),J_,d_ (by omega)]
  rfl
 ·rw[hlen]at h
  simp only[n_,decide_eq_true_eq]at h
  rw[en,if_neg hn,if_pos ⟨by omega,h.2⟩]
 ·rw[hlen]at h
  simp only[Q_,decide_eq_false_iff_not]at h
  rw[en,if_neg hn,if_neg]
  rintro⟨h1,h2⟩
  rcases h with h|h
  ·exact h (by omega)
  ·rw[h]at h2;cases h2
abbrev yN:Ty:=pr [.list tS,.list tS,.list tS,.list tS]
def bU(s:PS):yN.den:=(s.1.map (·.1),s.2.1.map (·.1),s.2.2.1.map (·.1),s.2.2.2.1.map (·.1),())
theorem xy{α β:Type}{f:α->β}{l:List α}{i:Nat}(hi:i<l.length):(l.take i).map f++[f l[i]]=(l.take (i+1)).map f:=by
 rw[<-List.take_append_getElem hi,W_];rfl
theorem EM(s:PS)(h1:s.1.length<=1048576)(h2:s.2.1.length<=1048576)(h3:s.2.2.1.length<=1048576)(h4:s.2.2.2.1.length<=1048576):aE tbl l8 [.d yS s] [] jp (bU s,()):=by
 refine aB rfl (aC Gq rfl (λO n=>GK O n s) ?_)
 unfold vG
 have hg:∀{α:Type} {l:List α} {f:α->List UInt8} {i:Nat},i<l.length->l.length<=1048576->decide ((((l.take i).map f).length+1)*16<=140737488355328)=true:=fun{α l f i} hi hl=>by
  rw[a_,h_];exact decide_eq_true (by omega)
 refine ak (dI (N:=s.1.length) (I:=λi t=>t=((i:Int),(s.1.take i).map (·.1),())) rfl (λi t hi ht=>?_) λt ht=>?_)
 ·subst ht
  unfold nq
  refine cm hi (aW hi (aN rfl (aN (hg hi h1) (aN rfl (aa ?_)))))
  simp only
  rw[aL hi (by omega),xy (f:=λx:V8=>x.1) hi]
 subst ht
 unfold nq
 refine bF (aa ?_)
 rw[g_ (r_ _)]
 refine ak (dI (N:=s.2.1.length) (I:=λi t=>t=((i:Int),s.1.map (·.1),(s.2.1.take i).map (·.1),())) rfl (λi t hi ht=>?_) λt ht=>?_)
 ·subst ht
  unfold nr
  refine cm hi (aW hi (aN rfl (aN (hg hi h2) (aN rfl (aa ?_)))))
  simp only
  rw[aL hi (by omega),xy (f:=λx:V7=>x.1) hi]
 subst ht
 unfold nr
 refine bF (aa ?_)
 rw[g_ (r_ _)]
 refine ak (dI (N:=s.2.2.1.length) (I:=λi t=>t=((i:Int),s.1.map (·.1),s.2.1.map (·.1),(s.2.2.1.take i).map (·.1),())) rfl (λi t hi ht=>?_) λt ht=>?_)
 ·subst ht
  unfold nu
  refine cm hi (aW hi (aN rfl (aN (hg hi h3) (aN rfl (aa ?_)))))
  simp only
  rw[aL hi (by omega),xy (f:=λx:V5=>x.1) hi]
 subst ht
 unfold nu
 refine bF (aa ?_)
 rw[g_ (r_ _)]
 refine ak (dI (N:=s.2.2.2.1.length) (I:=λi t=>t=((i:Int),s.1.map (·.1),s.2.1.map (·.1),s.2.2.1.map (·.1),(s.2.2.2.1.take i).map (·.1),())) rfl (λi t hi ht=>?_) λt ht=>?_)
 ·subst ht
  unfold nv
  refine cm hi (aW hi (aN rfl (aN (hg hi h4) (aN rfl (aa ?_)))))
  simp only
  rw[aL hi (by omega),xy (f:=λx:RF=>x.1) hi]
 subst ht
 unfold nv
 refine bF (aa (aa ?_))
 rw[g_ (r_ _)]
 rfl
theorem ce(n a b:Int):aE tbl bP [.d tI n,.d tI a,.d tI b] [] bH (decide (a<=n)&&decide (n<=b),()):=by
 refine aB rfl (aC Eb rfl (λO k=>Ek O k n a b) ?_)
 unfold uG
 exact ak (bX (b:=decide (n<=b)) (λ_=>aa rfl) (aa rfl))
theorem lQ(l:List (List UInt8))(n:List UInt8)(hl:l.length<=9223372036854775807):aE tbl iP [.d (.list tS) l,.d tS n] [] dN (l.any (·==n),()):=by
 refine aB rfl (aC BD rfl (λO k=>BM O k l n) ?_)
 unfold rp
 refine ak (P5 (xs:=l) (p:=(·==n)) (g:=λ_=>(true,())) (e:=()) (λi r hi=>?_) ?_ ?_)
 ·unfold ka
  have hlt:=(M_.1 hi).1
  refine cm hlt (KL hi (ap (λh=>aa ?_) λh=>aa ?_))
  ·rw[if_pos h]
  ·rw[if_neg (by simp[h]),aL hlt hl]
 ·unfold ka
  exact bF (aa rfl)
 ·cases e:l.find? (·==n)with
  |some r=>
   have e2:l.any (·==n)=true:=List.any_eq_true.2 ⟨r,List.mem_of_find?_eq_some e,List.find?_some (p:=(·==n)) e⟩
   rw[e2]
   exact aa rfl
  |none=>
   have e2:l.any (·==n)=false:=by
    rw[List.find?_eq_none]at e
    exact List.any_eq_false.2 e
   rw[e2]
   exact aa rfl
theorem sP(k N pa pl:Int)(nm:List UInt8)(nt:Bool):(true ^^ qc yM (k,nm,N,(pa,pl,()),nt,()) (k,nm,0,(0,0,()),nt,()))=true↔(N≠0\/pa≠0\/pl≠0):=by
 by_cases a:N=0<;>by_cases b:pa=0<;>by_cases c:pl=0<;>simp[qc,a,b,c]
theorem Sz(k N pa pl:Int)(nm:List UInt8)(nt:Bool):(true ^^ qc yM (k,nm,N,(pa,pl,()),nt,()) (k,[],N,(0,0,()),nt,()))=true↔(nm≠[]\/pa≠0\/pl≠0):=by
 by_cases a:nm=[]<;>by_cases b:pa=0<;>by_cases c:pl=0<;>simp[qc,a,b,c]
theorem Sy(k N pa pl:Int)(nm:List UInt8)(nt:Bool):(true ^^ qc yM (k,nm,N,(pa,pl,()),nt,()) (k,[],0,(pa,pl,()),nt,()))=true↔(nm≠[]\/N≠0):=by
 by_cases a:nm=[]<;>by_cases b:N=0<;>simp[qc,a,b]
theorem pc{b:Bool}{P:Prop}(h:b=false)(e:b=true↔P):¬P:=λp=>by rw[e.2 p]at h;cases h
theorem xC(s:PS)(m:Wi)(hs:okD yS s)(hm:Bl m.2.2.2.1.1):aE tbl f8 [.d yN (bU s),.d yM m] [] bp (sO s m,()):=by
 obtain⟨k,nm,N,⟨pa,pl,⟨⟩⟩,nt,⟨⟩⟩:=m
 refine aB rfl (aC x9 rfl (λO n=>ym O n (bU s) (k,nm,N,(pa,pl,()),nt,())) ?_)
 unfold pS
 refine ak (ak ?_)
 have hl1:(s.1.map (·.1)).length<=9223372036854775807:=by rw[a_];exact hs.1.1
 have hl2:(s.2.1.map (·.1)).length<=9223372036854775807:=by rw[a_];exact hs.2.1.1
 have hl3:(s.2.2.1.map (·.1)).length<=9223372036854775807:=by rw[a_];exact hs.2.2.1.1
 by_cases h1:k=1
 ·subst h1
  rw[t7 (.inl rfl)]
  have ha:(s.1.map (·.1)).any (·==nm)=D7 s 1 nm:=by rw[T_];rfl
  refine aK rfl (aa (aK rfl (ap (λh=>aa (aa ?_)) λh=>?_)))
  ·rw[if_pos ((sP _ _ _ _ _ _).1 h)]
  ·rw[if_neg (pc h (sP _ _ _ _ _ _))]
   refine GG (a:=s.1.map (·.1)) rfl (an (lQ _ nm hl1) ?_)
   rw[ha]
   refine ap (λh=>aa (aa ?_)) λh=>aa (aa ?_)
   ·rw[if_neg (by simpa using h)]
   ·rw[if_pos (by simpa using h)]
 by_cases h2:k=2
 ·subst h2
  rw[t7 (.inr (.inl rfl))]
  have ha:(s.2.1.map (·.1)).any (·==nm)=D7 s 2 nm:=by rw[T_];rfl
  refine ao rfl (aK rfl (aa (aK rfl (ap (λh=>aa (aa ?_)) λh=>?_))))
  ·rw[if_pos ((sP _ _ _ _ _ _).1 h)]
  ·rw[if_neg (pc h (sP _ _ _ _ _ _))]
   refine GG (a:=s.2.1.map (·.1)) rfl (an (lQ _ nm hl2) ?_)
   rw[ha]
   refine ap (λh=>aa (aa ?_)) λh=>aa (aa ?_)
   ·rw[if_neg (by simpa using h)]
   ·rw[if_pos (by simpa using h)]
 by_cases h3:k=3
 ·subst h3
  rw[t7 (.inr (.inr rfl))]
  have ha:(s.2.2.1.map (·.1)).any (·==nm)=D7 s 3 nm:=by rw[T_];rfl
  refine ao rfl (ao rfl (aa (aK rfl (ap (λh=>aa (aa ?_)) λh=>?_))))
  ·rw[if_pos ((sP _ _ _ _ _ _).1 h)]
  ·rw[if_neg (pc h (sP _ _ _ _ _ _))]
   refine GG (a:=s.2.2.1.map (·.1)) rfl (an (lQ _ nm hl3) ?_)
   rw[ha]
   refine ap (λh=>aa (aa ?_)) λh=>aa (aa ?_)
   ·rw[if_neg (by simpa using h)]
   ·rw[if_pos (by simpa using h)]
 refine ao (beq_eq_false_iff_ne.2 h1) (ao (beq_eq_false_iff_ne.2 h2) (aa (ao (beq_eq_false_iff_ne.2 h3) ?_)))
 by_cases h7:k=7
 ·subst h7
  rw[Md]
  refine aK rfl (ak (cf (b:= !ut (pa,pl,())) (λ_=>an (vB (pa,pl,()) hm) (aa rfl)) ?_))
  refine ap (λh=>aa (aa ?_)) λh=>aa (aa ?_)
  ·by_cases e:nm≠[]\/N≠0
   ·rw[if_pos e]
   ·rw[if_neg e,if_neg]
    intro h'
    rcases Bool.or_eq_true_iff.1 h with h|h
    ·exact e ((Sy _ _ _ _ _ _).1 h)
    ·rw[h']at h;cases h
  ·simp only[F_]at h
   rw[if_neg (pc h.1 (Sy _ _ _ _ _ _)),if_pos (by simpa using h.2)]
 refine ao (beq_eq_false_iff_ne.2 h7) ?_
 have num:∀lo hi:Int,(k=4\/k=5\/k=6\/k=8)->Us k=lo->LV k=hi->Wp (λn=>
  bif (true ^^ qc yM (k,nm,N,(pa,pl,()),nt,()) (k,([]:List UInt8),N,((0:Int),(0:Int),()),nt,()))then aA bp ((1:Int),())else
  k_ (aD (sG tbl n) bP [.d tI N,.d tI lo,.d tI hi] [] bH) λv10=>
  bif (!v10.1)then aA bp ((5:Int),())else aA bp ((0:Int),()))
  (λx=>x=some (iL bp (sO s (k,nm,N,(pa,pl,()),nt,()),()))):=λlo hi hk e1 e2=>by
  rw[Me hk,e1,e2]
  refine ap (λh=>aa ?_) λh=>?_
  ·rw[if_pos ((Sz _ _ _ _ _ _).1 h)]
  ·rw[if_neg (pc h (Sz _ _ _ _ _ _))]
   refine an (ce N lo hi) (ap (λh=>aa ?_) λh=>aa ?_)
   ·rw[if_pos (by simp at h;omega)]
   ·rw[if_neg (by simp at h;omega)]
 by_cases h4:k=4
 ·subst h4;exact aK rfl (aa (num 1 7 (by omega) rfl rfl))
 by_cases h6:k=6
 ·subst h6;exact ao rfl (aK rfl (aa (num 0 16777216 (by omega) rfl rfl)))
 by_cases h8:k=8
 ·subst h8;exact ao rfl (ao rfl (aK rfl (aa (num 0 2000 (by omega) rfl rfl))))
 by_cases h5:k=5
 ·subst h5;exact ao rfl (ao rfl (ao rfl (aK rfl (aa (num 0 4294967295 (by omega) rfl rfl)))))
 refine ao (beq_eq_false_iff_ne.2 h4) (ao (beq_eq_false_iff_ne.2 h6) (ao (beq_eq_false_iff_ne.2 h8) (ao (beq_eq_false_iff_ne.2 h5) (aa (aa ?_)))))
 rw[Mc (show k<1\/8<k by omega)]
theorem ne_eqD{a b:Re}:(true ^^ qc yA a b)=true↔¬a=b:=by
 rw[<-Ud]
 cases qc yA a b<;>simp
theorem vz(a:Re):aE tbl ft [.d yA a] [] bk (tq a,()):=by
 refine aB rfl (aC wH rfl (λO n=>wT O n a) ?_)
 unfold oK
 refine ak (ak ?_)
 by_cases hb:a.1<1\/8<a.1
 ·have n1:∀k:Int,1<=k->k<=8->(a.1==k)=false:=λk h1 h2=>beq_eq_false_iff_ne.2 (by omega)
  refine ao (n1 1 (by decide) (by decide)) (ao (n1 2 (by decide) (by decide)) (aa (ao (n1 4 (by decide) (by decide)) (ao (n1 3 (by decide) (by decide)) (ao (n1 5 (by decide) (by decide)) ?_)))))
  refine ak (ao (n1 6 (by decide) (by decide)) (aa (ao (n1 7 (by decide) (by decide)) (ao (n1 8 (by decide) (by decide)) (aa (aa ?_))))))
  rw[show tq a=15 from if_pos hb]
 have fin:∀(only:Re) (f:Bool),mO a=only->mK a=f->Wp (λ_=>bif (true ^^ qc yA a only)then aA bk ((1:Int),())else bif (!f)then aA bk ((5:Int),())else aA bk ((0:Int),()))
  (λx=>x=some (iL bk (tq a,()))):=λonly f h1 h2=>by
  have e:tq a=if ¬a=only then 1 else if f=false then 5 else 0:=by unfold tq;rw[if_neg hb,h1,h2]
  rw[e]
  refine ap (λh=>aa ?_) λh=>ap (λh'=>aa ?_) λh'=>aa ?_
  ·rw[if_pos (ne_eqD.1 h)]
  ·rw[if_neg (λx=>by rw[ne_eqD.2 x]at h;cases h),if_pos (by simpa using h')]
  ·rw[if_neg (λx=>by rw[ne_eqD.2 x]at h;cases h),if_neg (by simpa using h')]
 have kne:∀{k:Int},a.1≠k->(a.1==k)=false:=λh=>beq_eq_false_iff_ne.2 h
 have keq:∀{k:Int},a.1=k->(a.1==k)=true:=λh=>beq_iff_eq.2 h
 by_cases h1:a.1=1
 ·refine aK (keq h1) (aa (aK (keq h1) (an (ce a.2.1 0 4294967295) (aa (fin _ _ ?_ ?_)))))
  ·unfold mO;rw[if_pos (by omega)]
  ·unfold mK;rw[if_neg (by omega),if_pos (by omega)]
 refine ao (kne h1) ?_
 by_cases h2:a.1=2
 ·refine aK (keq h2) (aa (aK (keq h2) (an (ce a.2.1 0 4294967295) (aa (fin _ _ ?_ ?_)))))
  ·unfold mO;rw[if_pos (by omega)]
  ·unfold mK;rw[if_neg (by omega),if_pos (by omega)]
 refine ao (kne h2) (aa ?_)
 by_cases h4:a.1=4
 ·refine aK (keq h4) (an (ce a.2.1 0 4294967295) (aa (fin _ _ ?_ ?_)))
  ·unfold mO;rw[if_pos (by omega)]
  ·unfold mK;rw[if_neg (by omega),if_pos (by omega)]
 refine ao (kne h4) ?_
 by_cases h3:a.1=3
 ·refine aK (keq h3) (an (ce a.2.1 0 16777216) (aa (fin _ _ ?_ ?_)))
  ·unfold mO;rw[if_pos (by omega)]
  ·unfold mK;rw[if_pos (by omega)]
 refine ao (kne h3) ?_
 by_cases h5:a.1=5
 ·refine aK (keq h5) (aa (fin _ _ ?_ ?_))
  ·unfold mO;rw[if_neg (by omega),if_pos (by omega)]
  ·unfold mK;rw[if_neg (by omega),if_neg (by omega),if_pos (by omega)]
 refine ao (kne h5) (ak ?_)
 by_cases h6:a.1=6
 ·refine aK (keq h6) (aa (aK (keq h6) (aa (fin _ _ ?_ ?_))))
  ·unfold mO;rw[if_neg (by omega),if_neg (by omega),if_pos (by omega)]
  ·unfold mK;rw[if_neg (by omega),if_neg (by omega),if_neg (by omega),if_pos (by omega)]
 refine ao (kne h6) (aa ?_)
 by_cases h7:a.1=7
 ·refine aK (keq h7) (aa (fin _ _ ?_ ?_))
  ·unfold mO;rw[if_neg (by omega),if_neg (by omega),if_pos (by omega)]
  ·unfold mK;rw[if_neg (by omega),if_neg (by omega),if_neg (by omega),if_pos (by omega)]
 refine ao (kne h7) (aK (keq (by omega)) (an (ce a.2.2.1 1 4294967295) ?_))
 refine ak (bX (b:=decide (1<=a.2.1)&&decide (a.2.1<=16)) (λ_=>an (ce a.2.1 1 16) (aa rfl)) (aa (fin _ _ ?_ ?_)))
 ·unfold mO;rw[if_neg (by omega),if_neg (by omega),if_neg (by omega)]
 ·unfold mK;rw[if_neg (by omega),if_neg (by omega),if_neg (by omega),if_neg (by omega)]
theorem td(r:V6):aE tbl eo [.d yC r] [] cj (ky r,()):=by
 refine aB rfl (aC uj rfl (λO n=>uv O n r) ?_)
 unfold lU
 refine an (ce r.2.1 (-1) 65535) (ak (cf (b:= !(decide (-1<=r.2.2.1)&&decide (r.2.2.1<=65535))) (λ_=>an (ce r.2.2.1 (-1) 65535) (aa rfl)) ?_))
 refine ap (λh=>aa ?_) λh=>aa ?_
 ·rw[show ky r=5 from if_pos (by simp at h;omega)]
 ·rw[show ky r=0 from if_neg (by simp at h;omega)]
theorem vQ{α:Type}{p:α->Bool}{l:List α}:l.any p=(l.find? p).isSome:=by
 induction l with
 |nil=>rfl
 |cons x l ih=>rw[List.any_cons,List.find?_cons,ih];cases p x<;>rfl
theorem zy(s:PS)(hs:okD yS s)(before:List TG)(t:TG)(hb:before.length<=9223372036854775807)(ht:okD yT t):aE tbl g8 [.d yN (bU s),.d (.list yT) before,.d yT t] [] bz (iv s before t,()):=by
 refine aB rfl (aC Aa rfl (λO n=>Af O n (bU s) before t) ?_)
 unfold qz
 have hm:∀m∈t.2.1,Bl m.2.2.2.1.1:=λm hm=>((ht.2.1.2 m hm).2.2.2.1).1
 refine an (uB t.1 ht.1) (ap (λh=>aa ?_) λh=>?_)
 ·rw[show iv s before t=1 from if_pos (by simpa using h)]
 have hn:¬ja t.1=false:=by simpa using h
 refine ak (P5 (xs:=before) (p:=(·.1==t.1)) (g:=λ_=>((7:Int),())) (e:=()) (λi r hi=>?_) ?_ ?_)
 ·unfold jd
  have hlt:=(M_.1 hi).1
  refine cm hlt (KL hi (ap (λh=>aa ?_) λh=>aa ?_))
  ·rw[if_pos h]
  ·rw[if_neg (by simp[h]),aL hlt hb]
 ·unfold jd
  exact bF (aa rfl)
 have hany:before.any (·.1==t.1)=(before.find? (·.1==t.1)).isSome:=vQ
 cases e:before.find? (·.1==t.1)with
 |some r=>
  rw[e]at hany
  refine aa ?_
  have hany:before.any (·.1==t.1)=true:=hany
  rw[show iv s before t=7 from by unfold iv;rw[if_neg hn,if_pos hany]]
 |none=>
  rw[e]at hany
  have ha:¬before.any (·.1==t.1)=true:=by rw[hany];decide
  refine ap (λh=>aa ?_) λh=>?_
  ·rw[show iv s before t=4 from by unfold iv;rw[if_neg hn,if_neg ha,if_pos (by have:=of_decide_eq_true h;omega)]]
  have h1:¬t.2.1.length>64:=by have:=of_decide_eq_false h;omega
  refine ak (kV (l:=t.2.1) (f:=sO s) (enc:=λi=>((i:Int),())) (oB:=λe=>(e,())) (oE:=()) (λi hi=>?_) ?_ ?_)
  ·unfold je
   refine cm hi (aW hi (an (xC s _ hs (hm _ (b_ hi))) (ap (λh=>aa ?_) λh=>aa ?_)))
   ·rw[if_neg (by simpa using h)]
   ·rw[if_pos (by simpa using h),aL hi (by omega)]
  ·unfold je
   exact bF (aa rfl)
  by_cases e1:bR (sO s) t.2.1=0
  ·rw[if_pos e1]
   refine ap (λh=>aa ?_) λh=>?_
   ·rw[show iv s before t=4 from by unfold iv;rw[if_neg hn,if_neg ha,if_neg h1,if_neg (not_not_intro e1),if_pos (by have:=of_decide_eq_true h;omega)]]
   have h2:¬t.2.2.1.length>64:=by have:=of_decide_eq_false h;omega
   refine ak (kV (l:=t.2.2.1) (f:=tq) (enc:=λi=>((i:Int),())) (oB:=λe=>(e,())) (oE:=()) (λi hi=>?_) ?_ ?_)
   ·unfold jf
    refine cm hi (aW hi (an (vz _) (ap (λh=>aa ?_) λh=>aa ?_)))
    ·rw[if_neg (by simpa using h)]
    ·rw[if_pos (by simpa using h),aL hi (by omega)]
   ·unfold jf
    exact bF (aa rfl)
   by_cases e2:bR tq t.2.2.1=0
   ·rw[if_pos e2]
    refine an (ce t.2.2.2.1 1 3) (ap (λh=>aa ?_) λh=>aa ?_)
    ·rw[show iv s before t=15 from by unfold iv;rw[if_neg hn,if_neg ha,if_neg h1,if_neg (not_not_intro e1),if_neg h2,if_neg (not_not_intro e2),if_pos (by simp at h;omega)]]
    ·rw[show iv s before t=0 from by unfold iv;rw[if_neg hn,if_neg ha,if_neg h1,if_neg (not_not_intro e1),if_neg h2,if_neg (not_not_intro e2),if_neg (by simp at h;omega)]]
   ·rw[if_neg e2]
    refine aa ?_
    rw[show iv s before t=bR tq t.2.2.1 from by unfold iv;rw[if_neg hn,if_neg ha,if_neg h1,if_neg (not_not_intro e1),if_neg h2,if_pos e2]]
  ·rw[if_neg e1]
   refine aa ?_
   rw[show iv s before t=bR (sO s) t.2.1 from by unfold iv;rw[if_neg hn,if_neg ha,if_neg h1,if_pos e1]]
def M1(s:PS)(l:List TG)(i:Nat):Int:=match l[i]? with|some t=>iv s (l.take i) t|none=>0
theorem Pz(s:PS)(p:RF):ud s p=if lP (M1 s p.2.1) p.2.1.length≠0 then lP (M1 s p.2.1) p.2.1.length else if p.2.2.1≠1/\p.2.2.1≠2 then 15 else 0:=rfl
theorem M2{s:PS}{l:List TG}{i:Nat}(hi:i<l.length):M1 s l i=iv s (l.take i) l[i]:=by
 unfold M1
 rw[d_ hi]
theorem vA(s:PS)(hs:okD yS s)(p:RF)(hp:okD yO p):aE tbl fv [.d yN (bU s),.d yO p] [] b9 (ud s p,()):=by
 refine aB rfl (aC wI rfl (λO n=>wU O n (bU s) p) ?_)
 unfold oL
 have hl:p.2.1.length<=9223372036854775807:=hp.2.1.1
 refine ak (ra (N:=p.2.1.length) (f:=M1 s p.2.1) (enc:=λi=>((i:Int),())) (oB:=λe=>(e,())) (oE:=()) (λi hi=>?_) ?_ ?_)
 ·unfold gT
  refine cm hi (aW hi (aN (decide_eq_true (by omega)) (aN (by simp;omega) ?_)))
  rw[Y_,A_]
  refine an (zy s hs _ _ (by rw[h_];omega) (hp.2.1.2 _ (b_ hi))) ?_
  rw[<-M2 hi]
  refine ap (λh=>aa ?_) λh=>aa ?_
  ·rw[if_neg (by simpa using h)]
  ·rw[if_pos (by simpa using h),aL hi hl]
 ·unfold gT
  exact bF (aa rfl)
 rw[Pz]
 by_cases e:lP (M1 s p.2.1) p.2.1.length=0
 ·rw[if_pos e,if_neg (not_not_intro e)]
  refine ak (bX (b:=(p.2.2.1 != 2)) (λ_=>aa rfl) (ap (λh=>aa ?_) λh=>aa ?_))
  ·rw[if_pos (by simpa using h)]
  ·rw[if_neg (by simp at h;omega)]
 ·rw[if_neg e,if_pos e]
  exact aa rfl
theorem TP(v:List V9)(hv:∀r∈v,Bl r.2.1.1)(i:Nat)(hi:i<v.length):aE tbl cX [.d tI (i:Int),.ptr 0 0] [.box bD [.d (.list yR) v]] da (jT v[i],v,()):=by
 refine aB rfl (aC vi rfl (λO n=>vo O n (i:Int) v) ?_)
 unfold m9
 exact aW hi (an (GX _ (hv _ (b_ hi))) (aa rfl))
theorem TQ(v:List Wh)(hv:∀r∈v,r.2.1.length<=1048576)(i:Nat)(hi:i<v.length):aE tbl cY [.d tI (i:Int),.ptr 0 0] [.box bO [.d (.list yH) v]] db (iM v[i].2.1,v,()):=by
 refine aB rfl (aC vj rfl (λO n=>vp O n (i:Int) v) ?_)
 unfold na
 obtain⟨c,h1,h2⟩:=Ha v[i].2.1 (hv _ (b_ hi))
 rw[<-Py h1]
 exact aW hi (an h2 (aa rfl))
theorem TR(v:List V6)(hv:∀r∈v,True)(i:Nat)(hi:i<v.length):aE tbl cZ [.d tI (i:Int),.ptr 0 0] [.box bw [.d (.list yC) v]] dc (ky v[i],v,()):=by
 refine aB rfl (aC vk rfl (λO n=>vq O n (i:Int) v) ?_)
 unfold nb
 exact aW hi (an (td _) (aa rfl))
theorem Rv(v:List V9)(hl:v.length<=9223372036854775807)(hv:∀r∈v,Bl r.2.1.1):aE tbl iR [.d tI (v.length:Int),.clo gP [0]] [.box bD [.d (.list yR) v]] dO (bR jT v,v,()):=by
 refine aB rfl (aC BF rfl (λO n=>BO O n (v.length:Int) v) ?_)
 unfold ru
 refine ak (kV (l:=v) (f:=jT) (enc:=λi=>((i:Int),v,())) (oB:=λe=>(e,v,())) (oE:=(v,())) (λi hi=>?_) ?_ ?_)
 ·unfold kd
  refine cm hi (an (TP v hv i hi) (ap (λh=>aa ?_) λh=>aa ?_))
  ·rw[if_neg (by simpa using h)]
  ·rw[if_pos (by simpa using h),aL hi hl]
 ·unfold kd
  exact bF (aa rfl)
 by_cases e:bR jT v=0
 ·rw[if_pos e]
  refine aa ?_
  rw[e]
 ·rw[if_neg e]
  exact aa rfl
theorem Rw(v:List Wh)(hl:v.length<=9223372036854775807)(hv:∀r∈v,r.2.1.length<=1048576):aE tbl fz [.d tI (v.length:Int),.clo gQ [0]] [.box bO [.d (.list yH) v]] cC (bR (λr=>iM r.2.1) v,v,()):=by
 refine aB rfl (aC wM rfl (λO n=>wY O n (v.length:Int) v) ?_)
 unfold oP
 refine ak (kV (l:=v) (f:=(λr=>iM r.2.1)) (enc:=λi=>((i:Int),v,())) (oB:=λe=>(e,v,())) (oE:=(v,())) (λi hi=>?_) ?_ ?_)
 ·unfold gX
  refine cm hi (an (TQ v hv i hi) (ap (λh=>aa ?_) λh=>aa ?_))
  ·rw[if_neg (by simpa using h)]
  ·rw[if_pos (by simpa using h),aL hi hl]
 ·unfold gX
  exact bF (aa rfl)
 by_cases e:bR (λr=>iM r.2.1) v=0
 ·rw[if_pos e]
  refine aa ?_
  rw[e]
 ·rw[if_neg e]
  exact aa rfl
theorem Ry(v:List V6)(hl:v.length<=9223372036854775807)(hv:∀r∈v,True):aE tbl fA [.d tI (v.length:Int),.clo gR [0]] [.box bw [.d (.list yC) v]] cD (bR ky v,v,()):=by
 refine aB rfl (aC wN rfl (λO n=>wZ O n (v.length:Int) v) ?_)
 unfold oQ
 refine ak (kV (l:=v) (f:=ky) (enc:=λi=>((i:Int),v,())) (oB:=λe=>(e,v,())) (oE:=(v,())) (λi hi=>?_) ?_ ?_)
 ·unfold gY
  refine cm hi (an (TR v hv i hi) (ap (λh=>aa ?_) λh=>aa ?_))
  ·rw[if_neg (by simpa using h)]
  ·rw[if_pos (by simpa using h),aL hi hl]
 ·unfold gY
  exact bF (aa rfl)
 by_cases e:bR ky v=0
 ·rw[if_pos e]
  refine aa ?_
  rw[e]
 ·rw[if_neg e]
  exact aa rfl
theorem A4{α:Type}{nm:α->List UInt8}{sz:α->Nat}{ck:α->Int}{l:List α}{i:Nat}(hi:i<l.length):HS nm sz ck l i=if qS (l.map nm) i≠0 then qS (l.map nm) i else if sz l[i]>64 then 4 else ck l[i]:=by
 unfold HS
 rw[d_ hi]
theorem WL{s:PS}(h:SmP s){i:Nat}(hi:i<s.1.length):s.1[i].2.1.length<=9223372036854775807/\∀r∈s.1[i].2.1,Bl r.2.1.1:=
 ⟨(h.ok.1.2 _ (b_ hi)).2.1.1,λr hr=>((h.ok.1.2 _ (b_ hi)).2.1.2 r hr).2.1.1⟩
theorem WM{s:PS}(h:SmP s){i:Nat}(hi:i<s.2.1.length):s.2.1[i].2.1.length<=9223372036854775807/\∀r∈s.2.1[i].2.1,r.2.1.length<=1048576:=
 ⟨(h.ok.2.1.2 _ (b_ hi)).2.1.1,λr hr=>h.pt _ (b_ hi) r hr⟩
theorem WN{s:PS}(h:SmP s){i:Nat}(hi:i<s.2.2.1.length):s.2.2.1[i].2.1.length<=9223372036854775807/\∀r∈s.2.2.1[i].2.1,True:=
 ⟨(h.ok.2.2.1.2 _ (b_ hi)).2.1.1,λ_ _=>trivial⟩
theorem Xe{s:PS}(h:SmP s){i:Nat}(hi:i<s.1.length):s.1[i].1.length<=9223372036854775807:=(h.ok.1.2 _ (b_ hi)).1
theorem Xf{s:PS}(h:SmP s){i:Nat}(hi:i<s.2.1.length):s.2.1[i].1.length<=9223372036854775807:=(h.ok.2.1.2 _ (b_ hi)).1
theorem Xg{s:PS}(h:SmP s){i:Nat}(hi:i<s.2.2.1.length):s.2.2.1[i].1.length<=9223372036854775807:=(h.ok.2.2.1.2 _ (b_ hi)).1
theorem Xh{s:PS}(h:SmP s){i:Nat}(hi:i<s.2.2.2.1.length):s.2.2.2.1[i].1.length<=9223372036854775807:=(h.ok.2.2.2.1.2 _ (b_ hi)).1
abbrev Rj(s:PS):Ob:=.box ar [.d (.list yL) s.1,.d (.list yG) s.2.1,.d (.list yD) s.2.2.1,.d (.list yO) s.2.2.2.1]
theorem TS(s:PS)(i:Nat)(hi:i<s.1.length):aE tbl dU [.d tI (i:Int),.ptr 0 0] [Rj s] ea ((s.1[i].2.1.length:Int),s.1,s.2.1,s.2.2.1,s.2.2.2.1,()):=by
 refine aB rfl (aC xX rfl (λO n=>yf O n (i:Int) s.1 s.2.1 s.2.2.1 s.2.2.2.1) ?_)
 unfold pL
 exact aW hi (aa rfl)
theorem RA(s:PS)(hs:SmP s)(i:Nat)(hi:i<s.1.length):aE tbl dV [.d tI (i:Int),.ptr 0 0] [Rj s] eb (bR jT s.1[i].2.1,s.1,s.2.1,s.2.2.1,s.2.2.2.1,()):=by
 refine aB rfl (aC xY rfl (λO n=>yg O n (i:Int) s.1 s.2.1 s.2.2.1 s.2.2.2.1) ?_)
 unfold pM
 refine aW hi (an (Rv _ (WL hs hi).1 (WL hs hi).2) (aa rfl))
theorem TJ(s:PS)(hs:SmP s):aE tbl iQ [.d (.list tS) (s.1.map (·.1)),.clo jy [0],.clo jz [0]] [Rj s] cO (fT (·.1) (λl=>l.2.1.length) (λl=>bR jT l.2.1) s.1,s.1,s.2.1,s.2.2.1,s.2.2.2.1,()):=by
 refine aB rfl (aC BE rfl (λO n=>BN O n (s.1.map (·.1)) s.1 s.2.1 s.2.2.1 s.2.2.2.1) ?_)
 unfold rq
 refine ap (λh=>aa ?_) λh=>?_
 ·rw[show fT (·.1) (λl=>l.2.1.length) (λl=>bR jT l.2.1) s.1=4 from if_pos (by have:=of_decide_eq_true h;rw[a_]at this;omega)]
 have hlen:¬s.1.length>64:=by have:=of_decide_eq_false h;rw[a_]at this;omega
 rw[show fT (·.1) (λl=>l.2.1.length) (λl=>bR jT l.2.1) s.1=lP (HS (·.1) (λl=>l.2.1.length) (λl=>bR jT l.2.1) s.1) (s.1.map (·.1)).length from by unfold fT;rw[if_neg hlen,a_]]
 generalize hE:HS (·.1) (λl=>l.2.1.length) (λl=>bR jT l.2.1) s.1=E
 refine ak (ra (N:=(s.1.map (·.1)).length) (f:=E) (enc:=λi=>((i:Int),s.1,s.2.1,s.2.2.1,s.2.2.2.1,())) (oB:=λe=>(e,s.1,s.2.1,s.2.2.1,s.2.2.2.1,())) (oE:=(s.1,s.2.1,s.2.2.1,s.2.2.2.1,())) (λi hi=>?_) ?_ ?_)
 ·unfold kb
  have hi':i<s.1.length:=by rw[a_]at hi;exact hi
  have en:E i=if qS (s.1.map (·.1)) i≠0 then qS (s.1.map (·.1)) i else if s.1[i].2.1.length>64 then 4 else bR jT s.1[i].2.1:=by rw[<-hE];exact A4 hi'
  refine cm hi (aW hi (aN (decide_eq_true (by omega)) (aN (by simp;omega) ?_)))
  refine an (lR _ i hi (by rw[a_];omega) (by rw[D_];exact Xe hs hi')) ?_
  refine ap (λh=>aa ?_) λh=>?_
  ·have h:qS (s.1.map (·.1)) i≠0:=by simpa using h
   rw[if_pos h]at en
   rw[en,if_neg h]
  rw[if_neg (by simpa using h)]at en
  refine an (TS s i hi') (ap (λh=>aa ?_) λh=>?_)
  ·have h:decide ((s.1[i].2.1.length:Int)>64)=true:=h
   rw[if_pos (by have:=of_decide_eq_true h;omega)]at en
   rw[en,if_neg (by decide)]
  have h:decide ((s.1[i].2.1.length:Int)>64)=false:=h
  rw[if_neg (by have:=of_decide_eq_false h;omega)]at en
  refine an (RA s hs i hi') (ap (λh=>aa ?_) λh=>aa ?_)
  ·rw[en,if_neg (by simpa using h)]
  ·rw[en,if_pos (by simpa using h),aL hi' (by omega)]
 ·unfold kb
  exact bF (aa rfl)
 by_cases e:lP E (s.1.map (·.1)).length=0
 ·rw[if_pos e]
  refine aa ?_
  rw[e]
 ·rw[if_neg e]
  exact aa rfl
theorem TT(s:PS)(i:Nat)(hi:i<s.2.1.length):aE tbl dW [.d tI (i:Int),.ptr 0 0] [Rj s] ee ((s.2.1[i].2.1.length:Int),s.1,s.2.1,s.2.2.1,s.2.2.2.1,()):=by
 refine aB rfl (aC xZ rfl (λO n=>yh O n (i:Int) s.1 s.2.1 s.2.2.1 s.2.2.2.1) ?_)
 unfold pN
 exact aW hi (aa rfl)
theorem RB(s:PS)(hs:SmP s)(i:Nat)(hi:i<s.2.1.length):aE tbl dX [.d tI (i:Int),.ptr 0 0] [Rj s] ef (bR (λr=>iM r.2.1) s.2.1[i].2.1,s.1,s.2.1,s.2.2.1,s.2.2.2.1,()):=by
 refine aB rfl (aC x5 rfl (λO n=>yi O n (i:Int) s.1 s.2.1 s.2.2.1 s.2.2.2.1) ?_)
 unfold pO
 refine aW hi (an (Rw _ (WM hs hi).1 (WM hs hi).2) (aa rfl))
theorem TK(s:PS)(hs:SmP s):aE tbl fw [.d (.list tS) (s.2.1.map (·.1)),.clo jA [0],.clo jB [0]] [Rj s] ca (fT (·.1) (λl=>l.2.1.length) (λl=>bR (λr=>iM r.2.1) l.2.1) s.2.1,s.1,s.2.1,s.2.2.1,s.2.2.2.1,()):=by
 refine aB rfl (aC wJ rfl (λO n=>wV O n (s.2.1.map (·.1)) s.1 s.2.1 s.2.2.1 s.2.2.2.1) ?_)
 unfold oM
 refine ap (λh=>aa ?_) λh=>?_
 ·rw[show fT (·.1) (λl=>l.2.1.length) (λl=>bR (λr=>iM r.2.1) l.2.1) s.2.1=4 from if_pos (by have:=of_decide_eq_true h;rw[a_]at this;omega)]
 have hlen:¬s.2.1.length>64:=by have:=of_decide_eq_false h;rw[a_]at this;omega
 rw[show fT (·.1) (λl=>l.2.1.length) (λl=>bR (λr=>iM r.2.1) l.2.1) s.2.1=lP (HS (·.1) (λl=>l.2.1.length) (λl=>bR (λr=>iM r.2.1) l.2.1) s.2.1) (s.2.1.map (·.1)).length from by unfold fT;rw[if_neg hlen,a_]]
 generalize hE:HS (·.1) (λl=>l.2.1.length) (λl=>bR (λr=>iM r.2.1) l.2.1) s.2.1=E
 refine ak (ra (N:=(s.2.1.map (·.1)).length) (f:=E) (enc:=λi=>((i:Int),s.1,s.2.1,s.2.2.1,s.2.2.2.1,())) (oB:=λe=>(e,s.1,s.2.1,s.2.2.1,s.2.2.2.1,())) (oE:=(s.1,s.2.1,s.2.2.1,s.2.2.2.1,())) (λi hi=>?_) ?_ ?_)
 ·unfold gU
  have hi':i<s.2.1.length:=by rw[a_]at hi;exact hi
  have en:E i=if qS (s.2.1.map (·.1)) i≠0 then qS (s.2.1.map (·.1)) i else if s.2.1[i].2.1.length>64 then 4 else bR (λr=>iM r.2.1) s.2.1[i].2.1:=by rw[<-hE];exact A4 hi'
  refine cm hi (aW hi (aN (decide_eq_true (by omega)) (aN (by simp;omega) ?_)))
  refine an (lR _ i hi (by rw[a_];omega) (by rw[D_];exact Xf hs hi')) ?_
  refine ap (λh=>aa ?_) λh=>?_
  ·have h:qS (s.2.1.map (·.1)) i≠0:=by simpa using h
   rw[if_pos h]at en
   rw[en,if_neg h]
  rw[if_neg (by simpa using h)]at en
  refine an (TT s i hi') (ap (λh=>aa ?_) λh=>?_)
  ·have h:decide ((s.2.1[i].2.1.length:Int)>64)=true:=h
   rw[if_pos (by have:=of_decide_eq_true h;omega)]at en
   rw[en,if_neg (by decide)]
  have h:decide ((s.2.1[i].2.1.length:Int)>64)=false:=h
  rw[if_neg (by have:=of_decide_eq_false h;omega)]at en
  refine an (RB s hs i hi') (ap (λh=>aa ?_) λh=>aa ?_)
  ·rw[en,if_neg (by simpa using h)]
  ·rw[en,if_pos (by simpa using h),aL hi' (by omega)]
 ·unfold gU
  exact bF (aa rfl)
 by_cases e:lP E (s.2.1.map (·.1)).length=0
 ·rw[if_pos e]
  refine aa ?_
  rw[e]
 ·rw[if_neg e]
  exact aa rfl
theorem TU(s:PS)(i:Nat)(hi:i<s.2.2.1.length):aE tbl dY [.d tI (i:Int),.ptr 0 0] [Rj s] eh ((s.2.2.1[i].2.1.length:Int),s.1,s.2.1,s.2.2.1,s.2.2.2.1,()):=by
 refine aB rfl (aC x6 rfl (λO n=>yj O n (i:Int) s.1 s.2.1 s.2.2.1 s.2.2.2.1) ?_)
 unfold pP
 exact aW hi (aa rfl)
theorem RD(s:PS)(hs:SmP s)(i:Nat)(hi:i<s.2.2.1.length):aE tbl dZ [.d tI (i:Int),.ptr 0 0] [Rj s] ei (bR ky s.2.2.1[i].2.1,s.1,s.2.1,s.2.2.1,s.2.2.2.1,()):=by
 refine aB rfl (aC x7 rfl (λO n=>yk O n (i:Int) s.1 s.2.1 s.2.2.1 s.2.2.2.1) ?_)
 unfold pQ
 refine aW hi (an (Ry _ (WN hs hi).1 (WN hs hi).2) (aa rfl))
theorem TL(s:PS)(hs:SmP s):aE tbl fx [.d (.list tS) (s.2.2.1.map (·.1)),.clo jC [0],.clo jD [0]] [Rj s] cb (fT (·.1) (λl=>l.2.1.length) (λl=>bR ky l.2.1) s.2.2.1,s.1,s.2.1,s.2.2.1,s.2.2.2.1,()):=by
 refine aB rfl (aC wK rfl (λO n=>wW O n (s.2.2.1.map (·.1)) s.1 s.2.1 s.2.2.1 s.2.2.2.1) ?_)
 unfold oN
 refine ap (λh=>aa ?_) λh=>?_
 ·rw[show fT (·.1) (λl=>l.2.1.length) (λl=>bR ky l.2.1) s.2.2.1=4 from if_pos (by have:=of_decide_eq_true h;rw[a_]at this;omega)]
 have hlen:¬s.2.2.1.length>64:=by have:=of_decide_eq_false h;rw[a_]at this;omega
 rw[show fT (·.1) (λl=>l.2.1.length) (λl=>bR ky l.2.1) s.2.2.1=lP (HS (·.1) (λl=>l.2.1.length) (λl=>bR ky l.2.1) s.2.2.1) (s.2.2.1.map (·.1)).length from by unfold fT;rw[if_neg hlen,a_]]
 generalize hE:HS (·.1) (λl=>l.2.1.length) (λl=>bR ky l.2.1) s.2.2.1=E
 refine ak (ra (N:=(s.2.2.1.map (·.1)).length) (f:=E) (enc:=λi=>((i:Int),s.1,s.2.1,s.2.2.1,s.2.2.2.1,())) (oB:=λe=>(e,s.1,s.2.1,s.2.2.1,s.2.2.2.1,())) (oE:=(s.1,s.2.1,s.2.2.1,s.2.2.2.1,())) (λi hi=>?_) ?_ ?_)
 ·unfold gV
  have hi':i<s.2.2.1.length:=by rw[a_]at hi;exact hi
  have en:E i=if qS (s.2.2.1.map (·.1)) i≠0 then qS (s.2.2.1.map (·.1)) i else if s.2.2.1[i].2.1.length>64 then 4 else bR ky s.2.2.1[i].2.1:=by rw[<-hE];exact A4 hi'
  refine cm hi (aW hi (aN (decide_eq_true (by omega)) (aN (by simp;omega) ?_)))
  refine an (lR _ i hi (by rw[a_];omega) (by rw[D_];exact Xg hs hi')) ?_
  refine ap (λh=>aa ?_) λh=>?_
  ·have h:qS (s.2.2.1.map (·.1)) i≠0:=by simpa using h
   rw[if_pos h]at en
   rw[en,if_neg h]
  rw[if_neg (by simpa using h)]at en
  refine an (TU s i hi') (ap (λh=>aa ?_) λh=>?_)
  ·have h:decide ((s.2.2.1[i].2.1.length:Int)>64)=true:=h
   rw[if_pos (by have:=of_decide_eq_true h;omega)]at en
   rw[en,if_neg (by decide)]
  have h:decide ((s.2.2.1[i].2.1.length:Int)>64)=false:=h
  rw[if_neg (by have:=of_decide_eq_false h;omega)]at en
  refine an (RD s hs i hi') (ap (λh=>aa ?_) λh=>aa ?_)
  ·rw[en,if_neg (by simpa using h)]
  ·rw[en,if_pos (by simpa using h),aL hi' (by omega)]
 ·unfold gV
  exact bF (aa rfl)
 by_cases e:lP E (s.2.2.1.map (·.1)).length=0
 ·rw[if_pos e]
  refine aa ?_
  rw[e]
 ·rw[if_neg e]
  exact aa rfl
abbrev Xn(s:PS):Ob:=.box dQ [.d (.list tS) (bU s).1,.d (.list tS) (bU s).2.1,.d (.list tS) (bU s).2.2.1,.d (.list tS) (bU s).2.2.2.1]
theorem Xx(x:HL q_policy_Check_8_drr.sl):Dq q_policy_Check_8_drr (iL q_policy_Check_8_drr x)=some x:=by kernel_rfl
theorem Xb(x:HL q_policy_each_dcc_v3.sl):Dq q_policy_each_dcc_v3 (iL q_policy_each_dcc_v3 x)=some x:=by kernel_rfl
theorem TV(s:PS)(i:Nat)(hi:i<s.2.2.2.1.length):aE tbl d4 [.d tI (i:Int),.ptr 0 0] [Rj s] ek ((s.2.2.2.1[i].2.1.length:Int),s.1,s.2.1,s.2.2.1,s.2.2.2.1,()):=by
 refine aB rfl (aC x8 rfl (λO n=>yl O n (i:Int) s.1 s.2.1 s.2.2.1 s.2.2.2.1) ?_)
 unfold pR
 exact aW hi (aa rfl)
theorem RE(s:PS)(hs:SmP s)(i:Nat)(hi:i<s.2.2.2.1.length):aE tbl dy [.d tI (i:Int),.ptr 0 0,.ptr 1 0] [Xn s,Rj s] q_policy_Check_8_drr (ud s s.2.2.2.1[i],(bU s).1,(bU s).2.1,(bU s).2.2.1,(bU s).2.2.2.1,s.1,s.2.1,s.2.2.1,s.2.2.2.1,()):=by
 refine aB (Xx _) (aC wG rfl (λO n=>wS O n (i:Int) (bU s).1 (bU s).2.1 (bU s).2.2.1 (bU s).2.2.2.1 s.1 s.2.1 s.2.2.1 s.2.2.2.1) ?_)
 unfold oJ
 exact aW hi (an (vA s hs.ok _ (hs.ok.2.2.2.1.2 _ (b_ hi))) (aa rfl))
theorem TM(s:PS)(hs:SmP s):aE tbl fy [.d (.list tS) (s.2.2.2.1.map (·.1)),.clo jE [0],.clo jF [1,0]] [Rj s,Xn s] q_policy_each_dcc_v3 (fT (·.1) (λp=>p.2.1.length) (ud s) s.2.2.2.1,s.1,s.2.1,s.2.2.1,s.2.2.2.1,(bU s).1,(bU s).2.1,(bU s).2.2.1,(bU s).2.2.2.1,()):=by
 refine aB (Xb _) (aC wL rfl (λO n=>wX O n (s.2.2.2.1.map (·.1)) s.1 s.2.1 s.2.2.1 s.2.2.2.1 (bU s).1 (bU s).2.1 (bU s).2.2.1 (bU s).2.2.2.1) ?_)
 unfold oO
 refine ap (λh=>aa ?_) λh=>?_
 ·rw[show fT (·.1) (λp=>p.2.1.length) (ud s) s.2.2.2.1=4 from if_pos (by have:=of_decide_eq_true h;rw[a_]at this;omega)]
 have hlen:¬s.2.2.2.1.length>64:=by have:=of_decide_eq_false h;rw[a_]at this;omega
 rw[show fT (·.1) (λp=>p.2.1.length) (ud s) s.2.2.2.1=lP (HS (·.1) (λp=>p.2.1.length) (ud s) s.2.2.2.1) (s.2.2.2.1.map (·.1)).length from by unfold fT;rw[if_neg hlen,a_]]
 generalize hE:HS (·.1) (λp=>p.2.1.length) (ud s) s.2.2.2.1=E
 refine ak (ra (N:=(s.2.2.2.1.map (·.1)).length) (f:=E) (enc:=λi=>((i:Int),s.1,s.2.1,s.2.2.1,s.2.2.2.1,(bU s).1,(bU s).2.1,(bU s).2.2.1,(bU s).2.2.2.1,()))
  (oB:=λe=>(e,s.1,s.2.1,s.2.2.1,s.2.2.2.1,(bU s).1,(bU s).2.1,(bU s).2.2.1,(bU s).2.2.2.1,())) (oE:=(s.1,s.2.1,s.2.2.1,s.2.2.2.1,(bU s).1,(bU s).2.1,(bU s).2.2.1,(bU s).2.2.2.1,())) (λi hi=>?_) ?_ ?_)
 ·unfold gW
  have hi':i<s.2.2.2.1.length:=by rw[a_]at hi;exact hi
  have en:E i=if qS (s.2.2.2.1.map (·.1)) i≠0 then qS (s.2.2.2.1.map (·.1)) i else if s.2.2.2.1[i].2.1.length>64 then 4 else ud s s.2.2.2.1[i]:=by rw[<-hE];exact A4 hi'
  refine cm hi (aW hi (aN (decide_eq_true (by omega)) (aN (by simp;omega) ?_)))
  refine an (lR _ i hi (by rw[a_];omega) (by rw[D_];exact Xh hs hi')) ?_
  refine ap (λh=>aa ?_) λh=>?_
  ·have h:qS (s.2.2.2.1.map (·.1)) i≠0:=by simpa using h
   rw[if_pos h]at en
   rw[en,if_neg h]
  rw[if_neg (by simpa using h)]at en
  refine an (TV s i hi') (ap (λh=>aa ?_) λh=>?_)
  ·have h:decide ((s.2.2.2.1[i].2.1.length:Int)>64)=true:=h
   rw[if_pos (by have:=of_decide_eq_true h;omega)]at en
   rw[en,if_neg (by decide)]
  have h:decide ((s.2.2.2.1[i].2.1.length:Int)>64)=false:=h
  rw[if_neg (by have:=of_decide_eq_false h;omega)]at en
  refine an (RE s hs i hi') (ap (λh=>aa ?_) λh=>aa ?_)
  ·rw[en,if_neg (by simpa using h)]
  ·rw[en,if_pos (by simpa using h),aL hi' (by omega)]
 ·unfold gW
  exact bF (aa rfl)
 by_cases e:lP E (s.2.2.2.1.map (·.1)).length=0
 ·rw[if_pos e]
  refine aa ?_
  rw[e]
 ·rw[if_neg e]
  exact aa rfl
theorem EL(s:PS)(hs:SmP s):aE tbl l7 [.d yS s] [] dD (Bp iM s,()):=by
 refine aB rfl (aC Gn rfl (λO n=>GI O n s) ?_)
 unfold vE
 refine an (EM s hs.l1 hs.l2 hs.l3 hs.l4) (aN rfl (an (TJ s hs) ?_))
 generalize e1:fT (·.1) (λl=>l.2.1.length) (λl=>bR jT l.2.1) s.1=E1
 generalize e2:fT (·.1) (λl=>l.2.1.length) (λl=>bR (λr=>iM r.2.1) l.2.1) s.2.1=E2
 generalize e3:fT (·.1) (λl=>l.2.1.length) (λl=>bR ky l.2.1) s.2.2.1=E3
 have hp:Bp iM s=if E1≠0 then E1 else if E2≠0 then E2 else if E3≠0 then E3 else fT (·.1) (λp=>p.2.1.length) (ud s) s.2.2.2.1:=by unfold Bp;rw[e1,e2,e3]
 have c2:=TK s hs
 have c3:=TL s hs
 rw[e2]at c2
 rw[e3]at c3
 rw[hp]
 refine ap (λh=>aa ?_) λh=>aN rfl (an c2 (ap (λh'=>aa ?_) λh'=>aN rfl (an c3 (ap (λh''=>aa ?_) λh''=>aN rfl (an (TM s hs) (aa ?_))))))
 ·rw[if_pos (by simpa using h)]
 ·rw[if_neg (by simpa using h),if_pos (by simpa using h')]
 ·rw[if_neg (by simpa using h),if_neg (by simpa using h'),if_pos (by simpa using h'')]
 ·rw[if_neg (by simpa using h),if_neg (by simpa using h'),if_neg (by simpa using h'')]
end Go.Proofs.YtmfolppncelceaaGreatDoor
