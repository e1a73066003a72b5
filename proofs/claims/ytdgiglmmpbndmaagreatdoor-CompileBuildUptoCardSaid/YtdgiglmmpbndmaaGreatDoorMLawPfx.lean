import Derived.Test.YtdgiglmmpbndmaaGreatDoorMPlPfx
import Derived.Test.YtdgiglmmpbndmaaGreatDoorMGlueB
set_option linter.all false
set_option maxRecDepth 100000
set_option maxHeartbeats 1000000
open Bool renaming or_eq_false_iff->j_,or_eq_true->q_,and_eq_true->Q_,true_and->Z_,false_and->ak_,not_false->al_,not_true->ao_
open Classical renaming byContradiction->g_,choose->p_,choose_spec->H_
open Int renaming eq_ofNat_of_zero_le->s_,toNat_natCast->y_,natCast_nonneg->C_,toNat->I_,tdiv_eq_ediv_of_nonneg->M_,toNat_of_nonneg->X_,le_refl->aq_
open Go.IntKind renaming wrap->b_,bits->S_
open List renaming getElem_mem->a_,getElem?_eq_getElem->c_,length_map->d_,mem_cons_of_mem->e_,mem_cons_self->f_,take_of_length_le->h_,mem_range->k_,range->l_,getElem?_eq_none->m_,mem_cons->n_,map_cons->r_,mem_flatMap->t_,take_length->u_,drop_eq_nil_of_le->v_,length_eq_one_iff->w_,nil_append->x_,getElem?_eq_some_iff->z_,foldl_cons->A_,map_append->B_,mem_singleton->D_,mem_map->F_,take_add_one->G_,length_cons->J_,mem_append->K_,nodup_iff_pairwise_ne->N_,foldl_append->O_,take_append_getElem->P_,getElem_map->R_,map_nil->T_,mem_filter->U_,length_pos_iff->Y_,pairwise_cons->aa_,any_map->ad_,all_eq_true->ae_,any_eq_true->af_,ext_getElem->ag_,getD->ah_,length_nil->aj_,drop_zero->am_,length->ar_
open Nat renaming le_refl->o_,zero_le->E_,le_of_lt->L_,testBit_and->V_,eq_of_testBit_eq->W_,lt_of_le_of_lt->ab_,zero_testBit->ai_,mod_lt->an_,le_trans->ap_
open Option renaming bind->i_,toList_some->ac_
open Sum renaming inl->as_
namespace Go.Proofs.YtdgiglmmpbndmaaGreatDoor
open Z
open Go Go.Av Go.Ev Go.Pl
abbrev G1(x:Int):Prop:=0<=x/\x<=4294967295
def Ix(n m:Int):aB tbl 254 [.d tI n,.d tI m] [] ar (min (max n 0) m,()):=crZ
def KV(n m:Int):aB tbl 212 [.d tI n,.d tI m] [] ar (min (max n 0) m,()):=crZ
def E6(k:Nat):(2:Int)^k=((2^k:Nat):Int):=by induction k with|zero=>rfl|succ k a=>rw[Int.pow_succ,a,Nat.pow_succ];rfl
def KM(n:Nat)(hn:n<=32):aB tbl 218 [.d tI (n:Int)] [] gz (((4294967295*2^(32 - n)%4294967296:Nat):Int),()):=by
 refine cm ?_;refine aj (Ix (n:Int) 32) ?_;have e:b_ .i64 (32 - min (max (n:Int) 0) 32)=((32 - n:Nat):Int):=by rw[wrap_i64];omega
 refine ao (by grind) (aa ?_);simp only[e];rw[show min (I_ ((32 - n:Nat):Int)) (S_ .u32)=32 - n from by show min _ 32=_;simp,wrap_u32,E6];rfl
def KL(x n:Int)(c:G1 x)(b:0<=n)(h1:n<=32):aB tbl 183 [.d tW x,.d tI n] [] gz (Q2 x n,()):=by obtain⟨a,rfl⟩:=s_ c.1;obtain⟨k,rfl⟩:=s_ b;refine cm ?_;refine aj (KM k (by omega)) (aa ?_);rw[Lp (by omega) (an_ _ (by simp)),SH (by omega) (by omega)];rfl
def N2(x i:Nat)(d:x<=4294967295)(c:i<32):aB tbl 213 [.d tW (x:Int),.d tI (i:Int)] [] ar (((x/2^(31 - i)%2:Nat):Int),()):=by
 refine cm ?_;refine ae (bq (b:=false) (λ_=>aa (decide_eq_false (by omega))) ?_);rw[decide_eq_false (show ¬(i:Int)<0 by simp)];have e:b_ .u64 (b_ .i64 (31 - (i:Int)))=((31 - i:Nat):Int):=by rw[wrap_i64,wrap_u64];omega
 refine ap rfl (ao (by grind) (aa ?_));simp only[e];rw[show min (I_ ((31 - i:Nat):Int)) (S_ .u32)=31 - i from by show min _ 32=_;omega,E6,Int.fdiv_eq_ediv_of_nonneg _ (C_ _)];have a:(x:Int)/((2^(31 - i):Nat):Int)=((x/2^(31 - i):Nat):Int):=rfl;have h2:x/2^(31 - i)<=x:=Nat.div_le_self _ _;rw[a,show(1:Int)=((1:Nat):Int)from rfl,Lp (by omega) (by simp),Nat.and_one_is_mod];have:x/2^(31 - i)%2<2:=an_ _ (by simp);rw[wrap_i64]
def IC(x n:Int)(g:G1 x)(d:0<=n)(h1:n<=32):aB tbl 175 [.d tW x,.d tI n] [] gz (Q2 x n,()):=by
 obtain⟨a,rfl⟩:=s_ g.1;obtain⟨k,rfl⟩:=s_ d;have b:a<4294967296:=by omega
 refine cm ?_;refine aj (KV (k:Int) 32) ?_;have e:min (max (k:Int) 0) 32=(k:Int):=by omega
 rw[e];refine ae (aK (N:=k) (I:=λi s=>s=(((dI a i:Nat):Int),(i:Int),())) (by rw[SJ b];rfl) (λi s f hs=>?_) λs hs=>?_)
 .subst hs;refine aQ f (aj (N2 a i (by omega) (by omega)) ?_);have e:b_ .u64 (b_ .i64 (31 - (i:Int)))=((31 - i:Nat):Int):=by rw[wrap_i64,wrap_u64];omega
  refine ao (by grind) (aa ?_);simp only[e];have h:a/2^(31 - i)%2<2:=an_ _ (by simp);have hp:(a/2^(31 - i)%2)*2^(31 - i)<4294967296:=by have h1:(a/2^(31 - i)%2)*2^(31 - i)<=1*2^31:=Nat.mul_le_mul (by omega) (Nat.pow_le_pow_right (by simp) (by simp));omega
  have c:b_ .u32 (b_ .u32 ((a/2^(31 - i)%2:Nat):Int)*2^(min (I_ ((31 - i:Nat):Int)) (S_ .u32)))=(((a/2^(31 - i)%2)*2^(31 - i):Nat):Int):=by rw[show min (I_ ((31 - i:Nat):Int)) (S_ .u32)=31 - i from by show min _ 32=_;omega,E6,wrap_u32,wrap_u32];grind
  rw[c,Ye (ab_ (VG a i) b) hp,<-SI a (by omega),ak (n:=32) (by omega) (by simp)]
 .subst hs;exact aJ (aa (aa rfl))
def fQ{N:Nat}(p:PFX)(hp:G1 p.1)(a:N=146\/N=133:=by decide):aB tbl N [.d yP p] [] aw (ua p,()):=by
 rcases a with rfl|rfl;all_goals
  refine cm ?_;refine ae (bh (b:=decide (p.2.1<=32)) (λ_=>aa rfl) ?_);refine ae (bh (b:=(Q2 p.1 p.2.1==p.1)) (λh=>?_) (aa rfl));simp only[Q_,decide_eq_true_eq]at h;first|exact aj (KL p.1 p.2.1 hp h.1 h.2) (aa rfl)|exact aj (IC p.1 p.2.1 hp h.1 h.2) (aa rfl)
def vB{N:Nat}(r:Qj)(hr:G1 r.2.1.1)(c:N=95\/N=130:=by decide):aB tbl N [.d yR r] [] ar (iW r,()):=by
 rcases c with rfl|rfl;all_goals
  refine cm ?_;first|refine aj (fQ r.2.1 hr) (au (λh=>aa ?_) λh=>?_)|refine aj (fQ r.2.1 hr) (au (λh=>aa ?_) λh=>?_)
  .unfold iW;rw[if_pos (by simpa using h)]
  .have a:¬ua r.2.1=false:=by simpa using h
   refine ae (bq (b:=decide (r.2.2.2.1<r.2.2.1)) (λ_=>aa rfl) (ae (bq (b:=decide (r.2.2.2.1>32)) (λ_=>aa rfl) ?_)));refine au (λh=>aa ?_) λh=>aa ?_;.unfold iW;rw[if_neg a,if_pos (by simpa[or_assoc]using h)]
   .unfold iW;rw[if_neg a,if_neg];intro h';simp only[j_,decide_eq_false_iff_not]at h;omega
end Go.Proofs.YtdgiglmmpbndmaaGreatDoor
namespace Go.Pl
open Go.Ev
def dx(M:Nat)(f:Nat->Bool):List Bool:=(l_ M).map f
def gP(M:Nat)(f:Nat->Bool):(dx M f).length=M:=by simp[dx]
def ub{M i:Nat}(f:Nat->Bool)(h:i<(dx M f).length):(dx M f)[i]=f i:=by simp[dx]
def iH{M:Nat}{f g:Nat->Bool}(h:∀i,i<M->f i=g i):dx M f=dx M g:=List.map_congr_left λi a=>h i (k_.1 a)
def zg{M i:Nat}(f:Nat->Bool)(b:Bool):(dx M f).set i b=dx M λj=>if j=i then b else f j:=by
 refine ag_ (by simp[dx]) λj h1 h2=>?_;have c:j<M:=by simpa[dx]using h2
 rw[List.getElem_set];by_cases e:i=j;.subst e;simp[dx]
 .have a:¬j=i:=λh=>e h.symm;simp[dx,e,a]
def Xt(M:Nat):List.replicate M false=dx M λ_=>false:=by refine ag_ (by simp[dx]) λj h1 h2=>?_;simp[dx]
def l7(g:G)(n:Int)(p:Nat):Bool:=match g.sp[p]? with
 |some q=>decide (q.1<=n)&&decide (n<=q.2)
 |none=>false
def atF(g:G)(a:Nat->Bool)(n:Int)(p:Nat):Bool:=a p&&l7 g n p
def nxF(g:G)(at_:Nat->Bool)(q:Nat):Bool:=g.pr.any λx=>at_ x.1&&decide (x.2=q)
def ZX(g:G)(s:(Nat->Bool)×(Nat->Bool))(n:Int):(Nat->Bool)×(Nat->Bool):=(nxF g (atF g s.1 n),atF g s.1 n)
def Fp(g:G)(a:List Int):(Nat->Bool)×(Nat->Bool):=a.foldl (ZX g) (λp=>decide (p∈g.fi),λ_=>false)
def JW(g:G)(a:List Int):Bool:=bif a.isEmpty then g.em else g.la.any (Fp g a).2
def JX{g:G}{f:Nat->Bool}{q:Nat}:nxF g f q=true↔∃p,f p=true/\(p,q)∈g.pr:=by unfold nxF;grind
def zb2:∀(r:Rx),eW r=true->∀o,∀q∈(di r o).sp,0<=q.1/\q.2<=4294967295:=by
 refine hU λk lo p ks s n o=>?_;obtain⟨hn,j⟩:=fe.1 n;have d:∀(l:List Rx) (a:G),(∀r∈l,r∈ks)->(∀q∈a.sp,0<=q.1/\q.2<=4294967295)->∀q∈(cK l o a).sp,0<=q.1/\q.2<=4294967295:=by intro l;induction l with|nil=>intro a _ h;exact h|cons r l f=>intro a hl h;refine f _ (λr hr=>hl r (e_ _ hr)) λq b=>?_;rcases K_.1 b with b|b;all_goals grind
 have g:∀(l:List Rx) (a:G),(∀r∈l,r∈ks)->(∀q∈a.sp,0<=q.1/\q.2<=4294967295)->∀q∈(ee l o a).sp,0<=q.1/\q.2<=4294967295:=by intro l;induction l with|nil=>intro a _ h;exact h|cons r l f=>intro a hl h;refine f _ (λr hr=>hl r (e_ _ hr)) λq b=>?_;rcases K_.1 b with b|b;all_goals grind
 have c:∀(e:Bool),∀q∈(g0 e).sp,0<=q.1/\q.2<=4294967295:=λe q b=>by simp[g0]at b
 unfold di;split;.rename_i h1;have:=hn.nW h1;intro q b;simp only[KE,D_]at b;grind
 split;.intro q b;simp only[KE,D_]at b;grind
 split;.exact g _ _ (λ_ h=>h) (c _)
 split;.exact d _ _ (λ_ h=>h) (c _)
 split;.exact d _ _ (λ_ h=>h) (c _)
 split;.exact d _ _ (λ_ h=>h) (c _)
 split;.exact d _ _ (λ_ h=>h) (c _)
 grind
open Go Go.Ev Go.Lib
def hd(t:List UInt8):Nat:=(t.headD 0).toNat
def pk(s:List UInt8)(i:Nat):Nat:=(s.getD i 0).toNat
theorem kC(s:List UInt8)(i:Nat):pk s i=hd (s.drop i):=by unfold pk hd;rw[List.headD_eq_head?_getD,List.head?_drop];rfl
theorem dC{s:List UInt8}{i:Nat}(h:pk s i≠0):i<s.length:=by apply g_;intro hn;apply h;unfold pk;rw[ah_,m_ (by omega)];rfl
theorem E5{s:List UInt8}{i:Nat}(h:i<s.length):pk s i=s[i].toNat:=by unfold pk;rw[ah_,c_ h];rfl
theorem Wv{s:List UInt8}{i:Nat}(h:¬i<s.length):pk s i=0:=by unfold pk;rw[ah_,m_ (by omega)];rfl
theorem gG{s a t:List UInt8}{i:Nat}(h:s.drop i=a++t):s.drop (i+a.length)=t:=by rw[<-List.drop_drop,h,List.drop_left]
def tf{s t:List UInt8}{b:UInt8}{i:Nat}(h:s.drop i=b::t):s.drop (i+1)=t:=gG (a:=[b]) h
theorem JH{a t:List UInt8}(h:a≠[]):hd (a++t)=hd a:=by cases a with|nil=>exact absurd rfl h|cons b a=>rfl
def dg(c:Nat):Prop:=48<=c/\c<=57
section
variable (num:Nat->Option (Int×Nat)) (s:List UInt8)
def eF(alt:Nat->Option (Rx×Nat))(i:Nat):Option (Rx×Nat):=
 if pk s i=46 then some (.mk 2 0 0 [],i+1)
 else if pk s i=33 then some (.mk 4 0 0 [],i+1)
 else if pk s i=91 then
  match num (i+1)with
  |none=>none
  |some (lo,j)=>if pk s j=45 then(match num (j+1)with
   |none=>none
   |some (a,k)=>if pk s k=93 then some (.mk 1 lo a [],k+1)else none)else none
 else if pk s i=40 then
  if pk s (i+1)=41 then some (.mk 0 0 0 [],i+2)else
  match alt (i+1)with
  |none=>none
  |some (r,j)=>if pk s j=41 then some (r,j+1)else none
 else match num i with
  |none=>none
  |some (n,j)=>some (.mk 1 n n [],j)
def yy(alt:Nat->Option (Rx×Nat))(i:Nat):Option (Rx×Nat):=
 match eF num s alt i with
 |none=>none
 |some (r,j)=>if pk s j=42 then some (.mk 5 0 0 [r],j+1)else if pk s j=43 then some (.mk 6 0 0 [r],j+1)else if pk s j=63 then some (.mk 7 0 0 [r],j+1)else some (r,j)
def ek(sep:Nat)(one:Nat->Option (Rx×Nat)):Nat->List Rx->Nat->Option (List Rx×Nat)
 |0,_,_=>none
 |f+1,acc,i=>match one i with
  |none=>none
  |some (r,j)=>if pk s j=sep then ek sep one f (acc++[r]) (j+1)else some (acc++[r],j)
def SF(k:Int)(l:List Rx):Rx:=match l with
 |[x]=>x
 |l=>.mk k 0 0 l
def sv(sep:Nat)(k:Int)(one:Nat->Option (Rx×Nat))(i:Nat):Option (Rx×Nat):=match ek s sep one (s.length+1 - i) [] i with
 |none=>none
 |some (l,j)=>some (SF k l,j)
def Tc(alt:Nat->Option (Rx×Nat))(i:Nat):Option (Rx×Nat):=sv s 32 3 (yy num s alt) i
def wX:Nat->Nat->Option (Rx×Nat)
 |0,_=>none
 |b+1,i=>sv s 124 4 (Tc num s (wX b)) i
end
structure ot(s:List UInt8)(num:Nat->Option (Int×Nat)):Prop where
 pN:∀i n j,i<=s.length->num i=some (n,j)->i<j/\j<=s.length
 txt:∀i (m:Nat) t,s.drop i=decDigits m++t->m<=4294967295->¬dg (hd t)->num i=some ((m:Int),i+(decDigits m).length)
def Qa(s:List UInt8)(one:Nat->Option (Rx×Nat)):Prop:=∀i r j,i<=s.length->one i=some (r,j)->i<j/\j<=s.length/\sz r<=j - i
section
variable {num:Nat->Option (Int×Nat)} {s:List UInt8}
theorem UZ(hn:ot s num){alt:Nat->Option (Rx×Nat)}(g:Qa s alt):Qa s (eF num s alt):=by
 intro i r j k h;unfold eF at h;have one:sz (.mk 0 0 0 [])=1:=rfl;split at h;.rename_i h1;have:=dC (s:=s) (i:=i) (by omega);cases h;refine⟨by simp,by omega,?_⟩;show 1<=_;simp
 split at h;.have:=dC (s:=s) (i:=i) (by omega);cases h;refine⟨by simp,by omega,?_⟩;show 1<=_;simp
 split at h
 .have:=dC (s:=s) (i:=i) (by omega);split at h;.grind
  rename_i lo a e;have c:=hn.pN _ _ _ (by omega) e;split at h
  .have:=dC (s:=s) (i:=a) (by omega);split at h;.grind
   rename_i p b f;have d:=hn.pN _ _ _ (by omega) f;split at h;.have:=dC (s:=s) (i:=b) (by omega);cases h;refine⟨by omega,by omega,?_⟩;show 1<=_;omega
   grind
  grind
 split at h
 .have:=dC (s:=s) (i:=i) (by omega);split at h;.have:=dC (s:=s) (i:=i+1) (by omega);grind
  split at h;.grind
  rename_i r2 a e;obtain⟨c,d,l⟩:=g _ _ _ (by omega) e;split at h;.have:=dC (s:=s) (i:=a) (by omega);grind
  grind
 split at h;.grind
 rename_i n a e;have c:=hn.pN _ _ _ k e;cases h;refine⟨by omega,by omega,?_⟩;show 1<=_;omega
theorem sX(hn:ot s num){alt:Nat->Option (Rx×Nat)}(b:Qa s alt):Qa s (yy num s alt):=by
 intro i r j c h;unfold yy at h;split at h;.grind
 rename_i r2 a e;obtain⟨d,f,g⟩:=UZ hn b _ _ _ c e;have hs:∀k:Int,sz (.mk k 0 0 [r2])=sz r2+1:=λk=>by grind[sz,sA]
 split at h;.have:=dC (s:=s) (i:=a) (by omega);grind
 split at h;.have:=dC (s:=s) (i:=a) (by omega);grind
 split at h;.have:=dC (s:=s) (i:=a) (by omega);grind
 grind
theorem Lr{one:Nat->Option (Rx×Nat)}(b:Qa s one){sep:Nat}(c:sep≠0):∀(f:Nat) (acc:List Rx) (i:Nat) (l:List Rx) (j:Nat),i<=s.length->ek s sep one f acc i=some (l,j)->
 i<j/\j<=s.length/\sA l+l.length<=sA acc+acc.length+(j - i)+1/\acc.length<l.length
 |0,_,_,_,_,_,h=>by grind[ek]
 |f+1,acc,i,l,j,d,h=>by
  rw[ek]at h;split at h;.grind
  rename_i r a e;obtain⟨g,k,n⟩:=b _ _ _ d e;have x:sA (acc++[r])=sA acc+sz r:=by simp[Kt,sA]
  split at h;.have:=dC (s:=s) (i:=a) (by omega);obtain⟨p,u,v,w⟩:=Lr b c f _ _ _ _ (by omega) h;grind
  grind
theorem Cl{one:Nat->Option (Rx×Nat)}(g:Qa s one){sep:Nat}(d:sep≠0)(k:Int):Qa s (sv s sep k one):=by
 intro i r j f h;unfold sv at h;split at h;.grind
 rename_i l a e;obtain⟨n,p,u,c⟩:=Lr g d _ _ _ _ _ f e;cases h;unfold SF;split;.grind[sA]
 .rename_i b;have:2<=l.length:=by match l,b,c with|[],_,c=>omega|[x],b,_=>grind|x::y::l,_,_=>simp
  grind[sz,sA]
theorem xA(hn:ot s num):∀b:Nat,Qa s (wX num s b)
 |0=>λi r j _ h=>by grind[wX]
 |b+1=>λi r j a h=>by rw[wX]at h;exact Cl (one:=Tc num s (wX num s b)) (λi r j a h=>Cl (one:=yy num s (wX num s b)) (sX hn (xA hn b)) (by simp) 3 i r j a h) (by simp) 4 i r j a h
end
mutual
def KD:Rx->Nat
 | .mk _ _ _ ks=>1+OD ks
def OD:List Rx->Nat
 |[]=>0
 |r::a=>max (KD r) (OD a)
end
def Co:∀{ks:List Rx} {r:Rx},r∈ks->KD r<=OD ks
 |x::ks,r,h=>by
  simp only[OD];rcases n_.1 h with rfl|h;.omega
  .have:=Co h;omega
def Vj(w:Bool)(l t:List UInt8):sd w l++t=bif w then 40::(l++41::t)else l++t:=by cases w<;>simp[sd]
def fst(c:Nat):Prop:=dg c\/c=46\/c=33\/c=91\/c=40
theorem Dp(n:Nat):decDigits n≠[]/\dg (hd (decDigits n)):=by have h:=Do n;have a:=xK n;cases e:decDigits n with|nil=>grind|cons b l=>rw[e]at a;exact⟨by simp,a b (by simp)⟩
theorem Cy:∀(r:Rx),eW r=true->pat r≠[]/\fst (hd (pat r)):=by
 refine hU λk lo v ks s n=>?_;obtain⟨hn,d⟩:=fe.1 n;have a:∀p:Int,∀x∈ks,je p x≠[]/\fst (hd (je p x)):=λp x f=>by
  obtain⟨h1,h2⟩:=s x f (d x f);unfold je sd;cases lX p x;.exact⟨h1,h2⟩
  .exact⟨by simp,.inr (.inr (.inr (.inr rfl)))⟩
 have u:∀p:Int,∀t:List UInt8,ks≠[]->(ks.map (je p)).headD []++t≠[]/\fst (hd ((ks.map (je p)).headD []++t)):=λp t h=>by cases ks with|nil=>exact absurd rfl h|cons x l=>obtain⟨h1,h2⟩:=a p x (f_ ..);simp only[r_,List.headD_cons];rw[JH h1];exact⟨by simp[h1],h2⟩
 have g:∀p:Int,∀c:UInt8,ks≠[]->jn c (ks.map (je p))≠[]/\fst (hd (jn c (ks.map (je p)))):=λp c h=>by cases ks with|nil=>exact absurd rfl h|cons x l=>obtain⟨h1,h2⟩:=a p x (f_ ..);cases l with|nil=>exact⟨h1,h2⟩|cons y l=>simp only[r_,jn];rw[JH h1];exact⟨by simp[h1],h2⟩
 have j:(k=5\/k=6\/k=7)->ks≠[]:=λh e=>by have:=hn.one h;rw[e]at this;simp at this
 have b:k=3->ks≠[]:=λh e=>by have:=hn.seq h;rw[e]at this;simp at this
 simp only[pat,dS];split;.exact⟨by simp,.inr (.inr (.inr (.inr rfl)))⟩
 split;.exact⟨by simp,.inr (.inl rfl)⟩
 split
 .split;.exact⟨(Dp _).1,.inl (Dp _).2⟩
  .exact⟨by simp,.inr (.inr (.inr (.inl rfl)))⟩
 split;.grind
 split;.grind
 split;.grind
 split
 .split;.exact⟨by simp,.inr (.inr (.inl rfl))⟩
  grind
 .rcases hn.known with h|h|h|h|h|h|h|h<;>try exact absurd h (by assumption)
  exact g 3 32 (b h)
def comp:Rx->Bool
 | .mk k _ _ ks=>bif k==4 then !ks.isEmpty else(k==3||k==5||k==6||k==7)
def Dl:Rx->Bool
 | .mk k _ _ ks=>bif k==4 then !ks.isEmpty else k==3
def Dn:Rx->Bool
 | .mk k _ _ ks=>bif k==4 then !ks.isEmpty else false
section
variable {num:Nat->Option (Int×Nat)} {s:List UInt8}
theorem Qr(hn:ot s num){alt:Nat->Option (Rx×Nat)}{r:Rx}(j:eW r=true) (l:comp r=true->∀i t,s.drop i=pat r++t->(hd t=0\/hd t=41)->alt i=some (r,i+(pat r).length)) {i:Nat} {t:List UInt8} (h:s.drop i=sd (comp r) (pat r)++t) (n:¬dg (hd t)):eF num s alt i=some (r,i+(sd (comp r) (pat r)).length):=by
 cases hc:comp r with
 |true=>
  rw[hc,Vj]at h;have h:s.drop i=40::(pat r++41::t):=h;have a:pk s i=40:=by rw[kC,h];rfl
  have h1:=tf h;obtain⟨y,f2⟩:=Cy r j;have d:pk s (i+1)≠41:=by grind[kC,JH,fst,dg]
  have h2:=l hc (i+1) (41::t) h1 (.inr rfl);have f:pk s (i+1+(pat r).length)=41:=by rw[kC,gG h1];rfl
  unfold eF;rw[if_neg (by omega),if_neg (by omega),if_neg (by omega),if_pos a,if_neg d,h2];simp only;rw[if_pos f];grind[sd]
 |false=>
  rw[hc]at h;have h:s.drop i=pat r++t:=h;show _=some (r,i+(pat r).length);obtain⟨k,lo,b,ks⟩:=r;obtain⟨nd,p⟩:=fe.1 j;rcases nd.known with rfl|rfl|rfl|rfl|rfl|rfl|rfl|rfl
  .have e:=len_nil (nd.leaf (by simp));subst e;obtain⟨rfl,rfl⟩:=nd.zero (by simp);have h:s.drop i=40::41::t:=h;have a:pk s i=40:=by rw[kC,h];rfl
   have d:pk s (i+1)=41:=by rw[kC,tf h];rfl
   unfold eF;rw[if_neg (by omega),if_neg (by omega),if_neg (by omega),if_pos a,if_pos d];rfl
  .have e:=len_nil (nd.leaf (by simp));subst e;obtain⟨r1,r2,r3⟩:=nd.nW rfl;by_cases hl:lo=b
   .subst hl;have c:pat (.mk 1 lo lo [])=decDigits lo.toNat:=by simp[pat]
    rw[c]at h⊢;obtain⟨d1,x⟩:=Dp lo.toNat;have a:dg (pk s i):=by grind[kC,JH]
    unfold dg at a;have z:=hn.txt i lo.toNat t h (by omega) n;grind[eF]
   .have c:pat (.mk 1 lo b [])=91::(decDigits lo.toNat++45::(decDigits b.toNat++[93])):=by grind[pat]
    rw[c]at h⊢;have h:s.drop i=91::(decDigits lo.toNat++45::(decDigits b.toNat++93::t)):=by grind
    have a:pk s i=91:=by rw[kC,h];rfl
    have h1:=tf h;have u:=hn.txt _ lo.toNat _ h1 (by omega) (by show ¬dg 45;simp[dg]);have h2:=gG h1;have f:pk s (i+1+(decDigits lo.toNat).length)=45:=by rw[kC,h2];rfl
    have g:=tf h2;have v:=hn.txt _ b.toNat _ g (by omega) (by show ¬dg 93;simp[dg]);have w:pk s (i+1+(decDigits lo.toNat).length+1+(decDigits b.toNat).length)=93:=by rw[kC,gG g];rfl
    unfold eF;rw[if_neg (by omega),if_neg (by omega),if_pos a,u];simp only;rw[if_pos f,v];simp only;rw[if_pos w,X_ r1,X_ (by omega)];simp;omega
  .have e:=len_nil (nd.leaf (by simp));subst e;obtain⟨rfl,rfl⟩:=nd.zero (by simp);have h:s.drop i=46::t:=h;have a:pk s i=46:=by rw[kC,h];rfl
   unfold eF;rw[if_pos a];rfl
  .grind[absurd,comp]
  .obtain⟨rfl,rfl⟩:=nd.zero (by simp);have e:ks=[]:=by grind[comp]
   subst e;have h:s.drop i=33::t:=by grind[pat]
   have a:pk s i=33:=by rw[kC,h];rfl
   unfold eF;rw[if_neg (by omega),if_pos a];simp[pat]
  all_goals grind[absurd,comp]
def f2(c:Nat):Prop:=c=0\/c=41\/c=124\/c=32
def TY(s:List UInt8)(alt:Nat->Option (Rx×Nat))(b:Nat):Prop:=∀r,eW r=true->KD r<=b->∀i t,s.drop i=pat r++t->(hd t=0\/hd t=41)->alt i=some (r,i+(pat r).length)
theorem Q1(hn:ot s num){alt:Nat->Option (Rx×Nat)}{b:Nat}(z:TY s alt b){r:Rx}(w:eW r=true)(F:KD r<=b+1)(j:Dl r=true->KD r<=b){i:Nat}{t:List UInt8} (h:s.drop i=je 3 r++t) (H:f2 (hd t)):yy num s alt i=some (r,i+(je 3 r).length):=by
 obtain⟨k,lo,f,ks⟩:=r;obtain⟨nd,d⟩:=fe.1 w;have u:¬dg (hd t):=by grind[f2,dg]
 by_cases A:k=5\/k=6\/k=7
 .obtain⟨x,rfl⟩:=ku (nd.one A);obtain⟨rfl,rfl⟩:=nd.zero (by omega);have y:x∈[x]:=f_ ..;have B:=Co y;have n:KD x<=b:=by grind[KD]
  have C:∀p:Int,(p=5\/p=6\/p=7)->je p x=sd (comp x) (pat x):=λp hp=>by
   obtain⟨a,_,_,l⟩:=x;unfold je;have:((p==5||p==6)||p==7)=true:=by grind
   simp only[lX,comp,this,Bool.and_true];have E:(p != 4)=true:=by grind
   grind
  have v:∃c:UInt8,je 3 (.mk k 0 0 [x])=sd (comp x) (pat x)++[c]/\(c.toNat=42/\k=5\/c.toNat=43/\k=6\/c.toNat=63/\k=7):=by
   rcases A with rfl|rfl|rfl;.refine⟨42,?_,by simp⟩;show pat (.mk 5 0 0 [x])=_;grind[pat,dS]
   .refine⟨43,?_,by simp⟩;show pat (.mk 6 0 0 [x])=_;grind[pat,dS]
   .refine⟨63,?_,by simp⟩;show pat (.mk 7 0 0 [x])=_;grind[pat,dS]
  obtain⟨c,e,hc⟩:=v;rw[e]at h⊢;have h:s.drop i=sd (comp x) (pat x)++c::t:=by grind
  have g:=Qr hn (d x y) (λ_=>z x (d x y) n) h (by show ¬dg c.toNat;grind[dg]);have I:pk s (i+(sd (comp x) (pat x)).length)=c.toNat:=by rw[kC,gG h];rfl
  grind[yy]
 .have e:je 3 (.mk k lo f ks)=sd (comp (.mk k lo f ks)) (pat (.mk k lo f ks)):=by grind[je,lX,comp]
  have D:comp (.mk k lo f ks)=Dl (.mk k lo f ks):=by grind[comp,Dl]
  rw[e]at h⊢;have g:=Qr hn w (λhc=>z _ w (j (by grind))) h u;grind[pk,sd,comp,pat,hd,kC,gG,yy,f2]
theorem JU{one:Nat->Option (Rx×Nat)}{f:Rx->List UInt8}{sep:UInt8}{E:Nat->Prop}:∀(ks:List Rx),ks≠[]->
 (∀x∈ks,∀i t,s.drop i=f x++t->(E (hd t)\/hd t=sep.toNat)->one i=some (x,i+(f x).length))->
 (∀x∈ks,f x≠[])->∀(a:Nat) (acc:List Rx) (i:Nat) (t:List UInt8),s.drop i=jn sep (ks.map f)++t->E (hd t)->hd t≠sep.toNat->s.length+1<=a+i->i<=s.length->
 ek s sep.toNat one a acc i=some (acc++ks,i+(jn sep (ks.map f)).length)
 |[],h,_,_,_,_,_,_,_,_,_,_,_=>absurd rfl h
 |[x],_,c,b,a,acc,i,t,h,d,hs,j,k=>by
  have h:s.drop i=f x++t:=h;have h1:=c x (by simp) i t h (.inl d);obtain⟨m,rfl⟩:∃m,a=m+1:=⟨a - 1,by omega⟩;have g:pk s (i+(f x).length)=hd t:=by rw[kC,gG h]
  rw[ek,h1];simp only;rw[if_neg (by omega)];rfl
 |x::y::ks,_,c,b,a,acc,i,t,h,d,hs,j,k=>by
  have h:s.drop i=f x++sep::(jn sep ((y::ks).map f)++t):=by grind[jn]
  have h1:=c x (by simp) i _ h (.inr rfl);obtain⟨m,rfl⟩:∃m,a=m+1:=⟨a - 1,by omega⟩;have h2:=gG h;have g:pk s (i+(f x).length)=sep.toNat:=by rw[kC,h2];rfl
  have l:i+(f x).length<s.length:=by apply g_;grind[v_]
  have:=JU (y::ks) (by simp) (λz e=>c z (e_ _ e)) (λz e=>b z (e_ _ e)) m (acc++[x]) (i+(f x).length+1) t (tf h2) d hs (by omega) (by omega);rw[ek,h1];simp only;rw[if_pos g,this];grind[jn]
theorem qi{k:Int}{l:List Rx}(h:l.length≠1):SF k l= .mk k 0 0 l:=by
 unfold SF;split;.simp at h
 .rfl
theorem seq_ok(hn:ot s num){alt:Nat->Option (Rx×Nat)}{b:Nat}(p:TY s alt b){r:Rx}(u:eW r=true)(v:KD r<=b+1)(w:Dn r=true->KD r<=b){i:Nat}{t:List UInt8} (h:s.drop i=je 4 r++t) (y:hd t=0\/hd t=41\/hd t=124) (z:i<=s.length):Tc num s alt i=some (r,i+(je 4 r).length):=by
 obtain⟨k,lo,d,ks⟩:=r;obtain⟨nd,l⟩:=fe.1 u;unfold Tc sv;by_cases A:k=3
 .subst A;obtain⟨rfl,rfl⟩:=nd.zero (by simp);have h2:2<=(ks.length:Int):=nd.seq rfl;have e:je 4 (.mk 3 0 0 ks)=jn 32 (ks.map (je 3)):=by show pat (.mk 3 0 0 ks)=_;simp[pat,dS]
  rw[e]at h⊢;have j:∀x∈ks,KD x<=b:=λx a=>by have:=Co a;grind[KD]
  have n:ks≠[]:=by grind
  have:=JU (one:=yy num s alt) (f:=je 3) (sep:=32) (E:=λc=>c=0\/c=41\/c=124) ks n (λx a i t g hc=>Q1 hn p (l x a) (by grind) (λ_=>j x a) g (by
   grind[f2])) (λx a=>by
   grind[je,sd,lX,Cy]) (s.length+1 - i) [] i t h y (by
   grind) (by omega) z
  grind[ek,yy,qi]
 .have e:je 4 (.mk k lo d ks)=je 3 (.mk k lo d ks):=by grind[je,lX]
  have C:Dl (.mk k lo d ks)=Dn (.mk k lo d ks):=by grind[Dl,Dn]
  rw[e]at h⊢;have D:pk s (i+(je 3 (.mk k lo d ks)).length)=hd t:=by rw[kC,gG h]
  obtain⟨m,B⟩:∃m,s.length+1 - i=m+1:=⟨s.length - i,by omega⟩;rw[B,ek,(Q1 hn p u v (by grind) h (by grind[f2]))];simp only;rw[if_neg (by omega)];simp[SF]
theorem Cp{a t:List UInt8}{i:Nat}(h:s.drop i=a++t)(b:a≠[]):i<s.length:=by apply g_;grind[v_,List.append_eq_nil_iff]
theorem VE(p:Int){x:Rx}(a:eW x=true):je p x≠[]:=by
 unfold je sd;cases lX p x;.exact(Cy x a).1
 .simp
theorem UT(hn:ot s num):∀b:Nat,TY s (wX num s b) b
 |0=>λr _ u=>by cases r;grind[KD]
 |b+1=>λr n u i t h y=>by
  have v:=Cp h (Cy r n).1;have p:=UT hn b;rw[wX];unfold sv;cases hc:Dn r with
  |true=>
   obtain⟨k,lo,B,ks⟩:=r;obtain⟨nd,a⟩:=fe.1 n;have z:k=4:=by grind[Dn]
   subst z;obtain⟨rfl,rfl⟩:=nd.zero (by simp);have l:ks≠[]:=by grind[Dn]
   have h1:(ks.length:Int)≠1:=nd.alt rfl;have e:pat (.mk 4 0 0 ks)=jn 124 (ks.map (je 4)):=by grind[pat,dS]
   rw[e]at h⊢;have j:∀x∈ks,KD x<=b:=λx d=>by have:=Co d;grind[KD]
   have:=JU (one:=Tc num s (wX num s b)) (f:=je 4) (sep:=124) (E:=λc=>c=0\/c=41) ks l (λx d i t g hc=>seq_ok hn p (a x d) (by grind) (λ_=>j x d) g (by
    grind) (L_ (Cp g (VE 4 (a x d))))) (λx d=>VE 4 (a x d)) (s.length+1 - i) [] i t h y (by
    grind) (by omega) (L_ v)
   grind[ek,Tc,wX,qi]
  |false=>
   have e:pat r=je 4 r:=by
    obtain⟨k,lo,B,ks⟩:=r;unfold je;simp only[lX];simp only[Dn]at hc;cases w:(k==4);.simp[sd]
    .rw[w]at hc;simp only[cond_true]at hc;simp only[cond_true,hc];rfl
   rw[e]at h⊢;have h1:=seq_ok hn p n u (λh=>by grind) h (by omega) (L_ v);have C:pk s (i+(je 4 r).length)=hd t:=by rw[kC,gG h]
   obtain⟨m,A⟩:∃m,s.length+1 - i=m+1:=⟨s.length - i,by omega⟩;rw[A,ek,h1];simp only;rw[if_neg (by omega)];simp[SF]
end
def Yn:∀(r:Rx) (lv c:Int),(s8 r lv c).2=0->lv+(KD r:Int)<=17:=by
 refine hU λk lo f ks d lv c h=>?_;rw[s8]at h;split at h;.omega
 split at h;.omega
 split at h;.omega
 have a:∀(l:List Rx),(∀r∈l,r∈ks)->∀(c:Int),(fG l (lv+1) c).2=0->lv+1+(OD l:Int)<=17:=by
  intro l;induction l with
  |nil=>grind[OD]|cons r l e=>
   intro b c h;rw[fG]at h;split at h;.omega
   .grind[OD]
 grind[KD]
theorem Te{num:Nat->Option (Int×Nat)}{r:Rx}(hn:ot (pat r) num)(c:eW r=true){b:Nat}(a:KD r<=b):wX num (pat r) b 0=some (r,(pat r).length):=by have:=UT hn b r c a 0 [] (by simp) (.inl rfl);grind
end Go.Pl
set_option maxRecDepth 100000
namespace Go.Proofs.YtdgiglmmpbndmaaGreatDoor
open Z
open Go Go.Av Go.Ev Go.Pl
def IJ(k n:Int):aB tbl 289 [.d tI k,.d tI n] [] rH (pD k,fM k n,()):=by
 refine cm ?_;by_cases h:k=0;.subst h;exact cO (λ_=>rfl) rfl
 by_cases h1:k=1;.subst h1;exact cO (λ_=>rfl) rfl
 by_cases h2:k=2;.subst h2;exact cO (λ_=>rfl) rfl
 by_cases j:k=3;.subst j;exact cO (λ_=>rfl) rfl
 by_cases l:k=4;.subst l;exact cO (λ_=>rfl) rfl
 by_cases p:k=5;.subst p;exact cO (λ_=>rfl) rfl
 by_cases r:k=6;.subst r;exact cO (λ_=>rfl) rfl
 by_cases s:k=7;.subst s;exact cO (λ_=>rfl) rfl
 have e0:(k==(0:Int))=false:=by grind
 have a:(k==(1:Int))=false:=by grind
 have b:(k==(2:Int))=false:=by grind
 have c:(k==(3:Int))=false:=by grind
 have d:(k==(4:Int))=false:=by grind
 have e:(k==(5:Int))=false:=by grind
 have f:(k==(6:Int))=false:=by grind
 have g:(k==(7:Int))=false:=by grind
 simp only[e0,a,b,c,d,e,f,g];refine cO (λ_=>rfl) ?_;grind[pD,fM]
def IK(r:Rx):aB tbl 264 [.d .rx r] [] ar (kz r.out.1 r.out.2.1 r.out.2.2.1 (r.out.2.2.2.1.length:Int),()):=by
 refine cm ?_;generalize r.out.1=k;generalize r.out.2.1=lo;generalize r.out.2.2.1=b;generalize(r.out.2.2.2.1.length:Int)=n;refine aj (IJ k n) ?_;unfold kz;cases pD k;.exact cO (λ_=>rfl) rfl
 cases c:(k==(1:Int))
 .have a:(k != (1:Int))=true:=by grind
  rw[a];cases(lo != (0:Int))<;>cases(b != (0:Int))<;>cases fM k n<;>exact cO (λ_=>rfl) rfl
 .have a:(k != (1:Int))=false:=by grind
  rw[a];cases decide (lo<(0:Int))<;>cases decide (lo>b)<;>cases decide (b>(4294967295:Int))<;>cases fM k n<;>exact cO (λ_=>rfl) rfl
def S6(k lo a:Int)(n:Int)(hn:0<=n):kz k lo a n= bif k==1 then(bif decide (lo<0)||decide (lo>a)||decide (a>4294967295)then 5 else bif decide (n>0)then 1 else 0) else bif !pD k then 15 else bif !fM k n then 1 else bif lo != 0||a != 0 then 1 else 0:=by
 unfold kz;cases c:(k==(1:Int));.grind
 .have b:k=1:=by grind
  subst b;have:fM 1 n= !decide (n>0):=by show(n==0)=_;grind
  rw[this];cases decide (lo<(0:Int))<;>cases decide (lo>a)<;>cases decide (a>(4294967295:Int))<;>cases decide (n>0)<;>rfl
def CW(r:Rx):aB tbl 252 [.d .rx r] [] ar (kz r.out.1 r.out.2.1 r.out.2.2.1 (r.out.2.2.2.1.length:Int),()):=by
 refine cm ?_;have hn:(0:Int)<=(r.out.2.2.2.1.length:Int):=by simp
 generalize(r.out.2.2.2.1.length:Int)=n at hn;rw[S6 _ _ _ _ hn];generalize r.out.1=k;generalize r.out.2.1=lo;generalize r.out.2.2.1=a;by_cases h1:k=1;.subst h1;cases decide (lo<(0:Int))<;>cases decide (lo>a)<;>cases decide (a>(4294967295:Int))<;>cases decide (n>0)<;>exact cO (λ_=>rfl) rfl
 have d:(k==(1:Int))=false:=by grind
 rw[d];have c:∀m:Int,0<=m->(m==0)= !decide (m>0):=λm y=>by grind
 by_cases p:k=0;.subst p;rw[show fM 0 n= !decide (n>0)from c n hn];cases decide (n>0)<;>cases(lo != (0:Int))<;>cases(a != (0:Int))<;>exact cO (λ_=>rfl) rfl
 by_cases h2:k=2;.subst h2;rw[show fM 2 n= !decide (n>0)from c n hn];cases decide (n>0)<;>cases(lo != (0:Int))<;>cases(a != (0:Int))<;>exact cO (λ_=>rfl) rfl
 by_cases s:k=3
 .subst s;have:fM 3 n= !decide (n<2):=by show decide (n>=2)=_;grind
  rw[this];cases decide (n<2)<;>cases(lo != (0:Int))<;>cases(a != (0:Int))<;>exact cO (λ_=>rfl) rfl
 by_cases u:k=4;.subst u;have:fM 4 n= !(n==1):=rfl;rw[this];cases(n==(1:Int))<;>cases(lo != (0:Int))<;>cases(a != (0:Int))<;>exact cO (λ_=>rfl) rfl
 have b:∀m:Int,(m==1)= !(m != 1):=λm=>by grind
 by_cases v:k=5;.subst v;rw[show fM 5 n= !(n != 1)from b n];cases(n != (1:Int))<;>cases(lo != (0:Int))<;>cases(a != (0:Int))<;>exact cO (λ_=>rfl) rfl
 by_cases w:k=6;.subst w;rw[show fM 6 n= !(n != 1)from b n];cases(n != (1:Int))<;>cases(lo != (0:Int))<;>cases(a != (0:Int))<;>exact cO (λ_=>rfl) rfl
 by_cases x:k=7;.subst x;rw[show fM 7 n= !(n != 1)from b n];cases(n != (1:Int))<;>cases(lo != (0:Int))<;>cases(a != (0:Int))<;>exact cO (λ_=>rfl) rfl
 have e0:(k==(0:Int))=false:=by grind
 have e:(k==(2:Int))=false:=by grind
 have f:(k==(3:Int))=false:=by grind
 have g:(k==(4:Int))=false:=by grind
 have h:(k==(5:Int))=false:=by grind
 have j:(k==(6:Int))=false:=by grind
 have l:(k==(7:Int))=false:=by grind
 simp only[pD,e0,d,e,f,g,h,j,l];exact cO (λ_=>rfl) rfl
def Fq{k lo a:Int}{ks:List Rx}{M:Nat}(h:sz (.mk k lo a ks)<=M):ks.length<M/\∀r∈ks,sz r<M:=by simp only[sz]at h;have h1:=za ks;exact⟨by omega,λr hr=>by have:=mO hr;omega⟩
def ut{ks:List Rx}{lv c:Int}:∀{i:Nat},(h:i<ks.length)->(fG (ks.take i) lv c).2=0->fG (ks.take (i+1)) lv c=(let p:=s8 ks[i] lv (fG (ks.take i) lv c).1;(p.1,p.2)):=by intro i;induction ks generalizing c i with|nil=>simp|cons r ks a=>cases i with|zero=>grind[fG]|succ i=>grind[fG]
def xH{lv:Int}:∀{ks:List Rx} {c:Int} {i:Nat},(fG (ks.take i) lv c).2≠0->fG ks lv c=fG (ks.take i) lv c:=by intro ks;induction ks with|nil=>simp|cons r ks a=>intro c i h;cases i with|zero=>grind[fG]|succ i=>grind[fG]
def zQ:∀(r:Rx) (lv c:Int),0<=c->c<=64->c<=(s8 r lv c).1/\(s8 r lv c).1<=64:=by
 refine hU λk lo e ks d lv c a h1=>?_;have hs:∀(l:List Rx) (lv c:Int),(∀r∈l,r∈ks)->0<=c->c<=64->c<=(fG l lv c).1/\(fG l lv c).1<=64:=by intro l;induction l with|nil=>intro lv c _ a h1;exact⟨aq_ _,h1⟩|cons r l b=>grind[fG]
 grind[s8]
def FU:∀(r:Rx),sz r<=1048576->∀(lv c:Int),0<=lv->lv<=17->0<=c->c<=64->aB tbl 245 [.d .rx r,.d tI lv,.d tI c] [] dE ((s8 r lv c).1,(s8 r lv c).2,()):=by
 refine hU λk lo f ks z hs lv c x y v w=>?_;obtain⟨l,j⟩:=Fq hs;refine cm ?_;refine au (λh=>aa ?_) λh=>?_
 .have h:lv>16:=by grind
  simp only[s8,if_pos h]
 have h1:¬lv>16:=by grind
 refine au (λh=>aa ?_) λh=>?_
 .have h:c>=64:=by grind
  simp only[s8,if_neg h1,if_pos h]
 have h2:¬c>=64:=by grind
 refine aj (CW _) ?_;show Wp _ _;refine au (λh=>aa ?_) λh=>?_
 .have h:kz k lo f ks.length≠0:=by have h:(kz k lo f ks.length != 0)=true:=h;grind
  simp only[s8,if_neg h1,if_neg h2,if_pos h];rfl
 have u:¬kz k lo f ks.length≠0:=by have h:(kz k lo f ks.length != 0)=false:=h;grind
 have n:s8 (.mk k lo f ks) lv c=fG ks (lv+1) (c+1):=by simp only[s8,if_neg h1,if_neg h2,if_neg u]
 rw[n,wrap_i64];have a:∀i,(fG (ks.take i) (lv+1) (c+1)).2=0->0<=(fG (ks.take i) (lv+1) (c+1)).1/\(fG (ks.take i) (lv+1) (c+1)).1<=64:=by
  intro i;induction i with
  |zero=>intro _;simp[fG];omega|succ i g=>
   intro p;by_cases b:i<ks.length
   .have d:(fG (ks.take i) (lv+1) (c+1)).2=0:=g_ λhn=>by have:=xH (ks:=ks.take (i+1)) (lv:=lv+1) (c:=c+1) (i:=i) (by grind);grind
    rw[ut b d];have hr:=g d;have:=zQ ks[i] (lv+1) _ hr.1 hr.2;grind
   .rw[show ks.take (i+1)=ks.take i by rw[h_ (by omega),h_ (by omega)]]at p⊢;omega
 refine ae (aK (N:=ks.length) (I:=λi s=>s=((fG (ks.take i) (lv+1) (c+1)).1,(i:Int),())/\(fG (ks.take i) (lv+1) (c+1)).2=0) (by rw[wrap_i64];simp[fG]) (λi s b hs=>?_) λs hs=>?_)
 .obtain⟨rfl,d⟩:=hs;dsimp only;refine aQ b (aA b ?_);rw[cV];have e:=a i d;refine aj (z ks[i] (a_ b) (by grind) (lv+1) _ (by omega) (by omega) e.1 e.2) ?_;have ht:=ut b d;refine au (λh=>aa ?_) λh=>aa ?_
  .have hn:(s8 ks[i] (lv+1) (fG (ks.take i) (lv+1) (c+1)).1).2≠0:=by grind
   have A:=xH (ks:=ks) (lv:=lv+1) (c:=c+1) (i:=i+1) (by grind);refine aa ?_;grind
  .have hn:(s8 ks[i] (lv+1) (fG (ks.take i) (lv+1) (c+1)).1).2=0:=by grind
   refine⟨?_,by grind⟩;rw[ak b,ht]
 .obtain⟨rfl,d⟩:=hs;refine aJ (aa (aa ?_));grind
def F7:∀(r:Rx),sz r<=1048576->∀(lv c:Int),0<=lv->lv<=17->0<=c->c<=64->∃s:Int,((s8 r lv c).2=0->s=(s8 r lv c).1)/\aB tbl 233 [.d .rx r,.d tI lv,.ptr 0 0] [.box 3 [.d tI c]] fE ((s8 r lv c).2,s,()):=by
 refine hU λk lo b ks B hs lv c y z v w=>?_;obtain⟨n,l⟩:=Fq hs;suffices h:∃x:Int×Int×Unit,(x.1=(s8 (.mk k lo b ks) lv c).2/\((s8 (.mk k lo b ks) lv c).2=0->x.2.1=(s8 (.mk k lo b ks) lv c).1))/\aB tbl 233 [.d .rx (.mk k lo b ks),.d tI lv,.ptr 0 0] [.box 3 [.d tI c]] fE x by grind
 refine KB (sh:=fE) ?_;refine au (λh=>aa ⟨_,rfl,?_⟩) λh=>?_
 .have h:lv>16:=by grind
  simp only[s8,if_pos h];simp
 have h1:¬lv>16:=by grind
 refine au (λh=>aa ⟨_,rfl,?_⟩) λh=>?_
 .have h:c>=64:=by grind
  simp only[s8,if_neg h1,if_pos h];simp
 have h2:¬c>=64:=by grind
 refine aj (IK _) ?_;show Wp _ _;refine au (λh=>aa ⟨_,rfl,?_⟩) λh=>?_
 .have h:kz k lo b ks.length≠0:=by have h:(kz k lo b ks.length != 0)=true:=h;grind
  simp only[s8,if_neg h1,if_neg h2,if_pos h];exact⟨rfl,λh'=>absurd h' h⟩
 have u:¬kz k lo b ks.length≠0:=by have h:(kz k lo b ks.length != 0)=false:=h;grind
 have p:s8 (.mk k lo b ks) lv c=fG ks (lv+1) (c+1):=by simp only[s8,if_neg h1,if_neg h2,if_neg u]
 rw[p,wrap_i64];have a:∀i,(fG (ks.take i) (lv+1) (c+1)).2=0->0<=(fG (ks.take i) (lv+1) (c+1)).1/\(fG (ks.take i) (lv+1) (c+1)).1<=64:=by
  intro i;induction i with
  |zero=>grind[fG]|succ i j=>
   intro C;by_cases d:i<ks.length
   .have e:(fG (ks.take i) (lv+1) (c+1)).2=0:=g_ λhn=>by have:=xH (ks:=ks.take (i+1)) (lv:=lv+1) (c:=c+1) (i:=i) (by grind);grind
    rw[ut d e];have hr:=j e;have:=zQ ks[i] (lv+1) _ hr.1 hr.2;grind
   grind[h_]
 refine ae (aK (N:=ks.length) (I:=λi s=>s=((i:Int),(fG (ks.take i) (lv+1) (c+1)).1,())/\(fG (ks.take i) (lv+1) (c+1)).2=0) (by grind[wrap_i64,fG]) (λi s d hs=>?_) λs hs=>?_)
 .obtain⟨rfl,e⟩:=hs;dsimp only;refine aQ d (aA d ?_);rw[cV];have hr:=a_ d;have f:=a i e;obtain⟨s,A,g⟩:=B ks[i] hr (by grind) (lv+1) _ (by omega) (by omega) f.1 f.2;refine aj g ?_;have ht:=ut d e;refine au (λh=>aa ?_) λh=>aa ?_
  .have hn:(s8 ks[i] (lv+1) (fG (ks.take i) (lv+1) (c+1)).1).2≠0:=by grind
   have D:=xH (ks:=ks) (lv:=lv+1) (c:=c+1) (i:=i+1) (by grind);refine aa ⟨_,rfl,?_⟩;grind
  grind[s8,fG,ak]
 .obtain⟨rfl,e⟩:=hs;dsimp only;refine aJ (aa (aa ⟨_,rfl,?_⟩));grind
def eO(r:Rx):Int:=(s8 r 1 0).2
def pd(r:Rx)(hs:sz r<=1048576):aB tbl 207 [.d .rx r] [] ar (eO r,()):=by refine cm ?_;exact aj (FU r hs 1 0 (by simp) (by simp) (by simp) (by simp)) (aa rfl)
def pf(r:Rx)(hs:sz r<=1048576):aB tbl 200 [.d .rx r] [] ar (eO r,()):=by refine cm ?_;obtain⟨s,_,h⟩:=F7 r hs 1 0 (by simp) (by simp) (by simp) (by simp);exact aj h (aa rfl)
def U9:∀(r:Rx) (lv c:Int),(s8 r lv c).2=0->eW r=true/\(s8 r lv c).1=c+(sz r:Int):=by
 refine hU λk lo d ks b lv c h=>?_;have hs:∀(l:List Rx) (lv c:Int),(∀r∈l,r∈ks)->(fG l lv c).2=0->(∀r∈l,eW r=true)/\(fG l lv c).1=c+(sA l:Int):=by
  intro l;induction l with
  |nil=>simp[fG,sA]|cons r l a=>
   intro lv c hl h;simp only[fG]at h⊢;split at h;.omega
   .grind[sA]
 simp only[s8]at h⊢;split at h;.omega
 split at h;.omega
 split at h;.omega
 .grind[fe,EP,sz]
def kS{r:Rx}(h:eO r=0):eW r=true/\sz r<=64:=by obtain⟨h1,h2⟩:=U9 r 1 0 h;have:=zQ r 1 0 (by simp) (by simp);grind
def pO:∀(r:Rx),sz r<=1000000->aB tbl 216 [.d .rx r] [] aw (NS r,()):=by
 refine hU λk lo z ks y hs=>?_;obtain⟨e,d⟩:=Fq hs;refine cm ?_;refine ae (aK (N:=ks.length) (I:=λi s=>s=(vt (ks.take i),qp (ks.take i),(i:Int),())) (by simp[vt,qp]) (λi s c hs=>?_) λs hs=>?_);.subst hs;refine aQ c (aA c ?_);rw[cV];refine aj (y ks[i] (a_ c) (by grind)) ?_;refine ae (bq (b:=NS ks[i]) (λ_=>aa rfl) (ae (bh (b:=NS ks[i]) (λ_=>aa rfl) (aa ?_))));grind[vt,NS,G_,c_,MG,qp,MF,ak]
 .subst hs;refine aJ (aa ?_);rw[u_];have hn:NS (.mk k lo z ks)=bif k==0||k==5||k==7 then true else bif k==3||k==6 then qp ks else bif k==4 then vt ks else false:=rfl;by_cases n:k=0;.subst n;exact cO (λ_=>rfl) rfl
  by_cases v:k=5;.subst v;exact cO (λ_=>rfl) rfl
  by_cases x:k=7;.subst x;exact cO (λ_=>rfl) rfl
  by_cases p:k=3;.subst p;exact cO (λ_=>rfl) rfl
  by_cases w:k=6;.subst w;exact cO (λ_=>rfl) rfl
  by_cases u:k=4;.subst u;exact cO (λ_=>rfl) rfl
  have e0:(k==(0:Int))=false:=by grind
  have f:(k==(3:Int))=false:=by grind
  have g:(k==(4:Int))=false:=by grind
  have h:(k==(5:Int))=false:=by grind
  have j:(k==(6:Int))=false:=by grind
  have l:(k==(7:Int))=false:=by grind
  refine cO (a:=some (fW aw (false,()))) (λ_=>?_) ?_;.show i_ (bif (k==(0:Int))then some (((k==(0:Int)),()))else bif (k==(5:Int))then some (((k==(5:Int)),()))else some (((k==(7:Int)),()))) (λA=>bif A.1 then pL aw (true,())else i_ (bif (k==(3:Int))then some (((k==(3:Int)),()))else some (((k==(6:Int)),()))) λB=>bif B.1 then pL aw (qp ks,())else bif (k==(4:Int))then pL aw (vt ks,())else pL aw (false,()))=_;rw[e0,h,l,f,j,g];rfl
  grind
open Go Go.Av Go.Ev Go.Pl Go.Lib
def ZZ{n:Int}(c:0<=n)(h1:n<=4294967295):aB tbl 265 [.d tI n] [] aV (decDigits n.toNat,()):=by
 refine Ss FC ?_ rfl;have a:YH n=true:=by simp only[YH,Q_,decide_eq_true_eq];omega
 have b:Lib.itoa n=decDigits n.toNat:=by grind[Lib.itoa]
 simp only[uH,a,b];rfl
def zq{n:Int}(a:0<=n)(h1:n<=4294967295):aB tbl 234 [.d tI n] [] aV (decDigits n.toNat,()):=by refine cm ?_;exact aj (ZZ a h1) (aa rfl)
def T4:∀(n:Nat) (m:Int),m=(n:Int)->n<=4294967295->aB tbl 274 [.d tQ m] [] aV (decDigits n,()):=by
 intro n;induction n using Nat.strongRecOn with
 |ind n h=>
  intro m g hn;subst g;refine cm ?_;have c:b_ .u8 (b_ .u64 ((48:Int)+(Int.tmod (n:Int) (10:Int))))=((48+n%10:Nat):Int):=by grind[wrap_u8,wrap_u64,Int.tmod_eq_emod_of_nonneg]
  refine ao rfl ?_;refine au (λf=>?_) (λe=>?_)
  .have a:n<10:=by grind
   refine aa ?_;have:decDigits n=[UInt8.ofNat (48+n)]:=by rw[decDigits,dif_pos a]
   grind
  .have b:10<=n:=by grind
   have d:b_ .u64 (Int.tdiv (n:Int) 10)=((n/10:Nat):Int):=by grind[wrap_u64,M_]
   have hl:=jt (show n/10<=4294967295 by omega);refine ao rfl (aj (h (n/10) (by omega) _ d (by omega)) (ao ?_ (aa ?_)));.grind
   .rw[c];have:decDigits n=decDigits (n/10)++[UInt8.ofNat (48+n%10)]:=by conv=>lhs;rw[decDigits,dif_neg (by omega)]
    rw[this];rfl
def qG{n:Int}(b:0<=n)(h1:n<=4294967295):aB tbl 247 [.d tI n] [] aV (decDigits n.toNat,()):=by refine cm ?_;exact au (λa=>absurd (of_decide_eq_true a) (by omega)) (λ_=>(aj (T4 n.toNat _ (by grind[wrap_u64]) (by omega)) (aa rfl)))
def Xp(ks:List Rx)(i:Nat):sA (ks.take i)<=sA ks:=by grind[Kt,List.take_append_drop]
def QY(p:Int){x:Rx}(a:eW x=true):(je p x).length+1<=26*sz x:=by have:=QZ p x;have:=Cz x a;omega
def Xo(p:Int):∀l:List Rx,(∀x∈l,eW x=true)->((l.map (je p)).map λx=>x.length+1).sum<=26*sA l
 |[],_=>by simp
 |r::l,h=>by have h1:=QY p (h r (f_ ..));have h2:=Xo p l λx a=>h x (e_ _ a);grind[sA]
def zcs(c:UInt8)(p:Int)(l:List Rx)(h:∀x∈l,eW x=true):(jn c (l.map (je p))).length<=26*sA l:=ap_ (JL c _) (Xo p l h)
def vT{a β:Type}(f:a->β){l:List a}{i:Nat}(h:i<l.length):(l.take (i+1)).map f=(l.take i).map f++[f l[i]]:=by grind[G_]
def rV(k:Int):aB tbl 291 [.d tI k] [] aw (k==5||k==6||k==7,()):=by refine cm ?_;cases(k==(5:Int))<;>cases(k==(6:Int))<;>exact cO (λ_=>rfl) rfl
def Bn(ks:List Rx):decide ((ks.length:Int)>0)= !ks.isEmpty:=by cases ks with|nil=>rfl|cons x l=>simp
def NI(p k lo a:Int)(ks:List Rx):lX p (.mk k lo a ks)=bif k==4 then !ks.isEmpty else bif k==3 then p != 4 else(k==5||k==6||k==7)&&(p==5||p==6||p==7):=rfl
def BI(p:Int)(x:Rx):aB tbl 266 [.d tI p,.d .rx x] [] aw (lX p x,()):=by
 obtain⟨k,lo,a,ks⟩:=x;refine cm ?_;rw[NI];refine au (λh=>aa ?_) λh=>?_;.have h:(k==4)=true:=h;rw[h,<-Bn];rfl
 have h:(k==4)=false:=h;rw[h];refine au (λh=>aa ?_) λh=>?_;.have h:(k==3)=true:=h;grind
 have h:(k==3)=false:=h;rw[h];refine aj (rV k) (ae (bh (λ_=>aj (rV p) (aa rfl)) (aa rfl)))
theorem Ma(p:Int)(x:Rx)(hl:(pat x).length<=1000000)(h:aB tbl 201 [.d .rx x] [] aV (pat x,())):aB tbl 235 [.d tI p,.d .rx x] [] aV (je p x,()):=by
 refine cm (aj h (aj (BI p x) (au (λa=>ao (decide_eq_true ?_) (ao (decide_eq_true ?_) (aa ?_))) λa=>aa ?_)));.grind
 .grind
 .have a:lX p x=true:=a;unfold je;rw[a];rfl
 .have a:lX p x=false:=a;unfold je;rw[a];rfl
def Il(k lo u:Int)(ks:List Rx)(c:UInt8)(f:∀x∈ks,eW x=true)(y:sA ks<=1000)(h:∀x∈ks,aB tbl 201 [.d .rx x] [] aV (pat x,())): Wp (λn=>gr n (C2 (rY tbl n) n (.mk k lo u ks) ([c],())) (([]:List UInt8),(0:Int),())) λt=>t=(jn c (ks.map (je k)),()):=by
 have g:=za ks;refine aK (N:=ks.length) (I:=λi s=>s=(jn c ((ks.take i).map (je k)),(i:Int),())) rfl ?_ ?_
 .rintro i s a rfl;have b:=a_ a;have w:=zcs c k (ks.take i) λx r=>f x (List.mem_of_mem_take r);have p:=Xp ks i;have j:=QY k (f _ b);have l:=mO b;have hp:=Cz _ (f _ b);refine aQ a (aA a ?_);rw[vT _ a,JM];refine ae (Ev.wp_mono (Q:=λv=>v=((if(ks.take i).map (je k)=[]then []else jn c ((ks.take i).map (je k))++[c]),ks[i].out.1,ks[i].out.2.1,ks[i].out.2.2.1,ks[i].out.2.2.2.1,())) (au (λd=>ao (decide_eq_true ?_) (aa ?_)) λd=>aa ?_) ?_);.grind
  .rw[if_neg (by intro e;have:=congrArg ar_ e;grind)];rfl
  .have d:¬(i:Int)>0:=of_decide_eq_false d;have:i=0:=by omega
   subst this;rfl
  rintro v rfl;rw[cV];refine aj (Ma k ks[i] (by omega) (h _ b)) (ao (decide_eq_true ?_) (aa ?_));all_goals grind[ak]
 .rintro s rfl;rw[u_];exact aJ (aa rfl)
def IL:∀(r:Rx),eW r=true->sz r<=1000->aB tbl 201 [.d .rx r] [] aV (pat r,()):=by
 refine hU λk lo c ks s l hs=>?_;obtain⟨nd,a⟩:=fe.1 l;have hsz:sA ks<=1000:=by grind[sz]
 have f:∀x∈ks,aB tbl 201 [.d .rx x] [] aV (pat x,()):=λx b=>s x b (a x b) (by have:=mO b;omega);refine cm ?_;have one:∀x,ks=[x]->∀p:Int,aB tbl 235 [.d tI p,.d .rx x] [] aV (je p x,())/\(je p x).length<=26000:=λx e p=>by
  have b:x∈ks:=by grind
  have h1:=Cz x (a x b);have h2:=mO b;have u:=QY p (a x b);grind[Ma]
 rcases nd.known with rfl|rfl|rfl|rfl|rfl|rfl|rfl|rfl;.refine ae (aD rfl (aa (aa ?_)));simp[pat]
 .obtain⟨r1,r2,r3⟩:=nd.nW rfl;refine ae (ap rfl (ap rfl (aD rfl (au (λh=>?_) λh=>?_))))
  .have h:(lo==c)=true:=h;have h:lo=c:=by grind
   subst h;refine aj (zq (n:=lo) r1 r3) (aa (aa ?_));simp[pat]
  .have h:(lo==c)=false:=h;have h:lo≠c:=by grind
   have l1:=jt (n:=lo.toNat) (by omega);have l2:=jt (n:=c.toNat) (by omega);refine aj (zq (n:=lo) r1 (by omega)) (ao (decide_eq_true ?_) (ao (decide_eq_true ?_) (aj (zq (n:=c) (by omega) r3) (ao (decide_eq_true ?_) (ao (decide_eq_true ?_) (aa (aa ?_)))))));.grind
   .grind
   all_goals grind[pat]
 .refine ae (ap rfl (aD rfl (aa (aa ?_))));simp[pat]
 .obtain⟨rfl,rfl⟩:=nd.zero (by simp);refine ae (ap rfl (ap rfl (ap rfl (ap rfl (ap rfl (ap rfl (ap rfl (aa ?_))))))));refine ae (Ev.wp_mono (Il 3 0 0 ks 32 a hsz f) ?_);rintro t rfl;refine aa ?_;simp[pat,dS]
 .obtain⟨rfl,rfl⟩:=nd.zero (by simp);refine ae (ap rfl (ap rfl (ap rfl (ap rfl (ap rfl (ap rfl (aD rfl (au (λh=>aa (aa ?_)) λh=>aa ?_))))))));.have h:((ks.length:Int)==0)=true:=h;grind[len_nil,pat]
  .have h:((ks.length:Int)==0)=false:=h;have j:ks≠[]:=by grind
   refine ae (Ev.wp_mono (Il 4 0 0 ks 124 a hsz f) ?_);rintro t rfl;refine aa ?_;grind[pat,dS]
 .obtain⟨rfl,rfl⟩:=nd.zero (by simp);obtain⟨x,rfl⟩:=ku (nd.one (by simp));obtain⟨d,g⟩:=one x rfl 5;refine ae (ap rfl (ap rfl (ap rfl (aD rfl (bH (by simp) rfl (aj d (ao (decide_eq_true ?_) (aa (aa ?_)))))))));all_goals grind[pat,dS]
 .obtain⟨rfl,rfl⟩:=nd.zero (by simp);obtain⟨x,rfl⟩:=ku (nd.one (by simp));obtain⟨d,g⟩:=one x rfl 6;refine ae (ap rfl (ap rfl (ap rfl (ap rfl (aD rfl (bH (by simp) rfl (aj d (ao (decide_eq_true ?_) (aa (aa ?_))))))))));all_goals grind[pat,dS]
 .obtain⟨rfl,rfl⟩:=nd.zero (by simp);obtain⟨x,rfl⟩:=ku (nd.one (by simp));obtain⟨d,g⟩:=one x rfl 7;refine ae (ap rfl (ap rfl (ap rfl (ap rfl (ap rfl (aD rfl (bH (by simp) rfl (aj d (ao (decide_eq_true ?_) (aa (aa ?_)))))))))));all_goals grind[pat,dS]
def F6(r:Rx)(hs:sz r<=1048576):aB tbl 166 [.d .rx r] [] gA (if eO r=0 then pat r else [],eO r,()):=by
 refine cm (aj (pf r hs) (au (λh=>aa ?_) λh=>?_));.grind
 .have h:eO r=0:=by grind
  obtain⟨h1,h2⟩:=kS h;refine aj (IL r h1 (by omega)) (aa ?_);grind
def zv(p x:Rx):aB tbl 246 [.d .rx p,.d .rx x] [] aw (lX p.out.1 x,()):=by
 obtain⟨k,lo,c,ks⟩:=x;refine cm ?_;generalize p.out.1=q;refine ae (bq (λ_=>aa rfl) (ae (bq (λ_=>aa rfl) ?_)));rw[NI];refine au (λh=>aa ?_) λh=>?_;.have h:(k==3)=true:=h;grind
 have a:(k==3)=false:=h;refine au (λh=>aa ?_) λh=>?_;.have h:(k==4)=true:=h;rw[h,<-Bn];rfl
 have b:(k==4)=false:=h;refine ae (Ev.wp_mono (Q:=λv=>v=(k==5||k==6||k==7,())) (au (λh=>aa ?_) λh=>au (λh'=>aa ?_) λh'=>aa ?_) ?_);.have h:(k==5)=true:=h;grind
 .have h':(k==6)=true:=h';grind
 .have h:(k==5)=false:=h;have h':(k==6)=false:=h';show((k==7),())=_;grind
 rintro v rfl;refine au (λh=>aa ?_) λh=>aa ?_;all_goals grind
def Ny(f:List UInt8->Nat):∀(l:List (List UInt8)) (i:Nat),((l.take i).map f).sum<=(l.map f).sum
 |[],i=>by simp
 |x::l,0=>by simp
 |x::l,i+1=>by have:=Ny f l i;grind
def sI(l:List (List UInt8))(c:UInt8)(hl:(l.map λx=>x.length+1).sum<=1000000):aB tbl 248 [.d (.list tS) l,.d tS [c]] [] aV (jn c l,()):=by
 refine cm ?_;have d:l.length<=(l.map λx=>x.length+1).sum:=by induction l with|nil=>simp|cons x l g=>grind
 refine ae (Ev.wp_mono (Q:=λt=>t=(jn c l,())) (aK (N:=l.length) (I:=λi s=>s=(jn c (l.take i),(i:Int),())) rfl ?_ ?_) ?_)
 .rintro i s b rfl;have h1:=JL c (l.take i);have f:=Ny (λx=>x.length+1) l (i+1);have ht:l.take (i+1)=l.take i++[l[i]]:=by simp
  refine aQ b (aA b ?_);rw[ht,JM];refine ae (Ev.wp_mono (Q:=λv=>v=((if l.take i=[]then []else jn c (l.take i)++[c]),())) (au (λa=>ao (decide_eq_true ?_) (aa ?_)) λa=>aa ?_) ?_);.grind
  .rw[if_neg (by intro e;have:=congrArg ar_ e;grind)]
  .have a:¬(i:Int)>0:=of_decide_eq_false a;have:i=0:=by omega
   subst this;rfl
  rintro v rfl;refine ao (decide_eq_true ?_) (aa ?_);all_goals grind[ak]
 .rintro s rfl;rw[u_];exact aJ (aa rfl)
 .rintro t rfl;exact aa rfl
def BG:∀(r:Rx),eW r=true->sz r<=1000->aB tbl 208 [.d .rx r] [] aV (pat r,()):=by
 refine hU λk lo c ks A z hs=>?_;obtain⟨nd,a⟩:=fe.1 z;have hsz:sA ks<=1000:=by grind[sz]
 have j:∀x∈ks,aB tbl 208 [.d .rx x] [] aV (pat x,()):=λx d=>A x d (a x d) (by have:=mO d;omega);refine cm ?_;refine ae (Ev.wp_mono (Q:=λt=>t=(ks.map (je k),())) ?_ ?_)
 .have u:=za ks;refine aK (N:=ks.length) (I:=λi s=>s=((i:Int),(ks.take i).map (je k),())) rfl ?_ ?_
  .rintro i s f rfl;have g:=a_ f;have y:=mO g;have hp:=Cz _ (a _ g);refine aQ f (aA f ?_);rw[cV,vT _ f];refine aj (j _ g) (ae (Ev.wp_mono (Q:=λv=>v=(je k ks[i],(ks.take i).map (je k),())) (aj (zv (.mk k lo c ks) ks[i]) (au (λb=>ao (decide_eq_true ?_) (ao (decide_eq_true ?_) (aa ?_))) λb=>aa ?_)) ?_));.show 1+(pat ks[i]).length<=_;omega
   .show(pat ks[i]).length+1+1<=_;omega
   .have b:lX k ks[i]=true:=b;unfold je;rw[b];rfl
   .have b:lX k ks[i]=false:=b;unfold je;rw[b];rfl
   rintro v rfl;refine ao (decide_eq_true ?_) (aa ?_);all_goals grind[b_,ak]
  .rintro s rfl;rw[u_];exact aJ (aa rfl)
 rintro t rfl;have w:=Xo k ks a;have one:∀x,ks=[x]->∀p:Int,(je p x).length<=26000:=λx e p=>by
  have d:x∈ks:=by grind
  have h2:=mO d;have B:=QY p (a x d);omega
 rcases nd.known with rfl|rfl|rfl|rfl|rfl|rfl|rfl|rfl;.refine aD rfl (aa ?_);simp[pat]
 .obtain⟨r1,r2,r3⟩:=nd.nW rfl;refine ap rfl (aD rfl (au (λh=>?_) λh=>?_))
  .have h:(lo==c)=true:=h;have h:lo=c:=by grind
   subst h;refine aj (qG (n:=lo) r1 r3) (aa ?_);simp[pat]
  .have h:(lo==c)=false:=h;have h:lo≠c:=by grind
   have l1:=jt (n:=lo.toNat) (by omega);have l2:=jt (n:=c.toNat) (by omega);refine aj (qG (n:=lo) r1 (by omega)) (ao (decide_eq_true ?_) (ao (decide_eq_true ?_) (aj (qG (n:=c) (by omega) r3) (ao (decide_eq_true ?_) (ao (decide_eq_true ?_) (aa ?_))))));.grind
   .grind
   all_goals grind[pat]
 .refine ap rfl (ap rfl (aD rfl (aa ?_)));simp[pat]
 .obtain⟨rfl,rfl⟩:=nd.zero (by simp);refine ap rfl (ap rfl (ap rfl (aD rfl (aj (sI (ks.map (je 3)) 32 (by omega)) (aa ?_)))));simp[pat,dS]
 .obtain⟨rfl,rfl⟩:=nd.zero (by simp);refine ap rfl (ap rfl (ap rfl (ap rfl (aD rfl (au (λh=>aa ?_) λh=>aj (sI (ks.map (je 4)) 124 (by omega)) (aa ?_))))));all_goals grind[je,d_,len_nil,pat,dS]
 .obtain⟨rfl,rfl⟩:=nd.zero (by simp);obtain⟨x,rfl⟩:=ku (nd.one (by simp));have l:=one x rfl 5;refine ap rfl (ap rfl (ap rfl (ap rfl (ap rfl (aD rfl (bH (by simp) rfl (aZ rfl (ao (decide_eq_true ?_) (aa ?_)))))))));all_goals grind[pat,dS]
 .obtain⟨rfl,rfl⟩:=nd.zero (by simp);obtain⟨x,rfl⟩:=ku (nd.one (by simp));have l:=one x rfl 6;refine ap rfl (ap rfl (ap rfl (ap rfl (ap rfl (ap rfl (aD rfl (bH (by simp) rfl (aZ rfl (ao (decide_eq_true ?_) (aa ?_))))))))));all_goals grind[pat,dS]
 .obtain⟨rfl,rfl⟩:=nd.zero (by simp);obtain⟨x,rfl⟩:=ku (nd.one (by simp));have l:=one x rfl 7;refine ap rfl (ap rfl (ap rfl (ap rfl (ap rfl (ap rfl (ap rfl (bH (by simp) rfl (aZ rfl (ao (decide_eq_true ?_) (aa ?_))))))))));all_goals grind[pat,dS]
end Go.Proofs.YtdgiglmmpbndmaaGreatDoor
namespace Go.Ev
open Go Go.RowKit Go.Av
section
variable {tbl:Nat->Option gv}
def eA(tbl:Nat->Option gv)(f:Nat)(ars:List V)(os:List Ob)(sh:Sh)(o:Option (HL sh.sl)):Prop:=∃a,∀n,a<=n->pX (rY tbl n) f ars os sh=some o
theorem Hw{f:Nat}{ars:List V}{os:List Ob}{sh:Sh}{R:Option (HL sh.sl)->Prop}(hp:∀c,yz sh (fW sh c)=some c)(h:Conv tbl f ars os λo=>∃c:Option (HL sh.sl),o=c.map (fW sh)/\R c):∃o,R o/\eA tbl f ars os sh o:=by obtain⟨o,⟨c,rfl,hr⟩,b,hn⟩:=h;refine⟨c,hr,b,λn a=>?_⟩;unfold pX;cases c with|none=>grind|some c=>grind[yz]
theorem mS{f:Nat}{ars:List V}{os:List Ob}{sh:Sh}{o:Option (HL sh.sl)}(hp:∀c,yz sh (fW sh c)=some c)(h:Conv tbl f ars os (·=o.map (fW sh))):eA tbl f ars os sh o:=by obtain⟨o',rfl,h2⟩:=Hw hp (zY h λx a=>⟨o,a,rfl⟩);omega
theorem f5{f:Nat}{ars:List V}{os:List Ob}{sh:Sh}{β:Type}{k:Nat->Option (HL sh.sl)->Option β}{Q:β->Prop}{o:Option (HL sh.sl)}(h:eA tbl f ars os sh o)(a:Wp (λn=>k n o) Q):Wp (λn=>i_ (pX (rY tbl n) f ars os sh) (k n)) Q:=by obtain⟨b,hn⟩:=h;exact ae ⟨o,a,b,hn⟩
end
end Go.Ev
namespace Go.Proofs.YtdgiglmmpbndmaaGreatDoor
open Z
open Go Go.Av Go.Ev Go.Pl Go.Lib
def KN(s:List UInt8)(hs:s.length<=1048576):∃c:Bool×Unit,((∀n,s=decDigits n->c=(true,()))/\(c.1=true->s≠[]))/\aB tbl 300 [.d tS s] [] aw c:=by
 refine KB (sh:=aw) (ae (bq (b:=decide ((s.length:Int)>(1:Int))&&(((s.getD 0 0).toNat:Int)==(48:Int))) (λg=>ae (bh (λh1=>?_) (aa rfl))) ?_));.refine bH (aq_ _) ?_ (aa rfl);grind
 .refine au (λh=>aa ⟨(false,()),rfl,λn hn=>?_,λh=>by grind⟩) (λh=>?_);.grind[Do,Sy]
  .have d:s≠[]:=by grind
   refine ae (Wp.imp (Q:=λr=>match r with| .inl v=>v.1=false/\∀n,s≠decDigits n| .inr _=>True) (aK (N:=s.length) (I:=λi st=>st=((i:Int),())) rfl (λi st f a=>?_) λst a=>?_) λr hr=>?_)
   .subst a;have e:=c_ f;refine au (λ_=>(bH (C_ _) e (ae (bq (λ_=>bH (C_ _) e (aa rfl)) (au (λj=>aa ⟨rfl,λn hn=>?_⟩) (λ_=>aa ?_)))))) (λh=>absurd h (by grind));.have:=xK n s[i] (by grind);grind[Eu]
    grind[ak]
   .subst a;simp[aa]
   .cases r with|inl v=>exact aa ⟨_,rfl,λn hn=>absurd hn (hr.2 n),λ_=>d⟩|inr v=>exact aa ⟨_,rfl,λ_ _=>rfl,λ_=>d⟩
def T0(s:List UInt8)(hs:s.length<=1048576):∃c:Int×Int×Unit,((∀m:Nat,m<=4294967295->s=decDigits m->c=((m:Int),(0:Int),()))/\(c.2.1=0->s≠[]))/\aB tbl 297 [.d tS s,.d tI (4294967295:Int)] [] dE c:=by
 obtain⟨y,⟨l,f⟩,b⟩:=KN s hs;refine KB (sh:=dE) ?_;refine aj b (au (λh=>aa ⟨_,rfl,λm a hn=>?_,λE=>by grind⟩) (λhc=>?_));.grind
 have d:s≠[]:=f (by grind);refine ae (Wp.imp (Q:=λr=>match r with| .inl v=>∀m:Nat,m<=4294967295->s≠decDigits m| .inr v=>∀m:Nat,m<=4294967295->s=decDigits m->v.1=m) (aK (N:=s.length) (I:=λi st=>st.2.1=(i:Int)/\∀m:Nat,m<=4294967295->s=decDigits m->st.1=(ly (s.take i):Int)) ⟨rfl,λ_ _ _=>rfl⟩ (λi st u e=>?_) λst e=>?_) λr hr=>?_)
 .obtain⟨n,j,_⟩:=st;obtain⟨h1,h2⟩:=e;simp only at h1 h2;subst h1;have x:=c_ u;have w:∀m:Nat,m<=4294967295->s=decDigits m->n=(ly (s.take i):Int)/\ly (s.take i)<=4294967295/\Eu s[i]/\ly (s.take (i+1))<=4294967295/\ly (s.take (i+1))=10*ly (s.take i)+(s[i].toNat - 48):=λm a hn=>by grind[ly,xL,hd,Eu,xK,It,takeD,uR]
  have p:Eu s[i]->b_ .i64 (b_ .u8 ((s[i].toNat:Int) - 48))=((s[i].toNat - 48:Nat):Int):=λh=>by grind[Eu,wrap_u8,wrap_i64]
  refine au (λ_=>?_) (λh=>absurd h (by grind));refine bH (C_ _) x ?_;refine ao rfl (au (λg=>aa λm a hn=>?_) (λ_=>aa ⟨?_,λm a hn=>?_⟩));.obtain⟨z,A,B,C,D⟩:=w m a hn;have k:=of_decide_eq_true g;grind[Eu,wrap_i64,M_]
  .grind[ak]
  grind[wrap_i64,ly]
 .obtain⟨n,j,_⟩:=st;obtain⟨h1,h2⟩:=e;simp only at h1 h2;subst h1;refine au (λh=>absurd h (by simp)) λ_=>aa λm a hn=>?_;simp only;rw[h2 m a hn,h_ (o_ _),hn,xL]
 .cases r with|inl v=>exact aa ⟨_,rfl,λm a hn=>absurd hn (hr m a),λ_=>d⟩|inr v=>refine au (λg=>aa ⟨_,rfl,λm a hn=>?_,λ_=>d⟩) (λ_=>aa ⟨_,rfl,λm a hn=>?_,λ_=>d⟩);all_goals grind
def sF(s:List UInt8)(i:Nat):aB tbl 199 [.ptr 0 0] [.box 252 [.d tS s,.d tI (i:Int)]] g9 ((pk s i:Int),s,(i:Int),()):=by
 refine cm (au (λh=>?_) λh=>aa ?_)
 .have h:i<s.length:=by grind
  refine aA h (aa ?_);rw[E5 h]
 grind[Wv]
structure Run(s:List UInt8)(i j:Nat):Prop where
 le:i<=j
 top:j<=s.length
 all:∀k,i<=k->k<j->dg (pk s k)
theorem Kc{s:List UInt8}{i j m:Nat}{t:List UInt8}(h:Run s i j)(g:¬dg (pk s j))(b:s.drop i=decDigits m++t)(ht:¬dg (hd t)):j=i+(decDigits m).length/\(s.take j).drop i=decDigits m:=by
 have h1:∀k,i<=k->k<i+(decDigits m).length->dg (pk s k):=λk c d=>by
  have hl:k - i<(decDigits m).length:=by omega
  have e:s[k]? =some (decDigits m)[k - i]:=by
   have h2:(s.drop i)[k - i]? =s[k]? :=by rw[List.getElem?_drop];congr 1;omega
   grind
  unfold pk;rw[ah_,e];exact(xK m _ (a_ hl))
 have h2:¬dg (pk s (i+(decDigits m).length)):=by grind[kC,gG]
 have l:j=i+(decDigits m).length:=by
  apply g_;intro hn;have:=h.le;rcases Nat.lt_or_gt_of_ne hn with f|a;.grind
  .exact h2 (h.all _ (by simp) a)
 grind
theorem T8(s:List UInt8)(hs:s.length<=1048576)(i:Nat)(d:i<=s.length):∃o:Option (Int×Nat),(∀n j,o=some (n,j)->i<j/\j<=s.length)/\(∀(m:Nat) t,s.drop i=decDigits m++t->m<=4294967295->¬dg (hd t)->o=some ((m:Int),i+(decDigits m).length))/\eA tbl 287 [.ptr 0 0] [.box 252 [.d tS s,.d tI (i:Int)]] bk (o.map λx=>(x.1,s,(x.2:Int),())):=by
 suffices h:∃v:Option (HL bk.sl),(∃o:Option (Int×Nat),v=o.map (λx=>(x.1,s,(x.2:Int),()))/\(∀n j,o=some (n,j)->i<j/\j<=s.length)/\(∀(m:Nat) t,s.drop i=decDigits m++t->m<=4294967295->¬dg (hd t)->o=some ((m:Int),i+(decDigits m).length)))/\eA tbl 287 [.ptr 0 0] [.box 252 [.d tS s,.d tI (i:Int)]] bk v by
  obtain⟨v,⟨o,rfl,h1,h2⟩,b⟩:=h
  exact⟨o,h1,h2,b⟩
 refine Hw (λ_=>rfl) (QB bk ?_);refine ae (Ev.wp_mono (Ev.wp_loop (Q:=λt=>∃j:Nat,t=(s,(j:Int),())/\Run s i j/\¬dg (pk s j)) (λt=>∃j:Nat,t=(s,(j:Int),())/\Run s i j) (λt=>s.length - t.2.1.toNat) ⟨i,rfl,⟨o_ _,d,λk h1 h2=>absurd h2 (by omega)⟩⟩ ?_) ?_)
 .rintro t ⟨j,rfl,hr⟩;refine aj (sF s j) (au (λh=>?_) λh=>aa ⟨j,rfl,hr,?_⟩)
  .have h:(pk s j:Int)>=48:=of_decide_eq_true h;have f:=dC (s:=s) (i:=j) (by omega);refine aj (sF s j) (au (λh'=>aa ?_) λh'=>aa ⟨j,rfl,hr,?_⟩)
   .have h':(pk s j:Int)<=57:=of_decide_eq_true h';refine⟨⟨j+1,?_,⟨by have:=hr.le;omega,by omega,λk h1 h2=>?_⟩⟩,?_⟩;.grind[b_,ak]
    .by_cases e:k=j;.subst e;exact⟨by omega,by omega⟩
     .exact hr.all k h1 (by omega)
    grind[b_,ak]
   grind[pk,of_decide_eq_false,Pl.dg]
  grind[pk,of_decide_eq_false,Pl.dg]
 .rintro t ⟨j,rfl,hr,r⟩;have h1:=hr.le;have h2:=hr.top;refine ao (decide_eq_true (by simp)) (ao (decide_eq_true (by simp)) (ao ?_ ?_));.grind
  show Wp (λn=>i_ (gm (rY tbl n) 297 [.d tS ((s.take (I_ (j:Int))).drop (I_ (i:Int))),.d tI (4294967295:Int)] [] dE) _) _;rw[y_,y_];obtain⟨c,⟨l,p⟩,hc⟩:=T0 ((s.take j).drop i) (by grind);refine aj (c:=c) hc (ae (au (λh=>aa ?_) λh=>aa ?_));.refine aa ⟨none,rfl,none,rfl,(λ_ _ h=>by grind),λm t a g ht=>?_⟩;grind[Kc]
  .refine aa ⟨some (c.1,s,(j:Int),()),rfl,some (c.1,j),rfl,?_,λm t a g ht=>?_⟩;all_goals grind[Kc]
def Zr(s:List UInt8)(hs:s.length<=1048576):∃num:Nat->Option (Int×Nat),ot s num/\∀i,i<=s.length->eA tbl 287 [.ptr 0 0] [.box 252 [.d tS s,.d tI (i:Int)]] bk ((num i).map λx=>(x.1,s,(x.2:Int),())):=by
 have h:∀i:Nat,∃o:Option (Int×Nat),i<=s.length->(∀n j,o=some (n,j)->i<j/\j<=s.length)/\(∀(m:Nat) t,s.drop i=decDigits m++t->m<=4294967295->¬dg (hd t)->o=some ((m:Int),i+(decDigits m).length))/\eA tbl 287 [.ptr 0 0] [.box 252 [.d tS s,.d tI (i:Int)]] bk (o.map λx=>(x.1,s,(x.2:Int),())):=λi=>by
  by_cases a:i<=s.length
  .grind[T8]
  .exact⟨none,λh=>absurd h a⟩
 refine⟨λi=>p_ (h i),⟨λi n j a e=>?_,λi m t b c ht=>?_⟩,λi a=>?_⟩;all_goals grind[L_,Cp,Dp]
def IA(s:List UInt8)(i:Nat)(c:Nat)(hc:c≠0)(hs:s.length<=1048576)(d:i<=s.length):aB tbl 244 [.ptr 0 0,.d tY (c:Int)] [.box 283 [.d tS s,.d tI (i:Int)]] dF (decide (pk s i=c),s,((if pk s i=c then i+1 else i:Nat):Int),()):=by
 refine cm (ae (bh (b:=decide (pk s i=c)) (λh=>?_) ?_))
 .have h:i<s.length:=by grind
  refine aA h (aa ?_);grind[E5]
 .by_cases e:pk s i=c;.have a:=dC (s:=s) (i:=i) (by omega);rw[decide_eq_true e,decide_eq_true (show(i:Int)<(s.length:Int) by omega)];refine aD rfl (aa ?_);grind[ak]
  .rw[decide_eq_false e,Bool.and_false,if_neg e];exact ap rfl (aa rfl)
def N0(s:List UInt8)(hs:s.length<=1048576)(i:Nat)(y:i<=s.length):∃(v:Int) (ok:Bool) (j:Nat),(i<=j/\j<=s.length/\(ok=true->i<j))/\(∀(m:Nat) t,s.drop i=decDigits m++t->m<=4294967295->¬dg (hd t)->v=(m:Int)/\ok=true/\j=i+(decDigits m).length)/\aB tbl 299 [.ptr 0 0] [.box 283 [.d tS s,.d tI (i:Int)]] bz (v,ok,s,(j:Int),()):=by
 suffices h:∃c:HL bz.sl,(∃(v:Int) (ok:Bool) (j:Nat),c=(v,ok,s,(j:Int),())/\(i<=j/\j<=s.length/\(ok=true->i<j))/\(∀(m:Nat) t,s.drop i=decDigits m++t->m<=4294967295->¬dg (hd t)->v=(m:Int)/\ok=true/\j=i+(decDigits m).length))/\aB tbl 299 [.ptr 0 0] [.box 283 [.d tS s,.d tI (i:Int)]] bz c by
  grind
 refine KB (sh:=bz) ?_;refine ae (Ev.wp_mono (Ev.wp_loop (Q:=λr=>match r with
  | .inl t=>∃j:Nat,t=((0:Int),false,s,(j:Int),())/\(i<=j/\j<=s.length)/\∃k,Run s i k/\4294967295<ly ((s.take k).drop i)
  | .inr t=>∃j:Nat,t=((ly ((s.take j).drop i):Int),s,(j:Int),())/\Run s i j/\¬dg (pk s j))
  (λt=>∃j:Nat,t=((ly ((s.take j).drop i):Int),s,(j:Int),())/\Run s i j/\ly ((s.take j).drop i)<=4294967295) (λt=>s.length - t.2.2.1.toNat) ⟨i,?_,⟨o_ _,y,λk h1 h2=>absurd h2 (by omega)⟩,?_⟩ ?_) ?_)
 .rw[v_ (by grind)];rfl
 .rw[v_ (by grind)];exact E_ _
 .rintro t ⟨j,rfl,hr,C⟩;dsimp only;have h1:=hr.le;have h2:=hr.top;refine ae (bh (b:=decide (48<=pk s j)) (λh=>?_) ?_)
  .have h:j<s.length:=by grind
   refine aA h (aa ?_);grind[E5]
  refine ae (bh (b:=decide (pk s j<=57)) (λh=>?_) ?_)
  .have h:j<s.length:=by grind
   refine aA h (aa ?_);grind[E5]
  refine au (λh=>?_) λh=>aa ⟨j,rfl,hr,?_⟩
  .simp only[Q_,decide_eq_true_eq]at h;obtain⟨⟨F,p⟩,u⟩:=h;have d:j<s.length:=by omega
   refine aA d ?_;have E:=E5 d;have x:b_ .i64 (b_ .u8 ((s[j].toNat:Int) - 48))=((s[j].toNat - 48:Nat):Int):=by grind[wrap_u8,wrap_i64]
   have a:Run s i (j+1):=⟨by omega,by omega,λk D I=>by
    by_cases e:k=j;.subst e;exact⟨p,u⟩
    .exact hr.all k D (by omega)⟩
   have l:ly ((s.take (j+1)).drop i)=10*ly ((s.take j).drop i)+(s[j].toNat - 48):=by grind[List.take_succ_eq_append_getElem,uR]
   have n:b_ .i64 ((b_ .i64 ((10:Int)*((ly ((s.take j).drop i):Nat):Int)))+(b_ .i64 (b_ .u8 ((s[j].toNat:Int) - (48:Int)))))=((ly ((s.take (j+1)).drop i):Nat):Int):=by grind[wrap_i64,ly]
   rw[n,ak d];refine au (λw=>aa ⟨j+1,rfl,⟨by omega,by omega⟩,j+1,a,?_⟩) λw=>aa ⟨⟨j+1,rfl,a,?_⟩,?_⟩;all_goals grind
  grind[Bool.and_eq_false_iff,decide_eq_false_iff_not,Pl.dg,pk,Wv]
 .rintro(t|t) ht
  .obtain⟨j,rfl,g,k,z,C⟩:=ht;refine aa ⟨_,rfl,0,false,j,rfl,⟨g.1,g.2,λh=>by grind⟩,λm t f B ht=>?_⟩;exfalso;have A:k<=i+(decDigits m).length:=by
    apply g_;intro hn;have h2:¬dg (pk s (i+(decDigits m).length)):=by grind[kC,gG]
    exact h2 (z.all _ (by simp) (by omega))
   grind[decDigits,List.drop_take,It,xL]
  .obtain⟨j,rfl,hr,H⟩:=ht;refine aa ⟨_,rfl,((ly ((s.take j).drop i):Nat):Int),decide (i<j),j,?_,⟨hr.le,hr.top,λh=>of_decide_eq_true h⟩,λm t f B ht=>?_⟩;all_goals grind[decide,Kc,Do,xL,decide_eq_true]
def XP(s:List UInt8)(hs:s.length<=1048576):∃num:Nat->Option (Int×Nat),ot s num/\∀i,i<=s.length->∃(v:Int) (ok:Bool) (j:Nat),(i<=j/\j<=s.length)/\num i=(if ok then some (v,j)else none)/\aB tbl 299 [.ptr 0 0] [.box 283 [.d tS s,.d tI (i:Int)]] bz (v,ok,s,(j:Int),()):=by
 have h:∀i:Nat,∃o:Int×Bool×Nat,i<=s.length->(i<=o.2.2/\o.2.2<=s.length/\(o.2.1=true->i<o.2.2))/\(∀(m:Nat) t,s.drop i=decDigits m++t->m<=4294967295->¬dg (hd t)->o.1=(m:Int)/\o.2.1=true/\o.2.2=i+(decDigits m).length)/\aB tbl 299 [.ptr 0 0] [.box 283 [.d tS s,.d tI (i:Int)]] bz (o.1,o.2.1,s,(o.2.2:Int),()):=λi=>by
  by_cases a:i<=s.length
  .obtain⟨v,ok,j,c⟩:=N0 s hs i a;exact⟨(v,ok,j),λ_=>c⟩
  .exact⟨(0,false,0),λh=>absurd h a⟩
 refine⟨λi=>if(p_ (h i)).2.1 then some ((p_ (h i)).1,(p_ (h i)).2.2)else none,⟨λi n j a e=>?_,λi m t b f ht=>?_⟩,λi a=>?_⟩;.grind
 .grind[L_,Cp,Dp]
 .have d:=H_ (h i) a;grind
abbrev Kz(s:List UInt8)(i:Nat):List Ob:=[.box 252 [.d tS s,.d tI (i:Int)]]
def XH(s:List UInt8)(o:Option (Rx×Nat)):Option (Rx×List UInt8×Int×Unit):=o.map λx=>(x.1,s,(x.2:Int),())
def sy{a b:Nat}(h:((a:Int)==(b:Int))=true):a=b:=by simp at h;omega
theorem TS{a b:Nat}(h:((a:Int)==(b:Int))=false):a≠b:=by simp at h;omega
def neF{a b:Nat}(h:((a:Int) != (b:Int))=false):a=b:=by simp at h;omega
def CP(s:List UInt8)(hs:s.length<=1048576)(i c:Nat)(hc:c≠0):eA tbl 288 [.ptr 0 0,.d tY (c:Int)] (Kz s i) bY (if pk s i=c then some (s,((i+1:Nat):Int),())else none):=by
 refine mS (λ_=>rfl) (QB bY ?_);refine ae (aj (sF s i) (au (λh=>aa (aa ?_)) λh=>aa (aa ?_)));.grind
 .have h:=neF h;have a:=dC (s:=s) (i:=i) (by omega);grind[ak]
section
variable {s:List UInt8}
theorem Z0(hs:s.length<=1048576){num:Nat->Option (Int×Nat)}(hn:ot s num)(hc:∀i,i<=s.length->eA tbl 287 [.ptr 0 0] (Kz s i) bk ((num i).map λx=>(x.1,s,(x.2:Int),()))) {alt:Nat->Option (Rx×Nat)} (F:Qa s alt) (d:Nat) (B:d<=100) (A:∀i,i<=s.length->eA tbl 165 [.ptr 0 0,.d tI ((d+1:Nat):Int)] (Kz s i) aI (XH s (alt i))) (i:Nat) (C:i<=s.length): eA tbl 263 [.ptr 0 0,.d tI (d:Int)] (Kz s i) aI (XH s (eF num s alt i)):=by
 refine mS (λ_=>rfl) (QB aI ?_);refine aj (sF s i) ?_;dsimp only;refine au (λh=>?_) λu=>?_;.have h:=sy (b:=46) h;have a:=dC (s:=s) (i:=i) (by omega);rw[ak a,show eF num s alt i=some (.mk 2 0 0 [],i+1) by grind[eF]];exact aa rfl
 have u:=TS (b:=46) u;refine au (λh=>?_) λg=>?_;.have h:=sy (b:=33) h;have a:=dC (s:=s) (i:=i) (by omega);rw[ak a,show eF num s alt i=some (.mk 4 0 0 [],i+1) by grind[eF]];exact aa rfl
 have g:=TS (b:=33) g;refine au (λe=>?_) λe=>?_
 .have e:=sy (b:=91) e;have a:=dC (s:=s) (i:=i) (by omega);have hp:eF num s alt i=match num (i+1)with
   |none=>none
   |some (lo,j)=>if pk s j=45 then(match num (j+1)with
    |none=>none
    |some (z,k)=>if pk s k=93 then some (.mk 1 lo z [],k+1)else none)else none:=by
   grind[eF]
  rw[ak a,hp];refine f5 (hc (i+1) (by omega)) ?_;cases w:num (i+1)with
  |none=>exact aa rfl|some x=>
   obtain⟨lo,j⟩:=x;have D:=hn.pN _ _ _ (by omega) w;show Wp (λn=>i_ (pX (rY tbl n) 288 [.ptr 0 0,.d tY (45:Int)] (Kz s j) bY) _) _;refine f5 (CP s hs j 45 (by simp)) ?_;by_cases p:pk s j=45
   .have f:=dC (s:=s) (i:=j) (by omega);simp only[if_pos p];show Wp (λn=>i_ (pX (rY tbl n) 287 [.ptr 0 0] (Kz s (j+1)) bk) _) _;refine f5 (hc (j+1) (by omega)) ?_;cases E:num (j+1)with
    |none=>exact aa rfl|some y=>
     obtain⟨z,k⟩:=y;show Wp (λn=>i_ (pX (rY tbl n) 288 [.ptr 0 0,.d tY (93:Int)] (Kz s k) bY) _) _;refine f5 (CP s hs k 93 (by simp)) ?_;by_cases v:pk s k=93;.simp only[if_pos v];exact aa rfl
     .simp only[if_neg v];exact aa rfl
   .simp only[if_neg p];exact aa rfl
 have e:=TS (b:=91) e;refine au (λc=>?_) λc=>?_
 .have c:=sy (b:=40) c;have a:=dC (s:=s) (i:=i) (by omega);rw[ak a];refine aj (sF s (i+1)) ?_;dsimp only;refine au (λh=>?_) λh=>?_;.have h:=sy (b:=41) h;have f:=dC (s:=s) (i:=i+1) (by omega);rw[ak f,show eF num s alt i=some (.mk 0 0 0 [],i+2) by grind[eF]];exact aa rfl
  .have h:=TS (b:=41) h;have hp:eF num s alt i=match alt (i+1)with
    |none=>none
    |some (r,j)=>if pk s j=41 then some (r,j+1)else none:=by
    grind[eF]
   rw[hp,show b_ .i64 ((d:Int)+1)=((d+1:Nat):Int) by grind[wrap_i64]];refine f5 (A (i+1) (by omega)) ?_;cases w:alt (i+1)with
   |none=>exact aa rfl|some x=>
    obtain⟨r,j⟩:=x;show Wp (λn=>i_ (pX (rY tbl n) 288 [.ptr 0 0,.d tY (41:Int)] (Kz s j) bY) _) _;refine f5 (CP s hs j 41 (by simp)) ?_;by_cases l:pk s j=41;.simp only[if_pos l];refine aa ?_;rw[cV];rfl
    .simp only[if_neg l];exact aa rfl
 .have c:=TS (b:=40) c;have hp:eF num s alt i=match num i with
   |none=>none
   |some (n,j)=>some (.mk 1 n n [],j):=by
   grind[eF]
  rw[hp];refine f5 (hc i C) ?_;cases w:num i with|none=>exact aa rfl|some x=>exact aa rfl
def Mf(s:List UInt8)(one:Nat->Option (Rx×Nat))(i:Nat):Option (Rx×Nat):=match one i with
 |none=>none
 |some (r,j)=>if pk s j=42 then some (.mk 5 0 0 [r],j+1)else if pk s j=43 then some (.mk 6 0 0 [r],j+1)else if pk s j=63 then some (.mk 7 0 0 [r],j+1)else some (r,j)
theorem Z3(hs:s.length<=1048576){one:Nat->Option (Rx×Nat)}(d:Nat)(c:∀i,i<=s.length->eA tbl 263 [.ptr 0 0,.d tI (d:Int)] (Kz s i) aI (XH s (one i)))(i:Nat)(e:i<=s.length): eA tbl 232 [.ptr 0 0,.d tI (d:Int)] (Kz s i) aI (XH s (Mf s one i)):=by
 refine mS (λ_=>rfl) (QB aI ?_);unfold Mf;refine f5 (c i e) ?_;cases g:one i with
 |none=>exact aa rfl|some x=>
  obtain⟨r,j⟩:=x;simp only;have key:∀(k:Int),j<s.length->some (fW aI (Rx.mk k 0 0 [Rx.mk r.out.1 r.out.2.1 r.out.2.2.1 r.out.2.2.2.1],s,b_ .i64 ((j:Int)+1),()))=(XH s (some (.mk k 0 0 [r],j+1))).map (fW aI):=λk f=>by rw[cV,ak f];rfl
  refine ae (aj (sF s j) ?_);refine au (λh=>aa (aa ?_)) λh1=>?_;.have h:=sy (b:=42) h;rw[if_pos h];grind[dC]
  have h1:=TS (b:=42) h1;refine au (λh=>aa (aa ?_)) λh2=>?_;.have h:=sy (b:=43) h;rw[if_neg h1];grind[dC]
  have h2:=TS (b:=43) h2;refine au (λh=>aa (aa ?_)) λa=>aa (aa ?_);.have h:=sy (b:=63) h;rw[if_neg h1];grind[dC]
  .have a:=TS (b:=63) a;rw[if_neg h1,if_neg h2,if_neg a];rw[cV];rfl
theorem N3(hs:s.length<=1048576){one:Nat->Option (Rx×Nat)}(u:Qa s one)(d:Nat)(n:∀i,i<=s.length->eA tbl 232 [.ptr 0 0,.d tI (d:Int)] (Kz s i) aI (XH s (one i)))(i:Nat)(w:i<=s.length): eA tbl 198 [.ptr 0 0,.d tI (d:Int)] (Kz s i) aI (XH s (sv s 32 3 one i)):=by
 refine mS (λ_=>rfl) (QB aI ?_);unfold sv;refine f5 (n i w) ?_;obtain⟨f,v⟩:∃f,s.length+1 - i=f+1:=⟨s.length - i,by omega⟩;rw[v,ek];cases c:one i with
 |none=>exact aa rfl|some x=>
  obtain⟨r,j⟩:=x;obtain⟨y,e,_⟩:=u _ _ _ w c;simp only[x_];refine ae (Ev.wp_mono (Q:=λt=>match t with
   | .inl _=>(if pk s j=32 then ek s 32 one f [r] (j+1)else some ([r],j))=none
   | .inr t=>∃(acc:List Rx) (k:Nat),t=(s,(k:Int),(0:Int),(0:Int),(0:Int),acc,())/\(if pk s j=32 then ek s 32 one f [r] (j+1)else some ([r],j))=some (acc,k)) ?_ ?_)
  .generalize a:(if pk s j=32 then ek s 32 one f [r] (j+1)else some ([r],j))=T;refine Ev.wp_loop (λt=>∃(acc:List Rx) (j f:Nat),t=(s,(j:Int),(0:Int),(0:Int),(0:Int),acc,())/\j<=s.length/\acc.length<=j/\s.length<=f+j/\(if pk s j=32 then ek s 32 one f acc (j+1)else some (acc,j))=T) (λt=>s.length - t.2.1.toNat) ⟨[r],j,f,rfl,e,(show 1<=j by omega),by omega,a⟩ ?_;rintro t ⟨acc,j,f,rfl,z,p,v,a⟩;refine aj (sF s j) ?_;refine au (λh=>?_) λh=>aa ⟨acc,j,rfl,?_⟩;.have h:=sy (b:=32) h;have l:=dC (s:=s) (i:=j) (by omega);rw[if_pos h]at a;rw[ak l];refine f5 (n (j+1) (by omega)) ?_;obtain⟨f2,rfl⟩:∃g,f=g+1:=⟨f - 1,by omega⟩;rw[ek]at a;cases c:one (j+1)with|none=>rw[c]at a;exact aa a.symm|some x=>obtain⟨r2,k⟩:=x;obtain⟨y,e,_⟩:=u _ _ _ (by omega) c;rw[c]at a;refine ao (decide_eq_true ?_) (aa ⟨⟨acc++[r2],k,f2,rfl,e,?_,by omega,a⟩,?_⟩);all_goals grind
   grind
  rintro(t|t) ht;.rw[show _=none from ht];exact aa rfl
  .obtain⟨acc,k,rfl,a⟩:=ht;rw[a];refine au (λh=>?_) λh=>aa ?_;.have h:=sy (b:=1) h;obtain⟨x,rfl⟩:=w_.1 h;refine bH (by simp) rfl (aZ rfl (aa ?_));rw[cV];rfl
   .have h:=TS (b:=1) h;simp only;rw[qi h];rfl
theorem CM(hs:s.length<=1048576){one:Nat->Option (Rx×Nat)}(v:Qa s one)(d:Nat)(A:d<=32)(p:∀i,i<=s.length->eA tbl 198 [.ptr 0 0,.d tI (d:Int)] (Kz s i) aI (XH s (one i)))(i:Nat)(y:i<=s.length): eA tbl 165 [.ptr 0 0,.d tI (d:Int)] (Kz s i) aI (XH s (sv s 124 4 one i)):=by
 refine mS (λ_=>rfl) (QB aI ?_);unfold sv;refine ae (ap (decide_eq_false (by omega)) (aa ?_));show Wp (λn=>i_ (pX (rY tbl n) 198 [.ptr 0 0,.d tI (d:Int)] (Kz s i) aI) _) _;refine f5 (p i y) ?_;obtain⟨f,w⟩:∃f,s.length+1 - i=f+1:=⟨s.length - i,by omega⟩;rw[w,ek];cases c:one i with
 |none=>exact aa rfl|some x=>
  obtain⟨r,j⟩:=x;obtain⟨z,e,_⟩:=v _ _ _ y c;simp only[x_];refine ae (Ev.wp_mono (Q:=λt=>match t with
   | .inl _=>(if pk s j=124 then ek s 124 one f [r] (j+1)else some ([r],j))=none
   | .inr t=>∃(acc:List Rx) (k:Nat),t=(s,(k:Int),(0:Int),(0:Int),(0:Int),acc,())/\(if pk s j=124 then ek s 124 one f [r] (j+1)else some ([r],j))=some (acc,k)) ?_ ?_)
  .generalize a:(if pk s j=124 then ek s 124 one f [r] (j+1)else some ([r],j))=T;refine Ev.wp_loop (λt=>∃(acc:List Rx) (j f:Nat),t=(s,(j:Int),(0:Int),(0:Int),(0:Int),acc,())/\j<=s.length/\acc.length<=j/\s.length<=f+j/\(if pk s j=124 then ek s 124 one f acc (j+1)else some (acc,j))=T) (λt=>s.length - t.2.1.toNat) ⟨[r],j,f,rfl,e,(show 1<=j by omega),by omega,a⟩ ?_;rintro t ⟨acc,j,f,rfl,B,u,w,a⟩;refine aj (sF s j) ?_;dsimp only;refine au (λh=>?_) λh=>aa ⟨acc,j,rfl,?_⟩;.have h:=sy (b:=124) h;have l:=dC (s:=s) (i:=j) (by omega);rw[if_pos h]at a;rw[ak l];refine f5 (p (j+1) (by omega)) ?_;obtain⟨f2,rfl⟩:∃g,f=g+1:=⟨f - 1,by omega⟩;rw[ek]at a;cases c:one (j+1)with|none=>rw[c]at a;exact aa a.symm|some x=>obtain⟨r2,k⟩:=x;obtain⟨z,e,_⟩:=v _ _ _ (by omega) c;rw[c]at a;refine ao (decide_eq_true ?_) (aa ⟨⟨acc++[r2],k,f2,rfl,e,?_,by omega,a⟩,?_⟩);all_goals grind
   grind
  rintro(t|t) ht;.rw[show _=none from ht];exact aa rfl
  .obtain⟨acc,k,rfl,a⟩:=ht;rw[a];refine au (λh=>?_) λh=>aa ?_;.have h:=sy (b:=1) h;obtain⟨x,rfl⟩:=w_.1 h;refine bH (by simp) rfl (aZ rfl (aa ?_));rw[cV];rfl
   .have h:=TS (b:=1) h;simp only;rw[qi h];rfl
theorem XI(i:Nat):eA tbl 165 [.ptr 0 0,.d tI (33:Int)] (Kz s i) aI none:=by refine mS (λ_=>rfl) (QB aI ?_);exact ae (aD rfl (aa (aa rfl)))
theorem T1(hs:s.length<=1048576){num:Nat->Option (Int×Nat)}(hn:ot s num)(hc:∀i,i<=s.length->eA tbl 287 [.ptr 0 0] (Kz s i) bk ((num i).map λx=>(x.1,s,(x.2:Int),()))):
 ∀(b d:Nat),d+b=33->∀i,i<=s.length->eA tbl 165 [.ptr 0 0,.d tI (d:Int)] (Kz s i) aI (XH s (wX num s b i))
 |0,d,h,i,_=>by
  have:d=33:=by omega
  subst this;exact XI i
 |b+1,d,h,i,e=>by have a:=xA hn b;have h1:=Z0 hs hn hc a d (by omega) (T1 hs hn hc b (d+1) (by omega));have h2:=Z3 hs d h1;have c:=N3 hs (sX hn a) d h2;exact CM hs (Cl (sX hn a) (by simp) 3) d (by omega) c i e
end
abbrev KA(s:List UInt8)(i:Nat):List Ob:=[.box 283 [.d tS s,.d tI (i:Int)]]
def Rd(s:List UInt8)(one:Nat->Option (Rx×Nat))(C:Nat->Rx->Bool->Nat->Prop):Prop:=∀i,i<=s.length->∃(r:Rx) (ok:Bool) (j:Nat),(i<=j/\j<=s.length)/\one i=(if ok then some (r,j)else none)/\C i r ok j
section
variable {s:List UInt8}
theorem T2(hs:s.length<=1048576){num:Nat->Option (Int×Nat)}(hc:∀i,i<=s.length->∃(v:Int) (ok:Bool) (j:Nat),(i<=j/\j<=s.length)/\num i=(if ok then some (v,j)else none)/\aB tbl 299 [.ptr 0 0] (KA s i) bz (v,ok,s,(j:Int),())) {alt:Nat->Option (Rx×Nat)} (d:Nat) (U:d<=32) (T:Rd s alt λi r ok j=>aB tbl 206 [.ptr 0 0,.d tI ((d+1:Nat):Int)] (KA s i) aG (r,ok,s,(j:Int),())): Rd s (eF num s alt) λi r ok j=>aB tbl 293 [.ptr 0 0,.d tI (d:Int)] (KA s i) aG (r,ok,s,(j:Int),()):=by
 intro i H;suffices h:∃c:HL aG.sl,(∃(r:Rx) (ok:Bool) (j:Nat),c=(r,ok,s,(j:Int),())/\(i<=j/\j<=s.length)/\eF num s alt i=(if ok then some (r,j)else none))/\aB tbl 293 [.ptr 0 0,.d tI (d:Int)] (KA s i) aG c by grind
 refine KB (sh:=aG) ?_;refine ap (decide_eq_false (by omega)) ?_;have C:∀(k c:Nat),c≠0->k<=s.length->aB tbl 244 [.ptr 0 0,.d tY (c:Int)] (KA s k) dF (decide (pk s k=c),s,((if pk s k=c then k+1 else k:Nat):Int),()):=λk c L hk=>IA s k c L hs hk;refine aj (C i 46 (by simp) H) ?_;by_cases f:pk s i=46
 .have E:=dC (s:=s) (i:=i) (by omega);refine aD (decide_eq_true f) (aa ⟨_,rfl,.mk 2 0 0 [],true,i+1,?_,⟨by simp,by omega⟩,?_⟩);.simp only[if_pos f];rfl
  grind[eF]
 refine ap (decide_eq_false f) ?_;simp only[if_neg f];refine aj (C i 33 (by simp) H) ?_;by_cases b:pk s i=33
 .have E:=dC (s:=s) (i:=i) (by omega);refine aD (decide_eq_true b) (aa ⟨_,rfl,.mk 4 0 0 [],true,i+1,?_,⟨by simp,by omega⟩,?_⟩);.simp only[if_pos b];rfl
  grind[eF]
 refine ap (decide_eq_false b) ?_;simp only[if_neg b];refine aj (C i 40 (by simp) H) ?_;by_cases g:pk s i=40
 .have E:=dC (s:=s) (i:=i) (by omega);refine aD (decide_eq_true g) ?_;simp only[if_pos g];refine aj (C (i+1) 41 (by simp) (by omega)) ?_;by_cases p:pk s (i+1)=41
  .have B:=dC (s:=s) (i:=i+1) (by omega);refine aD (decide_eq_true p) (aa ⟨_,rfl,.mk 0 0 0 [],true,i+2,?_,⟨by simp,by omega⟩,?_⟩);.simp only[if_pos p];rfl
   .unfold eF;rw[if_neg f,if_neg b,if_neg (by omega),if_pos g,if_pos p];rfl
  refine ap (decide_eq_false p) ?_;simp only[if_neg p];rw[show b_ .i64 ((d:Int)+1)=((d+1:Nat):Int) by grind[wrap_i64]];obtain⟨r,ok,j,Y,e,D⟩:=T (i+1) (by omega);have hp:eF num s alt i=match alt (i+1)with
   |none=>none
   |some (r,j)=>if pk s j=41 then some (r,j+1)else none:=by
   unfold eF
   rw[if_neg f,if_neg b,if_neg (by omega),if_pos g,if_neg p]
   all_goals rfl
  rw[e]at hp;refine aj D ?_;cases ok with
  |true=>
   refine aD rfl (aj (C j 41 (by simp) Y.2) ?_);simp only[if_true]at hp;by_cases a:pk s j=41;.have B:=dC (s:=s) (i:=j) (by omega);rw[if_pos a]at hp;refine aa ⟨_,rfl,r,true,j+1,?_,⟨by omega,by omega⟩,hp⟩;show(Rx.mk r.out.1 r.out.2.1 r.out.2.2.1 r.out.2.2.2.1,decide (pk s j=41),s,((if pk s j=41 then j+1 else j:Nat):Int),())=_;rw[cV,if_pos a,decide_eq_true a]
   .rw[if_neg a]at hp;refine aa ⟨_,rfl,r,false,j,?_,⟨by omega,by omega⟩,hp⟩;show(Rx.mk r.out.1 r.out.2.1 r.out.2.2.1 r.out.2.2.2.1,decide (pk s j=41),s,((if pk s j=41 then j+1 else j:Nat):Int),())=_;rw[cV,if_neg a,decide_eq_false a]
  |false=>refine ap rfl (aa ⟨_,rfl,r,false,j,?_,⟨by omega,by omega⟩,hp⟩);show(Rx.mk r.out.1 r.out.2.1 r.out.2.2.1 r.out.2.2.2.1,false,s,(j:Int),())=_;rw[cV]
 refine ap (decide_eq_false g) ?_;simp only[if_neg g];refine aj (C i 91 (by simp) H) ?_;by_cases u:pk s i=91
 .have E:=dC (s:=s) (i:=i) (by omega);have hp:eF num s alt i=match num (i+1)with
   |none=>none
   |some (lo,j)=>if pk s j=45 then(match num (j+1)with
    |none=>none
    |some (up,k)=>if pk s k=93 then some (.mk 1 lo up [],k+1)else none)else none:=by
   unfold eF
   rw[if_neg f,if_neg b,if_pos u]
   all_goals rfl
  refine aD (decide_eq_true u) ?_;simp only[if_pos u];obtain⟨A,z,l,N,J,I⟩:=hc (i+1) (by omega);refine aj I (aj (C l 45 (by simp) N.2) ?_);have Q:(if pk s l=45 then l+1 else l)<=s.length/\l<=(if pk s l=45 then l+1 else l):=by
   split;.have:=dC (s:=s) (i:=l) (by omega);omega
   omega
  obtain⟨F,M,w,P,O,R⟩:=hc (if pk s l=45 then l+1 else l) Q.1;refine aj R ?_;rw[J]at hp;cases z with
  |false=>exact ap rfl (aa ⟨_,rfl,.mk 1 A F [],false,w,rfl,⟨by omega,by omega⟩,hp⟩)|true=>
   simp only[if_true]at hp;refine aD rfl ?_;by_cases x:pk s l=45
   .rw[if_pos x]at hp O;refine aD (decide_eq_true x) ?_;rw[O]at hp;cases M with
    |false=>exact ap rfl (aa ⟨_,rfl,.mk 1 A F [],false,w,rfl,⟨by omega,by omega⟩,hp⟩)|true=>
     simp only[if_true]at hp;refine aD rfl (aj (C w 93 (by simp) P.2) ?_);by_cases y:pk s w=93;.have B:=dC (s:=s) (i:=w) (by omega);rw[if_pos y]at hp;refine aa ⟨_,rfl,.mk 1 A F [],true,w+1,?_,⟨by omega,by omega⟩,hp⟩;show(Rx.mk 1 A F [],decide (pk s w=93),s,((if pk s w=93 then w+1 else w:Nat):Int),())=_;rw[if_pos y,decide_eq_true y]
     .rw[if_neg y]at hp;refine aa ⟨_,rfl,.mk 1 A F [],false,w,?_,⟨by omega,by omega⟩,hp⟩;grind
   .rw[if_neg x]at hp;exact ap (decide_eq_false x) (aa ⟨_,rfl,.mk 1 A F [],false,w,rfl,⟨by omega,by omega⟩,hp⟩)
 refine ap (decide_eq_false u) ?_;simp only[if_neg u];obtain⟨A,z,l,N,J,I⟩:=hc i H;have hp:eF num s alt i=match num i with
  |none=>none
  |some (n,j)=>some (.mk 1 n n [],j):=by
  unfold eF
  rw[if_neg f,if_neg b,if_neg u,if_neg g]
  all_goals rfl
 rw[J]at hp;refine aj I (aa ⟨_,rfl,.mk 1 A A [],z,l,rfl,⟨by omega,by omega⟩,?_⟩);rw[hp];cases z<;>rfl
theorem KU(hs:s.length<=1048576){one:Nat->Option (Rx×Nat)}(d:Nat)(p:Rd s one λi r ok j=>aB tbl 293 [.ptr 0 0,.d tI (d:Int)] (KA s i) aG (r,ok,s,(j:Int),())): Rd s (Mf s one) λi r ok j=>aB tbl 273 [.ptr 0 0,.d tI (d:Int)] (KA s i) aG (r,ok,s,(j:Int),()):=by
 intro i u;suffices h:∃c:HL aG.sl,(∃(r:Rx) (ok:Bool) (j:Nat),c=(r,ok,s,(j:Int),())/\(i<=j/\j<=s.length)/\Mf s one i=(if ok then some (r,j)else none))/\aB tbl 273 [.ptr 0 0,.d tI (d:Int)] (KA s i) aG c by grind
 refine KB (sh:=aG) ?_;obtain⟨r,ok,j,f,e,a⟩:=p i u;have n:∀(k c:Nat),c≠0->k<=s.length->aB tbl 244 [.ptr 0 0,.d tY (c:Int)] (KA s k) dF (decide (pk s k=c),s,((if pk s k=c then k+1 else k:Nat):Int),()):=λk c l v=>IA s k c l hs v;refine aj a ?_;have hp:Mf s one i=match one i with
  |none=>none
  |some (r,j)=>if pk s j=42 then some (.mk 5 0 0 [r],j+1)else if pk s j=43 then some (.mk 6 0 0 [r],j+1)else if pk s j=63 then some (.mk 7 0 0 [r],j+1)else some (r,j):=rfl
 rw[e]at hp;cases ok with
 |false=>refine ae (aD rfl (aa (aa ⟨_,rfl,r,false,j,?_,f,hp⟩)));grind[cV]|true=>
  simp only[if_true]at hp;refine ae (ap rfl ?_);refine aj (n j 42 (by simp) f.2) ?_;by_cases h1:pk s j=42;.have g:=dC (s:=s) (i:=j) (by omega);rw[if_pos h1]at hp;refine aD (decide_eq_true h1) (aa ?_);refine cO (λ_=>rfl) (⟨_,rfl,.mk 5 0 0 [r],true,j+1,?_,⟨by omega,by omega⟩,hp⟩);show(Rx.mk 5 0 0 [Rx.mk r.out.1 r.out.2.1 r.out.2.2.1 r.out.2.2.2.1],true,s,((if pk s j=42 then j+1 else j:Nat):Int),())=_;rw[cV,if_pos h1]
  rw[if_neg h1]at hp;refine ap (decide_eq_false h1) ?_;simp only[if_neg h1];refine aj (n j 43 (by simp) f.2) ?_;by_cases h2:pk s j=43;.have g:=dC (s:=s) (i:=j) (by omega);rw[if_pos h2]at hp;refine aD (decide_eq_true h2) (aa ?_);refine cO (λ_=>rfl) (⟨_,rfl,.mk 6 0 0 [r],true,j+1,?_,⟨by omega,by omega⟩,hp⟩);show(Rx.mk 6 0 0 [Rx.mk r.out.1 r.out.2.1 r.out.2.2.1 r.out.2.2.2.1],true,s,((if pk s j=43 then j+1 else j:Nat):Int),())=_;rw[cV,if_pos h2]
  rw[if_neg h2]at hp;refine ap (decide_eq_false h2) ?_;simp only[if_neg h2];refine aj (n j 63 (by simp) f.2) ?_;by_cases b:pk s j=63;.have g:=dC (s:=s) (i:=j) (by omega);rw[if_pos b]at hp;refine aD (decide_eq_true b) (aa ?_);refine cO (λ_=>rfl) (⟨_,rfl,.mk 7 0 0 [r],true,j+1,?_,⟨by omega,by omega⟩,hp⟩);show(Rx.mk 7 0 0 [Rx.mk r.out.1 r.out.2.1 r.out.2.2.1 r.out.2.2.2.1],true,s,((if pk s j=63 then j+1 else j:Nat):Int),())=_;rw[cV,if_pos b]
  rw[if_neg b]at hp;refine ap (decide_eq_false b) (aa ?_);refine cO (λ_=>rfl) (⟨_,rfl,r,true,j,?_,f,hp⟩);show(Rx.mk r.out.1 r.out.2.1 r.out.2.2.1 r.out.2.2.2.1,true,s,((if pk s j=63 then j+1 else j:Nat):Int),())=_;rw[cV,if_neg b]
theorem Qf(hs:s.length<=1048576){one:Nat->Option (Rx×Nat)}(w:Qa s one)(d:Nat)(v:Rd s one λi r ok j=>aB tbl 273 [.ptr 0 0,.d tI (d:Int)] (KA s i) aG (r,ok,s,(j:Int),())): Rd s (sv s 32 3 one) λi r ok j=>aB tbl 243 [.ptr 0 0,.d tI (d:Int)] (KA s i) aG (r,ok,s,(j:Int),()):=by
 intro i y;suffices h:∃c:HL aG.sl,(∃(r:Rx) (ok:Bool) (j:Nat),c=(r,ok,s,(j:Int),())/\(i<=j/\j<=s.length)/\sv s 32 3 one i=(if ok then some (r,j)else none))/\aB tbl 243 [.ptr 0 0,.d tI (d:Int)] (KA s i) aG c by grind
 refine KB (sh:=aG) ?_;refine ae (Ev.wp_mono (Ev.wp_loop (Q:=λt=>match t with
  | .inl t=>∃j:Nat,t=(false,s,(j:Int),(0:Int),(0:Int),(0:Int),())/\(i<=j/\j<=s.length)/\ek s 32 one (s.length+1 - i) [] i=none
  | .inr t=>∃(acc:List Rx) (j:Nat),t=(s,(j:Int),(0:Int),(0:Int),(0:Int),acc,())/\(i<=j/\j<=s.length)/\ek s 32 one (s.length+1 - i) [] i=some (acc,j))
  (λt=>∃(acc:List Rx) (j f:Nat),t=(s,(j:Int),(0:Int),(0:Int),(0:Int),acc,())/\i<=j/\j<=s.length/\acc.length<=j/\s.length+1<=f+j/\ek s 32 one f acc j=ek s 32 one (s.length+1 - i) [] i) (λt=>s.length - t.2.1.toNat)
  ⟨[],i,s.length+1 - i,rfl,o_ _,y,E_ _,by omega,rfl⟩ ?_) ?_)
 .rintro t ⟨acc,j,f,rfl,z,p,u,D,a⟩;obtain⟨r,ok,k,n,e,l⟩:=v j p;obtain⟨f2,rfl⟩:∃g,f=g+1:=⟨f - 1,by omega⟩;rw[ek,e]at a;refine aj l ?_;cases ok with
  |false=>exact aD rfl (aa ⟨k,rfl,⟨by omega,n.2⟩,a.symm⟩)|true=>
   simp only[if_true]at a e;obtain⟨B,C,_⟩:=w _ _ _ p e;refine ap rfl (ao (decide_eq_true ?_) (aj (IA s k 32 (by simp) hs n.2) ?_));.grind
   by_cases hp:pk s k=32
   .have A:=dC (s:=s) (i:=k) (by omega);rw[if_pos hp]at a;refine ap (by grind) (aa ⟨⟨acc++[r],k+1,f2,?_,by omega,by omega,?_,by omega,a⟩,?_⟩);.show(s,((if pk s k=32 then k+1 else k:Nat):Int),(0:Int),(0:Int),(0:Int),acc++[Rx.mk r.out.1 r.out.2.1 r.out.2.2.1 r.out.2.2.2.1],())=_;rw[cV,if_pos hp]
    all_goals grind
   .rw[if_neg hp]at a;refine aD (by grind) (aa ⟨acc++[r],k,?_,⟨by omega,n.2⟩,a.symm⟩);show(s,((if pk s k=32 then k+1 else k:Nat):Int),(0:Int),(0:Int),(0:Int),acc++[Rx.mk r.out.1 r.out.2.1 r.out.2.2.1 r.out.2.2.2.1],())=_;rw[cV,if_neg hp]
 .unfold sv;rintro(t|t) ht;.obtain⟨j,rfl,p,a⟩:=ht;rw[a];exact aa ⟨_,rfl,.mk 0 0 0 [],false,j,rfl,p,rfl⟩
  .obtain⟨acc,k,rfl,n,a⟩:=ht;rw[a];refine au (λh=>?_) λh=>aa ⟨_,rfl,.mk 3 0 0 acc,true,k,rfl,n,?_⟩;.have h:=sy (b:=1) h;obtain⟨x,rfl⟩:=w_.1 h;refine bH (by simp) rfl (aZ rfl (aa ⟨_,rfl,x,true,k,?_,n,rfl⟩));rw[cV]
   grind[TS,qi]
theorem Qc(hs:s.length<=1048576){one:Nat->Option (Rx×Nat)}(w:Qa s one)(d:Nat)(v:Rd s one λi r ok j=>aB tbl 243 [.ptr 0 0,.d tI (d:Int)] (KA s i) aG (r,ok,s,(j:Int),())): Rd s (sv s 124 4 one) λi r ok j=>aB tbl 206 [.ptr 0 0,.d tI (d:Int)] (KA s i) aG (r,ok,s,(j:Int),()):=by
 intro i y;suffices h:∃c:HL aG.sl,(∃(r:Rx) (ok:Bool) (j:Nat),c=(r,ok,s,(j:Int),())/\(i<=j/\j<=s.length)/\sv s 124 4 one i=(if ok then some (r,j)else none))/\aB tbl 206 [.ptr 0 0,.d tI (d:Int)] (KA s i) aG c by grind
 refine KB (sh:=aG) ?_;refine ae (Ev.wp_mono (Ev.wp_loop (Q:=λt=>match t with
  | .inl t=>∃j:Nat,t=(false,s,(j:Int),(0:Int),(0:Int),(0:Int),())/\(i<=j/\j<=s.length)/\ek s 124 one (s.length+1 - i) [] i=none
  | .inr t=>∃(acc:List Rx) (j:Nat),t=(s,(j:Int),(0:Int),(0:Int),(0:Int),acc,())/\(i<=j/\j<=s.length)/\ek s 124 one (s.length+1 - i) [] i=some (acc,j))
  (λt=>∃(acc:List Rx) (j f:Nat),t=(s,(j:Int),(0:Int),(0:Int),(0:Int),acc,())/\i<=j/\j<=s.length/\acc.length<=j/\s.length+1<=f+j/\ek s 124 one f acc j=ek s 124 one (s.length+1 - i) [] i) (λt=>s.length - t.2.1.toNat)
  ⟨[],i,s.length+1 - i,rfl,o_ _,y,E_ _,by omega,rfl⟩ ?_) ?_)
 .rintro t ⟨acc,j,f,rfl,z,p,u,D,a⟩;obtain⟨r,ok,k,n,e,l⟩:=v j p;obtain⟨f2,rfl⟩:∃g,f=g+1:=⟨f - 1,by omega⟩;rw[ek,e]at a;refine aj l ?_;cases ok with
  |false=>exact aD rfl (aa ⟨k,rfl,⟨by omega,n.2⟩,a.symm⟩)|true=>
   simp only[if_true]at a e;obtain⟨B,C,_⟩:=w _ _ _ p e;refine ap rfl (ao (decide_eq_true ?_) (aj (IA s k 124 (by simp) hs n.2) ?_));.grind
   by_cases hp:pk s k=124
   .have A:=dC (s:=s) (i:=k) (by omega);rw[if_pos hp]at a;refine ap (by grind) (aa ⟨⟨acc++[r],k+1,f2,?_,by omega,by omega,?_,by omega,a⟩,?_⟩);.show(s,((if pk s k=124 then k+1 else k:Nat):Int),(0:Int),(0:Int),(0:Int),acc++[Rx.mk r.out.1 r.out.2.1 r.out.2.2.1 r.out.2.2.2.1],())=_;rw[cV,if_pos hp]
    all_goals grind
   .rw[if_neg hp]at a;refine aD (by grind) (aa ⟨acc++[r],k,?_,⟨by omega,n.2⟩,a.symm⟩);show(s,((if pk s k=124 then k+1 else k:Nat):Int),(0:Int),(0:Int),(0:Int),acc++[Rx.mk r.out.1 r.out.2.1 r.out.2.2.1 r.out.2.2.2.1],())=_;rw[cV,if_neg hp]
 .unfold sv;rintro(t|t) ht;.obtain⟨j,rfl,p,a⟩:=ht;rw[a];exact aa ⟨_,rfl,.mk 0 0 0 [],false,j,rfl,p,rfl⟩
  .obtain⟨acc,k,rfl,n,a⟩:=ht;rw[a];refine au (λh=>?_) λh=>aa ⟨_,rfl,.mk 4 0 0 acc,true,k,rfl,n,?_⟩;.have h:=sy (b:=1) h;obtain⟨x,rfl⟩:=w_.1 h;refine bH (by simp) rfl (aZ rfl (aa ⟨_,rfl,x,true,k,?_,n,rfl⟩));rw[cV]
   grind[TS,qi]
theorem T3:Rd s (λ_=>none) λi r ok j=>aB tbl 293 [.ptr 0 0,.d tI ((33:Nat):Int)] (KA s i) aG (r,ok,s,(j:Int),()):=by intro i a;refine⟨.mk 0 0 0 [],false,i,⟨o_ _,a⟩,rfl,(cm ?_)⟩;exact aD rfl (aa rfl)
theorem Ls:Qa s λ_=>none:=λ_ _ _ _ h=>by cases h
theorem Rd.imp{one E:Nat->Option (Rx×Nat)}{C:Nat->Rx->Bool->Nat->Prop}(h:Rd s one C)(J:∀i,i<=s.length->one i=E i):Rd s E C:=λi H=>by obtain⟨r,ok,j,h1,h2,I⟩:=h i H;grind
theorem L8(p:Nat)(k:Int)(i:Nat)(b:i<=s.length):sv s p k (λ_=>none) i=none:=by obtain⟨f,a⟩:∃f,s.length+1 - i=f+1:=⟨s.length - i,by omega⟩;grind[sv,ek]
theorem KJ(hs:s.length<=1048576){num:Nat->Option (Int×Nat)}(hn:ot s num)(hc:∀i,i<=s.length->∃(v:Int) (ok:Bool) (j:Nat),(i<=j/\j<=s.length)/\num i=(if ok then some (v,j)else none)/\
 aB tbl 299 [.ptr 0 0] (KA s i) bz (v,ok,s,(j:Int),())):
 ∀(b d:Nat),d+b=33->Rd s (wX num s b) λi r ok j=>aB tbl 206 [.ptr 0 0,.d tI (d:Int)] (KA s i) aG (r,ok,s,(j:Int),())
 |0,d,h=>by
  have:d=33:=by omega
  subst this;have h2:=KU hs 33 T3;have a:Rd s (λ_=>none) _:=h2.imp λi _=>rfl;have c:=Qf hs Ls 33 a;have e:Rd s (λ_=>none) _:=c.imp λi f=>L8 32 3 i f;exact(Qc hs Ls 33 e).imp λi f=>L8 124 4 i f
 |b+1,d,h=>by have g:=xA hn b;have h1:=T2 hs hc d (by omega) (KJ hs hn hc b (d+1) (by omega));have h2:=KU hs d h1;have c:=Qf hs (sX hn g) d h2;exact Qc hs (Cl (sX hn g) (by simp) 3) d c
end
def mw(s:List UInt8)(c:Rx×Int×Unit):Prop:=(∃r,eO r=0/\pat r=s/\c=(r,0,()))\/((∀r,eO r=0->pat r≠s)/\c=(.mk 0 0 0 [],2,()))
theorem AY{r:Rx}(h:eO r=0):eW r=true/\sz r<=64/\KD r<=16:=by obtain⟨h1,h2⟩:=kS h;have:=Yn r 1 0 h;grind
def tR{num:Nat->Option (Int×Nat)}{s:List UInt8}(hn:ot s num){b:Nat}(a:16<=b){r:Rx}(h:eO r=0)(hp:pat r=s):wX num s b 0=some (r,s.length):=by grind[AY,Te]
def mw.zaI{s:List UInt8}(hs:s.length<=1048576){c C:Rx×Int×Unit}(h:mw s c)(h':mw s C):c=C:=by
 obtain⟨num,hn,_⟩:=Zr s hs;rcases h with⟨r,h1,h2,rfl⟩|⟨h1,rfl⟩<;>rcases h' with⟨J,E,I,rfl⟩|⟨E,rfl⟩;.have H:=tR hn (b:=16) (by simp) h1 h2;rw[tR hn (by simp) E I]at H;grind
 all_goals grind
theorem Wq:∀(r:Rx),eW r=true->sz r<=1000->Wo r:=by
 refine hU λk lo b ks d c hs=>?_;obtain⟨nd,a⟩:=fe.1 c;have hl:=za ks;simp only[sz]at hs;have h1:lo=0/\b=0\/0<=lo/\lo<=b/\b<=4294967295:=by
  by_cases e:k=1;.exact .inr (nd.nW e)
  .exact .inl (nd.zero e)
 have f:=nd.known;have g:IntKind.i64.min= -9223372036854775808:=rfl;have h:IntKind.i64.max=9223372036854775807:=rfl;refine⟨⟨by omega,by omega⟩,⟨by omega,by omega⟩,⟨by omega,by omega⟩,ap_ (show ks.length<=1000 by omega) (by decide),(AI ks).2 λr hr=>d r hr (a r hr) (by have:=mO hr;omega)⟩
theorem mw.ok{s:List UInt8}{c:Rx×Int×Unit}(h:mw s c):Wo c.1:=by
 rcases h with⟨r,h1,_,rfl⟩|⟨_,rfl⟩;.grind[AY,Wq]
 .exact⟨by decide,by decide,by decide,by simp,trivial⟩
def vH(s:List UInt8)(hs:s.length<=1048576):∃c:Rx×Int×Unit,mw s c/\aB tbl 99 [.d tS s] [] bX c:=by
 obtain⟨num,hn,hc⟩:=Zr s hs;refine s5 (sh:=bX) (λ_=>rfl) (Ve Ha rfl (λO n=>xpZ (F9 O n s)) (f5 (T1 hs hn hc 33 0 rfl 0 (E_ _)) ?_));cases e:wX num s 33 0 with
 |none=>refine aa ⟨_,rfl,.inr ⟨λr hr hp=>?_,rfl⟩⟩;rw[tR hn (by simp) hr hp]at e;grind|some x=>
  obtain⟨r,j⟩:=x;obtain⟨f,g,k⟩:=xA hn 33 0 r j (E_ _) e;have d:∀a,eO a=0->pat a=s->a=r:=λa h1 h2=>by rw[tR hn (by simp) h1 h2]at e;grind
  show Wp (λn=>i_ (i_ (gm (rY tbl n) 166 [.d .rx (Rx.mk r.out.1 r.out.2.1 r.out.2.2.1 r.out.2.2.2.1)] [] gA) _) _) _;rw[cV];refine ae (aj (F6 r (by omega)) (ae (bq (b:= !(pat r==s)) (λh=>aa ?_) ?_)));.grind
  .refine au (λh=>aa (aa ⟨_,rfl,.inr ⟨λa h1 h2=>?_,rfl⟩⟩)) λh=>aa (aa ⟨_,rfl,.inl ⟨r,?_,?_,?_⟩⟩);.grind
   all_goals grind[cV]
def vC(s:List UInt8)(hs:s.length<=1048576):∃c:Rx×Int×Unit,mw s c/\aB tbl 170 [.d tS s] [] bX c:=by
 obtain⟨num,hn,hc⟩:=XP s hs;refine KB (sh:=bX) ?_;obtain⟨r,ok,j,n,e,a⟩:=KJ hs hn hc 32 1 rfl 0 (E_ _);refine aj a ?_;have f:∀d,eO d=0->pat d=s->d=r/\ok=true/\j=s.length:=λd h1 h2=>by rw[tR hn (by simp) h1 h2]at e;grind
 refine ae (bq (b:=decide (j<s.length)) (λ_=>aa ?_) ?_);.simp
 rw[cV];have l:ok=true->sz r<=1048576:=λh=>by rw[h]at e;have:=xA hn 32 0 r j (E_ _) e;omega
 refine ae (bq (b:=(eO r != 0)) (λh=>?_) ?_)
 .have g:ok=true:=by grind
  exact aj (pd r (l g)) (aa rfl)
 refine ae (bq (b:= !(pat r==s)) (λh=>?_) ?_)
 .have k:eO r=0:=by grind
  obtain⟨h1,h2,_⟩:=AY k;exact aj (BG r h1 (by omega)) (aa rfl)
 refine au (λh=>aa ⟨_,rfl,.inr ⟨λd h1 h2=>?_,rfl⟩⟩) λh=>aa ⟨_,rfl,.inl ⟨r,?_,?_,rfl⟩⟩;all_goals grind
set_option maxRecDepth 100000
open Go Go.Av Go.Ev Go.Pl
def FL{b β:Type}{m:Option b}{a:b}{f:Nat->b->Option β}{Q:β->Prop}(h:m=some a)(k:Wp (λn=>f n a) Q):Wp (λn=>i_ m (f n)) Q:=by grind
open Classical in
noncomputable def gM(s:List UInt8):Int:=if ∃r,eO r=0/\pat r=s then 0 else 2
def Rm{s:List UInt8}{c:Rx×Int×Unit}(h:mw s c):c.2.1=gM s:=by
 unfold gM;rcases h with⟨r,h1,h2,rfl⟩|⟨h1,rfl⟩;.rw[if_pos ⟨r,h1,h2⟩]
 grind
def ji{N:Nat}(s:List UInt8)(hs:s.length<=9223372036854775807)(d:N=197\/N=171:=by decide):aB tbl N [.d tS s] [] aw (nF s,()):=by
 rcases d with rfl|rfl;all_goals
  refine cm ?_;refine ae (mQ (xs:=s) (P:=λc=>EN c=true) (e:=(false,())) (g:=()) (λi a=>?_) ?_ (λh=>?_) λh=>?_);.refine aQ a (aA a ?_);refine ae (bh (b:=decide ((s[i].toNat:Int)<=122)) (λ_=>aa rfl) ?_);refine ae (bq (b:=decide ((s[i].toNat:Int)>=65)&&decide ((s[i].toNat:Int)<=90)) (λ_=>ae (bh (b:=decide ((s[i].toNat:Int)<=90)) (λ_=>aa rfl) (aa rfl))) ?_);refine ae (bq (b:=decide ((s[i].toNat:Int)>=48)&&decide ((s[i].toNat:Int)<=57)) (λ_=>ae (bh (b:=decide ((s[i].toNat:Int)<=57)) (λ_=>aa rfl) (aa rfl))) ?_);refine ae (bq (b:=((s[i].toNat:Int)==45)) (λ_=>aa rfl) (dn ?_ (by rw[ak a hs])));show(!EN s[i])=true↔_;cases EN s[i]<;>simp
  .exact aJ (aa rfl)
  .refine ae (bh (b:=decide ((s.length:Int)<=32)) (λ_=>aa rfl) (aa ?_));have e:nF s=(decide ((s.length:Int)>=1)&&decide ((s.length:Int)<=32)):=by unfold nF;rw[ae_.2 h,Z_];congr 1<;>exact decide_eq_decide.2 (by omega)
   rw[e]
  .refine aa ?_;have e:nF s=false:=by
    unfold nF;cases e:s.all EN;.rfl
    .exact absurd (ae_.1 e) h
   rw[e]
def j4(l:List (List UInt8))(i:Nat)(f:i<l.length)(hl:l.length<=9223372036854775807)(hs:l[i].length<=9223372036854775807): aB tbl 163 [.d (.list tS) ((l.take (I_ (i:Int))).drop 0),.d tS l[i]] [] ar (mc l i,()):=by
 refine cm ?_;rw[am_,y_];have d:mc l i=if nF l[i]=false then 1 else if 0<i/\tP l[i] (l.getD (i - 1) [])=true then 16 else 0:=by grind[mc]
 have a:(l.take i).length=i:=by grind
 refine aj (ji l[i] hs) (au (λh=>aa ?_) λh=>?_);.grind
 refine ae (bh (b:=tP l[i] (l.getD (i - 1) [])) (λc=>?_) (au (λh=>aa ?_) λh=>aa ?_))
 .rw[a]at c⊢;have e:b_ .i64 ((i:Int) - 1)=((i - 1:Nat):Int):=by grind[wrap_i64]
  rw[e];refine io ?_ (aa rfl);grind
 all_goals grind
abbrev yN:Ty:=pr [.list tS,.list tS,.list tS,.list tS]
def dO(s:PS):yN.den:=(s.1.map (·.1),s.2.1.map (·.1),s.2.2.1.map (·.1),s.2.2.2.1.map (·.1),())
def uP{a β:Type}{f:a->β}{l:List a}{i:Nat}(b:i<l.length):(l.take i).map f++[f l[i]]=(l.take (i+1)).map f:=by grind[P_]
def CV(s:PS)(h1:s.1.length<=1048576)(h2:s.2.1.length<=1048576)(c:s.2.2.1.length<=1048576)(d:s.2.2.2.1.length<=1048576):aB tbl 89 [.d yS s] [] nK (dO s,()):=by
 refine cm ?_;have hg:∀{b:Type} {l:List b} {f:b->List UInt8} {i:Nat},i<l.length->l.length<=1048576->decide ((((l.take i).map f).length+1)*16<=140737488355328)=true:=fun{b l f i} a hl=>by grind
 refine ae (aK (N:=s.1.length) (I:=λi t=>t=((i:Int),(s.1.take i).map (·.1),())) rfl (λi t a ht=>?_) λt ht=>?_);.subst ht;refine aQ a (aA a (ao rfl (ao (hg a h1) (ao rfl (aa ?_)))));rw[ak a,uP (f:=λx:PLS=>x.1) a]
 subst ht;refine aJ (aa ?_);rw[h_ (o_ _)];refine ae (aK (N:=s.2.1.length) (I:=λi t=>t=((i:Int),s.1.map (·.1),(s.2.1.take i).map (·.1),())) rfl (λi t a ht=>?_) λt ht=>?_);.subst ht;refine aQ a (aA a (ao rfl (ao (hg a h2) (ao rfl (aa ?_)))));rw[ak a,uP (f:=λx:Z9=>x.1) a]
 subst ht;refine aJ (aa ?_);rw[h_ (o_ _)];refine ae (aK (N:=s.2.2.1.length) (I:=λi t=>t=((i:Int),s.1.map (·.1),s.2.1.map (·.1),(s.2.2.1.take i).map (·.1),())) rfl (λi t a ht=>?_) λt ht=>?_);.subst ht;refine aQ a (aA a (ao rfl (ao (hg a c) (ao rfl (aa ?_)))));rw[ak a,uP (f:=λx:CLS=>x.1) a]
 subst ht;refine aJ (aa ?_);rw[h_ (o_ _)];refine ae (aK (N:=s.2.2.2.1.length) (I:=λi t=>t=((i:Int),s.1.map (·.1),s.2.1.map (·.1),s.2.2.1.map (·.1),(s.2.2.2.1.take i).map (·.1),())) rfl (λi t a ht=>?_) λt ht=>?_);.subst ht;refine aQ a (aA a (ao rfl (ao (hg a d) (ao rfl (aa ?_)))));rw[ak a,uP (f:=λx:IS=>x.1) a]
 subst ht;refine aJ (aa (aa ?_));rw[h_ (o_ _)];rfl
def cH(n a b:Int):aB tbl 167 [.d tI n,.d tI a,.d tI b] [] aw (decide (a<=n)&&decide (n<=b),()):=by refine cm ?_;exact ae (bh (λ_=>aa rfl) (aa rfl))
def j3(l:List (List UInt8))(n:List UInt8)(hl:l.length<=9223372036854775807):aB tbl 236 [.d (.list tS) l,.d tS n] [] aw (l.any (·==n),()):=by
 refine cm (ae (R5 (xs:=l) (p:=(·==n)) (g:=λ_=>(true,())) (e:=()) (λi r c=>?_) ?_ ?_))
 .have a:=(z_.1 c).1;refine aQ a (io c (au (λh=>aa ?_) λh=>aa ?_));.grind
  .rw[if_neg (by grind),ak a hl]
 .exact aJ (aa rfl)
 .cases e:l.find? (·==n)with
  |some r=>have b:l.any (·==n)=true:=af_.2 ⟨r,List.mem_of_find?_eq_some e,List.find?_some (p:=(·==n)) e⟩;rw[b];exact aa rfl|none=>
   have b:l.any (·==n)=false:=by grind
   rw[b];exact aa rfl
def qo(k N a pl:Int)(nm:List UInt8)(nt:Bool):(true ^^ gI yM (k,nm,N,(a,pl,()),nt,()) (k,nm,0,(0,0,()),nt,()))=true↔(N≠0\/a≠0\/pl≠0):=by simp[gI]
def V4(k N a pl:Int)(nm:List UInt8)(nt:Bool):(true ^^ gI yM (k,nm,N,(a,pl,()),nt,()) (k,[],N,(0,0,()),nt,()))=true↔(nm≠[]\/a≠0\/pl≠0):=by simp[gI]
theorem V3(k N a pl:Int)(nm:List UInt8)(nt:Bool):(true ^^ gI yM (k,nm,N,(a,pl,()),nt,()) (k,[],0,(a,pl,()),nt,()))=true↔(nm≠[]\/N≠0):=by simp[gI]
def lS{b:Bool}{P:Prop}(h:b=false)(e:b=true↔P):¬P:=λp=>by rw[e.2 p]at h;cases h
def uS(s:PS)(m:ue)(hs:okD yS s)(D:G1 m.2.2.2.1.1):aB tbl 202 [.d yN (dO s),.d yM m] [] ar (jX s m,()):=by
 obtain⟨k,nm,N,⟨f,pl,⟨⟩⟩,nt,⟨⟩⟩:=m;refine cm ?_;refine ae (ae ?_);have g:(s.1.map (·.1)).length<=9223372036854775807:=by rw[d_];exact hs.1.1
 have j:(s.2.1.map (·.1)).length<=9223372036854775807:=by rw[d_];exact hs.2.1.1
 have l:(s.2.2.1.map (·.1)).length<=9223372036854775807:=by rw[d_];exact hs.2.2.1.1
 by_cases h1:k=1
 .subst h1;rw[nE (.inl rfl)];have c:(s.1.map (·.1)).any (·==nm)=Cc s 1 nm:=by rw[ad_];rfl
  refine aD rfl (aa (aD rfl (au (λh=>aa (aa ?_)) λh=>?_)));.rw[if_pos ((qo _ _ _ _ _ _).1 h)]
  .rw[if_neg (lS h (qo _ _ _ _ _ _))];refine FL (a:=s.1.map (·.1)) rfl (aj (j3 _ nm g) ?_);rw[c];refine au (λh=>aa (aa ?_)) λh=>aa (aa ?_);all_goals grind
 by_cases h2:k=2
 .subst h2;rw[nE (.inr (.inl rfl))];have c:(s.2.1.map (·.1)).any (·==nm)=Cc s 2 nm:=by rw[ad_];rfl
  refine ap rfl (aD rfl (aa (aD rfl (au (λh=>aa (aa ?_)) λh=>?_))));.rw[if_pos ((qo _ _ _ _ _ _).1 h)]
  .rw[if_neg (lS h (qo _ _ _ _ _ _))];refine FL (a:=s.2.1.map (·.1)) rfl (aj (j3 _ nm j) ?_);rw[c];refine au (λh=>aa (aa ?_)) λh=>aa (aa ?_);all_goals grind
 by_cases r:k=3
 .subst r;rw[nE (.inr (.inr rfl))];have c:(s.2.2.1.map (·.1)).any (·==nm)=Cc s 3 nm:=by rw[ad_];rfl
  refine ap rfl (ap rfl (aa (aD rfl (au (λh=>aa (aa ?_)) λh=>?_))));.rw[if_pos ((qo _ _ _ _ _ _).1 h)]
  .rw[if_neg (lS h (qo _ _ _ _ _ _))];refine FL (a:=s.2.2.1.map (·.1)) rfl (aj (j3 _ nm l) ?_);rw[c];refine au (λh=>aa (aa ?_)) λh=>aa (aa ?_);all_goals grind
 refine ap (beq_eq_false_iff_ne.2 h1) (ap (beq_eq_false_iff_ne.2 h2) (aa (ap (beq_eq_false_iff_ne.2 r) ?_)));by_cases y:k=7
 .subst y;rw[Mv];refine aD rfl (ae (bq (b:= !ua (f,pl,())) (λ_=>aj (fQ (f,pl,()) D) (aa rfl)) ?_));refine au (λh=>aa (aa ?_)) λh=>aa (aa ?_)
  .by_cases e:nm≠[]\/N≠0;.grind
   .rw[if_neg e,if_neg];intro h';rcases Bool.or_eq_true_iff.1 h with h|h;all_goals grind[V3]
  .simp only[j_]at h;rw[if_neg (lS h.1 (V3 _ _ _ _ _ _)),if_pos (by grind)]
 refine ap (beq_eq_false_iff_ne.2 y) ?_;have num:∀lo d:Int,(k=4\/k=5\/k=6\/k=8)->VS k=lo->HQ k=d->Wp (λn=>
  bif (true ^^ gI yM (k,nm,N,(f,pl,()),nt,()) (k,([]:List UInt8),N,((0:Int),(0:Int),()),nt,()))then pL ar ((1:Int),())else
  i_ (gm (rY tbl n) 167 [.d tI N,.d tI lo,.d tI d] [] aw) λp=>
  bif (!p.1)then pL ar ((5:Int),())else pL ar ((0:Int),()))
  (λx=>x=some (fW ar (jX s (k,nm,N,(f,pl,()),nt,()),()))):=λlo d C A B=>by
  rw[Mw C,A,B]
  refine au (λh=>aa ?_) λh=>?_
  .rw[if_pos ((V4 _ _ _ _ _ _).1 h)]
  .rw[if_neg (lS h (V4 _ _ _ _ _ _))];refine aj (cH N lo d) (au (λh=>aa ?_) λh=>aa ?_);all_goals grind
 by_cases u:k=4;.subst u;exact aD rfl (aa (num 1 7 (by simp) rfl rfl))
 by_cases w:k=6;.subst w;exact ap rfl (aD rfl (aa (num 0 16777216 (by simp) rfl rfl)))
 by_cases z:k=8;.subst z;exact ap rfl (ap rfl (aD rfl (aa (num 0 2000 (by simp) rfl rfl))))
 by_cases v:k=5;.subst v;exact ap rfl (ap rfl (ap rfl (aD rfl (aa (num 0 4294967295 (by simp) rfl rfl)))))
 refine ap (beq_eq_false_iff_ne.2 u) (ap (beq_eq_false_iff_ne.2 w) (ap (beq_eq_false_iff_ne.2 z) (ap (beq_eq_false_iff_ne.2 v) (aa (aa ?_)))));grind[Mu]
set_option maxRecDepth 100000
theorem EO{a b:sB}:(true ^^ gI yA a b)=true↔¬a=b:=by rw[<-QK];cases gI yA a b<;>simp
def sG(a:sB):aB tbl 203 [.d yA a] [] ar (my a,()):=by
 refine cm ?_;refine ae (ae ?_);by_cases s:a.1<1\/8<a.1;.have g:∀k:Int,1<=k->k<=8->(a.1==k)=false:=λk h1 h2=>beq_eq_false_iff_ne.2 (by omega);refine ap (g 1 (by simp) (by simp)) (ap (g 2 (by simp) (by simp)) (aa (ap (g 4 (by simp) (by simp)) (ap (g 3 (by simp) (by simp)) (ap (g 5 (by simp) (by simp)) ?_)))));refine ae (ap (g 6 (by simp) (by simp)) (aa (ap (g 7 (by simp) (by simp)) (ap (g 8 (by simp) (by simp)) (aa (aa ?_))))));rw[show my a=15 from if_pos s]
 have fin:∀(only:sB) (f:Bool),kB a=only->ki a=f->Wp (λ_=>bif (true ^^ gI yA a only)then pL ar ((1:Int),())else bif (!f)then pL ar ((5:Int),())else pL ar ((0:Int),())) (λx=>x=some (fW ar (my a,()))):=λonly f h1 h2=>by
  have e:my a=if ¬a=only then 1 else if f=false then 5 else 0:=by grind[my]
  rw[e]
  refine au (λh=>aa ?_) λh=>au (λh'=>aa ?_) λh'=>aa ?_
  .rw[if_pos (EO.1 h)]
  .rw[if_neg (λx=>by grind[EO]),if_pos (by grind)]
  .rw[if_neg (λx=>by grind[EO]),if_neg (by grind)]
 have d:∀{k:Int},a.1≠k->(a.1==k)=false:=λh=>beq_eq_false_iff_ne.2 h;have c:∀{k:Int},a.1=k->(a.1==k)=true:=λh=>beq_iff_eq.2 h;by_cases h1:a.1=1;.refine aD (c h1) (aa (aD (c h1) (aj (cH a.2.1 0 4294967295) (aa (fin _ _ ?_ ?_)))));all_goals grind[kB,ki]
 refine ap (d h1) ?_;by_cases h2:a.1=2;.refine aD (c h2) (aa (aD (c h2) (aj (cH a.2.1 0 4294967295) (aa (fin _ _ ?_ ?_)))));all_goals grind[kB,ki]
 refine ap (d h2) (aa ?_);by_cases n:a.1=4;.refine aD (c n) (aj (cH a.2.1 0 4294967295) (aa (fin _ _ ?_ ?_)));all_goals grind[kB,ki]
 refine ap (d n) ?_;by_cases l:a.1=3;.refine aD (c l) (aj (cH a.2.1 0 16777216) (aa (fin _ _ ?_ ?_)));all_goals grind[kB,ki]
 refine ap (d l) ?_;by_cases p:a.1=5;.refine aD (c p) (aa (fin _ _ ?_ ?_));all_goals grind[kB,ki]
 refine ap (d p) (ae ?_);by_cases j:a.1=6;.refine aD (c j) (aa (aD (c j) (aa (fin _ _ ?_ ?_))));all_goals grind[kB,ki]
 refine ap (d j) (aa ?_);by_cases r:a.1=7;.refine aD (c r) (aa (fin _ _ ?_ ?_));all_goals grind[kB,ki]
 refine ap (d r) (aD (c (by omega)) (aj (cH a.2.2.1 1 4294967295) ?_));refine ae (bh (b:=decide (1<=a.2.1)&&decide (a.2.1<=16)) (λ_=>aj (cH a.2.1 1 16) (aa rfl)) (aa (fin _ _ ?_ ?_)));all_goals grind[kB,ki]
def qF(r:Qb):aB tbl 103 [.d yC r] [] ar (ir r,()):=by
 refine cm ?_;refine aj (cH r.2.1 (-1) 65535) (ae (bq (λ_=>aj (cH r.2.2.1 (-1) 65535) (aa rfl)) (au (λh=>aa ?_) λh=>aa ?_)));.rw[show ir r=5 from if_pos (by grind)]
 .rw[show ir r=0 from if_neg (by grind)]
def xx{a:Type}{p:a->Bool}{l:List a}:l.any p=(l.find? p).isSome:=by grind
def vZ(s:PS)(hs:okD yS s)(a:List r8)(t:r8)(n:a.length<=9223372036854775807)(ht:okD yT t):aB tbl 168 [.d yN (dO s),.d (.list yT) a,.d yT t] [] ar (iS s a t,()):=by
 refine cm ?_;refine aj (ji t.1 ht.1) (au (λh=>aa ?_) λh=>?_);.rw[show iS s a t=1 from if_pos (by grind)]
 have hn:¬nF t.1=false:=by grind
 refine ae (R5 (xs:=a) (p:=(·.1==t.1)) (g:=λ_=>((7:Int),())) (e:=()) (λi r b=>?_) ?_ ?_)
 .have d:=(z_.1 b).1;refine aQ d (io b (au (λh=>aa ?_) λh=>aa ?_));.grind
  .rw[if_neg (by grind),ak d n]
 .exact aJ (aa rfl)
 have c:a.any (·.1==t.1)=(a.find? (·.1==t.1)).isSome:=xx;cases e:a.find? (·.1==t.1)with
 |some r=>rw[e]at c;refine aa ?_;grind[iS]|none=>
  rw[e]at c;have v:¬a.any (·.1==t.1)=true:=by grind
  refine au (λh=>aa ?_) λh=>?_;.rw[show iS s a t=4 from by unfold iS;grind]
  have h1:¬t.2.1.length>64:=by grind
  refine ae (lC (l:=t.2.1) (f:=jX s) (enc:=λi=>((i:Int),())) (oB:=λe=>(e,())) (oE:=()) (λi b=>?_) ?_ ?_)
  .refine aQ b (aA b (aj (uS s _ hs ((λm u=>((ht.2.1.2 m u).2.2.2.1).1) _ (a_ b))) (au (λh=>aa ?_) λh=>aa ?_)));.grind
   .rw[if_pos (by grind),ak b]
  .exact aJ (aa rfl)
  by_cases j:b9 (jX s) t.2.1=0
  .rw[if_pos j];refine au (λh=>aa ?_) λh=>?_;.rw[show iS s a t=4 from by unfold iS;grind]
   have h2:¬t.2.2.1.length>64:=by grind
   refine ae (lC (l:=t.2.2.1) (f:=my) (enc:=λi=>((i:Int),())) (oB:=λe=>(e,())) (oE:=()) (λi b=>?_) ?_ ?_)
   .refine aQ b (aA b (aj (sG _) (au (λh=>aa ?_) λh=>aa ?_)));.grind
    .rw[if_pos (by grind),ak b]
   .exact aJ (aa rfl)
   by_cases k:b9 my t.2.2.1=0;.rw[if_pos k];refine aj (cH t.2.2.2.1 1 3) (au (λh=>aa ?_) λh=>aa ?_);all_goals grind[iS]
   .rw[if_neg k];refine aa ?_;rw[show iS s a t=b9 my t.2.2.1 from by unfold iS;grind]
  .rw[if_neg j];refine aa ?_;rw[show iS s a t=b9 (jX s) t.2.1 from by unfold iS;grind]
def ND(s:PS)(l:List r8)(i:Nat):Int:=match l[i]? with|some t=>iS s (l.take i) t|none=>0
def Rn(s:PS)(p:IS):rE s p=if jT (ND s p.2.1) p.2.1.length≠0 then jT (ND s p.2.1) p.2.1.length else if p.2.2.1≠1/\p.2.2.1≠2 then 15 else 0:=rfl
def NE{s:PS}{l:List r8}{i:Nat}(a:i<l.length):ND s l i=iS s (l.take i) l[i]:=by grind[ND]
def sH(s:PS)(hs:okD yS s)(p:IS)(hp:okD yO p):aB tbl 106 [.d yN (dO s),.d yO p] [] ar (rE s p,()):=by
 refine cm ?_;have hl:p.2.1.length<=9223372036854775807:=hp.2.1.1;refine ae (nV (N:=p.2.1.length) (f:=ND s p.2.1) (enc:=λi=>((i:Int),())) (oB:=λe=>(e,())) (oE:=()) (λi a=>?_) ?_ ?_)
 .refine aQ a (aA a (ao (decide_eq_true (by simp)) (ao (by grind) ?_)));rw[am_,y_];refine aj (vZ s hs _ _ (by grind) (hp.2.1.2 _ (a_ a))) ?_;rw[<-NE a];refine au (λh=>aa ?_) λh=>aa ?_;.grind
  .rw[if_pos (by grind),ak a hl]
 .exact aJ (aa rfl)
 rw[Rn];by_cases e:jT (ND s p.2.1) p.2.1.length=0;.rw[if_pos e];refine ae (bh (λ_=>aa rfl) (au (λh=>aa ?_) λh=>aa ?_));all_goals grind
 .rw[if_neg e,if_pos e];exact aa rfl
def XQ(v:List Qj)(b:∀r∈v,G1 r.2.1.1)(i:Nat)(a:i<v.length):aB tbl 94 [.d tI (i:Int),.ptr 0 0] [.box 46 [.d (.list yR) v]] dT (iW v[i],v,()):=by refine cm ?_;exact aA a (aj (vB _ (b _ (a_ a))) (aa rfl))
def XR(v:List XC)(b:∀r∈v,r.2.1.length<=1048576)(i:Nat)(a:i<v.length):aB tbl 98 [.d tI (i:Int),.ptr 0 0] [.box 77 [.d (.list yH) v]] dU (gM v[i].2.1,v,()):=by refine cm ?_;obtain⟨c,h1,h2⟩:=vH v[i].2.1 (b _ (a_ a));rw[<-Rm h1];exact aA a (aj h2 (aa rfl))
def XS(v:List Qb)(b:∀r∈v,True)(i:Nat)(a:i<v.length):aB tbl 102 [.d tI (i:Int),.ptr 0 0] [.box 52 [.d (.list yC) v]] dV (ir v[i],v,()):=by refine cm ?_;exact aA a (aj (qF _) (aa rfl))
def T5(v:List Qj)(hl:v.length<=9223372036854775807)(b:∀r∈v,G1 r.2.1.1):aB tbl 93 [.d tI (v.length:Int),.kT wd [0]] [.box 46 [.d (.list yR) v]] dT (b9 iW v,v,()):=by
 refine cm ?_;refine ae (lC (l:=v) (f:=iW) (enc:=λi=>((i:Int),v,())) (oB:=λe=>(e,v,())) (oE:=(v,())) (λi a=>?_) ?_ ?_)
 .refine aQ a (aj (XQ v b i a) (au (λh=>aa ?_) λh=>aa ?_));.rw[if_neg (by simpa using h)]
  .rw[if_pos (by simpa using h),ak a hl]
 .exact aJ (aa rfl)
 by_cases e:b9 iW v=0;.rw[if_pos e];refine aa ?_;rw[e]
 .rw[if_neg e];exact aa rfl
def T6(v:List XC)(hl:v.length<=9223372036854775807)(b:∀r∈v,r.2.1.length<=1048576):aB tbl 10093 [.d tI (v.length:Int),.kT we [0]] [.box 77 [.d (.list yH) v]] dU (b9 (λr=>gM r.2.1) v,v,()):=by
 refine cm ?_;refine ae (lC (l:=v) (f:=(λr=>gM r.2.1)) (enc:=λi=>((i:Int),v,())) (oB:=λe=>(e,v,())) (oE:=(v,())) (λi a=>?_) ?_ ?_)
 .refine aQ a (aj (XR v b i a) (au (λh=>aa ?_) λh=>aa ?_));.rw[if_neg (by simpa using h)]
  .rw[if_pos (by simpa using h),ak a hl]
 .exact aJ (aa rfl)
 by_cases e:b9 (λr=>gM r.2.1) v=0;.rw[if_pos e];refine aa ?_;rw[e]
 .rw[if_neg e];exact aa rfl
def T7(v:List Qb)(hl:v.length<=9223372036854775807)(b:∀r∈v,True):aB tbl 20093 [.d tI (v.length:Int),.kT wg [0]] [.box 52 [.d (.list yC) v]] dV (b9 ir v,v,()):=by
 refine cm ?_;refine ae (lC (l:=v) (f:=ir) (enc:=λi=>((i:Int),v,())) (oB:=λe=>(e,v,())) (oE:=(v,())) (λi a=>?_) ?_ ?_)
 .refine aQ a (aj (XS v b i a) (au (λh=>aa ?_) λh=>aa ?_));.rw[if_neg (by simpa using h)]
  .rw[if_pos (by simpa using h),ak a hl]
 .exact aJ (aa rfl)
 by_cases e:b9 ir v=0;.rw[if_pos e];refine aa ?_;rw[e]
 .rw[if_neg e];exact aa rfl
theorem xN{a:Type}{nm:a->List UInt8}{sz:a->Nat}{ck:a->Int}{l:List a}{i:Nat}(b:i<l.length):FN nm sz ck l i=if mc (l.map nm) i≠0 then mc (l.map nm) i else if sz l[i]>64 then 4 else ck l[i]:=by grind[FN]
def zbZ{s:PS}(h:C4 s){i:Nat}(a:i<s.1.length):s.1[i].2.1.length<=9223372036854775807/\∀r∈s.1[i].2.1,G1 r.2.1.1:=⟨(h.ok.1.2 _ (a_ a)).2.1.1,λr hr=>((h.ok.1.2 _ (a_ a)).2.1.2 r hr).2.1.1⟩
def zb0{s:PS}(h:C4 s){i:Nat}(a:i<s.2.1.length):s.2.1[i].2.1.length<=9223372036854775807/\∀r∈s.2.1[i].2.1,r.2.1.length<=1048576:=⟨(h.ok.2.1.2 _ (a_ a)).2.1.1,λr hr=>h.pt _ (a_ a) r hr⟩
def zb1{s:PS}(h:C4 s){i:Nat}(a:i<s.2.2.1.length):s.2.2.1[i].2.1.length<=9223372036854775807/\∀r∈s.2.2.1[i].2.1,True:=⟨(h.ok.2.2.1.2 _ (a_ a)).2.1.1,λ_ _=>trivial⟩
def zcI{s:PS}(h:C4 s){i:Nat}(a:i<s.1.length):s.1[i].1.length<=9223372036854775807:=(h.ok.1.2 _ (a_ a)).1
def zcJ{s:PS}(h:C4 s){i:Nat}(a:i<s.2.1.length):s.2.1[i].1.length<=9223372036854775807:=(h.ok.2.1.2 _ (a_ a)).1
def zcK{s:PS}(h:C4 s){i:Nat}(a:i<s.2.2.1.length):s.2.2.1[i].1.length<=9223372036854775807:=(h.ok.2.2.1.2 _ (a_ a)).1
theorem zcL{s:PS}(h:C4 s){i:Nat}(a:i<s.2.2.2.1.length):s.2.2.2.1[i].1.length<=9223372036854775807:=(h.ok.2.2.2.1.2 _ (a_ a)).1
abbrev TR(s:PS):Ob:=.box 27 [.d (.list yL) s.1,.d (.list yG) s.2.1,.d (.list yD) s.2.2.1,.d (.list yO) s.2.2.2.1]
def XU(s:PS)(i:Nat)(a:i<s.1.length):aB tbl 91 [.d tI (i:Int),.ptr 0 0] [TR s] aT ((s.1[i].2.1.length:Int),s.1,s.2.1,s.2.2.1,s.2.2.2.1,()):=by refine cm ?_;exact aA a (aa rfl)
def UB(s:PS)(hs:C4 s)(i:Nat)(a:i<s.1.length):aB tbl 92 [.d tI (i:Int),.ptr 0 0] [TR s] aT (b9 iW s.1[i].2.1,s.1,s.2.1,s.2.2.1,s.2.2.2.1,()):=by refine cm ?_;refine aA a (aj (T5 _ (zbZ hs a).1 (zbZ hs a).2) (aa rfl))
def XJ(s:PS)(hs:C4 s):aB tbl 90 [.d (.list tS) (s.1.map (·.1)),.kT zx [0],.kT zz [0]] [TR s] aT (fg (·.1) (λl=>l.2.1.length) (λl=>b9 iW l.2.1) s.1,s.1,s.2.1,s.2.2.1,s.2.2.2.1,()):=by
 refine cm ?_;refine au (λh=>aa ?_) λh=>?_;.rw[show fg (·.1) (λl=>l.2.1.length) (λl=>b9 iW l.2.1) s.1=4 from if_pos (by have:=of_decide_eq_true h;rw[d_]at this;omega)]
 have d:¬s.1.length>64:=by have:=of_decide_eq_false h;rw[d_]at this;omega
 rw[show fg (·.1) (λl=>l.2.1.length) (λl=>b9 iW l.2.1) s.1=jT (FN (·.1) (λl=>l.2.1.length) (λl=>b9 iW l.2.1) s.1) (s.1.map (·.1)).length from by unfold fg;rw[if_neg d,d_]];generalize g:FN (·.1) (λl=>l.2.1.length) (λl=>b9 iW l.2.1) s.1=E;refine ae (nV (N:=(s.1.map (·.1)).length) (f:=E) (enc:=λi=>((i:Int),s.1,s.2.1,s.2.2.1,s.2.2.2.1,())) (oB:=λe=>(e,s.1,s.2.1,s.2.2.1,s.2.2.2.1,())) (oE:=(s.1,s.2.1,s.2.2.1,s.2.2.2.1,())) (λi c=>?_) ?_ ?_)
 .have a:i<s.1.length:=by rw[d_]at c;exact c
  have b:E i=if mc (s.1.map (·.1)) i≠0 then mc (s.1.map (·.1)) i else if s.1[i].2.1.length>64 then 4 else b9 iW s.1[i].2.1:=by rw[<-g];exact xN a
  refine aQ c (aA c (ao (decide_eq_true (by omega)) (ao (by simp;omega) ?_)));refine aj (j4 _ i c (by rw[d_];omega) (by rw[R_];exact zcI hs a)) ?_;refine au (λh=>aa ?_) λh=>?_
  .have h:mc (s.1.map (·.1)) i≠0:=by simpa using h
   rw[if_pos h]at b;rw[b,if_neg h]
  rw[if_neg (by simpa using h)]at b;refine aj (XU s i a) (au (λh=>aa ?_) λh=>?_);.have h:decide ((s.1[i].2.1.length:Int)>64)=true:=h;rw[if_pos (by have:=of_decide_eq_true h;omega)]at b;rw[b,if_neg (by decide)]
  have h:decide ((s.1[i].2.1.length:Int)>64)=false:=h;rw[if_neg (by have:=of_decide_eq_false h;omega)]at b;refine aj (UB s hs i a) (au (λh=>aa ?_) λh=>aa ?_);.rw[b,if_neg (by simpa using h)]
  .rw[b,if_pos (by simpa using h),ak a]
 .exact aJ (aa rfl)
 by_cases e:jT E (s.1.map (·.1)).length=0;.rw[if_pos e];refine aa ?_;rw[e]
 .rw[if_neg e];exact aa rfl
def XV(s:PS)(i:Nat)(a:i<s.2.1.length):aB tbl 96 [.d tI (i:Int),.ptr 0 0] [TR s] aT ((s.2.1[i].2.1.length:Int),s.1,s.2.1,s.2.2.1,s.2.2.2.1,()):=by refine cm ?_;exact aA a (aa rfl)
def UC(s:PS)(hs:C4 s)(i:Nat)(a:i<s.2.1.length):aB tbl 97 [.d tI (i:Int),.ptr 0 0] [TR s] aT (b9 (λr=>gM r.2.1) s.2.1[i].2.1,s.1,s.2.1,s.2.2.1,s.2.2.2.1,()):=by refine cm ?_;refine aA a (aj (T6 _ (zb0 hs a).1 (zb0 hs a).2) (aa rfl))
def XK(s:PS)(hs:C4 s):aB tbl 10090 [.d (.list tS) (s.2.1.map (·.1)),.kT zB [0],.kT zC [0]] [TR s] aT (fg (·.1) (λl=>l.2.1.length) (λl=>b9 (λr=>gM r.2.1) l.2.1) s.2.1,s.1,s.2.1,s.2.2.1,s.2.2.2.1,()):=by
 refine cm ?_;refine au (λh=>aa ?_) λh=>?_;.rw[show fg (·.1) (λl=>l.2.1.length) (λl=>b9 (λr=>gM r.2.1) l.2.1) s.2.1=4 from if_pos (by have:=of_decide_eq_true h;rw[d_]at this;omega)]
 have d:¬s.2.1.length>64:=by have:=of_decide_eq_false h;rw[d_]at this;omega
 rw[show fg (·.1) (λl=>l.2.1.length) (λl=>b9 (λr=>gM r.2.1) l.2.1) s.2.1=jT (FN (·.1) (λl=>l.2.1.length) (λl=>b9 (λr=>gM r.2.1) l.2.1) s.2.1) (s.2.1.map (·.1)).length from by unfold fg;rw[if_neg d,d_]];generalize g:FN (·.1) (λl=>l.2.1.length) (λl=>b9 (λr=>gM r.2.1) l.2.1) s.2.1=E;refine ae (nV (N:=(s.2.1.map (·.1)).length) (f:=E) (enc:=λi=>((i:Int),s.1,s.2.1,s.2.2.1,s.2.2.2.1,())) (oB:=λe=>(e,s.1,s.2.1,s.2.2.1,s.2.2.2.1,())) (oE:=(s.1,s.2.1,s.2.2.1,s.2.2.2.1,())) (λi c=>?_) ?_ ?_)
 .have a:i<s.2.1.length:=by rw[d_]at c;exact c
  have b:E i=if mc (s.2.1.map (·.1)) i≠0 then mc (s.2.1.map (·.1)) i else if s.2.1[i].2.1.length>64 then 4 else b9 (λr=>gM r.2.1) s.2.1[i].2.1:=by rw[<-g];exact xN a
  refine aQ c (aA c (ao (decide_eq_true (by omega)) (ao (by simp;omega) ?_)));refine aj (j4 _ i c (by rw[d_];omega) (by rw[R_];exact zcJ hs a)) ?_;refine au (λh=>aa ?_) λh=>?_
  .have h:mc (s.2.1.map (·.1)) i≠0:=by simpa using h
   rw[if_pos h]at b;rw[b,if_neg h]
  rw[if_neg (by simpa using h)]at b;refine aj (XV s i a) (au (λh=>aa ?_) λh=>?_);.have h:decide ((s.2.1[i].2.1.length:Int)>64)=true:=h;rw[if_pos (by have:=of_decide_eq_true h;omega)]at b;rw[b,if_neg (by decide)]
  have h:decide ((s.2.1[i].2.1.length:Int)>64)=false:=h;rw[if_neg (by have:=of_decide_eq_false h;omega)]at b;refine aj (UC s hs i a) (au (λh=>aa ?_) λh=>aa ?_);.rw[b,if_neg (by simpa using h)]
  .rw[b,if_pos (by simpa using h),ak a]
 .exact aJ (aa rfl)
 by_cases e:jT E (s.2.1.map (·.1)).length=0;.rw[if_pos e];refine aa ?_;rw[e]
 .rw[if_neg e];exact aa rfl
def XW(s:PS)(i:Nat)(a:i<s.2.2.1.length):aB tbl 100 [.d tI (i:Int),.ptr 0 0] [TR s] aT ((s.2.2.1[i].2.1.length:Int),s.1,s.2.1,s.2.2.1,s.2.2.2.1,()):=by refine cm ?_;exact aA a (aa rfl)
def UD(s:PS)(hs:C4 s)(i:Nat)(a:i<s.2.2.1.length):aB tbl 101 [.d tI (i:Int),.ptr 0 0] [TR s] aT (b9 ir s.2.2.1[i].2.1,s.1,s.2.1,s.2.2.1,s.2.2.2.1,()):=by refine cm ?_;refine aA a (aj (T7 _ (zb1 hs a).1 (zb1 hs a).2) (aa rfl))
def XL(s:PS)(hs:C4 s):aB tbl 20090 [.d (.list tS) (s.2.2.1.map (·.1)),.kT zH [0],.kT zI [0]] [TR s] aT (fg (·.1) (λl=>l.2.1.length) (λl=>b9 ir l.2.1) s.2.2.1,s.1,s.2.1,s.2.2.1,s.2.2.2.1,()):=by
 refine cm ?_;refine au (λh=>aa ?_) λh=>?_;.rw[show fg (·.1) (λl=>l.2.1.length) (λl=>b9 ir l.2.1) s.2.2.1=4 from if_pos (by have:=of_decide_eq_true h;rw[d_]at this;omega)]
 have d:¬s.2.2.1.length>64:=by have:=of_decide_eq_false h;rw[d_]at this;omega
 rw[show fg (·.1) (λl=>l.2.1.length) (λl=>b9 ir l.2.1) s.2.2.1=jT (FN (·.1) (λl=>l.2.1.length) (λl=>b9 ir l.2.1) s.2.2.1) (s.2.2.1.map (·.1)).length from by unfold fg;rw[if_neg d,d_]];generalize g:FN (·.1) (λl=>l.2.1.length) (λl=>b9 ir l.2.1) s.2.2.1=E;refine ae (nV (N:=(s.2.2.1.map (·.1)).length) (f:=E) (enc:=λi=>((i:Int),s.1,s.2.1,s.2.2.1,s.2.2.2.1,())) (oB:=λe=>(e,s.1,s.2.1,s.2.2.1,s.2.2.2.1,())) (oE:=(s.1,s.2.1,s.2.2.1,s.2.2.2.1,())) (λi c=>?_) ?_ ?_)
 .have a:i<s.2.2.1.length:=by rw[d_]at c;exact c
  have b:E i=if mc (s.2.2.1.map (·.1)) i≠0 then mc (s.2.2.1.map (·.1)) i else if s.2.2.1[i].2.1.length>64 then 4 else b9 ir s.2.2.1[i].2.1:=by rw[<-g];exact xN a
  refine aQ c (aA c (ao (decide_eq_true (by omega)) (ao (by simp;omega) ?_)));refine aj (j4 _ i c (by rw[d_];omega) (by rw[R_];exact zcK hs a)) ?_;refine au (λh=>aa ?_) λh=>?_
  .have h:mc (s.2.2.1.map (·.1)) i≠0:=by simpa using h
   rw[if_pos h]at b;rw[b,if_neg h]
  rw[if_neg (by simpa using h)]at b;refine aj (XW s i a) (au (λh=>aa ?_) λh=>?_);.have h:decide ((s.2.2.1[i].2.1.length:Int)>64)=true:=h;rw[if_pos (by have:=of_decide_eq_true h;omega)]at b;rw[b,if_neg (by decide)]
  have h:decide ((s.2.2.1[i].2.1.length:Int)>64)=false:=h;rw[if_neg (by have:=of_decide_eq_false h;omega)]at b;refine aj (UD s hs i a) (au (λh=>aa ?_) λh=>aa ?_);.rw[b,if_neg (by simpa using h)]
  .rw[b,if_pos (by simpa using h),ak a]
 .exact aJ (aa rfl)
 by_cases e:jT E (s.2.2.1.map (·.1)).length=0;.rw[if_pos e];refine aa ?_;rw[e]
 .rw[if_neg e];exact aa rfl
abbrev bxN(s:PS):Ob:=.box 162 [.d (.list tS) (dO s).1,.d (.list tS) (dO s).2.1,.d (.list tS) (dO s).2.2.1,.d (.list tS) (dO s).2.2.2.1]
def XX(s:PS)(i:Nat)(a:i<s.2.2.2.1.length):aB tbl 104 [.d tI (i:Int),.ptr 0 0] [TR s] aT ((s.2.2.2.1[i].2.1.length:Int),s.1,s.2.1,s.2.2.1,s.2.2.2.1,()):=by refine cm ?_;exact aA a (aa rfl)
def UE(s:PS)(hs:C4 s)(i:Nat)(a:i<s.2.2.2.1.length):aB tbl 105 [.d tI (i:Int),.ptr 0 0,.ptr 1 0] [bxN s,TR s] iy (rE s s.2.2.2.1[i],(dO s).1,(dO s).2.1,(dO s).2.2.1,(dO s).2.2.2.1,s.1,s.2.1,s.2.2.1,s.2.2.2.1,()):=by refine cm ?_;exact aA a (aj (sH s hs.ok _ (hs.ok.2.2.2.1.2 _ (a_ a))) (aa rfl))
def XM(s:PS)(hs:C4 s):aB tbl 30090 [.d (.list tS) (s.2.2.2.1.map (·.1)),.kT zJ [0],.kT zK [1,0]] [TR s,bxN s] iz (fg (·.1) (λp=>p.2.1.length) (rE s) s.2.2.2.1,s.1,s.2.1,s.2.2.1,s.2.2.2.1,(dO s).1,(dO s).2.1,(dO s).2.2.1,(dO s).2.2.2.1,()):=by
 refine cm ?_;refine au (λh=>aa ?_) λh=>?_;.rw[show fg (·.1) (λp=>p.2.1.length) (rE s) s.2.2.2.1=4 from if_pos (by grind)]
 have c:¬s.2.2.2.1.length>64:=by grind
 rw[show fg (·.1) (λp=>p.2.1.length) (rE s) s.2.2.2.1=jT (FN (·.1) (λp=>p.2.1.length) (rE s) s.2.2.2.1) (s.2.2.2.1.map (·.1)).length from by unfold fg;grind];generalize g:FN (·.1) (λp=>p.2.1.length) (rE s) s.2.2.2.1=E;refine ae (nV (N:=(s.2.2.2.1.map (·.1)).length) (f:=E) (enc:=λi=>((i:Int),s.1,s.2.1,s.2.2.1,s.2.2.2.1,(dO s).1,(dO s).2.1,(dO s).2.2.1,(dO s).2.2.2.1,())) (oB:=λe=>(e,s.1,s.2.1,s.2.2.1,s.2.2.2.1,(dO s).1,(dO s).2.1,(dO s).2.2.1,(dO s).2.2.2.1,())) (oE:=(s.1,s.2.1,s.2.2.1,s.2.2.2.1,(dO s).1,(dO s).2.1,(dO s).2.2.1,(dO s).2.2.2.1,())) (λi b=>?_) ?_ ?_)
 .have a:i<s.2.2.2.1.length:=by grind
  have d:E i=if mc (s.2.2.2.1.map (·.1)) i≠0 then mc (s.2.2.2.1.map (·.1)) i else if s.2.2.2.1[i].2.1.length>64 then 4 else rE s s.2.2.2.1[i]:=by rw[<-g];grind[xN]
  refine aQ b (aA b (ao (decide_eq_true (by simp)) (ao (by grind) ?_)));refine aj (j4 _ i b (by grind) (by grind[zcL])) ?_;refine au (λh=>aa ?_) λh=>?_;.grind
  refine aj (XX s i a) (au (λh=>aa ?_) λh=>?_);.grind
  refine aj (UE s hs i a) (au (λh=>aa ?_) λh=>aa ?_);.grind
  .rw[d,if_pos (by grind),ak a]
 .exact aJ (aa rfl)
 by_cases e:jT E (s.2.2.2.1.map (·.1)).length=0;.rw[if_pos e];refine aa ?_;rw[e]
 .rw[if_neg e];exact aa rfl
def CU(s:PS)(hs:C4 s):aB tbl 36 [.d yS s] [] ar (wZ gM s,()):=by
 refine cm (aj (CV s hs.l1 hs.l2 hs.l3 hs.l4) (ao rfl (aj (XJ s hs) ?_)));generalize g:fg (·.1) (λl=>l.2.1.length) (λl=>b9 iW l.2.1) s.1=b;generalize j:fg (·.1) (λl=>l.2.1.length) (λl=>b9 (λr=>gM r.2.1) l.2.1) s.2.1=c;generalize k:fg (·.1) (λl=>l.2.1.length) (λl=>b9 ir l.2.1) s.2.2.1=d;have hp:wZ gM s=if b≠0 then b else if c≠0 then c else if d≠0 then d else fg (·.1) (λp=>p.2.1.length) (rE s) s.2.2.2.1:=by grind[wZ]
 have e:=XK s hs;have f:=XL s hs;refine au (λh=>aa ?_) λh=>ao rfl (aj e (au (λh'=>aa ?_) λh'=>ao rfl (aj f (au (λa=>aa ?_) λa=>ao rfl (aj (XM s hs) (aa ?_))))));.grind
 all_goals grind
set_option maxRecDepth 100000
def xq(r:Qb):aB tbl 131 [.d yC r] [] ar (ir r,()):=by
 refine cm (ae (bq (λ_=>aa rfl) (ae (bq (λ_=>aa rfl) (ae (bq (λ_=>aa rfl) (au (λh=>aa ?_) λh=>aa ?_)))))));.rw[show ir r=5 from if_pos (by grind)]
 .rw[show ir r=0 from if_neg (by grind)]
def O5(k:Int):Bool:=decide (k=4\/k=5\/k=6\/k=8)
def IF(k:Int):∃lo g:Int,(O5 k=true->lo=VS k/\g=HQ k)/\aB tbl 129 [.d tI k] [] rG (lo,g,O5 k,()):=by
 have a:∀{j:Int},k≠j->(k==j)=false:=λh=>beq_eq_false_iff_ne.2 h;by_cases b:k=4;.subst b;refine⟨1,7,λ_=>⟨rfl,rfl⟩,cm ?_⟩;exact aD rfl (aa rfl)
 by_cases c:k=5;.subst c;refine⟨0,4294967295,λ_=>⟨rfl,rfl⟩,cm ?_⟩;exact ap rfl (aD rfl (aa rfl))
 by_cases d:k=6;.subst d;refine⟨0,16777216,λ_=>⟨rfl,rfl⟩,cm ?_⟩;exact ap rfl (ap rfl (aD rfl (aa rfl)))
 by_cases f:k=8;.subst f;refine⟨0,2000,λ_=>⟨rfl,rfl⟩,cm ?_⟩;exact ap rfl (ap rfl (ap rfl (aD rfl (aa rfl))))
 have e:O5 k=false:=decide_eq_false (by omega);rw[e];refine⟨0,0,(λh=>by grind),cm ?_⟩;exact ap (a b) (ap (a c) (ap (a d) (ap (a f) (aa rfl))))
def dH(s:PS)(n:List UInt8):Option PLS:=s.1.find? (·.1==n)
def pQ(s:PS)(n:List UInt8)(hl:s.1.length<=9223372036854775807):aB tbl 141 [.d yS s,.d tS n] [] lg ((dH s n).getD ([],[],()),(dH s n).isSome,()):=by
 refine cm ?_;refine ae (kI (xs:=s.1) (p:=(·.1==n)) (enc:=λi=>((i:Int),([]:List UInt8),())) (g:=λx=>(true,x.1,x.2.1,())) (e:=(([]:List UInt8),())) (λi a=>?_) ?_ ?_)
 .refine aQ a (aA a (au (λh=>aa ?_) λh=>aa ?_));.rw[if_pos h]
  .rw[if_neg (by simp[h]),ak a hl]
 .exact aJ (aa rfl)
 .unfold dH;cases s.1.find? (·.1==n)with|some r=>exact aa rfl|none=>exact aa rfl
def km(s:PS)(n:List UInt8):Option Z9:=s.2.1.find? (·.1==n)
def vE(s:PS)(n:List UInt8)(hl:s.2.1.length<=9223372036854775807):aB tbl 142 [.d yS s,.d tS n] [] pJ ((km s n).getD ([],[],()),(km s n).isSome,()):=by
 refine cm ?_;refine ae (kI (xs:=s.2.1) (p:=(·.1==n)) (enc:=λi=>((i:Int),([]:List UInt8),())) (g:=λx=>(true,x.1,x.2.1,())) (e:=(([]:List UInt8),())) (λi a=>?_) ?_ ?_)
 .refine aQ a (aA a (au (λh=>aa ?_) λh=>aa ?_));.rw[if_pos h]
  .rw[if_neg (by simp[h]),ak a hl]
 .exact aJ (aa rfl)
 .unfold km;cases s.2.1.find? (·.1==n)with|some r=>exact aa rfl|none=>exact aa rfl
def cp(s:PS)(n:List UInt8):Option CLS:=s.2.2.1.find? (·.1==n)
def mf(s:PS)(n:List UInt8)(hl:s.2.2.1.length<=9223372036854775807):aB tbl 144 [.d yS s,.d tS n] [] iZ ((cp s n).getD ([],[],()),(cp s n).isSome,()):=by
 refine cm ?_;refine ae (kI (xs:=s.2.2.1) (p:=(·.1==n)) (enc:=λi=>((i:Int),([]:List UInt8),())) (g:=λx=>(true,x.1,x.2.1,())) (e:=(([]:List UInt8),())) (λi a=>?_) ?_ ?_)
 .refine aQ a (aA a (au (λh=>aa ?_) λh=>aa ?_));.rw[if_pos h]
  .rw[if_neg (by simp[h]),ak a hl]
 .exact aJ (aa rfl)
 .unfold cp;cases s.2.2.1.find? (·.1==n)with|some r=>exact aa rfl|none=>exact aa rfl
def zap{s:PS}{n:List UInt8}:Cc s 1 n=(dH s n).isSome:=by unfold Cc dH;rw[if_pos rfl,xx]
def zaq{s:PS}{n:List UInt8}:Cc s 2 n=(km s n).isSome:=by unfold Cc km;rw[if_neg (by decide),if_pos rfl,xx]
def zar{s:PS}{n:List UInt8}:Cc s 3 n=(cp s n).isSome:=by unfold Cc cp;grind
def F4(s:PS)(m:ue)(hs:okD yS s)(u:G1 m.2.2.2.1.1):aB tbl 172 [.d yS s,.d yM m] [] ar (jX s m,()):=by
 obtain⟨k,nm,N,⟨d,pl,⟨⟩⟩,nt,⟨⟩⟩:=m;refine cm ?_;refine ae (bq (b:=decide (k>8)) (λ_=>aa rfl) (au (λh=>aa ?_) λh=>?_));.grind[Mu]
 have x:1<=k/\k<=8:=by grind
 obtain⟨lo,w,l,hc⟩:=IF k;refine aj hc (ae (bh (b:= !(nm==[])) (λ_=>aa rfl) ?_));refine ae (bq (b:= !O5 k&&(N != 0)) (λ_=>ae (bh (b:=(N != 0)) (λ_=>aa rfl) (aa rfl))) ?_);refine ae (bq (b:=(k != 7)&&(true ^^ gI yP (d,pl,()) (0,0,()))) (λ_=>ae (bh (b:=(true ^^ gI yP (d,pl,()) (0,0,()))) (λ_=>aa rfl) (aa rfl))) ?_);have v:(true ^^ gI yP (d,pl,()) (0,0,()))= !(d==0&&pl==0):=by show(true ^^ ((d==0)&&((pl==0)&&true)))=_;simp
 rw[v];have n:ua ((0:Int),(0:Int),())=true:=by decide
 have c:∀{j:Int},k≠j->(k==j)=false:=λh=>beq_eq_false_iff_ne.2 h;by_cases hn:k=1\/k=2\/k=3
 .rw[nE hn];have f:decide (k<=3)=true:=decide_eq_true (by omega);have e:O5 k=false:=decide_eq_false (by omega);have g:(k != 7)=true:=bne_iff_ne.2 (by omega);rw[f,e,g];simp only[ao_,ak_,al_,Z_,Bool.false_or];refine au (λh=>aa ?_) λh=>?_;.grind
  simp at h;obtain⟨rfl,rfl,rfl⟩:=h;rw[if_neg (by simp)];refine ae (Wp.imp (Q:=λr=>r=(Cc s k nm,())) ?_ λr hr=>?_)
  .rcases hn with rfl|rfl|rfl;.rw[zap];exact aD rfl (aj (pQ s nm hs.1.1) (aa rfl))
   .rw[zaq];exact ap rfl (aD rfl (aj (vE s nm hs.2.1.1) (aa rfl)))
   .rw[zar];exact ap rfl (ap rfl (aD rfl (aj (mf s nm hs.2.2.1.1) (aa rfl))))
  .subst hr;refine au (λh=>aa ?_) λh=>ae (aa (ap rfl (aj (fQ ((0:Int),(0:Int),()) (by omega)) ?_)));.grind
   .rw[n];refine ap rfl (aa ?_);grind
 by_cases p:k=7
 .subst p;rw[Mv];refine au (λh=>aa ?_) λh=>?_;.grind
  simp[O5]at h;obtain⟨rfl,rfl⟩:=h;rw[if_neg (by simp)];refine ae (ap rfl (ap rfl (ap rfl (aa (ap rfl (ae (aa (aj (fQ (d,pl,()) u) ?_))))))));refine au (λh=>aa ?_) λh=>aa ?_;all_goals grind
 have a:k=4\/k=5\/k=6\/k=8:=by omega
 rw[Mw a];have f:decide (k<=3)=false:=decide_eq_false (by omega);have e:O5 k=true:=decide_eq_true a;have g:(k != 7)=true:=bne_iff_ne.2 p;obtain⟨rfl,rfl⟩:=l e;rw[f,e,g];simp only[ao_,ak_,al_,Z_,Bool.or_false];refine au (λh=>aa ?_) λh=>?_;.grind
 simp at h;obtain⟨rfl,rfl,rfl⟩:=h;refine ae (ap (c (by omega)) (ap (c (by omega)) (ap (c (by omega)) (aa (ap rfl ?_)))));refine ae (ae (bq (b:=decide (N>HQ k)) (λ_=>aa rfl) (aa ?_)));refine au (λh=>aa ?_) λh=>aj (fQ ((0:Int),(0:Int),()) (by omega)) ?_;.grind
 .refine ap rfl (aa ?_);grind
def CY(a:sB):aB tbl 62 [.d yA a] [] ar (my a,()):=by
 refine cm ?_;refine ae (ae ?_);by_cases y:a.1<1\/8<a.1;.have g:∀k:Int,1<=k->k<=8->(a.1==k)=false:=λk h1 h2=>beq_eq_false_iff_ne.2 (by omega);refine ap (g 1 (by simp) (by simp)) (ap (g 2 (by simp) (by simp)) (aa (ap (g 4 (by simp) (by simp)) (ap (g 3 (by simp) (by simp)) (ap (g 5 (by simp) (by simp)) ?_)))));refine ae (ap (g 6 (by simp) (by simp)) (aa (ap (g 7 (by simp) (by simp)) (ap (g 8 (by simp) (by simp)) (aa (aa ?_))))));rw[show my a=15 from if_pos y]
 have fin:∀(only:sB) (c:Int),kB a=only->(a=only->((a.2.1<0\/c<a.2.1\/(a.1=5/\a.2.2.2.2.1=0)\/(a.1=8/\(a.2.1<1\/a.2.2.1<1\/a.2.2.1>4294967295)))↔ki a=false))->Wp (λ_=>bif (true ^^ gI yA a only)then pL ar ((1:Int),())else i_ (bif decide (a.2.1<(0:Int))then some (true)else some (decide (a.2.1>c))) λB=>bif B then pL ar ((5:Int),())else i_ (bif (a.1==(5:Int))then some ((a.2.2.2.2.1==(0:Int)))else some (false)) λC=>i_ (bif C then some (true)else i_ (bif (a.1==(8:Int))then i_ (bif decide (a.2.1<(1:Int))then some (true)else some (decide (a.2.2.1<(1:Int)))) λD=>i_ (bif D then some (true)else some (decide (a.2.2.1>(4294967295:Int)))) λE=>some (E)else some (false)) λF=>some (F)) λp=>bif p then pL ar ((5:Int),())else pL ar ((0:Int),())) (λx=>x=some (fW ar (my a,()))):=λonly c h1 h2=>by
  have e:my a=if ¬a=only then 1 else if ki a=false then 5 else 0:=by grind[my]
  rw[e]
  refine au (λh=>aa ?_) λh=>?_
  .rw[if_pos (EO.1 h)]
  have j:a=only:=g_ λx=>by grind[EO]
  have h2:=h2 j
  rw[if_neg (not_not_intro j)]
  refine ae (bq (b:=decide (a.2.1>c)) (λ_=>aa rfl) (au (λh=>aa ?_) λh=>?_))
  .grind
  refine ae (bh (b:=(a.2.2.2.2.1==0)) (λ_=>aa rfl) ?_)
  refine ae (bq (b:=(a.1==8)&&((decide (a.2.1<1)||decide (a.2.2.1<1))||decide (a.2.2.1>4294967295))) (λ_=>ae (bh (b:=(decide (a.2.1<1)||decide (a.2.2.1<1))||decide (a.2.2.1>4294967295)) (λ_=>ae (bq (b:=decide (a.2.2.1<1)) (λ_=>aa rfl) (ae (bq (b:=decide (a.2.2.1>4294967295)) (λ_=>aa rfl) (aa rfl))))) (aa rfl))) ?_)
  refine au (λh'=>aa ?_) λh'=>aa ?_
  all_goals grind
 have f:∀{k:Int},a.1≠k->(a.1==k)=false:=λh=>beq_eq_false_iff_ne.2 h;have d:∀{k:Int},a.1=k->(a.1==k)=true:=λh=>beq_iff_eq.2 h;have l:∀(c:Int),(a.1=1\/a.1=2\/a.1=4)->c=4294967295->((a.2.1<0\/c<a.2.1\/(a.1=5/\a.2.2.2.2.1=0)\/(a.1=8/\(a.2.1<1\/a.2.2.1<1\/a.2.2.1>4294967295)))↔ki a=false):=λc A z=>by unfold ki;grind
 by_cases h1:a.1=1;.refine aD (d h1) (aa (aD (d h1) (aa (fin _ _ ?_ λ_=>l _ (by omega) rfl))));grind[kB]
 refine ap (f h1) ?_;by_cases h2:a.1=2;.refine aD (d h2) (aa (aD (d h2) (aa (fin _ _ ?_ λ_=>l _ (by omega) rfl))));grind[kB]
 refine ap (f h2) (aa ?_);by_cases u:a.1=4;.refine aD (d u) (aa (fin _ _ ?_ λ_=>l _ (by omega) rfl));grind[kB]
 refine ap (f u) ?_;by_cases s:a.1=3
 .refine aD (d s) (aa (fin _ _ ?_ λ_=>?_));.grind[kB]
  .unfold ki;grind
 refine ap (f s) ?_;by_cases v:a.1=5;.refine aD (d v) (aa (fin _ _ ?_ λj=>?_));all_goals grind[kB,ki]
 refine ap (f v) (ae ?_);have r:∀(only:sB) (c:Int),only.2.1=0->(a.1=6\/a.1=7)->c=4294967295->(a=only->((a.2.1<0\/c<a.2.1\/(a.1=5/\a.2.2.2.2.1=0)\/(a.1=8/\(a.2.1<1\/a.2.2.1<1\/a.2.2.1>4294967295)))↔ki a=false)):=λonly c I A z j=>by
  have H:a.2.1=0:=by grind
  unfold ki;grind
 by_cases n:a.1=6;.refine aD (d n) (aa (aD (d n) (aa (fin _ _ ?_ (r _ _ rfl (by omega) rfl)))));unfold kB;grind
 refine ap (f n) (aa ?_);by_cases w:a.1=7;.refine aD (d w) (aa (fin _ _ ?_ (r _ _ rfl (by omega) rfl)));unfold kB;grind
 refine ap (f w) (aD (d (by omega)) (aa (fin _ _ ?_ λj=>?_)));.unfold kB;grind
 .unfold ki;grind
def wM(name a:List UInt8)(first:Bool)(sz:Nat):Int:=if nF name=false then 1 else if first=false/\tP name a=true then 16 else if sz>64 then 4 else 0
def j5(name a:List UInt8)(first:Bool)(sz:Nat)(hn:name.length<=9223372036854775807):aB tbl 114 [.d tS name,.d tS a,.d tB first,.d tI (sz:Int)] [] ar (wM name a first sz,()):=by
 refine cm ?_;refine aj (ji name hn) (au (λh=>aa ?_) λh=>?_);.rw[show wM name a first sz=1 from if_pos (by grind)]
 refine ae (bh (b:=tP name a) (λ_=>aa rfl) (au (λh=>aa ?_) λh=>?_));.grind[wM]
 refine au (λh=>aa ?_) λh=>aa ?_;all_goals grind[wM]
def Lo(l:List (List UInt8))(i:Nat):List UInt8:=if i=0 then []else l.getD (i - 1) []
def xy{a:Type}{nm:a->List UInt8}{l:List a}{i:Nat}(b:i<l.length):Lo (l.map nm) (i+1)=nm l[i]:=by unfold Lo;grind
def Cq{a:Type}{nm:a->List UInt8}{sz:a->Nat}{ck:a->Int}{l:List a}{i:Nat}(b:i<l.length): FN nm sz ck l i=if wM (nm l[i]) (Lo (l.map nm) i) ((i:Int)==0) (sz l[i])=0 then ck l[i]else wM (nm l[i]) (Lo (l.map nm) i) ((i:Int)==0) (sz l[i]):=by
 rw[xN b];have c:mc (l.map nm) i=if nF (nm l[i])=false then 1 else if 0<i/\tP (nm l[i]) ((l.map nm).getD (i - 1) [])=true then 16 else 0:=by grind[mc]
 unfold wM;by_cases h1:nF (nm l[i])=false;.grind
 .grind[Lo]
set_option maxRecDepth 100000
abbrev zcd:IS:=([],[],0,())
def FT(s:PS)(n:List UInt8)(c:UK gM s):aB tbl 37 [.d yS s,.d tS n] [] jg ((Ei s n).getD zcd,(Ei s n).isSome,()):=by
 have hl:=c.l4;refine cm ?_;refine ae (kI (xs:=s.2.2.2.1) (p:=(·.1==n)) (enc:=λi=>((i:Int),([]:List UInt8),(0:Int),())) (g:=λx=>(true,x.1,x.2.1,x.2.2.1,())) (e:=(([]:List UInt8),(0:Int),())) (λi a=>?_) ?_ ?_)
 .refine aQ a (aA a (au (λh=>aa ?_) λh=>?_));.rw[if_neg (by grind),ak a]
  have hp:=c.r4 _ (a_ a);have h:(s.2.2.2.1[i].1==n)=true:=by grind
  rw[if_pos h];generalize s.2.2.2.1[i]=p at hp;have d:=hp.tl;refine ae (aK (N:=p.2.1.length) (I:=λj t=>t=((j:Int),([]:List UInt8),(0:Int),p.1,p.2.2.1,p.2.1.take j,())) rfl (λj t b ht=>?_) λt ht=>?_);.subst ht;have ht:=hp.tr _ (a_ b);have h1:=ht.ml;have h2:=ht.al;refine aQ b (aA b (ao (decide_eq_true (by grind)) (ao (decide_eq_true (by grind)) (ao ?_ (aa ?_)))));all_goals grind[b_,ak,P_]
  .subst ht;simp[aJ,aa]
 .exact aJ (aa rfl)
 .unfold Ei;cases s.2.2.2.1.find? (·.1==n)with|some r=>exact aa rfl|none=>exact aa rfl
set_option maxRecDepth 100000
def zbJ(x:PLS):Prop:=∀r∈x.2.1,G1 r.2.1.1
def zbK(x:Z9):Prop:=∀r∈x.2.1,r.2.1.length<=1048576
def zbL(_:CLS):Prop:=True
def za0{x:PLS}(h:zbJ x){j:Nat}(a:j<x.2.1.length)(hl:x.2.1.length<=64):Wp (λn=>i_ (gm (rY tbl n) 130 [.d yR x.2.1[j]] [] ar) λb=>bif (b.1 != (0:Int))then some (.inr (.inl ((b.1,()))))else some (.inl (b_ .i64 ((j:Int)+(1:Int)),()))) (fun(r:(Int×Unit)⊕(Int×Unit)⊕Unit)=>r=if iW x.2.1[j]=0 then .inl (((j+1:Nat):Int),())else .inr (.inl (iW x.2.1[j],()))):=by
 refine aj (vB _ (h _ (a_ a))) (au (λh=>aa ?_) λh=>aa ?_);.grind
 .rw[if_pos (by grind),ak a]
def za1{x:Z9}(h:zbK x){j:Nat}(a:j<x.2.1.length)(hl:x.2.1.length<=64):Wp (λn=>i_ (gm (rY tbl n) 170 [.d tS x.2.1[j].2.1] [] bX) λb=>bif (b.2.1 != (0:Int))then some (.inr (.inl ((b.2.1,()))))else some (.inl (b_ .i64 ((j:Int)+(1:Int)),()))) (fun(r:(Int×Unit)⊕(Int×Unit)⊕Unit)=>r=if(λr:XC=>gM r.2.1) x.2.1[j]=0 then .inl (((j+1:Nat):Int),())else .inr (.inl ((λr:XC=>gM r.2.1) x.2.1[j],()))):=by
 obtain⟨c,h1,h2⟩:=vC x.2.1[j].2.1 (h _ (a_ a));simp only;rw[<-Rm h1];refine aj h2 (au (λh=>aa ?_) λh=>aa ?_);.grind
 .rw[if_pos (by grind),ak a]
def za2{x:CLS}(_:zbL x){j:Nat}(b:j<x.2.1.length)(hl:x.2.1.length<=64):Wp (λn=>i_ (gm (rY tbl n) 131 [.d yC x.2.1[j]] [] ar) λa=>bif (a.1 != (0:Int))then some (.inr (.inl ((a.1,()))))else some (.inl (b_ .i64 ((j:Int)+(1:Int)),()))) (fun(r:(Int×Unit)⊕(Int×Unit)⊕Unit)=>r=if ir x.2.1[j]=0 then .inl (((j+1:Nat):Int),())else .inr (.inl (ir x.2.1[j],()))):=by
 refine aj (xq _) (au (λh=>aa ?_) λh=>aa ?_);.grind
 .rw[if_pos (by grind),ak b]
def zw(l:List PLS)(hn:∀x∈l,x.1.length<=9223372036854775807)(hr:∀x∈l,zbJ x):aB tbl 111 [.d (.list yL) l] [] ar (fg (·.1) (λl=>l.2.1.length) (λl=>b9 iW l.2.1) l,()):=by
 refine cm ?_;refine au (λh=>aa ?_) λh=>?_;.rw[show fg (·.1) (λl=>l.2.1.length) (λl=>b9 iW l.2.1) l=4 from if_pos (by have:=of_decide_eq_true h;omega)]
 have c:¬l.length>64:=by have:=of_decide_eq_false h;omega
 rw[show fg (·.1) (λl=>l.2.1.length) (λl=>b9 iW l.2.1) l=jT (FN (·.1) (λl=>l.2.1.length) (λl=>b9 iW l.2.1) l) l.length from if_neg c];generalize k:FN (·.1) (λl=>l.2.1.length) (λl=>b9 iW l.2.1) l=E;refine ae (nV (N:=l.length) (f:=E) (enc:=λi=>(Lo (l.map (·.1)) i,(i:Int),())) (oB:=λe=>(e,())) (oE:=()) (λi a=>?_) ?_ ?_)
 .have b:=Cq (nm:=(·.1)) (sz:=λl=>l.2.1.length) (ck:=λl=>b9 iW l.2.1) a;rw[k]at b;refine aQ a (aA a (aj (j5 _ _ _ _ (hn _ (a_ a))) (au (λh=>aa ?_) λh=>?_)));.rw[if_neg (by simpa using h)]at b;rw[b,if_neg (by simpa using h)]
  rw[if_pos (by simpa using h)]at b;rw[b];have g:l[i].2.1.length<=64:=by
   have h:wM l[i].1 (Lo (l.map (·.1)) i) ((i:Int)==0) l[i].2.1.length=0:=by simpa using h
   unfold wM at h;split at h;.cases h
   split at h;.cases h
   split at h;.cases h
   .omega
  refine ae (lC (l:=l[i].2.1) (f:=iW) (enc:=λi=>((i:Int),())) (oB:=λe=>(e,())) (oE:=()) (λj d=>?_) ?_ ?_);.exact aQ d (aA d (za0 (hr _ (a_ a)) d g))
  .exact aJ (aa rfl)
  by_cases e:b9 iW l[i].2.1=0;.rw[if_pos e,if_pos e];refine aa ?_;show _=as_ (Lo (l.map (·.1)) (i+1),((i+1:Nat):Int),());rw[xy (nm:=(·.1)) a,ak a]
  .rw[if_neg e,if_neg e];exact aa rfl
 .exact aJ (aa rfl)
 by_cases e:jT E l.length=0;.rw[if_pos e];refine aa ?_;rw[e]
 .rw[if_neg e];exact aa rfl
def F5(l:List Z9)(hn:∀x∈l,x.1.length<=9223372036854775807)(hr:∀x∈l,zbK x):aB tbl 112 [.d (.list yG) l] [] ar (fg (·.1) (λl=>l.2.1.length) (λl=>b9 (λr=>gM r.2.1) l.2.1) l,()):=by
 refine cm ?_;refine au (λh=>aa ?_) λh=>?_;.rw[show fg (·.1) (λl=>l.2.1.length) (λl=>b9 (λr=>gM r.2.1) l.2.1) l=4 from if_pos (by have:=of_decide_eq_true h;omega)]
 have c:¬l.length>64:=by have:=of_decide_eq_false h;omega
 rw[show fg (·.1) (λl=>l.2.1.length) (λl=>b9 (λr=>gM r.2.1) l.2.1) l=jT (FN (·.1) (λl=>l.2.1.length) (λl=>b9 (λr=>gM r.2.1) l.2.1) l) l.length from if_neg c];generalize k:FN (·.1) (λl=>l.2.1.length) (λl=>b9 (λr=>gM r.2.1) l.2.1) l=E;refine ae (nV (N:=l.length) (f:=E) (enc:=λi=>(Lo (l.map (·.1)) i,(i:Int),())) (oB:=λe=>(e,())) (oE:=()) (λi a=>?_) ?_ ?_)
 .have b:=Cq (nm:=(·.1)) (sz:=λl=>l.2.1.length) (ck:=λl=>b9 (λr=>gM r.2.1) l.2.1) a;rw[k]at b;refine aQ a (aA a (aj (j5 _ _ _ _ (hn _ (a_ a))) (au (λh=>aa ?_) λh=>?_)));.rw[if_neg (by simpa using h)]at b;rw[b,if_neg (by simpa using h)]
  rw[if_pos (by simpa using h)]at b;rw[b];have g:l[i].2.1.length<=64:=by
   have h:wM l[i].1 (Lo (l.map (·.1)) i) ((i:Int)==0) l[i].2.1.length=0:=by simpa using h
   unfold wM at h;split at h;.cases h
   split at h;.cases h
   split at h;.cases h
   .omega
  refine ae (lC (l:=l[i].2.1) (f:=(λr=>gM r.2.1)) (enc:=λi=>((i:Int),())) (oB:=λe=>(e,())) (oE:=()) (λj d=>?_) ?_ ?_);.exact aQ d (aA d (za1 (hr _ (a_ a)) d g))
  .exact aJ (aa rfl)
  by_cases e:b9 (λr=>gM r.2.1) l[i].2.1=0;.rw[if_pos e,if_pos e];refine aa ?_;show _=as_ (Lo (l.map (·.1)) (i+1),((i+1:Nat):Int),());rw[xy (nm:=(·.1)) a,ak a]
  .rw[if_neg e,if_neg e];exact aa rfl
 .exact aJ (aa rfl)
 by_cases e:jT E l.length=0;.rw[if_pos e];refine aa ?_;rw[e]
 .rw[if_neg e];exact aa rfl
def uU(l:List CLS)(hn:∀x∈l,x.1.length<=9223372036854775807)(hr:∀x∈l,zbL x):aB tbl 113 [.d (.list yD) l] [] ar (fg (·.1) (λl=>l.2.1.length) (λl=>b9 ir l.2.1) l,()):=by
 refine cm ?_;refine au (λh=>aa ?_) λh=>?_;.rw[show fg (·.1) (λl=>l.2.1.length) (λl=>b9 ir l.2.1) l=4 from if_pos (by have:=of_decide_eq_true h;omega)]
 have c:¬l.length>64:=by have:=of_decide_eq_false h;omega
 rw[show fg (·.1) (λl=>l.2.1.length) (λl=>b9 ir l.2.1) l=jT (FN (·.1) (λl=>l.2.1.length) (λl=>b9 ir l.2.1) l) l.length from if_neg c];generalize k:FN (·.1) (λl=>l.2.1.length) (λl=>b9 ir l.2.1) l=E;refine ae (nV (N:=l.length) (f:=E) (enc:=λi=>(Lo (l.map (·.1)) i,(i:Int),())) (oB:=λe=>(e,())) (oE:=()) (λi a=>?_) ?_ ?_)
 .have b:=Cq (nm:=(·.1)) (sz:=λl=>l.2.1.length) (ck:=λl=>b9 ir l.2.1) a;rw[k]at b;refine aQ a (aA a (aj (j5 _ _ _ _ (hn _ (a_ a))) (au (λh=>aa ?_) λh=>?_)));.rw[if_neg (by simpa using h)]at b;rw[b,if_neg (by simpa using h)]
  rw[if_pos (by simpa using h)]at b;rw[b];have g:l[i].2.1.length<=64:=by
   have h:wM l[i].1 (Lo (l.map (·.1)) i) ((i:Int)==0) l[i].2.1.length=0:=by simpa using h
   unfold wM at h;split at h;.cases h
   split at h;.cases h
   split at h;.cases h
   .omega
  refine ae (lC (l:=l[i].2.1) (f:=ir) (enc:=λi=>((i:Int),())) (oB:=λe=>(e,())) (oE:=()) (λj d=>?_) ?_ ?_);.exact aQ d (aA d (za2 (hr _ (a_ a)) d g))
  .exact aJ (aa rfl)
  by_cases e:b9 ir l[i].2.1=0;.rw[if_pos e,if_pos e];refine aa ?_;show _=as_ (Lo (l.map (·.1)) (i+1),((i+1:Nat):Int),());rw[xy (nm:=(·.1)) a,ak a]
  .rw[if_neg e,if_neg e];exact aa rfl
 .exact aJ (aa rfl)
 by_cases e:jT E l.length=0;.rw[if_pos e];refine aa ?_;rw[e]
 .rw[if_neg e];exact aa rfl
def IH(s:PS)(hs:okD yS s)(p:IS)(hp:okD yO p)(i:Nat)(d:i<p.2.1.length):aB tbl 115 [.d yS s,.d yO p,.d tI (i:Int)] [] ar (iS s (p.2.1.take i) p.2.1[i],()):=by
 refine cm ?_;refine aA d ?_;have ht:okD yT p.2.1[i]:=hp.2.1.2 _ (a_ d);have w:(p.2.1.take i).length<=9223372036854775807:=by have:p.2.1.length<=9223372036854775807:=hp.2.1.1;grind
 have u:(p.2.1.take (I_ (i:Int))).drop 0=p.2.1.take i:=by simp
 generalize p.2.1[i]=t at ht;refine aj (ji t.1 ht.1) (au (λh=>aa ?_) λh=>?_);.rw[show iS s (p.2.1.take i) t=1 from if_pos (by grind)]
 have hn:¬nF t.1=false:=by grind
 refine ao (decide_eq_true (by simp)) (ao (by grind) ?_);rw[u];generalize y:p.2.1.take i=a at w;refine ae (kI (xs:=a) (p:=(·.1==t.1)) (enc:=λi=>((i:Int),t.1,t.2.1,t.2.2.1,t.2.2.2.1,())) (g:=λ_=>((7:Int),())) (e:=(t.1,t.2.1,t.2.2.1,t.2.2.2.1,())) (λj v=>?_) ?_ ?_)
 .refine aQ v (aA v (au (λh=>aa ?_) λh=>aa ?_));.grind
  .rw[if_neg (by grind),ak v w]
 .exact aJ (aa rfl)
 have c:a.any (·.1==t.1)=(a.find? (·.1==t.1)).isSome:=xx;cases e:a.find? (·.1==t.1)with
 |some r=>rw[e]at c;have c:a.any (·.1==t.1)=true:=c;refine aa ?_;rw[show iS s a t=7 from by unfold iS;grind]|none=>
  rw[e]at c;have x:¬a.any (·.1==t.1)=true:=by grind
  refine au (λh=>aa ?_) λh=>?_;.have h:decide ((t.2.1.length:Int)>64)=true:=h;rw[show iS s a t=4 from by unfold iS;grind]
  have h:decide ((t.2.1.length:Int)>64)=false:=h;have h1:¬t.2.1.length>64:=by grind
  refine ae (lC (l:=t.2.1) (f:=jX s) (enc:=λi=>((i:Int),t.1,t.2.1,t.2.2.1,t.2.2.2.1,())) (oB:=λe=>(e,())) (oE:=(t.1,t.2.1,t.2.2.1,t.2.2.2.1,())) (λi d=>?_) ?_ ?_)
  .refine aQ d (aA d (aj (F4 s _ hs ((λm z=>((ht.2.1.2 m z).2.2.2.1).1) _ (a_ d))) (au (λh=>aa ?_) λh=>aa ?_)));.grind
   .rw[if_pos (by grind),ak d]
  .exact aJ (aa rfl)
  by_cases k:b9 (jX s) t.2.1=0
  .rw[if_pos k];refine au (λh=>aa ?_) λh=>?_;.rw[show iS s a t=4 from by unfold iS;grind]
   have h2:¬t.2.2.1.length>64:=by grind
   refine ae (lC (l:=t.2.2.1) (f:=my) (enc:=λi=>((i:Int),t.1,t.2.1,t.2.2.1,t.2.2.2.1,())) (oB:=λe=>(e,())) (oE:=(t.1,t.2.1,t.2.2.1,t.2.2.2.1,())) (λi d=>?_) ?_ ?_)
   .refine aQ d (aA d (aj (CY _) (au (λh=>aa ?_) λh=>aa ?_)));.grind
    .rw[if_pos (by grind),ak d]
   .exact aJ (aa rfl)
   by_cases n:b9 my t.2.2.1=0
   .rw[if_pos n];refine ae (bh (b:=(t.2.2.2.1 != 2)) (λ_=>aa rfl) (ae (bh (b:=(t.2.2.2.1 != 3)) (λ_=>aa rfl) (au (λh=>aa ?_) λh=>aa ?_))));.rw[show iS s a t=15 from by unfold iS;grind]
    .rw[show iS s a t=0 from by unfold iS;rw[if_neg hn,if_neg x,if_neg h1,if_neg (not_not_intro k),if_neg h2,if_neg (not_not_intro n),if_neg (by simp at h;omega)]]
   .rw[if_neg n];refine aa ?_;rw[show iS s a t=b9 my t.2.2.1 from by unfold iS;grind]
  .rw[if_neg k];refine aa ?_;rw[show iS s a t=b9 (jX s) t.2.1 from by unfold iS;grind]
def F0(s:PS)(hs:C4 s):aB tbl 46 [.d yS s] [] ar (wZ gM s,()):=by
 refine cm ?_;have a:=hs.ok;have C:=zw s.1 (λx d=>(a.1.2 x d).1) (λx d r hr=>((a.1.2 x d).2.1.2 r hr).2.1.1);have D:=F5 s.2.1 (λx d=>(a.2.1.2 x d).1) (λx d r hr=>hs.pt x d r hr);have F:=uU s.2.2.1 (λx d=>(a.2.2.1.2 x d).1) (λ_ _=>trivial);generalize L:fg (·.1) (λl=>l.2.1.length) (λl=>b9 iW l.2.1) s.1=z at C;generalize M:fg (·.1) (λl=>l.2.1.length) (λl=>b9 (λr=>gM r.2.1) l.2.1) s.2.1=A at D;generalize O:fg (·.1) (λl=>l.2.1.length) (λl=>b9 ir l.2.1) s.2.2.1=B at F;generalize v:fg (·.1) (λp=>p.2.1.length) (rE s) s.2.2.2.1=I;have hp:wZ gM s=if z≠0 then z else if A≠0 then A else if B≠0 then B else I:=by unfold wZ;omega
 rw[hp];refine aj C (au (λh=>aa ?_) λh=>aj D (au (λh'=>aa ?_) λh'=>aj F (au (λw=>aa ?_) λw=>?_)));.grind
 .grind
 .grind
 rw[if_neg (by grind),if_neg (by grind),if_neg (by grind)];generalize hl:s.2.2.2.1=l at v;refine au (λh=>aa ?_) λh=>?_;.rw[<-v,show fg (·.1) (λp=>p.2.1.length) (rE s) l=4 from if_pos (by grind)]
 have n:¬l.length>64:=by grind
 rw[<-v,show fg (·.1) (λp=>p.2.1.length) (rE s) l=jT (FN (·.1) (λp=>p.2.1.length) (rE s) l) l.length from if_neg n];generalize J:FN (·.1) (λp=>p.2.1.length) (rE s) l=E;refine ae (nV (N:=l.length) (f:=E) (enc:=λi=>(Lo (l.map (·.1)) i,(i:Int),())) (oB:=λe=>(e,())) (oE:=()) (λi g=>?_) ?_ ?_)
 .have H:E i=if wM l[i].1 (Lo (l.map (·.1)) i) ((i:Int)==0) l[i].2.1.length=0 then rE s l[i]else wM l[i].1 (Lo (l.map (·.1)) i) ((i:Int)==0) l[i].2.1.length:=by rw[<-J];exact Cq g
  have c:=(λp hp=>by rw[<-hl]at hp;exact a.2.2.2.1.2 p hp) _ (a_ g);refine aQ g (aA g (aj (j5 _ _ _ _ c.1) (au (λh=>aa ?_) λh=>?_)));.grind
  rw[if_pos (by grind)]at H;rw[H,Rn];have k:=xy (nm:=λp:IS=>p.1) g;generalize l[i]=p at c k;have y:p.2.1.length<=9223372036854775807:=c.2.1.1;refine ae (nV (N:=p.2.1.length) (f:=ND s p.2.1) (enc:=λi=>((i:Int),p.1,p.2.1,p.2.2.1,())) (oB:=λe=>(e,())) (oE:=(p.1,p.2.1,p.2.2.1,())) (λj u=>?_) ?_ ?_)
  .refine aQ u (aj (IH s a p c j u) ?_);rw[<-NE u];refine au (λh=>aa ?_) λh=>aa ?_;.grind
   .rw[if_pos (by grind),ak u y]
  .exact aJ (aa rfl)
  by_cases e:jT (ND s p.2.1) p.2.1.length=0
  .rw[if_pos e,if_neg (not_not_intro e)];refine ae (bh (b:=(p.2.2.1 != 2)) (λ_=>aa rfl) (au (λh=>aa ?_) λh=>aa ?_));.grind
   .rw[if_neg (show ¬(p.2.2.1≠1/\p.2.2.1≠2) by grind),if_pos rfl];rw[k,ak g]
  .rw[if_neg e,if_pos e,if_neg e];exact aa rfl
 .exact aJ (aa rfl)
 by_cases e:jT E l.length=0;.rw[if_pos e];refine aa ?_;rw[e]
 .rw[if_neg e];exact aa rfl
def IE(s:PS)(n:List UInt8)(hl:s.2.2.2.1.length<=9223372036854775807):aB tbl 47 [.d yS s,.d tS n] [] jg ((Ei s n).getD zcd,(Ei s n).isSome,()):=by
 refine cm (ae (kI (xs:=s.2.2.2.1) (p:=(·.1==n)) (enc:=λi=>((i:Int),([]:List UInt8),(0:Int),())) (g:=λx=>(true,x.1,x.2.1,x.2.2.1,())) (e:=(([]:List UInt8),(0:Int),())) (λi a=>?_) ?_ ?_))
 .refine aQ a (aA a (au (λh=>aa ?_) λh=>aa ?_));.grind
  .rw[if_neg (by grind),ak a hl]
 .exact aJ (aa rfl)
 .unfold Ei;cases s.2.2.2.1.find? (·.1==n)with|some r=>exact aa rfl|none=>exact aa rfl
set_option maxRecDepth 100000
open Go Go.Av Go.Ev
abbrev DF:Type:=List Int×(List (List Int)×(List Bool×(Int×Unit)))
def ce(xs:List Int):Prop:=0<xs.length/\(∀(h:0<xs.length),xs[0]=0)/\(∀i (h:i+1<xs.length),xs[i]<xs[i+1])/\∀x∈xs,x<=4294967295
def Big(d:DF):Prop:=d.2.2.1.length>4096\/d.2.1.length>4096\/d.1.length>2000
open Classical in
noncomputable def bL(d:DF):Int:=
 if Big d then 4 else if ¬ce d.1 then 16 else if d.2.1.length=0\/d.2.2.1.length≠d.2.1.length then 14
 else if ¬(∀r∈d.2.1,r.length=d.1.length)then 14 else if d.2.2.2.1<0\/d.2.2.2.1>=(d.2.1.length:Int)then 5
 else if ¬(∀r∈d.2.1,∀t∈r,0<=t/\t<(d.2.1.length:Int))then 5 else 0
def qA{i:Nat}(a:0<i)(b:i<=9223372036854775807):b_ .i64 ((i:Int) - 1)=((i - 1:Nat):Int):=by grind[wrap_i64]
theorem xl{xs:List Int}:ce xs↔(0<xs.length/\∀i,(h:i<xs.length)->(i=0->xs[i]=0)/\(∀_:0<i,xs[i - 1]<xs[i])/\xs[i]<=4294967295):=by
 constructor;.rintro⟨a,h1,h2,d⟩;grind
 .rintro⟨a,h⟩;refine⟨a,λ_=>(h 0 a).1 rfl,λi b=>(h (i+1) b).2.1 (by simp),λx c=>?_⟩;obtain⟨i,b,rfl⟩:=List.mem_iff_getElem.1 c;grind
def Fz{xs:List Int}:ce xs↔(0<xs.length/\(∀h:0<xs.length,xs[0]=0)/\∀i,(h:i<xs.length)->(∀_:0<i,xs[i - 1]<xs[i])/\xs[i]<=4294967295):=by grind[xl]
def gh(d:DF):aB tbl 127 [.d Uc d] [] ar (bL d,()):=by
 refine cm ?_;refine ae (bq (λ_=>aa rfl) (ae (bq (λ_=>aa rfl) ?_)));refine au (λh=>aa ?_) λh=>?_
 .have:Big d:=by simp only[q_,decide_eq_true_eq]at h;unfold Big;omega
  rw[show bL d=4 from by unfold bL;rw[if_pos this]]
 have nb:¬Big d:=by simp only[j_,decide_eq_false_iff_not]at h;unfold Big;omega
 have p:d.1.length<=2000:=by unfold Big at nb;omega
 have s:d.2.1.length<=4096:=by unfold Big at nb;omega
 refine ae (pM (N:=d.1.length) (good:=λi=>∀(h:i<d.1.length),(i=0->d.1[i]=0)/\(∀_:0<i,d.1[i - 1]<d.1[i])/\d.1[i]<=4294967295) (e:=((16:Int),())) (g:=()) (λi a=>?_) ?_ (λhs=>?_) (λl=>?_))
 .refine aQ a (aA a ?_);refine ae (bh (λ_=>aa rfl) (ae (bq (b:=decide (0<i)&&decide (d.1[i]<=d.1[i - 1])) (λ_=>ae (bh (b:=decide (d.1[i]<=d.1[i - 1])) (λj=>?_) (aa ?_))) (ae (bq (λ_=>aa rfl) ?_)))))
  .have j:0<i:=by simpa using j
   rw[qA j (by omega)];exact aA (by omega) (aa rfl)
  .congr 1;exact decide_eq_decide.2 (by omega)
  .refine dn ?_ (by rw[ak a]);grind
 .exact aJ (aa rfl)
 .refine au (λh=>aa ?_) λh=>?_
  .have:¬ce d.1:=λhs=>by have:=hs.1;simp at h;simp[h]at this
   rw[show bL d=16 from by unfold bL;rw[if_neg nb,if_pos this]]
  have f:ce d.1:=xl.2 ⟨by simp at h;exact Y_.2 h,λi a=>hs i a a⟩;refine ae (bq (λ_=>aa rfl) ?_);refine au (λh=>aa ?_) λh=>?_
  .have:d.2.1.length=0\/d.2.2.1.length≠d.2.1.length:=by simp only[q_,beq_iff_eq,bne_iff_ne]at h;omega
   rw[show bL d=14 from by unfold bL;rw[if_neg nb,if_neg (not_not_intro f),if_pos this]]
  have h1:¬(d.2.1.length=0\/d.2.2.1.length≠d.2.1.length):=by simp only[j_,beq_eq_false_iff_ne,bne_eq_false_iff_eq]at h;omega
  refine ae (mQ (xs:=d.2.1) (P:=λr=>r.length=d.1.length) (e:=((14:Int),())) (g:=()) (λi a=>?_) ?_ (λhr=>?_) (λhr=>?_));.refine aQ a (aA a (dn ?_ (by rw[ak a])));simp only[bne_iff_ne];omega
  .exact aJ (aa rfl)
  .refine ae (bq (λ_=>aa rfl) ?_);refine au (λh=>aa ?_) λh=>?_
   .have:d.2.2.2.1<0\/d.2.2.2.1>=(d.2.1.length:Int):=by simpa using h
    rw[show bL d=5 from by unfold bL;rw[if_neg nb,if_neg (not_not_intro f),if_neg h1,if_neg (not_not_intro hr),if_pos this]]
   have h2:¬(d.2.2.2.1<0\/d.2.2.2.1>=(d.2.1.length:Int)):=by simpa using h
   refine ae (mQ (xs:=d.2.1) (P:=λr=>∀t∈r,0<=t/\t<(d.2.1.length:Int)) (e:=((5:Int),())) (g:=()) (λi a=>?_) ?_ (λht=>?_) (λht=>?_))
   .refine aQ a (aA a (ae (mQ (xs:=d.2.1[i]) (P:=λt=>0<=t/\t<(d.2.1.length:Int)) (e:=((5:Int),())) (g:=()) (λk n=>?_) ?_ (λh=>?_) (λh=>?_))));.have c:=n;rw[hr _ (a_ a)]at c;refine aQ n (aA n (ae (bq (λ_=>aa rfl) (dn ?_ (by rw[ak c])))));simp only[q_,decide_eq_true_eq];omega
    .exact aJ (aa rfl)
    .exact aa (.inl ⟨h,by rw[ak a]⟩)
    .exact aa (.inr ⟨h,rfl⟩)
   .exact aJ (aa rfl)
   .refine aa ?_;rw[show bL d=0 from by unfold bL;grind]
   .refine aa ?_;rw[show bL d=5 from by unfold bL;rw[if_neg nb,if_neg (not_not_intro f),if_neg h1,if_neg (not_not_intro hr),if_neg h2,if_pos ht]]
  .refine aa ?_;rw[show bL d=14 from by unfold bL;rw[if_neg nb,if_neg (not_not_intro f),if_neg h1,if_pos hr]]
 .have:¬ce d.1:=λhs=>by obtain⟨i,a,l⟩:=l;exact l λh=>(xl.1 hs).2 i h
  refine aa ?_;rw[show bL d=16 from by unfold bL;rw[if_neg nb,if_pos this]]
def eS(d:DF):aB tbl 132 [.d Uc d] [] ar (bL d,()):=by
 refine cm ?_;refine ae (bq (λ_=>aa rfl) (ae (bq (λ_=>aa rfl) ?_)));refine au (λh=>aa ?_) λh=>?_
 .have:Big d:=by simp only[q_,decide_eq_true_eq]at h;unfold Big;omega
  rw[show bL d=4 from by unfold bL;rw[if_pos this]]
 have nb:¬Big d:=by simp only[j_,decide_eq_false_iff_not]at h;unfold Big;omega
 have p:d.1.length<=2000:=by unfold Big at nb;omega
 have s:d.2.1.length<=4096:=by unfold Big at nb;omega
 refine ae (bq (b:=decide (∃h:0<d.1.length,d.1[0]≠0)) (λc=>?_) ?_)
 .have c:0<d.1.length:=by simp at c;exact Y_.2 c
  refine aA c (aa ?_);simp[c];rfl
 refine au (λh=>aa ?_) λh=>?_
 .have:¬ce d.1:=λhs=>by
   simp only[q_,beq_iff_eq,decide_eq_true_eq]at h;rcases h with h|⟨h,h2⟩;.have:=hs.1;omega
   .exact h2 (hs.2.1 h)
  rw[show bL d=16 from by unfold bL;rw[if_neg nb,if_pos this]]
 have hp:0<d.1.length/\∀h:0<d.1.length,d.1[0]=0:=by grind
 refine ae (pM (N:=d.1.length) (good:=λi=>∀(h:i<d.1.length),(∀_:0<i,d.1[i - 1]<d.1[i])/\d.1[i]<=4294967295) (e:=((16:Int),())) (g:=()) (λi a=>?_) ?_ (λhs=>?_) (λl=>?_))
 .refine aQ a (aA a ?_);refine ae (bq (b:=decide (0<i)&&decide (d.1[i]<=d.1[i - 1])) (λ_=>ae (bh (b:=decide (d.1[i]<=d.1[i - 1])) (λc=>?_) (aa ?_))) ?_)
  .have c:0<i:=by simpa using c
   rw[qA c (by omega)];exact aA (by omega) (aa rfl)
  .congr 1;exact decide_eq_decide.2 (by omega)
  .refine dn ?_ (by rw[ak a]);grind
 .exact aJ (aa rfl)
 .have f:ce d.1:=Fz.2 ⟨hp.1,hp.2,λi a=>hs i a a⟩;refine ae (bq (λ_=>aa rfl) ?_);refine au (λh=>aa ?_) λh=>?_
  .have:d.2.1.length=0\/d.2.2.1.length≠d.2.1.length:=by simp only[q_,beq_iff_eq,bne_iff_ne]at h;omega
   rw[show bL d=14 from by unfold bL;rw[if_neg nb,if_neg (not_not_intro f),if_pos this]]
  have h1:¬(d.2.1.length=0\/d.2.2.1.length≠d.2.1.length):=by simp only[j_,beq_eq_false_iff_ne,bne_eq_false_iff_eq]at h;omega
  refine ae (mQ (xs:=d.2.1) (P:=λr=>r.length=d.1.length) (e:=((14:Int),())) (g:=()) (λi a=>?_) ?_ (λhr=>?_) (λhr=>?_));.refine aQ a (aA a (dn ?_ (by rw[ak a])));simp only[bne_iff_ne];omega
  .exact aJ (aa rfl)
  .refine ae (bq (λ_=>aa rfl) ?_);refine au (λh=>aa ?_) λh=>?_
   .have:d.2.2.2.1<0\/d.2.2.2.1>=(d.2.1.length:Int):=by simpa using h
    rw[show bL d=5 from by unfold bL;rw[if_neg nb,if_neg (not_not_intro f),if_neg h1,if_neg (not_not_intro hr),if_pos this]]
   have h2:¬(d.2.2.2.1<0\/d.2.2.2.1>=(d.2.1.length:Int)):=by simpa using h
   refine ae (mQ (xs:=d.2.1) (P:=λr=>∀t∈r,0<=t/\t<(d.2.1.length:Int)) (e:=((5:Int),())) (g:=()) (λi a=>?_) ?_ (λht=>?_) (λht=>?_))
   .refine aQ a (aA a (ae (mQ (xs:=d.2.1[i]) (P:=λt=>0<=t/\t<(d.2.1.length:Int)) (e:=((5:Int),())) (g:=()) (λk n=>?_) ?_ (λh=>?_) (λh=>?_))));.have j:=n;rw[hr _ (a_ a)]at j;refine aQ n (aA n (ae (bq (λ_=>aa rfl) (dn ?_ (by rw[ak j])))));simp only[q_,decide_eq_true_eq];omega
    .exact aJ (aa rfl)
    .exact aa (.inl ⟨h,by rw[ak a]⟩)
    .exact aa (.inr ⟨h,rfl⟩)
   .exact aJ (aa rfl)
   .refine aa ?_;rw[show bL d=0 from by unfold bL;rw[if_neg nb,if_neg (not_not_intro f),if_neg h1,if_neg (not_not_intro hr),if_neg h2,if_neg (not_not_intro ht)]]
   .refine aa ?_;rw[show bL d=5 from by unfold bL;rw[if_neg nb,if_neg (not_not_intro f),if_neg h1,if_neg (not_not_intro hr),if_neg h2,if_pos ht]]
  .refine aa ?_;rw[show bL d=14 from by unfold bL;rw[if_neg nb,if_neg (not_not_intro f),if_neg h1,if_pos hr]]
 .have:¬ce d.1:=λhs=>by obtain⟨i,a,l⟩:=l;exact l λh=>(Fz.1 hs).2.2 i h
  refine aa ?_;rw[show bL d=16 from by unfold bL;rw[if_neg nb,if_pos this]]
def Sa(d:DF):Prop:=d.1.length<=9223372036854775807/\d.2.1.length<=9223372036854775807/\(∀r∈d.2.1,r.length<=9223372036854775807)/\d.2.2.1.length<=9223372036854775807
def same_iff{c:Type}{a b:List c}(hl:a.length=b.length):(∀i,i<a.length->a[i]? =b[i]?)↔a=b:=by
 constructor;.intro h;refine List.ext_getElem? λi=>?_;grind
 grind
def Qe{N:Nat}(ht:tbl N=some (.code Bi))(a b:List Int)(hl:a.length<=9223372036854775807):aB tbl N [.d (.list tI) a,.d (.list tI) b] [] aw (decide (a=b),()):=by
 refine cm (hd:=fdZ (ht:=ht)) (au (λh=>aa ?_) λh=>?_)
 .have:a≠b:=λe=>by subst e;simp at h
  simp[this]
 have c:a.length=b.length:=by simp only[bne_eq_false_iff_eq]at h;omega
 refine ae (pM (N:=a.length) (good:=λi=>a[i]? =b[i]?) (e:=(false,())) (g:=()) (λi d=>?_) ?_ (λhs=>aa ?_) (λf=>aa ?_));.refine aQ d (aA d (aA (by omega) (dn ?_ (by rw[ak d]))));grind
 .exact aJ (aa rfl)
 .simp[(same_iff c).1 hs]
 .have:a≠b:=λe=>by grind
  simp[this]
def KS(a b:DF)(d:Sa a):aB tbl 157 [.d Uc a,.d Uc b] [] aw (decide (a=b),()):=by
 refine cm ?_;refine ae (bq (λ_=>aj (Qe rfl _ _ d.1) (aa rfl)) (ae (bq (λ_=>aa rfl) (ae (bq (λ_=>aa rfl) (au (λh=>aa ?_) λh=>?_))))))
 .have:a≠b:=λe=>by subst e;simp at h
  rw[decide_eq_false this]
 .simp only[j_,bne_eq_false_iff_eq]at h;have hn:a.2.1.length=b.2.1.length:=by omega
  have j:a.2.2.1.length=b.2.2.1.length:=by omega
  refine ae (pM (N:=a.2.1.length) (good:=λi=>a.2.1[i]? =b.2.1[i]?) (e:=(false,())) (g:=()) (λi c=>?_) ?_ (λhs=>?_) (λf=>aa ?_));.refine aQ c (aA c (aA (by omega) (aj (Qe rfl _ _ (d.2.2.1 _ (a_ c))) (dn ?_ (by rw[ak c d.2.1])))));rw[c_ c,c_ (by omega)];simp
  .exact aJ (aa rfl)
  .have hs:=(same_iff hn).1 hs;refine ae (pM (N:=a.2.2.1.length) (good:=λi=>a.2.2.1[i]? =b.2.2.1[i]?) (e:=(false,())) (g:=()) (λi c=>?_) ?_ (λht=>aa ?_) (λf=>aa ?_));.refine aQ c (aA c (aA (by omega) (dn ?_ (by rw[ak c d.2.2.2]))));grind
   .exact aJ (aa rfl)
   .have ht:=(same_iff j).1 ht;grind
   .have:a≠b:=λe=>by obtain⟨i,c,hn⟩:=f;subst e;exact hn rfl
    rw[decide_eq_false this]
  .have:a≠b:=λe=>by obtain⟨i,c,hn⟩:=f;subst e;exact hn rfl
   rw[decide_eq_false this]
def FV(a b:DF)(d:Sa a):aB tbl 126 [.d Uc a,.d Uc b] [] aw (decide (a=b),()):=by
 refine cm (aj (Qe rfl _ _ d.1) (ae (bq (λ_=>aa rfl) (ae (bq (λ_=>aa rfl) (ae (bq (λ_=>aa rfl) (au (λh=>aa ?_) λh=>?_))))))))
 .have:a≠b:=λe=>by subst e;simp at h
  rw[decide_eq_false this]
 .simp only[j_,bne_eq_false_iff_eq]at h;have hn:a.2.1.length=b.2.1.length:=by omega
  have j:a.2.2.1.length=b.2.2.1.length:=by omega
  refine ae (pM (N:=a.2.1.length) (good:=λi=>a.2.1[i]? =b.2.1[i]?) (e:=(false,())) (g:=()) (λi c=>?_) ?_ (λhs=>?_) (λf=>aa ?_));.refine aQ c (aA c (aA (by omega) (aj (Qe rfl _ _ (d.2.2.1 _ (a_ c))) (dn ?_ (by rw[ak c d.2.1])))));rw[c_ c,c_ (by omega)];simp
  .exact aJ (aa rfl)
  .have hs:=(same_iff hn).1 hs;refine ae (pM (N:=a.2.2.1.length) (good:=λi=>a.2.2.1[i]? =b.2.2.1[i]?) (e:=(false,())) (g:=()) (λi c=>?_) ?_ (λht=>aa ?_) (λf=>aa ?_));.refine aQ c (aA c (aA (by omega) (dn ?_ (by rw[ak c d.2.2.2]))));grind
   .exact aJ (aa rfl)
   .have ht:=(same_iff j).1 ht;grind
   .have:a≠b:=λe=>by obtain⟨i,c,hn⟩:=f;subst e;exact hn rfl
    rw[decide_eq_false this]
  .have:a≠b:=λe=>by obtain⟨i,c,hn⟩:=f;subst e;exact hn rfl
   rw[decide_eq_false this]
def iI(xs:List Int)(v:Int)(c:Nat):Prop:=∃h:c<xs.length,xs[c]<=v/\∀j (_:j<xs.length),c<j->v<xs[j]
theorem I9{xs:List Int}{v:Int}{c a:Nat}(h:iI xs v c)(h':iI xs v a):c=a:=by obtain⟨h1,h2,f⟩:=h;obtain⟨b,d,e⟩:=h';grind
open Classical in
noncomputable def dy(xs:List Int)(v:Int):Nat:=if h:∃c,iI xs v c then p_ h else 0
theorem j8{xs:List Int}{v:Int}{c:Nat}(h:iI xs v c):dy xs v=c:=by unfold dy;rw[dif_pos ⟨c,h⟩];grind[I9]
def gT{xs:List Int}(hs:ce xs):∀(j i:Nat) (h:j<xs.length) (a:i<j),xs[i]<xs[j]
 |0,i,h,a=>absurd a (by simp)
 |j+1,i,h,a=>by
  have h1:=hs.2.2.1 j h;rcases Nat.lt_succ_iff_lt_or_eq.1 a with hl|rfl;.have:=gT hs j i (by omega) hl;omega
  omega
theorem Bb(xs:List Int)(v:Int)(hs:ce xs)(hl:xs.length<=4611686018427387903)(x:0<=v):∃c,iI xs v c/\aB tbl 177 [.d (.list tI) xs,.d tI v] [] ar ((c:Int),()):=by
 suffices h:Conv tbl 177 [.d (.list tI) xs,.d tI v] [] λo=>∃c:Nat,o=some (fW ar ((c:Int),()))/\iI xs v c by obtain⟨c,⟨k,g,hc⟩,w⟩:=s5 (sh:=ar) (R:=λc=>∃k:Nat,c=((k:Int),())/\iI xs v k) (λ_=>rfl) (zY h λo ⟨k,r,g⟩=>⟨((k:Int),()),r,k,rfl,g⟩);grind
 refine QB ar (ae (Go.Ev.wp_loop (λs=>∃lo a:Nat,s=((lo:Int),(a:Int),())/\lo<a/\a<=xs.length/\(∀h:lo<xs.length,xs[lo]<=v)/\∀h:a<xs.length,v<xs[a]) (λs=>(s.2.1 - s.1).toNat) ⟨0,xs.length,rfl,hs.1,o_ _,λh=>by rw[hs.2.1 h];omega,λh=>absurd h (by simp)⟩ ?_));rintro s ⟨lo,a,rfl,h1,h2,e,f⟩;have y:b_ .i64 ((a:Int) - (lo:Int))=(a:Int) - lo:=wrap_i64;refine au (λb=>?_) λb=>?_
 .have b:(a:Int) - lo>1:=by grind
  have p:b_ .i64 (Int.tdiv (b_ .i64 ((lo:Int)+(a:Int))) (2:Int))=(((lo+a)/2:Nat):Int):=by grind[wrap_i64]
  simp only[p];have d:(lo+a)/2<xs.length:=by omega
  refine aA d (au (λhc=>aa ?_) λhc=>aa ?_)
  .have hc:xs[(lo+a)/2]<=v:=by grind
   refine⟨⟨(lo+a)/2,a,rfl,by omega,h2,λ_=>hc,f⟩,?_⟩;grind
  .have hc:v<xs[(lo+a)/2]:=by grind
   refine⟨⟨lo,(lo+a)/2,rfl,by omega,by omega,e,λ_=>hc⟩,?_⟩;grind
 .have b:¬(a:Int) - lo>1:=by grind
  refine aa (aa ⟨lo,rfl,by omega,e (by omega),λj l n=>?_⟩);have u:=f (by omega);rcases Nat.lt_or_eq_of_le (show a<=j by omega)with hl|rfl;.have:=gT hs j a l hl;omega
  omega
theorem FX(xs:List Int)(v:Int)(hs:ce xs)(hl:xs.length<=4611686018427387903)(n:0<=v):∃c,iI xs v c/\aB tbl 139 [.d (.list tI) xs,.d tI v] [] ar ((c:Int),()):=by
 suffices h:Conv tbl 139 [.d (.list tI) xs,.d tI v] [] λo=>∃c:Nat,o=some (fW ar ((c:Int),()))/\iI xs v c by obtain⟨c,⟨k,e,hc⟩,l⟩:=s5 (sh:=ar) (R:=λc=>∃k:Nat,c=((k:Int),())/\iI xs v k) (λ_=>rfl) (zY h λo ⟨k,g,e⟩=>⟨((k:Int),()),g,k,rfl,e⟩);grind
 refine QB ar (ae (aK (N:=xs.length) (I:=λi s=>∃c:Nat,s=((c:Int),(i:Int),())/\(∀h:c<xs.length,xs[c]<=v)/\c<xs.length/\∀j (_:j<xs.length),c<j->j<i->v<xs[j]) ⟨0,rfl,λh=>by rw[hs.2.1 h];omega,hs.1,λj _ _ h=>absurd h (by simp)⟩ ?_ ?_));.rintro i s b ⟨c,rfl,h1,h2,a⟩;refine aQ b (ae (aA b (au (λhc=>aa (aa ?_)) λhc=>aa (aa ?_))));all_goals grind[ak]
 .rintro s ⟨c,rfl,h1,h2,a⟩;exact aJ (aa (aa ⟨c,rfl,h2,h1 h2,λj d f=>a j d f d⟩))
def xr(xs:List Int)(v:Int)(hs:ce xs)(hl:xs.length<=4611686018427387903)(a:0<=v):aB tbl 177 [.d (.list tI) xs,.d tI v] [] ar ((dy xs v:Int),()):=by grind[Bb,j8]
def sP(xs:List Int)(v:Int)(hs:ce xs)(hl:xs.length<=4611686018427387903)(a:0<=v):aB tbl 139 [.d (.list tI) xs,.d tI v] [] ar ((dy xs v:Int),()):=by grind[FX,j8]
def Va{xs:List Int}{v:Int}(hs:ce xs)(hl:xs.length<=4611686018427387903)(a:0<=v):iI xs v (dy xs v):=by grind[Bb,j8]
structure Good(d:DF):Prop where
 cu:ce d.1
 small:¬Big d
 len:0<d.2.1.length/\d.2.2.1.length=d.2.1.length
 rows:∀r∈d.2.1,r.length=d.1.length
 start:0<=d.2.2.2.1/\d.2.2.2.1<(d.2.1.length:Int)
 to:∀r∈d.2.1,∀t∈r,0<=t/\t<(d.2.1.length:Int)
def dQ{d:DF}:bL d=0↔Good d:=by
 constructor
 .intro h;unfold bL at h;by_cases h1:Big d;.grind
  by_cases h2:ce d.1;case neg=>grind
  by_cases a:d.2.1.length=0\/d.2.2.1.length≠d.2.1.length;.omega
  by_cases c:∀r∈d.2.1,r.length=d.1.length;case neg=>grind
  by_cases b:d.2.2.2.1<0\/d.2.2.2.1>=(d.2.1.length:Int);.omega
  by_cases e:∀r∈d.2.1,∀t∈r,0<=t/\t<(d.2.1.length:Int);case neg=>grind
  exact⟨h2,h1,by omega,c,by omega,e⟩
 .intro h;have a:¬(d.2.1.length=0\/d.2.2.1.length≠d.2.1.length):=by have:=h.len;omega
  have b:¬(d.2.2.2.1<0\/d.2.2.2.1>=(d.2.1.length:Int)):=by have:=h.start;omega
  unfold bL;rw[if_neg h.small,if_neg (not_not_intro h.cu),if_neg a,if_neg (not_not_intro h.rows),if_neg b,if_neg (not_not_intro h.to)]
noncomputable def bJ(d:DF)(s:Int)(v:Int):Int:=(d.2.1.getD s.toNat []).getD (dy d.1 v) 0
def dz{d:DF}(h:Good d):d.2.1.length<=4096/\d.1.length<=2000/\d.2.2.1.length<=4096:=by have:=h.small;unfold Big at this;omega
def qy{d:DF}(h:Good d){s v:Int}(b:0<=s)(hs:s<(d.2.1.length:Int))(a:0<=v):∃h1:s.toNat<d.2.1.length,∃h2:dy d.1 v<d.2.1[s.toNat].length,d.2.1[s.toNat][dy d.1 v]=bJ d s v/\0<=bJ d s v/\bJ d s v<(d.2.1.length:Int):=by
 have h1:s.toNat<d.2.1.length:=by omega
 have hl:=dz h;obtain⟨hc,_⟩:=Va h.cu (by omega) a;have h2:dy d.1 v<d.2.1[s.toNat].length:=by rw[h.rows _ (a_ h1)];omega
 have e:d.2.1[s.toNat][dy d.1 v]=bJ d s v:=by grind[bJ]
 refine⟨h1,h2,e,?_⟩;rw[<-e];exact h.to _ (a_ h1) _ (a_ h2)
set_option maxRecDepth 100000
open Classical in
noncomputable def gZ(d:DF):DF:=if Good d then(d.1,d.2.1,d.2.2.1.map (!·),d.2.2.2.1,())else([],[],[],0,())
def AG{d:DF}(h:Good d):gZ d=(d.1,d.2.1,d.2.2.1.map (!·),d.2.2.2.1,()):=by unfold gZ;rw[if_pos h]
def Vy{d:DF}(h:Good d):Good (gZ d):=by rw[AG h];have:=h.small;exact⟨h.cu,by grind[Big],⟨h.len.1,by simpa using h.len.2⟩,h.rows,h.start,h.to⟩
def Tb{d:DF}(h:Good d):Sa d:=by have hl:=dz h;exact⟨by omega,by omega,λr hr=>by rw[h.rows r hr];omega,by omega⟩
def ud(d:DF):aB tbl 155 [.d Uc d] [] bp (gZ d,()):=by
 refine cm ?_;refine aj (gh d) (au (λh=>aa ?_) λh=>?_)
 .have:¬Good d:=λhg=>by rw[dQ.2 hg]at h;simp at h
  rw[show gZ d=([],[],[],0,())from by unfold gZ;rw[if_neg this]]
 have hg:Good d:=dQ.1 (by simpa using h);have hl:=dz hg;have hn:=hg.len;refine ao (decide_eq_true (by simp;omega)) ?_;refine ae (aK (N:=d.2.1.length) (I:=λi s=>s=((i:Int),(0:Int),([]:List Int)++d.1,d.2.2.2.1,d.2.1.take i,(d.2.2.1.take i).map (!·),())) (by simp) ?_ ?_)
 .rintro i s a rfl;have h2:i<d.2.2.1.length:=by omega
  have hr:=hg.rows _ (a_ a);refine aQ a (aA a (ao (decide_eq_true (by simp;omega)) (ao (decide_eq_true (by simp;omega)) (aA h2 (ao (decide_eq_true (by simp;omega)) (aa ?_))))));simp only[ak a,G_,c_ a,c_ h2,B_,ac_,r_,T_,x_]
 .rintro s rfl;refine aJ (aa (aa ?_));rw[AG hg];simp only[u_,x_];rw[h_ (by omega)]
def sK(d:DF):aB tbl 210 [.d Uc d] [] bp (gZ d,()):=by
 refine cm ?_;refine aj (eS d) (au (λh=>aa ?_) λh=>?_)
 .have:¬Good d:=λhg=>by rw[dQ.2 hg]at h;simp at h
  rw[show gZ d=([],[],[],0,())from by unfold gZ;rw[if_neg this]]
 have hg:Good d:=dQ.1 (by simpa using h);have hl:=dz hg;have hn:=hg.len;refine ao (decide_eq_true (by simp;omega)) ?_;refine ae (aK (N:=d.2.1.length) (I:=λi s=>s=((i:Int),(0:Int),([]:List Int)++d.1,d.2.2.2.1,d.2.1.take i,(d.2.2.1.take i).map (!·),())) (by simp) ?_ ?_)
 .rintro i s a rfl;have h2:i<d.2.2.1.length:=by omega
  have hr:=hg.rows _ (a_ a);refine aQ a (aA a (ao (decide_eq_true (by simp;omega)) (ao (decide_eq_true (by simp;omega)) (aA h2 (ao (decide_eq_true (by simp;omega)) (aa ?_))))));simp only[ak a,G_,c_ a,c_ h2,B_,ac_,r_,T_,x_]
 .rintro s rfl;refine aJ (aa (aa ?_));rw[AG hg];simp only[u_,x_];rw[h_ (by omega)]
end Go.Proofs.YtdgiglmmpbndmaaGreatDoor
namespace Go.Pl
def Asc(l:List Int):Prop:=l.Pairwise (·<·)
def wj:∀(l l':List Int),Asc l->Asc l'->(∀x,x∈l↔x∈l')->l=l'
 |[],[],_,_,_=>rfl
 |[],y::l',_,_,h=>by have:=(h y).2 (f_ ..);cases this
 |x::l,[],_,_,h=>by have:=(h x).1 (f_ ..);cases this
 |x::l,y::l',h1,h2,h=>by
  have c:=aa_.1 h1;have d:=aa_.1 h2;have f:x=y:=by
   have g:=(h x).1 (f_ ..);have j:=(h y).2 (f_ ..);rcases n_.1 g with e|k;.exact e
   rcases n_.1 j with e|n;.exact e.symm
   have:=c.1 y n;have:=d.1 x k;omega
  subst f;rw[wj l l' c.2 d.2 λz=>?_];constructor
  .intro b;rcases n_.1 ((h z).1 (e_ _ b))with rfl|a;.have:=c.1 z b;omega
   .exact a
  .intro b;rcases n_.1 ((h z).2 (e_ _ b))with rfl|a;.have:=d.1 z b;omega
   .exact a
def m8{l l':List Int}(h:Asc l)(h':Asc l')(a:∀x∈l,∀y∈l',x<y):Asc (l++l'):=List.pairwise_append.2 ⟨h,h',a⟩
def wh{l:List Int}(h:Asc l){i j:Nat}(a:i<j)(b:j<l.length):l[i]<l[j]:=List.pairwise_iff_getElem.1 h i j (by omega) b a
open Classical in
noncomputable def pU(l:List Int):List Int:=if h:∃c,Asc c/\∀x,x∈c↔x∈l then p_ h else []
def mz{l c:List Int}(hc:Asc c)(a:∀x,x∈c↔x∈l):pU l=c:=by have b:∃c,Asc c/\∀x,x∈c↔x∈l:=⟨c,hc,a⟩;unfold pU;rw[dif_pos b];have hs:=H_ b;exact wj _ _ hs.1 hc λx=>(hs.2 x).trans (a x).symm
section
variable {σ β σ' β':Type}
inductive F2(R:σ->σ'->Prop):List σ->List σ'->Prop
 |nil:F2 R [] []
 |cons {x:σ} {y:σ'} {l:List σ} {l':List σ'}:R x y->F2 R l l'->F2 R (x::l) (y::l')
theorem F2.len{R:σ->σ'->Prop}{l:List σ}{l':List σ'}(h:F2 R l l'):l.length=l'.length:=by induction h with|nil=>rfl|cons _ _ C=>simp[C]
theorem F2.get{R:σ->σ'->Prop}{l:List σ}{l':List σ'}(h:F2 R l l'):∀{i:Nat} {x:σ} {y:σ'},l[i]? =some x->l'[i]? =some y->R x y:=by induction h with|nil=>intro i x y h;simp at h|cons hr _ H=>intro i x y C E;cases i with|zero=>simp at C E;subst C E;exact hr|succ i=>exact H (by simpa using C) (by simpa using E)
theorem F2.app{R:σ->σ'->Prop}{l k:List σ}{l' C:List σ'}(h:F2 R l l')(h':F2 R k C):F2 R (l++k) (l'++C):=by induction h with|nil=>exact h'|cons hr _ E=>exact .cons hr E
def NM(f:σ->β->σ)(acc:σ->Bool)(ls:List β)(s t:σ):Prop:=∀w:List β,(∀c∈w,c∈ls)->acc (w.foldl f s)=acc (w.foldl f t)
variable {f:σ->β->σ} {acc:σ->Bool} {ls:List β}
theorem NM.refl(s:σ):NM f acc ls s s:=λ_ _=>rfl
theorem NM.symm{s t:σ}(h:NM f acc ls s t):NM f acc ls t s:=λw C=>(h w C).symm
theorem NM.trans{s t u:σ}(h:NM f acc ls s t)(h':NM f acc ls t u):NM f acc ls s u:=λw C=>(h w C).trans (h' w C)
theorem NM.nil{s t:σ}(h:NM f acc ls s t):acc s=acc t:=h [] (by simp)
theorem NM.step{s t:σ}(h:NM f acc ls s t){c:β}(hc:c∈ls):NM f acc ls (f s c) (f t c):=λw E=>h (c::w) λx C=>by
 rcases n_.1 C with rfl|C;.exact hc
 .exact E x C
theorem PZ{P:σ->Prop}{b:σ->Int}(a:∀s c,c∈ls->P s->P (f s c))(e:∀s t,P s->P t->b s=b t->acc s=acc t) (hs:∀s t c,c∈ls->P s->P t->b s=b t->b (f s c)=b (f t c)) {s t:σ} (h1:P s) (h2:P t) (h:b s=b t):NM f acc ls s t:=by intro w;induction w generalizing s t with|nil=>intro _;exact e s t h1 h2 h|cons c w j=>intro d;have hc:=d c (f_ ..);exact j (a s c hc h1) (a t c hc h2) (hs s t c hc h1 h2 h) λx g=>d x (e_ _ g)
theorem Kd{P:σ->Prop}{b b':σ->Int}{m:Nat}(k:∀i:Nat,i<m->∃s,P s/\b s=(i:Int))(f:∀s,P s->0<=b' s/\b' s<(m:Int)) (e:∀s t,P s->P t->b' s=b' t->b s=b t) {s t:σ} (h1:P s) (h2:P t) (h:b s=b t):b' s=b' t:=by
 obtain⟨d,a⟩:∃d:Nat->σ,∀i,i<m->P (d i)/\b (d i)=(i:Int):=⟨λi=>if h:i<m then p_ (k i h)else s,λi c=>by simp only[c,dif_pos];exact H_ (k i c)⟩;have p:((l_ m).map λi=>b' (d i)).Nodup:=by rw[N_,List.pairwise_map];refine List.Pairwise.imp_of_mem ?_ (N_.1 List.nodup_range);intro i j c n B l;have c:=k_.1 c;have n:=k_.1 n;have:=e _ _ (a i c).1 (a j n).1 l;rw[(a i c).2,(a j n).2]at this;omega
 have g:∀x:Int,0<=x->x<(m:Int)->x∈(l_ m).map λi=>b' (d i):=by
  intro x D E;refine g_ λhn=>?_;have v:x∈(l_ m).map fun(i:Nat)=>(i:Int):=F_.2 ⟨x.toNat,k_.2 (by omega),by omega⟩;have:=gR ((l_ m).map λi=>b' (d i)) (((l_ m).map fun(i:Nat)=>(i:Int)).erase x) p λy C=>by obtain⟨i,c,rfl⟩:=F_.1 C;have c:=k_.1 c;have A:=f _ (a i c).1;refine(List.mem_erase_of_ne ?_).2 (F_.2 ⟨(b' (d i)).toNat,k_.2 (by omega),by omega⟩);rintro rfl;exact hn (F_.2 ⟨i,k_.2 c,rfl⟩)
  have w:=List.length_erase_of_mem v;have z:=List.length_pos_of_mem v;simp only[d_,List.length_range]at this w z;omega
 have key:∀u,P u->b' u=b' (d (b u).toNat):=by intro u r;obtain⟨i,c,l⟩:=F_.1 (g _ (f u r).1 (f u r).2);have c:=k_.1 c;have:=e _ _ (a i c).1 r l;rw[(a i c).2]at this;rw[<-this];simp only[y_];exact l.symm
 rw[key s h1,key t h2,h]
variable [DecidableEq σ] [DecidableEq σ']
theorem RO{i8:σ->σ'->Prop}{g:σ'->β'->σ'}{h:β->β'}{x:σ}{y:σ'}{i:Nat}(n:∀a D b b',i8 a b->i8 D b'->(a=D↔b=b')):
 ∀(l:List β),(∀c∈l,i8 (f x c) (g y (h c)))->∀(L:List σ) (L':List σ') (T:List (Nat×β)) (R:List Nat),F2 i8 L L'->
 F2 i8 (l.foldl (be f x i) (L,T,R)).1 ((l.map h).foldl (be g y i) (L',T.map (λt=>(t.1,h t.2)),R)).1/\
 ((l.map h).foldl (be g y i) (L',T.map (λt=>(t.1,h t.2)),R)).2.1=(l.foldl (be f x i) (L,T,R)).2.1.map (λt=>(t.1,h t.2))/\
 ((l.map h).foldl (be g y i) (L',T.map (λt=>(t.1,h t.2)),R)).2.2=(l.foldl (be f x i) (L,T,R)).2.2
 |[],_,_,_,_,_,j=>⟨j,rfl,rfl⟩
 |c::l,s,L,L',T,R,j=>by
  have hc:=s c (f_ ..);have r:∀(L:List σ) (L':List σ'),F2 i8 L L'->(f x c∈L↔g y (h c)∈L')/\pos L (f x c)=pos L' (g y (h c)):=by
   intro L L' j;induction j with
   |nil=>simp[pos]| @cons a b L L' A j u=>
    have E:=n a (f x c) b (g y (h c)) A hc;by_cases e:a=f x c;.have v:=E.1 e;subst e v;exact⟨by simp,by rw[Wy,Wy]⟩
    .have v:¬b=g y (h c):=λh=>e (E.2 h);refine⟨?_,by rw[Pf e,Pf v,u.2]⟩;simp only[n_,u.1];constructor
     .rintro(h|h);.exact absurd h.symm e
      .exact .inr h
     .rintro(h|h);.exact absurd h.symm v
      .exact .inr h
  have C:=r L L' j;have p:L.length=L'.length:=F2.len j;have u:=RO (i8:=i8) (g:=g) (h:=h) (x:=x) (y:=y) (i:=i) n l λF B=>s F (e_ _ B);rw[A_,r_,A_];by_cases k:f x c∈L
  .have d:=C.1.1 k;have w:be f x i (L,T,R) c=(L,T,R++[pos L (f x c)]):=by simp only[be,if_pos k]
   have z:be g y i (L',T.map (λt=>(t.1,h t.2)),R) (h c)=(L',T.map (λt=>(t.1,h t.2)),R++[pos L (f x c)]):=by simp only[be,if_pos d,C.2]
   rw[w,z];exact u L L' T _ j
  .have d:g y (h c)∉L':=λe=>k (C.1.2 e);have w:be f x i (L,T,R) c=(L++[f x c],T++[(i,c)],R++[L.length]):=by simp only[be,if_neg k]
   have z:be g y i (L',T.map (λt=>(t.1,h t.2)),R) (h c)=(L'++[g y (h c)],(T++[(i,c)]).map (λt=>(t.1,h t.2)),R++[L.length]):=by simp only[be,if_neg d,p,B_,r_,T_]
   rw[w,z];refine u _ _ _ _ (F2.app j ?_);exact .cons hc .nil
theorem xR{i8:σ->σ'->Prop}{g:σ'->β'->σ'}{h:β->β'}{s0:σ}{t0:σ'}(k:i8 s0 t0)(e:∀x y c,c∈ls->i8 x y->i8 (f x c) (g y (h c)))
 (d:∀a j b b',i8 a b->i8 j b'->(a=j↔b=b')):∀i,F2 i8 (bD f s0 ls i).1 (bD g t0 (ls.map h) i).1/\
 (bD g t0 (ls.map h) i).2.1=(bD f s0 ls i).2.1.map (λt=>(t.1,h t.2))/\(bD g t0 (ls.map h) i).2.2=(bD f s0 ls i).2.2
 |0=>⟨.cons k .nil,rfl,rfl⟩
 |i+1=>by
  obtain⟨h1,h2,n⟩:=xR k e d i;have p:=F2.len h1;by_cases z:i<(bD f s0 ls i).1.length;.have r:=c_ z;have s:=c_ (l:=(bD g t0 (ls.map h) i).1) (i:=i) (by omega);rw[cn r,cn s,h2,n];have hr:i8 (bD f s0 ls i).1[i] (bD g t0 (ls.map h) i).1[i]:=F2.get h1 r s;obtain⟨u,v,w⟩:=RO (f:=f) (g:=g) (h:=h) (i:=i) (x:=(bD f s0 ls i).1[i]) (y:=(bD g t0 (ls.map h) i).1[i]) d ls (λc hc=>e _ _ c hc hr) _ _ (bD f s0 ls i).2.1 [] h1;exact⟨u,v,by rw[w]⟩
  .rw[cY (m_ (by omega)),cY (m_ (by omega))];exact⟨h1,h2,n⟩
def de(L:List σ)(ys:List σ):List σ:=ys.foldl (λL y=>if y∈L then L else L++[y]) L
theorem rM{x:σ}{i:Nat}:∀(l:List β) (st:List σ×List (Nat×β)×List Nat),(l.foldl (be f x i) st).1=de st.1 (l.map (f x))
 |[],_=>rfl
 |c::l,st=>by rw[A_,rM l,r_];unfold de;rw[A_];congr 1;unfold be;split<;>rfl
theorem pg(L ys zs:List σ):de L (ys++zs)=de (de L ys) zs:=O_
theorem C5:∀(ys L:List σ),(∀x∈L,x∈de L ys)/\∀y∈ys,y∈de L ys
 |[],L=>⟨λ_ h=>h,by simp⟩
 |y::ys,L=>by
  have h1:y∈(if y∈L then L else L++[y]):=by split<;>simp_all
  have h2:∀x∈L,x∈(if y∈L then L else L++[y]):=λx c=>by split<;>simp_all
  have b:=C5 ys (if y∈L then L else L++[y]);refine⟨λx c=>b.1 x (h2 x c),λz a=>?_⟩;rcases n_.1 a with rfl|a;.exact b.1 _ h1
  .exact b.2 z a
theorem Hm{L:List σ}{y:σ}(h:y∈L):de L [y]=L:=by simp[de,h]
theorem N7{L:List σ}{y:σ}(h:y∉L):de L [y]=L++[y]:=by simp[de,h]
theorem vI(y:Nat->σ)(kp:Nat->Bool):∀(k:Nat) (L:List σ),(∀c,c<k->kp c=false->0<c/\y c=y (c - 1))->de L (((l_ k).filter kp).map y)=de L ((l_ k).map y)
 |0,_,_=>rfl
 |k+1,L,h=>by
  have d:=vI y kp k L λc hc=>h c (by omega);rw[List.range_succ,List.filter_append,B_,B_,pg,pg,d];cases a:kp k;.obtain⟨e,b⟩:=h k (by omega) a;have:y k∈de L ((l_ k).map y):=(C5 _ _).2 _ (F_.2 ⟨k - 1,k_.2 (by omega),b.symm⟩);rw[show [k].filter kp=[]from by simp[a]];simp only[T_,r_];rw[Hm this];rfl
  .rw[show [k].filter kp=[k]from by simp[a]]
theorem Ac{f:σ->Nat->σ}{s0:σ}{k:Nat}{kp:Nat->Bool}:∀i,(∀x∈(bD f s0 (l_ k) i).1,∀c,c<k->kp c=false->0<c/\f x c=f x (c - 1))->
 (bD f s0 ((l_ k).filter kp) i).1=(bD f s0 (l_ k) i).1
 |0,_=>rfl
 |i+1,h=>by
  have b:=Ac (f:=f) (s0:=s0) (k:=k) (kp:=kp) i λx a=>h x ((iu i).1.subset a);by_cases e:i<(bD f s0 (l_ k) i).1.length
  .have a:=c_ e;have d:(bD f s0 ((l_ k).filter kp) i).1[i]? =some (bD f s0 (l_ k) i).1[i]:=by rw[b];exact a
   rw[cn a,cn d];simp only;rw[rM,rM];simp only[b];exact vI _ _ _ _ λc hc g=>h _ ((iu i).1.subset (a_ e)) c hc g
  .rw[cY (f:=f) (ls:=l_ k) (m_ (by omega)),cY (m_ (by rw[b];omega)),b]
end
open Go Go.Ev
def l5(g:G):Option Nat->Nat
 |none=>bS g.fi
 |some b=>bS ((l_ g.sp.length).flatMap λk=>if b.testBit k then Ek g.pr k else [])
def tL(g:G)(a:Int):Nat:=bS ((l_ g.sp.length).filter (l7 g a))
def da(g:G)(x:Option Nat)(a:Int):Option Nat:=some (l5 g x&&&tL g a)
def iJ(g:G):Option Nat->Bool
 |none=>g.em
 |some b=>b&&&bS g.la != 0
def nX(l:List (Int×Int)):List Int:=0::l.flatMap λp=>p.1::(if p.2<4294967295 then [p.2+1]else [])
def Qw{g:G}(h:FM 0 g)(x:Option Nat):l5 g x<2^g.sp.length:=by
 cases x with
 |none=>exact fy λp hp=>by have:=h.fi p hp;omega|some b=>
  refine fy λp hp=>?_;obtain⟨k,a,hp⟩:=t_.1 hp;split at hp;.have:=h.pr _ _ (jl.1 hp);omega
  .cases hp
def YR(g:G)(a:Int):tL g a<2^g.sp.length:=fy λp hp=>by have:=(U_.1 hp).1;exact k_.1 this
def Nw{g:G}(h:FM 0 g)(x:Option Nat)(a:Int):l5 g x&&&tL g a<2^g.sp.length:=ab_ Nat.and_le_left (Qw h x)
def YG{g:G}{n:Int}{p:Nat}(h:l7 g n p=true):p<g.sp.length:=by
 unfold l7 at h;split at h;.rename_i q a;exact(z_.1 a).1
 .cases h
def yr(g:G)(a:Int)(p:Nat):(tL g a).testBit p=l7 g a p:=by
 unfold tL;rw[cP];cases e:l7 g a p;.exact decide_eq_false λb=>by rw[(U_.1 b).2]at e;cases e
 .exact decide_eq_true (U_.2 ⟨k_.2 (YG e),e⟩)
def Sv(g:G)(q:Nat):(l5 g none).testBit q=(Fp g []).1 q:=by show(bS g.fi).testBit q=decide (q∈g.fi);rw[cP]
def Hy{g:G}(h:FM 0 g)(b:Nat)(q:Nat):(l5 g (some b)).testBit q=nxF g b.testBit q:=by
 show(bS _).testBit q=_;rw[cP];cases e:nxF g b.testBit q
 .refine decide_eq_false λc=>?_;obtain⟨k,d,hp⟩:=t_.1 c;split at hp;.rename_i a;have:=JX.2 ⟨k,a,jl.1 hp⟩;rw[this]at e;cases e
  .cases hp
 .obtain⟨p,h1,h2⟩:=JX.1 e;refine decide_eq_true (t_.2 ⟨p,k_.2 (by have:=h.pr p q h2;omega),?_⟩);rw[if_pos h1];exact jl.2 h2
def Tu{g:G}(h:FM 0 g):∀(w:List Int),(∀q,(l5 g (w.foldl (da g) none)).testBit q=(Fp g w).1 q)/\(w≠[]->∃b,w.foldl (da g) none=some b/\∀p,b.testBit p=(Fp g w).2 p):=by
 intro w;rw[<-List.reverse_reverse w];induction w.reverse with
 |nil=>exact⟨Sv g,λh=>absurd rfl h⟩|cons v l d=>
  rw[List.reverse_cons,O_,A_,List.foldl_nil];have a:Fp g (l.reverse++[v])=ZX g (Fp g l.reverse) v:=by unfold Fp;rw[O_];rfl
  have c:∀p,(l5 g (l.reverse.foldl (da g) none)&&&tL g v).testBit p=(Fp g (l.reverse++[v])).2 p:=λp=>by rw[a,V_,d.1,yr];rfl
  refine⟨λq=>?_,λ_=>⟨_,rfl,c⟩⟩;show(l5 g (some _)).testBit q=_;rw[Hy h,show nxF g (l5 g (l.reverse.foldl (da g) none)&&&tL g v).testBit q=nxF g (Fp g (l.reverse++[v])).2 q from by rw[show(l5 g (l.reverse.foldl (da g) none)&&&tL g v).testBit=(Fp g (l.reverse++[v])).2 from funext c],a];rfl
def Hk(g:G)(b:Nat):iJ g (some b)=g.la.any b.testBit:=by
 show(b&&&bS g.la != 0)=_;cases e:g.la.any b.testBit
 .have:b&&&bS g.la=0:=W_ λi=>by
   rw[V_,cP,ai_];by_cases a:i∈g.la;.have:=List.any_eq_false.1 e i a;simp[this]
   .simp[a]
  rw[this];rfl
 .obtain⟨p,hp,d⟩:=af_.1 e;have:b&&&bS g.la≠0:=λc=>by
   have h1:(b&&&bS g.la).testBit p=true:=by rw[V_,cP,d];simp[hp]
   rw[c,ai_]at h1;cases h1
  simpa using this
def UO{g:G}(h:FM 0 g)(w:List Int):iJ g (w.foldl (da g) none)=JW g w:=by unfold JW;cases w with|nil=>rfl|cons v w=>obtain⟨b,h1,h2⟩:=(Tu h (v::w)).2 (by simp);rw[h1,Hk,show b.testBit=(Fp g (v::w)).2 from funext h2];rfl
def VC{g:G}(hg:∀q∈g.sp,0<=q.1/\q.2<=4294967295){a v:Int}(k:a<=v)(r:v<=4294967295)(b:∀x∈nX g.sp,x<=v->x<=a)(p:Nat):l7 g v p=l7 g a p:=by
 unfold l7;cases e:g.sp[p]? with
 |none=>rfl|some q=>
  have c:=List.mem_of_getElem? e;have h1:q.1∈nX g.sp:=e_ _ (t_.2 ⟨q,c,f_ ..⟩);have h2:q.2<4294967295->q.2+1∈nX g.sp:=λh=>e_ _ (t_.2 ⟨q,c,e_ _ (by rw[if_pos h];simp)⟩);have j:=b _ h1;have n:=hg q c;simp only;have d:decide (q.1<=v)=decide (q.1<=a):=decide_eq_decide.2 ⟨λh=>j h,λh=>by omega⟩;have f:decide (v<=q.2)=decide (a<=q.2):=decide_eq_decide.2 ⟨λh=>by omega,λh=>by
   by_cases l:q.2<4294967295;.have:=b _ (h2 l);apply g_;intro hn;have:=this (by omega);omega
   .omega⟩
  rw[d,f]
def TL{g:G}(hg:∀q∈g.sp,0<=q.1/\q.2<=4294967295){a v:Int}(c:a<=v)(d:v<=4294967295)(b:∀x∈nX g.sp,x<=v->x<=a)(x:Option Nat):da g x v=da g x a:=by
 unfold da;have:tL g v=tL g a:=W_ λi=>by rw[yr,yr];exact VC hg c d b i
 rw[this]
def Yh{g:G}(hg:∀q∈g.sp,0<=q.1/\q.2<=4294967295)(b:∀q∈g.sp,q.1<=q.2):∀x∈nX g.sp,0<=x/\x<=4294967295:=by
 intro x a;rcases n_.1 a with rfl|a;.omega
 obtain⟨q,c,a⟩:=t_.1 a;have h1:=hg q c;have h2:=b q c;rcases n_.1 a with rfl|a;.omega
 .split at a;.simp at a;omega
  .cases a
def xz(l:List (Int×Int)):(nX l).length<=2*l.length+1:=by
 unfold nX;rw[J_];have:∀m:List (Int×Int),(m.flatMap λp=>p.1::(if p.2<4294967295 then [p.2+1]else [])).length<=2*m.length:=by
  intro m;induction m with
  |nil=>simp|cons q m a=>
   rw[List.flatMap_cons,List.length_append,J_,J_];split;.simp only[J_,aj_];omega
   .simp only[aj_];omega
 have:=this l;omega
def zb3:∀(r:Rx),eW r=true->∀o,∀q∈(di r o).sp,q.1<=q.2:=by
 refine hU λk lo s ks j p o=>?_;obtain⟨hn,d⟩:=fe.1 p;have f:∀(l:List Rx) (a:G),(∀r∈l,r∈ks)->(∀q∈a.sp,q.1<=q.2)->∀q∈(cK l o a).sp,q.1<=q.2:=by
  intro l;induction l with
  |nil=>intro a _ h;exact h|cons r l g=>
   intro a hl h;refine g _ (λr hr=>hl r (e_ _ hr)) λq b=>?_;rcases K_.1 b with b|b;.exact h q b
   .exact j r (hl r (f_ ..)) (d r (hl r (f_ ..))) _ q b
 have n:∀(l:List Rx) (a:G),(∀r∈l,r∈ks)->(∀q∈a.sp,q.1<=q.2)->∀q∈(ee l o a).sp,q.1<=q.2:=by
  intro l;induction l with
  |nil=>intro a _ h;exact h|cons r l g=>
   intro a hl h;refine g _ (λr hr=>hl r (e_ _ hr)) λq b=>?_;rcases K_.1 b with b|b;.exact h q b
   .exact j r (hl r (f_ ..)) (d r (hl r (f_ ..))) _ q b
 have c:∀(e:Bool),∀q∈(g0 e).sp,q.1<=q.2:=λe q b=>by simp[g0]at b
 unfold di;split;.rename_i h1;have:=hn.nW h1;intro q b;simp only[KE,D_]at b;subst b;exact this.2.1
 split;.intro q b;simp only[KE,D_]at b;subst b;show(0:Int)<=4294967295;decide
 split;.exact n _ _ (λ_ h=>h) (c _)
 split;.exact f _ _ (λ_ h=>h) (c _)
 split;.exact f _ _ (λ_ h=>h) (c _)
 split;.exact f _ _ (λ_ h=>h) (c _)
 split;.exact f _ _ (λ_ h=>h) (c _)
 .exact c _
end Go.Pl
