import Derived.Test.YtmfolppncelceaaGreatDoorPPlPfx
import Derived.Test.YtmfolppncelceaaGreatDoorPGlueB
import Derived.Test.YtmfolppncelceaaGreatDoorPL7
import Derived.Test.YtmfolppncelceaaGreatDoorPL5
set_option linter.unusedVariables false
set_option linter.unusedSimpArgs false
open Bool renaming not_eq_true->d_,and_eq_true->f_,eq_iff_iff->m_,or_eq_false_iff->B_,false_eq_true->E_,false_xor->M_,or_assoc->P_,true_and->Q_
open Classical renaming byContradiction->n_,not_not->S_
open Int renaming eq_ofNat_of_zero_le->k_,toNat->r_,le_refl->C_,toNat_natCast->G_
open Go.IntKind renaming wrap->b_,bits->w_
open List renaming getElem?_eq_getElem->a_,take_succ_eq_append_getElem->c_,getElem_mem->e_,length_take->g_,append_nil->h_,take_length->j_,flatMap_append->o_,length_map->p_,mem_append->q_,flatMap_cons->s_,length_cons->t_,eq_nil_of_length_eq_zero->u_,mem_cons_of_mem->v_,length_append->y_,mem_cons_self->z_,mem_singleton->F_,countP_cons->H_,map_flatMap->I_,all_append->J_,find?_cons->K_,range_succ->L_,drop_zero->N_,range->R_,getD->T_
open Nat renaming le_refl->l_,le_trans->x_,zero_le->A_,mod_lt->O_
open Option renaming bind->i_,or_none->D_
open Prod renaming mk->U_
open Sum renaming inr->V_
namespace Go.Proofs.YtmfolppncelceaaGreatDoor
open Go Go.Av Go.Ev Go.Pl
abbrev vp(x:Int):Prop:=0<=x/\x<=4294967295
theorem yx(n m:Int):aL tbl jG [.d tI n,.d tI m] [] fZ (min (max n 0) m,()):=
 aH rfl (aK zZ rfl (λO k=>Ad O k n m) (aa rfl))
theorem An(n m:Int):aL tbl kL [.d tI n,.d tI m] [] iR (min (max n 0) m,()):=
 aH rfl (aK Cf rfl (λO k=>Cq O k n m) (aa rfl))
theorem vA(k:Nat):(2:Int)^k=((2^k:Nat):Int):=by
 induction k with
 |zero=>rfl
 |succ k ih=>rw[Int.pow_succ,ih,Nat.pow_succ];rfl
theorem Am(n:Nat)(hn:n<=32):aL tbl kJ [.d tI (n:Int)] [] iK (((4294967295*2^(32 - n)%4294967296:Nat):Int),()):=by
 refine aH rfl (aK Ce rfl (λO k=>Cp O k (n:Int)) ?_)
 unfold sW
 refine aA (yx (n:Int) 32) ?_
 have e:b_ .i64 (32 - min (max (n:Int) 0) 32)=((32 - n:Nat):Int):=by
  rw[wrap_i64 (by omega) (by omega)];omega
 refine cA (by simp only[e];exact decide_eq_true (by omega)) (aa ?_)
 simp only[e]
 rw[show min (r_ ((32 - n:Nat):Int)) (w_ .u32)=32 - n from by show min _ 32=_;omega,wrap_u32,vA]
 rfl
theorem Al(x n:Int)(hx:vp x)(h0:0<=n)(h1:n<=32):aL tbl kI [.d tW x,.d tI n] [] iJ (xT x n,()):=by
 obtain⟨a,rfl⟩:=k_ hx.1
 obtain⟨k,rfl⟩:=k_ h0
 refine aH rfl (aK Cd rfl (λO m=>Co O m (a:Int) (k:Int)) ?_)
 unfold sV
 refine aA (Am k (by omega)) (aa ?_)
 rw[AM (by have:=hx.2;omega) (O_ _ (by decide)),FR (by have:=hx.2;omega) (by omega)]
 rfl
theorem Cw(x i:Nat)(hx:x<=4294967295)(hi:i<32):aL tbl mb [.d tW (x:Int),.d tI (i:Int)] [] gL (((x/2^(31 - i)%2:Nat):Int),()):=by
 refine aH rfl (aK D6 rfl (λO k=>Eb O k (x:Int) (i:Int)) ?_)
 unfold uk
 refine an (cU (b:=false) (λ_=>aa (decide_eq_false (by omega))) ?_)
 rw[decide_eq_false (show ¬(i:Int)<0 by omega)]
 have e:b_ .u64 (b_ .i64 (31 - (i:Int)))=((31 - i:Nat):Int):=by
  rw[wrap_i64 (by omega) (by omega),wrap_u64];omega
 refine bi rfl (cA (by simp only[e];exact decide_eq_true (by omega)) (aa ?_))
 simp only[e]
 rw[show min (r_ ((31 - i:Nat):Int)) (w_ .u32)=31 - i from by show min _ 32=_;omega,vA,Int.fdiv_eq_ediv_of_nonneg _ (Int.natCast_nonneg _)]
 have e2:(x:Int)/((2^(31 - i):Nat):Int)=((x/2^(31 - i):Nat):Int):=rfl
 have h2:x/2^(31 - i)<=x:=Nat.div_le_self _ _
 rw[e2,show(1:Int)=((1:Nat):Int)from rfl,AM (by omega) (by decide),Nat.and_one_is_mod]
 have:x/2^(31 - i)%2<2:=O_ _ (by decide)
 rw[wrap_i64 (by omega) (by omega)]
theorem yy(x n:Int)(hx:vp x)(h0:0<=n)(h1:n<=32):aL tbl jH [.d tW x,.d tI n] [] f7 (xT x n,()):=by
 obtain⟨a,rfl⟩:=k_ hx.1
 obtain⟨k,rfl⟩:=k_ h0
 have ha:a<4294967296:=by have:=hx.2;omega
 refine aH rfl (aK z6 rfl (λO m=>Ae O m (a:Int) (k:Int)) ?_)
 unfold qy
 refine aA (An (k:Int) 32) ?_
 have e:min (max (k:Int) 0) 32=(k:Int):=by omega
 rw[e]
 refine an (cP (N:=k) (I:=λi s=>s=(((mZ a i:Nat):Int),(i:Int),())) (by rw[FT ha];rfl) (λi s hi hs=>?_) λs hs=>?_)
 ·subst hs
  unfold ka
  refine eZ hi (aA (Cw a i (by omega) (by omega)) ?_)
  have e:b_ .u64 (b_ .i64 (31 - (i:Int)))=((31 - i:Nat):Int):=by
   rw[wrap_i64 (by omega) (by omega),wrap_u64];omega
  refine cA (by simp only[e];exact decide_eq_true (by omega)) (aa ?_)
  simp only[e]
  have hb:a/2^(31 - i)%2<2:=O_ _ (by decide)
  have hp:(a/2^(31 - i)%2)*2^(31 - i)<4294967296:=by
   have h1:(a/2^(31 - i)%2)*2^(31 - i)<=1*2^31:=Nat.mul_le_mul (by omega) (Nat.pow_le_pow_right (by decide) (by omega))
   omega
  have e3:b_ .u32 (b_ .u32 ((a/2^(31 - i)%2:Nat):Int)*2^(min (r_ ((31 - i:Nat):Int)) (w_ .u32)))=(((a/2^(31 - i)%2)*2^(31 - i):Nat):Int):=by
   rw[show min (r_ ((31 - i:Nat):Int)) (w_ .u32)=31 - i from by show min _ 32=_;omega,vA,wrap_u32,wrap_u32]
   have h4:((a/2^(31 - i)%2:Nat):Int)%4294967296=((a/2^(31 - i)%2:Nat):Int):=by omega
   rw[h4,<-Int.natCast_mul]
   omega
  rw[e3,IZ (Nat.lt_of_le_of_lt (Hs a i) ha) hp,<-zjh a (by omega),a7 (n:=32) (by omega) (by decide)]
 ·subst hs
  unfold ka
  exact dm (aa (aa rfl))
theorem nk(p:sZ)(hp:vp p.1):aL tbl d7 [.d yP p] [] de (dW p,()):=by
 refine aH rfl (aK vS rfl (λO n=>wg O n p) ?_)
 unfold nn
 refine an (dj (b:=decide (p.2.1<=32)) (λ_=>aa rfl) ?_)
 refine an (dj (b:=(xT p.1 p.2.1==p.1)) (λh=>?_) (aa rfl))
 simp only[f_,decide_eq_true_eq]at h
 exact aA (Al p.1 p.2.1 hp h.1 h.2) (aa rfl)
theorem pu(p:sZ)(hp:vp p.1):aL tbl eP [.d yP p] [] dP (dW p,()):=by
 refine aH rfl (aK xf rfl (λO n=>xt O n p) ?_)
 unfold pB
 refine an (dj (b:=decide (p.2.1<=32)) (λ_=>aa rfl) ?_)
 refine an (dj (b:=(xT p.1 p.2.1==p.1)) (λh=>?_) (aa rfl))
 simp only[f_,decide_eq_true_eq]at h
 exact aA (yy p.1 p.2.1 hp h.1 h.2) (aa rfl)
def JV(p:sZ)(a:Int):Bool:=dW p&&(xT a p.2.1==p.1)
def Mf(p q:sZ):Bool:=dW q&&(decide (p.2.1<=q.2.1)&&JV p q.1)
def Mp(r:L4)(p:sZ):Bool:=(Jt r==0)&&(Mf r.2.1 p&&(decide (r.2.2.1<=p.2.1)&&decide (p.2.1<=r.2.2.2.1)))
def Mt(l:List L4)(p:sZ):Bool:=match l.find? (λz=>Mp z p)with|some r=>r.1|none=>false
end Go.Proofs.YtmfolppncelceaaGreatDoor
namespace Go.Pl
open Go.Ev
def Mj(g:G)(n:Int)(p:Nat):Bool:=match g.sp[p]? with
 |some q=>decide (q.1<=n)&&decide (n<=q.2)
 |none=>false
def ML(g:G)(can:Nat->Bool)(n:Int)(p:Nat):Bool:=can p&&Mj g n p
def MZ(g:G)(at_:Nat->Bool)(q:Nat):Bool:=g.pr.any λx=>at_ x.1&&decide (x.2=q)
def LS(g:G)(s:(Nat->Bool)×(Nat->Bool))(n:Int):(Nat->Bool)×(Nat->Bool):=(MZ g (ML g s.1 n),ML g s.1 n)
def My(g:G)(path:List Int):(Nat->Bool)×(Nat->Bool):=path.foldl (LS g) (λp=>decide (p∈g.fi),λ_=>false)
def KB(g:G)(path:List Int):Bool:=bif path.isEmpty then g.em else g.la.any (My g path).2
open Go Go.Ev Go.Lib
def hd(t:List UInt8):Nat:=(t.headD 0).toNat
def pk(s:List UInt8)(i:Nat):Nat:=(s.getD i 0).toNat
def dg(c:Nat):Prop:=48<=c/\c<=57
section
variable (num:Nat->Option (Int×Nat)) (s:List UInt8)
end
structure NumOk(s:List UInt8)(num:Nat->Option (Int×Nat)):Prop where
 bnd:∀i n j,i<=s.length->num i=some (n,j)->i<j/\j<=s.length
 txt:∀i (m:Nat) t,s.drop i=decDigits m++t->m<=4294967295->¬dg (hd t)->num i=some ((m:Int),i+(decDigits m).length)
section
variable {num:Nat->Option (Int×Nat)} {s:List UInt8}
end
mutual
def L5:Rx->Nat
 | .mk _ _ _ ks=>1+G9 ks
def G9:List Rx->Nat
 |[]=>0
 |r::rs=>max (L5 r) (G9 rs)
end
def fst(c:Nat):Prop:=dg c\/c=46\/c=33\/c=91\/c=40
def comp:Rx->Bool
 | .mk k _ _ ks=>bif k==4 then !ks.isEmpty else(k==3||k==5||k==6||k==7)
section
variable {num:Nat->Option (Int×Nat)} {s:List UInt8}
def f2(c:Nat):Prop:=c=0\/c=41\/c=124\/c=32
end
theorem I2:∀(r:Rx) (lv c:Int),(En r lv c).2=0->lv+(L5 r:Int)<=17:=by
 refine zL λk lo up ks ih lv c h=>?_
 rw[En]at h
 split at h
 ·cases h
 split at h
 ·cases h
 split at h
 ·rename_i h0;exact absurd h h0
 have hks:∀(l:List Rx),(∀r∈l,r∈ks)->∀(c:Int),(uF l (lv+1) c).2=0->lv+1+(G9 l:Int)<=17:=by
  intro l
  induction l with
  |nil=>intro _ c _;simp only[G9];omega
  |cons r l il=>
   intro hm c h
   rw[uF]at h
   split at h
   ·rename_i h0;exact absurd h h0
   ·rename_i h0
    have h1:=ih r (hm r (z_ ..)) (lv+1) c (S_.1 h0)
    have h2:=il (λx hx=>hm x (v_ _ hx)) _ h
    simp only[G9]
    omega
 have:=hks ks (λ_ h=>h) _ h
 simp only[L5]
 omega
end Go.Pl
namespace Go.Proofs.YtmfolppncelceaaGreatDoor
open Go Go.Av Go.Ev Go.Pl
theorem FB:∀(r:Rx) (lv c:Int),0<=c->c<=64->c<=(En r lv c).1/\(En r lv c).1<=64:=by
 refine zL λk lo up ks ih lv c h0 h1=>?_
 have hs:∀(l:List Rx) (lv c:Int),(∀r∈l,r∈ks)->0<=c->c<=64->c<=(uF l lv c).1/\(uF l lv c).1<=64:=by
  intro l
  induction l with
  |nil=>intro lv c _ h0 h1;exact⟨C_ _,h1⟩
  |cons r l ihl=>
   intro lv c hl h0 h1
   have hr:=ih r (hl r (z_ ..)) lv c h0 h1
   simp only[uF]
   split
   ·exact hr
   ·have:=ihl lv (En r lv c).1 (λx hx=>hl x (v_ _ hx)) (by omega) hr.2
    omega
 simp only[En]
 split
 ·exact⟨C_ _,h1⟩
 split
 ·exact⟨C_ _,h1⟩
 split
 ·exact⟨C_ _,h1⟩
 ·have:=hs ks (lv+1) (c+1) (λ_ h=>h) (by omega) (by omega)
  omega
def rV(r:Rx):Int:=(En r 1 0).2
theorem G4:∀(r:Rx) (lv c:Int),(En r lv c).2=0->pR r=true/\(En r lv c).1=c+(sz r:Int):=by
 refine zL λk lo up ks ih lv c h=>?_
 have hs:∀(l:List Rx) (lv c:Int),(∀r∈l,r∈ks)->(uF l lv c).2=0->(∀r∈l,pR r=true)/\(uF l lv c).1=c+(JK l:Int):=by
  intro l
  induction l with
  |nil=>intro lv c _ _;exact⟨by simp,by simp[uF,JK]⟩
  |cons r l ihl=>
   intro lv c hl h
   simp only[uF]at h⊢
   split at h
   ·rename_i hz;exact absurd h hz
   ·rename_i hz
    rw[if_neg hz]
    have hz:(En r lv c).2=0:=by simpa using hz
    obtain⟨h1,h2⟩:=ih r (hl r (z_ ..)) lv c hz
    obtain⟨h3,h4⟩:=ihl lv _ (λx hx=>hl x (v_ _ hx)) h
    refine⟨λx hx=>?_,by rw[h4,h2];simp only[JK];omega⟩
    rcases List.mem_cons.1 hx with rfl|hx
    ·exact h1
    ·exact h3 x hx
 simp only[En]at h⊢
 split at h
 ·exact absurd h (by simp)
 split at h
 ·exact absurd h (by simp)
 split at h
 ·rename_i hz;exact absurd h hz
 ·rename_i a b hz
  rw[if_neg a,if_neg b,if_neg hz]
  obtain⟨h1,h2⟩:=hs ks (lv+1) (c+1) (λ_ h=>h) h
  have hz:vm k lo up ks.length=0:=by simpa using hz
  exact⟨well_iff.2 ⟨nodeE_zero.1 hz,h1⟩,by rw[h2];simp only[sz];omega⟩
theorem FA{r:Rx}(h:rV r=0):pR r=true/\sz r<=64:=by
 obtain⟨h1,h2⟩:=G4 r 1 0 h
 have:=FB r 1 0 (by decide) (by decide)
 exact⟨h1,by omega⟩
open Go Go.Av Go.Ev Go.Pl Go.Lib
end Go.Proofs.YtmfolppncelceaaGreatDoor
namespace Go.Ev
open Go Go.RowKit Go.Av
section
variable {tbl:Nat->Option Fun'}
end
end Go.Ev
namespace Go.Proofs.YtmfolppncelceaaGreatDoor
open Go Go.Av Go.Ev Go.Pl Go.Lib
structure Run(s:List UInt8)(i j:Nat):Prop where
 le:i<=j
 top:j<=s.length
 all:∀k,i<=k->k<j->dg (pk s k)
theorem eqT{a b:Nat}(h:((a:Int)==(b:Int))=true):a=b:=by simp at h;omega
section
variable {s:List UInt8}
end
def Rd(s:List UInt8)(one:Nat->Option (Rx×Nat))(C:Nat->Rx->Bool->Nat->Prop):Prop:=∀i,i<=s.length->∃(r:Rx) (ok:Bool) (j:Nat),(i<=j/\j<=s.length)/\one i=(if ok then some (r,j)else none)/\C i r ok j
section
variable {s:List UInt8}
theorem Rd.imp{one one':Nat->Option (Rx×Nat)}{C:Nat->Rx->Bool->Nat->Prop}(h:Rd s one C)(he:∀i,i<=s.length->one i=one' i):Rd s one' C:=λi hi=>by
 obtain⟨r,ok,j,h1,h2,h3⟩:=h i hi
 exact⟨r,ok,j,h1,by rw[<-he i hi];exact h2,h3⟩
end
def ParsedX(s:List UInt8)(c:Rx×Int×Unit):Prop:=(∃r,rV r=0/\LF r=s/\c=(r,0,()))\/((∀r,rV r=0->LF r≠s)/\c=(.mk 0 0 0 [],2,()))
theorem Gw{r:Rx}(h:rV r=0):pR r=true/\sz r<=64/\L5 r<=16:=by
 obtain⟨h1,h2⟩:=FA h
 have:=I2 r 1 0 h
 exact⟨h1,h2,by omega⟩
theorem HU:∀(r:Rx),pR r=true->sz r<=1000->HT r:=by
 refine zL λk lo up ks ih hw hs=>?_
 obtain⟨nd,hks⟩:=well_iff.1 hw
 have hl:=Fg ks
 simp only[sz]at hs
 have h1:lo=0/\up=0\/0<=lo/\lo<=up/\up<=4294967295:=by
  by_cases e:k=1
  ·exact .inr (nd.rng e)
  ·exact .inl (nd.zero e)
 have hk:=nd.known
 have m1:IntKind.i64.min= -9223372036854775808:=rfl
 have m2:IntKind.i64.max=9223372036854775807:=rfl
 refine⟨⟨by omega,by omega⟩,⟨by omega,by omega⟩,⟨by omega,by omega⟩,x_ (show ks.length<=1000 by omega) (by decide),(sB ks).2 λr hr=>ih r hr (hks r hr) (by have:=Fh hr;omega)⟩
theorem ParsedX.ok{s:List UInt8}{c:Rx×Int×Unit}(h:ParsedX s c):HT c.1:=by
 rcases h with⟨r,h1,_,rfl⟩|⟨_,rfl⟩
 ·obtain⟨h2,h3,_⟩:=Gw h1
  exact HU r h2 (by omega)
 ·exact⟨by decide,by decide,by decide,by decide,trivial⟩
open Go Go.Av Go.Ev Go.Pl
structure FolR(n:Nat)(F:List (List Int))(P:List (Nat×Nat)):Prop where
 len:F.length=n
 nd:∀l∈F,l.Nodup
 bd:∀l∈F,∀x∈l,0<=x/\x<(n:Int)
 mem:∀p (h:p<F.length) (q:Nat),(q:Int)∈F[p]↔(p,q)∈P
theorem FolR.congr{n:Nat}{F:List (List Int)}{P P':List (Nat×Nat)}(h:FolR n F P)(e:∀x,x∈P↔x∈P'):FolR n F P':=⟨h.len,h.nd,h.bd,λp hp q=>(h.mem p hp q).trans (e _)⟩
theorem FolR.add{n:Nat}{F:List (List Int)}{P:List (Nat×Nat)}(h:FolR n F P){p q:Nat}(hp:p<F.length)(hq:q<n)(hn:(q:Int)∉F[p]):FolR n (F.set p (F[p]++[(q:Int)])) (P++[(p,q)]):=by
 have hmem:∀l∈F.set p (F[p]++[(q:Int)]),l∈F\/l=F[p]++[(q:Int)]:=λl hl=>by
  rcases List.mem_or_eq_of_mem_set hl with h|h
  ·exact .inl h
  ·exact .inr h
 refine⟨by rw[List.length_set,h.len],λl hl=>?_,λl hl x hx=>?_,λp' hp' q'=>?_⟩
 ·rcases hmem l hl with h1|rfl
  ·exact h.nd l h1
  ·exact List.nodup_append.2 ⟨h.nd _ (e_ hp),by simp,λa ha b hb=>by simp at hb;subst hb;rintro rfl;exact hn ha⟩
 ·rcases hmem l hl with h1|rfl
  ·exact h.bd l h1 x hx
  ·rcases q_.1 hx with h2|h2
   ·exact h.bd _ (e_ hp) x h2
   ·simp at h2;subst h2;omega
 ·have hp'':p'<F.length:=by simpa using hp'
  rw[List.getElem_set]
  split
  ·rename_i e
   subst e
   simp only[q_,F_,h.mem p hp,U_.injEq,true_and]
   constructor
   ·rintro(h1|h1)
    ·exact .inl h1
    ·exact .inr (by omega)
   ·rintro(h1|h1)
    ·exact .inl h1
    ·exact .inr (by omega)
  ·rename_i e
   simp only[q_,F_,h.mem p' hp'',U_.injEq]
   constructor
   ·exact .inl
   ·rintro(h1|h1)
    ·exact h1
    ·exact absurd h1.1.symm e
theorem FolR.one{n:Nat}{F:List (List Int)}{P:List (Nat×Nat)}(h:FolR n F P)(hP:∀p q,(p,q)∈P->p<n):FolR (n+1) (F++[[]]) P:=by
 refine⟨by simp[h.len],λl hl=>?_,λl hl x hx=>?_,λp hp q=>?_⟩
 ·rcases q_.1 hl with h1|h1
  ·exact h.nd l h1
  ·simp at h1;subst h1;simp
 ·rcases q_.1 hl with h1|h1
  ·have:=h.bd l h1 x hx;omega
  ·simp at h1;subst h1;cases hx
 ·by_cases hpl:p<F.length
  ·rw[List.getElem_append_left hpl];exact h.mem p hpl q
  ·have:p=F.length:=by simp at hp;omega
   subst this
   simp only[List.getElem_concat_length,List.not_mem_nil,false_iff]
   intro hm
   have:=hP _ _ hm
   have:=h.len
   omega
section
variable {α β:Type}
end
structure CurR(M:Nat)(C:List Int)(can:Nat->Bool):Prop where
 bd:∀x∈C,0<=x/\x<(M:Int)
 mem:∀q:Nat,(q:Int)∈C↔can q=true
 len:C.length<=10000000000
theorem IE{α β:Type}{m:Option α}{a:α}{f:Nat->α->Option β}{Q:β->Prop}(h:m=some a)(k:Wp (λn=>f n a) Q):Wp (λn=>i_ m (f n)) Q:=by
 subst h;exact k
open Classical in
noncomputable def tL(s:List UInt8):Int:=if ∃r,rV r=0/\LF r=s then 0 else 2
def Bh(s:PS)(n:List UInt8):Option MJ:=s.1.find? (·.1==n)
def Hk(s:PS)(n:List UInt8):Option MH:=s.2.1.find? (·.1==n)
def u5(s:PS)(n:List UInt8):Option ME:=s.2.2.1.find? (·.1==n)
abbrev LX:Kd:=([],[],0,())
theorem yz(s:PS)(n:List UInt8)(hl:s.2.2.2.1.length<=9223372036854775807):aL tbl jI [.d yS s,.d tS n] [] eF ((sf s n).getD LX,(sf s n).isSome,()):=by
 refine aH rfl (aK z7 rfl (λO k=>Af O k s n) ?_)
 unfold qz
 refine an (Cl (xs:=s.2.2.2.1) (p:=(·.1==n)) (enc:=λi=>((i:Int),([]:List UInt8),(0:Int),())) (g:=λx=>(true,x.1,x.2.1,x.2.2.1,())) (e:=(([]:List UInt8),(0:Int),())) (λi hi=>?_) ?_ ?_)
 ·unfold kb
  refine eZ hi (bj hi (aF (λh=>aa ?_) λh=>aa ?_))
  ·rw[if_pos h]
  ·rw[if_neg (by simp[h]),a7 hi hl]
 ·unfold kb
  exact dm (aa rfl)
 ·unfold sf
  cases s.2.2.2.1.find? (·.1==n)with
  |some r=>exact aa rfl
  |none=>exact aa rfl
theorem wt(s:PS)(n:List UInt8)(hk:PolOk tL s):aL tbl eO [.d yS s,.d tS n] [] cQ ((sf s n).getD LX,(sf s n).isSome,()):=by
 have hl:=hk.l4
 refine aH rfl (aK xd rfl (λO k=>xq O k s n) ?_)
 unfold py
 refine an (Cl (xs:=s.2.2.2.1) (p:=(·.1==n)) (enc:=λi=>((i:Int),([]:List UInt8),(0:Int),())) (g:=λx=>(true,x.1,x.2.1,x.2.2.1,())) (e:=(([]:List UInt8),(0:Int),())) (λi hi=>?_) ?_ ?_)
 ·unfold iU
  refine eZ hi (bj hi (aF (λh=>aa ?_) λh=>?_))
  ·rw[if_neg (by simpa using h),a7 hi (by omega)]
  have hp:=hk.r4 _ (e_ hi)
  have h:(s.2.2.2.1[i].1==n)=true:=by simpa using h
  rw[if_pos h]
  generalize s.2.2.2.1[i]=p at hp
  have htl:=hp.tl
  refine an (cP (N:=p.2.1.length) (I:=λj t=>t=((j:Int),([]:List UInt8),(0:Int),p.1,p.2.2.1,p.2.1.take j,())) rfl (λj t hj ht=>?_) λt ht=>?_)
  ·subst ht
   unfold iT
   have ht:=hp.tr _ (e_ hj)
   have h1:=ht.ml
   have h2:=ht.al
   refine eZ hj (bj hj (cA (decide_eq_true (by show(0+p.2.1[j].2.1.length)*56<=_;omega)) (cA (decide_eq_true (by show(0+p.2.1[j].2.2.1.length)*32<=_;omega)) (cA ?_ (aa ?_)))))
   ·show decide (((p.2.1.take j).length+1)*72<=140737488355328)=true
    rw[g_];exact decide_eq_true (by omega)
   ·show(b_ .i64 ((j:Int)+1),([]:List UInt8),(0:Int),p.1,p.2.2.1,p.2.1.take j++[p.2.1[j]],())=_
    rw[a7 hj (by omega),List.take_append_getElem hj]
  ·subst ht
   unfold iT
   refine dm (aa (aa ?_))
   rw[List.take_of_length_le (l_ _)]
 ·unfold iU
  exact dm (aa rfl)
 ·unfold sf
  cases s.2.2.2.1.find? (·.1==n)with
  |some r=>exact aa rfl
  |none=>exact aa rfl
end Go.Proofs.YtmfolppncelceaaGreatDoor
namespace Go.Cm
def JY(x:Int):List Int->Bool->List Int
 |[],d=>if d then []else [x]
 |y::r,d=>(if !d&&decide (x<=y)then [x]else [])++((if y != x then [y]else [])++JY x r (d||decide (x<=y)))
abbrev ins(x:Int)(l:List Int):List Int:=JY x l false
def Ln(l:List Int):List Int:=l.foldl (λo x=>ins x o) []
abbrev Up(l:List Int):Prop:=l.Pairwise (·<·)
theorem ou{l:List Int}{k:Nat}(h:k<l.length):l.take (k+1)=l.take k++[l.getD k 0]:=by
 have e:l.getD k 0=l[k]:=by simp[T_,a_ h]
 rw[c_ h,e]
def left(l out:List Int):Nat:=l.countP λz=>out.all (λy=>decide (y<z))
theorem left_step{l out:List Int}{b:Int}(hb:b∈l)(hgt:∀y∈out,y<b):left l (out++[b])+1<=left l out:=by
 unfold left
 induction l with
 |nil=>simp at hb
 |cons z l ih=>
  rw[H_,H_]
  have mono:l.countP (λz=>(out++[b]).all λy=>decide (y<z))<=l.countP (λz=>out.all λy=>decide (y<z)):=by
   apply List.countP_mono_left
   intro z _ h
   simp only[J_,f_]at h
   exact h.1
  by_cases e:z=b
  ·subst e
   have h1:((out++[z]).all λy=>decide (y<z))=false:=by simp
   have h2:(out.all λy=>decide (y<z))=true:=by simpa using hgt
   rw[h1,h2]
   simp only[E_,if_false,if_true]
   omega
  ·have hb':b∈l:=by simp at hb;rcases hb with h|h;exact absurd h.symm e;exact h
   have ih':=ih hb'
   have h1:(if((out++[b]).all λy=>decide (y<z))=true then 1 else 0)<=(if(out.all λy=>decide (y<z))=true then 1 else 0):=by
    split
    ·rename_i h
     simp only[J_,f_]at h
     rw[if_pos h.1]
     exact l_ 1
    ·exact A_ _
   omega
structure Best(l out:List Int)(k:Nat)(found:Bool)(best:Int):Prop where
 yes:found=true->best∈l/\(∀y∈out,y<best)
 least:∀z∈l.take k,(∀y∈out,y<z)->found=true/\best<=z
structure Out(l out:List Int):Prop where
 up:Up out
 sub:∀z∈out,z∈l
 all:∀z∈l,z∈out\/∀y∈out,y<z
 len:out.length+left l out<=l.length
theorem Out.zero(l:List Int):Out l []:=⟨List.Pairwise.nil,by simp,by simp,by simp[left]⟩
theorem Out.step{l out:List Int}{b:Int}(h:Out l out)(hb:Best l out l.length true b):Out l (out++[b]):=by
 obtain⟨h1,h2⟩:=hb.yes rfl
 have hl:=left_step h1 h2
 have h3:=hb.least
 rw[j_]at h3
 refine⟨?_,?_,λz hz=>?_,?_⟩
 ·have:=h.up
  unfold Up at this⊢
  rw[List.pairwise_append]
  grind
 ·have:=h.sub;grind
 ·rcases h.all z hz with h4|h4
  ·grind
  ·have:=(h3 z hz h4).2
   by_cases e:z=b
   ·left;simp[e]
   ·right;grind
 ·have:=h.len;simp;omega
theorem Best.zero(l out:List Int)(b:Int):Best l out 0 false b:=⟨by simp,by simp⟩
theorem Best.take{l out:List Int}{k:Nat}{f:Bool}{b:Int}(h:Best l out k f b)(hk:k<l.length)(h1:∀y∈out,y<l.getD k 0)(h2:f=false\/l.getD k 0<b):Best l out (k+1) true (l.getD k 0):=by
 have e:l.getD k 0=l[k]:=by simp[T_,a_ hk]
 have hm:l.getD k 0∈l:=by rw[e];exact e_ hk
 refine⟨λ_=>⟨hm,h1⟩,λz hz hg=>⟨rfl,?_⟩⟩
 rw[ou hk]at hz
 have:=h.least z
 grind
theorem Best.skip{l out:List Int}{k:Nat}{f:Bool}{b:Int}(h:Best l out k f b)(hk:k<l.length)(h1:(∀y∈out,y<l.getD k 0)->f=true/\b<=l.getD k 0):Best l out (k+1) f b:=by
 refine⟨h.yes,λz hz hg=>?_⟩
 rw[ou hk]at hz
 have:=h.least z
 grind
def add(l:List Int)(c:Int):List Int:=if 255<=(Ln l).length/\c∉Ln l then Ln l else ins c (Ln l)
def drop(l:List Int)(c:Int):List Int:=(Ln l).filter (λx=>x != c)
end Go.Cm
namespace Go.Pl
open Go Go.Av Go.Ev
abbrev GB:Type:=sZ×(Int×(Int×(List Int×(List Int×(Int×(Int×(Int×(Int×Unit))))))))
abbrev MP:Ty:=pr [yP,tI,tW,.list tI,.list tW,tI,tI,tI,tI]
def Ba(hold:IQ->Bool):List IQ->Nat->Int->List Int×List JP×Int
 |[],_,d=>([],[],d)
 |t::l,i,d=>if hold t then(if t.2.2.2.1≠3 then([(i:Int)],t.2.2.1,t.2.2.2.1)else((i:Int)::(Ba hold l (i+1) d).1,t.2.2.1++(Ba hold l (i+1) d).2.1,(Ba hold l (i+1) d).2.2))else Ba hold l (i+1) d
structure SmR(k:Nat)(r:GB):Prop where
 pt:r.2.2.2.1.length<=100000
 cm:r.2.2.2.2.1.length<=k
end Go.Pl
namespace Go.Proofs.YtmfolppncelceaaGreatDoor
open Go Go.Av Go.Ev
abbrev Ke:Type:=Bool×(Int×(Int×Unit))
def fits(r:Ke)(c:Int):Bool:=
 ((r.2.1==(-1:Int))||(r.2.1==b_ .i64 (Int.fdiv c (2^(min (r_ (16:Int)) (w_ .u32))))))&&
 ((r.2.2.1==(-1:Int))||(r.2.2.1==b_ .i64 (kf .u32 .and c (65535:Int))))
def KD(r:Ke)(l:List Int):Bool:=(l.find? (fits r)).isSome
def HY(rules:List Ke)(l:List Int):Bool:=match rules.find? (λr=>KD r l)with
 |some r=>r.1
 |none=>false
open Go Go.Av Go.Ev Go.Pl
open Classical in
noncomputable def Mo(s:List UInt8)(path:List Int):Bool:=decide (∃r,rV r=0/\LF r=s/\KB (Mi r 0) path=true)
noncomputable def Ms(l:List MI)(path:List Int):Bool:=match l.find? (λu=>Mo u.2.1 path)with|some u=>u.1|none=>false
noncomputable def Mw(s:PS)(m:L3)(r:GB):Bool:=
 if m.1=1 then(match Bh s m.2.1 with|some l=>Mt l.2.1 r.1|none=>false)
 else if m.1=2 then(match Hk s m.2.1 with|some l=>Ms l.2.1 r.2.2.2.1|none=>false)
 else if m.1=3 then(match u5 s m.2.1 with|some l=>HY l.2.1 r.2.2.2.2.1|none=>false)
 else if m.1=4 then r.2.1==m.2.2.1
 else if m.1=5 then r.2.2.2.2.2.2.2.2.1==m.2.2.1
 else if m.1=6 then decide (r.2.2.2.2.2.2.2.1<=m.2.2.1)
 else if m.1=7 then JV m.2.2.2.1 r.2.2.1
 else decide ((r.2.2.2.1.length:Int)<=m.2.2.1)
noncomputable def Mk(s:PS)(r:GB)(m:L3):Bool:=true ^^ (Mw s m r==m.2.2.2.2.1)
noncomputable def MA(s:PS)(r:GB)(t:IQ):Bool:=t.2.1.all (Mk s r)
structure SmQ(s:PS)(r:GB):Prop where
 s:SmP s
 p:vp r.1.1
 n:vp r.2.2.1
 pt:r.2.2.2.1.length<=100000
 cm:r.2.2.2.2.1.length<=100000
section
variable {a:JP} {p:sZ} {po nh:Int} {pt cm:List Int} {pf md mt tg:Int} {u:Unit}
end
noncomputable def FL(s:PS)(p:Kd)(r:GB):List Int×List JP×Int:=Ba (MA s r) p.2.1 0 p.2.2.1
theorem A0:aL tbl io [] [] fy (((167772160,(8,()))),()):=oD (m:=90) λk=>by kernel_rfl
theorem A1:aL tbl bS [.d (.list (pr [(pr [tW,tI]),tI,tI,tI,tI,(.list (pr [tW,tI,tW,tI,(pr [tW,tI])]))])) ([((167772160,(8,())),(2,(1,(7,(0,([],()))))))]),.d (pr [(.list (pr [tS,(.list (pr [tB,(pr [tW,tI]),tI,tI]))])),(.list (pr [tS,(.list (pr [tB,tS]))])),(.list (pr [tS,(.list (pr [tB,tI,tI]))])),(.list (pr [tS,(.list (pr [tS,(.list (pr [tI,tS,tI,(pr [tW,tI]),tB])),(.list (pr [tI,tI,tI,tW,tW])),tI])),tI]))]) (([],([],([],([],()))))),.d (.list (pr [tI,tI,tS,tI,tB])) ([(2,(5,([],(20,(false,())))))])] [] bB (([((167772160,(8,())),(20,(false,(0,(0,())))))]),(0),()):=oD (m:=90) λk=>by kernel_rfl
theorem A2:aL tbl cr [.d (.list (pr [(pr [tW,tI]),tI,tI,tI,tI,(.list (pr [tW,tI,tW,tI,(pr [tW,tI])]))])) ([((167772160,(8,())),(3,(110,(7,(0,([],()))))))]),.d (pr [(.list (pr [tS,(.list (pr [tB,(pr [tW,tI]),tI,tI]))])),(.list (pr [tS,(.list (pr [tB,tS]))])),(.list (pr [tS,(.list (pr [tB,tI,tI]))])),(.list (pr [tS,(.list (pr [tS,(.list (pr [tI,tS,tI,(pr [tW,tI]),tB])),(.list (pr [tI,tI,tI,tW,tW])),tI])),tI]))]) (([],([],([],([],()))))),.d (.list (pr [tI,tI,tS,tI,tB])) ([(3,(6,([],(0,(false,())))))]),.d tW (9)] [] bW (([((167772160,(8,())),((2,([],(0,(true,(7,(false,(0,(false,(false,(0,(0,([],(false,(0,([],([],())))))))))))))))),((-1),(0,(9,(false,()))))))]),(0),()):=oD (m:=90) λk=>by kernel_rfl
theorem A3:aL tbl bq [.d (.list (pr [(pr [tW,tI]),tI,tB,tW,tI])) ([((167772160,(8,())),(20,(false,(0,(0,())))))]),.d (.list (pr [(pr [tW,tI]),tI,tB,tW,tI])) ([((167772160,(8,())),(20,(false,(0,(0,())))))])] [] aS ((true),()):=oD (m:=90) λk=>by kernel_rfl
theorem tT:aL tbl eN [] [] dO (true,()):=by
 refine aH rfl (aK w9 rfl (λO n=>xo O n) ?_)
 unfold pw
 repeat first
  |refine aA A0 ?_
  |refine aA A1 ?_
  |refine aA A2 ?_
  |refine aA A3 ?_
  |refine gl rfl ?_
  |refine bi rfl ?_
  |refine aa ?_
  |refine IF (by decide) rfl ?_
  |refine an ?_
 rfl
abbrev lH:Type:=Int×(Int×(List UInt8×(Int×(Bool×Unit))))
abbrev Gz:Type:=Int×(Int×(Int×(Int×(sZ×Unit))))
abbrev dz:Type:=sZ×(Int×(Int×(Int×(Int×(List Gz×Unit)))))
abbrev IG:Ty:=pr [tI,tI,tS,tI,tB]
abbrev Lj:Ty:=pr [tW,tI,tW,tI,yP]
abbrev wo:Ty:=pr [yP,tI,tI,tI,tI,.list Lj]
def gn(s:PS)(r:lH):Int:=
 if(r.1<1\/7<r.1)\/(r.2.1≠5/\r.2.1≠6)then 15
 else if(r.2.1=5/\3<=r.1/\r.1<=5)\/(r.2.1=6/\(r.1=6\/r.1=7))then 1
 else if r.2.2.2.1<0\/16777216<r.2.2.2.1 then 5
 else if r.2.2.1≠[]/\(sf s r.2.2.1).isSome=false then 6 else 0
noncomputable def pm(s:PS)(l:List lH):Int:=if tM tL s≠0 then tM tL s else if l.length>64 then 4 else mw (gn s) l
theorem t7(n:List UInt8):(!(n==([]:List UInt8)))=true↔n≠[]:=by
 cases n<;>simp
theorem pT(s:PS)(r:lH)(hk:PolOk tL s):aL tbl dy [.d yS s,.d IG r] [] aN (gn s r,()):=by
 refine aH rfl (aK qo rfl (λO n=>qu O n s r) ?_)
 unfold j9
 refine an (cU (b:=decide (r.1>7)) (λ_=>aa rfl) (aF (λh=>aa ?_) λh=>?_))
 ·rw[show gn s r=15 from if_pos (.inl (by simp at h;omega))]
 have hr:¬(r.1<1\/7<r.1):=by simp at h;omega
 have rest:¬(r.2.1≠5/\r.2.1≠6)->¬((r.2.1=5/\3<=r.1/\r.1<=5)\/(r.2.1=6/\(r.1=6\/r.1=7)))->Wp (λn=>
  i_ (bif decide (r.2.2.2.1<(0:Int))then some (true)else some (decide (r.2.2.2.1>(16777216:Int)))) λv5=>
  bif v5 then aJ aN ((5:Int),())else
  i_ (aG (wm tbl n) eO [.d yS s,.d tS r.2.2.1] [] cQ) λv6=>
  i_ (bif (!(r.2.2.1==([]:List UInt8)))then some ((!v6.2.1))else some (false)) λv7=>
  bif v7 then aJ aN ((6:Int),())else aJ aN ((0:Int),())) (λx=>x=some (kE aN (gn s r,()))):=λh1 h2=>by
  refine an (cU (b:=decide (r.2.2.2.1>16777216)) (λ_=>aa rfl) (aF (λh=>aa ?_) λh=>?_))
  ·rw[show gn s r=5 from by unfold gn;rw[if_neg (by omega),if_neg h2,if_pos (by simp at h;omega)]]
  have h3:¬(r.2.2.2.1<0\/16777216<r.2.2.2.1):=by simp at h;omega
  have e:gn s r=if r.2.2.1≠[]/\(sf s r.2.2.1).isSome=false then 6 else 0:=by unfold gn;rw[if_neg (by omega),if_neg h2,if_neg h3]
  rw[e]
  refine aA (wt s r.2.2.1 hk) (an (dj (b:= !(sf s r.2.2.1).isSome) (λ_=>aa rfl) (aF (λh=>aa ?_) λh=>aa ?_)))
  ·rw[if_pos]
   rw[f_,t7]at h
   exact⟨h.1,by simpa using h.2⟩
  ·rw[if_neg]
   rintro⟨h4,h5⟩
   rw[(t7 _).2 h4,h5]at h
   cases h
 by_cases h5:r.2.1=5
 ·refine an (gl (beq_iff_eq.2 h5) (an (dj (b:=decide (r.1<=5)) (λ_=>aa rfl) (aF (λh=>aa (aa ?_)) λh=>aa (rest ?_ ?_)))))
  ·rw[show gn s r=1 from by unfold gn;rw[if_neg (by omega),if_pos (by simp at h;omega)]]
  ·omega
  ·simp at h;omega
 by_cases h6:r.2.1=6
 ·refine an (bi (beq_eq_false_iff_ne.2 h5) (gl (beq_iff_eq.2 h6) (an (cU (b:=(r.1==7)) (λ_=>aa rfl) (aF (λh=>aa (aa ?_)) λh=>aa (rest ?_ ?_))))))
  ·rw[show gn s r=1 from by unfold gn;rw[if_neg (by omega),if_pos (by simp at h;omega)]]
  ·omega
  ·simp at h;omega
 refine an (bi (beq_eq_false_iff_ne.2 h5) (bi (beq_eq_false_iff_ne.2 h6) (aa (aa ?_))))
 rw[show gn s r=15 from if_pos (.inr ⟨h5,h6⟩)]
theorem tu(s:PS)(hc:aL tbl fF [.d yS s] [] ee (tM tL s,()))(l:List lH):aL tbl fG [.d yS s,.d (.list IG) l] [] b8 (pm s l,()):=by
 refine aH rfl (aK vT rfl (λO n=>wh O n s l) ?_)
 unfold np
 refine aA hc (aF (λh=>aa ?_) λh=>?_)
 ·rw[show pm s l=tM tL s from if_pos (by simpa using h)]
 have h0:tM tL s=0:=by simpa using h
 have hk:=ER h0
 have e:pm s l=if l.length>64 then 4 else mw (gn s) l:=by unfold pm;rw[if_neg (not_not_intro h0)]
 rw[e]
 refine aF (λh=>aa ?_) λh=>?_
 ·rw[if_pos (by have:=of_decide_eq_true h;omega)]
 have hl:¬l.length>64:=by have:=of_decide_eq_false h;omega
 rw[if_neg hl]
 refine an (Fi (l:=l) (f:=gn s) (enc:=λi=>((i:Int),())) (oB:=λe=>(e,())) (oE:=()) (λi hi=>?_) ?_ ?_)
 ·unfold gF
  refine eZ hi (bj hi (aA (pT s _ hk) (aF (λh=>aa ?_) λh=>aa ?_)))
  ·rw[if_neg (by simpa using h)]
  ·rw[if_pos (by simpa using h),a7 hi (by omega)]
 ·unfold gF
  exact dm (aa rfl)
 by_cases e:mw (gn s) l=0
 ·rw[if_pos e]
  refine aa ?_
  rw[e]
 ·rw[if_neg e]
  exact aa rfl
theorem qw(n:Int):aL tbl dX [.d tI n] [] cO (decide (n>=3)&&decide (n<=5),()):=by
 refine aH rfl (aK rC rfl (λO k=>rF O k n) ?_)
 unfold kH
 exact an (dj (b:=decide (n<=5)) (λ_=>aa rfl) (aa rfl))
theorem ui(n:Int):aL tbl fK [.d tI n] [] ei ((n==6)||(n==7),()):=by
 refine aH rfl (aK vX rfl (λO k=>wl O k n) ?_)
 unfold nu
 exact an (cU (b:=(n==7)) (λ_=>aa rfl) (aa rfl))
theorem uh(s:PS)(hc:aL tbl gU [.d yS s] [] eW (tM tL s,()))(l:List lH):aL tbl gY [.d yS s,.d (.list IG) l] [] cp (pm s l,()):=by
 refine aH rfl (aK xk rfl (λO n=>xx O n s l) ?_)
 unfold pG
 refine aA hc (aF (λh=>aa ?_) λh=>?_)
 ·rw[show pm s l=tM tL s from if_pos (by simpa using h)]
 have h0:tM tL s=0:=by simpa using h
 have hk:=ER h0
 have e:pm s l=if l.length>64 then 4 else mw (gn s) l:=by unfold pm;rw[if_neg (not_not_intro h0)]
 rw[e]
 refine aF (λh=>aa ?_) λh=>?_
 ·rw[if_pos (by have:=of_decide_eq_true h;omega)]
 have hl:¬l.length>64:=by have:=of_decide_eq_false h;omega
 rw[if_neg hl]
 refine an (Fi (l:=l) (f:=gn s) (enc:=λi=>((i:Int),())) (oB:=λe=>(e,())) (oE:=()) (λi hi=>?_) ?_ ?_)
 ·unfold iX
  refine eZ hi (bj hi ?_)
  generalize l[i]=r
  refine an (cU (b:=decide (r.1>7)) (λ_=>aa rfl) (an (cU (b:=(r.2.1 != 5)&&(r.2.1 != 6)) (λ_=>an (dj (b:=(r.2.1 != 6)) (λ_=>aa rfl) (aa rfl))) ?_)))
  refine aF (λh=>aa ?_) λh=>?_
  ·rw[show gn s r=15 from if_pos (by simp at h;omega),if_neg (by decide)]
  have h1:¬((r.1<1\/7<r.1)\/(r.2.1≠5/\r.2.1≠6)):=by simp at h;omega
  refine an (dj (b:=decide (r.1>=3)&&decide (r.1<=5)) (λ_=>aA (qw r.1) (aa rfl)) ?_)
  refine an (cU (b:=(r.2.1==6)&&((r.1==6)||(r.1==7))) (λ_=>an (dj (b:=(r.1==6)||(r.1==7)) (λ_=>aA (ui r.1) (aa rfl)) (aa rfl))) ?_)
  refine aF (λh=>aa ?_) λh=>?_
  ·rw[show gn s r=1 from by unfold gn;rw[if_neg h1,if_pos (by simp at h;omega)],if_neg (by decide)]
  have h2:¬((r.2.1=5/\3<=r.1/\r.1<=5)\/(r.2.1=6/\(r.1=6\/r.1=7))):=by simp at h;omega
  refine an (cU (b:=decide (r.2.2.2.1>16777216)) (λ_=>aa rfl) (aF (λh=>aa ?_) λh=>?_))
  ·rw[show gn s r=5 from by unfold gn;rw[if_neg h1,if_neg h2,if_pos (by simp at h;omega)],if_neg (by decide)]
  have h3:¬(r.2.2.2.1<0\/16777216<r.2.2.2.1):=by simp at h;omega
  have e:gn s r=if r.2.2.1≠[]/\(sf s r.2.2.1).isSome=false then 6 else 0:=by unfold gn;rw[if_neg h1,if_neg h2,if_neg h3]
  rw[e]
  have hl4:=hk.l4
  refine aA (yz s r.2.2.1 (by omega)) (an (dj (b:= !(sf s r.2.2.1).isSome) (λ_=>aa rfl) (aF (λh=>aa ?_) λh=>aa ?_)))
  ·have hc:r.2.2.1≠[]/\(sf s r.2.2.1).isSome=false:=by
    rw[f_,t7]at h
    exact⟨h.1,by simpa using h.2⟩
   rw[if_pos hc,if_neg (by decide)]
  ·have hc:¬(r.2.2.1≠[]/\(sf s r.2.2.1).isSome=false):=by
    rintro⟨h4,h5⟩
    rw[(t7 _).2 h4,h5]at h
    cases h
   rw[if_neg hc,if_pos rfl,a7 hi (by omega)]
 ·unfold iX
  exact dm (aa rfl)
 by_cases e:mw (gn s) l=0
 ·rw[if_pos e]
  refine aa ?_
  rw[e]
 ·rw[if_neg e]
  exact aa rfl
def ot(r:dz):GB:=(r.1,r.2.1,(match r.2.2.2.2.2.1 with|h::_=>h.1|[]=>0),[],[],100,0,r.2.2.2.1,r.2.2.2.2.1,())
theorem lJ(r:dz):aL tbl cY [.d wo r] [] ct (ot r,()):=by
 obtain⟨p,pr,di,me,ta,ho,⟨⟩⟩:=r
 refine aH rfl (aK sH rfl (λO n=>sP O n (p,pr,di,me,ta,ho,())) ?_)
 unfold lM
 cases ho with
 |nil=>exact an (bi rfl (aa (aa rfl)))
 |cons h ho=>exact an (gl (decide_eq_true (by show(((h::ho).length:Nat):Int)>0;simp)) (IF (x:=h) (by decide) rfl (aa (aa rfl))))
theorem I9(p:sZ):j3 yP p p=true:=by
 show((p.1==p.1)&&((p.2.1==p.2.1)&&true))=true
 simp
theorem IM(l:List dz)(s:PS)(r:List lH):∃b:Bool,(b=false->l.length<=40/\r.length<=70/\s.2.2.2.1.length<=10/\s.1.length<=10/\s.2.1.length<=10/\s.2.2.1.length<=10)/\aL tbl gS [.d (.list wo) l,.d yS s,.d (.list IG) r] [] eV (b,()):=by
 refine⟨((((decide ((l.length:Int)>40)||decide ((r.length:Int)>70))||decide ((s.2.2.2.1.length:Int)>10))||decide ((s.1.length:Int)>10))||decide ((s.2.1.length:Int)>10))||decide ((s.2.2.1.length:Int)>10),λh=>?_,?_⟩
 ·simp only[B_,decide_eq_false_iff_not]at h
  omega
 refine aH rfl (aK xc rfl (λO n=>xp O n l s r) ?_)
 unfold px
 refine an (cU (b:=decide ((r.length:Int)>70)) (λ_=>aa rfl) ?_)
 refine an (cU (b:=decide ((s.2.2.2.1.length:Int)>10)) (λ_=>aa rfl) ?_)
 refine an (cU (b:=decide ((s.1.length:Int)>10)) (λ_=>aa rfl) ?_)
 refine an (cU (b:=decide ((s.2.1.length:Int)>10)) (λ_=>aa rfl) ?_)
 exact an (cU (b:=decide ((s.2.2.1.length:Int)>10)) (λ_=>aa rfl) (aa rfl))
theorem Cn{α ρ δ:Type}{xs:List α}{p:α->Bool}{enc:Nat->ρ}{g:α->δ}{e:δ}{body:Nat->ρ->Option (ρ⊕δ)}{Q:δ->Prop}
 (h:∀(i:Nat) (hi:i<xs.length),Wp (λn=>body n (enc i)) λr=>r=if p xs[i]then .inr (g xs[i])else .inl (enc (i+1)))
 (he:Wp (λn=>body n (enc xs.length)) λr=>r= .inr e)
 (hQ:Q (match xs.find? p with|some x=>g x|none=>e)):Wp (λn=>bR n (body n) (enc 0)) Q:=by
 refine cP (N:=xs.length) (I:=λi s=>s=enc i/\xs.find? p=(xs.drop i).find? p) ⟨rfl,by rw[N_]⟩ (λi s hi hs=>?_) λs hs=>?_
 ·obtain⟨rfl,hd⟩:=hs
  refine Go.Ev.wp_mono (h i hi) λr hr=>?_
  rw[List.drop_eq_getElem_cons hi,K_]at hd
  subst hr
  cases hp:p xs[i]
  ·rw[hp]at hd
   exact⟨rfl,hd⟩
  ·rw[hp]at hd
   rw[hd]at hQ
   exact hQ
 ·obtain⟨rfl,hd⟩:=hs
  refine Go.Ev.wp_mono he λr hr=>?_
  subst hr
  rw[hd,List.drop_length,List.find?_nil]at hQ
  exact hQ
def re(a b:Gz):Bool:=bif (a.1 != b.1)then decide (a.1<b.1)else bif (a.2.1 != b.2.1)then decide (a.2.1<b.2.1)else decide (a.2.2.1<b.2.2.1)
def pO(a b:dz):Bool:=bif (dU a.1 b.1 != 0)then decide (dU a.1 b.1<0)else bif (a.2.2.1 != b.2.2.1)then decide (a.2.2.1<b.2.2.1)else decide (a.2.1<b.2.1)
theorem rX(a b:Int):(a<b/\bN a b= -1)\/(a=b/\bN a b=0)\/(b<a/\bN a b=1):=by
 unfold bN
 by_cases h1:a<b
 ·rw[if_pos h1];exact .inl ⟨h1,rfl⟩
 ·by_cases h2:b<a
  ·rw[if_neg h1,if_pos h2];exact .inr (.inr ⟨h2,rfl⟩)
  ·rw[if_neg h1,if_neg h2];exact .inr (.inl ⟨by omega,rfl⟩)
theorem Da(x y z:Int):bO [x,y,z]=if x≠0 then x else if y≠0 then y else z:=by
 simp only[bO]
 repeat' split
 all_goals omega
theorem LD(a b a' b' a'' b'':Int):decide (bO [bN a b,bN a' b',bN a'' b'']>=0)= !(bif (a != b)then decide (a<b)else bif (a' != b')then decide (a'<b')else decide (a''<b'')):=by
 rw[Da]
 rcases rX a b with⟨h,e⟩|⟨h,e⟩|⟨h,e⟩
 ·rw[e,show(a != b)=true by simp;omega];simp[h]
 ·rw[e,show(a != b)=false by simpa using h]
  rcases rX a' b' with⟨h,e⟩|⟨h,e⟩|⟨h,e⟩
  ·rw[e,show(a' != b')=true by simp;omega];simp[h]
  ·rw[e,show(a' != b')=false by simpa using h]
   rcases rX a'' b'' with⟨h,e⟩|⟨h,e⟩|⟨h,e⟩<;>rw[e]<;>simp<;>omega
  ·rw[e,show(a' != b')=true by simp;omega]
   have:¬a'<b':=by omega
   simp[this]
 ·rw[e,show(a != b)=true by simp;omega]
  have:¬a<b:=by omega
  simp[this]
theorem FE(a b:Gz):decide (CR a b>=0)= !re a b:=LD _ _ _ _ _ _
theorem CS(p q:sZ):dU p q=if p.1≠q.1 then(if p.1<q.1 then -1 else 1)else if p.2.1<q.2.1 then -1 else if p.2.1>q.2.1 then 1 else 0:=by
 have h:dU p q=_:=I3 p.1 q.1 p.2.1 q.2.1
 rw[h]
 have key:∀a b c d:Int,(if a<b then(-1:Int)else if b<a then 1 else if c<d then -1 else if d<c then 1 else 0)=if a≠b then(if a<b then -1 else 1)else if c<d then -1 else if c>d then 1 else 0:=by
  intro a b c d
  repeat' split
  all_goals omega
 exact key _ _ _ _
theorem AR(a b:dz):decide (qO a b>=0)= !pO a b:=by
 have e:qO a b=bO [dU a.1 b.1,bN a.2.2.1 b.2.2.1,bN a.2.1 b.2.1]:=rfl
 rw[e,Da]
 unfold pO
 by_cases h:dU a.1 b.1=0
 ·rw[if_neg (not_not_intro h),show(dU a.1 b.1 != 0)=false by simpa using h]
  have key:=LD 0 0 a.2.2.1 b.2.2.1 a.2.1 b.2.1
  rw[Da]at key
  exact key
 ·rw[if_pos h,show(dU a.1 b.1 != 0)=true by simpa using h]
  simp only[cond_true]
  rw[m_]
  simp
def Dm(h:Gz):Bool:=(((decide (h.2.1< -1)||decide (h.2.1>=16))||decide (h.2.2.2.1<1))||decide (h.2.2.2.1>255))
def qa(l:List Gz)(i:Nat):Int:=match l[i]? with
 |some h=>if Dm h then 5 else if !dW h.2.2.2.2.1 then 1 else if 0<i/\(match l[i - 1]? with|some g=> !re g h|none=>false)=true then 16 else 0
 |none=>0
theorem kY{l:List Gz}{i:Nat}(hi:i<l.length):qa l i=if Dm l[i]then 5 else if !dW l[i].2.2.2.2.1 then 1 else if 0<i/\(match l[i - 1]? with|some g=> !re g l[i]|none=>false)=true then 16 else 0:=by
 unfold qa
 rw[a_ hi]
theorem dM(a b c:Int):aL tbl bY [.d tI a,.d tI b,.d tI c] [] bE (decide (a<b)||decide (a>c),()):=by
 refine aH rfl (aK xm rfl (λO n=>xy O n a b c) ?_)
 unfold pH
 exact an (cU (b:=decide (a>c)) (λ_=>aa rfl) (aa rfl))
theorem qx(a b:Gz):aL tbl cI [.d Lj a,.d Lj b] [] f8 (CR a b,()):=oF rD rfl rfl
theorem wy(a b:dz):aL tbl eQ [.d wo a,.d wo b] [] lG (qO a b,()):=oF xl rfl rfl
theorem yB(a b:Gz):aL tbl jJ [.d Lj a,.d Lj b] [] dF (re a b,()):=by
 refine aH rfl (aK z8 rfl (λO n=>Ag O n a b) ?_)
 unfold qA re
 refine aF (λh=>aa ?_) λh=>?_
 ·rw[h];rfl
 rw[h]
 refine aF (λh=>aa ?_) λh=>aa ?_
 ·rw[h];rfl
 ·rw[h];rfl
theorem tv(p q:sZ):aL tbl fb [.d yP p,.d yP q] [] bz (dU p q,()):=by
 refine aH rfl (aK tO rfl (λO n=>tR O n p q) ?_)
 unfold mT
 rw[CS]
 refine aF (λh=>?_) λh=>?_
 ·rw[if_pos (by simpa using h)]
  refine aF (λh=>aa ?_) λh=>aa ?_
  ·rw[if_pos (of_decide_eq_true h)]
  ·rw[if_neg (of_decide_eq_false h)]
 rw[if_neg (by simpa using h)]
 refine aF (λh=>aa ?_) λh=>aF (λh'=>aa ?_) λh'=>aa ?_
 ·rw[if_pos (of_decide_eq_true h)]
 ·rw[if_neg (of_decide_eq_false h),if_pos (of_decide_eq_true h')]
 ·rw[if_neg (of_decide_eq_false h),if_neg (of_decide_eq_false h')]
theorem ug(a b:dz):aL tbl fJ [.d wo a,.d wo b] [] cy (pO a b,()):=by
 refine aH rfl (aK vW rfl (λO n=>wk O n a b) ?_)
 unfold nt pO
 refine aA (tv a.1 b.1) (aF (λh=>aa ?_) λh=>?_)
 ·rw[show(dU a.1 b.1 != 0)=true from h];rfl
 rw[show(dU a.1 b.1 != 0)=false from h]
 refine aF (λh=>aa ?_) λh=>aa ?_
 ·rw[h];rfl
 ·rw[h];rfl
structure RteQ(r:dz):Prop where
 p:vp r.1.1
 h:∀x∈r.2.2.2.2.2.1,vp x.1/\vp x.2.2.2.2.1.1
def Dn(r:dz):Bool:=((((decide (r.2.2.1<0)||decide (r.2.2.1>255))||decide (r.2.2.2.1<0))||decide (r.2.2.2.1>16777216))||decide (r.2.2.2.2.1<0))||decide (r.2.2.2.2.1>4294967295)
def FQ(l:List Gz):Int:=if l.length>64 then 4 else pg (qa l) l.length
def gm(r:dz):Int:=if !dW r.1 then 1 else if decide (r.2.1<1)||decide (r.2.1>7)then 15 else if Dn r then 5 else FQ r.2.2.2.2.2.1
theorem q6{l:List Gz}{i:Nat}(hi:i<l.length){O:Bool}(h:O=(decide (0<(i:Int))&&(match l[i - 1]? with|some g=> !re g l[i]|none=>false))):(O=true↔0<i/\(match l[i - 1]? with|some g=> !re g l[i]|none=>false)=true):=by
 rw[h,f_,decide_eq_true_eq]
 exact⟨λg=>⟨by have:=g.1;omega,g.2⟩,λg=>⟨by have:=g.1;omega,g.2⟩⟩
theorem j6{i:Nat}(h0:0<i)(hn:i<=9223372036854775807):b_ .i64 ((i:Int) - 1)=((i - 1:Nat):Int):=by
 rw[wrap_i64 (by omega) (by omega)]
 omega
theorem rI(r:dz)(hq:RteQ r):aL tbl ew [.d wo r] [] be (gm r,()):=by
 refine aH rfl (aK sK rfl (λO n=>sS O n r) ?_)
 unfold lP
 refine aA (nk r.1 hq.p) (aF (λh=>aa ?_) λh1=>?_)
 ·have h:(!dW r.1)=true:=h
  rw[show gm r=1 from if_pos h]
 have h1:¬(!dW r.1)=true:=by have h1:(!dW r.1)=false:=h1;rw[h1];decide
 refine aA (dM _ _ _) (aF (λh=>aa ?_) λh2=>?_)
 ·rw[show gm r=15 from by unfold gm;rw[if_neg h1,if_pos h]]
 have h2:¬(decide (r.2.1<1)||decide (r.2.1>7))=true:=by rw[d_];exact h2
 refine aA (dM _ _ _) (an (cU (b:=decide (r.2.2.2.1<0)||decide (r.2.2.2.1>16777216)) (λ_=>aA (dM _ _ _) (aa rfl)) ?_))
 refine an (cU (b:=decide (r.2.2.2.2.1<0)||decide (r.2.2.2.2.1>4294967295)) (λ_=>aA (dM _ _ _) (aa rfl)) ?_)
 have eo:(((decide (r.2.2.1<0)||decide (r.2.2.1>255))||(decide (r.2.2.2.1<0)||decide (r.2.2.2.1>16777216)))||(decide (r.2.2.2.2.1<0)||decide (r.2.2.2.2.1>4294967295)))=Dn r:=by
  unfold Dn
  simp only[P_]
 refine aF (λh=>aa ?_) λh3=>?_
 ·rw[show gm r=5 from by unfold gm;rw[if_neg h1,if_neg h2,if_pos (eo▸h)]]
 have h3:¬Dn r=true:=by rw[d_,<-eo];exact h3
 rw[show gm r=FQ r.2.2.2.2.2.1 from by unfold gm;rw[if_neg h1,if_neg h2,if_neg h3]]
 unfold FQ
 refine aF (λh=>aa ?_) λh4=>?_
 ·rw[if_pos (by have:=of_decide_eq_true h;omega)]
 have h4:¬r.2.2.2.2.2.1.length>64:=by have:=of_decide_eq_false h4;omega
 rw[if_neg h4]
 refine an (we (N:=r.2.2.2.2.2.1.length) (f:=qa r.2.2.2.2.2.1) (enc:=λi=>((i:Int),())) (oB:=λe=>(e,())) (oE:=()) (λi hi=>?_) ?_ ?_)
 ·unfold fj
  have hv:=(hq.h _ (e_ hi)).2
  refine eZ hi (bj hi ?_)
  refine aA (dM _ _ _) (an (cU (b:=decide (r.2.2.2.2.2.1[i].2.2.2.1<1)||decide (r.2.2.2.2.2.1[i].2.2.2.1>255)) (λ_=>aA (dM _ _ _) (aa rfl)) ?_))
  have eh:((decide (r.2.2.2.2.2.1[i].2.1< -1)||decide (r.2.2.2.2.2.1[i].2.1>15))||(decide (r.2.2.2.2.2.1[i].2.2.2.1<1)||decide (r.2.2.2.2.2.1[i].2.2.2.1>255)))=Dm r.2.2.2.2.2.1[i]:=by
   unfold Dm
   rw[show decide (r.2.2.2.2.2.1[i].2.1>15)=decide (r.2.2.2.2.2.1[i].2.1>=16)from decide_eq_decide.2 (by constructor<;>intro h<;>omega)]
   simp only[P_]
  refine aF (λh=>aa ?_) λh5=>?_
  ·rw[show qa _ i=5 from by rw[kY hi,if_pos (eh▸h)],if_neg (by decide)]
  have h5:¬Dm r.2.2.2.2.2.1[i]=true:=by rw[d_,<-eh];exact h5
  refine aA (nk _ hv) (aF (λh=>aa ?_) λh6=>?_)
  ·rw[show qa _ i=1 from by rw[kY hi,if_neg h5,if_pos (show(!dW _)=true from h)],if_neg (by decide)]
  have h6:¬(!dW r.2.2.2.2.2.1[i].2.2.2.2.1)=true:=by rw[d_];exact h6
  refine an (dj (b:=match r.2.2.2.2.2.1[i - 1]? with|some g=> !re g r.2.2.2.2.2.1[i]|none=>false) (λh0=>?_) (aF (λh=>aa ?_) λh=>aa ?_))
  ·have h0:0<i:=by have:=of_decide_eq_true h0;omega
   have hi1:i - 1<r.2.2.2.2.2.1.length:=by omega
   rw[j6 (by omega) (by omega)]
   refine bj hi1 (aA (qx _ _) (aa ?_))
   rw[a_ hi1,FE]
  ·rw[show qa _ i=16 from by rw[kY hi,if_neg h5,if_neg h6,if_pos ((q6 hi rfl).1 h)],if_neg (by decide)]
  ·rw[show qa _ i=0 from by rw[kY hi,if_neg h5,if_neg h6,if_neg (λg=>by have g:=(q6 hi rfl).2 g;rw[show _=false from h]at g;cases g)],if_pos rfl,a7 hi (by omega)]
 ·unfold fj
  exact dm (aa rfl)
 by_cases e:pg (qa r.2.2.2.2.2.1) r.2.2.2.2.2.1.length=0
 ·rw[if_pos e]
  refine aa ?_
  rw[e]
 ·rw[if_neg e]
  exact aa rfl
theorem wx(n:Int):aL tbl gX [.d tI n] [] eX (decide (n>=1)&&decide (n<=7),()):=by
 refine aH rfl (aK xj rfl (λO k=>xw O k n) ?_)
 unfold pF
 exact an (dj (b:=decide (n<=7)) (λ_=>aa rfl) (aa rfl))
theorem yI(l:List Gz)(hq:∀x∈l,vp x.1/\vp x.2.2.2.2.1.1):aL tbl jL [.d (.list Lj) l] [] dG (FQ l,()):=by
 refine aH rfl (aK Ab rfl (λO n=>Ai O n l) ?_)
 unfold qC FQ
 refine aF (λh=>aa ?_) λh4=>?_
 ·rw[if_pos (by have:=of_decide_eq_true h;omega)]
 have h4:¬l.length>64:=by have:=of_decide_eq_false h4;omega
 rw[if_neg h4]
 refine an (we (N:=l.length) (f:=qa l) (enc:=λi=>((i:Int),())) (oB:=λe=>(e,())) (oE:=()) (λi hi=>?_) ?_ ?_)
 ·unfold kd
  have hv:=(hq _ (e_ hi)).2
  refine eZ hi (bj hi ?_)
  refine an (cU (b:=decide (l[i].2.1>=16)) (λ_=>aa rfl) (an (cU (b:=decide (l[i].2.2.2.1<1)) (λ_=>aa rfl) (an (cU (b:=decide (l[i].2.2.2.1>255)) (λ_=>aa rfl) ?_)))))
  refine aF (λh=>aa ?_) λh5=>?_
  ·rw[show qa _ i=5 from by rw[kY hi,if_pos (show Dm _=true from h)],if_neg (by decide)]
  have h5:¬Dm l[i]=true:=by rw[d_];exact h5
  refine aA (pu _ hv) (aF (λh=>aa ?_) λh6=>?_)
  ·rw[show qa _ i=1 from by rw[kY hi,if_neg h5,if_pos (show(!dW _)=true from h)],if_neg (by decide)]
  have h6:¬(!dW l[i].2.2.2.2.1)=true:=by rw[d_];exact h6
  refine an (dj (b:=match l[i - 1]? with|some g=> !re g l[i]|none=>false) (λh0=>?_) (aF (λh=>aa ?_) λh=>aa ?_))
  ·have h0:0<i:=by have:=of_decide_eq_true h0;omega
   have hi1:i - 1<l.length:=by omega
   rw[j6 (by omega) (by omega)]
   refine bj hi1 (aA (yB _ _) (aa ?_))
   rw[a_ hi1]
  ·rw[show qa _ i=16 from by rw[kY hi,if_neg h5,if_neg h6,if_pos ((q6 hi rfl).1 h)],if_neg (by decide)]
  ·rw[show qa _ i=0 from by rw[kY hi,if_neg h5,if_neg h6,if_neg (λg=>by have g:=(q6 hi rfl).2 g;rw[show _=false from h]at g;cases g)],if_pos rfl,a7 hi (by omega)]
 ·unfold kd
  exact dm (aa rfl)
 by_cases e:pg (qa l) l.length=0
 ·rw[if_pos e]
  refine aa ?_
  rw[e]
 ·rw[if_neg e]
  exact aa rfl
theorem ww(r:dz)(hq:RteQ r):aL tbl gW [.d wo r] [] co (gm r,()):=by
 refine aH rfl (aK xi rfl (λO n=>xv O n r) ?_)
 unfold pE
 refine aA (pu r.1 hq.p) (aF (λh=>aa ?_) λh1=>?_)
 ·have h:(!dW r.1)=true:=h
  rw[show gm r=1 from if_pos h]
 have h1:¬(!dW r.1)=true:=by rw[d_];exact h1
 have ep:(!(decide (r.2.1>=1)&&decide (r.2.1<=7)))=(decide (r.2.1<1)||decide (r.2.1>7)):=by
  rw[m_]
  simp
 refine aA (wx _) (aF (λh=>aa ?_) λh2=>?_)
 ·rw[show gm r=15 from by unfold gm;rw[if_neg h1,if_pos (ep▸h)]]
 have h2:¬(decide (r.2.1<1)||decide (r.2.1>7))=true:=by rw[d_,<-ep];exact h2
 refine an (cU (b:=decide (r.2.2.1>255)) (λ_=>aa rfl) (an (cU (b:=decide (r.2.2.2.1<0)) (λ_=>aa rfl) (an (cU (b:=decide (r.2.2.2.1>16777216)) (λ_=>aa rfl) ?_)))))
 refine an (cU (b:=decide (r.2.2.2.2.1<0)) (λ_=>aa rfl) (an (cU (b:=decide (r.2.2.2.2.1>4294967295)) (λ_=>aa rfl) ?_)))
 refine aF (λh=>aa ?_) λh3=>?_
 ·rw[show gm r=5 from by unfold gm;rw[if_neg h1,if_neg h2,if_pos (show Dn r=true from h)]]
 have h3:¬Dn r=true:=by rw[d_];exact h3
 rw[show gm r=FQ r.2.2.2.2.2.1 from by unfold gm;rw[if_neg h1,if_neg h2,if_neg h3]]
 exact aA (yI _ hq.h) (aa rfl)
abbrev GA:Type:=sZ×(Int×Unit)
abbrev yK:Ty:=pr [yP,tI]
def ko(r:dz):GA:=(r.1,r.2.1,())
theorem Et(p q:sZ):j3 yP p q=decide (p=q):=by
 obtain⟨a,b,⟨⟩⟩:=p
 obtain⟨c,d,⟨⟩⟩:=q
 show((a==c)&&((b==d)&&true))=_
 rw[m_]
 simp
theorem qY(p q:GA):j3 yK p q=decide (p=q):=by
 obtain⟨a,b,⟨⟩⟩:=p
 obtain⟨c,d,⟨⟩⟩:=q
 show(j3 yP a c&&((b==d)&&true))=_
 rw[Et,m_]
 simp
theorem Hu(x y:GA)(v:Bool):∀kv:List (GA×Bool),du yK tB (eT yK tB kv y v) x=if x=y then some v else du yK tB kv x
 |[]=>by
  show(bif j3 yK x y then some v else none)=_
  rw[qY]
  by_cases h:x=y<;>simp[h,du]
 |(k,w)::l=>by
  have ih:=Hu x y v l
  show du yK tB (bif j3 yK y k then(y,v)::l else(k,w)::eT yK tB l y v) x=if x=y then some v else(bif j3 yK x k then some w else du yK tB l x)
  rw[qY y k,qY x k]
  by_cases h:y=k
  ·subst h
   rw[decide_eq_true rfl]
   show(bif j3 yK x y then some v else du yK tB l x)=_
   rw[qY]
   by_cases h2:x=y<;>simp[h2]
  ·rw[decide_eq_false h]
   show(bif j3 yK x k then some w else du yK tB (eT yK tB l y v) x)=_
   rw[qY,ih]
   by_cases h2:x=k
   ·have h3:x≠y:=λe=>h (e.symm.trans h2)
    simp[h2,Ne.symm h]
   ·simp[h2]
theorem Hv(y:GA)(v:Bool):∀kv:List (GA×Bool),(eT yK tB kv y v).length<=kv.length+1
 |[]=>l_ _
 |(k,w)::l=>by
  have ih:=Hv y v l
  show(bif j3 yK y k then(y,v)::l else(k,w)::eT yK tB l y v).length<=_
  cases j3 yK y k
  ·simp only[cond_false,t_];omega
  ·simp
def EF(l:List dz)(kv:List (GA×Bool)):List (GA×Bool):=l.foldl (λkv r=>eT yK tB kv (ko r) true) kv
theorem EH:∀(l:List dz) (kv:List (GA×Bool)),(EF l kv).length<=kv.length+l.length
 |[],kv=>l_ _
 |r::l,kv=>by
  have h1:=EH l (eT yK tB kv (ko r) true)
  have h2:=Hv (ko r) true kv
  have e:EF (r::l) kv=EF l (eT yK tB kv (ko r) true):=rfl
  rw[e,t_]
  omega
theorem EG(x:GA):∀(l:List dz) (kv:List (GA×Bool)),(du yK tB (EF l kv) x).getD false=((du yK tB kv x).getD false||l.any λr=>decide (ko r=x))
 |[],kv=>by simp[EF]
 |r::l,kv=>by
  have h1:=EG x l (eT yK tB kv (ko r) true)
  have e:EF (r::l) kv=EF l (eT yK tB kv (ko r) true):=rfl
  rw[e,h1,Hu,List.any_cons]
  by_cases h:x=ko r
  ·simp[h]
  ·have h':¬ko r=x:=λe=>h e.symm
   simp[h,h']
def zv(l:List dz)(x:GA):Bool:=l.any λr=>decide (ko r=x)
def qi(l:List dz)(i:Nat):Int:=match l[i]? with
 |some r=>if gm r≠0 then gm r else if zv (l.take i) (ko r)then 7 else if 0<i/\(match l[i - 1]? with|some g=> !pO g r|none=>false)=true then 16 else 0
 |none=>0
theorem jY{l:List dz}{i:Nat}(hi:i<l.length):qi l i=if gm l[i]≠0 then gm l[i]else if zv (l.take i) (ko l[i])then 7 else if 0<i/\(match l[i - 1]? with|some g=> !pO g l[i]|none=>false)=true then 16 else 0:=by
 unfold qi
 rw[a_ hi]
def tN(l:List dz):Int:=if l.length>2000 then 4 else pg (qi l) l.length
theorem ru{l:List dz}{i:Nat}{O:Bool}{r:dz}(h:O=(decide (0<(i:Int))&&(match l[i - 1]? with|some g=> !pO g r|none=>false))):(O=true↔0<i/\(match l[i - 1]? with|some g=> !pO g r|none=>false)=true):=by
 rw[h,f_,decide_eq_true_eq]
 exact⟨λg=>⟨by have:=g.1;omega,g.2⟩,λg=>⟨by have:=g.1;omega,g.2⟩⟩
theorem Ht{l:List dz}{i:Nat}(hi:i<l.length):eT yK tB (EF (l.take i) []) (ko l[i]) true=EF (l.take (i+1)) []:=by
 rw[c_ hi]
 unfold EF
 rw[List.foldl_append]
 rfl
theorem Ap(l:List dz)(hq:∀r∈l,RteQ r):aL tbl kM [.d (.list wo) l] [] ej (tN l,()):=by
 refine aH rfl (aK Ch rfl (λO n=>Cs O n l) ?_)
 unfold sY tN
 refine aF (λh=>aa ?_) λh4=>?_
 ·rw[if_pos (by have:=of_decide_eq_true h;omega)]
 have h4:¬l.length>2000:=by have:=of_decide_eq_false h4;omega
 rw[if_neg h4]
 refine an (we (N:=l.length) (f:=qi l) (enc:=λi=>((i:Int),EF (l.take i) [],())) (oB:=λe=>(e,())) (oE:=()) (λi hi=>?_) ?_ ?_)
 ·unfold lA
  refine eZ hi (bj hi (aA (rI _ (hq _ (e_ hi))) (aF (λh=>aa ?_) λh1=>?_)))
  ·have h:gm l[i]≠0:=by simpa using h
   rw[show qi _ i=gm l[i]from by rw[jY hi,if_pos h],if_neg h]
  have h1:¬gm l[i]≠0:=by simpa using h1
  have hk:(du yK tB (EF (l.take i) []) (ko l[i])).getD false=zv (l.take i) (ko l[i]):=by
   rw[EG];rfl
  refine aF (λh=>aa ?_) λh2=>?_
  ·rw[show qi _ i=7 from by rw[jY hi,if_neg h1,if_pos (hk▸h)],if_neg (by decide)]
  have h2:¬zv (l.take i) (ko l[i])=true:=by rw[d_,<-hk];exact h2
  have hlen:=EH (l.take i) []
  rw[g_]at hlen
  have hlen:(EF (l.take i) []).length<=2000:=by simp at hlen;omega
  refine cA (by unfold maxLen;exact decide_eq_true (by show(EF (l.take i) []).length<_;omega)) ?_
  refine an (dj (b:=match l[i - 1]? with|some g=> !pO g l[i]|none=>false) (λh0=>?_) (aF (λh=>aa ?_) λh=>aa ?_))
  ·have h0:0<i:=by have:=of_decide_eq_true h0;omega
   have hi1:i - 1<l.length:=by omega
   rw[j6 (by omega) (by omega)]
   refine bj hi1 (aA (wy _ _) (aa ?_))
   rw[a_ hi1,AR]
  ·rw[show qi _ i=16 from by rw[jY hi,if_neg h1,if_neg h2,if_pos ((ru rfl).1 h)],if_neg (by decide)]
  ·rw[show qi _ i=0 from by rw[jY hi,if_neg h1,if_neg h2,if_neg (λg=>by have g:=(ru rfl).2 g;rw[show _=false from h]at g;cases g)],if_pos rfl,a7 hi (by omega),<-Ht hi]
   rfl
 ·unfold lA
  exact dm (aa rfl)
 by_cases e:pg (qi l) l.length=0
 ·rw[if_pos e]
  refine aa ?_
  rw[e]
 ·rw[if_neg e]
  exact aa rfl
theorem Ao(l:List dz)(p:sZ)(k:Int)(hl:l.length<=9223372036854775807):aL tbl iq [.d (.list wo) l,.d yP p,.d tI k] [] ef (zv l (p,k,()),()):=by
 refine aH rfl (aK Cg rfl (λO n=>Cr O n l p k) ?_)
 unfold sX
 refine an (Cn (xs:=l) (p:=λr=>decide (ko r=(p,k,()))) (enc:=λi=>((i:Int),())) (g:=λ_=>.inl (true,())) (e:=.inr ()) (λi hi=>?_) ?_ ?_)
 ·unfold lz
  refine eZ hi (bj hi (an (dj (b:=l[i].2.1==k) (λ_=>aa rfl) ?_)))
  have e:((false ^^ j3 yP l[i].1 p)&&(l[i].2.1==k))=decide (ko l[i]=(p,k,())):=by
   rw[Et,m_]
   simp[ko]
  rw[e]
  refine aF (λh=>aa ?_) λh=>aa ?_
  ·rw[if_pos h]
  ·rw[if_neg (by rw[h];decide),a7 hi hl]
 ·unfold lz
  exact dm (aa rfl)
 have e:zv l (p,k,())=(l.find? λr=>decide (ko r=(p,k,()))).isSome:=by
  unfold zv
  rw[m_,List.find?_isSome]
  simp
 rw[e]
 cases l.find? λr=>decide (ko r=(p,k,()))with
 |some x=>exact aa rfl
 |none=>exact aa rfl
theorem wv(l:List dz)(hq:∀r∈l,RteQ r):aL tbl gV [.d (.list wo) l] [] cS (tN l,()):=by
 refine aH rfl (aK xg rfl (λO n=>xu O n l) ?_)
 unfold pC tN
 refine aF (λh=>aa ?_) λh4=>?_
 ·rw[if_pos (by have:=of_decide_eq_true h;omega)]
 have h4:¬l.length>2000:=by have:=of_decide_eq_false h4;omega
 rw[if_neg h4]
 refine an (we (N:=l.length) (f:=qi l) (enc:=λi=>((i:Int),())) (oB:=λe=>(e,())) (oE:=()) (λi hi=>?_) ?_ ?_)
 ·unfold iW
  refine eZ hi (bj hi (aA (ww _ (hq _ (e_ hi))) (aF (λh=>aa ?_) λh1=>?_)))
  ·have h:gm l[i]≠0:=by simpa using h
   rw[show qi _ i=gm l[i]from by rw[jY hi,if_pos h],if_neg h]
  have h1:¬gm l[i]≠0:=by simpa using h1
  refine cA (decide_eq_true (by show(0:Int)<=(i:Int);omega)) (cA (by show(decide (0<=r_ (i:Int))&&decide (r_ (i:Int)<=l.length)&&decide (l.length<=l.length))=true;simp;omega) ?_)
  show Wp (λn=>i_ (aG (wm tbl n) iq [.d (.list wo) ((l.take (r_ (i:Int))).drop 0),.d yP l[i].1,.d tI l[i].2.1] [] ef) _) _
  rw[G_,N_]
  refine aA (Ao _ _ _ (by rw[g_];omega)) (aF (λh=>aa ?_) λh2=>?_)
  ·rw[show qi _ i=7 from by rw[jY hi,if_neg h1,if_pos (show zv _ (ko _)=true from h)],if_neg (by decide)]
  have h2:¬zv (l.take i) (ko l[i])=true:=by rw[d_];exact h2
  refine an (dj (b:=match l[i - 1]? with|some g=> !pO g l[i]|none=>false) (λh0=>?_) (aF (λh=>aa ?_) λh=>aa ?_))
  ·have h0:0<i:=by have:=of_decide_eq_true h0;omega
   have hi1:i - 1<l.length:=by omega
   rw[j6 (by omega) (by omega)]
   refine bj hi1 (aA (ug _ _) (aa ?_))
   rw[a_ hi1]
  ·rw[show qi _ i=16 from by rw[jY hi,if_neg h1,if_neg h2,if_pos ((ru rfl).1 h)],if_neg (by decide)]
  ·rw[show qi _ i=0 from by rw[jY hi,if_neg h1,if_neg h2,if_neg (λg=>by have g:=(ru rfl).2 g;rw[show _=false from h]at g;cases g)],if_pos rfl,a7 hi (by omega)]
 ·unfold iW
  exact dm (aa rfl)
 by_cases e:pg (qi l) l.length=0
 ·rw[if_pos e]
  refine aa ?_
  rw[e]
 ·rw[if_neg e]
  exact aa rfl
def adj(l:List dz)(k:Nat):Bool:=match l[k - 1]?,l[k]? with
 |some a,some b=>j3 yP a.1 b.1
 |_,_=>false
theorem GO{l:List dz}{k:Nat}(hk:k<l.length):adj l k=j3 yP (l[k - 1]'(by omega)).1 l[k].1:=by
 unfold adj
 rw[a_ hk,a_ (show k - 1<l.length by omega)]
def rY(l:List dz)(n:Nat):Bool:=(R_ n).any λk=>decide (0<k)&&adj l k
theorem xG(l:List dz)(n:Nat):rY l (n+1)=(rY l n||(decide (0<n)&&adj l n)):=by
 unfold rY
 rw[L_,List.any_append]
 simp
noncomputable def jV(l:List dz):List dz:=if tN l≠0 then []else if rY l l.length then []else l
theorem Bt(l:List dz):(jV l).length<=l.length:=by
 unfold jV
 split
 ·exact A_ _
 split
 ·exact A_ _
 ·exact l_ _
theorem wu(l:List dz)(hq:∀r∈l,RteQ r):aL tbl gT [.d (.list wo) l] [] cR (jV l,()):=by
 refine aH rfl (aK xe rfl (λO n=>xr O n l) ?_)
 unfold pA
 refine aA (Ap l hq) (aF (λh=>aa ?_) λh=>?_)
 ·rw[show jV l=[]from if_pos (by simpa using h)]
 have h0:tN l=0:=by simpa using h
 have hl:l.length<=2000:=by
  unfold tN at h0
  split at h0
  ·cases h0
  ·omega
 rw[show jV l=if rY l l.length then []else l from if_neg (not_not_intro h0)]
 refine an (Wp.imp (Q:=λx=>x=if rY l l.length then .inl ()else .inr ()) (cP (N:=l.length - 1) (I:=λj x=>x=(((j+1:Nat):Int),())/\rY l (j+1)=false) ⟨rfl,rfl⟩ (λj x hj hx=>?_) λx hx=>?_) λx hx=>?_)
 ·obtain⟨rfl,hd⟩:=hx
  unfold iV
  have hi:j+1<l.length:=by omega
  refine eZ hi ?_
  show Wp (λn=>i_ (b6 l (b_ .i64 (((j+1:Nat):Int) - 1))) _) _
  rw[j6 (i:=j+1) (by omega) (by omega)]
  refine bj (show j+1 - 1<l.length by omega) (bj hi ?_)
  have ea:=GO hi
  have hs:=xG l (j+1)
  rw[hd,Bool.false_or,decide_eq_true (Nat.succ_pos j),Q_]at hs
  refine aF (λh=>aa ?_) λh=>aa ?_
  ·have h:j3 yP (l[j+1 - 1]).1 l[j+1].1=true:=by rw[M_]at h;exact h
   have hdup:rY l l.length=true:=by
    unfold rY
    exact List.any_eq_true.2 ⟨j+1,List.mem_range.2 hi,by rw[ea,h];simp⟩
   show _=_
   rw[hdup]
   rfl
  ·have h:j3 yP (l[j+1 - 1]).1 l[j+1].1=false:=by rw[M_]at h;exact h
   refine⟨?_,?_⟩
   ·show(b_ .i64 (((j+1:Nat):Int)+1),())=_
    rw[a7 hi (by omega)]
   ·rw[hs,ea];exact h
 ·obtain⟨rfl,hd⟩:=hx
  unfold iV
  refine bi (decide_eq_false (by show ¬(((l.length - 1+1:Nat):Int)<(l.length:Int));omega)) (aa ?_)
  show _=_
  by_cases h:l.length=0
  ·rw[show rY l l.length=false from by rw[h];rfl];rfl
  ·rw[show l.length - 1+1=l.length by omega]at hd
   rw[hd];rfl
 ·subst hx
  cases rY l l.length
  ·exact aa rfl
  ·exact aa rfl
def tG(l:List dz)(n:Nat):List dz:=(R_ n).flatMap λk=>if decide (0<k)&&adj l k then []else(l[k]?).toList
theorem sj(l:List dz)(n:Nat):tG l (n+1)=tG l n++(if decide (0<n)&&adj l n then []else(l[n]?).toList):=by
 unfold tG
 rw[L_,o_]
 simp
theorem vd(l:List dz):∀n,n<=l.length->(tG l n).length<=n/\((tG l n).length=n↔rY l n=false)
 |0,_=>⟨l_ _,⟨λ_=>rfl,λ_=>rfl⟩⟩
 |n+1,hn=>by
  obtain⟨h1,h2⟩:=vd l n (by omega)
  rw[sj,xG,y_,B_,<-h2]
  cases h:(decide (0<n)&&adj l n)
  ·simp only[E_,if_false,a_ (show n<l.length by omega),Option.toList_some,List.length_singleton]
   exact⟨by omega,by constructor<;>intro h<;>simp_all⟩
  ·simp only[if_true,List.length_nil]
   refine⟨by omega,λh=>by omega,λh=>by cases h.2⟩
noncomputable def qG(l:List dz):List dz:=if tN l≠0 then []else tG l l.length
theorem uf(l:List dz)(hq:∀r∈l,RteQ r):aL tbl fI [.d (.list wo) l] [] dh (qG l,()):=by
 refine aH rfl (aK vV rfl (λO n=>wj O n l) ?_)
 unfold nr
 refine aA (wv l hq) (aF (λh=>aa ?_) λh=>?_)
 ·rw[show qG l=[]from if_pos (by simpa using h)]
 have h0:tN l=0:=by simpa using h
 have hl:l.length<=2000:=by
  unfold tN at h0
  split at h0
  ·cases h0
  ·omega
 rw[show qG l=tG l l.length from if_neg (not_not_intro h0)]
 refine an (Wp.imp (Q:=λx=>x=(tG l l.length,())) (cP (N:=l.length) (I:=λj x=>x=((j:Int),tG l j,())) rfl (λj x hj hx=>?_) λx hx=>?_) λx hx=>?_)
 ·subst hx
  unfold gG
  have hk:=(vd l j (by omega)).1
  refine eZ hj (an (bj hj ?_))
  have hor:Wp (λn=>bif (((j:Nat):Int)==0)then some true else i_ (b6 l (b_ .i64 (((j:Nat):Int) - 1))) λv3=>some ((true ^^ j3 yP v3.1 l[j].1))) (λx=>x= !(decide (0<j)&&adj l j)):=by
   refine aF (λh=>aa ?_) λh=>?_
   ·have h:j=0:=by simpa using h
    subst h
    rfl
   ·have h:j≠0:=by simpa using h
    rw[j6 (by omega) (by omega)]
    refine bj (show j - 1<l.length by omega) (aa ?_)
    rw[GO hj,decide_eq_true (show 0<j by omega),Q_,Bool.true_xor]
  refine an (Wp.imp hor λx hx=>?_)
  subst hx
  refine aF (λh=>cA (decide_eq_true ?_) (aa (aa ?_))) λh=>aa (aa ?_)
  ·show((tG l j).length+1)*72<=140737488355328
   omega
  ·have h:(decide (0<j)&&adj l j)=false:=by rw[Bool.not_eq_true']at h;exact h
   show(b_ .i64 ((j:Int)+1),tG l j++[l[j]],())=_
   rw[a7 hj (by omega),sj,h,a_ hj]
   rfl
  ·have h:(decide (0<j)&&adj l j)=true:=by rw[Bool.not_eq_false']at h;exact h
   show(b_ .i64 ((j:Int)+1),tG l j,())=_
   rw[a7 hj (by omega),sj,h,if_pos rfl,h_]
 ·subst hx
  unfold gG
  exact dm (aa rfl)
 ·subst hx
  exact aa rfl
theorem yE(l:List dz)(hq:∀r∈l,RteQ r):aL tbl jK [.d (.list wo) l] [] eG (jV l,()):=by
 refine aH rfl (aK Aa rfl (λO n=>Ah O n l) ?_)
 unfold qB
 have hk:=vd l l.length (l_ _)
 refine aA (uf l hq) (aF (λh=>aa ?_) λh=>aa ?_)
 ·have h:(qG l).length<l.length:=by have h:(((qG l).length:Nat):Int)<(l.length:Int):=of_decide_eq_true h;omega
  have e:jV l=[]:=by
   unfold qG at h
   unfold jV
   split
   ·rfl
   rename_i h0
   rw[if_neg h0]at h
   rw[if_pos]
   have:¬rY l l.length=false:=λg=>by have:=hk.2.2 g;omega
   simpa using this
  rw[e]
 ·have h:¬(qG l).length<l.length:=by have h:¬(((qG l).length:Nat):Int)<(l.length:Int):=of_decide_eq_false h;omega
  have e:jV l=l:=by
   unfold qG at h
   unfold jV
   split
   ·rename_i h0
    rw[if_pos h0]at h
    cases l with
    |nil=>rfl
    |cons a l=>simp at h
   rename_i h0
   rw[if_neg h0]at h
   rw[if_neg]
   rw[d_]
   exact hk.2.1 (by omega)
  rw[e]
abbrev Fl:Type:=lH×(GB×(GB×Unit))
abbrev L9:Ty:=pr [IG,MP,MP]
def i6(to:Int)(r:dz)(x:lH):Bool:= !((x.2.1 != to)||(x.1 != r.2.1))
abbrev IN:Type:=sZ×(Int×(Bool×(Int×(Int×Unit))))
abbrev MB:Ty:=pr [yP,tI,tB,tW,tI]
def FG(x:lH)(y:GB):Int:=if x.2.2.2.1≠0 then x.2.2.2.1 else min y.2.2.2.2.2.2.2.1 16777216
def Bb(m:Fl):IN:=(m.2.1.1,FG m.1 m.2.2.1,m.1.2.2.2.2.1,(if m.2.2.1.2.2.1=m.2.1.2.2.1 then 0 else m.2.2.1.2.2.1),m.2.2.1.2.2.2.2.2.2.2.2)
theorem gp(m:Fl):aL tbl bp [.d L9 m] [] aZ (FG m.1 m.2.2.1,()):=by
 refine aH rfl (aK nf rfl (λO n=>ni O n m) ?_)
 unfold gq FG
 refine aF (λh=>aa ?_) λh=>aa ?_
 ·rw[if_pos (by simpa using h)]
 ·rw[if_neg (by simpa using h)]
theorem fA(m:Fl):aL tbl bF [.d L9 m] [] ba ((if m.2.2.1.2.2.1=m.2.1.2.2.1 then 0 else m.2.2.1.2.2.1),()):=by
 refine aH rfl (aK mL rfl (λO n=>mP O n m) ?_)
 unfold fC
 refine aF (λh=>aa ?_) λh=>aa ?_
 ·rw[if_pos (by simpa using h)]
 ·rw[if_neg (by simpa using h)]
theorem map_take{α β:Type}{f:α->β}{l:List α}{i:Nat}(hi:i<l.length):(l.take (i+1)).map f=(l.take i).map f++[f l[i]]:=by
 rw[c_ hi,List.map_append]
 rfl
theorem I8(a:IN):j3 MB a a=true:=by
 obtain⟨⟨a,b,⟨⟩⟩,c,d,e,f,⟨⟩⟩:=a
 show(((a==a)&&((b==b)&&true))&&((c==c)&&((d==d)&&((e==e)&&((f==f)&&true)))))=true
 simp
theorem uj(a:List IN)(hl:a.length<=9223372036854775807):aL tbl bq [.d (.list MB) a,.d (.list MB) a] [] aS (true,()):=by
 refine aH rfl (aK ng rfl (λO n=>nj O n a a) ?_)
 unfold gr
 refine bi (by simp) ?_
 refine an (Wp.imp (Q:=λx=>x= .inr ()) (cP (N:=a.length) (I:=λj x=>x=((j:Int),())) rfl (λj x hj hx=>?_) λx hx=>?_) λx hx=>?_)
 ·subst hx
  unfold cX
  refine eZ hj (bj hj (bj hj (bi (by rw[I8];rfl) (aa ?_))))
  show(b_ .i64 ((j:Int)+1),())=_
  rw[a7 hj hl]
 ·subst hx
  unfold cX
  exact dm (aa rfl)
 ·subst hx
  exact aa rfl
abbrev MK:Type:=Int×(List Int×Unit)
abbrev MY:Type:=Int×(List Int×Unit)
abbrev Ma:Type:=Int×(List MK×(Int×(Bool×(Int×(Bool×(Int×(Bool×(Bool×(Int×(Int×(List Int×(Bool×(Int×(List Int×(List MY×Unit)))))))))))))))
abbrev MX:Type:=sZ×(Ma×(Int×(Int×(Int×(Bool×Unit)))))
def HE(x:lH)(y:GB):Int:=if y.2.2.2.2.2.2.1=0 then FG x y else y.2.2.2.2.2.2.1
def GV(x:lH)(y:GB)(fw:Int):Ma:=(2,(if 0<y.2.2.2.1.length then [(2,y.2.2.2.1,())]else []),fw,true,HE x y,(y.2.2.2.2.2.1 != 100),(if y.2.2.2.2.2.1≠100 then y.2.2.2.2.2.1 else 0),false,false,0,0,y.2.2.2.2.1,false,0,[],[],())
def u7(m:Fl):Int:=if m.2.2.1.2.2.1=m.2.1.2.2.1 then 0 else m.2.2.1.2.2.1
def xn(router:Int)(m:Fl):MX:=(m.2.1.1,GV m.1 m.2.2.1 (u7 m),-1,0,router,false,())
theorem GI(l:List Int)(h:l.length*4<=140737488355328):aL tbl bb [.d (.list tW) l] [] cb (l,()):=
 oF jc (by show(bif decide (l.length*4<=140737488355328)then _ else _)=_;rw[decide_eq_true h];rfl) rfl
theorem GH(l:List Int)(h:l.length*8<=140737488355328):aL tbl bH [.d (.list tI) l] [] dH (l,()):=
 oF mN (by show(bif decide (l.length*8<=140737488355328)then _ else _)=_;rw[decide_eq_true h];rfl) rfl
theorem ue(m:Fl)(hm:SmR 200000 m.2.2.1):aL tbl fH [.d L9 m] [] bK (GV m.1 m.2.2.1 (u7 m),()):=by
 refine aH rfl (aK vU rfl (λO n=>wi O n m) ?_)
 unfold nq
 have h1:=hm.pt
 have h2:=hm.cm
 refine aA (fA m) (aA (GI _ (by omega)) ?_)
 have last:∀(path:List MK),path=(if 0<m.2.2.1.2.2.2.1.length then [(2,m.2.2.1.2.2.2.1,())]else [])->Wp (λn=>
  i_ (bif (m.2.2.1.2.2.2.2.2.2.1==(0:Int))then
   i_ (aG (wm tbl n) bp [.d L9 m] [] aZ) λv4=>some (((0:Int),(0:Int),false,(0:Int),false,(0:Int),false,false,(0:Int),(0:Int),false,(0:Int),(2:Int),path,u7 m,true,v4.1,false,(0:Int),false,false,(0:Int),(0:Int),m.2.2.1.2.2.2.2.1,false,(0:Int),()))
  else some (((0:Int),(0:Int),false,(0:Int),false,(0:Int),false,false,(0:Int),(0:Int),false,(0:Int),(2:Int),path,u7 m,true,m.2.2.1.2.2.2.2.2.2.1,false,(0:Int),false,false,(0:Int),(0:Int),m.2.2.1.2.2.2.2.1,false,(0:Int),()))) fun(v5:(Int×Int×Bool×Int×Bool×Int×Bool×Bool×Int×Int×Bool×Int×Int×(List (Int×((List Int)×Unit)))×Int×Bool×Int×Bool×Int×Bool×Bool×Int×Int×(List Int)×Bool×Int×Unit))=>
  i_ (bif (m.2.2.1.2.2.2.2.2.1 != (100:Int))then some ((v5.1,v5.2.1,v5.2.2.1,v5.2.2.2.1,v5.2.2.2.2.1,v5.2.2.2.2.2.1,v5.2.2.2.2.2.2.1,v5.2.2.2.2.2.2.2.1,v5.2.2.2.2.2.2.2.2.1,v5.2.2.2.2.2.2.2.2.2.1,v5.2.2.2.2.2.2.2.2.2.2.1,v5.2.2.2.2.2.2.2.2.2.2.2.1,v5.2.2.2.2.2.2.2.2.2.2.2.2.1,v5.2.2.2.2.2.2.2.2.2.2.2.2.2.1,v5.2.2.2.2.2.2.2.2.2.2.2.2.2.2.1,v5.2.2.2.2.2.2.2.2.2.2.2.2.2.2.2.1,v5.2.2.2.2.2.2.2.2.2.2.2.2.2.2.2.2.1,true,m.2.2.1.2.2.2.2.2.1,v5.2.2.2.2.2.2.2.2.2.2.2.2.2.2.2.2.2.2.2.1,v5.2.2.2.2.2.2.2.2.2.2.2.2.2.2.2.2.2.2.2.2.1,v5.2.2.2.2.2.2.2.2.2.2.2.2.2.2.2.2.2.2.2.2.2.1,v5.2.2.2.2.2.2.2.2.2.2.2.2.2.2.2.2.2.2.2.2.2.2.1,v5.2.2.2.2.2.2.2.2.2.2.2.2.2.2.2.2.2.2.2.2.2.2.2.1,v5.2.2.2.2.2.2.2.2.2.2.2.2.2.2.2.2.2.2.2.2.2.2.2.2.1,v5.2.2.2.2.2.2.2.2.2.2.2.2.2.2.2.2.2.2.2.2.2.2.2.2.2.1,()))
  else some (v5.1,v5.2.1,v5.2.2.1,v5.2.2.2.1,v5.2.2.2.2.1,v5.2.2.2.2.2.1,v5.2.2.2.2.2.2.1,v5.2.2.2.2.2.2.2.1,v5.2.2.2.2.2.2.2.2.1,v5.2.2.2.2.2.2.2.2.2.1,v5.2.2.2.2.2.2.2.2.2.2.1,v5.2.2.2.2.2.2.2.2.2.2.2.1,v5.2.2.2.2.2.2.2.2.2.2.2.2.1,v5.2.2.2.2.2.2.2.2.2.2.2.2.2.1,v5.2.2.2.2.2.2.2.2.2.2.2.2.2.2.1,v5.2.2.2.2.2.2.2.2.2.2.2.2.2.2.2.1,v5.2.2.2.2.2.2.2.2.2.2.2.2.2.2.2.2.1,v5.2.2.2.2.2.2.2.2.2.2.2.2.2.2.2.2.2.1,v5.2.2.2.2.2.2.2.2.2.2.2.2.2.2.2.2.2.2.1,v5.2.2.2.2.2.2.2.2.2.2.2.2.2.2.2.2.2.2.2.1,v5.2.2.2.2.2.2.2.2.2.2.2.2.2.2.2.2.2.2.2.2.1,v5.2.2.2.2.2.2.2.2.2.2.2.2.2.2.2.2.2.2.2.2.2.1,v5.2.2.2.2.2.2.2.2.2.2.2.2.2.2.2.2.2.2.2.2.2.2.1,v5.2.2.2.2.2.2.2.2.2.2.2.2.2.2.2.2.2.2.2.2.2.2.2.1,v5.2.2.2.2.2.2.2.2.2.2.2.2.2.2.2.2.2.2.2.2.2.2.2.2.1,v5.2.2.2.2.2.2.2.2.2.2.2.2.2.2.2.2.2.2.2.2.2.2.2.2.2.1,())) fun(v6:(Int×Int×Bool×Int×Bool×Int×Bool×Bool×Int×Int×Bool×Int×Int×(List (Int×((List Int)×Unit)))×Int×Bool×Int×Bool×Int×Bool×Bool×Int×Int×(List Int)×Bool×Int×Unit))=>
  aJ bK ((v6.2.2.2.2.2.2.2.2.2.2.2.2.1,v6.2.2.2.2.2.2.2.2.2.2.2.2.2.1,v6.2.2.2.2.2.2.2.2.2.2.2.2.2.2.1,v6.2.2.2.2.2.2.2.2.2.2.2.2.2.2.2.1,v6.2.2.2.2.2.2.2.2.2.2.2.2.2.2.2.2.1,v6.2.2.2.2.2.2.2.2.2.2.2.2.2.2.2.2.2.1,v6.2.2.2.2.2.2.2.2.2.2.2.2.2.2.2.2.2.2.1,v6.2.2.2.2.2.2.2.2.2.2.2.2.2.2.2.2.2.2.2.1,v6.2.2.2.2.2.2.2.2.2.2.2.2.2.2.2.2.2.2.2.2.1,v6.2.2.2.2.2.2.2.2.2.2.2.2.2.2.2.2.2.2.2.2.2.1,v6.2.2.2.2.2.2.2.2.2.2.2.2.2.2.2.2.2.2.2.2.2.2.1,v6.2.2.2.2.2.2.2.2.2.2.2.2.2.2.2.2.2.2.2.2.2.2.2.1,v6.2.2.2.2.2.2.2.2.2.2.2.2.2.2.2.2.2.2.2.2.2.2.2.2.1,v6.2.2.2.2.2.2.2.2.2.2.2.2.2.2.2.2.2.2.2.2.2.2.2.2.2.1,([]:List Int),([]:List (Int×((List Int)×Unit))),()),())) (λx=>x=some (kE bK (GV m.1 m.2.2.1 (u7 m),()))):=λpath hpath=>by
  have pk:∀med,med=HE m.1 m.2.2.1->∀b pf,b=(m.2.2.1.2.2.2.2.2.1 != 100)->pf=(if m.2.2.1.2.2.2.2.2.1≠100 then m.2.2.1.2.2.2.2.2.1 else 0)->((2,path,u7 m,true,med,b,pf,false,false,0,0,m.2.2.1.2.2.2.2.1,false,0,[],[],()):Ma)=GV m.1 m.2.2.1 (u7 m):=λmed h1 b pf h2 h3=>by
   rw[h1,h2,h3,hpath];rfl
  have fin:∀med,med=HE m.1 m.2.2.1->Wp (fun(n:Nat)=>i_ (bif (m.2.2.1.2.2.2.2.2.1 != (100:Int))then some (true,m.2.2.1.2.2.2.2.2.1)else some (false,(0:Int))) fun(v:Bool×Int)=>aJ bK ((2,path,u7 m,true,med,v.1,v.2,false,false,(0:Int),(0:Int),m.2.2.1.2.2.2.2.1,false,(0:Int),([]:List Int),([]:List (Int×((List Int)×Unit))),()),())) (λx=>x=some (kE bK (GV m.1 m.2.2.1 (u7 m),()))):=λmed h1=>by
   refine an (aF (λh=>aa (aa ?_)) λh=>aa (aa ?_))
   ·rw[pk med h1 _ _ h.symm (by rw[if_pos (by simpa using h)])]
   ·rw[pk med h1 _ _ h.symm (by rw[if_neg (by simpa using h)])]
  refine an (aF (λh=>aA (gp m) (aa ?_)) λh=>aa ?_)
  ·have:=fin (FG m.1 m.2.2.1) (by unfold HE;rw[if_pos (by simpa using h)])
   cases hb:(m.2.2.1.2.2.2.2.2.1 != (100:Int))<;>rw[hb]at this<;>exact this
  ·have:=fin m.2.2.1.2.2.2.2.2.2.1 (by unfold HE;rw[if_neg (by simpa using h)])
   cases hb:(m.2.2.1.2.2.2.2.2.1 != (100:Int))<;>rw[hb]at this<;>exact this
 refine an (aF (λh=>aA (GH _ (by omega)) (aa ?_)) λh=>aa ?_)
 ·exact last [(2,m.2.2.1.2.2.2.1,())] (by rw[if_pos (by have:=of_decide_eq_true h;omega)])
 ·exact last [] (by rw[if_neg (by have:=of_decide_eq_false h;omega)])
theorem JE{r:dz}(h:okD wo r):RteQ r:=⟨h.1.1,λx hx=>⟨(h.2.2.2.2.2.1.2 x hx).1,(h.2.2.2.2.2.1.2 x hx).2.2.2.2.1.1⟩⟩
abbrev zS:PS:=([],[],[],[],())
theorem Lk:aL tbl fF [.d yS zS] [] ee (tM tL zS,()):=oD (m:=90) λk=>by kernel_rfl
theorem Ll:aL tbl gU [.d yS zS] [] eW (tM tL zS,()):=oD (m:=90) λk=>by kernel_rfl
theorem Mx{x:lH}(h:gn zS x=0):x.2.2.1=[]:=by
 refine n_ λhn=>?_
 unfold gn at h
 split at h
 ·cases h
 split at h
 ·cases h
 split at h
 ·cases h
 rw[if_pos ⟨hn,rfl⟩]at h
 cases h
theorem LQ{rules:List lH}(h:pm zS rules=0):rules.length<=64/\∀x∈rules,x.2.2.1=[]:=by
 unfold pm at h
 split at h
 ·rename_i g;exact absurd h g
 split at h
 ·cases h
 ·exact⟨by omega,λx hx=>Mx (errL_zero.1 h x hx)⟩
noncomputable def tK(to:Int)(rules:List lH)(r:dz):List Fl:=match rules.find? (i6 to r)with|some x=>[(x,ot r,ot r,())]|none=>[]
noncomputable def eL(to:Int)(rules:List lH)(l:List dz):List Fl:=(jV l).flatMap (tK to rules)
theorem BH(to:Int)(rules:List lH)(r:dz):(tK to rules r).length<=1:=by
 unfold tK
 split<;>simp
theorem Bg{l:List dz}{f:dz->List Fl}(h:∀r,(f r).length<=1):(l.flatMap f).length<=l.length:=by
 induction l with
 |nil=>exact l_ _
 |cons r l ih=>
  have:=h r
  rw[s_,y_,t_]
  omega
theorem FP{l:List dz}{f:dz->List Fl}{i:Nat}(hi:i<l.length):(l.take (i+1)).flatMap f=(l.take i).flatMap f++f l[i]:=by
 rw[c_ hi,o_]
 simp
theorem ws(x:lH)(hx:x.2.2.1=[])(r:dz):aL tbl bG [.d IG x,.d wo r,.dp yS zS] [] bm ((x,ot r,ot r,()),true,0,()):=by
 refine aH rfl (aK mM rfl (λO n=>mQ O n x r zS) ?_)
 unfold fD
 exact aA (lJ r) (aA (lJ r) (gl (by rw[hx];rfl) (aa rfl)))
theorem LA(to:Int)(rules:List lH)(hr:rules.length<=64)(hx:∀x∈rules,x.2.2.1=[])(r:dz)(out:List Fl)(ho:out.length<=2000):
 Wp (λn=>bR n (dw (wm tbl n) n zS rules to) ((0:Int),out,r.1.1,r.1.2.1,r.2.1,r.2.2.1,r.2.2.2.1,r.2.2.2.2.1,r.2.2.2.2.2.1,())) λx=>x= .inr (out++tK to rules r,()):=by
 refine Cn (δ:=(Int×Unit)⊕(List Fl×Unit)) (xs:=rules) (p:=i6 to r) (enc:=λi=>((i:Int),out,r.1.1,r.1.2.1,r.2.1,r.2.2.1,r.2.2.2.1,r.2.2.2.2.1,r.2.2.2.2.2.1,())) (g:=λx=>.inr (out++[(x,ot r,ot r,())],())) (e:=.inr (out,())) (λi hi=>?_) ?_ ?_
 ·unfold dw
  refine eZ hi (an (bj hi (an (cU (b:=rules[i].1 != r.2.1) (λ_=>aa rfl) ?_))))
  refine aF (λh=>aa (aa ?_)) λh=>?_
  ·have hf:i6 to r rules[i]=false:=by
    unfold i6
    rw[show(rules[i].2.1 != to||rules[i].1 != r.2.1)=true from h]
    rfl
   rw[hf,if_neg (by decide)]
   show Sum.inl (b_ .i64 ((i:Int)+1),_)=_
   rw[a7 hi (by omega)]
  have hf:i6 to r rules[i]=true:=by
   unfold i6
   rw[show(rules[i].2.1 != to||rules[i].1 != r.2.1)=false from h]
   rfl
  rw[hf,if_pos rfl]
  refine aA (ws rules[i] (hx _ (e_ hi)) r) (bi rfl (gl rfl (cA (decide_eq_true ?_) (aa (aa rfl)))))
  show(out.length+1)*272<=140737488355328
  omega
 ·unfold dw
  exact dm (aa rfl)
 ·unfold tK
  cases rules.find? (i6 to r)with
  |none=>
   show V_ (out,())=V_ (out++[],())
   rw[h_]
  |some x=>rfl
theorem sU(l:List dz)(hq:∀r∈l,RteQ r)(hl:l.length<=1000)(rules:List lH)(h0:pm zS rules=0)(to:Int):aL tbl cZ [.d (.list wo) l,.d yS zS,.d (.list IG) rules,.d tI to] [] bD (eL to rules l,0,()):=by
 refine aH rfl (aK sJ rfl (λO n=>sR O n l zS rules to) ?_)
 unfold lO
 obtain⟨hr,hx⟩:=LQ h0
 have hC:=tu zS Lk rules
 rw[h0]at hC
 refine aA hC (bi rfl (aA (wu l hq) ?_))
 have hll:=Bt l
 refine an (Wp.imp (Q:=λx=>x= .inr (eL to rules l,())) (cP (N:=(jV l).length) (I:=λj x=>x=((j:Int),((jV l).take j).flatMap (tK to rules),())) rfl (λj x hj hx'=>?_) λx hx'=>?_) λx hx'=>?_)
 ·subst hx'
  unfold fh
  have hm:=Bg (l:=(jV l).take j) (BH to rules)
  rw[g_]at hm
  refine eZ hj (bj hj (an (Wp.imp (LA to rules hr hx (jV l)[j] _ (by show(((jV l).take j).flatMap (tK to rules)).length<=2000;omega)) λx hx'=>?_)))
  subst hx'
  refine aa ?_
  show(b_ .i64 ((j:Int)+1),_)=_
  rw[a7 hj (by omega),FP hj]
 ·subst hx'
  unfold fh
  refine dm (aa ?_)
  rw[j_]
  rfl
 ·subst hx'
  exact aa rfl
theorem sv(to:Int)(rules:List lH)(l:List dz):(eL to rules l).length<=l.length:=x_ (Bg (BH to rules)) (Bt l)
theorem x6{to:Int}{rules:List lH}{l:List dz}{m:Fl}(h:m∈eL to rules l):∃x r,m=(x,ot r,ot r,()):=by
 obtain⟨r,_,hr⟩:=List.mem_flatMap.1 h
 unfold tK at hr
 split at hr
 ·rename_i x _
  exact⟨x,r,by simpa using hr⟩
 ·cases hr
theorem wq(l:List dz)(hq:∀r∈l,RteQ r)(hl:l.length<=1000)(rules:List lH)(h0:pm zS rules=0):aL tbl bS [.d (.list wo) l,.d yS zS,.d (.list IG) rules] [] bB ((eL 5 rules l).map Bb,0,()):=by
 refine aH rfl (aK qn rfl (λO n=>qt O n l zS rules) ?_)
 unfold j8
 refine aA (sU l hq hl rules h0 5) ?_
 have hm:=sv 5 rules l
 refine an (Wp.imp (Q:=λx=>x=((eL 5 rules l).map Bb,())) (cP (N:=(eL 5 rules l).length) (I:=λj x=>x=((j:Int),((eL 5 rules l).take j).map Bb,())) rfl (λj x hj hx=>?_) λx hx=>?_) λx hx=>?_)
 ·subst hx
  unfold d6
  refine eZ hj (bj hj (aA (gp _) (aA (fA _) (cA (decide_eq_true ?_) (aa ?_)))))
  ·show((((eL 5 rules l).take j).map Bb).length+1)*40<=140737488355328
   rw[p_,g_]
   omega
  ·show(b_ .i64 ((j:Int)+1),_)=_
   rw[a7 hj (by omega),map_take hj]
   rfl
 ·subst hx
  unfold d6
  refine dm (aa ?_)
  rw[j_]
 ·subst hx
  exact aa rfl
theorem Ak(l:List dz)(hq:∀r∈l,RteQ r)(hl:l.length<=1000)(rules:List lH)(h0:pm zS rules=0)(router:Int):aL tbl cr [.d (.list wo) l,.d yS zS,.d (.list IG) rules,.d tW router] [] bW ((eL 6 rules l).map (xn router),0,()):=by
 refine aH rfl (aK sI rfl (λO n=>sQ O n l zS rules router) ?_)
 unfold lN
 refine aA (sU l hq hl rules h0 6) ?_
 have hm:=sv 6 rules l
 refine an (Wp.imp (Q:=λx=>x=((eL 6 rules l).map (xn router),())) (cP (N:=(eL 6 rules l).length) (I:=λj x=>x=((j:Int),((eL 6 rules l).take j).map (xn router),())) rfl (λj x hj hx=>?_) λx hx=>?_) λx hx=>?_)
 ·subst hx
  unfold fg
  refine eZ hj (bj hj (aA (ue _ ?_) (cA (decide_eq_true ?_) (aa ?_))))
  ·obtain⟨x,r,e⟩:=x6 (e_ hj)
   rw[e]
   exact⟨A_ _,A_ _⟩
  ·show((((eL 6 rules l).take j).map (xn router)).length+1)*208<=140737488355328
   rw[p_,g_]
   omega
  ·show(b_ .i64 ((j:Int)+1),_)=_
   rw[a7 hj (by omega),map_take hj]
   rfl
 ·subst hx
  unfold fg
  refine dm (aa ?_)
  rw[j_]
 ·subst hx
  exact aa rfl
def Bc(x:lH)(r:dz):IN:=(r.1,(if x.2.2.2.1=0 then r.2.2.2.1 else x.2.2.2.1),x.2.2.2.2.1,0,r.2.2.2.2.1,())
def zp(r:dz):Option lH->List IN|some x=>[Bc x r]|none=>[]
def wQ(r:dz):Option lH->List sZ|some _=>[r.1]|none=>[]
abbrev I7(r:dz)(E:List IN)(P:List sZ)(i:Nat)(o5 o6:Option lH):Bool×Bool×Int×List IN×List sZ×Int×Int×Int×Int×Int×Int×List Gz×Unit:=
 (o5.isSome,o6.isSome,(i:Int),E++zp r o5,P++wQ r o6,r.1.1,r.1.2.1,r.2.1,r.2.2.1,r.2.2.2.1,r.2.2.2.2.1,r.2.2.2.2.2.1,())
theorem xL{p:lH->Bool}{l:List lH}{i:Nat}(hi:i<l.length):(l.take (i+1)).find? p=((l.take i).find? p).or (if p l[i]then some l[i]else none):=by
 rw[c_ hi,List.find?_append]
 congr 1
 rw[K_]
 cases p l[i]<;>rfl
theorem Hm{to:Int}{r:dz}{x:lH}(h:(x.1 != r.2.1)=true):i6 to r x=false:=by unfold i6;rw[h,Bool.or_true];rfl
theorem Hl{to:Int}{r:dz}{x:lH}(h:(x.1 != r.2.1)=false):i6 to r x=(x.2.1==to):=by
 unfold i6
 rw[h,Bool.or_false]
 cases hh:(x.2.1==to)<;>simp_all
set_option maxHeartbeats 4000000 in
theorem KR(rules:List lH)(hr:rules.length<=64)(r:dz)(E:List IN)(P:List sZ)(hE:E.length<=2000)(hP:P.length<=2000):
 Wp (λn=>bR n (cB (wm tbl n) n rules) (false,false,(0:Int),E,P,r.1.1,r.1.2.1,r.2.1,r.2.2.1,r.2.2.2.1,r.2.2.2.2.1,r.2.2.2.2.2.1,())) λx=>x=(E++zp r (rules.find? (i6 5 r)),P++wQ r (rules.find? (i6 6 r)),()):=by
 refine cP (N:=rules.length) (I:=λi x=>x=I7 r E P i ((rules.take i).find? (i6 5 r)) ((rules.take i).find? (i6 6 r))) ?_ (λi x hi hx=>?_) λx hx=>?_
 ·show _=I7 r E P 0 none none
  show _=(false,false,(0:Int),E++[],P++[],_)
  rw[h_,h_]
 ·subst hx
  unfold cB
  rw[xL hi,xL hi]
  have hw:b_ .i64 ((i:Int)+1)=((i+1:Nat):Int):=a7 hi (by omega)
  generalize(rules.take i).find? (i6 5 r)=o5
  generalize(rules.take i).find? (i6 6 r)=o6
  have hl5:(E++zp r o5).length<=2001:=by cases o5<;>simp[zp]<;>omega
  have hl6:(P++wQ r o6).length<=2001:=by cases o6<;>simp[wQ]<;>omega
  refine eZ hi (an (bj hi ?_))
  generalize rules[i]=x
  refine aF (λh=>aa (aa ?_)) λh=>?_
  ·have h:(x.1 != r.2.1)=true:=h
   rw[Hm h,Hm h,if_neg (by decide),D_,D_]
   show(o5.isSome,o6.isSome,b_ .i64 ((i:Int)+1),_)=_
   rw[hw]
  have h:(x.1 != r.2.1)=false:=h
  rw[Hl h,Hl h]
  refine an (an (dj (b:= !o5.isSome) (λ_=>aa rfl) (aF (λh5=>?_) λh5=>aa ?_)))
  ·have h5:((x.2.1==5)&& !o5.isSome)=true:=h5
   rw[f_]at h5
   have e5:o5=none:=by cases o5<;>simp_all
   have x5:x.2.1=5:=by simpa using h5.1
   subst e5
   refine an (aF (λh4=>aa ?_) λh4=>aa ?_)
   all_goals
    refine cA (decide_eq_true (by show((E++[]).length+1)*40<=140737488355328;rw[h_];omega)) (aa ?_)
    refine an (bi (by show(x.2.1==6)=false;rw[x5];rfl) (aa (bi rfl (aa (aa ?_)))))
    rw[x5]
    show(true,o6.isSome,b_ .i64 ((i:Int)+1),(E++[])++[_],P++wQ r o6,_)=I7 r E P (i+1) (some x) (o6.or none)
    rw[hw,h_,D_]
    show _=(true,o6.isSome,((i+1:Nat):Int),E++[Bc x r],P++wQ r o6,_)
   ·rw[show Bc x r=(r.1,r.2.2.2.1,x.2.2.2.2.1,0,r.2.2.2.2.1,())from by unfold Bc;rw[if_pos (by simpa using h4)]]
   ·rw[show Bc x r=(r.1,x.2.2.2.1,x.2.2.2.2.1,0,r.2.2.2.2.1,())from by unfold Bc;rw[if_neg (by simpa using h4)]]
  ·have h5:((x.2.1==5)&& !o5.isSome)=false:=h5
   have e5:o5.or (if(x.2.1==5)=true then some x else none)=o5:=by
    cases o5 with
    |some y=>rfl
    |none=>
     have:(x.2.1==5)=false:=by simpa using h5
     rw[this];rfl
   rw[e5]
   refine an (dj (b:= !o6.isSome) (λ_=>aa rfl) (aF (λh6=>?_) λh6=>aa (aa ?_)))
   ·have h6:((x.2.1==6)&& !o6.isSome)=true:=h6
    rw[f_]at h6
    have e6:o6=none:=by cases o6<;>simp_all
    subst e6
    refine cA (decide_eq_true (by show((P++[]).length+1)*16<=140737488355328;rw[h_];omega)) (aa (aa ?_))
    rw[h6.1]
    show(o5.isSome,true,b_ .i64 ((i:Int)+1),E++zp r o5,(P++[])++[_],_)=I7 r E P (i+1) o5 (some x)
    rw[hw,h_]
    rfl
   ·have h6:((x.2.1==6)&& !o6.isSome)=false:=h6
    have e6:o6.or (if(x.2.1==6)=true then some x else none)=o6:=by
     cases o6 with
     |some y=>rfl
     |none=>
      have:(x.2.1==6)=false:=by simpa using h6
      rw[this];rfl
    rw[e6]
    show(o5.isSome,o6.isSome,b_ .i64 ((i:Int)+1),_)=_
    rw[hw]
 ·subst hx
  unfold cB
  refine dm (aa ?_)
  rw[j_]
noncomputable def zq(rules:List lH)(l:List dz):List IN:=l.flatMap λr=>zp r (rules.find? (i6 5 r))
noncomputable def zG(rules:List lH)(l:List dz):List sZ:=l.flatMap λr=>wQ r (rules.find? (i6 6 r))
theorem FO{rules:List lH}{l:List dz}{i:Nat}(hi:i<l.length):zq rules (l.take (i+1))=zq rules (l.take i)++zp l[i] (rules.find? (i6 5 l[i])):=by
 unfold zq
 rw[c_ hi,o_]
 simp
theorem F8{rules:List lH}{l:List dz}{i:Nat}(hi:i<l.length):zG rules (l.take (i+1))=zG rules (l.take i)++wQ l[i] (rules.find? (i6 6 l[i])):=by
 unfold zG
 rw[c_ hi,o_]
 simp
theorem Hj(r:dz)(o:Option lH):(zp r o).length<=1:=by cases o<;>simp[zp]
theorem HZ(r:dz)(o:Option lH):(wQ r o).length<=1:=by cases o<;>simp[wQ]
theorem xM{β:Type}{l:List dz}{f:dz->List β}(h:∀r,(f r).length<=1):(l.flatMap f).length<=l.length:=by
 induction l with
 |nil=>exact l_ _
 |cons r l ih=>
  have:=h r
  rw[s_,y_,t_]
  omega
theorem ext_eq{rules:List lH}{l:List dz}(hl:∀r∈l,r.2.2.2.1<=16777216):(l.flatMap (tK 5 rules)).map Bb=zq rules l:=by
 unfold zq
 rw[I_]
 induction l with
 |nil=>rfl
 |cons r l ih=>
  rw[s_,s_,ih λx hx=>hl x (by simp[hx])]
  congr 1
  unfold tK
  cases rules.find? (i6 5 r)with
  |none=>rfl
  |some x=>
   show [Bb (x,ot r,ot r,())]=[Bc x r]
   have hm:=hl r (by simp)
   unfold Bb Bc FG
   rw[if_pos rfl]
   by_cases h:x.2.2.2.1=0
   ·rw[if_neg (not_not_intro h),if_pos h]
    show [(r.1,min r.2.2.2.1 16777216,_,_,_)]=_
    rw[Int.min_eq_left hm]
    rfl
   ·rw[if_pos h,if_neg h]
    rfl
theorem vec_eq{rules:List lH}{l:List dz}{router:Int}:((l.flatMap (tK 6 rules)).map (xn router)).map (·.1)=zG rules l:=by
 unfold zG
 rw[List.map_map,I_]
 congr 1
 funext r
 unfold tK
 cases rules.find? (i6 6 r)<;>rfl
theorem Di{l:List dz}(h:jV l=l):∀r∈l,r.2.2.2.1<=16777216:=by
 intro r hr
 have h0:tN l=0:=by
  refine n_ λh0=>?_
  have e:jV l=[]:=if_pos h0
  rw[e]at h
  rw[<-h]at hr
  cases hr
 unfold tN at h0
 split at h0
 ·cases h0
 obtain⟨i,hi,rfl⟩:=List.mem_iff_getElem.1 hr
 have h1:=errN_zero.1 h0 i hi
 rw[jY hi]at h1
 have h2:gm l[i]=0:=by
  refine n_ λh2=>?_
  rw[if_pos h2]at h1
  exact h2 h1
 unfold gm at h2
 split at h2
 ·cases h2
 split at h2
 ·cases h2
 split at h2
 ·cases h2
 ·rename_i h3
  unfold Dn at h3
  simp only[Bool.or_eq_true,decide_eq_true_eq]at h3
  generalize l[i].2.2.2.1=z at h3⊢
  omega
theorem HA{l:List dz}(h:(jV l).length=l.length):jV l=l:=by
 unfold jV at h⊢
 split at h
 ·rename_i h1
  rw[if_pos h1]
  exact(u_ h.symm).symm
 rename_i h1
 rw[if_neg h1]
 split at h
 ·rename_i h2
  rw[if_pos h2]
  exact(u_ h.symm).symm
 ·rename_i h2
  rw[if_neg h2]
theorem Mh(x:lH)(r:dz):u7 (x,ot r,ot r,())=0:=if_pos rfl
set_option maxHeartbeats 4000000 in
theorem Ga(l:List dz)(rules:List lH)(router:Int)(hq:∀r∈l,RteQ r):Conv tbl cV [.d (.list wo) l,.d (.list IG) rules,.d tW router] [] (·=some (kE bn (true,()))):=by
 refine aK pn rfl (λO n=>pq O n l rules router) ?_
 unfold jd
 obtain⟨b,hb1,hb2⟩:=IM l zS rules
 refine aA hb2 (an (aF (λhb=>aa ?_) λhb=>aA (uh zS Ll rules) (aa ?_)))
 ·exact an (gl rfl (aa (gl rfl (aA tT (aa rfl)))))
 have hl:=(hb1 hb).1
 by_cases h0:pm zS rules=0
 ·refine an (bi (by show(pm zS rules != 0)=false;rw[h0];rfl) (aA (yE l hq) (aa ?_)))
  by_cases hll:(jV l).length=l.length
  ·refine bi (by show((((jV l).length:Nat):Int) != (l.length:Int))=false;rw[hll];simp) ?_
   have hls:=HA hll
   obtain⟨hr,hx⟩:=LQ h0
   have e1:(eL 5 rules l).map Bb=zq rules l:=by
    unfold eL
    rw[hls]
    exact ext_eq (Di hls)
   have e2:zG rules l=((eL 6 rules l).map (xn router)).map (·.1):=by
    unfold eL
    rw[hls]
    exact vec_eq.symm
   have hm:=sv 6 rules l
   have h5:=λk=>xM (l:=l.take k) (λr=>Hj r (rules.find? (i6 5 r)))
   have h6:=λk=>xM (l:=l.take k) (λr=>HZ r (rules.find? (i6 6 r)))
   refine an (Wp.imp (Q:=λx=>x=(zq rules l,zG rules l,())) (cP (N:=l.length) (I:=λj x=>x=((j:Int),zq rules (l.take j),zG rules (l.take j),())) rfl (λj x hj hx=>?_) λx hx=>?_) λx hx=>?_)
   ·subst hx
    unfold dR
    have g5:(zq rules (l.take j)).length<=2000:=by have:=h5 j;rw[g_]at this;exact x_ this (by omega)
    have g6:(zG rules (l.take j)).length<=2000:=by have:=h6 j;rw[g_]at this;exact x_ this (by omega)
    refine eZ hj (bj hj (an (Wp.imp (KR rules hr l[j] _ _ g5 g6) λx hx=>?_)))
    subst hx
    refine aa ?_
    show(b_ .i64 ((j:Int)+1),_)=_
    rw[a7 hj (by omega),FO hj,F8 hj]
   ·subst hx
    unfold dR
    refine dm (aa ?_)
    rw[j_]
   subst hx
   refine aA (wq l hq (by omega) rules h0) (aA (Ak l hq (by omega) rules h0 router) ?_)
   rw[e1]
   refine an (bi rfl (aa (an (bi rfl (aA (uj _ ?_) (aa ?_))))))
   ·have:=h5 l.length
    rw[j_]at this
    exact x_ this (by omega)
   rw[e2]
   have hvl:((eL 6 rules l).map (xn router)).length=(eL 6 rules l).length:=p_ ..
   have hvm:∀v∈(eL 6 rules l).map (xn router),∃x r,v=xn router (x,ot r,ot r,()):=by
    intro v hv
    obtain⟨m,hm,rfl⟩:=List.mem_map.1 hv
    obtain⟨x,r,rfl⟩:=x6 hm
    exact⟨x,r,rfl⟩
   generalize(eL 6 rules l).map (xn router)=V at hvl hvm⊢
   refine an (bi rfl (aa (bi (by show((V.length:Int) != (((V.map (·.1)).length:Nat):Int))=false;rw[p_];simp) ?_)))
   refine an (Wp.imp (Q:=λx=>x= .inr ()) (cP (N:=V.length) (I:=λj x=>x=((j:Int),V.map (·.1),())) rfl (λj x hj hx=>?_) λx hx=>?_) λx hx=>?_)
   ·subst hx
    unfold dS
    have hj':j<(V.map (·.1)).length:=by rw[p_];exact hj
    refine eZ hj (bj hj (bj hj' (IE (a:=V[j].1) ?_ ?_)))
    ·show(V.map (·.1))[r_ (j:Int)]? =some V[j].1
     rw[G_,a_ hj',List.getElem_map]
    obtain⟨x,r,e⟩:=hvm V[j] (e_ hj)
    rw[e]
    refine an (bi (by rw[I9];rfl) (aa ?_))
    refine an (bi (by show(router != router)=false;simp) (aa ?_))
    refine an (bi (by show(u7 (x,ot r,ot r,()) != 0)=false;rw[Mh];rfl) (aa ?_))
    refine bi rfl (aa ?_)
    show(b_ .i64 ((j:Int)+1),_)=_
    rw[a7 hj (by omega)]
   ·subst hx
    unfold dS
    exact dm (aa rfl)
   subst hx
   exact aA tT (aa rfl)
  ·refine gl (by show((((jV l).length:Nat):Int) != (l.length:Int))=true;rw[bne_iff_ne];omega) (aA tT (aa rfl))
 ·exact an (gl (by show(pm zS rules != 0)=true;rw[bne_iff_ne];exact h0) (aa (gl rfl (aA tT (aa rfl)))))
theorem tH:LawOk cV [.list wo,.list IG,tW]:=by
 rintro⟨l,rules,router,_⟩ ⟨hl,_⟩
 exact⟨kE bn (true,()),Ga l rules router λr hr=>JE (hl.2 r hr),rfl⟩
end Go.Proofs.YtmfolppncelceaaGreatDoor
