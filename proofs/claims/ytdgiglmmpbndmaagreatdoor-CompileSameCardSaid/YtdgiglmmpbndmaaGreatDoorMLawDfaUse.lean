import Derived.Test.YtdgiglmmpbndmaaGreatDoorML7
import Derived.Test.YtdgiglmmpbndmaaGreatDoorMGlueB
import Derived.Test.YtdgiglmmpbndmaaGreatDoorMPlPfx
set_option linter.unusedVariables false
set_option linter.unusedSimpArgs false
open Bool renaming or_eq_false_iff->c_,or_eq_true->e_,and_eq_true->i_,not_eq_false'->o_,not_eq_true'->w_,true_and->y_,eq_iff_iff->z_,not_false->W_,and_true->aa_
open Classical renaming byContradiction->d_,choose->R_,choose_spec->ac_,not_not->af_
open Int renaming eq_ofNat_of_zero_le->n_,toNat_natCast->r_,natCast_nonneg->u_,toNat->C_,toNat_of_nonneg->N_,le_refl->ad_
open Go.IntKind renaming wrap->h_,bits->H_
open List renaming getElem_mem->a_,getElem?_eq_getElem->b_,length_map->f_,take_of_length_le->j_,mem_cons_self->k_,getElem?_eq_some_iff->l_,mem_cons_of_mem->m_,mem_singleton->p_,getElem?_eq_none->q_,getD_eq_getElem?_getD->s_,length_pos_iff->t_,getElem_map->x_,nil_append->A_,take_succ_cons->B_,any_eq_false->E_,drop_eq_nil_of_le->I_,length_eq_one_iff->J_,length_singleton->L_,mem_of_getElem?->M_,map_cons->O_,any_map->P_,all_eq_true->S_,any_eq_true->T_,getD->U_,map_append->V_,drop_zero->X_
open Nat renaming le_refl->v_,lt_succ_iff_lt_or_eq->F_,le_of_lt->K_,mod_lt->Y_,le_trans->ab_,zero_le->ae_
open Option renaming bind->g_,getD_some->G_
open Prod renaming ext->D_,mk->Q_
open Sum renaming elim->Z_
namespace Go.Proofs.YtdgiglmmpbndmaaGreatDoor
open Go Go.Av Go.Ev
abbrev DF:Type:=List Int×(List (List Int)×(List Bool×(Int×Unit)))
def nO(xs:List Int):Prop:=0<xs.length/\(∀(h:0<xs.length),xs[0]=0)/\(∀i (h:i+1<xs.length),xs[i]<xs[i+1])/\∀x∈xs,x<=4294967295
def Big(d:DF):Prop:=d.2.2.1.length>4096\/d.2.1.length>4096\/d.1.length>2000
open Classical in
noncomputable def cI(d:DF):Int:=
 if Big d then 4 else if ¬nO d.1 then 16 else if d.2.1.length=0\/d.2.2.1.length≠d.2.1.length then 14
 else if ¬(∀r∈d.2.1,r.length=d.1.length)then 14 else if d.2.2.2.1<0\/d.2.2.2.1>=(d.2.1.length:Int)then 5
 else if ¬(∀r∈d.2.1,∀t∈r,0<=t/\t<(d.2.1.length:Int))then 5 else 0
theorem WW{i:Nat}(a:0<i)(b:i<=9223372036854775807):h_ .i64 ((i:Int) - 1)=((i - 1:Nat):Int):=by rw[wrap_i64 (by omega) (by omega)];omega
theorem starts_dfa{xs:List Int}:nO xs↔(0<xs.length/\∀i,(h:i<xs.length)->(i=0->xs[i]=0)/\(∀_:0<i,xs[i - 1]<xs[i])/\xs[i]<=4294967295):=by
 constructor
 ·rintro⟨a,c,d,f⟩;refine⟨a,λi h=>⟨λe=>?_,λe=>?_,f _ (a_ h)⟩⟩;·subst e;exact c a
  ·obtain⟨j,rfl⟩:∃j,i=j+1:=⟨i - 1,by omega⟩;exact d j h
 ·rintro⟨a,h⟩;refine⟨a,λ_=>(h 0 a).1 rfl,λi b=>(h (i+1) b).2.1 (by omega),λx g=>?_⟩;obtain⟨i,b,rfl⟩:=List.mem_iff_getElem.1 g;exact(h i b).2.2
theorem starts_ref{xs:List Int}:nO xs↔(0<xs.length/\(∀h:0<xs.length,xs[0]=0)/\∀i,(h:i<xs.length)->(∀_:0<i,xs[i - 1]<xs[i])/\xs[i]<=4294967295):=by
 rw[starts_dfa];constructor;·rintro⟨a,h⟩;exact⟨a,λ_=>(h 0 a).1 rfl,λi b=>(h i b).2⟩
 ·rintro⟨a,c,d⟩;refine⟨a,λi b=>⟨λe=>?_,d i b⟩⟩;subst e;exact c a
theorem Fw(d:DF):aE tbl ra [.d (pr [.list tI,.list (.list tI),.list tB,tI]) d] [] dw (cI d,()):=by
 refine ap rfl (aB zcm rfl (λO n=>zcJ O n d) ?_);unfold NZ;refine ae (ba (λ_=>aa rfl) (ae (ba (λ_=>aa rfl) ?_)));refine ar (λh=>aa ?_) λh=>?_
 ·have:Big d:=by simp only[e_,decide_eq_true_eq]at h;unfold Big;omega
  rw[show cI d=4 from by unfold cI;rw[if_pos this]]
 have nb:¬Big d:=by simp only[c_,decide_eq_false_iff_not]at h;unfold Big;omega
 have y:d.1.length<=2000:=by unfold Big at nb;omega
 have z:d.2.1.length<=4096:=by unfold Big at nb;omega
 refine ae (uh (N:=d.1.length) (good:=λi=>∀(h:i<d.1.length),(i=0->d.1[i]=0)/\(∀_:0<i,d.1[i - 1]<d.1[i])/\d.1[i]<=4294967295) (e:=((16:Int),())) (g:=()) (λi a=>?_) ?_ (λhs=>?_) (λv=>?_))
 ·unfold AZ;refine bo a (aG a ?_);refine ae (bi (λ_=>aa rfl) (ae (ba (b:=decide (0<i)&&decide (d.1[i]<=d.1[i - 1])) (λ_=>ae (bi (b:=decide (d.1[i]<=d.1[i - 1])) (λu=>?_) (aa ?_))) (ae (ba (λ_=>aa rfl) ?_)))))
  ·have u:0<i:=by simpa using u
   rw[WW u (by omega)];exact aG (by omega) (aa rfl)
  ·congr 1;exact decide_eq_decide.2 (by omega)
  ·refine cj ?_ (by rw[aD a (by omega)]);simp only[e_,i_,decide_eq_true_eq,beq_iff_eq,bne_iff_ne];constructor
   ·intro c j;have f:=j a;rcases c with(⟨c,s⟩|⟨c,s⟩)|c;·exact s (f.1 (by omega))
    ·have:=f.2.1 c;omega
    ·have:=f.2.2;omega
   ·intro c;by_cases j:i=0
    ·by_cases f:d.1[i]=0;·exact absurd (λ_=>⟨λ_=>f,λh=>absurd h (by omega),by omega⟩) c
     ·exact .inl (.inl ⟨by omega,f⟩)
    ·by_cases f:d.1[i]<=d.1[i - 1];·exact .inl (.inr ⟨by omega,f⟩)
     ·by_cases s:d.1[i]>4294967295;·exact .inr s
      ·exact absurd (λ_=>⟨λh=>absurd h j,λ_=>by omega,by omega⟩) c
 ·unfold AZ;exact aZ (aa rfl)
 ·refine ar (λh=>aa ?_) λh=>?_
  ·have:¬nO d.1:=λhs=>by have:=hs.1;simp at h;simp[h]at this
   rw[show cI d=16 from by unfold cI;rw[if_neg nb,if_pos this]]
  have l:nO d.1:=starts_dfa.2 ⟨by simp at h;exact t_.2 h,λi a=>hs i a a⟩;refine ae (ba (λ_=>aa rfl) ?_);refine ar (λh=>aa ?_) λh=>?_
  ·have:d.2.1.length=0\/d.2.2.1.length≠d.2.1.length:=by simp only[e_,beq_iff_eq,bne_iff_ne]at h;omega
   rw[show cI d=14 from by unfold cI;rw[if_neg nb,if_neg (not_not_intro l),if_pos this]]
  have c:¬(d.2.1.length=0\/d.2.2.1.length≠d.2.1.length):=by simp only[c_,beq_eq_false_iff_ne,bne_eq_false_iff_eq]at h;omega
  refine ae (oW (xs:=d.2.1) (P:=λr=>r.length=d.1.length) (e:=((14:Int),())) (g:=()) (λi a=>?_) ?_ (λhr=>?_) (λhr=>?_));·unfold Ba;refine bo a (aG a (cj ?_ (by rw[aD a (by omega)])));simp only[bne_iff_ne];omega
  ·unfold Ba;exact aZ (aa rfl)
  ·refine ae (ba (λ_=>aa rfl) ?_);refine ar (λh=>aa ?_) λh=>?_
   ·have:d.2.2.2.1<0\/d.2.2.2.1>=(d.2.1.length:Int):=by simpa using h
    rw[show cI d=5 from by unfold cI;rw[if_neg nb,if_neg (not_not_intro l),if_neg c,if_neg (not_not_intro hr),if_pos this]]
   have j:¬(d.2.2.2.1<0\/d.2.2.2.1>=(d.2.1.length:Int)):=by simpa using h
   refine ae (oW (xs:=d.2.1) (P:=λr=>∀t∈r,0<=t/\t<(d.2.1.length:Int)) (e:=((5:Int),())) (g:=()) (λi a=>?_) ?_ (λx=>?_) (λx=>?_))
   ·unfold Bc;refine bo a (aG a (ae (oW (xs:=d.2.1[i]) (P:=λt=>0<=t/\t<(d.2.1.length:Int)) (e:=((5:Int),())) (g:=()) (λk w=>?_) ?_ (λh=>?_) (λh=>?_))));·unfold Bb;have p:=w;rw[hr _ (a_ a)]at p;refine bo w (aG w (ae (ba (λ_=>aa rfl) (cj ?_ (by rw[aD p (by omega)])))));simp only[e_,decide_eq_true_eq];omega
    ·unfold Bb;exact aZ (aa rfl)
    ·exact aa (.inl ⟨h,by rw[aD a (by omega)]⟩)
    ·exact aa (.inr ⟨h,rfl⟩)
   ·unfold Bc;exact aZ (aa rfl)
   ·refine aa ?_;rw[show cI d=0 from by unfold cI;rw[if_neg nb,if_neg (not_not_intro l),if_neg c,if_neg (not_not_intro hr),if_neg j,if_neg (not_not_intro x)]]
   ·refine aa ?_;rw[show cI d=5 from by unfold cI;rw[if_neg nb,if_neg (not_not_intro l),if_neg c,if_neg (not_not_intro hr),if_neg j,if_pos x]]
  ·refine aa ?_;rw[show cI d=14 from by unfold cI;rw[if_neg nb,if_neg (not_not_intro l),if_neg c,if_pos hr]]
 ·have:¬nO d.1:=λhs=>by obtain⟨i,a,v⟩:=v;exact v λh=>(starts_dfa.1 hs).2 i h
  refine aa ?_;rw[show cI d=16 from by unfold cI;rw[if_neg nb,if_pos this]]
theorem zms(d:DF):aE tbl pP [.d (pr [.list tI,.list (.list tI),.list tB,tI]) d] [] cL (cI d,()):=by
 refine ap rfl (aB U7 rfl (λO n=>Vz O n d) ?_);unfold I0;refine ae (ba (λ_=>aa rfl) (ae (ba (λ_=>aa rfl) ?_)));refine ar (λh=>aa ?_) λh=>?_
 ·have:Big d:=by simp only[e_,decide_eq_true_eq]at h;unfold Big;omega
  rw[show cI d=4 from by unfold cI;rw[if_pos this]]
 have nb:¬Big d:=by simp only[c_,decide_eq_false_iff_not]at h;unfold Big;omega
 have z:d.1.length<=2000:=by unfold Big at nb;omega
 have A:d.2.1.length<=4096:=by unfold Big at nb;omega
 refine ae (ba (b:=decide (∃h:0<d.1.length,d.1[0]≠0)) (λf=>?_) ?_)
 ·have f:0<d.1.length:=by simp at f;exact t_.2 f
  refine aG f (aa ?_);simp[f];rfl
 refine ar (λh=>aa ?_) λh=>?_
 ·have:¬nO d.1:=λhs=>by
   simp only[e_,beq_iff_eq,decide_eq_true_eq]at h;rcases h with h|⟨h,j⟩;·have:=hs.1;omega
   ·exact j (hs.2.1 h)
  rw[show cI d=16 from by unfold cI;rw[if_neg nb,if_pos this]]
 have hp:0<d.1.length/\∀h:0<d.1.length,d.1[0]=0:=by simp only[c_,beq_eq_false_iff_ne,decide_eq_false_iff_not,not_exists,Decidable.not_not]at h;exact⟨by omega,h.2⟩
 refine ae (uh (N:=d.1.length) (good:=λi=>∀(h:i<d.1.length),(∀_:0<i,d.1[i - 1]<d.1[i])/\d.1[i]<=4294967295) (e:=((16:Int),())) (g:=()) (λi a=>?_) ?_ (λhs=>?_) (λv=>?_))
 ·unfold vU;refine bo a (aG a ?_);refine ae (ba (b:=decide (0<i)&&decide (d.1[i]<=d.1[i - 1])) (λ_=>ae (bi (b:=decide (d.1[i]<=d.1[i - 1])) (λf=>?_) (aa ?_))) ?_)
  ·have f:0<i:=by simpa using f
   rw[WW f (by omega)];exact aG (by omega) (aa rfl)
  ·congr 1;exact decide_eq_decide.2 (by omega)
  ·refine cj ?_ (by rw[aD a (by omega)]);simp only[e_,i_,decide_eq_true_eq];constructor
   ·intro c j;have l:=j a;rcases c with c|⟨c,u⟩;·have:=l.2;omega
    ·have:=l.1 c;omega
   ·intro c;by_cases l:0<i/\d.1[i]<=d.1[i - 1];·exact .inr l
    ·by_cases u:d.1[i]>4294967295;·exact .inl u
     ·exact absurd (λ_=>⟨λh=>Int.not_le.1 λx=>l ⟨h,x⟩,Int.not_lt.1 u⟩) c
 ·unfold vU;exact aZ (aa rfl)
 ·have p:nO d.1:=starts_ref.2 ⟨hp.1,hp.2,λi a=>hs i a a⟩;refine ae (ba (λ_=>aa rfl) ?_);refine ar (λh=>aa ?_) λh=>?_
  ·have:d.2.1.length=0\/d.2.2.1.length≠d.2.1.length:=by simp only[e_,beq_iff_eq,bne_iff_ne]at h;omega
   rw[show cI d=14 from by unfold cI;rw[if_neg nb,if_neg (not_not_intro p),if_pos this]]
  have c:¬(d.2.1.length=0\/d.2.2.1.length≠d.2.1.length):=by simp only[c_,beq_eq_false_iff_ne,bne_eq_false_iff_eq]at h;omega
  refine ae (oW (xs:=d.2.1) (P:=λr=>r.length=d.1.length) (e:=((14:Int),())) (g:=()) (λi a=>?_) ?_ (λhr=>?_) (λhr=>?_));·unfold vV;refine bo a (aG a (cj ?_ (by rw[aD a (by omega)])));simp only[bne_iff_ne];omega
  ·unfold vV;exact aZ (aa rfl)
  ·refine ae (ba (λ_=>aa rfl) ?_);refine ar (λh=>aa ?_) λh=>?_
   ·have:d.2.2.2.1<0\/d.2.2.2.1>=(d.2.1.length:Int):=by simpa using h
    rw[show cI d=5 from by unfold cI;rw[if_neg nb,if_neg (not_not_intro p),if_neg c,if_neg (not_not_intro hr),if_pos this]]
   have j:¬(d.2.2.2.1<0\/d.2.2.2.1>=(d.2.1.length:Int)):=by simpa using h
   refine ae (oW (xs:=d.2.1) (P:=λr=>∀t∈r,0<=t/\t<(d.2.1.length:Int)) (e:=((5:Int),())) (g:=()) (λi a=>?_) ?_ (λy=>?_) (λy=>?_))
   ·unfold vX;refine bo a (aG a (ae (oW (xs:=d.2.1[i]) (P:=λt=>0<=t/\t<(d.2.1.length:Int)) (e:=((5:Int),())) (g:=()) (λk w=>?_) ?_ (λh=>?_) (λh=>?_))));·unfold vW;have s:=w;rw[hr _ (a_ a)]at s;refine bo w (aG w (ae (ba (λ_=>aa rfl) (cj ?_ (by rw[aD s (by omega)])))));simp only[e_,decide_eq_true_eq];omega
    ·unfold vW;exact aZ (aa rfl)
    ·exact aa (.inl ⟨h,by rw[aD a (by omega)]⟩)
    ·exact aa (.inr ⟨h,rfl⟩)
   ·unfold vX;exact aZ (aa rfl)
   ·refine aa ?_;rw[show cI d=0 from by unfold cI;rw[if_neg nb,if_neg (not_not_intro p),if_neg c,if_neg (not_not_intro hr),if_neg j,if_neg (not_not_intro y)]]
   ·refine aa ?_;rw[show cI d=5 from by unfold cI;rw[if_neg nb,if_neg (not_not_intro p),if_neg c,if_neg (not_not_intro hr),if_neg j,if_pos y]]
  ·refine aa ?_;rw[show cI d=14 from by unfold cI;rw[if_neg nb,if_neg (not_not_intro p),if_neg c,if_pos hr]]
 ·have:¬nO d.1:=λhs=>by obtain⟨i,a,v⟩:=v;exact v λh=>(starts_ref.1 hs).2.2 i h
  refine aa ?_;rw[show cI d=16 from by unfold cI;rw[if_neg nb,if_pos this]]
def zgR(d:DF):Prop:=d.1.length<=9223372036854775807/\d.2.1.length<=9223372036854775807/\(∀r∈d.2.1,r.length<=9223372036854775807)/\d.2.2.1.length<=9223372036854775807
def wo(d:DF):Bool:=decide (d.2.1.length>60)||decide (d.2.2.1.length>60)||decide (d.1.length>60)||d.2.1.any λr=>decide (r.length>60)
theorem IL(d:DF):aE tbl pM [.d (pr [.list tI,.list (.list tI),.list tB,tI]) d] [] ic (wo d,()):=by
 refine ap rfl (aB U0 rfl (λO n=>Vs O n d) ?_);unfold IT;refine ae (ba (λ_=>aa rfl) (ae (ba (λ_=>aa rfl) ?_)));refine ar (λh=>aa ?_) λh=>?_
 ·simp only[e_,decide_eq_true_eq]at h;have:wo d=true:=by simp only[wo,e_,decide_eq_true_eq];left;omega
  rw[this]
 simp only[c_,decide_eq_false_iff_not]at h;refine ae (oW (xs:=d.2.1) (P:=λr=>r.length<=60) (e:=(true,())) (g:=()) (λi a=>?_) ?_ (λhr=>aa ?_) (λhr=>aa ?_));·unfold vS;refine bo a (aG a (cj ?_ (by rw[aD a (by omega)])));simp only[decide_eq_true_eq];omega
 ·unfold vS;exact aZ (aa rfl)
 ·have:wo d=false:=by simp only[wo,c_,decide_eq_false_iff_not,E_,decide_eq_true_eq];exact⟨⟨⟨by omega,by omega⟩,by omega⟩,λr h=>by have:=hr r h;omega⟩
  rw[this]
 ·have:wo d=true:=by simp only[wo,e_,decide_eq_true_eq,T_];right;exact d_ λhn=>hr λr h=>by apply d_;intro b;exact hn ⟨r,h,by omega⟩
  rw[this]
theorem same_iff{α:Type}{a b:List α}(hl:a.length=b.length):(∀i,i<a.length->a[i]? =b[i]?)↔a=b:=by
 constructor
 ·intro h;refine List.ext_getElem? λi=>?_;by_cases c:i<a.length;·exact h i c
  ·rw[q_ (by omega),q_ (by omega)]
 ·rintro rfl _ _;rfl
theorem NV(a b:List Int)(hl:a.length<=9223372036854775807):aE tbl vu [.d (.list tI) a,.d (.list tI) b] [] lF (decide (a=b),()):=by
 refine ap rfl (aB zcq rfl (λO n=>zcN O n a b) ?_);unfold N3;refine ar (λh=>aa ?_) λh=>?_
 ·have:a≠b:=λe=>by subst e;simp at h
  simp[this]
 have d:a.length=b.length:=by simp only[bne_eq_false_iff_eq]at h;omega
 refine ae (uh (N:=a.length) (good:=λi=>a[i]? =b[i]?) (e:=(false,())) (g:=()) (λi c=>?_) ?_ (λhs=>aa ?_) (λf=>aa ?_));·unfold Be;refine bo c (aG c (aG (by omega) (cj ?_ (by rw[aD c (by omega)]))));rw[b_ c,b_ (by omega)];simp
 ·unfold Be;exact aZ (aa rfl)
 ·simp[(same_iff d).1 hs]
 ·have:a≠b:=λe=>by obtain⟨i,c,hn⟩:=f;subst e;exact hn rfl
  simp[this]
theorem Sp(a b:DF)(d:zgR a)(hn:a.2.1.length=b.2.1.length)(r:a.2.2.1.length=b.2.2.1.length)(l:a.1=b.1)(p:a.2.2.2.1=b.2.2.2.1):Wp (λn=>g_ (aR n (uk (zr tbl n) n a b) ((0:Int),())) fun(v:(Bool×Unit)⊕Unit)=>Z_ (λw=>aC eH (w.1,())) (λs=>g_ (aR n (um (zr tbl n) n a b) ((0:Int),())) fun(j:(Bool×Unit)⊕Unit)=>Z_ (λk=>aC eH (k.1,())) (λu=>aC eH (true,())) j) v) λo=>o=some (ej eH (decide (a=b),())):=by
 refine ae (uh (N:=a.2.1.length) (good:=λi=>a.2.1[i]? =b.2.1[i]?) (e:=(false,())) (g:=()) (λi c=>?_) ?_ (λhs=>?_) (λf=>aa ?_));·unfold uk;refine bo c (aG c (aG (by omega) (ak (NV _ _ (d.2.2.1 _ (a_ c))) (cj ?_ (by rw[aD c d.2.1])))));rw[b_ c,b_ (by omega)];simp
 ·unfold uk;exact aZ (aa rfl)
 ·have hs:=(same_iff hn).1 hs;refine ae (uh (N:=a.2.2.1.length) (good:=λi=>a.2.2.1[i]? =b.2.2.1[i]?) (e:=(false,())) (g:=()) (λi c=>?_) ?_ (λh=>aa ?_) (λf=>aa ?_));·unfold um;refine bo c (aG c (aG (by omega) (cj ?_ (by rw[aD c d.2.2.2]))));rw[b_ c,b_ (by omega)];simp
  ·unfold um;exact aZ (aa rfl)
  ·have h:=(same_iff r).1 h;have:a=b:=D_ l (D_ hs (D_ h (D_ p rfl)));rw[decide_eq_true this]
  ·have:a≠b:=λe=>by obtain⟨i,c,hn⟩:=f;subst e;exact hn rfl
   rw[decide_eq_false this]
 ·have:a≠b:=λe=>by obtain⟨i,c,hn⟩:=f;subst e;exact hn rfl
  rw[decide_eq_false this]
theorem IP(a b:List Int)(hl:a.length<=9223372036854775807):aE tbl pQ [.d (.list tI) a,.d (.list tI) b] [] ik (decide (a=b),()):=by
 refine ap rfl (aB Vb rfl (λO n=>VD O n a b) ?_);unfold I4;refine ar (λh=>aa ?_) λh=>?_
 ·have:a≠b:=λe=>by subst e;simp at h
  simp[this]
 have d:a.length=b.length:=by simp only[bne_eq_false_iff_eq]at h;omega
 refine ae (uh (N:=a.length) (good:=λi=>a[i]? =b[i]?) (e:=(false,())) (g:=()) (λi c=>?_) ?_ (λhs=>aa ?_) (λf=>aa ?_));·unfold wa;refine bo c (aG c (aG (by omega) (cj ?_ (by rw[aD c (by omega)]))));rw[b_ c,b_ (by omega)];simp
 ·unfold wa;exact aZ (aa rfl)
 ·simp[(same_iff d).1 hs]
 ·have:a≠b:=λe=>by obtain⟨i,c,hn⟩:=f;subst e;exact hn rfl
  simp[this]
theorem Ny(a b:DF)(d:zgR a)(hn:a.2.1.length=b.2.1.length)(r:a.2.2.1.length=b.2.2.1.length)(l:a.1=b.1)(p:a.2.2.2.1=b.2.2.2.1):Wp (λn=>g_ (aR n (qp (zr tbl n) n a b) ((0:Int),())) fun(v:(Bool×Unit)⊕Unit)=>Z_ (λw=>aC c9 (w.1,())) (λs=>g_ (aR n (qq (zr tbl n) n a b) ((0:Int),())) fun(j:(Bool×Unit)⊕Unit)=>Z_ (λk=>aC c9 (k.1,())) (λu=>aC c9 (true,())) j) v) λo=>o=some (ej c9 (decide (a=b),())):=by
 refine ae (uh (N:=a.2.1.length) (good:=λi=>a.2.1[i]? =b.2.1[i]?) (e:=(false,())) (g:=()) (λi c=>?_) ?_ (λhs=>?_) (λf=>aa ?_));·unfold qp;refine bo c (aG c (aG (by omega) (ak (IP _ _ (d.2.2.1 _ (a_ c))) (cj ?_ (by rw[aD c d.2.1])))));rw[b_ c,b_ (by omega)];simp
 ·unfold qp;exact aZ (aa rfl)
 ·have hs:=(same_iff hn).1 hs;refine ae (uh (N:=a.2.2.1.length) (good:=λi=>a.2.2.1[i]? =b.2.2.1[i]?) (e:=(false,())) (g:=()) (λi c=>?_) ?_ (λh=>aa ?_) (λf=>aa ?_));·unfold qq;refine bo c (aG c (aG (by omega) (cj ?_ (by rw[aD c d.2.2.2]))));rw[b_ c,b_ (by omega)];simp
  ·unfold qq;exact aZ (aa rfl)
  ·have h:=(same_iff r).1 h;have:a=b:=D_ l (D_ hs (D_ h (D_ p rfl)));rw[decide_eq_true this]
  ·have:a≠b:=λe=>by obtain⟨i,c,hn⟩:=f;subst e;exact hn rfl
   rw[decide_eq_false this]
 ·have:a≠b:=λe=>by obtain⟨i,c,hn⟩:=f;subst e;exact hn rfl
  rw[decide_eq_false this]
theorem Y8(a b:DF)(c:zgR a):aE tbl Aa [.d (pr [.list tI,.list (.list tI),.list tB,tI]) a,.d (pr [.list tI,.list (.list tI),.list tB,tI]) b] [] eH (decide (a=b),()):=by
 refine ap rfl (aB zcn rfl (λO n=>zcK O n a b) ?_);unfold N0;refine ae (ba (λ_=>ak (NV _ _ c.1) (aa rfl)) (ae (ba (λ_=>aa rfl) (ae (ba (λ_=>aa rfl) ?_)))));refine ar (λh=>aa ?_) λh=>?_
 ·simp only[e_,bne_iff_ne,w_,decide_eq_false_iff_not]at h;have:a≠b:=λe=>by subst e;simp at h
  rw[decide_eq_false this]
 ·simp only[c_,bne_eq_false_iff_eq,o_,decide_eq_true_eq]at h;exact Sp a b c (by omega) (by omega) h.1.1.2 h.1.1.1
theorem Te(a b:DF)(c:zgR a):aE tbl uu [.d (pr [.list tI,.list (.list tI),.list tB,tI]) a,.d (pr [.list tI,.list (.list tI),.list tB,tI]) b] [] c9 (decide (a=b),()):=by
 refine ap rfl (aB U8 rfl (λO n=>VA O n a b) ?_);unfold I1;refine ak (IP _ _ c.1) ?_;refine ae (ba (λ_=>aa rfl) (ae (ba (λ_=>aa rfl) (ae (ba (λ_=>aa rfl) ?_)))));refine ar (λh=>aa ?_) λh=>?_
 ·simp only[e_,bne_iff_ne,w_,decide_eq_false_iff_not]at h;have:a≠b:=λe=>by subst e;simp at h
  rw[decide_eq_false this]
 ·simp only[c_,bne_eq_false_iff_eq,o_,decide_eq_true_eq]at h;exact Ny a b c (by omega) (by omega) h.1.1.1 h.2
def qo(xs:List Int)(v:Int)(c:Nat):Prop:=∃h:c<xs.length,xs[c]<=v/\∀j (_:j<xs.length),c<j->v<xs[j]
theorem Xr{xs:List Int}{v:Int}{c a:Nat}(h:qo xs v c)(h':qo xs v a):c=a:=by
 obtain⟨e,k,f⟩:=h;obtain⟨b,j,d⟩:=h';rcases Nat.lt_trichotomy c a with hl|g|hl;·have:=f a b hl;omega
 ·exact g
 ·have:=d c e hl;omega
open Classical in
noncomputable def Bp(xs:List Int)(v:Int):Nat:=if h:∃c,qo xs v c then R_ h else 0
theorem QZ{xs:List Int}{v:Int}{c:Nat}(h:qo xs v c):Bp xs v=c:=by have a:∃c,qo xs v c:=⟨c,h⟩;unfold Bp;rw[dif_pos a];exact Xr (ac_ a) h
theorem WO{xs:List Int}(hs:nO xs):∀(j i:Nat) (h:j<xs.length) (a:i<j),xs[i]<xs[j]
 |0,i,h,a=>absurd a (by omega)
 |j+1,i,h,a=>by
  have b:=hs.2.2.1 j h;rcases F_.1 a with hl|rfl;·have:=WO hs j i (by omega) hl;omega
  ·exact b
theorem NU(xs:List Int)(v:Int)(hs:nO xs)(hl:xs.length<=4611686018427387903)(A:0<=v):∃c,qo xs v c/\aE tbl rb [.d (.list tI) xs,.d tI v] [] lE ((c:Int),()):=by
 suffices h:Conv tbl rb [.d (.list tI) xs,.d tI v] [] λo=>∃c:Nat,o=some (ej lE ((c:Int),()))/\qo xs v c by obtain⟨c,⟨k,d,hc⟩,u⟩:=B1 (sh:=lE) (R:=λc=>∃k:Nat,c=((k:Int),())/\qo xs v k) (λ_=>rfl) (MV h λo ⟨k,z,d⟩=>⟨((k:Int),()),z,k,rfl,d⟩);subst d;exact⟨k,hc,u⟩
 refine aB zcp rfl (λO n=>zcM O n xs v) ?_;unfold N2;refine ae (Go.Ev.wp_loop (σ:=Int×Int×Unit) (λs=>∃lo a:Nat,s=((lo:Int),(a:Int),())/\lo<a/\a<=xs.length/\(∀h:lo<xs.length,xs[lo]<=v)/\∀h:a<xs.length,v<xs[a]) (λs=>(s.2.1 - s.1).toNat) ⟨0,xs.length,rfl,hs.1,v_ _,λh=>by rw[hs.2.1 h];exact A,λh=>absurd h (by omega)⟩ ?_);rintro s ⟨lo,a,rfl,B,p,f,g⟩;unfold Jh;have l:h_ .i64 ((a:Int) - (lo:Int))=(a:Int) - lo:=wrap_i64 (by omega) (by omega);refine ar (λb=>?_) λb=>?_
 ·rw[l]at b;have b:(a:Int) - lo>1:=by simpa using b
  refine aI rfl ?_;have y:h_ .i64 (Int.tdiv (h_ .i64 ((lo:Int)+(a:Int))) (2:Int))=(((lo+a)/2:Nat):Int):=by rw[wrap_i64 (n:=(lo:Int)+a) (by omega) (by omega),show(lo:Int)+a=((lo+a:Nat):Int) by omega,show Int.tdiv ((lo+a:Nat):Int) 2=(((lo+a)/2:Nat):Int)from rfl];exact wrap_i64 (by omega) (by omega)
  simp only[y];have e:(lo+a)/2<xs.length:=by omega
  refine aG e (ar (λhc=>aa ?_) λhc=>aa ?_)
  ·have hc:xs[(lo+a)/2]<=v:=by simpa using hc
   refine⟨⟨(lo+a)/2,a,rfl,by omega,p,λ_=>hc,g⟩,?_⟩;show((a:Int) - (((lo+a)/2:Nat):Int)).toNat<((a:Int) - lo).toNat;omega
  ·have hc:v<xs[(lo+a)/2]:=by simpa using hc
   refine⟨⟨lo,(lo+a)/2,rfl,by omega,by omega,f,λ_=>hc⟩,?_⟩;show((((lo+a)/2:Nat):Int) - lo).toNat<((a:Int) - lo).toNat;omega
 ·rw[l]at b;have b:¬(a:Int) - lo>1:=by simpa using b
  refine aa (aa ⟨lo,rfl,by omega,f (by omega),λj w x=>?_⟩);have r:=g (by omega);rcases Nat.lt_or_eq_of_le (show a<=j by omega)with hl|rfl;·have:=WO hs j a w hl;omega
  ·exact r
theorem Tg(xs:List Int)(v:Int)(hs:nO xs)(hl:xs.length<=4611686018427387903)(x:0<=v):∃c,qo xs v c/\aE tbl mG [.d (.list tI) xs,.d tI v] [] ii ((c:Int),()):=by
 suffices h:Conv tbl mG [.d (.list tI) xs,.d tI v] [] λo=>∃c:Nat,o=some (ej ii ((c:Int),()))/\qo xs v c by obtain⟨c,⟨k,p,hc⟩,u⟩:=B1 (sh:=ii) (R:=λc=>∃k:Nat,c=((k:Int),())/\qo xs v k) (λ_=>rfl) (MV h λo ⟨k,w,p⟩=>⟨((k:Int),()),w,k,rfl,p⟩);subst p;exact⟨k,hc,u⟩
 refine aB Va rfl (λO n=>VC O n xs v) ?_;unfold I3;refine ae (cp (N:=xs.length) (I:=λi s=>∃c:Nat,s=((c:Int),(i:Int),())/\(∀h:c<xs.length,xs[c]<=v)/\c<xs.length/\∀j (_:j<xs.length),c<j->j<i->v<xs[j]) ⟨0,rfl,λh=>by rw[hs.2.1 h];exact x,hs.1,λj _ _ h=>absurd h (by omega)⟩ ?_ ?_)
 ·rintro i s a ⟨c,rfl,f,b,g⟩;unfold vZ;refine bo a (ae (aG a (ar (λhc=>aa (aa ?_)) λhc=>aa (aa ?_))))
  ·have hc:xs[i]<=v:=by simpa using hc
   refine⟨i,by rw[aD a (by omega)],λ_=>hc,a,λj _ d l=>absurd l (by omega)⟩
  ·have hc:v<xs[i]:=by simpa using hc
   refine⟨c,by rw[aD a (by omega)],f,b,λj e d l=>?_⟩;rcases F_.1 l with r|rfl;·exact g j e d r
   ·exact hc
 ·rintro s ⟨c,rfl,f,b,g⟩;unfold vZ;exact aZ (aa (aa ⟨c,rfl,b,f b,λj e d=>g j e d e⟩))
theorem W9(xs:List Int)(v:Int)(hs:nO xs)(hl:xs.length<=4611686018427387903)(a:0<=v):aE tbl rb [.d (.list tI) xs,.d tI v] [] lE ((Bp xs v:Int),()):=by obtain⟨c,hc,h⟩:=NU xs v hs hl a;rw[QZ hc];exact h
theorem Qv(xs:List Int)(v:Int)(hs:nO xs)(hl:xs.length<=4611686018427387903)(a:0<=v):aE tbl mG [.d (.list tI) xs,.d tI v] [] ii ((Bp xs v:Int),()):=by obtain⟨c,hc,h⟩:=Tg xs v hs hl a;rw[QZ hc];exact h
theorem zhd{xs:List Int}{v:Int}(hs:nO xs)(hl:xs.length<=4611686018427387903)(a:0<=v):qo xs v (Bp xs v):=by obtain⟨c,hc,_⟩:=NU xs v hs hl a;rw[QZ hc];exact hc
structure Good(d:DF):Prop where
 starts:nO d.1
 small:¬Big d
 len:0<d.2.1.length/\d.2.2.1.length=d.2.1.length
 rows:∀r∈d.2.1,r.length=d.1.length
 start:0<=d.2.2.2.1/\d.2.2.2.1<(d.2.1.length:Int)
 to:∀r∈d.2.1,∀t∈r,0<=t/\t<(d.2.1.length:Int)
theorem good_iff{d:DF}:cI d=0↔Good d:=by
 constructor
 ·intro h;unfold cI at h;by_cases c:Big d;·rw[if_pos c]at h;cases h
  rw[if_neg c]at h;by_cases e:nO d.1;case neg=>rw[if_pos e]at h;cases h
  rw[if_neg (not_not_intro e)]at h;by_cases a:d.2.1.length=0\/d.2.2.1.length≠d.2.1.length;·rw[if_pos a]at h;cases h
  rw[if_neg a]at h;by_cases f:∀r∈d.2.1,r.length=d.1.length;case neg=>rw[if_pos f]at h;cases h
  rw[if_neg (not_not_intro f)]at h;by_cases b:d.2.2.2.1<0\/d.2.2.2.1>=(d.2.1.length:Int);·rw[if_pos b]at h;cases h
  rw[if_neg b]at h;by_cases g:∀r∈d.2.1,∀t∈r,0<=t/\t<(d.2.1.length:Int);case neg=>rw[if_pos g]at h;cases h
  exact⟨e,c,by omega,f,by omega,g⟩
 ·intro h;have a:¬(d.2.1.length=0\/d.2.2.1.length≠d.2.1.length):=by have:=h.len;omega
  have b:¬(d.2.2.2.1<0\/d.2.2.2.1>=(d.2.1.length:Int)):=by have:=h.start;omega
  unfold cI;rw[if_neg h.small,if_neg (not_not_intro h.starts),if_neg a,if_neg (not_not_intro h.rows),if_neg b,if_neg (not_not_intro h.to)]
noncomputable def WP(d:DF)(s:Int)(v:Int):Int:=(d.2.1.getD s.toNat []).getD (Bp d.1 v) 0
noncomputable def y8(d:DF)(s:Int)(v:Int):Int⊕Bool:=bif decide (v<0)||decide (v>4294967295)then .inr false else .inl (WP d s v)
open Classical in
noncomputable def pB(d:DF)(a:List Int):Bool:=if Good d then(match AI (y8 d) d.2.2.2.1 a with| .inl s=>d.2.2.1.getD s.toNat false| .inr b=>b)else false
theorem LD{d:DF}(h:Good d):d.2.1.length<=4096/\d.1.length<=2000/\d.2.2.1.length<=4096:=by have:=h.small;unfold Big at this;omega
theorem Mb{d:DF}(h:Good d){s v:Int}(f:0<=s)(hs:s<(d.2.1.length:Int))(c:0<=v):∃a:s.toNat<d.2.1.length,∃b:Bp d.1 v<d.2.1[s.toNat].length,d.2.1[s.toNat][Bp d.1 v]=WP d s v/\0<=WP d s v/\WP d s v<(d.2.1.length:Int):=by
 have a:s.toNat<d.2.1.length:=by omega
 have hl:=LD h;obtain⟨hc,_⟩:=zhd h.starts (by omega) c;have b:Bp d.1 v<d.2.1[s.toNat].length:=by rw[h.rows _ (a_ a)];exact hc
 have e:d.2.1[s.toNat][Bp d.1 v]=WP d s v:=by unfold WP;simp only[s_,b_ a,G_,b_ b]
 refine⟨a,b,e,?_⟩;rw[<-e];exact h.to _ (a_ a) _ (a_ b)
theorem Y9(d:DF)(a:List Int)(hp:a.length<=9223372036854775807):aE tbl Ab [.d (pr [.list tI,.list (.list tI),.list tB,tI]) d,.d (.list tI) a] [] nW (pB d a,()):=by
 refine ap rfl (aB zco rfl (λO n=>zcL O n d a) ?_);unfold N1;refine ak (Fw d) (ar (λh=>aa ?_) λh=>?_)
 ·have:¬Good d:=λhg=>by rw[good_iff.2 hg]at h;simp at h
  rw[show pB d a=false from by unfold pB;rw[if_neg this]]
 have hg:Good d:=good_iff.1 (by simpa using h);have hl:=LD hg;refine ae (zcF (xs:=a) (f:=y8 d) (s0:=d.2.2.2.1) (Inv:=λs=>0<=s/\s<(d.2.1.length:Int)) (enc:=λi s=>(s,(i:Int),())) (oE:=λs=>.inr (s,())) (oB:=λb=>.inl (b,())) hg.start (λi u s hs=>?_) (λs hs=>?_) ?_)
 ·unfold Bd;refine bo u (aG u (ae (ba (λ_=>aa rfl) (ar (λc=>aa ?_) λc=>?_))));·unfold y8;rw[c];rfl
  ·have v:0<=a[i]:=by simp only[c_,decide_eq_false_iff_not]at c;omega
   obtain⟨y,z,k,p⟩:=Mb hg hs.1 hs.2 v;refine Qk hs.1 y (ak (W9 d.1 a[i] hg.starts (by omega) v) (aG z (aa ?_)));unfold y8;rw[c];exact⟨p,by rw[k,aD u hp]⟩
 ·unfold Bd;exact aZ (aa rfl)
 ·have A:∀r,AI (y8 d) d.2.2.2.1 a=r->(∀s,r= .inl s->0<=s/\s<(d.2.1.length:Int)):=by
   have:∀(l:List Int) (s0:Int),0<=s0/\s0<(d.2.1.length:Int)->∀s,AI (y8 d) s0 l= .inl s->0<=s/\s<(d.2.1.length:Int):=by
    intro l;induction l with
    |nil=>intro s0 j s e;cases e;exact j|cons x l B=>
     intro s0 j s e;simp only[AI]at e;split at e
     ·rename_i s' g;refine B s' ?_ s e;unfold y8 at g;cases c:decide (x<0)||decide (x>4294967295);·rw[c]at g;cases g;simp only[c_,decide_eq_false_iff_not]at c;obtain⟨_,_,_,p⟩:=Mb hg j.1 j.2 (show 0<=x by omega);exact p
      ·rw[c]at g;cases g
     ·cases e
   exact λr e s h=>this a _ hg.start s (e.trans h)
  cases hr:AI (y8 d) d.2.2.2.1 a with
  |inl s=>
   obtain⟨w,C⟩:=A _ rfl s hr;have k:s.toNat<d.2.2.1.length:=by have:=hg.len;omega
   refine Qk w k (aa ?_);rw[show pB d a=d.2.2.1[s.toNat]from by unfold pB;rw[if_pos hg,hr];simp only[s_,b_ k,G_]]
  |inr b=>refine aa ?_;rw[show pB d a=b from by unfold pB;rw[if_pos hg,hr]]
theorem Tf(d:DF)(a:List Int)(hp:a.length<=9223372036854775807):aE tbl uv [.d (pr [.list tI,.list (.list tI),.list tB,tI]) d,.d (.list tI) a] [] j4 (pB d a,()):=by
 refine ap rfl (aB U9 rfl (λO n=>VB O n d a) ?_);unfold I2;refine ak (zms d) (ar (λh=>aa ?_) λh=>?_)
 ·have:¬Good d:=λhg=>by rw[good_iff.2 hg]at h;simp at h
  rw[show pB d a=false from by unfold pB;rw[if_neg this]]
 have hg:Good d:=good_iff.1 (by simpa using h);have hl:=LD hg;refine ae (zcF (xs:=a) (f:=y8 d) (s0:=d.2.2.2.1) (Inv:=λs=>0<=s/\s<(d.2.1.length:Int)) (enc:=λi s=>(s,(i:Int),())) (oE:=λs=>.inr (s,())) (oB:=λb=>.inl (b,())) hg.start (λi u s hs=>?_) (λs hs=>?_) ?_)
 ·unfold vY;refine bo u (aG u (ae (ba (λ_=>aa rfl) (ar (λc=>aa ?_) λc=>?_))));·unfold y8;rw[c];rfl
  ·have v:0<=a[i]:=by simp only[c_,decide_eq_false_iff_not]at c;omega
   obtain⟨y,z,k,p⟩:=Mb hg hs.1 hs.2 v;refine Qk hs.1 y (ak (Qv d.1 a[i] hg.starts (by omega) v) (aG z (aa ?_)));unfold y8;rw[c];exact⟨p,by rw[k,aD u hp]⟩
 ·unfold vY;exact aZ (aa rfl)
 ·have A:∀r,AI (y8 d) d.2.2.2.1 a=r->(∀s,r= .inl s->0<=s/\s<(d.2.1.length:Int)):=by
   have:∀(l:List Int) (s0:Int),0<=s0/\s0<(d.2.1.length:Int)->∀s,AI (y8 d) s0 l= .inl s->0<=s/\s<(d.2.1.length:Int):=by
    intro l;induction l with
    |nil=>intro s0 j s e;cases e;exact j|cons x l B=>
     intro s0 j s e;simp only[AI]at e;split at e
     ·rename_i s' g;refine B s' ?_ s e;unfold y8 at g;cases c:decide (x<0)||decide (x>4294967295);·rw[c]at g;cases g;simp only[c_,decide_eq_false_iff_not]at c;obtain⟨_,_,_,p⟩:=Mb hg j.1 j.2 (show 0<=x by omega);exact p
      ·rw[c]at g;cases g
     ·cases e
   exact λr e s h=>this a _ hg.start s (e.trans h)
  cases hr:AI (y8 d) d.2.2.2.1 a with
  |inl s=>
   obtain⟨w,C⟩:=A _ rfl s hr;have k:s.toNat<d.2.2.1.length:=by have:=hg.len;omega
   refine Qk w k (aa ?_);rw[show pB d a=d.2.2.1[s.toNat]from by unfold pB;rw[if_pos hg,hr];simp only[s_,b_ k,G_]]
  |inr b=>refine aa ?_;rw[show pB d a=b from by unfold pB;rw[if_pos hg,hr]]
open Go Go.Av Go.Ev Go.Pl
theorem tE(a b:List VU)(hl:a.length<=9223372036854775807):aE tbl da [.d (.list yR) a,.d (.list yR) b] [] bF (decide (a=b),()):=by
 refine ap rfl (aB ue rfl (λO n=>ui O n a b) ?_);unfold kK;refine ar (λh=>aa ?_) λh=>?_;·rw[decide_eq_false];rintro rfl;simp at h
 refine ae (wt (a:=a) (b:=b) (by simp at h;omega) (λi c d=>?_) ?_ (λe=>aa (by rw[decide_eq_true e])) λe=>aa (by rw[decide_eq_false e]));·unfold dZ;exact bo c (aG c (aG d (cj (by rw[show iX yR a[i] b[i]=_ from zkn _ _];simp) (by rw[aD c hl]))))
 ·unfold dZ;exact aZ (aa rfl)
theorem rC(a b:List CRU)(hl:a.length<=9223372036854775807):aE tbl cJ [.d (.list yC) a,.d (.list yC) b] [] bw (decide (a=b),()):=by
 refine ap rfl (aB rF rfl (λO n=>rG O n a b) ?_);unfold iP;refine ar (λh=>aa ?_) λh=>?_;·rw[decide_eq_false];rintro rfl;simp at h
 refine ae (wt (a:=a) (b:=b) (by simp at h;omega) (λi c d=>?_) ?_ (λe=>aa (by rw[decide_eq_true e])) λe=>aa (by rw[decide_eq_false e]));·unfold dz;exact bo c (aG c (aG d (cj (by rw[show iX yC a[i] b[i]=_ from zkm _ _];simp) (by rw[aD c hl]))))
 ·unfold dz;exact aZ (aa rfl)
theorem xO(a b:List EU)(hl:a.length<=9223372036854775807):aE tbl d6 [.d (.list yA) a,.d (.list yA) b] [] bU (decide (a=b),()):=by
 refine ap rfl (aB za rfl (λO n=>zj O n a b) ?_);unfold nC;refine ar (λh=>aa ?_) λh=>?_;·rw[decide_eq_false];rintro rfl;simp at h
 refine ae (wt (a:=a) (b:=b) (by simp at h;omega) (λi c d=>?_) ?_ (λe=>aa (by rw[decide_eq_true e])) λe=>aa (by rw[decide_eq_false e]));·unfold fX;exact bo c (aG c (aG d (cj (by rw[show iX yA a[i] b[i]=_ from zkl _ _];simp) (by rw[aD c hl]))))
 ·unfold fX;exact aZ (aa rfl)
theorem xP(a b:List te)(hl:a.length<=9223372036854775807):aE tbl d7 [.d (.list MG) a,.d (.list MG) b] [] bV (decide (a=b),()):=by
 refine ap rfl (aB zc rfl (λO n=>zo O n a b) ?_);unfold nD;refine ar (λh=>aa ?_) λh=>?_;·rw[decide_eq_false];rintro rfl;simp at h
 refine ae (wt (a:=a) (b:=b) (by simp at h;omega) (λi c d=>?_) ?_ (λe=>aa (by rw[decide_eq_true e])) λe=>aa (by rw[decide_eq_false e]));·unfold fY;exact bo c (aG c (aG d (cj (by rw[show iX MG a[i] b[i]=_ from za9 _ _];simp) (by rw[aD c hl]))))
 ·unfold fY;exact aZ (aa rfl)
theorem FB(a b:List VU)(hl:a.length<=9223372036854775807):aE tbl jp [.d (.list yR) a,.d (.list yR) b] [] cX (decide (a=b),()):=by
 refine ap rfl (aB G6 rfl (λO n=>Hn O n a b) ?_);unfold vq;refine ar (λh=>aa ?_) λh=>?_;·rw[decide_eq_false];rintro rfl;simp at h
 refine ae (wt (a:=a) (b:=b) (by simp at h;omega) (λi c d=>?_) ?_ (λe=>aa (by rw[decide_eq_true e])) λe=>aa (by rw[decide_eq_false e]));·unfold lU;exact bo c (aG c (aG d (cj (by rw[show iX yR a[i] b[i]=_ from zkn _ _];simp) (by rw[aD c hl]))))
 ·unfold lU;exact aZ (aa rfl)
theorem BK(a b:List CRU)(hl:a.length<=9223372036854775807):aE tbl fH [.d (.list yC) a,.d (.list yC) b] [] cu (decide (a=b),()):=by
 refine ap rfl (aB Cy rfl (λO n=>CM O n a b) ?_);unfold q7;refine ar (λh=>aa ?_) λh=>?_;·rw[decide_eq_false];rintro rfl;simp at h
 refine ae (wt (a:=a) (b:=b) (by simp at h;omega) (λi c d=>?_) ?_ (λe=>aa (by rw[decide_eq_true e])) λe=>aa (by rw[decide_eq_false e]));·unfold iT;exact bo c (aG c (aG d (cj (by rw[show iX yC a[i] b[i]=_ from zkm _ _];simp) (by rw[aD c hl]))))
 ·unfold iT;exact aZ (aa rfl)
theorem zlT{d:DFT}(h:okD yF d):zgR d:=⟨h.1.1,h.2.1.1,λr hr=>(h.2.1.2 r hr).1,h.2.2.1.1⟩
theorem xS(a b:HV)(c:okD MH a):aE tbl iw [.d MH a,.d MH b] [] dK (decide (a=b),()):=by refine ap rfl (aB Ko rfl (λO n=>Ku O n a b) ?_);unfold xW;refine ae (bi (λ_=>aa rfl) (ae (bi (λ_=>aa rfl) (ae (bi (λ_=>ak (tE a.2.2.2.1 b.2.2.2.1 c.2.2.2.1.1) (aa rfl)) ?_)))));refine ae (bi (λ_=>ak (Y8 a.2.2.2.2.1 b.2.2.2.2.1 (zlT c.2.2.2.2.1)) (aa rfl)) (ae (bi (λ_=>ak (rC a.2.2.2.2.2.1 b.2.2.2.2.2.1 c.2.2.2.2.2.1.1) (aa rfl)) (aa ?_))));rw[show iX (pr [tW,tI]) a.2.2.1 b.2.2.1=_ from zhj _ _];refine congrArg (λx:Bool=>some (ej dK (x,()))) (z_.2 ?_);obtain⟨d,e,f,g,h,j,⟨⟩⟩:=a;obtain⟨k,l,p,r,s,u,⟨⟩⟩:=b;simp[and_assoc]
theorem MK(a b:HV)(j:okD MH a):aE tbl oI [.d MH a,.d MH b] [] iq (decide (a=b),()):=by
 refine ap rfl (aB NG rfl (λO n=>NS O n a b) ?_);unfold BQ;refine ae (bi (λ_=>aa rfl) (ae (bi (λ_=>aa rfl) (ae (bi (λ_=>ak (FB a.2.2.2.1 b.2.2.2.1 j.2.2.2.1.1) (aa rfl)) ?_)))));refine ae (bi (λ_=>ak (BK a.2.2.2.2.2.1 b.2.2.2.2.2.1 j.2.2.2.2.2.1.1) (aa rfl)) (ae (bi (λ_=>ak (Te a.2.2.2.2.1 b.2.2.2.2.1 (zlT j.2.2.2.2.1)) (aa rfl)) (aa ?_))));rw[show iX (pr [tW,tI]) a.2.2.1 b.2.2.1=_ from zhj _ _];refine congrArg (λx:Bool=>some (ej iq (x,()))) (z_.2 ?_);obtain⟨k,l,p,r,s,u,⟨⟩⟩:=a;obtain⟨v,w,y,z,A,B,⟨⟩⟩:=b;simp only[Bool.false_xor,i_,beq_iff_eq,decide_eq_true_eq,Q_.injEq,and_true];constructor;·rintro⟨⟨⟨⟨⟨c,d⟩,e⟩,f⟩,g⟩,h⟩;exact⟨c,d,e,f,h,g⟩
 ·rintro⟨c,d,e,f,h,g⟩;exact⟨⟨⟨⟨⟨c,d⟩,e⟩,f⟩,g⟩,h⟩
theorem xR(a b:CP)(c:okD Kx a):aE tbl iv [.d Kx a,.d Kx b] [] dJ (decide (a=b),()):=by refine ap rfl (aB Kn rfl (λO n=>Kt O n a b) ?_);unfold xV;refine ae (bi (λ_=>ak (xO a.2.1 b.2.1 c.2.1.1) (aa rfl)) (aa ?_));refine congrArg (λx:Bool=>some (ej dJ (x,()))) (z_.2 ?_);obtain⟨d,e,⟨⟩⟩:=a;obtain⟨f,g,⟨⟩⟩:=b;simp
theorem BL(a b:CP)(j:okD Kx a):aE tbl kR [.d Kx a,.d Kx b] [] dQ (decide (a=b),()):=by
 refine ap rfl (aB NF rfl (λO n=>NR O n a b) ?_);unfold BP;obtain⟨l,d,⟨⟩⟩:=a;obtain⟨p,f,⟨⟩⟩:=b;refine ae (ba (λ_=>aa rfl) (ar (λh=>aa ?_) λh=>?_));·rw[decide_eq_false];intro e;cases e;simp at h
 simp only[Bool.true_xor,c_,o_,beq_iff_eq,bne_eq_false_iff_eq]at h;obtain⟨rfl,g⟩:=h;refine ae (wt (a:=d) (b:=f) (by omega) (λi c k=>?_) ?_ (λe=>aa (by rw[e,decide_eq_true rfl])) λe=>aa (by rw[decide_eq_false];intro h;cases h;exact e rfl));·unfold qR;exact bo c (aG c (aG k (cj (by rw[show iX yA d[i] f[i]=_ from zkl _ _];simp) (by rw[aD c j.2.1.1]))))
 ·unfold qR;exact aZ (aa rfl)
theorem Fv(a b:eM)(u:okD wu a):aE tbl iu [.d wu a,.d wu b] [] cT (decide (a=b),()):=by
 refine ap rfl (aB SA rfl (λO n=>SZ O n a b) ?_);unfold FE;obtain⟨f,r,g,w,⟨⟩⟩:=a;obtain⟨j,s,k,x,⟨⟩⟩:=b;obtain⟨l,v,p,_⟩:=u;refine ae (ba (λ_=>aa rfl) (ae (ba (λ_=>ak (xP r s v.1) (aa rfl)) (ae (ba (λ_=>aa rfl) (ar (λh=>aa ?_) λh=>?_))))));·rw[decide_eq_false];intro e;cases e;simp at h
 simp only[c_,bne_eq_false_iff_eq,o_,decide_eq_true_eq]at h;obtain⟨⟨⟨rfl,y⟩,rfl⟩,z⟩:=h;refine ae (wt (a:=f) (b:=j) (by omega) (λi c d=>?_) ?_ (λe=>?_) λe=>aa (by rw[decide_eq_false];intro h;cases h;exact e rfl));·unfold tG;exact bo c (aG c (aG d (ak (xS f[i] j[i] (l.2 _ (a_ c))) (cj (by simp) (by rw[aD c l.1])))))
 ·unfold tG;exact aZ (aa rfl)
 subst e;refine ae (wt (a:=g) (b:=k) (by omega) (λi c d=>?_) ?_ (λe=>aa (by rw[e,decide_eq_true rfl])) λe=>aa (by rw[decide_eq_false];intro h;cases h;exact e rfl));·unfold tH;exact bo c (aG c (aG d (ak (xR g[i] k[i] (p.2 _ (a_ c))) (cj (by simp) (by rw[aD c p.1])))))
 ·unfold tH;exact aZ (aa rfl)
theorem oq(a b:eM)(u:okD wu a):aE tbl jk [.d wu a,.d wu b] [] dm (decide (a=b),()):=by
 refine ap rfl (aB YG rfl (λO n=>YW O n a b) ?_);unfold KN;obtain⟨f,g,j,w,⟨⟩⟩:=a;obtain⟨k,l,p,x,⟨⟩⟩:=b;obtain⟨r,v,s,_⟩:=u;refine ae (ba (λ_=>aa rfl) (ae (ba (λ_=>aa rfl) (ae (ba (λ_=>aa rfl) (ar (λh=>aa ?_) λh=>?_))))));·rw[decide_eq_false];intro e;cases e;simp at h
 simp only[c_,bne_eq_false_iff_eq]at h;obtain⟨⟨⟨rfl,y⟩,z⟩,A⟩:=h;refine ae (wt (a:=f) (b:=k) (by omega) (λi c d=>?_) ?_ (λe=>?_) λe=>aa (by rw[decide_eq_false];intro h;cases h;exact e rfl));·unfold x7;exact bo c (aG c (aG d (ak (MK f[i] k[i] (r.2 _ (a_ c))) (cj (by simp) (by rw[aD c r.1])))))
 ·unfold x7;exact aZ (aa rfl)
 subst e;refine ae (wt (a:=g) (b:=l) (by omega) (λi c d=>?_) ?_ (λe=>?_) λe=>aa (by rw[decide_eq_false];intro h;cases h;exact e rfl));·unfold x8;exact bo c (aG c (aG d (cj (by rw[show iX MG g[i] l[i]=_ from za9 _ _];simp) (by rw[aD c v.1]))))
 ·unfold x8;exact aZ (aa rfl)
 subst e;refine ae (wt (a:=j) (b:=p) (by omega) (λi c d=>?_) ?_ (λe=>aa (by rw[e,decide_eq_true rfl])) λe=>aa (by rw[decide_eq_false];intro h;cases h;exact e rfl));·unfold x9;exact bo c (aG c (aG d (ak (BL j[i] p[i] (s.2 _ (a_ c))) (cj (by simp) (by rw[aD c s.1])))))
 ·unfold x9;exact aZ (aa rfl)
def zdC(a:eM):Bool:=decide ((a.1.length:Int)>40)||decide ((a.2.1.length:Int)>300)||decide ((a.2.2.1.length:Int)>300)||a.1.any λt=>wo t.2.2.2.2.1
theorem mD(a:eM):aE tbl fh [.d wu a] [] c8 (zdC a,()):=by
 refine ap rfl (aB U2 rfl (λO n=>Vu O n a) ?_);unfold IV;refine ae (ba (λ_=>aa rfl) (ae (ba (λ_=>aa rfl) (ar (λh=>aa ?_) λh=>?_))));·unfold zdC;rw[h];rfl
 have hl:a.1.length<=40:=by simp only[c_,decide_eq_false_iff_not]at h;omega
 unfold zdC;rw[h,Bool.false_or];refine ae (oW (xs:=a.1) (P:=λt=>wo t.2.2.2.2.1=false) (e:=(true,())) (g:=()) (λi b=>?_) ?_ (λh=>aa ?_) λh=>aa ?_);·unfold vT;exact bo b (aG b (ak (IL a.1[i].2.2.2.2.1) (cj (by simp) (by rw[aD b (by omega)]))))
 ·unfold vT;exact aZ (aa rfl)
 ·rw[show a.1.any (λt=>wo t.2.2.2.2.1)=false from E_.2 λx c=>by rw[h x c];decide]
 ·rw[show a.1.any (λt=>wo t.2.2.2.2.1)=true from ?_];cases d:a.1.any (λt=>wo t.2.2.2.2.1)with|true=>rfl|false=>exact absurd (λx c=>by simpa using E_.1 d x c) h
abbrev oQ(x:Int):Prop:=0<=x/\x<=4294967295
theorem WX(n m:Int):aE tbl wV [.d tI n,.d tI m] [] sU (min (max n 0) m,()):=ap rfl (aB Yy rfl (λO k=>YO O k n m) (aa rfl))
theorem Z3(n m:Int):aE tbl Ad [.d tI n,.d tI m] [] vM (min (max n 0) m,()):=ap rfl (aB zcs rfl (λO k=>zcP O k n m) (aa rfl))
theorem Sa(k:Nat):(2:Int)^k=((2^k:Nat):Int):=by induction k with|zero=>rfl|succ k a=>rw[Int.pow_succ,a,Nat.pow_succ];rfl
theorem Y6(n:Nat)(hn:n<=32):aE tbl z8 [.d tI (n:Int)] [] vK (((4294967295*2^(32 - n)%4294967296:Nat):Int),()):=by
 refine ap rfl (aB zcl rfl (λO k=>zcI O k (n:Int)) ?_);unfold NY;refine ak (WX (n:Int) 32) ?_;have e:h_ .i64 (32 - min (max (n:Int) 0) 32)=((32 - n:Nat):Int):=by rw[wrap_i64 (by omega) (by omega)];omega
 refine aI (by grind) (aa ?_);simp only[e];rw[show min (C_ ((32 - n:Nat):Int)) (H_ .u32)=32 - n from by show min _ 32=_;simp,wrap_u32,Sa];rfl
theorem NT(x n:Int)(c:oQ x)(b:0<=n)(d:n<=32):aE tbl vr [.d tW x,.d tI n] [] rq (EO x n,()):=by obtain⟨a,rfl⟩:=n_ c.1;obtain⟨k,rfl⟩:=n_ b;refine ap rfl (aB zck rfl (λO m=>zcH O m (a:Int) (k:Int)) ?_);unfold NX;refine ak (Y6 k (by omega)) (aa ?_);rw[zaA (by omega) (Y_ _ (by simp)),zfN (by omega) (by omega)];rfl
theorem zcZ(x i:Nat)(f:x<=4294967295)(d:i<32):aE tbl CY [.d tW (x:Int),.d tI (i:Int)] [] tZ (((x/2^(31 - i)%2:Nat):Int),()):=by
 refine ap rfl (aB zef rfl (λO k=>zek O k (x:Int) (i:Int)) ?_);unfold Qw;refine ae (ba (b:=false) (λ_=>aa (decide_eq_false (by omega))) ?_);rw[decide_eq_false (show ¬(i:Int)<0 by simp)];have e:h_ .u64 (h_ .i64 (31 - (i:Int)))=((31 - i:Nat):Int):=by rw[wrap_i64 (by omega) (by omega),wrap_u64];omega
 refine aA rfl (aI (by grind) (aa ?_));simp only[e];rw[show min (C_ ((31 - i:Nat):Int)) (H_ .u32)=31 - i from by show min _ 32=_;omega,Sa,Int.fdiv_eq_ediv_of_nonneg _ (u_ _)];have a:(x:Int)/((2^(31 - i):Nat):Int)=((x/2^(31 - i):Nat):Int):=rfl;have c:x/2^(31 - i)<=x:=Nat.div_le_self _ _;rw[a,show(1:Int)=((1:Nat):Int)from rfl,zaA (by omega) (by simp),Nat.and_one_is_mod];have:x/2^(31 - i)%2<2:=Y_ _ (by simp);rw[wrap_i64 (by omega) (by omega)]
theorem KB(x n:Int)(h:oQ x)(d:0<=n)(f:n<=32):aE tbl sa [.d tW x,.d tI n] [] oR (EO x n,()):=by
 obtain⟨a,rfl⟩:=n_ h.1;obtain⟨k,rfl⟩:=n_ d;have b:a<4294967296:=by omega
 refine ap rfl (aB Yz rfl (λO m=>YP O m (a:Int) (k:Int)) ?_);unfold KF;refine ak (Z3 (k:Int) 32) ?_;have e:min (max (k:Int) 0) 32=(k:Int):=by omega
 rw[e];refine ae (cp (N:=k) (I:=λi s=>s=(((EN a i:Nat):Int),(i:Int),())) (by rw[zfP b];rfl) (λi s g hs=>?_) λs hs=>?_)
 ·subst hs;unfold xY;refine bo g (ak (zcZ a i (by omega) (by omega)) ?_);have e:h_ .u64 (h_ .i64 (31 - (i:Int)))=((31 - i:Nat):Int):=by rw[wrap_i64 (by omega) (by omega),wrap_u64];omega
  refine aI (by grind) (aa ?_);simp only[e];have j:a/2^(31 - i)%2<2:=Y_ _ (by simp);have hp:(a/2^(31 - i)%2)*2^(31 - i)<4294967296:=by have f:(a/2^(31 - i)%2)*2^(31 - i)<=1*2^31:=Nat.mul_le_mul (by omega) (Nat.pow_le_pow_right (by simp) (by simp));omega
  have c:h_ .u32 (h_ .u32 ((a/2^(31 - i)%2:Nat):Int)*2^(min (C_ ((31 - i:Nat):Int)) (H_ .u32)))=(((a/2^(31 - i)%2)*2^(31 - i):Nat):Int):=by rw[show min (C_ ((31 - i:Nat):Int)) (H_ .u32)=31 - i from by show min _ 32=_;omega,Sa,wrap_u32,wrap_u32];grind
  rw[c,zjp (Nat.lt_of_le_of_lt (zhA a i) b) hp,<-zfO a (by omega),aD (n:=32) (by omega) (by simp)]
 ·subst hs;unfold xY;exact aZ (aa (aa rfl))
theorem nB(p:OL)(hp:oQ p.1):aE tbl fw [.d yP p] [] ey (kb p,()):=by refine ap rfl (aB SG rfl (λO n=>S5 O n p) ?_);unfold FK;refine ae (bi (b:=decide (p.2.1<=32)) (λ_=>aa rfl) ?_);refine ae (bi (b:=(EO p.1 p.2.1==p.1)) (λh=>?_) (aa rfl));simp only[i_,decide_eq_true_eq]at h;exact ak (NT p.1 p.2.1 hp h.1 h.2) (aa rfl)
theorem Z2(a n:Int)(d:oQ a)(b:0<=n)(c:n<=32):aE tbl Ac [.d tW a,.d tI n] [] vL ((EO a n,n,()),()):=by refine ap rfl (aB zcr rfl (λO k=>zcO O k a n) ?_);unfold N4;exact ak (NT a n d b c) (aa rfl)
theorem mE(p:OL)(hp:oQ p.1):aE tbl fj [.d yP p] [] dW (kb p,()):=by refine ap rfl (aB U6 rfl (λO n=>Vy O n p) ?_);unfold IZ;refine ae (bi (b:=decide (p.2.1<=32)) (λ_=>aa rfl) ?_);refine ae (bi (b:=(EO p.1 p.2.1==p.1)) (λh=>?_) (aa rfl));simp only[i_,decide_eq_true_eq]at h;exact ak (KB p.1 p.2.1 hp h.1 h.2) (aa rfl)
theorem WY(a n:Int)(d:oQ a)(b:0<=n)(c:n<=32):aE tbl wX [.d tW a,.d tI n] [] sV ((EO a n,n,()),()):=by refine ap rfl (aB YA rfl (λO k=>YQ O k a n) ?_);unfold KG;exact ak (KB a n d b c) (aa rfl)
def V7(p:OL)(a:Int):Bool:=kb p&&(EO a p.2.1==p.1)
def TN(p q:OL):Bool:=kb q&&(decide (p.2.1<=q.2.1)&&V7 p q.1)
theorem WU{p:OL}(h:kb p=true):0<=p.2.1/\p.2.1<=32:=by unfold kb at h;simp only[i_,decide_eq_true_eq]at h;exact h.1
theorem zK(p:OL)(a:Int)(hp:oQ p.1)(d:oQ a):aE tbl jh [.d yP p,.d tW a] [] fU (V7 p a,()):=by refine ap rfl (aB Mk rfl (λO n=>Mz O n p a) ?_);unfold zW;refine ak (nB p hp) (ae (bi (b:=(EO a p.2.1==p.1)) (λh=>?_) (aa rfl)));have c:=WU h;refine ak (Z2 a p.2.1 d c.1 c.2) (aa ?_);show(false ^^ ((EO a p.2.1==p.1)&&((p.2.1==p.2.1)&&true)))=_;simp
theorem BJ(p:OL)(a:Int)(hp:oQ p.1)(d:oQ a):aE tbl kP [.d yP p,.d tW a] [] ip (V7 p a,()):=by refine ap rfl (aB NE rfl (λO n=>NQ O n p a) ?_);unfold BO;refine ak (mE p hp) (ae (bi (b:=(EO a p.2.1==p.1)) (λh=>?_) (aa rfl)));have c:=WU h;refine ak (WY a p.2.1 d c.1 c.2) (aa ?_);show(false ^^ ((EO a p.2.1==p.1)&&((p.2.1==p.2.1)&&true)))=_;simp
theorem OB(p q:OL)(hp:oQ p.1)(a:oQ q.1):aE tbl qx [.d yP p,.d yP q] [] mC (TN p q,()):=by refine ap rfl (aB Pw rfl (λO n=>PQ O n p q) ?_);unfold Ex;refine ak (nB q a) (ae (bi (b:=decide (p.2.1<=q.2.1)) (λ_=>aa rfl) ?_));refine ae (bi (b:=V7 p q.1) (λ_=>ak (zK p q.1 hp a) (aa rfl)) (aa ?_));unfold TN;grind
theorem Qr(p q:OL)(hp:oQ p.1)(a:oQ q.1):aE tbl sd [.d yP p,.d yP q] [] nY (TN p q,()):=by refine ap rfl (aB SH rfl (λO n=>S6 O n p q) ?_);unfold FL;refine ak (mE q a) (ae (bi (b:=V7 p q.1) (λ_=>ak (BJ p q.1 hp a) (aa rfl)) ?_));refine ae (bi (b:=decide (p.2.1<=q.2.1)) (λ_=>aa rfl) (aa ?_));unfold TN;grind
theorem IN(r:VU)(hr:oQ r.2.1.1):aE tbl pO [.d yR r] [] ig (qc r,()):=by
 refine ap rfl (aB U4 rfl (λO n=>Vw O n r) ?_);unfold IX;refine ak (nB r.2.1 hr) (ar (λh=>aa ?_) λh=>?_);·unfold qc;rw[if_pos (by simpa using h)]
 ·have a:¬kb r.2.1=false:=by simpa using h
  refine ae (ba (b:=decide (r.2.2.2.1<r.2.2.1)) (λ_=>aa rfl) (ae (ba (b:=decide (r.2.2.2.1>32)) (λ_=>aa rfl) ?_)));refine ar (λh=>aa ?_) λh=>aa ?_;·unfold qc;rw[if_neg a,if_pos (by simpa[or_assoc]using h)]
  ·unfold qc;rw[if_neg a,if_neg];intro h';simp only[c_,decide_eq_false_iff_not]at h;omega
theorem IQ(r:VU)(hr:oQ r.2.1.1):aE tbl pR [.d yR r] [] im (qc r,()):=by
 refine ap rfl (aB Vf rfl (λO n=>VG O n r) ?_);unfold I7;refine ak (mE r.2.1 hr) (ar (λh=>aa ?_) λh=>?_);·unfold qc;rw[if_pos (by simpa using h)]
 ·have a:¬kb r.2.1=false:=by simpa using h
  refine ae (ba (b:=decide (r.2.2.2.1<r.2.2.1)) (λ_=>aa rfl) (ae (ba (b:=decide (r.2.2.2.1>32)) (λ_=>aa rfl) ?_)));refine ar (λh=>aa ?_) λh=>aa ?_;·unfold qc;rw[if_neg a,if_pos (by simpa[or_assoc]using h)]
  ·unfold qc;rw[if_neg a,if_neg];intro h';simp only[c_,decide_eq_false_iff_not]at h;omega
def RY(r:VU)(p:OL):Bool:=(qc r==0)&&(TN r.2.1 p&&(decide (r.2.2.1<=p.2.1)&&decide (p.2.1<=r.2.2.2.1)))
def zf7(l:List VU)(p:OL):Bool:=match l.find? (λz=>RY z p)with|some r=>r.1|none=>false
theorem Td(r:VU)(p:OL)(hr:oQ r.2.1.1)(hp:oQ p.1):aE tbl ut [.d yR r,.d yP p] [] qg (RY r p,()):=by refine ap rfl (aB U5 rfl (λO n=>Vx O n r p) ?_);unfold IY;refine ak (IN r hr) (ae (bi (b:=TN r.2.1 p) (λ_=>ak (OB r.2.1 p hr hp) (aa rfl)) ?_));refine ae (bi (b:=decide (r.2.2.1<=p.2.1)) (λ_=>aa rfl) (ae (bi (b:=decide (p.2.1<=r.2.2.2.1)) (λ_=>aa rfl) (aa ?_))));unfold RY;grind
theorem Tk(r:VU)(p:OL)(hr:oQ r.2.1.1)(hp:oQ p.1):aE tbl uy [.d yR r,.d yP p] [] qh (RY r p,()):=by
 refine ap rfl (aB Vg rfl (λO n=>VH O n r p) ?_);unfold I8;refine ak (IQ r hr) (ae (bi (b:=kb p) (λ_=>ak (mE p hp) (aa rfl)) ?_));refine ae (bi (b:=TN r.2.1 p) (λ_=>ak (Qr r.2.1 p hr hp) (aa rfl)) ?_);refine ae (bi (b:=decide (p.2.1>=r.2.2.1)) (λ_=>aa rfl) (ae (bi (b:=decide (p.2.1<=r.2.2.2.1)) (λ_=>aa rfl) (aa ?_))));unfold RY;have:(kb p&&TN r.2.1 p)=TN r.2.1 p:=by unfold TN;simp
 grind
theorem OA(l:List VU)(p:OL)(hl:l.length<=9223372036854775807)(hr:∀r∈l,oQ r.2.1.1)(hp:oQ p.1):aE tbl qw [.d (.list yR) l,.d yP p] [] i7 (zf7 l p,()):=by
 refine ap rfl (aB Ps rfl (λO n=>PM O n l p) ?_);unfold Et;refine ae (AU (xs:=l) (p:=(λz=>RY z p)) (g:=λr=>(r.1,())) (e:=()) (λi r b=>?_) ?_ ?_)
 ·unfold rW;have a:=(l_.1 b).1;refine bo a (Mq b (ak (Td r p (hr r (M_ b)) hp) ?_));refine ar (λh=>aa ?_) λh=>aa ?_;·rw[if_pos h]
  ·rw[if_neg (by have h:RY r p=false:=h;simp[h]),aD a hl]
 ·unfold rW;exact aZ (aa rfl)
 ·unfold zf7;cases l.find? (λz=>RY z p)with|some r=>exact aa rfl|none=>exact aa rfl
theorem OD(l:List VU)(p:OL)(hl:l.length<=9223372036854775807)(hr:∀r∈l,oQ r.2.1.1)(hp:oQ p.1):aE tbl mj [.d (.list yR) l,.d yP p] [] gl (zf7 l p,()):=by
 refine ap rfl (aB Py rfl (λO n=>PT O n l p) ?_);unfold Ez;refine ae (AU (xs:=l) (p:=(λz=>RY z p)) (g:=λr=>(r.1,())) (e:=()) (λi r b=>?_) ?_ ?_)
 ·unfold r5;have a:=(l_.1 b).1;refine bo a (Mq b (ak (Tk r p (hr r (M_ b)) hp) ?_));refine ar (λh=>aa ?_) λh=>aa ?_;·rw[if_pos h]
  ·rw[if_neg (by have h:RY r p=false:=h;simp[h]),aD a hl]
 ·unfold r5;exact aZ (aa rfl)
 ·unfold zf7;cases l.find? (λz=>RY z p)with|some r=>exact aa rfl|none=>exact aa rfl
end Go.Proofs.YtdgiglmmpbndmaaGreatDoor
namespace Go.Pl
open Go.Ev
open Go Go.Ev Go.Lib
def hd(t:List UInt8):Nat:=(t.headD 0).toNat
def pk(s:List UInt8)(i:Nat):Nat:=(s.getD i 0).toNat
theorem tA(s:List UInt8)(i:Nat):pk s i=hd (s.drop i):=by unfold pk hd;rw[List.headD_eq_head?_getD,List.head?_drop];rfl
theorem my{s:List UInt8}{i:Nat}(h:pk s i≠0):i<s.length:=by apply d_;intro hn;apply h;unfold pk;rw[U_,q_ (by omega)];rfl
theorem zk5{s:List UInt8}{i:Nat}(h:i<s.length):pk s i=s[i].toNat:=by unfold pk;rw[U_,b_ h];rfl
theorem zk3{s:List UInt8}{i:Nat}(h:¬i<s.length):pk s i=0:=by unfold pk;rw[U_,q_ (by omega)];rfl
theorem nQ{s a t:List UInt8}{i:Nat}(h:s.drop i=a++t):s.drop (i+a.length)=t:=by rw[<-List.drop_drop,h,List.drop_left]
theorem FZ{s t:List UInt8}{b:UInt8}{i:Nat}(h:s.drop i=b::t):s.drop (i+1)=t:=nQ (a:=[b]) h
theorem X1{a t:List UInt8}(h:a≠[]):hd (a++t)=hd a:=by cases a with|nil=>exact absurd rfl h|cons b a=>rfl
def dg(c:Nat):Prop:=48<=c/\c<=57
section
variable (num:Nat->Option (Int×Nat)) (s:List UInt8)
def nT(alt:Nat->Option (Rx×Nat))(i:Nat):Option (Rx×Nat):=
 if pk s i=46 then some (.mk 2 0 0 [],i+1)
 else if pk s i=33 then some (.mk 4 0 0 [],i+1)
 else if pk s i=91 then
  match num (i+1)with
  |none=>none
  |some (lo,j)=>if pk s j=45 then(match num (j+1)with
   |none=>none
   |some (up,k)=>if pk s k=93 then some (.mk 1 lo up [],k+1)else none)else none
 else if pk s i=40 then
  if pk s (i+1)=41 then some (.mk 0 0 0 [],i+2)else
  match alt (i+1)with
  |none=>none
  |some (r,j)=>if pk s j=41 then some (r,j+1)else none
 else match num i with
  |none=>none
  |some (n,j)=>some (.mk 1 n n [],j)
def LQ(alt:Nat->Option (Rx×Nat))(i:Nat):Option (Rx×Nat):=
 match nT num s alt i with
 |none=>none
 |some (r,j)=>if pk s j=42 then some (.mk 5 0 0 [r],j+1)else if pk s j=43 then some (.mk 6 0 0 [r],j+1)else if pk s j=63 then some (.mk 7 0 0 [r],j+1)else some (r,j)
def rp(sep:Nat)(one:Nat->Option (Rx×Nat)):Nat->List Rx->Nat->Option (List Rx×Nat)
 |0,_,_=>none
 |f+1,a,i=>match one i with
  |none=>none
  |some (r,j)=>if pk s j=sep then rp sep one f (a++[r]) (j+1)else some (a++[r],j)
def zfK(k:Int)(l:List Rx):Rx:=match l with
 |[x]=>x
 |l=>.mk k 0 0 l
def UQ(sep:Nat)(k:Int)(one:Nat->Option (Rx×Nat))(i:Nat):Option (Rx×Nat):=match rp s sep one (s.length+1 - i) [] i with
 |none=>none
 |some (l,j)=>some (zfK k l,j)
def zf4(alt:Nat->Option (Rx×Nat))(i:Nat):Option (Rx×Nat):=UQ s 32 3 (LQ num s alt) i
def LP:Nat->Nat->Option (Rx×Nat)
 |0,_=>none
 |b+1,i=>UQ s 124 4 (zf4 num s (LP b)) i
end
structure NumOk(s:List UInt8)(num:Nat->Option (Int×Nat)):Prop where
 bnd:∀i n j,i<=s.length->num i=some (n,j)->i<j/\j<=s.length
 txt:∀i (m:Nat) t,s.drop i=decDigits m++t->m<=4294967295->¬dg (hd t)->num i=some ((m:Int),i+(decDigits m).length)
def Bnd(s:List UInt8)(one:Nat->Option (Rx×Nat)):Prop:=∀i r j,i<=s.length->one i=some (r,j)->i<j/\j<=s.length/\sz r<=j - i
section
variable {num:Nat->Option (Int×Nat)} {s:List UInt8}
theorem zg7(hn:NumOk s num){alt:Nat->Option (Rx×Nat)}(g:Bnd s alt):Bnd s (nT num s alt):=by
 intro i r j k h;unfold nT at h;have one:sz (.mk 0 0 0 [])=1:=rfl;split at h;·rename_i p;have:=my (s:=s) (i:=i) (by omega);cases h;refine⟨by simp,by omega,?_⟩;show 1<=_;simp
 split at h;·have:=my (s:=s) (i:=i) (by omega);cases h;refine⟨by simp,by omega,?_⟩;show 1<=_;simp
 split at h
 ·have:=my (s:=s) (i:=i) (by omega);split at h;·grind
  rename_i lo a e;have c:=hn.bnd _ _ _ (by omega) e;split at h
  ·have:=my (s:=s) (i:=a) (by omega);split at h;·grind
   rename_i up b f;have d:=hn.bnd _ _ _ (by omega) f;split at h;·have:=my (s:=s) (i:=b) (by omega);cases h;refine⟨by omega,by omega,?_⟩;show 1<=_;omega
   grind
  grind
 split at h
 ·have:=my (s:=s) (i:=i) (by omega);split at h;·have:=my (s:=s) (i:=i+1) (by omega);grind
  split at h;·grind
  rename_i r2 a e;obtain⟨c,d,l⟩:=g _ _ _ (by omega) e;split at h;·have:=my (s:=s) (i:=a) (by omega);grind
  grind
 split at h;·grind
 rename_i n a e;have c:=hn.bnd _ _ _ k e;cases h;refine⟨by omega,by omega,?_⟩;show 1<=_;omega
theorem QV(hn:NumOk s num){alt:Nat->Option (Rx×Nat)}(b:Bnd s alt):Bnd s (LQ num s alt):=by
 intro i r j c h;unfold LQ at h;split at h;·grind
 rename_i r2 a e;obtain⟨d,f,g⟩:=zg7 hn b _ _ _ c e;have hs:∀k:Int,sz (.mk k 0 0 [r2])=sz r2+1:=λk=>by simp only[sz,GO];omega
 split at h;·have:=my (s:=s) (i:=a) (by omega);grind
 split at h;·have:=my (s:=s) (i:=a) (by omega);grind
 split at h;·have:=my (s:=s) (i:=a) (by omega);grind
 grind
theorem zaB{one:Nat->Option (Rx×Nat)}(c:Bnd s one){sep:Nat}(d:sep≠0):∀(f:Nat) (b:List Rx) (i:Nat) (l:List Rx) (j:Nat),i<=s.length->rp s sep one f b i=some (l,j)->
 i<j/\j<=s.length/\GO l+l.length<=GO b+b.length+(j - i)+1/\b.length<l.length
 |0,_,_,_,_,_,h=>by simp[rp]at h
 |f+1,b,i,l,j,g,h=>by
  rw[rp]at h;split at h;·grind
  rename_i r a e;obtain⟨k,n,p⟩:=c _ _ _ g e;have y:GO (b++[r])=GO b+sz r:=by rw[Yx];simp[GO]
  split at h;·have:=my (s:=s) (i:=a) (by omega);obtain⟨u,v,w,x⟩:=zaB c d f _ _ _ _ (by omega) h;grind
  grind
theorem Xn{one:Nat->Option (Rx×Nat)}(u:Bnd s one){sep:Nat}(n:sep≠0)(k:Int):Bnd s (UQ s sep k one):=by
 intro i r j p h;unfold UQ at h;split at h;·grind
 rename_i l a e;obtain⟨f,g,c,d⟩:=zaB u n _ _ _ _ _ p e;cases h;refine⟨f,g,?_⟩;unfold zfK;split;·simp[GO]at c;omega
 ·rename_i b;have:2<=l.length:=by match l,b,d with|[],_,d=>omega|[x],b,_=>grind|x::y::l,_,_=>simp
  simp only[sz];simp[GO]at c;omega
theorem Xm(hn:NumOk s num):∀b:Nat,Bnd s (LP num s b)
 |0=>λi r j _ h=>by simp[LP]at h
 |b+1=>λi r j a h=>by rw[LP]at h;exact Xn (one:=zf4 num s (LP num s b)) (λi r j a h=>Xn (one:=LQ num s (LP num s b)) (QV hn (Xm hn b)) (by simp) 3 i r j a h) (by simp) 4 i r j a h
end
mutual
def Y3:Rx->Nat
 | .mk _ _ _ ks=>1+zdl ks
def zdl:List Rx->Nat
 |[]=>0
 |r::a=>max (Y3 r) (zdl a)
end
theorem P7:∀{ks:List Rx} {r:Rx},r∈ks->Y3 r<=zdl ks
 |x::ks,r,h=>by
  simp only[zdl];rcases List.mem_cons.1 h with rfl|h;·omega
  ·have:=P7 h;omega
theorem zhi(w:Bool)(l t:List UInt8):Du w l++t=bif w then 40::(l++41::t)else l++t:=by cases w<;>simp[Du]
def fst(c:Nat):Prop:=dg c\/c=46\/c=33\/c=91\/c=40
theorem Xu(n:Nat):decDigits n≠[]/\dg (hd (decDigits n)):=by have h:=zaM n;have a:=La n;cases e:decDigits n with|nil=>grind|cons b l=>rw[e]at a;exact⟨by simp,a b (by simp)⟩
theorem Qg:∀(r:Rx),om r=true->pG r≠[]/\fst (hd (pG r)):=by
 refine DV λk lo up ks w v=>?_;obtain⟨hn,j⟩:=well_iff.1 v;have d:∀p:Int,∀x∈ks,wQ p x≠[]/\fst (hd (wQ p x)):=λp x s=>by
  obtain⟨a,b⟩:=w x s (j x s);unfold wQ Du;cases AW p x;·exact⟨a,b⟩
  ·exact⟨by simp,.inr (.inr (.inr (.inr rfl)))⟩
 have n:∀p:Int,∀t:List UInt8,ks≠[]->(ks.map (wQ p)).headD []++t≠[]/\fst (hd ((ks.map (wQ p)).headD []++t)):=λp t h=>by cases ks with|nil=>exact absurd rfl h|cons x l=>obtain⟨a,b⟩:=d p x (k_ ..);simp only[O_,List.headD_cons];rw[X1 a];exact⟨by simp[a],b⟩
 have u:∀p:Int,∀c:UInt8,ks≠[]->jn c (ks.map (wQ p))≠[]/\fst (hd (jn c (ks.map (wQ p)))):=λp c h=>by cases ks with|nil=>exact absurd rfl h|cons x l=>obtain⟨a,b⟩:=d p x (k_ ..);cases l with|nil=>exact⟨a,b⟩|cons y l=>simp only[O_,jn];rw[X1 a];exact⟨by simp[a],b⟩
 have f:(k=5\/k=6\/k=7)->ks≠[]:=λh e=>by have:=hn.one h;rw[e]at this;simp at this
 have g:k=3->ks≠[]:=λh e=>by have:=hn.seq h;rw[e]at this;simp at this
 simp only[pG,kY];split;·exact⟨by simp,.inr (.inr (.inr (.inr rfl)))⟩
 split;·exact⟨by simp,.inr (.inl rfl)⟩
 split
 ·split;·exact⟨(Xu _).1,.inl (Xu _).2⟩
  ·exact⟨by simp,.inr (.inr (.inr (.inl rfl)))⟩
 split;·grind
 split;·exact n 6 _ (f (by omega))
 split;·exact n 7 _ (f (by omega))
 split
 ·split;·exact⟨by simp,.inr (.inr (.inl rfl))⟩
  grind
 ·rcases hn.known with h|h|h|h|h|h|h|h<;>try exact absurd h (by assumption)
  exact u 3 32 (g h)
def comp:Rx->Bool
 | .mk k _ _ ks=>bif k==4 then !ks.isEmpty else(k==3||k==5||k==6||k==7)
def Q0:Rx->Bool
 | .mk k _ _ ks=>bif k==4 then !ks.isEmpty else k==3
def Q1:Rx->Bool
 | .mk k _ _ ks=>bif k==4 then !ks.isEmpty else false
section
variable {num:Nat->Option (Int×Nat)} {s:List UInt8}
theorem zes(hn:NumOk s num){alt:Nat->Option (Rx×Nat)}{r:Rx}(l:om r=true) (u:comp r=true->∀i t,s.drop i=pG r++t->(hd t=0\/hd t=41)->alt i=some (r,i+(pG r).length)) {i:Nat} {t:List UInt8} (h:s.drop i=Du (comp r) (pG r)++t) (v:¬dg (hd t)):nT num s alt i=some (r,i+(Du (comp r) (pG r)).length):=by
 cases hc:comp r with
 |true=>
  rw[hc,zhi]at h;have h:s.drop i=40::(pG r++41::t):=h;have a:pk s i=40:=by rw[tA,h];rfl
  have b:=FZ h;obtain⟨p,f2⟩:=Qg r l;have f:pk s (i+1)≠41:=by rw[tA,b,X1 p];intro e;rw[e]at f2;revert f2;unfold fst dg;simp
  have c:=u hc (i+1) (41::t) b (.inr rfl);have g:pk s (i+1+(pG r).length)=41:=by rw[tA,nQ b];rfl
  unfold nT;rw[if_neg (by omega),if_neg (by omega),if_neg (by omega),if_pos a,if_neg f,c];simp only;rw[if_pos g];simp[Du];omega
 |false=>
  rw[hc]at h;have h:s.drop i=pG r++t:=h;show _=some (r,i+(pG r).length);obtain⟨k,lo,up,ks⟩:=r;obtain⟨nd,w⟩:=well_iff.1 l;rcases nd.known with rfl|rfl|rfl|rfl|rfl|rfl|rfl|rfl
  ·have e:=len_nil (nd.leaf (by simp));subst e;obtain⟨rfl,rfl⟩:=nd.zero (by simp);have h:s.drop i=40::41::t:=h;have a:pk s i=40:=by rw[tA,h];rfl
   have f:pk s (i+1)=41:=by rw[tA,FZ h];rfl
   unfold nT;rw[if_neg (by omega),if_neg (by omega),if_neg (by omega),if_pos a,if_pos f];rfl
  ·have e:=len_nil (nd.leaf (by simp));subst e;obtain⟨r1,r2,r3⟩:=nd.rng rfl;by_cases hl:lo=up
   ·subst hl;have d:pG (.mk 1 lo lo [])=decDigits lo.toNat:=by simp[pG]
    rw[d]at h⊢;obtain⟨n,A⟩:=Xu lo.toNat;have a:dg (pk s i):=by rw[tA,h,X1 n];omega
    unfold dg at a;have B:=hn.txt i lo.toNat t h (by omega) v;unfold nT;grind
   ·have d:pG (.mk 1 lo up [])=91::(decDigits lo.toNat++45::(decDigits up.toNat++[93])):=by simp[pG,hl]
    rw[d]at h⊢;have h:s.drop i=91::(decDigits lo.toNat++45::(decDigits up.toNat++93::t)):=by grind
    have a:pk s i=91:=by rw[tA,h];rfl
    have b:=FZ h;have x:=hn.txt _ lo.toNat _ b (by omega) (by show ¬dg 45;unfold dg;simp);have c:=nQ b;have g:pk s (i+1+(decDigits lo.toNat).length)=45:=by rw[tA,c];rfl
    have j:=FZ c;have y:=hn.txt _ up.toNat _ j (by omega) (by show ¬dg 93;unfold dg;simp);have z:pk s (i+1+(decDigits lo.toNat).length+1+(decDigits up.toNat).length)=93:=by rw[tA,nQ j];rfl
    unfold nT;rw[if_neg (by omega),if_neg (by omega),if_pos a,x];simp only;rw[if_pos g,y];simp only;rw[if_pos z,N_ r1,N_ (by omega)];simp;omega
  ·have e:=len_nil (nd.leaf (by simp));subst e;obtain⟨rfl,rfl⟩:=nd.zero (by simp);have h:s.drop i=46::t:=h;have a:pk s i=46:=by rw[tA,h];rfl
   unfold nT;rw[if_pos a];rfl
  ·exact absurd hc (by simp[comp])
  ·obtain⟨rfl,rfl⟩:=nd.zero (by simp);have e:ks=[]:=by simpa[comp]using hc
   subst e;have h:s.drop i=33::t:=by rw[h];simp[pG]
   have a:pk s i=33:=by rw[tA,h];rfl
   unfold nT;rw[if_neg (by omega),if_pos a];simp[pG]
  ·exact absurd hc (by simp[comp])
  ·exact absurd hc (by simp[comp])
  ·exact absurd hc (by simp[comp])
def f2(c:Nat):Prop:=c=0\/c=41\/c=124\/c=32
def zgD(s:List UInt8)(alt:Nat->Option (Rx×Nat))(b:Nat):Prop:=∀r,om r=true->Y3 r<=b->∀i t,s.drop i=pG r++t->(hd t=0\/hd t=41)->alt i=some (r,i+(pG r).length)
theorem zeM(hn:NumOk s num){alt:Nat->Option (Rx×Nat)}{b:Nat}(z:zgD s alt b){r:Rx}(w:om r=true)(C:Y3 r<=b+1)(j:Q0 r=true->Y3 r<=b){i:Nat}{t:List UInt8} (h:s.drop i=wQ 3 r++t) (A:f2 (hd t)):LQ num s alt i=some (r,i+(wQ 3 r).length):=by
 obtain⟨k,lo,up,ks⟩:=r;obtain⟨nd,g⟩:=well_iff.1 w;have u:¬dg (hd t):=by unfold f2 at A;unfold dg;omega
 by_cases B:k=5\/k=6\/k=7
 ·obtain⟨x,rfl⟩:=Qc (nd.one B);obtain⟨rfl,rfl⟩:=nd.zero (by omega);have y:x∈[x]:=k_ ..;have D:=P7 y;have n:Y3 x<=b:=by simp only[Y3]at C;omega
  have d:∀p:Int,(p=5\/p=6\/p=7)->wQ p x=Du (comp x) (pG x):=λp hp=>by
   obtain⟨a,_,_,l⟩:=x;unfold wQ;have:((p==5||p==6)||p==7)=true:=by grind
   simp only[AW,comp,this,aa_];have H:(p != 4)=true:=by grind
   grind
  have v:∃c:UInt8,wQ 3 (.mk k 0 0 [x])=Du (comp x) (pG x)++[c]/\(c.toNat=42/\k=5\/c.toNat=43/\k=6\/c.toNat=63/\k=7):=by
   rcases B with rfl|rfl|rfl;·refine⟨42,?_,by simp⟩;show pG (.mk 5 0 0 [x])=_;simp[pG,kY,d]
   ·refine⟨43,?_,by simp⟩;show pG (.mk 6 0 0 [x])=_;simp[pG,kY,d]
   ·refine⟨63,?_,by simp⟩;show pG (.mk 7 0 0 [x])=_;simp[pG,kY,d]
  obtain⟨c,e,hc⟩:=v;rw[e]at h⊢;have h:s.drop i=Du (comp x) (pG x)++c::t:=by grind
  have f:=zes hn (g x y) (λ_=>z x (g x y) n) h (by show ¬dg c.toNat;unfold dg;omega);have E:pk s (i+(Du (comp x) (pG x)).length)=c.toNat:=by rw[tA,nQ h];rfl
  unfold LQ;grind
 ·have e:wQ 3 (.mk k lo up ks)=Du (comp (.mk k lo up ks)) (pG (.mk k lo up ks)):=by unfold wQ;simp only[AW,comp];grind
  have F:comp (.mk k lo up ks)=Q0 (.mk k lo up ks):=by simp only[comp,Q0];grind
  rw[e]at h⊢;have f:=zes hn w (λhc=>z _ w (j (by grind))) h u;have E:pk s (i+(Du (comp (.mk k lo up ks)) (pG (.mk k lo up ks))).length)=hd t:=by rw[tA,nQ h]
  unfold LQ;rw[f];unfold f2 at A;grind
theorem X8{one:Nat->Option (Rx×Nat)}{f:Rx->List UInt8}{sep:UInt8}{E:Nat->Prop}:∀(ks:List Rx),ks≠[]->
 (∀x∈ks,∀i t,s.drop i=f x++t->(E (hd t)\/hd t=sep.toNat)->one i=some (x,i+(f x).length))->
 (∀x∈ks,f x≠[])->∀(b:Nat) (a:List Rx) (i:Nat) (t:List UInt8),s.drop i=jn sep (ks.map f)++t->E (hd t)->hd t≠sep.toNat->s.length+1<=b+i->i<=s.length->
 rp s sep.toNat one b a i=some (a++ks,i+(jn sep (ks.map f)).length)
 |[],h,_,_,_,_,_,_,_,_,_,_,_=>absurd rfl h
 |[x],_,d,c,b,a,i,t,h,j,hs,n,r=>by
  have h:s.drop i=f x++t:=h;have e:=d x (by simp) i t h (.inl j);obtain⟨m,rfl⟩:∃m,b=m+1:=⟨b - 1,by omega⟩;have l:pk s (i+(f x).length)=hd t:=by rw[tA,nQ h]
  rw[rp,e];simp only;rw[if_neg (by omega)];rfl
 |x::y::ks,_,d,c,b,a,i,t,h,j,hs,n,r=>by
  have h:s.drop i=f x++sep::(jn sep ((y::ks).map f)++t):=by rw[h];simp[jn]
  have e:=d x (by simp) i _ h (.inr rfl);obtain⟨m,rfl⟩:∃m,b=m+1:=⟨b - 1,by omega⟩;have g:=nQ h;have l:pk s (i+(f x).length)=sep.toNat:=by rw[tA,g];rfl
  have u:i+(f x).length<s.length:=by apply d_;intro p;rw[I_ (by omega)]at g;grind
  have:=X8 (y::ks) (by simp) (λz k=>d z (m_ _ k)) (λz k=>c z (m_ _ k)) m (a++[x]) (i+(f x).length+1) t (FZ g) j hs (by omega) (by omega);rw[rp,e];simp only;rw[if_pos l,this];simp[jn];omega
theorem LC{k:Int}{l:List Rx}(h:l.length≠1):zfK k l= .mk k 0 0 l:=by
 unfold zfK;split;·simp at h
 ·rfl
theorem seq_ok(hn:NumOk s num){alt:Nat->Option (Rx×Nat)}{b:Nat}(n:zgD s alt b){r:Rx}(u:om r=true)(p:Y3 r<=b+1)(w:Q1 r=true->Y3 r<=b){i:Nat}{t:List UInt8} (h:s.drop i=wQ 4 r++t) (y:hd t=0\/hd t=41\/hd t=124) (z:i<=s.length):zf4 num s alt i=some (r,i+(wQ 4 r).length):=by
 obtain⟨k,lo,up,ks⟩:=r;obtain⟨nd,d⟩:=well_iff.1 u;unfold zf4 UQ;by_cases A:k=3
 ·subst A;obtain⟨rfl,rfl⟩:=nd.zero (by simp);have D:2<=(ks.length:Int):=nd.seq rfl;have e:wQ 4 (.mk 3 0 0 ks)=jn 32 (ks.map (wQ 3)):=by show pG (.mk 3 0 0 ks)=_;simp[pG,kY]
  rw[e]at h⊢;have j:∀x∈ks,Y3 x<=b:=λx a=>by have:=P7 a;simp only[Y3]at p;omega
  have l:ks≠[]:=by grind
  have:=X8 (one:=LQ num s alt) (f:=wQ 3) (sep:=32) (E:=λc=>c=0\/c=41\/c=124) ks l (λx a i t g hc=>zeM hn n (d x a) (by grind) (λ_=>j x a) g (by
   unfold f2;grind)) (λx a=>by
   unfold wQ Du;cases AW 3 x;·exact(Qg x (d x a)).1
   simp) (s.length+1 - i) [] i t h y (by
   grind) (by omega) z
  have this:rp s 32 (LQ num s alt) (s.length+1 - i) [] i=_:=this;rw[this];simp only[A_];rw[LC (by omega)]
 ·have e:wQ 4 (.mk k lo up ks)=wQ 3 (.mk k lo up ks):=by unfold wQ;simp only[AW];grind
  have C:Q0 (.mk k lo up ks)=Q1 (.mk k lo up ks):=by simp only[Q0,Q1];grind
  rw[e]at h⊢;have v:=zeM hn n u p (by grind) h (by unfold f2;omega);have F:pk s (i+(wQ 3 (.mk k lo up ks)).length)=hd t:=by rw[tA,nQ h]
  obtain⟨m,B⟩:∃m,s.length+1 - i=m+1:=⟨s.length - i,by omega⟩;rw[B,rp,v];simp only;rw[if_neg (by omega)];simp[zfK]
theorem Xv{a t:List UInt8}{i:Nat}(h:s.drop i=a++t)(c:a≠[]):i<s.length:=by apply d_;intro b;rw[I_ (by omega)]at h;have:=List.append_eq_nil_iff.1 h.symm;grind
theorem zhy(p:Int){x:Rx}(a:om x=true):wQ p x≠[]:=by
 unfold wQ Du;cases AW p x;·exact(Qg x a).1
 ·simp
theorem zg0(hn:NumOk s num):∀b:Nat,zgD s (LP num s b) b
 |0=>λr _ l=>by cases r;simp[Y3]at l
 |b+1=>λr p l i t h z=>by
  have w:=Xv h (Qg r p).1;have v:=zg0 hn b;rw[LP];unfold UQ;cases hc:Q1 r with
  |true=>
   obtain⟨k,lo,up,ks⟩:=r;obtain⟨nd,a⟩:=well_iff.1 p;have A:k=4:=by simp only[Q1]at hc;grind
   subst A;obtain⟨rfl,rfl⟩:=nd.zero (by simp);have j:ks≠[]:=by simpa[Q1]using hc
   have u:(ks.length:Int)≠1:=nd.alt rfl;have e:pG (.mk 4 0 0 ks)=jn 124 (ks.map (wQ 4)):=by simp[pG,kY,j]
   rw[e]at h⊢;have n:∀x∈ks,Y3 x<=b:=λx d=>by have:=P7 d;simp only[Y3]at l;omega
   have:=X8 (one:=zf4 num s (LP num s b)) (f:=wQ 4) (sep:=124) (E:=λc=>c=0\/c=41) ks j (λx d i t g hc=>seq_ok hn v (a x d) (by grind) (λ_=>n x d) g (by
    grind) (K_ (Xv g (zhy 4 (a x d))))) (λx d=>zhy 4 (a x d)) (s.length+1 - i) [] i t h z (by
    grind) (by omega) (K_ w)
   have this:rp s 124 (zf4 num s (LP num s b)) (s.length+1 - i) [] i=_:=this;rw[this];simp only[A_];rw[LC (by omega)]
  |false=>
   have e:pG r=wQ 4 r:=by
    obtain⟨k,lo,up,ks⟩:=r;unfold wQ;simp only[AW];simp only[Q1]at hc;cases y:(k==4)
    ·cases C:(k==3);·simp[Du]
     ·simp[Du]
    ·rw[y]at hc;simp only[cond_true]at hc;simp only[cond_true,hc];rfl
   rw[e]at h⊢;have u:=seq_ok hn v p l (λh=>by grind) h (by omega) (K_ w);have D:pk s (i+(wQ 4 r).length)=hd t:=by rw[tA,nQ h]
   obtain⟨m,B⟩:∃m,s.length+1 - i=m+1:=⟨s.length - i,by omega⟩;rw[B,rp,u];simp only;rw[if_neg (by omega)];simp[zfK]
end
theorem zju:∀(r:Rx) (lv c:Int),(MS r lv c).2=0->lv+(Y3 r:Int)<=17:=by
 refine DV λk lo up ks f lv c h=>?_;rw[MS]at h;split at h;·omega
 split at h;·omega
 split at h;·omega
 have a:∀(l:List Rx),(∀r∈l,r∈ks)->∀(c:Int),(pV l (lv+1) c).2=0->lv+1+(zdl l:Int)<=17:=by
  intro l;induction l with
  |nil=>intro _ c _;simp only[zdl];omega|cons r l g=>
   intro b c h;rw[pV]at h;split at h;·omega
   ·rename_i d;have j:=f r (b r (k_ ..)) (lv+1) c (af_.1 d);have n:=g (λx e=>b x (m_ _ e)) _ h;simp only[zdl];omega
 have:=a ks (λ_ h=>h) _ h;simp only[Y3];omega
theorem zf6{num:Nat->Option (Int×Nat)}{r:Rx}(hn:NumOk (pG r) num)(c:om r=true){b:Nat}(a:Y3 r<=b):LP num (pG r) b 0=some (r,(pG r).length):=by have:=zg0 hn b r c a 0 [] (by simp) (.inl rfl);grind
end Go.Pl
namespace Go.Proofs.YtdgiglmmpbndmaaGreatDoor
open Go Go.Av Go.Ev Go.Pl
theorem W4(k n:Int):aE tbl xd [.d tI k,.d tI n] [] hU (Gv k,sN k n,()):=by
 refine ap rfl (aB YI rfl (λO m=>YY O m k n) ?_);unfold KS;by_cases j:k=0;·subst j;exact CG (λ_=>rfl) rfl
 by_cases l:k=1;·subst l;exact CG (λ_=>rfl) rfl
 by_cases p:k=2;·subst p;exact CG (λ_=>rfl) rfl
 by_cases r:k=3;·subst r;exact CG (λ_=>rfl) rfl
 by_cases s:k=4;·subst s;exact CG (λ_=>rfl) rfl
 by_cases u:k=5;·subst u;exact CG (λ_=>rfl) rfl
 by_cases v:k=6;·subst v;exact CG (λ_=>rfl) rfl
 by_cases w:k=7;·subst w;exact CG (λ_=>rfl) rfl
 have a:(k==(0:Int))=false:=by grind
 have b:(k==(1:Int))=false:=by grind
 have c:(k==(2:Int))=false:=by grind
 have d:(k==(3:Int))=false:=by grind
 have e:(k==(4:Int))=false:=by grind
 have f:(k==(5:Int))=false:=by grind
 have g:(k==(6:Int))=false:=by grind
 have h:(k==(7:Int))=false:=by grind
 simp only[a,b,c,d,e,f,g,h];refine CG (λ_=>rfl) ?_;simp only[Gv,sN,a,b,c,d,e,f,g,h];rfl
theorem W5(r:Rx):aE tbl xe [.d .rx r] [] jV (Cj r.out.1 r.out.2.1 r.out.2.2.1 (r.out.2.2.2.1.length:Int),()):=by
 refine ap rfl (aB YJ rfl (λO m=>YZ O m r) ?_);unfold KT;generalize r.out.1=k;generalize r.out.2.1=lo;generalize r.out.2.2.1=b;generalize(r.out.2.2.2.1.length:Int)=n;refine ak (W4 k n) ?_;unfold Cj;cases Gv k;·exact CG (λ_=>rfl) rfl
 cases c:(k==(1:Int))
 ·have a:(k != (1:Int))=true:=by grind
  rw[a];cases(lo != (0:Int))<;>cases(b != (0:Int))<;>cases sN k n<;>exact CG (λ_=>rfl) rfl
 ·have a:(k != (1:Int))=false:=by grind
  rw[a];cases decide (lo<(0:Int))<;>cases decide (lo>b)<;>cases decide (b>(4294967295:Int))<;>cases sN k n<;>exact CG (λ_=>rfl) rfl
theorem zlo{k lo up:Int}{ks:List Rx}{M:Nat}(h:sz (.mk k lo up ks)<=M):ks.length<M/\∀r∈ks,sz r<M:=by simp only[sz]at h;have a:=Qj ks;exact⟨by omega,λr hr=>by have:=HN hr;omega⟩
theorem V5{ks:List Rx}{lv c:Int}:∀{i:Nat},(h:i<ks.length)->(pV (ks.take i) lv c).2=0->pV (ks.take (i+1)) lv c=(let p:=MS ks[i] lv (pV (ks.take i) lv c).1;(p.1,p.2)):=by intro i;induction ks generalizing c i with|nil=>simp|cons r ks b=>intro h a;cases i with|zero=>simp only[List.take_zero,B_,pV,List.getElem_cons_zero];grind|succ i=>simp only[B_,pV,List.getElem_cons_succ]at a⊢;grind
theorem zaF{lv:Int}:∀{ks:List Rx} {c:Int} {i:Nat},(pV (ks.take i) lv c).2≠0->pV ks lv c=pV (ks.take i) lv c:=by intro ks;induction ks with|nil=>simp|cons r ks a=>intro c i h;cases i with|zero=>simp[pV]at h|succ i=>simp only[B_,pV]at h⊢;grind
theorem V4:∀(r:Rx) (lv c:Int),0<=c->c<=64->c<=(MS r lv c).1/\(MS r lv c).1<=64:=by
 refine DV λk lo up ks d lv c b a=>?_;have hs:∀(l:List Rx) (lv c:Int),(∀r∈l,r∈ks)->0<=c->c<=64->c<=(pV l lv c).1/\(pV l lv c).1<=64:=by intro l;induction l with|nil=>intro lv c _ b a;exact⟨ad_ _,a⟩|cons r l e=>intro lv c hl b a;have hr:=d r (hl r (k_ ..)) lv c b a;simp only[pV];grind
 simp only[MS];grind
theorem Tq:∀(r:Rx),sz r<=1048576->∀(lv c:Int),0<=lv->lv<=17->0<=c->c<=64->∃s:Int,((MS r lv c).2=0->s=(MS r lv c).1)/\aE tbl fJ [.d .rx r,.d tI lv,.ptr 0 0] [.box aU [.d tI c]] bS ((MS r lv c).2,s,()):=by
 refine DV λk lo up ks E hs lv c B C z A=>?_;obtain⟨u,p⟩:=zlo hs;suffices h:∃x:Int×Int×Unit,(x.1=(MS (.mk k lo up ks) lv c).2/\((MS (.mk k lo up ks) lv c).2=0->x.2.1=(MS (.mk k lo up ks) lv c).1))/\aE tbl fJ [.d .rx (.mk k lo up ks),.d tI lv,.ptr 0 0] [.box aU [.d tI c]] bS x by grind
 refine B1 (sh:=bS) (λ_=>rfl) (aB Mn rfl (λO m=>MC O m (.mk k lo up ks) lv c) ?_);unfold z6;refine ar (λh=>aa ⟨_,rfl,?_⟩) λh=>?_
 ·have h:lv>16:=by grind
  simp only[MS,if_pos h];simp
 have f:¬lv>16:=by grind
 refine ar (λh=>aa ⟨_,rfl,?_⟩) λh=>?_
 ·have h:c>=64:=by grind
  simp only[MS,if_neg f,if_pos h];simp
 have n:¬c>=64:=by grind
 refine ak (W5 _) ?_;show Wp _ _;refine ar (λh=>aa ⟨_,rfl,?_⟩) λh=>?_
 ·have h:Cj k lo up ks.length≠0:=by have h:(Cj k lo up ks.length != 0)=true:=h;grind
  simp only[MS,if_neg f,if_neg n,if_pos h];exact⟨rfl,λh'=>absurd h' h⟩
 have y:¬Cj k lo up ks.length≠0:=by have h:(Cj k lo up ks.length != 0)=false:=h;grind
 have v:MS (.mk k lo up ks) lv c=pV ks (lv+1) (c+1):=by simp only[MS,if_neg f,if_neg n,if_neg y]
 rw[v,wrap_i64 (by omega) (by omega)];have a:∀i,(pV (ks.take i) (lv+1) (c+1)).2=0->0<=(pV (ks.take i) (lv+1) (c+1)).1/\(pV (ks.take i) (lv+1) (c+1)).1<=64:=by
  intro i;induction i with
  |zero=>intro _;simp[pV];omega|succ i l=>
   intro w;by_cases b:i<ks.length
   ·have d:(pV (ks.take i) (lv+1) (c+1)).2=0:=d_ λhn=>by have:=zaF (ks:=ks.take (i+1)) (lv:=lv+1) (c:=c+1) (i:=i) (by grind);grind
    rw[V5 b d];have hr:=l d;have:=V4 ks[i] (lv+1) _ hr.1 hr.2;grind
   ·rw[show ks.take (i+1)=ks.take i by rw[j_ (by omega),j_ (by omega)]]at w⊢;omega
 refine ae (cp (N:=ks.length) (I:=λi s=>s=((i:Int),(pV (ks.take i) (lv+1) (c+1)).1,())/\(pV (ks.take i) (lv+1) (c+1)).2=0) (by simp[pV]) (λi s b hs=>?_) λs hs=>?_)
 ·obtain⟨rfl,d⟩:=hs;unfold pu;refine bo b (aG b ?_);rw[DU,wrap_i64 (by omega) (by omega)];have hr:=a_ b;have e:=a i d;obtain⟨s,g,j⟩:=E ks[i] hr (by grind) (lv+1) _ (by omega) (by omega) e.1 e.2;refine ak j ?_;have D:=V5 b d;refine ar (λh=>aa ?_) λh=>aa ?_
  ·have hn:(MS ks[i] (lv+1) (pV (ks.take i) (lv+1) (c+1)).1).2≠0:=by grind
   have F:=zaF (ks:=ks) (lv:=lv+1) (c:=c+1) (i:=i+1) (by grind);refine aa ⟨_,rfl,?_⟩;grind
  ·have hn:(MS ks[i] (lv+1) (pV (ks.take i) (lv+1) (c+1)).1).2=0:=by grind
   refine⟨?_,by grind⟩;rw[aD b (by omega),D,g hn]
 ·obtain⟨rfl,d⟩:=hs;unfold pu;refine aZ (aa (aa ⟨_,rfl,?_⟩));grind
def yf(r:Rx):Int:=(MS r 1 0).2
theorem Tn(r:Rx)(hs:sz r<=1048576):aE tbl uB [.d .rx r] [] ql (yf r,()):=by refine ap rfl (aB Vl rfl (λO m=>VN O m r) ?_);unfold Jd;obtain⟨s,_,h⟩:=Tq r hs 1 0 (by simp) (by simp) (by simp) (by simp);exact ak h (aa rfl)
theorem zhc:∀(r:Rx) (lv c:Int),(MS r lv c).2=0->om r=true/\(MS r lv c).1=c+(sz r:Int):=by
 refine DV λk lo up ks p lv c h=>?_;have hs:∀(l:List Rx) (lv c:Int),(∀r∈l,r∈ks)->(pV l lv c).2=0->(∀r∈l,om r=true)/\(pV l lv c).1=c+(GO l:Int):=by
  intro l;induction l with
  |nil=>intro lv c _ _;exact⟨by simp,by simp[pV,GO]⟩|cons r l f=>
   intro lv c hl h;simp only[pV]at h⊢;split at h;·omega
   ·rename_i d;rw[if_neg d];have d:(MS r lv c).2=0:=by omega
    obtain⟨g,e⟩:=p r (hl r (k_ ..)) lv c d;obtain⟨s,n⟩:=f lv _ (λx j=>hl x (m_ _ j)) h;refine⟨λx j=>?_,by rw[n,e];simp only[GO];omega⟩;grind
 simp only[MS]at h⊢;split at h;·omega
 split at h;·omega
 split at h;·omega
 ·rename_i a b d;rw[if_neg a,if_neg b,if_neg d];obtain⟨g,e⟩:=hs ks (lv+1) (c+1) (λ_ h=>h) h;have d:Cj k lo up ks.length=0:=by omega
  exact⟨well_iff.2 ⟨nodeE_zero.1 d,g⟩,by rw[e];simp only[sz];omega⟩
theorem V3{r:Rx}(h:yf r=0):om r=true/\sz r<=64:=by obtain⟨a,b⟩:=zhc r 1 0 h;have:=V4 r 1 0 (by simp) (by simp);grind
open Go Go.Av Go.Ev Go.Pl Go.Lib
theorem zkz{n:Int}(c:0<=n)(d:n<=4294967295):aE tbl nN [.d tI n] [] yV (decDigits n.toNat,()):=by
 refine zfz SL ?_ rfl;have a:zjF n=true:=by simp only[zjF,i_,decide_eq_true_eq];omega
 have b:Lib.itoa n=decDigits n.toNat:=by unfold Lib.itoa;grind
 simp only[HG,a,cond_true,b];rfl
theorem MI{n:Int}(a:0<=n)(b:n<=4294967295):aE tbl iW [.d tI n] [] gg (decDigits n.toNat,()):=by refine ap rfl (aB Pr rfl (λO k=>PL O k n) ?_);unfold Es;exact ak (zkz a b) (aa rfl)
theorem ziS(ks:List Rx)(i:Nat):GO (ks.take i)<=GO ks:=by have:=Yx (ks.take i) (ks.drop i);rw[List.take_append_drop]at this;omega
theorem zhx(p:Int){x:Rx}(a:om x=true):(wQ p x).length+1<=26*sz x:=by have:=zeK p x;have:=Yi x a;omega
theorem zky(p:Int):∀l:List Rx,(∀x∈l,om x=true)->((l.map (wQ p)).map λx=>x.length+1).sum<=26*GO l
 |[],_=>by simp
 |r::l,h=>by have b:=zhx p (h r (k_ ..));have c:=zky p l λx a=>h x (m_ _ a);simp only[O_,List.sum_cons,GO]at*;omega
theorem zmf(c:UInt8)(p:Int)(l:List Rx)(h:∀x∈l,om x=true):(jn c (l.map (wQ p))).length<=26*GO l:=ab_ (zdB c _) (zky p l h)
theorem Vp{α β:Type}(f:α->β){l:List α}{i:Nat}(h:i<l.length):(l.take (i+1)).map f=(l.take i).map f++[f l[i]]:=by rw[List.take_add_one,b_ h,V_];rfl
theorem El(k:Int):aE tbl mn [.d tI k] [] i8 (k==5||k==6||k==7,()):=by refine ap rfl (aB PC rfl (λO m=>PW O m k) ?_);unfold EB;cases(k==(5:Int))<;>cases(k==(6:Int))<;>exact CG (λ_=>rfl) rfl
theorem zbf(ks:List Rx):decide ((ks.length:Int)>0)= !ks.isEmpty:=by cases ks with|nil=>rfl|cons x l=>simp
theorem ziX(p k lo up:Int)(ks:List Rx):AW p (.mk k lo up ks)=bif k==4 then !ks.isEmpty else bif k==3 then p != 4 else(k==5||k==6||k==7)&&(p==5||p==6||p==7):=rfl
theorem OF(p:Int)(x:Rx):aE tbl qz [.d tI p,.d .rx x] [] gn (AW p x,()):=by
 obtain⟨k,lo,up,ks⟩:=x;refine ap rfl (aB PD rfl (λO m=>PX O m p (.mk k lo up ks)) ?_);unfold EC;rw[ziX];refine ar (λh=>aa ?_) λh=>?_;·have h:(k==4)=true:=h;rw[h,cond_true,<-zbf];rfl
 have h:(k==4)=false:=h;rw[h,cond_false];refine ar (λh=>aa ?_) λh=>?_;·have h:(k==3)=true:=h;grind
 have h:(k==3)=false:=h;rw[h,cond_false];refine ak (El k) (ae (bi (b:=(p==5||p==6||p==7)) (λ_=>ak (El p) (aa rfl)) (aa rfl)))
theorem zbi(p:Int)(x:Rx)(hl:(pG x).length<=1000000)(h:aE tbl jq [.d .rx x] [] fo (pG x,())):aE tbl hZ [.d tI p,.d .rx x] [] dY (wQ p x,()):=by
 refine ap rfl (aB Vo rfl (λO m=>VQ O m p x) ?_);unfold Jg;refine ak h (ak (OF p x) (ar (λa=>aI (decide_eq_true ?_) (aI (decide_eq_true ?_) (aa ?_))) λa=>aa ?_));·grind
 ·grind
 ·have a:AW p x=true:=a;unfold wQ;rw[a];rfl
 ·have a:AW p x=false:=a;unfold wQ;rw[a];rfl
theorem WJ(k lo up:Int)(ks:List Rx)(c:UInt8)(f:∀x∈ks,om x=true)(w:GO ks<=1000)(h:∀x∈ks,aE tbl jq [.d .rx x] [] fo (pG x,())): Wp (λn=>aR n (r7 (zr tbl n) n (.mk k lo up ks) ([c],())) (([]:List UInt8),(0:Int),())) λt=>t=(jn c (ks.map (wQ k)),()):=by
 have g:=Qj ks;refine cp (N:=ks.length) (I:=λi s=>s=(jn c ((ks.take i).map (wQ k)),(i:Int),())) rfl ?_ ?_
 ·rintro i s b rfl;have d:=a_ b;have u:=zmf c k (ks.take i) λx r=>f x (List.mem_of_mem_take r);have p:=ziS ks i;have j:=zhx k (f _ d);have l:=HN d;have hp:=Yi _ (f _ d);unfold r7;refine bo b (aG b ?_);have hc:=zbi k ks[i] (by omega) (h _ d);rw[Vp _ b,zeN];refine ae (Ev.wp_mono (Q:=λv=>v=((if(ks.take i).map (wQ k)=[]then []else jn c ((ks.take i).map (wQ k))++[c]),ks[i].out.1,ks[i].out.2.1,ks[i].out.2.2.1,ks[i].out.2.2.2.1,())) (ar (λa=>aI (decide_eq_true ?_) (aa ?_)) λa=>aa ?_) ?_);·grind
  ·have a:(i:Int)>0:=of_decide_eq_true a;rw[if_neg (by intro e;have:=congrArg List.length e;grind)];rfl
  ·have a:¬(i:Int)>0:=of_decide_eq_false a;have:i=0:=by omega
   subst this;rfl
  rintro v rfl;rw[DU];refine ak hc (aI (decide_eq_true ?_) (aa ?_));·grind
  ·show(_,h_ .i64 ((i:Int)+1),())=_;rw[aD b (by omega)];grind
 ·rintro s rfl;unfold r7;rw[List.take_length];exact aZ (aa rfl)
theorem W6:∀(r:Rx),om r=true->sz r<=1000->aE tbl jq [.d .rx r] [] fo (pG r,()):=by
 refine DV λk lo up ks l j hs=>?_;obtain⟨nd,a⟩:=well_iff.1 j;have hsz:GO ks<=1000:=by simp only[sz]at hs;omega
 have c:∀x∈ks,aE tbl jq [.d .rx x] [] fo (pG x,()):=λx b=>l x b (a x b) (by have:=HN b;omega);refine ap rfl (aB YK rfl (λO m=>Y0 O m (.mk k lo up ks)) ?_);unfold KU;have one:∀x,ks=[x]->∀p:Int,aE tbl hZ [.d tI p,.d .rx x] [] dY (wQ p x,())/\(wQ p x).length<=26000:=λx e p=>by
  have b:x∈ks:=by grind
  have s:=Yi x (a x b);have u:=HN b;have v:=zhx p (a x b);exact⟨zbi p x (by omega) (c x b),by omega⟩
 rcases nd.known with rfl|rfl|rfl|rfl|rfl|rfl|rfl|rfl;·refine ae (aL rfl (aa (aa ?_)));simp[pG]
 ·obtain⟨r1,r2,r3⟩:=nd.rng rfl;refine ae (aA rfl (aA rfl (aL rfl (ar (λh=>?_) λh=>?_))))
  ·have h:(lo==up)=true:=h;have h:lo=up:=by grind
   subst h;refine ak (MI (n:=lo) r1 r3) (aa (aa ?_));simp[pG]
  ·have h:(lo==up)=false:=h;have h:lo≠up:=by grind
   have l1:=Dd (n:=lo.toNat) (by omega);have l2:=Dd (n:=up.toNat) (by omega);refine ak (MI (n:=lo) r1 (by omega)) (aI (decide_eq_true ?_) (aI (decide_eq_true ?_) (ak (MI (n:=up) (by omega) r3) (aI (decide_eq_true ?_) (aI (decide_eq_true ?_) (aa (aa ?_)))))));·grind
   ·grind
   ·grind
   ·grind
   ·simp[pG,h]
 ·refine ae (aA rfl (aL rfl (aa (aa ?_))));simp[pG]
 ·obtain⟨rfl,rfl⟩:=nd.zero (by simp);refine ae (aA rfl (aA rfl (aA rfl (aA rfl (aA rfl (aA rfl (aA rfl (aa ?_))))))));refine ae (Ev.wp_mono (WJ 3 0 0 ks 32 a hsz c) ?_);rintro t rfl;refine aa ?_;simp[pG,kY]
 ·obtain⟨rfl,rfl⟩:=nd.zero (by simp);refine ae (aA rfl (aA rfl (aA rfl (aA rfl (aA rfl (aA rfl (aL rfl (ar (λh=>aa (aa ?_)) λh=>aa ?_))))))));·have h:((ks.length:Int)==0)=true:=h;have h:=len_nil (by simpa using h);subst h;simp[pG]
  ·have h:((ks.length:Int)==0)=false:=h;have f:ks≠[]:=by grind
   refine ae (Ev.wp_mono (WJ 4 0 0 ks 124 a hsz c) ?_);rintro t rfl;refine aa ?_;simp[pG,kY,f]
 ·obtain⟨rfl,rfl⟩:=nd.zero (by simp);obtain⟨x,rfl⟩:=Qc (nd.one (by simp));obtain⟨d,g⟩:=one x rfl 5;refine ae (aA rfl (aA rfl (aA rfl (aL rfl (mU (by simp) rfl (ak d (aI (decide_eq_true ?_) (aa (aa ?_)))))))));·grind
  ·simp[pG,kY]
 ·obtain⟨rfl,rfl⟩:=nd.zero (by simp);obtain⟨x,rfl⟩:=Qc (nd.one (by simp));obtain⟨d,g⟩:=one x rfl 6;refine ae (aA rfl (aA rfl (aA rfl (aA rfl (aL rfl (mU (by simp) rfl (ak d (aI (decide_eq_true ?_) (aa (aa ?_))))))))));·grind
  ·simp[pG,kY]
 ·obtain⟨rfl,rfl⟩:=nd.zero (by simp);obtain⟨x,rfl⟩:=Qc (nd.one (by simp));obtain⟨d,g⟩:=one x rfl 7;refine ae (aA rfl (aA rfl (aA rfl (aA rfl (aA rfl (aL rfl (mU (by simp) rfl (ak d (aI (decide_eq_true ?_) (aa (aa ?_)))))))))));·grind
  ·simp[pG,kY]
theorem Tp(r:Rx)(hs:sz r<=1048576):aE tbl mH [.d .rx r] [] j6 (if yf r=0 then pG r else [],yf r,()):=by
 refine ap rfl (aB Vn rfl (λO m=>VP O m r) ?_);unfold Jf;refine ak (Tn r hs) (ar (λh=>aa ?_) λh=>?_);·grind
 ·have h:yf r=0:=by grind
  obtain⟨a,b⟩:=V3 h;refine ak (W6 r a (by omega)) (aa ?_);grind
end Go.Proofs.YtdgiglmmpbndmaaGreatDoor
namespace Go.Ev
open Go Go.RowKit Go.Av
section
variable {tbl:Nat->Option Fun'}
def eN(tbl:Nat->Option Fun')(f:Nat)(ars:List V)(os:List Ob)(sh:Sh)(o:Option (HL sh.sl)):Prop:=∃a,∀n,a<=n->m8 (zr tbl n) f ars os sh=some o
theorem V1{f:Nat}{ars:List V}{os:List Ob}{sh:Sh}{R:Option (HL sh.sl)->Prop}(hp:∀c,nU sh (ej sh c)=some c)(h:Conv tbl f ars os λo=>∃c:Option (HL sh.sl),o=c.map (ej sh)/\R c):∃o,R o/\eN tbl f ars os sh o:=by obtain⟨o,⟨c,rfl,hr⟩,b,hn⟩:=h;refine⟨c,hr,b,λn a=>?_⟩;have e:=hn n a;unfold m8;have e:zr tbl n f ars os=_:=e;cases c with|none=>grind|some c=>rw[e];have:=hp c;unfold nU at this;grind
theorem xI{f:Nat}{ars:List V}{os:List Ob}{sh:Sh}{o:Option (HL sh.sl)}(hp:∀c,nU sh (ej sh c)=some c)(h:Conv tbl f ars os (·=o.map (ej sh))):eN tbl f ars os sh o:=by obtain⟨o',rfl,b⟩:=V1 (R:=λc=>c=o) hp (MV h λx a=>⟨o,a,rfl⟩);omega
theorem lg{f:Nat}{ars:List V}{os:List Ob}{sh:Sh}{β:Type}{k:Nat->Option (HL sh.sl)->Option β}{Q:β->Prop}{o:Option (HL sh.sl)}(h:eN tbl f ars os sh o)(a:Wp (λn=>k n o) Q):Wp (λn=>g_ (m8 (zr tbl n) f ars os sh) (k n)) Q:=by obtain⟨b,hn⟩:=h;exact ae ⟨o,a,b,hn⟩
end
end Go.Ev
namespace Go.Proofs.YtdgiglmmpbndmaaGreatDoor
open Go Go.Av Go.Ev Go.Pl Go.Lib
theorem Y7(s:List UInt8)(hs:s.length<=1048576):∃c:Bool×Unit,((∀n,s=decDigits n->c=(true,()))/\(c.1=true->s≠[]))/\aE tbl mZ [.d tS s] [] dx c:=by
 refine B1 (sh:=dx) (λ_=>rfl) (aB Mg rfl (λO k=>Mv O k s) ?_);unfold zP;refine ae (ba (b:=decide ((s.length:Int)>(1:Int))&&(((s.getD 0 0).toNat:Int)==(48:Int))) (λg=>ae (bi (b:=(((s.getD 0 0).toNat:Int)==(48:Int))) (λj=>?_) (aa rfl))) ?_)
 ·have hl:1<s.length:=by grind
  refine mU (x:=s.getD 0 0) (ad_ _) ?_ (aa rfl);grind
 ·refine ar (λh=>aa ⟨(false,()),rfl,λn hn=>?_,λh=>by grind⟩) (λh=>?_);·exfalso;have hp:=zaM n;have p:=zfC n;grind
  ·have d:s≠[]:=by grind
   refine ae (Wp.imp (Q:=λr=>match r with| .inl v=>v.1=false/\∀n,s≠decDigits n| .inr _=>True) (cp (N:=s.length) (I:=λi st=>st=((i:Int),())) rfl (λi st e a=>?_) λst a=>?_) λr hr=>?_)
   ·subst a;unfold pj;have f:=b_ e;refine ar (λ_=>?_) (λh=>absurd h (by grind));refine mU (u_ _) f ?_;refine ae (ba (b:=decide ((s[i].toNat:Int)>(57:Int))) (λ_=>mU (u_ _) f (aa rfl)) ?_);refine ar (λl=>aa ⟨rfl,λn hn=>?_⟩) (λ_=>aa ?_);·have:=La n s[i] (by grind);unfold RL at this;grind
    ·simp only;rw[aD e (by omega)]
   ·subst a;unfold pj;exact ar (λh=>absurd h (by simp)) λ_=>aa trivial
   ·cases r with|inl v=>exact aa ⟨_,rfl,λn hn=>absurd hn (hr.2 n),λ_=>d⟩|inr v=>exact aa ⟨_,rfl,λ_ _=>rfl,λ_=>d⟩
theorem zgE(s:List UInt8)(hs:s.length<=1048576):∃c:Int×Int×Unit,((∀m:Nat,m<=4294967295->s=decDigits m->c=((m:Int),(0:Int),()))/\(c.2.1=0->s≠[]))/\aE tbl nJ [.d tS s,.d tI (4294967295:Int)] [] dB c:=by
 obtain⟨L,⟨H,z⟩,b⟩:=Y7 s hs;refine B1 (sh:=dB) (λ_=>rfl) (aB SC rfl (λO k=>S1 O k s 4294967295) ?_);unfold FG;refine ak b (ar (λh=>aa ⟨_,rfl,λm a hn=>?_,λM=>by grind⟩) (λhc=>?_));·grind
 have d:s≠[]:=z (by grind);refine ae (Wp.imp (Q:=λr=>match r with| .inl v=>∀m:Nat,m<=4294967295->s≠decDigits m| .inr v=>∀m:Nat,m<=4294967295->s=decDigits m->v.1=m) (cp (N:=s.length) (I:=λi st=>st.2.1=(i:Int)/\∀m:Nat,m<=4294967295->s=decDigits m->st.1=(G7 (s.take i):Int)) ⟨rfl,λ_ _ _=>rfl⟩ (λi st A f=>?_) λst f=>?_) λr hr=>?_)
 ·obtain⟨n,j,_⟩:=st;obtain⟨g,p⟩:=f;simp only at g p;subst g;unfold tJ;have J:=b_ A;have D:∀m:Nat,m<=4294967295->s=decDigits m->n=(G7 (s.take i):Int)/\G7 (s.take i)<=4294967295/\RL s[i]/\G7 (s.take (i+1))<=4294967295/\G7 (s.take (i+1))=10*G7 (s.take i)+(s[i].toNat - 48):=λm a hn=>by
   have P:G7 s=m:=by rw[hn,zaN]
   have hd:RL s[i]:=La m s[i] (by grind);have e:s.getD i 0=s[i]:=by grind
   exact⟨p m a hn,by have:=WS (l:=s) (k:=i) (by omega);omega,hd,by have:=WS (l:=s) (k:=i+1) (by omega);omega,by rw[takeD A,NK,e]⟩
  have w:RL s[i]->h_ .i64 (h_ .u8 ((s[i].toNat:Int) - 48))=((s[i].toNat - 48:Nat):Int):=λh=>by unfold RL at h;rw[wrap_u8,wrap_i64 (by omega) (by omega)];omega
  refine ar (λ_=>?_) (λh=>absurd h (by grind));refine mU (u_ _) J ?_;refine aI rfl (ar (λC=>aa λm a hn=>?_) (λ_=>aa ⟨?_,λm a hn=>?_⟩));·obtain⟨y,E,x,F,B⟩:=D m a hn;have u:=of_decide_eq_true C;rw[w x,y]at u;unfold RL at x;rw[wrap_i64 (n:=9223372036854775807 - ((s[i].toNat - 48:Nat):Int)) (by omega) (by omega),Int.tdiv_eq_ediv_of_nonneg (by omega),wrap_i64 (by omega) (by omega)]at u;omega
  ·simp only;rw[aD A (by omega)]
  ·obtain⟨y,E,x,F,B⟩:=D m a hn;simp only;rw[w x,y,wrap_i64 (n:=10*((G7 (s.take i):Nat):Int)) (by omega) (by omega),wrap_i64 (by omega) (by omega),B];simp
 ·obtain⟨n,j,_⟩:=st;obtain⟨g,p⟩:=f;simp only at g p;subst g;unfold tJ;refine ar (λh=>absurd h (by simp)) λ_=>aa λm a hn=>?_;simp only;rw[p m a hn,j_ (v_ _),hn,zaN]
 ·cases r with|inl v=>exact aa ⟨_,rfl,λm a hn=>absurd hn (hr m a),λ_=>d⟩|inr v=>refine ar (λC=>aa ⟨_,rfl,λm a hn=>?_,λ_=>d⟩) (λ_=>aa ⟨_,rfl,λm a hn=>?_,λ_=>d⟩);all_goals grind
theorem Fx(s:List UInt8)(i:Nat):aE tbl bz [.ptr 0 0] [.box aF [.d tS s,.d tI (i:Int)]] bd ((pk s i:Int),s,(i:Int),()):=by
 refine ap rfl (aB Fi rfl (λO m=>Ft O m s (i:Int)) ?_);unfold tq;refine ar (λh=>?_) λh=>aa ?_
 ·have h:i<s.length:=by grind
  refine aG h (aa ?_);rw[zk5 h]
 ·have h:¬i<s.length:=by grind
  rw[zk3 h];rfl
structure Run(s:List UInt8)(i j:Nat):Prop where
 le:i<=j
 top:j<=s.length
 all:∀k,i<=k->k<j->dg (pk s k)
theorem zfj{s:List UInt8}{i j m:Nat}{t:List UInt8}(h:Run s i j)(p:¬dg (pk s j))(a:s.drop i=decDigits m++t)(u:¬dg (hd t)):j=i+(decDigits m).length/\(s.take j).drop i=decDigits m:=by
 have n:∀k,i<=k->k<i+(decDigits m).length->dg (pk s k):=λk f g=>by
  have hl:k - i<(decDigits m).length:=by omega
  have e:s[k]? =some (decDigits m)[k - i]:=by
   have c:(s.drop i)[k - i]? =s[k]? :=by rw[List.getElem?_drop];congr 1;omega
   grind
  have d:=La m _ (a_ hl);unfold pk;rw[U_,e];exact d
 have c:¬dg (pk s (i+(decDigits m).length)):=by rw[tA,nQ a];omega
 have r:j=i+(decDigits m).length:=by
  apply d_;intro hn;have:=h.le;rcases Nat.lt_or_gt_of_ne hn with l|b;·grind
  ·exact c (h.all _ (by simp) b)
 grind
theorem zgK(s:List UInt8)(hs:s.length<=1048576)(i:Nat)(u:i<=s.length):∃o:Option (Int×Nat),(∀n j,o=some (n,j)->i<j/\j<=s.length)/\(∀(m:Nat) t,s.drop i=decDigits m++t->m<=4294967295->¬dg (hd t)->o=some ((m:Int),i+(decDigits m).length))/\eN tbl bg [.ptr 0 0] [.box aF [.d tS s,.d tI (i:Int)]] q_regex_parser_number_r (o.map λx=>(x.1,s,(x.2:Int),())):=by
 suffices h:∃v:Option (HL q_regex_parser_number_r.sl),(∃o:Option (Int×Nat),v=o.map (λx=>(x.1,s,(x.2:Int),()))/\(∀n j,o=some (n,j)->i<j/\j<=s.length)/\(∀(m:Nat) t,s.drop i=decDigits m++t->m<=4294967295->¬dg (hd t)->o=some ((m:Int),i+(decDigits m).length)))/\eN tbl bg [.ptr 0 0] [.box aF [.d tS s,.d tI (i:Int)]] q_regex_parser_number_r v by
  obtain⟨v,⟨o,rfl,b,d⟩,r⟩:=h
  exact⟨o,b,d,r⟩
 refine V1 (λ_=>rfl) (aB CC rfl (λO m=>CO O m s (i:Int)) ?_);unfold q9;refine ae (Ev.wp_mono (Ev.wp_loop (Q:=λt=>∃j:Nat,t=(s,(j:Int),())/\Run s i j/\¬dg (pk s j)) (λt=>∃j:Nat,t=(s,(j:Int),())/\Run s i j) (λt=>s.length - t.2.1.toNat) ⟨i,rfl,⟨v_ _,u,λk b d=>absurd d (by omega)⟩⟩ ?_) ?_)
 ·rintro t ⟨j,rfl,hr⟩;unfold o8;refine ak (Fx s j) (ar (λh=>?_) λh=>aa ⟨j,rfl,hr,?_⟩)
  ·have h:(pk s j:Int)>=48:=of_decide_eq_true h;have f:=my (s:=s) (i:=j) (by omega);refine ak (Fx s j) (ar (λh'=>aa ?_) λh'=>aa ⟨j,rfl,hr,?_⟩)
   ·have h':(pk s j:Int)<=57:=of_decide_eq_true h';refine⟨⟨j+1,?_,⟨by have:=hr.le;omega,by omega,λk b d=>?_⟩⟩,?_⟩;·show(s,h_ .i64 ((j:Int)+1),())=_;rw[aD f (by omega)]
    ·by_cases e:k=j;·subst e;exact⟨by omega,by omega⟩
     ·exact hr.all k b (by omega)
    ·show s.length - (h_ .i64 ((j:Int)+1)).toNat<s.length - (j:Int).toNat;rw[aD f (by omega)];omega
   ·have h':¬(pk s j:Int)<=57:=of_decide_eq_false h';unfold Pl.dg;omega
  ·have h:¬(pk s j:Int)>=48:=of_decide_eq_false h;unfold Pl.dg;omega
 ·rintro t ⟨j,rfl,hr,l⟩;have b:=hr.le;have d:=hr.top;refine aI (decide_eq_true (by simp)) (aI (decide_eq_true (by simp)) (aI ?_ ?_));·grind
  show Wp (λn=>g_ (au (zr tbl n) nJ [.d tS ((s.take (C_ (j:Int))).drop (C_ (i:Int))),.d tI (4294967295:Int)] [] dB) _) _;rw[r_,r_];obtain⟨c,⟨y,z⟩,hc⟩:=zgE ((s.take j).drop i) (by grind);refine ak (c:=c) hc (ae (ar (λh=>aa ?_) λh=>aa ?_))
  ·have h:c.2.1≠0:=by grind
   refine aa ⟨none,rfl,none,rfl,(λ_ _ h=>by grind),λm t a w g=>?_⟩;obtain⟨_,p⟩:=zfj hr l a g;grind
  ·have h:c.2.1=0:=by grind
   refine aa ⟨some (c.1,s,(j:Int),()),rfl,some (c.1,j),rfl,?_,λm t a w g=>?_⟩;·grind
   ·obtain⟨A,p⟩:=zfj hr l a g;grind
theorem zlx(s:List UInt8)(hs:s.length<=1048576):∃num:Nat->Option (Int×Nat),NumOk s num/\∀i,i<=s.length->eN tbl bg [.ptr 0 0] [.box aF [.d tS s,.d tI (i:Int)]] q_regex_parser_number_r ((num i).map λx=>(x.1,s,(x.2:Int),())):=by
 have h:∀i:Nat,∃o:Option (Int×Nat),i<=s.length->(∀n j,o=some (n,j)->i<j/\j<=s.length)/\(∀(m:Nat) t,s.drop i=decDigits m++t->m<=4294967295->¬dg (hd t)->o=some ((m:Int),i+(decDigits m).length))/\eN tbl bg [.ptr 0 0] [.box aF [.d tS s,.d tI (i:Int)]] q_regex_parser_number_r (o.map λx=>(x.1,s,(x.2:Int),())):=λi=>by
  by_cases a:i<=s.length
  ·obtain⟨o,d⟩:=zgK s hs i a;grind
  ·exact⟨none,λh=>absurd h a⟩
 refine⟨λi=>R_ (h i),⟨λi n j a e=>?_,λi m t b c f=>?_⟩,λi a=>?_⟩;·grind
 ·have a:i<=s.length:=K_ (Xv b (Xu m).1);grind
 grind
abbrev TL(s:List UInt8)(i:Nat):List Ob:=[.box aF [.d tS s,.d tI (i:Int)]]
def up3(s:List UInt8)(o:Option (Rx×Nat)):Option (Rx×List UInt8×Int×Unit):=o.map λx=>(x.1,s,(x.2:Int),())
theorem eqT{a b:Nat}(h:((a:Int)==(b:Int))=true):a=b:=by simp at h;omega
theorem eqF{a b:Nat}(h:((a:Int)==(b:Int))=false):a≠b:=by simp at h;omega
theorem neF{a b:Nat}(h:((a:Int) != (b:Int))=false):a=b:=by simp at h;omega
theorem Qp(s:List UInt8)(hs:s.length<=1048576)(i c:Nat)(hc:c≠0):eN tbl bK [.ptr 0 0,.d tY (c:Int)] (TL s i) bk (if pk s i=c then some (s,((i+1:Nat):Int),())else none):=by
 refine xI (λ_=>rfl) (aB BE rfl (λO m=>BG O m (c:Int) s (i:Int)) ?_);unfold pL;refine ae (ak (Fx s i) (ar (λh=>aa (aa ?_)) λh=>aa (aa ?_)));·grind
 ·have h:=neF h;have a:=my (s:=s) (i:=i) (by omega);rw[if_pos h];show some (ej bk (s,h_ .i64 ((i:Int)+1),()))=_;rw[aD a (by omega)];rfl
section
variable {s:List UInt8}
theorem zkB(hs:s.length<=1048576){num:Nat->Option (Int×Nat)}(hn:NumOk s num)(hc:∀i,i<=s.length->eN tbl bg [.ptr 0 0] (TL s i) q_regex_parser_number_r ((num i).map λx=>(x.1,s,(x.2:Int),()))) {alt:Nat->Option (Rx×Nat)} (E:Bnd s alt) (d:Nat) (A:d<=100) (z:∀i,i<=s.length->eN tbl be [.ptr 0 0,.d tI ((d+1:Nat):Int)] (TL s i) a8 (up3 s (alt i))) (i:Nat) (B:i<=s.length): eN tbl ea [.ptr 0 0,.d tI (d:Int)] (TL s i) bC (up3 s (nT num s alt i)):=by
 refine xI (λ_=>rfl) (aB D8 rfl (λO m=>Eg O m (d:Int) s (i:Int)) ?_);unfold rQ;refine ak (Fx s i) ?_;dsimp only;refine ar (λh=>?_) λu=>?_;·have h:=eqT (b:=46) h;have a:=my (s:=s) (i:=i) (by omega);rw[aD a (by omega),show nT num s alt i=some (.mk 2 0 0 [],i+1) by unfold nT;grind];exact aa rfl
 have u:=eqF (b:=46) u;refine ar (λh=>?_) λg=>?_;·have h:=eqT (b:=33) h;have a:=my (s:=s) (i:=i) (by omega);rw[aD a (by omega),show nT num s alt i=some (.mk 4 0 0 [],i+1) by unfold nT;grind];exact aa rfl
 have g:=eqF (b:=33) g;refine ar (λe=>?_) λe=>?_
 ·have e:=eqT (b:=91) e;have a:=my (s:=s) (i:=i) (by omega);have hp:nT num s alt i=match num (i+1)with
   |none=>none
   |some (lo,j)=>if pk s j=45 then(match num (j+1)with
    |none=>none
    |some (up,k)=>if pk s k=93 then some (.mk 1 lo up [],k+1)else none)else none:=by
   unfold nT
   grind
  rw[aD a (by omega),hp];refine lg (hc (i+1) (by omega)) ?_;cases w:num (i+1)with
  |none=>exact aa rfl|some x=>
   obtain⟨lo,j⟩:=x;have C:=hn.bnd _ _ _ (by omega) w;show Wp (λn=>g_ (m8 (zr tbl n) bK [.ptr 0 0,.d tY (45:Int)] (TL s j) bk) _) _;refine lg (Qp s hs j 45 (by simp)) ?_;by_cases p:pk s j=45
   ·have f:=my (s:=s) (i:=j) (by omega);simp only[if_pos p];show Wp (λn=>g_ (m8 (zr tbl n) bg [.ptr 0 0] (TL s (j+1)) q_regex_parser_number_r) _) _;refine lg (hc (j+1) (by omega)) ?_;cases D:num (j+1)with
    |none=>exact aa rfl|some y=>
     obtain⟨up,k⟩:=y;show Wp (λn=>g_ (m8 (zr tbl n) bK [.ptr 0 0,.d tY (93:Int)] (TL s k) bk) _) _;refine lg (Qp s hs k 93 (by simp)) ?_;by_cases v:pk s k=93;·simp only[if_pos v];exact aa rfl
     ·simp only[if_neg v];exact aa rfl
   ·simp only[if_neg p];exact aa rfl
 have e:=eqF (b:=91) e;refine ar (λc=>?_) λc=>?_
 ·have c:=eqT (b:=40) c;have a:=my (s:=s) (i:=i) (by omega);rw[aD a (by omega)];refine ak (Fx s (i+1)) ?_;dsimp only;refine ar (λh=>?_) λh=>?_;·have h:=eqT (b:=41) h;have f:=my (s:=s) (i:=i+1) (by omega);rw[aD f (by omega),show nT num s alt i=some (.mk 0 0 0 [],i+2) by unfold nT;grind];exact aa rfl
  ·have h:=eqF (b:=41) h;have hp:nT num s alt i=match alt (i+1)with
    |none=>none
    |some (r,j)=>if pk s j=41 then some (r,j+1)else none:=by
    unfold nT
    grind
   rw[hp,show h_ .i64 ((d:Int)+1)=((d+1:Nat):Int) by rw[wrap_i64 (by omega) (by omega)];rfl];refine lg (z (i+1) (by omega)) ?_;cases w:alt (i+1)with
   |none=>exact aa rfl|some x=>
    obtain⟨r,j⟩:=x;show Wp (λn=>g_ (m8 (zr tbl n) bK [.ptr 0 0,.d tY (41:Int)] (TL s j) bk) _) _;refine lg (Qp s hs j 41 (by simp)) ?_;by_cases l:pk s j=41;·simp only[if_pos l];refine aa ?_;rw[DU];rfl
    ·simp only[if_neg l];exact aa rfl
 ·have c:=eqF (b:=40) c;have hp:nT num s alt i=match num i with
   |none=>none
   |some (n,j)=>some (.mk 1 n n [],j):=by
   unfold nT
   grind
  rw[hp];refine lg (hc i B) ?_;cases w:num i with|none=>exact aa rfl|some x=>exact aa rfl
def zkp(s:List UInt8)(one:Nat->Option (Rx×Nat))(i:Nat):Option (Rx×Nat):=match one i with
 |none=>none
 |some (r,j)=>if pk s j=42 then some (.mk 5 0 0 [r],j+1)else if pk s j=43 then some (.mk 6 0 0 [r],j+1)else if pk s j=63 then some (.mk 7 0 0 [r],j+1)else some (r,j)
theorem zkD(hs:s.length<=1048576){one:Nat->Option (Rx×Nat)}(d:Nat)(f:∀i,i<=s.length->eN tbl ea [.ptr 0 0,.d tI (d:Int)] (TL s i) bC (up3 s (one i)))(i:Nat)(g:i<=s.length): eN tbl cE [.ptr 0 0,.d tI (d:Int)] (TL s i) bm (up3 s (zkp s one i)):=by
 refine xI (λ_=>rfl) (aB D9 rfl (λO m=>Eh O m (d:Int) s (i:Int)) ?_);unfold rR zkp;refine lg (f i g) ?_;cases p:one i with
 |none=>exact aa rfl|some x=>
  obtain⟨r,j⟩:=x;simp only;have key:∀(k:Int),j<s.length->some (ej bm (Rx.mk k 0 0 [Rx.mk r.out.1 r.out.2.1 r.out.2.2.1 r.out.2.2.2.1],s,h_ .i64 ((j:Int)+1),()))=(up3 s (some (.mk k 0 0 [r],j+1))).map (ej bm):=λk l=>by rw[DU,aD l (by omega)];rfl
  show Wp (λn=>g_ (g_ (au (zr tbl n) bz [.ptr 0 0] (TL s j) bd) _) _) _;refine ae (ak (Fx s j) ?_);dsimp only;refine ar (λh=>aa (aa ?_)) λa=>?_;·have h:=eqT (b:=42) h;rw[if_pos h];exact key 5 (my (by omega))
  have a:=eqF (b:=42) a;refine ar (λh=>aa (aa ?_)) λc=>?_;·have h:=eqT (b:=43) h;rw[if_neg a,if_pos h];exact key 6 (my (by omega))
  have c:=eqF (b:=43) c;refine ar (λh=>aa (aa ?_)) λe=>aa (aa ?_);·have h:=eqT (b:=63) h;rw[if_neg a,if_neg c,if_pos h];exact key 7 (my (by omega))
  ·have e:=eqF (b:=63) e;rw[if_neg a,if_neg c,if_neg e];show some (ej bm (Rx.mk r.out.1 r.out.2.1 r.out.2.2.1 r.out.2.2.2.1,s,(j:Int),()))=_;rw[DU];rfl
theorem UP(hs:s.length<=1048576){one:Nat->Option (Rx×Nat)}(z:Bnd s one)(d:Nat)(y:∀i,i<=s.length->eN tbl cE [.ptr 0 0,.d tI (d:Int)] (TL s i) bm (up3 s (one i)))(T:Option (List Rx×Nat))(r:Rx)(i f:Nat)(A:i<=s.length)(w:1<=i)(u:s.length<=f+i)(c:(if pk s i=32 then rp s 32 one f [r] (i+1)else some ([r],i))=T): Wp (λn=>aR n (dG (zr tbl n) n (d:Int)) (s,(i:Int),(0:Int),(0:Int),(0:Int),([r]:List Rx),())) λt=>match t with | .inl _=>T=none | .inr t=>∃(a:List Rx) (j:Nat),t=(s,(j:Int),(0:Int),(0:Int),(0:Int),a,())/\T=some (a,j):=by
 refine Ev.wp_loop (λt=>∃(a:List Rx) (j f:Nat),t=(s,(j:Int),(0:Int),(0:Int),(0:Int),a,())/\j<=s.length/\a.length<=j/\s.length<=f+j/\(if pk s j=32 then rp s 32 one f a (j+1)else some (a,j))=T) (λt=>s.length - t.2.1.toNat) ⟨[r],i,f,rfl,A,w,u,c⟩ ?_;rintro t ⟨a,j,f,rfl,C,p,u,c⟩;unfold dG;refine ak (Fx s j) ?_;dsimp only;refine ar (λh=>?_) λh=>aa ⟨a,j,rfl,?_⟩;·have h:=eqT (b:=32) h;have l:=my (s:=s) (i:=j) (by omega);rw[if_pos h]at c;rw[aD l (by omega)];refine lg (y (j+1) (by omega)) ?_;obtain⟨f2,rfl⟩:∃g,f=g+1:=⟨f - 1,by omega⟩;rw[rp]at c;cases e:one (j+1)with|none=>rw[e]at c;exact aa c.symm|some x=>obtain⟨r2,k⟩:=x;obtain⟨B,v,_⟩:=z _ _ _ (by omega) e;rw[e]at c;simp only at c;refine aI (decide_eq_true ?_) (aa ⟨⟨a++[r2],k,f2,rfl,v,?_,by omega,c⟩,?_⟩);all_goals grind
 grind
theorem LM(hs:s.length<=1048576){one:Nat->Option (Rx×Nat)}(z:Bnd s one)(d:Nat)(y:∀i,i<=s.length->eN tbl bM [.ptr 0 0,.d tI (d:Int)] (TL s i) bl (up3 s (one i)))(T:Option (List Rx×Nat))(r:Rx)(i f:Nat)(A:i<=s.length)(w:1<=i)(u:s.length<=f+i)(c:(if pk s i=124 then rp s 124 one f [r] (i+1)else some ([r],i))=T): Wp (λn=>aR n (cO (zr tbl n) n (d:Int)) (s,(i:Int),(0:Int),(0:Int),(0:Int),([r]:List Rx),())) λt=>match t with | .inl _=>T=none | .inr t=>∃(a:List Rx) (j:Nat),t=(s,(j:Int),(0:Int),(0:Int),(0:Int),a,())/\T=some (a,j):=by
 refine Ev.wp_loop (λt=>∃(a:List Rx) (j f:Nat),t=(s,(j:Int),(0:Int),(0:Int),(0:Int),a,())/\j<=s.length/\a.length<=j/\s.length<=f+j/\(if pk s j=124 then rp s 124 one f a (j+1)else some (a,j))=T) (λt=>s.length - t.2.1.toNat) ⟨[r],i,f,rfl,A,w,u,c⟩ ?_;rintro t ⟨a,j,f,rfl,C,p,u,c⟩;unfold cO;refine ak (Fx s j) ?_;dsimp only;refine ar (λh=>?_) λh=>aa ⟨a,j,rfl,?_⟩;·have h:=eqT (b:=124) h;have l:=my (s:=s) (i:=j) (by omega);rw[if_pos h]at c;rw[aD l (by omega)];refine lg (y (j+1) (by omega)) ?_;obtain⟨f2,rfl⟩:∃g,f=g+1:=⟨f - 1,by omega⟩;rw[rp]at c;cases e:one (j+1)with|none=>rw[e]at c;exact aa c.symm|some x=>obtain⟨r2,k⟩:=x;obtain⟨B,v,_⟩:=z _ _ _ (by omega) e;rw[e]at c;simp only at c;refine aI (decide_eq_true ?_) (aa ⟨⟨a++[r2],k,f2,rfl,v,?_,by omega,c⟩,?_⟩);all_goals grind
 grind
theorem zc0(hs:s.length<=1048576){one:Nat->Option (Rx×Nat)}(c:Bnd s one)(d:Nat)(a:∀i,i<=s.length->eN tbl cE [.ptr 0 0,.d tI (d:Int)] (TL s i) bm (up3 s (one i)))(i:Nat)(e:i<=s.length): eN tbl bM [.ptr 0 0,.d tI (d:Int)] (TL s i) bl (up3 s (UQ s 32 3 one i)):=by
 refine xI (λ_=>rfl) (aB zg rfl (λO m=>zq O m (d:Int) s (i:Int)) ?_);unfold nF UQ;refine lg (a i e) ?_;obtain⟨f,w⟩:∃f,s.length+1 - i=f+1:=⟨s.length - i,by omega⟩;rw[w,rp];cases u:one i with
 |none=>exact aa rfl|some x=>
  obtain⟨r,j⟩:=x;obtain⟨y,p,_⟩:=c _ _ _ e u;simp only[A_];show Wp (λn=>g_ (aR n (dG (zr tbl n) n (d:Int)) (s,(j:Int),(0:Int),(0:Int),(0:Int),([r]:List Rx),())) _) _;refine ae (Ev.wp_mono (UP hs c d a _ r j f p (by omega) (by omega) rfl) ?_);rintro(t|t) g;·rw[show _=none from g];exact aa rfl
  ·obtain⟨l,k,rfl,v⟩:=g;rw[v];refine ar (λh=>?_) λh=>aa ?_;·have h:=eqT (b:=1) h;obtain⟨x,rfl⟩:=J_.1 h;refine mU (by simp) rfl (NM rfl (aa ?_));rw[DU];rfl
   ·have h:=eqF (b:=1) h;simp only;rw[LC h];rfl
theorem Qm(hs:s.length<=1048576){one:Nat->Option (Rx×Nat)}(c:Bnd s one)(d:Nat)(w:d<=32)(a:∀i,i<=s.length->eN tbl bM [.ptr 0 0,.d tI (d:Int)] (TL s i) bl (up3 s (one i)))(i:Nat)(e:i<=s.length): eN tbl be [.ptr 0 0,.d tI (d:Int)] (TL s i) a8 (up3 s (UQ s 124 4 one i)):=by
 refine xI (λ_=>rfl) (aB lc rfl (λO m=>lh O m (d:Int) s (i:Int)) ?_);unfold eY UQ;refine ae (aA (decide_eq_false (by omega)) (aa ?_));show Wp (λn=>g_ (m8 (zr tbl n) bM [.ptr 0 0,.d tI (d:Int)] (TL s i) bl) _) _;refine lg (a i e) ?_;obtain⟨f,y⟩:∃f,s.length+1 - i=f+1:=⟨s.length - i,by omega⟩;rw[y,rp];cases u:one i with
 |none=>exact aa rfl|some x=>
  obtain⟨r,j⟩:=x;obtain⟨z,p,_⟩:=c _ _ _ e u;simp only[A_];show Wp (λn=>g_ (aR n (cO (zr tbl n) n (d:Int)) (s,(j:Int),(0:Int),(0:Int),(0:Int),([r]:List Rx),())) _) _;refine ae (Ev.wp_mono (LM hs c d a _ r j f p (by omega) (by omega) rfl) ?_);rintro(t|t) g;·rw[show _=none from g];exact aa rfl
  ·obtain⟨l,k,rfl,v⟩:=g;rw[v];refine ar (λh=>?_) λh=>aa ?_;·have h:=eqT (b:=1) h;obtain⟨x,rfl⟩:=J_.1 h;refine mU (by simp) rfl (NM rfl (aa ?_));rw[DU];rfl
   ·have h:=eqF (b:=1) h;simp only;rw[LC h];rfl
theorem ziZ(i:Nat):eN tbl be [.ptr 0 0,.d tI (33:Int)] (TL s i) a8 none:=by refine xI (λ_=>rfl) (aB lc rfl (λO m=>lh O m (33:Int) s (i:Int)) ?_);unfold eY;exact ae (aL rfl (aa (aa rfl)))
theorem zgF(hs:s.length<=1048576){num:Nat->Option (Int×Nat)}(hn:NumOk s num)(hc:∀i,i<=s.length->eN tbl bg [.ptr 0 0] (TL s i) q_regex_parser_number_r ((num i).map λx=>(x.1,s,(x.2:Int),()))):
 ∀(b d:Nat),d+b=33->∀i,i<=s.length->eN tbl be [.ptr 0 0,.d tI (d:Int)] (TL s i) a8 (up3 s (LP num s b i))
 |0,d,h,i,_=>by
  have:d=33:=by omega
  subst this;exact ziZ i
 |b+1,d,h,i,g=>by have a:=Xm hn b;have c:=zkB hs hn hc a d (by omega) (zgF hs hn hc b (d+1) (by omega));have e:=zkD hs d c;have f:=zc0 hs (QV hn a) d e;exact Qm hs (Xn (QV hn a) (by simp) 3) d (by omega) f i g
end
def Rd(s:List UInt8)(one:Nat->Option (Rx×Nat))(C:Nat->Rx->Bool->Nat->Prop):Prop:=∀i,i<=s.length->∃(r:Rx) (ok:Bool) (j:Nat),(i<=j/\j<=s.length)/\one i=(if ok then some (r,j)else none)/\C i r ok j
section
variable {s:List UInt8}
theorem Rd.imp{one z:Nat->Option (Rx×Nat)}{C:Nat->Rx->Bool->Nat->Prop}(h:Rd s one C)(M:∀i,i<=s.length->one i=z i):Rd s z C:=λi E=>by obtain⟨r,ok,j,H,I,J⟩:=h i E;grind
end
def ParsedX(s:List UInt8)(c:Rx×Int×Unit):Prop:=(∃r,yf r=0/\pG r=s/\c=(r,0,()))\/((∀r,yf r=0->pG r≠s)/\c=(.mk 0 0 0 [],2,()))
theorem WT{r:Rx}(h:yf r=0):om r=true/\sz r<=64/\Y3 r<=16:=by obtain⟨a,b⟩:=V3 h;have:=zju r 1 0 h;exact⟨a,b,by omega⟩
theorem zbN{num:Nat->Option (Int×Nat)}{s:List UInt8}(hn:NumOk s num){b:Nat}(d:16<=b){r:Rx}(h:yf r=0)(hp:pG r=s):LP num s b 0=some (r,s.length):=by obtain⟨a,_,c⟩:=WT h;subst hp;exact zf6 hn a (by omega)
theorem zh4:∀(r:Rx),om r=true->sz r<=1000->zh3 r:=by
 refine DV λk lo up ks c b hs=>?_;obtain⟨nd,a⟩:=well_iff.1 b;have hl:=Qj ks;simp only[sz]at hs;have d:lo=0/\up=0\/0<=lo/\lo<=up/\up<=4294967295:=by
  by_cases e:k=1;·exact .inr (nd.rng e)
  ·exact .inl (nd.zero e)
 have f:=nd.known;have g:IntKind.i64.min= -9223372036854775808:=rfl;have h:IntKind.i64.max=9223372036854775807:=rfl;refine⟨⟨by omega,by omega⟩,⟨by omega,by omega⟩,⟨by omega,by omega⟩,ab_ (show ks.length<=1000 by omega) (by decide),(Nt ks).2 λr hr=>c r hr (a r hr) (by have:=HN hr;omega)⟩
theorem ParsedX.ok{s:List UInt8}{c:Rx×Int×Unit}(h:ParsedX s c):zh3 c.1:=by
 rcases h with⟨r,z,_,rfl⟩|⟨_,rfl⟩;·obtain⟨C,E,_⟩:=WT z;exact zh4 r C (by omega)
 ·exact⟨by decide,by decide,by decide,by simp,trivial⟩
theorem To(s:List UInt8)(hs:s.length<=1048576):∃c:Rx×Int×Unit,ParsedX s c/\aE tbl uC [.d tS s] [] io c:=by
 obtain⟨num,hn,hc⟩:=zlx s hs;refine B1 (sh:=io) (λ_=>rfl) (zhg Vm rfl (λO n=>VO O n s) ?_);unfold Je;refine lg (zgF hs hn hc 33 0 rfl 0 (ae_ _)) ?_;cases e:LP num s 33 0 with
 |none=>refine aa ⟨_,rfl,.inr ⟨λr hr hp=>?_,rfl⟩⟩;rw[zbN hn (by simp) hr hp]at e;grind|some x=>
  obtain⟨r,j⟩:=x;obtain⟨k,l,p⟩:=Xm hn 33 0 r j (ae_ _) e;have g:∀a,yf a=0->pG a=s->a=r:=λa d f=>by rw[zbN hn (by simp) d f]at e;grind
  show Wp (λn=>g_ (g_ (au (zr tbl n) mH [.d .rx (Rx.mk r.out.1 r.out.2.1 r.out.2.2.1 r.out.2.2.2.1)] [] j6) _) _) _;rw[DU];refine ae (ak (Tp r (by omega)) (ae (ba (b:= !(pG r==s)) (λh=>aa ?_) ?_)));·grind
  ·refine ar (λh=>aa (aa ⟨_,rfl,.inr ⟨λa d f=>?_,rfl⟩⟩)) λh=>aa (aa ⟨_,rfl,.inl ⟨r,?_,?_,?_⟩⟩);·grind
   ·grind
   ·grind
   ·show(Rx.mk r.out.1 r.out.2.1 r.out.2.2.1 r.out.2.2.2.1,(0:Int),())=_;rw[DU]
open Go Go.Av Go.Ev Go.Pl
theorem CF{α β:Type}{m:Option α}{a:α}{f:Nat->α->Option β}{Q:β->Prop}(h:m=some a)(k:Wp (λn=>f n a) Q):Wp (λn=>g_ m (f n)) Q:=by grind
open Classical in
noncomputable def zA(s:List UInt8):Int:=if ∃r,yf r=0/\pG r=s then 0 else 2
theorem zjQ{s:List UInt8}{c:Rx×Int×Unit}(h:ParsedX s c):c.2.1=zA s:=by
 unfold zA;rcases h with⟨r,a,b,rfl⟩|⟨a,rfl⟩;·rw[if_pos ⟨r,a,b⟩]
 grind
theorem Ek(s:List UInt8)(hs:s.length<=9223372036854775807):aE tbl mh [.d tS s] [] gh (wR s,()):=by
 refine ap rfl (aB Pt rfl (λO n=>PN O n s) ?_);unfold Eu;refine ae (oW (xs:=s) (P:=λc=>R0 c=true) (e:=(false,())) (g:=()) (λi a=>?_) ?_ (λh=>?_) λh=>?_);·unfold rX;refine bo a (aG a ?_);refine ae (bi (b:=decide ((s[i].toNat:Int)<=122)) (λ_=>aa rfl) ?_);refine ae (ba (b:=decide ((s[i].toNat:Int)>=65)&&decide ((s[i].toNat:Int)<=90)) (λ_=>ae (bi (b:=decide ((s[i].toNat:Int)<=90)) (λ_=>aa rfl) (aa rfl))) ?_);refine ae (ba (b:=decide ((s[i].toNat:Int)>=48)&&decide ((s[i].toNat:Int)<=57)) (λ_=>ae (bi (b:=decide ((s[i].toNat:Int)<=57)) (λ_=>aa rfl) (aa rfl))) ?_);refine ae (ba (b:=((s[i].toNat:Int)==45)) (λ_=>aa rfl) (cj ?_ (by rw[aD a hs])));show(!R0 s[i])=true↔_;cases R0 s[i]<;>simp
 ·unfold rX;exact aZ (aa rfl)
 ·refine ae (bi (b:=decide ((s.length:Int)<=32)) (λ_=>aa rfl) (aa ?_));have e:wR s=(decide ((s.length:Int)>=1)&&decide ((s.length:Int)<=32)):=by unfold wR;rw[S_.2 h,y_];congr 1<;>exact decide_eq_decide.2 (by omega)
  rw[e]
 ·refine aa ?_;have e:wR s=false:=by
   unfold wR;cases e:s.all R0;·rfl
   ·exact absurd (S_.1 e) h
  rw[e]
theorem rJ(l:List (List UInt8))(i:Nat)(f:i<l.length)(hl:l.length<=9223372036854775807)(hs:l[i].length<=9223372036854775807): aE tbl ix [.d (.list tS) ((l.take (C_ (i:Int))).drop 0),.d tS l[i]] [] dD (BA l i,()):=by
 refine ap rfl (aB SE rfl (λO n=>S3 O n _ _) ?_);unfold FI;rw[X_,r_];have d:BA l i=if wR l[i]=false then 1 else if 0<i/\zdJ l[i] (l.getD (i - 1) [])=true then 16 else 0:=by unfold BA;grind
 have a:(l.take i).length=i:=by grind
 refine ak (Ek l[i] hs) (ar (λh=>aa ?_) λh=>?_);·grind
 have hn:¬wR l[i]=false:=by grind
 refine ae (bi (b:=zdJ l[i] (l.getD (i - 1) [])) (λc=>?_) (ar (λh=>aa ?_) λh=>aa ?_))
 ·have c:=of_decide_eq_true c;rw[a]at c⊢;have e:h_ .i64 ((i:Int) - 1)=((i - 1:Nat):Int):=by rw[wrap_i64 (by omega) (by omega)];omega
  rw[e];refine Mq (x:=l.getD (i - 1) []) ?_ (aa rfl);grind
 all_goals grind
abbrev yN:Ty:=pr [.list tS,.list tS,.list tS,.list tS]
def cF(s:PS):yN.den:=(s.1.map (·.1),s.2.1.map (·.1),s.2.2.1.map (·.1),s.2.2.2.1.map (·.1),())
theorem HO{α β:Type}{f:α->β}{l:List α}{i:Nat}(a:i<l.length):(l.take i).map f++[f l[i]]=(l.take (i+1)).map f:=by rw[<-List.take_append_getElem a,V_];rfl
theorem Qq(s:PS)(c:s.1.length<=1048576)(d:s.2.1.length<=1048576)(e:s.2.2.1.length<=1048576)(g:s.2.2.2.1.length<=1048576):aE tbl r9 [.d yS s] [] nX (cF s,()):=by
 refine ap rfl (aB SF rfl (λO n=>S4 O n s) ?_);unfold FJ;have hg:∀{α:Type} {l:List α} {f:α->List UInt8} {i:Nat},i<l.length->l.length<=1048576->decide ((((l.take i).map f).length+1)*16<=140737488355328)=true:=fun{α l f i} a hl=>by grind
 refine ae (cp (N:=s.1.length) (I:=λi t=>t=((i:Int),(s.1.take i).map (·.1),())) rfl (λi t a b=>?_) λt b=>?_);·subst b;unfold tK;refine bo a (aG a (aI rfl (aI (hg a c) (aI rfl (aa ?_)))));simp only;rw[aD a (by omega),HO (f:=λx:PLS=>x.1) a]
 subst b;unfold tK;refine aZ (aa ?_);rw[j_ (v_ _)];refine ae (cp (N:=s.2.1.length) (I:=λi t=>t=((i:Int),s.1.map (·.1),(s.2.1.take i).map (·.1),())) rfl (λi t a b=>?_) λt b=>?_);·subst b;unfold tL;refine bo a (aG a (aI rfl (aI (hg a d) (aI rfl (aa ?_)))));simp only;rw[aD a (by omega),HO (f:=λx:HLS=>x.1) a]
 subst b;unfold tL;refine aZ (aa ?_);rw[j_ (v_ _)];refine ae (cp (N:=s.2.2.1.length) (I:=λi t=>t=((i:Int),s.1.map (·.1),s.2.1.map (·.1),(s.2.2.1.take i).map (·.1),())) rfl (λi t a b=>?_) λt b=>?_);·subst b;unfold tM;refine bo a (aG a (aI rfl (aI (hg a e) (aI rfl (aa ?_)))));simp only;rw[aD a (by omega),HO (f:=λx:CLS=>x.1) a]
 subst b;unfold tM;refine aZ (aa ?_);rw[j_ (v_ _)];refine ae (cp (N:=s.2.2.2.1.length) (I:=λi t=>t=((i:Int),s.1.map (·.1),s.2.1.map (·.1),s.2.2.1.map (·.1),(s.2.2.2.1.take i).map (·.1),())) rfl (λi t a b=>?_) λt b=>?_);·subst b;unfold tN;refine bo a (aG a (aI rfl (aI (hg a g) (aI rfl (aa ?_)))));simp only;rw[aD a (by omega),HO (f:=λx:POL=>x.1) a]
 subst b;unfold tN;refine aZ (aa (aa ?_));rw[j_ (v_ _)];rfl
theorem cY(n a b:Int):aE tbl ct [.d tI n,.d tI a,.d tI b] [] ca (decide (a<=n)&&decide (n<=b),()):=by refine ap rfl (aB Pv rfl (λO k=>PP O k n a b) ?_);unfold Ew;exact ae (bi (b:=decide (n<=b)) (λ_=>aa rfl) (aa rfl))
theorem rI(l:List (List UInt8))(n:List UInt8)(hl:l.length<=9223372036854775807):aE tbl m4 [.d (.list tS) l,.d tS n] [] fS (l.any (·==n),()):=by
 refine ap rfl (aB Mh rfl (λO k=>Mw O k l n) ?_);unfold zQ;refine ae (AU (xs:=l) (p:=(·==n)) (g:=λ_=>(true,())) (e:=()) (λi r c=>?_) ?_ ?_)
 ·unfold pm;have a:=(l_.1 c).1;refine bo a (Mq c (ar (λh=>aa ?_) λh=>aa ?_));·grind
  ·rw[if_neg (by grind),aD a hl]
 ·unfold pm;exact aZ (aa rfl)
 ·cases e:l.find? (·==n)with
  |some r=>have b:l.any (·==n)=true:=T_.2 ⟨r,List.mem_of_find?_eq_some e,List.find?_some (p:=(·==n)) e⟩;rw[b];exact aa rfl|none=>
   have b:l.any (·==n)=false:=by grind
   rw[b];exact aa rfl
theorem Ci(k N d pl:Int)(nm:List UInt8)(e:Bool):(true ^^ iX yM (k,nm,N,(d,pl,()),e,()) (k,nm,0,(0,0,()),e,()))=true↔(N≠0\/d≠0\/pl≠0):=by by_cases a:N=0<;>by_cases b:d=0<;>by_cases c:pl=0<;>simp[iX,a,b,c]
theorem zhR(k N d pl:Int)(nm:List UInt8)(e:Bool):(true ^^ iX yM (k,nm,N,(d,pl,()),e,()) (k,[],N,(0,0,()),e,()))=true↔(nm≠[]\/d≠0\/pl≠0):=by by_cases a:nm=[]<;>by_cases b:d=0<;>by_cases c:pl=0<;>simp[iX,a,b,c]
theorem zhQ(k N d pl:Int)(nm:List UInt8)(c:Bool):(true ^^ iX yM (k,nm,N,(d,pl,()),c,()) (k,[],0,(d,pl,()),c,()))=true↔(nm≠[]\/N≠0):=by by_cases a:nm=[]<;>by_cases b:N=0<;>simp[iX,a,b]
theorem vI{b:Bool}{P:Prop}(h:b=false)(e:b=true↔P):¬P:=λp=>by rw[e.2 p]at h;cases h
theorem HS(s:PS)(m:MAT)(hs:okD yS s)(H:oQ m.2.2.2.1.1):aE tbl kj [.d yN (cF s),.d yM m] [] bI (Ch s m,()):=by
 obtain⟨k,nm,N,⟨d,pl,⟨⟩⟩,g,⟨⟩⟩:=m;refine ap rfl (aB Iw rfl (λO n=>IK O n (cF s) (k,nm,N,(d,pl,()),g,())) ?_);unfold wJ;refine ae (ae ?_);have j:(s.1.map (·.1)).length<=9223372036854775807:=by rw[f_];exact hs.1.1
 have l:(s.2.1.map (·.1)).length<=9223372036854775807:=by rw[f_];exact hs.2.1.1
 have p:(s.2.2.1.map (·.1)).length<=9223372036854775807:=by rw[f_];exact hs.2.2.1.1
 by_cases u:k=1
 ·subst u;rw[yy (.inl rfl)];have c:(s.1.map (·.1)).any (·==nm)=zdz s 1 nm:=by rw[P_];rfl
  refine aL rfl (aa (aL rfl (ar (λh=>aa (aa ?_)) λh=>?_)));·rw[if_pos ((Ci _ _ _ _ _ _).1 h)]
  ·rw[if_neg (vI h (Ci _ _ _ _ _ _))];refine CF (a:=s.1.map (·.1)) rfl (ak (rI _ nm j) ?_);rw[c];refine ar (λh=>aa (aa ?_)) λh=>aa (aa ?_);all_goals grind
 by_cases v:k=2
 ·subst v;rw[yy (.inr (.inl rfl))];have c:(s.2.1.map (·.1)).any (·==nm)=zdz s 2 nm:=by rw[P_];rfl
  refine aA rfl (aL rfl (aa (aL rfl (ar (λh=>aa (aa ?_)) λh=>?_))));·rw[if_pos ((Ci _ _ _ _ _ _).1 h)]
  ·rw[if_neg (vI h (Ci _ _ _ _ _ _))];refine CF (a:=s.2.1.map (·.1)) rfl (ak (rI _ nm l) ?_);rw[c];refine ar (λh=>aa (aa ?_)) λh=>aa (aa ?_);all_goals grind
 by_cases w:k=3
 ·subst w;rw[yy (.inr (.inr rfl))];have c:(s.2.2.1.map (·.1)).any (·==nm)=zdz s 3 nm:=by rw[P_];rfl
  refine aA rfl (aA rfl (aa (aL rfl (ar (λh=>aa (aa ?_)) λh=>?_))));·rw[if_pos ((Ci _ _ _ _ _ _).1 h)]
  ·rw[if_neg (vI h (Ci _ _ _ _ _ _))];refine CF (a:=s.2.2.1.map (·.1)) rfl (ak (rI _ nm p) ?_);rw[c];refine ar (λh=>aa (aa ?_)) λh=>aa (aa ?_);all_goals grind
 refine aA (beq_eq_false_iff_ne.2 u) (aA (beq_eq_false_iff_ne.2 v) (aa (aA (beq_eq_false_iff_ne.2 w) ?_)));by_cases B:k=7
 ·subst B;rw[zbv];refine aL rfl (ae (ba (b:= !kb (d,pl,())) (λ_=>ak (nB (d,pl,()) H) (aa rfl)) ?_));refine ar (λh=>aa (aa ?_)) λh=>aa (aa ?_)
  ·by_cases e:nm≠[]\/N≠0;·grind
   ·rw[if_neg e,if_neg];intro h';rcases Bool.or_eq_true_iff.1 h with h|h;·exact e ((zhQ _ _ _ _ _ _).1 h)
    grind
  ·simp only[c_]at h;rw[if_neg (vI h.1 (zhQ _ _ _ _ _ _)),if_pos (by grind)]
 refine aA (beq_eq_false_iff_ne.2 B) ?_;have num:∀lo f:Int,(k=4\/k=5\/k=6\/k=8)->zhH k=lo->zbg k=f->Wp (λn=>
  bif (true ^^ iX yM (k,nm,N,(d,pl,()),g,()) (k,([]:List UInt8),N,((0:Int),(0:Int),()),g,()))then aC bI ((1:Int),())else
  g_ (au (zr tbl n) ct [.d tI N,.d tI lo,.d tI f] [] ca) λr=>
  bif (!r.1)then aC bI ((5:Int),())else aC bI ((0:Int),()))
  (λx=>x=some (ej bI (Ch s (k,nm,N,(d,pl,()),g,()),()))):=λlo f F D E=>by
  rw[zbw F,D,E]
  refine ar (λh=>aa ?_) λh=>?_
  ·rw[if_pos ((zhR _ _ _ _ _ _).1 h)]
  ·rw[if_neg (vI h (zhR _ _ _ _ _ _))];refine ak (cY N lo f) (ar (λh=>aa ?_) λh=>aa ?_);all_goals grind
 by_cases y:k=4;·subst y;exact aL rfl (aa (num 1 7 (by simp) rfl rfl))
 by_cases A:k=6;·subst A;exact aA rfl (aL rfl (aa (num 0 16777216 (by simp) rfl rfl)))
 by_cases C:k=8;·subst C;exact aA rfl (aA rfl (aL rfl (aa (num 0 2000 (by simp) rfl rfl))))
 by_cases z:k=5;·subst z;exact aA rfl (aA rfl (aA rfl (aL rfl (aa (num 0 4294967295 (by simp) rfl rfl)))))
 refine aA (beq_eq_false_iff_ne.2 y) (aA (beq_eq_false_iff_ne.2 A) (aA (beq_eq_false_iff_ne.2 C) (aA (beq_eq_false_iff_ne.2 z) (aa (aa ?_)))));rw[zhM (show k<1\/8<k by omega)]
theorem ne_eqD{a b:EU}:(true ^^ iX yA a b)=true↔¬a=b:=by rw[<-zeB];cases iX yA a b<;>simp
theorem Fy(a:EU):aE tbl ja [.d yA a] [] bE (lu a,()):=by
 refine ap rfl (aB GV rfl (λO n=>He O n a) ?_);unfold vh;refine ae (ae ?_);by_cases y:a.1<1\/8<a.1;·have j:∀k:Int,1<=k->k<=8->(a.1==k)=false:=λk l p=>beq_eq_false_iff_ne.2 (by omega);refine aA (j 1 (by simp) (by simp)) (aA (j 2 (by simp) (by simp)) (aa (aA (j 4 (by simp) (by simp)) (aA (j 3 (by simp) (by simp)) (aA (j 5 (by simp) (by simp)) ?_)))));refine ae (aA (j 6 (by simp) (by simp)) (aa (aA (j 7 (by simp) (by simp)) (aA (j 8 (by simp) (by simp)) (aa (aa ?_))))));rw[show lu a=15 from if_pos y]
 have d:∀(only:EU) (f:Bool),sS a=only->p9 a=f->Wp (λ_=>bif (true ^^ iX yA a only)then aC bE ((1:Int),())else bif (!f)then aC bE ((5:Int),())else aC bE ((0:Int),())) (λx=>x=some (ej bE (lu a,()))):=λonly f l p=>by
  have e:lu a=if ¬a=only then 1 else if f=false then 5 else 0:=by unfold lu;grind
  rw[e]
  refine ar (λh=>aa ?_) λh=>ar (λh'=>aa ?_) λh'=>aa ?_
  ·rw[if_pos (ne_eqD.1 h)]
  ·rw[if_neg (λx=>by rw[ne_eqD.2 x]at h;grind),if_pos (by grind)]
  ·rw[if_neg (λx=>by rw[ne_eqD.2 x]at h;grind),if_neg (by grind)]
 have g:∀{k:Int},a.1≠k->(a.1==k)=false:=λh=>beq_eq_false_iff_ne.2 h;have c:∀{k:Int},a.1=k->(a.1==k)=true:=λh=>beq_iff_eq.2 h;by_cases l:a.1=1
 ·refine aL (c l) (aa (aL (c l) (ak (cY a.2.1 0 4294967295) (aa (d _ _ ?_ ?_)))));·unfold sS;grind
  ·unfold p9;grind
 refine aA (g l) ?_;by_cases p:a.1=2
 ·refine aL (c p) (aa (aL (c p) (ak (cY a.2.1 0 4294967295) (aa (d _ _ ?_ ?_)))));·unfold sS;grind
  ·unfold p9;grind
 refine aA (g p) (aa ?_);by_cases u:a.1=4
 ·refine aL (c u) (ak (cY a.2.1 0 4294967295) (aa (d _ _ ?_ ?_)));·unfold sS;grind
  ·unfold p9;grind
 refine aA (g u) ?_;by_cases s:a.1=3
 ·refine aL (c s) (ak (cY a.2.1 0 16777216) (aa (d _ _ ?_ ?_)));·unfold sS;grind
  ·unfold p9;grind
 refine aA (g s) ?_;by_cases v:a.1=5
 ·refine aL (c v) (aa (d _ _ ?_ ?_));·unfold sS;grind
  ·unfold p9;grind
 refine aA (g v) (ae ?_);by_cases r:a.1=6
 ·refine aL (c r) (aa (aL (c r) (aa (d _ _ ?_ ?_))));·unfold sS;grind
  ·unfold p9;grind
 refine aA (g r) (aa ?_);by_cases w:a.1=7
 ·refine aL (c w) (aa (d _ _ ?_ ?_));·unfold sS;grind
  ·unfold p9;grind
 refine aA (g w) (aL (c (by omega)) (ak (cY a.2.2.1 1 4294967295) ?_));refine ae (bi (b:=decide (1<=a.2.1)&&decide (a.2.1<=16)) (λ_=>ak (cY a.2.1 1 16) (aa rfl)) (aa (d _ _ ?_ ?_)));·unfold sS;grind
 ·unfold p9;grind
theorem CV(r:CRU):aE tbl gT [.d yC r] [] dj (sq r,()):=by
 refine ap rfl (aB D6 rfl (λO n=>Ee O n r) ?_);unfold rO;refine ak (cY r.2.1 (-1) 65535) (ae (ba (b:= !(decide (-1<=r.2.2.1)&&decide (r.2.2.1<=65535))) (λ_=>ak (cY r.2.2.1 (-1) 65535) (aa rfl)) ?_));refine ar (λh=>aa ?_) λh=>aa ?_;·rw[show sq r=5 from if_pos (by grind)]
 ·rw[show sq r=0 from if_neg (by grind)]
theorem zg2{α:Type}{p:α->Bool}{l:List α}:l.any p=(l.find? p).isSome:=by grind
theorem JO(s:PS)(hs:okD yS s)(a:List TRM)(t:TRM)(w:a.length<=9223372036854775807)(v:okD yT t):aE tbl lX [.d yN (cF s),.d (.list yT) a,.d yT t] [] bP (vP s a t,()):=by
 refine ap rfl (aB Kp rfl (λO n=>Kv O n (cF s) a t) ?_);unfold xX;have j:∀m∈t.2.1,oQ m.2.2.2.1.1:=λm j=>((v.2.1.2 m j).2.2.2.1).1;refine ak (Ek t.1 v.1) (ar (λh=>aa ?_) λh=>?_);·rw[show vP s a t=1 from if_pos (by grind)]
 have hn:¬wR t.1=false:=by grind
 refine ae (AU (xs:=a) (p:=(·.1==t.1)) (g:=λ_=>((7:Int),())) (e:=()) (λi r c=>?_) ?_ ?_)
 ·unfold nG;have d:=(l_.1 c).1;refine bo d (Mq c (ar (λh=>aa ?_) λh=>aa ?_));·grind
  ·rw[if_neg (by grind),aD d w]
 ·unfold nG;exact aZ (aa rfl)
 have b:a.any (·.1==t.1)=(a.find? (·.1==t.1)).isSome:=zg2;cases e:a.find? (·.1==t.1)with
 |some r=>rw[e]at b;refine aa ?_;have b:a.any (·.1==t.1)=true:=b;rw[show vP s a t=7 from by unfold vP;grind]|none=>
  rw[e]at b;have z:¬a.any (·.1==t.1)=true:=by grind
  refine ar (λh=>aa ?_) λh=>?_;·rw[show vP s a t=4 from by unfold vP;grind]
  have x:¬t.2.1.length>64:=by grind
  refine ae (me (l:=t.2.1) (f:=Ch s) (enc:=λi=>((i:Int),())) (oB:=λe=>(e,())) (oE:=()) (λi c=>?_) ?_ ?_)
  ·unfold nH;refine bo c (aG c (ak (HS s _ hs (j _ (a_ c))) (ar (λh=>aa ?_) λh=>aa ?_)));·grind
   ·rw[if_pos (by grind),aD c (by omega)]
  ·unfold nH;exact aZ (aa rfl)
  by_cases k:cq (Ch s) t.2.1=0
  ·rw[if_pos k];refine ar (λh=>aa ?_) λh=>?_;·rw[show vP s a t=4 from by unfold vP;grind]
   have y:¬t.2.2.1.length>64:=by grind
   refine ae (me (l:=t.2.2.1) (f:=lu) (enc:=λi=>((i:Int),())) (oB:=λe=>(e,())) (oE:=()) (λi c=>?_) ?_ ?_)
   ·unfold nI;refine bo c (aG c (ak (Fy _) (ar (λh=>aa ?_) λh=>aa ?_)));·grind
    ·rw[if_pos (by grind),aD c (by omega)]
   ·unfold nI;exact aZ (aa rfl)
   by_cases u:cq lu t.2.2.1=0
   ·rw[if_pos u];refine ak (cY t.2.2.2.1 1 3) (ar (λh=>aa ?_) λh=>aa ?_);·rw[show vP s a t=15 from by unfold vP;grind]
    ·rw[show vP s a t=0 from by unfold vP;grind]
   ·rw[if_neg u];refine aa ?_;rw[show vP s a t=cq lu t.2.2.1 from by unfold vP;grind]
  ·rw[if_neg k];refine aa ?_;rw[show vP s a t=cq (Ch s) t.2.1 from by unfold vP;grind]
def zgw(s:PS)(l:List TRM)(i:Nat):Int:=match l[i]? with|some t=>vP s (l.take i) t|none=>0
theorem zjW(s:PS)(p:POL):Cn s p=if qS (zgw s p.2.1) p.2.1.length≠0 then qS (zgw s p.2.1) p.2.1.length else if p.2.2.1≠1/\p.2.2.1≠2 then 15 else 0:=rfl
theorem ziT{s:PS}{l:List TRM}{i:Nat}(a:i<l.length):zgw s l i=vP s (l.take i) l[i]:=by unfold zgw;rw[b_ a]
theorem Fz(s:PS)(hs:okD yS s)(p:POL)(hp:okD yO p):aE tbl jb [.d yN (cF s),.d yO p] [] cU (Cn s p,()):=by
 refine ap rfl (aB GX rfl (λO n=>Hf O n (cF s) p) ?_);unfold vi;have hl:p.2.1.length<=9223372036854775807:=hp.2.1.1;refine ae (Kr (N:=p.2.1.length) (f:=zgw s p.2.1) (enc:=λi=>((i:Int),())) (oB:=λe=>(e,())) (oE:=()) (λi a=>?_) ?_ ?_)
 ·unfold lN;refine bo a (aG a (aI (decide_eq_true (by simp)) (aI (by grind) ?_)));rw[X_,r_];refine ak (JO s hs _ _ (by grind) (hp.2.1.2 _ (a_ a))) ?_;rw[<-ziT a];refine ar (λh=>aa ?_) λh=>aa ?_;·grind
  ·rw[if_pos (by grind),aD a hl]
 ·unfold lN;exact aZ (aa rfl)
 rw[zjW];by_cases e:qS (zgw s p.2.1) p.2.1.length=0;·rw[if_pos e,if_neg (not_not_intro e)];refine ae (bi (b:=(p.2.2.1 != 2)) (λ_=>aa rfl) (ar (λh=>aa ?_) λh=>aa ?_));all_goals grind
 ·rw[if_neg e,if_pos e];exact aa rfl
theorem zi5(v:List VU)(b:∀r∈v,oQ r.2.1.1)(i:Nat)(a:i<v.length):aE tbl eS [.d tI (i:Int),.ptr 0 0] [.box bY [.d (.list yR) v]] eV (qc v[i],v,()):=by refine ap rfl (aB Fe rfl (λO n=>Fo O n (i:Int) v) ?_);unfold tj;exact aG a (ak (IN _ (b _ (a_ a))) (aa rfl))
theorem zi6(v:List HRU)(e:∀r∈v,r.2.1.length<=1048576)(i:Nat)(a:i<v.length):aE tbl eT [.d tI (i:Int),.ptr 0 0] [.box cr [.d (.list yH) v]] eW (zA v[i].2.1,v,()):=by refine ap rfl (aB Ff rfl (λO n=>Fp O n (i:Int) v) ?_);unfold tk;obtain⟨c,b,d⟩:=To v[i].2.1 (e _ (a_ a));rw[<-zjQ b];exact aG a (ak d (aa rfl))
theorem zi7(v:List CRU)(b:∀r∈v,True)(i:Nat)(a:i<v.length):aE tbl eU [.d tI (i:Int),.ptr 0 0] [.box bN [.d (.list yC) v]] eX (sq v[i],v,()):=by refine ap rfl (aB Fg rfl (λO n=>Fq O n (i:Int) v) ?_);unfold tn;exact aG a (ak (CV _) (aa rfl))
theorem zgH(v:List VU)(hl:v.length<=9223372036854775807)(b:∀r∈v,oQ r.2.1.1):aE tbl m6 [.d tI (v.length:Int),.clo lH [0]] [.box bY [.d (.list yR) v]] fT (cq qc v,v,()):=by
 refine ap rfl (aB Mj rfl (λO n=>My O n (v.length:Int) v) ?_);unfold zU;refine ae (me (l:=v) (f:=qc) (enc:=λi=>((i:Int),v,())) (oB:=λe=>(e,v,())) (oE:=(v,())) (λi a=>?_) ?_ ?_)
 ·unfold pp;refine bo a (ak (zi5 v b i a) (ar (λh=>aa ?_) λh=>aa ?_));·rw[if_neg (by simpa using h)]
  ·rw[if_pos (by simpa using h),aD a hl]
 ·unfold pp;exact aZ (aa rfl)
 by_cases e:cq qc v=0;·rw[if_pos e];refine aa ?_;rw[e]
 ·rw[if_neg e];exact aa rfl
theorem zgI(v:List HRU)(hl:v.length<=9223372036854775807)(b:∀r∈v,r.2.1.length<=1048576):aE tbl jf [.d tI (v.length:Int),.clo lJ [0]] [.box cr [.d (.list yH) v]] dO (cq (λr=>zA r.2.1) v,v,()):=by
 refine ap rfl (aB G2 rfl (λO n=>Hj O n (v.length:Int) v) ?_);unfold vm;refine ae (me (l:=v) (f:=(λr=>zA r.2.1)) (enc:=λi=>((i:Int),v,())) (oB:=λe=>(e,v,())) (oE:=(v,())) (λi a=>?_) ?_ ?_)
 ·unfold lR;refine bo a (ak (zi6 v b i a) (ar (λh=>aa ?_) λh=>aa ?_));·rw[if_neg (by simpa using h)]
  ·rw[if_pos (by simpa using h),aD a hl]
 ·unfold lR;exact aZ (aa rfl)
 by_cases e:cq (λr=>zA r.2.1) v=0;·rw[if_pos e];refine aa ?_;rw[e]
 ·rw[if_neg e];exact aa rfl
theorem zgJ(v:List CRU)(hl:v.length<=9223372036854775807)(b:∀r∈v,True):aE tbl jg [.d tI (v.length:Int),.clo lK [0]] [.box bN [.d (.list yC) v]] dP (cq sq v,v,()):=by
 refine ap rfl (aB G3 rfl (λO n=>Hk O n (v.length:Int) v) ?_);unfold vn;refine ae (me (l:=v) (f:=sq) (enc:=λi=>((i:Int),v,())) (oB:=λe=>(e,v,())) (oE:=(v,())) (λi a=>?_) ?_ ?_)
 ·unfold lS;refine bo a (ak (zi7 v b i a) (ar (λh=>aa ?_) λh=>aa ?_));·rw[if_neg (by simpa using h)]
  ·rw[if_pos (by simpa using h),aD a hl]
 ·unfold lS;exact aZ (aa rfl)
 by_cases e:cq sq v=0;·rw[if_pos e];refine aa ?_;rw[e]
 ·rw[if_neg e];exact aa rfl
theorem P8{α:Type}{nm:α->List UInt8}{sz:α->Nat}{a:α->Int}{l:List α}{i:Nat}(b:i<l.length):Y4 nm sz a l i=if BA (l.map nm) i≠0 then BA (l.map nm) i else if sz l[i]>64 then 4 else a l[i]:=by unfold Y4;grind
theorem zl6{s:PS}(h:SmP s){i:Nat}(a:i<s.1.length):s.1[i].2.1.length<=9223372036854775807/\∀r∈s.1[i].2.1,oQ r.2.1.1:=⟨(h.ok.1.2 _ (a_ a)).2.1.1,λr hr=>((h.ok.1.2 _ (a_ a)).2.1.2 r hr).2.1.1⟩
theorem zl7{s:PS}(h:SmP s){i:Nat}(a:i<s.2.1.length):s.2.1[i].2.1.length<=9223372036854775807/\∀r∈s.2.1[i].2.1,r.2.1.length<=1048576:=⟨(h.ok.2.1.2 _ (a_ a)).2.1.1,λr hr=>h.pt _ (a_ a) r hr⟩
theorem zl8{s:PS}(h:SmP s){i:Nat}(a:i<s.2.2.1.length):s.2.2.1[i].2.1.length<=9223372036854775807/\∀r∈s.2.2.1[i].2.1,True:=⟨(h.ok.2.2.1.2 _ (a_ a)).2.1.1,λ_ _=>trivial⟩
theorem zml{s:PS}(h:SmP s){i:Nat}(a:i<s.1.length):s.1[i].1.length<=9223372036854775807:=(h.ok.1.2 _ (a_ a)).1
theorem zmm{s:PS}(h:SmP s){i:Nat}(a:i<s.2.1.length):s.2.1[i].1.length<=9223372036854775807:=(h.ok.2.1.2 _ (a_ a)).1
theorem zmn{s:PS}(h:SmP s){i:Nat}(a:i<s.2.2.1.length):s.2.2.1[i].1.length<=9223372036854775807:=(h.ok.2.2.1.2 _ (a_ a)).1
theorem zmo{s:PS}(h:SmP s){i:Nat}(a:i<s.2.2.2.1.length):s.2.2.2.1[i].1.length<=9223372036854775807:=(h.ok.2.2.2.1.2 _ (a_ a)).1
abbrev bxS(s:PS):Ob:=.box aH [.d (.list yL) s.1,.d (.list yG) s.2.1,.d (.list yD) s.2.2.1,.d (.list yO) s.2.2.2.1]
theorem zi8(s:PS)(i:Nat)(a:i<s.1.length):aE tbl gq [.d tI (i:Int),.ptr 0 0] [bxS s] gI ((s.1[i].2.1.length:Int),s.1,s.2.1,s.2.2.1,s.2.2.2.1,()):=by refine ap rfl (aB Ip rfl (λO n=>ID O n (i:Int) s.1 s.2.1 s.2.2.1 s.2.2.2.1) ?_);unfold wC;exact aG a (aa rfl)
theorem zgM(s:PS)(hs:SmP s)(i:Nat)(a:i<s.1.length):aE tbl gr [.d tI (i:Int),.ptr 0 0] [bxS s] gJ (cq qc s.1[i].2.1,s.1,s.2.1,s.2.2.1,s.2.2.2.1,()):=by refine ap rfl (aB Iq rfl (λO n=>IE O n (i:Int) s.1 s.2.1 s.2.2.1 s.2.2.2.1) ?_);unfold wD;refine aG a (ak (zgH _ (zl6 hs a).1 (zl6 hs a).2) (aa rfl))
theorem zi0(s:PS)(hs:SmP s):aE tbl m5 [.d (.list tS) (s.1.map (·.1)),.clo ou [0],.clo ov [0]] [bxS s] ev (j0 (·.1) (λl=>l.2.1.length) (λl=>cq qc l.2.1) s.1,s.1,s.2.1,s.2.2.1,s.2.2.2.1,()):=by
 refine ap rfl (aB Mi rfl (λO n=>Mx O n (s.1.map (·.1)) s.1 s.2.1 s.2.2.1 s.2.2.2.1) ?_);unfold zS;refine ar (λh=>aa ?_) λh=>?_;·rw[show j0 (·.1) (λl=>l.2.1.length) (λl=>cq qc l.2.1) s.1=4 from if_pos (by have:=of_decide_eq_true h;rw[f_]at this;omega)]
 have d:¬s.1.length>64:=by have:=of_decide_eq_false h;rw[f_]at this;omega
 rw[show j0 (·.1) (λl=>l.2.1.length) (λl=>cq qc l.2.1) s.1=qS (Y4 (·.1) (λl=>l.2.1.length) (λl=>cq qc l.2.1) s.1) (s.1.map (·.1)).length from by unfold j0;rw[if_neg d,f_]];generalize g:Y4 (·.1) (λl=>l.2.1.length) (λl=>cq qc l.2.1) s.1=E;refine ae (Kr (N:=(s.1.map (·.1)).length) (f:=E) (enc:=λi=>((i:Int),s.1,s.2.1,s.2.2.1,s.2.2.2.1,())) (oB:=λe=>(e,s.1,s.2.1,s.2.2.1,s.2.2.2.1,())) (oE:=(s.1,s.2.1,s.2.2.1,s.2.2.2.1,())) (λi c=>?_) ?_ ?_)
 ·unfold pn;have a:i<s.1.length:=by rw[f_]at c;exact c
  have b:E i=if BA (s.1.map (·.1)) i≠0 then BA (s.1.map (·.1)) i else if s.1[i].2.1.length>64 then 4 else cq qc s.1[i].2.1:=by rw[<-g];exact P8 a
  refine bo c (aG c (aI (decide_eq_true (by omega)) (aI (by simp;omega) ?_)));refine ak (rJ _ i c (by rw[f_];omega) (by rw[x_];exact zml hs a)) ?_;refine ar (λh=>aa ?_) λh=>?_
  ·have h:BA (s.1.map (·.1)) i≠0:=by simpa using h
   rw[if_pos h]at b;rw[b,if_neg h]
  rw[if_neg (by simpa using h)]at b;refine ak (zi8 s i a) (ar (λh=>aa ?_) λh=>?_);·have h:decide ((s.1[i].2.1.length:Int)>64)=true:=h;rw[if_pos (by have:=of_decide_eq_true h;omega)]at b;rw[b,if_neg (by decide)]
  have h:decide ((s.1[i].2.1.length:Int)>64)=false:=h;rw[if_neg (by have:=of_decide_eq_false h;omega)]at b;refine ak (zgM s hs i a) (ar (λh=>aa ?_) λh=>aa ?_);·rw[b,if_neg (by simpa using h)]
  ·rw[b,if_pos (by simpa using h),aD a (by omega)]
 ·unfold pn;exact aZ (aa rfl)
 by_cases e:qS E (s.1.map (·.1)).length=0;·rw[if_pos e];refine aa ?_;rw[e]
 ·rw[if_neg e];exact aa rfl
theorem zi9(s:PS)(i:Nat)(a:i<s.2.1.length):aE tbl gu [.d tI (i:Int),.ptr 0 0] [bxS s] gK ((s.2.1[i].2.1.length:Int),s.1,s.2.1,s.2.2.1,s.2.2.2.1,()):=by refine ap rfl (aB Ir rfl (λO n=>IF O n (i:Int) s.1 s.2.1 s.2.2.1 s.2.2.2.1) ?_);unfold wE;exact aG a (aa rfl)
theorem zgN(s:PS)(hs:SmP s)(i:Nat)(a:i<s.2.1.length):aE tbl gv [.d tI (i:Int),.ptr 0 0] [bxS s] gL (cq (λr=>zA r.2.1) s.2.1[i].2.1,s.1,s.2.1,s.2.2.1,s.2.2.2.1,()):=by refine ap rfl (aB Is rfl (λO n=>IG O n (i:Int) s.1 s.2.1 s.2.2.1 s.2.2.2.1) ?_);unfold wF;refine aG a (ak (zgI _ (zl7 hs a).1 (zl7 hs a).2) (aa rfl))
theorem zi1(s:PS)(hs:SmP s):aE tbl jc [.d (.list tS) (s.2.1.map (·.1)),.clo ow [0],.clo oy [0]] [bxS s] cV (j0 (·.1) (λl=>l.2.1.length) (λl=>cq (λr=>zA r.2.1) l.2.1) s.2.1,s.1,s.2.1,s.2.2.1,s.2.2.2.1,()):=by
 refine ap rfl (aB GY rfl (λO n=>Hg O n (s.2.1.map (·.1)) s.1 s.2.1 s.2.2.1 s.2.2.2.1) ?_);unfold vj;refine ar (λh=>aa ?_) λh=>?_;·rw[show j0 (·.1) (λl=>l.2.1.length) (λl=>cq (λr=>zA r.2.1) l.2.1) s.2.1=4 from if_pos (by have:=of_decide_eq_true h;rw[f_]at this;omega)]
 have d:¬s.2.1.length>64:=by have:=of_decide_eq_false h;rw[f_]at this;omega
 rw[show j0 (·.1) (λl=>l.2.1.length) (λl=>cq (λr=>zA r.2.1) l.2.1) s.2.1=qS (Y4 (·.1) (λl=>l.2.1.length) (λl=>cq (λr=>zA r.2.1) l.2.1) s.2.1) (s.2.1.map (·.1)).length from by unfold j0;rw[if_neg d,f_]];generalize g:Y4 (·.1) (λl=>l.2.1.length) (λl=>cq (λr=>zA r.2.1) l.2.1) s.2.1=E;refine ae (Kr (N:=(s.2.1.map (·.1)).length) (f:=E) (enc:=λi=>((i:Int),s.1,s.2.1,s.2.2.1,s.2.2.2.1,())) (oB:=λe=>(e,s.1,s.2.1,s.2.2.1,s.2.2.2.1,())) (oE:=(s.1,s.2.1,s.2.2.1,s.2.2.2.1,())) (λi c=>?_) ?_ ?_)
 ·unfold lO;have a:i<s.2.1.length:=by rw[f_]at c;exact c
  have b:E i=if BA (s.2.1.map (·.1)) i≠0 then BA (s.2.1.map (·.1)) i else if s.2.1[i].2.1.length>64 then 4 else cq (λr=>zA r.2.1) s.2.1[i].2.1:=by rw[<-g];exact P8 a
  refine bo c (aG c (aI (decide_eq_true (by omega)) (aI (by simp;omega) ?_)));refine ak (rJ _ i c (by rw[f_];omega) (by rw[x_];exact zmm hs a)) ?_;refine ar (λh=>aa ?_) λh=>?_
  ·have h:BA (s.2.1.map (·.1)) i≠0:=by simpa using h
   rw[if_pos h]at b;rw[b,if_neg h]
  rw[if_neg (by simpa using h)]at b;refine ak (zi9 s i a) (ar (λh=>aa ?_) λh=>?_);·have h:decide ((s.2.1[i].2.1.length:Int)>64)=true:=h;rw[if_pos (by have:=of_decide_eq_true h;omega)]at b;rw[b,if_neg (by decide)]
  have h:decide ((s.2.1[i].2.1.length:Int)>64)=false:=h;rw[if_neg (by have:=of_decide_eq_false h;omega)]at b;refine ak (zgN s hs i a) (ar (λh=>aa ?_) λh=>aa ?_);·rw[b,if_neg (by simpa using h)]
  ·rw[b,if_pos (by simpa using h),aD a (by omega)]
 ·unfold lO;exact aZ (aa rfl)
 by_cases e:qS E (s.2.1.map (·.1)).length=0;·rw[if_pos e];refine aa ?_;rw[e]
 ·rw[if_neg e];exact aa rfl
theorem zja(s:PS)(i:Nat)(a:i<s.2.2.1.length):aE tbl gw [.d tI (i:Int),.ptr 0 0] [bxS s] gM ((s.2.2.1[i].2.1.length:Int),s.1,s.2.1,s.2.2.1,s.2.2.2.1,()):=by refine ap rfl (aB It rfl (λO n=>IH O n (i:Int) s.1 s.2.1 s.2.2.1 s.2.2.2.1) ?_);unfold wG;exact aG a (aa rfl)
theorem zgO(s:PS)(hs:SmP s)(i:Nat)(a:i<s.2.2.1.length):aE tbl gx [.d tI (i:Int),.ptr 0 0] [bxS s] gN (cq sq s.2.2.1[i].2.1,s.1,s.2.1,s.2.2.1,s.2.2.2.1,()):=by refine ap rfl (aB Iu rfl (λO n=>II O n (i:Int) s.1 s.2.1 s.2.2.1 s.2.2.2.1) ?_);unfold wH;refine aG a (ak (zgJ _ (zl8 hs a).1 (zl8 hs a).2) (aa rfl))
theorem zi2(s:PS)(hs:SmP s):aE tbl jd [.d (.list tS) (s.2.2.1.map (·.1)),.clo oz [0],.clo oA [0]] [bxS s] cW (j0 (·.1) (λl=>l.2.1.length) (λl=>cq sq l.2.1) s.2.2.1,s.1,s.2.1,s.2.2.1,s.2.2.2.1,()):=by
 refine ap rfl (aB GZ rfl (λO n=>Hh O n (s.2.2.1.map (·.1)) s.1 s.2.1 s.2.2.1 s.2.2.2.1) ?_);unfold vk;refine ar (λh=>aa ?_) λh=>?_;·rw[show j0 (·.1) (λl=>l.2.1.length) (λl=>cq sq l.2.1) s.2.2.1=4 from if_pos (by have:=of_decide_eq_true h;rw[f_]at this;omega)]
 have d:¬s.2.2.1.length>64:=by have:=of_decide_eq_false h;rw[f_]at this;omega
 rw[show j0 (·.1) (λl=>l.2.1.length) (λl=>cq sq l.2.1) s.2.2.1=qS (Y4 (·.1) (λl=>l.2.1.length) (λl=>cq sq l.2.1) s.2.2.1) (s.2.2.1.map (·.1)).length from by unfold j0;rw[if_neg d,f_]];generalize g:Y4 (·.1) (λl=>l.2.1.length) (λl=>cq sq l.2.1) s.2.2.1=E;refine ae (Kr (N:=(s.2.2.1.map (·.1)).length) (f:=E) (enc:=λi=>((i:Int),s.1,s.2.1,s.2.2.1,s.2.2.2.1,())) (oB:=λe=>(e,s.1,s.2.1,s.2.2.1,s.2.2.2.1,())) (oE:=(s.1,s.2.1,s.2.2.1,s.2.2.2.1,())) (λi c=>?_) ?_ ?_)
 ·unfold lP;have a:i<s.2.2.1.length:=by rw[f_]at c;exact c
  have b:E i=if BA (s.2.2.1.map (·.1)) i≠0 then BA (s.2.2.1.map (·.1)) i else if s.2.2.1[i].2.1.length>64 then 4 else cq sq s.2.2.1[i].2.1:=by rw[<-g];exact P8 a
  refine bo c (aG c (aI (decide_eq_true (by omega)) (aI (by simp;omega) ?_)));refine ak (rJ _ i c (by rw[f_];omega) (by rw[x_];exact zmn hs a)) ?_;refine ar (λh=>aa ?_) λh=>?_
  ·have h:BA (s.2.2.1.map (·.1)) i≠0:=by simpa using h
   rw[if_pos h]at b;rw[b,if_neg h]
  rw[if_neg (by simpa using h)]at b;refine ak (zja s i a) (ar (λh=>aa ?_) λh=>?_);·have h:decide ((s.2.2.1[i].2.1.length:Int)>64)=true:=h;rw[if_pos (by have:=of_decide_eq_true h;omega)]at b;rw[b,if_neg (by decide)]
  have h:decide ((s.2.2.1[i].2.1.length:Int)>64)=false:=h;rw[if_neg (by have:=of_decide_eq_false h;omega)]at b;refine ak (zgO s hs i a) (ar (λh=>aa ?_) λh=>aa ?_);·rw[b,if_neg (by simpa using h)]
  ·rw[b,if_pos (by simpa using h),aD a (by omega)]
 ·unfold lP;exact aZ (aa rfl)
 by_cases e:qS E (s.2.2.1.map (·.1)).length=0;·rw[if_pos e];refine aa ?_;rw[e]
 ·rw[if_neg e];exact aa rfl
abbrev bxN(s:PS):Ob:=.box f8 [.d (.list tS) (cF s).1,.d (.list tS) (cF s).2.1,.d (.list tS) (cF s).2.2.1,.d (.list tS) (cF s).2.2.2.1]
theorem pk8(x:HL q_policy_Check_8_drr.sl):nU q_policy_Check_8_drr (ej q_policy_Check_8_drr x)=some x:=by kernel_rfl
theorem zmi(x:HL q_policy_each_dcc_v3.sl):nU q_policy_each_dcc_v3 (ej q_policy_each_dcc_v3 x)=some x:=by kernel_rfl
theorem zjb(s:PS)(i:Nat)(a:i<s.2.2.2.1.length):aE tbl gy [.d tI (i:Int),.ptr 0 0] [bxS s] gO ((s.2.2.2.1[i].2.1.length:Int),s.1,s.2.1,s.2.2.1,s.2.2.2.1,()):=by refine ap rfl (aB Iv rfl (λO n=>IJ O n (i:Int) s.1 s.2.1 s.2.2.1 s.2.2.2.1) ?_);unfold wI;exact aG a (aa rfl)
theorem zgP(s:PS)(hs:SmP s)(i:Nat)(a:i<s.2.2.2.1.length):aE tbl fv [.d tI (i:Int),.ptr 0 0,.ptr 1 0] [bxN s,bxS s] q_policy_Check_8_drr (Cn s s.2.2.2.1[i],(cF s).1,(cF s).2.1,(cF s).2.2.1,(cF s).2.2.2.1,s.1,s.2.1,s.2.2.1,s.2.2.2.1,()):=by refine ap (pk8 _) (aB GU rfl (λO n=>Hc O n (i:Int) (cF s).1 (cF s).2.1 (cF s).2.2.1 (cF s).2.2.2.1 s.1 s.2.1 s.2.2.1 s.2.2.2.1) ?_);unfold vg;exact aG a (ak (Fz s hs.ok _ (hs.ok.2.2.2.1.2 _ (a_ a))) (aa rfl))
theorem zi3(s:PS)(hs:SmP s):aE tbl je [.d (.list tS) (s.2.2.2.1.map (·.1)),.clo oC [0],.clo oD [1,0]] [bxS s,bxN s] q_policy_each_dcc_v3 (j0 (·.1) (λp=>p.2.1.length) (Cn s) s.2.2.2.1,s.1,s.2.1,s.2.2.1,s.2.2.2.1,(cF s).1,(cF s).2.1,(cF s).2.2.1,(cF s).2.2.2.1,()):=by
 refine ap (zmi _) (aB G1 rfl (λO n=>Hi O n (s.2.2.2.1.map (·.1)) s.1 s.2.1 s.2.2.1 s.2.2.2.1 (cF s).1 (cF s).2.1 (cF s).2.2.1 (cF s).2.2.2.1) ?_);unfold vl;refine ar (λh=>aa ?_) λh=>?_;·rw[show j0 (·.1) (λp=>p.2.1.length) (Cn s) s.2.2.2.1=4 from if_pos (by grind)]
 have d:¬s.2.2.2.1.length>64:=by grind
 rw[show j0 (·.1) (λp=>p.2.1.length) (Cn s) s.2.2.2.1=qS (Y4 (·.1) (λp=>p.2.1.length) (Cn s) s.2.2.2.1) (s.2.2.2.1.map (·.1)).length from by unfold j0;grind];generalize g:Y4 (·.1) (λp=>p.2.1.length) (Cn s) s.2.2.2.1=E;refine ae (Kr (N:=(s.2.2.2.1.map (·.1)).length) (f:=E) (enc:=λi=>((i:Int),s.1,s.2.1,s.2.2.1,s.2.2.2.1,(cF s).1,(cF s).2.1,(cF s).2.2.1,(cF s).2.2.2.1,())) (oB:=λe=>(e,s.1,s.2.1,s.2.2.1,s.2.2.2.1,(cF s).1,(cF s).2.1,(cF s).2.2.1,(cF s).2.2.2.1,())) (oE:=(s.1,s.2.1,s.2.2.1,s.2.2.2.1,(cF s).1,(cF s).2.1,(cF s).2.2.1,(cF s).2.2.2.1,())) (λi c=>?_) ?_ ?_)
 ·unfold lQ;have a:i<s.2.2.2.1.length:=by grind
  have b:E i=if BA (s.2.2.2.1.map (·.1)) i≠0 then BA (s.2.2.2.1.map (·.1)) i else if s.2.2.2.1[i].2.1.length>64 then 4 else Cn s s.2.2.2.1[i]:=by rw[<-g];exact P8 a
  refine bo c (aG c (aI (decide_eq_true (by simp)) (aI (by grind) ?_)));refine ak (rJ _ i c (by grind) (by rw[x_];exact zmo hs a)) ?_;refine ar (λh=>aa ?_) λh=>?_;·grind
  rw[if_neg (by grind)]at b;refine ak (zjb s i a) (ar (λh=>aa ?_) λh=>?_);·grind
  have h:decide ((s.2.2.2.1[i].2.1.length:Int)>64)=false:=h;rw[if_neg (by grind)]at b;refine ak (zgP s hs i a) (ar (λh=>aa ?_) λh=>aa ?_);·grind
  ·rw[b,if_pos (by grind),aD a (by omega)]
 ·unfold lQ;exact aZ (aa rfl)
 by_cases e:qS E (s.2.2.2.1.map (·.1)).length=0;·rw[if_pos e];refine aa ?_;rw[e]
 ·rw[if_neg e];exact aa rfl
theorem xT(s:PS)(hs:SmP s):aE tbl kO [.d yS s] [] dC (zbP zA s,()):=by
 refine ap rfl (aB SD rfl (λO n=>S2 O n s) ?_);unfold FH;refine ak (Qq s hs.l1 hs.l2 hs.l3 hs.l4) (aI rfl (ak (zi0 s hs) ?_));generalize k:j0 (·.1) (λl=>l.2.1.length) (λl=>cq qc l.2.1) s.1=b;generalize g:j0 (·.1) (λl=>l.2.1.length) (λl=>cq (λr=>zA r.2.1) l.2.1) s.2.1=c;generalize j:j0 (·.1) (λl=>l.2.1.length) (λl=>cq sq l.2.1) s.2.2.1=d;have hp:zbP zA s=if b≠0 then b else if c≠0 then c else if d≠0 then d else j0 (·.1) (λp=>p.2.1.length) (Cn s) s.2.2.2.1:=by unfold zbP;omega
 have e:=zi1 s hs;have f:=zi2 s hs;rw[g]at e;rw[j]at f;rw[hp];refine ar (λh=>aa ?_) λh=>aI rfl (ak e (ar (λh'=>aa ?_) λh'=>aI rfl (ak f (ar (λa=>aa ?_) λa=>aI rfl (ak (zi3 s hs) (aa ?_))))));·grind
 all_goals grind
theorem KD(r:CRU):aE tbl m7 [.d yC r] [] fW (sq r,()):=by
 refine ap rfl (aB Mm rfl (λO n=>MB O n r) ?_);unfold zZ;refine ae (ba (b:=decide (r.2.1>65535)) (λ_=>aa rfl) (ae (ba (b:=decide (r.2.2.1< -1)) (λ_=>aa rfl) (ae (ba (b:=decide (r.2.2.1>65535)) (λ_=>aa rfl) ?_)))));refine ar (λh=>aa ?_) λh=>aa ?_;·rw[show sq r=5 from if_pos (by grind)]
 ·rw[show sq r=0 from if_neg (by grind)]
def zfZ(k:Int):Bool:=decide (k=4\/k=5\/k=6\/k=8)
theorem W1(k:Int):∃lo g:Int,(zfZ k=true->lo=zhH k/\g=zbg k)/\aE tbl w8 [.d tI k] [] hR (lo,g,zfZ k,()):=by
 have a:∀{j:Int},k≠j->(k==j)=false:=λh=>beq_eq_false_iff_ne.2 h;by_cases b:k=4;·subst b;exact⟨1,7,λ_=>⟨rfl,rfl⟩,ap rfl (aB s8 rfl (λO n=>td O n 4) (by unfold oF;exact aL rfl (aa rfl)))⟩
 by_cases c:k=5;·subst c;exact⟨0,4294967295,λ_=>⟨rfl,rfl⟩,ap rfl (aB s8 rfl (λO n=>td O n 5) (by unfold oF;exact aA rfl (aL rfl (aa rfl))))⟩
 by_cases d:k=6;·subst d;exact⟨0,16777216,λ_=>⟨rfl,rfl⟩,ap rfl (aB s8 rfl (λO n=>td O n 6) (by unfold oF;exact aA rfl (aA rfl (aL rfl (aa rfl)))))⟩
 by_cases f:k=8;·subst f;exact⟨0,2000,λ_=>⟨rfl,rfl⟩,ap rfl (aB s8 rfl (λO n=>td O n 8) (by unfold oF;exact aA rfl (aA rfl (aA rfl (aL rfl (aa rfl))))))⟩
 have e:zfZ k=false:=decide_eq_false (by omega);rw[e];exact⟨0,0,(λh=>by grind),ap rfl (aB s8 rfl (λO n=>td O n k) (by unfold oF;exact aA (a b) (aA (a c) (aA (a d) (aA (a f) (aa rfl))))))⟩
theorem FA(a:EU):aE tbl nM [.d yA a] [] bW (lu a,()):=by
 refine ap rfl (aB SI rfl (λO n=>S7 O n a) ?_);unfold FM;refine ae (ae ?_);by_cases D:a.1<1\/8<a.1;·have j:∀k:Int,1<=k->k<=8->(a.1==k)=false:=λk p l=>beq_eq_false_iff_ne.2 (by omega);refine aA (j 1 (by simp) (by simp)) (aA (j 2 (by simp) (by simp)) (aa (aA (j 4 (by simp) (by simp)) (aA (j 3 (by simp) (by simp)) (aA (j 5 (by simp) (by simp)) ?_)))));refine ae (aA (j 6 (by simp) (by simp)) (aa (aA (j 7 (by simp) (by simp)) (aA (j 8 (by simp) (by simp)) (aa (aa ?_))))));rw[show lu a=15 from if_pos D]
 have f:∀(only:EU) (c:Int),sS a=only->(a=only->((a.2.1<0\/c<a.2.1\/(a.1=5/\a.2.2.2.2.1=0)\/(a.1=8/\(a.2.1<1\/a.2.2.1<1\/a.2.2.1>4294967295)))↔p9 a=false))->Wp (λ_=>bif (true ^^ iX yA a only)then aC bW ((1:Int),())else g_ (bif decide (a.2.1<(0:Int))then some (true)else some (decide (a.2.1>c))) λH=>bif H then aC bW ((5:Int),())else g_ (bif (a.1==(5:Int))then some ((a.2.2.2.2.1==(0:Int)))else some (false)) λI=>g_ (bif I then some (true)else g_ (bif (a.1==(8:Int))then g_ (bif decide (a.2.1<(1:Int))then some (true)else some (decide (a.2.2.1<(1:Int)))) λJ=>g_ (bif J then some (true)else some (decide (a.2.2.1>(4294967295:Int)))) λL=>some (L)else some (false)) λM=>some (M)) λv=>bif v then aC bW ((5:Int),())else aC bW ((0:Int),())) (λx=>x=some (ej bW (lu a,()))):=λonly c p l=>by
  have e:lu a=if ¬a=only then 1 else if p9 a=false then 5 else 0:=by unfold lu;grind
  rw[e]
  refine ar (λh=>aa ?_) λh=>?_
  ·rw[if_pos (ne_eqD.1 h)]
  have r:a=only:=d_ λx=>by rw[ne_eqD.2 x]at h;grind
  have l:=l r
  rw[if_neg (not_not_intro r)]
  refine ae (ba (b:=decide (a.2.1>c)) (λ_=>aa rfl) (ar (λh=>aa ?_) λh=>?_))
  ·grind
  refine ae (bi (b:=(a.2.2.2.2.1==0)) (λ_=>aa rfl) ?_)
  refine ae (ba (b:=(a.1==8)&&((decide (a.2.1<1)||decide (a.2.2.1<1))||decide (a.2.2.1>4294967295))) (λ_=>ae (bi (b:=(decide (a.2.1<1)||decide (a.2.2.1<1))||decide (a.2.2.1>4294967295)) (λ_=>ae (ba (b:=decide (a.2.2.1<1)) (λ_=>aa rfl) (ae (ba (b:=decide (a.2.2.1>4294967295)) (λ_=>aa rfl) (aa rfl))))) (aa rfl))) ?_)
  refine ar (λh'=>aa ?_) λh'=>aa ?_
  all_goals grind
 have g:∀{k:Int},a.1≠k->(a.1==k)=false:=λh=>beq_eq_false_iff_ne.2 h;have d:∀{k:Int},a.1=k->(a.1==k)=true:=λh=>beq_iff_eq.2 h;have s:∀(c:Int),(a.1=1\/a.1=2\/a.1=4)->c=4294967295->((a.2.1<0\/c<a.2.1\/(a.1=5/\a.2.2.2.2.1=0)\/(a.1=8/\(a.2.1<1\/a.2.2.1<1\/a.2.2.1>4294967295)))↔p9 a=false):=λc F E=>by unfold p9;grind
 by_cases p:a.1=1;·refine aL (d p) (aa (aL (d p) (aa (f _ _ ?_ λ_=>s _ (by omega) rfl))));unfold sS;grind
 refine aA (g p) ?_;by_cases l:a.1=2;·refine aL (d l) (aa (aL (d l) (aa (f _ _ ?_ λ_=>s _ (by omega) rfl))));unfold sS;grind
 refine aA (g l) (aa ?_);by_cases z:a.1=4;·refine aL (d z) (aa (f _ _ ?_ λ_=>s _ (by omega) rfl));unfold sS;grind
 refine aA (g z) ?_;by_cases y:a.1=3
 ·refine aL (d y) (aa (f _ _ ?_ λ_=>?_));·unfold sS;grind
  ·unfold p9;grind
 refine aA (g y) ?_;by_cases A:a.1=5
 ·refine aL (d A) (aa (f _ _ ?_ λr=>?_));·unfold sS;grind
  ·have C:a.2.1=0:=by grind
   unfold p9;grind
 refine aA (g A) (ae ?_);have w:∀(only:EU) (c:Int),only.2.1=0->(a.1=6\/a.1=7)->c=4294967295->(a=only->((a.2.1<0\/c<a.2.1\/(a.1=5/\a.2.2.2.2.1=0)\/(a.1=8/\(a.2.1<1\/a.2.2.1<1\/a.2.2.1>4294967295)))↔p9 a=false)):=λonly c N F E r=>by
  have C:a.2.1=0:=by grind
  unfold p9;grind
 by_cases u:a.1=6;·refine aL (d u) (aa (aL (d u) (aa (f _ _ ?_ (w _ _ rfl (by omega) rfl)))));unfold sS;grind
 refine aA (g u) (aa ?_);by_cases B:a.1=7;·refine aL (d B) (aa (f _ _ ?_ (w _ _ rfl (by omega) rfl)));unfold sS;grind
 refine aA (g B) (aL (d (by omega)) (aa (f _ _ ?_ λr=>?_)));·unfold sS;grind
 ·unfold p9;grind
def zDF:DFT:=([],[],[],0,())
def pc(t:HV):HV:=if t.1=1 then(t.1,0,(0,0,()),t.2.2.2.1,zDF,[],())else if t.1=2 then(t.1,0,(0,0,()),[],t.2.2.2.2.1,[],())
 else if t.1=3 then(t.1,0,(0,0,()),[],zDF,t.2.2.2.2.2.1,())else if t.1=7 then(t.1,0,t.2.2.1,[],zDF,[],())else(t.1,t.2.1,(0,0,()),[],zDF,[],())
noncomputable def xF(t:HV):Int:=
 if t.1<1\/8<t.1 then 15 else if ¬t=pc t then 1 else if 64<t.2.2.2.1.length\/64<t.2.2.2.2.2.1.length then 4
 else if t.1=1 then cq qc t.2.2.2.1 else if t.1=2 then cI t.2.2.2.2.1 else if t.1=3 then cq sq t.2.2.2.2.2.1
 else if t.1=7 then(if kb t.2.2.1 then 0 else 1)else if t.2.1<zhH t.1\/zbg t.1<t.2.1 then 5 else 0
def UR(t:HV)(nm:List UInt8):List POL:=[([112],[([116],[(t.1,nm,t.2.1,t.2.2.1,false,())],[],1,())],1,())]
def yJ(t:HV):PS:=if t.1=1 then([([108],t.2.2.2.1,())],[],[],UR t [108],())else if t.1=2 then([],[([108],[],())],[],UR t [108],())
 else if t.1=3 then([],[],[([108],t.2.2.2.2.2.1,())],UR t [108],())else([],[],[],UR t [],())
theorem Oz(t:HV):aE tbl qu [.d MH t] [] mz (yJ t,()):=by
 refine ap rfl (aB Pq rfl (λO n=>PK O n t) ?_);unfold Er;obtain⟨e,f,⟨c,d,⟨⟩⟩,g,j,k,⟨⟩⟩:=t;unfold yJ;refine ae (ar (λh=>aa (aa ?_)) λh=>ar (λa=>aa (aa ?_)) λa=>ar (λb=>aa (aa ?_)) λb=>aa (aa ?_));·rw[if_pos (by simpa using h)];rfl
 ·rw[if_neg (by simpa using h),if_pos (by simpa using a)];rfl
 ·rw[if_neg (by simpa using h),if_neg (by simpa using a),if_pos (by simpa using b)];rfl
 ·rw[if_neg (by simpa using h),if_neg (by simpa using a),if_neg (by simpa using b)];rfl
theorem zkX{α:Type}(nm:α->List UInt8)(sz:α->Nat)(a:α->Int)(x:α)(h:wR (nm x)=true):j0 nm sz a [x]=if sz x>64 then 4 else a x:=by
 have e:qS (Y4 nm sz a [x]) 1=Y4 nm sz a [x] 0:=by unfold qS Gg;grind [Gg]
 unfold j0;rw[if_neg (by simp),L_,e];unfold Y4 BA;simp[h]
theorem zdF{α:Type}(nm:α->List UInt8)(sz:α->Nat)(a:α->Int):j0 nm sz a []=0:=rfl
theorem zk7(s:PS)(t:HV)(nm:List UInt8):j0 (·.1) (λp=>p.2.1.length) (Cn s) (UR t nm)=Ch s (t.1,nm,t.2.1,t.2.2.1,false,()):=by
 unfold UR;rw[zkX _ _ _ _ (by show wR [112]=true;decide)];have e (m:MAT):cq (Ch s) [m]=Ch s m:=by unfold cq qS Gg;grind [Gg]
 have f (g:Nat->Int):qS g 1=g 0:=by unfold qS Gg;grind [Gg]
 have a:wR [116]=true:=by decide
 simp only[Cn,L_,f,List.getElem?_cons_zero,vP,a,e];simp[cq,qS,Gg];grind
theorem Nv(a:List PLS)(b:List HLS)(c:List CLS)(p:List POL):zbP zA (a,b,c,p,())= if j0 (·.1) (λl=>l.2.1.length) (λl=>cq qc l.2.1) a≠0 then j0 (·.1) (λl=>l.2.1.length) (λl=>cq qc l.2.1) a else if j0 (·.1) (λl=>l.2.1.length) (λl=>cq (λr=>zA r.2.1) l.2.1) b≠0 then j0 (·.1) (λl=>l.2.1.length) (λl=>cq (λr=>zA r.2.1) l.2.1) b else if j0 (·.1) (λl=>l.2.1.length) (λl=>cq sq l.2.1) c≠0 then j0 (·.1) (λl=>l.2.1.length) (λl=>cq sq l.2.1) c else j0 (·.1) (λp=>p.2.1.length) (Cn (a,b,c,p,())) p:=rfl
theorem zdL{t:HV}(p:¬(t.1<1\/8<t.1))(a:t=pc t)(r:¬(64<t.2.2.2.1.length\/64<t.2.2.2.2.2.1.length))(g:¬t.1=2):zbP zA (yJ t)=xF t:=by
 have s:wR [108]=true:=by decide
 unfold xF;rw[if_neg p,if_neg (not_not_intro a),if_neg r];obtain⟨k,n,⟨u,v,⟨⟩⟩,pr,d,cm,⟨⟩⟩:=t;unfold pc at a;simp only at p r g a;by_cases e:k=1
 ·subst e;rw[if_pos rfl]at a⊢;simp only[Q_.injEq,true_and,and_true]at a;obtain⟨rfl,⟨rfl,rfl⟩,rfl,rfl⟩:=a;have h:j0 (·.1) (λl:PLS=>l.2.1.length) (λl=>cq qc l.2.1) [([108],pr,())]=if pr.length>64 then 4 else cq qc pr:=zkX _ _ _ _ s;rw[show yJ (1,0,(0,0,()),pr,zDF,[],())=([([108],pr,())],[],[],UR (1,0,(0,0,()),pr,zDF,[],()) [108],())from if_pos rfl,Nv,zk7,h,zdF,zdF,if_neg (c:=pr.length>64) (by omega),yy (.inl rfl)];by_cases b:cq qc pr=0;·rw[b];simp[zdz]
  ·rw[if_pos b]
 by_cases f:k=3
 ·subst f;rw[if_neg (show ¬(3:Int)=1 by decide),if_neg (show ¬(3:Int)=2 by decide),if_pos rfl]at a⊢;simp only[Q_.injEq,true_and,and_true]at a;obtain⟨rfl,⟨rfl,rfl⟩,rfl,rfl⟩:=a;have h:j0 (·.1) (λl:CLS=>l.2.1.length) (λl=>cq sq l.2.1) [([108],cm,())]=if cm.length>64 then 4 else cq sq cm:=zkX _ _ _ _ s;rw[show yJ (3,0,(0,0,()),[],zDF,cm,())=([],[],[([108],cm,())],UR (3,0,(0,0,()),[],zDF,cm,()) [108],())from by unfold yJ;rw[if_neg (show ¬(3:Int)=1 by decide),if_neg (show ¬(3:Int)=2 by decide),if_pos rfl],Nv,zk7,h,zdF,zdF,if_neg (c:=cm.length>64) (by omega),yy (.inr (.inr rfl))];by_cases b:cq sq cm=0;·rw[b];simp[zdz]
  ·simp[b]
 have w:yJ (k,n,(u,v,()),pr,d,cm,())=([],[],[],UR (k,n,(u,v,()),pr,d,cm,()) [],()):=by unfold yJ;rw[if_neg e,if_neg g,if_neg f]
 rw[w,Nv,zk7,zdF,zdF,zdF,if_neg (by decide),if_neg (by decide),if_neg (by decide),if_neg e,if_neg g,if_neg f];rw[if_neg e,if_neg g,if_neg f]at a;by_cases j:k=7;·subst j;rw[if_pos rfl]at a⊢;simp only[Q_.injEq,true_and,and_true]at a;rw[zbv,if_neg (by simp[a.1])]
 ·rw[if_neg j]at a⊢;simp only[Q_.injEq,true_and,and_true]at a;rw[zbw (by omega),if_neg (by simp[a.1])]
theorem zjP:okD tI 1:=by show IntKind.min .i64<=(1:Int)/\(1:Int)<=IntKind.max .i64;decide
theorem zeW{t:HV}(a:okD MH t){nm:List UInt8}(hn:nm.length<=9223372036854775807):okD (.list yO) (UR t nm):=⟨(by show 1<=_;decide),λp hp=>by rw[p_.1 hp];refine⟨(by show 1<=_;decide),⟨(by show 1<=_;decide),λx b=>?_⟩,zjP,trivial⟩;rw[p_.1 b];refine⟨(by show 1<=_;decide),⟨(by show 1<=_;decide),λm c=>?_⟩,⟨(by show 0<=_;decide),λx b=>by cases b⟩,zjP,trivial⟩;rw[p_.1 c];exact⟨a.1,hn,a.2.1,a.2.2.1,trivial,trivial⟩⟩
theorem qb{y:Ty}:okD (.list y) []:=⟨(by show 0<=_;decide),λx a=>by cases a⟩
theorem R3{y:Ty}{x:y.den}(h:okD y x):okD (.list y) [x]:=⟨(by show 1<=_;decide),λz a=>by rw[p_.1 a];exact h⟩
theorem zj9{t:HV}(a:okD MH t):SmP (yJ t):=by
 have b:([108]:List UInt8).length<=9223372036854775807:=by decide
 have c:([]:List UInt8).length<=9223372036854775807:=by decide
 unfold yJ;split;·exact⟨⟨R3 ⟨b,a.2.2.2.1,trivial⟩,qb,qb,zeW a b,trivial⟩,(by show 1<=_;decide),(by show 0<=_;decide),(by show 0<=_;decide),(by show 1<=_;decide),λl hl=>by cases hl⟩
 split;·exact⟨⟨qb,R3 ⟨b,qb,trivial⟩,qb,zeW a b,trivial⟩,(by show 0<=_;decide),(by show 1<=_;decide),(by show 0<=_;decide),(by show 1<=_;decide),λl hl r hr=>by rw[p_.1 hl]at hr;cases hr⟩
 split;·exact⟨⟨qb,qb,R3 ⟨b,a.2.2.2.2.2.1,trivial⟩,zeW a b,trivial⟩,(by show 0<=_;decide),(by show 0<=_;decide),(by show 1<=_;decide),(by show 1<=_;decide),λl hl=>by cases hl⟩
 ·exact⟨⟨qb,qb,qb,zeW a c,trivial⟩,(by show 0<=_;decide),(by show 0<=_;decide),(by show 0<=_;decide),(by show 1<=_;decide),λl hl=>by cases hl⟩
theorem wv(t:HV)(f:okD MH t):aE tbl gp [.d MH t] [] b7 (xF t,()):=by
 refine ap rfl (aB Ij rfl (λO n=>Iy O n t) ?_);unfold wx;refine ae (ba (λ_=>aa rfl) (ar (λh=>aa ?_) λh=>?_));·rw[show xF t=15 from if_pos (by simpa using h)]
 have e:¬(t.1<1\/8<t.1):=by simp at h;omega
 have d:=show xF t=_ from if_neg e;refine ae (Wp.imp (Q:=λr=>r=((pc t).1,(pc t).2.1,(pc t).2.2.1.1,(pc t).2.2.1.2.1,(pc t).2.2.2.1,(pc t).2.2.2.2.1.1,(pc t).2.2.2.2.1.2.1,(pc t).2.2.2.2.1.2.2.1,(pc t).2.2.2.2.1.2.2.2.1,(pc t).2.2.2.2.2.1,())) ?_ λr hr=>?_)
 ·unfold pc zDF;refine ar (λh=>aa ?_) λh=>ar (λa=>aa ?_) λa=>ar (λb=>aa ?_) λb=>ar (λc=>aa ?_) λc=>aa ?_;·rw[if_pos (by simpa using h)]
  ·rw[if_neg (by simpa using h),if_pos (by simpa using a)]
  ·rw[if_neg (by simpa using h),if_neg (by simpa using a),if_pos (by simpa using b)]
  ·rw[if_neg (by simpa using h),if_neg (by simpa using a),if_neg (by simpa using b),if_pos (by simpa using c)]
  ·rw[if_neg (by simpa using h),if_neg (by simpa using a),if_neg (by simpa using b),if_neg (by simpa using c)]
 subst hr;refine ak (xS t (pc t) f) (ar (λa=>aa ?_) λa=>?_);·rw[d,if_pos (by simpa using a)]
 have a:t=pc t:=by simpa using a
 refine ae (ba (λ_=>aa rfl) (ar (λb=>aa ?_) λb=>?_));·rw[d,if_neg (not_not_intro a),if_pos (by simp at b;omega)]
 have b:¬(64<t.2.2.2.1.length\/64<t.2.2.2.2.2.1.length):=by simp at b;omega
 by_cases c:t.1=2;·refine aL (beq_iff_eq.2 c) (ak (Fw _) (aa ?_));rw[d,if_neg (not_not_intro a),if_neg b,if_neg (by omega),if_pos c]
 ·refine aA (beq_eq_false_iff_ne.2 c) (ak (Oz t) (ak (xT (yJ t) (zj9 f)) (aa ?_)));rw[zdL e a b c]
theorem zjx(d:DFT):(((((d.1.length:Int)==0)&&((d.2.1.length:Int)==0))&&((d.2.2.1.length:Int)==0))&&(d.2.2.2.1==0))=decide (d=zDF):=by obtain⟨a,b,c,e,⟨⟩⟩:=d;rw[z_];unfold zDF;simp[and_assoc]
def zkM(t:HV):Bool:=((((!zfZ t.1&&(t.2.1 != 0))||((t.1 != 7)&&(true ^^ iX yP t.2.2.1 ((0:Int),(0:Int),()))))||((t.1 != 1)&&decide ((t.2.2.2.1.length:Int)>0)))||((t.1 != 2)&& !decide (t.2.2.2.2.1=zDF)))||((t.1 != 3)&&decide ((t.2.2.2.2.2.1.length:Int)>0))
theorem zaz{t:HV}(a:¬(t.1<1\/8<t.1)):zkM t=true↔¬t=pc t:=by
 obtain⟨k,n,p,pr,d,cm,⟨⟩⟩:=t;unfold zkM pc;rw[zhj];simp only at a⊢;have l1:decide ((pr.length:Int)>0)= !decide (pr=[]):=by cases pr<;>simp<;>omega
 have l2:decide ((cm.length:Int)>0)= !decide (cm=[]):=by cases cm<;>simp<;>omega
 rw[l1,l2];have b:k=1\/k=2\/k=3\/k=4\/k=5\/k=6\/k=7\/k=8:=by omega
 rcases b with rfl|rfl|rfl|rfl|rfl|rfl|rfl|rfl<;>simp[zfZ,Q_.injEq]<;>grind
theorem KE(t:HV)(y:okD MH t):aE tbl sf [.d MH t] [] cQ (xF t,()):=by
 refine ap rfl (aB YH rfl (λO n=>YX O n t) ?_);unfold KR;refine ae (ba (λ_=>aa rfl) (ar (λh=>aa ?_) λh=>?_));·rw[show xF t=15 from if_pos (by simpa using h)]
 have w:¬(t.1<1\/8<t.1):=by simp at h;omega
 have d:=show xF t=_ from if_neg w;obtain⟨lo,a,r,hc⟩:=W1 t.1;refine ak hc (ae (bi (λ_=>aa rfl) (ae (bi (λ_=>aa rfl) (ae (bi (λ_=>aa rfl) ?_))))));rw[zjx];refine ae (bi (b:=(t.2.1 != 0)) (λ_=>aa rfl) ?_);refine ae (ba (b:=(t.1 != 7)&&(true ^^ iX yP t.2.2.1 ((0:Int),(0:Int),()))) (λ_=>ae (bi (λ_=>aa rfl) (aa rfl))) ?_);refine ae (ba (b:=(t.1 != 1)&&decide ((t.2.2.2.1.length:Int)>0)) (λ_=>ae (bi (λ_=>aa rfl) (aa rfl))) ?_);refine ae (ba (b:=(t.1 != 2)&& !decide (t.2.2.2.2.1=zDF)) (λ_=>ae (bi (λ_=>aa rfl) (aa rfl))) ?_);refine ae (ba (b:=(t.1 != 3)&&decide ((t.2.2.2.2.2.1.length:Int)>0)) (λ_=>ae (bi (λ_=>aa rfl) (aa rfl))) ?_);refine ar (λg=>aa ?_) λg=>?_;·rw[d,if_pos ((zaz w).1 g)]
 have g:t=pc t:=d_ λhn=>by have:=(zaz w).2 hn;rw[show zkM t=false from g]at this;cases this
 refine ae (ba (λ_=>aa rfl) (ar (λp=>aa ?_) λp=>?_));·rw[d,if_neg (not_not_intro g),if_pos (by simp at p;omega)]
 have p:¬(64<t.2.2.2.1.length\/64<t.2.2.2.2.2.1.length):=by simp at p;omega
 rw[if_neg (not_not_intro g),if_neg p]at d;have A:t.1≠1->t.2.2.2.1=[]:=λc=>by rw[g];unfold pc;grind
 have B:t.1≠3->t.2.2.2.2.2.1=[]:=λc=>by rw[g];unfold pc;grind
 have C:t.1≠7->t.2.2.1=(0,0,()):=λc=>by rw[g];unfold pc;grind
 refine ae (me (l:=t.2.2.2.1) (f:=qc) (enc:=λi=>((i:Int),())) (oB:=λe=>(e,())) (oE:=()) (λi a=>?_) ?_ ?_)
 ·unfold ya;refine bo a (aG a (ak (IQ _ (y.2.2.2.1.2 _ (a_ a)).2.1.1) (ar (λh=>aa ?_) λh=>aa ?_)));·rw[if_neg (by simpa using h)]
  ·rw[if_pos (by simpa using h),aD a (by omega)]
 ·unfold ya;exact aZ (aa rfl)
 by_cases s:cq qc t.2.2.2.1=0
 rotate_left
 ·rw[if_neg s];refine aa ?_;rw[d,if_pos];exact d_ λhn=>s (by rw[A hn];rfl)
 rw[if_pos s];refine ae (me (l:=t.2.2.2.2.2.1) (f:=sq) (enc:=λi=>((i:Int),())) (oB:=λe=>(e,())) (oE:=()) (λi a=>?_) ?_ ?_)
 ·unfold yb;refine bo a (aG a (ak (KD _) (ar (λh=>aa ?_) λh=>aa ?_)));·rw[if_neg (by simpa using h)]
  ·rw[if_pos (by simpa using h),aD a (by omega)]
 ·unfold yb;exact aZ (aa rfl)
 by_cases u:cq sq t.2.2.2.2.2.1=0
 rotate_left
 ·rw[if_neg u];refine aa ?_;have c:t.1=3:=d_ λhn=>u (by rw[B hn];rfl);rw[d,if_neg (by omega),if_neg (by omega),if_pos c]
 rw[if_pos u];by_cases k:t.1=2;·refine aL (beq_iff_eq.2 k) (ak (zms _) (aa ?_));rw[d,if_neg (by omega),if_pos k]
 refine aA (beq_eq_false_iff_ne.2 k) (ae (bi (b:=decide (t.2.1<lo)||decide (t.2.1>a)) (λ_=>ae (ba (λ_=>aa rfl) (aa rfl))) (ar (λh=>aa ?_) λh=>ak (mE _ y.2.2.1.1) (ar (λj=>aa ?_) λj=>aa ?_))));·simp only[i_,e_,decide_eq_true_eq]at h;obtain⟨rfl,rfl⟩:=r h.1;have c:t.1=4\/t.1=5\/t.1=6\/t.1=8:=of_decide_eq_true h.1;rw[d,if_neg (by omega),if_neg (by omega),if_neg (by omega),if_neg (by omega),if_pos (by omega)]
 ·have c:t.1=7:=d_ λhn=>by rw[C hn]at j;revert j;decide
  have j:¬kb t.2.2.1=true:=by simpa using j
  rw[d,if_neg (by omega),if_neg (by omega),if_neg (by omega),if_pos c,if_neg j]
 ·have j:kb t.2.2.1=true:=by simpa using j
  rw[d];by_cases v:t.1=1;·rw[if_pos v,s]
  by_cases x:t.1=3;·rw[if_neg v,if_neg k,if_pos x,u]
  by_cases z:t.1=7;·rw[if_neg v,if_neg k,if_neg x,if_pos z,if_pos j]
  ·rw[if_neg v,if_neg k,if_neg x,if_neg z];have c:zfZ t.1=true:=decide_eq_true (by omega);obtain⟨rfl,rfl⟩:=r c;rw[c,y_,c_,decide_eq_false_iff_not,decide_eq_false_iff_not]at h;rw[if_neg (by omega)]
def bT(a:eM)(n:Int):Bool:=decide (n<(a.2.1.length:Int))&&decide (-(a.2.2.1.length:Int)<=n)
def bp(a:eM)(n:Int):te:=(a.2.1[n.toNat]?).getD (0,0,0,())
def HW(a:eM)(n k:Int):Bool:=decide (n<0)||decide (k<(bp a n).1)
def K3(a:eM)(b:te):Int:=if b.1<0\/(a.1.length:Int)<=b.1\/bT a b.2.1=false\/bT a b.2.2.1=false then 5 else if HW a b.2.1 b.1=false\/HW a b.2.2.1 b.1=false then 16 else 0
def acE(x:EU):Int:=if lu x=0 then 0 else 1
def UN(l:CP):Int:=if l.1=false/\l.2.1≠[]then 1 else cq acE l.2.1
noncomputable def kT(a:eM):Int:=if 2000<a.1.length\/4096<a.2.1.length\/4096<a.2.2.1.length then 4 else if cq xF a.1≠0 then cq xF a.1
 else if bT a a.2.2.2.1=false then 5 else if cq (K3 a) a.2.1≠0 then cq (K3 a) a.2.1 else cq UN a.2.2.1
theorem xQ(a:eM)(n:Int)(hn:okD tI n)(hl:a.2.2.1.length<=9223372036854775807):aE tbl kN [.d wu a,.d tI n] [] fC (bT a n,()):=by
 refine ap rfl (aB SB rfl (λO k=>S0 O k a n) ?_);unfold FF;have b: -9223372036854775808<=n/\n<=9223372036854775807:=hn;refine ar (λh=>aa ?_) λh=>aa ?_;·have h:=of_decide_eq_true h;unfold bT;rw[show decide (-(a.2.2.1.length:Int)<=n)=true from decide_eq_true (by omega),aa_]
 ·have h:=of_decide_eq_false h;rw[wrap_i64 (by omega) (by omega)];unfold bT;rw[show decide (n<(a.2.1.length:Int))=true from decide_eq_true (by omega),y_];rw[show decide (-1 - n<(a.2.2.1.length:Int))=decide (-(a.2.2.1.length:Int)<=n)from decide_eq_decide.2 (by omega)]
theorem xU(a:eM)(n:Int)(hl:a.2.2.1.length<=9223372036854775807):aE tbl kQ [.d wu a,.d tI n] [] iE (bT a n,()):=by refine ap rfl (aB SK rfl (λO k=>S9 O k a n) ?_);unfold FO;refine ae (bi (λ_=>aa rfl) (aa ?_));rw[wrap_i64 (by omega) (by omega)];unfold bT;rw[Int.zero_sub]
theorem mw{a:eM}{n:Int}(h:bT a n=true)(b:0<=n):∃k:Nat,n=k/\k<a.2.1.length:=by unfold bT at h;simp only[i_,decide_eq_true_eq]at h;exact⟨n.toNat,by omega,by omega⟩
theorem iA{a:eM}{k:Nat}(h:k<a.2.1.length):bp a k=a.2.1[k]:=by unfold bp;rw[r_,b_ h];rfl
theorem Ei(a:eM)(n k:Int)(hn:bT a n=true):aE tbl mf [.d wu a,.d tI n,.d tI k] [] i6 (HW a n k,()):=by refine ap rfl (aB Po rfl (λO j=>PH O j a n k) ?_);unfold Ep;refine ae (ba (b:=decide (k<(bp a n).1)) (λh=>?_) (aa rfl));obtain⟨i,rfl,c⟩:=mw hn (by simpa using h);rw[iA c];exact aG c (aa rfl)
def zlB(x:EU):PS:=([],[],[],[([112],[([116],[],[x],1,())],1,())],())
theorem zie(x:EU):zbP zA (zlB x)=lu x:=ziP zA x
theorem zl5{x:EU}(b:okD yA x):SmP (zlB x):=by
 have a:∀c:UInt8,([c]:List UInt8).length<=9223372036854775807:=λc=>by show 1<=_;decide
 exact⟨⟨qb,qb,qb,R3 ⟨a _,R3 ⟨a _,qb,R3 b,zjP,trivial⟩,zjP,trivial⟩,trivial⟩,(by show 0<=_;decide),(by show 0<=_;decide),(by show 0<=_;decide),(by show 1<=_;decide),λl hl=>by cases hl⟩
theorem nb{b:Bool}:(!b)=true↔b=false:=by cases b<;>decide
theorem or4{e f g h:Bool}{a b c d:Prop}(j:e=true↔a)(k:f=true↔b)(l:g=true↔c)(n:h=true↔d):(((e||f)||g)||h)=true↔a\/b\/c\/d:=by rw[e_,e_,e_,j,k,l,n,or_assoc,or_assoc]
theorem or_not2{x y:Bool}:(!x|| !y)=true↔(x=false\/y=false):=by cases x<;>cases y<;>decide
theorem zg8{a:eM}{b:te}(h:(((decide (b.1<0)||decide (b.1>=(a.1.length:Int)))|| !bT a b.2.1)|| !bT a b.2.2.1)=true):K3 a b=5:=by unfold K3;rw[if_pos];exact(or4 decide_eq_true_iff decide_eq_true_iff nb nb).1 h
theorem zg9{a:eM}{b:te}(h:(((decide (b.1<0)||decide (b.1>=(a.1.length:Int)))|| !bT a b.2.1)|| !bT a b.2.2.1)=false): bT a b.2.1=true/\bT a b.2.2.1=true/\K3 a b=if HW a b.2.1 b.1=false\/HW a b.2.2.1 b.1=false then 16 else 0:=by
 simp only[c_,o_,decide_eq_false_iff_not]at h;obtain⟨⟨⟨e,f⟩,c⟩,d⟩:=h;refine⟨c,d,?_⟩;unfold K3;rw[if_neg];rintro(h|h|h|h);·exact e h
 ·exact f h
 ·rw[c]at h;cases h
 ·rw[d]at h;cases h
theorem qn(a:eM)(r:okD wu a):aE tbl cG [.d wu a] [] bD (kT a,()):=by
 refine ap rfl (aB Pm rfl (λO k=>PF O k a) ?_);unfold En;refine ae (ba (λ_=>aa rfl) (ae (ba (λ_=>aa rfl) (ar (λh=>aa ?_) λh=>?_))));·rw[show kT a=4 from if_pos (by simp at h;omega)]
 have u:¬(2000<a.1.length\/4096<a.2.1.length\/4096<a.2.2.1.length):=by simp at h;omega
 have d:=show kT a=_ from if_neg u;have hl:a.2.2.1.length<=9223372036854775807:=by omega
 refine ae (me (l:=a.1) (f:=xF) (enc:=λi=>((i:Int),())) (oB:=λe=>(e,())) (oE:=()) (λi b=>?_) ?_ ?_)
 ·unfold rS;refine bo b (aG b (ak (wv _ (r.1.2 _ (a_ b))) (ar (λh=>aa ?_) λh=>aa ?_)));·rw[if_neg (by simpa using h)]
  ·rw[if_pos (by simpa using h),aD b (by omega)]
 ·unfold rS;exact aZ (aa rfl)
 by_cases p:cq xF a.1=0
 rotate_left
 ·rw[if_neg p];refine aa ?_;rw[d,if_pos p]
 rw[if_pos p];rw[if_neg (not_not_intro p)]at d;refine ak (xQ a _ r.2.2.2.1 hl) (ar (λh=>aa ?_) λh=>?_);·rw[d,if_pos (by simpa using h)]
 rw[if_neg (by simpa using h)]at d;refine ae (me (l:=a.2.1) (f:=K3 a) (enc:=λi=>((i:Int),())) (oB:=λe=>(e,())) (oE:=()) (λi b=>?_) ?_ ?_)
 ·unfold rT;have n:=r.2.1.2 _ (a_ b);refine bo b (aG b ?_);refine ae (ba (λ_=>aa rfl) (ae (ba (λ_=>ak (xQ a _ n.2.1 hl) (aa rfl)) (ae (ba (λ_=>ak (xQ a _ n.2.2.1 hl) (aa rfl)) (ar (λh=>aa ?_) λh=>?_))))));·rw[zg8 h];rfl
  obtain⟨v,w,c⟩:=zg9 h;refine ak (Ei a _ _ v) (ae (ba (λ_=>ak (Ei a _ _ w) (aa rfl)) (ar (λh=>aa ?_) λh=>aa ?_)));·rw[if_pos (or_not2.1 h)]at c;rw[c];rfl
  ·rw[if_neg λx=>by rw[or_not2.2 x]at h;cases h]at c;rw[c,if_pos rfl,aD b (by omega)]
 ·unfold rT;exact aZ (aa rfl)
 by_cases c:cq (K3 a) a.2.1=0
 rotate_left
 ·rw[if_neg c];refine aa ?_;rw[d,if_pos c]
 rw[if_pos c];rw[if_neg (not_not_intro c)]at d;refine ae (me (l:=a.2.2.1) (f:=UN) (enc:=λi=>((i:Int),())) (oB:=λe=>(e,())) (oE:=()) (λi b=>?_) ?_ ?_)
 ·unfold rV;have n:=r.2.2.1.2 _ (a_ b);refine bo b (aG b (ae (bi (λ_=>aa rfl) (ar (λh=>aa ?_) λh=>?_))))
  ·have h:a.2.2.1[i].1=false/\a.2.2.1[i].2.1≠[]:=by simp only[i_,w_,decide_eq_true_eq]at h;exact⟨h.1,λe=>by rw[e]at h;exact absurd h.2 (by decide)⟩
   rw[show UN a.2.2.1[i]=1 from if_pos h];rfl
  have h:¬(a.2.2.1[i].1=false/\a.2.2.1[i].2.1≠[]):=fun⟨x,y⟩=>by have:=t_.2 y;rw[x,W_,y_]at h;simp at h;exact y h
  rw[show UN a.2.2.1[i]=cq acE a.2.2.1[i].2.1 from if_neg h];refine ae (me (l:=a.2.2.1[i].2.1) (f:=acE) (enc:=λi=>((i:Int),())) (oB:=λe=>(e,())) (oE:=()) (λj s=>?_) ?_ ?_)
  ·unfold rU;have hc:=xT _ (zl5 (n.2.1.2 _ (a_ s)));rw[zie]at hc;refine bo s (aG s (ak hc (ar (λh=>aa ?_) λh=>aa ?_)));·rw[show acE a.2.2.1[i].2.1[j]=1 from if_neg (by simpa using h)];rfl
   ·rw[show acE a.2.2.1[i].2.1[j]=0 from if_pos (by simpa using h),if_pos rfl,aD s n.2.1.1]
  ·unfold rU;exact aZ (aa rfl)
  by_cases g:cq acE a.2.2.1[i].2.1=0;·rw[if_pos g,if_pos g];refine aa ?_;rw[aD b (by omega)]
  ·rw[if_neg g,if_neg g];exact aa rfl
 ·unfold rV;exact aZ (aa rfl)
 by_cases g:cq UN a.2.2.1=0;·rw[if_pos g];refine aa ?_;rw[d,g]
 ·rw[if_neg g];refine aa ?_;rw[d]
theorem uj(a:eM)(u:okD wu a):aE tbl jZ [.d wu a] [] cM (kT a,()):=by
 refine ap rfl (aB Vj rfl (λO k=>VL O k a) ?_);unfold Jb;refine ae (ba (λ_=>aa rfl) (ae (ba (λ_=>aa rfl) (ar (λh=>aa ?_) λh=>?_))));·rw[show kT a=4 from if_pos (by simp at h;omega)]
 have H:¬(2000<a.1.length\/4096<a.2.1.length\/4096<a.2.2.1.length):=by simp at h;omega
 have g:=show kT a=_ from if_neg H;have hl:a.2.2.1.length<=9223372036854775807:=by omega
 refine ae (me (l:=a.1) (f:=xF) (enc:=λi=>((i:Int),())) (oB:=λe=>(e,())) (oE:=()) (λi c=>?_) ?_ ?_)
 ·unfold wd;refine bo c (aG c (ak (KE _ (u.1.2 _ (a_ c))) (ar (λh=>aa ?_) λh=>aa ?_)));·rw[if_neg (by simpa using h)]
  ·rw[if_pos (by simpa using h),aD c (by omega)]
 ·unfold wd;exact aZ (aa rfl)
 by_cases s:cq xF a.1=0
 rotate_left
 ·rw[if_neg s];refine aa ?_;rw[g,if_pos s]
 rw[if_pos s];rw[if_neg (not_not_intro s)]at g;refine ak (xU a _ hl) (ar (λh=>aa ?_) λh=>?_);·rw[g,if_pos (by simpa using h)]
 rw[if_neg (by simpa using h)]at g;refine ae (me (l:=a.2.1) (f:=K3 a) (enc:=λi=>((i:Int),())) (oB:=λe=>(e,())) (oE:=()) (λi c=>?_) ?_ ?_)
 ·unfold we;have B:=u.2.1.2 _ (a_ c);refine bo c (aG c ?_);refine ae (ba (λ_=>aa rfl) (ae (ba (λ_=>ak (xU a _ hl) (aa rfl)) (ae (ba (λ_=>ak (xU a _ hl) (aa rfl)) (ar (λh=>aa ?_) λh=>?_))))));·rw[zg8 h];rfl
  obtain⟨D,E,d⟩:=zg9 h;have z:∀n:Int,bT a n=true->(decide (n>=0)&&decide ((bp a n).1<=a.2.1[i].1))= !HW a n a.2.1[i].1:=λn _=>by
   unfold HW;rw[Bool.not_or];congr 1;·rw[<-decide_not];exact decide_eq_decide.2 (by omega)
   ·rw[<-decide_not];exact decide_eq_decide.2 (by omega)
  have A:∀n:Int,bT a n=true->decide (n>=0)=true->Wp (λ_=>g_ (aT a.2.1 n) λv=>some (decide (v.1<=a.2.1[i].1))) λr=>r=decide ((bp a n).1<=a.2.1[i].1):=λn hn F=>by obtain⟨k,rfl,C⟩:=mw hn (by simpa using F);rw[iA C];exact aG C (aa rfl)
  refine ae (bi (b:=decide ((bp a a.2.1[i].2.1).1<=a.2.1[i].1)) (λh=>A _ D h) ?_);rw[z _ D];refine ae (ba (b:= !HW a a.2.1[i].2.2.1 a.2.1[i].1) (λ_=>ae (bi (b:=decide ((bp a a.2.1[i].2.2.1).1<=a.2.1[i].1)) (λh=>A _ E h) (aa (z _ E)))) ?_);refine ar (λh=>aa ?_) λh=>aa ?_;·rw[if_pos (or_not2.1 h)]at d;rw[d];rfl
  ·rw[if_neg λx=>by rw[or_not2.2 x]at h;cases h]at d;rw[d,if_pos rfl,aD c (by omega)]
 ·unfold we;exact aZ (aa rfl)
 by_cases d:cq (K3 a) a.2.1=0
 rotate_left
 ·rw[if_neg d];refine aa ?_;rw[g,if_pos d]
 rw[if_pos d];rw[if_neg (not_not_intro d)]at g;refine ae (me (l:=a.2.2.1) (f:=UN) (enc:=λi=>((i:Int),())) (oB:=λe=>(e,())) (oE:=()) (λi c=>?_) ?_ ?_)
 ·unfold wh;have B:=u.2.2.1.2 _ (a_ c);refine bo c (aG c (ae (bi (λ_=>aa rfl) (ar (λh=>aa ?_) λh=>?_))))
  ·have h:a.2.2.1[i].1=false/\a.2.2.1[i].2.1≠[]:=by simp only[i_,w_,decide_eq_true_eq]at h;exact⟨h.1,λe=>by rw[e]at h;exact absurd h.2 (by decide)⟩
   rw[show UN a.2.2.1[i]=1 from if_pos h];rfl
  have h:¬(a.2.2.1[i].1=false/\a.2.2.1[i].2.1≠[]):=fun⟨x,y⟩=>by have:=t_.2 y;rw[x,W_,y_]at h;simp at h;exact y h
  rw[show UN a.2.2.1[i]=cq acE a.2.2.1[i].2.1 from if_neg h];refine ae (me (l:=a.2.2.1[i].2.1) (f:=acE) (enc:=λi=>((i:Int),())) (oB:=λe=>(e,())) (oE:=()) (λj w=>?_) ?_ ?_)
  ·unfold wg;refine bo w (aG w (ak (FA _) (ar (λh=>aa ?_) λh=>aa ?_)));·rw[show acE a.2.2.1[i].2.1[j]=1 from if_neg (by simpa using h)];rfl
   ·rw[show acE a.2.2.1[i].2.1[j]=0 from if_pos (by simpa using h),if_pos rfl,aD w B.2.1.1]
  ·unfold wg;exact aZ (aa rfl)
  by_cases p:cq acE a.2.2.1[i].2.1=0;·rw[if_pos p,if_pos p];refine aa ?_;rw[aD c (by omega)]
  ·rw[if_neg p,if_neg p];exact aa rfl
 ·unfold wh;exact aZ (aa rfl)
 by_cases p:cq UN a.2.2.1=0;·rw[if_pos p];refine aa ?_;rw[g,p]
 ·rw[if_neg p];refine aa ?_;rw[g]
end Go.Proofs.YtdgiglmmpbndmaaGreatDoor
