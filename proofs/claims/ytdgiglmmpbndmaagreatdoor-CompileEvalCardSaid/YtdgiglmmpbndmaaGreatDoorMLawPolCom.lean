import Derived.Test.YtdgiglmmpbndmaaGreatDoorMPlPfx
import Derived.Test.YtdgiglmmpbndmaaGreatDoorML7
import Derived.Test.YtdgiglmmpbndmaaGreatDoorMGlueB
import Derived.Test.YtdgiglmmpbndmaaGreatDoorMLawDfaUse
import Derived.Test.YtdgiglmmpbndmaaGreatDoorMAw
set_option linter.unusedVariables false
set_option linter.unusedSimpArgs false
open Bool renaming false_eq_true->f_,not_eq_true'->m_,and_eq_true->o_,or_eq_true->r_
open Classical renaming byContradiction->h_
open Int renaming toNat_natCast->n_,toNat->p_,fdiv->v_
open Go.IntKind renaming wrap->a_,bits->t_
open List renaming getElem?_eq_some_iff->b_,take_succ_eq_append_getElem->c_,getElem?_eq_getElem->e_,take_length->g_,length_filter_le->j_,length_pos_iff->k_,filter_append->l_,length_take->q_,append_nil->s_,filter->u_
open Nat renaming le_trans->i_
open Option renaming bind->d_
namespace Go.Proofs.YtdgiglmmpbndmaaGreatDoor
open Go Go.Av Go.Ev
abbrev zae:Type:=Bool×(Int×(Int×Unit))
def fits(r:zae)(c:Int):Bool:=
 ((r.2.1==(-1:Int))||(r.2.1==a_ .i64 (v_ c (2^(min (p_ (16:Int)) (t_ .u32))))))&&
 ((r.2.2.1==(-1:Int))||(r.2.2.1==a_ .i64 (tu .u32 .and c (65535:Int))))
def yz(r:zae)(l:List Int):Bool:=(l.find? (fits r)).isSome
def Cl(a:List zae)(l:List Int):Bool:=match a.find? (λr=>yz r l)with
 |some r=>r.1
 |none=>false
theorem RZ(r:zae)(c:Int){β:Type}{k:Nat->Bool->Option β}{Q:β->Prop}(a:Wp (λn=>k n (fits r c)) Q):Wp (λn=>d_ (bif (r.2.1==(-1:Int))then some (true)else aK (decide (0<=(16:Int))) (let b:=a_ .i64 (v_ c (2^(min (p_ (16:Int)) (t_ .u32))));some ((r.2.1==b)))) λd=>d_ (bif d then d_ (bif (r.2.2.1==(-1:Int))then some (true)else some ((r.2.2.1==a_ .i64 (tu .u32 .and c (65535:Int))))) λe=>some (e) else some (false)) λf=>k n f) Q:=by refine ae (ba (λ_=>aI rfl (aa rfl)) ?_);refine ae (bi (λ_=>ae (ba (λ_=>aa rfl) (aa rfl))) ?_);exact a
theorem KA(r:zae)(l:List Int)(hl:l.length<=9223372036854775807):aE tbl mY [.d (pr [tB,tI,tI]) r,.d (.list tW) l] [] fR (yz r l,()):=by
 refine ap rfl (aB Me rfl (λO n=>Mt O n r l) ?_);unfold zN;refine ae (AU (xs:=l) (p:=fits r) (g:=λ_=>((true,()):Bool×Unit)) (e:=()) (λi x a=>?_) ?_ ?_)
 ·unfold pi;have b:=(b_.1 a).1;refine ar (λ_=>?_) (λh=>absurd h (by simp;omega));refine mU (by simp) (by simpa using a) ?_;refine RZ r x ?_;cases fits r x;·exact aa (by simp only[f_,if_false];rw[aD b hl])
  ·exact aa rfl
 ·unfold pi;exact ar (λh=>absurd h (by simp)) λ_=>aa rfl
 ·unfold yz;cases l.find? (fits r);·exact aa rfl
  ·exact aa rfl
theorem HQ(a:List zae)(l:List Int)(hr:a.length<=9223372036854775807)(hl:l.length<=9223372036854775807):aE tbl kg [.d (.list (pr [tB,tI,tI])) a,.d (.list tW) l] [] eE (Cl a l,()):=by
 refine ap rfl (aB Ii rfl (λO n=>Ix O n a l) ?_);unfold ww;refine ae (AU (xs:=a) (p:=λr=>yz r l) (g:=λr=>((r.1,()):Bool×Unit)) (e:=()) (λi x b=>?_) ?_ ?_)
 ·unfold mN;have c:=(b_.1 b).1;refine ar (λ_=>?_) (λh=>absurd h (by simp;omega));refine mU (by simp) (by simpa using b) ?_;refine ak (KA x l hl) ?_;cases h:yz x l;·exact aa (by simp only[f_,if_false];rw[aD c hr])
  ·exact aa rfl
 ·unfold mN;exact ar (λh=>absurd h (by simp)) λ_=>aa rfl
 ·unfold Cl;cases a.find? (λr=>yz r l);·exact aa rfl
  ·exact aa rfl
theorem Tj(r:zae)(l:List Int)(hl:l.length<=9223372036854775807):aE tbl ux [.d (pr [tB,tI,tI]) r,.d (.list tW) l] [] mL (yz r l,()):=by
 refine ap rfl (aB Ve rfl (λO n=>VF O n r l) ?_);unfold I6;refine ae (AU (xs:=l) (p:=fits r) (g:=λ_=>((true,()):Bool×Unit)) (e:=()) (λi x a=>?_) ?_ ?_)
 ·unfold wb;have b:=(b_.1 a).1;refine ar (λ_=>?_) (λh=>absurd h (by simp;omega));refine mU (by simp) (by simpa using a) ?_;refine RZ r x ?_;cases fits r x;·exact aa (by simp only[f_,if_false];rw[aD b hl])
  ·exact aa rfl
 ·unfold wb;exact ar (λh=>absurd h (by simp)) λ_=>aa rfl
 ·unfold yz;cases l.find? (fits r);·exact aa rfl
  ·exact aa rfl
theorem OC(a:List zae)(l:List Int)(hr:a.length<=9223372036854775807)(hl:l.length<=9223372036854775807):aE tbl mi [.d (.list (pr [tB,tI,tI])) a,.d (.list tW) l] [] gj (Cl a l,()):=by
 refine ap rfl (aB Px rfl (λO n=>PR O n a l) ?_);unfold Ey;refine ae (AU (xs:=a) (p:=λr=>yz r l) (g:=λr=>((r.1,()):Bool×Unit)) (e:=()) (λi x b=>?_) ?_ ?_)
 ·unfold rZ;have c:=(b_.1 b).1;refine ar (λ_=>?_) (λh=>absurd h (by simp;omega));refine mU (by simp) (by simpa using b) ?_;refine ak (Tj x l hl) ?_;cases h:yz x l;·exact aa (by simp only[f_,if_false];rw[aD c hr])
  ·exact aa rfl
 ·unfold rZ;exact ar (λh=>absurd h (by simp)) λ_=>aa rfl
 ·unfold Cl;cases a.find? (λr=>yz r l);·exact aa rfl
  ·exact aa rfl
theorem sP{l:List Int}{k:Nat}(h:k<l.length):l.getD k 0=l[k]:=by simp[List.getD,e_ h]
theorem Kz(l:List Int):aE tbl mX [.d (.list tW) l] [] ek (Cm.check l,()):=by
 refine ap rfl (aB Md rfl (λO n=>Ms O n l) ?_);unfold zM;refine ar (λh=>aa ?_) λh=>?_;·rw[Cm.check_long (by grind)]
 have hl:¬255<l.length:=by grind
 refine ae (uh (N:=l.length) (good:=λi=>i=0\/l.getD (i - 1) 0<l.getD i 0) (e:=((16:Int),())) (g:=()) (λi a=>?_) ?_ (λh=>?_) λh=>?_)
 ·unfold pg;refine bo a (ae (bi (b:=decide (l.getD i 0<=l.getD (i - 1) 0)) (λc=>?_) (cj ?_ (by rw[aD a (by omega)]))))
  ·have c:=of_decide_eq_true c;have e:a_ .i64 ((i:Int) - 1)=((i - 1:Nat):Int):=by rw[wrap_i64 (by omega) (by omega)];omega
   rw[e];refine aG a (aG (by omega) (aa ?_));grind
  grind
 ·unfold pg;exact aZ (aa rfl)
 ·refine aa ?_;have d:∀k,k<=l.length->Cm.Up (l.take k):=by intro k;induction k with|zero=>simp|succ k f=>intro j;exact Cm.up_take (f (by omega)) (by omega) (h k (by omega))
  have:=d l.length (Nat.le_refl _);rw[g_]at this;rw[Cm.check_up hl this]
 ·refine aa ?_;obtain⟨i,a,hg⟩:=h;rw[Cm.check_not hl (Cm.not_up a (by omega) (by omega))]
theorem Ti(l:List Int):aE tbl uw [.d (.list tW) l] [] j5 (Cm.check l,()):=by
 refine ap rfl (aB Vd rfl (λO n=>VE O n l) ?_);unfold I5;refine ar (λh=>aa ?_) λh=>?_;·rw[Cm.check_long (by grind)]
 have hl:¬255<l.length:=by grind
 refine ae (Wp.imp (Q:=λr=>(r= .inr ()/\Cm.Up l)\/(r= .inl ((16:Int),())/\¬Cm.Up l)) (Go.Ev.wp_loop (fun(s:Int×Unit)=>∃k:Nat,s=((k:Int),())/\1<=k/\(l.length<=1\/k<=l.length)/\Cm.Up (l.take k)) (fun(s:Int×Unit)=>l.length - s.1.toNat) ⟨1,rfl,by simp,by omega,?_⟩ λs hs=>?_) λr hr=>?_);·cases l with|nil=>simp|cons x l=>simp
 ·obtain⟨k,rfl,b,c,a⟩:=hs;unfold ED;refine ar (λh=>?_) λh=>aa (.inl ⟨rfl,?_⟩)
  ·have h:k<l.length:=by grind
   have e:a_ .i64 ((k:Int) - 1)=((k - 1:Nat):Int):=by rw[wrap_i64 (by omega) (by omega)];omega
   simp only;rw[e];refine aG h (aG (by omega) (ar (λh'=>aa (.inr ⟨rfl,?_⟩)) λh'=>aa ⟨⟨k+1,?_,by simp,by omega,?_⟩,?_⟩));·have h':=of_decide_eq_true h';exact Cm.not_up h (by omega) (by grind)
   ·rw[aD h (by omega)]
   ·have h':=of_decide_eq_false h';refine Cm.up_take a h (.inr ?_);grind
   ·show l.length - (a_ .i64 ((k:Int)+1)).toNat<l.length - ((k:Int)).toNat;rw[aD h (by omega)];omega
  ·have h:¬k<l.length:=by grind
   rw[List.take_of_length_le (by omega)]at a;omega
 ·rcases hr with⟨rfl,a⟩|⟨rfl,a⟩;·refine aa ?_;rw[Cm.check_up hl a]
  ·refine aa ?_;rw[Cm.check_not hl a]
theorem Z1(l:List Int)(x:Int)(hl:l.length<=12000000000):aE tbl dn [.d (.list tW) l,.d tW x] [] cC (Cm.ins x l,()):=by
 refine ap rfl (aB zB rfl (λO n=>zG O n l x) ?_);unfold oX;have D:a_ .i64 ((l.length:Int)+1)=((l.length+1:Nat):Int):=by rw[wrap_i64 (by omega) (by omega)];rfl
 refine aI (by grind) ?_;refine ae (cp (N:=l.length) (I:=λi s=>s.2.1=(i:Int)/\s.2.2.1++Cm.insGo x (l.drop i) s.1=Cm.ins x l/\s.2.2.1.length<=i+(if s.1 then 1 else 0)) ⟨rfl,by simp,by simp⟩ (λi s k hs=>?_) λs hs=>?_)
 ·obtain⟨d,j,c,⟨⟩⟩:=s;obtain⟨g,e,u⟩:=hs;simp only at g e u;subst g;unfold gP;rw[Cm.insGo_step x l i d k,sP k]at e;have z:a_ .i64 ((i:Int)+1)=((i+1:Nat):Int):=aD k (by omega);refine bo k (ae (aG k (ae ?_)));generalize l[i]=y at e;have a:∀(f:Bool) (o:List Int),o++((if y != x then [y]else [])++Cm.insGo x (l.drop (i+1)) f)=Cm.ins x l->o.length<=i+(if f then 1 else 0)->Wp (λ_=>bif (y != x)then aK (decide ((o.length+([y]:List Int).length)*4<=140737488355328)) (some ((f,o++([y]:List Int),())))else some ((f,o,())))
   (λA:Bool×List Int×Unit=>Wp (λ_=>some (Sum.inl (A.1,a_ .i64 ((i:Int)+(1:Int)),A.2.1,()))) fun(r:(Bool×Int×List Int×Unit)⊕(Bool×List Int×Unit))=>match r with
    | .inl s'=>s'.2.1=((i+1:Nat):Int)/\s'.2.2.1++Cm.insGo x (l.drop (i+1)) s'.1=Cm.ins x l/\s'.2.2.1.length<=i+1+(if s'.1 then 1 else 0)
    | .inr _=>False):=λf o E B=>by
   have w:o.length<=i+1:=by grind
   refine ar (λh=>aI (decide_eq_true (by grind)) (aa (aa ⟨z,?_,?_⟩))) λh=>aa (aa ⟨z,?_,?_⟩)
   ·grind
   all_goals grind
  refine ae (bi (b:=decide (x<=y)) (λ_=>aa rfl) ?_);cases d with
  |true=>refine aA rfl (aa (Wp.imp (a true c (by grind) (by omega)) λv p=>Wp.imp p λr hr=>?_));grind|false=>
   by_cases C:x<=y;·refine aL (by grind) (aI (decide_eq_true (by grind)) (aa (Wp.imp (a true (c++[x]) (by grind) (by grind)) λv p=>Wp.imp p λr hr=>?_)));grind
   ·refine aA (by grind) (aa (Wp.imp (a false c (by grind) (by omega)) λv p=>Wp.imp p λr hr=>?_));grind
 ·obtain⟨d,j,c,⟨⟩⟩:=s;obtain⟨g,e,u⟩:=hs;simp only at g e u;subst g;unfold gP;refine aZ (aa ?_);rw[List.drop_length]at e;cases d with|true=>refine ae (aA rfl (aa (aa ?_)));rw[<-e];simp[Cm.insGo]|false=>refine ae (aL rfl (aI (decide_eq_true (by grind)) (aa (aa ?_))));rw[<-e];simp[Cm.insGo]
theorem Z8(l:List Int)(hl:l.length<=12000000000):aE tbl dq [.d (.list tW) l] [] cD (Cm.asc l,()):=by
 refine ap rfl (aB zD rfl (λO n=>zH O n l) ?_);unfold oY;refine ae (cp (N:=l.length) (I:=λi s=>s=((l.take i).foldl (λo x=>Cm.ins x o) [],(i:Int),())) rfl (λi s a hs=>?_) λs hs=>?_)
 ·subst hs;unfold gQ;have b:((l.take i).foldl (λo x=>Cm.ins x o) []).length<=i:=by have:=(Cm.fold_ins (l.take i) [] List.Pairwise.nil).2.2;grind
  refine bo a (aG a (ak (Z1 ((l.take i).foldl (λo x=>Cm.ins x o) []) l[i] (by omega)) (aa ?_)));show(Cm.ins l[i] ((l.take i).foldl (λo x=>Cm.ins x o) []),a_ .i64 ((i:Int)+1),())=_;rw[aD a (by omega),c_ a,List.foldl_append];rfl
 ·subst hs;unfold gQ;refine aZ (aa (aa ?_));rw[g_];rfl
theorem CR(l:List Int)(x:Int)(hl:l.length<=9223372036854775807):aE tbl gR [.d (.list tW) l,.d tW x] [] dh (decide (x∈l),()):=by
 refine ap rfl (aB DY rfl (λO n=>Ea O n l x) ?_);unfold rK;refine ae (oW (xs:=l) (P:=λy=>y≠x) (e:=(true,())) (g:=()) (λi a=>?_) ?_ (λh=>aa ?_) λh=>aa ?_);·unfold jW;refine bo a (aG a (cj ?_ (by rw[aD a hl])));simp
 ·unfold jW;exact aZ (aa rfl)
 ·rw[decide_eq_false λb=>h x b rfl]
 ·rw[decide_eq_true (h_ λb=>h λy c e=>b (e▸c))]
theorem Z5(l:List Int)(x:Int)(hl:l.length<=9223372036854775807):aE tbl Af [.d (.list tW) l,.d tW x] [] rB (decide (x∈l),()):=by
 refine ap rfl (aB zcu rfl (λO n=>zcR O n l x) ?_);unfold N6;refine ae (oW (xs:=l) (P:=λy=>y≠x) (e:=(true,())) (g:=()) (λi a=>?_) ?_ (λh=>aa ?_) λh=>aa ?_);·unfold Bf;refine bo a (aG a (cj ?_ (by rw[aD a hl])));simp
 ·unfold Bf;exact aZ (aa rfl)
 ·rw[decide_eq_false λb=>h x b rfl]
 ·rw[decide_eq_true (h_ λb=>h λy c e=>b (e▸c))]
theorem Ow(l:List Int)(c:Int)(hl:l.length<=6000000000):aE tbl qt [.d (.list tW) l,.d tW c] [] iZ (Cm.add l c,()):=by
 refine ap rfl (aB Pk rfl (λO n=>PE O n l c) ?_);unfold Em;have a:=Cm.len_asc l;refine ak (Z8 l (by omega)) (ae (bi (b:= !decide (c∈Cm.asc l)) (λ_=>ak (CR (Cm.asc l) c (by omega)) (aa rfl)) (ar (λh=>aa ?_) λh=>ak (Z1 (Cm.asc l) c (by omega)) (aa ?_))));·rw[show Cm.add l c=Cm.asc l from if_pos (by grind)]
 ·rw[show Cm.add l c=Cm.ins c (Cm.asc l)from if_neg (fun⟨d,e⟩=>by grind)]
theorem Q2(c:Int)(v:List Int×Unit)(d:v.1.length<=6000000000):Wp (λn=>aR n (lM (zr tbl n) n c v) ((0:Int),([]:List Int),())) λr=>r=(v.1.filter (λx=>x != c),()):=by
 refine cp (N:=v.1.length) (I:=λi s=>s=((i:Int),(v.1.take i).filter (λx=>x != c),())) rfl (λi s a hs=>?_) λs hs=>?_
 ·subst hs;unfold lM;have b:((v.1.take i).filter (λx=>x != c)).length<=i:=i_ (j_ _ _) (by rw[q_];omega);have e:(v.1.take (i+1)).filter (λx=>x != c)=(v.1.take i).filter (λx=>x != c)++(if v.1[i] != c then [v.1[i]]else []):=by rw[c_ a,l_];congr 1;cases h:(v.1[i] != c)<;>simp[u_,h]
  refine bo a (ae (aG a (ar (λh=>aI (decide_eq_true (by show(((v.1.take i).filter (λx=>x != c)).length+1)*4<=_;omega)) (aa (aa ?_))) λh=>aa (aa ?_))));·show(a_ .i64 ((i:Int)+1),(v.1.take i).filter (λx=>x != c)++[v.1[i]],())=_;rw[e,if_pos h,aD a (by omega)]
  ·show(a_ .i64 ((i:Int)+1),(v.1.take i).filter (λx=>x != c),())=_;rw[e,if_neg (by rw[h];decide),s_,aD a (by omega)]
 ·subst hs;unfold lM;refine aZ (aa ?_);rw[g_]
theorem zdo(c:Int)(v:List Int×Unit)(d:v.1.length<=6000000000):Wp (λn=>aR n (rY (zr tbl n) n c v) ((0:Int),([]:List Int),())) λr=>r=(v.1.filter (λx=>x != c),()):=by
 refine cp (N:=v.1.length) (I:=λi s=>s=((i:Int),(v.1.take i).filter (λx=>x != c),())) rfl (λi s a hs=>?_) λs hs=>?_
 ·subst hs;unfold rY;have b:((v.1.take i).filter (λx=>x != c)).length<=i:=i_ (j_ _ _) (by rw[q_];omega);have e:(v.1.take (i+1)).filter (λx=>x != c)=(v.1.take i).filter (λx=>x != c)++(if v.1[i] != c then [v.1[i]]else []):=by rw[c_ a,l_];congr 1;cases h:(v.1[i] != c)<;>simp[u_,h]
  refine bo a (ae (aG a (ar (λh=>aI (decide_eq_true (by show(((v.1.take i).filter (λx=>x != c)).length+1)*4<=_;omega)) (aa (aa ?_))) λh=>aa (aa ?_))));·show(a_ .i64 ((i:Int)+1),(v.1.take i).filter (λx=>x != c)++[v.1[i]],())=_;rw[e,if_pos h,aD a (by omega)]
  ·show(a_ .i64 ((i:Int)+1),(v.1.take i).filter (λx=>x != c),())=_;rw[e,if_neg (by rw[h];decide),s_,aD a (by omega)]
 ·subst hs;unfold rY;refine aZ (aa ?_);rw[g_]
theorem MJ(l:List Int)(c:Int)(hl:l.length<=6000000000):aE tbl oG [.d (.list tW) l,.d tW c] [] kZ (Cm.drop l c,()):=by refine ap rfl (aB NC rfl (λO n=>NO O n l c) ?_);unfold BM;refine ak (Z8 l (by omega)) (ae (Wp.imp (Q2 c (Cm.asc l,()) (i_ (Cm.len_asc l) hl)) λr hr=>?_));subst hr;exact aa rfl
theorem yr(l a:List Int)(hl:l.length<=6000000000)(A:Cm.Out l a):Wp (λn=>aR n (fg (zr tbl n) n l) (false,(0:Int),(0:Int),a,())) λr=>r.2.2.1=a/\Cm.Best l a l.length r.1 r.2.1:=by
 refine cp (N:=l.length) (I:=λi s=>s.2.2.1=(i:Int)/\s.2.2.2.1=a/\Cm.Best l a i s.1 s.2.1) ⟨rfl,rfl,Cm.Best.zero l a 0⟩ (λi s c hs=>?_) λs hs=>?_
 ·obtain⟨f,b,j,o,⟨⟩⟩:=s;obtain⟨k,p,e⟩:=hs;simp only at k p e;subst k;subst p;have D:=A.len;unfold fg;have B:a_ .i64 ((i:Int)+1)=((i+1:Nat):Int):=aD c (by omega);refine bo c (ae (aG c ?_));have w:∃g:Bool,(g=true↔∀y∈o,y<l[i])/\Wp (λn=>(bif ((o.length:Int)==(0:Int))then some (true)else d_ (aT o (a_ .i64 ((o.length:Int) - (1:Int)))) λ_=>d_ o[p_ (a_ .i64 ((o.length:Int) - (1:Int)))]? λF=>some (decide (l[i]>F)):Option Bool)) (·=g):=by
   by_cases u:o=[]
   ·subst u;exact⟨true,by simp,aL rfl (aa rfl)⟩
   ·have hp:0<o.length:=k_.2 u;have C:a_ .i64 ((o.length:Int) - 1)=((o.length - 1:Nat):Int):=by rw[wrap_i64 (by omega) (by omega)];omega
    refine⟨decide (l[i]>o[o.length - 1]),?_,aA (beq_eq_false_iff_ne.2 (by omega)) ?_⟩;·rw[Cm.last_gt A.up u l[i],sP (by omega),decide_eq_true_eq]
    ·simp only[C];refine aG (by omega) (NM (x:=o[o.length - 1]) ?_ (aa rfl));rw[n_];exact e_ _
  obtain⟨g,hg,z⟩:=w;refine ae (Wp.imp z λv E=>?_);subst E;refine ae (bi (b:= !f||decide (l[i]<b)) (λ_=>ae (ba (b:=decide (l[i]<b)) (λ_=>aa rfl) (aa rfl))) (ar (λh=>aa (aa ⟨B,rfl,?_⟩)) λh=>aa (aa ⟨B,rfl,?_⟩)));·simp only[o_,r_,decide_eq_true_eq,m_]at h;have:=Cm.Best.take e c (by rw[sP c];exact hg.1 h.1) (by rw[sP c];exact h.2);rw[sP c]at this;exact this
  ·refine Cm.Best.skip e c λd=>?_;rw[sP c]at d⊢;rw[hg.2 d]at h;simp at h;exact⟨h.1,h.2⟩
 ·obtain⟨f,b,j,o,⟨⟩⟩:=s;obtain⟨k,p,e⟩:=hs;simp only at k p e;subst k;subst p;unfold fg;exact aZ (aa ⟨rfl,e⟩)
theorem E9(l a:List Int)(hl:l.length<=6000000000)(A:Cm.Out l a):Wp (λn=>aR n (kf (zr tbl n) n l) (false,(0:Int),(0:Int),a,())) λr=>r.2.2.1=a/\Cm.Best l a l.length r.1 r.2.1:=by
 refine cp (N:=l.length) (I:=λi s=>s.2.2.1=(i:Int)/\s.2.2.2.1=a/\Cm.Best l a i s.1 s.2.1) ⟨rfl,rfl,Cm.Best.zero l a 0⟩ (λi s c hs=>?_) λs hs=>?_
 ·obtain⟨f,b,j,o,⟨⟩⟩:=s;obtain⟨k,p,e⟩:=hs;simp only at k p e;subst k;subst p;have D:=A.len;unfold kf;have B:a_ .i64 ((i:Int)+1)=((i+1:Nat):Int):=aD c (by omega);refine bo c (ae (aG c ?_));have w:∃g:Bool,(g=true↔∀y∈o,y<l[i])/\Wp (λn=>(bif ((o.length:Int)==(0:Int))then some (true)else d_ (aT o (a_ .i64 ((o.length:Int) - (1:Int)))) λ_=>d_ o[p_ (a_ .i64 ((o.length:Int) - (1:Int)))]? λF=>some (decide (l[i]>F)):Option Bool)) (·=g):=by
   by_cases u:o=[]
   ·subst u;exact⟨true,by simp,aL rfl (aa rfl)⟩
   ·have hp:0<o.length:=k_.2 u;have C:a_ .i64 ((o.length:Int) - 1)=((o.length - 1:Nat):Int):=by rw[wrap_i64 (by omega) (by omega)];omega
    refine⟨decide (l[i]>o[o.length - 1]),?_,aA (beq_eq_false_iff_ne.2 (by omega)) ?_⟩;·rw[Cm.last_gt A.up u l[i],sP (by omega),decide_eq_true_eq]
    ·simp only[C];refine aG (by omega) (NM (x:=o[o.length - 1]) ?_ (aa rfl));rw[n_];exact e_ _
  obtain⟨g,hg,z⟩:=w;refine ae (Wp.imp z λv E=>?_);subst E;refine ae (bi (b:= !f||decide (l[i]<b)) (λ_=>ae (ba (b:=decide (l[i]<b)) (λ_=>aa rfl) (aa rfl))) (ar (λh=>aa (aa ⟨B,rfl,?_⟩)) λh=>aa (aa ⟨B,rfl,?_⟩)));·simp only[o_,r_,decide_eq_true_eq,m_]at h;have:=Cm.Best.take e c (by rw[sP c];exact hg.1 h.1) (by rw[sP c];exact h.2);rw[sP c]at this;exact this
  ·refine Cm.Best.skip e c λd=>?_;rw[sP c]at d⊢;rw[hg.2 d]at h;simp at h;exact⟨h.1,h.2⟩
 ·obtain⟨f,b,j,o,⟨⟩⟩:=s;obtain⟨k,p,e⟩:=hs;simp only at k p e;subst k;subst p;unfold kf;exact aZ (aa ⟨rfl,e⟩)
theorem yB(l:List Int)(hl:l.length<=6000000000):Wp (λn=>aR n (jY (zr tbl n) n l) (([]:List Int),())) λr=>r=(Cm.asc l,()):=by refine Go.Ev.wp_loop (fun(s:List Int×Unit)=>Cm.Out l s.1) (fun(s:List Int×Unit)=>Cm.left l s.1) (Cm.Out.zero l) λs hs=>?_;unfold jY;have d:=hs.len;refine ae (Wp.imp (yr l s.1 hl hs) λr hr=>?_);obtain⟨f,b,o,⟨⟩⟩:=r;obtain⟨c,a⟩:=hr;simp only at c a;subst c;cases f with|false=>exact aL rfl (aa (by show(s.1,())=_;rw[Cm.Out.outDone hs a]))|true=>refine aA rfl (aI (decide_eq_true (by show(s.1.length+1)*4<=_;omega)) (aa ⟨Cm.Out.step hs a,?_⟩));have:=a.yes rfl;exact Cm.left_step this.1 this.2
theorem Fa(l:List Int)(hl:l.length<=6000000000):Wp (λn=>aR n (pq (zr tbl n) n l) (([]:List Int),())) λr=>r=(Cm.asc l,()):=by refine Go.Ev.wp_loop (fun(s:List Int×Unit)=>Cm.Out l s.1) (fun(s:List Int×Unit)=>Cm.left l s.1) (Cm.Out.zero l) λs hs=>?_;unfold pq;have d:=hs.len;refine ae (Wp.imp (E9 l s.1 hl hs) λr hr=>?_);obtain⟨f,b,o,⟨⟩⟩:=r;obtain⟨c,a⟩:=hr;simp only at c a;subst c;cases f with|false=>exact aL rfl (aa (by show(s.1,())=_;rw[Cm.Out.outDone hs a]))|true=>refine aA rfl (aI (decide_eq_true (by show(s.1.length+1)*4<=_;omega)) (aa ⟨Cm.Out.step hs a,?_⟩));have:=a.yes rfl;exact Cm.left_step this.1 this.2
theorem zke(l:List Int)(hl:l.length<=6000000000):aE tbl ji [.d (.list tW) l] [] fV (Cm.asc l,()):=by refine ap rfl (aB Ml rfl (λO n=>MA O n l) ?_);unfold zY;refine ae (Wp.imp (Fa l hl) λr hr=>?_);subst hr;exact aa rfl
theorem zkA(l:List Int)(hl:l.length<=6000000000):aE tbl gU [.d (.list tW) l] [] ez (Cm.asc l,()):=by refine ap rfl (aB D7 rfl (λO n=>Ef O n l) ?_);unfold rP;refine ae (Wp.imp (yB l hl) λr hr=>?_);subst hr;exact aa rfl
theorem Z4(l:List Int)(c:Int)(hl:l.length<=5500000000):aE tbl Ae [.d (.list tW) l,.d tW c] [] rA (Cm.add l c,()):=by
 refine ap rfl (aB zct rfl (λO n=>zcQ O n l c) ?_);unfold N5;have a:=Cm.len_asc l;have d:(Cm.asc l,()).1.length<=5500000000:=by grind
 refine ak (zkA l (by omega)) (ae (bi (b:= !decide (c∈Cm.asc l)) (λ_=>ak (Z5 _ c (by omega)) (aa rfl)) (ar (λh=>aa ?_) λh=>aI (decide_eq_true (by grind)) (ak (zke _ (by grind)) (aa ?_)))));·rw[show Cm.add l c=Cm.asc l from if_pos (by grind)]
 ·rw[show Cm.add l c=Cm.ins c (Cm.asc l)from if_neg (fun⟨e,f⟩=>by grind),Cm.add_eq]
theorem WZ(l:List Int)(c:Int)(hl:l.length<=6000000000):aE tbl wY [.d (.list tW) l,.d tW c] [] sZ (Cm.drop l c,()):=by refine ap rfl (aB YB rfl (λO n=>YR O n l c) ?_);unfold KH;refine ak (zke l hl) (ae (Wp.imp (zdo c (Cm.asc l,()) (i_ (Cm.len_asc l) hl)) λr hr=>?_));subst hr;exact aa rfl
open Go Go.Av Go.Ev Go.Pl
theorem if5{P:Prop} [Decidable P]:(if P then(0:Int)else 5)=0\/(if P then(0:Int)else 5)=5:=by omega
theorem WQ{r:C6}(a:kb r.1=true)(b:¬(r.2.1<1\/7<r.2.1))(c:¬r.2.2.2.1.length>2000):Ih r=if ¬∀v∈r.2.2.2.1,1<=v/\v<=4294967295 then 5 else if Cm.check r.2.2.2.2.1≠0 then Cm.check r.2.2.2.2.1 else if ¬(Bw r.2.2.2.2.2.1/\Bw r.2.2.2.2.2.2.1/\Bw r.2.2.2.2.2.2.2.2.1)\/r.2.2.2.2.2.2.2.1<0\/16777216<r.2.2.2.2.2.2.2.1 then 5 else 0:=by unfold Ih;grind
theorem Tb(r:C6)(hp:oQ r.1.1):aE tbl uo [.d MD r] [] cZ (Ih r,()):=by
 refine ap rfl (aB UY rfl (λO n=>Vq O n r) ?_);unfold IS;refine ak (nB r.1 hp) (ar (λh=>aa ?_) λh=>?_);·rw[show Ih r=1 from if_pos (by grind)]
 have p:kb r.1=true:=by grind
 refine ae (ba (b:=decide (r.2.1>7)) (λ_=>aa rfl) (ar (λh=>aa ?_) λh=>?_));·rw[show Ih r=5 from by unfold Ih;grind]
 have C:¬(r.2.1<1\/7<r.2.1):=by grind
 refine ar (λh=>aa ?_) λh=>?_;·rw[show Ih r=4 from by unfold Ih;grind]
 have D:¬r.2.2.2.1.length>2000:=by grind
 rw[WQ p C D];refine ae (oW (xs:=r.2.2.2.1) (P:=λv=>1<=v/\v<=4294967295) (e:=((5:Int),())) (g:=()) (λi l=>?_) ?_ (λh=>?_) λh=>aa ?_);·unfold vQ;refine bo l (aG l (ae (ba (b:=decide (r.2.2.2.1[i]>4294967295)) (λ_=>aa rfl) (cj ?_ (by rw[aD l (by omega)])))));grind
 ·unfold vQ;exact aZ (aa rfl)
 ·rw[if_neg (not_not_intro h)];refine ak (Kz r.2.2.2.2.1) (ar (λh=>aa ?_) λh=>?_);·grind
  rw[if_neg (by grind)];generalize r.2.2.2.2.2.1=x0;generalize r.2.2.2.2.2.2.1=d;generalize r.2.2.2.2.2.2.2=y;obtain⟨F,k,⟨⟩⟩:=y;have one:∀x:Int,Wp (λ_=>d_ (bif decide (x<(0:Int))then some (true)else some (decide (x>(4294967295:Int)))) λv=>some v) (λb=>b= !decide (Bw x)):=λx=>by refine ae (ba (b:=decide (x>4294967295)) (λ_=>aa rfl) (aa ?_));grind
  refine ae (Kr (N:=3) (f:=λi=>if Bw (if i=0 then x0 else if i=1 then d else k)then 0 else 5) (enc:=λi=>((x0,d,k,()),(i:Int),())) (oB:=λe=>(e,())) (oE:=()) (λi l=>?_) ?_ ?_)
  ·unfold vR;have s:∀x:Int,x=(if i=0 then x0 else if i=1 then d else k)->Wp (λ_=>d_ (bif decide (x<(0:Int))then some (true)else some (decide (x>(4294967295:Int)))) λw=>
    bif w then some (.inr (.inl (((5:Int),()))))else some (.inl ((x0,d,k,()),a_ .i64 ((i:Int)+(1:Int)),())))
    (fun(r:((Int×Int×Int×Unit)×Int×Unit)⊕(Int×Unit)⊕Unit)=>r=if(if Bw (if i=0 then x0 else if i=1 then d else k)then(0:Int)else 5)=0 then .inl ((x0,d,k,()),((i+1:Nat):Int),())else .inr (.inl ((if Bw (if i=0 then x0 else if i=1 then d else k)then(0:Int)else 5),()))):=λx E=>by
    subst E
    refine ae (ba (b:=decide (_>4294967295)) (λ_=>aa rfl) (ar (λh=>aa ?_) λh=>aa ?_))
    ·grind
    ·rw[if_pos (show Bw _ by grind),if_pos rfl,aD (n:=3) l (by simp)]
   refine bo l ?_;have u:i=0\/i=1\/i=2:=by omega
   rcases u with rfl|rfl|rfl;·exact CF (a:=x0) rfl (s x0 rfl)
   ·exact CF (a:=d) rfl (s d rfl)
   ·exact CF (a:=k) rfl (s k rfl)
  ·unfold vR;exact aZ (aa rfl)
  have A:qS (λi=>if Bw (if i=0 then x0 else if i=1 then d else k)then(0:Int)else 5) 3=if Bw x0/\Bw d/\Bw k then 0 else 5:=by
   by_cases h:Bw x0/\Bw d/\Bw k;·rw[if_pos h];refine errN_zero.2 λj J=>?_;omega
   ·rw[if_neg h];refine(zhn (c:=5) (λj=>if5)).resolve_left λB=>h ?_;have p:=errN_zero.1 B;have g0:=p 0 (by simp);have H:=p 1 (by simp);have I:=p 2 (by simp);omega
  rw[A];by_cases z:Bw x0/\Bw d/\Bw k;·rw[if_pos z,if_pos rfl];refine ae (ba (b:=decide (F>16777216)) (λ_=>aa rfl) (ar (λh=>aa ?_) λh=>aa ?_));all_goals grind
  ·rw[if_neg z,if_neg (by simp)];refine aa ?_;grind
 grind
noncomputable def J6(t:HV)(r:C6):Bool:=
 if t.1=1 then zf7 t.2.2.2.1 r.1 else if t.1=2 then pB t.2.2.2.2.1 r.2.2.2.1 else if t.1=3 then Cl t.2.2.2.2.2.1 r.2.2.2.2.1
 else if t.1=4 then r.2.1==t.2.1 else if t.1=5 then r.2.2.2.2.2.2.2.2.1==t.2.1 else if t.1=6 then decide (r.2.2.2.2.2.2.2.1<=t.2.1)
 else if t.1=7 then V7 t.2.2.1 r.2.2.1 else decide ((r.2.2.2.1.length:Int)<=t.2.1)
theorem Ej(t:HV)(r:C6)(f:okD MH t)(hr:okD MD r):aE tbl mg [.d MH t,.d MD r] [] b9 (J6 t r,()):=by
 refine ap rfl (aB Pp rfl (λO n=>PI O n t r) ?_);unfold zmr;unfold J6;refine ar (λh=>?_) λh=>ar (λa=>?_) λa=>ar (λb=>?_) λb=>ar (λc=>aa ?_) λc=>ar (λd=>aa ?_) λd=>ar (λe=>aa ?_) λe=>ar (λg=>?_) λg=>aa ?_;·rw[if_pos (by simpa using h)];exact ak (OA _ _ f.2.2.2.1.1 (λu j=>(f.2.2.2.1.2 u j).2.1.1) hr.1.1) (aa rfl)
 ·rw[if_neg (by simpa using h),if_pos (by simpa using a)];exact ak (Y9 _ _ hr.2.2.2.1.1) (aa rfl)
 ·rw[if_neg (by simpa using h),if_neg (by simpa using a),if_pos (by simpa using b)];exact ak (HQ _ _ f.2.2.2.2.2.1.1 hr.2.2.2.2.1.1) (aa rfl)
 ·rw[if_neg (by simpa using h),if_neg (by simpa using a),if_neg (by simpa using b),if_pos (by simpa using c)]
 ·rw[if_neg (by simpa using h),if_neg (by simpa using a),if_neg (by simpa using b),if_neg (by simpa using c),if_pos (by simpa using d)]
 ·rw[if_neg (by simpa using h),if_neg (by simpa using a),if_neg (by simpa using b),if_neg (by simpa using c),if_neg (by simpa using d),if_pos (by simpa using e)]
 ·rw[if_neg (by simpa using h),if_neg (by simpa using a),if_neg (by simpa using b),if_neg (by simpa using c),if_neg (by simpa using d),if_neg (by simpa using e),if_pos (by simpa using g)];exact ak (zK _ _ f.2.2.1.1 hr.2.2.1) (aa rfl)
 ·rw[if_neg (by simpa using h),if_neg (by simpa using a),if_neg (by simpa using b),if_neg (by simpa using c),if_neg (by simpa using d),if_neg (by simpa using e),if_neg (by simpa using g)]
theorem Oy(t:HV)(r:C6)(a:okD MH t)(hr:okD MD r):aE tbl iV [.d MH t,.d MD r] [] gf ((xF t==0)&&J6 t r,()):=by refine ap rfl (aB Pn rfl (λO n=>PG O n t r) ?_);unfold Eo;exact ak (wv t a) (ae (bi (λ_=>ak (Ej t r a hr) (aa rfl)) (aa rfl)))
theorem zfm(t:HV)(r:C6)(h:okD MH t)(hr:okD MD r)(e:¬t.1=1)(f:¬t.1=2)(g:¬t.1=3):aE tbl Ah [.d yS ([],[],[],[],()),.d yM (t.1,[],t.2.1,t.2.2.1,false,()),.d MD r] [] eI (J6 t r,()):=by
 refine ap rfl (aB zcw rfl (λO n=>zcT O n ([],[],[],[],()) (t.1,[],t.2.1,t.2.2.1,false,()) r) ?_);unfold N8;unfold J6;rw[if_neg e,if_neg f,if_neg g];refine aA (beq_eq_false_iff_ne.2 e) (aA (beq_eq_false_iff_ne.2 f) (aA (beq_eq_false_iff_ne.2 g) ?_));refine ar (λa=>aa ?_) λa=>ar (λb=>aa ?_) λb=>ar (λc=>aa ?_) λc=>ar (λd=>?_) λd=>aa ?_;·rw[if_pos (by simpa using a)]
 ·rw[if_neg (by simpa using a),if_pos (by simpa using b)]
 ·rw[if_neg (by simpa using a),if_neg (by simpa using b),if_pos (by simpa using c)]
 ·rw[if_neg (by simpa using a),if_neg (by simpa using b),if_neg (by simpa using c),if_pos (by simpa using d)];exact ak (BJ _ _ h.2.2.1.1 hr.2.2.1) (aa rfl)
 ·rw[if_neg (by simpa using a),if_neg (by simpa using b),if_neg (by simpa using c),if_neg (by simpa using d)]
theorem IR(t:HV)(r:C6)(a:okD MH t)(hr:okD MD r):aE tbl pS [.d MH t,.d MD r] [] dX ((xF t==0)&&J6 t r,()):=by
 refine ap rfl (aB Vk rfl (λO n=>VM O n t r) ?_);unfold Jc;refine ak (KE t a) (ar (λh=>aa ?_) λh=>?_);·rw[show(xF t==0)=false from by simpa using h];rfl
 rw[show(xF t==0)=true from by simpa using h,Bool.true_and];have e:J6 t r=_:=rfl;refine ar (λh=>?_) λh=>ar (λb=>?_) λb=>ar (λc=>?_) λc=>?_;·rw[show J6 t r=zf7 t.2.2.2.1 r.1 from if_pos (by simpa using h)];exact ak (OD _ _ a.2.2.2.1.1 (λu d=>(a.2.2.2.1.2 u d).2.1.1) hr.1.1) (aa rfl)
 ·rw[show J6 t r=pB t.2.2.2.2.1 r.2.2.2.1 from by unfold J6;rw[if_neg (by simpa using h),if_pos (by simpa using b)]];exact ak (Tf _ _ hr.2.2.2.1.1) (aa rfl)
 ·rw[show J6 t r=Cl t.2.2.2.2.2.1 r.2.2.2.2.1 from by unfold J6;rw[if_neg (by simpa using h),if_neg (by simpa using b),if_pos (by simpa using c)]];exact ak (OC _ _ a.2.2.2.2.2.1.1 hr.2.2.2.2.1.1) (aa rfl)
 ·exact ak (zfm t r a hr (by simpa using h) (by simpa using b) (by simpa using c)) (aa rfl)
theorem IM(r:C6):aE tbl pN [.d MD r] [] mK (decide ((r.2.2.2.1.length:Int)>2100)||decide ((r.2.2.2.2.1.length:Int)>600),()):=by refine ap rfl (aB U1 rfl (λO n=>Vt O n r) ?_);unfold IU;exact ae (ba (λ_=>aa rfl) (aa rfl))
theorem zfX{r:C6}(h:(decide ((r.2.2.2.1.length:Int)>2100)||decide ((r.2.2.2.2.1.length:Int)>600))=false):r.2.2.2.1.length<=2100/\r.2.2.2.2.1.length<=600:=by simp only[Bool.or_eq_false_iff,decide_eq_false_iff_not]at h;omega
theorem Nh:LawOk nL [MH,MD]:=by rintro⟨t,r,_⟩ ⟨a,hr,_⟩;refine⟨ej jT (true,()),?_,rfl⟩;refine aB GR rfl (λO n=>Hb O n t r) ?_;unfold vf;refine ak (IL _) (ae (ba (λ_=>aa rfl) (ae (ba (λ_=>aa rfl) (ae (ba (λ_=>ak (IM r) (aa rfl)) (ae (ba (λ_=>aa rfl) (ar (λ_=>ak oo (aa rfl)) λh=>?_)))))))));exact ak (Oy t r a hr) (ak (IR t r a hr) (ae (aL (by simp) (ak oo (aa (aa rfl))))))
end Go.Proofs.YtdgiglmmpbndmaaGreatDoor
