import Derived.Test.YtdgiglmmpbndmaaGreatDoorMLawDfaBB
set_option linter.all false
set_option maxRecDepth 100000
set_option maxHeartbeats 1000000
open Bool renaming eq_false_iff->q_,and_eq_true_iff->B_,or_eq_false_iff->C_
open Classical renaming byContradiction->a_,epsilon_spec->Z_,epsilon->ad_
open Int renaming toNat_natCast->d_,natCast_zero->O_,le_refl->R_,sub_zero->aa_,toNat->ae_
open Go.IntKind renaming wrap->x_
open List renaming getElem_mem->b_,getElem?_eq_getElem->c_,length_singleton->e_,mem_iff_getElem->f_,pairwise_iff_getElem->g_,take_length->h_,length_append->i_,mem_singleton->j_,mem_append->k_,take_append_getElem->m_,take_of_length_le->n_,mem_cons_of_mem->o_,length_cons->p_,mem_cons_self->s_,pairwise_cons->t_,foldl->y_,append_nil->z_,take_append_drop->A_,length->D_,mem_of_getElem?->E_,pairwise_append->F_,zipWith_append->I_,mem_cons->J_,foldl_append->K_,getElem?_map->L_,getElem_drop->M_,map->N_,length_drop->P_,any_append->S_,foldl_cons->T_,nodup_nil->V_,map_cons->X_,sum_cons->Y_,zipWith->ab_
open Nat renaming le_trans->l_,zero_le->u_,lt_succ_self->w_,le_refl->G_,mul_le_mul_right->H_,succ_le_succ->Q_,mul_le_mul->W_,le_succ->ac_
open Option renaming bind->v_
open Option.some renaming inj->U_
open Prod renaming ext->r_
namespace Go.Proofs.YtdgiglmmpbndmaaGreatDoor
open Z
open Go Go.Av Go.Ev Go.Pl
abbrev zcl(s:xu):List Ob:=[.box 190 [.sl 2,.mp 3,.sl 4],.map 3 3 tI tI s.2.2,.vec 90 rU s.1,.map 90 3 rU tI (kA s.1),.vec 70 xn s.2.1]
def N1{g:gQ}{A:List sB}{R:List Int}{k:Nat}(p:N4 g.2.1 g.2.2.1 R)(ht:Cj g.1.length g.2.1 g.2.2.1)(L:R.length<=100000000)(hB:g.2.1.length<=900000000000)(hL:g.2.2.1.length<=900000000000) (J:∀a∈A,okD yA a) (j:LvS k g.2.2.1) (T:A.length+k<=1000000):∀(f:Nat) (n:Int) (s:xu),n∈R->(n+1).toNat<f->PI g A R s->aB tbl 43 [.ptr 0 0,.d tI n,.d (.list yA) A,.mp 1] (zcl s) eu ((jZ g A f n s).1,(jZ g A f n s).2.2.2,(jZ g A f n s).2.1,kA (jZ g A f n s).2.1,(jZ g A f n s).2.2.1,()):=by
 intro f;induction f with
 |zero=>simp|succ f F=>
  intro n s hn hf hs;refine cm ?_;unfold jZ;have eL:dA tI tI s.2.2 n=lk s.2.2 n:=rfl;rw[eL];have hD:=hs.len;have N:=hs.cB;have P:=hs.cL;have l:=cF.2 (p n hn).1;cases e:lk s.2.2 n with
  |some v=>exact aD rfl (aa rfl)|none=>
   have u:=ry e;refine ap rfl ?_;by_cases h:n<0
   .simp only[if_pos h];have c:=(p n hn).1.2;have w1:x_ .i64 ((-1:Int) - n)= -1 - n:=wrap_i64;rw[w1];obtain⟨E,D⟩:=hs.eL;have d:s.2.1[(-1 - n).toNat]? =some (fN g n):=by rw[D];exact ye (iP h l)
    have U:=j _ (E_ (iP h l));refine ap (decide_eq_false (by omega)) (du (by omega) d (ae (Wp.imp (Q:=λx=>x=(s.2.2,s.1,kA s.1,s.2.1,(nH A (fN g n)).1,(nH A (fN g n)).2.1,())) ?_ λx c=>?_)));.unfold nH;refine au (λM=>ao (decide_eq_true (by omega)) (ao (decide_eq_true (by omega)) (aa ?_))) λM=>aa ?_;all_goals grind
    .subst c;refine aj (mu s.1 s.2.1 (nH A (fN g n)) (λx c=>?_) (by omega)) (ao (decide_eq_true ?_) (aa ?_))
     .rcases hs.lv x c with c|⟨l0,h1,rfl⟩;.exact(j x c).1
      .exact(JZ J (j l0 h1) T).1
     .show s.2.2.length<9223372036854775807;omega
     .simp only;rw[kvS n _ _ u];have:=HZ (nz hs.kn u) (show(n,(dJ s.2.1 (nH A (fN g n))).1)∈s.2.2++[(n,(dJ s.2.1 (nH A (fN g n))).1)] by simp);rw[show dA tI tI (s.2.2++[(n,(dJ s.2.1 (nH A (fN g n))).1)]) n=some _ from this];rfl
   .simp only[if_neg h];have h:0<=n:=by omega
    obtain⟨b,H,w,z⟩:=(p n hn).2 h;have kid:=ht.low.kids l h;have I:=um H;rw[<-I]at w z;have m1:=(kid _ (.inl rfl)).2;have m2:=(kid _ (.inr rfl)).2;have y:=E7 A p ht f _ s w (by omega) hs;have C:=F _ s w (by omega) hs;obtain⟨E,D⟩:=hs.eB;have d:s.1[n.toNat]? =some (cz g n):=by grind
    generalize jZ g A f (cz g n).2.1 s=Y at y C;have o:=E7 A p ht f _ Y.2 z (by omega) y.inv;have B:=F _ Y.2 z (by omega) y.inv;generalize jZ g A f (cz g n).2.2.1 Y.2=O at o B;have r:∀k,(n,k)∉O.2.2.2:=λk c=>by
     rcases o.new _ c with c|c;.rcases y.new _ c with c|c;all_goals grind
     omega
    have oD:=o.inv.len;have el:=o.inv.cB;refine aD (decide_eq_true (by omega)) (du h d (aj C (aj B (aj (sO O.2.1 O.2.2.1 (cz g n).1 Y.1 O.1 (by omega)) (ao (decide_eq_true ?_) (aa ?_))))));.show O.2.2.2.length<9223372036854775807;omega
    .simp only;rw[kvS n _ _ r];have:=HZ (nz o.inv.kn r) (show(n,(eC O.2.1 ((cz g n).1,Y.1,O.1,())).1)∈O.2.2.2++[(n,(eC O.2.1 ((cz g n).1,Y.1,O.1,())).1)] by simp);rw[show dA tI tI (O.2.2.2++[(n,(eC O.2.1 ((cz g n).1,Y.1,O.1,())).1)]) n=some _ from this];rfl
def He(B:List cQ)(L:List ff)(n t:Int)(r:Bool)(hn:n<(B.length:Int)):aB tbl 109 [.d tI n,.d tB r,.ptr 0 0,.ptr 1 0] [.box 97 [.ptr 2 0],.box 3 [.d tI t],.box 190 [.sl 3,.mp 4,.sl 5],.vec 90 rU B,.map 90 3 rU tI (kA B),.vec 70 xn L] eo (gg B n t r,t,B,kA B,L,()):=by
 refine cm ?_;unfold gg;by_cases a:n<0;.rw[if_pos (.inl a)];exact ae (aD (decide_eq_true a) (aa (aD rfl (aa rfl))))
 .have b:n.toNat<B.length:=by omega
  have hg:=c_ b;rw[show(B[n.toNat]?).getD (0,0,0,())=B[n.toNat]from by grind];refine ae (ap (decide_eq_false a) (du (by omega) hg (aa ?_)));by_cases e:B[n.toNat].1=t;.refine ap (by grind) (au (λhr=>du (by omega) hg (aa ?_)) λhr=>du (by omega) hg (aa ?_));all_goals grind
  .rw[if_pos (.inr e)];exact aD (by grind) (aa rfl)
abbrev zck(s:List cQ×wa)(L:List ff):List Ob:=[.box 190 [.sl 2,.mp 3,.sl 4],.map 195 3 rU tI s.2,.vec 90 rU s.1,.map 90 3 rU tI (kA s.1),.vec 70 xn L]
abbrev bxB(y n:Int)(l:List qC)(t:Int)(s:List cQ×wa)(L:List ff):List Ob:=[.box 197 [.kT i7 [5,4]],.box 3 [.d tI y],.box 3 [.d tI n],.box 101 [.d (.list Ut) l],.box 3 [.d tI t],.box 97 [.ptr 7 0],.box 107 [.mp 8],.box 190 [.sl 9,.mp 10,.sl 11],.map 195 3 rU tI s.2,.vec 90 rU s.1,.map 90 3 rU tI (kA s.1),.vec 70 xn L]
abbrev KW(l:List qC)(y n:Int)(s:List cQ×wa)(L:List ff)(R:Int×(List cQ×wa)):Prop:=aB tbl 44 [.ptr 0 0,.d (.list Ut) l,.d tI y,.d tI n,.mp 1] (zck s L) db (R.1,R.2.2,R.2.1,kA R.2.1,L,())
def Iw{s:List cQ×wa}{L:List ff}{x:qC}{l:List qC}{y n t:Int}{r:Bool}{R:Int×(List cQ×wa)}(c:y<(s.1.length:Int))(hn:n<(s.1.length:Int))(hl:l.length<=1000000) (a:x.1≠t->KW (x::l) (gg s.1 y t r) (gg s.1 n t r) s L R) (d:x.1=t->x.2.1≠r->R=(gg s.1 n t r,s)) (b:x.1=t->x.2.1=r->KW l (gg s.1 y t r) (gg s.1 n t r) s L R): aB tbl 110 [.d tB r,.ptr 0 0,.ptr 1 0,.ptr 2 0,.ptr 3 0,.ptr 4 0,.ptr 5 0,.ptr 6 0] (bxB y n (x::l) t s L) cq (R.1,y,n,x::l,t,R.2.2,R.2.1,kA R.2.1,L,()):=by
 refine cm ?_;refine aj (He s.1 L y t r c) (aj (He s.1 L n t r hn) (bH (R_ 0) rfl (au (λh=>aj (a (by grind)) (aa rfl)) λh=>?_)));have h:x.1=t:=by grind
 refine bH (R_ 0) rfl (au (λh2=>aa ?_) λh2=>?_);.grind
 .refine ao rfl (ao ?_ ?_);.simp
  .rw[h_];exact aj (b h (by grind)) (aa rfl)
def zbx(k:cQ)(v:Int):∀(D:wa),(∀v,(k,v)∉D)->fh rU tI D k v=D++[(k,v)]
 |[],_=>rfl
 |(a,b)::l,h=>by have h1:k≠a:=λe=>h b (by grind);show(bif gI rU k a then _ else _)=_;rw[HF,decide_eq_false h1,cond_false,zbx k v l λv c=>h v (o_ _ c)];rfl
set_option maxRecDepth 100000
abbrev IR(l:List qC)(c:List qC×Bool×Unit):Prop:=(c.2.1=true/\XD c.1/\∀z,z∈c.1↔z∈l)\/(c.2.1=false/\c.1=[]/\∃a∈l,∃b∈l,a.1=b.1/\a.2.1≠b.2.1)
def Xj:∀{a b:List qC},XD a->XD b->(∀z,z∈a↔z∈b)->a=b
 |[],[],_,_,_=>rfl
 |[],y::b,_,_,h=>absurd ((h y).2 (s_ ..)) (by simp)
 |x::a,[],_,_,h=>absurd ((h x).1 (s_ ..)) (by simp)
 |x::a,y::b,h1,h2,h=>by
  obtain⟨g,d⟩:=t_.1 h1;obtain⟨j,f⟩:=t_.1 h2;have e:x=y:=by grind
  subst e;rw[Xj d f λz=>⟨λc=>?_,λc=>?_⟩];all_goals grind
def Zg{a:List qC}(h:XD a){x y:qC}(d:x∈a)(f:y∈a)(e:x.1=y.1):x=y:=by
 obtain⟨i,b,rfl⟩:=f_.1 d;obtain⟨j,c,rfl⟩:=f_.1 f;rcases Nat.lt_trichotomy i j with h1|rfl|h1;.have:=g_.1 h i j b c h1;omega
 .rfl
 .have:=g_.1 h j i c b h1;omega
def IR.uniq{l:List qC}{c d:List qC×Bool×Unit}(hc:IR l c)(hd:IR l d):c=d:=by
 have no:∀{c:List qC×Bool×Unit},XD c.1->(∀z,z∈c.1↔z∈l)->¬∃a∈l,∃b∈l,a.1=b.1/\a.2.1≠b.2.1:=λh1 h2 ⟨a,J,b,M,e,N⟩=>N (by rw[Zg h1 ((h2 a).2 J) ((h2 b).2 M) e]);obtain⟨U,Y,⟨⟩⟩:=c;obtain⟨d1,d2,⟨⟩⟩:=d;rcases hc with⟨h1,h2,C⟩|⟨h1,h2,C⟩<;>rcases hd with⟨I,H,E⟩|⟨I,H,E⟩;.simp only at h1 h2 C I H E;rw[h1,I,Xj h2 H λz=>(C z).trans (E z).symm]
 .exact absurd E (no h2 C)
 .exact absurd C (no H E)
 grind
def R7(l:List qC)(hl:l.length<=1000000):∃c:List qC×Bool×Unit,IR l c/\aB tbl 42 [.d (.list Ut) l] [] bU c:=by
 refine KB (sh:=bU) ?_;refine ae (aK (N:=l.length) (I:=λi st=>∃d:List qC,st=(d,(i:Int),())/\XD d/\(∀z,z∈d↔z∈l.take i)/\d.length<=i) ⟨[],rfl,.nil,by simp,by simp⟩ (λi st r n=>?_) λst n=>?_)
 .obtain⟨d,rfl,p,B,R⟩:=n;have A:=b_ r;have E:∀z,z∈l.take (i+1)↔z∈d\/z=l[i]:=λz=>by rw[<-m_ r,k_,j_,B]
  refine aQ r (ae (aA r ?_));generalize l[i]=x at A E;refine ae (Wp.imp (Q:=λv=>∃k:Nat,v=((k:Int),x.1,x.2.1,())/\k<=d.length/\(∀j (u:j<d.length),j<k->d[j].1<x.1)/\∀f:k<d.length,¬d[k].1<x.1) ?_ λv M=>?_)
  .refine Go.Ev.wp_loop (λv=>∃k:Nat,v=((k:Int),x.1,x.2.1,())/\k<=d.length/\∀j (u:j<d.length),j<k->d[j].1<x.1) (λv=>d.length - v.1.toNat) ⟨0,rfl,u_ _,λj _ h=>by omega⟩ ?_;rintro v ⟨k,rfl,J,H⟩;by_cases f:k<d.length
   .have hd:decide ((k:Int)<(d.length:Int))=true:=decide_eq_true (by omega);refine ae (bh (b:=decide (d[k].1<x.1)) (λ_=>aA f (aa rfl)) (au (λh=>aa ?_) λh=>aa ?_));.have h:d[k].1<x.1:=of_decide_eq_true (B_.1 h).2;rw[ak f];grind
    grind
   .exact ae (ap (decide_eq_false (by grind)) (aa (ap rfl (aa ⟨k,rfl,J,H,λh=>absurd h f⟩))))
  .obtain⟨k,rfl,J,H,U⟩:=M;by_cases g:∃f:k<d.length,d[k].1=x.1
   .obtain⟨f,g⟩:=g;refine ae (bh (b:=true) (λ_=>aA f (aa (by grind))) (aD (by grind) (aA f (au (λF=>aa ?_) λF=>aa ?_))));.exact aa (aa ⟨([],false,()),rfl,.inr ⟨rfl,rfl,_,(λz O=>List.mem_of_mem_take ((B z).1 O)) _ (b_ f),x,A,g,by grind⟩⟩)
    .have F:d[k].2.1=x.2.1:=by grind
     have T:d[k]=x:=r_ g (r_ F rfl);refine aa ⟨d,?_,p,λz=>?_,by omega⟩;.rw[ak r]
     grind
   .have D:∀f:k<d.length,x.1<d[k].1:=λf=>by grind
    refine ae (bh (b:=false) (λh=>?_) (ap (by simp) ?_))
    .have f:k<d.length:=by grind
     exact aA f (aa (beq_eq_false_iff_ne.2 λe=>g ⟨f,e⟩))
    .have ht:(d.take k).length=k:=by grind
     refine ao (decide_eq_true (by simp)) (ao (decide_eq_true (by simp)) (ao (by grind) (ao (by simp) (ao (decide_eq_true (by simp)) (ao (by grind) (ao (decide_eq_true ?_) (ao (decide_eq_true ?_) (aa (aa ⟨d.take k++x::d.drop k,?_,?_,λz=>?_,?_⟩)))))))));.grind
     .grind
     .rw[ak r,d_,h_,List.drop_zero];rfl
     .refine F_.2 ⟨p.sublist (List.take_sublist _ _),?_,λa L b w=>?_⟩
      .refine t_.2 ⟨λb w=>?_,p.sublist (List.drop_sublist _ _)⟩;obtain⟨j,u,rfl⟩:=f_.1 w;rw[M_];simp only[P_]at u;have y:k<d.length:=by omega
       have:=D y;by_cases e:j=0;.grind
       .have:=g_.1 p k (k+j) y (by omega) (by omega);omega
      .obtain⟨j,u,rfl⟩:=f_.1 L;rw[ht]at u;rw[List.getElem_take];have h1:=H j (by omega) u;rcases J_.1 w with rfl|w;.omega
       .obtain⟨P,C,rfl⟩:=f_.1 w;rw[M_];simp only[P_]at C;exact g_.1 p j (k+P) (by omega) (by omega) (by omega)
     .have:=k_ (a:=z) (s:=d.take k) (t:=d.drop k);rw[A_]at this;grind
     grind
 .obtain⟨d,rfl,p,B,R⟩:=n;rw[h_]at B;exact aJ (aa (aa ⟨(d,true,()),rfl,.inl ⟨rfl,p,B⟩⟩))
def gL(b:List ue)(a:List Int):List qC:=ab_ (λm k=>(k,!m.2.2.2.2.1,())) b a
def NY(t:r8)(d:List Int)(n:Nat)(hn:n<=1000000)(hr:d.length=t.2.1.length)(ht:t.2.1.length<=64)(J:∀k∈d,0<=k/\k<(n:Int)): ∃c:List qC×Bool×Unit,IR (gL t.2.1 d) c/\aB tbl 50 [.d yT t,.d (.list tI) d,.d tI (n:Int)] [] bU c:=by
 refine KB (sh:=bU) ?_;have hl:(gL t.2.1 d).length=t.2.1.length:=by unfold gL;grind
 have s:∀j (h:j<t.2.1.length) (h':j<d.length),(gL t.2.1 d)[j]? =some (d[j],!t.2.1[j].2.2.2.2.1,()):=λj h h'=>by rw[c_ (by omega)];simp[gL]
 have w:∀z∈gL t.2.1 d,z.1<(n:Int)/\0<=z.1:=λz L=>by obtain⟨j,r,rfl⟩:=f_.1 L;have h:=s j (by omega) (by omega);rw[c_ r]at h;rw[U_ h];have:=J _ (b_ (l:=d) (n:=j) (by omega));omega
 generalize gL t.2.1 d=l at hl s w;refine ae (aK (N:=n) (I:=λi st=>∃f:List qC,st=((i:Int),f,())/\XD f/\(∀z,z∈f↔z∈l/\z.1<(i:Int))/\f.length<=i) ⟨[],rfl,.nil,λz=>⟨by simp,λh=>by grind⟩,by simp⟩ (λi st E g=>?_) λst g=>?_)
 .obtain⟨f,rfl,A,B,M⟩:=g;refine aQ E (ae (ae (Wp.imp (aK (N:=t.2.1.length) (Q:=λv=>v=(l.any (λx=>x.1==(i:Int)&&x.2.1),l.any (λx=>x.1==(i:Int)&& !x.2.1),f,())) (I:=λj st=>st=((l.take j).any (λx=>x.1==(i:Int)&&x.2.1),(l.take j).any (λx=>x.1==(i:Int)&& !x.2.1),(j:Int),f,())) rfl (λj st r g=>?_) λst g=>?_) λv H=>?_)))
  .subst g;have u:j<d.length:=by omega
   have F:l.take (j+1)=l.take j++[(d[j],!t.2.1[j].2.2.2.2.1,())]:=by rw[List.take_add_one,s j r u];rfl
   rw[F,S_,S_];refine aQ r (ae (aA r (aA u (au (λh=>ae (bq (b:= !t.2.1[j].2.2.2.2.1) (λ_=>aa rfl) (ae (bq (b:=t.2.1[j].2.2.2.2.1) (λ_=>aa rfl) (aa (aa ?_)))))) λh=>aa (aa ?_)))));.rw[ak r];simp[h]
   .rw[ak r];grind
  .subst g;rw[n_ (by omega)];exact aJ (aa rfl)
  .subst H;have p:∀b:Bool,l.any (λx=>x.1==(i:Int)&&(x.2.1==b))=true↔((i:Int),b,())∈l:=λb=>by grind
   have D:=p true;have C:=p false;simp only[beq_true,beq_false]at D C;generalize l.any (λx=>x.1==(i:Int)&&x.2.1)=Y at D;generalize l.any (λx=>x.1==(i:Int)&& !x.2.1)=N at C;refine ae (bh (b:=N) (λ_=>aa rfl) (au (λh=>aa (aa (aa ⟨([],false,()),rfl,.inr ⟨rfl,rfl,_,D.1 (by grind),_,C.1 (by grind),rfl,by simp⟩⟩))) λh=>ae (bq (b:=N) (λ_=>aa rfl) (au (λh2=>ao (decide_eq_true ?_) (aa (aa ?_))) λh2=>aa (aa ?_)))));.grind
   .rw[ak E];refine⟨_,rfl,F_.2 ⟨A,List.pairwise_singleton ..,λa R b T=>?_⟩,λz=>?_,by grind⟩;.grind
    .rw[k_,B,j_];constructor;.grind
     .rintro⟨y,P⟩;by_cases e:z.1=(i:Int);.right;obtain⟨U,O,⟨⟩⟩:=z;cases O with|true=>grind|false=>grind
      grind
   .rw[ak E];refine⟨f,rfl,A,λz=>?_,by omega⟩;rw[B];refine⟨λy=>⟨y.1,by omega⟩,λy=>⟨y.1,?_⟩⟩;grind
 .obtain⟨f,rfl,A,B,M⟩:=g;exact aJ (aa (aa ⟨(f,true,()),rfl,.inl ⟨rfl,A,λz=>(B z).trans ⟨And.left,λh=>⟨h,(w z h).1⟩⟩⟩⟩))
def Ws(t:r8)(a:List Int)(n:Nat)(hn:n<=1000000)(hr:a.length=t.2.1.length)(ht:t.2.1.length<=64)(b:∀k∈a,0<=k/\k<(n:Int)): ∃c:List qC×Bool×Unit,IR (gL t.2.1 a) c/\aB tbl 42 [.d (.list Ut) (gL t.2.1 a)] [] bU c/\aB tbl 50 [.d yT t,.d (.list tI) a,.d tI (n:Int)] [] bU c:=by obtain⟨c,h1,h2⟩:=R7 (gL t.2.1 a) (by unfold gL;grind);obtain⟨d,e,f⟩:=NY t a n hn hr ht b;cases h1.uniq e;grind
set_option maxRecDepth 100000
def iN{a σ:Type}{f:σ->a->σ}{x:σ}{l:List a}{i:Nat}(b:i<l.length):(l.take (i+1)).foldl f x=f ((l.take i).foldl f x) l[i]:=by rw[<-m_ b,K_];rfl
def L3{c σ:Type}{f:σ->c->σ}{e:σ->Int}(h:∀x a,e x≠0->f x a=x):∀(l:List c) (x:σ),e x≠0->l.foldl f x=x
 |[],_,_=>rfl
 |a::l,x,b=>by rw[T_,h x a b];exact L3 h l x b
def mV{b σ:Type}{f:σ->b->σ}{e:σ->Int}(h:∀x a,e x≠0->f x a=x)(l:List b)(i:Nat)(x:σ)(c:e ((l.take i).foldl f x)≠0):l.foldl f x=(l.take i).foldl f x:=by
 conv=>lhs;rw[<-A_ i l,K_]
 exact L3 h _ _ c
def qJ(T:List fj)(t:fj):List fj:=if t∈T then T else T++[t]
def mG(T:List fj)(t:fj):Nat:=T.findIdx (λx=>decide (x=t))
def Ar{T:List fj}{t:fj}(h:t∈T):mG T t<T.length:=List.findIdx_lt_length_of_exists ⟨t,h,by simp⟩
def OT{T:List fj}{t:fj}{j:Nat}(a:j<T.length)(h:T[j]=t)(hl:∀k (b:k<T.length),k<j->T[k]≠t):mG T t=j:=by unfold mG;grind
def uD{T:List fj}{t:fj}(h:t∉T):mG T t=T.length:=by unfold mG;grind
def YI{T E:List fj}{t:fj}(h:t∈T):mG (T++E) t=mG T t:=by unfold mG;grind
noncomputable def Is(s:PS)(x:List fj×List Int×Int)(m:ue):List fj×List Int×Int:=
 if x.2.2≠0 then x else if(d7 s m).2.1≠0 then(x.1,x.2.1,(d7 s m).2.1)else(qJ x.1 (d7 s m).1,x.2.1++[(mG x.1 (d7 s m).1:Int)],0)
noncomputable def qE(s:PS)(T:List fj)(a:List ue):List fj×List Int×Int:=a.foldl (Is s) (T,[],0)
noncomputable def Xl(s:PS)(x:List fj×List (List Int)×Int)(t:r8):List fj×List (List Int)×Int:=
 if x.2.2≠0 then x else if(qE s x.1 t.2.1).2.2≠0 then([],[],(qE s x.1 t.2.1).2.2)else((qE s x.1 t.2.1).1,x.2.1++[(qE s x.1 t.2.1).2.1],0)
noncomputable def oJ(s:PS)(ts:List r8):List fj×List (List Int)×Int:=ts.foldl (Xl s) ([],[],0)
def CL(s:PS)(x:List fj×List Int×Int)(m:ue)(h:x.2.2≠0):Is s x m=x:=if_pos h
def Ko(s:PS)(x:List fj×List (List Int)×Int)(t:r8)(h:x.2.2≠0):Xl s x t=x:=if_pos h
structure N5(n:Nat)(T:List fj):Prop where
 nd:T.Nodup
 ok:∀t∈T,NF t=0/\okD NT t
 len:T.length<=n
def N5.add{n:Nat}{T:List fj}(h:N5 n T){t:fj}(ht:NF t=0/\okD NT t):N5 (n+1) (qJ T t):=by
 unfold qJ;split;.exact⟨h.nd,h.ok,Nat.le_succ_of_le h.len⟩
 .have:=h.len;refine⟨List.nodup_append.2 ⟨h.nd,by simp,λa E b H e=>?_⟩,λx C=>?_,by grind⟩;.grind
  .rcases k_.1 C with C|C;.exact h.ok x C
   grind
def Ql(T:List fj)(t:fj):t∈qJ T t:=by unfold qJ;split<;>simp_all
def IY(T:List fj)(t:fj):∃E,qJ T t=T++E:=by
 unfold qJ;split;.exact⟨[],by simp⟩
 .exact⟨_,rfl⟩
def QW(T:List fj)(t:fj):mG (qJ T t) t=mG T t:=by
 unfold qJ;split;.rfl
 .rename_i h;rw[uD h];refine OT (by simp) (by simp) λk a hl=>?_;grind
structure MI(n i:Nat)(x:List fj×List Int×Int):Prop where
 e0:x.2.2=0
 ts:N5 (n+i) x.1
 rl:x.2.1.length=i
 rw:∀k∈x.2.1,0<=k/\k<(x.1.length:Int)
def MI.nil{n:Nat}{T:List fj}(h:N5 n T):MI n 0 (T,[],0):=⟨rfl,h,rfl,by simp⟩
theorem MI.put{s:PS}(hs:ou s){n i:Nat}{x:List fj×List Int×Int}(h:MI n i x){m:ue}(J:jX s m=0)(H:okD yM m)(I:(d7 s m).2.1=0): Is s x m=(qJ x.1 (d7 s m).1,x.2.1++[(mG x.1 (d7 s m).1:Int)],0)/\MI n (i+1) (qJ x.1 (d7 s m).1,x.2.1++[(mG x.1 (d7 s m).1:Int)],0):=by
 refine⟨by unfold Is;rw[if_neg (not_not_intro h.e0),if_neg (not_not_intro I)],rfl,h.ts.add (P2 hs J H I),by simp[h.rl],λk C=>?_⟩;obtain⟨E,M⟩:=IY x.1 (d7 s m).1;rcases k_.1 C with C|C;.have:=h.rw k C;grind
 .have:=Ar (Ql x.1 (d7 s m).1);rw[QW]at this;grind
def MI.step{s:PS}(hs:ou s){n i:Nat}{x:List fj×List Int×Int}(h:MI n i x){m:ue}(H:jX s m=0)(C:okD yM m):MI n (i+1) (Is s x m)\/(Is s x m).2.2≠0:=by
 by_cases E:(d7 s m).2.1=0;.obtain⟨h1,h2⟩:=h.put hs H C E;grind
 .right;unfold Is;grind
structure TI(us:List r8)(i:Nat)(x:List fj×List (List Int)×Int):Prop where
 e0:x.2.2=0
 ts:N5 (64*i) x.1
 rl:x.2.1.length=i
 rn:∀j (h1:j<x.2.1.length) (h2:j<us.length),x.2.1[j].length=us[j].2.1.length
 rw:∀r∈x.2.1,∀k∈r,0<=k/\k<(x.1.length:Int)
def TI.nil(ts:List r8):TI ts 0 ([],[],0):=⟨rfl,⟨V_,by simp,by simp⟩,rfl,λj h=>by simp at h,by simp⟩
def YC(s:PS)(T:List fj):∀(b:List ue) (r:List Int) (e:Int),∃E,(b.foldl (Is s) (T,r,e)).1=T++E:=by
 intro b;induction b generalizing T with
 |nil=>simp|cons m l a=>
  intro r e;rw[T_];by_cases h1:e≠0;.rw[CL s (T,r,e) m h1];exact a T r e
  by_cases h2:(d7 s m).2.1≠0;.rw[show Is s (T,r,e) m=(T,r,(d7 s m).2.1) by unfold Is;grind];exact a T r _
  .rw[show Is s (T,r,e) m=(qJ T (d7 s m).1,r++[(mG T (d7 s m).1:Int)],0) by unfold Is;grind];obtain⟨E,d⟩:=IY T (d7 s m).1;obtain⟨c,h2⟩:=a (qJ T (d7 s m).1) (r++[(mG T (d7 s m).1:Int)]) 0;grind
theorem TI.put{s:PS}{ts:List r8}{i:Nat}(N:i<ts.length){x:List fj×List (List Int)×Int}(h:TI ts i x)(hl:ts[i].2.1.length<=64){r:List Int}{T:List fj}(hr:qE s x.1 ts[i].2.1=(T,r,0))(C:MI (64*i) ts[i].2.1.length (T,r,0)): Xl s x ts[i]=(T,x.2.1++[r],0)/\TI ts (i+1) (T,x.2.1++[r],0):=by
 refine⟨by unfold Xl;rw[if_neg (not_not_intro h.e0),hr];rfl,rfl,⟨C.ts.nd,C.ts.ok,by have:=C.ts.len;grind⟩,by simp[h.rl],λj h1 h2=>?_,λq H k I=>?_⟩
 .have M:=h.rl;by_cases e:j<x.2.1.length;.simp only[List.getElem_append_left e];exact h.rn j e h2
  .have:j=i:=by grind
   subst this;simp only[List.getElem_append_right (show x.2.1.length<=j by omega),List.getElem_singleton];exact C.rl
 .rcases k_.1 H with H|H;.have:=h.rw q H k I;obtain⟨E,J⟩:=YC s x.1 ts[i].2.1 [] 0;rw[show y_ (Is s) (x.1,[],0) ts[i].2.1=(T,r,0)from hr]at J;grind
  .rw[j_.1 H]at I;exact C.rw k I
structure KOk(s:PS)(T:List fj)(K:List (ue×Int))(n:Nat):Prop where
 k:∀q∈K,(d7 s q.1).2.1=0/\(d7 s q.1).1∈T/\q.2=(mG T (d7 s q.1).1:Int)
 l:K.length<=n
def Ys(a b:ue):gI yM a b=true↔a=b:=by obtain⟨c,d,e,⟨f,g,⟨⟩⟩,h,⟨⟩⟩:=a;obtain⟨j,k,l,⟨n,p,⟨⟩⟩,r,⟨⟩⟩:=b;simp[gI]
def Ml{k:ue}{v:Int}:∀{D:List (ue×Int)},dA yM tI D k=some v->(k,v)∈D
 |[],h=>by cases h
 |(x,y)::l,h=>by unfold dA at h;cases e:gI yM k x with|true=>rw[e]at h;have h:some y=some v:=h;rw[(Ys k x).1 e,U_ h];simp|false=>rw[e]at h;exact o_ _ (Ml (D:=l) h)
def Mn{k:ue}{v:Int}:∀{D:List (ue×Int)} {q:ue×Int},q∈fh yM tI D k v->q∈D\/q=(k,v)
 |[],q,h=>.inr (j_.1 h)
 |(x,y)::l,q,h=>by
  unfold fh at h;cases e:gI yM k x with
  |true=>grind|false=>
   rw[e]at h;rcases J_.1 (show q∈(x,y)::fh yM tI l k v from h)with rfl|h;.simp
   .exact(Mn (D:=l) h).imp_left (o_ _)
def KOk.add{s:PS}{T:List fj}{K:List (ue×Int)}{n:Nat}(h:KOk s T K n){m:ue}(H:(d7 s m).2.1=0):KOk s (qJ T (d7 s m).1) (fh yM tI K m (mG T (d7 s m).1:Int)) (n+1):=by
 refine⟨λq C=>?_,l_ (HT (a:=yM) (b:=tI) m _ K) (Q_ h.l)⟩;rcases Mn C with C|rfl;.obtain⟨h1,h2,J⟩:=h.k q C;obtain⟨E,I⟩:=IY T (d7 s m).1;rw[I,YI h2];grind
 .exact⟨H,Ql ..,by rw[QW]⟩
def SV{b:List ue}{a:List Int}{i:Nat}(c:i<b.length)(hr:a.length=i)(k:Int):gL (b.take (i+1)) (a++[k])=gL (b.take i) a++[(k,!b[i].2.2.2.2.1,())]:=by unfold gL;rw[<-m_ c,I_ (by grind)];rfl
def EG(ts:List r8)(rows:List (List Int)):List (List qC):=ab_ (λt a=>gL t.2.1 a) ts rows
def SU{ts:List r8}{rows:List (List Int)}{i:Nat}(a:i<ts.length)(hr:rows.length=i)(r:List Int):EG (ts.take (i+1)) (rows++[r])=EG (ts.take i) rows++[gL ts[i].2.1 r]:=by unfold EG;rw[<-m_ a,I_ (by grind)];rfl
noncomputable def vq(s:PS)(ts:List r8):List fj×List (List qC)×Int×Unit:=
 if(oJ s ts).2.2≠0 then([],[],(oJ s ts).2.2,())else if 2000<(oJ s ts).1.length then([],[],4,())else((oJ s ts).1,EG ts (oJ s ts).2.1,0,())
abbrev zbr(T:List fj)(W:List (List qC))(K:List (ue×Int))(L:List qC)(m:ue)(t:fj)(j:Int):=(j,T,W,K,L,m.1,m.2.1,m.2.2.1,m.2.2.2.1.1,m.2.2.2.1.2.1,false,t.1,t.2.1,t.2.2.1.1,t.2.2.1.2.1,t.2.2.2.1,t.2.2.2.2.1.1,t.2.2.2.2.1.2.1,t.2.2.2.2.1.2.2.1,t.2.2.2.2.1.2.2.2.1,t.2.2.2.2.2.1,())
def JE{s:PS}{x:List fj×List (List Int)×Int}{t:r8}(h:x.2.2=0){e:Int}(hg:(qE s x.1 t.2.1).2.2=e)(a:e≠0):Xl s x t=([],[],e):=by unfold Xl;grind
def R2{s:PS}{x:List fj×List Int×Int}{m:ue}(h:x.2.2=0)(a:(d7 s m).2.1≠0):(Is s x m).2.2=(d7 s m).2.1:=by unfold Is;grind
def KT{s:PS}(hs:ou s){p:IS}(hp:K2 s p)(R:okD yO p):aB tbl 38 [.d yS s,.d yO p] [] lc (vq s p.2.1):=by
 refine cm ?_;have ph:=hp.tl;refine ae (aK (N:=p.2.1.length) (I:=λi st=>∃K,st=((i:Int),(oJ s (p.2.1.take i)).1,EG (p.2.1.take i) (oJ s (p.2.1.take i)).2.1,K,())/\TI p.2.1 i (oJ s (p.2.1.take i))/\KOk s (oJ s (p.2.1.take i)).1 K (64*i)) ⟨[],rfl,TI.nil _,by simp,by simp⟩ (λi st z a=>?_) λst a=>?_)
 .obtain⟨K,rfl,h,f⟩:=a;have ht:=hp.tr _ (b_ z);have B:=R.2.1.2 _ (b_ z);have ml:=ht.ml;have hg:oJ s (p.2.1.take (i+1))=Xl s (oJ s (p.2.1.take i)) p.2.1[i]:=iN z;have d:=mV (e:=λx=>x.2.2) (Ko s) p.2.1 (i+1) ([],[],0);rw[show y_ (Xl s) ([],[],0) (p.2.1.take (i+1))=_ from hg]at d;have P:(EG (p.2.1.take i) (oJ s (p.2.1.take i)).2.1).length<=i:=by unfold EG;grind
  rw[hg];have C:=λr=>SU z h.rl r;generalize EG (p.2.1.take i) (oJ s (p.2.1.take i)).2.1=W at P C;generalize oJ s (p.2.1.take i)=x at h f d C;have U:=h.ts;refine aQ z (aA z (ae (aK (N:=p.2.1[i].2.1.length) (I:=λj st=>∃K,st=((j:Int),(qE s x.1 (p.2.1[i].2.1.take j)).1,W,K,gL (p.2.1[i].2.1.take j) (qE s x.1 (p.2.1[i].2.1.take j)).2.1,())/\MI (64*i) j (qE s x.1 (p.2.1[i].2.1.take j))/\KOk s (qE s x.1 (p.2.1[i].2.1.take j)).1 K (64*i+j)) ⟨K,rfl,MI.nil U,f⟩ (λj st n a=>?_) λst a=>?_)))
  .have h':=h;obtain⟨K,rfl,h,f⟩:=a;have D:=ht.ma _ (b_ n);have u:=B.2.1.2 _ (b_ n);have hg:qE s x.1 (p.2.1[i].2.1.take (j+1))=Is s (qE s x.1 (p.2.1[i].2.1.take j)) p.2.1[i].2.1[j]:=iN n;have a:=mV (e:=λx=>x.2.2) (CL s) p.2.1[i].2.1 (j+1) (x.1,[],0);rw[show y_ (Is s) (x.1,[],0) (p.2.1[i].2.1.take (j+1))=_ from hg]at a;have g:=λk=>SV n h.rl k;rw[hg];have O:(gL (p.2.1[i].2.1.take j) (qE s x.1 (p.2.1[i].2.1.take j)).2.1).length<=j:=by unfold gL;grind
   generalize gL (p.2.1[i].2.1.take j) (qE s x.1 (p.2.1[i].2.1.take j)).2.1=L at g O;generalize qE s x.1 (p.2.1[i].2.1.take j)=y at h f a g;have qr:=h.ts.len;have el:=f.l;refine aQ n (aA n (ae ?_));generalize p.2.1[i].2.1[j]=m at D u a g⊢;have M:decide ((L.length+1)*16<=140737488355328)=true:=decide_eq_true (by omega);cases e:dA yM tI K (m.1,m.2.1,m.2.2.1,m.2.2.2.1,false,())with
   |some v=>
    obtain⟨q1,q2,q3⟩:=f.k _ (Ml e);obtain⟨J,E⟩:=h.put hs D u q1;rw[J];have Y:qJ y.1 (d7 s m).1=y.1:=if_pos q2;refine ap rfl (aa (ao M (aa ⟨K,?_,E,?_,?_⟩)));.rw[ak n,g,Y,show v=(mG y.1 (d7 s m).1:Int)from q3];rfl
    .rw[Y];exact f.k
    omega
   |none=>
    by_cases w:(d7 s m).2.1=0
    .obtain⟨J,E⟩:=h.put hs D u w;rw[J];have B:=P2 hs D u w;have l:=f.add (m:=(m.1,m.2.1,m.2.2.1,m.2.2.2.1,false,())) w;refine aD rfl (aj (sC hs (m:=(m.1,m.2.1,m.2.2.1,m.2.2.2.1,false,())) D) ?_);rw[show d7 s (m.1,m.2.1,m.2.2.1,m.2.2.2.1,false,())=d7 s m from rfl]at l⊢;generalize d7 s m=c at w B l E;refine ap (by grind) (ae (Wp.imp (Q:=λv=>v=zbr y.1 W K L m c.1 (mG y.1 c.1)) (Ev.wp_loop (λv=>∃k:Nat,v=zbr y.1 W K L m c.1 k/\k<=y.1.length/\∀q (T:q<y.1.length),q<k->y.1[q]≠c.1) (λv=>y.1.length - v.1.toNat) ⟨0,rfl,u_ _,λq _ h=>absurd h (Nat.not_lt_zero _)⟩ ?_) λv hv=>?_))
     .rintro v ⟨k,rfl,k1,k2⟩;by_cases A:k<y.1.length
      .refine ae (bh (b:= !decide (y.1[k]=c.1)) (λ_=>du (by simp) (c_ A) (aj (vX _ c.1 (h.ts.ok _ (b_ A)).2) (aa rfl))) (au (λH=>aa ?_) λH=>aa ?_))
       .rw[ak A];have gc:y.1[k]≠c.1:=by grind
        exact⟨⟨k+1,rfl,A,λq T hl=>if e:q=k then by grind else k2 q T (by omega)⟩,by show y.1.length - ((k+1:Nat):Int).toNat<y.1.length - (k:Int).toNat;omega⟩
       .rw[OT A (by grind) k2]
      .refine ae (ap (decide_eq_false (by grind)) (aa (ap rfl (aa ?_))));have A:k=y.1.length:=by omega
       subst A;rw[uD λhc=>by obtain⟨q,T,e⟩:=f_.1 hc;grind]
     .subst hv;have gK:decide (K.length<maxLen)=true:=decide_eq_true (by simp only[maxLen];omega);refine ae (au (λH=>ao (decide_eq_true (by grind)) (aa (ao gK (aa (ao M (aa ⟨_,?_,E,l⟩)))))) λH=>aa (ao gK (aa (ao M (aa ⟨_,?_,E,l⟩)))))
      .rw[ak n,g];have hn:c.1∉y.1:=λhc=>by have:=Ar hc;grind
       rw[show qJ y.1 c.1=y.1++[c.1]from if_neg hn]
      .rw[ak n,g];have hn:c.1∈y.1:=a_ λhc=>by rw[uD hc]at H;grind
       rw[show qJ y.1 c.1=y.1 from if_pos hn]
    .have he:=R2 (x:=y) h.e0 w;have h1:=a (by omega);have h2:=JE (t:=p.2.1[i]) h'.e0 (show(qE s x.1 p.2.1[i].2.1).2.2=(d7 s m).2.1 by unfold qE;grind) w;have h3:oJ s p.2.1=([],[],(d7 s m).2.1):=by have:=d (by grind);rw[h2]at this;exact this
     refine aD rfl (aj (sC hs (m:=(m.1,m.2.1,m.2.2.1,m.2.2.2.1,false,())) D) (aD (bne_iff_ne.2 w) (aa (aa (aa (aa ?_))))));unfold vq;rw[h3,if_pos w];rfl
  .obtain⟨K,rfl,F,f⟩:=a;rw[h_]at F f⊢;obtain⟨h1,h2⟩:=TI.put z h ml (show qE s x.1 p.2.1[i].2.1=((qE s x.1 p.2.1[i].2.1).1,(qE s x.1 p.2.1[i].2.1).2.1,0)from r_ rfl (r_ rfl F.e0)) ⟨rfl,F.ts,F.rl,F.rw⟩;rw[h1];refine aJ (aa (ao (decide_eq_true ?_) (aa ⟨K,?_,h2,f.k,by have:=f.l;omega⟩)));.grind
   .rw[ak z,C]
 .obtain⟨K,rfl,h,f⟩:=a;rw[h_]at h⊢;unfold vq;rw[if_neg (not_not_intro h.e0)];refine aJ (aa (au (λhl=>aa ?_) λhl=>aa ?_));all_goals grind
abbrev zcn(T:List fj)(U:List (List Int))(R:List Int)(t:fj)(n:Int)(i:Nat):=(n,(i:Int),T,U,R,t.1,t.2.1,t.2.2.1.1,t.2.2.1.2.1,t.2.2.2.1,t.2.2.2.2.1.1,t.2.2.2.2.1.2.1,t.2.2.2.2.1.2.2.1,t.2.2.2.2.1.2.2.2.1,t.2.2.2.2.2.1,())
def EK(T:List fj)(t:fj)(i:Nat):Int:=if mG T t<i then(mG T t:Int)else -1
def vG{s:PS}(hs:ou s){p:IS}(hp:K2 s p)(C:okD yO p):aB tbl 48 [.d yS s,.d yO p] [] pK ((oJ s p.2.1).1,(oJ s p.2.1).2.1,(oJ s p.2.1).2.2,()):=by
 refine cm ?_;have J:=hp.tl;refine ae (aK (N:=p.2.1.length) (I:=λi st=>st=((i:Int),(oJ s (p.2.1.take i)).1,(oJ s (p.2.1.take i)).2.1,())/\TI p.2.1 i (oJ s (p.2.1.take i))) ⟨rfl,TI.nil _⟩ (λi st n a=>?_) λst a=>?_)
 .obtain⟨rfl,h⟩:=a;have h':=h;have ht:=hp.tr _ (b_ n);have f:=C.2.1.2 _ (b_ n);have ml:=ht.ml;have hg:oJ s (p.2.1.take (i+1))=Xl s (oJ s (p.2.1.take i)) p.2.1[i]:=iN n;have d:=mV (e:=λx=>x.2.2) (Ko s) p.2.1 (i+1) ([],[],0);rw[show y_ (Xl s) ([],[],0) (p.2.1.take (i+1))=_ from hg]at d;rw[hg];generalize oJ s (p.2.1.take i)=x at h h' d;have D:=h.ts;have L:=h.rl;refine aQ n (aA n (ae (aK (N:=p.2.1[i].2.1.length) (I:=λj st=>st=((j:Int),(qE s x.1 (p.2.1[i].2.1.take j)).1,x.2.1,(qE s x.1 (p.2.1[i].2.1.take j)).2.1,())/\MI (64*i) j (qE s x.1 (p.2.1[i].2.1.take j))) ⟨rfl,MI.nil D⟩ (λj st r a=>?_) λst a=>?_)))
  .obtain⟨rfl,h⟩:=a;have l:=ht.ma _ (b_ r);have u:=f.2.1.2 _ (b_ r);have hg:qE s x.1 (p.2.1[i].2.1.take (j+1))=Is s (qE s x.1 (p.2.1[i].2.1.take j)) p.2.1[i].2.1[j]:=iN r;have a:=mV (e:=λx=>x.2.2) (CL s) p.2.1[i].2.1 (j+1) (x.1,[],0);rw[show y_ (Is s) (x.1,[],0) (p.2.1[i].2.1.take (j+1))=_ from hg]at a;rw[hg];generalize qE s x.1 (p.2.1[i].2.1.take j)=y at h a;have M:=h.ts.len;have O:=h.rl;refine aQ r (aA r ?_);generalize p.2.1[i].2.1[j]=m at l u a⊢;have hc:=C0 hs l;unfold Ku at hc;by_cases g:(d7 s m).2.1=0
   .obtain⟨F,B⟩:=h.put hs l u g;rw[F];have f:=P2 hs l u g;rw[if_pos g]at hc;refine aj hc ?_;generalize d7 s m=c at g f B;refine ap (by grind) (ae (aK (N:=y.1.length) (I:=λk v=>v=zcn y.1 x.2.1 y.2.1 c.1 (EK y.1 c.1 k) k) rfl (λk v z E=>?_) λv E=>?_))
    .subst E;refine aQ z (ae (du (by simp) (c_ z) (aj (pT c.1 _ f.2) (au (λb=>aa (aa ?_)) λb=>aa (aa ?_)))))
     .have b:c.1=y.1[k]:=of_decide_eq_true b;have e:mG y.1 c.1=k:=OT z b.symm λq H hl e=>by have:=g_.1 h.ts.nd q k H z hl;grind
      rw[ak z,show EK y.1 c.1 (k+1)=(k:Int) by unfold EK;omega]
     .have b:c.1≠y.1[k]:=of_decide_eq_false b;have e:mG y.1 c.1≠k:=λe=>by
       by_cases l:c.1∈y.1
       .have:y.1[mG y.1 c.1]'(Ar l)=c.1:=by have:=List.findIdx_getElem (p:=λx=>decide (x=c.1)) (w:=Ar l);exact of_decide_eq_true this
        grind
       .rw[uD l]at e;omega
      rw[ak z,show EK y.1 c.1 (k+1)=EK y.1 c.1 k by unfold EK;omega]
    .subst E;refine aJ (aa (ae (au (λb=>ao (decide_eq_true (by grind)) (aa (ao (decide_eq_true (by grind)) (aa ⟨?_,B⟩)))) λb=>aa (ao (decide_eq_true (by grind)) (aa ⟨?_,B⟩)))))
     .have hn:c.1∉y.1:=λhc=>by have:=Ar hc;have b:EK y.1 c.1 y.1.length<0:=of_decide_eq_true b;unfold EK at b;omega
      rw[ak r,show qJ y.1 c.1=y.1++[c.1]from if_neg hn,uD hn]
     .have hn:c.1∈y.1:=a_ λhc=>by have b:¬EK y.1 c.1 y.1.length<0:=of_decide_eq_false b;unfold EK at b;rw[uD hc,if_neg (Nat.lt_irrefl _)]at b;omega
      rw[ak r,show qJ y.1 c.1=y.1 from if_pos hn,show EK y.1 c.1 y.1.length=_ from if_pos (Ar hn)]
   .rw[if_neg g]at hc;have Q:=R2 (x:=y) h.e0 g;have h1:=a (by omega);have h2:=JE (t:=p.2.1[i]) h'.e0 (show(qE s x.1 p.2.1[i].2.1).2.2=(d7 s m).2.1 by unfold qE;grind) g;have P:oJ s p.2.1=([],[],(d7 s m).2.1):=by have:=d (by grind);rw[h2]at this;exact this
    refine aj hc (aD (bne_iff_ne.2 g) (aa (aa (aa ?_))));grind
  .obtain⟨rfl,A⟩:=a;rw[h_]at A⊢;obtain⟨h1,h2⟩:=TI.put n h ml (show qE s x.1 p.2.1[i].2.1=((qE s x.1 p.2.1[i].2.1).1,(qE s x.1 p.2.1[i].2.1).2.1,0)from r_ rfl (r_ rfl A.e0)) ⟨rfl,A.ts,A.rl,A.rw⟩;rw[h1];refine aJ (aa (ao (decide_eq_true ?_) (aa ⟨?_,h2⟩)));.grind
   .rw[ak n]
 .obtain⟨rfl,h⟩:=a;rw[h_]at h⊢;refine aJ (aa (aa ?_));rw[h.e0]
set_option maxRecDepth 100000
def JQ(n:Int):∀D:xt,lk D n=(D.find? λq=>q.1==n).map (·.2)
 |[]=>rfl
 |(a,b)::l=>by rw[Cv,List.find?_cons,JQ n l];grind
abbrev mF(D:xt):List Int:=D.map (·.1)
abbrev mT(D:xt):List Int:=D.map (·.2)
def VW{D:xt}{i:Nat}(h:i<D.length):(mF D)[i]? =some D[i].1:=by rw[L_,c_ h];rfl
def VX{D:xt}{i:Nat}(h:i<D.length):(mT D)[i]? =some D[i].2:=by rw[L_,c_ h];rfl
def Z1(D:xt)(n:Int)(hl:D.length<=2000000000000):aB tbl 117 [.ptr 0 0,.d tI n] [.box 119 [.sl 1,.sl 2],.vec 3 tI (mF D),.vec 3 tI (mT D)] iA ((lk D n).getD 0,(lk D n).isSome,mF D,mT D,()):=by
 refine cm ?_;rw[JQ];refine ae (kI (xs:=D) (p:=λq=>q.1==n) (enc:=λi=>((i:Int),mF D,mT D,())) (g:=λq=>(q.2,true,mF D,mT D,())) (e:=(mF D,mT D,())) (λi a=>?_) ?_ ?_)
 .refine aD (decide_eq_true (by grind)) (du (by simp) (by rw[d_];exact VW a) (au (λh=>?_) λh=>aa ?_));.exact du (by simp) (by rw[d_];exact VX a) (aa (by grind))
  .rw[if_neg (q_.1 h),ak a]
 .exact ap (decide_eq_false (by simp)) (aa rfl)
 .cases D.find? (λq=>q.1==n)with|some q=>exact aa rfl|none=>exact aa rfl
abbrev zae(g:gQ)(v:Int)(T:List fj)(s:xu):List Ob:=[.box 215 [.ptr 1 0,.sl 2,.sl 3,.sl 4,.d tI v,.sl 5,.sl 6],.box 112 [.sl 7,.sl 8],.vec 54 NT T,.vec 90 rU s.1,.vec 70 xn s.2.1,.vec 3 tI (mF s.2.2),.vec 3 tI (mT s.2.2),.vec 90 rU g.2.1,.vec 70 xn g.2.2.1]
def XN(g:gQ)(v:Int)(T:List fj)(s:xu)(n:Int)(hl:s.2.2.length<=2000000000000):aB tbl 10117 [.ptr 0 5,.d tI n] (zae g v T s) fY ((lk s.2.2 n).getD 0,(lk s.2.2 n).isSome,v,T,s.1,s.2.1,mF s.2.2,mT s.2.2,g.2.1,g.2.2.1,()):=by
 refine cm ?_;rw[JQ];refine ae (kI (xs:=s.2.2) (p:=λq=>q.1==n) (enc:=λi=>((i:Int),v,T,s.1,s.2.1,mF s.2.2,mT s.2.2,g.2.1,g.2.2.1,())) (g:=λq=>(q.2,true,v,T,s.1,s.2.1,mF s.2.2,mT s.2.2,g.2.1,g.2.2.1,())) (e:=(v,T,s.1,s.2.1,mF s.2.2,mT s.2.2,g.2.1,g.2.2.1,())) (λi a=>?_) ?_ ?_)
 .refine aD (decide_eq_true (by grind)) (du (by simp) (by rw[d_];exact VW a) (au (λh=>?_) λh=>aa ?_));.exact du (by simp) (by rw[d_];exact VX a) (aa (by grind))
  .rw[if_neg (q_.1 h),ak a]
 .exact ap (decide_eq_false (by simp)) (aa rfl)
 .cases s.2.2.find? (λq=>q.1==n)with|some q=>exact aa rfl|none=>exact aa rfl
def T9(D:xt)(n k:Int)(hl:D.length<=2000000000000):aB tbl 119 [.ptr 0 0,.d tI n,.d tI k] [.box 119 [.sl 1,.sl 2],.vec 3 tI (mF D),.vec 3 tI (mT D)] iB (mF (D++[(n,k)]),mT (D++[(n,k)]),()):=by refine cm (ao (decide_eq_true ?_) (ao (decide_eq_true ?_) (aa ?_)));all_goals grind
def UA(g:gQ)(v:Int)(T:List fj)(s:xu)(n k:Int)(hl:s.2.2.length<=2000000000000):aB tbl 10119 [.ptr 0 5,.d tI n,.d tI k] (zae g v T s) fZ (v,T,s.1,s.2.1,mF (s.2.2++[(n,k)]),mT (s.2.2++[(n,k)]),g.2.1,g.2.2.1,()):=by refine cm (ao (decide_eq_true ?_) (ao (decide_eq_true ?_) (aa ?_)));all_goals grind
abbrev U2(B:List cQ)(L:List ff):List Ob:=[.box 112 [.sl 1,.sl 2],.vec 90 rU B,.vec 70 xn L]
def mr(B:List cQ)(L:List ff)(l:ff)(b:∀x∈L,okD xn x)(hl:L.length<=2000000000000)(c:l.2.1.length<=1048576):aB tbl 49 [.ptr 0 0,.d xn l] (U2 B L) bN ((dJ L l).1,B,(dJ L l).2,()):=by
 refine cm (ae (Kw (xs:=L) (p:=λx=>decide (x=l)) (enc:=λi=>((i:Int),B,L,())) (oB:=λi=>(-1 - (i:Int),B,L,())) (oE:=(B,L,())) (λi a=>?_) ?_ ?_))
 .refine aQ a (du (by simp) (by simp) (aj (pS _ l (b _ (b_ a))) (au (λh=>aa ?_) λh=>aa ?_)));.rw[if_pos (show decide (L[i]=l)=true from h),wrap_i64]
  .rw[if_neg (q_.1 (show decide (L[i]=l)=false from h)),ak a]
 .exact aJ (aa rfl)
 .unfold dJ;cases L.findIdx? (λx=>decide (x=l))with|some i=>exact aa rfl|none=>refine ao (decide_eq_true (by grind)) (ao (decide_eq_true (by grind)) (aa ?_));simp only[i_,e_];rw[wrap_i64];simp
def sN(B:List cQ)(L:List ff)(b:cQ)(hl:B.length<=2000000000000):aB tbl 118 [.ptr 0 0,.d rU b] (U2 B L) bN ((eC B b).1,(eC B b).2,L,()):=by
 refine cm ?_;unfold eC;refine au (λh=>aa ?_) λh=>?_;.grind
 rw[if_neg (by grind)];refine ae (Kw (xs:=B) (p:=λx=>decide (x=b)) (enc:=λi=>((i:Int),B,L,())) (oB:=λi=>((i:Int),B,L,())) (oE:=(B,L,())) (λi a=>?_) ?_ ?_)
 .refine aQ a (du (by simp) (by rw[d_];exact c_ a) ?_);rw[show gI rU B[i] b=_ from HF _ _,Bool.false_xor];refine au (λh=>aa ?_) λh=>aa ?_;.grind
  .rw[if_neg (q_.1 h),ak a]
 .exact aJ (aa rfl)
 .cases B.findIdx? (λx=>decide (x=b))with|some i=>exact aa rfl|none=>refine ao (decide_eq_true (by grind)) (aa ?_);simp only[i_,e_];rw[wrap_i64 (by simp) (by omega)];simp
abbrev bxC(s:xu):List Ob:=[.box 112 [.sl 2,.sl 3],.box 119 [.sl 4,.sl 5],.vec 90 rU s.1,.vec 70 xn s.2.1,.vec 3 tI (mF s.2.2),.vec 3 tI (mT s.2.2)]
def Z5{g:gQ}(hg:UG g)(v:Int)(T:List fj):∀(f:Nat) (n:Int) (s:xu),eU g n=true->(n+1).toNat<f->VI g s.1 s.2.1 s.2.2->aB tbl 123 [.ptr 0 0,.d tI n] (zae g v T s) fm ((kO g f n s).1,v,T,(kO g f n s).2.1,(kO g f n s).2.2.1,mF (kO g f n s).2.2.2,mT (kO g f n s).2.2.2,g.2.1,g.2.2.1,()):=by
 intro f;induction f with
 |zero=>simp|succ f d=>
  intro n s hn u hs;refine cm ?_;unfold kO;obtain⟨z,A,B⟩:=hs.small hg;refine aj (XN g v T s n (by omega)) ?_;cases e:lk s.2.2 n with
  |some k=>exact aD rfl (aa rfl)|none=>
   refine ap rfl ?_;by_cases a:n<0
   .simp only[if_pos a];obtain⟨w1,w2,w⟩:=Mo hg hn a;rw[w1];refine aD (decide_eq_true a) (du w2 (iP a hn) (ao (decide_eq_true (by simp only[List.length_nil];omega)) (ao (decide_eq_true (by simp only[e_];omega)) ?_)));simp only[List.nil_append];refine aj (UA g v T (s.1,s.2.1++[((fN g n).1,(fN g n).2.1,())],s.2.2) n _ (by omega)) (aa ?_);have l:x_ .i64 (0 - ((s.2.1.length+1:Nat):Int))= -((s.2.1.length:Int)+1):=by rw[wrap_i64];simp
    simp only[i_,e_,l]
   .simp only[if_neg a];have a:0<=n:=by omega
    have h:=hg.low.kids hn a _ (.inl rfl);have j:=hg.low.kids hn a _ (.inr rfl);obtain⟨i,rfl,r⟩:=tN hn a;have hp:=hs.push a hn (ry e) ((cz g i).1,0,0,());have y:=FH hg.low f _ (s.1++[((cz g i).1,0,0,())],s.2.1,s.2.2++[((i:Int),(s.1.length:Int))]) h.1 (by omega) hp;have c:=d _ (s.1++[((cz g i).1,0,0,())],s.2.1,s.2.2++[((i:Int),(s.1.length:Int))]) h.1 (by omega) hp;generalize kO g f (cz g i).2.1 (s.1++[((cz g i).1,0,0,())],s.2.1,s.2.2++[((i:Int),(s.1.length:Int))])=Y at y c;have o:=FH hg.low f _ Y.2 j.1 (by omega) y.inv;have b:=d _ Y.2 j.1 (by omega) y.inv;generalize kO g f (cz g i).2.2.1 Y.2=O at o b;obtain⟨l1,l2⟩:=NG (p:=O) y o;refine ap (decide_eq_false (by simp)) (aj (UA g v T s (i:Int) _ (by omega)) (du (x:=cz g i) (by simp) ?_ (ao (decide_eq_true (by simp only[e_];omega)) ?_)));.rw[d_,sY r];simp
    refine aj c (aj b (du (x:=((cz g i).1,0,0,())) (by simp) (by rw[d_];omega) ?_));refine du (x:=((cz g i).1,Y.1,0,())) (by simp) (by rw[d_,List.getElem?_set_self l1]) (aa ?_);simp
def CR{g:gQ}(hg:UG g)(r:Int)(hr:eU g r=true){F:Nat}(a:g.2.1.length<F)(T:List fj): aB tbl 54 [.ptr 0 0,.d (.list NT) T,.d tI r] (U2 g.2.1 g.2.2.1) fb ((T,(kO g F r ([],[],[])).2.1,(kO g F r ([],[],[])).2.2.1,(kO g F r ([],[],[])).1,()),g.2.1,g.2.2.1,()):=by refine cm ?_;have:=(cF.1 hr).1;exact aj (Z5 hg 0 [] F r ([],[],[]) hr (by omega) (VI.nil g)) (aa rfl)
set_option maxRecDepth 100000
def SO{L:List ff}{l:ff}(nd:L.Nodup){i:Nat}(h:L[i]? =some l):dJ L l=(-1 - (i:Int),L):=by
 obtain⟨a,h⟩:=List.getElem?_eq_some_iff.1 h;have:L.findIdx? (λx=>decide (x=l))=some i:=List.findIdx?_eq_some_iff_getElem.2 ⟨a,by grind,λj b=>by have:=g_.1 nd j i (by omega) a b;grind⟩
 unfold dJ;grind
def C1{g:gQ}{A:List sB}{R:List Int}{k:Nat}(l:N4 g.2.1 g.2.2.1 R)(ht:Cj g.1.length g.2.1 g.2.2.1)(I:R.length<=100000000)(hB:g.2.1.length<=900000000000)(hL:g.2.2.1.length<=900000000000) (H:∀a∈A,okD yA a) (h:LvS k g.2.2.1) (N:A.length+k<=1000000):∀(f:Nat) (n:Int) (s:xu),n∈R->(n+1).toNat<f->PI g A R s->aB tbl 51 [.ptr 0 0,.d (.list yA) A,.d tI n,.ptr 1 0] (bxC s) fo ((jZ g A f n s).1,(jZ g A f n s).2.1,(jZ g A f n s).2.2.1,mF (jZ g A f n s).2.2.2,mT (jZ g A f n s).2.2.2,()):=by
 intro f;induction f with
 |zero=>simp|succ f C=>
  intro n s hn hf hs;refine cm ?_;unfold jZ;have hD:=hs.len;have L:=hs.cB;have M:=hs.cL;have j:=cF.2 (l n hn).1;refine aj (Z1 s.2.2 n (by omega)) ?_;cases e:lk s.2.2 n with
  |some v=>exact aD rfl (aa rfl)|none=>
   have P:=ry e;refine ap rfl ?_;by_cases d:n<0
   .simp only[if_pos d];have p:=(l n hn).1.2;have w1:x_ .i64 ((-1:Int) - n)= -1 - n:=wrap_i64;rw[w1];obtain⟨E,B⟩:=hs.eL;have c:s.2.1[(-1 - n).toNat]? =some (fN g n):=by rw[B];exact ye (iP d j)
    have Q:=h _ (E_ (iP d j));refine ae (ap (decide_eq_false (by omega)) (du (by omega) c ?_));by_cases J:(fN g n).1=true
    .have hp:nH A (fN g n)=(true,A++(fN g n).2.1,()):=by unfold nH;grind
     rw[hp];refine aD J (ao (decide_eq_true (by omega)) (ao (decide_eq_true (by omega)) (aj (mr s.1 s.2.1 (true,A++(fN g n).2.1,()) (λx p=>?_) (by omega) ?_) (aa (aj (T9 s.2.2 n _ (by omega)) (aa rfl))))))
     .rcases hs.lv x p with p|⟨T,h1,rfl⟩;.exact(h x p).1
      .exact(JZ H (h T h1) N).1
     .simp only[i_];omega
    .have hp:nH A (fN g n)=fN g n:=by unfold nH;grind
     rw[hp,SO hs.tab.ln c,show(-1 - (((-1 - n).toNat:Nat):Int))=n by omega];exact ap (by grind) (aa (aj (T9 s.2.2 n n (by omega)) (aa rfl)))
   .simp only[if_neg d];have d:0<=n:=by omega
    obtain⟨b,D,r,u⟩:=(l n hn).2 d;have kid:=ht.low.kids j d;have F:=um D;rw[<-F]at r u;have m1:=(kid _ (.inl rfl)).2;have m2:=(kid _ (.inr rfl)).2;have y:=E7 A l ht f _ s r (by omega) hs;have z:=C _ s r (by omega) hs;obtain⟨E,B⟩:=hs.eB;have c:s.1[n.toNat]? =some (cz g n):=by grind
    generalize jZ g A f (cz g n).2.1 s=Y at y z;have o:=E7 A l ht f _ Y.2 u (by omega) y.inv;have w:=C _ Y.2 u (by omega) y.inv;generalize jZ g A f (cz g n).2.2.1 Y.2=O at o w;have oD:=o.inv.len;have U:=o.inv.cB;exact ae (aD (decide_eq_true (by omega)) (du d c (aj z (aj w (aj (sN O.2.1 O.2.2.1 ((cz g n).1,Y.1,O.1,()) (by omega)) (aa (aj (T9 O.2.2.2 n _ (by omega)) (aa rfl))))))))
def tsF(B:List cQ)(n:Int):Int:=if n<0 then 2001 else((B[n.toNat]?).getD (0,0,0,())).1
def Ra{B:List cQ}{a n:Int}(h:a<=2001):min a (tsF B n)=jW B a n:=by unfold tsF jW;omega
def IM(B:List cQ)(L:List ff)(n:Int)(hn:n<(B.length:Int)):aB tbl 121 [.ptr 0 0,.d tI n] (U2 B L) bN (tsF B n,B,L,()):=by refine cm ?_;unfold tsF;refine au (λh=>aa ?_) λh=>du (x:=B[n.toNat]'(by grind)) (by grind) (c_ _) (aa ?_);all_goals grind
def oq(B:List cQ)(L:List ff)(n t:Int)(r:Bool)(hn:n<(B.length:Int))(ht:t<=2000):aB tbl 122 [.ptr 0 0,.d tI n,.d tI t,.d tB r] (U2 B L) bN (gg B n t r,B,L,()):=by
 refine cm (aj (IM B L n hn) ?_);unfold tsF gg;by_cases a:n<0;.rw[if_pos a,if_pos (.inl a)];exact aD (bne_iff_ne.2 (by omega)) (aa rfl)
 .rw[if_neg a];have b:n.toNat<B.length:=by omega
  have hg:=c_ b;rw[show(B[n.toNat]?).getD (0,0,0,())=B[n.toNat] by grind];by_cases e:B[n.toNat].1=t;.refine ap (by grind) (au (λhr=>du (by omega) hg (aa ?_)) λhr=>du (by omega) hg (aa ?_));all_goals grind
  .rw[if_pos (.inr e)];exact aD (bne_iff_ne.2 e) (aa rfl)
abbrev yCH:Ty:=pr [tI,tI,tI,tI]
def vv(N:Nat)(D:wa):List yCH.den:=D.map λq=>((N:Int) - q.1.1,q.1.2.1,q.1.2.2.1,q.2,())
def VP(D:wa)(k:cQ):XF D k=(D.find? (λq=>decide (q.1=k))).map (·.2):=by induction D with|nil=>rfl|cons q l a=>rw[EH];grind
def KR(N:Nat)(D:wa)(m:Nat)(y n:Int)(hl:D.length<=2000000000000):aB tbl 120 [.ptr 0 0,.d tI ((N:Int) - m),.d tI y,.d tI n] [.box 124 [.sl 1],.vec 212 yCH (vv N D)] fk ((XF D ((m:Int),y,n,())).getD 0,(XF D ((m:Int),y,n,())).isSome,vv N D,()):=by
 refine cm ?_;rw[VP];have a:(vv N D).length=D.length:=by unfold vv;simp
 refine ae (kI (xs:=D) (p:=λq=>decide (q.1=((m:Int),y,n,()))) (enc:=λi=>((i:Int),vv N D,())) (g:=λq=>(q.2,true,vv N D,())) (e:=(vv N D,())) (λi b=>?_) ?_ ?_)
 .have hg:(vv N D)[i]? =some ((N:Int) - D[i].1.1,D[i].1.2.1,D[i].1.2.2.1,D[i].2,()):=by unfold vv;grind
  refine aD (decide_eq_true (by omega)) (du (by simp) (by rw[d_];omega) (ae (bh (λ_=>aa rfl) (ae (bh (λ_=>aa rfl) (au (λh=>aa ?_) λh=>aa ?_))))));.grind
  .rw[if_neg (by grind),ak b]
 .exact ap (decide_eq_false (by omega)) (aa rfl)
 .cases D.find? (λq=>decide (q.1=((m:Int),y,n,())))with|some q=>exact aa rfl|none=>exact aa rfl
set_option maxRecDepth 100000
abbrev bxD(N:Nat)(s:List cQ×wa)(L:List ff):List Ob:=[.box 112 [.sl 2,.sl 3],.box 124 [.sl 4],.vec 90 rU s.1,.vec 70 xn L,.vec 212 yCH (vv N s.2)]
abbrev Hg(lits l:List qC)(y n:Int)(s:List cQ×wa)(L:List ff)(R:Int×(List cQ×wa)):Prop:=aB tbl 52 [.ptr 0 0,.d (.list Ut) lits,.d tI ((lits.length:Int) - l.length),.d tI y,.d tI n,.ptr 1 0] (bxD lits.length s L) eQ (R.1,R.2.1,L,vv lits.length R.2.2,())
def R6{nt:Nat}{lits:List qC}{B0:List cQ}{L:List ff}{RY U:List Int}(hsz:B0.length<=900000000000)(Bk:(lits.length+1)*(RY.length*U.length)<=90000000000)(Hx:lits.length<=1000000)(h0:Cj nt B0 L)(hY:N4 B0 L RY)(hN:N4 B0 L U) (DM:∀(i j:Nat) (a b:qC),lits[i]? =some a->lits[j]? =some b->i<j->a.1<b.1) (BT:∀x∈lits,0<=x.1/\x.1<(nt:Int)) (JT:nt<=2000): ∀(f:Nat) (l:List qC) (y n:Int) (T:Int) (s:List cQ×wa),(∃p,lits=p++l)->y∈RY->n∈U->Bd lits B0 T ((l.length:Int),y,n,())->-1<=T->T<(nt:Int)->(nt:Int) - T<=f->CI nt lits B0 L RY U s->zbk nt lits B0 L RY U T ((l.length:Int),y,n,()) s (zS f l y n s)/\KW l y n s L (zS f l y n s)/\Hg lits l y n s L (zS f l y n s):=by
 intro f;induction f with
 |zero=>omega|succ f ih=>
  intro l y n T s hp hy hn hb hT GS hf hs;obtain⟨p,hp⟩:=hp;have DP:Ce s.1 L y:=by obtain⟨E,hE⟩:=hs.eB;have:=(hY y hy).1.app (E:=E) (E':=[]);rw[z_]at this;rw[hE];omega
  have gc:zbk nt lits B0 L RY U T ((l.length:Int),y,n,()) s (y,s):=by refine⟨hs,DP,λT' H=>?_,⟨[],by simp⟩,λq g=>.inl g⟩;obtain⟨E,hE⟩:=hs.eB;show Bo s.1 y T';rw[hE];exact H.1.app
  have Fm:(lits.length:Int) - l.length=(p.length:Int):=by rw[hp,i_];simp
  have stop:(l=[]\/y=n)->KW l y n s L (y,s)/\Hg lits l y n s L (y,s):=λh=>by
   refine⟨cm ?_,cm ?_⟩;.exact ae (bq (b:=(y==n)) (λ_=>aa rfl) (aD (by rcases h with rfl|rfl<;>simp) (aa rfl)))
   .exact ae (bq (b:=(y==n)) (λ_=>aa rfl) (aD (by rcases h with rfl|rfl<;>simp) (aa rfl)))
  cases l with
  |nil=>exact⟨gc,stop (.inl rfl)⟩|cons x l=>
   unfold zS;by_cases M:y=n;.rw[if_pos M];exact⟨gc,stop (.inr M)⟩
   rw[if_neg M];have At:(((lits.length:Int) - (x::l).length==(lits.length:Int))||(y==n))=false:=by rw[C_];exact⟨beq_eq_false_iff_ne.2 (by rw[p_];omega),beq_eq_false_iff_ne.2 M⟩
   have go:(((x::l).length:Int)==0||(y==n))=false:=by rw[C_];exact⟨beq_eq_false_iff_ne.2 (by rw[p_];omega),beq_eq_false_iff_ne.2 M⟩
   cases e:XF s.2 (((l.length+1:Nat):Int),y,n,())with
   |some k=>
    obtain⟨q1,q2⟩:=hs.vd _ _ (Q9 e);refine⟨⟨hs,q1,λT' H=>q2 T' H,⟨[],by simp⟩,λq g=>.inl g⟩,cm ?_,cm ?_⟩;.refine ae (bq (b:=(y==n)) (λ_=>aa rfl) (ap go ?_));rw[show dA rU tI s.2 (((x::l).length:Int),y,n,())=some k from e];exact aD rfl (aa rfl)
    .have:=hs.len;have cf:=KR lits.length s.2 (l.length+1) y n (by omega);rw[e]at cf;exact ae (bq (b:=(y==n)) (λ_=>aa rfl) (ap At (aj cf (aD rfl (aa rfl)))))
   |none=>
    have hk:=Mq e;have hx:x∈lits:=by rw[hp];simp
    have hd:lits.drop (lits.length - (l.length+1))=x::l:=by rw[hp];simp
    have DE:lits.drop (lits.length - l.length)=l:=by rw[hp];simp only[i_,p_];rw[show p.length+(l.length+1) - l.length=p.length+1 by omega,show p++x::l=(p++[x])++l by simp];simp
    have KK:l.length+1<=lits.length:=by rw[hp];simp
    have DB:T<x.1:=hb.2.2 x (by show(lits.drop (lits.length - (((l.length+1:Nat):Int)).toNat)).head?=_;rw[d_,hd];rfl)
    have et:jW s.1 (jW s.1 x.1 y) n=jW B0 (jW B0 x.1 y) n:=by rw[VT hs.eB (hN n hn).1,VT hs.eB (hY y hy).1]
    have F:∀{s:List cQ×wa},CI nt lits B0 L RY U s->y<(s.1.length:Int)/\n<(s.1.length:Int):=fun{s} hs=>by obtain⟨E,hE⟩:=hs.eB;have:=(hY y hy).1.1;have:=(hN n hn).1.1;rw[hE,i_];omega
    have step:∀(c tp:Int),c<(s.1.length:Int)->Wp (λ_=>v_ (bif decide (c>=0)then v_ (nv s.1 c) λ_=>v_ s.1[ae_ c]? λv8=>some (decide (v8.1<tp))else some false) λv9=>bif v9 then v_ (nv s.1 c) λ_=>v_ s.1[ae_ c]? λDQ=>some (s.2,s.1,kA s.1,L,x::l,y,n,((x::l).length:Int),y,n,DQ.1,()) else some (s.2,s.1,kA s.1,L,x::l,y,n,((x::l).length:Int),y,n,tp,())) (λv=>v=(s.2,s.1,kA s.1,L,x::l,y,n,((x::l).length:Int),y,n,jW s.1 tp c,())):=λc tp hc=>by
     unfold jW
     by_cases c0:0<=c
     .have hg:=c_ (l:=s.1) (i:=c.toNat) (by omega);rw[show(s.1[c.toNat]?).getD (0,0,0,())=s.1[c.toNat]'(by omega)from by rw[hg];rfl];refine ae (bh (b:=decide (s.1[c.toNat].1<tp)) (λ_=>du c0 hg (aa rfl)) (au (λh=>du c0 hg (aa ?_)) λh=>aa ?_));.rw[if_pos ⟨c0,of_decide_eq_true (B_.1 h).2⟩]
      .rw[if_neg λhh=>by rw[decide_eq_true (show c>=0 from c0),Bool.true_and]at h;exact of_decide_eq_false h hh.2]
     .rw[if_neg (λh=>c0 h.1)];exact ae (ap (decide_eq_false c0) (aa (ap rfl (aa rfl))))
    have r0:Ev.rowAt tI 2 (.d Un (y,n,())) ((0:Nat):Int)=some y:=rfl;have r1:Ev.rowAt tI 2 (.d Un (y,n,())) ((1:Nat):Int)=some n:=rfl;simp only;rw[et];generalize Y:jW B0 (jW B0 x.1 y) n=t;have wr:jW s.1 (jW s.1 x.1 y) n=t:=et.trans Y;have t1:T<t:=by rw[<-Y];exact JS (JS DB hb.1) hb.2.1
    have t2:t<=jW B0 x.1 y:=by rw[<-Y];exact VV _ _ _
    have t3:t<=x.1:=Int.le_trans t2 (VV _ _ _);have gy:=VU (hY y hy).1.1 t2;have gn:=VU (hN n hn).1.1 (Int.le_of_eq Y.symm);have el:0<=t/\t<(nt:Int):=⟨by omega,by have:=(BT x hx).2;omega⟩;have one:∀(r:Bool) (s:List cQ×wa),CI nt lits B0 L RY U s->∃R:Int×(List cQ×wa),R=(if x.1≠t then zS f (x::l) (gg s.1 y t r) (gg s.1 n t r) s else if x.2.1≠r then(gg s.1 n t r,s)else zS f l (gg s.1 y t r) (gg s.1 n t r) s)/\CI nt lits B0 L RY U R.2/\Ce R.2.1 L R.1/\Bo R.2.1 R.1 t/\(∃E,R.2.1=s.1++E)/\(∀q∈R.2.2,q∈s.2\/Bd lits B0 t q.1)/\((x.1≠t->Hg lits (x::l) (gg s.1 y t r) (gg s.1 n t r) s L R)/\(x.1=t->x.2.1=r->Hg lits l (gg s.1 y t r) (gg s.1 n t r) s L R))/\aB tbl 110 [.d tB r,.ptr 0 0,.ptr 1 0,.ptr 2 0,.ptr 3 0,.ptr 4 0,.ptr 5 0,.ptr 6 0] (bxB y n (x::l) t s L) cq (R.1,y,n,x::l,t,R.2.2,R.2.1,kA R.2.1,L,()):=by
     intro r s hs
     obtain⟨y1,y2⟩:=Xn h0 hY hy gy r
     obtain⟨n1,n2⟩:=Xn h0 hN hn gn r
     obtain⟨u1,u2⟩:=F hs
     have ey:=Kr hs.eB (hY y hy).1 t r
     have en:=Kr hs.eB (hN n hn).1 t r
     refine⟨_,rfl,?_⟩
     by_cases d:x.1≠t
     .rw[if_pos d];have bd:Bd lits B0 t (((x::l).length:Int),gg B0 y t r,gg B0 n t r,()):=⟨y2,n2,λz O=>by have O:(lits.drop (lits.length - (((l.length+1:Nat):Int)).toNat)).head?=some z:=O;rw[d_,hd]at O;cases O;omega⟩
      obtain⟨c,cc,cd⟩:=ih (x::l) _ _ t s ⟨p,hp⟩ y1 n1 bd (by omega) el.2 (by omega) hs;rw[<-ey,<-en]at cc;have bl:=Iw (R:=zS f (x::l) (gg s.1 y t r) (gg s.1 n t r) s) u1 u2 (by omega) (λ_=>cc) (λh=>absurd h d) (λh=>absurd h d);rw[ey,en]at bl⊢;exact⟨c.inv,c.nd,c.gt t bd,c.eB,c.new,⟨λ_=>cd,λh=>absurd h d⟩,bl⟩
     .rw[if_neg d];have d:x.1=t:=a_ d;by_cases hr:x.2.1≠r;.rw[if_pos hr];have bl:=Iw (L:=L) (R:=(gg s.1 n t r,s)) (l:=l) (x:=x) u1 u2 (by omega) (λh=>absurd d h) (λ_ _=>rfl) (λ_ h=>absurd h hr);rw[en]at bl⊢;obtain⟨E,hE⟩:=hs.eB;have e:=(hN _ n1).1.app (E:=E) (E':=[]);rw[z_]at e;refine⟨hs,by rw[hE];omega,by simp only;rw[hE];exact n2.app,⟨[],by simp⟩,λq g=>.inl g,⟨λh=>absurd d h,λ_ h=>absurd h hr⟩,bl⟩
      .rw[if_neg hr];have bd:Bd lits B0 t ((l.length:Int),gg B0 y t r,gg B0 n t r,()):=⟨y2,n2,λz O=>by
        have O:(lits.drop (lits.length - ((l.length:Int)).toNat)).head?=some z:=O;rw[d_,DE]at O;have a1:lits[p.length]? =some x:=by rw[hp];simp
        have a2:lits[p.length+1]? =some z:=by rw[hp,List.getElem?_append_right (by simp),show p.length+1 - p.length=1 by simp];cases l with|nil=>cases O|cons w l=>cases O;rfl
        have:=DM _ _ _ _ a1 a2 (by simp);omega⟩
       obtain⟨c,cc,cd⟩:=ih l _ _ t s ⟨p++[x],by rw[hp];simp⟩ y1 n1 bd (by omega) el.2 (by omega) hs;rw[<-ey,<-en]at cc;have bl:=Iw (R:=zS f l (gg s.1 y t r) (gg s.1 n t r) s) (x:=x) u1 u2 (by omega) (λh=>absurd d h) (λ_ h=>absurd h hr) (λ_ _=>cc);rw[ey,en]at bl⊢;exact⟨c.inv,c.nd,c.gt t bd,c.eB,c.new,⟨λh=>absurd d h,λ_ _=>cd⟩,bl⟩
    obtain⟨a,ea,a1,a2,a3,⟨Ea,a4⟩,a5,a7,a6⟩:=one true s hs;rw[<-ea];obtain⟨b,eb,b1,b2,b3,⟨Eb,b4⟩,b5,b7,b6⟩:=one false a.2 a1;rw[<-eb];have an:Ce b.2.1 L a.1:=by have e:=a2.app (E:=Eb) (E':=[]);rw[z_]at e;rw[b4];omega
    have ag:Bo b.2.1 a.1 t:=by rw[b4];exact a3.app
    obtain⟨p1,p2,p3,_⟩:=b1.tab.Yk el.1 el.2 an b2 ag b3;obtain⟨⟨Ep,p5⟩,p6⟩:=Hu b.2.1 (t,a.1,b.1,());have Fk:=b1.len;have Fr:=b1.cB;have CT:=sO b.2.1 L t a.1 b.1 (by omega);have ph:=sN b.2.1 L (t,a.1,b.1,()) (by omega);generalize eC b.2.1 (t,a.1,b.1,())=P at*;have ur:¬Bd lits B0 t (((l.length+1:Nat):Int),y,n,()):=fun⟨g1,g2,g3⟩=>by
     have g3:=g3 x (by show(lits.drop (lits.length - (((l.length+1:Nat):Int)).toNat)).head?=_;rw[d_,hd];rfl)
     have:t<jW B0 (jW B0 x.1 y) n:=JS (JS g3 g1) g2;omega
    have Bx:∀v,((((l.length+1:Nat):Int),y,n,()),v)∉b.2.2:=λv C=>by
     rcases b5 _ C with C|C
     .rcases a5 _ C with C|C;.exact hk v C
      .exact ur C
     .exact ur C
    have gt:∀T',Bd lits B0 T' (((l.length+1:Nat):Int),y,n,())->Bo P.2 P.1 T':=λT' H=>by refine p3 T' (a_ λhc=>ur (UY H (by omega)))
    refine⟨⟨b1.put Bx ⟨⟨by omega,by omega⟩,hy,hn⟩ p1 ⟨Ep,p5⟩ p6 p2 gt,p2,gt,⟨Ea++Eb++Ep,by simp only;rw[p5,b4,a4];simp⟩,λq g=>?_⟩,cm ?_,cm ?_⟩
    .rcases k_.1 g with g|g
     .rcases b5 _ g with g|g
      .rcases a5 _ g with g|g;.exact .inl g
       .exact .inr (UY g (by omega))
      .exact .inr (UY g (by omega))
     .rw[j_.1 g];exact .inr hb
    .refine ae (bq (b:=(y==n)) (λ_=>aa rfl) (ap go ?_));rw[show dA rU tI s.2 (((x::l).length:Int),y,n,())=none from e];refine ap rfl (bH (x:=x) (R_ 0) rfl (ae (Wp.imp (Q:=λv=>v=(s.2,s.1,kA s.1,L,x::l,y,n,((x::l).length:Int),y,n,t,())) (aK (N:=2) (I:=λi st=>st=((y,n,()),(i:Int),s.2,s.1,kA s.1,L,x::l,y,n,((x::l).length:Int),y,n,(if i=0 then x.1 else if i=1 then jW s.1 x.1 y else jW s.1 (jW s.1 x.1 y) n),())) rfl (λi st hi rg=>?_) λst rg=>?_) λv C=>?_)))
     .have r0:Ev.rowAt tI 2 (.d Un (y,n,())) ((0:Nat):Int)=some y:=rfl;have r1:Ev.rowAt tI 2 (.d Un (y,n,())) ((1:Nat):Int)=some n:=rfl;subst rg;obtain rfl|rfl:i=0\/i=1:=by omega
      .exact aD rfl (ae (ae (cO (λ_=>r0) (Wp.imp (step y x.1 (F hs).1) λv C=>by subst C;exact aa rfl))))
      .exact aD rfl (ae (ae (cO (λ_=>r1) (Wp.imp (step n (jW s.1 x.1 y) (F hs).2) λv C=>by subst C;exact aa rfl))))
     .subst rg;exact ap rfl (aa (by rw[<-wr];rfl))
     subst C;refine aj a6 (aj b6 (aD (by simp) (aj CT (ao (decide_eq_true ?_) (aa ?_)))));.show b.2.2.length<9223372036854775807;omega
     .have:=zbx (((l.length+1:Nat):Int),y,n,()) P.1 _ Bx;show some (fW db (P.1,fh rU tI b.2.2 (((l.length+1:Nat):Int),y,n,()) P.1,P.2,kA P.2,L,()))=_;rw[this]
    .have:=hs.len;have cf:=KR lits.length s.2 (l.length+1) y n (by omega);rw[e]at cf;have u:(0:Int)<=(lits.length:Int) - (x::l).length:=by omega
     have A:lits[((lits.length:Int) - (x::l).length).toNat]? =some x:=by rw[show((lits.length:Int) - (x::l).length).toNat=p.length by omega,hp];simp
     have DH:x_ .i64 ((lits.length:Int) - (x::l).length+1)=(lits.length:Int) - l.length:=by rw[p_,wrap_i64];omega
     have MT:=(BT x hx).2;have em:min (min x.1 (tsF s.1 y)) (tsF s.1 n)=t:=by rw[Ra (by omega),Ra (by omega),wr]
     have B:t<=2000:=by omega
     have eD:vv lits.length (b.2.2++[((((l.length+1:Nat):Int),y,n,()),P.1)])=vv lits.length b.2.2++[((lits.length:Int) - (x::l).length,y,n,P.1,())]:=by unfold vv;simp
     have qr:∀D:wa,(vv lits.length D).length=D.length:=λD=>by unfold vv;simp
     have DS:=l_ a1.len Bk;have CD:=l_ b1.len Bk;obtain⟨u1,u2⟩:=F hs;obtain⟨v1,v2⟩:=F a1;obtain⟨w1,w2⟩:=F b1;refine ae (bq (b:=(y==n)) (λ_=>aa rfl) (ap At (aj cf (ap rfl (bH u A (aj (IM s.1 L y u1) (aj (IM s.1 L n u2) (ae (bH u A ?_)))))))));simp only;rw[em];by_cases d:x.1=t
     .refine aD (beq_iff_eq.2 d.symm) (bH u A (bH u A (aj (oq s.1 L y t x.2.1 u1 B) (aj (oq s.1 L n t x.2.1 u2 B) ?_))));simp only;rw[DH];by_cases J:x.2.1=true
      .have DA:b=(gg a.2.1 n t false,a.2):=by rw[eb,if_neg (not_not_intro d),if_pos (by rw[J];simp)]
       subst DA;rw[J];refine aj (a7.2 d J) (bH u A ?_);simp only;rw[J];refine aj (oq a.2.1 L n t false v2 B) (bH u A (aD J (aa (aj ph (ao (decide_eq_true ?_) (aa ?_))))));.simp only[e_,qr];omega
       .rw[eD]
      .have J:x.2.1=false:=by simpa using J
       have Dg:a=(gg s.1 n t true,s):=by rw[ea,if_neg (not_not_intro d),if_pos (by omega)]
       subst Dg;have cs:=oq b.2.1 L n t true w2 B;rw[(Kr b1.eB (hN n hn).1 t true).trans (Kr hs.eB (hN n hn).1 t true).symm]at cs;rw[J];refine aj (b7.2 d J) (bH u A ?_);simp only;rw[J];refine aj cs (bH u A (ap J (aa (aj ph (ao (decide_eq_true ?_) (aa ?_))))));.simp only[e_,qr];omega
       .rw[eD]
     .refine ap (beq_eq_false_iff_ne.2 (Ne.symm d)) (aj (oq s.1 L y t true u1 B) (aj (oq s.1 L n t true u2 B) (aj (a7.1 d) (aj (oq a.2.1 L y t false v1 B) (aj (oq a.2.1 L n t false v2 B) (aj (b7.1 d) (aa (aj ph (ao (decide_eq_true ?_) (aa ?_))))))))));.simp only[e_,qr];omega
      .rw[eD]
set_option maxRecDepth 100000
def wk(a:gQ):Bool:=decide (4096<a.2.1.length\/4096<a.2.2.1.length\/¬∀l∈a.2.2.1,l.2.1.length<=2000)
def Z2(a:gQ)(hl:a.2.2.1.length<=1000000000000):aB tbl 45 [.d ZY a] [] aw (!wk a,()):=by
 refine cm ?_;unfold wk;refine ae (mQ (xs:=a.2.2.1) (P:=λl=>l.2.1.length<=2000) (e:=(false,())) (g:=()) (λi b=>?_) ?_ (λh=>?_) λh=>?_);.refine aQ b (aA b (dn ?_ (by rw[ak b])));grind
 .exact aJ (aa rfl)
 .refine ae (bh (λ_=>aa rfl) (aa ?_));congr 3;grind
 .refine aa ?_;grind
def XO(a:gQ)(hl:a.2.2.1.length<=1000000000000):aB tbl 53 [.d ZY a] [] aw (wk a,()):=by
 refine cm ?_;unfold wk;refine ae (bq (λ_=>aa rfl) (au (λh=>aa ?_) λh=>ae (mQ (xs:=a.2.2.1) (P:=λl=>l.2.1.length<=2000) (e:=(true,())) (g:=()) (λi b=>?_) ?_ (λh=>?_) λh=>?_)));.grind
 .refine aQ b (aA b (dn ?_ (by rw[ak b])));grind
 .exact aJ (aa rfl)
 .refine aa ?_;grind
 .refine aa ?_;grind
noncomputable def yw(l:List qC):List qC×Bool×Unit:=ad_ (IR l)
def YZ{l:List qC}{c:List qC×Bool×Unit}(h:IR l c):yw l=c:=(Z_ (p:=IR l) ⟨c,h⟩).uniq h
def AJ(t:r8)(a:List Int)(n:Nat)(hn:n<=1000000)(hr:a.length=t.2.1.length)(ht:t.2.1.length<=64)(d:∀k∈a,0<=k/\k<(n:Int)):((yw (gL t.2.1 a)).2.1=true->XD (yw (gL t.2.1 a)).1/\(yw (gL t.2.1 a)).1.length<=64/\∀x∈(yw (gL t.2.1 a)).1,0<=x.1/\x.1<(n:Int))/\aB tbl 42 [.d (.list Ut) (gL t.2.1 a)] [] bU (yw (gL t.2.1 a))/\aB tbl 50 [.d yT t,.d (.list tI) a,.d tI (n:Int)] [] bU (yw (gL t.2.1 a)):=by
 obtain⟨c,h1,h2,l⟩:=Ws t a n hn hr ht d;rw[YZ h1];refine⟨λh=>?_,h2,l⟩;rcases h1 with⟨_,f,g⟩|⟨s,_⟩
 .have hl:(gL t.2.1 a).length<=64:=by unfold gL;grind
  refine⟨f,l_ (List.Nodup.length_le_of_subset (f.imp λh e=>by grind) λz p=>(g z).1 p) hl,λx b=>?_⟩;have:=(g x).1 b;unfold gL at this;obtain⟨j,r,rfl⟩:=f_.1 this;rw[List.getElem_zipWith];exact d _ (b_ _)
 grind
def rR{F i:Nat}{ts:List fj}{B B1:List cQ}{L L1:List ff}{r y:Int}{RY:List Int}(h:LI i ts B L)(e:ts.length<=2000)(v:i<64)(b:Fit F (tA ts B L) r)(a:YS i ts B L B1 L1 y RY){l:List qC}(hs:XD l)(n:l.length<=64)(d:∀x∈l,0<=x.1/\x.1<(ts.length:Int)){R:Int×(List cQ×wa)}(k:zS (ts.length+2) l y r (B1,[])=R): LI (i+1) ts R.2.1 L1/\Ce R.2.1 L1 R.1/\KW l y r (B1,[]) L1 R/\Hg l l y r (B1,[]) L1 R:=by
 obtain⟨E,rfl⟩:=a.eB;obtain⟨E',rfl⟩:=a.eL;have j:N4 (B++E) (L++E') ((vw F (tA ts B L) r).2.2.2.map (·.1)):=b.num.kT.app;have hn:=b.num.len;have h1:=b.l2;have h2:=b.l3;have s:=h.cB;have u:=a.cB;have hp:=W_ (show l.length+1<=65 by omega) (W_ a.len (show((vw F (tA ts B L) r).2.2.2.map (·.1)).length<=8192 by omega));obtain⟨c,f,g⟩:=R6 (by omega) (by omega) (by omega) a.tab a.kT j (zax hs) d e (ts.length+2) l y r (-1) (B++E,[]) ⟨[],rfl⟩ a.mem b.num.mem ⟨VA a.tab (a.kT _ a.mem).1,VA a.tab (j _ b.num.mem).1,λx p=>by have:=(d x (List.mem_of_mem_drop (List.mem_of_mem_head? p))).1;omega⟩ (by simp) (by omega) (by simp) (CI.nil a.tab);rw[k]at c f g;refine⟨⟨c.inv.tab,?_,?_,a.lv,a.le⟩,c.nd,f,g⟩;.have:=c.inv.cB;have:=c.inv.len;omega
 .have:=a.cL;have:=h.cL;omega
def LI.gok{i:Nat}{ts:List fj}{B:List cQ}{L:List ff}(h:LI i ts B L)(C:i<=64):UG (tA ts B L):=⟨h.tab.low,by have:=h.cB;grind,by have:=h.cL;grind,λl hl=>by have:=(h.lv l hl).2;omega⟩
theorem LI.mono{i:Nat}{ts:List fj}{B:List cQ}{L:List ff}(h:LI i ts B L):LI (i+1) ts B L:=⟨h.tab,l_ h.cB (H_ _ (ac_ i)),l_ h.cL (Q_ (H_ _ (ac_ i))),λl hl=>⟨(h.lv l hl).1,by have:=(h.lv l hl).2;omega⟩,h.le⟩
def zbI{F:Nat}{g:gQ}{r:Int}(h:BJ F g r)(a:Zp (kL F g r))(ht:∀t∈g.1,okD NT t)(hl:∀l∈g.2.2.1,okD xn l):okD ZY (kL F g r):=by
 have l1:=a.l1;have l2:=a.l2;have l3:=a.l3;have f:∀x:Int,-4096<=x->x<=4096->okD tI x:=λx h1 h2=>by show -9223372036854775808<=x/\x<=9223372036854775807;omega
 have nd:∀{n:Int},eU (kL F g r) n=true->okD tI n:=λhn=>by have:=cF.1 hn;grind
 refine⟨⟨by show _<=9223372036854775807;omega,ht⟩,⟨by show _<=9223372036854775807;omega,λb e=>?_⟩,⟨by show _<=9223372036854775807;omega,λl j=>hl l (h.lvs j)⟩,nd a.rt,trivial⟩;obtain⟨⟨k,p⟩,⟨c,d⟩,_⟩:=Yj (a.br b e);exact⟨f _ (by omega) (by omega),nd c,nd d,trivial⟩
def sw(T:List fj)(x:List cQ×List ff×Int)(t:r8):List cQ×List ff×Int:=
 if t.2.2.2.1=1 then(x.1,(dJ x.2.1 (true,t.2.2.1,())).2,(dJ x.2.1 (true,t.2.2.1,())).1)
 else if t.2.2.2.1=2 then(x.1,(dJ x.2.1 (false,[],())).2,(dJ x.2.1 (false,[],())).1)
 else((jZ (tA T x.1 x.2.1) t.2.2.1 ((x.2.2+1).toNat+1) x.2.2 (x.1,x.2.1,[])).2.1,(jZ (tA T x.1 x.2.1) t.2.2.1 ((x.2.2+1).toNat+1) x.2.2 (x.1,x.2.1,[])).2.2.1,(jZ (tA T x.1 x.2.1) t.2.2.1 ((x.2.2+1).toNat+1) x.2.2 (x.1,x.2.1,[])).1)
noncomputable def kN(T:List fj)(x:List cQ×List ff×Int)(z:r8×List Int):List cQ×List ff×Int:=
 if(yw (gL z.1.2.1 z.2)).2.1=true then((zS (T.length+2) (yw (gL z.1.2.1 z.2)).1 (sw T x z.1).2.2 x.2.2 ((sw T x z.1).1,[])).2.1,(sw T x z.1).2.1,(zS (T.length+2) (yw (gL z.1.2.1 z.2)).1 (sw T x z.1).2.2 x.2.2 ((sw T x z.1).1,[])).1)else x
noncomputable def KH(F:Nat)(T:List fj)(x:(List cQ×List ff×Int)×Int)(z:r8×List Int):(List cQ×List ff×Int)×Int:=
 if x.2≠0 then x else(kN T x.1 z,if wk (kL F (tA T (kN T x.1 z).1 (kN T x.1 z).2.1) (kN T x.1 z).2.2)=true then 8 else 0)
def Kn(F:Nat)(T:List fj)(x:(List cQ×List ff×Int)×Int)(z:r8×List Int)(h:x.2≠0):KH F T x z=x:=if_pos h
structure Zq(F i:Nat)(T:List fj)(x:List cQ×List ff×Int):Prop where
 li:LI i T x.1 x.2.1
 ft:Fit F (tA T x.1 x.2.1) x.2.2
structure ZOk(s:PS)(T:List fj)(z:r8×List Int):Prop where
 t:Qk s z.1
 o:okD yT z.1
 r:z.2.length=z.1.2.1.length
 k:∀k∈z.2,0<=k/\k<(T.length:Int)
def P8{F i:Nat}{T:List fj}{x:List cQ×List ff×Int}(h:Zq F i T x)(c:i<=63){s:PS}{z:r8×List Int}(b:ZOk s T z):∃R,YS i T x.1 x.2.1 (sw T x z.1).1 (sw T x z.1).2.1 (sw T x z.1).2.2 R:=by
 have a:=b.o.2.2.1;unfold sw;split;.exact⟨_,h.li.leaf ⟨trivial,a,trivial⟩ b.t.al (Ct (λe=>by grind) b.t.ac)⟩
 split;.exact⟨_,h.li.leaf ⟨trivial,mn,trivial⟩ (by simp) (Ct (λ_=>rfl) (by simp))⟩
 .exact⟨_,h.li.pre (by omega) h.ft a.2 b.t.al b.t.ac (w_ _)⟩
def P0{F i:Nat}{T:List fj}(b:T.length<=2000){x:List cQ×List ff×Int}(h:Zq F i T x)(c:i<=63){s:PS}{z:r8×List Int}(a:ZOk s T z): LI (i+1) T (kN T x z).1 (kN T x z).2.1/\Ce (kN T x z).1 (kN T x z).2.1 (kN T x z).2.2:=by
 unfold kN;split;.rename_i d;obtain⟨f,g,j⟩:=(AJ z.1 z.2 T.length (by omega) a.r a.t.ml a.k).1 d;obtain⟨R,e⟩:=P8 h c a;obtain⟨k,l,_⟩:=rR h.li b (by omega) h.ft e f g j rfl;grind
 .exact⟨h.li.mono,cF.1 (h.ft.num.v.inv.kd _ _ h.ft.num.v.mem)⟩
def Kp{F i:Nat}(b:1000000000000<=F)(c:i<=63){T:List fj}{x:List cQ×List ff×Int}(h1:LI (i+1) T x.1 x.2.1)(h2:Ce x.1 x.2.1 x.2.2):BJ F (tA T x.1 x.2.1) x.2.2/\x.1.length<F:=by
 have a:x.1.length<F:=by have:=h1.cB;omega
 exact⟨V7 h1.tab (cF.2 h2) a,a⟩
def PY{F i:Nat}(f:1000000000000<=F){T:List fj}(g:T.length<=2000){x:(List cQ×List ff×Int)×Int}(d:x.2=0)(h:Zq F i T x.1)(b:i<=63){s:PS}{z:r8×List Int}(j:ZOk s T z)(a:(KH F T x z).2=0):Zq F (i+1) T (KH F T x z).1:=by
 obtain⟨c,k⟩:=P0 g h b j;obtain⟨num,_⟩:=Kp f b c k;unfold KH at a⊢;rw[if_neg (not_not_intro d)]at a⊢;refine⟨c,num,?_,?_⟩;all_goals
  by_cases e:wk (kL F (tA T (kN T x.1 z).1 (kN T x.1 z).2.1) (kN T x.1 z).2.2)=true;.grind
  .unfold wk at e;grind
def OU(p:IS):List cQ×List ff×Int:=([],[(p.2.2.1==1,[],())],-1)
def OV{F:Nat}(c:1000000000000<=F)(T:List fj)(p:IS):Zq F 0 T (OU p):=by have t0:LI 0 T [] [((p.2.2.1==1,[],()):ff)]:=⟨⟨V_,by simp,by simp⟩,by simp,by simp,λl hl=>by rw[j_.1 hl];exact⟨⟨trivial,mn,trivial⟩,by simp⟩,λl hl=>by rw[j_.1 hl];exact Ct (λ_=>rfl) (by simp)⟩;have b:eU (tA T [] [((p.2.2.1==1,[],()):ff)]) (-1)=true:=cF.2 ⟨by simp,by simp⟩;have a:BJ F (tA T [] [((p.2.2.1==1,[],()):ff)]) (-1):=V7 t0.tab b (by grind);exact⟨t0,a,l_ a.lens.1 (by simp),l_ a.lens.2 (by simp)⟩
set_option maxRecDepth 100000
def zam{s:PS}(hs:ou s){n:Nat}{T:List fj}(d:N5 n T)(a:List ue)(f:∀m∈a,jX s m=0/\okD yM m):∀i,i<=a.length->(qE s T (a.take i)).2.2=0->MI n i (qE s T (a.take i)):=by
 intro i;induction i with
 |zero=>exact λ_ _=>MI.nil d|succ i g=>
  intro c b;have e:qE s T (a.take (i+1))=Is s (qE s T (a.take i)) a[i]:=iN c;rw[e]at b⊢;by_cases h1:(qE s T (a.take i)).2.2=0;.obtain⟨j,k⟩:=f _ (b_ c);rcases(g (by omega) h1).step hs j k with h|h;all_goals omega
  .rw[CL s _ _ h1]at b;omega
def zan{s:PS}(hs:ou s)(ts:List r8)(ht:∀t∈ts,Qk s t/\okD yT t):∀i,i<=ts.length->(oJ s (ts.take i)).2.2=0->TI ts i (oJ s (ts.take i)):=by
 intro i;induction i with
 |zero=>exact λ_ _=>TI.nil ts|succ i g=>
  intro c b;have e:oJ s (ts.take (i+1))=Xl s (oJ s (ts.take i)) ts[i]:=iN c;rw[e]at b⊢;by_cases h1:(oJ s (ts.take i)).2.2=0
  .obtain⟨f,j⟩:=ht _ (b_ c);have h:=g (by omega) h1;by_cases h2:(qE s (oJ s (ts.take i)).1 ts[i].2.1).2.2=0;.have a:=zam hs h.ts ts[i].2.1 (λm d=>⟨f.ma m d,j.2.1.2 m d⟩) ts[i].2.1.length (G_ _);rw[h_]at a;have a:=a h2;obtain⟨k,l⟩:=TI.put c h f.ml (show qE s (oJ s (ts.take i)).1 ts[i].2.1=((qE s (oJ s (ts.take i)).1 ts[i].2.1).1,(qE s (oJ s (ts.take i)).1 ts[i].2.1).2.1,0)from r_ rfl (r_ rfl h2)) ⟨rfl,a.ts,a.rl,a.rw⟩;grind
   .rw[JE h.e0 rfl h2]at b;grind
  .rw[Ko s _ _ h1]at b;omega
abbrev zA:gQ:=([],[],[],0,())
def NU(ts:List r8)(rows:List (List Int)):List (r8×List Int):=(ts.zip rows).reverse
noncomputable def Lq(F:Nat)(s:PS)(p:IS):(List cQ×List ff×Int)×Int:=(NU p.2.1 (oJ s p.2.1).2.1).foldl (KH F (oJ s p.2.1).1) (OU p,0)
abbrev fin(F:Nat)(T:List fj)(x:List cQ×List ff×Int):gQ:=kL F (tA T x.1 x.2.1) x.2.2
noncomputable def Ol(F:Nat)(s:PS)(nm:List UInt8):gQ×Int×Unit:=
 if wZ gM s≠0 then(zA,wZ gM s,())else match Ei s nm with
 |none=>(zA,6,())
 |some p=>if(vq s p.2.1).2.2.1≠0 then(zA,(vq s p.2.1).2.2.1,())else if(Lq F s p).2≠0 then(zA,8,())else(fin F (oJ s p.2.1).1 (Lq F s p).1,0,())
structure zbm(s:PS)(ts:List r8)(T:List fj)(rows:List (List Int)):Prop where
 e0:(oJ s ts)=(T,rows,0)
 l:rows.length=ts.length
 t:T.length<=2000
 o:∀t∈T,NF t=0/\okD NT t
 z:∀j (h1:j<ts.length) (h2:j<rows.length),ZOk s T (ts[j],rows[j])
def XA{s:PS}(hs:ou s){p:IS}(hp:K2 s p)(a:okD yO p)(c:(vq s p.2.1).2.2.1=0):∃T rows,zbm s p.2.1 T rows/\vq s p.2.1=(T,EG p.2.1 rows,0,()):=by
 have d:=zan hs p.2.1 (λt ht=>⟨hp.tr t ht,a.2.1.2 t ht⟩) p.2.1.length (G_ _);rw[h_]at d;unfold vq at c⊢;by_cases h1:(oJ s p.2.1).2.2≠0;.grind
 rw[if_neg h1]at c⊢;by_cases h2:2000<(oJ s p.2.1).1.length;.grind
 rw[if_neg h2];have h:=d (a_ h1);refine⟨_,_,⟨r_ rfl (r_ rfl h.e0),h.rl,Nat.le_of_not_lt h2,h.ts.ok,λj b e=>⟨hp.tr _ (b_ b),a.2.1.2 _ (b_ b),h.rn j e b,h.rw _ (b_ e)⟩⟩,rfl⟩
def zj{ts:List r8}{rows:List (List Int)}(h:rows.length=ts.length):(NU ts rows).length=ts.length:=by unfold NU;grind
def Kx{ts:List r8}{rows:List (List Int)}(h:rows.length=ts.length){i:Nat}(a:i<ts.length):(NU ts rows)[i]'(by rw[zj h];exact a)=(ts[ts.length - 1 - i],rows[ts.length - 1 - i]):=by unfold NU;grind
def zr{F:Nat}(N:1000000000000<=F){s:PS}(hs:C4 s)(nm:List UInt8):aB tbl 14 [.d yS s,.d tS nm] [] cI (Ol F s nm):=by
 refine cm ?_;refine aj (CU s hs) ?_;unfold Ol;by_cases n:wZ gM s≠0;.rw[if_pos n];exact aD (bne_iff_ne.2 n) (aa rfl)
 rw[if_neg n];have n:=a_ n;have hk:=J7 n;have hd:=Je n;have O:ou s:=⟨hk,hs,hd.1,hd.2⟩;refine ap (by grind) (aj (FT s nm hk) ?_);cases ef:Ei s nm with|none=>exact aD rfl (aa rfl)|some p=>
 have H:=Ej ef;have hp:=hk.r4 p H;have u:=hs.ok.2.2.2.1.2 p H;have ur:=hp.tl;simp only;by_cases hg:(vq s p.2.1).2.2.1≠0;.rw[if_pos hg];exact ap rfl (aj (KT O hp u) (aD (bne_iff_ne.2 hg) (aa rfl)))
 rw[if_neg hg];have hg:=a_ hg;obtain⟨T,rows,J,hG⟩:=XA O hp u hg;have cg:=KT O hp u;rw[hG]at cg;have hl:=J.l;have wr:=zj hl;have P:=J.t;have Y:Lq F s p=(NU p.2.1 rows).foldl (KH F T) (OU p,0):=by unfold Lq;rw[J.e0]
 rw[Y,J.e0];have i0:=OV N T p;have c0:=mu [] [] ((p.2.2.1==1,[],()):ff) (by simp) (by simp);refine ap rfl (aj cg (ap rfl (aj NZ (aj c0 (aj (CS (g:=tA T [] [((p.2.2.1==1,[],()):ff)]) (i0.li.gok (by simp)) (-1) (cF.2 ⟨by simp,by simp⟩) (F:=F) (by grind) (kA [])) (ae ?_))))));refine Ev.wp_loop (λst=>∃(i:Nat) (x:List cQ×List ff×Int),st=(x.2.2,(p.2.1.length:Int) - 1 - (i:Int),0,p.1,p.2.1,p.2.2.1,x.1,kA x.1,x.2.1,[],(vw F (tA T x.1 x.2.1) x.2.2).2.1,(vw F (tA T x.1 x.2.1) x.2.2).2.2.1,(vw F (tA T x.1 x.2.1) x.2.2).1,())/\i<=p.2.1.length/\((NU p.2.1 rows).take i).foldl (KH F T) (OU p,0)=(x,0)/\Zq F i T x) (λst=>(st.2.1+1).toNat) ⟨0,OU p,?_,u_ _,rfl,i0⟩ ?_;.rw[wrap_i64 (by omega) (by grind)];simp only[O_,aa_];rfl
 rintro st ⟨i,x,rfl,hi,I,h⟩;by_cases E:i<p.2.1.length
 .have hj:p.2.1.length - 1 - i<p.2.1.length:=by omega
  have D:p.2.1.length - 1 - i<rows.length:=by omega
  have d:=J.z _ hj D;have gc:=Kx hl E;have U:(EG p.2.1 rows)[((p.2.1.length:Int) - 1 - (i:Int)).toNat]? =some (gL p.2.1[p.2.1.length - 1 - i].2.1 rows[p.2.1.length - 1 - i]):=by rw[show((p.2.1.length:Int) - 1 - (i:Int)).toNat=p.2.1.length - 1 - i by simp];unfold EG;rw[List.getElem?_zipWith,c_ hj,c_ D]
  have hP:p.2.1[((p.2.1.length:Int) - 1 - (i:Int)).toNat]? =some p.2.1[p.2.1.length - 1 - i]:=by simp
  have f:((NU p.2.1 rows).take (i+1)).foldl (KH F T) (OU p,0)=KH F T (x,0) (p.2.1[p.2.1.length - 1 - i],rows[p.2.1.length - 1 - i]):=by rw[iN (by omega),I,gc]
  have a:=mV (e:=λx=>x.2) (Kn F T) (NU p.2.1 rows) (i+1) (OU p,0);rw[f]at a;obtain⟨o1,o2,_⟩:=AJ p.2.1[p.2.1.length - 1 - i] rows[p.2.1.length - 1 - i] T.length (by omega) d.r d.t.ml d.k;generalize p.2.1[p.2.1.length - 1 - i]=t at d U hP f a o1 o2;generalize rows[p.2.1.length - 1 - i]=b at d U f a o1 o2;have r:(0:Int)<=(p.2.1.length:Int) - 1 - (i:Int):=by omega
  obtain⟨M,q2⟩:=P0 P h (by omega) d;obtain⟨num,z⟩:=Kp N (by omega) M q2;have C:∀c∈x.2.1,okD xn c:=λc I=>(h.li.lv c I).1;have B:x.2.1.length<=1000000000000:=by have:=h.li.cL;omega
  refine aD (decide_eq_true r) (bH r U (aj o2 (ae (Wp.imp (Q:=λv=>v=((kN T x (t,b)).2.2,(0:Int),p.1,p.2.1,p.2.2.1,(kN T x (t,b)).1,kA (kN T x (t,b)).1,(kN T x (t,b)).2.1,([]:List fj),(vw F (tA T x.1 x.2.1) x.2.2).2.1,(vw F (tA T x.1 x.2.1) x.2.2).2.2.1,(vw F (tA T x.1 x.2.1) x.2.2).1,())) ?_ λv l=>?_))))
  .unfold kN;refine au (λL=>?_) λL=>aa ?_
   .obtain⟨s1,s2,s3⟩:=o1 L;obtain⟨R,hy⟩:=P8 h (by omega) d;have cc:=(rR h.li P (by omega) h.ft hy s1 s2 s3 rfl).2.2.1;rw[if_pos (show(yw (gL (t,b).1.2.1 (t,b).2)).2.1=true from L)];refine bH r hP (ae (Wp.imp (Q:=λv=>v=((sw T x t).2.2,(0:Int),p.1,p.2.1,p.2.2.1,(sw T x t).1,kA (sw T x t).1,(sw T x t).2.1,([]:List fj),(vw F (tA T x.1 x.2.1) x.2.2).2.1,(vw F (tA T x.1 x.2.1) x.2.2).2.2.1,(vw F (tA T x.1 x.2.1) x.2.2).1,())) ?_ λv l=>?_))
    .have el:=d.o.2.2.1;unfold sw;refine au (λl=>?_) λl=>au (λw=>?_) λw=>?_;.rw[if_pos (by simpa using l)];exact aj (mu x.1 x.2.1 (true,t.2.2.1,()) C B) (aa rfl)
     .rw[if_neg (by simpa using l),if_pos (by simpa using w)];exact aj (mu x.1 x.2.1 (false,[],()) C B) (aa rfl)
     .rw[if_neg (by simpa using l),if_neg (by simpa using w)];have hn:=h.ft.num.len;have h2:=h.ft.l2;have h3:=h.ft.l3;have ph:t.2.2.1.length<=64:=d.t.al;exact aj (N1 (g:=tA T x.1 x.2.1) (A:=t.2.2.1) (k:=64*i) h.ft.num.kT h.li.tab (by omega) (by have:=h.li.cB;grind) (by have:=h.li.cL;grind) el.2 h.li.lv (by omega) ((x.2.2+1).toNat+1) x.2.2 (x.1,x.2.1,[]) h.ft.num.mem (w_ _) (PI.nil t.2.2.1 _ h.li.tab)) (aa rfl)
    .subst l;exact aj cc (aa rfl)
   .rw[if_neg (show ¬(yw (gL (t,b).1.2.1 (t,b).2)).2.1=true by simpa using L)]
  .subst l;have hB:KH F T (x,0) (t,b)=(kN T x (t,b),if wk (fin F T (kN T x (t,b)))=true then 8 else 0):=if_neg (by simp);have j:=PY (x:=(x,0)) N P rfl h (by omega) d;rw[hB]at f a j;generalize kN T x (t,b)=c at M q2 num z f a j;have rg:=num.lens.2;have qr:=M.cL;have kf:=Z2 ([],(vw F (tA T c.1 c.2.1) c.2.2).2.1,(vw F (tA T c.1 c.2.1) c.2.2).2.2.1,(vw F (tA T c.1 c.2.1) c.2.2).1,()) (by show(kL F (tA T c.1 c.2.1) c.2.2).2.2.1.length<=1000000000000;grind);refine aj (CS (g:=tA T c.1 c.2.1) (M.gok (by omega)) c.2.2 (cF.2 q2) z (kA c.1)) (aj kf ?_);by_cases y:wk (fin F T c)=true;.rw[if_pos y]at a;refine aD (show(!!wk (fin F T c))=true by rw[y];rfl) (aa (aa ?_));rw[a (show(8:Int)≠0 by simp)];rfl
   .have y:wk (fin F T c)=false:=by simpa using y
    rw[y]at f j;refine ap (show(!!wk (fin F T c))=false by rw[y];rfl) (aa ?_);rw[wrap_i64 (by grind) (by grind)];refine⟨⟨i+1,c,?_,E,f,j rfl⟩,by simp only;omega⟩;rw[show(p.2.1.length:Int) - 1 - ((i+1:Nat):Int)=(p.2.1.length:Int) - 1 - (i:Int) - 1 by omega];rfl
 .refine ap (decide_eq_false (by grind)) (aa (aa ?_));rw[n_ (by omega)]at I;rw[I];rfl
set_option maxRecDepth 100000
def CZ{F:Nat}(M:1000000000000<=F){s:PS}(hs:C4 s)(nm:List UInt8):aB tbl 15 [.d yS s,.d tS nm] [] cI (Ol F s nm):=by
 refine cm ?_;refine aj (F0 s hs) ?_;unfold Ol;by_cases r:wZ gM s≠0;.rw[if_pos r];exact aD (bne_iff_ne.2 r) (aa rfl)
 rw[if_neg r];have r:=a_ r;have hk:=J7 r;have hd:=Je r;have N:ou s:=⟨hk,hs,hd.1,hd.2⟩;refine ap (by grind) (aj (IE s nm (by have:=hs.l4;omega)) ?_);cases ef:Ei s nm with|none=>exact aD rfl (aa rfl)|some p=>
 have E:=Ej ef;have hp:=hk.r4 p E;have w:=hs.ok.2.2.2.1.2 p E;have Bk:=hp.tl;simp only;by_cases hg:(vq s p.2.1).2.2.1≠0
 .rw[if_pos hg];refine ap rfl (aj (vG N hp w) ?_);by_cases Y:(oJ s p.2.1).2.2≠0;.rw[show(vq s p.2.1).2.2.1=(oJ s p.2.1).2.2 by unfold vq;grind];exact aD (bne_iff_ne.2 Y) (aa rfl)
  .have wr:2000<(oJ s p.2.1).1.length:=a_ λh=>by unfold vq at hg;grind
   rw[show(vq s p.2.1).2.2.1=4 by unfold vq;grind];exact ap (by grind) (aD (decide_eq_true (show((oJ s p.2.1).1.length:Int)>2000 by omega)) (aa rfl))
 rw[if_neg hg];have hg:=a_ hg;obtain⟨T,rows,B,hG⟩:=XA N hp w hg;have cg:=vG N hp w;rw[B.e0]at cg;have hl:=B.l;have Bx:=zj hl;have O:=B.t;have U:Lq F s p=(NU p.2.1 rows).foldl (KH F T) (OU p,0):=by unfold Lq;rw[B.e0]
 rw[U,B.e0];have i0:=OV M T p;have c0:=mr [] [] ((p.2.2.1==1,[],()):ff) (by simp) (by simp) (by simp);refine ap rfl (aj cg (ap rfl (ap (decide_eq_false (by grind)) (aj c0 (ae ?_)))));refine Ev.wp_loop (λst=>∃(i:Nat) (x:List cQ×List ff×Int),st=(x.2.2,(p.2.1.length:Int) - 1 - (i:Int),0,p.1,p.2.1,p.2.2.1,x.1,x.2.1,())/\i<=p.2.1.length/\((NU p.2.1 rows).take i).foldl (KH F T) (OU p,0)=(x,0)/\Zq F i T x) (λst=>(st.2.1+1).toNat) ⟨0,OU p,?_,u_ _,rfl,i0⟩ ?_;.rw[wrap_i64 (by omega) (by grind)];simp only[O_,aa_];rfl
 rintro st ⟨i,x,rfl,hi,H,h⟩;by_cases D:i<p.2.1.length
 .have hj:p.2.1.length - 1 - i<p.2.1.length:=by omega
  have el:p.2.1.length - 1 - i<rows.length:=by omega
  have b:=B.z _ hj el;have ph:=Kx hl D;have P:rows[((p.2.1.length:Int) - 1 - (i:Int)).toNat]? =some rows[p.2.1.length - 1 - i]:=by simp
  have hP:p.2.1[((p.2.1.length:Int) - 1 - (i:Int)).toNat]? =some p.2.1[p.2.1.length - 1 - i]:=by simp
  have d:((NU p.2.1 rows).take (i+1)).foldl (KH F T) (OU p,0)=KH F T (x,0) (p.2.1[p.2.1.length - 1 - i],rows[p.2.1.length - 1 - i]):=by rw[iN (by omega),H,ph]
  have a:=mV (e:=λx=>x.2) (Kn F T) (NU p.2.1 rows) (i+1) (OU p,0);rw[d]at a;obtain⟨o1,_,o2⟩:=AJ p.2.1[p.2.1.length - 1 - i] rows[p.2.1.length - 1 - i] T.length (by omega) b.r b.t.ml b.k;generalize p.2.1[p.2.1.length - 1 - i]=t at b P hP d a o1 o2;generalize rows[p.2.1.length - 1 - i]=c at b P d a o1 o2;have u:(0:Int)<=(p.2.1.length:Int) - 1 - (i:Int):=by omega
  obtain⟨J,q2⟩:=P0 O h (by omega) b;obtain⟨num,j⟩:=Kp M (by omega) J q2;have C:∀f∈x.2.1,okD xn f:=λf H=>(h.li.lv f H).1;have qr:x.2.1.length<=1000000000000:=by have:=h.li.cL;omega
  refine aD (decide_eq_true u) (bH u hP (bH u P (aj o2 (ae (Wp.imp (Q:=λv=>v=((kN T x (t,c)).2.2,(0:Int),p.1,p.2.1,p.2.2.1,(kN T x (t,c)).1,(kN T x (t,c)).2.1,())) ?_ λv n=>?_)))))
  .unfold kN;refine au (λI=>?_) λI=>aa ?_
   .obtain⟨s1,s2,s3⟩:=o1 I;obtain⟨R,hy⟩:=P8 h (by omega) b;have L:=(rR h.li O (by omega) h.ft hy s1 s2 s3 rfl).2.2.2;unfold Hg at L;rw[Int.sub_self]at L;rw[if_pos (show(yw (gL (t,c).1.2.1 (t,c).2)).2.1=true from I)];refine ae (Wp.imp (Q:=λv=>v=((sw T x t).2.2,(0:Int),p.1,p.2.1,p.2.2.1,(sw T x t).1,(sw T x t).2.1,())) ?_ λv n=>?_)
    .have gc:=b.o.2.2.1;unfold sw;refine au (λn=>?_) λn=>au (λy=>?_) λy=>?_;.rw[if_pos (by simpa using n)];exact aj (mr x.1 x.2.1 (true,t.2.2.1,()) C (by omega) (l_ (show t.2.2.1.length<=64 from b.t.al) (by simp))) (aa rfl)
     .rw[if_neg (by simpa using n),if_pos (by simpa using y)];exact aj (mr x.1 x.2.1 (false,[],()) C (by omega) (by simp)) (aa rfl)
     .rw[if_neg (by simpa using n),if_neg (by simpa using y)];have hn:=h.ft.num.len;have h2:=h.ft.l2;have h3:=h.ft.l3;have rg:t.2.2.1.length<=64:=b.t.al;exact aj (C1 (g:=tA T x.1 x.2.1) (A:=t.2.2.1) (k:=64*i) h.ft.num.kT h.li.tab (by omega) (by have:=h.li.cB;grind) (by have:=h.li.cL;grind) gc.2 h.li.lv (by omega) ((x.2.2+1).toNat+1) x.2.2 (x.1,x.2.1,[]) h.ft.num.mem (w_ _) (PI.nil t.2.2.1 _ h.li.tab)) (aa rfl)
    .subst n;exact aj L (aa rfl)
   .rw[if_neg (show ¬(yw (gL (t,c).1.2.1 (t,c).2)).2.1=true by simpa using I)]
  .subst n;have hB:KH F T (x,0) (t,c)=(kN T x (t,c),if wk (fin F T (kN T x (t,c)))=true then 8 else 0):=if_neg (by simp);have l:=PY (x:=(x,0)) M O rfl h (by omega) b;rw[hB]at d a l;generalize kN T x (t,c)=f at J q2 num j d a l;have At:=num.lens.2;have ur:=J.cL;have kf:=XO (fin F T f) (by show(kL F (tA T f.1 f.2.1) f.2.2).2.2.1.length<=1000000000000;grind);refine aj (CR (g:=tA T f.1 f.2.1) (J.gok (by omega)) f.2.2 (cF.2 q2) j T) (aj kf ?_);by_cases z:wk (fin F T f)=true;.rw[if_pos z]at a;refine aD (z) (aa (aa ?_));rw[a (show(8:Int)≠0 by simp)];rfl
   .have z:wk (fin F T f)=false:=by simpa using z
    rw[z]at d l;refine ap (z) (aa ?_);rw[wrap_i64 (by grind) (by grind)];refine⟨⟨i+1,f,?_,D,d,l rfl⟩,by simp only;omega⟩;rw[show(p.2.1.length:Int) - 1 - ((i+1:Nat):Int)=(p.2.1.length:Int) - 1 - (i:Int) - 1 by omega]
 .have j:x.1.length<F:=by have:=h.li.cB;omega
  refine ap (decide_eq_false (by grind)) (aa (aj (CR (g:=tA T x.1 x.2.1) (h.li.gok (by omega)) x.2.2 (h.ft.num.v.inv.kd _ _ h.ft.num.v.mem) j T) (aa ?_)));rw[n_ (by omega)]at H;rw[H];rfl
open Go Go.Av Go.Ev
def A0:aB tbl 35 [] [] jp ((([([111,119,110],([(true,((167772160,(8,())),(8,(24,()))))],()))],([],([([98,108,117,101],([(true,(65000,((-1),())))],()))],([([105,109,112,111,114,116],([([102,105,114,115,116],([(1,([111,119,110],(0,((0,(0,())),(true,())))))],([(1,(200,(0,(0,(0,())))))],(1,()))))],(2,())))],()))))),()):=jk (m:=90) λk=>by kernel_rfl
def A1:aB tbl 14 [.d Uf (([([111,119,110],([(true,((167772160,(8,())),(8,(24,()))))],()))],([],([([98,108,117,101],([(true,(65000,((-1),())))],()))],([([105,109,112,111,114,116],([([102,105,114,115,116],([(1,([111,119,110],(0,((0,(0,())),(true,())))))],([(1,(200,(0,(0,(0,())))))],(1,()))))],(2,())))],()))))),.d tS ([105,109,112,111,114,116])] [] cI ((([(1,(0,((0,(0,())),([(true,((167772160,(8,())),(8,(24,()))))],(([],([],([],(0,())))),([],()))))))],([(0,((-1),((-2),())))],([(false,([],())),(true,([(1,(200,(0,(0,(0,())))))],()))],(0,()))))),(0),()):=jk (m:=90) λk=>by kernel_rfl
def A2:aB tbl 14 [.d Uf (([([111,119,110],([(true,((167772160,(8,())),(8,(24,()))))],()))],([],([([98,108,117,101],([(true,(65000,((-1),())))],()))],([([105,109,112,111,114,116],([([102,105,114,115,116],([(1,([111,119,110],(0,((0,(0,())),(true,())))))],([(1,(200,(0,(0,(0,())))))],(1,()))))],(2,())))],()))))),.d tS ([110,111,110,101])] [] cI ((([],([],([],(0,()))))),(6),()):=jk (m:=90) λk=>by kernel_rfl
def A3:aB tbl 14 [.d Uf (([],([],([],([([112],([([116],([],([],(1,()))))],(2,())))],()))))),.d tS ([112])] [] cI ((([],([],([(true,([],()))],((-1),()))))),(0),()):=jk (m:=90) λk=>by kernel_rfl
def A4:aB tbl 24 [.d Uj (([(1,(0,((0,(0,())),([(true,((167772160,(8,())),(8,(24,()))))],(([],([],([],(0,())))),([],()))))))],([(0,((-1),((-2),())))],([(false,([],())),(true,([(1,(200,(0,(0,(0,())))))],()))],(0,()))))),.d Ul (((2886729728,(12,())),(6,(0,([],([],(0,(0,(0,(0,()))))))))))] [] nJ (((true,(((2886729728,(12,())),(6,(0,([],([],(200,(0,(0,(0,()))))))))),()))),(1),(0),()):=jk (m:=90) λk=>by kernel_rfl
def A5:aB tbl 29 [.d Uj (([(1,(0,((0,(0,())),([(true,((167772160,(8,())),(8,(24,()))))],(([],([],([],(0,())))),([],()))))))],([(0,((-1),((-2),())))],([(false,([],())),(true,([(1,(200,(0,(0,(0,())))))],()))],(0,()))))),.d (.list tB) ([true])] [] eM (((false,([],()))),(0),()):=jk (m:=90) λk=>by kernel_rfl
def A6:aB tbl 27 [.d Uj (([(1,(0,((0,(0,())),([(true,((167772160,(8,())),(8,(24,()))))],(([],([],([],(0,())))),([],()))))))],([(0,((-1),((-2),())))],([(false,([],())),(true,([(1,(200,(0,(0,(0,())))))],()))],(0,())))))] [] cI ((([(1,(0,((0,(0,())),([(true,((167772160,(8,())),(8,(24,()))))],(([],([],([],(0,())))),([],()))))))],([(0,((-1),((-2),())))],([(false,([],())),(true,([(1,(200,(0,(0,(0,())))))],()))],(0,()))))),(0),()):=jk (m:=90) λk=>by kernel_rfl
def A7:aB tbl 31 [.d Uj (([(1,(0,((0,(0,())),([(true,((167772160,(8,())),(8,(24,()))))],(([],([],([],(0,())))),([],()))))))],([(0,((-1),((-2),())))],([(false,([],())),(true,([(1,(200,(0,(0,(0,())))))],()))],(0,()))))),.d Uj (([(1,(0,((0,(0,())),([(true,((167772160,(8,())),(8,(24,()))))],(([],([],([],(0,())))),([],()))))))],([(0,((-1),((-2),())))],([(false,([],())),(true,([(1,(200,(0,(0,(0,())))))],()))],(0,())))))] [] aw ((true),()):=jk (m:=90) λk=>by kernel_rfl
def A8:aB tbl 18 [.d Uj (([(1,(0,((0,(0,())),([(true,((167772160,(8,())),(8,(24,()))))],(([],([],([],(0,())))),([],()))))))],([(0,((-1),((-2),())))],([(false,([],())),(true,([(1,(200,(0,(0,(0,())))))],()))],(0,())))))] [] ar ((0),()):=jk (m:=90) λk=>by kernel_rfl
def A9:aB tbl 22 [.d Ua ((1,(0,((0,(0,())),([(true,((167772160,(8,())),(8,(24,()))))],(([],([],([],(0,())))),([],()))))))),.d Ul (((2886729728,(12,())),(6,(0,([],([],(0,(0,(0,(0,()))))))))))] [] aw ((false),()):=jk (m:=90) λk=>by kernel_rfl
def A10:aB tbl 18 [.d Uj (([],([],([],(0,())))))] [] ar ((5),()):=jk (m:=90) λk=>by kernel_rfl
def Qd:aB tbl 13 [] [] aw (true,()):=by
 refine cm ?_;repeat first
  |refine aj A0 ?_
  |refine aj A1 ?_
  |refine aj A2 ?_
  |refine aj A3 ?_
  |refine aj A4 ?_
  |refine aj A5 ?_
  |refine aj A6 ?_
  |refine aj A7 ?_
  |refine aj A8 ?_
  |refine aj A9 ?_
  |refine aj A10 ?_
  |refine aD rfl ?_
  |refine ap rfl ?_
  |refine aa ?_
  |refine bH (by decide) rfl ?_
  |refine ae ?_
 rfl
set_option maxRecDepth 100000
def Mx{t:Ty}{l:List t.den}{x:t.den}(a:x∈l):eT t x<=(l.map (eT t)).sum:=by
 induction l with
 |nil=>cases a|cons y l b=>
  rw[X_,Y_];rcases J_.1 a with rfl|h;.omega
  .have:=b h;omega
def yp{t:Ty}{l:List t.den}(h:∀x∈l,1<=eT t x):l.length<=(l.map (eT t)).sum:=by induction l with|nil=>exact u_ _|cons y l b=>rw[X_,Y_,p_];have:=b λx a=>h x (o_ _ a);have:=h y (s_ ..);omega
set_option maxRecDepth 100000
def IG(s:PS)(hs:okD yS s):∃n:Int,aB tbl 87 [.d yS s] [] ar (n,()):=by
 have:=s5 (ars:=[.d yS s]) (os:=[]) (sh:=ar) (R:=λ_=>True) (λc=>rfl) (QB (tbl:=tbl) (f:=87) ar ?_);.obtain⟨⟨n,_⟩,_,h⟩:=this;grind
 obtain⟨h1,h2,f,e,_⟩:=hs;refine ae (Wp.imp (Q:=λ_=>True) (aK (N:=s.1.length) (I:=λi x=>∃m:Int,x=(m,(i:Int),())) ⟨_,rfl⟩ (λi x b a=>?_) λx a=>?_) λv _=>?_);.obtain⟨m,rfl⟩:=a;exact aQ b (aA b (aa ⟨_,by rw[ak b h1.1]⟩))
 .obtain⟨m,rfl⟩:=a;simp[aa]
 refine ae (Wp.imp (Q:=λ_=>True) (aK (N:=s.2.1.length) (I:=λi x=>∃m:Int,x=(m,(i:Int),())) ⟨_,rfl⟩ (λi x b a=>?_) λx a=>?_) λv _=>?_);.obtain⟨m,rfl⟩:=a;exact aQ b (aA b (aa ⟨_,by rw[ak b h2.1]⟩))
 .obtain⟨m,rfl⟩:=a;simp[aa]
 refine ae (Wp.imp (Q:=λ_=>True) (aK (N:=s.2.2.1.length) (I:=λi x=>∃m:Int,x=(m,(i:Int),())) ⟨_,rfl⟩ (λi x b a=>?_) λx a=>?_) λv _=>?_);.obtain⟨m,rfl⟩:=a;exact aQ b (aA b (aa ⟨_,by rw[ak b f.1]⟩))
 .obtain⟨m,rfl⟩:=a;simp[aa]
 refine ae (Wp.imp (Q:=λ_=>True) (aK (N:=s.2.2.2.1.length) (I:=λi x=>∃m:Int,x=(m,(i:Int),())) ⟨_,rfl⟩ (λi x b a=>?_) λx a=>?_) λv _=>aa ⟨_,rfl,trivial⟩)
 .obtain⟨m,rfl⟩:=a;refine aQ b (aA b (ae (Wp.imp (Q:=λ_=>True) (aK (N:=s.2.2.2.1[i].2.1.length) (I:=λj x=>∃m:Int,x=(m,(j:Int),())) ⟨_,rfl⟩ (λj x d a=>?_) λx a=>?_) λv _=>aa ⟨_,by rw[ak b e.1]⟩)));.obtain⟨m,rfl⟩:=a;exact aQ d (aA d (aa ⟨_,by rw[ak d ((e.2 _ (b_ b)).2.1).1]⟩))
  .obtain⟨m,rfl⟩:=a;simp[aa]
 .obtain⟨m,rfl⟩:=a;simp[aa]
def FQ(s:PS)(hs:okD yS s):∃b:Bool,aB tbl 34 [.d yS s] [] aw (b,()):=by obtain⟨n,hn⟩:=IG s hs;refine⟨decide (n>400),cm ?_⟩;exact aj hn (aa rfl)
def Pw{s:PS}(a:okD yS s)(b:eT yS s<=1048576):C4 s:=by
 have b:(N_ (eT yL) s.1).sum+1+((N_ (eT yG) s.2.1).sum+1+((N_ (eT yD) s.2.2.1).sum+1+((N_ (eT yO) s.2.2.2.1).sum+1+0)))<=1048576:=b;have h1:=yp (t:=yL) (l:=s.1) λx _=>by show 1<=D_ x.1+1+_;omega
 have h2:=yp (t:=yG) (l:=s.2.1) λx _=>by show 1<=D_ x.1+1+_;omega
 have g:=yp (t:=yD) (l:=s.2.2.1) λx _=>by show 1<=D_ x.1+1+_;omega
 have h:=yp (t:=yO) (l:=s.2.2.2.1) λx _=>by show 1<=D_ x.1+1+_;omega
 refine⟨a,by omega,by omega,by omega,by omega,λl hl r hr=>?_⟩;have c:=Mx (t:=yG) hl;have d:=Mx (t:=yH) hr;have e:eT yG l=l.1.length+1+((N_ (eT yH) l.2.1).sum+1+0):=rfl;have f:eT yH r=1+(r.2.1.length+1+0):=rfl;omega
def FR(s:PS)(hs:okD yS s):∃c:Bool×Unit,True/\aB tbl 12 [.d yS s] [] aw c:=by
 refine KB (sh:=aw) ?_;have h2:=hs.2.1;obtain⟨b,f⟩:=FQ s hs;refine ae (Wp.imp (Q:=λ_=>True) (aK (N:=s.2.1.length) (I:=λi x=>∃m:Int,x=(m,(i:Int),())) ⟨_,rfl⟩ (λi x d a=>?_) λx a=>?_) λv _=>aj f (ae (Wp.imp (Q:=λ_=>True) (au (λ_=>aa trivial) λ_=>aa trivial) λv _=>aa ⟨_,rfl,trivial⟩)))
 .obtain⟨m,rfl⟩:=a;refine aQ d (aA d (ae (Wp.imp (Q:=λ_=>True) (aK (N:=s.2.1[i].2.1.length) (I:=λj x=>∃m:Int,x=(m,(j:Int),())) ⟨_,rfl⟩ (λj x e a=>?_) λx a=>?_) λv _=>aa ⟨_,by rw[ak d h2.1]⟩)));.obtain⟨m,rfl⟩:=a;exact aQ e (aA e (aa ⟨_,by rw[ak e ((h2.2 _ (b_ d)).2.1).1]⟩))
  .obtain⟨m,rfl⟩:=a;simp[aa]
 .obtain⟨m,rfl⟩:=a;simp[aa]
set_option maxRecDepth 100000
def Yg{F:Nat}(c:1000000000000<=F){s:PS}{p:IS}(e:p.2.1.length<=64){T:List fj}{rows:List (List Int)}(a:zbm s p.2.1 T rows):∀i,i<=p.2.1.length->(((NU p.2.1 rows).take i).foldl (KH F T) (OU p,0)).2=0->Zq F i T (((NU p.2.1 rows).take i).foldl (KH F T) (OU p,0)).1:=by
 intro i;induction i with
 |zero=>exact λ_ _=>OV c T p|succ i f=>
  intro d b;have hl:=zj a.l;rw[iN (by omega),Kx a.l d]at b⊢;by_cases h1:(((NU p.2.1 rows).take i).foldl (KH F T) (OU p,0)).2=0;.exact PY c a.t h1 (f (by omega) h1) (by omega) (a.z _ (by omega) (by grind)) b
  .rw[Kn F T _ _ h1]at b;omega
def Yf{F:Nat}(j:1000000000000<=F){s:PS}(hs:C4 s)(nm:List UInt8):okD ZY (Ol F s nm).1:=by
 have z:okD ZY zA:=⟨mn,mn,mn,by show IntKind.min .i64<=(0:Int)/\(0:Int)<=IntKind.max .i64;decide,trivial⟩;unfold Ol;by_cases c:wZ gM s≠0;.grind
 rw[if_neg c];have c:=a_ c;have f:=J7 c;have hd:=Je c;cases g:Ei s nm with|none=>omega|some p=>
 have d:=Ej g;have hp:=f.r4 p d;simp only;by_cases hg:(vq s p.2.1).2.2.1≠0;.grind
 rw[if_neg hg];obtain⟨T,rows,b,-⟩:=XA ⟨f,hs,hd.1,hd.2⟩ hp (hs.ok.2.2.2.1.2 p d) (a_ hg);by_cases a:(Lq F s p).2≠0;.grind
 rw[if_neg a];have a:=a_ a;have e:=Yg j hp.tl b p.2.1.length (G_ _);rw[n_ (by rw[zj b.l];simp)]at e;unfold Lq at a⊢;rw[b.e0]at a⊢;have h:=e a;exact zbI h.ft.num (h.ft.num.aut b.t h.ft.l2 h.ft.l3 (λt ht=>(b.o t ht).1) λl hl=>h.li.le l (h.ft.num.lvs hl)) (λt ht=>(b.o t ht).2) λl hl=>(h.li.lv l hl).1
def Aw:LawOkU 3 [yS,tS]:=by rintro⟨s,nm,_⟩ ⟨hs,hn,_⟩ e;have e:eT yS s+_<=1048576:=e;have sm:C4 s:=Pw hs (by omega);obtain⟨F,d⟩:∃F:Nat,1000000000000<=F:=⟨_,G_ _⟩;refine⟨fW aw (true,()),(QB aw ?_),rfl⟩;obtain⟨b,_,f⟩:=FR s hs;have a:=Yf d sm nm;refine aj f (au (λ_=>aj Qd (aa rfl)) λ_=>aj (zr d sm nm) (aj (CZ d sm nm) ?_));generalize Ol F s nm=c at a;exact ae (aD (by simp) (aj (II c.1 c.1 a) (aa (ae (aD (by simp) (aj Qd (aa (aa rfl))))))))
end Go.Proofs.YtdgiglmmpbndmaaGreatDoor
