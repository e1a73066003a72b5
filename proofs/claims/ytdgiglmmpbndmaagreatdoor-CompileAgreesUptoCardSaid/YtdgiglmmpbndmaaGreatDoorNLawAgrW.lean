import Derived.Test.YtdgiglmmpbndmaaGreatDoorNLawDfaBB
set_option linter.all false
set_option maxRecDepth 100000
set_option maxHeartbeats 1000000
open Bool renaming or_eq_false_iff->q_,true_and->v_,and_eq_true_iff->C_
open Classical renaming byContradiction->a_,epsilon_spec->Z_,epsilon->ac_
open Int renaming toNat_natCast->d_,le_refl->Q_,toNat->ad_
open List renaming getElem?_eq_getElem->b_,getElem_mem->c_,mem_iff_getElem->e_,take_length->f_,mem_singleton->g_,pairwise_iff_getElem->h_,mem_cons_of_mem->i_,take_append_getElem->j_,mem_append->l_,getElem?_eq_none->m_,mem_cons_self->n_,foldl_cons->s_,pairwise_cons->t_,all_eq_true->w_,length_cons->x_,take_of_length_le->y_,append_nil->A_,take_append_drop->B_,length->D_,mem_of_mem_take->E_,zipWith_append->H_,mem_cons->I_,length_append->J_,ext_getElem?->K_,foldl_append->L_,getElem_drop->M_,map->N_,length_drop->O_,drop_zero->S_,foldl->T_,nodup_nil->U_,all_cons->W_,map_cons->X_,sum_cons->Y_,zipWith->aa_
open Nat renaming le_trans->k_,lt_succ_self->p_,le_refl->r_,lt_of_succ_lt_succ->z_,mul_le_mul_right->F_,zero_le->G_,succ_le_succ->P_,not_lt_zero->R_,mul_le_mul->V_,le_succ->ab_
open Option renaming bind->u_
open Option.some renaming inj->ae_
open Prod renaming ext->o_
namespace Go.Proofs.YtdgiglmmpbndmaaGreatDoor
open Z
open Go Go.Av Go.Ev Go.Pl
abbrev zeA(s:CX):List Ob:=[.box 190 [.sl 2,.mp 3,.sl 4],.map 3 3 tI tI s.2.2,.vec 90 xk s.1,.map 90 3 xk tI (kB s.1),.vec 70 H5 s.2.1]
def Pp{g:eZ}{A:List j7}{R:List Int}{k:Nat}(p:Ps g.2.1 g.2.2.1 R)(ht:CY g.1.length g.2.1 g.2.2.1)(L:R.length<=100000000)(hB:g.2.1.length<=900000000000)(hL:g.2.2.1.length<=900000000000) (J:∀a∈A,okD yA a) (j:LvS k g.2.2.1) (T:A.length+k<=1000000):∀(f:Nat) (n:Int) (s:CX),n∈R->(n+1).toNat<f->PI g A R s->aA tbl 43 [.ptr 0 0,.d tI n,.d (.list yA) A,.mp 1] (zeA s) d5 ((kS g A f n s).1,(kS g A f n s).2.2.2,(kS g A f n s).2.1,kB (kS g A f n s).2.1,(kS g A f n s).2.2.1,()):=by
 intro f;induction f with
 |zero=>simp|succ f F=>
  intro n s hn hf hs;refine bN ?_;unfold kS;have eL:di tI tI s.2.2 n=lk s.2.2 n:=rfl;rw[eL];have hD:=hs.len;have N:=hs.cB;have P:=hs.cL;have l:=cS.2 (p n hn).1;cases e:lk s.2.2 n with
  |some v=>exact aD rfl (aa rfl)|none=>
   have u:=yz e;refine ak rfl ?_;by_cases h:n<0
   .simp only[if_pos h];have c:=(p n hn).1.2;have w1:IntKind.wrap .i64 ((-1:Int) - n)= -1 - n:=wrap_i64;rw[w1];obtain⟨E,D⟩:=hs.eL;have d:s.2.1[(-1 - n).toNat]? =some (eU g n):=by rw[D];exact pp (jW h l)
    have U:=j _ (List.mem_of_getElem? (jW h l));refine ak (decide_eq_false (by omega)) (lN (by omega) d (ae (Wp.imp (Q:=λx=>x=(s.2.2,s.1,kB s.1,s.2.1,(mZ A (eU g n)).1,(mZ A (eU g n)).2.1,())) ?_ λx c=>?_)));.unfold mZ;refine au (λM=>ar (decide_eq_true (by omega)) (ar (decide_eq_true (by omega)) (aa ?_))) λM=>aa ?_;all_goals grind
    .subst c;refine aj (mN s.1 s.2.1 (mZ A (eU g n)) (λx c=>?_) (by omega)) (ar (decide_eq_true ?_) (aa ?_))
     .rcases hs.lv x c with c|⟨l0,h1,rfl⟩;.exact(j x c).1
      .exact(SG J (j l0 h1) T).1
     .show s.2.2.length<9223372036854775807;omega
     .simp only;rw[kvS n _ _ u];have:=IM (nR hs.kn u) (show(n,(dY s.2.1 (mZ A (eU g n))).1)∈s.2.2++[(n,(dY s.2.1 (mZ A (eU g n))).1)] by simp);rw[show di tI tI (s.2.2++[(n,(dY s.2.1 (mZ A (eU g n))).1)]) n=some _ from this];rfl
   .simp only[if_neg h];have h:0<=n:=by omega
    obtain⟨b,H,w,z⟩:=(p n hn).2 h;have kid:=ht.low.kids l h;have I:=pi H;rw[<-I]at w z;have m1:=(kid _ (.inl rfl)).2;have m2:=(kid _ (.inr rfl)).2;have y:=AZ A p ht f _ s w (by omega) hs;have C:=F _ s w (by omega) hs;obtain⟨E,D⟩:=hs.eB;have d:s.1[n.toNat]? =some (ci g n):=by grind
    generalize kS g A f (ci g n).2.1 s=Y at y C;have o:=AZ A p ht f _ Y.2 z (by omega) y.inv;have B:=F _ Y.2 z (by omega) y.inv;generalize kS g A f (ci g n).2.2.1 Y.2=O at o B;have r:∀k,(n,k)∉O.2.2.2:=λk c=>by
     rcases o.new _ c with c|c;.rcases y.new _ c with c|c;all_goals grind
     omega
    have oD:=o.inv.len;have el:=o.inv.cB;refine aD (decide_eq_true (by omega)) (lN h d (aj C (aj B (aj (sZ O.2.1 O.2.2.1 (ci g n).1 Y.1 O.1 (by omega)) (ar (decide_eq_true ?_) (aa ?_))))));.show O.2.2.2.length<9223372036854775807;omega
    .simp only;rw[kvS n _ _ r];have:=IM (nR o.inv.kn r) (show(n,(dP O.2.1 ((ci g n).1,Y.1,O.1,())).1)∈O.2.2.2++[(n,(dP O.2.1 ((ci g n).1,Y.1,O.1,())).1)] by simp);rw[show di tI tI (O.2.2.2++[(n,(dP O.2.1 ((ci g n).1,Y.1,O.1,())).1)]) n=some _ from this];rfl
def H6(B:List cF)(L:List dM)(n t:Int)(r:Bool)(hn:n<(B.length:Int)):aA tbl 109 [.d tI n,.d tB r,.ptr 0 0,.ptr 1 0] [.box 97 [.ptr 2 0],.box 3 [.d tI t],.box 190 [.sl 3,.mp 4,.sl 5],.vec 90 xk B,.map 90 3 xk tI (kB B),.vec 70 H5 L] d4 (iW B n t r,t,B,kB B,L,()):=by
 refine bN ?_;unfold iW;by_cases a:n<0;.rw[if_pos (.inl a)];exact ae (aD (decide_eq_true a) (aa (aD rfl (aa rfl))))
 .have b:n.toNat<B.length:=by omega
  have hg:=b_ b;rw[show(B[n.toNat]?).getD (0,0,0,())=B[n.toNat]from by grind];refine ae (ak (decide_eq_false a) (lN (by omega) hg (aa ?_)));by_cases e:B[n.toNat].1=t;.refine ak (by grind) (au (λhr=>lN (by omega) hg (aa ?_)) λhr=>lN (by omega) hg (aa ?_));all_goals grind
  .rw[if_pos (.inr e)];exact aD (by grind) (aa rfl)
abbrev zez(s:List cF×CW)(L:List dM):List Ob:=[.box 190 [.sl 2,.mp 3,.sl 4],.map 195 3 xk tI s.2,.vec 90 xk s.1,.map 90 3 xk tI (kB s.1),.vec 70 H5 L]
abbrev bxB(y n:Int)(l:List qT)(t:Int)(s:List cF×CW)(L:List dM):List Ob:=[.box 197 [.kj jc [5,4]],.box 3 [.d tI y],.box 3 [.d tI n],.box 101 [.d (.list Us) l],.box 3 [.d tI t],.box 97 [.ptr 7 0],.box 107 [.mp 8],.box 190 [.sl 9,.mp 10,.sl 11],.map 195 3 xk tI s.2,.vec 90 xk s.1,.map 90 3 xk tI (kB s.1),.vec 70 H5 L]
abbrev L2(l:List qT)(y n:Int)(s:List cF×CW)(L:List dM)(R:Int×(List cF×CW)):Prop:=aA tbl 44 [.ptr 0 0,.d (.list Us) l,.d tI y,.d tI n,.mp 1] (zez s L) cV (R.1,R.2.2,R.2.1,kB R.2.1,L,())
def Jq{s:List cF×CW}{L:List dM}{x:qT}{l:List qT}{y n t:Int}{r:Bool}{R:Int×(List cF×CW)}(c:y<(s.1.length:Int))(hn:n<(s.1.length:Int))(hl:l.length<=1000000) (a:x.1≠t->L2 (x::l) (iW s.1 y t r) (iW s.1 n t r) s L R) (d:x.1=t->x.2.1≠r->R=(iW s.1 n t r,s)) (b:x.1=t->x.2.1=r->L2 l (iW s.1 y t r) (iW s.1 n t r) s L R): aA tbl 110 [.d tB r,.ptr 0 0,.ptr 1 0,.ptr 2 0,.ptr 3 0,.ptr 4 0,.ptr 5 0,.ptr 6 0] (bxB y n (x::l) t s L) cf (R.1,y,n,x::l,t,R.2.2,R.2.1,kB R.2.1,L,()):=by
 refine bN ?_;refine aj (H6 s.1 L y t r c) (aj (H6 s.1 L n t r hn) (bX (Q_ 0) rfl (au (λh=>aj (a (by grind)) (aa rfl)) λh=>?_)));have h:x.1=t:=by grind
 refine bX (Q_ 0) rfl (au (λh2=>aa ?_) λh2=>?_);.grind
 .refine ar rfl (ar ?_ ?_);.simp
  .rw[f_];exact aj (b h (by grind)) (aa rfl)
def zdN(k:cF)(v:Int):∀(D:CW),(∀v,(k,v)∉D)->fe xk tI D k v=D++[(k,v)]
 |[],_=>rfl
 |(a,b)::l,h=>by have h1:k≠a:=λe=>h b (by grind);show(bif hZ xk k a then _ else _)=_;rw[R5,decide_eq_false h1,cond_false,zdN k v l λv c=>h v (i_ _ c)];rfl
def VP{nt:Nat}{lits:List qT}{B0:List cF}{L:List dM}{RY O:List Int}(hsz:B0.length<=900000000000)(DM:(lits.length+1)*(RY.length*O.length)<=90000000000)(ph:lits.length<=1000000)(h0:CY nt B0 L)(hY:Ps B0 L RY)(hN:Ps B0 L O) (CT:∀(i j:Nat) (a b:qT),lits[i]? =some a->lits[j]? =some b->i<j->a.1<b.1) (CD:∀x∈lits,0<=x.1/\x.1<(nt:Int)): ∀(f:Nat) (l:List qT) (y n:Int) (T:Int) (s:List cF×CW),(∃p,lits=p++l)->y∈RY->n∈O->Bd lits B0 T ((l.length:Int),y,n,())->-1<=T->T<(nt:Int)->(nt:Int) - T<=f->CI nt lits B0 L RY O s->zdk nt lits B0 L RY O T ((l.length:Int),y,n,()) s (Cg f l y n s)/\L2 l y n s L (Cg f l y n s):=by
 intro f;induction f with
 |zero=>omega|succ f ih=>
  intro l y n T s hp hy hn U hT DP hf hs;obtain⟨p,hp⟩:=hp;have DA:CO s.1 L y:=by obtain⟨E,H⟩:=hs.eB;have:=(hY y hy).1.app (E:=E) (E':=[]);rw[A_]at this;rw[H];omega
  have gc:(l=[]\/y=n)->zdk nt lits B0 L RY O T ((l.length:Int),y,n,()) s (y,s):=λhh=>by
   obtain⟨E,H⟩:=hs.eB;refine⟨hs,DA,λT' D=>?_,⟨[],by simp⟩,λq g=>.inl g,λres lf B C=>?_⟩;.show BK s.1 y T';rw[H];exact D.1.app
   .show Lv s.1 L res y lf;rw[H];refine Lv.PE ?_;rcases hh with rfl|rfl;.exact B (by simp)
    .by_cases J:(lits.drop (lits.length - (l.length:Int).toNat)).all (wQ res)=true;.exact B J
     .exact C J
  have stop:(l=[]\/y=n)->L2 l y n s L (y,s):=λh=>by refine bN ?_;exact ae (bf (b:=(y==n)) (λ_=>aa rfl) (aD (by rcases h with rfl|rfl<;>simp) (aa rfl)))
  cases l with
  |nil=>exact⟨gc (.inl rfl),stop (.inl rfl)⟩|cons x l=>
   unfold Cg;by_cases F:y=n;.rw[if_pos F];exact⟨gc (.inr F),stop (.inr F)⟩
   rw[if_neg F];have go:(((x::l).length:Int)==0||(y==n))=false:=by rw[q_];exact⟨beq_eq_false_iff_ne.2 (by rw[x_];omega),beq_eq_false_iff_ne.2 F⟩
   cases e:lkC s.2 (((l.length+1:Nat):Int),y,n,())with
   |some k=>obtain⟨q1,q2⟩:=hs.vd _ _ (KR e);refine⟨⟨hs,q1,λT' D=>q2 T' D,⟨[],by simp⟩,λq g=>.inl g,hs.sv _ _ (KR e)⟩,bN ?_⟩;refine ae (bf (b:=(y==n)) (λ_=>aa rfl) (ak go ?_));rw[show di xk tI s.2 (((x::l).length:Int),y,n,())=some k from e];exact aD rfl (aa rfl)
   |none=>
    have hk:=NI e;have hx:x∈lits:=by rw[hp];simp
    have hd:lits.drop (lits.length - (l.length+1))=x::l:=by rw[hp];simp
    have At:lits.drop (lits.length - l.length)=l:=by rw[hp];simp only[J_,x_];rw[show p.length+(l.length+1) - l.length=p.length+1 by omega,show p++x::l=(p++[x])++l by simp];simp
    have DQ:l.length+1<=lits.length:=by rw[hp];simp
    have BT:T<x.1:=U.2.2 x (by simp[d_,hd])
    have et:mf s.1 (mf s.1 x.1 y) n=mf B0 (mf B0 x.1 y) n:=by rw[Xp hs.eB (hN n hn).1,Xp hs.eB (hY y hy).1]
    have ur:∀{s:List cF×CW},CI nt lits B0 L RY O s->y<(s.1.length:Int)/\n<(s.1.length:Int):=fun{s} hs=>by obtain⟨E,H⟩:=hs.eB;have:=(hY y hy).1.1;have:=(hN n hn).1.1;rw[H,J_];omega
    simp only;rw[et];generalize Y:mf B0 (mf B0 x.1 y) n=t;have t1:T<t:=by rw[<-Y];exact KU (KU BT U.1) U.2.1
    have t2:t<=mf B0 x.1 y:=by rw[<-Y];simp[Xr]
    have t3:t<=x.1:=Int.le_trans t2 (Xr _ _ _);have gy:=Xq (hY y hy).1.1 t2;have gn:=Xq (hN n hn).1.1 (Int.le_of_eq Y.symm);have el:0<=t/\t<(nt:Int):=⟨by omega,by have:=(CD x hx).2;omega⟩;have one:∀(r:Bool) (s:List cF×CW),CI nt lits B0 L RY O s->∃R:Int×(List cF×CW),R=(if x.1≠t then Cg f (x::l) (iW s.1 y t r) (iW s.1 n t r) s else if x.2.1≠r then(iW s.1 n t r,s)else Cg f l (iW s.1 y t r) (iW s.1 n t r) s)/\CI nt lits B0 L RY O R.2/\CO R.2.1 L R.1/\BK R.2.1 R.1 t/\(∃E,R.2.1=s.1++E)/\(∀q∈R.2.2,q∈s.2\/Bd lits B0 t q.1)/\(∀res lf,res t=r->((x::l).all (wQ res)=true->Lv B0 L res y lf)->(¬(x::l).all (wQ res)=true->Lv B0 L res n lf)->Lv R.2.1 L res R.1 lf)/\aA tbl 110 [.d tB r,.ptr 0 0,.ptr 1 0,.ptr 2 0,.ptr 3 0,.ptr 4 0,.ptr 5 0,.ptr 6 0] (bxB y n (x::l) t s L) cf (R.1,y,n,x::l,t,R.2.2,R.2.1,kB R.2.1,L,()):=by
     intro r s hs
     obtain⟨y1,y2⟩:=Y1 h0 hY hy gy r
     obtain⟨n1,n2⟩:=Y1 h0 hN hn gn r
     obtain⟨u1,u2⟩:=ur hs
     have ey:=Y0 hs.eB (hY y hy).1 t r
     have en:=Y0 hs.eB (hN n hn).1 t r
     refine⟨_,rfl,?_⟩
     by_cases d:x.1≠t
     .rw[if_pos d];have bd:Bd lits B0 t (((x::l).length:Int),iW B0 y t r,iW B0 n t r,()):=⟨y2,n2,λz M=>by have M:(lits.drop (lits.length - (((l.length+1:Nat):Int)).toNat)).head?=some z:=M;rw[d_,hd]at M;cases M;omega⟩
      obtain⟨c,cc⟩:=ih (x::l) _ _ t s ⟨p,hp⟩ y1 n1 bd (by omega) el.2 (by omega) hs;rw[<-ey,<-en]at cc;have bl:=Jq (R:=Cg f (x::l) (iW s.1 y t r) (iW s.1 n t r) s) u1 u2 (by omega) (λ_=>cc) (λh=>absurd h d) (λh=>absurd h d);rw[ey,en]at bl⊢;refine⟨c.inv,c.nd,c.gt t bd,c.eB,c.new,λres lf hr B C=>c.sem res lf (λJ=>Fi (B ?_) hr) (λJ=>Fi (C λU=>J ?_) hr),bl⟩;.rwa[show lits.drop (lits.length - (((x::l).length:Int)).toNat)=x::l by rw[d_];exact hd]at J
      .rwa[show lits.drop (lits.length - (((x::l).length:Int)).toNat)=x::l by rw[d_];exact hd]
     .rw[if_neg d];have d:x.1=t:=a_ d;by_cases hr:x.2.1≠r;.rw[if_pos hr];have bl:=Jq (L:=L) (R:=(iW s.1 n t r,s)) (l:=l) (x:=x) u1 u2 (by omega) (λh=>absurd d h) (λ_ _=>rfl) (λ_ h=>absurd h hr);rw[en]at bl⊢;obtain⟨E,H⟩:=hs.eB;have e:=(hN _ n1).1.app (E:=E) (E':=[]);rw[A_]at e;refine⟨hs,by rw[H];omega,by simp only;rw[H];exact n2.app,⟨[],by simp⟩,λq g=>.inl g,λres lf A B C=>?_,bl⟩;simp only;rw[H];refine Lv.PE (Fi (C λU=>hr ?_) A);rw[W_,Bool.and_eq_true,wQ,d,A,beq_iff_eq]at U;exact U.1.symm
      .rw[if_neg hr];have bd:Bd lits B0 t ((l.length:Int),iW B0 y t r,iW B0 n t r,()):=⟨y2,n2,λz M=>by
        have M:(lits.drop (lits.length - ((l.length:Int)).toNat)).head?=some z:=M;rw[d_,At]at M;have a1:lits[p.length]? =some x:=by rw[hp];simp
        have a2:lits[p.length+1]? =some z:=by rw[hp,List.getElem?_append_right (by simp),show p.length+1 - p.length=1 by simp];cases l with|nil=>cases M|cons w l=>cases M;rfl
        have:=CT _ _ _ _ a1 a2 (by simp);omega⟩
       obtain⟨c,cc⟩:=ih l _ _ t s ⟨p++[x],by rw[hp];simp⟩ y1 n1 bd (by omega) el.2 (by omega) hs;rw[<-ey,<-en]at cc;have bl:=Jq (R:=Cg f l (iW s.1 y t r) (iW s.1 n t r) s) (x:=x) u1 u2 (by omega) (λh=>absurd d h) (λ_ h=>absurd h hr) (λ_ _=>cc);rw[ey,en]at bl⊢;refine⟨c.inv,c.nd,c.gt t bd,c.eB,c.new,λres lf A B C=>?_,bl⟩;have Dg:wQ res x=true:=by rw[wQ,d,A,beq_iff_eq];exact(a_ hr).symm
       rw[W_,Dg,v_]at B C;have ph:lits.drop (lits.length - ((l.length:Int)).toNat)=l:=by rw[d_];exact At
       refine c.sem res lf (λJ=>Fi (B ?_) A) (λJ=>Fi (C λU=>J ?_) A);.rwa[ph]at J
       .rwa[ph]
    obtain⟨a,ea,a1,a2,a3,⟨Ea,a4⟩,a5,a7,a6⟩:=one true s hs;rw[<-ea];obtain⟨b,eb,b1,b2,b3,⟨Eb,b4⟩,b5,b7,b6⟩:=one false a.2 a1;rw[<-eb];have an:CO b.2.1 L a.1:=by have e:=a2.app (E:=Eb) (E':=[]);rw[A_]at e;rw[b4];omega
    have ag:BK b.2.1 a.1 t:=by rw[b4];exact a3.app
    obtain⟨p1,p2,p3,_⟩:=b1.tab.Z6 el.1 el.2 an b2 ag b3;obtain⟨⟨Ep,p5⟩,p6⟩:=uu b.2.1 (t,a.1,b.1,());have DE:=b1.len;have DH:=b1.cB;have Bx:=sZ b.2.1 L t a.1 b.1 (by omega);have sem:Ma lits B0 L (dP b.2.1 (t,a.1,b.1,())).2 (((l.length+1:Nat):Int),y,n,()) (dP b.2.1 (t,a.1,b.1,())).1:=λres lf B C=>by simp only[d_,hd]at B C;refine SA (λh=>?_) λh=>b7 res lf (by simpa using h) B C;rw[b4];exact(a7 res lf h B C).PE
    generalize dP b.2.1 (t,a.1,b.1,())=P at*;have wr:¬Bd lits B0 t (((l.length+1:Nat):Int),y,n,()):=fun⟨g1,g2,g3⟩=>by
     have g3:=g3 x (by simp[d_,hd])
     have:t<mf B0 (mf B0 x.1 y) n:=KU (KU g3 g1) g2;omega
    have Bk:∀v,((((l.length+1:Nat):Int),y,n,()),v)∉b.2.2:=λv u=>by
     rcases b5 _ u with u|u
     .rcases a5 _ u with u|u;.exact hk v u
      .exact wr u
     .exact wr u
    have gt:∀T',Bd lits B0 T' (((l.length+1:Nat):Int),y,n,())->BK P.2 P.1 T':=λT' D=>by refine p3 T' (a_ λhc=>wr (Wo D (by omega)))
    refine⟨⟨b1.put Bk ⟨⟨by omega,by omega⟩,hy,hn⟩ p1 ⟨Ep,p5⟩ p6 p2 gt sem,p2,gt,⟨Ea++Eb++Ep,by simp only;rw[p5,b4,a4];simp⟩,λq g=>?_,sem⟩,bN ?_⟩
    .rcases l_.1 g with g|g
     .rcases b5 _ g with g|g
      .rcases a5 _ g with g|g;.exact .inl g
       .exact .inr (Wo g (by omega))
      .exact .inr (Wo g (by omega))
     .rw[g_.1 g];exact .inr U
    .refine ae (bf (b:=(y==n)) (λ_=>aa rfl) (ak go ?_));rw[show di xk tI s.2 (((x::l).length:Int),y,n,())=none from e];refine ak rfl (bX (x:=x) (Q_ 0) rfl (ae (Wp.imp (Q:=λv=>v=(s.2,s.1,kB s.1,L,x::l,y,n,((x::l).length:Int),y,n,t,())) ?_ λv u=>?_)))
     .have step:∀(c tp:Int),c<(s.1.length:Int)->Wp (λ_=>u_ (bif decide (c>=0)then u_ (lx s.1 c) λ_=>u_ s.1[ad_ c]? λv8=>some (decide (v8.1<tp))else some false) λv9=>bif v9 then u_ (lx s.1 c) λ_=>u_ s.1[ad_ c]? λDB=>some (s.2,s.1,kB s.1,L,x::l,y,n,((x::l).length:Int),y,n,DB.1,()) else some (s.2,s.1,kB s.1,L,x::l,y,n,((x::l).length:Int),y,n,tp,())) (λv=>v=(s.2,s.1,kB s.1,L,x::l,y,n,((x::l).length:Int),y,n,mf s.1 tp c,())):=λc tp hc=>by
       unfold mf
       by_cases c0:0<=c
       .have hg:=b_ (l:=s.1) (i:=c.toNat) (by omega);rw[show(s.1[c.toNat]?).getD (0,0,0,())=s.1[c.toNat]'(by omega)from by rw[hg];rfl];refine ae (bc (b:=decide (s.1[c.toNat].1<tp)) (λ_=>lN c0 hg (aa rfl)) (au (λh=>lN c0 hg (aa ?_)) λh=>aa ?_));.rw[if_pos ⟨c0,of_decide_eq_true (C_.1 h).2⟩]
        .rw[if_neg λhh=>by rw[decide_eq_true (show c>=0 from c0),v_]at h;exact of_decide_eq_false h hh.2]
       .rw[if_neg (λh=>c0 h.1)];exact ae (ak (decide_eq_false c0) (aa (ak rfl (aa rfl))))
      have r0:Ev.rowAt tI 2 (.d Un (y,n,())) ((0:Nat):Int)=some y:=rfl;have r1:Ev.rowAt tI 2 (.d Un (y,n,())) ((1:Nat):Int)=some n:=rfl;refine aI (N:=2) (I:=λi st=>st=((y,n,()),(i:Int),s.2,s.1,kB s.1,L,x::l,y,n,((x::l).length:Int),y,n,(if i=0 then x.1 else if i=1 then mf s.1 x.1 y else mf s.1 (mf s.1 x.1 y) n),())) rfl (λi st hi qr=>?_) λst qr=>?_
      .subst qr;obtain rfl|rfl:i=0\/i=1:=by omega
       .exact aD rfl (ae (ae (cD (λ_=>r0) (Wp.imp (step y x.1 (ur hs).1) λv u=>by subst u;exact aa rfl))))
       .exact aD rfl (ae (ae (cD (λ_=>r1) (Wp.imp (step n (mf s.1 x.1 y) (ur hs).2) λv u=>by subst u;exact aa rfl))))
      .subst qr;exact ak rfl (aa (by rw[<-Y,<-et];rfl))
     subst u;refine aj a6 (aj b6 (aD (by simp) (aj Bx (ar (decide_eq_true ?_) (aa ?_)))));.show b.2.2.length<9223372036854775807;omega
     .have:=zdN (((l.length+1:Nat):Int),y,n,()) P.1 _ Bk;show some (gq cV (P.1,fe xk tI b.2.2 (((l.length+1:Nat):Int),y,n,()) P.1,P.2,kB P.2,L,()))=_;rw[this]
set_option maxRecDepth 100000
abbrev Pv(l:List qT)(c:List qT×Bool×Unit):Prop:=(c.2.1=true/\ZO c.1/\∀z,z∈c.1↔z∈l)\/(c.2.1=false/\c.1=[]/\∃a∈l,∃b∈l,a.1=b.1/\a.2.1≠b.2.1)
def YX:∀{a b:List qT},ZO a->ZO b->(∀z,z∈a↔z∈b)->a=b
 |[],[],_,_,_=>rfl
 |[],y::b,_,_,h=>absurd ((h y).2 (n_ ..)) (by simp)
 |x::a,[],_,_,h=>absurd ((h x).1 (n_ ..)) (by simp)
 |x::a,y::b,h1,h2,h=>by
  obtain⟨g,d⟩:=t_.1 h1;obtain⟨j,f⟩:=t_.1 h2;have e:x=y:=by grind
  subst e;rw[YX d f λz=>⟨λc=>?_,λc=>?_⟩];all_goals grind
def zbj{a:List qT}(h:ZO a){x y:qT}(d:x∈a)(f:y∈a)(e:x.1=y.1):x=y:=by
 obtain⟨i,b,rfl⟩:=e_.1 d;obtain⟨j,c,rfl⟩:=e_.1 f;rcases Nat.lt_trichotomy i j with h1|rfl|h1;.have:=h_.1 h i j b c h1;omega
 .rfl
 .have:=h_.1 h j i c b h1;omega
def Pv.uniq{l:List qT}{c d:List qT×Bool×Unit}(hc:Pv l c)(hd:Pv l d):c=d:=by
 have no:∀{c:List qT×Bool×Unit},ZO c.1->(∀z,z∈c.1↔z∈l)->¬∃a∈l,∃b∈l,a.1=b.1/\a.2.1≠b.2.1:=λh1 h2 ⟨a,N,b,U,e,Y⟩=>Y (by rw[zbj h1 ((h2 a).2 N) ((h2 b).2 U) e]);obtain⟨c1,c2,⟨⟩⟩:=c;obtain⟨d1,d2,⟨⟩⟩:=d;rcases hc with⟨h1,h2,E⟩|⟨h1,h2,E⟩<;>rcases hd with⟨J,I,H⟩|⟨J,I,H⟩;.simp only at h1 h2 E J I H;rw[h1,J,YX h2 I λz=>(E z).trans (H z).symm]
 .exact absurd H (no h2 E)
 .exact absurd E (no I H)
 grind
def H8(l:List qT)(hl:l.length<=1000000):∃c:List qT×Bool×Unit,Pv l c/\aA tbl 42 [.d (.list Us) l] [] fE c:=by
 refine PY (sh:=fE) ?_;refine ae (aI (N:=l.length) (I:=λi st=>∃d:List qT,st=(d,(i:Int),())/\ZO d/\(∀z,z∈d↔z∈l.take i)/\d.length<=i) ⟨[],rfl,.nil,by simp,by simp⟩ (λi st r n=>?_) λst n=>?_)
 .obtain⟨d,rfl,p,B,R⟩:=n;have A:=c_ r;have E:∀z,z∈l.take (i+1)↔z∈d\/z=l[i]:=λz=>by rw[<-j_ r,l_,g_,B]
  refine aO r (ae (aB r ?_));generalize l[i]=x at A E;refine ae (Wp.imp (Q:=λv=>∃k:Nat,v=((k:Int),x.1,x.2.1,())/\k<=d.length/\(∀j (u:j<d.length),j<k->d[j].1<x.1)/\∀f:k<d.length,¬d[k].1<x.1) ?_ λv M=>?_)
  .refine Go.Ev.wp_loop (λv=>∃k:Nat,v=((k:Int),x.1,x.2.1,())/\k<=d.length/\∀j (u:j<d.length),j<k->d[j].1<x.1) (λv=>d.length - v.1.toNat) ⟨0,rfl,G_ _,λj _ h=>by omega⟩ ?_;rintro v ⟨k,rfl,J,H⟩;by_cases f:k<d.length
   .have hd:decide ((k:Int)<(d.length:Int))=true:=decide_eq_true (by omega);refine ae (bc (b:=decide (d[k].1<x.1)) (λ_=>aB f (aa rfl)) (au (λh=>aa ?_) λh=>aa ?_));.have h:d[k].1<x.1:=of_decide_eq_true (C_.1 h).2;rw[ao f];grind
    grind
   .exact ae (ak (decide_eq_false (by grind)) (aa (ak rfl (aa ⟨k,rfl,J,H,λh=>absurd h f⟩))))
  .obtain⟨k,rfl,J,H,U⟩:=M;by_cases g:∃f:k<d.length,d[k].1=x.1
   .obtain⟨f,g⟩:=g;refine ae (bc (b:=true) (λ_=>aB f (aa (by grind))) (aD (by grind) (aB f (au (λF=>aa ?_) λF=>aa ?_))));.exact aa (aa ⟨([],false,()),rfl,.inr ⟨rfl,rfl,_,(λz O=>E_ ((B z).1 O)) _ (c_ f),x,A,g,by grind⟩⟩)
    .have F:d[k].2.1=x.2.1:=by grind
     have T:d[k]=x:=o_ g (o_ F rfl);refine aa ⟨d,?_,p,λz=>?_,by omega⟩;.rw[ao r]
     grind
   .have D:∀f:k<d.length,x.1<d[k].1:=λf=>by grind
    refine ae (bc (b:=false) (λh=>?_) (ak (by simp) ?_))
    .have f:k<d.length:=by grind
     exact aB f (aa (beq_eq_false_iff_ne.2 λe=>g ⟨f,e⟩))
    .have ht:(d.take k).length=k:=by grind
     refine ar (decide_eq_true (by simp)) (ar (decide_eq_true (by simp)) (ar (by grind) (ar (by simp) (ar (decide_eq_true (by simp)) (ar (by grind) (ar (decide_eq_true ?_) (ar (decide_eq_true ?_) (aa (aa ⟨d.take k++x::d.drop k,?_,?_,λz=>?_,?_⟩)))))))));.grind
     .grind
     .rw[ao r,d_,f_,S_];rfl
     .refine List.pairwise_append.2 ⟨p.sublist (List.take_sublist _ _),?_,λa L b w=>?_⟩
      .refine t_.2 ⟨λb w=>?_,p.sublist (List.drop_sublist _ _)⟩;obtain⟨j,u,rfl⟩:=e_.1 w;rw[M_];simp only[O_]at u;have y:k<d.length:=by omega
       have:=D y;by_cases e:j=0;.grind
       .have:=h_.1 p k (k+j) y (by omega) (by omega);omega
      .obtain⟨j,u,rfl⟩:=e_.1 L;rw[ht]at u;rw[List.getElem_take];have h1:=H j (by omega) u;rcases I_.1 w with rfl|w;.omega
       .obtain⟨P,C,rfl⟩:=e_.1 w;rw[M_];simp only[O_]at C;exact h_.1 p j (k+P) (by omega) (by omega) (by omega)
     .have:=l_ (a:=z) (s:=d.take k) (t:=d.drop k);rw[B_]at this;grind
     grind
 .obtain⟨d,rfl,p,B,R⟩:=n;rw[f_]at B;exact aH (aa (aa ⟨(d,true,()),rfl,.inl ⟨rfl,p,B⟩⟩))
def iE(b:List oJ)(a:List Int):List qT:=aa_ (λm k=>(k,!m.2.2.2.2.1,())) b a
set_option maxRecDepth 100000
def lu{a σ:Type}{f:σ->a->σ}{x:σ}{l:List a}{i:Nat}(b:i<l.length):(l.take (i+1)).foldl f x=f ((l.take i).foldl f x) l[i]:=by rw[<-j_ b,L_];rfl
def yi{c σ:Type}{f:σ->c->σ}{e:σ->Int}(h:∀x a,e x≠0->f x a=x):∀(l:List c) (x:σ),e x≠0->l.foldl f x=x
 |[],_,_=>rfl
 |a::l,x,b=>by rw[s_,h x a b];exact yi h l x b
def Az{b σ:Type}{f:σ->b->σ}{e:σ->Int}(h:∀x a,e x≠0->f x a=x)(l:List b)(i:Nat)(x:σ)(c:e ((l.take i).foldl f x)≠0):l.foldl f x=(l.take i).foldl f x:=by
 conv=>lhs;rw[<-B_ i l,L_]
 exact yi h _ _ c
def qW(T:List ee)(t:ee):List ee:=if t∈T then T else T++[t]
def oX(T:List ee)(t:ee):Nat:=T.findIdx (λx=>decide (x=t))
def Qn{T:List ee}{t:ee}(h:t∈T):oX T t<T.length:=List.findIdx_lt_length_of_exists ⟨t,h,by simp⟩
def W6{T:List ee}{t:ee}{j:Nat}(a:j<T.length)(h:T[j]=t)(hl:∀k (b:k<T.length),k<j->T[k]≠t):oX T t=j:=by unfold oX;grind
def KE{T:List ee}{t:ee}(h:t∉T):oX T t=T.length:=by unfold oX;grind
def zaB{T E:List ee}{t:ee}(h:t∈T):oX (T++E) t=oX T t:=by unfold oX;grind
noncomputable def Gg(s:PS)(x:List ee×List Int×Int)(m:oJ):List ee×List Int×Int:=
 if x.2.2≠0 then x else if(d9 s m).2.1≠0 then(x.1,x.2.1,(d9 s m).2.1)else(qW x.1 (d9 s m).1,x.2.1++[(oX x.1 (d9 s m).1:Int)],0)
noncomputable def tM(s:PS)(T:List ee)(a:List oJ):List ee×List Int×Int:=a.foldl (Gg s) (T,[],0)
noncomputable def To(s:PS)(x:List ee×List (List Int)×Int)(t:jd):List ee×List (List Int)×Int:=
 if x.2.2≠0 then x else if(tM s x.1 t.2.1).2.2≠0 then([],[],(tM s x.1 t.2.1).2.2)else((tM s x.1 t.2.1).1,x.2.1++[(tM s x.1 t.2.1).2.1],0)
noncomputable def xl(s:PS)(ts:List jd):List ee×List (List Int)×Int:=ts.foldl (To s) ([],[],0)
def Dk(s:PS)(x:List ee×List Int×Int)(m:oJ)(h:x.2.2≠0):Gg s x m=x:=if_pos h
def Lq(s:PS)(x:List ee×List (List Int)×Int)(t:jd)(h:x.2.2≠0):To s x t=x:=if_pos h
structure Pw(n:Nat)(T:List ee):Prop where
 nd:T.Nodup
 ok:∀t∈T,ue t=0/\okD LG t
 len:T.length<=n
def Pw.add{n:Nat}{T:List ee}(h:Pw n T){t:ee}(ht:ue t=0/\okD LG t):Pw (n+1) (qW T t):=by
 unfold qW;split;.exact⟨h.nd,h.ok,Nat.le_succ_of_le h.len⟩
 .have:=h.len;refine⟨List.nodup_append.2 ⟨h.nd,by simp,λa H b I e=>?_⟩,λx E=>?_,by grind⟩;.grind
  .rcases l_.1 E with E|E;.exact h.ok x E
   grind
def JK(T:List ee)(t:ee):t∈qW T t:=by unfold qW;split<;>simp_all
def CZ(T:List ee)(t:ee):∃E,qW T t=T++E:=by
 unfold qW;split;.exact⟨[],by simp⟩
 .exact⟨_,rfl⟩
def KD(T:List ee)(t:ee):oX (qW T t) t=oX T t:=by
 unfold qW;split;.rfl
 .rename_i h;rw[KE h];refine W6 (by simp) (by simp) λk a hl=>?_;grind
structure MI(n i:Nat)(x:List ee×List Int×Int):Prop where
 e0:x.2.2=0
 ts:Pw (n+i) x.1
 rl:x.2.1.length=i
 rw:∀k∈x.2.1,0<=k/\k<(x.1.length:Int)
theorem MI.nil{n:Nat}{T:List ee}(h:Pw n T):MI n 0 (T,[],0):=⟨rfl,h,rfl,by simp⟩
theorem MI.put{s:PS}(hs:nw s){n i:Nat}{x:List ee×List Int×Int}(h:MI n i x){m:oJ}(N:iw s m=0)(I:okD yM m)(J:(d9 s m).2.1=0): Gg s x m=(qW x.1 (d9 s m).1,x.2.1++[(oX x.1 (d9 s m).1:Int)],0)/\MI n (i+1) (qW x.1 (d9 s m).1,x.2.1++[(oX x.1 (d9 s m).1:Int)],0):=by
 refine⟨by unfold Gg;rw[if_neg (not_not_intro h.e0),if_neg (not_not_intro J)],rfl,h.ts.add (Y6 hs N I J),by simp[h.rl],λk H=>?_⟩;obtain⟨E,U⟩:=CZ x.1 (d9 s m).1;rcases l_.1 H with H|H;.have:=h.rw k H;grind
 .have:=Qn (JK x.1 (d9 s m).1);rw[KD]at this;grind
def MI.step{s:PS}(hs:nw s){n i:Nat}{x:List ee×List Int×Int}(h:MI n i x){m:oJ}(I:iw s m=0)(E:okD yM m):MI n (i+1) (Gg s x m)\/(Gg s x m).2.2≠0:=by
 by_cases H:(d9 s m).2.1=0;.obtain⟨h1,h2⟩:=h.put hs I E H;grind
 .right;unfold Gg;grind
structure TI(us:List jd)(i:Nat)(x:List ee×List (List Int)×Int):Prop where
 e0:x.2.2=0
 ts:Pw (64*i) x.1
 rl:x.2.1.length=i
 rn:∀j (h1:j<x.2.1.length) (h2:j<us.length),x.2.1[j].length=us[j].2.1.length
 rw:∀r∈x.2.1,∀k∈r,0<=k/\k<(x.1.length:Int)
theorem TI.nil(ts:List jd):TI ts 0 ([],[],0):=⟨rfl,⟨U_,by simp,by simp⟩,rfl,λj h=>by simp at h,by simp⟩
def zau(s:PS)(T:List ee):∀(b:List oJ) (r:List Int) (e:Int),∃E,(b.foldl (Gg s) (T,r,e)).1=T++E:=by
 intro b;induction b generalizing T with
 |nil=>simp|cons m l a=>
  intro r e;rw[s_];by_cases h1:e≠0;.rw[Dk s (T,r,e) m h1];exact a T r e
  by_cases h2:(d9 s m).2.1≠0;.rw[show Gg s (T,r,e) m=(T,r,(d9 s m).2.1) by unfold Gg;grind];exact a T r _
  .rw[show Gg s (T,r,e) m=(qW T (d9 s m).1,r++[(oX T (d9 s m).1:Int)],0) by unfold Gg;grind];obtain⟨E,d⟩:=CZ T (d9 s m).1;obtain⟨c,h2⟩:=a (qW T (d9 s m).1) (r++[(oX T (d9 s m).1:Int)]) 0;grind
theorem TI.put{s:PS}{ts:List jd}{i:Nat}(Y:i<ts.length){x:List ee×List (List Int)×Int}(h:TI ts i x)(hl:ts[i].2.1.length<=64){r:List Int}{T:List ee}(hr:tM s x.1 ts[i].2.1=(T,r,0))(H:MI (64*i) ts[i].2.1.length (T,r,0)): To s x ts[i]=(T,x.2.1++[r],0)/\TI ts (i+1) (T,x.2.1++[r],0):=by
 refine⟨by unfold To;rw[if_neg (not_not_intro h.e0),hr];rfl,rfl,⟨H.ts.nd,H.ts.ok,by have:=H.ts.len;grind⟩,by simp[h.rl],λj h1 h2=>?_,λq I k J=>?_⟩
 .have U:=h.rl;by_cases e:j<x.2.1.length;.simp only[List.getElem_append_left e];exact h.rn j e h2
  .have:j=i:=by grind
   subst this;simp only[List.getElem_append_right (show x.2.1.length<=j by omega),List.getElem_singleton];exact H.rl
 .rcases l_.1 I with I|I;.have:=h.rw q I k J;obtain⟨E,N⟩:=zau s x.1 ts[i].2.1 [] 0;rw[show T_ (Gg s) (x.1,[],0) ts[i].2.1=(T,r,0)from hr]at N;grind
  .rw[g_.1 I]at J;exact H.rw k J
structure KOk(s:PS)(T:List ee)(K:List (oJ×Int))(n:Nat):Prop where
 k:∀q∈K,(d9 s q.1).2.1=0/\(d9 s q.1).1∈T/\q.2=(oX T (d9 s q.1).1:Int)
 l:K.length<=n
def zai(a b:oJ):hZ yM a b=true↔a=b:=by obtain⟨c,d,e,⟨f,g,⟨⟩⟩,h,⟨⟩⟩:=a;obtain⟨j,k,l,⟨n,p,⟨⟩⟩,r,⟨⟩⟩:=b;simp[hZ]
def NC{k:oJ}{v:Int}:∀{D:List (oJ×Int)},di yM tI D k=some v->(k,v)∈D
 |[],h=>by cases h
 |(x,y)::l,h=>by unfold di at h;cases e:hZ yM k x with|true=>rw[e]at h;have h:some y=some v:=h;rw[(zai k x).1 e,ae_ h];simp|false=>rw[e]at h;exact i_ _ (NC (D:=l) h)
def NE{k:oJ}{v:Int}:∀{D:List (oJ×Int)} {q:oJ×Int},q∈fe yM tI D k v->q∈D\/q=(k,v)
 |[],q,h=>.inr (g_.1 h)
 |(x,y)::l,q,h=>by
  unfold fe at h;cases e:hZ yM k x with
  |true=>grind|false=>
   rw[e]at h;rcases I_.1 (show q∈(x,y)::fe yM tI l k v from h)with rfl|h;.simp
   .exact(NE (D:=l) h).imp_left (i_ _)
def KOk.add{s:PS}{T:List ee}{K:List (oJ×Int)}{n:Nat}(h:KOk s T K n){m:oJ}(I:(d9 s m).2.1=0):KOk s (qW T (d9 s m).1) (fe yM tI K m (oX T (d9 s m).1:Int)) (n+1):=by
 refine⟨λq H=>?_,k_ (IF (a:=yM) (b:=tI) m _ K) (P_ h.l)⟩;rcases NE H with H|rfl;.obtain⟨h1,h2,N⟩:=h.k q H;obtain⟨E,J⟩:=CZ T (d9 s m).1;rw[J,zaB h2];grind
 .exact⟨I,JK ..,by rw[KD]⟩
def UJ{b:List oJ}{a:List Int}{i:Nat}(c:i<b.length)(hr:a.length=i)(k:Int):iE (b.take (i+1)) (a++[k])=iE (b.take i) a++[(k,!b[i].2.2.2.2.1,())]:=by unfold iE;rw[<-j_ c,H_ (by grind)];rfl
def Ff(ts:List jd)(rows:List (List Int)):List (List qT):=aa_ (λt a=>iE t.2.1 a) ts rows
def UI{ts:List jd}{rows:List (List Int)}{i:Nat}(a:i<ts.length)(hr:rows.length=i)(r:List Int):Ff (ts.take (i+1)) (rows++[r])=Ff (ts.take i) rows++[iE ts[i].2.1 r]:=by unfold Ff;rw[<-j_ a,H_ (by grind)];rfl
noncomputable def HR(s:PS)(ts:List jd):List ee×List (List qT)×Int×Unit:=
 if(xl s ts).2.2≠0 then([],[],(xl s ts).2.2,())else if 2000<(xl s ts).1.length then([],[],4,())else((xl s ts).1,Ff ts (xl s ts).2.1,0,())
abbrev zdD(T:List ee)(W:List (List qT))(K:List (oJ×Int))(L:List qT)(m:oJ)(t:ee)(j:Int):=(j,T,W,K,L,m.1,m.2.1,m.2.2.1,m.2.2.2.1.1,m.2.2.2.1.2.1,false,t.1,t.2.1,t.2.2.1.1,t.2.2.1.2.1,t.2.2.2.1,t.2.2.2.2.1.1,t.2.2.2.2.1.2.1,t.2.2.2.2.1.2.2.1,t.2.2.2.2.1.2.2.2.1,t.2.2.2.2.2.1,())
def Si{s:PS}{x:List ee×List (List Int)×Int}{t:jd}(h:x.2.2=0){e:Int}(hg:(tM s x.1 t.2.1).2.2=e)(a:e≠0):To s x t=([],[],e):=by unfold To;grind
def zbk{s:PS}{x:List ee×List Int×Int}{m:oJ}(h:x.2.2=0)(a:(d9 s m).2.1≠0):(Gg s x m).2.2=(d9 s m).2.1:=by unfold Gg;grind
def LP{s:PS}(hs:nw s){p:sr}(hp:Ib s p)(R:okD yO p):aA tbl 38 [.d yS s,.d yO p] [] lE (HR s p.2.1):=by
 refine bN ?_;have ph:=hp.tl;refine ae (aI (N:=p.2.1.length) (I:=λi st=>∃K,st=((i:Int),(xl s (p.2.1.take i)).1,Ff (p.2.1.take i) (xl s (p.2.1.take i)).2.1,K,())/\TI p.2.1 i (xl s (p.2.1.take i))/\KOk s (xl s (p.2.1.take i)).1 K (64*i)) ⟨[],rfl,TI.nil _,by simp,by simp⟩ (λi st z a=>?_) λst a=>?_)
 .obtain⟨K,rfl,h,f⟩:=a;have ht:=hp.tr _ (c_ z);have B:=R.2.1.2 _ (c_ z);have ml:=ht.ml;have hg:xl s (p.2.1.take (i+1))=To s (xl s (p.2.1.take i)) p.2.1[i]:=lu z;have d:=Az (e:=λx=>x.2.2) (Lq s) p.2.1 (i+1) ([],[],0);rw[show T_ (To s) ([],[],0) (p.2.1.take (i+1))=_ from hg]at d;have P:(Ff (p.2.1.take i) (xl s (p.2.1.take i)).2.1).length<=i:=by unfold Ff;grind
  rw[hg];have C:=λr=>UI z h.rl r;generalize Ff (p.2.1.take i) (xl s (p.2.1.take i)).2.1=W at P C;generalize xl s (p.2.1.take i)=x at h f d C;have U:=h.ts;refine aO z (aB z (ae (aI (N:=p.2.1[i].2.1.length) (I:=λj st=>∃K,st=((j:Int),(tM s x.1 (p.2.1[i].2.1.take j)).1,W,K,iE (p.2.1[i].2.1.take j) (tM s x.1 (p.2.1[i].2.1.take j)).2.1,())/\MI (64*i) j (tM s x.1 (p.2.1[i].2.1.take j))/\KOk s (tM s x.1 (p.2.1[i].2.1.take j)).1 K (64*i+j)) ⟨K,rfl,MI.nil U,f⟩ (λj st n a=>?_) λst a=>?_)))
  .have h':=h;obtain⟨K,rfl,h,f⟩:=a;have D:=ht.ma _ (c_ n);have u:=B.2.1.2 _ (c_ n);have hg:tM s x.1 (p.2.1[i].2.1.take (j+1))=Gg s (tM s x.1 (p.2.1[i].2.1.take j)) p.2.1[i].2.1[j]:=lu n;have a:=Az (e:=λx=>x.2.2) (Dk s) p.2.1[i].2.1 (j+1) (x.1,[],0);rw[show T_ (Gg s) (x.1,[],0) (p.2.1[i].2.1.take (j+1))=_ from hg]at a;have g:=λk=>UJ n h.rl k;rw[hg];have O:(iE (p.2.1[i].2.1.take j) (tM s x.1 (p.2.1[i].2.1.take j)).2.1).length<=j:=by unfold iE;grind
   generalize iE (p.2.1[i].2.1.take j) (tM s x.1 (p.2.1[i].2.1.take j)).2.1=L at g O;generalize tM s x.1 (p.2.1[i].2.1.take j)=y at h f a g;have qr:=h.ts.len;have el:=f.l;refine aO n (aB n (ae ?_));generalize p.2.1[i].2.1[j]=m at D u a g⊢;have M:decide ((L.length+1)*16<=140737488355328)=true:=decide_eq_true (by omega);cases e:di yM tI K (m.1,m.2.1,m.2.2.1,m.2.2.2.1,false,())with
   |some v=>
    obtain⟨q1,q2,q3⟩:=f.k _ (NC e);obtain⟨J,E⟩:=h.put hs D u q1;rw[J];have Y:qW y.1 (d9 s m).1=y.1:=if_pos q2;refine ak rfl (aa (ar M (aa ⟨K,?_,E,?_,?_⟩)));.rw[ao n,g,Y,show v=(oX y.1 (d9 s m).1:Int)from q3];rfl
    .rw[Y];exact f.k
    omega
   |none=>
    by_cases w:(d9 s m).2.1=0
    .obtain⟨J,E⟩:=h.put hs D u w;rw[J];have B:=Y6 hs D u w;have l:=f.add (m:=(m.1,m.2.1,m.2.2.1,m.2.2.2.1,false,())) w;refine aD rfl (aj (sP hs (m:=(m.1,m.2.1,m.2.2.1,m.2.2.2.1,false,())) D) ?_);rw[show d9 s (m.1,m.2.1,m.2.2.1,m.2.2.2.1,false,())=d9 s m from rfl]at l⊢;generalize d9 s m=c at w B l E;refine ak (by grind) (ae (Wp.imp (Q:=λv=>v=zdD y.1 W K L m c.1 (oX y.1 c.1)) (Ev.wp_loop (λv=>∃k:Nat,v=zdD y.1 W K L m c.1 k/\k<=y.1.length/\∀q (T:q<y.1.length),q<k->y.1[q]≠c.1) (λv=>y.1.length - v.1.toNat) ⟨0,rfl,G_ _,λq _ h=>absurd h (R_ _)⟩ ?_) λv hv=>?_))
     .rintro v ⟨k,rfl,k1,k2⟩;by_cases A:k<y.1.length
      .refine ae (bc (b:= !decide (y.1[k]=c.1)) (λ_=>lN (by simp) (b_ A) (aj (nr _ c.1 (h.ts.ok _ (c_ A)).2) (aa rfl))) (au (λH=>aa ?_) λH=>aa ?_))
       .rw[ao A];have gc:y.1[k]≠c.1:=by grind
        exact⟨⟨k+1,rfl,A,λq T hl=>if e:q=k then by grind else k2 q T (by omega)⟩,by show y.1.length - ((k+1:Nat):Int).toNat<y.1.length - (k:Int).toNat;omega⟩
       .rw[W6 A (by grind) k2]
      .refine ae (ak (decide_eq_false (by grind)) (aa (ak rfl (aa ?_))));have A:k=y.1.length:=by omega
       subst A;rw[KE λhc=>by obtain⟨q,T,e⟩:=e_.1 hc;grind]
     .subst hv;have gK:decide (K.length<maxLen)=true:=decide_eq_true (by simp only[maxLen];omega);refine ae (au (λH=>ar (decide_eq_true (by grind)) (aa (ar gK (aa (ar M (aa ⟨_,?_,E,l⟩)))))) λH=>aa (ar gK (aa (ar M (aa ⟨_,?_,E,l⟩)))))
      .rw[ao n,g];have hn:c.1∉y.1:=λhc=>by have:=Qn hc;grind
       rw[show qW y.1 c.1=y.1++[c.1]from if_neg hn]
      .rw[ao n,g];have hn:c.1∈y.1:=a_ λhc=>by rw[KE hc]at H;grind
       rw[show qW y.1 c.1=y.1 from if_pos hn]
    .have he:=zbk (x:=y) h.e0 w;have h1:=a (by omega);have h2:=Si (t:=p.2.1[i]) h'.e0 (show(tM s x.1 p.2.1[i].2.1).2.2=(d9 s m).2.1 by unfold tM;grind) w;have h3:xl s p.2.1=([],[],(d9 s m).2.1):=by have:=d (by grind);rw[h2]at this;exact this
     refine aD rfl (aj (sP hs (m:=(m.1,m.2.1,m.2.2.1,m.2.2.2.1,false,())) D) (aD (bne_iff_ne.2 w) (aa (aa (aa (aa ?_))))));unfold HR;rw[h3,if_pos w];rfl
  .obtain⟨K,rfl,F,f⟩:=a;rw[f_]at F f⊢;obtain⟨h1,h2⟩:=TI.put z h ml (show tM s x.1 p.2.1[i].2.1=((tM s x.1 p.2.1[i].2.1).1,(tM s x.1 p.2.1[i].2.1).2.1,0)from o_ rfl (o_ rfl F.e0)) ⟨rfl,F.ts,F.rl,F.rw⟩;rw[h1];refine aH (aa (ar (decide_eq_true ?_) (aa ⟨K,?_,h2,f.k,by have:=f.l;omega⟩)));.grind
   .rw[ao z,C]
 .obtain⟨K,rfl,h,f⟩:=a;rw[f_]at h⊢;unfold HR;rw[if_neg (not_not_intro h.e0)];refine aH (aa (au (λhl=>aa ?_) λhl=>aa ?_));all_goals grind
set_option maxRecDepth 100000
def G4(a:eZ):Bool:=decide (4096<a.2.1.length\/4096<a.2.2.1.length\/¬∀l∈a.2.2.1,l.2.1.length<=2000)
def zbW(a:eZ)(hl:a.2.2.1.length<=1000000000000):aA tbl 45 [.d O8 a] [] ap (!G4 a,()):=by
 refine bN ?_;unfold G4;refine ae (kL (xs:=a.2.2.1) (P:=λl=>l.2.1.length<=2000) (e:=(false,())) (g:=()) (λi b=>?_) ?_ (λh=>?_) λh=>?_);.refine aO b (aB b (ev ?_ (by rw[ao b])));grind
 .exact aH (aa rfl)
 .refine ae (bc (λ_=>aa rfl) (aa ?_));congr 3;grind
 .refine aa ?_;grind
noncomputable def wX(l:List qT):List qT×Bool×Unit:=ac_ (Pv l)
def SK{l:List qT}{c:List qT×Bool×Unit}(h:Pv l c):wX l=c:=(Z_ (p:=Pv l) ⟨c,h⟩).uniq h
def AW(t:jd)(a:List Int)(n:Nat)(hn:n<=1000000)(hr:a.length=t.2.1.length)(ht:t.2.1.length<=64)(g:∀k∈a,0<=k/\k<(n:Int)):((wX (iE t.2.1 a)).2.1=true->ZO (wX (iE t.2.1 a)).1/\(wX (iE t.2.1 a)).1.length<=64/\∀x∈(wX (iE t.2.1 a)).1,0<=x.1/\x.1<(n:Int))/\aA tbl 42 [.d (.list Us) (iE t.2.1 a)] [] fE (wX (iE t.2.1 a)):=by
 obtain⟨c,h1,h2⟩:=H8 (iE t.2.1 a) (by unfold iE;grind);rw[SK h1];refine⟨λh=>?_,h2⟩;rcases h1 with⟨_,d,f⟩|⟨r,_⟩
 .have hl:(iE t.2.1 a).length<=64:=by unfold iE;grind
  refine⟨d,k_ (List.Nodup.length_le_of_subset (d.imp λh e=>by grind) λz l=>(f z).1 l) hl,λx b=>?_⟩;have:=(f x).1 b;unfold iE at this;obtain⟨j,p,rfl⟩:=e_.1 this;rw[List.getElem_zipWith];exact g _ (c_ _)
 grind
def r5{F i:Nat}{ts:List ee}{B B1:List cF}{L L1:List dM}{r y:Int}{RY:List Int}(h:LI i ts B L)(k:ts.length<=2000)(u:i<64)(b:Fit F (tA ts B L) r)(a:YS i ts B L B1 L1 y RY){l:List qT}(hs:ZO l)(j:l.length<=64)(d:∀x∈l,0<=x.1/\x.1<(ts.length:Int)){R:Int×(List cF×CW)}(g:Cg (ts.length+2) l y r (B1,[])=R): LI (i+1) ts R.2.1 L1/\CO R.2.1 L1 R.1/\L2 l y r (B1,[]) L1 R/\Ma l B1 L1 R.2.1 ((l.length:Int),y,r,()) R.1:=by
 obtain⟨E,rfl⟩:=a.eB;obtain⟨E',rfl⟩:=a.eL;have f:Ps (B++E) (L++E') ((vw F (tA ts B L) r).2.2.2.map (·.1)):=b.num.kj.app;have hn:=b.num.len;have h1:=b.l2;have h2:=b.l3;have p:=h.cB;have s:=a.cB;have hp:=V_ (show l.length+1<=65 by omega) (V_ a.len (show((vw F (tA ts B L) r).2.2.2.map (·.1)).length<=8192 by omega));obtain⟨c,e⟩:=VP (by omega) (by omega) (by omega) a.tab a.kj f (zco hs) d (ts.length+2) l y r (-1) (B++E,[]) ⟨[],rfl⟩ a.mem b.num.mem ⟨W3 a.tab (a.kj _ a.mem).1,W3 a.tab (f _ b.num.mem).1,λx n=>by have:=(d x (List.mem_of_mem_drop (List.mem_of_mem_head? n))).1;omega⟩ (by simp) (by omega) (by simp) (CI.nil a.tab);rw[g]at c e;refine⟨⟨c.inv.tab,?_,?_,a.lv,a.le⟩,c.nd,e,c.sem⟩;.have:=c.inv.cB;have:=c.inv.len;omega
 .have:=a.cL;have:=h.cL;omega
def LI.gok{i:Nat}{ts:List ee}{B:List cF}{L:List dM}(h:LI i ts B L)(E:i<=64):ZL (tA ts B L):=⟨h.tab.low,by have:=h.cB;grind,by have:=h.cL;grind,λl hl=>by have:=(h.lv l hl).2;omega⟩
theorem LI.mono{i:Nat}{ts:List ee}{B:List cF}{L:List dM}(h:LI i ts B L):LI (i+1) ts B L:=⟨h.tab,k_ h.cB (F_ _ (ab_ i)),k_ h.cL (P_ (F_ _ (ab_ i))),λl hl=>⟨(h.lv l hl).1,by have:=(h.lv l hl).2;omega⟩,h.le⟩
def zdX{F:Nat}{g:eZ}{r:Int}(h:Bu F g r)(a:Dl (kA F g r))(ht:∀t∈g.1,okD LG t)(hl:∀l∈g.2.2.1,okD H5 l):okD O8 (kA F g r):=by
 have l1:=a.l1;have l2:=a.l2;have l3:=a.l3;have f:∀x:Int,-4096<=x->x<=4096->okD tI x:=λx h1 h2=>by show -9223372036854775808<=x/\x<=9223372036854775807;omega
 have nd:∀{n:Int},cu (kA F g r) n=true->okD tI n:=λhn=>by have:=cS.1 hn;grind
 refine⟨⟨by show _<=9223372036854775807;omega,ht⟩,⟨by show _<=9223372036854775807;omega,λb e=>?_⟩,⟨by show _<=9223372036854775807;omega,λl j=>hl l (h.lvs j)⟩,nd a.rt,trivial⟩;obtain⟨⟨k,p⟩,⟨c,d⟩,_⟩:=JR (a.br b e);exact⟨f _ (by omega) (by omega),nd c,nd d,trivial⟩
def sJ(T:List ee)(x:List cF×List dM×Int)(t:jd):List cF×List dM×Int:=
 if t.2.2.2.1=1 then(x.1,(dY x.2.1 (true,t.2.2.1,())).2,(dY x.2.1 (true,t.2.2.1,())).1)
 else if t.2.2.2.1=2 then(x.1,(dY x.2.1 (false,[],())).2,(dY x.2.1 (false,[],())).1)
 else((kS (tA T x.1 x.2.1) t.2.2.1 ((x.2.2+1).toNat+1) x.2.2 (x.1,x.2.1,[])).2.1,(kS (tA T x.1 x.2.1) t.2.2.1 ((x.2.2+1).toNat+1) x.2.2 (x.1,x.2.1,[])).2.2.1,(kS (tA T x.1 x.2.1) t.2.2.1 ((x.2.2+1).toNat+1) x.2.2 (x.1,x.2.1,[])).1)
noncomputable def mq(T:List ee)(x:List cF×List dM×Int)(z:jd×List Int):List cF×List dM×Int:=
 if(wX (iE z.1.2.1 z.2)).2.1=true then((Cg (T.length+2) (wX (iE z.1.2.1 z.2)).1 (sJ T x z.1).2.2 x.2.2 ((sJ T x z.1).1,[])).2.1,(sJ T x z.1).2.1,(Cg (T.length+2) (wX (iE z.1.2.1 z.2)).1 (sJ T x z.1).2.2 x.2.2 ((sJ T x z.1).1,[])).1)else x
noncomputable def Gw(F:Nat)(T:List ee)(x:(List cF×List dM×Int)×Int)(z:jd×List Int):(List cF×List dM×Int)×Int:=
 if x.2≠0 then x else(mq T x.1 z,if G4 (kA F (tA T (mq T x.1 z).1 (mq T x.1 z).2.1) (mq T x.1 z).2.2)=true then 8 else 0)
def Lp(F:Nat)(T:List ee)(x:(List cF×List dM×Int)×Int)(z:jd×List Int)(h:x.2≠0):Gw F T x z=x:=if_pos h
structure Zh(F i:Nat)(T:List ee)(x:List cF×List dM×Int):Prop where
 li:LI i T x.1 x.2.1
 ft:Fit F (tA T x.1 x.2.1) x.2.2
structure ZOk(s:PS)(T:List ee)(z:jd×List Int):Prop where
 t:Mc s z.1
 o:okD yT z.1
 r:z.2.length=z.1.2.1.length
 k:∀k∈z.2,0<=k/\k<(T.length:Int)
def Rp{F i:Nat}{T:List ee}{x:List cF×List dM×Int}(h:Zh F i T x)(c:i<=63){s:PS}{z:jd×List Int}(b:ZOk s T z):∃R,YS i T x.1 x.2.1 (sJ T x z.1).1 (sJ T x z.1).2.1 (sJ T x z.1).2.2 R:=by
 have a:=b.o.2.2.1;unfold sJ;split;.exact⟨_,h.li.leaf ⟨trivial,a,trivial⟩ b.t.al (C9 (λe=>by grind) b.t.ac)⟩
 split;.exact⟨_,h.li.leaf ⟨trivial,f7,trivial⟩ (by simp) (C9 (λ_=>rfl) (by simp))⟩
 .exact⟨_,h.li.pre (by omega) h.ft a.2 b.t.al b.t.ac (p_ _)⟩
def YZ{F i:Nat}{T:List ee}(b:T.length<=2000){x:List cF×List dM×Int}(h:Zh F i T x)(c:i<=63){s:PS}{z:jd×List Int}(a:ZOk s T z): LI (i+1) T (mq T x z).1 (mq T x z).2.1/\CO (mq T x z).1 (mq T x z).2.1 (mq T x z).2.2:=by
 unfold mq;split;.rename_i d;obtain⟨f,g,j⟩:=(AW z.1 z.2 T.length (by omega) a.r a.t.ml a.k).1 d;obtain⟨R,e⟩:=Rp h c a;obtain⟨k,l,_⟩:=r5 h.li b (by omega) h.ft e f g j rfl;grind
 .exact⟨h.li.mono,cS.1 (h.ft.num.v.inv.kd _ _ h.ft.num.v.mem)⟩
def Tq{F i:Nat}(b:1000000000000<=F)(c:i<=63){T:List ee}{x:List cF×List dM×Int}(h1:LI (i+1) T x.1 x.2.1)(h2:CO x.1 x.2.1 x.2.2):Bu F (tA T x.1 x.2.1) x.2.2/\x.1.length<F:=by
 have a:x.1.length<F:=by have:=h1.cB;omega
 exact⟨XF h1.tab (cS.2 h2) a,a⟩
def Re{F i:Nat}(f:1000000000000<=F){T:List ee}(g:T.length<=2000){x:(List cF×List dM×Int)×Int}(d:x.2=0)(h:Zh F i T x.1)(b:i<=63){s:PS}{z:jd×List Int}(j:ZOk s T z)(a:(Gw F T x z).2=0):Zh F (i+1) T (Gw F T x z).1:=by
 obtain⟨c,k⟩:=YZ g h b j;obtain⟨num,_⟩:=Tq f b c k;unfold Gw at a⊢;rw[if_neg (not_not_intro d)]at a⊢;refine⟨c,num,?_,?_⟩;all_goals
  by_cases e:G4 (kA F (tA T (mq T x.1 z).1 (mq T x.1 z).2.1) (mq T x.1 z).2.2)=true;.grind
  .unfold G4 at e;grind
def Nr(p:sr):List cF×List dM×Int:=([],[(p.2.2.1==1,[],())],-1)
def Qo{F:Nat}(d:1000000000000<=F)(T:List ee)(p:sr):Zh F 0 T (Nr p):=by have b:LI 0 T [] [((p.2.2.1==1,[],()):dM)]:=⟨⟨U_,by simp,by simp⟩,by simp,by simp,λl hl=>by rw[g_.1 hl];exact⟨⟨trivial,f7,trivial⟩,by simp⟩,λl hl=>by rw[g_.1 hl];exact C9 (λ_=>rfl) (by simp)⟩;have c:cu (tA T [] [((p.2.2.1==1,[],()):dM)]) (-1)=true:=cS.2 ⟨by simp,by simp⟩;have a:Bu F (tA T [] [((p.2.2.1==1,[],()):dM)]) (-1):=XF b.tab c (by grind);exact⟨b,a,k_ a.lens.1 (by simp),k_ a.lens.2 (by simp)⟩
set_option maxRecDepth 100000
def zcf{s:PS}(hs:nw s){n:Nat}{T:List ee}(d:Pw n T)(a:List oJ)(f:∀m∈a,iw s m=0/\okD yM m):∀i,i<=a.length->(tM s T (a.take i)).2.2=0->MI n i (tM s T (a.take i)):=by
 intro i;induction i with
 |zero=>exact λ_ _=>MI.nil d|succ i g=>
  intro c b;have e:tM s T (a.take (i+1))=Gg s (tM s T (a.take i)) a[i]:=lu c;rw[e]at b⊢;by_cases h1:(tM s T (a.take i)).2.2=0;.obtain⟨j,k⟩:=f _ (c_ c);rcases(g (by omega) h1).step hs j k with h|h;all_goals omega
  .rw[Dk s _ _ h1]at b;omega
def zcg{s:PS}(hs:nw s)(ts:List jd)(ht:∀t∈ts,Mc s t/\okD yT t):∀i,i<=ts.length->(xl s (ts.take i)).2.2=0->TI ts i (xl s (ts.take i)):=by
 intro i;induction i with
 |zero=>exact λ_ _=>TI.nil ts|succ i g=>
  intro c b;have e:xl s (ts.take (i+1))=To s (xl s (ts.take i)) ts[i]:=lu c;rw[e]at b⊢;by_cases h1:(xl s (ts.take i)).2.2=0
  .obtain⟨f,j⟩:=ht _ (c_ c);have h:=g (by omega) h1;by_cases h2:(tM s (xl s (ts.take i)).1 ts[i].2.1).2.2=0;.have a:=zcf hs h.ts ts[i].2.1 (λm d=>⟨f.ma m d,j.2.1.2 m d⟩) ts[i].2.1.length (r_ _);rw[f_]at a;have a:=a h2;obtain⟨k,l⟩:=TI.put c h f.ml (show tM s (xl s (ts.take i)).1 ts[i].2.1=((tM s (xl s (ts.take i)).1 ts[i].2.1).1,(tM s (xl s (ts.take i)).1 ts[i].2.1).2.1,0)from o_ rfl (o_ rfl h2)) ⟨rfl,a.ts,a.rl,a.rw⟩;grind
   .rw[Si h.e0 rfl h2]at b;grind
  .rw[Lq s _ _ h1]at b;omega
abbrev zA:eZ:=([],[],[],0,())
def Lw(ts:List jd)(rows:List (List Int)):List (jd×List Int):=(ts.zip rows).reverse
noncomputable def TS(F:Nat)(s:PS)(p:sr):(List cF×List dM×Int)×Int:=(Lw p.2.1 (xl s p.2.1).2.1).foldl (Gw F (xl s p.2.1).1) (Nr p,0)
abbrev fin(F:Nat)(T:List ee)(x:List cF×List dM×Int):eZ:=kA F (tA T x.1 x.2.1) x.2.2
noncomputable def PQ(F:Nat)(s:PS)(nm:List UInt8):eZ×Int×Unit:=
 if j5 dH s≠0 then(zA,j5 dH s,())else match mS s nm with
 |none=>(zA,6,())
 |some p=>if(HR s p.2.1).2.2.1≠0 then(zA,(HR s p.2.1).2.2.1,())else if(TS F s p).2≠0 then(zA,8,())else(fin F (xl s p.2.1).1 (TS F s p).1,0,())
structure zb0(s:PS)(ts:List jd)(T:List ee)(rows:List (List Int)):Prop where
 e0:(xl s ts)=(T,rows,0)
 l:rows.length=ts.length
 t:T.length<=2000
 o:∀t∈T,ue t=0/\okD LG t
 z:∀j (h1:j<ts.length) (h2:j<rows.length),ZOk s T (ts[j],rows[j])
def zbS{s:PS}(hs:nw s){p:sr}(hp:Ib s p)(a:okD yO p)(c:(HR s p.2.1).2.2.1=0):∃T rows,zb0 s p.2.1 T rows/\HR s p.2.1=(T,Ff p.2.1 rows,0,()):=by
 have d:=zcg hs p.2.1 (λt ht=>⟨hp.tr t ht,a.2.1.2 t ht⟩) p.2.1.length (r_ _);rw[f_]at d;unfold HR at c⊢;by_cases h1:(xl s p.2.1).2.2≠0;.grind
 rw[if_neg h1]at c⊢;by_cases h2:2000<(xl s p.2.1).1.length;.grind
 rw[if_neg h2];have h:=d (a_ h1);refine⟨_,_,⟨o_ rfl (o_ rfl h.e0),h.rl,Nat.le_of_not_lt h2,h.ts.ok,λj b e=>⟨hp.tr _ (c_ b),a.2.1.2 _ (c_ b),h.rn j e b,h.rw _ (c_ e)⟩⟩,rfl⟩
def zx{ts:List jd}{rows:List (List Int)}(h:rows.length=ts.length):(Lw ts rows).length=ts.length:=by unfold Lw;grind
def Lx{ts:List jd}{rows:List (List Int)}(h:rows.length=ts.length){i:Nat}(a:i<ts.length):(Lw ts rows)[i]'(by rw[zx h];exact a)=(ts[ts.length - 1 - i],rows[ts.length - 1 - i]):=by unfold Lw;grind
def zI{F:Nat}(N:1000000000000<=F){s:PS}(hs:Bw s)(nm:List UInt8):aA tbl 14 [.d yS s,.d tS nm] [] dw (PQ F s nm):=by
 refine bN ?_;refine aj (iy s hs) ?_;unfold PQ;by_cases n:j5 dH s≠0;.rw[if_pos n];exact aD (bne_iff_ne.2 n) (aa rfl)
 rw[if_neg n];have n:=a_ n;have hk:=yZ n;have hd:=R3 n;have O:nw s:=⟨hk,hs,hd.1,hd.2⟩;refine ak (by grind) (aj (vD s nm hk) ?_);cases ef:mS s nm with|none=>exact aD rfl (aa rfl)|some p=>
 have H:=l5 ef;have hp:=hk.r4 p H;have u:=hs.ok.2.2.2.1.2 p H;have wr:=hp.tl;simp only;by_cases hg:(HR s p.2.1).2.2.1≠0;.rw[if_pos hg];exact ak rfl (aj (LP O hp u) (aD (bne_iff_ne.2 hg) (aa rfl)))
 rw[if_neg hg];have hg:=a_ hg;obtain⟨T,rows,J,hG⟩:=zbS O hp u hg;have cg:=LP O hp u;rw[hG]at cg;have hl:=J.l;have At:=zx hl;have P:=J.t;have Y:TS F s p=(Lw p.2.1 rows).foldl (Gw F T) (Nr p,0):=by unfold TS;rw[J.e0]
 rw[Y,J.e0];have i0:=Qo N T p;have c0:=mN [] [] ((p.2.2.1==1,[],()):dM) (by simp) (by simp);refine ak rfl (aj cg (ak rfl (aj Pn (aj c0 (aj (Du (g:=tA T [] [((p.2.2.1==1,[],()):dM)]) (i0.li.gok (by simp)) (-1) (cS.2 ⟨by simp,by simp⟩) (F:=F) (by grind) (kB [])) (ae ?_))))));refine Ev.wp_loop (λst=>∃(i:Nat) (x:List cF×List dM×Int),st=(x.2.2,(p.2.1.length:Int) - 1 - (i:Int),0,p.1,p.2.1,p.2.2.1,x.1,kB x.1,x.2.1,[],(vw F (tA T x.1 x.2.1) x.2.2).2.1,(vw F (tA T x.1 x.2.1) x.2.2).2.2.1,(vw F (tA T x.1 x.2.1) x.2.2).1,())/\i<=p.2.1.length/\((Lw p.2.1 rows).take i).foldl (Gw F T) (Nr p,0)=(x,0)/\Zh F i T x) (λst=>(st.2.1+1).toNat) ⟨0,Nr p,?_,G_ _,rfl,i0⟩ ?_;.rw[wrap_i64 (by omega) (by grind)];simp only[Int.natCast_zero,Int.sub_zero];rfl
 rintro st ⟨i,x,rfl,hi,I,h⟩;by_cases E:i<p.2.1.length
 .have hj:p.2.1.length - 1 - i<p.2.1.length:=by omega
  have D:p.2.1.length - 1 - i<rows.length:=by omega
  have d:=J.z _ hj D;have gc:=Lx hl E;have U:(Ff p.2.1 rows)[((p.2.1.length:Int) - 1 - (i:Int)).toNat]? =some (iE p.2.1[p.2.1.length - 1 - i].2.1 rows[p.2.1.length - 1 - i]):=by rw[show((p.2.1.length:Int) - 1 - (i:Int)).toNat=p.2.1.length - 1 - i by simp];unfold Ff;rw[List.getElem?_zipWith,b_ hj,b_ D]
  have hP:p.2.1[((p.2.1.length:Int) - 1 - (i:Int)).toNat]? =some p.2.1[p.2.1.length - 1 - i]:=by simp
  have f:((Lw p.2.1 rows).take (i+1)).foldl (Gw F T) (Nr p,0)=Gw F T (x,0) (p.2.1[p.2.1.length - 1 - i],rows[p.2.1.length - 1 - i]):=by rw[lu (by omega),I,gc]
  have a:=Az (e:=λx=>x.2) (Lp F T) (Lw p.2.1 rows) (i+1) (Nr p,0);rw[f]at a;obtain⟨o1,o2⟩:=AW p.2.1[p.2.1.length - 1 - i] rows[p.2.1.length - 1 - i] T.length (by omega) d.r d.t.ml d.k;generalize p.2.1[p.2.1.length - 1 - i]=t at d U hP f a o1 o2;generalize rows[p.2.1.length - 1 - i]=b at d U f a o1 o2;have r:(0:Int)<=(p.2.1.length:Int) - 1 - (i:Int):=by omega
  obtain⟨M,q2⟩:=YZ P h (by omega) d;obtain⟨num,z⟩:=Tq N (by omega) M q2;have C:∀c∈x.2.1,okD H5 c:=λc I=>(h.li.lv c I).1;have B:x.2.1.length<=1000000000000:=by have:=h.li.cL;omega
  refine aD (decide_eq_true r) (bX r U (aj o2 (ae (Wp.imp (Q:=λv=>v=((mq T x (t,b)).2.2,(0:Int),p.1,p.2.1,p.2.2.1,(mq T x (t,b)).1,kB (mq T x (t,b)).1,(mq T x (t,b)).2.1,([]:List ee),(vw F (tA T x.1 x.2.1) x.2.2).2.1,(vw F (tA T x.1 x.2.1) x.2.2).2.2.1,(vw F (tA T x.1 x.2.1) x.2.2).1,())) ?_ λv l=>?_))))
  .unfold mq;refine au (λL=>?_) λL=>aa ?_
   .obtain⟨s1,s2,s3⟩:=o1 L;obtain⟨R,hy⟩:=Rp h (by omega) d;have cc:=(r5 h.li P (by omega) h.ft hy s1 s2 s3 rfl).2.2.1;rw[if_pos (show(wX (iE (t,b).1.2.1 (t,b).2)).2.1=true from L)];refine bX r hP (ae (Wp.imp (Q:=λv=>v=((sJ T x t).2.2,(0:Int),p.1,p.2.1,p.2.2.1,(sJ T x t).1,kB (sJ T x t).1,(sJ T x t).2.1,([]:List ee),(vw F (tA T x.1 x.2.1) x.2.2).2.1,(vw F (tA T x.1 x.2.1) x.2.2).2.2.1,(vw F (tA T x.1 x.2.1) x.2.2).1,())) ?_ λv l=>?_))
    .have el:=d.o.2.2.1;unfold sJ;refine au (λl=>?_) λl=>au (λw=>?_) λw=>?_;.rw[if_pos (by simpa using l)];exact aj (mN x.1 x.2.1 (true,t.2.2.1,()) C B) (aa rfl)
     .rw[if_neg (by simpa using l),if_pos (by simpa using w)];exact aj (mN x.1 x.2.1 (false,[],()) C B) (aa rfl)
     .rw[if_neg (by simpa using l),if_neg (by simpa using w)];have hn:=h.ft.num.len;have h2:=h.ft.l2;have h3:=h.ft.l3;have ph:t.2.2.1.length<=64:=d.t.al;exact aj (Pp (g:=tA T x.1 x.2.1) (A:=t.2.2.1) (k:=64*i) h.ft.num.kj h.li.tab (by omega) (by have:=h.li.cB;grind) (by have:=h.li.cL;grind) el.2 h.li.lv (by omega) ((x.2.2+1).toNat+1) x.2.2 (x.1,x.2.1,[]) h.ft.num.mem (p_ _) (PI.nil t.2.2.1 _ h.li.tab)) (aa rfl)
    .subst l;exact aj cc (aa rfl)
   .rw[if_neg (show ¬(wX (iE (t,b).1.2.1 (t,b).2)).2.1=true by simpa using L)]
  .subst l;have hB:Gw F T (x,0) (t,b)=(mq T x (t,b),if G4 (fin F T (mq T x (t,b)))=true then 8 else 0):=if_neg (by simp);have j:=Re (x:=(x,0)) N P rfl h (by omega) d;rw[hB]at f a j;generalize mq T x (t,b)=c at M q2 num z f a j;have ur:=num.lens.2;have qr:=M.cL;have kf:=zbW ([],(vw F (tA T c.1 c.2.1) c.2.2).2.1,(vw F (tA T c.1 c.2.1) c.2.2).2.2.1,(vw F (tA T c.1 c.2.1) c.2.2).1,()) (by show(kA F (tA T c.1 c.2.1) c.2.2).2.2.1.length<=1000000000000;grind);refine aj (Du (g:=tA T c.1 c.2.1) (M.gok (by omega)) c.2.2 (cS.2 q2) z (kB c.1)) (aj kf ?_);by_cases y:G4 (fin F T c)=true;.rw[if_pos y]at a;refine aD (show(!!G4 (fin F T c))=true by rw[y];rfl) (aa (aa ?_));rw[a (show(8:Int)≠0 by simp)];rfl
   .have y:G4 (fin F T c)=false:=by simpa using y
    rw[y]at f j;refine ak (show(!!G4 (fin F T c))=false by rw[y];rfl) (aa ?_);rw[wrap_i64 (by grind) (by grind)];refine⟨⟨i+1,c,?_,E,f,j rfl⟩,by simp only;omega⟩;rw[show(p.2.1.length:Int) - 1 - ((i+1:Nat):Int)=(p.2.1.length:Int) - 1 - (i:Int) - 1 by omega];rfl
 .refine ak (decide_eq_false (by grind)) (aa (aa ?_));rw[y_ (by omega)]at I;rw[I];rfl
set_option maxRecDepth 100000
def Jx(a b:List Int)(hl:a.length<=9223372036854775807):aA tbl 74 [.d (.list tW) a,.d (.list tW) b] [] ap (decide (a=b),()):=by
 refine bN ?_;refine au (λh=>aa ?_) λh=>?_;.rw[decide_eq_false];rintro rfl;simp at h
 have d:a.length=b.length:=by simp at h;omega
 refine ae (r8 (N:=a.length) (good:=λi=>a[i]? =b[i]?) (e:=(false,())) (g:=()) (λi c=>?_) ?_ (λh=>?_) λh=>?_);.refine aO c (aB c (aB (by omega) (ev ?_ (by rw[ao c hl]))));rw[b_ c,b_ (by omega)];simp
 .exact aH (aa rfl)
 .refine aa ?_;rw[decide_eq_true (K_ λi=>?_)];by_cases c:i<a.length;.exact h i c
  .rw[m_ (by omega),m_ (by omega)]
 .refine aa ?_;rw[decide_eq_false];rintro rfl;obtain⟨i,_,h⟩:=h;exact h rfl
def xv(a b:ix)(h1:a.2.2.2.1.length<=9223372036854775807)(h2:a.2.2.2.2.1.length<=9223372036854775807):aA tbl 26 [.d xn a,.d xn b] [] ap (OC a b,()):=by
 refine bN ?_;refine ae (bf (λ_=>aa rfl) (ae (bf (λ_=>aa rfl) (ae (bf (λ_=>aa rfl) (ae (bf (λ_=>aa rfl) (ae (bf (λ_=>aa rfl) (ae (bf (λ_=>aa rfl) (ae (bf (λ_=>aa rfl) ?_)))))))))))));have key:OC a b=(!((((((((true ^^ hZ yP a.1 b.1)||(a.2.1 != b.2.1))||(a.2.2.1 != b.2.2.1))||(a.2.2.2.2.2.1 != b.2.2.2.2.2.1))||(a.2.2.2.2.2.2.1 != b.2.2.2.2.2.2.1))||(a.2.2.2.2.2.2.2.1 != b.2.2.2.2.2.2.2.1))||(a.2.2.2.2.2.2.2.2.1 != b.2.2.2.2.2.2.2.2.1))||((a.2.2.2.1.length:Int) != (b.2.2.2.1.length:Int)))&&(decide (a.2.2.2.1=b.2.2.2.1)&&decide (a.2.2.2.2.1=b.2.2.2.2.1))):=by
  have hl:decide (a.2.2.2.1=b.2.2.2.1)=(!((a.2.2.2.1.length:Int) != (b.2.2.2.1.length:Int))&&decide (a.2.2.2.1=b.2.2.2.1)):=by
   by_cases h:a.2.2.2.1=b.2.2.2.1;.rw[h];simp
   .simp[h]
  unfold OC;rw[hl];simp only[bne,Bool.not_or,Bool.not_not,Bool.and_assoc,Bool.false_xor,Bool.true_xor,Bool.and_self_left]
 generalize(((((((true ^^ hZ yP a.1 b.1)||(a.2.1 != b.2.1))||(a.2.2.1 != b.2.2.1))||(a.2.2.2.2.2.1 != b.2.2.2.2.2.1))||(a.2.2.2.2.2.2.1 != b.2.2.2.2.2.2.1))||(a.2.2.2.2.2.2.2.1 != b.2.2.2.2.2.2.2.1))||(a.2.2.2.2.2.2.2.2.1 != b.2.2.2.2.2.2.2.2.1))=B at key⊢;rw[key];refine au (λh=>aa ?_) λh=>?_;.rw[h];rfl
 rw[h,Bool.not_false,v_];have d:a.2.2.2.1.length=b.2.2.2.1.length:=by simp at h;omega
 refine ae (r8 (N:=a.2.2.2.1.length) (good:=λi=>a.2.2.2.1[i]? =b.2.2.2.1[i]?) (e:=(false,())) (g:=()) (λi c=>?_) ?_ (λh=>?_) λh=>?_);.refine aO c (aB c (aB (by omega) (ev ?_ (by rw[ao c h1]))));rw[b_ c,b_ (by omega)];simp
 .exact aH (aa rfl)
 .refine aj (Jx a.2.2.2.2.1 b.2.2.2.2.1 h2) (aa ?_);rw[decide_eq_true (p:=a.2.2.2.1=b.2.2.2.1) (K_ λi=>?_),v_];by_cases c:i<a.2.2.2.1.length;.exact h i c
  .rw[m_ (by omega),m_ (by omega)]
 .refine aa ?_;rw[decide_eq_false (p:=a.2.2.2.1=b.2.2.2.1)];.rfl
  .intro e;obtain⟨i,_,h⟩:=h;rw[e]at h;exact h rfl
open Go Go.Av Go.Ev
def A0:aA tbl 35 [] [] gW ((([([111,119,110],([(true,((167772160,(8,())),(8,(24,()))))],()))],([],([([98,108,117,101],([(true,(65000,((-1),())))],()))],([([105,109,112,111,114,116],([([102,105,114,115,116],([(1,([111,119,110],(0,((0,(0,())),(true,())))))],([(1,(200,(0,(0,(0,())))))],(1,()))))],(2,())))],()))))),()):=jv (m:=90) λk=>by kernel_rfl
def A1:aA tbl 14 [.d Ul (([([111,119,110],([(true,((167772160,(8,())),(8,(24,()))))],()))],([],([([98,108,117,101],([(true,(65000,((-1),())))],()))],([([105,109,112,111,114,116],([([102,105,114,115,116],([(1,([111,119,110],(0,((0,(0,())),(true,())))))],([(1,(200,(0,(0,(0,())))))],(1,()))))],(2,())))],()))))),.d tS ([105,109,112,111,114,116])] [] dw ((([(1,(0,((0,(0,())),([(true,((167772160,(8,())),(8,(24,()))))],(([],([],([],(0,())))),([],()))))))],([(0,((-1),((-2),())))],([(false,([],())),(true,([(1,(200,(0,(0,(0,())))))],()))],(0,()))))),(0),()):=jv (m:=90) λk=>by kernel_rfl
def A2:aA tbl 14 [.d Ul (([([111,119,110],([(true,((167772160,(8,())),(8,(24,()))))],()))],([],([([98,108,117,101],([(true,(65000,((-1),())))],()))],([([105,109,112,111,114,116],([([102,105,114,115,116],([(1,([111,119,110],(0,((0,(0,())),(true,())))))],([(1,(200,(0,(0,(0,())))))],(1,()))))],(2,())))],()))))),.d tS ([110,111,110,101])] [] dw ((([],([],([],(0,()))))),(6),()):=jv (m:=90) λk=>by kernel_rfl
def A3:aA tbl 14 [.d Ul (([],([],([],([([112],([([116],([],([],(1,()))))],(2,())))],()))))),.d tS ([112])] [] dw ((([],([],([(true,([],()))],((-1),()))))),(0),()):=jv (m:=90) λk=>by kernel_rfl
def A4:aA tbl 24 [.d Uj (([(1,(0,((0,(0,())),([(true,((167772160,(8,())),(8,(24,()))))],(([],([],([],(0,())))),([],()))))))],([(0,((-1),((-2),())))],([(false,([],())),(true,([(1,(200,(0,(0,(0,())))))],()))],(0,()))))),.d Ui (((2886729728,(12,())),(6,(0,([],([],(0,(0,(0,(0,()))))))))))] [] kE (((true,(((2886729728,(12,())),(6,(0,([],([],(200,(0,(0,(0,()))))))))),()))),(1),(0),()):=jv (m:=90) λk=>by kernel_rfl
def A5:aA tbl 29 [.d Uj (([(1,(0,((0,(0,())),([(true,((167772160,(8,())),(8,(24,()))))],(([],([],([],(0,())))),([],()))))))],([(0,((-1),((-2),())))],([(false,([],())),(true,([(1,(200,(0,(0,(0,())))))],()))],(0,()))))),.d (.list tB) ([true])] [] dv (((false,([],()))),(0),()):=jv (m:=90) λk=>by kernel_rfl
def A6:aA tbl 27 [.d Uj (([(1,(0,((0,(0,())),([(true,((167772160,(8,())),(8,(24,()))))],(([],([],([],(0,())))),([],()))))))],([(0,((-1),((-2),())))],([(false,([],())),(true,([(1,(200,(0,(0,(0,())))))],()))],(0,())))))] [] dw ((([(1,(0,((0,(0,())),([(true,((167772160,(8,())),(8,(24,()))))],(([],([],([],(0,())))),([],()))))))],([(0,((-1),((-2),())))],([(false,([],())),(true,([(1,(200,(0,(0,(0,())))))],()))],(0,()))))),(0),()):=jv (m:=90) λk=>by kernel_rfl
def A7:aA tbl 31 [.d Uj (([(1,(0,((0,(0,())),([(true,((167772160,(8,())),(8,(24,()))))],(([],([],([],(0,())))),([],()))))))],([(0,((-1),((-2),())))],([(false,([],())),(true,([(1,(200,(0,(0,(0,())))))],()))],(0,()))))),.d Uj (([(1,(0,((0,(0,())),([(true,((167772160,(8,())),(8,(24,()))))],(([],([],([],(0,())))),([],()))))))],([(0,((-1),((-2),())))],([(false,([],())),(true,([(1,(200,(0,(0,(0,())))))],()))],(0,())))))] [] ap ((true),()):=jv (m:=90) λk=>by kernel_rfl
def A8:aA tbl 18 [.d Uj (([(1,(0,((0,(0,())),([(true,((167772160,(8,())),(8,(24,()))))],(([],([],([],(0,())))),([],()))))))],([(0,((-1),((-2),())))],([(false,([],())),(true,([(1,(200,(0,(0,(0,())))))],()))],(0,())))))] [] aw ((0),()):=jv (m:=90) λk=>by kernel_rfl
def A9:aA tbl 22 [.d Ua ((1,(0,((0,(0,())),([(true,((167772160,(8,())),(8,(24,()))))],(([],([],([],(0,())))),([],()))))))),.d Ui (((2886729728,(12,())),(6,(0,([],([],(0,(0,(0,(0,()))))))))))] [] ap ((false),()):=jv (m:=90) λk=>by kernel_rfl
def A10:aA tbl 18 [.d Uj (([],([],([],(0,())))))] [] aw ((5),()):=jv (m:=90) λk=>by kernel_rfl
def Jp:aA tbl 13 [] [] ap (true,()):=by
 refine bN ?_;repeat first
  |refine aj A0 ?_
  |refine aj A1 ?_
  |refine aj A2 ?_
  |refine aj A3 ?_
  |refine aj A4 ?_
  |refine aj A5 ?_
  |refine aj A6 ?_
  |refine aj A7 ?_
  |refine aj A8 ?_
  |refine aj A9 ?_
  |refine aj A10 ?_
  |refine aD rfl ?_
  |refine ak rfl ?_
  |refine aa ?_
  |refine bX (by decide) rfl ?_
  |refine ae ?_
 rfl
set_option maxRecDepth 100000
def zTS:ee:=(0,0,(0,0,()),[],Rr,[],())
noncomputable def FY(a:eZ)(r:ix)(i:Int):Bool:=Qm ((a.1[i.toNat]?).getD zTS) r
noncomputable def MU(a:eZ)(r:ix)(m:Int)(K:Nat):(Bool×ix×Unit)×Int×Int×Unit:=
 if DK a≠0 then((false,CV,()),0,DK a,())else if mE r≠0 then((false,CV,()),0,mE r,())else if(eU a m).1=false then((false,CV,()),(K:Int),0,())else((true,u4 (eU a m).2.1 r,()),(K:Int),0,())
section
variable {a:eZ} {r:ix} {m:Int} {K:Nat}
theorem Yx{i:Nat}(b:i<a.1.length):FY a r i=Qm a.1[i] r:=by unfold FY;rw[d_,b_ b];rfl
theorem sO(c:okD O8 a)(hr:okD xn r){i:Nat}(b:i<a.1.length):aA tbl 70 [.d tI (i:Int),.dp O8 a,.dp xn r] [] ap (FY a r i,()):=by refine bN ?_;rw[Yx b];exact aB b (aj (B6 _ r (c.1.2 _ (c_ b)) hr) (aa rfl))
theorem uV(d:okD O8 a)(hr:okD xn r)(h:xx a (FY a r) m K):aA tbl 69 [.d O8 a,.HQ zL [⟨O8,a⟩,⟨xn,r⟩]] [] dv (eU a m,(K:Int),()):=by
 refine bN ?_;refine ae (zc8 (enc:=λn j=>(n,((j:Nat):Int),false,())) (·.1) h (λ_ _=>rfl) (λn hn j i f e c=>?_) ?_)
 .refine aD (decide_eq_true (by omega)) (aB hn ?_);simp only[e];refine ae (aj (sO d hr f) (au (λb=>aa (aa ?_)) λb=>aa (aa ?_)));.rw[if_pos b,ao c (by have:=h.le;omega)]
  .rw[if_neg (Bool.eq_false_iff.1 b),ao c (by have:=h.le;omega)]
 .exact ak (decide_eq_false (by have:=h.neg;omega)) (aa (zbq h (aa rfl)))
theorem zaZ(b:okD O8 a)(h:xx a (FY a r) m K):okD H5 (eU a m):=b.2.2.1.2 _ (UF h)
theorem zc1(b:okD O8 a)(h:xx a (FY a r) m K)(c:V5 r)(i:Nat):Zo 5000000000 (u4 ((eU a m).2.1.take i) r):=(xz (λx d=>(zaZ b h).2.1.2 x (E_ d)) c).sm
theorem Dp(c:okD O8 a)(hr:okD xn r)(h:DK a=0->xx a (FY a r) m K)(e:V5 r):aA tbl 24 [.d O8 a,.d xn r] [] kE (MU a r m K):=by
 refine bN ?_;refine aj (B5 a c) (au (λh1=>aa ?_) λh1=>?_);.rw[show MU a r m K=((false,CV,()),0,DK a,())from if_pos (by simpa using h1)]
 have h1:DK a=0:=by simpa using h1
 have b:=show MU a r m K=_ from if_neg (not_not_intro h1);have h:=h h1;refine aj (vC r hr.1.1) (au (λh2=>aa ?_) λh2=>?_);.rw[b,if_pos (by simpa using h2)]
 rw[if_neg (by simpa using h2)]at b;refine aj (uV c hr h) (au (λd=>aa ?_) λd=>?_);.rw[b,if_pos (by simpa using d)]
 rw[if_neg (by simpa using d)]at b;rw[b];exact aj (Bq _ r (zaZ c h).2.1.1 (zaZ c h).2.1.2 (zc1 c h e)) (aa rfl)
theorem WU(b:okD O8 a)(h:DK a=0->xx a (FY a r) m K)(c:V5 r):(MU a r m K).1.2.1.2.2.2.1.length<=9223372036854775807/\(MU a r m K).1.2.1.2.2.2.2.1.length<=9223372036854775807:=by
 have z:(CV.2.2.2.1.length<=9223372036854775807)/\CV.2.2.2.2.1.length<=9223372036854775807:=⟨by decide,by decide⟩;unfold MU;split;.exact z
 rename_i h1;split;.exact z
 split;.exact z
 .have:=(xz (λx d=>(zaZ b (h (a_ h1))).2.1.2 x d) c).sm;exact⟨k_ this.pt (by decide),k_ this.cm (by decide)⟩
end
set_option maxRecDepth 100000
inductive F2{α β:Type}(P:α->β->Prop):List α->List β->Prop
 |nil:F2 P [] []
 |cons {a:α} {b:β} {l:List α} {m:List β}:P a b->F2 P l m->F2 P (a::l) (b::m)
theorem F2.get{E β:Type}{P:E->β->Prop}{l:List E}{m:List β}(h:F2 P l m):∀{i:Nat} (h1:i<l.length) (h2:i<m.length),P l[i] m[i]:=by induction h with|nil=>intro i h1;exact absurd h1 (R_ _)|cons h _ H=>intro i h1 h2;cases i with|zero=>exact h|succ i=>exact H (z_ h1) (z_ h2)
abbrev Bv(s:PS)(T:List ee)(b:List oJ)(a:List Int):Prop:=F2 (λm (k:Int)=>(d9 s m).2.1=0/\T[k.toNat]? =some (d9 s m).1) b a
def Bv.app{s:PS}{T E:List ee}:∀{I:List oJ} {H:List Int},Bv s T I H->Bv s (T++E) I H
 |_,_,.nil=>.nil
 |_,_,.cons h t=>.cons ⟨h.1,pp h.2⟩ (Bv.app t)
def ZV(T:List ee)(t:ee):(qW T t)[((oX T t:Nat):Int).toNat]? =some t:=by have h:=Qn (JK T t);have e:=List.findIdx_getElem (p:=λx=>decide (x=t)) (w:=h);rw[d_,<-KD,b_ h];exact congrArg some (of_decide_eq_true e)
def Nk(s:PS):∀(g:List oJ) (T:List ee) (b:List Int) (c:List ee) (d:List Int),g.foldl (Gg s) (T,b,0)=(c,d,0)->∃E a,c=T++E/\d=b++a/\Bv s c g a
 |[],T,b,c,d,h=>by cases h;exact⟨[],[],by simp,by simp,.nil⟩
 |m::l,T,b,c,d,h=>by
  rw[s_]at h;by_cases h2:(d9 s m).2.1≠0;.rw[show Gg s (T,b,0) m=(T,b,(d9 s m).2.1) by unfold Gg;grind,yi (e:=λx=>x.2.2) (Dk s) l _ h2]at h;exact absurd (congrArg (λx=>x.2.2) h) h2
  .rw[show Gg s (T,b,0) m=(qW T (d9 s m).1,b++[(oX T (d9 s m).1:Int)],0) by unfold Gg;grind]at h;obtain⟨E,a,f,k,n⟩:=Nk s l _ _ _ _ h;obtain⟨j,p⟩:=CZ T (d9 s m).1;refine⟨j++E,(oX T (d9 s m).1:Int)::a,by rw[f,p];simp,by rw[k];simp,.cons ⟨a_ h2,?_⟩ n⟩;rw[f];exact pp (ZV T _)
abbrev V4(s:PS)(T:List ee)(ts:List jd)(rows:List (List Int)):Prop:=F2 (λt a=>Bv s T t.2.1 a) ts rows
def Nl(s:PS):∀(ts:List jd) (T:List ee) (a:List (List Int)) (b:List ee) (c:List (List Int)),ts.foldl (To s) (T,a,0)=(b,c,0)->∃E rows,b=T++E/\c=a++rows/\V4 s b ts rows
 |[],T,a,b,c,h=>by cases h;exact⟨[],[],by simp,by simp,.nil⟩
 |t::l,T,a,b,c,h=>by
  rw[s_]at h;by_cases h2:(tM s T t.2.1).2.2≠0;.rw[show To s (T,a,0) t=([],[],(tM s T t.2.1).2.2) by unfold To;grind,yi (e:=λx=>x.2.2) (Lq s) l _ h2]at h;exact absurd (congrArg (λx=>x.2.2) h) h2
  .rw[show To s (T,a,0) t=((tM s T t.2.1).1,a++[(tM s T t.2.1).2.1],0) by unfold To;grind]at h;obtain⟨E,rows,f,j,k⟩:=Nl s l _ _ _ _ h;obtain⟨g,d,n,p,r⟩:=Nk s t.2.1 T [] (tM s T t.2.1).1 (tM s T t.2.1).2.1 (o_ rfl (o_ rfl (a_ h2)));refine⟨g++E,d::rows,by rw[f,n];simp,by rw[j,p];simp,.cons ?_ k⟩;rw[f];exact r.app
noncomputable abbrev rsT(T:List ee)(r:ix)(i:Int):Bool:=Qm ((T[i.toNat]?).getD zTS) r
def NG{s:PS}(hs:nw s){T:List ee}{r:ix}(e:fo r.2.2.2.1):∀{b:List oJ} {a:List Int},Bv s T b a->(∀m∈b,iw s m=0)->(iE b a).all (wQ (rsT T r))=b.all (ER s r)
 |_,_,.nil,_=>rfl
 |m::b,k::a,.cons h t,d=>by have f:=NG hs (r:=r) e t λm c=>d m (i_ _ c);show(wQ (rsT T r) (k,!m.2.2.2.2.1,())&&(iE b a).all (wQ (rsT T r)))=(ER s r m&&b.all (ER s r));rw[f];congr 1;unfold wQ rsT ER;rw[h.2];simp only[Option.getD_some];rw[zaz hs (d m (n_ ..)) e h.1];cases gr s m r<;>cases m.2.2.2.2.1<;>rfl
def JO{d:Type}{p:d->Bool}{a b:List d}(h:∀z,z∈a↔z∈b):a.all p=b.all p:=by rw[Bool.eq_iff_iff,w_,w_];exact⟨λk z c=>k z ((h z).2 c),λk z c=>k z ((h z).1 c)⟩
def zde{F i:Nat}{T:List ee}{x:List cF×List dM×Int}(h:Zh F i T x){t:jd}{res:Int->Bool}{l:dM}(hl:Lv x.1 x.2.1 res x.2.2 l):Lv (sJ T x t).1 (sJ T x t).2.1 res (sJ T x t).2.2 (Y5 t l):=by
 unfold sJ Y5;split;.exact KV ..
 split;.exact KV ..
 .have hc:=h.ft.num.kj;exact zcF (g:=tA T x.1 x.2.1) t.2.2.1 hc h.li.tab _ _ (x.1,x.2.1,[]) h.ft.num.mem (p_ _) (PI.nil _ _ h.li.tab) (λm k a=>by cases a) _ _ (AZ (g:=tA T x.1 x.2.1) t.2.2.1 hc h.li.tab _ _ (x.1,x.2.1,[]) h.ft.num.mem (p_ _) (PI.nil _ _ h.li.tab)).mem l hl
def zc2{F i:Nat}{T:List ee}(B:T.length<=2000){x:List cF×List dM×Int}(h:Zh F i T x)(H:i<=63){s:PS}{z:jd×List Int}(f:ZOk s T z){res:Int->Bool}{l:dM}(hl:Lv x.1 x.2.1 res x.2.2 l): Lv (mq T x z).1 (mq T x z).2.1 res (mq T x z).2.2 (if(iE z.1.2.1 z.2).all (wQ res)=true then Y5 z.1 l else l):=by
 obtain⟨c,j,_⟩:=H8 (iE z.1.2.1 z.2) (by have:=f.t.ml;unfold iE;grind);have e:=SK j;rw[<-e]at j;unfold mq;rcases j with⟨g,N,I⟩|⟨g,_,a,C,b,D,w,y⟩
 .rw[if_pos g];obtain⟨J,L,M⟩:=(AW z.1 z.2 T.length (by omega) f.r f.t.ml f.k).1 g;obtain⟨R,n⟩:=Rp h H f;have q:=(r5 h.li B (by omega) h.ft n J L M rfl).2.2.2;have u:=JO (p:=wQ res) I;have hd:(wX (iE z.1.2.1 z.2)).1.drop ((wX (iE z.1.2.1 z.2)).1.length - (((wX (iE z.1.2.1 z.2)).1.length:Int)).toNat)=(wX (iE z.1.2.1 z.2)).1:=by simp
  refine q res _ (λd=>?_) λd=>?_;.simp only[hd,u]at d;rw[if_pos d];exact zde h hl
  .simp only[hd,u]at d;rw[if_neg d];obtain⟨E,A⟩:=n.eB;obtain⟨E',k⟩:=n.eL;rw[A,k];exact hl.app
 .rw[if_neg (by rw[g];simp),if_neg];.exact hl
  .intro d;rw[w_]at d;have r:=d a C;have v:=d b D;simp only[wQ,beq_iff_eq]at r v;rw[w,v]at r;exact y r.symm
def Z3{F:Nat}(j:1000000000000<=F){s:PS}(hs:nw s){p:sr}(hp:Ib s p){T:List ee}{rows:List (List Int)}(a:zb0 s p.2.1 T rows)(hr:V4 s T p.2.1 rows){r:ix}(v:fo r.2.2.2.1):∀i,i<=p.2.1.length->(((Lw p.2.1 rows).take i).foldl (Gw F T) (Nr p,0)).2=0->Zh F i T (((Lw p.2.1 rows).take i).foldl (Gw F T) (Nr p,0)).1/\Lv (((Lw p.2.1 rows).take i).foldl (Gw F T) (Nr p,0)).1.1 (((Lw p.2.1 rows).take i).foldl (Gw F T) (Nr p,0)).1.2.1 (rsT T r) (((Lw p.2.1 rows).take i).foldl (Gw F T) (Nr p,0)).1.2.2 (vdF (mw s r) (p.2.1.drop (p.2.1.length - i)) (p.2.2.1==1,[],())):=by
 intro i;induction i with
 |zero=>refine λ_ _=>⟨Qo j T p,?_⟩;rw[Nat.sub_zero,List.drop_length];exact .leaf (show(-1:Int)<0 by decide) rfl|succ i w=>
  intro l g;have hl:=zx a.l;have u:=hp.tl;rw[lu (by omega),Lx a.l l]at g⊢;by_cases h1:(((Lw p.2.1 rows).take i).foldl (Gw F T) (Nr p,0)).2=0
  .obtain⟨h,k⟩:=w (by omega) h1;have b:p.2.1.length - 1 - i<p.2.1.length:=by omega
   have c:p.2.1.length - 1 - i<rows.length:=by rw[a.l];exact b
   have f:=a.z _ b c;refine⟨Re j a.t h1 h (by omega) f g,?_⟩;have st:=zc2 a.t h (by omega) f k;have d:Bv s T p.2.1[p.2.1.length - 1 - i].2.1 rows[p.2.1.length - 1 - i]:=F2.get hr b c;rw[NG hs v d λm n=>(hp.tr _ (c_ b)).ma m n]at st;have hd:p.2.1.drop (p.2.1.length - (i+1))=p.2.1[p.2.1.length - 1 - i]::p.2.1.drop (p.2.1.length - i):=by rw[show p.2.1.length - (i+1)=p.2.1.length - 1 - i by omega,List.drop_eq_getElem_cons b,show p.2.1.length - 1 - i+1=p.2.1.length - i by omega]
   rw[hd];generalize((Lw p.2.1 rows).take i).foldl (Gw F T) (Nr p,0)=X at h1 st⊢;have e:(Gw F T X (p.2.1[p.2.1.length - 1 - i],rows[p.2.1.length - 1 - i])).1=mq T X.1 (p.2.1[p.2.1.length - 1 - i],rows[p.2.1.length - 1 - i]):=by unfold Gw;rw[if_neg (not_not_intro h1)]
   rw[e];exact st
  .rw[Lp F T _ _ h1]at g;omega
def Z4{F:Nat}(c:1000000000000<=F){s:PS}{p:sr}(e:p.2.1.length<=64){T:List ee}{rows:List (List Int)}(a:zb0 s p.2.1 T rows):∀i,i<=p.2.1.length->(((Lw p.2.1 rows).take i).foldl (Gw F T) (Nr p,0)).2=0->Zh F i T (((Lw p.2.1 rows).take i).foldl (Gw F T) (Nr p,0)).1:=by
 intro i;induction i with
 |zero=>exact λ_ _=>Qo c T p|succ i f=>
  intro d b;have hl:=zx a.l;rw[lu (by omega),Lx a.l d]at b⊢;by_cases h1:(((Lw p.2.1 rows).take i).foldl (Gw F T) (Nr p,0)).2=0;.exact Re c a.t h1 (f (by omega) h1) (by omega) (a.z _ (by omega) (by grind)) b
  .rw[Lp F T _ _ h1]at b;omega
structure zdj(s:PS)(p:sr)(r:ix)(a:eZ):Prop where
 po:L8 dH s
 aut:Dl a
 ok:okD O8 a
 lv:fo r.2.2.2.1->Lv a.2.1 a.2.2.1 (FY a r) a.2.2.2.1 (UY (sM s p r))
def Wq{F:Nat}(y:1000000000000<=F){s:PS}(hs:Bw s)(nm:List UInt8)(r:ix)(a:(PQ F s nm).2.1=0):∃p,mS s nm=some p/\zdj s p r (PQ F s nm).1:=by
 unfold PQ at a⊢;by_cases f:j5 dH s≠0;.rw[if_pos f]at a;exact absurd a f
 rw[if_neg f]at a⊢;have f:=a_ f;have n:=yZ f;have hd:=R3 f;have z:nw s:=⟨n,hs,hd.1,hd.2⟩;cases k:mS s nm with
 |none=>rw[k]at a;cases a|some p=>
  have j:=l5 k;have hp:=n.r4 p j;have u:=hs.ok.2.2.2.1.2 p j;rw[k]at a;simp only at a⊢;by_cases hg:(HR s p.2.1).2.2.1≠0;.rw[if_pos hg]at a;exact absurd a hg
  rw[if_neg hg]at a⊢;obtain⟨T,rows,c,-⟩:=zbS z hp u (a_ hg);by_cases b:(TS F s p).2≠0;.rw[if_pos b]at a;cases a
  rw[if_neg b];have b:=a_ b;refine⟨p,rfl,?_⟩;obtain⟨E,w,H,x,hr⟩:=Nl s p.2.1 [] [] T rows c.e0;rw[List.nil_append]at x;subst x;have A:=fun(v:fo r.2.2.2.1)=>Z3 y z hp c hr v p.2.1.length (r_ _);have B:=Z4 y hp.tl c p.2.1.length (r_ _);rw[y_ (by rw[zx c.l];simp)]at A B;unfold TS at b⊢;rw[c.e0]at b⊢;have h:=B b;have C:=h.ft.num.aut c.t h.ft.l2 h.ft.l3 (λt ht=>(c.o t ht).1) λl hl=>h.li.le l (h.ft.num.lvs hl);refine⟨n,C,zdX h.ft.num C (λt ht=>(c.o t ht).2) λl hl=>(h.li.lv l hl).1,λv=>?_⟩;obtain⟨_,g⟩:=A v b;rw[Nat.sub_self,S_]at g;have D:UY (sM s p r)=vdF (mw s r) p.2.1 (p.2.2.1==1,[],()):=by have:=Tu (hold:=mw s r) (d:=p.2.2.1) p.2.1 0 λt ht=>(hp.tr t ht).ve;refine this.trans ?_;congr 1;rcases hp.df with e|e<;>rw[e]<;>rfl
  rw[D];exact zcv h.ft.num g _ h.ft.num.v.mem
set_option maxRecDepth 100000
def NP{t:Ty}{l:List t.den}{x:t.den}(a:x∈l):eK t x<=(l.map (eK t)).sum:=by
 induction l with
 |nil=>cases a|cons y l b=>
  rw[X_,Y_];rcases I_.1 a with rfl|h;.omega
  .have:=b h;omega
def yy{t:Ty}{l:List t.den}(h:∀x∈l,1<=eK t x):l.length<=(l.map (eK t)).sum:=by induction l with|nil=>exact G_ _|cons y l b=>rw[X_,Y_,x_];have:=b λx a=>h x (i_ _ a);have:=h y (n_ ..);omega
set_option maxRecDepth 100000
def JA(s:PS)(hs:okD yS s):∃n:Int,aA tbl 87 [.d yS s] [] aw (n,()):=by
 have:=xK (ars:=[.d yS s]) (os:=[]) (sh:=aw) (R:=λ_=>True) (λc=>rfl) (Wz (tbl:=tbl) (f:=87) aw ?_);.obtain⟨⟨n,_⟩,_,h⟩:=this;grind
 obtain⟨h1,h2,f,e,_⟩:=hs;refine ae (Wp.imp (Q:=λ_=>True) (aI (N:=s.1.length) (I:=λi x=>∃m:Int,x=(m,(i:Int),())) ⟨_,rfl⟩ (λi x b a=>?_) λx a=>?_) λv _=>?_);.obtain⟨m,rfl⟩:=a;exact aO b (aB b (aa ⟨_,by rw[ao b h1.1]⟩))
 .obtain⟨m,rfl⟩:=a;simp[aa]
 refine ae (Wp.imp (Q:=λ_=>True) (aI (N:=s.2.1.length) (I:=λi x=>∃m:Int,x=(m,(i:Int),())) ⟨_,rfl⟩ (λi x b a=>?_) λx a=>?_) λv _=>?_);.obtain⟨m,rfl⟩:=a;exact aO b (aB b (aa ⟨_,by rw[ao b h2.1]⟩))
 .obtain⟨m,rfl⟩:=a;simp[aa]
 refine ae (Wp.imp (Q:=λ_=>True) (aI (N:=s.2.2.1.length) (I:=λi x=>∃m:Int,x=(m,(i:Int),())) ⟨_,rfl⟩ (λi x b a=>?_) λx a=>?_) λv _=>?_);.obtain⟨m,rfl⟩:=a;exact aO b (aB b (aa ⟨_,by rw[ao b f.1]⟩))
 .obtain⟨m,rfl⟩:=a;simp[aa]
 refine ae (Wp.imp (Q:=λ_=>True) (aI (N:=s.2.2.2.1.length) (I:=λi x=>∃m:Int,x=(m,(i:Int),())) ⟨_,rfl⟩ (λi x b a=>?_) λx a=>?_) λv _=>aa ⟨_,rfl,trivial⟩)
 .obtain⟨m,rfl⟩:=a;refine aO b (aB b (ae (Wp.imp (Q:=λ_=>True) (aI (N:=s.2.2.2.1[i].2.1.length) (I:=λj x=>∃m:Int,x=(m,(j:Int),())) ⟨_,rfl⟩ (λj x d a=>?_) λx a=>?_) λv _=>aa ⟨_,by rw[ao b e.1]⟩)));.obtain⟨m,rfl⟩:=a;exact aO d (aB d (aa ⟨_,by rw[ao d ((e.2 _ (c_ b)).2.1).1]⟩))
  .obtain⟨m,rfl⟩:=a;simp[aa]
 .obtain⟨m,rfl⟩:=a;simp[aa]
def GA(s:PS)(hs:okD yS s):∃b:Bool,aA tbl 34 [.d yS s] [] ap (b,()):=by obtain⟨n,hn⟩:=JA s hs;refine⟨decide (n>400),bN ?_⟩;exact aj hn (aa rfl)
def QT{s:PS}(a:okD yS s)(b:eK yS s<=1048576):Bw s:=by
 have b:(N_ (eK yL) s.1).sum+1+((N_ (eK yG) s.2.1).sum+1+((N_ (eK yD) s.2.2.1).sum+1+((N_ (eK yO) s.2.2.2.1).sum+1+0)))<=1048576:=b;have h1:=yy (t:=yL) (l:=s.1) λx _=>by show 1<=D_ x.1+1+_;omega
 have h2:=yy (t:=yG) (l:=s.2.1) λx _=>by show 1<=D_ x.1+1+_;omega
 have g:=yy (t:=yD) (l:=s.2.2.1) λx _=>by show 1<=D_ x.1+1+_;omega
 have h:=yy (t:=yO) (l:=s.2.2.2.1) λx _=>by show 1<=D_ x.1+1+_;omega
 refine⟨a,by omega,by omega,by omega,by omega,λl hl r hr=>?_⟩;have c:=NP (t:=yG) hl;have d:=NP (t:=yH) hr;have e:eK yG l=l.1.length+1+((N_ (eK yH) l.2.1).sum+1+0):=rfl;have f:eK yH r=1+(r.2.1.length+1+0):=rfl;omega
def GC(s:PS)(hs:okD yS s):∃c:Bool×Unit,True/\aA tbl 12 [.d yS s] [] ap c:=by
 refine PY (sh:=ap) ?_;have h2:=hs.2.1;obtain⟨b,f⟩:=GA s hs;refine ae (Wp.imp (Q:=λ_=>True) (aI (N:=s.2.1.length) (I:=λi x=>∃m:Int,x=(m,(i:Int),())) ⟨_,rfl⟩ (λi x d a=>?_) λx a=>?_) λv _=>aj f (ae (Wp.imp (Q:=λ_=>True) (au (λ_=>aa trivial) λ_=>aa trivial) λv _=>aa ⟨_,rfl,trivial⟩)))
 .obtain⟨m,rfl⟩:=a;refine aO d (aB d (ae (Wp.imp (Q:=λ_=>True) (aI (N:=s.2.1[i].2.1.length) (I:=λj x=>∃m:Int,x=(m,(j:Int),())) ⟨_,rfl⟩ (λj x e a=>?_) λx a=>?_) λv _=>aa ⟨_,by rw[ao d h2.1]⟩)));.obtain⟨m,rfl⟩:=a;exact aO e (aB e (aa ⟨_,by rw[ao e ((h2.2 _ (c_ d)).2.1).1]⟩))
  .obtain⟨m,rfl⟩:=a;simp[aa]
 .obtain⟨m,rfl⟩:=a;simp[aa]
set_option maxRecDepth 100000
def Vu{r:ix}(h:mE r=0):fo r.2.2.2.1:=λv a=>by unfold mE at h;grind
def zam{s:PS}{nm:List UInt8}{p:sr}{r:ix}{a:eZ}(hp:mS s nm=some p)(h:zdj s p r a)(b:j5 dH s=0):∃m K,xx a (FY a r) m K/\∃n:Int,n<=(a.1.length:Int)/\MU a r m K=(Lc s nm r,n,ol s nm r,()):=by
 obtain⟨m,K,h1,h2,c,g⟩:=zcd h.aut (FY a r) _ _ h.aut.rt (r_ _);have j:mu a a.2.2.2.1<=a.1.length:=by unfold mu;split<;>omega
 have hl:=h.aut.l1;refine⟨m,K,⟨h.aut,h1,h2,c,by omega⟩,?_⟩;have e:ol s nm r=mE r:=by unfold ol;rw[if_neg (not_not_intro b),hp];rfl
 have d:=ZZ h.aut;unfold MU Lc;rw[e,if_neg (not_not_intro d)];by_cases hs:mE r≠0;.rw[if_pos hs,if_pos hs];exact⟨0,by omega,rfl⟩
 rw[if_neg hs,if_neg hs];have hs:=a_ hs;have f:vz s nm=p:=by unfold vz;rw[if_neg (not_not_intro b),hp];rfl
 rw[f,zce h1 (h.lv (Vu hs)),hs];unfold O4 UY;by_cases hd:(sM s p r).2.2=2;.rw[if_pos hd,if_pos hd,if_pos rfl];exact⟨K,by omega,rfl⟩
 .rw[if_neg hd,if_neg hd,if_neg (by simp)];exact⟨K,by omega,rfl⟩
def yw:LawOkU 11 [yS,tS,xn]:=by
 rintro⟨s,nm,r,_⟩ ⟨hs,hn,hr,_⟩ l;have l:eK yS s+_<=1048576:=l;have sm:Bw s:=QT (s:=s) hs (by omega);obtain⟨F,a⟩:∃F:Nat,1000000000000<=F:=⟨_,r_ _⟩;refine⟨gq ap (true,()),?_,rfl⟩;refine Wz ap ?_;obtain⟨b,_,u⟩:=GC s hs;refine aj u (ae (bf (λ_=>aj (GB r) (aa rfl)) (ae (bf (b:=decide ((r.2.2.2.1.length:Int)>60)) (λ_=>aa rfl) (au (λ_=>aj Jp (aa rfl)) λh=>?_)))));rw[q_,q_]at h;obtain⟨h1,h2⟩:=UT h.1.2;have g:TA s r:=⟨sm,hr.1.1,hr.2.2.1,by omega,by omega,hr.2.2.2.2.1.2⟩;refine aj (zI a sm nm) (au (λ_=>aj Jp (aa rfl)) λf=>?_);obtain⟨p,hp,d⟩:=Wq a sm nm r (by simpa using f);have j:j5 dH s=0:=a_ λe=>by unfold PQ at f;rw[if_pos e]at f;exact e (by simpa using f)
 generalize PQ F s nm=c at d⊢;obtain⟨m,K,a,n,hn,e⟩:=zam hp d j;obtain⟨l1,l2⟩:=WU d.ok (λ_=>a) g.u;have k:=Dp d.ok hr (λ_=>a) g.u;rw[e]at k l1 l2;refine aj k (aj (LK s nm r g) (aj (LX s nm r g) ?_));generalize Lc s nm r=V at l1 l2⊢;generalize ol s nm r=E;refine ae (ak (by simp) (aa (ae (ak (by simp) (aa (ae (ak (by simp) (aa (ae (ak (by simp) (aa (ak (decide_eq_false (by simp only;omega)) ?_))))))))))));refine aj (xv V.2.1 V.2.1 l1 l2) ?_;rw[Ja];refine ae (aD rfl (aj (xv V.2.1 V.2.1 l1 l2) (aa ?_)));rw[Ja];exact ae (aD rfl (aj Jp (aa (aa rfl))))
end Go.Proofs.YtdgiglmmpbndmaaGreatDoor
