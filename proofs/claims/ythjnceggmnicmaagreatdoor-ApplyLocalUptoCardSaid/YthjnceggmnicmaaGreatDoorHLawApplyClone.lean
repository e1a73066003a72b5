import Derived.Test.YthjnceggmnicmaaGreatDoorHLawPfx
set_option linter.unusedVariables false
set_option linter.unusedSimpArgs false
open Bool renaming or_eq_false_iff->l_
open Classical renaming byContradiction->i_
open Int renaming le_refl->t_
open Go.IntKind renaming wrap->d_
open List renaming getElem_mem->a_,getElem?_eq_getElem->b_,take_length->c_,length_singleton->e_,length_nil->f_,take_succ_eq_append_getElem->g_,getElem?_eq_some_iff->j_,set_append_right->k_,length->m_,length_take_le'->n_,map_cons->o_,set_cons_zero->p_,map->q_,length_cons->s_,length_map->u_,mem_cons->v_,sum_cons->w_
open Nat renaming le_trans->h_,sub_self->r_
namespace Go.Proofs.YthjnceggmnicmaaGreatDoor
open Go Go.Av Go.Ev Go.Pl
structure ClOk(s:PS):Prop where
 l1:s.1.length<=64/\∀l∈s.1,l.2.1.length<=64
 l2:s.2.1.length<=64/\∀l∈s.2.1,l.2.1.length<=64
 l3:s.2.2.1.length<=64/\∀l∈s.2.2.1,l.2.1.length<=64
 l4:s.2.2.2.1.length<=64
 pt:∀p∈s.2.2.2.1,p.2.1.length<=64/\∀t∈p.2.1,t.2.1.length<=64/\t.2.2.1.length<=64
theorem Qa{pe:List UInt8->Int}{s:PS}(h:PolOk pe s):ClOk s:=⟨⟨h.l1,λl hl=>(h.r1 l hl).1⟩,⟨h.l2,λl hl=>(h.r2 l hl).1⟩,⟨h.l3,λl hl=>(h.r3 l hl).1⟩,h.l4,λp hp=>⟨(h.r4 p hp).tl,λt a=>⟨((h.r4 p hp).tr t a).ml,((h.r4 p hp).tr t a).al⟩⟩⟩
theorem take1{α:Type}{l:List α}{i:Nat}(a:i<l.length):l.take i++[l[i]]=l.take (i+1):=(g_ a).symm
theorem ym(s:PS)(h:ClOk s):aJ tbl km [.d yS s] [] iE (s.1,s.2.1,s.2.2.1,s.2.2.2.1,()):=by
 refine aC rfl (aF ID rfl (λO n=>IV O n s) ?_);unfold yz;obtain⟨g,k,l,w,r⟩:=h;refine ae (Wp.imp (Q:=λx=>x=(s.1,())) (a8 (N:=s.1.length) (I:=λi x=>x=((i:Int),s.1.take i,())) rfl (λi x a b=>?_) λx b=>?_) λv c=>?_)
 ·subst b;unfold oY;have hl:=g.2 _ (a_ a);have e:(s.1.take i).length<=64:=by simp;omega
  refine bD a (aN a (aA (decide_eq_true (by simp only[f_];omega)) (aA (decide_eq_true (by simp only[e_];omega)) (aa ?_))));show(d_ .i64 ((i:Int)+1),s.1.take i++[s.1[i]],())=_;rw[take1 a,ar a (by omega)]
 ·subst b;unfold oY;refine ba (aa ?_);show(s.1.take s.1.length,())=_;rw[c_]
 subst c;refine ae (Wp.imp (Q:=λx=>x=(s.1,s.2.1,())) (a8 (N:=s.2.1.length) (I:=λi x=>x=((i:Int),s.1,s.2.1.take i,())) rfl (λi x a b=>?_) λx b=>?_) λv c=>?_)
 ·subst b;unfold oZ;have hl:=k.2 _ (a_ a);have e:(s.2.1.take i).length<=64:=by simp;omega
  refine bD a (aN a (aA (decide_eq_true (by simp only[f_];omega)) (aA (decide_eq_true (by simp only[e_];omega)) (aa ?_))));show(d_ .i64 ((i:Int)+1),s.1,s.2.1.take i++[s.2.1[i]],())=_;rw[take1 a,ar a (by omega)]
 ·subst b;unfold oZ;refine ba (aa ?_);show(s.1,s.2.1.take s.2.1.length,())=_;rw[c_]
 subst c;refine ae (Wp.imp (Q:=λx=>x=(s.1,s.2.1,s.2.2.1,())) (a8 (N:=s.2.2.1.length) (I:=λi x=>x=((i:Int),s.1,s.2.1,s.2.2.1.take i,())) rfl (λi x a b=>?_) λx b=>?_) λv c=>?_)
 ·subst b;unfold o7;have hl:=l.2 _ (a_ a);have e:(s.2.2.1.take i).length<=64:=by simp;omega
  refine bD a (aN a (aA (decide_eq_true (by simp only[f_];omega)) (aA (decide_eq_true (by simp only[e_];omega)) (aa ?_))));show(d_ .i64 ((i:Int)+1),s.1,s.2.1,s.2.2.1.take i++[s.2.2.1[i]],())=_;rw[take1 a,ar a (by omega)]
 ·subst b;unfold o7;refine ba (aa ?_);show(s.1,s.2.1,s.2.2.1.take s.2.2.1.length,())=_;rw[c_]
 subst c;refine ae (Wp.imp (Q:=λx=>x=(s.1,s.2.1,s.2.2.1,s.2.2.2.1,())) (a8 (N:=s.2.2.2.1.length) (I:=λi x=>x=((i:Int),s.1,s.2.1,s.2.2.1,s.2.2.2.1.take i,())) rfl (λi x a b=>?_) λx b=>?_) λv c=>?_)
 ·subst b;unfold o9;have hp:=r _ (a_ a);have e:(s.2.2.2.1.take i).length<=64:=by simp;omega
  refine bD a (aN a ?_);have f:=take1 a;generalize s.2.2.2.1[i]=p at hp f;refine ae (Wp.imp (Q:=λx=>x=(s.1,s.2.1,s.2.2.1,s.2.2.2.1.take i,p.1,p.2.2.1,p.2.1,())) (a8 (N:=p.2.1.length) (I:=λj x=>x=((j:Int),s.1,s.2.1,s.2.2.1,s.2.2.2.1.take i,p.1,p.2.2.1,p.2.1.take j,())) rfl (λj x d b=>?_) λx b=>?_) λv c=>?_)
  ·subst b;unfold o8;have hl:=hp.2 _ (a_ d);have u:=hp.1;have e:(p.2.1.take j).length<=64:=by simp;omega
   refine bD d (aN d (aA (decide_eq_true (by simp only[f_];omega)) (aA (decide_eq_true (by simp only[f_];omega)) (aA (decide_eq_true (by simp only[e_];omega)) (aa ?_)))));show(d_ .i64 ((j:Int)+1),s.1,s.2.1,s.2.2.1,s.2.2.2.1.take i,p.1,p.2.2.1,p.2.1.take j++[p.2.1[j]],())=_;rw[take1 d,ar d (by omega)]
  ·subst b;unfold o8;refine ba (aa ?_);show(s.1,s.2.1,s.2.2.1,s.2.2.2.1.take i,p.1,p.2.2.1,p.2.1.take p.2.1.length,())=_;rw[c_]
  ·subst c;refine aA (decide_eq_true (by show((s.2.2.2.1.take i).length+1)*48<=_;omega)) ?_;refine ip (x:=((p.1,[],p.2.2.1,()):pG)) List.getElem?_concat_length (aa ?_);show(d_ .i64 ((i:Int)+1),s.1,s.2.1,s.2.2.1,(s.2.2.2.1.take i++[(p.1,[],p.2.2.1,())]).set (s.2.2.2.1.take i).length p,())=_;rw[k_ _ _ (Nat.le_refl _),r_,p_,f,ar a (by omega)]
 ·subst b;unfold o9;refine ba (aa ?_);show(s.1,s.2.1,s.2.2.1,s.2.2.2.1.take s.2.2.2.1.length,())=_;rw[c_]
 subst c;exact aa rfl
theorem J3(s:PS)(hs:okD yS s):∃n:Int,aJ tbl mf [.d yS s] [] jT (n,()):=by
 have:=vR (tbl:=tbl) (f:=mf) (ars:=[.d yS s]) (os:=[]) (sh:=jT) (R:=λ_=>True) (λc=>rfl) (aF Lz rfl (λO n=>LL O n s) ?_);·obtain⟨⟨n,_⟩,_,h⟩:=this;exact⟨n,h⟩
 unfold AF;obtain⟨g,k,l,e,_⟩:=hs;refine ae (Wp.imp (Q:=λ_=>True) (a8 (N:=s.1.length) (I:=λi x=>∃m:Int,x=(m,(i:Int),())) ⟨_,rfl⟩ (λi x b a=>?_) λx a=>?_) λv _=>?_);·obtain⟨m,rfl⟩:=a;unfold qo;exact bD b (aN b (aa ⟨_,by rw[ar b g.1]⟩))
 ·obtain⟨m,rfl⟩:=a;unfold qo;exact ba (aa trivial)
 refine ae (Wp.imp (Q:=λ_=>True) (a8 (N:=s.2.1.length) (I:=λi x=>∃m:Int,x=(m,(i:Int),())) ⟨_,rfl⟩ (λi x b a=>?_) λx a=>?_) λv _=>?_);·obtain⟨m,rfl⟩:=a;unfold qp;exact bD b (aN b (aa ⟨_,by rw[ar b k.1]⟩))
 ·obtain⟨m,rfl⟩:=a;unfold qp;exact ba (aa trivial)
 refine ae (Wp.imp (Q:=λ_=>True) (a8 (N:=s.2.2.1.length) (I:=λi x=>∃m:Int,x=(m,(i:Int),())) ⟨_,rfl⟩ (λi x b a=>?_) λx a=>?_) λv _=>?_);·obtain⟨m,rfl⟩:=a;unfold qq;exact bD b (aN b (aa ⟨_,by rw[ar b l.1]⟩))
 ·obtain⟨m,rfl⟩:=a;unfold qq;exact ba (aa trivial)
 refine ae (Wp.imp (Q:=λ_=>True) (a8 (N:=s.2.2.2.1.length) (I:=λi x=>∃m:Int,x=(m,(i:Int),())) ⟨_,rfl⟩ (λi x b a=>?_) λx a=>?_) λv _=>aa ⟨_,rfl,trivial⟩)
 ·obtain⟨m,rfl⟩:=a;unfold qu;have hp:=(e.2 _ (a_ b)).2.1;refine bD b (aN b (ae (Wp.imp (Q:=λ_=>True) (a8 (N:=s.2.2.2.1[i].2.1.length) (I:=λj x=>∃m:Int,x=(m,(j:Int),())) ⟨_,rfl⟩ (λj x d a=>?_) λx a=>?_) λv _=>aa ⟨_,by rw[ar b e.1]⟩)));·obtain⟨m,rfl⟩:=a;unfold qt;exact bD d (aN d (aa ⟨_,by rw[ar d hp.1]⟩))
  ·obtain⟨m,rfl⟩:=a;unfold qt;exact ba (aa trivial)
 ·obtain⟨m,rfl⟩:=a;unfold qu;exact ba (aa trivial)
theorem Hh(s:PS)(hs:okD yS s):∃b:Bool,aJ tbl nH [.d yS s] [] kE (b,()):=by obtain⟨n,hn⟩:=J3 s hs;refine⟨decide (n>400),aC rfl (aF Ix rfl (λO k=>IP O k s) ?_)⟩;unfold yr;exact an hn (aa rfl)
theorem BM{t:Ty}{l:List t.den}(h:∀x∈l,1<=eu t x):l.length<=(l.map (eu t)).sum:=by induction l with|nil=>simp|cons x l b=>have c:=h x (by simp);have d:=b λy a=>h y (by simp[a]);simp only[s_,o_,w_];omega
theorem Nf{t:Ty}{l:List t.den}{x:t.den}(a:x∈l):eu t x<=(l.map (eu t)).sum:=by
 induction l with
 |nil=>cases a|cons y l b=>
  simp only[o_,w_];rcases v_.1 a with rfl|h;·omega
  ·have:=b h;omega
theorem Po{s:PS}(a:okD yS s)(b:eu yS s<=1048576):SmP s:=by
 have b:(q_ (eu yL) s.1).sum+1+((q_ (eu yG) s.2.1).sum+1+((q_ (eu yD) s.2.2.1).sum+1+((q_ (eu yO) s.2.2.2.1).sum+1+0)))<=1048576:=b;have g:=BM (t:=yL) (l:=s.1) λx _=>by show 1<=m_ x.1+1+_;omega
 have h:=BM (t:=yG) (l:=s.2.1) λx _=>by show 1<=m_ x.1+1+_;omega
 have j:=BM (t:=yD) (l:=s.2.2.1) λx _=>by show 1<=m_ x.1+1+_;omega
 have k:=BM (t:=yO) (l:=s.2.2.2.1) λx _=>by show 1<=m_ x.1+1+_;omega
 refine⟨a,by omega,by omega,by omega,by omega,λl hl r hr=>?_⟩;have c:=Nf (t:=yG) hl;have d:=Nf (t:=yH) hr;have e:eu yG l=l.1.length+1+((q_ (eu yH) l.2.1).sum+1+0):=rfl;have f:eu yH r=1+(r.2.1.length+1+0):=rfl;omega
theorem Pk{s:PS}{n:List UInt8}{r:ly}(h:SmQ s r):SmR 200000 (Ca s n r).2.1/\(Ca s n r).2.1.1.1=(Ca s n r).2.1.1.1/\((Ca s n r).1=true->rf (Ca s n r).2.1=0):=by
 have z:SmR 200000 PW:=⟨by show 0<=_;omega,by show 0<=_;omega⟩;by_cases c:vq s n r=0
 ·obtain⟨p,f,g,j,u⟩:=B9 c;rw[show Ca s n r=oS s (Ab s n) r from if_neg (not_not_intro c),g];have hp:=j.r4 p (sQ f);have b:∀t∈p.2.1,t.2.2.1.length<=64:=λt v=>(hp.tr t v).al;have w:=hp.tl;have a:=(xv (hold:=Cr s r) (l:=p.2.1) (i:=0) (d:=p.2.2.1) b).2;unfold oS;split;·exact⟨z,rfl,λh=>by cases h⟩
  ·refine⟨?_,rfl,λ_=>Oi u⟩;have:=PZ (l:=(tp s p r).2.1) (k:=100000) (r:=r) ⟨h.pt,h.cm⟩;have e:(tp s p r).2.1.length<=64*p.2.1.length:=a;exact⟨this.pt,h_ this.cm (by omega)⟩
 ·rw[show Ca s n r=(false,PW,())from if_pos c];exact⟨z,rfl,λh=>by cases h⟩
theorem He(s:PS)(n:List UInt8)(r:ly)(h:SmQ s r):aJ tbl iz [.d yS s,.d tS n,.d Q1 r] [] fb (runT s n r,vq s n r,()):=by
 refine aC rfl (aF Iu rfl (λO k=>IM O k s n r) ?_);unfold yp;refine an (uL s n r h) (aE (λa=>aa ?_) λa=>?_)
 ·have a:vq s n r≠0:=by simpa using a
  rw[show runT s n r=[]from if_pos a]
 ·have a:vq s n r=0:=by simpa using a
  obtain⟨p,b,c,d,_⟩:=B9 a;rw[show runT s n r=(tp s (Ab s n) r).1 from if_neg (not_not_intro a),c,a];exact an (sE s p r h (d.r4 p (sQ b)) (h.s.ok.2.2.2.1.2 p (sQ b))) (aa rfl)
end Go.Proofs.YthjnceggmnicmaaGreatDoor
namespace Go.Pl
open Go Go.Av Go.Ev
abbrev Ba(s:PS)(p:pG):PS:=(s.1,s.2.1,s.2.2.1,[p],())
abbrev Q0(p:pG)(k:Nat):pG:=(p.1,p.2.1.take k,p.2.2)
abbrev s6(t:tn):tn:=(t.1,t.2.1,[],t.2.2.2)
abbrev Vr(p:pG):pG:=(p.1,p.2.1.map s6,p.2.2)
theorem T0{α:Type}{nm:α->List UInt8}{sz:α->Nat}{a:α->Int}{x:α}(b:nb (nm x)=true)(f:sz x<=64)(c:a x=0):jq nm sz a [x]=0:=by
 have e:LV nm sz a [x] 0=0:=by
  have hn:qK ([x].map nm) 0=0:=by show(if nb (nm x)=false then 1 else if 0<0/\_ then 16 else 0)=(0:Int);rw[b,if_neg (by decide),if_neg (λh=>absurd h.1 (by decide))]
  unfold LV;rw[if_neg (not_not_intro hn)];show(if sz x>64 then 4 else a x)=0;rw[if_neg (by omega),c]
 unfold jq;rw[if_neg (by show ¬(1>64);decide)];exact errN_zero.2 λj d=>by
  have:j=0:=by simp at d;omega
  subst this;exact e
theorem JB{s:PS}{p:pG}:mM s p=0↔(∀i t,p.2.1[i]? =some t->jB s (p.2.1.take i) t=0)/\(p.2.2.1=1\/p.2.2.1=2):=by
 have key:oD (λi=>match p.2.1[i]? with|some t=>jB s (p.2.1.take i) t|none=>0) p.2.1.length=0↔∀i t,p.2.1[i]? =some t->jB s (p.2.1.take i) t=0:=by
  rw[errN_zero];constructor;·intro h i t c;have:=h i (j_.1 c).1;rw[c]at this;exact this
  ·intro h j b;rw[b_ b];exact h j _ (b_ b)
 unfold mM;split;·rename_i a;exact⟨λh=>absurd h a,λh=>absurd (key.2 h.1) a⟩
 ·rename_i a;have a:=key.1 (i_ a);split;·exact⟨λh=>(by cases h),λh=>by omega⟩
  ·exact⟨λ_=>⟨a,by omega⟩,λ_=>rfl⟩
theorem UL{pe:List UInt8->Int}{s:PS}{p:pG}(h:re pe s=0)(hp:p∈s.2.2.2.1):nb p.1=true/\p.2.1.length<=64/\mM s p=0:=by
 unfold re at h;split at h;·rename_i hn;exact absurd h hn
 split at h;·rename_i hn;exact absurd h hn
 split at h;·rename_i hn;exact absurd h hn
 exact(BO h).2 p hp
theorem Nr{pe:List UInt8->Int}{s:PS}{p:pG}(h:re pe s=0)(d:nb p.1=true)(e:p.2.1.length<=64)(f:mM s p=0):re pe (Ba s p)=0:=by
 have g:jq (·.1) (λp=>p.2.1.length) (mM (Ba s p)) [p]=0:=T0 d e f;unfold re at h⊢;split at h;·rename_i hn;exact absurd h hn
 rename_i a;split at h;·rename_i hn;exact absurd h hn
 rename_i b;split at h;·rename_i hn;exact absurd h hn
 rename_i c;rw[if_neg a,if_neg b,if_neg c];exact g
theorem Sa{s:PS}{p:pG}(k:Nat)(h:mM s p=0):mM s (Q0 p k)=0:=by
 rw[JB]at h⊢;refine⟨λi t a=>?_,h.2⟩;have a:(p.2.1.take k)[i]? =some t:=a;have b:i<k:=by have:=(j_.1 a).1;simp at this;omega
 rw[List.getElem?_take,if_pos b]at a;show jB s ((p.2.1.take k).take i) t=0;rw[List.take_take,Nat.min_eq_left (Nat.le_of_lt b)];exact h.1 i t a
theorem Vu{s:PS}{b:List tn}{t:tn}(h:jB s b t=0):jB s (b.map s6) (s6 t)=0:=by
 have a:d9 jb ([]:List Au)=0:=rfl;have c:(b.map s6).any (·.1==t.1)=b.any (·.1==t.1):=by rw[List.any_map];rfl
 unfold jB at h⊢;split at h;·cases h
 rename_i d;split at h;·cases h
 rename_i e;split at h;·cases h
 rename_i f;split at h;·rename_i hn;exact absurd h hn
 rename_i g;split at h;·cases h
 split at h;·rename_i hn;exact absurd h hn
 rw[if_neg d,if_neg (by rw[c];exact e),if_neg f,if_neg g,if_neg (by show ¬(0>64);decide),if_neg (not_not_intro a)];exact h
theorem UJ{s:PS}{p:pG}(h:mM s p=0):mM s (Vr p)=0:=by rw[JB]at h⊢;refine⟨λi t a=>?_,h.2⟩;have a:(p.2.1.map s6)[i]? =some t:=a;rw[List.getElem?_map]at a;obtain⟨u,b,rfl⟩:=Option.map_eq_some_iff.1 a;show jB s ((p.2.1.map s6).take i) (s6 u)=0;rw[<-List.map_take];exact Vu (h.1 i u b)
theorem Ql{s:PS}{p:pG}{n:List UInt8}(h:(p.1==n)=true):vn (Ba s p) n=some p:=by show List.find? (·.1==n) [p]=some p;rw[List.find?_cons,h]
theorem oF{hold:tn->Bool}{t:tn}{l:List tn}{i:Nat}{d:Int}:ez hold (t::l) i d=if hold t then(if t.2.2.2.1≠3 then([(i:Int)],t.2.2.1,t.2.2.2.1)else((i:Int)::(ez hold l (i+1) d).1,t.2.2.1++(ez hold l (i+1) d).2.1,(ez hold l (i+1) d).2.2))else ez hold l (i+1) d:=rfl
theorem F6{hold:tn->Bool}:∀(l:List tn) (i:Nat) (d:Int),∀v∈(ez hold l i d).1,(i:Int)<=v/\v<((i+l.length:Nat):Int)
 |[],_,_,v,a=>by cases a
 |t::l,i,d,v,a=>by
  have b:=F6 (hold:=hold) l (i+1) d v;rw[oF]at a;simp only[s_];split at a
  ·split at a;·simp at a;omega
   ·rcases v_.1 a with rfl|a;·omega
    ·have:=b a;omega
  ·have:=b a;omega
theorem C3{hold:tn->Bool}:∀(l:List tn) (i k:Nat) (d:Int),(ez hold l i d).1.getLast?=some ((i+k:Nat):Int)->(∀t,l[k]? =some t->t.2.2.2.1≠3)->ez hold (l.take (k+1)) i d=ez hold l i d
 |[],_,_,_,h,_=>by cases h
 |t::l,i,k,d,h,c=>by
  have f:=F6 (hold:=hold) l (i+1) d;have up:∀v,(ez hold l (i+1) d).1.getLast?=some v->((i+1:Nat):Int)<=v:=λv c=>(f v (List.mem_of_getLast? c)).1;rw[List.take_succ_cons,oF,oF]at*;by_cases a:hold t=true
  ·rw[if_pos a]at h;rw[if_pos a,if_pos a];by_cases b:t.2.2.2.1≠3;·rw[if_pos b,if_pos b]
   ·rw[if_neg b]at h;rw[if_neg b,if_neg b];have h:((i:Int)::(ez hold l (i+1) d).1).getLast?=some ((i+k:Nat):Int):=h;rw[List.getLast?_cons]at h;cases hl:(ez hold l (i+1) d).1.getLast? with
    |none=>
     rw[hl]at h;simp at h;have:k=0:=by omega
     subst this;exact absurd (c t rfl) b
    |some v=>
     rw[hl]at h;have h:v=((i+k:Nat):Int):=by simpa using h
     have hg:=up v hl;obtain⟨k,rfl⟩:∃e,k=e+1:=⟨k - 1,by omega⟩;rw[C3 l (i+1) k d (by rw[hl,h];congr 2;omega) (λt a=>c t (by simpa using a))]
  ·rw[if_neg a]at h;rw[if_neg a,if_neg a];have hg:=up _ h;obtain⟨k,rfl⟩:∃e,k=e+1:=⟨k - 1,by omega⟩;exact C3 l (i+1) k d (by rw[h];congr 2;omega) (λt a=>c t (by simpa using a))
theorem Jh{hold:tn->Bool}(a:∀t,hold (s6 t)=hold t):∀(l:List tn) (i:Nat) (d:Int),ez hold (l.map s6) i d=((ez hold l i d).1,[],(ez hold l i d).2.2)
 |[],_,_=>rfl
 |t::l,i,d=>by
  have b:=Jh a l (i+1) d;rw[o_,oF,oF,a,b];split
  ·split;·rfl
   ·rfl
  ·rfl
theorem Vs{l:List tn}{i:Nat}(a:i<l.length):((l.take i).map s6++l.drop i)[i]? =some l[i]/\((l.take i).map s6++l.drop i).set i (s6 l[i])=(l.take (i+1)).map s6++l.drop (i+1):=by
 have hl:((l.take i).map s6).length=i:=by simp;omega
 constructor;·rw[List.getElem?_append_right (by omega),hl,r_,List.getElem?_drop,Nat.add_zero];exact b_ a
 ·rw[k_ _ _ (by omega),hl,r_,List.drop_eq_getElem_cons a,p_,g_ a,List.map_append,List.append_assoc];rfl
end Go.Pl
namespace Go.Proofs.YthjnceggmnicmaaGreatDoor
open Go Go.Av Go.Ev Go.Pl
theorem runE_zero{s:PS}{n:List UInt8}{r:ly}:vq s n r=0↔re mL s=0/\(vn s n).isSome=true/\rf r=0:=by
 unfold vq;split;·rename_i h;exact⟨λe=>absurd e h,λe=>absurd e.1 h⟩
 ·rename_i h;have h:=i_ h;split;·rename_i a;exact⟨λe=>(by cases e),λe=>by rw[a]at e;cases e.2.1⟩
  ·rename_i a;exact⟨λe=>⟨h,by cases e:(vn s n).isSome;exact absurd e a;rfl,e⟩,λe=>e.2.2⟩
structure Like(s:PS)(n:List UInt8)(p:pG):Prop where
 nm:nb p.1=true
 eq:(p.1==n)=true
 tl:p.2.1.length<=64
 pl:mM s p=0
 ok:okD yO p
theorem TW{s:PS}{n:List UInt8}{p:pG}{r:ly}(h:Like s n p)(a:re mL s=0)(hs:rf r=0):vq (Ba s p) n r=0:=by rw[runE_zero,Ql h.eq];exact⟨Nr a h.nm h.tl h.pl,rfl,hs⟩
theorem Xt{s:PS}{n:List UInt8}{p:pG}{r:ly}(h:Like s n p)(b:re mL s=0)(hs:rf r=0):Ca (Ba s p) n r=oS s p r:=by
 have e:=TW h b hs;have a:Ab (Ba s p) n=p:=by unfold Ab;rw[if_neg (not_not_intro (runE_zero.1 e).1),Ql h.eq];rfl
 rw[show Ca (Ba s p) n r=oS (Ba s p) (Ab (Ba s p) n) r from if_neg (not_not_intro e),a];rfl
theorem Xs{s:PS}{n:List UInt8}{p:pG}{r:ly}(h:Like s n p)(a:SmQ s r):SmQ (Ba s p) r:=⟨⟨⟨a.s.ok.1,a.s.ok.2.1,a.s.ok.2.2.1,⟨by show 1<=maxLen;simp[maxLen],λy b=>by simp at b;subst b;exact h.ok⟩,trivial⟩,a.s.l1,a.s.l2,a.s.l3,by show 1<=1048576;omega,a.s.pt⟩,a.p,a.n,a.pt,a.cm⟩
theorem TV{s:PS}{n:List UInt8}{p:pG}{r:ly}(h:Like s n p)(a:re mL s=0)(hs:rf r=0)(b:SmQ s r):aJ tbl cD [.d yS (Ba s p),.d tS n,.d Q1 r] [] b8 (oS s p r,0,()):=by have:=Dy (Ba s p) n r (Xs h b);rw[Xt h a hs,TW h a hs]at this;exact this
theorem RH{s:PS}{n:List UInt8}{p:pG}(h:Like s n p)(k:Nat):Like s n (Q0 p k):=⟨h.nm,h.eq,h_ (n_ k p.2.1) h.tl,Sa k h.pl,h.ok.1,⟨h_ (n_ k p.2.1) h.ok.2.1.1,λy a=>h.ok.2.1.2 y (List.mem_of_mem_take a)⟩,h.ok.2.2⟩
theorem TX{s:PS}{n:List UInt8}{p:pG}(h:Like s n p):Like s n (Vr p):=⟨h.nm,h.eq,by show(p.2.1.map s6).length<=64;rw[u_];exact h.tl,UJ h.pl,h.ok.1,⟨by show(p.2.1.map s6).length<=maxLen;rw[u_];exact h.ok.2.1.1,λy b=>by obtain⟨t,a,rfl⟩:=List.mem_map.1 b;have:=h.ok.2.1.2 t a;exact⟨this.1,this.2.1,⟨Nat.zero_le _,λ_ h=>by cases h⟩,this.2.2.2⟩⟩,h.ok.2.2⟩
noncomputable def Ed(s:PS)(p:pG)(r:ly):Bool×(ly×Unit):=if(tp s p r).2.2=2 then(false,PW,())else(true,r,())
theorem WR{s:PS}{p:pG}{r:ly}:oS s (Vr p) r=Ed s p r:=by have e:tp s (Vr p) r=((tp s p r).1,[],(tp s p r).2.2):=Jh (hold:=Cr s r) (λ_=>rfl) p.2.1 0 p.2.2.1;unfold oS Ed;rw[e];rfl
theorem V2{s:PS}{p:pG}{r:ly}:(Ed s p r).1=(oS s p r).1:=by unfold Ed oS;split<;>rfl
theorem V3{s:PS}{p:pG}{r:ly}(h:(Ed s p r).1=true):(Ed s p r).2.1=r:=by
 unfold Ed at h⊢;split at h;·cases h
 ·rename_i hd;rw[if_neg hd]
abbrev YL{α:Type}(V:Bool×(ly×Unit))(s:PS)(x:α):Bool×Int×Int×Int×Int×List Int×List Int×Int×Int×Int×Int×List X4×List X3×List X2×α:=
 (V.1,V.2.1.1.1,V.2.1.1.2.1,V.2.1.2.1,V.2.1.2.2.1,V.2.1.2.2.2.1,V.2.1.2.2.2.2.1,V.2.1.2.2.2.2.2.1,V.2.1.2.2.2.2.2.2.1,V.2.1.2.2.2.2.2.2.2.1,V.2.1.2.2.2.2.2.2.2.2.1,s.1,s.2.1,s.2.2.1,x)
theorem Gi:LawOkU lx [yS,tS,Q1]:=by
 rintro⟨s,nm,r,_⟩ ⟨hs,_,hr,_⟩ C;have C:eu yS s+_<=1048576:=C;have hP:=Po hs (h_ (Nat.le_add_right (eu yS s) _) C);refine⟨jr cB (true,()),?_,rfl⟩;refine aF Al rfl (λO n=>Ar O n s nm r) ?_;unfold qk;obtain⟨b,hl⟩:=Hh s hs;refine an hl (ae (cY (λ_=>an (Hi r) (aa rfl)) (ae (cY (b:=decide ((r.2.2.2.1.length:Int)>60)) (λ_=>aa rfl) (aE (λ_=>an JY (aa rfl)) λh=>?_)))));rw[l_,l_]at h;obtain⟨h1,h2⟩:=RZ h.1.2;have P:SmQ s r:=⟨hP,hr.1.1,hr.2.2.1,by omega,by omega⟩;refine an (Dy s nm r P) (aE (λ_=>an JY (aa rfl)) λy=>?_);have y:vq s nm r=0:=by simpa using y
 obtain⟨p,hf,M,B,u⟩:=B9 y;have h0:=(runE_zero.1 y).1;have g:=sQ hf;obtain⟨p1,p2,p3⟩:=UL h0 g;have hL:Like s nm p:=⟨p1,by have:=List.find?_some hf;exact this,p2,p3,hs.2.2.2.1.2 p g⟩;obtain⟨g1,_,_⟩:=Pk (n:=nm) P;have hV:Ca s nm r=oS s p r:=by rw[show Ca s nm r=oS s (Ab s nm) r from if_neg (not_not_intro y),M]
 have hT:runT s nm r=(tp s p r).1:=by rw[show runT s nm r=(tp s (Ab s nm) r).1 from if_neg (not_not_intro y),M]
 have F:=J2 s nm (by have:=B.l4;omega);have H:=He s nm r P;rw[hf]at F;rw[hT,y]at H;rw[hV]at g1⊢;refine an H (an F ?_);have z:∀v∈(tp s p r).1,0<=v/\v.toNat<p.2.1.length:=λv w=>by have:=F6 (hold:=Cr s r) p.2.1 0 p.2.2.1 v w;omega
 have L:(tp s p r).1.length<=64:=h_ (xv (hold:=Cr s r) (l:=p.2.1) (i:=0) (d:=p.2.2.1) λt D=>(((B.r4 p g).tr t D).al)).1 p2;have j:∀k:Nat,(tp s p r).1.getLast?=some (k:Int)->(∀t,p.2.1[k]? =some t->t.2.2.2.1≠3)->tp s (Q0 p (k+1)) r=tp s p r:=λk hk D=>C3 (hold:=Cr s r) p.2.1 0 k p.2.2.1 (by rw[Nat.zero_add];exact hk) D;have U:∀a,tp s a r=tp s p r->oS s a r=oS s p r:=λa e=>by unfold oS;rw[e]
 have J:∀a,tp s a r=tp s p r->Ed s a r=Ed s p r:=λa e=>by unfold Ed;rw[e]
 generalize(tp s p r).1=T at z L j;have hw:0<T.length->d_ .i64 ((T.length:Int) - 1)=((T.length - 1:Nat):Int):=λh=>by rw[wrap_i64 (by omega) (by omega)];omega
 refine ae (cY (b:=false) (λ_=>aa rfl) (ae (cY (b:=false) (λ_=>ae (cy (b:=false) (λhp=>?_) (aa (by simp)))) (aw rfl ?_))))
 ·have hp:0<T.length:=by simpa using hp
  rw[hw hp];have c:T.length - 1<T.length:=by omega
  obtain⟨Y,v1⟩:=z _ (a_ c);refine aN c (ae (cY (b:=false) (λ_=>aN c (aa ?_)) (aa ?_)));·exact decide_eq_false (by show ¬(p.2.1.length:Int)<=T[T.length - 1];omega)
  ·rw[Bool.or_false];exact decide_eq_false (Int.not_lt.2 Y)
 refine an (ym s (Qa B)) (ae (Wp.imp (Q:=λx=>∃a,Like s nm a/\tp s a r=tp s p r/\x=YL (oS s p r) s ([a],())) ?_ λwr w=>?_))
 ·by_cases hp:0<T.length
  ·rw[hw hp];have c:T.length - 1<T.length:=by omega
   obtain⟨v,w,Y,v1,A⟩:∃v,a7 T ((T.length - 1:Nat):Int)=some v/\0<=v/\v.toNat<p.2.1.length/\T.getLast?=some ((v.toNat:Nat):Int):=by obtain⟨Y,v1⟩:=z _ (a_ c);refine⟨_,Qn c,Y,v1,?_⟩;rw[List.getLast?_eq_getElem?,b_ c];congr 1;omega
   refine ae (cy (b:=(p.2.1[v.toNat].2.2.2.1 != 3)) (λ_=>ae (mZ (λ_=>w) (E4 Y v1 (aa rfl)))) (aE (λC=>?_) λC=>aa ⟨p,hL,rfl,rfl⟩));have gc:p.2.1[v.toNat].2.2.2.1≠3:=by simpa using(Bool.and_eq_true_iff.1 C).2
   have qr:d_ .i64 (v+1)=v+1:=wrap_i64 (by omega) (by omega);have rg:(v+1).toNat=v.toNat+1:=by omega
   refine ae (mZ (λ_=>w) ?_);rw[qr,rg];have el:((p.2.1.take (v.toNat+1)).drop 0).length<=64:=by rw[List.drop_zero,List.length_take];omega
   refine aA (decide_eq_true (by omega)) (aA (by simp;omega) (aA (decide_eq_true (h_ (Nat.mul_le_mul_right 72 el) (by omega))) (E4 (t_ 0) (by show 0<1;omega) (ip (x:=p) rfl (aa ⟨Q0 p (v.toNat+1),RH hL _,j _ A λt D=>?_,rfl⟩)))));rw[b_ v1]at D;cases D;exact gc
  ·exact ae (cy (b:=false) (λh=>absurd (of_decide_eq_true h) (by omega)) (aw (by simp) (aa ⟨p,hL,rfl,rfl⟩)))
 obtain⟨a,f,E,rfl⟩:=w;have c1:=TV f h0 u P;rw[U a E]at c1;refine an c1 (ae (cY (b:=false) (λ_=>aa (by simp)) (ae (cY (b:=false) (λ_=>an (Az (oS s p r).2.1 (oS s p r).2.1 (by have:=g1.pt;omega) (by have:=g1.cm;omega)) (aa (by rw[JN];rfl))) (aw rfl ?_)))));have ph:PolOk mL (Ba s a):=Li (Nr h0 f.nm f.tl f.pl);refine an (ym (Ba s a) (Qa ph)) ?_;have ur:=f.tl;refine E4 (t_ 0) (by show 0<1;omega) (aA rfl (ip (x:=a) rfl (ip (x:=a) rfl (aA rfl (ip (x:=a) rfl ?_)))));refine ae (Wp.imp (Q:=λx=>x=YL (oS s p r) s ([Vr a],())) (a8 (N:=a.2.1.length) (I:=λi x=>x=((i:Int),YL (oS s p r) s ([((a.1,(a.2.1.take i).map s6++a.2.1.drop i,a.2.2):pG)],()))) rfl (λi x hi hx=>?_) λx hx=>?_) λv w=>?_);·subst hx;unfold jf;obtain⟨s1,s2⟩:=Vs hi;refine bD hi (E4 (t_ 0) (by show 0<1;omega) (aA rfl (ip rfl (ip rfl (aA rfl (ae (mZ (λ_=>(Gc i).trans s1) (ip (x:=a.2.1[i]) s1 (ip rfl (aa ?_))))))))));show(d_ .i64 ((i:Int)+1),YL (oS s p r) s ([((a.1,((a.2.1.take i).map s6++a.2.1.drop i).set i (s6 a.2.1[i]),a.2.2):pG)],()))=_;rw[ar hi (by omega),s2]
 ·subst hx;unfold jf;refine ba (aa ?_);show YL (oS s p r) s ([((a.1,(a.2.1.take a.2.1.length).map s6++a.2.1.drop a.2.1.length,a.2.2):pG)],())=_;rw[c_,List.drop_length,List.append_nil]
 subst w;have c2:=TV (TX f) h0 u P;rw[WR,J a E]at c2;refine an c2 (ae (cy (b:=true) (λ_=>aa ?_) (ae (cy (b:=true) (λ_=>ae (cY (b:=true) (λhn=>?_) (aa (by simp)))) (ae (cy (b:=true) (λ_=>an JY (aa rfl)) (aa rfl)))))));·rw[V2];simp
 ·have hn:(Ed s p r).1=true:=by simpa using hn
  have e:=V3 hn;generalize(Ed s p r).2.1=R at e;subst e;exact an (Az R R (by omega) (by omega)) (aa (JN R))
end Go.Proofs.YthjnceggmnicmaaGreatDoor
