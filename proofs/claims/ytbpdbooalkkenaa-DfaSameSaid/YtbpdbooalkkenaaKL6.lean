/- Part ML6 of the layer: an abstract and a typed machine over the loaded code, proved sound. -/
import Derived.Test.YtbpdbooalkkenaaKL5
set_option linter.unusedVariables false
set_option linter.unusedSimpArgs false
namespace Go.Ev
open Go Go.RowKit Go.Av
section
variable {R:Type} {P:Program} {O:aj} {d:Option Nat} {s:S} {κ kp:S->Option R} {r:R}
theorem CR{p:PV}{off:Nat}{u:Ty}{y:u.den}(h2:((p.cells).drop off).take u.sz=aB u y)(h1:off+u.sz<=p.cells.length):p.sub off u.sz u.ag=aH u y:=by
 cases hu:u.ag
 ·have hs:=eB hu
  rw[hs,dq y hu]at h2
  have hlt:off<p.cells.length:=by omega
  rw[List.drop_eq_getElem_cons hlt]at h2
  simp only[List.take_succ_cons,List.take_zero,List.cons.injEq,and_true]at h2
  simp only[PV.sub,List.getD,List.getElem?_eq_getElem hlt,Option.getD_some]
  exact h2
 ·simp only[PV.sub]
  rw[d6 y hu,<-h2]
theorem uy(l:List PV):(l.map BV.pv).mapM BV.toPV=some l:=by
 induction l with
 |nil=>rfl
 |cons x l ih=>rw[List.map_cons,List.mapM_cons,ih];rfl
theorem t6{α:Type}(l m:List α)(k n:Nat)(h:l.length=n):(l++m).drop (k+n)=m.drop k:=by
 rw[<-h,Nat.add_comm,List.drop_append]
 simp
def JB(t:Ty)(n:Nat)(m:Int)(c:t.den)(cs:List PV):Prop:=∃k:Nat,m=(k:Int)/\k<n/\(cs.drop (k*t.sz)).take t.sz=aB t c/\k*t.sz+t.sz<=cs.length
theorem yr{t:Ty}{n:Nat}{m:Int}{c x:t.den}{cs:List PV}{o:Option t.den}(h:(bif decide (m=0)then some x else o)=some c)(hr:o=some c->JB t n (m - 1) c cs):JB t (n+1) m c (aB t x++cs):=by
 by_cases h0:m=0
 ·subst h0
  simp only[decide_true,cond_true,Option.some.injEq]at h
  subst h
  refine⟨0,rfl,by omega,?_,?_⟩
  ·rw[Nat.zero_mul,List.drop_zero,List.take_append_of_le_length (by rw[aG];exact Nat.le_refl _),List.take_of_length_le (by rw[aG];exact Nat.le_refl _)]
  ·simp[aG]
 ·simp only[h0,decide_false,cond_false]at h
  obtain⟨k,hk,hlt,h1,h2⟩:=hr h
  refine⟨k+1,by omega,by omega,?_,?_⟩
  ·rw[Nat.add_mul,Nat.one_mul,t6 _ _ _ _ (aG t x),h1]
  ·rw[List.length_append,aG t x,Nat.add_mul];omega
theorem Bw(t:Ty):∀(n:Nat) (v:V) (m:Int) (c:t.den) (cs:List PV),rowAt t n v m=some c->((cw v).map aM).mapM BV.toPV=some cs->JB t n m c cs:=by
 intro n
 induction n with
 |zero=>intro v m c cs h;simp[rowAt]at h
 |succ n ih=>
  intro v m c cs h hcs
  cases v with
  |d u x=>
   cases u with
   |pair a b=>
    simp only[rowAt]at h
    have hc:cs=aB a x.1++aB b x.2:=by
     rw[show cw (V.d (.pair a b) x)=fq (.pair a b) x from rfl,(da (.pair a b) x).1,uy]at hcs
     cases hcs;rfl
    split at h
    ·rename_i y hy
     obtain⟨e1,rfl⟩:=bF hy
     have:aB a x.1=aB a y:=by show(aH _ _).cells=(aH _ _).cells;rw[e1]
     rw[hc,this]
     exact yr h λh=>ih (.d b x.2) (m - 1) c _ h (by
      rw[show cw (V.d b x.2)=fq b x.2 from rfl,(da b x.2).1,uy])
    ·cases h
   |_=>simp[rowAt]at h
  |agg vs=>
   simp only[rowAt]at h
   split at h
   ·rename_i x l hx
    obtain⟨l0,rfl,hl0⟩:=rF t vs x l hx
    rw[show cw (V.agg (l0++l))=l0++l from rfl,List.map_append,List.mapM_append,hl0]at hcs
    simp only[Option.bind_eq_bind,Option.bind_some]at hcs
    cases hl:(l.map aM).mapM BV.toPV with
    |none=>rw[hl]at hcs;cases hcs
    |some cs'=>
     rw[hl]at hcs
     simp only[Option.bind_some,Option.pure_def,Option.some.injEq]at hcs
     rw[<-hcs]
     exact yr h λh=>ih (.agg l) (m - 1) c cs' h hl
   ·cases h
  |_=>simp[rowAt]at h
theorem mapM_len{α β:Type}{f:α->Option β}:∀{l:List α} {m:List β},l.mapM f=some m->m.length=l.length
 |[],m,h=>by cases h;rfl
 |x::l,m,h=>by
  rw[List.mapM_cons]at h
  cases hx:f x with
  |none=>rw[hx]at h;cases h
  |some y=>
   cases hl:l.mapM f with
   |none=>rw[hx,hl]at h;cases h
   |some m'=>rw[hx,hl]at h;cases h;simp[mapM_len hl]
theorem Gv(t:Ty):∀(n:Nat) (vs:List V) (m:Int) (c:t.den),rowAt t n (.agg vs) m=some c->∃j:Nat,m=(j:Int)/\j<n/\(((vs.drop (j*t.sz)).take t.sz).map aM).mapM BV.toPV=some (aB t c)/\j*t.sz+t.sz<=vs.length:=by
 intro n
 induction n with
 |zero=>intro vs m c h;simp[rowAt]at h
 |succ n ih=>
  intro vs m c h
  simp only[rowAt]at h
  split at h
  ·rename_i x l hx
   obtain⟨l0,rfl,hl0⟩:=rF t vs x l hx
   have hlen:l0.length=t.sz:=by
    have:=mapM_len hl0
    rw[aG,List.length_map]at this
    exact this.symm
   by_cases h0:m=0
   ·subst h0
    simp only[decide_true,cond_true,Option.some.injEq]at h
    subst h
    refine⟨0,rfl,by omega,?_,by simp[hlen]⟩
    rw[Nat.zero_mul,List.drop_zero,List.take_append_of_le_length (by omega),List.take_of_length_le (by omega)]
    exact hl0
   ·simp only[h0,decide_false,cond_false]at h
    obtain⟨j,hj,hlt,h1,h2⟩:=ih l (m - 1) c h
    refine⟨j+1,by omega,by omega,?_,?_⟩
    ·rw[Nat.add_mul,Nat.one_mul,t6 _ _ _ _ hlen]
     exact h1
    ·rw[List.length_append,hlen,Nat.add_mul];omega
  ·cases h
theorem vN(t:Ty)(cs:List V)(h:t.ag=false->cs≠[]):aS (whole t cs)=lu t.ag (cs.map aM):=by
 unfold whole
 cases ht:t.ag
 ·cases cs with
  |nil=>exact absurd rfl (h ht)
  |cons v cs=>cases v<;>rfl
 ·rfl
theorem rH:∀(vs:List V),vs.all V.cellD=true->∃cs,(vs.map aM).mapM BV.toPV=some cs
 |[],_=>⟨[],rfl⟩
 |v::vs,h=>by
  simp only[List.all_cons,Bool.and_eq_true]at h
  obtain⟨cs,hcs⟩:=rH vs h.2
  have:∃p,(aM v).toPV=some p:=by cases v<;>first|exact⟨_,rfl⟩|(have:=h.1;simp[V.cellD]at this)
  obtain⟨p,hp⟩:=this
  exact⟨p::cs,by simp only[List.map_cons,List.mapM_cons,hp,hcs];rfl⟩
theorem M1{v:V}{cs:List PV}(h:((cw v).map aM).mapM BV.toPV=some cs)(hv:(∃a b x,v= .d (.pair a b) x)\/∃vs,v= .agg vs):∃p,(aS v).toPV=some p/\p.cells=cs/\p.isAgg=true:=by
 rcases hv with⟨a,b,x,rfl⟩|⟨vs,rfl⟩
 ·rw[show cw (V.d (.pair a b) x)=fq (.pair a b) x from rfl,(da (.pair a b) x).1,uy]at h
  cases h
  exact⟨_,rfl,rfl,rfl⟩
 ·refine⟨.agg cs,?_,rfl,rfl⟩
  show((vs.map aM).mapM BV.toPV).map PV.agg=_
  rw[show cw (V.agg vs)=vs from rfl]at h
  rw[h];rfl
theorem Gu{t:Ty}{n:Nat}{v:V}{m:Int}{c:t.den}(h:rowAt t n v m=some c):(∃a b x,v= .d (.pair a b) x)\/∃vs,v= .agg vs:=by
 cases n with
 |zero=>simp[rowAt]at h
 |succ n=>
  cases v with
  |d u x=>cases u with
   |pair a b=>exact .inl ⟨a,b,x,rfl⟩
   |_=>simp[rowAt]at h
  |agg vs=>exact .inr ⟨vs,rfl⟩
  |_=>simp[rowAt]at h
theorem HY{n:Nat}{t:Ty}{x i:X}(hw:x.wf=true/\i.wf=true)(h:evOp O d (.idxV n t x i) s κ kp=some r):Pu P s (.idxV n t.sz t.ag x.er i.er) d κ r:=by
 simp only[evOp]at h
 split at h
 ·rename_i v hx
  obtain⟨h1,h⟩:=aR h
  rw[Bool.and_eq_true]at h1
  obtain⟨k,m,hi,h⟩:=eK h
  obtain⟨c,hc,hfin⟩:=ct h
  have hf:=Gu hc
  obtain⟨cs,hcs⟩:∃cs,((cw v).map aM).mapM BV.toPV=some cs:=by
   rcases hf with⟨a,b,y,rfl⟩|⟨vs,rfl⟩
   ·exact⟨_,by rw[show cw (V.d (.pair a b) y)=fq (.pair a b) y from rfl,(da (.pair a b) y).1,uy]⟩
   ·exact rH vs h1.2
  obtain⟨p,hp,hpc,hpa⟩:=M1 hcs hf
  obtain⟨j,rfl,hj,h3,h4⟩:=Bw t n v m c cs hc hcs
  have hlen:cs.length=n*t.sz:=by
   have:=Nat.eq_of_beq_eq_true h1.1
   have h2:=congrArg List.length hpc
   have hm:cs.length=((cw v).map aM).length:=mapM_len hcs
   rw[hm,List.length_map,this]
  refine⟨_,⟨_,aA hw.1 hx,_,aA hw.2 hi,_,rfl,_,_,rfl,p,hp,by omega,by omega,eB,by rw[hpc,hlen],hpa,?_⟩,hfin⟩
  show AV.p (p.sub ((j:Int).toNat*t.sz) t.sz t.ag)=AV.p (aH t c)
  rw[CR (u:=t) (y:=c)]
  ·rw[hpc];exact h3
  ·rw[hpc];exact h4
 ·cases h
theorem HV{t:Ty}{x i:X}(hw:x.wf=true/\i.wf=true)(h:evOp O d (.idxA t x i) s κ kp=some r):Pu P s (.idxA t.sz x.er i.er) d κ r:=by
 simp only[evOp]at h
 split at h
 ·rename_i id hx
  split at h
  ·rename_i e u xs ho
   obtain⟨h1,h5⟩:=aR h
   have hu:u=t:=by simpa using h1
   obtain⟨k,m,hi,h6⟩:=eK h5
   obtain⟨c,hc,h7⟩:=ct h6
   clear h h1 h5 h6
   subst hu
   obtain⟨h2,h3⟩:=wP hc
   have hlt:=(List.getElem?_eq_some_iff.1 h3).1
   refine⟨_,⟨_,aA hw.1 hx,_,aA hw.2 hi,_,rfl,_,_,rfl,.inr ⟨id,rfl,_,by rw[bO,ho];rfl,.inl ⟨e,_,rfl,h2,?_,show _=_ from rfl⟩⟩⟩,h7⟩
   rw[List.length_map];omega
  ·rename_i e kk u xs hole ho
   obtain⟨h1,h5⟩:=aR h
   have hu:u=t:=by simpa using h1
   obtain⟨k,m,hi,h6⟩:=eK h5
   obtain⟨c,hc,h7⟩:=ct h6
   clear h h1 h5 h6
   subst hu
   obtain⟨h2,h3⟩:=wP hc
   have hlt:=(List.getElem?_eq_some_iff.1 h3).1
   refine⟨_,⟨_,aA hw.1 hx,_,aA hw.2 hi,_,rfl,_,_,rfl,.inr ⟨id,rfl,_,by rw[bO,ho];rfl,.inr ⟨e,kk,_,_,rfl,h2,?_,show _=_ from rfl⟩⟩⟩,h7⟩
   rw[List.length_map];omega
  ·cases h
 ·rename_i u xs hx
  split at h
  ·rename_i ys hy
   obtain⟨e1,e2⟩:=bF hy
   obtain⟨k,m,hi,h⟩:=eK h
   obtain⟨c,hc,h⟩:=ct h
   obtain⟨h2,h3⟩:=wP hc
   have hlt:=(List.getElem?_eq_some_iff.1 h3).1
   refine⟨_,⟨_,aA hw.1 hx,_,aA hw.2 hi,_,rfl,_,_,rfl,.inl ⟨ys.map (aH t),?_,h2,?_,?_⟩⟩,h⟩
   ·show AV.p (aH _ _)=_
    rw[<-e1];rfl
   ·rw[List.length_map];omega
   ·show AV.p (.pto ((ys.map (aH t)).getD m.toNat .any))=_
    simp only[List.getD,List.getElem?_map,h3,Option.map_some,Option.getD_some]
    rfl
  ·cases h
 ·cases h
theorem HW{n:Nat}{t:Ty}{x i:X}(hw:x.wf=true/\i.wf=true)(h:evOp O d (.idxP n t x i) s κ kp=some r):Pu P s (.idxP n t.sz t.ag x.er i.er) d κ r:=by
 simp only[evOp]at h
 split at h
 ·rename_i id off k m hx
  obtain⟨h1,h⟩:=bB h
  simp only[Bool.and_eq_true,decide_eq_true_eq]at h1
  exact⟨_,⟨_,aA hw.1 hx,_,aA (s:=s) hw.2 rfl,_,rfl,k,_,rfl,h1.1,h1.2,.inl ⟨id,off,rfl,rfl⟩⟩,h⟩
 ·rename_i id off hx hne
  obtain⟨k,m,hi,h⟩:=eK h
  obtain⟨h1,h⟩:=bB h
  simp only[Bool.and_eq_true,decide_eq_true_eq]at h1
  exact⟨_,⟨_,aA hw.1 hx,_,aA hw.2 hi,_,rfl,k,_,rfl,h1.1,h1.2,.inl ⟨id,off,rfl,rfl⟩⟩,h⟩
 ·rename_i u y hx
  obtain⟨h1,h⟩:=aR h
  simp only[Bool.and_eq_true]at h1
  have hsz:=Nat.eq_of_beq_eq_true h1.1
  obtain⟨k,m,hi,h⟩:=eK h
  obtain⟨c,hc,hfin⟩:=ct h
  have hcs:((cw (.d u y)).map aM).mapM BV.toPV=some (aB u y):=by
   rw[show cw (V.d u y)=fq u y from rfl,(da u y).1,uy]
  obtain⟨j,rfl,hj,h3,h4⟩:=Bw t n _ m c _ hc hcs
  have hsub:(aH u y).sub ((j:Int).toNat*t.sz) t.sz t.ag=aH t c:=CR h3 h4
  refine⟨_,⟨_,aA hw.1 hx,_,aA hw.2 hi,_,rfl,k,_,rfl,by omega,by omega,.inr ⟨aH u y,rfl,?_,eB,?_,?_⟩⟩,hfin⟩
  ·show(aB u y).length=_
   rw[aG,hsz]
  ·rw[hsub,kN]
  ·rw[hsub];rfl
 ·cases h
theorem HU{off:Nat}{t:Ty}{x:X}(hw:x.wf=true)(h:evOp O d (.fldA off t x) s κ kp=some r):Pu P s (.fldA off t.sz t.ag x.er) d κ r:=by
 simp only[evOp]at h
 split at h
 ·rename_i u y hx
  split at h
  ·rename_i z hz
   obtain⟨h1,h2,h3⟩:=uv hz
   refine⟨_,⟨_,aA hw hx,.inl ⟨aH u y,rfl,h1,h2,?_,?_⟩⟩,h⟩
   ·rw[h3,kN]
   ·rw[h3];rfl
  ·cases h
 ·rename_i id o hx;exact⟨_,⟨_,aA hw hx,.inr (.inl ⟨id,o,rfl,rfl⟩)⟩,h⟩
 ·rename_i id i o hx;exact⟨_,⟨_,aA hw hx,.inr (.inr ⟨id,i,o,rfl,rfl⟩)⟩,h⟩
 ·cases h
theorem vr{α:Type}{l:List α}{n off:Nat}(h:off+n<=l.length)(hn:n=1):(l.drop off).take n≠[]:=by
 intro e
 have:=congrArg List.length e
 simp only[List.length_take,List.length_drop,List.length_nil]at this
 omega
theorem KN{off:Nat}{t:Ty}{x:X}(hw:x.wf=true)(h:evOp O d (.fld off t x) s κ kp=some r):Pu P s (.fld off t.sz t.ag x.er) d κ r:=by
 simp only[evOp]at h
 split at h
 ·rename_i u y hx
  obtain⟨hu,h⟩:=aR h
  split at h
  ·rename_i z hz
   obtain⟨h1,h2,h3⟩:=uv hz
   refine⟨_,⟨_,aA hw hx,.inl ⟨aH u y,rfl,?_,h1,h2,?_⟩⟩,h⟩
   ·rw[kN,hu]
   ·rw[h3];rfl
  ·cases h
 ·rename_i vs hx
  obtain⟨h1,h⟩:=aR h
  have hle:=Nat.le_of_ble_eq_true h1
  refine⟨_,⟨_,aA hw hx,.inr ⟨_,rfl,by rw[List.length_map];exact hle,eB,?_⟩⟩,h⟩
  rw[vN t _ λht=>vr hle (eB ht),List.map_take,List.map_drop]
 ·cases h
theorem H0{t:Ty}{x:X}(hw:x.wf=true)(h:evOp O d (.load t x) s κ kp=some r):Pu P s (.load t.sz t.ag x.er) d κ r:=by
 simp only[evOp,loadT]at h
 split at h
 ·rename_i u y hx
  split at h
  ·rename_i z hz
   obtain⟨e1,rfl⟩:=bF hz
   refine⟨_,⟨_,aA hw hx,?_⟩,h⟩
   show(aH u y).isAgg=_/\_/\AV.p (aH u y)=AV.p (aH u z)
   exact⟨kN u y,aG u y,by rw[e1]⟩
  ·cases h
 ·rename_i id off hx
  split at h
  ·rename_i tid cs ho
   obtain⟨h1,h⟩:=aR h
   have hle:=Nat.le_of_ble_eq_true h1
   refine⟨_,⟨_,aA hw hx,?_⟩,h⟩
   show aK _ _
   refine⟨_,by rw[bO,ho];rfl,tid,_,rfl,by rw[List.length_map];exact hle,eB,.inl ?_⟩
   rw[vN t _ λht=>vr hle (eB ht),List.map_take,List.map_drop]
  ·cases h
 ·rename_i id off n u m hx
  split at h
  ·rename_i tid cs ho
   obtain⟨h1,h⟩:=aR h
   simp only[Bool.and_eq_true,decide_eq_true_eq]at h1
   obtain⟨h1,rfl⟩:=h1
   have hle:=Nat.le_of_ble_eq_true h1
   obtain⟨c,hc,hfin⟩:=ct h
   obtain⟨j,rfl,hj,hl0,_⟩:=Gv u n _ m c hc
   have hrow:j*u.sz+u.sz<=n*u.sz:=by
    have:=Nat.mul_le_mul_right u.sz (show j+1<=n from hj)
    rw[Nat.add_mul,Nat.one_mul]at this
    exact this
   have hl':((((cs.drop off).take (n*u.sz)).drop (j*u.sz)).take u.sz)=(cs.drop (off+j*u.sz)).take u.sz:=by
    rw[List.drop_take,List.take_take,List.drop_drop]
    congr 1
    omega
   rw[hl']at hl0
   generalize hl2:(cs.drop (off+j*u.sz)).take u.sz=l0 at hl0
   refine⟨_,⟨_,aA hw hx,?_⟩,hfin⟩
   show aK _ _
   refine⟨_,by rw[bO,ho];rfl,tid,_,rfl,?_,eB,.inr ⟨aH u c,?_,rfl⟩⟩
   ·rw[List.length_map]
    show off+(j:Int).toNat*u.sz+u.sz<=_
    simp only[Int.toNat_natCast]
    omega
   ·show(lu u.ag (((cs.map aM).drop (off+(j:Int).toNat*u.sz)).take u.sz)).toPV=_
    rw[<-List.map_drop,<-List.map_take,Int.toNat_natCast,hl2]
    cases hu:u.ag
    ·rw[dq c hu]at hl0
     match l0,hl0 with
     |[v],hl0=>
      simp only[List.map_cons,List.map_nil,List.mapM_cons,List.mapM_nil]at hl0
      cases hv:(aM v).toPV with
      |none=>rw[hv]at hl0;cases hl0
      |some p=>rw[hv]at hl0;cases hl0;exact hv
     |[],hl0=>cases hl0
     |v::w::l,hl0=>
      have:=mapM_len hl0
      simp at this
    ·show(((l0.map aM).mapM BV.toPV).map PV.agg)=_
     rw[hl0,d6 c hu];rfl
  ·cases h
 ·rename_i id i off hx
  split at h
  ·rename_i e u xs ho
   obtain⟨hst,h⟩:=aR h
   obtain⟨y,hy,h⟩:=ct h
   split at h
   ·rename_i z hz
    obtain⟨h1,h2,h3⟩:=uv hz
    have hlt:=(List.getElem?_eq_some_iff.1 hy).1
    have hgd:(xs.map (aH u)).getD i .any=aH u y:=by
     simp only[List.getD,List.getElem?_map,hy,Option.map_some,Option.getD_some]
    refine⟨_,⟨_,aA hw hx,?_⟩,h⟩
    show aK _ _
    refine⟨_,by rw[bO,ho];rfl,.inl ⟨e,u.sz,_,rfl,by rw[List.length_map];exact hlt,by have:=h1;rw[show(aH u y).cells.length=u.sz from aG u y]at this;exact this,eB,?_⟩⟩
    by_cases hs:t.sz=u.sz
    ·obtain⟨g1,g2⟩:=nC u off t y z hz
     have hoff:off=0:=by omega
     subst hoff
     have hbe:Nat.beq t.sz u.sz=true:=by rw[hs];exact Nat.beq_refl _
     rw[hbe]at hst
     have hut:u=t:=by simpa using hst
     subst hut
     have hz2:aH u z=aH u y:=by
      rw[<-h3]
      refine CR ?_ (by rw[Nat.zero_add];exact Nat.le_of_eq (aG u y).symm)
      rw[List.drop_zero,List.take_of_length_le (by rw[aG];exact Nat.le_refl _)]
     refine .inl ⟨rfl,rfl,?_,?_⟩
     ·rw[hgd,kN]
     ·rw[hgd];show AV.p (aH u y)=AV.p (aH u z);rw[hz2]
    ·refine .inr ⟨hs,?_⟩
     rw[hgd,h3];rfl
   ·cases h
  ·rename_i e k u xs hole ho
   cases hf:k.flatB off t.sz
   ·rw[hf]at h
    simp only[cond_false]at h
    split at h
    ·rename_i hi hj v
     obtain⟨h1,hb1⟩:=aR h
     simp only[Bool.and_eq_true,Bool.not_eq_true']at h1
     obtain⟨⟨⟨h1,h2⟩,h5⟩,h3⟩:=h1
     obtain⟨y,hy,hb2⟩:=ct hb1
     obtain⟨h4,hb⟩:=bB hb2
     have e1:=Nat.eq_of_beq_eq_true h1
     have e2:=Nat.eq_of_beq_eq_true h4
     have h6:=Nat.le_of_ble_eq_true h5
     clear h h1 h4 h5
     subst e1;subst e2
     have hlt:=(List.getElem?_eq_some_iff.1 hy).1
     split at h3
     ·refine⟨_,⟨_,aA hw hx,?_⟩,hb⟩
      show aK _ _
      refine⟨_,by rw[bO,ho];rfl,.inr ⟨e,u.sz,k,_,_,rfl,by rw[List.length_map];exact hlt,?_,eB,.inr ⟨_,rfl,eB h2,h2,rfl⟩⟩⟩
      rw[eB h2];exact h6
     ·cases h3
    ·cases h
   ·rw[hf]at h
    simp only[cond_true]at h
    obtain⟨y,hy,h⟩:=ct h
    split at h
    ·rename_i z hz
     obtain⟨h1,h2,h3⟩:=uv hz
     have hlt:=(List.getElem?_eq_some_iff.1 hy).1
     have hgd:(xs.map (aH u)).getD i .any=aH u y:=by
      simp only[List.getD,List.getElem?_map,hy,Option.map_some,Option.getD_some]
     refine⟨_,⟨_,aA hw hx,?_⟩,h⟩
     show aK _ _
     refine⟨_,by rw[bO,ho];rfl,.inr ⟨e,u.sz,k,_,_,rfl,by rw[List.length_map];exact hlt,by have:=h1;rw[show(aH u y).cells.length=u.sz from aG u y]at this;exact this,eB,.inl ⟨hf,?_⟩⟩⟩
     rw[hgd,h3];rfl
    ·cases h
  ·cases h
 ·cases h
end
end Go.Ev
namespace Go.Ev
open Go Go.RowKit Go.Av
section
variable {R:Type} {P:Program} {O:aj} {d:Option Nat} {s:S} {κ kp:S->Option R} {r:R}
theorem lC{x:Option X}{dflt:Nat}{f:Nat->Option R}(hw:Ks x=true)(h:xo s x dflt f=some r):∃n,f n=some r/\∀(K:Nat->Prop),K n->bnd (enc s) (Gi x) dflt K:=by
 cases x with
 |none=>exact⟨dflt,h,λK hK=>hK⟩
 |some x=>
  simp only[xo]at h
  obtain⟨k,n,hx,h1⟩:=eK h
  obtain⟨h2,h3⟩:=bB h1
  exact⟨n.toNat,h3,λK hK=>⟨_,aA hw hx,_,rfl,k,n,rfl,by simpa using h2,hK⟩⟩
theorem jL{t:Ty}{o:Option V}{f:List t.den->Option R}(h:oR s.hp t o f=some r):∃v xs,o=some v/\f xs=some r/\(∀(K:List PV->Prop),K (xs.map (aH t))->mn (enc s).hp t.sz (aS v) K):=by
 unfold oR at h
 split at h
 ·rename_i id
  split at h
  ·rename_i e u xs ho
   split at h
   ·rename_i ys hy
    obtain⟨e2,e3⟩:=bH hy
    have e4:=Ty.list.inj e2
    subst e4
    have e5:ys=xs:=e3
    subst e5
    exact⟨_,ys,rfl,h,λK hK=>.inr (.inr (.inl ⟨id,e,_,rfl,by rw[bO,ho];rfl,hK⟩))⟩
   ·cases h
  ·cases h
 ·rename_i v hns
  split at h
  ·rename_i xs hx
   refine⟨v,xs,rfl,h,λK hK=>?_⟩
   cases v<;>simp only[gx]at hx<;>try cases hx
   ·obtain⟨e1,_⟩:=bF hx
    exact .inr (.inl ⟨_,by show AV.p _=_;rw[<-e1];rfl,hK⟩)
   ·obtain⟨e2,rfl⟩:=bH hx
    cases e2
    exact .inl ⟨rfl,hK⟩
   ·rename_i u y
    obtain⟨e2,rfl⟩:=bH hx
    cases e2
    exact .inr (.inr (.inr ⟨_,rfl,hK⟩))
  ·cases h
 ·cases h
theorem IK{t:Ty}{v:V}{f:List t.den->Option R}(hv:∀id,v≠.sl id)(h:oR s.hp t (some v) f=some r):∃xs,f xs=some r/\(aS v).toPV=some (ke t.sz (xs.map (aH t))):=by
 unfold oR at h
 split at h
 ·rename_i id heq;cases heq;exact absurd rfl (hv id)
 ·rename_i v' _ heq
  cases heq
  split at h
  ·rename_i xs hx
   exact⟨xs,h,by rw[Bc hx];exact lH hx⟩
  ·cases h
 ·cases h
theorem HH{t:Ty}(xs:List t.den)(l h:Nat):((xs.map (aH t)).take h).drop l=((xs.take h).drop l).map (aH t):=by rw[List.map_drop,List.map_take]
theorem KS{full:Bool}{t:Ty}{x:X}{lo hi mx:Option X}(hw:x.wf=true/\Ks lo=true/\Ks hi=true/\Ks mx=true)(h:evOp O d (.slc full t x lo hi mx) s κ kp=some r):Pu P s (.slc t.sz x.er (Gi lo) (Gi hi) (Gi mx)) d κ r:=by
 simp only[evOp]at h
 split at h
 ·cases h
 ·rename_i hns
  cases hx:s.get x with
  |none=>rw[hx]at h;cases h
  |some v=>
   rw[hx]at h
   obtain⟨xs,h1,hp⟩:=IK (λid e=>hns id (by rw[hx,e])) h
   obtain⟨l,h2,hl⟩:=lC hw.2.1 h1
   obtain⟨n,h3,hh⟩:=lC hw.2.2.1 h2
   obtain⟨m,h4,hm⟩:=lC hw.2.2.2 h3
   obtain⟨h5,h6⟩:=aR h4
   obtain⟨h7,h8⟩:=bB h6
   simp only[Bool.and_eq_true,decide_eq_true_eq]at h7
   have hmh:(Gi mx).isSome=true->(Gi hi).isSome=true:=by
    intro hh1
    cases mx<;>cases hi<;>simp_all[Gi]
   cases full with
   |false=>
    refine⟨_,⟨_,aA hw.1 hx,_,hp,_,rfl,hl _ ?_⟩,h8⟩
    rw[List.length_map]
    refine hh _ (hm _ ⟨hmh,h7.1.1,h7.1.2,h7.2,.inl ?_⟩)
    rw[HH];rfl
   |true=>
    obtain⟨h9,h10⟩:=bB h8
    simp only[Bool.and_eq_true,decide_eq_true_eq]at h9
    refine⟨_,⟨_,aA hw.1 hx,_,hp,_,rfl,hl _ ?_⟩,h10⟩
    rw[List.length_map]
    refine hh _ (hm _ ⟨hmh,h7.1.1,h7.1.2,h7.2,.inr ⟨?_,h9.2,?_⟩⟩)
    ·cases mx<;>simp_all[Gi]
    ·rw[HH];rfl
theorem FB(a:List UInt8)(l h:Nat):(⟨a.toArray⟩:ByteArray).extract l h=⟨((a.take h).drop l).toArray⟩:=by
 apply ByteArray.ext
 rw[ByteArray.data_extract]
 apply Array.ext'
 rw[Array.toList_extract]
 simp[List.extract,List.drop_take]
theorem H6{x:X}{lo hi:Option X}(hw:x.wf=true/\Ks lo=true/\Ks hi=true)(h:evOp O d (.slcS x lo hi) s κ kp=some r):Pu P s (.slcS x.er (Gi lo) (Gi hi)) d κ r:=by
 simp only[evOp]at h
 split at h
 ·rename_i a hx
  obtain⟨l,h2,hl⟩:=lC hw.2.1 h
  obtain⟨n,h3,hh⟩:=lC hw.2.2 h2
  obtain⟨h4,h5⟩:=bB h3
  simp only[Bool.and_eq_true,decide_eq_true_eq]at h4
  refine⟨_,⟨_,aA hw.1 hx,_,rfl,_,rfl,hl _ ?_⟩,h5⟩
  rw[tT]
  refine hh _ ⟨h4.1,h4.2,?_⟩
  rw[FB];rfl
 ·cases h
theorem H4{x:X}(hw:x.wf=true)(h:evOp O d (.nilc x) s κ kp=some r):Pu P s (.nilc x.er) d κ r:=by
 simp only[evOp]at h
 split at h
 ·rename_i v hx
  split at h
  ·exact⟨_,⟨_,aA hw hx,.inl ⟨_,rfl⟩,rfl⟩,h⟩
  ·exact⟨_,⟨_,aA hw hx,.inr (.inl ⟨_,_,rfl⟩),rfl⟩,h⟩
  ·exact⟨_,⟨_,aA hw hx,.inr (.inl ⟨_,_,rfl⟩),rfl⟩,h⟩
  ·exact⟨_,⟨_,aA hw hx,.inr (.inr (.inl ⟨_,_,_,rfl⟩)),rfl⟩,h⟩
  ·exact⟨_,⟨_,aA hw hx,.inr (.inr (.inr (.inr ⟨_,_,rfl⟩))),rfl⟩,h⟩
  ·exact⟨_,⟨_,aA hw hx,.inr (.inr (.inr (.inl ⟨_,_,rfl⟩))),rfl⟩,h⟩
  ·cases h
 ·cases h
theorem qa{v:V}(h:v.okB=true):(aS v).ok=true/\(cw v).map aM=(aS v).cells:=by
 have ht:∀vs,v≠.tup vs:=λvs e=>by subst e;cases h
 refine⟨?_,FK v ht⟩
 have hc:∀u:V,u.cellB=true->(aM u).cellOk=true:=by
  intro u hu
  cases u<;>simp only[V.cellB]at hu<;>try cases hu
  ·rename_i t x
   have h0:t.ag=false:=by simpa using hu
   have:=uo t x
   rw[dq x h0]at this
   have h2:(aH t x).cellOk=true:=by simpa using this
   exact h2
  all_goals first
   |rfl
   |skip
  rename_i v
  show(bq v).cellOk=true
  unfold bq
  split
  ·rfl
  ·exact hu
 cases v with
 |d t x=>
  show((AV.b (.pv (aH t x))).cells.all BV.cellOk)=true
  show((aB t x).map BV.pv).all BV.cellOk=true
  rw[List.all_map]
  exact uo t x
 |agg vs=>
  show(vs.map aM).all BV.cellOk=true
  rw[List.all_map]
  simp only[V.okB,List.all_eq_true]at h⊢
  exact λu hu=>hc u (h u hu)
 |tup vs=>cases h
 |raw v=>
  show(AV.b (bq v)).cells.all BV.cellOk=true
  have h1:=hc (.raw v) h
  show(AV.b (bq v)).cells.all BV.cellOk=true
  unfold bq
  split
  ·rfl
  ·have h2:v.oneCell'=true:=h
   show([PV.sc v].map BV.pv).all BV.cellOk=true
   simp[BV.cellOk,PV.cellOk,h2]
 |full t x=>rfl
 |nil t=>rfl
 |sl id=>rfl
 |ptr id o=>rfl
 |elt id i o=>rfl
 |dp t x=>rfl
 |clo f ids=>rfl
 |fnD f cs=>rfl
 |mp id=>rfl
 |pel id off n t i=>rfl
 |any=>cases h
 |lit k t x=>cases h
 |ifc=>rfl
theorem Hl{t:Ty}{v:V}{x:t.den}(h:cY t v=some x):v.okB=true:=by
 have hl:∀(u:Ty) (v:V) (y:u.den),u.ag=false->gx u v=some y->v.cellB=true:=by
  intro u v y hu h
  cases v<;>simp only[gx]at h<;>try cases h
  ·obtain⟨_,rfl⟩:=bF h;simp[V.cellB,hu]
  ·rfl
  ·rfl
 have ha:∀(t:Ty) (l:List V) (x:t.den) (m:List V),G9 t l=some (x,m)->∃l0,l=l0++m/\l0.all V.cellB=true:=by
  intro t
  have one:∀(t:Ty) (l:List V) (x:t.den) (m:List V),t.ag=false->(match l with
   |v::l=>match gx t v with
    |some x=>some (x,l)
    |none=>none
   |[]=>none)=some (x,m)->∃l0,l=l0++m/\l0.all V.cellB=true:=by
   intro t l x m ht h
   split at h
   ·rename_i v l'
    split at h
    ·rename_i y h1
     simp only[Option.some.injEq,Prod.mk.injEq]at h
     obtain⟨_,rfl⟩:=h
     exact⟨[v],rfl,by simp[hl t v y ht h1]⟩
    ·cases h
   ·cases h
  induction t with
  |unit=>intro l x m h;simp only[G9,Option.some.injEq,Prod.mk.injEq]at h;obtain⟨_,rfl⟩:=h;exact⟨[],rfl,rfl⟩
  |pair a b iha ihb=>
   intro l x m h
   simp only[G9]at h
   split at h
   ·rename_i y l1 h1
    split at h
    ·rename_i z l2 h2
     simp only[Option.some.injEq,Prod.mk.injEq]at h
     obtain⟨_,rfl⟩:=h
     obtain⟨p,rfl,hp⟩:=iha _ _ _ h1
     obtain⟨q,rfl,hq⟩:=ihb _ _ _ h2
     exact⟨p++q,by simp,by rw[List.all_append,hp,hq];rfl⟩
    ·cases h
   ·cases h
  |rx=>
   intro l x m h
   unfold G9 at h
   split at h
   ·rename_i a b c e l'
    split at h
    ·rename_i a' b' c' e' h1 h2 h3 h4
     simp only[Option.some.injEq,Prod.mk.injEq]at h
     obtain⟨_,rfl⟩:=h
     refine⟨[a,b,c,e],rfl,?_⟩
     simp[hl _ a _ rfl h1,hl _ b _ rfl h2,hl _ c _ rfl h3,hl _ e _ rfl h4]
    ·cases h
   ·cases h
  |int k=>intro l x m h;exact one (.int k) l x m rfl h
  |bool=>intro l x m h;exact one .bool l x m rfl h
  |str=>intro l x m h;exact one .str l x m rfl h
  |list t _=>intro l x m h;exact one (.list t) l x m rfl h
 cases v with
 |agg vs=>
  simp only[cY]at h
  split at h
  ·split at h
   ·rename_i y h1
    obtain⟨l0,rfl,h2⟩:=ha t _ _ _ h1
    rw[List.append_nil]
    exact h2
   ·cases h
  ·cases h
 |d t x=>rfl
 |nil t=>rfl
 |full t x=>rfl
 |_=>simp[cY,gx]at h
theorem HR{tid:TypeId}{t:Ty}{x:X}(hw:x.wf=true)(h:evOp O d (.boxD tid t x) s κ kp=some r):Pu P s (.boxD tid x.er) d κ r:=by
 simp only[evOp]at h
 split at h
 ·cases h
 ·rename_i v hne hx
  split at h
  ·rename_i y hy
   refine⟨_,⟨_,aA hw hx,_,eH hy,(qa (Hl hy)).1,λq e=>?_,rfl⟩,h⟩
   cases v<;>try cases e
   ·rename_i u z;exact hne u z rfl
   ·rename_i v;simp[cY,gx]at hy
  ·cases h
 ·cases h
theorem EH{tid:TypeId}{x:X}(hw:x.wf=true)(h:evOp O d (.iface tid x) s κ kp=some r):Pu P s (.iface tid x.er) d κ r:=by
 simp only[evOp]at h
 split at h
 ·rename_i v hx;exact⟨_,⟨_,aA hw hx,rfl⟩,h⟩
 ·cases h
end
end Go.Ev
namespace Go.Ev
open Go Go.RowKit Go.Av
section
variable {R:Type} {P:Program} {O:aj} {d:Option Nat} {s:S} {κ kp:S->Option R} {r:R}
theorem oz(cs:List V)(off:Nat)(vs:List V):(gS cs off vs).map aM=splice (cs.map aM) off (vs.map aM):=by
 simp[gS,splice,List.map_take,List.map_drop]
theorem tV:∀(parts:List (Nat×Nat×X)) (cs:List V) (f:List V->Option R),parts.all (λq=>q.2.2.wf)=true->evOp.buildT s cs parts f=some r->
 ∃ps cs',((parts.map λq=>(q.1,q.2.1,q.2.2.er)).mapM λq=>((enc s).get q.2.2).map λa=>(q.1,q.2.1,a))=some ps/\(∀q∈ps,q.2.2.ok=true/\q.2.2.cells.length=q.2.1/\q.1+q.2.1<=cs.length)/\
  cs'.map aM=ps.foldl (λcs q=>splice cs q.1 q.2.2.cells) (cs.map aM)/\f cs'=some r
 |[],cs,f,_,h=>⟨[],cs,rfl,λq hq=>(by cases hq),rfl,h⟩
 |(off,sz,x)::l,cs,f,hw,h=>by
  simp only[List.all_cons,Bool.and_eq_true]at hw
  simp only[evOp.buildT]at h
  split at h
  ·rename_i v hx
   obtain⟨h1,h2⟩:=aR h
   simp only[Bool.and_eq_true]at h1
   have hsz:=Nat.eq_of_beq_eq_true h1.1.1
   have hle:=Nat.le_of_ble_eq_true h1.1.2
   obtain⟨o1,o2⟩:=qa h1.2
   obtain⟨ps,cs',e1,e2,e3,e4⟩:=tV l _ f hw.2 h2
   have hl:(gS cs off (cw v)).length=cs.length:=by
    simp only[gS,List.length_append,List.length_take,List.length_drop]
    omega
   refine⟨(off,sz,aS v)::ps,cs',?_,λq hq=>?_,?_,e4⟩
   ·rw[List.map_cons,List.mapM_cons]
    simp only[aA hw.1 hx,e1]
    rfl
   ·rcases List.mem_cons.1 hq with rfl|hq
    ·exact⟨o1,by show(aS v).cells.length=sz;rw[<-o2,List.length_map,hsz],hle⟩
    ·have:=e2 q hq;rw[hl]at this;exact this
   ·rw[e3,oz,o2];rfl
  ·cases h
theorem EF{zero:List V}{parts:List (Nat×Nat×X)}(hw:zero.all V.konst=true/\parts.all (λq=>q.2.2.wf)=true)(h:evOp O d (.build zero parts) s κ kp=some r):
 Pu P s (.build (zero.map uA) (parts.map λq=>(q.1,q.2.1,q.2.2.er))) d κ r:=by
 simp only[evOp]at h
 obtain⟨ps,cs',e1,e2,e3,e4⟩:=tV parts zero _ hw.2 h
 have hz:(zero.map uA).map (λv=>bq v)=zero.map aM:=by
  rw[List.map_map]
  exact List.map_congr_left λv hv=>rR (List.all_eq_true.1 hw.1 v hv)
 refine⟨_,⟨ps,e1,λq hq=>by rw[List.length_map];exact e2 q hq,?_⟩,e4⟩
 rw[hz,<-e3];rfl
theorem lK{t:Ty}:∀(parts:List X) (f:List t.den->Option R),parts.all X.wf=true->evOp.listT s t parts f=some r->∃xs:List t.den,(parts.map X.er).mapM (λx=>((enc s).get x).bind AV.toPV)=some (xs.map (aH t))/\xs.length=parts.length/\f xs=some r
 |[],f,_,h=>⟨[],rfl,rfl,h⟩
 |x::l,f,hw,h=>by
  simp only[List.all_cons,Bool.and_eq_true]at hw
  simp only[evOp.listT]at h
  split at h
  ·rename_i v hx
   split at h
   ·rename_i y hy
    obtain⟨xs,h1,h2,h3⟩:=lK l _ hw.2 h
    refine⟨y::xs,?_,by simp[h2],h3⟩
    rw[List.map_cons,List.mapM_cons,h1]
    simp only[aA hw.1 hx,Option.bind_some,eH hy]
    rfl
   ·cases h
  ·cases h
theorem im{t:Ty}(xs:List t.den):∀p∈xs.map (aH t),p.cells.length=t.sz/\p.ok=true:=λp hp=>by
 obtain⟨x,_,rfl⟩:=List.mem_map.1 hp
 exact⟨aG t x,u9 t x⟩
theorem Br{tid:TypeId}{t:Ty}{len:Nat}{parts:List X}(hw:parts.all X.wf=true)(h:evOp O d (.bslice false tid t len parts) s κ kp=some r):Pu P s (.bslice false tid t.sz len (parts.map X.er)) d κ r:=by
 simp only[evOp]at h
 obtain⟨h1,h2⟩:=aR h
 simp only[Bool.and_eq_true]at h1
 obtain⟨xs,h3,h4,h5⟩:=lK parts _ hw h2
 refine⟨_,⟨_,h3,?_,Nat.le_of_ble_eq_true h1.1.2,Nat.le_of_ble_eq_true h1.2,im xs,.inl rfl⟩,h5⟩
 rw[List.length_map,h4]
 exact Nat.eq_of_beq_eq_true h1.1.1
theorem Er{k:Av.K}:∀(vs:List V) (ps:List PV) (n:Nat),(vs.map aM).mapM BV.toPV=some ps->(∀j,j<vs.length->(vs.getD j .any).isNil=(k.at (n+j)).isSome/\(vs.getD j .any).isRaw=false)->
 (vs.map aM).mapM BV.toPVn=some ((ps.zipIdx n).map fun(y,j)=>if(k.at j).isSome then nilP else y)
 |[],ps,n,h,_=>by simp at h;subst h;rfl
 |v::vs,ps,n,h,hk=>by
  simp only[List.map_cons,List.mapM_cons,Option.bind_eq_bind,Option.pure_def,Option.bind_eq_some_iff,Option.some.injEq]at h
  obtain⟨p,h1,ps',h2,rfl⟩:=h
  have ih:=Er vs ps' (n+1) h2 λj hj=>by
   have:=hk (j+1) (by simpa using hj)
   simpa[show n+(j+1)=n+1+j by omega]using this
  obtain⟨h3,h4⟩:=hk 0 (by simp)
  simp only[List.getD_cons_zero,Nat.add_zero]at h3 h4
  rw[List.map_cons,List.mapM_cons,ih]
  have:(aM v).toPVn=some (if(k.at n).isSome then nilP else p):=by
   rw[<-h3]
   cases v with
   |nil u=>rfl
   |raw u=>cases h4
   |_=>first
    |exact h1
    |cases h1
  rw[this]
  rfl
theorem IQ{k:Av.K}{t:Ty}{v:V}{y:t.den}(hd:cY t v=some y)(hn:Kq k v=true):(aS v).toPVn=some (cu k t y):=by
 simp only[Kq,Bool.and_eq_true,List.all_eq_true,List.mem_range,beq_iff_eq,Bool.not_eq_true']at hn
 obtain⟨h1,h2⟩:=hn
 have he:=eH hd
 cases v with
 |nil u=>
  have h3:=(h2 0 (by simp[cw])).1
  have h4:(k.at 0).isSome=true:=by rw[<-h3];rfl
  have h5:aH t y= .list 0 []:=by
   have:(aS (.nil u)).toPV=some (.list 0 []):=rfl
   rw[this]at he;exact(Option.some.inj he).symm
  show some nilP=some (cu k t y)
  unfold cu
  rw[h5]
  simp[h4]
 |agg vs=>
  have he':((vs.map aM).mapM BV.toPV).map PV.agg=some (aH t y):=he
  obtain⟨ps,h3,h4⟩:=Option.map_eq_some_iff.1 he'
  show((vs.map aM).mapM BV.toPVn).map PV.agg=_
  rw[Er (k:=k) vs ps 0 h3 λj hj=>by
   have:=h2 j hj
   rw[Nat.zero_add];exact this]
  simp only[Option.map_some,cu,<-h4,List.mapIdx_eq_zipIdx_map]
 |_=>cases h1
theorem we{k:Av.K}{t:Ty}:∀(parts:List X) (f:List t.den->Option R),parts.all X.wf=true->evOp.listN s k t parts f=some r->∃xs:List t.den,(parts.map X.er).mapM (λx=>((enc s).get x).bind AV.toPVn)=some (xs.map (cu k t))/\xs.length=parts.length/\f xs=some r
 |[],f,_,h=>⟨[],rfl,rfl,h⟩
 |x::l,f,hw,h=>by
  simp only[List.all_cons,Bool.and_eq_true]at hw
  simp only[evOp.listN]at h
  split at h
  ·rename_i v hx
   split at h
   ·rename_i y hy
    obtain⟨hn,h⟩:=aR h
    obtain⟨xs,h1,h2,h3⟩:=we l _ hw.2 h
    refine⟨y::xs,?_,by simp[h2],h3⟩
    rw[List.map_cons,List.mapM_cons,h1]
    simp only[aA hw.1 hx,Option.bind_some,IQ hy hn]
    rfl
   ·cases h
  ·cases h
theorem xE(k:Av.K)(t:Ty)(x:t.den):(cu k t x).cells=(aH t x).cells.mapIdx λj y=>if(k.at j).isSome then nilP else y:=by
 unfold cu
 cases h:aH t x with
 |agg cs=>rfl
 |_=>
  show(if(k.at 0).isSome then nilP else _).cells=[if(k.at 0).isSome then nilP else _]
  split<;>rfl
theorem AM{k:Av.K}{t:Ty}(xs:List t.den):∀p∈xs.map (cu k t),p.cells.length=t.sz/\p.ok=true:=λp hp=>by
 obtain⟨x,_,rfl⟩:=List.mem_map.1 hp
 have hc:=xE k t x
 refine⟨by rw[hc];simp[show(aH t x).cells.length=t.sz from aG t x],?_⟩
 show(cu k t x).cells.all PV.cellOk=true
 rw[hc]
 have:=u9 t x
 simp only[PV.ok,List.all_eq_true]at this⊢
 intro y hy
 rw[List.mem_mapIdx]at hy
 obtain⟨i,hi,rfl⟩:=hy
 split
 ·rfl
 ·exact this _ (List.getElem_mem hi)
theorem yi{tid:TypeId}{k:Av.K}{t:Ty}{len:Nat}{parts:List X}(hw:parts.all X.wf=true)(h:evOp O d (.bsliceN tid k t len parts) s κ kp=some r):Pu P s (.bsliceN tid t.sz len (parts.map X.er)) d κ r:=by
 simp only[evOp]at h
 obtain⟨h1,h2⟩:=aR h
 simp only[Bool.and_eq_true]at h1
 obtain⟨xs,h3,h4,h5⟩:=we parts _ hw h2
 refine⟨_,⟨_,h3,?_,Nat.le_of_ble_eq_true h1.1.2,Nat.le_of_ble_eq_true h1.2,AM xs,rfl⟩,h5⟩
 rw[List.length_map,h4]
 exact Nat.eq_of_beq_eq_true h1.1.1
theorem yh{tid:TypeId}{t:Ty}{len:Nat}{parts:List X}(hw:parts.all X.wf=true)(h:evOp O d (.bsliceF tid t len parts) s κ kp=some r):Pu P s (.bslice false tid t.sz len (parts.map X.er)) d κ r:=by
 simp only[evOp]at h
 obtain⟨h1,h2⟩:=aR h
 simp only[Bool.and_eq_true]at h1
 obtain⟨xs,h3,h4,h5⟩:=lK parts _ hw h2
 refine⟨_,⟨_,h3,?_,Nat.le_of_ble_eq_true h1.1.2,Nat.le_of_ble_eq_true h1.2,im xs,.inr rfl⟩,h5⟩
 rw[List.length_map,h4]
 exact Nat.eq_of_beq_eq_true h1.1.1
theorem HQ{tid:TypeId}{t:Ty}{bytes:Nat}{x y:X}(hw:x.wf=true/\y.wf=true)(h:evOp O d (.appD tid t bytes x y) s κ kp=some r):Pu P s (.appD tid t.sz bytes x.er y.er) d κ r:=by
 simp only[evOp]at h
 obtain⟨vy,ys,hy,h1,h2⟩:=jL h
 split at h1
 ·rename_i u hx
  obtain⟨h3,h4⟩:=bB h1
  refine⟨.d (.list t) ys,⟨_,aA hw.1 hx,_,aA hw.2 hy,h2 _ ⟨λp hp=>(im ys p hp).2,[],.inl ⟨rfl,rfl⟩,by rw[List.length_map];simpa using h3,rfl⟩⟩,h4⟩
 ·rename_i u xs hx
  split at h1
  ·rename_i zs hz
   obtain⟨e2,e3⟩:=bH hz
   have e4:=Ty.list.inj e2
   subst e4
   have e5:zs=xs:=e3
   subst e5
   obtain⟨h3,h4⟩:=bB h1
   refine⟨.d (.list u) (zs++ys),⟨_,aA hw.1 hx,_,aA hw.2 hy,h2 _ ⟨λp hp=>(im ys p hp).2,zs.map (aH u),.inr rfl,by rw[List.length_map,List.length_map];simpa using h3,?_⟩⟩,h4⟩
   show AV.p _=AV.p _
   rw[<-List.map_append];rfl
  ·cases h1
 ·cases h1
theorem KH{x:X}(hw:x.wf=true)(h:evOp O d (.b2s x) s κ kp=some r):Pu P s (.b2s x.er) d κ r:=by
 simp only[evOp]at h
 obtain⟨v,xs,hx,hf,hl⟩:=jL h
 have hb:∀l:List Int,bytesOf (l.map (aH (.int .u8)))=some l:=by
  intro l
  induction l with
  |nil=>rfl
  |cons x l ih=>
   show(bytesOf (l.map (aH (.int .u8)))).map (x::·)=_
   rw[ih];rfl
 refine⟨_,⟨_,aA hw hx,hl _ ⟨_,hb xs,?_⟩⟩,hf⟩
 rfl
theorem tZ:∀(caps:List X) (ids:List Nat),caps.all X.wf=true->evOp.capsOf s caps=some ids->(caps.map X.er).mapM (enc s).get=some (ids.map λi=>.b (.ptr i 0))
 |[],ids,_,h=>by cases h;rfl
 |x::l,ids,hw,h=>by
  simp only[List.all_cons,Bool.and_eq_true]at hw
  simp only[evOp.capsOf]at h
  split at h
  ·rename_i i hx
   split at h
   ·rename_i is hl
    cases h
    rw[List.map_cons,List.mapM_cons,aA hw.1 hx,tZ l is hw.2 hl]
    rfl
   ·cases h
  ·cases h
theorem vY:∀(caps:List X) (cs:List ((t:Ty)×t.den)),caps.all X.wf=true->evOp.capsD s caps=some cs->(caps.map X.er).mapM (enc s).get=some ((cs.map λc=>PV.pto (aH c.1 c.2)).map .p)
 |[],ids,_,h=>by cases h;rfl
 |x::l,ids,hw,h=>by
  simp only[List.all_cons,Bool.and_eq_true]at hw
  simp only[evOp.capsD]at h
  split at h
  ·rename_i i hx
   split at h
   ·rename_i is hl
    cases h
    rw[List.map_cons,List.mapM_cons,aA hw.1 hx,vY l is hw.2 hl]
    rfl
   ·cases h
  ·cases h
theorem H1{f:FuncId}{caps:List X}(hw:caps.all X.wf=true)(h:evOp O d (.mkfn f caps) s κ kp=some r):Pu P s (.mkfn f (caps.map X.er)) d κ r:=by
 simp only[evOp]at h
 split at h
 ·rename_i ids hids
  exact⟨_,⟨_,tZ caps ids hw hids,.inl ⟨ids,rfl,rfl⟩⟩,h⟩
 ·split at h
  ·rename_i cs hcs
   exact⟨_,⟨_,vY caps cs hw hcs,.inr ⟨_,rfl,rfl⟩⟩,h⟩
  ·cases h
theorem ui{k:IntKind}:∀(ys:List X) (f:List Int->Option R),ys.all X.wf=true->evOp.intsOf s k ys f=some r->∃ns:List Int,(ys.map X.er).mapM (enc s).get=some (ns.map λn=>.v (.int k n))/\f ns=some r
 |[],f,_,h=>⟨[],rfl,h⟩
 |x::l,f,hw,h=>by
  simp only[List.all_cons,Bool.and_eq_true]at hw
  simp only[evOp.intsOf]at h
  split at h
  ·rename_i k' n hx
   obtain⟨h1,h2⟩:=aR h
   have hk:k'=k:=by simpa using h1
   subst hk
   obtain⟨ns,h3,h4⟩:=ui l _ hw.2 h2
   refine⟨n::ns,?_,h4⟩
   rw[List.map_cons,List.mapM_cons,aA hw.1 hx,h3]
   rfl
  ·cases h
theorem H3{mx:Bool}{k:IntKind}{x:X}{ys:List X}(hw:x.wf=true/\ys.all X.wf=true)(h:evOp O d (.mnmx mx k x ys) s κ kp=some r):Pu P s (.mnmx mx k x.er (ys.map X.er)) d κ r:=by
 simp only[evOp]at h
 split at h
 ·rename_i k' n hx
  obtain⟨h0,h1⟩:=aR h
  have e:k'=k:=by simpa using h0
  subst e
  obtain⟨ns,h2,h3⟩:=ui ys _ hw.2 h1
  refine⟨_,⟨_,aA hw.1 hx,_,rfl,_,_,rfl,_,h2,ns,rfl,rfl,?_⟩,h3⟩
  have:(fun(a b:Int)=>if mx=true then max a b else min a b)=λa b=>bif mx then max a b else min a b:=by
   funext a b;cases mx<;>rfl
  rw[this];rfl
 ·cases h
theorem FY:∀(t:Ty) (x y:t.den),t.eqOk=true->wB t x y=true->x=y
 | .int _,x,y,_,h=>by simpa[wB]using h
 | .bool,x,y,_,h=>by simpa[wB]using h
 | .str,x,y,_,h=>by simpa[wB]using h
 | .unit,_,_,_,_=>rfl
 | .pair a b,x,y,h,h2=>by
  simp only[Ty.eqOk,Bool.and_eq_true]at h
  simp only[wB,Bool.and_eq_true]at h2
  exact Prod.ext (FY a x.1 y.1 h.1 h2.1) (FY b x.2 y.2 h.2 h2.2)
theorem NN(a b:List UInt8):((⟨a.toArray⟩:ByteArray)==⟨b.toArray⟩)=(a==b):=
 (show _=(a.toArray==b.toArray)from rfl).trans (by simp)
theorem Cm(P:Program):∀(d:Nat) (t:TypeId) (u:Ty),s7 P d t u=true->∀x y:u.den,eqP P d t (aH u x) (aH u y)=some (wB u x y)/\vk P d t (aH u x)=true:=by
 intro d
 induction d with
 |zero=>intro t u h;simp[s7]at h
 |succ d ih=>
  intro t u h x y
  unfold s7 at h
  have fs:∀(l:List Field) (off:Nat) (u:Ty) (x y:u.den) (xs ys:List PV),LX P (s7 P d) l off u=true->off<=xs.length->xs.drop off=aB u x->off<=ys.length->ys.drop off=aB u y->
   eqP.eqFs P d l xs ys=some (wB u x y)/\(l.all λf=>f.name != "_" &&(match P.info? f.type with
    |some i=>(P.underlying f.type).isSome&&decide (f.offset+i.size<=xs.length)&&(fG P f.type||decide (i.size=1))&&vk P d f.type ((PV.agg xs).sub f.offset i.size (fG P f.type))
    |none=>false))=true:=by
   intro l
   induction l with
   |nil=>
    intro off u x y xs ys h _ _ _ _
    cases u<;>simp[LX]at h
    exact⟨by unfold eqP.eqFs;rfl,rfl⟩
   |cons f l ihl=>
    intro off u x y xs ys h hle1 hd1 hle2 hd2
    cases u<;>try (simp[LX]at h;done)
    rename_i a b
    simp only[LX,Bool.and_eq_true]at h
    obtain⟨⟨⟨⟨hn,ho⟩,hi⟩,hf⟩,hr⟩:=h
    have ho:=Nat.eq_of_beq_eq_true ho
    cases hin:P.info? f.type with
    |none=>rw[hin]at hi;cases hi
    |some i=>
     rw[hin]at hi
     simp only[Bool.and_eq_true]at hi
     obtain⟨⟨hsz,hu⟩,hag⟩:=hi
     have hsz:=Nat.eq_of_beq_eq_true hsz
     have hag:fG P f.type=a.ag:=by simpa using hag
     have hname:f.name≠ "_" :=by simpa using hn
     have cut:∀(z:(Ty.pair a b).den) (zs:List PV),off<=zs.length->zs.drop off=aB (.pair a b) z->(PV.agg zs).sub f.offset i.size (fG P f.type)=aH a z.1/\f.offset+i.size<=zs.length/\zs.drop (off+a.sz)=aB b z.2:=by
      intro z zs hle hd
      have hc:aB (.pair a b) z=aB a z.1++aB b z.2:=rfl
      rw[hc]at hd
      have hl:=congrArg List.length hd
      simp only[List.length_drop,List.length_append,aG]at hl
      refine⟨?_,by omega,?_⟩
      ·rw[ho,hsz,hag]
       refine CR ?_ ?_
       ·show(zs.drop off).take a.sz=_
        rw[hd,List.take_append_of_le_length (by rw[aG];exact Nat.le_refl _),List.take_of_length_le (by rw[aG];exact Nat.le_refl _)]
       ·show off+a.sz<=zs.length
        omega
      ·rw[<-List.drop_drop,hd,List.drop_append_of_le_length (by rw[aG];exact Nat.le_refl _),List.drop_of_length_le (by rw[aG];exact Nat.le_refl _),List.nil_append]
     obtain⟨c1,c2,c3⟩:=cut x xs hle1 hd1
     obtain⟨c4,c5,c6⟩:=cut y ys hle2 hd2
     obtain⟨e1,k1⟩:=ih f.type a hf x.1 y.1
     obtain⟨e2,k2⟩:=ihl (off+a.sz) b x.2 y.2 xs ys hr (by omega) c3 (by omega) c6
     have hone:fG P f.type=false->i.size=1:=λh=>by rw[hsz];exact eB (by rw[<-hag,h])
     refine⟨?_,?_⟩
     ·unfold eqP.eqFs
      rw[if_neg hname,hin]
      simp only[Option.bind_some]
      rw[if_neg (by
       rintro(h|h|h|h)
       ·rw[Option.isNone_iff_eq_none]at h;rw[h]at hu;cases hu
       ·omega
       ·omega
       ·exact h.2 (hone h.1)),c1,c4,e1]
      simp only[Option.bind_some,wB]
      cases wB a x.1 y.1
      ·rfl
      ·simp only[if_true,Bool.true_and];exact e2
     ·rw[List.all_cons,k2,hin]
      simp only[c1,k1,hu,Bool.and_true,Bool.true_and]
      have h1:(f.name != "_")=true:=hn
      have h2:decide (f.offset+i.size<=xs.length)=true:=by simpa using c2
      have h3:(fG P f.type||decide (i.size=1))=true:=by
       cases h:fG P f.type
       ·simp[hone h]
       ·rfl
      rw[h1,h2,h3];rfl
  have st:∀fl,P.underlying t=some (.struct fl)->(!P.stoodInHeld t&&LX P (s7 P d) fl.toList 0 u)=true->eqP P (d+1) t (aH u x) (aH u y)=some (wB u x y)/\vk P (d+1) t (aH u x)=true:=by
   intro fl hu h
   simp only[Bool.and_eq_true]at h
   have hst:P.stoodInHeld t=false:=by simpa using h.1
   have hag:u.ag=true:=by
    cases hl:fl.toList with
    |nil=>rw[hl]at h;cases u<;>simp[LX]at h;rfl
    |cons f l=>rw[hl]at h;cases u<;>simp[LX]at h;rfl
   obtain⟨g1,g2⟩:=fs fl.toList 0 u x y (aB u x) (aB u y) h.2 (Nat.zero_le _) rfl (Nat.zero_le _) rfl
   rw[d6 x hag,d6 y hag]
   refine⟨?_,?_⟩
   ·unfold eqP;rw[hu]
    simp only[hst]
    exact g1
   ·unfold vk;rw[hu]
    exact g2
  split at h
  ·rename_i hu;exact⟨by unfold eqP;rw[hu];rfl,by unfold vk;rw[hu];rfl⟩
  ·rename_i k k' hu
   refine⟨?_,by unfold vk;rw[hu];rfl⟩
   unfold eqP;rw[hu]
   show(if k'=k' then some (_==_)else none)=_
   rw[if_pos rfl];rfl
  ·rename_i hu
   refine⟨?_,by unfold vk;rw[hu];rfl⟩
   unfold eqP;rw[hu]
   show some (_==_)=_
   rw[NN];rfl
  ·exact st _ ‹_› h
  ·cases h
theorem KL{neg:Bool}{tid:TypeId}{t:Ty}{x y:X}(hw:x.wf=true/\y.wf=true/\s7 P 64 tid t=true)(h:evOp O d (.eqT neg tid t x y) s κ kp=some r):Pu P s (.eqT neg tid x.er y.er) d κ r:=by
 simp only[evOp]at h
 split at h
 ·rename_i v u hx hy
  split at h
  ·rename_i a b ha hb
   obtain⟨_,h2⟩:=aR h
   refine⟨_,⟨_,aA hw.1 hx,_,aA hw.2.1 hy,_,eH ha,_,eH hb,_,(Cm P 64 tid t hw.2.2 a b).1,?_⟩,h2⟩
   rfl
  ·cases h
 ·cases h
theorem xO{k:TypeId}{a b:Ty}(hf:s7 P 64 k a=true)(y:a.den):∀(kvs:List (a.den×b.den)) (i:Nat),(∀kv∈kvs.map (λp=>(aH a p.1,aH b p.2)),(eqP P 64 k (aH a y) kv.1).isSome=true)/\
 ((fJ a b kvs y=none/\qu P k (aH a y) (kvs.map λp=>(aH a p.1,aH b p.2)) i=some none)\/
  ∃j v k',fJ a b kvs y=some v/\kvs[j]? =some (k',v)/\wB a y k'=true/\(∀i' kv,i'<j->kvs[i']? =some kv->wB a y kv.1=false)/\qu P k (aH a y) (kvs.map λp=>(aH a p.1,aH b p.2)) i=some (some (i+j,aH b v)))
 |[],i=>⟨λkv h=>(by cases h),.inl ⟨rfl,rfl⟩⟩
 |(k',v)::l,i=>by
  obtain⟨h1,h2⟩:=xO hf y l (i+1)
  have he:=(Cm P 64 k a hf y k').1
  refine⟨λkv h=>?_,?_⟩
  ·rcases List.mem_cons.1 h with rfl|h
   ·simp only[he];rfl
   ·exact h1 kv h
  ·have hstep:qu P k (aH a y) (((k',v)::l).map λp=>(aH a p.1,aH b p.2)) i=if wB a y k'=true then some (some (i,aH b v))else qu P k (aH a y) (l.map λp=>(aH a p.1,aH b p.2)) (i+1):=by
    show(eqP P 64 k (aH a y) (aH a k')).bind _=_
    rw[he];rfl
   cases hb:wB a y k'
   ·rw[hb]at hstep
    simp only[Bool.false_eq_true,if_false]at hstep
    have hg:fJ a b ((k',v)::l) y=fJ a b l y:=by simp[fJ,hb]
    rcases h2 with⟨h3,h4⟩|⟨j,u,k2,h3,h4,h5,h7,h6⟩
    ·exact .inl ⟨by rw[hg,h3],by rw[hstep,h4]⟩
    ·refine .inr ⟨j+1,u,k2,by rw[hg,h3],by simpa using h4,h5,λi' kv hi' hkv=>?_,by rw[hstep,h6];congr 2;congr 1;omega⟩
     cases i' with
     |zero=>simp at hkv;subst hkv;exact hb
     |succ i'=>exact h7 i' kv (by omega) (by simpa using hkv)
   ·rw[hb]at hstep
    refine .inr ⟨0,v,k',by simp[fJ,hb],rfl,hb,λi' kv hi'=>absurd hi' (by omega),by rw[hstep];rfl⟩
theorem Ed{k:TypeId}{a:Ty}(hf:s7 P 64 k a=true):(P.underlying k).isSome=true:=by
 unfold s7 at hf
 split at hf<;>first|(rename_i h;rw[h];rfl)|skip
 all_goals first
  |(simp_all;done)
  |cases hf
theorem Nw{b:Ty}(h:b.sc=true):aH b b.zero= .sc (mX b):=by cases b<;>simp[Ty.sc]at h<;>rfl
theorem Bs{k e:TypeId}{ok:Bool}{a b:Ty}{m x:X}(hw:m.wf=true/\x.wf=true/\s7 P 64 k a=true/\b.sc=true)(h:evOp O d (.lookup k e ok a b m x) s κ kp=some r):Pu P s (.lookup k e ok (mX b) m.er x.er) d κ r:=by
 simp only[evOp]at h
 split at h
 ·rename_i id v hm hx
  split at h
  ·rename_i k' e' a' b' kvs y ho hy
   split at h
   ·rename_i kvs2 hkv
    obtain⟨h1,h2⟩:=aR h
    simp only[Bool.and_eq_true]at h1
    have e1:=Nat.eq_of_beq_eq_true h1.1.1
    have e2:=Nat.eq_of_beq_eq_true h1.1.2
    obtain⟨e3,e4⟩:=bH hkv
    have e5:=Ty.list.inj e3
    injection e5 with e6 e7
    clear h h1
    subst e1;subst e2;subst e6;subst e7
    have e8:kvs2=kvs:=e4
    subst e8
    obtain⟨g1,g2⟩:=xO (P:=P) (b:=b') hw.2.2.1 y kvs2 0
    have hrd:∀(K:AV->Prop) (ok:Bool),K (match ok with
     |true=>.tup [.pv (aH b' ((fJ a' b' kvs2 y).getD b'.zero)),.pv (.sc (.bool (fJ a' b' kvs2 y).isSome))]
     |false=>.p (aH b' ((fJ a' b' kvs2 y).getD b'.zero)))->g8 P (enc s) (.lookup k e ok (mX b') m.er x.er) K:=by
     intro K ok hK
     refine⟨_,aA hw.1 hm,_,aA hw.2.1 hx,id,_,rfl,by rw[bO,ho];rfl,_,eH hy,(Cm P 64 k a' hw.2.2.1 y y).2,Ed hw.2.2.1,g1,?_⟩
     rcases g2 with⟨g3,g4⟩|⟨j,v,k',g3,g4,g5,g7,g6⟩
     ·refine⟨_,g4,?_⟩
      rw[g3]at hK
      simp only[Option.getD_none,Nw hw.2.2.2]at hK
      exact hK
     ·refine⟨_,g6,?_⟩
      rw[g3]at hK
      exact hK
    cases ok with
    |true=>exact⟨_,hrd _ true rfl,h2⟩
    |false=>exact⟨_,hrd _ false rfl,h2⟩
   ·cases h
  ·cases h
 ·cases h
end
end Go.Ev
namespace Go.Ev
open Go Go.RowKit Go.Av
theorem e9(a b:Nat):Nat.beq a b=decide (a=b):=by
 cases h:Nat.beq a b
 ·exact(decide_eq_false λe=>by rw[e,Nat.beq_refl]at h;cases h).symm
 ·exact(decide_eq_true (Nat.eq_of_beq_eq_true h)).symm
theorem vi(l:List Nat)(x:Nat):mP l x=l.contains x:=by
 induction l with
 |nil=>rfl
 |cons y l ih=>
  simp only[mP,List.any_cons,List.contains_cons]at ih⊢
  rw[ih]
  congr 1
  rw[e9]
  by_cases h:x=y<;>simp[h]
theorem inL_mem{l:List Nat}{x:Nat}:mP l x=true↔x∈l:=by rw[vi,List.contains_iff_mem]
theorem allIn_mem{l m:List Nat}:allIn l m=true↔∀i∈m,i∈l:=by simp only[allIn,List.all_eq_true,inL_mem]
theorem xk:Ds=fU:=by
 funext B n k
 unfold Ds fU
 by_cases h:k<B.length
 ·rw[if_pos h,Nat.ble_eq_true_of_le h];rfl
 ·rw[if_neg h]
  have:Nat.ble (k+1) B.length=false:=by
   cases hb:Nat.ble (k+1) B.length
   ·rfl
   ·exact absurd (Nat.le_of_ble_eq_true hb) h
  rw[this];rfl
theorem FP(v:Value)(ρ:Nat->Nat):(bq v).ren ρ=bq v:=by unfold bq;split<;>rfl
theorem xv(v:Value):(bq v).ids=[]:=by unfold bq;split<;>rfl
theorem DG(v:Value)(i:Nat):(bq v).kill i=bq v:=by unfold bq;split<;>rfl
theorem B8(v:Value)(B:List Nat):(bq v).killB B=bq v:=by unfold bq;split<;>rfl
theorem xD(ρ:Nat->Nat)(v:V):aM (v.ren ρ)=(aM v).ren ρ:=by
 cases v<;>first|rfl|exact(FP _ ρ).symm
theorem ua(v:V):v.ids1=(aM v).ids:=by
 cases v<;>first|rfl|exact(xv _).symm
theorem u6(id:Nat)(v:V):aM (v.kill1 id)=(aM v).kill id:=by
 cases v<;>first|rfl|exact(DG _ id).symm|skip
 ·rename_i k
  show aM (bif Nat.beq k id then .any else .sl k)=if k=id then _ else _
  rw[e9]
  by_cases h:k=id<;>simp[h,aM]
 ·rename_i k i o
  show aM (bif Nat.beq k id then .any else .elt k i o)=if k=id then _ else _
  rw[e9]
  by_cases h:k=id<;>simp[h,aM]
theorem s6(B:List Nat)(v:V):aM (p6 B v)=(aM v).killB B:=by
 cases v<;>first|rfl|exact(B8 _ B).symm|skip
 ·rename_i k
  show aM (bif mP B k then .any else .sl k)=if B.contains k=true then _ else _
  rw[vi]
  cases h:B.contains k<;>simp[aM]
 ·rename_i k i o
  show aM (bif mP B k then .any else .elt k i o)=if B.contains k=true then _ else _
  rw[vi]
  cases h:B.contains k<;>simp[aM]
theorem mg{v:V}(h:v.isA=false):aS v= .b (aM v):=by cases v<;>first|rfl|cases h
theorem Kl{g:V->V}{v:V}(h:v.isA=false):kf g v=g v:=by cases v<;>first|rfl|cases h
theorem xB{g:V->V}{G:BV->BV}(hg:∀v,aM (g v)=G (aM v))(ha:∀v,v.isA=false->(g v).isA=false)(v:V):
 aS (kf g v)=(match aS v with| .b x=>.b (G x)| .agg xs=>.agg (xs.map G)| .tup xs=>.tup (xs.map G)):=by
 have hm:∀vs:List V,(vs.map g).map aM=(vs.map aM).map G:=λvs=>by
  rw[List.map_map,List.map_map]
  exact List.map_congr_left λv _=>hg v
 cases hv:v.isA
 ·rw[Kl hv,mg hv,mg (ha v hv),hg]
 ·cases v with
  |agg vs=>show AV.agg _=AV.agg _;rw[hm]
  |tup vs=>show AV.tup _=AV.tup _;rw[hm]
  |_=>cases hv
theorem xC(ρ:Nat->Nat)(v:V):aS (kf (V.ren ρ) v)=(aS v).ren ρ:=by
 rw[xB (G:=BV.ren ρ) (xD ρ) λv h=>by cases v<;>first|rfl|cases h]
 cases aS v<;>rfl
theorem ID(id:Nat)(v:V):aS (kf (V.kill1 id) v)=(aS v).kill id:=by
 rw[xB (G:=BV.kill id) (u6 id) λv h=>by
  cases v<;>first|rfl|(simp only[V.kill1];cases Nat.beq _ id<;>rfl)|cases h]
 cases aS v<;>rfl
theorem FW(B:List Nat)(v:V):aS (kf (p6 B) v)=(aS v).killB B:=by
 rw[xB (G:=BV.killB B) (s6 B) λv h=>by
  cases v<;>first|rfl|(simp only[p6];cases mP B _<;>rfl)|cases h]
 cases aS v<;>rfl
theorem lE(v:V):v.ids=(aS v).ids:=by
 have hm:∀vs:List V,vs.flatMap V.ids1=(vs.map aM).flatMap BV.ids:=λvs=>by
  induction vs with
  |nil=>rfl
  |cons v vs ih=>simp only[List.flatMap_cons,List.map_cons,ih,ua]
 cases hv:v.isA
 ·rw[mg hv]
  have:v.ids=v.ids1:=by cases v<;>first|rfl|cases hv
  rw[this]
  exact ua v
 ·cases v with
  |agg vs=>exact hm vs
  |tup vs=>exact hm vs
  |_=>cases hv
theorem ub(ρ:Nat->Nat)(o:Ob):bN (re (V.ren ρ) o)=(bN o).ren ρ:=by
 cases o<;>first|rfl|skip
 rotate_left
 ·rename_i hole
  cases hole with
  |none=>rfl
  |some q=>obtain⟨i,j,v⟩:=q;show AObj.tree _ _ _ _ (some (_,_,aM _))=AObj.tree _ _ _ _ (some (_,_,_));rw[xD ρ v]
 show AObj.box _ _=AObj.box _ _
 rw[List.map_map,List.map_map]
 congr 1
 exact List.map_congr_left λv _=>xD ρ v
theorem IE(id:Nat)(o:Ob):bN (re (V.kill1 id) o)=(bN o).kill id:=by
 cases o<;>first|rfl|skip
 rotate_left
 ·rename_i hole
  cases hole with
  |none=>rfl
  |some q=>obtain⟨i,j,v⟩:=q;show AObj.tree _ _ _ _ (some (_,_,aM _))=AObj.tree _ _ _ _ (some (_,_,_));rw[u6 id v]
 show AObj.box _ _=AObj.box _ _
 rw[List.map_map,List.map_map]
 congr 1
 exact List.map_congr_left λv _=>u6 id v
theorem FX(B:List Nat)(o:Ob):bN (re (p6 B) o)=(bN o).killB B:=by
 cases o<;>first|rfl|skip
 rotate_left
 ·rename_i hole
  cases hole with
  |none=>rfl
  |some q=>obtain⟨i,j,v⟩:=q;show AObj.tree _ _ _ _ (some (_,_,aM _))=AObj.tree _ _ _ _ (some (_,_,_));rw[s6 B v]
 show AObj.box _ _=AObj.box _ _
 rw[List.map_map,List.map_map]
 congr 1
 exact List.map_congr_left λv _=>s6 B v
theorem qY(o:Ob):o.ids=(bN o).ids:=by
 cases o<;>first|rfl|skip
 rotate_left
 ·rename_i hole
  cases hole with
  |none=>rfl
  |some q=>obtain⟨i,j,v⟩:=q;exact ua v
 show List.flatMap _ _=List.flatMap _ (List.map _ _)
 rw[List.flatMap_map]
 congr 1
 funext v
 exact ua v
theorem u7(s:S)(id:Nat)(o:Ob):enc (s.moved id o)=(enc s).moved id (bN o):=by
 simp only[enc,S.moved,St.moved,d9,List.map_map,List.map_set]
 congr 1
 ·exact List.map_congr_left λx _=>by simp[ID]
 ·congr 1
  exact List.map_congr_left λo _=>IE id o
theorem AF(B:List Nat)(os:List Ob)(n:Nat):∀(l:List Ob) (i:Nat),(Hb B os n i l).map bN=(l.map bN).mapIdx (λj o=>if B.contains (i+j)then(((os.map bN).getD (B.idxOf (i+j)) .gone).ren (fU B n))else o.killB B)
 |[],_=>rfl
 |o::l,i=>by
  simp only[Hb,List.map_cons,List.mapIdx_cons,Nat.add_zero]
  rw[AF B os n l (i+1)]
  congr 1
  ·rw[vi]
   cases h:B.contains i
   ·simp[FX]
   ·simp only[cond_true,if_true,ub,xk,zJ]
    congr 1
    simp only[List.getD,List.getElem?_map]
    cases os[B.idxOf i]? <;>rfl
  ·congr 1
   funext j o
   rw[show i+1+j=i+(j+1) by omega]
theorem DV(s:S)(B:List Nat)(os:List Ob):enc (s.back B os)=(enc s).back B (os.map bN):=by
 simp only[enc,S.back,St.back,qP]
 congr 1
 ·rw[List.map_map,List.map_map]
  exact List.map_congr_left λx _=>by simp[FW]
 ·rw[List.map_append,AF]
  congr 1
  ·simp only[Nat.zero_add,List.length_map]
  ·rw[<-List.map_drop,List.map_map,List.map_map]
   exact List.map_congr_left λo _=>by simp[ub,xk]
section
variable {P:Program} {s:S}
theorem wi:∀(B:List Nat) (os:List Ob),HK s B=some os->B.mapM ((enc s).hp[·]?)=some (os.map bN)
 |[],os,h=>by cases h;rfl
 |i::B,os,h=>by
  simp only[HK]at h
  split at h
  ·rename_i o ho
   split at h
   ·rename_i l hl
    cases h
    rw[List.mapM_cons,wi B l hl,bO,ho]
    rfl
   ·cases h
  ·cases h
theorem IM{α β:Type}{f:α->Option β}{l:List α}{x:α}(hx:x∈l)(h:f x=none):l.mapM f=none:=by
 induction l with
 |nil=>cases hx
 |cons y l ih=>
  rw[List.mapM_cons]
  rcases List.mem_cons.1 hx with rfl|hx
  ·rw[h];rfl
  ·rw[ih hx];cases f y<;>rfl
theorem Fz{hp:List AObj}{bor:Bool}{B:List Nat}{t:Ty}{v:V}{x:t.den}(h:cY t v=some x):qq hp bor B (aS v)=some (aS (.d t x)):=by
 have hd:=eH h
 cases v with
 |d u y=>obtain⟨e1,_⟩:=bF (show bX u t y=some x from h);show some (AV.p _)=some (AV.p _);rw[e1]
 |nil u=>obtain⟨e1,_⟩:=bF (show bX (.list u) t []=some x from h);show some (AV.p _)=some (AV.p (aH t x));rw[e1];rfl
 |full u y=>obtain⟨e1,_⟩:=bF (show bX (.list u) t y=some x from h);show some (AV.p _)=some (AV.p (aH t x));rw[e1];rfl
 |agg vs=>
  have hd':((vs.map aM).mapM BV.toPV).map PV.agg=some (aH t x):=hd
  show(if((vs.map aM).mapM BV.toPV).isSome=true then _ else _)=_
  cases hm:(vs.map aM).mapM BV.toPV with
  |none=>rw[hm]at hd';cases hd'
  |some cs=>
   rw[hm]at hd'
   simp only[Option.isSome_some,if_true]
   show(((vs.map aM).mapM BV.toPV).map PV.agg).map AV.p=_
   rw[hm,hd'];rfl
 |_=>simp[cY,gx]at h
theorem Dl{bor:Bool}{B:List Nat}{a:Arg×X}{v:V}(hw:a.2.wf=true)(h:Dk s bor B a=some v)(hin:∀i∈v.ids,i∈B):((enc s).get a.2.er).bind (qq (enc s).hp bor B)=some (aS v):=by
 obtain⟨a,x⟩:=a
 simp only[Dk]at h
 split at h
 ·rename_i t id hx
  obtain⟨h1,h2⟩:=aR h
  simp only[Bool.and_eq_true,Bool.not_eq_true']at h1
  split at h2
  ·rename_i e u xs ho
   split at h2
   ·rename_i ys hy
    cases h2
    obtain⟨e1,e2⟩:=bF hy
    rw[aA hw hx,Option.bind_some]
    have hB:B.contains id=false:=by rw[<-vi];exact h1.2
    show(if B.contains id=true then _ else _)=_
    rw[hB]
    simp only[Bool.false_eq_true,if_false]
    show(if bor=true then Fv (enc s).hp id else none).map AV.p=_
    rw[h1.1,if_pos rfl,Fv,bO,ho]
    show some (AV.p (aH (.list u) xs))=some (AV.p (aH (.list t) ys))
    rw[e1]
   ·cases h2
  ·rename_i e kk u xs ho
   split at h2
   ·rename_i ys hy
    cases h2
    obtain⟨e1,e2⟩:=bF hy
    rw[aA hw hx,Option.bind_some]
    have hB:B.contains id=false:=by rw[<-vi];exact h1.2
    show(if B.contains id=true then _ else _)=_
    rw[hB]
    simp only[Bool.false_eq_true,if_false]
    show(if bor=true then Fv (enc s).hp id else none).map AV.p=_
    rw[h1.1,if_pos rfl,Fv,bO,ho]
    show some (AV.p (aH (.list u) xs))=some (AV.p (aH (.list t) ys))
    rw[e1]
   ·cases h2
  ·cases h2
 ·rename_i t v' _ hx
  split at h
  ·rename_i y hy
   cases h
   rw[aA hw hx,Option.bind_some]
   exact Fz hy
  ·cases h
 ·rename_i v' hx
  rw[aA hw hx,Option.bind_some]
  split at h
  ·cases h
  ·cases h
  ·cases h
  ·cases h
  ·rename_i vs
   obtain⟨h1,h2⟩:=aR h
   cases h2
   obtain⟨u,hu,hr⟩:=List.any_eq_true.1 h1
   have:(vs.map aM).mapM BV.toPV=none:=IM (List.mem_map_of_mem hu) (by cases u<;>first|rfl|cases hr)
   show(if((vs.map aM).mapM BV.toPV).isSome=true then _ else _)=_
   rw[this];rfl
  ·rename_i n1 n2 n3 n4 n5
   cases h
   cases v<;>first|rfl|skip
   ·exact absurd rfl (n2 _)
   ·exact absurd rfl (n5 _)
   ·rename_i id
    have:B.contains id=true:=List.contains_iff_mem.2 (hin id (by simp[V.ids,V.ids1]))
    show(if B.contains id=true then _ else _)=_
    rw[this];rfl
   ·exact absurd rfl (n3 _ _)
   ·rename_i w
    show qq _ _ _ (AV.b (bq w))=some (AV.b (bq w))
    unfold bq
    split
    ·exact absurd rfl (n4 _ _ _)
    ·rfl
 ·cases h
theorem pR{bor:Bool}{B:List Nat}:∀(l:List (Arg×X)) (vs:List V),jz l=true->me s bor B l=some vs->(∀v∈vs,∀i∈v.ids,i∈B)->(l.map λa=>a.2.er).mapM (λx=>((enc s).get x).bind (qq (enc s).hp bor B))=some (vs.map aS)
 |[],vs,_,h,_=>by cases h;rfl
 |a::l,vs,hw,h,hin=>by
  simp only[jz,List.all_cons,Bool.and_eq_true]at hw
  simp only[me]at h
  split at h
  ·rename_i v hv
   split at h
   ·rename_i us hu
    cases h
    rw[List.map_cons,List.mapM_cons,Dl hw.1 hv (hin v (by simp)),pR l us hw.2 hu λu hu'=>hin u (by simp[hu'])]
    rfl
   ·cases h
  ·cases h
end
end Go.Ev
namespace Go.Ev
open Go Go.RowKit Go.Av
theorem yy{v w:V}(h:V.same v w=true):aS v=aS w/\aM v=aM w/\(aM v).FlatB:=by
 unfold V.same at h
 split at h
 ·have e:=Nat.eq_of_beq_eq_true h;subst e;exact⟨rfl,rfl,trivial⟩
 ·simp only[Bool.and_eq_true]at h
  have e:=Nat.eq_of_beq_eq_true h.1;have e2:=Nat.eq_of_beq_eq_true h.2;subst e;subst e2;exact⟨rfl,rfl,trivial⟩
 ·have e:=Nat.eq_of_beq_eq_true h;subst e;exact⟨rfl,rfl,trivial⟩
 ·simp only[Bool.and_eq_true,decide_eq_true_eq]at h
  have e:=Nat.eq_of_beq_eq_true h.1;have e2:=h.2;subst e;subst e2;exact⟨rfl,rfl,trivial⟩
 ·exact⟨rfl,rfl,trivial⟩
 ·exact⟨rfl,rfl,.sc _⟩
 ·exact⟨rfl,rfl,.sc _⟩
 ·exact⟨rfl,rfl,.sc _⟩
 ·exact⟨rfl,rfl,.sc _⟩
 ·cases h
theorem Lf{v w:V}(h:V.same v w=true):v.isA=false:=by
 unfold V.same at h
 split at h<;>first|rfl|cases h
theorem N0{v:V}{t:Ty}{x:t.den}(h:gx t v=some x):LeB (aM v) (aM (.d t x)):=.data _ _ (lH h)
theorem NZ{v:V}{t:Ty}{x:t.den}(h:cY t v=some x):LeA (aS v) (aS (.d t x)):=.data _ _ (eH h)
def LeC(cs ds:List V):Prop:=cs.length=ds.length/\∀(i:Nat) (x y:V),cs[i]? =some x->ds[i]? =some y->LeB (aM x) (aM y)
theorem LeC.refl(cs:List V):LeC cs cs:=⟨rfl,λi x y hx hy=>by rw[hx]at hy;cases hy;exact .refl _⟩
theorem LeC.box{t:TypeId}{cs ds:List V}(h:LeC cs ds):LeO (bN (.box t cs)) (bN (.box t ds)):=
 .box t _ _ (by simp[h.1]) λi x y hx hy=>by
  simp only[List.getElem?_map,Option.map_eq_some_iff]at hx hy
  obtain⟨u,hu,rfl⟩:=hx
  obtain⟨v,hv,rfl⟩:=hy
  exact h.2 i u v hu hv
theorem qU:∀(cs ds:List V),jB cs ds=true->LeC ds cs/\∀v∈cs,(aM v).FlatB
 |[],[],_=>⟨⟨rfl,λi x y hx=>by simp at hx⟩,λv hv=>by cases hv⟩
 |[],_::_,h=>by simp[jB]at h
 |x::l,[],h=>by cases x<;>simp[jB]at h
 |x::l,y::m,h=>by
  have key:LeB (aM y) (aM x)/\(aM x).FlatB/\jB l m=true:=by
   unfold jB at h
   split at h
   ·rename_i heq;cases heq
   ·rename_i l1 y1 m1 h1 h2
    cases h1;cases h2
    exact⟨.any _,.any,h⟩
   ·rename_i xs l1 ys m1 h1 h2
    cases h1;cases h2
    simp only[Bool.and_eq_true]at h
    exact⟨.refl _,.any,h.2⟩
   ·rename_i x1 l1 y1 m1 _ _ h1 h2
    cases h1;cases h2
    simp only[Bool.and_eq_true]at h
    obtain⟨_,e,f⟩:=yy h.1
    exact⟨by rw[e];exact .refl _,f,h.2⟩
   ·cases h
  obtain⟨⟨h1,h2⟩,h3⟩:=qU l m key.2.2
  refine⟨⟨by simp[h1],λi u v hu hv=>?_⟩,λv hv=>?_⟩
  ·cases i with
   |zero=>simp at hu hv;subst hu;subst hv;exact key.1
   |succ i=>exact h2 i u v (by simpa using hu) (by simpa using hv)
  ·rcases List.mem_cons.1 hv with rfl|hv
   ·exact key.2.1
   ·exact h3 v hv
def Slot.obj:Slot->Option Nat
 | .vec id _ _=>some id
 | .map id _ _ _ _=>some id
 | .tree id _ _ _=>some id
 | .treeH id _ _ _ _ _=>some id
 |_=>none
inductive LikeO:Ob->Ob->Prop
 |vec (e:TypeId) (t:Ty) (xs ys:List t.den):LikeO (.vec e t xs) (.vec e t ys)
 |map (k e:TypeId) (a c:Ty) (xs ys:List (a.den×c.den)):LikeO (.map k e a c xs) (.map k e a c ys)
 |tree (e:TypeId) (k:Av.K) (t:Ty) (xs ys:List t.den):LikeO (.tree e k t xs none) (.tree e k t ys none)
 |treeH (e:TypeId) (k:Av.K) (t:Ty) (xs ys:List t.den) (i i' j kid:Nat):LikeO (.tree e k t xs (some (i,j,.sl kid))) (.tree e k t ys (some (i',j,.sl kid)))
def ObLe(l:List Slot)(i:Nat)(o b:Ob):Prop:=
 b= .gone\/(∃t cs ds,o= .box t cs/\b= .box t ds/\LeC cs ds)\/b=o\/(LikeO o b/\∃x∈l,x.obj=some i)
theorem ObLe.le{i:Nat}{o b:Ob}(h:ObLe [] i o b):LeO (bN o) (bN b):=by
 rcases h with rfl|⟨t,cs,ds,rfl,rfl,h⟩|rfl|⟨_,x,h,_⟩
 ·exact .gone _
 ·exact h.box
 ·exact .refl _
 ·cases h
theorem ObLe.weak{l:List Slot}{x:Slot}{i:Nat}{o b:Ob}(h:ObLe (x::l) i o b)(hx:x.obj≠some i):ObLe l i o b:=by
 rcases h with h|h|h|⟨h,y,hy,hyi⟩
 ·exact .inl h
 ·exact .inr (.inl h)
 ·exact .inr (.inr (.inl h))
 ·exact .inr (.inr (.inr ⟨h,y,(List.mem_cons.1 hy).resolve_left λe=>hx (by rw[<-e];exact hyi),hyi⟩))
def CL(hp:List Ob):Slot->Prop
 | .vec id e t=>∃ys,hp[id]? =some (.vec e t ys)
 | .map id k e a b=>∃ys,hp[id]? =some (.map k e a b ys)
 | .tree id e k t=>∃ys,hp[id]? =some (.tree e k t ys none)
 | .treeH id e k t j kid=>∃ys i,hp[id]? =some (.tree e k t ys (some (i,j,.sl kid)))
 |_=>True
def LeF(fr fr':List (Nat×V)):Prop:=∀k v,lk fr' k=some v->∃u,lk fr k=some u/\LeA (aS u) (aS v)
structure LeP(l:List Slot)(s b:S):Prop where
 fr:LeF s.fr b.fr
 len:s.hp.length=b.hp.length
 hp:∀(i:Nat) (o o':Ob),s.hp[i]? =some o->b.hp[i]? =some o'->ObLe l i o o'
 on:∀x∈l,CL b.hp x
theorem yA{hp:List Ob}{id:Nat}{o:Ob}{x:Slot}(h:CL hp x)(hk:∀o',hp[id]? =some o'->(∀z,¬LikeO o' z)\/LikeO o' o):CL (hp.set id o) x:=by
 have go:∀(j:Nat) (o':Ob),hp[j]? =some o'->(∃z,LikeO o' z)->∃o2,(hp.set id o)[j]? =some o2/\(LikeO o' o2\/o2=o'):=λj o' hj hz=>by
  by_cases hij:id=j
  ·subst hij
   refine⟨o,List.getElem?_set_self (List.getElem?_eq_some_iff.1 hj).1,.inl ?_⟩
   rcases hk o' hj with h1|h1
   ·exact(h1 _ hz.choose_spec).elim
   ·exact h1
  ·exact⟨o',by rw[List.getElem?_set_ne hij];exact hj,.inr rfl⟩
 cases x with
 |vec j e t=>
  obtain⟨ys,hy⟩:=h
  obtain⟨o2,h1,h2|rfl⟩:=go j _ hy ⟨_,.vec e t ys ys⟩
  ·cases h2;exact⟨_,h1⟩
  ·exact⟨_,h1⟩
 |map j k e a b=>
  obtain⟨ys,hy⟩:=h
  obtain⟨o2,h1,h2|rfl⟩:=go j _ hy ⟨_,.map k e a b ys ys⟩
  ·cases h2;exact⟨_,h1⟩
  ·exact⟨_,h1⟩
 |tree j e k t=>
  obtain⟨ys,hy⟩:=h
  obtain⟨o2,h1,h2|rfl⟩:=go j _ hy ⟨_,.tree e k t ys ys⟩
  ·cases h2;exact⟨_,h1⟩
  ·exact⟨_,h1⟩
 |treeH j e k t jj kid=>
  obtain⟨ys,i,hy⟩:=h
  obtain⟨o2,h1,h2|rfl⟩:=go j _ hy ⟨_,.treeH e k t ys ys i i jj kid⟩
  ·cases h2;exact⟨_,_,h1⟩
  ·exact⟨_,_,h1⟩
 |_=>trivial
theorem Es{t:TypeId}{cs:List V}(z:Ob):¬LikeO (.box t cs) z:=λh=>by cases h
theorem LeF.put{fr fr':List (Nat×V)}(h:LeF fr fr'){k:Nat}{u v:V}(hu:lk fr k=some u)(hle:LeA (aS u) (aS v)):LeF fr ((k,v)::fr'):=λj w hw=>by
 simp only[lk]at hw
 cases hb:Nat.beq j k
 ·rw[hb]at hw;exact h j w hw
 ·rw[hb]at hw
  simp only[cond_true,Option.some.injEq]at hw
  have:=Nat.eq_of_beq_eq_true hb
  subst this;subst hw
  exact⟨u,hu,hle⟩
theorem LeP.set{s:S}{x:Slot}{l:List Slot}{b:S}(h:LeP (x::l) s b){id:Nat}{o ob:Ob}(hx:x.obj=some id)(ho:s.hp[id]? =some o)(hb:b.hp[id]? =some ob)(hl:LikeO ob o):LeP l s ⟨b.fr,setAt b.hp id o⟩:=by
 have hid:=(List.getElem?_eq_some_iff.1 hb).1
 rw[d9]
 refine⟨h.fr,by simp[h.len],λi o1 o2 h1 h2=>?_,λz hz=>yA (h.on z (by simp[hz])) (λo' hh=>by rw[hb]at hh;cases hh;exact .inr hl)⟩
 by_cases hi:id=i
 ·subst hi
  rw[List.getElem?_set_self hid]at h2
  cases h2
  rw[ho]at h1;cases h1
  exact .inr (.inr (.inl rfl))
 ·rw[List.getElem?_set_ne hi]at h2
  exact(h.hp i o1 o2 h1 h2).weak (by rw[hx];simpa using hi)
theorem kt(s:S):∀(l:List Slot) (c:HL l) (b:S),yb s l=some c->LeP l s b->LeP [] s (unpack l c b)
 |[],_,b,_,h=>h
 |x::l,c,b,hc,h=>by
  simp only[yb]at hc
  split at hc
  ·rename_i y hy
   split at hc
   ·rename_i c' hc'
    cases hc
    cases x with
    |tm k t=>
     simp only[fD]at hy
     split at hy
     ·rename_i v hv
      exact kt s l c' _ hc' ⟨h.fr.put hv (NZ hy),h.len,λi o o' h1 h2=>(h.hp i o o' h1 h2).weak (by simp[Slot.obj]),λz hz=>h.on z (by simp[hz])⟩
     ·cases hy
    |cell id j t=>
     simp only[fD]at hy
     split at hy
     ·rename_i u cs ho
      split at hy
      ·rename_i v hv
       refine kt s l c' _ hc' ?_
       unfold setCell
       split
       ·rename_i t' ds hb
        rw[d9,d9]
        have hid:=(List.getElem?_eq_some_iff.1 hb).1
        refine⟨h.fr,by simp[h.len],λi o o' h1 h2=>?_,λz hz=>yA (h.on z (by simp[hz])) (λo' hh=>by rw[hb]at hh;cases hh;exact .inl Es)⟩
        by_cases hi:id=i
        ·subst hi
         rw[List.getElem?_set_self hid]at h2
         cases h2
         rw[ho]at h1;cases h1
         have e0:∃t2 cs2 ds2,Ob.box u cs= .box t2 cs2/\Ob.box t' ds= .box t2 ds2/\LeC cs2 ds2:=by
          rcases h.hp id _ _ ho hb with hh|e0|hh|⟨hh,_⟩
          ·cases hh
          ·exact e0
          ·cases hh;exact⟨_,_,_,rfl,rfl,rfl,λi x y hx hy=>by rw[hx]at hy;cases hy;exact .refl _⟩
          ·cases hh
         obtain⟨t2,cs2,ds2,e1,e2,e3⟩:=e0
         ·cases e1;cases e2
          refine .inr (.inl ⟨_,_,_,rfl,rfl,by simp[e3.1],λi u w hu hw=>?_⟩)
          by_cases hij:j=i
          ·subst hij
           rw[List.getElem?_set]at hw
           split at hw
           ·split at hw
            ·cases hw
             rw[hv]at hu;cases hu
             exact N0 hy
            ·cases hw
           ·rename_i hne;exact absurd rfl hne
          ·rw[List.getElem?_set_ne hij]at hw
           exact e3.2 i u w hu hw
        ·rw[List.getElem?_set_ne hi]at h2
         exact(h.hp i o o' h1 h2).weak (by simp[Slot.obj])
       ·exact⟨h.fr,h.len,λi o o' h1 h2=>(h.hp i o o' h1 h2).weak (by simp[Slot.obj]),λz hz=>h.on z (by simp[hz])⟩
      ·cases hy
     ·cases hy
    |vec id e t=>
     simp only[fD]at hy
     split at hy
     ·rename_i e' u xs ho
      obtain⟨e2,e3⟩:=bH hy
      have e4:=Ty.list.inj e2
      subst e4
      have e5:y=xs:=e3
      subst e5
      obtain⟨ys,hb⟩:=h.on _ (List.mem_cons_self ..)
      have hlk:LikeO (.vec e' u y) (.vec e u ys):=by
       rcases h.hp id _ _ ho hb with hh|⟨_,_,_,hh,_⟩|hh|⟨hh,_⟩
       ·cases hh
       ·cases hh
       ·cases hh;exact .vec _ _ _ _
       ·exact hh
      have hee:e'=e:=by cases hlk;rfl
      subst hee
      exact kt s l c' _ hc' (h.set rfl ho hb (.vec _ _ _ _))
     ·cases hy
    |map id k e a b'=>
     simp only[fD]at hy
     split at hy
     ·rename_i k1 e1 a1 b1 xs ho
      obtain⟨e2,e3⟩:=bH hy
      have e4:=Ty.list.inj e2
      injection e4 with e6 e7
      subst e6;subst e7
      have e5:y=xs:=e3
      subst e5
      obtain⟨ys,hb⟩:=h.on _ (List.mem_cons_self ..)
      have hee:k1=k/\e1=e:=by
       rcases h.hp id _ _ ho hb with hh|⟨_,_,_,hh,_⟩|hh|⟨hh,_⟩
       ·cases hh
       ·cases hh
       ·cases hh;exact⟨rfl,rfl⟩
       ·cases hh;exact⟨rfl,rfl⟩
      obtain⟨rfl,rfl⟩:=hee
      exact kt s l c' _ hc' (h.set rfl ho hb (.map _ _ _ _ _ _))
     ·cases hy
    |tree id e k t=>
     simp only[fD]at hy
     split at hy
     ·rename_i e1 k1 u xs ho
      obtain⟨e2,e3⟩:=bH hy
      have e4:=Ty.list.inj e2
      subst e4
      have e5:y=xs:=e3
      subst e5
      obtain⟨ys,hb⟩:=h.on _ (List.mem_cons_self ..)
      have hee:e1=e/\k1=k:=by
       rcases h.hp id _ _ ho hb with hh|⟨_,_,_,hh,_⟩|hh|⟨hh,_⟩
       ·cases hh
       ·cases hh
       ·cases hh;exact⟨rfl,rfl⟩
       ·cases hh;exact⟨rfl,rfl⟩
      obtain⟨rfl,rfl⟩:=hee
      exact kt s l c' _ hc' (h.set rfl ho hb (.tree _ _ _ _ _))
     ·cases hy
    |treeH id e k t j kid=>
     simp only[fD]at hy
     split at hy
     ·rename_i e1 k1 u xs i1 j1 v1 ho
      split at hy
      ·rename_i zs hz
       cases hy
       obtain⟨e2,e3⟩:=bH hz
       have e4:=Ty.list.inj e2
       subst e4
       have e5:zs=xs:=e3
       subst e5
       obtain⟨ys,i2,hb⟩:=h.on _ (List.mem_cons_self ..)
       have hee:e1=e/\k1=k/\j1=j/\v1= .sl kid:=by
        rcases h.hp id _ _ ho hb with hh|⟨_,_,_,hh,_⟩|hh|⟨hh,_⟩
        ·cases hh
        ·cases hh
        ·cases hh;exact⟨rfl,rfl,rfl,rfl⟩
        ·cases hh;exact⟨rfl,rfl,rfl,rfl⟩
       obtain⟨rfl,rfl,rfl,rfl⟩:=hee
       exact kt s l c' _ hc' (by have:=h.set rfl ho hb (.treeH _ _ _ _ _ _ _ _ _);simpa using this)
      ·cases hy
     ·cases hy
   ·cases hc
  ·cases hc
theorem LeP.le{s b:S}(h:LeP [] s b):LeS (enc s) (enc b):=by
 refine⟨λk y hk=>?_,by simp[enc,h.len],λi x y hx hy=>?_⟩
 ·show ∃x,Av.look (s.fr.map λx=>(x.1,aS x.2)) k=some x/\_
  have hk':Av.look (b.fr.map λx=>(x.1,aS x.2)) k=some y:=hk
  rw[mQ]at hk'⊢
  obtain⟨v,hv,rfl⟩:=Option.map_eq_some_iff.1 hk'
  obtain⟨u,hu,hle⟩:=h.fr k v hv
  exact⟨aS u,by rw[hu];rfl,hle⟩
 ·rw[bO]at hx hy
  obtain⟨o,ho,rfl⟩:=Option.map_eq_some_iff.1 hx
  obtain⟨o',ho',rfl⟩:=Option.map_eq_some_iff.1 hy
  exact(h.hp i o o' ho ho').le
theorem Bf(l m:List (Nat×V))(k:Nat):lk (l++m) k=(lk l k).or (lk m k):=by
 induction l with
 |nil=>rfl
 |cons x l ih=>
  obtain⟨j,v⟩:=x
  simp only[List.cons_append,lk]
  cases Nat.beq k j
  ·exact ih
  ·rfl
theorem xW{l:List (Nat×V)}{k:Nat}{v:V}(h:lk l k=some v):(k,v)∈l:=by
 induction l with
 |nil=>cases h
 |cons x l ih=>
  obtain⟨j,w⟩:=x
  simp only[lk]at h
  cases hb:Nat.beq k j
  ·rw[hb]at h;exact List.mem_cons_of_mem _ (ih h)
  ·rw[hb]at h
   simp only[cond_true,Option.some.injEq]at h
   have:=Nat.eq_of_beq_eq_true hb
   subst this;subst h
   exact List.mem_cons_self ..
theorem AU{fr sk:List (Nat×V)}(h:xQ fr sk=true){k:Nat}{v:V}(hm:(k,v)∈sk):∃w,lk fr k=some w/\V.same v w=true:=by
 induction sk with
 |nil=>cases hm
 |cons x sk ih=>
  obtain⟨j,u⟩:=x
  simp only[xQ,Bool.and_eq_true]at h
  rcases List.mem_cons.1 hm with e|hm
  ·cases e
   cases hl:lk fr k with
   |none=>rw[hl]at h;cases h.1
   |some w=>rw[hl]at h;exact⟨w,rfl,h.1⟩
  ·exact ih h.2 hm
theorem tg:∀{us bs:List Ob},vu us bs=true->us.length=bs.length/\∀(i:Nat) (x y:Ob),us[i]? =some x->bs[i]? =some y->HJ x y=true
 |[],[],_=>⟨rfl,λi x y h=>by simp at h⟩
 |[],_::_,h=>by cases h
 |_::_,[],h=>by cases h
 |a::us,b::bs,h=>by
  simp only[vu,Bool.and_eq_true]at h
  obtain⟨h1,h2⟩:=tg h.2
  refine⟨by simp[h1],λi x y hx hy=>?_⟩
  cases i with
  |zero=>simp at hx hy;subst hx;subst hy;exact h.1
  |succ i=>exact h2 i x y (by simpa using hx) (by simpa using hy)
def Ob.vary:Ob->Bool
 | .vec _ _ _=>true
 | .map _ _ _ _ _=>true
 | .tree _ _ _ _ _=>true
 |_=>false
theorem x8{sl:List Slot}:∀{l:List Ob} {i j:Nat} {o:Ob},Mg sl i l=true->l[j]? =some o->o.vary=true->∃x∈sl,x.obj=some (i+j)
 |[],i,j,o,_,hj,_=>by simp at hj
 |a::l,i,j,o,h,hj,hv=>by
  simp only[Mg,Bool.and_eq_true]at h
  cases j with
  |zero=>
   simp at hj
   subst hj
   cases a<;>first|cases hv|skip
   all_goals
    obtain⟨x,hx,hb⟩:=List.any_eq_true.1 h.1
    refine⟨x,hx,?_⟩
    cases x<;>simp at hb
    all_goals (subst hb;rfl)
  |succ j=>
   have:=x8 (i:=i+1) (j:=j) h.2 (by simpa using hj) hv
   rw[show i+1+j=i+(j+1) by omega]at this
   exact this
theorem Lh{hp:List Ob}{x:Slot}(h:BE hp x=true):CL hp x:=by
 cases x with
 |vec id e t=>
  simp only[BE]at h
  split at h
  ·rename_i e' t' ys ho
   simp only[Bool.and_eq_true,decide_eq_true_eq]at h
   have e1:=Nat.eq_of_beq_eq_true h.1
   obtain⟨_,rfl⟩:=h
   subst e1
   exact⟨ys,ho⟩
  ·cases h
 |map id k e a b=>
  simp only[BE]at h
  split at h
  ·rename_i k' e' a' b' ys ho
   simp only[Bool.and_eq_true,decide_eq_true_eq]at h
   obtain⟨⟨⟨h1,h2⟩,rfl⟩,rfl⟩:=h
   have e1:=Nat.eq_of_beq_eq_true h1
   have e2:=Nat.eq_of_beq_eq_true h2
   subst e1;subst e2
   exact⟨ys,ho⟩
  ·cases h
 |tree id e k t=>
  simp only[BE]at h
  split at h
  ·rename_i e' k' t' ys ho
   simp only[Bool.and_eq_true,decide_eq_true_eq]at h
   obtain⟨⟨h1,rfl⟩,rfl⟩:=h
   have e1:=Nat.eq_of_beq_eq_true h1
   subst e1
   exact⟨ys,ho⟩
  ·cases h
 |treeH id e k t j kid=>
  simp only[BE]at h
  split at h
  ·rename_i e' k' t' ys i' j' kid' ho
   simp only[Bool.and_eq_true,decide_eq_true_eq]at h
   obtain⟨⟨⟨⟨h1,rfl⟩,rfl⟩,h2⟩,h3⟩:=h
   have e1:=Nat.eq_of_beq_eq_true h1
   have e2:=Nat.eq_of_beq_eq_true h2
   have e3:=Nat.eq_of_beq_eq_true h3
   subst e1;subst e2;subst e3
   exact⟨ys,_,ho⟩
  ·cases h
 |_=>trivial
theorem yd{sh:Sh}{s s0:S}{c:HL sh.sl}(hw:sh.wfB=true)(h:pack sh s=some c)(hk:∀k v,lk (c9 s0.fr sh.keep) k=some v->lk s.fr k=some v):LeP [] s (unpack sh.sl c (sh.base s0)):=by
 unfold pack at h
 split at h
 ·rename_i hf
  simp only[Bool.and_eq_true,S.fits]at hf
  simp only[Sh.wfB,Bool.and_eq_true,List.all_eq_true]at hw
  obtain⟨g1,g2⟩:=tg hf.1.2
  refine kt s sh.sl c _ h ⟨λk v hv=>?_,g1.symm,λi o o' h1 h2=>?_,λx hx=>Lh (hw.1 x hx)⟩
  ·have hv':lk (c9 s0.fr sh.keep++sh.sk.fr) k=some v:=hv
   rw[Bf]at hv'
   cases hkp:lk (c9 s0.fr sh.keep) k with
   |some u=>
    rw[hkp]at hv'
    cases hv'
    exact⟨v,hk k v hkp,.refl _⟩
   |none=>
    rw[hkp]at hv'
    obtain⟨w,h1,h2⟩:=AU hf.1.1 (xW hv')
    exact⟨w,h1,by rw[(yy h2).1];exact .refl _⟩
  ·have h2':sh.sk.hp[i]? =some o':=h2
   have hfit:=g2 i o' o h2' h1
   have q:=x8 (i:=0) hw.2 h2'
   rw[Nat.zero_add]at q
   unfold HJ at hfit
   split at hfit
   ·exact .inl rfl
   ·rename_i t cs u ds
    simp only[Bool.and_eq_true]at hfit
    have e1:=Nat.eq_of_beq_eq_true hfit.1
    subst e1
    exact .inr (.inl ⟨_,_,_,rfl,rfl,(qU cs ds hfit.2).1⟩)
   ·rename_i e t xs e' t' ys
    simp only[Bool.and_eq_true,decide_eq_true_eq]at hfit
    have e1:=Nat.eq_of_beq_eq_true hfit.1
    obtain⟨_,rfl⟩:=hfit
    subst e1
    exact .inr (.inr (.inr ⟨.vec _ _ _ _,q rfl⟩))
   ·rename_i k e a b xs k' e' a' b' ys
    simp only[Bool.and_eq_true,decide_eq_true_eq]at hfit
    obtain⟨⟨⟨h3,h4⟩,rfl⟩,rfl⟩:=hfit
    have e1:=Nat.eq_of_beq_eq_true h3
    have e2:=Nat.eq_of_beq_eq_true h4
    subst e1;subst e2
    exact .inr (.inr (.inr ⟨.map _ _ _ _ _ _,q rfl⟩))
   ·rename_i e k t xs hh e' k' t' ys hh'
    simp only[Bool.and_eq_true,decide_eq_true_eq]at hfit
    obtain⟨⟨⟨h3,rfl⟩,rfl⟩,h4⟩:=hfit
    have e1:=Nat.eq_of_beq_eq_true h3
    subst e1
    split at h4
    ·exact .inr (.inr (.inr ⟨.tree _ _ _ _ _,q rfl⟩))
    ·simp only[Bool.and_eq_true]at h4
     have e2:=Nat.eq_of_beq_eq_true h4.1
     have e3:=Nat.eq_of_beq_eq_true h4.2
     subst e2;subst e3
     exact .inr (.inr (.inr ⟨.treeH _ _ _ _ _ _ _ _ _,q rfl⟩))
    ·cases h4
   ·cases hfit
 ·cases h
theorem Cy{sh:Sh}{s s0:S}{c:HL sh.sl}(hw:sh.wfB=true)(h:pack sh s=some c)(hk:∀k v,lk (c9 s0.fr sh.keep) k=some v->lk s.fr k=some v):LeS (enc s) (enc (unpack sh.sl c (sh.base s0))):=(yd hw h hk).le
end Go.Ev
namespace Go.Ev
open Go Go.RowKit Go.Av
structure FlP(l:List Slot)(b:S):Prop where
 fr:∀k v,lk b.fr k=some v->(aS v).FlatA
 hp:∀(i:Nat) (o:Ob),b.hp[i]? =some o->(bN o).FlatO\/(o.vary=true/\∃x∈l,x.obj=some i)
theorem Ls{e:TypeId}{t:Ty}(xs:List t.den)(h:t.flat=true):(bN (.vec e t xs)).FlatO:=λp hp y hy=>by
 obtain⟨x,_,rfl⟩:=List.mem_map.1 hp
 exact(jJ t x h).2 y hy
theorem Km{k e:TypeId}{a b:Ty}(xs:List (a.den×b.den))(h:a.flat=true/\b.flat=true):(bN (.map k e a b xs)).FlatO:=λp hp=>by
 obtain⟨x,_,rfl⟩:=List.mem_map.1 hp
 exact⟨(jJ a x.1 h.1).1,(jJ b x.2 h.2).1⟩
theorem oq:∀(t:Ty) (x:t.den),(gj t).length=t.sz/\∀(j:Nat) (y:PV),(aB t x)[j]? =some y->∃(u:Ty) (z:u.den),(gj t)[j]? =some u/\y=aH u z
 | .unit,x=>⟨rfl,λj y h=>by simp[aB,aH,PV.cells]at h⟩
 | .pair a b,x=>by
  obtain⟨h1,h2⟩:=oq a x.1
  obtain⟨h3,h4⟩:=oq b x.2
  refine⟨by simp[gj,Ty.sz,h1,h3],λj y h=>?_⟩
  have hc:aB (.pair a b) x=aB a x.1++aB b x.2:=rfl
  rw[hc]at h
  have hl:(aB a x.1).length=a.sz:=aG a x.1
  rcases Nat.lt_or_ge j a.sz with hj|hj
  ·rw[List.getElem?_append_left (by omega)]at h
   obtain⟨u,z,h5,h6⟩:=h2 j y h
   exact⟨u,z,by simp only[gj];rw[List.getElem?_append_left (by omega)];exact h5,h6⟩
  ·rw[List.getElem?_append_right (by omega)]at h
   obtain⟨u,z,h5,h6⟩:=h4 _ y h
   exact⟨u,z,by simp only[gj];rw[List.getElem?_append_right (by omega),h1,<-hl];exact h5,h6⟩
 | .rx,x=>by
  refine⟨rfl,λj y h=>?_⟩
  rw[pu]at h
  match j,h with
  |0,h=>cases h;exact⟨.int .i64,_,rfl,rfl⟩
  |1,h=>cases h;exact⟨.int .i64,_,rfl,rfl⟩
  |2,h=>cases h;exact⟨.int .i64,_,rfl,rfl⟩
  |3,h=>cases h;exact⟨.list .rx,_,rfl,rfl⟩
  |j+4,h=>simp at h
 | .int k,x=>leaf (.int k) x rfl rfl
 | .bool,x=>leaf .bool x rfl rfl
 | .str,x=>leaf .str x rfl rfl
 | .list t,x=>leaf (.list t) x rfl rfl
where
 leaf (t:Ty) (x:t.den) (h1:t.ag=false) (h2:gj t=[t]):(gj t).length=t.sz/\∀(j:Nat) (y:PV),(aB t x)[j]? =some y->∃(u:Ty) (z:u.den),(gj t)[j]? =some u/\y=aH u z:=by
  refine⟨by rw[h2,eB h1];rfl,λj y h=>?_⟩
  rw[dq x h1]at h
  cases j with
  |zero=>cases h;exact⟨t,x,by rw[h2];rfl,rfl⟩
  |succ j=>simp at h
theorem oj:∀(k:Av.K) (ts:List Ty),flatK k ts=true->∀(j:Nat) (u:Ty) (z:u.den),ts[j]? =some u->FlatT (k.at j) (aH u z)
 | .e,ts,h,j,u,z,hu=>by
  simp only[flatK,List.all_eq_true]at h
  exact .flat _ (jJ u z (h u (List.mem_of_getElem? hu))).1
 | .f r,[],h,j,u,z,hu=>by simp at hu
 | .f r,t::ts,h,j,u,z,hu=>by
  simp only[flatK,Bool.and_eq_true]at h
  cases j with
  |zero=>cases hu;exact .flat _ (jJ _ z h.1).1
  |succ j=>exact oj r ts h.2 j u z (by simpa using hu)
 | .s e sz sub r,[],h,j,u,z,hu=>by simp at hu
 | .s e sz sub r,t::ts,h,j,u,z,hu=>by
  cases t<;>try cases h
  rename_i v
  simp only[flatK,Bool.and_eq_true]at h
  cases j with
  |zero=>
   cases hu
   have hs:=Nat.eq_of_beq_eq_true h.1.1
   refine .sl _ _ _ _ (z.map (aH v)) (by rw[hs];rfl) λi j x y hx hy=>?_
   rw[List.getElem?_map]at hx
   obtain⟨w,_,rfl⟩:=Option.map_eq_some_iff.1 hx
   obtain⟨u',z',h1,rfl⟩:=(oq v w).2 j y hy
   exact oj sub _ h.1.2 j u' z' h1
  |succ j=>exact oj r ts h.2 j u z (by simpa using hu)
theorem yO{e:TypeId}{k:Av.K}{t:Ty}(xs:List t.den)(h:flatK k (gj t)=true)(hole:Option (Nat×Nat×V))(hh:hole=none\/∃i j kid,hole=some (i,j,.sl kid)):(bN (.tree e k t xs hole)).FlatO:=by
 refine⟨λi j b hb=>?_,λi j x y hx hy=>?_⟩
 ·rcases hh with rfl|⟨i',j',kid,rfl⟩
  ·cases hb
  ·cases hb;trivial
 ·rw[List.getElem?_map]at hx
  obtain⟨w,_,rfl⟩:=Option.map_eq_some_iff.1 hx
  obtain⟨u',z',h1,rfl⟩:=(oq t w).2 j y hy
  exact oj k _ h j u' z' h1
theorem gD:∀(l:List Slot) (c:HL l) (b:S),l.all Slot.flat=true->FlP l b->FlP [] (unpack l c b)
 |[],_,b,_,h=>h
 |x::l,c,b,hf,h=>by
  simp only[List.all_cons,Bool.and_eq_true]at hf
  have drop:∀(i:Nat) (o:Ob),b.hp[i]? =some o->x.obj≠some i->(bN o).FlatO\/(o.vary=true/\∃x∈l,x.obj=some i):=by
   intro i o ho h1
   rcases h.hp i o ho with hh|⟨hh,y,hm,hy⟩
   ·exact .inl hh
   ·exact .inr ⟨hh,y,(List.mem_cons.1 hm).resolve_left λq=>h1 (by rw[<-q];exact hy),hy⟩
  have set_:∀(id:Nat) (o':Ob),x.obj=some id->(bN o').FlatO->FlP l ⟨b.fr,setAt b.hp id o'⟩:=λid o' hx hfo=>⟨h.fr,λi o ho=>by
   have ho':(setAt b.hp id o')[i]? =some o:=ho
   rw[d9]at ho'
   by_cases hi:id=i
   ·subst hi
    rw[List.getElem?_set]at ho'
    split at ho'
    ·split at ho'
     ·cases ho';exact .inl hfo
     ·cases ho'
    ·rename_i hne;exact absurd rfl hne
   ·rw[List.getElem?_set_ne hi]at ho'
    exact drop i o ho' (by rw[hx];simpa using hi)⟩
  cases x with
  |tm k t=>
   refine gD l c.2 _ hf.2 ⟨λj v hv=>?_,λi o ho=>drop i o ho (by simp[Slot.obj])⟩
   simp only[lk]at hv
   cases hb:Nat.beq j k
   ·rw[hb]at hv;exact h.fr j v hv
   ·rw[hb]at hv
    simp only[cond_true,Option.some.injEq]at hv
    subst hv
    exact(jJ t c.1 hf.1).1
  |cell id j t=>
   refine gD l c.2 _ hf.2 ⟨h.fr,λi o ho=>?_⟩
   have ho':(setCell b.hp id j (.d t c.1))[i]? =some o:=ho
   unfold setCell at ho'
   split at ho'
   ·rename_i t' ds hb
    rw[d9,d9]at ho'
    have hid:=(List.getElem?_eq_some_iff.1 hb).1
    by_cases hi:id=i
    ·subst hi
     rw[List.getElem?_set_self hid]at ho'
     cases ho'
     left
     rcases h.hp id _ hb with hh|⟨hh,_⟩
     ·intro y hy
      obtain⟨v,hv,rfl⟩:=List.mem_map.1 hy
      rcases List.mem_or_eq_of_mem_set hv with hv|rfl
      ·exact hh _ (List.mem_map_of_mem hv)
      ·exact(jJ t c.1 hf.1).1
     ·cases hh
    ·rw[List.getElem?_set_ne hi]at ho'
     exact drop i o ho' (by simp[Slot.obj])
   ·exact drop i o ho' (by simp[Slot.obj])
  |vec id e t=>exact gD l c.2 _ hf.2 (set_ id _ rfl (Ls _ hf.1))
  |map id k e a b'=>
   have:=hf.1
   simp only[Slot.flat,Bool.and_eq_true]at this
   exact gD l c.2 _ hf.2 (set_ id _ rfl (Km _ this))
  |tree id e k t=>exact gD l c.2 _ hf.2 (set_ id _ rfl (yO _ hf.1 none (.inl rfl)))
  |treeH id e k t j kid=>exact gD l c.2 _ hf.2 (set_ id _ rfl (yO _ hf.1 _ (.inr ⟨_,_,_,rfl⟩)))
theorem base_nil(sh:Sh):(sh.base ⟨[],[]⟩).fr=sh.sk.fr:=by
 have:∀l,c9 [] l=[]:=λl=>by induction l with
  |nil=>rfl
  |cons k l ih=>simp only[c9,lk,ih]
 simp[Sh.base,this]
theorem IY{sh:Sh}{s:S}{c:HL sh.sl}(hw:sh.wfB=true)(h:pack sh s=some c)(hf:sh.sl.all Slot.flat=true):
 (∀k v,lk (unpack sh.sl c (sh.base ⟨[],[]⟩)).fr k=some v->(aS v).FlatA)/\∀o∈(unpack sh.sl c (sh.base ⟨[],[]⟩)).hp,(bN o).FlatO:=by
 unfold pack at h
 split at h
 ·rename_i hfit
  simp only[Bool.and_eq_true,S.fits]at hfit
  simp only[Sh.wfB,Bool.and_eq_true,List.all_eq_true]at hw
  obtain⟨g1,g2⟩:=tg hfit.1.2
  have key:FlP [] (unpack sh.sl c (sh.base ⟨[],[]⟩)):=gD sh.sl c _ hf ⟨λk v hv=>by
   rw[base_nil]at hv
   obtain⟨w,h1,h2⟩:=AU hfit.1.1 (xW hv)
   rw[mg (Lf h2)]
   exact(yy h2).2.2,λi o ho=>by
   have ho':sh.sk.hp[i]? =some o:=ho
   have q:=x8 (i:=0) hw.2 ho'
   rw[Nat.zero_add]at q
   obtain⟨o2,ho2⟩:=bg g1.symm ho'
   have hfo:=g2 i o o2 ho' ho2
   cases o with
   |gone=>exact .inl trivial
   |free=>exact .inl trivial
   |box t cs=>
    cases o2<;>simp[HJ]at hfo
    left
    intro y hy
    obtain⟨v,hv,rfl⟩:=List.mem_map.1 hy
    exact(qU _ _ hfo.2).2 v hv
   |vec e t xs=>exact .inr ⟨rfl,q rfl⟩
   |map k e a b xs=>exact .inr ⟨rfl,q rfl⟩
   |tree e k t xs hole=>exact .inr ⟨rfl,q rfl⟩⟩
  refine⟨key.fr,λo ho=>?_⟩
  obtain⟨i,hi⟩:=List.getElem?_of_mem ho
  rcases key.hp i o hi with hh|⟨_,_,hm,_⟩
  ·exact hh
  ·cases hm
 ·cases h
theorem K9{n:Nat}{fr:List (Nat×V)}(h:∀k v,lk fr k=some v->(aS v).FlatA):(aS (res n fr)).FlatA:=by
 unfold res
 cases Nat.beq n 1
 ·intro x hx
  obtain⟨v,hv,rfl⟩:=List.mem_map.1 hx
  obtain⟨i,_,rfl⟩:=List.mem_map.1 hv
  cases hl:lk fr i with
  |none=>exact .any
  |some u=>
   have:=h i u hl
   simp only[Option.getD_some]
   cases hu:u.isA
   ·rw[mg hu]at this;exact this
   ·cases u<;>first|exact .any|cases hu
 ·cases hl:lk fr 0 with
  |none=>exact .any
  |some u=>exact h 0 u hl
theorem MJ{x:BV}{v:V}(h:LeA (.b x) (aS v)):LeB x (aM v):=by
 cases hv:v.isA
 ·rw[mg hv]at h
  generalize aM v=y at h⊢
  cases h with
  |refl=>exact .refl _
  |data _ p h=>exact .data _ _ h
  |any=>exact .any _
 ·cases v with
  |agg vs=>cases h
  |tup vs=>cases h
  |_=>cases hv
theorem Nv{n:Nat}{fr fr':List (Nat×V)}(h:LeF fr fr')(h1:Ey n fr=true):LeA (aS (res n fr)) (aS (res n fr')):=by
 unfold res
 simp only[Ey]at h1
 cases hn:Nat.beq n 1
 ·rw[hn,Bool.false_or,List.all_eq_true]at h1
  refine .tup _ _ (by simp[Gt]) λi x y hx hy=>?_
  simp only[Gt,List.getElem?_map,Option.map_eq_some_iff]at hx hy
  obtain⟨v,⟨j,hj,rfl⟩,rfl⟩:=hx
  obtain⟨w,⟨j',hj',rfl⟩,rfl⟩:=hy
  rw[hj]at hj';cases hj'
  cases hl:lk fr' j with
  |none=>exact .any _
  |some v=>
   obtain⟨u,hu,hle⟩:=h j v hl
   rw[hu]
   have:u.isA=false:=by simpa using h1 _ (xW hu)
   rw[mg this]at hle
   exact MJ hle
 ·cases hl:lk fr' 0 with
  |none=>exact .any _
  |some v=>
   obtain⟨u,hu,hle⟩:=h 0 v hl
   rw[hu];exact hle
theorem Ir{P:Program}{f:FuncId}{ars:List AV}{os os1 os2:List AObj}{r r':AV}(h:ACalls P f ars os λo=>o=some (r,os1))(hr:LeA r r')(hl:os1.length=os2.length)
 (ho:∀(i:Nat) (x y:AObj),os1[i]? =some x->os2[i]? =some y->LeO x y):ACalls P f ars os λo=>o=some (r',os2):=by
 intro w θ D vs h0 h1 h2 h3
 refine(h w θ D vs h0 h1 h2 h3).mono λe w' hb=>?_
 rcases hb with⟨v,r1,os',θ',D',e1,e2,e3,e4,e5⟩|⟨ch,e1,e2,e3,_⟩
 ·cases e2
  refine .inl ⟨v,r',os2,θ',D',e1,rfl,hr.rel e3,⟨by rw[e4.len,hl],e4.dlt,e4.inj,e4.olt,λi l o hi hoi=>?_⟩,e5⟩
  obtain⟨x,hx⟩:=bg hl hoi
  exact(ho i x o hx hoi).rel (e4.objs i l x hi hx)
 ·cases e3
structure OracleOk(P:Program)(O:aj):Prop where
 ret:∀f ars os s,O f ars os=some (some s)->ACalls P (f%10000) (ars.map aS) (os.map bN) λo=>o=some (aS (res s.fr.length s.fr),s.hp.map bN)
 pan:∀f ars os,O f ars os=some none->ACalls P (f%10000) (ars.map aS) (os.map bN) λo=>o=none
section
variable {R:Type} {P:Program} {O:aj} {d:Option Nat} {s:S} {κ kp:S->Option R} {r:R}
theorem qT(hO:OracleOk P O){f:FuncId}{ars:List V}{os:List Ob}{sh:Sh}{c:HL sh.sl}(hw:sh.wfB=true)(h:aI O f ars os sh=some c):
 ACalls P (f%10000) (ars.map aS) (os.map bN) (λo=>o=some (aS (res sh.n (unpack sh.sl c (sh.base ⟨[],[]⟩)).fr),(unpack sh.sl c (sh.base ⟨[],[]⟩)).hp.map bN))/\
  (sh.sl.all Slot.flat=true->(aS (res sh.n (unpack sh.sl c (sh.base ⟨[],[]⟩)).fr)).FlatA/\∀o∈(unpack sh.sl c (sh.base ⟨[],[]⟩)).hp.map bN,o.FlatO):=by
 unfold aI at h
 split at h
 ·rename_i s' hs'
  obtain⟨h1,h2⟩:=aR h
  simp only[Bool.and_eq_true]at h1
  have hn:=Nat.eq_of_beq_eq_true h1.1
  have hk:∀k v,lk (c9 (⟨[],[]⟩:S).fr sh.keep) k=some v->lk s'.fr k=some v:=by
   have:∀l,c9 [] l=[]:=λl=>by induction l with
    |nil=>rfl
    |cons k l ih=>simp only[c9,lk,ih]
   intro k v hv
   rw[this]at hv;cases hv
  have hP:=yd (s0:=⟨[],[]⟩) hw h2 hk
  have hS:=hP.le
  refine⟨Ir (hO.ret f ars os s' hs') ?_ (by simp[hP.len]) (λi x y hx hy=>hS.hp i x y hx hy),λhf=>?_⟩
  ·rw[hn];exact Nv hP.fr h1.2
  ·obtain⟨f1,f2⟩:=IY hw h2 hf
   refine⟨K9 f1,λo ho=>?_⟩
   obtain⟨o',ho',rfl⟩:=List.mem_map.1 ho
   exact f2 o' ho'
 ·cases h
theorem Du(hO:OracleOk P O){f:FuncId}{ars:List V}{os:List Ob}{sh:Sh}{c:Option (HL sh.sl)}(h:JP O f ars os sh=some c):
 (∀c',c=some c'->aI O f ars os sh=some c')/\(c=none->ACalls P (f%10000) (ars.map aS) (os.map bN) λo=>o=none):=by
 unfold JP at h
 split at h
 ·rename_i s' hs'
  obtain⟨h1,h2⟩:=aR h
  split at h2
  ·rename_i c2 hc2
   cases h2
   refine⟨λc' hc'=>?_,(λhc=>by cases hc)⟩
   cases hc'
   unfold aI
   rw[hs']
   simp only[h1,cond_true]
   exact hc2
  ·cases h2
 ·rename_i hs'
  cases h
  exact⟨(λc' hc'=>by cases hc'),λ_=>hO.pan f ars os hs'⟩
 ·cases h
theorem D7{B:List Nat}{v:V}(h:v.isD=true):kf (p6 B) v=v:=by cases v<;>first|rfl|cases h
theorem tX(hO:OracleOk P O){pan bor:Bool}{B:List Nat}{f:FuncId}{ars:List V}{sh:Sh}(hw:sh.wfB=true)(h:s3 pan O s d bor B f ars sh κ kp=some r):
 ∃os:List Ob,(enc s).hp=(enc s).hp/\B.mapM ((enc s).hp[·]?)=some (os.map bN)/\(∀v∈ars,∀i∈v.ids,i∈B)/\
  sexec.callK P (enc s) d bor B (f%10000) (ars.map aS) (os.map bN) (λst'=>∃s',st'=enc s'/\Keeps (fj d) s s'/\κ s'=some r) (λst'=>∃s',st'=enc s'/\Keeps (fj d) s s'/\kp s'=some r):=by
 unfold s3 at h
 split at h
 ·rename_i os hos
  obtain⟨h1,h2⟩:=aR h
  simp only[Bool.and_eq_true,decide_eq_true_eq,List.all_eq_true,Bool.or_eq_true,Bool.not_eq_true']at h1
  obtain⟨⟨⟨hnd,hids⟩,hoids⟩,hflat⟩:=h1
  have hin:∀v∈ars,∀i∈v.ids,i∈B:=λv hv=>allIn_mem.1 (hids v hv)
  have hren:((ars.map (kf (V.ren (zJ B)))).map aS)=(ars.map aS).map (AV.ren (B.idxOf ·)):=by
   rw[List.map_map,List.map_map]
   exact List.map_congr_left λv _=>xC _ v
  have horen:((os.map (re (V.ren (zJ B)))).map bN)=(os.map bN).map (AObj.ren (B.idxOf ·)):=by
   rw[List.map_map,List.map_map]
   exact List.map_congr_left λv _=>ub _ v
  have ff:∀(os':List Ob) (v:V),Keeps (fj d) s ((s.back B os').putO d v):=λos' v=>
   (Keeps.map (fj d) s (s.back B os') (p6 B) (λv hv=>D7 hv) rfl).trans (Keeps.put _ d v)
  have keepP:∀(os':List Ob),Keeps (fj d) s (s.back B os'):=λos'=>Keeps.map (fj d) s (s.back B os') (p6 B) (λv hv=>D7 hv) rfl
  have retK:∀c:HL sh.sl,aI O f (ars.map (kf (V.ren (zJ B)))) (os.map (re (V.ren (zJ B)))) sh=some c->uR s d B sh.n sh κ c=some r->
   ACalls P (f%10000) ((ars.map aS).map (AV.ren (B.idxOf ·))) ((os.map bN).map (AObj.ren (B.idxOf ·))) λo=>match o with
    |some (r',os')=>(bor=true->r'.FlatA/\∀o∈os',o.FlatO)/\∃s',((enc s).back B os').putO d (r'.ren (fU B (enc s).hp.length))=enc s'/\Keeps (fj d) s s'/\κ s'=some r
    |none=>∃s',(enc s).back B ((os.map bN).map λ_=>.gone)=enc s'/\Keeps (fj d) s s'/\kp s'=some r:=by
   intro c hc hk
   obtain⟨q1,q2⟩:=qT hO hw hc
   rw[hren,horen]at q1
   refine q1.mono λo ho=>?_
   subst ho
   refine⟨λhb=>q2 ?_,_,?_,ff _ _,hk⟩
   ·rcases hflat with hh|hh
    ·rw[hb]at hh;cases hh
    ·exact List.all_eq_true.2 hh
   ·rw[fx,DV,xC,xk]
    congr 2
    simp[enc]
  refine⟨os,rfl,wi B os hos,hin,hnd,?_,?_,?_⟩
  ·intro a ha i hi
   obtain⟨v,hv,rfl⟩:=List.mem_map.1 ha
   rw[<-lE]at hi
   exact hin v hv i hi
  ·intro o ho i hi
   obtain⟨o',ho',rfl⟩:=List.mem_map.1 ho
   rw[<-qY]at hi
   exact allIn_mem.1 (hoids o' ho') i hi
  ·cases pan with
   |false=>
    obtain⟨c,hc,hk⟩:=ct h2
    exact retK c hc hk
   |true=>
    obtain⟨oc,hc,hk⟩:=ct h2
    obtain⟨g1,g2⟩:=Du hO hc
    cases oc with
    |some c=>exact retK c (g1 c rfl) hk
    |none=>
     have q1:=g2 rfl
     rw[hren,horen]at q1
     refine q1.mono λo ho=>?_
     subst ho
     refine⟨_,?_,keepP _,hk⟩
     rw[DV]
     congr 1
     rw[List.map_map,List.map_map];rfl
 ·cases h
end
end Go.Ev
