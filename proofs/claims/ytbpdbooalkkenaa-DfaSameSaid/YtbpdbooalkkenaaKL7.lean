/- Part ML7 of the layer: an abstract and a typed machine over the loaded code, proved sound. -/
import Derived.Test.YtbpdbooalkkenaaKL6
import Derived.Test.YtbpdbooalkkenaaKL4
set_option linter.unusedVariables false
set_option linter.unusedSimpArgs false
namespace Go.Ev
open Go Go.RowKit Go.Av
theorem gE:∀(l:List Slot) (c:HL l) (b:S),(∀k v,lk b.fr k=some v->v.isD=true)->∀k v,lk (unpack l c b).fr k=some v->v.isD=true
 |[],_,_,h=>h
 | .tm j t::l,c,b,h=>gE l c.2 _ λk v hv=>by
  simp only[lk]at hv
  cases hb:Nat.beq k j
  ·rw[hb]at hv;exact h k v hv
  ·rw[hb]at hv
   simp only[cond_true,Option.some.injEq]at hv
   subst hv;rfl
 | .cell _ _ _::l,c,b,h=>gE l c.2 _ h
 | .vec _ _ _::l,c,b,h=>gE l c.2 _ h
 | .map _ _ _ _ _::l,c,b,h=>gE l c.2 _ h
 | .tree _ _ _ _::l,c,b,h=>gE l c.2 _ h
 | .treeH _ _ _ _ _ _::l,c,b,h=>gE l c.2 _ h
theorem L3{v:V}(h:v.isD=true):v.ids=[]/\v.ids1=[]:=by cases v<;>first|exact⟨rfl,rfl⟩|cases h
theorem Ia{n:Nat}{fr:List (Nat×V)}(h:∀k v,lk fr k=some v->v.isD=true):(res n fr).ids=[]:=by
 have one:∀k,((lk fr k).getD .any).ids=[]/\((lk fr k).getD .any).ids1=[]:=λk=>by
  cases hl:lk fr k with
  |none=>exact⟨rfl,rfl⟩
  |some v=>exact L3 (h k v hl)
 unfold res
 cases Nat.beq n 1
 ·show(Gt fr n).flatMap V.ids1=[]
  rw[List.flatMap_eq_nil_iff]
  intro v hv
  obtain⟨i,_,rfl⟩:=List.mem_map.1 hv
  exact(one i).2
 ·exact(one 0).1
theorem G6{hp:List AObj}{bor:Bool}{x:BV}{p:PV}(h:x.toPV=some p):wu hp bor x=some p:=by
 cases x<;>first|exact h|cases h
theorem Dn{hp:List AObj}{bor:Bool}{x:AV}{p:PV}(h:x.toPV=some p):lA hp bor x=some p:=by
 cases x with
 |b x=>exact G6 h
 |agg xs=>
  have h':(xs.mapM BV.toPV).map PV.agg=some p:=h
  obtain⟨ps,h1,rfl⟩:=Option.map_eq_some_iff.1 h'
  show(xs.mapM (wu hp bor)).map PV.agg=_
  rw[nz (λx _ y hy=>G6 hy) h1];rfl
 |tup xs=>exact h
section
variable {R:Type} {P:Program} {O:aj} {d:Option Nat} {s:S} {κ kp:S->Option R} {r:R}
theorem JJ{bor:Bool}{a:Arg×X}{v:V}(hw:a.2.wf=true)(h:Dk s bor [] a=some v)(hd:v.isD=true):∃p,((enc s).get a.2.er).bind (lA (enc s).hp bor)=some p/\AV.p p=aS v:=by
 obtain⟨a,x⟩:=a
 simp only[Dk]at h
 split at h
 ·rename_i t id hx
  obtain⟨h1,h2⟩:=aR h
  simp only[Bool.and_eq_true,Bool.not_eq_true']at h1
  split at h2
  ·rename_i e u xs ho
   split at h2
   ·rename_i ys hy
    cases h2
    obtain⟨e1,e2⟩:=bF hy
    refine⟨aH (.list t) ys,?_,rfl⟩
    rw[aA hw hx,Option.bind_some]
    show(if bor=true then Fv (enc s).hp id else none)=_
    rw[h1.1,if_pos rfl,Fv,bO,ho]
    show some (aH (.list u) xs)=some (aH (.list t) ys)
    rw[e1]
   ·cases h2
  ·rename_i e kk u xs ho
   split at h2
   ·rename_i ys hy
    cases h2
    obtain⟨e1,e2⟩:=bF hy
    refine⟨aH (.list t) ys,?_,rfl⟩
    rw[aA hw hx,Option.bind_some]
    show(if bor=true then Fv (enc s).hp id else none)=_
    rw[h1.1,if_pos rfl,Fv,bO,ho]
    show some (aH (.list u) xs)=some (aH (.list t) ys)
    rw[e1]
   ·cases h2
  ·cases h2
 ·rename_i t v' _ hx
  split at h
  ·rename_i y hy
   cases h
   exact⟨aH t y,by rw[aA hw hx,Option.bind_some];exact Dn (eH hy),rfl⟩
  ·cases h
 ·rename_i v' hx
  have key:∀p:PV,aS v'=AV.p p->v'=v->∃p,((enc s).get x.er).bind (lA (enc s).hp bor)=some p/\AV.p p=aS v:=λp hp e=>by
   subst e
   exact⟨p,by rw[aA hw hx,Option.bind_some,hp];exact Dn rfl,hp.symm⟩
  split at h
  ·cases h
  ·cases h
  ·cases h
  ·cases h
  ·rename_i vs
   obtain⟨h1,h2⟩:=aR h
   cases h2
   cases hd
  ·cases h
   cases v<;>first|(cases hd;done)|skip
   ·exact key _ rfl rfl
   ·exact key _ rfl rfl
   ·exact key _ rfl rfl
 ·cases h
theorem uT{bor:Bool}:∀(l:List (Arg×X)) (vs:List V),jz l=true->me s bor [] l=some vs->vs.all V.isD=true->∃ps,(l.map λa=>a.2.er).mapM (λx=>((enc s).get x).bind (lA (enc s).hp bor))=some ps/\ps.map AV.p=vs.map aS
 |[],vs,_,h,_=>by cases h;exact⟨[],rfl,rfl⟩
 |a::l,vs,hw,h,hd=>by
  simp only[jz,List.all_cons,Bool.and_eq_true]at hw
  simp only[me]at h
  split at h
  ·rename_i v hv
   split at h
   ·rename_i us hu
    cases h
    simp only[List.all_cons,Bool.and_eq_true]at hd
    obtain⟨p,h1,h2⟩:=JJ hw.1 hv hd.1
    obtain⟨ps,h3,h4⟩:=uT l us hw.2 hu hd.2
    refine⟨p::ps,?_,by rw[List.map_cons,List.map_cons,h2,h4]⟩
    rw[List.map_cons,List.mapM_cons,h1,h3];rfl
   ·cases h
  ·cases h
theorem HS(hO:OracleOk P O){bor:Bool}{f:FuncId}{args:List (Arg×X)}{sh:Sh}(hw:jz args=true/\sh.wfB=true)(h:evOp O d (.call bor f args sh) s κ kp=some r):
 Pu P s (.call bor (f%10000) (args.map λa=>a.2.er)) d κ r:=by
 simp only[evOp]at h
 split at h
 ·rename_i ars ha
  obtain⟨h1,h2⟩:=aR h
  simp only[Bool.and_eq_true,Bool.or_eq_true,Bool.not_eq_true']at h1
  obtain⟨c,hc,hk⟩:=ct h2
  obtain⟨ps,h3,h4⟩:=uT args ars hw.1 ha h1.1.1
  obtain⟨q1,q2⟩:=qT hO hw.2 hc
  rw[<-h4]at q1
  refine⟨_,⟨ps,h3,q1.mono λo ho=>⟨_,_,ho,?_,λhb=>(q2 ?_).1,rfl⟩⟩,hk⟩
  ·rw[<-lE]
   refine Ia (gE _ _ _ λk v hv=>?_)
   rw[base_nil]at hv
   have:=List.isEmpty_iff.1 h1.1.2
   rw[this]at hv;cases hv
  ·rcases h1.2 with hh|hh
   ·rw[hb]at hh;cases hh
   ·exact hh
 ·cases h
theorem EG(hO:OracleOk P O){bor:Bool}{num:Nat}{x:X}{args:List (Arg×X)}{sh:Sh}(hw:x.wf=true/\jz args=true/\dI P (num%10000)=true/\sh.wfB=true)(h:evOp O d (.callp bor num x args sh) s κ kp=some r):
 Pu P s (.callp bor x.er (args.map λa=>a.2.er)) d κ r:=by
 simp only[evOp]at h
 split at h
 ·rename_i f cs ars hx ha
  obtain⟨h1,h2⟩:=aR h
  simp only[Bool.and_eq_true,Bool.or_eq_true,Bool.not_eq_true']at h1
  obtain⟨c,hc,hk⟩:=ct h2
  have hf:=Nat.eq_of_beq_eq_true h1.1.1.1
  subst hf
  obtain⟨ps,h3,h4⟩:=uT args ars hw.2.1 ha h1.1.1.2
  obtain⟨q1,q2⟩:=qT hO hw.2.2.2 hc
  have hcs:(ars++cs.map λc=>V.dp c.1 c.2).map aS=(ps++cs.map λc=>PV.pto (aH c.1 c.2)).map AV.p:=by
   rw[List.map_append,List.map_append,h4,List.map_map,List.map_map];rfl
  rw[hcs]at q1
  refine⟨_,⟨_,aA hw.1 hx,num%10000,cs.map λc=>PV.pto (aH c.1 c.2),rfl,hw.2.2.1,ps,h3,q1.mono λo ho=>⟨_,_,ho,?_,λhb=>(q2 ?_).1,rfl⟩⟩,hk⟩
  ·rw[<-lE]
   refine Ia (gE _ _ _ λk v hv=>?_)
   rw[base_nil]at hv
   have:=List.isEmpty_iff.1 h1.1.2
   rw[this]at hv;cases hv
  ·rcases h1.2 with hh|hh
   ·rw[hb]at hh;cases hh
   ·exact hh
 ·cases h
theorem LeS.refl(a:St):LeS a a:=⟨λ_ y hk=>⟨y,hk,.refl y⟩,rfl,λi x y hx hy=>by rw[hx]at hy;cases hy;exact .refl x⟩
def Fu(P:Program)(s:S)(op:SOp)(d:Option Nat)(κ kp:S->Option R)(r:R):Prop:=
 sexec P d op (enc s) (λst'=>∃s',LeS st' (enc s')/\Keeps (fj d) s s'/\κ s'=some r) (λst'=>∃s',st'=enc s'/\Keeps (fj d) s s'/\kp s'=some r)
def Ox(P:Program)(s:S)(op:SOp)(d:Option Nat)(κ kp:S->Option R)(r:R):Prop:=
 sexec P d op (enc s) (λst'=>∃s',st'=enc s'/\Keeps (fj d) s s'/\κ s'=some r) (λst'=>∃s',st'=enc s'/\Keeps (fj d) s s'/\kp s'=some r)
theorem Ox.ob{op:SOp}(h:Ox P s op d κ kp r):Fu P s op d κ kp r:=ko h (λ_ ⟨s',h1,h2,h3⟩=>⟨s',by rw[h1];exact .refl _,h2,h3⟩) λ_ h=>h
theorem mT{st:St}{op:SOp}{x:AV}{K KP:St->Prop}(hs:g8 P st op λy=>y=x)(hk:K (st.putO d x)):sexec P d op st K KP:=by
 have h1:g8 P st op λy=>K (st.putO d y):=uH hs λy hy=>by rw[hy];exact hk
 unfold sexec
 split<;>first|exact h1|exact hs.elim
theorem Pu.ox{op:SOp}(h:Pu P s op d κ r):Ox P s op d κ kp r:=by
 obtain⟨v,h1,h2⟩:=h
 exact mT h1 ⟨_,(fx _ _ _).symm,Keeps.put s d v,h2⟩
theorem Pu.ob{op:SOp}(h:Pu P s op d κ r):Fu P s op d κ kp r:=by
 obtain⟨v,h1,h2⟩:=h
 exact mT h1 ⟨_,by rw[fx];exact .refl _,Keeps.put s d v,h2⟩
theorem qZ(s:S)(o:Ob):enc ⟨s.fr,s.hp++[o]⟩={enc s with hp:=(enc s).hp++[bN o]}:=by simp[enc]
theorem gu(s:S)(id:Nat)(o:Ob):enc ⟨s.fr,setAt s.hp id o⟩={enc s with hp:=(enc s).hp.set id (bN o)}:=by simp[enc,d9,List.map_set]
theorem mj(s:S):(enc s).hp.length=s.hp.length:=by simp[enc]
theorem rT{o:Ob}{o':AObj}{x:BV}{v:V}(ho:bN o=o')(hv:aS v= .b x)(h:κ (S.putO ⟨s.fr,s.hp++[o]⟩ d v)=some r):
 ∃s',LeS (({enc s with hp:=(enc s).hp++[o']}:St).putO d (.b x)) (enc s')/\Keeps (fj d) s s'/\κ s'=some r:=by
 refine⟨_,?_,(Keeps.fr (s':=⟨s.fr,s.hp++[o]⟩) rfl).trans (Keeps.put _ d v),h⟩
 rw[fx,qZ,ho,hv]
 exact .refl _
theorem HP{o:Ob}{o':AObj}{x:BV}{v:V}(ho:bN o=o')(hv:aS v= .b x)(h:κ (S.putO ⟨s.fr,s.hp++[o]⟩ d v)=some r):
 ∃s',(({enc s with hp:=(enc s).hp++[o']}:St).putO d (.b x))=enc s'/\Keeps (fj d) s s'/\κ s'=some r:=by
 refine⟨_,?_,(Keeps.fr (s':=⟨s.fr,s.hp++[o]⟩) rfl).trans (Keeps.put _ d v),h⟩
 rw[fx,qZ,ho,hv]
theorem Kt{tid:TypeId}{zero:List V}(hw:zero.all V.konst=true)(h:evOp O d (.alloc tid zero) s κ kp=some r):Fu P s (.alloc tid (zero.map uA)) d κ kp r:=by
 simp only[evOp]at h
 refine rT (o:=.box tid zero) ?_ ?_ h
 ·show AObj.box tid (zero.map aM)=AObj.box tid ((zero.map uA).map λv=>bq v)
  rw[List.map_map]
  congr 1
  exact List.map_congr_left λv hv=>(rR (List.all_eq_true.1 hw v hv)).symm
 ·rw[mj];rfl
theorem Nb{tid:TypeId}{x:X}(hw:x.wf=true)(h:evOp O d (.box tid x) s κ kp=some r):Fu P s (.box tid x.er) d κ kp r:=by
 simp only[evOp]at h
 split at h
 ·rename_i v hx
  obtain⟨h1,h2⟩:=aR h
  obtain⟨h3,h4⟩:=qa h1
  refine⟨_,aA hw hx,h3,rT (o:=.box tid (cw v)) ?_ ?_ h2⟩
  ·show AObj.box tid _=_
   rw[h4]
  ·rw[mj];rfl
 ·cases h
theorem IU{tid:TypeId}{t:Ty}{len:Nat}{parts:List X}(hw:parts.all X.wf=true)(h:evOp O d (.bslice true tid t len parts) s κ kp=some r):Fu P s (.bslice true tid t.sz len (parts.map X.er)) d κ kp r:=by
 simp only[evOp]at h
 obtain⟨h1,h2⟩:=aR h
 simp only[Bool.and_eq_true]at h1
 obtain⟨xs,h3,h4,h5⟩:=lK parts _ hw h2
 refine⟨_,h3,?_,Nat.le_of_ble_eq_true h1.1.2,Nat.le_of_ble_eq_true h1.2,im xs,rT (o:=.vec tid t xs) rfl ?_ h5⟩
 ·rw[List.length_map,h4]
  exact Nat.eq_of_beq_eq_true h1.1.1
 ·rw[mj];rfl
theorem IW{tid:TypeId}{t:Ty}{bytes:Nat}{l c:X}(hw:l.wf=true/\c.wf=true/\t≠.rx)(h:evOp O d (.mslice tid t bytes l c) s κ kp=some r):Fu P s (.mslice tid t.sz bytes (mX t) l.er c.er) d κ kp r:=by
 simp only[evOp]at h
 obtain⟨h1,h2⟩:=aR h
 obtain⟨k1,l',hl,h3⟩:=eK h2
 obtain⟨k2,c',hc,h4⟩:=eK h3
 obtain⟨h5,h6⟩:=bB h4
 simp only[Bool.and_eq_true,decide_eq_true_eq]at h5
 obtain⟨z1,z2⟩:=Ft t hw.2.2
 refine⟨_,aA hw.1 hl,_,aA hw.2.1 hc,_,rfl,_,rfl,_,_,rfl,_,_,rfl,h5.1.1.1,h5.1.1.2,h5.1.2,h5.2,z2,Nat.le_of_ble_eq_true h1,_,z1,u9 t _,rT (o:=.vec tid t (List.replicate l'.toNat t.zero)) ?_ ?_ h6⟩
 ·show AObj.vec tid t.sz _=_
  rw[List.map_replicate]
 ·rw[mj];rfl
theorem Gh{tid:TypeId}{k:Av.K}{u:Ty}{bytes:Nat}{l c:X}(hw:l.wf=true/\c.wf=true)(h:evOp O d (.msliceT tid k u bytes l c) s κ kp=some r):Fu P s (.msliceT k tid 1 bytes (.slice none 0 0) l.er c.er) d κ kp r:=by
 simp only[evOp]at h
 obtain⟨h1,h2⟩:=aR h
 obtain⟨k1,l',hl,h3⟩:=eK h2
 obtain⟨k2,c',hc,h4⟩:=eK h3
 obtain⟨h5,h6⟩:=bB h4
 simp only[Bool.and_eq_true,decide_eq_true_eq]at h5
 have hn:k.nilsB nilP.cells=true:=by
  simp only[Av.K.nilsB,nilP,PV.cells,List.length_cons,List.length_nil,List.all_eq_true,List.mem_range]
  intro j hj
  obtain rfl:j=0:=by omega
  split<;>rfl
 refine⟨_,aA hw.1 hl,_,aA hw.2 hc,_,rfl,_,rfl,_,_,rfl,_,_,rfl,h5.1.1.1,h5.1.1.2,h5.1.2,h5.2,rfl,Nat.one_pos,nilP,rfl,rfl,hn,rT (o:=.tree tid k (.list u) (List.replicate l'.toNat []) none) ?_ ?_ h6⟩
 ·show AObj.tree tid 1 k _ none=_
  rw[List.map_replicate]
  have:k.unnil nilP= .list 0 []:=by simp[Av.K.unnil,nilP,h1]
  rw[this];rfl
 ·rw[mj];rfl
theorem GZ{k:Av.K}{t:Ty}{y:t.den}(h:Nf k (fq t y)=true):k.unnil (cu k t y)=aH t y:=by
 have key:∀(j:Nat) (p:PV),(aH t y).cells[j]? =some p->(k.at j).isSome=true->p= .list 0 []:=by
  intro j p hp hk
  obtain⟨h1,h2⟩:=da t y
  have hj:j<(fq t y).length:=by rw[h2,<-aG t y];exact(List.getElem?_eq_some_iff.1 hp).1
  simp only[Nf,List.all_eq_true,List.mem_range]at h
  have h3:=h j hj
  obtain⟨q,hq⟩:=Option.isSome_iff_exists.1 hk
  rw[hq]at h3
  simp only[List.getD,List.getElem?_eq_getElem hj,Option.getD_some]at h3
  have h4:((fq t y).map aM)[j]? =some (.pv p):=by rw[h1,List.getElem?_map,hp];rfl
  rw[List.getElem?_map,List.getElem?_eq_getElem hj]at h4
  split at h3
  ·rename_i u l hv
   rw[hv]at h4
   have hl:l=[]:=by simpa using h3
   subst hl
   have h5:=Option.some.inj h4
   have h6:(BV.pv (aH (.list u) []))= .pv p:=h5
   cases h6;rfl
  ·cases h3
 unfold cu
 cases he:aH t y with
 |agg cs=>
  simp only[Av.K.unnil,PV.agg.injEq]
  apply List.ext_getElem?
  intro j
  simp only[List.getElem?_mapIdx]
  cases hc:cs[j]? with
  |none=>rfl
  |some p=>
   simp only[Option.map_some]
   cases hk:(k.at j).isSome
   ·rfl
   ·rw[key j p (by rw[he];exact hc) hk];rfl
 |_=>
  have h0:=key 0 _ (by rw[he];rfl)
  simp only[]
  cases hk:(k.at 0).isSome
  ·simp[Av.K.unnil,hk]
  ·simp only[if_true,Av.K.unnil,nilP,hk]
   exact(h0 hk).symm
theorem IR(k:Av.K)(t:Ty)(y:t.den):k.nilsB (cu k t y).cells=true:=by
 simp only[Av.K.nilsB,List.all_eq_true,List.mem_range]
 intro j hj
 split
 ·rename_i q hq
  rw[xE]at hj⊢
  simp only[List.length_mapIdx]at hj
  simp only[List.getD,List.getElem?_mapIdx,List.getElem?_eq_getElem hj,Option.map_some,Option.getD_some,hq,Option.isSome_some,if_true,nilP]
 ·rfl
theorem Mh{tid:TypeId}{k:Av.K}{t:Ty}{bytes:Nat}{x y:X}(hw:x.wf=true/\y.wf=true)(h:evOp O d (.appT tid k t bytes x y) s κ kp=some r):Ox P s (.appT k tid t.sz bytes x.er y.er) d κ kp r:=by
 simp only[evOp]at h
 split at h
 ·rename_i k' u ys0 hy
  obtain⟨hk,hA⟩:=aR h
  clear h
  have hk':k=k':=by simpa using hk
  subst hk'
  split at hA
  ·rename_i ys hc
   obtain⟨c1,c2⟩:=bH hc
   have c3:=Ty.list.inj c1
   subst c3
   have c4:ys=ys0:=c2
   subst c4
   obtain⟨hown,h1⟩:=aR hA
   clear hA
   simp only[List.all_eq_true]at hown
   have hel:∀p∈ys.map (cu k u),p.ok=true/\k.nilsB p.cells=true:=λp hp=>⟨(AM ys p hp).2,by
    obtain⟨z,_,rfl⟩:=List.mem_map.1 hp;exact IR k u z⟩
   have hun:(ys.map (cu k u)).map k.unnil=ys.map (aH u):=by
    rw[List.map_map]
    exact List.map_congr_left λz hz=>GZ (hown z hz)
   split at h1
   ·rename_i id hx
    split at h1
    ·rename_i e k2 u2 xs0 ho
     split at h1
     ·rename_i xs hz
      obtain⟨e2,e3⟩:=bH hz
      have e4:=Ty.list.inj e2
      subst e4
      have e5:xs=xs0:=e3
      subst e5
      obtain⟨g1,g2⟩:=aR h1
      simp only[Bool.and_eq_true,decide_eq_true_eq]at g1
      obtain⟨g1,rfl⟩:=g1
      obtain⟨g3,g4⟩:=bB g2
      have g5:=Nat.eq_of_beq_eq_true g1
      subst g5
      refine⟨_,aA hw.1 hx,_,aA hw.2 hy,.inr (.inl ⟨ys.map (cu k u2),rfl,hel,.inl ⟨id,rfl,_,by rw[bO,ho];rfl,_,rfl,by rw[List.length_map,List.length_map];simpa using g3,_,?_,(Keeps.map (fj d) s (s.moved id (.tree e k u2 (xs++ys) none)) (V.kill1 id) (λv hv=>by cases v<;>first|rfl|cases hv) rfl).trans (Keeps.put _ d _),g4⟩⟩)⟩
      rw[fx,u7,hun]
      have:bN (.tree e k u2 (xs++ys) none)= .tree e u2.sz k (xs.map (aH u2)++ys.map (aH u2)) none:=by
       show AObj.tree e u2.sz k ((xs++ys).map (aH u2)) none=_
       rw[List.map_append]
      rw[this]
      rfl
     ·cases h1
    ·cases h1
   ·rename_i v hx
    obtain⟨h3,h4⟩:=bB h1
    refine⟨_,aA hw.1 hx,_,aA hw.2 hy,.inr (.inl ⟨ys.map (cu k u),rfl,hel,.inr ⟨rfl,by rw[List.length_map];simpa using h3,HP (o:=.tree tid k u ys none) ?_ ?_ h4⟩⟩)⟩
    ·rw[hun];rfl
    ·rw[mj];rfl
   ·cases h1
  ·cases hA
 ·cases h
theorem Kw{k e:TypeId}{a b:Ty}(h:evOp O d (.mkmap k e a b) s κ kp=some r):Fu P s (.mkmap k e) d κ kp r:=by
 simp only[evOp]at h
 refine rT (o:=.map k e a b []) rfl ?_ h
 rw[mj];rfl
theorem Bo{tid:TypeId}{t:Ty}{bytes:Nat}{x y:X}(hw:x.wf=true/\y.wf=true)(h:evOp O d (.append tid t bytes x y) s κ kp=some r):Ox P s (.append tid t.sz bytes x.er y.er) d κ kp r:=by
 simp only[evOp]at h
 obtain⟨vy,ys,hy,h1,h2⟩:=jL h
 have hnew:∀v:V,s.get x=some v->aS v= .b .nils\/aS v= .b (.full (.list 0 []))->aw (decide (ys.length*bytes<=140737488355328)) (κ (S.putO ⟨s.fr,s.hp++[.vec tid t ys]⟩ d (.sl s.hp.length)))=some r->Ox P s (.append tid t.sz bytes x.er y.er) d κ kp r:=by
  intro v hx hv hh
  obtain⟨h3,h4⟩:=bB hh
  refine⟨_,aA hw.1 hx,_,aA hw.2 hy,h2 _ ⟨λp hp=>(im ys p hp).2,.inr ⟨hv,by rw[List.length_map];simpa using h3,HP (o:=.vec tid t ys) rfl ?_ h4⟩⟩⟩
  rw[mj];rfl
 split at h1
 ·rename_i id hx
  split at h1
  ·rename_i e u xs ho
   split at h1
   ·rename_i zs hz
    obtain⟨e2,e3⟩:=bH hz
    have e4:=Ty.list.inj e2
    subst e4
    have e5:zs=xs:=e3
    subst e5
    obtain⟨g1,g2⟩:=aR h1
    obtain⟨g3,g4⟩:=bB g2
    have g5:=Nat.eq_of_beq_eq_true g1
    subst g5
    refine⟨_,aA hw.1 hx,_,aA hw.2 hy,h2 _ ⟨λp hp=>(im ys p hp).2,.inl ⟨id,rfl,_,by rw[bO,ho];rfl,_,rfl,by rw[List.length_map,List.length_map];simpa using g3,_,?_,(Keeps.map (fj d) s (s.moved id (.vec e u (zs++ys))) (V.kill1 id) (λv hv=>by cases v<;>first|rfl|cases hv) rfl).trans (Keeps.put _ d _),g4⟩⟩⟩
    rw[fx,u7]
    have:bN (.vec e u (zs++ys))= .vec e u.sz (zs.map (aH u)++ys.map (aH u)):=by
     show AObj.vec e u.sz ((zs++ys).map (aH u))=_
     rw[List.map_append]
    rw[this]
    rfl
   ·cases h1
  ·cases h1
 ·rename_i u hx
  exact hnew _ hx (.inl rfl) h1
 ·rename_i u hx
  exact hnew _ hx (.inr rfl) h1
 ·cases h1
theorem IT{tid:TypeId}{t:Ty}{bytes:Nat}{x y:X}(hw:x.wf=true/\y.wf=true)(h:evOp O d (.append tid t bytes x y) s κ kp=some r):Fu P s (.append tid t.sz bytes x.er y.er) d κ kp r:=
 (Bo hw h).ob
theorem Mf{tid:TypeId}{t:Ty}{x y:X}(hw:x.wf=true/\y.wf=true)(h:evOp O d (.copy tid t x y) s κ kp=some r):Fu P s (.copy tid t.sz x.er y.er) d κ kp r:=by
 simp only[evOp]at h
 split at h
 ·rename_i id v hx hy
  obtain⟨h0,h1⟩:=aR h
  obtain⟨vy,ys,hvy,h3,h2⟩:=jL h1
  cases hvy
  split at h3
  ·rename_i e u xs ho
   split at h3
   ·rename_i zs hz
    obtain⟨e2,e3⟩:=bH hz
    have e4:=Ty.list.inj e2
    subst e4
    have e5:zs=xs:=e3
    subst e5
    obtain⟨g1,g2⟩:=aR h3
    have g5:=Nat.eq_of_beq_eq_true g1
    subst g5
    refine⟨_,aA hw.1 hx,_,aA hw.2 hy,h2 _ ⟨λp hp=>(im ys p hp).2,id,rfl,λhe=>?_,_,by rw[bO,ho];rfl,_,rfl,_,?_,(Keeps.fr (s':=⟨s.fr,setAt s.hp id (.vec e u (ys.take zs.length++zs.drop ys.length))⟩) rfl).trans (Keeps.put _ d _),g2⟩⟩
    ·cases hv:v.isA
     ·rw[mg hv]at he
      cases v<;>simp only[aS,aM]at he<;>first|(cases he;done)|skip
      ·rename_i j
       cases he
       simp[Nat.beq_refl]at h0
      ·rename_i vv
       unfold bq at he
       split at he<;>cases he
     ·cases v<;>first|(cases hv;done)|cases he
    ·rw[fx,gu]
     have:bN (.vec e u (ys.take zs.length++zs.drop ys.length))= .vec e u.sz ((ys.map (aH u)).take (zs.map (aH u)).length++(zs.map (aH u)).drop (ys.map (aH u)).length):=by
      show AObj.vec e u.sz _=_
      rw[List.map_append,List.map_take,List.map_drop,List.length_map,List.length_map]
     rw[this,List.length_map,List.length_map]
     exact .refl _
   ·cases h3
  ·cases h3
 ·cases h
theorem Kx{x:X}(hw:x.wf=true)(h:evOp O d (.panic x) s κ kp=some r):Fu P s (.panic x.er) d κ kp r:=by
 simp only[evOp]at h
 split at h
 ·rename_i hx
  exact⟨_,aA hw hx,rfl,s,rfl,Keeps.refl _ _,h⟩
 ·cases h
theorem EA(hO:OracleOk P O){pan bor:Bool}{B:List Nat}{f:FuncId}{args:List (Arg×X)}{sh:Sh}(hw:jz args=true/\sh.wfB=true)(h:evOp O d (.callA pan bor B f args sh) s κ kp=some r):
 Ox P s (.callA bor B (f%10000) (args.map λa=>a.2.er)) d κ kp r:=by
 simp only[evOp]at h
 split at h
 ·rename_i ars ha
  obtain⟨os,_,h1,h2,h3⟩:=tX hO hw.2 h
  refine⟨_,pR args ars hw.1 ha h2,_,h1,?_⟩
  obtain⟨g1,g2,g3,g4⟩:=h3
  refine⟨g1,g2,g3,g4.mono λo ho=>?_⟩
  match o,ho with
  |some (_,_),ho=>exact⟨ho.1,let⟨s',e1,e2,e3⟩:=ho.2;⟨s',by rw[e1],e2,e3⟩⟩
  |none,ho=>exact ho
 ·cases h
theorem Ku(hO:OracleOk P O){pan bor:Bool}{B:List Nat}{f:FuncId}{args:List (Arg×X)}{sh:Sh}(hw:jz args=true/\sh.wfB=true)(h:evOp O d (.callA pan bor B f args sh) s κ kp=some r):
 Fu P s (.callA bor B (f%10000) (args.map λa=>a.2.er)) d κ kp r:=
 (EA hO hw h).ob
theorem EB(hO:OracleOk P O){pan bor:Bool}{B:List Nat}{num:Nat}{x:X}{args:List (Arg×X)}{sh:Sh}(hw:x.wf=true/\jz args=true/\dI P (num%10000)=true/\sh.wfB=true)(h:evOp O d (.callv pan bor B num x args sh) s κ kp=some r):
 Ox P s (.callv bor B x.er (args.map λa=>a.2.er)) d κ kp r:=by
 have fin:∀(f:FuncId) (ars caps:List V),Nat.beq (num%10000) f=true->me s bor B args=some ars->s3 pan O s d bor B num (ars++caps) sh κ kp=some r->
  dI P f=true/\aK ((args.map λa=>a.2.er).mapM λx=>((enc s).get x).bind (qq (enc s).hp bor B)) λav=>aK (B.mapM ((enc s).hp[·]?)) λos=>sexec.callK P (enc s) d bor B f (av++caps.map aS) os (λst'=>∃s',st'=enc s'/\Keeps (fj d) s s'/\κ s'=some r) (λst'=>∃s',st'=enc s'/\Keeps (fj d) s s'/\kp s'=some r):=by
  intro f ars caps hf ha hc
  have hf':=Nat.eq_of_beq_eq_true hf
  subst hf'
  obtain⟨os,_,h1,h2,h3⟩:=tX hO hw.2.2.2 hc
  refine⟨hw.2.2.1,_,pR args ars hw.2.1 ha λv hv=>h2 v (by simp[hv]),_,h1,?_⟩
  obtain⟨g1,g2,g3,g4⟩:=h3
  rw[List.map_append]at g2 g4
  refine⟨g1,g2,g3,g4.mono λo ho=>?_⟩
  match o,ho with
  |some (_,_),ho=>exact⟨ho.1,let⟨s',e1,e2,e3⟩:=ho.2;⟨s',by rw[e1],e2,e3⟩⟩
  |none,ho=>exact ho
 simp only[evOp]at h
 split at h
 ·rename_i f ids ars hx ha
  obtain⟨h1,h2⟩:=aR h
  obtain⟨g1,g2⟩:=fin f ars _ h1 ha h2
  refine⟨_,aA hw.1 hx,f,_,.inl ⟨ids,rfl,rfl⟩,g1,?_⟩
  rw[List.map_map]at g2
  exact g2
 ·rename_i f cs ars hx ha
  obtain⟨h1,h2⟩:=aR h
  obtain⟨g1,g2⟩:=fin f ars _ h1 ha h2
  refine⟨_,aA hw.1 hx,f,_,.inr ⟨cs.map λc=>PV.pto (aH c.1 c.2),rfl,rfl⟩,g1,?_⟩
  rw[List.map_map]at g2⊢
  exact g2
 ·cases h
theorem Kv(hO:OracleOk P O){pan bor:Bool}{B:List Nat}{num:Nat}{x:X}{args:List (Arg×X)}{sh:Sh}(hw:x.wf=true/\jz args=true/\dI P (num%10000)=true/\sh.wfB=true)(h:evOp O d (.callv pan bor B num x args sh) s κ kp=some r):
 Fu P s (.callv bor B x.er (args.map λa=>a.2.er)) d κ kp r:=
 (EB hO hw h).ob
theorem IZ:∀(t:Ty) (x:t.den),t.eqOk=true->(aH t x).plain=true:=by
 have hc:∀(t:Ty) (x:t.den),t.eqOk=true->(aB t x).all (λx=>match x with
  | .sc (.int _ _)=>true
  | .sc (.bool _)=>true
  | .sc (.string _)=>true
  |_=>false)=true:=by
  intro t
  induction t with
  |pair a b iha ihb=>
   intro x h
   simp only[Ty.eqOk,Bool.and_eq_true]at h
   have e:aB (.pair a b) x=aB a x.1++aB b x.2:=rfl
   rw[e,List.all_append,iha x.1 h.1,ihb x.2 h.2];rfl
  |int k=>intro x _;rfl
  |bool=>intro x _;rfl
  |str=>intro x _;rfl
  |unit=>intro x _;rfl
  |list t _=>intro x h;cases h
  |rx=>intro x h;cases h
 intro t x h
 cases t with
 |pair a b=>exact hc (.pair a b) x h
 |int k=>rfl
 |bool=>rfl
 |str=>rfl
 |unit=>rfl
 |list t=>cases h
 |rx=>cases h
theorem Ba{a b:Ty}(y:a.den)(z:b.den):∀(kvs:List (a.den×b.den)),(fJ a b kvs y=none->jS a b kvs y z=kvs++[(y,z)])/\
 (∀j k' v,kvs[j]? =some (k',v)->wB a y k'=true->(∀i' kv,i'<j->kvs[i']? =some kv->wB a y kv.1=false)->jS a b kvs y z=kvs.set j (y,z))
 |[]=>⟨λ_=>rfl,λj k' v h=>by simp at h⟩
 |(k,v)::l=>by
  obtain⟨h1,h2⟩:=Ba y z l
  refine⟨λh=>?_,λj k' v' hj he hlt=>?_⟩
  ·simp only[fJ]at h
   cases hb:wB a y k
   ·rw[hb]at h
    simp only[jS,hb,cond_false,h1 h,List.cons_append]
   ·rw[hb]at h;cases h
  ·cases j with
   |zero=>
    simp at hj
    obtain⟨rfl,rfl⟩:=hj
    simp[jS,he]
   |succ j=>
    have hb:=hlt 0 (k,v) (by omega) rfl
    simp only[jS,hb,cond_false,List.set_cons_succ]
    rw[h2 j k' v' (by simpa using hj) he λi' kv hi' hkv=>hlt (i'+1) kv (by omega) (by simpa using hkv)]
theorem IV{k e:TypeId}{a b:Ty}{m x v:X}(hw:m.wf=true/\x.wf=true/\v.wf=true/\s7 P 64 k a=true)(h:evOp O d (.mapset k e a b m x v) s κ kp=some r):Fu P s (.mapset k e m.er x.er v.er) d κ kp r:=by
 simp only[evOp]at h
 split at h
 ·rename_i id u w hm hx hv
  split at h
  ·rename_i k' e' a' b' kvs y z ho hy hz
   split at h
   ·rename_i kvs2 hkv
    obtain⟨h1,h2⟩:=aR h
    simp only[Bool.and_eq_true]at h1
    have e1:=Nat.eq_of_beq_eq_true h1.1.1.1
    have e2:=Nat.eq_of_beq_eq_true h1.1.1.2
    have heq:=h1.1.2
    obtain⟨e3,e4⟩:=bH hkv
    have e5:=Ty.list.inj e3
    injection e5 with e6 e7
    clear h h1
    subst e1;subst e2;subst e6;subst e7
    have e8:kvs2=kvs:=e4
    subst e8
    obtain⟨_,h3⟩:=bB h2
    obtain⟨g1,g2⟩:=xO (P:=P) (b:=b') hw.2.2.2 y kvs2 0
    obtain⟨q1,q2⟩:=Ba y z kvs2
    have fin:∀l:List (PV×PV),(jS a' b' kvs2 y z).map (λp=>(aH a' p.1,aH b' p.2))=l->∃s',LeS {enc s with hp:=(enc s).hp.set id (.map k e l)} (enc s')/\Keeps (fj none) s s'/\κ s'=some r:=by
     rintro l rfl
     refine⟨⟨s.fr,setAt s.hp id (.map k e a' b' (jS a' b' kvs2 y z))⟩,?_,Keeps.fr rfl,h3⟩
     rw[gu]
     exact .refl _
    refine⟨_,aA hw.1 hm,_,aA hw.2.1 hx,_,aA hw.2.2.1 hv,id,_,rfl,by rw[bO,ho];rfl,_,eH hy,_,eH hz,rfl,IZ a' y heq,(Cm P 64 k a' hw.2.2.2 y y).2,Ed hw.2.2.2,g1,?_⟩
    rcases g2 with⟨g3,g4⟩|⟨j,u',k'',g3,g4,g5,g7,g6⟩
    ·refine⟨_,g4,λi u hh=>(by cases hh),fin _ ?_⟩
     rw[q1 g3,List.map_append];rfl
    ·have hk:=FY a' y k'' heq g5
     subst hk
     rw[Nat.zero_add]at g6
     refine⟨_,g6,λi u hh=>?_,fin _ ?_⟩
     ·cases hh
      exact⟨aH b' u',by rw[List.getElem?_map,g4];rfl⟩
     ·rw[q2 j _ _ g4 g5 g7,List.map_set]
   ·cases h
  ·cases h
 ·cases h
end
end Go.Ev
namespace Go.Ev
open Go Go.RowKit Go.Av
theorem oA{α:Type}(xs ys:List α)(h:xs.length=ys.length):splice xs 0 ys=ys:=by
 simp[splice,<-h]
theorem iA:∀(u:Ty) (off:Nat) (t:Ty) (x:u.den) (y:t.den) (z:u.den),jO u off t x y=some z->off+t.sz<=u.sz/\aB u z=splice (aB u x) off (aB t y)/\(u.ag=false->t=u)
 | .pair a b,off,t,x,y,z,h=>by
  have hl1:=aG a x.1
  have hl2:=aG b x.2
  have hly:=aG t y
  have hc:∀x:(Ty.pair a b).den,aB (.pair a b) x=aB a x.1++aB b x.2:=λ_=>rfl
  unfold jO at h
  cases hcond:(decide (Ty.pair a b=t)&&Nat.beq off 0)
  ·rw[hcond]at h
   simp only[cond_false]at h
   cases hle:Nat.ble (off+1) a.sz
   ·rw[hle]at h
    simp only[cond_false]at h
    have hge:a.sz<=off:=by
     have:=Nat.not_le_of_not_ble_eq_true (by rw[hle];simp)
     omega
    split at h
    ·rename_i z2 h2
     cases h
     obtain⟨g1,g2,_⟩:=iA b (off - a.sz) t x.2 y z2 h2
     refine⟨by simp only[Ty.sz];omega,?_,λh=>by cases h⟩
     rw[hc,hc,g2]
     simp only[splice]
     rw[List.take_append,List.take_of_length_le (l:=aB a x.1) (by omega),hl1,List.drop_append,List.drop_eq_nil_of_le (show(aB a x.1).length<=off+(aB t y).length by omega),hl1]
     simp only[List.nil_append,List.append_assoc]
     rw[show off+(aB t y).length - a.sz=off - a.sz+(aB t y).length by omega]
    ·cases h
   ·rw[hle]at h
    simp only[cond_true]at h
    have hlt:=Nat.le_of_ble_eq_true hle
    split at h
    ·rename_i z1 h1
     cases h
     obtain⟨g1,g2,_⟩:=iA a off t x.1 y z1 h1
     refine⟨by simp only[Ty.sz];omega,?_,λh=>by cases h⟩
     rw[hc,hc,g2]
     simp only[splice]
     rw[List.take_append_of_le_length (by omega),List.drop_append_of_le_length (by omega)]
     simp only[List.append_assoc]
    ·cases h
  ·rw[hcond]at h
   simp only[cond_true]at h
   simp only[Bool.and_eq_true,decide_eq_true_eq]at hcond
   have h0:off=0:=Nat.eq_of_beq_eq_true hcond.2
   subst h0
   obtain⟨e1,rfl⟩:=bF h
   refine⟨by omega,?_,λh=>by cases h⟩
   rw[oA _ _ (by rw[aG,aG])]
   simp only[aB,e1]
 | .rx,off,t,x,y,z,h=>by
  unfold jO at h
  obtain⟨h1,h2⟩:=aR h
  simp only[Bool.and_eq_true,decide_eq_true_eq]at h1
  have h0:off=0:=Nat.eq_of_beq_eq_true h1.1
  subst h0
  obtain⟨e1,rfl⟩:=bF h2
  refine⟨by omega,?_,λ_=>rfl⟩
  rw[oA _ _ (by rw[aG,aG])]
  simp only[aB,e1]
 | .int k,off,t,x,y,z,h=>leafC (.int k) off t x y z h
 | .bool,off,t,x,y,z,h=>leafC .bool off t x y z h
 | .str,off,t,x,y,z,h=>leafC .str off t x y z h
 | .list a,off,t,x,y,z,h=>leafC (.list a) off t x y z h
 | .unit,off,t,x,y,z,h=>leafC .unit off t x y z h
where
 leafC (u:Ty) (off:Nat) (t:Ty) (x:u.den) (y:t.den) (z:u.den) (h:(bif Nat.beq off 0 then bX t u y else none)=some z):off+t.sz<=u.sz/\aB u z=splice (aB u x) off (aB t y)/\(u.ag=false->t=u):=by
  obtain⟨h1,h2⟩:=aR h
  have h0:off=0:=Nat.eq_of_beq_eq_true h1
  subst h0
  obtain⟨e1,rfl⟩:=bF h2
  refine⟨by omega,?_,λ_=>rfl⟩
  rw[oA _ _ (by rw[aG,aG])]
  simp only[aB,e1]
theorem Ch{t:Ty}{x y:t.den}(h:aB t x=aB t y):aH t x=aH t y:=by
 cases ht:t.ag
 ·rw[dq x ht,dq y ht]at h
  exact List.cons.inj h |>.1
 ·rw[d6 x ht,d6 y ht,h]
theorem FQ{t:Ty}{v:V}{x:t.den}(h:cY t v=some x):(aS v).cells.length=t.sz/\∀(i:Nat) (a b:BV),(aS v).cells[i]? =some a->((aB t x).map BV.pv)[i]? =some b->LeB a b:=by
 have hd:=eH h
 have one:∀(z:BV),(∀p,z≠.pv p)->z.toPV=some (aH t x)->t.ag=false->([z]:List BV).length=t.sz/\∀(i:Nat) (a b:BV),([z]:List BV)[i]? =some a->((aB t x).map BV.pv)[i]? =some b->LeB a b:=by
  intro z _ hz ht
  refine⟨by rw[eB ht];rfl,λi a b ha hb=>?_⟩
  rw[dq x ht]at hb
  cases i with
  |zero=>simp at ha hb;subst ha;subst hb;exact .data _ _ hz
  |succ i=>simp at ha
 cases v with
 |d u y=>
  obtain⟨e1,rfl⟩:=bF (show bX u t y=some x from h)
  refine⟨?_,λi a b ha hb=>?_⟩
  ·show((aB u y).map BV.pv).length=_
   rw[List.length_map,aG]
  ·have ha':((aB u y).map BV.pv)[i]? =some a:=ha
   have:aB u y=aB u x:=by simp only[aB,e1]
   rw[this,hb]at ha'
   cases ha'
   exact .refl _
 |agg vs=>
  have hd':((vs.map aM).mapM BV.toPV).map PV.agg=some (aH t x):=hd
  obtain⟨cs,h1,h2⟩:=Option.map_eq_some_iff.1 hd'
  have hag:t.ag=true:=by rw[<-kN t x,<-h2];rfl
  have hcs:cs=aB t x:=by rw[d6 x hag]at h2;exact PV.agg.inj h2
  subst hcs
  have hl:=mapM_len h1
  refine⟨by show(vs.map aM).length=_;rw[<-hl,aG],λi a b ha hb=>?_⟩
  have ha':(vs.map aM)[i]? =some a:=ha
  rw[List.getElem?_map]at hb
  obtain⟨p,hp,rfl⟩:=Option.map_eq_some_iff.1 hb
  exact .data _ _ (uq h1 ha' hp)
 |nil u=>
  obtain⟨e1,rfl⟩:=bF (show bX (.list u) t []=some x from h)
  exact one .nils (λp e=>by cases e) hd rfl
 |full u y=>
  obtain⟨e1,rfl⟩:=bF (show bX (.list u) t y=some x from h)
  exact one (.full _) (λp e=>by cases e) hd rfl
 |_=>simp[cY,gx]at h
where
 uq {l:List BV} {m:List PV} (h:l.mapM BV.toPV=some m) {i:Nat} {a:BV} {p:PV} (ha:l[i]? =some a) (hp:m[i]? =some p):a.toPV=some p:=by
  induction l generalizing m i with
  |nil=>simp at ha
  |cons x l ih=>
   simp only[List.mapM_cons,Option.bind_eq_bind,Option.pure_def,Option.bind_eq_some_iff,Option.some.injEq]at h
   obtain⟨q,h1,ms,h2,rfl⟩:=h
   cases i with
   |zero=>simp at ha hp;subst ha;subst hp;exact h1
   |succ i=>exact ih h2 (by simpa using ha) (by simpa using hp)
theorem IL{l:List BV}{m:List PV}(h:l.mapM BV.toPV=some m){i:Nat}{a:BV}{p:PV}(ha:l[i]? =some a)(hp:m[i]? =some p):a.toPV=some p:=by
 induction l generalizing m i with
 |nil=>simp at ha
 |cons x l ih=>
  simp only[List.mapM_cons,Option.bind_eq_bind,Option.pure_def,Option.bind_eq_some_iff,Option.some.injEq]at h
  obtain⟨q,h1,ms,h2,rfl⟩:=h
  cases i with
  |zero=>simp at ha hp;subst ha;subst hp;exact h1
  |succ i=>exact ih h2 (by simpa using ha) (by simpa using hp)
def LeL(xs ys:List BV):Prop:=xs.length=ys.length/\∀(i:Nat) (a b:BV),xs[i]? =some a->ys[i]? =some b->LeB a b
theorem LeL.refl(xs:List BV):LeL xs xs:=⟨rfl,λi a b ha hb=>by rw[ha]at hb;cases hb;exact .refl _⟩
theorem LeL.append{a b c e:List BV}(h:LeL a b)(k:LeL c e):LeL (a++c) (b++e):=by
 refine⟨by simp[h.1,k.1],λi x y hx hy=>?_⟩
 rcases Nat.lt_or_ge i a.length with h1|h1
 ·rw[List.getElem?_append_left h1]at hx
  rw[List.getElem?_append_left (by rw[<-h.1];exact h1)]at hy
  exact h.2 i x y hx hy
 ·rw[List.getElem?_append_right h1]at hx
  rw[List.getElem?_append_right (by rw[<-h.1];exact h1),<-h.1]at hy
  exact k.2 _ x y hx hy
theorem JK{t:Ty}{l:List V}{x:t.den}{m:List V}(h:G9 t l=some (x,m)):∃l0,l=l0++m/\l0.length=t.sz/\LeL (l0.map aM) ((fq t x).map aM):=by
 obtain⟨l0,h1,h2⟩:=rF t l x m h
 have hl:=mapM_len h2
 rw[List.length_map,aG]at hl
 refine⟨l0,h1,hl.symm,by rw[(da t x).1,List.length_map,List.length_map,aG,<-hl],λi a b ha hb=>?_⟩
 rw[(da t x).1,List.getElem?_map]at hb
 obtain⟨p,hp,rfl⟩:=Option.map_eq_some_iff.1 hb
 exact .data _ _ (IL h2 ha hp)
theorem yt{t:Ty}{y:t.den}:∀(n:Nat) (vs:List V) (m:Int) (r:List V),(m<0\/(n:Int)<=m)->tk t y n vs m=some r->LeL (vs.map aM) (r.map aM)
 |0,vs,m,r,_,h=>by
  simp only[tk,Option.some.injEq]at h
  subst h;exact .refl _
 |n+1,vs,m,r,hm,h=>by
  simp only[tk]at h
  split at h
  ·rename_i x l hx
   split at h
   ·rename_i r' hr
    cases h
    obtain⟨l0,rfl,h1,h2⟩:=JK hx
    rw[decide_eq_false (by omega:¬m=0)]
    simp only[cond_false,List.map_append]
    exact h2.append (yt n l (m - 1) r' (by omega) hr)
   ·cases h
  ·cases h
theorem Bz{t:Ty}{y:t.den}{cs:List BV}(hcs:LeL cs ((fq t y).map aM)):∀(n:Nat) (vs:List V) (j:Nat) (r:List V),j<n->tk t y n vs (j:Int)=some r->
 j*t.sz+t.sz<=vs.length/\LeL (splice (vs.map aM) (j*t.sz) cs) (r.map aM)
 |0,_,_,_,hj,_=>absurd hj (by omega)
 |n+1,vs,j,r,hj,h=>by
  have hcl:cs.length=t.sz:=by rw[hcs.1,List.length_map,(da t y).2]
  simp only[tk]at h
  split at h
  ·rename_i x l hx
   split at h
   ·rename_i r' hr
    cases h
    obtain⟨l0,rfl,h1,h2⟩:=JK hx
    cases j with
    |zero=>
     refine⟨by simp[h1],?_⟩
     have e:(decide (((0:Nat):Int)=0))=true:=rfl
     rw[e]
     simp only[cond_true,List.map_append]
     have:=yt n l _ r' (.inl (by simp)) hr
     have e2:splice (l0.map aM++l.map aM) (0*t.sz) cs=cs++l.map aM:=by
      simp only[splice,Nat.zero_mul,List.take_zero,List.nil_append,Nat.zero_add]
      rw[hcl,List.drop_left' (by simpa using h1)]
     rw[e2]
     exact hcs.append this
    |succ j=>
     have e:(decide (((j+1:Nat):Int)=0))=false:=decide_eq_false (by omega)
     rw[e]
     rw[show(((j+1:Nat):Int) - 1)=(j:Int) by omega]at hr
     obtain⟨h3,h4⟩:=Bz hcs n l j r' (by omega) hr
     refine⟨by rw[List.length_append,h1,Nat.succ_mul];omega,?_⟩
     simp only[cond_false,List.map_append]
     have hl0:(l0.map aM).length=t.sz:=by simpa using h1
     have e2:splice (l0.map aM++l.map aM) ((j+1)*t.sz) cs=l0.map aM++splice (l.map aM) (j*t.sz) cs:=by
      simp only[splice,Nat.succ_mul]
      rw[List.take_append,List.take_of_length_le (l:=l0.map aM) (by omega),hl0,List.drop_append,List.drop_eq_nil_of_le (show(l0.map aM).length<=j*t.sz+t.sz+cs.length by omega),hl0]
      simp only[List.nil_append,List.append_assoc]
      rw[show j*t.sz+t.sz - t.sz=j*t.sz by omega,show j*t.sz+t.sz+cs.length - t.sz=j*t.sz+cs.length by omega]
     rw[e2]
     exact h2.append h4
   ·cases h
  ·cases h
theorem Jm{α:Type}(cs:List α)(off n k:Nat)(ys:List α)(h:off+n<=cs.length)(hk:k+ys.length<=n):splice cs (off+k) ys=splice cs off (splice ((cs.drop off).take n) k ys):=by
 have hl:(((cs.drop off).take n).take k++ys++((cs.drop off).take n).drop (k+ys.length)).length=n:=by
  simp only[List.length_append,List.length_take,List.length_drop]
  omega
 simp only[splice]
 rw[hl,List.take_take,Nat.min_eq_left (show k<=n by omega),List.drop_take,List.drop_drop,List.take_add]
 simp only[List.append_assoc]
 congr 3
 rw[show off+k+ys.length=off+(k+ys.length) by omega]
 conv=>lhs;rw[<-List.take_append_drop (n - (k+ys.length)) (cs.drop (off+(k+ys.length)))]
 rw[List.drop_drop,show off+(k+ys.length)+(n - (k+ys.length))=off+n by omega]
section
variable {R:Type} {P:Program} {O:aj} {d:Option Nat} {s:S} {κ kp:S->Option R} {r:R}
theorem L5{a:St}{id:Nat}{o o':AObj}(h:LeO o o'):LeS {a with hp:=a.hp.set id o} {a with hp:=a.hp.set id o'}:=by
 refine⟨λ_ y hk=>⟨y,hk,.refl y⟩,by simp,λi x y hx hy=>?_⟩
 simp only[List.getElem?_set]at hx hy
 split at hx
 ·rename_i hi
  rw[if_pos hi]at hy
  split at hx
  ·rename_i hl
   rw[if_pos hl]at hy
   cases hx;cases hy;exact h
  ·cases hx
 ·rename_i hi
  rw[if_neg hi,hx]at hy
  cases hy;exact .refl _
theorem Ky{t:Ty}{x v:X}(hw:x.wf=true/\v.wf=true)(h:evOp O d (.store t x v) s κ kp=some r):Fu P s (.store t.sz x.er v.er) d κ kp r:=by
 simp only[evOp]at h
 cases d with
 |some _=>cases h
 |none=>
  simp only at h
  unfold storeT at h
  split at h
  ·rename_i id off v' hx hv
   split at h
   ·rename_i tid cs ho
    obtain⟨h1,h2⟩:=aR h
    simp only[Bool.and_eq_true]at h1
    obtain⟨h3,h4⟩:=qa h1.2
    have h5:=Nat.eq_of_beq_eq_true h1.1.1
    have h6:=Nat.le_of_ble_eq_true h1.1.2
    refine⟨_,aA hw.1 hx,_,aA hw.2 hv,rfl,_,by rw[bO,ho];rfl,tid,_,rfl,by rw[<-h4,List.length_map,h5],by simpa using h6,h3,⟨s.fr,setAt s.hp id (.box tid (gS cs off (cw v')))⟩,?_,Keeps.fr rfl,h2⟩
    rw[gu]
    have:bN (.box tid (gS cs off (cw v')))= .box tid (splice (cs.map aM) off (aS v').cells):=by
     show AObj.box tid _=_
     rw[oz,h4]
    rw[this]
    exact .refl _
   ·cases h
  ·rename_i id off n u m v' hx hv
   split at h
   ·rename_i tid cs y ho hy
    obtain⟨h1,h2⟩:=aR h
    simp only[Bool.and_eq_true,decide_eq_true_eq]at h1
    obtain⟨⟨h1,rfl⟩,hsz⟩:=h1
    have h6:=Nat.le_of_ble_eq_true h1
    split at h2
    ·rename_i vs hvs
     obtain⟨h3,h4⟩:=bB h2
     simp only[Bool.and_eq_true,decide_eq_true_eq]at h3
     obtain⟨j,rfl⟩:=Int.eq_ofNat_of_zero_le h3.1
     have hj:j<n:=by omega
     obtain⟨d1,d2⟩:=FQ hy
     have hok:=Hl hy
     have hoe:=qa hok
     have hcs:LeL (aS v').cells ((fq u y).map aM):=⟨by rw[d1,List.length_map,(da u y).2],λi a b ha hb=>d2 i a b ha (by rw[<-(da u y).1];exact hb)⟩
     obtain⟨r1,r2⟩:=Bz hcs n _ j vs hj hvs
     have hjn:j*u.sz+u.sz<=n*u.sz:=by
      have:=Nat.mul_le_mul_right u.sz (show j+1<=n from hj)
      rw[Nat.succ_mul]at this;exact this
     refine⟨_,aA hw.1 hx,_,aA hw.2 hv,rfl,_,by rw[bO,ho];rfl,tid,_,rfl,d1,?_,hoe.1,⟨s.fr,setAt s.hp id (.box tid (gS cs off vs))⟩,?_,Keeps.fr rfl,h4⟩
     ·simp only[List.length_map]
      show off+(j:Int).toNat*u.sz+u.sz<=cs.length
      rw[Int.toNat_natCast];omega
     ·rw[gu]
      refine L5 ?_
      have e1:splice (cs.map aM) (off+(j:Int).toNat*u.sz) (aS v').cells=splice (cs.map aM) off (splice (((cs.drop off).take (n*u.sz)).map aM) (j*u.sz) (aS v').cells):=by
       rw[Int.toNat_natCast,List.map_take,List.map_drop]
       exact Jm _ off (n*u.sz) _ _ (by simpa using h6) (by rw[d1];exact hjn)
      show LeO (AObj.box tid (splice (cs.map aM) (off+(j:Int).toNat*u.sz) (aS v').cells)) (AObj.box tid ((gS cs off vs).map aM))
      rw[e1,oz]
      have key:LeL (splice (cs.map aM) off (splice (((cs.drop off).take (n*u.sz)).map aM) (j*u.sz) (aS v').cells)) (splice (cs.map aM) off (vs.map aM)):=by
       unfold splice at r2⊢
       rw[r2.1]
       exact((LeL.refl _).append r2).append (LeL.refl _)
      exact .box tid _ _ key.1 key.2
    ·cases h2
   ·cases h
  ·rename_i id i off v' hx hv
   split at h
   ·rename_i e u xs y ho hy
    obtain⟨h1,h2⟩:=aR h
    obtain⟨x0,hx0,h3⟩:=ct h2
    split at h3
    ·rename_i z hz
     obtain⟨p1,p2,p3⟩:=iA u off t x0 y z hz
     have hlt:=(List.getElem?_eq_some_iff.1 hx0).1
     have hget:(xs.map (aH u)).getD i .any=aH u x0:=by simp[List.getD,hx0]
     have fin:∀p,p=aH u z->∃s',LeS {enc s with hp:=(enc s).hp.set id (.vec e u.sz ((xs.map (aH u)).set i p))} (enc s')/\Keeps (fj none) s s'/\κ s'=some r:=by
      rintro p rfl
      refine⟨⟨s.fr,setAt s.hp id (.vec e u (xs.set i z))⟩,?_,Keeps.fr rfl,h3⟩
      rw[gu]
      have:bN (.vec e u (xs.set i z))= .vec e u.sz ((xs.map (aH u)).set i (aH u z)):=by
       show AObj.vec e u.sz _=_
       rw[List.map_set]
      rw[this]
      exact .refl _
     refine⟨_,aA hw.1 hx,_,aA hw.2 hv,rfl,_,by rw[bO,ho];rfl,.inl ⟨e,_,_,rfl,by simpa using hlt,_,eH hy,aG t y,u9 t y,?_⟩⟩
     by_cases hs:t.sz=u.sz
     ·have hut:u=t:=by
       simp only[Bool.or_eq_true,decide_eq_true_eq,Bool.not_eq_true']at h1
       rcases h1 with h1|h1
       ·exact h1
       ·rw[hs,Nat.beq_refl]at h1;cases h1
      subst hut
      have h0:off=0:=by omega
      subst h0
      refine .inl ⟨rfl,rfl,fin _ (Ch ?_)⟩
      rw[p2,oA _ _ (by rw[aG,aG])]
     ·refine .inr ⟨hs,p1,fin _ ?_⟩
      have hag:u.ag=true:=by
       cases hu:u.ag
       ·exact absurd (by rw[p3 hu]) hs
       ·rfl
      rw[hget,d6 z hag,p2]
    ·cases h3
   ·rename_i e k u xs hole y ho hy
    obtain⟨h1,h2⟩:=aR h
    simp only[Bool.and_eq_true]at h1
    obtain⟨x0,hx0,h3⟩:=ct h2
    split at h3
    ·rename_i z hz
     obtain⟨p1,p2,p3⟩:=iA u off t x0 y z hz
     have hlt:=(List.getElem?_eq_some_iff.1 hx0).1
     have hget:(xs.map (aH u)).getD i .any=aH u x0:=by simp[List.getD,hx0]
     refine⟨_,aA hw.1 hx,_,aA hw.2 hv,rfl,_,by rw[bO,ho];rfl,.inr ⟨e,_,k,_,_,rfl,by simpa using hlt,p1,.inl ⟨h1.1,by rw[hget,kN];exact h1.2,_,eH hy,aG t y,u9 t y,⟨s.fr,setAt s.hp id (.tree e k u (xs.set i z) hole)⟩,?_,Keeps.fr rfl,h3⟩⟩⟩
     rw[gu,hget]
     have:bN (.tree e k u (xs.set i z) hole)= .tree e u.sz k ((xs.map (aH u)).set i (.agg (splice (aH u x0).cells off (aH t y).cells))) (NS hole):=by
      show AObj.tree e u.sz k _ _=_
      rw[List.map_set,d6 z h1.2,p2]
     rw[this]
     exact .refl _
    ·cases h3
   ·rename_i e k u xs hi hj w ho hy
    split at h
    ·rename_i kid
     obtain⟨h1,h2⟩:=aR h
     simp only[Bool.and_eq_true]at h1
     obtain⟨x0,hx0,h3⟩:=ct h2
     obtain⟨h4,h5⟩:=bB h3
     have hlt:=(List.getElem?_eq_some_iff.1 hx0).1
     have e1:=Nat.eq_of_beq_eq_true h1.1.1
     have e2:=Nat.eq_of_beq_eq_true h1.1.2
     have e3:=Nat.le_of_ble_eq_true h1.2
     have e4:=Nat.eq_of_beq_eq_true h4
     clear h h1 h2 h3 h4
     subst e1;subst e4
     refine⟨_,aA hw.1 hx,_,aA hw.2 hv,rfl,_,by rw[bO,ho];rfl,.inr ⟨e,_,k,_,_,rfl,by simpa using hlt,by rw[e2];exact e3,.inr ⟨_,_,rfl,e2,rfl,rfl,⟨s.fr,setAt s.hp id (.tree e k u xs (some (hi,hj,.sl kid)))⟩,?_,Keeps.fr rfl,h5⟩⟩⟩
     rw[gu]
     exact .refl _
    ·cases h
   ·cases h
  ·cases h
theorem KE{t:Ty}{x v:X}(hw:x.wf=true/\v.wf=true)(hp:Ln s (.store t x v)=true)(h:evOp O d (.store t x v) s κ kp=some r):Ox P s (.store t.sz x.er v.er) d κ kp r:=by
 simp only[evOp]at h
 cases d with
 |some _=>cases h
 |none=>
  simp only at h
  unfold storeT at h
  split at h
  ·rename_i id off v' hx hv
   split at h
   ·rename_i tid cs ho
    obtain⟨h1,h2⟩:=aR h
    simp only[Bool.and_eq_true]at h1
    obtain⟨h3,h4⟩:=qa h1.2
    have h5:=Nat.eq_of_beq_eq_true h1.1.1
    have h6:=Nat.le_of_ble_eq_true h1.1.2
    refine⟨_,aA hw.1 hx,_,aA hw.2 hv,rfl,_,by rw[bO,ho];rfl,tid,_,rfl,by rw[<-h4,List.length_map,h5],by simpa using h6,h3,⟨s.fr,setAt s.hp id (.box tid (gS cs off (cw v')))⟩,?_,Keeps.fr rfl,h2⟩
    rw[gu]
    have:bN (.box tid (gS cs off (cw v')))= .box tid (splice (cs.map aM) off (aS v').cells):=by
     show AObj.box tid _=_
     rw[oz,h4]
    rw[this]
   ·cases h
  ·rename_i id off n u m v' hx hv
   simp only[Ln,hx]at hp
   cases hp
  ·rename_i id i off v' hx hv
   simp only[Ln,hx]at hp
   cases hp
  ·cases h
theorem OY{op:TOp}(hw:op.wf P=true){κ':Ob->(Nat->V)->Option R}(h:evOp.mkT s op κ'=some r):∃o v,κ' o v=some r/\zO (enc s) op.er λob mk=>ob=bN o/\∀n,aS (v n)= .b (mk n):=by
 unfold evOp.mkT at h
 split at h
 ·rename_i tid zero
  refine⟨_,_,h,?_,λn=>rfl⟩
  show AObj.box tid ((zero.map uA).map λv=>bq v)=AObj.box tid (zero.map aM)
  rw[List.map_map]
  congr 1
  exact List.map_congr_left λv hv=>rR (List.all_eq_true.1 hw v hv)
 ·rename_i tid x
  split at h
  ·rename_i v hx
   obtain⟨h1,h2⟩:=aR h
   obtain⟨h3,h4⟩:=qa h1
   refine⟨_,_,h2,_,aA hw hx,h3,?_,λn=>rfl⟩
   show AObj.box tid _=AObj.box tid _
   rw[h4]
  ·cases h
 ·rename_i tid t len parts
  obtain⟨h1,h2⟩:=aR h
  simp only[Bool.and_eq_true]at h1
  obtain⟨xs,h3,h4,h5⟩:=lK parts _ hw h2
  refine⟨_,_,h5,_,h3,?_,Nat.le_of_ble_eq_true h1.1.2,Nat.le_of_ble_eq_true h1.2,im xs,rfl,λn=>rfl⟩
  rw[List.length_map,h4]
  exact Nat.eq_of_beq_eq_true h1.1.1
 ·rename_i tid t bytes l c
  simp only[TOp.wf,Bool.and_eq_true,decide_eq_true_eq,ne_eq]at hw
  obtain⟨h1,h2⟩:=aR h
  obtain⟨k1,n1,hl,h3⟩:=eK h2
  obtain⟨k2,n2,hc,h4⟩:=eK h3
  obtain⟨h5,h6⟩:=bB h4
  simp only[Bool.and_eq_true,decide_eq_true_eq]at h5
  obtain⟨z1,z2⟩:=Ft t hw.2
  refine⟨_,_,h6,_,aA hw.1.1 hl,_,aA hw.1.2 hc,_,rfl,_,rfl,_,_,rfl,_,_,rfl,h5.1.1.1,h5.1.1.2,h5.1.2,h5.2,z2,Nat.le_of_ble_eq_true h1,_,z1,u9 t t.zero,?_,λn=>rfl⟩
  show AObj.vec tid t.sz _=AObj.vec tid t.sz _
  rw[List.map_replicate]
 ·rename_i tid t bytes x y
  simp only[TOp.wf,Bool.and_eq_true]at hw
  obtain⟨vy,ys,hy,h1,h2⟩:=jL h
  have key:∀v:V,s.get x=some v->(aS v= .b .nils\/aS v= .b (.full (.list 0 [])))->aw (decide (ys.length*bytes<=140737488355328)) (κ' (.vec tid t ys) .sl)=some r->∃o v,κ' o v=some r/\zO (enc s) (TOp.append tid t bytes x y).er λob mk=>ob=bN o/\∀n,aS (v n)= .b (mk n):=by
   intro v hx hv hh
   obtain⟨h3,h4⟩:=bB hh
   exact⟨_,_,h4,_,aA hw.1 hx,_,aA hw.2 hy,h2 _ ⟨λp hp=>(im ys p hp).2,hv,by rw[List.length_map];simpa using h3,rfl,λn=>rfl⟩⟩
  split at h1
  ·rename_i u hx
   exact key _ hx (.inl rfl) h1
  ·rename_i u hx
   exact key _ hx (.inr rfl) h1
  ·cases h1
 ·rename_i k e a b
  exact⟨_,_,h,rfl,λn=>rfl⟩
 ·cases h
theorem Ha{k:Nat}{op:TOp}(hw:op.wf P=true)(h:evOp O d (.atq k op) s κ kp=some r):
 ∃o v,rb P ⟨d,.atq k op.er,none⟩ (enc s) ⟨aS v,some (k,bN o)⟩/\κ (S.putO ⟨s.fr,setAt s.hp k o⟩ d v)=some r:=by
 simp only[evOp]at h
 split at h
 ·rename_i hf
  obtain⟨o,v,h1,h2⟩:=OY hw h
  refine⟨o,v k,⟨rfl,op.er,rfl,pw h2 λob mk ⟨e1,e2⟩=>⟨e1,e2 k,?_⟩⟩,h1⟩
  rw[bO,hf];rfl
 ·cases h
theorem N5{k:Nat}{op:TOp}(hw:op.wf P=true)(h:evOp O d (.atq k op) s κ kp=some r):Ox P s (.atq k op.er) d κ kp r:=by
 obtain⟨o,v,h1,h2⟩:=Ha hw h
 obtain⟨_,q,e,h3⟩:=h1
 cases e
 show zO (enc s) op.er λob mk=>uw (enc s) (some k)/\∃s',((enc s).new (some k) ob).putO d (.b (mk k))=enc s'/\Keeps (fj d) s s'/\κ s'=some r
 refine pw h3 λob mk ⟨e1,e2,e3⟩=>⟨e3,_,?_,(Keeps.fr (s':=⟨s.fr,setAt s.hp k o⟩) rfl).trans (Keeps.put _ d v),h2⟩
 rw[fx,gu,e1,<-e2]
 rfl
theorem xH(hO:OracleOk P O){op:TOp}(hw:op.wf P=true)(h:evOp O d op s κ kp=some r):Fu P s op.er d κ kp r:=by
 cases op<;>simp only[TOp.wf,Bool.and_eq_true,decide_eq_true_eq,ne_eq]at hw
 case mv x=>exact(MM hw h).ob
 case pick c a b=>exact(H5 ⟨hw.1.1,hw.1.2,hw.2⟩ h).ob
 case bin op x y=>exact(KI hw h).ob
 case eqB neg x y=>exact(KJ hw h).ob
 case eqT neg tid t x y=>exact(KL ⟨hw.1.1,hw.1.2,hw.2⟩ h).ob
 case un op x=>exact(MN hw h).ob
 case len b x=>exact(KR hw h).ob
 case lenM k e x=>exact(HZ hw h).ob
 case idxS x i=>exact(HX hw h).ob
 case idxV n t x i=>exact(HY hw h).ob
 case idxA t x i=>exact(HV hw h).ob
 case idxP n t x i=>exact(HW hw h).ob
 case fldA off t x=>exact(HU hw h).ob
 case fld off t x=>exact(KN hw h).ob
 case load t x=>exact(H0 hw h).ob
 case store t x v=>exact Ky hw h
 case alloc tid zero=>exact Kt hw h
 case box tid x=>exact Nb hw h
 case boxD tid t x=>exact(HR hw h).ob
 case build zero parts=>exact(EF hw h).ob
 case bslice own tid t len parts=>
  cases own
  ·exact(Br hw h).ob
  ·exact IU hw h
 case mslice tid t b l c=>exact IW ⟨hw.1.1,hw.1.2,hw.2⟩ h
 case append tid t b x y=>exact IT hw h
 case cvtI k x=>exact(HT hw h).ob
 case slc full t x lo hi mx=>exact(KS ⟨hw.1.1.1,hw.1.1.2,hw.1.2,hw.2⟩ h).ob
 case slcS x lo hi=>exact(H6 ⟨hw.1.1,hw.1.2,hw.2⟩ h).ob
 case ext x i=>exact(KM hw h).ob
 case nilc x=>exact(H4 hw h).ob
 case call bor f args sh=>exact(HS hO hw h).ob
 case callA pan bor B f args sh=>exact Ku hO hw h
 case callv pan bor B num x args sh=>exact Kv hO ⟨hw.1.1.1,hw.1.1.2,hw.1.2,hw.2⟩ h
 case callp bor num x args sh=>exact(EG hO ⟨hw.1.1.1,hw.1.1.2,hw.1.2,hw.2⟩ h).ob
 case b2s x=>exact(KH hw h).ob
 case mkfn f caps=>exact(H1 hw h).ob
 case mkmap k e a b=>exact Kw h
 case lookup k e ok a b m x=>exact(Bs ⟨hw.1.1.1,hw.1.1.2,hw.1.2,hw.2⟩ h).ob
 case mapset k e a b m x v=>exact IV ⟨hw.1.1.1,hw.1.1.2,hw.1.2,hw.2⟩ h
 case copy tid t x y=>exact Mf hw h
 case mnmx mx k x ys=>exact(H3 hw h).ob
 case panic x=>exact Kx hw h
 case iface tid x=>exact(EH hw h).ob
 case bsliceF tid t len parts=>exact(yh hw h).ob
 case appD tid t b x y=>exact(HQ hw h).ob
 case bsliceN tid k t len parts=>exact(yi hw h).ob
 case msliceT tid k u b l c=>exact Gh hw h
 case appT tid k t b x y=>exact(Mh hw h).ob
 case atq k op=>exact(N5 hw h).ob
theorem rM(hO:OracleOk P O){op:TOp}(hw:op.wf P=true)(hp:op.pureB=true)(h:evOp O d op s κ kp=some r):Pu P s op.er d κ r:=by
 cases op<;>simp only[TOp.wf,Bool.and_eq_true,decide_eq_true_eq,ne_eq]at hw<;>simp only[TOp.pureB]at hp<;>try (cases hp;done)
 case mv x=>exact MM hw h
 case pick c a b=>exact H5 ⟨hw.1.1,hw.1.2,hw.2⟩ h
 case bin op x y=>exact KI hw h
 case eqB neg x y=>exact KJ hw h
 case eqT neg tid t x y=>exact KL ⟨hw.1.1,hw.1.2,hw.2⟩ h
 case un op x=>exact MN hw h
 case len b x=>exact KR hw h
 case lenM k e x=>exact HZ hw h
 case idxS x i=>exact HX hw h
 case idxV n t x i=>exact HY hw h
 case idxA t x i=>exact HV hw h
 case idxP n t x i=>exact HW hw h
 case fldA off t x=>exact HU hw h
 case fld off t x=>exact KN hw h
 case load t x=>exact H0 hw h
 case boxD tid t x=>exact HR hw h
 case build zero parts=>exact EF hw h
 case bslice own tid t len parts=>
  cases own
  ·exact Br hw h
  ·cases hp
 case cvtI k x=>exact HT hw h
 case slc full t x lo hi mx=>exact KS ⟨hw.1.1.1,hw.1.1.2,hw.1.2,hw.2⟩ h
 case slcS x lo hi=>exact H6 ⟨hw.1.1,hw.1.2,hw.2⟩ h
 case ext x i=>exact KM hw h
 case nilc x=>exact H4 hw h
 case call bor f args sh=>exact HS hO hw h
 case callp bor num x args sh=>exact EG hO ⟨hw.1.1.1,hw.1.1.2,hw.1.2,hw.2⟩ h
 case b2s x=>exact KH hw h
 case mkfn f caps=>exact H1 hw h
 case lookup k e ok a b m x=>exact Bs ⟨hw.1.1.1,hw.1.1.2,hw.1.2,hw.2⟩ h
 case mnmx mx k x ys=>exact H3 hw h
 case iface tid x=>exact EH hw h
 case bsliceF tid t len parts=>exact yh hw h
 case appD tid t b x y=>exact HQ hw h
 case bsliceN tid k t len parts=>exact yi hw h
theorem F5(hO:OracleOk P O){op:TOp}(hw:op.wf P=true)(hp:op.exB=true)(hst:Ln s op=true)(h:evOp O d op s κ kp=some r):Ox P s op.er d κ kp r:=by
 by_cases hpu:op.pureB=true
 ·exact(rM hO hw hpu h).ox
 ·cases op<;>simp only[TOp.exB]at hp<;>try exact absurd hp hpu
  case append tid t b x y=>simp only[TOp.wf,Bool.and_eq_true]at hw;exact Bo hw h
  case callA pan bor B f args sh=>simp only[TOp.wf,Bool.and_eq_true]at hw;exact EA hO hw h
  case callv pan bor B num x args sh=>simp only[TOp.wf,Bool.and_eq_true]at hw;exact EB hO ⟨hw.1.1.1,hw.1.1.2,hw.1.2,hw.2⟩ h
  case store t x v=>simp only[TOp.wf,Bool.and_eq_true]at hw;exact KE hw hst h
end
end Go.Ev
namespace Go.Ev
open Go Go.RowKit Go.Av
theorem LW{θ:List Av.Loc}{D D':Nat->Prop}{w:World}{id:Nat}{t:Ty}{xs:List t.den}{l:Av.Loc}(hl:θ[id]? =some l)(hD:∀b,D b->D' b)(hb:∀g,l≠.blk g)(hmp:∀g,l≠.mp g)
 (hh:∀v,l.head v->RelP D' w v (ke t.sz (xs.map (aH t)))) {v:Value} {u:V} (h:RelB θ D w v (aM u)):RelB (θ.set id .no) D' w v (aM (Jy id t xs u)):=by
 have ne:∀(k:Nat) (l':Av.Loc),k≠id->θ[k]? =some l'->(θ.set id .no)[k]? =some l':=λk l' hk h=>by rw[List.getElem?_set_ne (Ne.symm hk)];exact h
 have stay:∀(x:BV),RelB θ D w v x->(∀i∈x.ids,i≠id)->RelB (θ.set id .no) D' w v x:=by
  intro x hx hi
  cases x<;>simp only[RelB]at hx⊢
  ·exact hx.mono hD λ_ _=>rfl
  ·exact hx
  ·obtain⟨l',h1,h2⟩:=hx;exact⟨l',ne _ _ (hi _ (by simp[BV.ids])) h1,h2⟩
  ·obtain⟨g,h1,h2⟩:=hx;exact⟨g,ne _ _ (hi _ (by simp[BV.ids])) h1,h2⟩
  ·obtain⟨g,n,cap,sz,O,h1,h2⟩:=hx;exact⟨g,n,cap,sz,O,ne _ _ (hi _ (by simp[BV.ids])) h1,h2⟩
  ·obtain⟨gs,h1,h2,h3⟩:=hx
   exact⟨gs,h1,λk i g e1 e2=>ne _ _ (hi _ (by simp only[BV.ids];exact List.mem_of_getElem? e1)) (h2 k i g e1 e2),h3⟩
  ·obtain⟨g,h1,h2⟩:=hx;exact⟨g,ne _ _ (hi _ (by simp[BV.ids])) h1,h2⟩
  ·exact⟨hx.1.mono hD λ_ _=>rfl,hx.2⟩
  ·exact hx
 cases u with
 |sl k=>
  show RelB _ _ _ _ (aM (bif Nat.beq k id then .d (.list t) xs else .sl k))
  rw[e9]
  by_cases hk:k=id
  ·subst hk
   rw[decide_eq_true rfl]
   obtain⟨l',h1,h2⟩:=h
   rw[hl]at h1;cases h1
   exact hh v h2
  ·rw[decide_eq_false hk]
   exact stay (aM (.sl k)) h λi hi=>by rw[List.mem_singleton.1 (show i∈[k]from hi)];exact hk
 |elt k i o=>
  show RelB _ _ _ _ (aM (bif Nat.beq k id then .any else .elt k i o))
  rw[e9]
  by_cases hk:k=id
  ·rw[decide_eq_true hk];exact RelP.any v
  ·rw[decide_eq_false hk]
   exact stay (aM (.elt k i o)) h λj hj=>by rw[List.mem_singleton.1 (show j∈[k]from hj)];exact hk
 |ptr k off=>
  refine stay (aM (.ptr k off)) h λi hi e=>?_
  have hi':=List.mem_singleton.1 (show i∈[k]from hi)
  subst hi';subst e
  obtain⟨g,h1,_⟩:=h
  rw[hl]at h1;cases h1;exact hb g rfl
 |pel k off n t' m=>
  refine stay (aM (.pel k off n t' m)) h λi hi e=>?_
  have hi':=List.mem_singleton.1 (show i∈[k]from hi)
  subst hi';subst e
  obtain⟨g,h1,_⟩:=h
  rw[hl]at h1;cases h1;exact hb g rfl
 |mp k=>
  refine stay (aM (.mp k)) h λi hi e=>?_
  have hi':=List.mem_singleton.1 (show i∈[k]from hi)
  subst hi';subst e
  obtain⟨g,h1,_⟩:=h
  rw[hl]at h1;cases h1;exact hmp g rfl
 |clo f ids=>
  refine stay (aM (.clo f ids)) h λi hi e=>?_
  subst e
  obtain⟨gs,h1,h2,_⟩:=h
  obtain⟨k,hk⟩:=List.getElem?_of_mem (show i∈ids from hi)
  obtain⟨g,hg⟩:=bg h1 hk
  have:=h2 k i g hk hg
  rw[hl]at this;cases this;exact hb g rfl
 |raw c=>exact stay (aM (.raw c)) h λi hi=>by rw[show(aM (.raw c)).ids=[]from xv c]at hi;cases hi
 |d a b=>exact stay (aM (.d a b)) h λi hi=>by cases hi
 |nil a=>exact stay (aM (.nil a)) h λi hi=>by cases hi
 |agg a=>exact stay (aM (.agg a)) h λi hi=>by cases hi
 |tup a=>exact stay (aM (.tup a)) h λi hi=>by cases hi
 |dp a b=>exact stay (aM (.dp a b)) h λi hi=>by cases hi
 |fnD a b=>exact stay (aM (.fnD a b)) h λi hi=>by cases hi
 |full a b=>exact stay (aM (.full a b)) h λi hi=>by cases hi
 |any=>exact stay (aM .any) h λi hi=>by cases hi
 |lit a b c=>exact stay (aM (.lit a b c)) h λi hi=>by cases hi
 |ifc=>exact stay (aM .ifc) h λi hi=>by cases hi
theorem LV{id:Nat}{t:Ty}{xs:List t.den}(v:V)(h:v.isA=false):(Jy id t xs v).isA=false:=by
 cases v<;>first|rfl|(simp only[Jy];cases Nat.beq _ id<;>rfl)|cases h
theorem K6{θ θ':List Av.Loc}{D D':Nat->Prop}{w:World}{g:V->V}(ha:∀v,v.isA=false->(g v).isA=false)(hg:∀v u,RelB θ D w v (aM u)->RelB θ' D' w v (aM (g u))){v:Value}{u:V}(h:RelA θ D w v (aS u)):RelA θ' D' w v (aS (kf g u)):=by
 have many:∀(vs:List V) (a:Array Value),a.size=(vs.map aM).length->(∀(i:Nat) (y:Value) (x:BV),a[i]? =some y->(vs.map aM)[i]? =some x->RelB θ D w y x)->
  a.size=((vs.map g).map aM).length/\∀(i:Nat) (y:Value) (x:BV),a[i]? =some y->((vs.map g).map aM)[i]? =some x->RelB θ' D' w y x:=by
  intro vs a h1 h2
  refine⟨by simpa using h1,λi y x hy hx=>?_⟩
  simp only[List.getElem?_map,Option.map_eq_some_iff]at hx
  obtain⟨_,⟨u,hu,rfl⟩,rfl⟩:=hx
  exact hg y u (h2 i y _ hy (by simp[hu]))
 cases hv:u.isA
 ·rw[Kl hv,mg (ha u hv)]
  rw[mg hv]at h
  exact hg v u h
 ·cases u with
  |agg vs=>obtain⟨a,h1,h2,h3⟩:=h;obtain⟨h4,h5⟩:=many vs a h2 h3;exact⟨a,h1,h4,h5⟩
  |tup vs=>obtain⟨a,h1,h2,h3⟩:=h;obtain⟨h4,h5⟩:=many vs a h2 h3;exact⟨a,h1,h4,h5⟩
  |_=>cases hv
theorem K5{θ θ':List Av.Loc}{D D':Nat->Prop}{w:World}{g:V->V}(hD:∀b,D b->D' b)(hg:∀v u,RelB θ D w v (aM u)->RelB θ' D' w v (aM (g u))){l:Av.Loc}{o:Ob}(h:RelO θ D w l (bN o)):RelO θ' D' w l (bN (re g o)):=by
 cases o with
 |box t cs=>
  cases l<;>simp only[bN,re,RelO]at h⊢<;>try exact h
  obtain⟨c,h1,h2,h3⟩:=h
  refine⟨c,h1,by simpa using h2,λi y x hy hx=>?_⟩
  simp only[List.getElem?_map,Option.map_eq_some_iff]at hx
  obtain⟨_,⟨u,hu,rfl⟩,rfl⟩:=hx
  exact hg y u (h3 i y _ hy (by simp[hu]))
 |gone=>cases l<;>trivial
 |free=>cases l<;>exact h
 |tree e k t xs hole=>
  cases l<;>try exact h
  case nil=>
   refine⟨h.1,?_⟩
   cases hole with
   |none=>rfl
   |some q=>obtain⟨i,j,v⟩:=q;cases h.2
  case hdr=>
   cases hole with
   |none=>exact m4 (θ':=θ') (hole:=none) (f:=λx=>x) (λu i j b hb _=>nomatch hb) hD h
   |some q=>
    obtain⟨i,j,v⟩:=q
    exact m4 (hole:=some (i,j,aM v)) (f:=λ_=>aM (g v)) (λu i' j' b hb hr=>by cases hb;exact hg u v hr) hD h
 |vec e t xs=>
  have h1:=h.mono (D':=D') (w':=w) hD (λ_ _=>rfl) λ_ _=>rfl
  cases l<;>exact h1
 |map k e a b kvs=>
  have h1:=h.mono (D':=D') (w':=w) hD (λ_ _=>rfl) λ_ _=>rfl
  cases l<;>exact h1
theorem wn{m:Nat}{s:S}{id:Nat}{o:Ob}{t:Ty}{xs:List t.den}(ho:s.hp[id]? =some o)(hsl:Fv (enc s).hp id=some (ke t.sz (xs.map (aH t))))(hv:o.vary=true):Weak m (enc s) (enc ⟨(s.map (Jy id t xs)).fr,setAt (s.map (Jy id t xs)).hp id .gone⟩):=by
 rintro c a w _ ⟨θ,D,hI⟩
 have ho':(enc s).hp[id]? =some (bN o):=by rw[bO,ho];rfl
 have hlt:id<θ.length:=by rw[hI.ok.len];exact(List.getElem?_eq_some_iff.1 ho').1
 obtain⟨l,hl⟩:∃l,θ[id]? =some l:=⟨θ[id],List.getElem?_eq_getElem hlt⟩
 have hro:=hI.ok.objs id l _ hl ho'
 have hfx:l.fixed=false:=by
  unfold Fv at hsl
  rw[ho']at hsl
  cases o<;>first|cases hsl|skip
  all_goals (cases l<;>first|rfl|exact hro.elim)
 have hb:∀g,l≠.blk g:=λg e=>by subst e;cases hfx
 have hmp:∀g,l≠.mp g:=λg e=>by subst e;cases hfx
 obtain⟨D',hD,hD2,hh⟩:∃D':Nat->Prop,(∀b,D b->D' b)/\(∀b,D' b->D b\/l.has b)/\(∀v,l.head v->RelP D' w v (ke t.sz (xs.map (aH t)))):=by
  refine⟨λb=>D b\/l.has b,λ_ h=>.inl h,λ_ h=>h,λv hv=>?_⟩
  obtain⟨l',h1,h2⟩:=Ih hI.ok (show RelB θ D w v (.sl id)from⟨l,hl,hv⟩) hsl
  rw[hl]at h1;cases h1
  exact h2 _ (λ_ h=>.inl h) (λ_ h=>.inr h)
 have hB:=λv u=>LW (w:=w) (v:=v) (u:=u) (id:=id) (t:=t) (xs:=xs) hl hD hb hmp hh
 have old:∀(i:Nat) (l':Av.Loc),(θ.set id .no)[i]? =some l'->(i=id/\l'= .no)\/(i≠id/\θ[i]? =some l'):=λi l' hi=>by
  by_cases hii:i=id
  ·subst hii
   rw[List.getElem?_set_self hlt]at hi
   cases hi;exact .inl ⟨rfl,rfl⟩
  ·rw[List.getElem?_set_ne (Ne.symm hii)]at hi
   exact .inr ⟨hii,hi⟩
 refine⟨θ.set id .no,D',hI.size,hI.defers,⟨?_,λb hb'=>?_,λi j li lj g hi hj hgi hgj=>?_,λi li g hi hg=>?_,λi li o hi hoi=>?_⟩,hI.keep,λb hb'=>hD b (hI.dsub b hb'),λb hb'=>?_,λi li g hi hg=>?_,λk x hk=>?_,λk l' hk hf=>?_⟩
 ·simp[enc,S.map,d9,hI.ok.len]
 ·rcases hD2 b hb' with h1|h1
  ·exact hI.ok.dlt b h1
  ·exact(hI.ok.olt id l b hl h1).1
 ·rcases old i li hi with⟨_,rfl⟩|⟨_,h1⟩
  ·cases hgi
  ·rcases old j lj hj with⟨_,rfl⟩|⟨_,h2⟩
   ·cases hgj
   ·exact hI.ok.inj i j li lj g h1 h2 hgi hgj
 ·rcases old i li hi with⟨_,rfl⟩|⟨hne,h1⟩
  ·cases hg
  ·obtain⟨h2,h3⟩:=hI.ok.olt i li g h1 hg
   refine⟨h2,λhd=>?_⟩
   rcases hD2 g hd with h4|h4
   ·exact h3 h4
   ·exact hne (hI.ok.inj i id li l g h1 hl hg h4)
 ·have hoi':((setAt (s.hp.map (re (Jy id t xs))) id .gone).map bN)[i]? =some o:=hoi
  rw[d9,List.getElem?_map]at hoi'
  obtain⟨o1,h1,rfl⟩:=Option.map_eq_some_iff.1 hoi'
  rcases old i li hi with⟨rfl,rfl⟩|⟨hne,h2⟩
  ·rw[List.getElem?_set_self (by rw[List.length_map];exact(List.getElem?_eq_some_iff.1 ho).1)]at h1
   cases h1;trivial
  ·rw[List.getElem?_set_ne (Ne.symm hne),List.getElem?_map]at h1
   obtain⟨o2,h3,rfl⟩:=Option.map_eq_some_iff.1 h1
   exact K5 hD hB (hI.ok.objs i li (bN o2) h2 (by rw[bO,h3];rfl))
 ·rcases hD2 b hb' with h1|h1
  ·exact hI.dnew b h1
  ·exact .inr (hI.onew id l b hl h1)
 ·rcases old i li hi with⟨_,rfl⟩|⟨_,h1⟩
  ·cases hg
  ·exact hI.onew i li g h1 hg
 ·have hk':Av.look ((s.fr.map λx=>(x.1,kf (Jy id t xs) x.2)).map λx=>(x.1,aS x.2)) k=some x:=hk
  rw[mQ,xV]at hk'
  obtain⟨v1,h1,rfl⟩:=Option.map_eq_some_iff.1 hk'
  obtain⟨v2,h2,rfl⟩:=Option.map_eq_some_iff.1 h1
  exact K6 LV hB (hI.fr k (aS v2) (by show Av.look (s.fr.map λx=>(x.1,aS x.2)) k=_;rw[mQ,h2];rfl))
 ·have h1:=hI.fix k l' hk hf
  by_cases hki:k=id
  ·subst hki
   rw[hl]at h1;cases h1
   rw[hfx]at hf;cases hf
  ·rw[List.getElem?_set_ne (Ne.symm hki)];exact h1
def Ob.empt(o:Ob):Prop:=∀θ D w,RelO θ D w (.nil none) (bN o)
theorem DU(e:TypeId)(t:Ty):(Ob.vec e t []).empt:=λ_ _ _=>rfl
theorem AP(e:TypeId)(k:Av.K)(t:Ty):(Ob.tree e k t [] none).empt:=λ_ _ _=>⟨rfl,rfl⟩
theorem uj{c:Ctx}{θ:List Av.Loc}{D:Nat->Prop}{st:St}{a:Act}{w:World}(hI:Inv c θ D st a w){o:Ob}(ho:o.empt):Inv c (θ++[.nil none]) D {st with hp:=st.hp++[bN o]} a w:=
 hI.push (l:=.nil none) (o:=bN o) (ho _ _ _) (λg hg=>by cases hg)
theorem yP{m:Nat}{s:S}{k:Nat}{u:Ty}{o:Ob}(ho:o.empt)(h:lk s.fr k=some (.nil u)):Weak m (enc s) (enc ⟨(k,.sl s.hp.length)::s.fr,s.hp++[o]⟩):=by
 rintro c a w _ ⟨θ,D,hI⟩
 have hJ:=uj hI ho
 rw[<-qZ]at hJ
 refine⟨_,D,hJ.size,hJ.defers,hJ.ok,hJ.keep,hJ.dsub,hJ.dnew,hJ.onew,λj x hj=>?_,hJ.fix⟩
 have hj':Av.look ((k,aS (.sl s.hp.length))::s.fr.map λx=>(x.1,aS x.2)) j=some x:=hj
 simp only[Av.look]at hj'
 split at hj'
 ·rename_i e1
  subst e1
  cases hj'
  have hv:=hI.fr j (aS (.nil u)) (by show Av.look (s.fr.map λx=>(x.1,aS x.2)) j=_;rw[mQ,h];rfl)
  refine⟨.nil none,?_,hv⟩
  rw[<-mj,<-hI.ok.len]
  simp
 ·exact hJ.fr j x hj'
theorem wm{m:Nat}{s:S}{id j:Nat}{u:TypeId}{t':Ty}{cs:List V}{o0:Ob}(ho0:o0.empt)(ho:s.hp[id]? =some (.box u cs))(hj:cs[j]? =some (.nil t')):
 Weak m (enc s) (enc ⟨s.fr,setAt s.hp id (.box u (setAt cs j (.sl s.hp.length)))++[o0]⟩):=by
 rintro c a w _ ⟨θ,D,hI⟩
 have hJ:=uj hI ho0
 rw[<-qZ]at hJ
 have hid:=(List.getElem?_eq_some_iff.1 ho).1
 refine⟨_,D,hJ.size,hJ.defers,⟨by rw[hJ.ok.len];simp[enc,d9],hJ.ok.dlt,hJ.ok.inj,hJ.ok.olt,λi l o hi hoi=>?_⟩,hJ.keep,hJ.dsub,hJ.dnew,hJ.onew,hJ.fr,hJ.fix⟩
 have hoi':((setAt s.hp id (.box u (setAt cs j (.sl s.hp.length)))++[o0]).map bN)[i]? =some o:=hoi
 rw[d9,d9]at hoi'
 by_cases hii:i=id
 ·subst hii
  rw[List.getElem?_map,List.getElem?_append_left (by simpa using hid),List.getElem?_set_self hid]at hoi'
  cases hoi'
  have hr:=hJ.ok.objs i l (bN (.box u cs)) hi (by rw[bO,List.getElem?_append_left hid,ho];rfl)
  cases l<;>simp only[bN,RelO]at hr⊢<;>try exact hr
  obtain⟨cv,h1,h2,h3⟩:=hr
  refine⟨cv,h1,by simpa using h2,λq y x hy hx=>?_⟩
  rw[List.map_set]at hx
  by_cases hq:q=j
  ·subst hq
   rw[List.getElem?_set]at hx
   simp only[if_true]at hx
   split at hx
   ·cases hx
    have:=h3 q y (aM (.nil t')) hy (by rw[List.getElem?_map,hj];rfl)
    refine⟨.nil none,?_,this⟩
    rw[<-mj,<-hI.ok.len]
    simp
   ·cases hx
  ·rw[List.getElem?_set_ne (Ne.symm hq)]at hx
   exact h3 q y x hy hx
 ·refine hJ.ok.objs i l o hi ?_
  show((s.hp++[o0]).map bN)[i]? =some o
  rw[<-hoi']
  simp only[List.getElem?_map]
  congr 1
  rcases Nat.lt_or_ge i s.hp.length with h1|h1
  ·rw[List.getElem?_append_left h1,List.getElem?_append_left (by simpa using h1),List.getElem?_set_ne (Ne.symm hii)]
  ·rw[List.getElem?_append_right h1,List.getElem?_append_right (by simpa using h1)]
   simp
theorem om{ids:List Nat}{i:Nat}(h:i∈ids):ids[ids.idxOf i]? =some i:=by
 have h1:=List.idxOf_lt_length_of_mem h
 rw[List.getElem?_eq_getElem h1]
 simp
theorem wX{θ:List Av.Loc}{ids:List Nat}{D:Nat->Prop}{w:World}{v:Value}{x:BV}(hin:∀i∈x.ids,i∈ids)(h:RelB θ D w v x):RelB (ids.map λi=>θ.getD i .no) D w v (x.ren (ids.idxOf ·)):=by
 have key:∀(i:Nat) (l:Av.Loc),i∈ids->θ[i]? =some l->(ids.map λi=>θ.getD i .no)[ids.idxOf i]? =some l:=λi l hi hl=>by
  rw[List.getElem?_map,om hi]
  simp[List.getD,hl]
 cases x<;>simp only[RelB,BV.ren]at h⊢<;>simp only[BV.ids,List.mem_singleton,forall_eq]at hin
 ·exact h
 ·exact h
 ·obtain⟨l,h1,h2⟩:=h;exact⟨l,key _ _ hin h1,h2⟩
 ·obtain⟨g,h1,h2⟩:=h;exact⟨g,key _ _ hin h1,h2⟩
 ·obtain⟨g,n,cap,sz,O,h1,h2⟩:=h;exact⟨g,n,cap,sz,O,key _ _ hin h1,h2⟩
 ·obtain⟨gs,h1,h2,h3⟩:=h
  refine⟨gs,by simpa using h1,λk i g e1 e2=>?_,h3⟩
  rw[List.getElem?_map]at e1
  obtain⟨i',e3,rfl⟩:=Option.map_eq_some_iff.1 e1
  exact key _ _ (hin i' (List.mem_of_getElem? e3)) (h2 k i' g e3 e2)
 ·obtain⟨g,h1,h2⟩:=h;exact⟨g,key _ _ hin h1,h2⟩
 ·exact h
 ·exact h
theorem Lg{θ:List Av.Loc}{ids:List Nat}{D:Nat->Prop}{w:World}{v:Value}{x:AV}(hin:∀i∈x.ids,i∈ids)(h:RelA θ D w v x):RelA (ids.map λi=>θ.getD i .no) D w v (x.ren (ids.idxOf ·)):=by
 have many:∀(xs:List BV) (a:Array Value),(∀i∈xs.flatMap BV.ids,i∈ids)->a.size=xs.length->(∀(i:Nat) (y:Value) (x:BV),a[i]? =some y->xs[i]? =some x->RelB θ D w y x)->
  a.size=(xs.map (BV.ren (ids.idxOf ·))).length/\∀(i:Nat) (y:Value) (x:BV),a[i]? =some y->(xs.map (BV.ren (ids.idxOf ·)))[i]? =some x->RelB (ids.map λi=>θ.getD i .no) D w y x:=by
  intro xs a h0 h1 h2
  refine⟨by simpa using h1,λi y x hy hx=>?_⟩
  rw[List.getElem?_map]at hx
  obtain⟨x0,hx0,rfl⟩:=Option.map_eq_some_iff.1 hx
  exact wX (λj hj=>h0 j (List.mem_flatMap.2 ⟨x0,List.mem_of_getElem? hx0,hj⟩)) (h2 i y x0 hy hx0)
 cases x with
 |b x=>exact wX hin h
 |agg xs=>obtain⟨a,h1,h2,h3⟩:=h;obtain⟨h4,h5⟩:=many xs a hin h2 h3;exact⟨a,h1,h4,h5⟩
 |tup xs=>obtain⟨a,h1,h2,h3⟩:=h;obtain⟨h4,h5⟩:=many xs a hin h2 h3;exact⟨a,h1,h4,h5⟩
theorem Fj{m:Nat}{a b:St}(ids:List Nat)(hnd:ids.Nodup)(hm:∀k,k<m->ids[k]? =some k)
 (hfr:∀k y,Av.look b.fr k=some y->∃x,Av.look a.fr k=some x/\(∀i∈x.ids,i∈ids)/\y=x.ren (ids.idxOf ·))
 (hlen:b.hp.length=ids.length) (hhp:∀(j:Nat) (o':AObj),b.hp[j]? =some o'->∃(i:Nat) (o:AObj),ids[j]? =some i/\a.hp[i]? =some o/\(∀i∈o.ids,i∈ids)/\o'=o.ren (ids.idxOf ·)):Weak m a b:=by
 rintro c ac w hcm ⟨θ,D,hI⟩
 have hin:∀(j:Nat) (i:Nat),ids[j]? =some i->i<θ.length:=λj i hj=>by
  have hj2:j<b.hp.length:=by rw[hlen];exact(List.getElem?_eq_some_iff.1 hj).1
  obtain⟨i',o,h1,h2,_⟩:=hhp j _ (List.getElem?_eq_getElem hj2)
  rw[hj]at h1;cases h1
  rw[hI.ok.len]
  exact(List.getElem?_eq_some_iff.1 h2).1
 have back:∀(j:Nat) (l:Av.Loc),(ids.map λi=>θ.getD i .no)[j]? =some l->∃i,ids[j]? =some i/\θ[i]? =some l:=λj l hj=>by
  rw[List.getElem?_map]at hj
  obtain⟨i,h1,h2⟩:=Option.map_eq_some_iff.1 hj
  refine⟨i,h1,?_⟩
  have:=hin j i h1
  rw[<-h2]
  simp[List.getD,List.getElem?_eq_getElem this]
 refine⟨ids.map λi=>θ.getD i .no,D,hI.size,hI.defers,⟨by rw[List.length_map,hlen],hI.ok.dlt,λi j li lj g hi hj hgi hgj=>?_,λi l g hi hg=>?_,λj l o' hj hoj=>?_⟩,hI.keep,hI.dsub,hI.dnew,λi l g hi hg=>?_,λk y hk=>?_,λk l hk hf=>?_⟩
 ·obtain⟨i',h1,h2⟩:=back i li hi
  obtain⟨j',h3,h4⟩:=back j lj hj
  have:=hI.ok.inj i' j' li lj g h2 h4 hgi hgj
  subst this
  have hi2:=(List.getElem?_eq_some_iff.1 h1).1
  exact(List.getElem?_inj hi2 hnd).1 (by rw[h1,h3])
 ·obtain⟨i',h1,h2⟩:=back i l hi
  exact hI.ok.olt i' l g h2 hg
 ·obtain⟨i,h1,h2⟩:=back j l hj
  obtain⟨i',o,h3,h4,h5,rfl⟩:=hhp j o' hoj
  rw[h1]at h3;cases h3
  have hr:=hI.ok.objs i l o h2 h4
  cases o with
  |box t cs=>
   cases l<;>simp only[AObj.ren,RelO]at hr⊢<;>try exact hr
   obtain⟨cv,e1,e2,e3⟩:=hr
   refine⟨cv,e1,by simpa using e2,λq y x hy hx=>?_⟩
   rw[List.getElem?_map]at hx
   obtain⟨x0,hx0,rfl⟩:=Option.map_eq_some_iff.1 hx
   exact wX (λp hp=>h5 p (List.mem_flatMap.2 ⟨x0,List.mem_of_getElem? hx0,hp⟩)) (e3 q y x0 hy hx0)
  |gone=>cases l<;>trivial
  |free=>cases l<;>exact hr
  |vec e sz xs=>cases l<;>exact hr
  |map k e kvs=>cases l<;>exact hr
  |tree e sz k xs hole=>
   cases l<;>try exact hr
   case nil=>exact⟨hr.1,by have:=hr.2;subst this;rfl⟩
   case hdr=>exact m4 (λu i j b hb hr=>wX (λp hp=>h5 p (by rw[hb];exact hp)) hr) (λ_ h=>h) hr
 ·obtain⟨i',h1,h2⟩:=back i l hi
  exact hI.onew i' l g h2 hg
 ·obtain⟨x,h1,h2,rfl⟩:=hfr k y hk
  exact Lg h2 (hI.fr k x h1)
 ·have h1:=hI.fix k l hk hf
  have hk2:k<m:=Nat.lt_of_lt_of_le (List.getElem?_eq_some_iff.1 hk).1 hcm
  rw[List.getElem?_map,hm k hk2]
  simp[List.getD,h1]
def Adj.wfB(m:Nat):Adj->Bool
 | .sel ids _=>(List.range m).all λk=>match ids[k]? with
  |some i=>Nat.beq i k
  |none=>false
 |_=>true
def xf(m:Nat)(l:List Adj):Bool:=l.all (Adj.wfB m)
theorem Keeps.of_map{A:List Nat}{s s':S}(g:V->V)(hg:∀v,v.isD=true->g v=v)(hfr:∀k,lk s'.fr k=(lk s.fr k).map g\/lk s'.fr k=none):Keeps A s s':=λk _=>by
 rcases hfr k with h|h
 ·rw[h]
  exact⟨λv hv hd=>.inl (by rw[hv];simp[hg v hd]),λhn=>by rw[hn];rfl⟩
 ·rw[h];exact⟨λ_ _ _=>.inr rfl,λ_=>rfl⟩
theorem Hz{id:Nat}{t:Ty}{xs:List t.den}{v:V}(h:v.isD=true):kf (Jy id t xs) v=v:=by cases v<;>first|rfl|cases h
theorem L4{ρ:Nat->Nat}{v:V}(h:v.isD=true):kf (V.ren ρ) v=v:=by cases v<;>first|rfl|cases h
theorem uq{α β:Type}{f:α->Option β}:∀{l:List α} {m:List β},l.mapM f=some m->m.length=l.length/\∀(i:Nat) (y:β),m[i]? =some y->∃x,l[i]? =some x/\f x=some y
 |[],m,h=>by simp at h;subst h;exact⟨rfl,λi y h=>by simp at h⟩
 |x::l,m,h=>by
  simp only[List.mapM_cons,Option.bind_eq_bind,Option.pure_def,Option.bind_eq_some_iff,Option.some.injEq]at h
  obtain⟨z,h1,m',h2,rfl⟩:=h
  obtain⟨h3,h4⟩:=uq h2
  refine⟨by simp[h3],λi y hy=>?_⟩
  cases i with
  |zero=>simp at hy;subst hy;exact⟨x,rfl,h1⟩
  |succ i=>simpa using h4 i y (by simpa using hy)
theorem Gc{s:S}:∀{ks:List Nat} {fr:List (Nat×V)},ks.mapM (λk=>(lk s.fr k).map λv=>(k,v))=some fr->∀k,lk fr k=lk s.fr k\/lk fr k=none
 |[],fr,h,k=>by simp at h;subst h;exact .inr rfl
 |j::ks,fr,h,k=>by
  simp only[List.mapM_cons,Option.bind_eq_bind,Option.pure_def,Option.bind_eq_some_iff,Option.some.injEq,Option.map_eq_some_iff]at h
  obtain⟨x,⟨v,hv,rfl⟩,m',h2,rfl⟩:=h
  simp only[lk,e9]
  by_cases hk:k=j
  ·subst hk
   rw[decide_eq_true rfl]
   exact .inl hv.symm
  ·rw[decide_eq_false hk]
   exact Gc h2 k
theorem DZ{m:Nat}{id k j:Nat}{u:Ty}{s s':S}(h:adj (.focus id k j u) s=some s'):Weak m (enc s) (enc s')/\∀A,Keeps A s s':=by
 simp only[adj]at h
 split at h
 ·rename_i kk n e k0 t xs hk ho
  split at h
  ·rename_i e' sz' k' hat
   obtain⟨h1,h2⟩:=aR h
   simp only[Bool.and_eq_true,decide_eq_true_eq]at h1
   obtain⟨x,hx,h3⟩:=ct h2
   split at h3
   ·rename_i L hL
    cases h3
    have hsz:=Nat.eq_of_beq_eq_true h1.1
    obtain⟨p1,p2⟩:=nC t j (.list u) x L hL
    have hj:j<(aB t x).length:=by rw[aG];simp only[Ty.sz]at p1;omega
    have hy:(aH t x).cells[j]? =some (aH (.list u) L):=by
     have:((aB t x).drop j).take 1=[aH (.list u) L]:=by
      have:=p2;rw[dq (t:=.list u) L rfl]at this;exact this
     have h5:(((aB t x).drop j).take 1)[0]? =some (aH (.list u) L):=by rw[this];rfl
     rw[List.getElem?_take,if_pos (by omega),List.getElem?_drop]at h5
     exact h5
    refine⟨?_,λA=>Keeps.fr rfl⟩
    have hw:=G1 (m:=m) (st:=enc s) (id:=id) (i:=n.toNat) (j:=j) (k:=k0) (q:=(e',sz',k')) (L:=L.map (aH u)) (by rw[bO,ho];rfl) (by rw[List.getElem?_map,hx];rfl) hy hat (by rw[hsz];rfl)
    have hin:jK (e',sz',k') (L.map (aH u))=bN (rQ e' k' u L):=by
     unfold jK rQ
     cases hf:k'.allF
     ·rw[hsz];rfl
     ·rw[hsz];rfl
    rw[hin]at hw
    have he:enc ⟨s.fr,setAt s.hp id (.tree e k0 t xs (some (n.toNat,j,.sl s.hp.length)))++[rQ e' k' u L]⟩=⟨(enc s).fr,(enc s).hp.set id (.tree e t.sz k0 (xs.map (aH t)) (some (n.toNat,j,.sl (enc s).hp.length)))++[bN (rQ e' k' u L)]⟩:=by
     simp only[enc,d9,List.map_append,List.map_set,List.map_cons,List.map_nil,List.length_map]
     rfl
    rw[he]
    exact hw
   ·cases h3
  ·cases h
 ·cases h
theorem Ez{e:TypeId}{k:Av.K}{u:Ty}{o:Ob}{L:List u.den}(h:wT e k u o=some L):bN o=jK (e,u.sz,k) (L.map (aH u)):=by
 unfold wT at h
 split at h
 ·rename_i e' t xs
  obtain⟨h1,h2⟩:=aR h
  simp only[Bool.and_eq_true]at h1
  obtain⟨e2,e3⟩:=bH h2
  have e4:=Ty.list.inj e2
  subst e4
  have e5:L=xs:=e3
  subst e5
  have:=Nat.eq_of_beq_eq_true h1.2
  subst this
  simp only[jK,h1.1,if_true]
  rfl
 ·rename_i e' k' t xs
  obtain⟨h1,h2⟩:=aR h
  simp only[Bool.and_eq_true,Bool.not_eq_true',decide_eq_true_eq]at h1
  obtain⟨e2,e3⟩:=bH h2
  have e4:=Ty.list.inj e2
  subst e4
  have e5:L=xs:=e3
  subst e5
  have:=Nat.eq_of_beq_eq_true h1.1.2
  subst this
  obtain⟨⟨h3,_⟩,rfl⟩:=h1
  simp only[jK,h3,Bool.false_eq_true,if_false]
  rfl
 ·cases h
theorem Dx{m:Nat}{id:Nat}{s s':S}(h:adj (.close id) s=some s'):Weak m (enc s) (enc s')/\∀A,Keeps A s s':=by
 simp only[adj]at h
 split at h
 ·rename_i e kk t xs i j kid ho
  cases hb:Nat.beq kid id
  ·rw[hb]at h
   simp only[cond_false]at h
   split at h
   ·rename_i e' sz' k' o u hat hkid hel
    split at h
    ·rename_i L hL
     obtain⟨h1,h2⟩:=aR h
     obtain⟨x,hx,h3⟩:=ct h2
     split at h3
     ·rename_i y hy
      cases h3
      have hsz:=Nat.eq_of_beq_eq_true h1
      have hne:kid≠id:=λe=>by rw[e,Nat.beq_refl]at hb;cases hb
      obtain⟨p1,p2,p3⟩:=iA t j (.list u) x L y hy
      have hj:j<(aH t x).cells.length:=by
       have:(aH t x).cells.length=t.sz:=aG t x
       rw[this];simp only[Ty.sz]at p1;omega
      refine⟨?_,λA=>Keeps.map A s _ (V.kill1 kid) (λv hv=>by cases v<;>first|rfl|cases hv) rfl⟩
      have hin:=Ez hL
      have hw:=G0 (m:=m) (st:=enc s) (id:=id) (kid:=kid) (i:=i) (j:=j) (k:=kk) (x:=aH t x) (q:=(e',sz',k')) (L:=L.map (aH u)) (by rw[bO,ho];rfl) (by rw[List.getElem?_map,hx];rfl) hj hat (by rw[bO,hkid,hsz,<-hin];rfl) hne
      have hyc:(aH t x).setc j (ke sz' (L.map (aH u)))=aH t y:=by
       have hc1:=tp (x:=aH t x) (y:=ke sz' (L.map (aH u))) hj (vo _ _)
       have hl:aB (.list u) L=[ke sz' (L.map (aH u))]:=by rw[hsz];exact(Cu u L).1
       have hc2:aB t y=(aB t x).set j (ke sz' (L.map (aH u))):=by
        rw[p2,hl]
        apply List.ext_getElem?
        intro q
        rw[kq _ _ _ (by simp only[List.length_cons,List.length_nil];show j+1<=(aH t x).cells.length;omega)]
        by_cases hq:q=j
        ·subst hq
         rw[if_pos (by simp),List.getElem?_set_self hj]
         simp
        ·rw[if_neg (by simp;omega),List.getElem?_set_ne (Ne.symm hq)]
       cases hag:t.ag
       ·have h6:(aH t x).isAgg=false:=by rw[kN];exact hag
        have h7:j=0:=by
         have:(aH t x).cells.length=t.sz:=aG t x
         rw[this,eB hag]at hj;omega
        subst h7
        have h8:(aH t x).setc 0 (ke sz' (L.map (aH u)))=ke sz' (L.map (aH u)):=by
         cases hq:aH t x<;>first|rfl|(rw[hq]at h6;cases h6)
        rw[h8]
        have h9:=hc2
        rw[dq y hag,dq x hag]at h9
        simp at h9
        exact h9.symm
       ·rw[d6 x hag,d6 y hag]
        show PV.agg ((aB t x).set j _)=PV.agg (aB t y)
        rw[hc2]
      rw[hyc]at hw
      have he:enc ⟨(s.moved kid .gone).fr,setAt (s.moved kid .gone).hp id (.tree e kk t (xs.set i y) none)⟩=⟨(enc s).fr.map λx=>(x.1,x.2.kill kid),(((enc s).hp.map (AObj.kill kid)).set kid .gone).set id (.tree e t.sz kk ((xs.map (aH t)).set i (aH t y)) none)⟩:=by
       rw[gu,u7]
       simp only[St.moved]
       congr 2
       show AObj.tree e t.sz kk _ _=_
       rw[List.map_set];rfl
      rw[he]
      exact hw
     ·cases h3
    ·cases h
   ·cases h
  ·rw[hb]at h;cases h
 ·cases h
theorem It{m:Nat}{l:Adj}{s s':S}(hw:l.wfB m=true)(h:adj l s=some s'):Weak m (enc s) (enc s')/\∀A,Keeps A s s':=by
 cases l with
 |freeze id=>
  simp only[adj]at h
  split at h
  ·rename_i e t xs ho
   cases h
   refine⟨wn ho (by rw[Fv,bO,ho];rfl) rfl,λA=>Keeps.map A s _ (Jy id t xs) (λv hv=>Hz hv) rfl⟩
  ·rename_i e k t xs ho
   cases h
   refine⟨wn ho (by rw[Fv,bO,ho];rfl) rfl,λA=>Keeps.map A s _ (Jy id t xs) (λv hv=>Hz hv) rfl⟩
  ·cases h
 |focus id k j u=>exact DZ h
 |close id=>exact Dx h
 |adopt k e t=>
  simp only[adj]at h
  split at h
  ·rename_i u hk
   cases h
   refine⟨yP (DU e t) hk,λA j _=>?_⟩
   simp only[lk,e9]
   by_cases hj:j=k
   ·subst hj
    rw[decide_eq_true rfl,hk]
    exact⟨λv hv hd=>(by cases hv;cases hd),λhn=>(by cases hn)⟩
   ·rw[decide_eq_false hj]
    exact⟨λ_ h _=>.inl h,λh=>h⟩
  ·cases h
 |adoptC id j e t=>
  simp only[adj]at h
  split at h
  ·rename_i u cs ho
   split at h
   ·rename_i t' hj
    cases h
    exact⟨wm (DU e t) ho hj,λA=>Keeps.fr rfl⟩
   ·cases h
  ·cases h
 |adoptT k e kk t=>
  simp only[adj]at h
  split at h
  ·rename_i u hk
   cases h
   refine⟨yP (AP e kk t) hk,λA j _=>?_⟩
   simp only[lk,e9]
   by_cases hj:j=k
   ·subst hj
    rw[decide_eq_true rfl,hk]
    exact⟨λv hv hd=>(by cases hv;cases hd),λhn=>(by cases hn)⟩
   ·rw[decide_eq_false hj]
    exact⟨λ_ h _=>.inl h,λh=>h⟩
  ·cases h
 |adoptCT id j e kk t=>
  simp only[adj]at h
  split at h
  ·rename_i u cs ho
   split at h
   ·rename_i t' hj
    cases h
    exact⟨wm (AP e kk t) ho hj,λA=>Keeps.fr rfl⟩
   ·cases h
  ·cases h
 |sel ids ks=>
  simp only[adj]at h
  split at h
  ·rename_i os fr hos hfr
   obtain⟨h1,h2⟩:=aR h
   cases h2
   simp only[Bool.and_eq_true,decide_eq_true_eq,List.all_eq_true]at h1
   obtain⟨⟨hnd,hoi⟩,hfi⟩:=h1
   simp only[Adj.wfB,List.all_eq_true,List.mem_range]at hw
   obtain⟨q1,q2⟩:=uq hos
   refine⟨Fj ids hnd (λk hk=>?_) (λk y hk=>?_) (by simp[enc,q1]) λj o' hj=>?_,λA=>Keeps.of_map (kf (V.ren (zJ ids))) (λv hv=>L4 hv) λk=>?_⟩
   ·have:=hw k hk
    split at this
    ·rename_i i hi
     rw[hi,Nat.eq_of_beq_eq_true this]
    ·cases this
   ·have hk':Av.look ((fr.map λx=>(x.1,kf (V.ren (zJ ids)) x.2)).map λx=>(x.1,aS x.2)) k=some y:=hk
    rw[mQ,xV]at hk'
    obtain⟨v1,e1,rfl⟩:=Option.map_eq_some_iff.1 hk'
    obtain⟨v2,e2,rfl⟩:=Option.map_eq_some_iff.1 e1
    refine⟨aS v2,?_,λi hi=>?_,xC _ v2⟩
    ·show Av.look (s.fr.map λx=>(x.1,aS x.2)) k=_
     rw[mQ]
     rcases Gc hfr k with e3|e3
     ·rw[<-e3,e2];rfl
     ·rw[e3]at e2;cases e2
    ·rw[<-lE]at hi
     exact allIn_mem.1 (hfi _ (xW e2)) i hi
   ·have hj':((os.map (re (V.ren (zJ ids)))).map bN)[j]? =some o':=hj
    simp only[List.getElem?_map,Option.map_eq_some_iff]at hj'
    obtain⟨_,⟨o,ho,rfl⟩,rfl⟩:=hj'
    obtain⟨i,e1,e2⟩:=q2 j o ho
    refine⟨i,bN o,e1,by rw[bO,e2];rfl,λp hp=>?_,ub _ o⟩
    rw[<-qY]at hp
    exact allIn_mem.1 (hoi o (List.mem_of_getElem? ho)) p hp
   ·show lk (fr.map λx=>(x.1,kf (V.ren (zJ ids)) x.2)) k=_\/lk (fr.map λx=>(x.1,kf (V.ren (zJ ids)) x.2)) k=none
    rw[xV]
    rcases Gc hfr k with e3|e3
    ·exact .inl (by rw[e3])
    ·exact .inr (by rw[e3];rfl)
  ·cases h
 |drop ks=>
  simp only[adj,Option.some.injEq]at h
  subst h
  have hlk:∀(fr:List (Nat×V)) (k:Nat),lk (fr.filter λx=> !mP ks x.1) k=lk fr k\/lk (fr.filter λx=> !mP ks x.1) k=none:=by
   intro fr k
   induction fr with
   |nil=>exact .inl rfl
   |cons x fr ih=>
    obtain⟨j,v⟩:=x
    simp only[List.filter_cons]
    cases hin:mP ks j
    ·simp only[Bool.not_false,if_true,lk,e9]
     by_cases hk:k=j
     ·subst hk;rw[decide_eq_true rfl];exact .inl rfl
     ·rw[decide_eq_false hk];exact ih
    ·simp only[Bool.not_true,Bool.false_eq_true,if_false,lk,e9]
     by_cases hk:k=j
     ·subst hk
      right
      have:∀(l:List (Nat×V)),lk (l.filter λx=> !mP ks x.1) k=none:=by
       intro l
       induction l with
       |nil=>rfl
       |cons y l ihl=>
        obtain⟨i,u⟩:=y
        simp only[List.filter_cons]
        cases hi:mP ks i
        ·simp only[Bool.not_false,if_true,lk,e9]
         by_cases hki:k=i
         ·subst hki;rw[hin]at hi;cases hi
         ·rw[decide_eq_false hki];exact ihl
        ·simp only[Bool.not_true,Bool.false_eq_true,if_false];exact ihl
      exact this fr
     ·rw[decide_eq_false hk];exact ih
  refine⟨(LeS.frame (fr:=s.fr.map λx=>(x.1,aS x.2)) (fr':=(s.fr.filter λx=> !mP ks x.1).map λx=>(x.1,aS x.2)) λk y hk=>?_).weak,λA=>Keeps.of_map (λv=>v) (λ_ _=>rfl) λk=>?_⟩
  ·rw[mQ]at hk⊢
   rcases hlk s.fr k with e|e
   ·rw[<-e];exact hk
   ·rw[e]at hk;cases hk
  ·rcases hlk s.fr k with e|e
   ·exact .inl (by show lk (s.fr.filter _) k=_;rw[e];simp)
   ·exact .inr e
theorem LE{R:Type}{a:Adj}{s:S}{κ:S->Option R}{r:R}(h:JF a s κ=some r):∃s',adj a s=some s'/\κ s'=some r:=by
 cases a with
 |focus id k j u=>
  simp only[JF]at h
  split at h
  ·rename_i kk n e k0 t xs hk ho
   split at h
   ·rename_i e' sz' k' hat
    obtain⟨h1,h2⟩:=aR h
    obtain⟨h3,h4⟩:=bB h2
    obtain⟨x,hx,h5⟩:=ct h4
    split at h5
    ·rename_i L hL
     refine⟨_,?_,h5⟩
     simp only[adj,hk,ho,hat,h1,h3,Bool.and_self,cond_true,hx,Option.bind_some,hL]
    ·cases h5
   ·cases h
  ·cases h
 |close id=>
  simp only[JF]at h
  split at h
  ·rename_i e kk t xs i j kid ho
   cases hb:Nat.beq kid id
   ·rw[hb]at h
    simp only[cond_false]at h
    split at h
    ·rename_i e' sz' k' o u hat hkid hel
     split at h
     ·rename_i L hL
      obtain⟨h1,h2⟩:=aR h
      obtain⟨x,hx,h3⟩:=ct h2
      split at h3
      ·rename_i y hy
       refine⟨_,?_,h3⟩
       simp only[adj,ho,hb,cond_false,hat,hkid,hel,hL,h1,cond_true,hx,Option.bind_some,hy]
      ·cases h3
     ·cases h
    ·cases h
   ·rw[hb]at h;cases h
  ·cases h
 |_=>
  simp only[JF]at h
  split at h
  ·rename_i s1 h1;exact⟨s1,h1,h⟩
  ·cases h
theorem tN{R:Type}:∀{l:List Adj} {s:S} {κ:S->Option R} {r:R},sK l s κ=some r->∃s',JG l s=some s'/\κ s'=some r
 |[],s,κ,r,h=>⟨s,rfl,h⟩
 |a::l,s,κ,r,h=>by
  obtain⟨s1,h1,h2⟩:=LE h
  obtain⟨s2,h3,h4⟩:=tN h2
  exact⟨s2,by simp only[JG,h1];exact h3,h4⟩
theorem pN{m:Nat}:∀{l:List Adj} {s s':S},xf m l=true->JG l s=some s'->Weak m (enc s) (enc s')/\∀A,Keeps A s s'
 |[],s,s',_,h=>by cases h;exact⟨Weak.refl _ _,λA=>Keeps.refl A s⟩
 |a::l,s,s',hw,h=>by
  simp only[xf,List.all_cons,Bool.and_eq_true]at hw
  simp only[JG]at h
  split at h
  ·rename_i s1 h1
   obtain⟨e1,e2⟩:=It hw.1 h1
   obtain⟨e3,e4⟩:=pN hw.2 h
   exact⟨e1.trans e3,λA=>(e2 A).trans (e4 A)⟩
  ·cases h
end Go.Ev
namespace Go.Ev
open Go Go.RowKit Go.Av
structure Ext(a b:St):Prop where
 hp:a.hp=b.hp
 fr:∀k y,Av.look b.fr k=some y->Av.look a.fr k=some y
theorem Ext.refl(a:St):Ext a a:=⟨rfl,λ_ _ h=>h⟩
theorem Ext.weak{m:Nat}{a b:St}(h:Ext a b):Weak m a b:=by
 obtain⟨af,ah⟩:=a
 obtain⟨bf,bh⟩:=b
 obtain⟨h1,h2⟩:=h
 cases h1
 exact(LeS.frame h2).weak
theorem Ext.put{a b:St}(h:Ext a b)(d:Option Nat)(x:AV):Ext (a.putO d x) (b.putO d x):=by
 refine⟨by cases d<;>exact h.hp,λk y hk=>?_⟩
 rw[eC]at hk⊢
 by_cases hd:d=some k
 ·rw[if_pos hd]at hk⊢;exact hk
 ·rw[if_neg hd]at hk⊢;exact h.fr k y hk
theorem Ext.get{a b:St}(h:Ext a b){x:SX}{y:AV}(hx:b.get x=some y):a.get x=some y:=by
 cases x<;>simp only[St.get]at hx⊢
 ·exact h.fr _ _ hx
 all_goals exact hx
theorem Eh{α β:Type}{f g:α->Option β}(h:∀x y,f x=some y->g x=some y):∀{l:List α} {m:List β},l.mapM f=some m->l.mapM g=some m
 |[],m,hm=>hm
 |x::l,m,hm=>by
  simp only[List.mapM_cons,Option.bind_eq_bind,Option.pure_def,Option.bind_eq_some_iff,Option.some.injEq]at hm⊢
  obtain⟨z,h1,m',h2,rfl⟩:=hm
  exact⟨z,h _ _ h1,m',Eh h h2,rfl⟩
theorem Ext.bind{a b:St}(h:Ext a b){x:SX}{K:AV->Prop}(hx:aK (b.get x) K):aK (a.get x) K:=let⟨y,h1,h2⟩:=hx;⟨y,h.get h1,h2⟩
theorem Ext.bnd{a b:St}(h:Ext a b){x:Option SX}{d:Nat}{K:Nat->Prop}(hx:bnd b x d K):bnd a x d K:=by
 cases x with
 |none=>exact hx
 |some x=>exact h.bind hx
theorem Ext.bindM{a b:St}{α β:Type}{f:St->α->Option β}(hf:∀x y,f b x=some y->f a x=some y){l:List α}{K:List β->Prop}(hx:aK (l.mapM (f b)) K):aK (l.mapM (f a)) K:=let⟨y,h1,h2⟩:=hx;⟨y,Eh hf h1,h2⟩
theorem If{P:Program}{a b:St}(h:Ext a b){op:SOp}{K:AV->Prop}(hs:g8 P b op K):g8 P a op K:=by
 have hh:=h.hp
 have getB:∀{β:Type} (g:AV->Option β) (x:SX) (y:β),(b.get x).bind g=some y->(a.get x).bind g=some y:=λg x y hx=>by
  obtain⟨u,h1,h2⟩:=Option.bind_eq_some_iff.1 hx
  rw[h.get h1];exact h2
 cases op<;>simp only[g8]at hs⊢<;>try rw[hh]
 case mv=>exact h.bind hs
 case pick=>exact ak (h.bind hs) λ_ h1=>bi h1 λ_ h2=>lF h2 λ_ h3=>⟨λe=>h.bind (h3.1 e),λe=>h.bind (h3.2 e)⟩
 case bin=>exact ak (h.bind hs) λ_ h1=>h.bind h1
 case eqB=>exact ak (h.bind hs) λ_ h1=>h.bind h1
 case un=>exact h.bind hs
 case len=>exact h.bind hs
 case lenM=>exact h.bind hs
 case idxS=>exact ak (h.bind hs) λ_ h1=>h.bind h1
 case idxV=>exact ak (h.bind hs) λ_ h1=>h.bind h1
 case idxA=>exact ak (h.bind hs) λ_ h1=>h.bind h1
 case idxP=>exact ak (h.bind hs) λ_ h1=>h.bind h1
 case fldA=>exact h.bind hs
 case fld=>exact h.bind hs
 case load=>exact h.bind hs
 case cvtI=>exact h.bind hs
 case slc=>
  exact ak (h.bind hs) λ_ h1=>ak h1 λ_ ⟨L,h2,h3⟩=>⟨L,h2,lD (h.bnd h3) λ_ h4=>lD (h.bnd h4) λ_ h5=>h.bnd h5⟩
 case slcS=>exact ak (h.bind hs) λ_ h1=>bi h1 λ_ h1=>nv h1 λ_ h1=>lD (h.bnd h1) λ_ h1=>h.bnd h1
 case ext=>exact h.bind hs
 case nilc=>exact h.bind hs
 case build=>exact Ext.bindM (f:=λst (q:Nat×Nat×SX)=>(st.get q.2.2).map λa=>(q.1,q.2.1,a)) (λq y hq=>by
  obtain⟨u,h1,h2⟩:=Option.map_eq_some_iff.1 hq
  rw[h.get h1,<-h2];rfl) hs
 case call=>exact Ext.bindM (f:=λst x=>(St.get st x).bind (lA b.hp _)) (λq y hq=>getB _ q y hq) hs
 case callp=>exact ak (h.bind hs) λ_ ⟨f,cs,h1,h2,h3⟩=>⟨f,cs,h1,h2,Ext.bindM (f:=λst x=>(St.get st x).bind (lA b.hp _)) (λq y hq=>getB _ q y hq) h3⟩
 case boxD=>exact h.bind hs
 case b2s=>exact h.bind hs
 case bslice own e sz len ps=>
  cases own
  ·exact Ext.bindM (f:=λst x=>(St.get st x).bind AV.toPV) (λq y hq=>getB _ q y hq) hs
  ·exact hs
 case bsliceN=>exact Ext.bindM (f:=λst x=>(St.get st x).bind AV.toPVn) (λq y hq=>getB _ q y hq) hs
 case mkfn=>exact Ext.bindM (f:=λst x=>St.get st x) (λq y hq=>h.get hq) hs
 case lookup=>exact ak (h.bind hs) λ_ h1=>h.bind h1
 case eqT=>exact ak (h.bind hs) λ_ h1=>h.bind h1
 case appD=>exact ak (h.bind hs) λ_ h1=>h.bind h1
 case mnmx=>exact ak (h.bind hs) λ_ h1=>bi h1 λ_ h1=>bI h1 λ_ _ h1=>Ext.bindM (f:=λst x=>St.get st x) (λq y hq=>h.get hq) h1
 case iface=>exact h.bind hs
inductive Sys(P:Program):List SOper->St->St->Prop
 |nil (st:St):Sys P [] st st
 |cons (o:SOper) (l:List SOper) (st st':St) (x:AV) (h:ez P o st x) (k:Sys P l (st.putO o.dst x) st'):Sys P (o::l) st st'
theorem Sys.app{P:Program}{l l':List SOper}{a b c:St}(h:Sys P l a b)(k:Sys P l' b c):Sys P (l++l') a c:=by
 induction h with
 |nil=>exact k
 |cons o l st st' x h _ ih=>exact .cons o _ st c x h (ih k)
theorem Sys.sops{P:Program}{m:Nat}{l L:List SOper}{a b:St}{K KP:St->Prop}(h:Sys P l a b)(k:sops P m L b K KP):sops P m (l++L) a K KP:=by
 induction h with
 |nil=>exact k
 |cons o l st st' x h _ ih=>exact W.mk (mq h (ih k))
theorem Sys.sdraw{P:Program}{m n:Nat}{l L:List SOper}{a b:St}{K KP:St->Prop}(h:Sys P l a b)(k:sdraw P m n L b K KP):sdraw P m (l.length+n) (l++L) a K KP:=by
 induction h with
 |nil=>rw[List.length_nil,Nat.zero_add];exact k
 |cons o l st st' x h _ ih=>
  rw[show(o::l).length+n=(l.length+n)+1 by simp only[List.length_cons];omega]
  exact⟨x,h,ih k⟩
theorem gR{P:Program}{m:Nat}{l:List SOper}{a b:St}{K KP:St->Prop}(h:Weak m a b)(k:sops P m l b K KP):sops P m l a K KP:=by
 cases l with
 |nil=>exact W.from h k
 |cons o l=>exact W.from h k
def RC.offB:List Nat->RC->Bool
 |_,.nil=>true
 |A,.op d _ rest=>rest.offB (fj d++A)
 |_,.adj _ _=>false
 |A,.gb t _ blk ty _ _ dst rest=>mP A t&& !mP blk.asg t&&ty.sc&&blk.offB A&&rest.offB (dst::(blk.asg++A))
def RC.gbB:RC->Bool
 | .nil=>true
 | .op _ _ rest=>rest.gbB
 | .adj _ rest=>rest.gbB
 | .gb _ _ blk ty _ _ _ rest=>ty.sc&&blk.offB []&&blk.gbB&&rest.gbB
def Off(st:St)(g:Nat×Bool):Prop:=∃v,Av.look st.fr g.1=some (.v v)/\yv v≠some g.2
theorem yE{P:Program}{st:St}{g:Nat×Bool}(h:Off st g)(d:Option Nat)(op:SOp):ez P ⟨d,op,some g⟩ st (.v undef):=by
 obtain⟨v,h1,h2⟩:=h
 exact⟨_,h1,v,rfl,λe=>absurd e h2,λ_=>rfl⟩
theorem pS(d:Option Nat):(match d with|some d=>[d]|none=>[])=fj d:=by cases d<;>rfl
theorem wS{P:Program}:∀(rc:RC) (g:Nat×Bool) (A:List Nat) (st:St),rc.offB A=true->Off st g->(∀k∈A,Av.look st.fr k=some (.v undef))->g.1∉rc.asg->
 ∃st',Sys P (rc.er (some g)) st st'/\st'.hp=st.hp/\(∀k,k∉rc.asg->Av.look st'.fr k=Av.look st.fr k)/\∀k,(k∈rc.asg\/k∈A)->Av.look st'.fr k=some (.v undef)
 | .nil,g,A,st,_,_,hA,_=>⟨st,.nil st,rfl,λ_ _=>rfl,λk hk=>hA k (hk.resolve_left (by simp[RC.asg]))⟩
 | .op d o rest,g,A,st,hw,hg,hA,hd=>by
  simp only[RC.offB]at hw
  simp only[RC.asg,pS,List.mem_append,not_or]at hd
  have hlk:∀k,Av.look (st.putO d (.v undef)).fr k=if d=some k then some (.v undef)else Av.look st.fr k:=λk=>eC st d _ k
  have hmem:∀k,d=some k↔k∈fj d:=λk=>by
   cases d with
   |none=>simp[fj]
   |some j=>simp only[fj,Option.some.injEq,List.mem_singleton];exact eq_comm
  obtain⟨st',h1,h2,h3,h4⟩:=wS rest g (fj d++A) (st.putO d (.v undef)) hw (by
   obtain⟨v,e1,e2⟩:=hg
   refine⟨v,?_,e2⟩
   rw[hlk,if_neg λe=>hd.1 ((hmem _).1 e)];exact e1) (λk hk=>by
   rw[hlk]
   by_cases hdk:d=some k
   ·rw[if_pos hdk]
   ·rw[if_neg hdk]
    exact hA k ((List.mem_append.1 hk).resolve_left λe=>hdk ((hmem k).2 e))) hd.2
  refine⟨st',.cons _ _ st st' (.v undef) (yE hg d o.er) h1,by rw[h2];cases d<;>rfl,λk hk=>?_,λk hk=>?_⟩
  ·simp only[RC.asg,pS,List.mem_append,not_or]at hk
   rw[h3 k hk.2,hlk,if_neg λe=>hk.1 ((hmem _).1 e)]
  ·simp only[RC.asg,pS,List.mem_append]at hk
   refine h4 k ?_
   simp only[List.mem_append]
   rcases hk with(hk|hk)|hk
   ·exact .inr (.inl hk)
   ·exact .inl hk
   ·exact .inr (.inr hk)
 | .adj _ _,_,_,_,hw,_,_,_=>by cases hw
 | .gb t want blk ty r alt dst rest,g,A,st,hw,hg,hA,hd=>by
  simp only[RC.offB,Bool.and_eq_true,Bool.not_eq_true']at hw
  obtain⟨⟨⟨⟨w1,w2⟩,w3⟩,w4⟩,w5⟩:=hw
  have ht:t∈A:=inL_mem.1 w1
  have ht2:t∉blk.asg:=λe=>by rw[inL_mem.2 e]at w2;cases w2
  simp only[RC.asg,List.mem_append,List.mem_cons,not_or]at hd
  obtain⟨st1,h1,h2,h3,h4⟩:=wS blk (t,want) A st w4 ⟨undef,hA t ht,by intro e;cases e⟩ hA ht2
  have hg1:Off st1 g:=by
   obtain⟨v,e1,e2⟩:=hg
   exact⟨v,by rw[h3 _ hd.1];exact e1,e2⟩
  have hlk:∀k,Av.look (st1.putO (some dst) (.v undef)).fr k=if some dst=some k then some (.v undef)else Av.look st1.fr k:=λk=>eC st1 (some dst) _ k
  obtain⟨st',k1,k2,k3,k4⟩:=wS rest g (dst::(blk.asg++A)) (st1.putO (some dst) (.v undef)) w5 (by
   obtain⟨v,e1,e2⟩:=hg1
   refine⟨v,?_,e2⟩
   rw[hlk,if_neg λe=>hd.2.1 (Option.some.inj e).symm];exact e1) (λk hk=>by
   rw[hlk]
   by_cases hdk:some dst=some k
   ·rw[if_pos hdk]
   ·rw[if_neg hdk]
    refine h4 k ?_
    rcases List.mem_cons.1 hk with rfl|hk
    ·exact absurd rfl hdk
    ·exact(List.mem_append.1 hk)) hd.2.2
  refine⟨st',h1.app (.cons _ _ _ st' (.v undef) (yE hg1 _ _) k1),by rw[k2];exact h2,λk hk=>?_,λk hk=>?_⟩
  ·simp only[RC.asg,List.mem_append,List.mem_cons,not_or]at hk
   rw[k3 k hk.2.2,hlk,if_neg λe=>hk.2.1 (Option.some.inj e).symm,h3 k hk.1]
  ·simp only[RC.asg,List.mem_append,List.mem_cons]at hk
   refine k4 k ?_
   simp only[List.mem_append,List.mem_cons]
   rcases hk with(hk|rfl|hk)|hk
   ·exact .inr (.inr (.inl hk))
   ·exact .inr (.inl rfl)
   ·exact .inl hk
   ·exact .inr (.inr (.inr hk))
theorem Hm{t:Ty}{v:V}{x:t.den}(ht:t.sc=true)(h:cY t v=some x):v= .d t x:=by
 cases v with
 |d u y=>obtain⟨rfl,rfl⟩:=bH (show bX u t y=some x from h);rfl
 |nil u=>obtain⟨rfl,_⟩:=bH (show bX (.list u) t []=some x from h);cases ht
 |full u y=>obtain⟨rfl,_⟩:=bH (show bX (.list u) t y=some x from h);cases ht
 |agg vs=>unfold cY at h;cases t<;>first|(cases ht;done)|cases h
 |_=>simp[cY,gx]at h
section
variable {P:Program} {O:aj}
def OF(g:Option (Nat×Bool))(s:S)(A:List Nat):Prop:=match g with
 |none=>True
 |some (t,want)=>lk s.fr t=some (.d .bool want)/\t∉A
theorem cC(s:S)(k:Nat):Av.look (enc s).fr k=(lk s.fr k).map aS:=mQ s.fr k
theorem Jp{g:Option (Nat×Bool)}{s:S}{A:List Nat}{st:St}(hg:OF g s A)(he:Ext st (enc s)){d:Option Nat}{op:SOp}{x:AV}(h:g8 P st op λy=>y=x):ez P ⟨d,op,g⟩ st x:=by
 cases g with
 |none=>exact h
 |some g=>
  obtain⟨t,want⟩:=g
  have:Av.look st.fr t=some (.v (.bool want)):=he.fr t _ (by rw[cC,hg.1];rfl)
  exact⟨_,this,_,rfl,λ_=>h,λe=>absurd rfl e⟩
theorem vm(s:S)(d:Option Nat)(v:V)(k:Nat):lk (s.putO d v).fr k=if d=some k then some v else lk s.fr k:=by
 cases d with
 |none=>simp[S.putO]
 |some j=>
  show(bif Nat.beq k j then some v else lk s.fr k)=_
  rw[e9]
  by_cases h:k=j
  ·subst h;simp
  ·rw[decide_eq_false h,if_neg λe=>h (Option.some.inj e).symm];rfl
theorem mem_dstL{d:Option Nat}{k:Nat}:d=some k↔k∈fj d:=by
 cases d with
 |none=>simp[fj]
 |some j=>simp only[fj,Option.some.injEq,List.mem_singleton];exact eq_comm
theorem Cw(hO:OracleOk P O):∀(rc:RC) (R:Type) (s:S) (κ kp:S->Option R) (r:R) (g:Option (Nat×Bool)) (st:St),rc.wf P=true->rc.pureB=true->rc.gbB=true->wN O R rc s κ kp=some r->Ext st (enc s)->OF g s rc.asg->
 ∃s' st',Sys P (rc.er g) st st'/\Ext st' (enc s')/\κ s'=some r/\s'.hp=s.hp/\∀k,k∉rc.asg->lk s'.fr k=lk s.fr k
 | .nil,R,s,κ,kp,r,g,st,_,_,_,h,he,_=>⟨s,st,.nil st,he,h,rfl,λ_ _=>rfl⟩
 | .adj _ _,_,_,_,_,_,_,_,_,hp,_,_,_,_=>by cases hp
 | .op d o rest,R,s,κ,kp,r,g,st,hw,hp,hb,h,he,hg=>by
  simp only[RC.wf,Bool.and_eq_true]at hw
  simp only[RC.pureB,Bool.and_eq_true]at hp
  simp only[RC.gbB]at hb
  obtain⟨v,h1,h2⟩:=rM hO hw.1 hp.1 h
  obtain⟨s',st',k1,k2,k3,k4,k5⟩:=Cw hO rest R (s.putO d v) κ kp r g (st.putO d (aS v)) hw.2 hp.2 hb h2 (by rw[fx];exact he.put d _) (by
   cases g with
   |none=>trivial
   |some g=>
    obtain⟨t,want⟩:=g
    obtain⟨g1,g2⟩:=hg
    simp only[RC.asg,pS,List.mem_append,not_or]at g2
    exact⟨by rw[vm,if_neg λe=>g2.1 (mem_dstL.1 e)];exact g1,g2.2⟩)
  refine⟨s',st',.cons _ _ st st' _ (Jp hg he (If he h1)) k1,k2,k3,by rw[k4];cases d<;>rfl,λk hk=>?_⟩
  simp only[RC.asg,pS,List.mem_append,not_or]at hk
  rw[k5 k hk.2,vm,if_neg λe=>hk.1 (mem_dstL.1 e)]
 | .gb t want blk ty rr alt dst rest,R,s,κ,kp,r,g,st,hw,hp,hb,h,he,hg=>by
  simp only[RC.wf,Bool.and_eq_true]at hw
  obtain⟨⟨⟨⟨w1,w2⟩,w3⟩,w4⟩,w5⟩:=hw
  simp only[RC.pureB,Bool.and_eq_true]at hp
  simp only[RC.gbB,Bool.and_eq_true]at hb
  obtain⟨⟨⟨b1,b2⟩,b3⟩,b4⟩:=hb
  simp only[wN]at h
  split at h
  ·rename_i b va hlt halt
   split at h
   ·rename_i av hav
    obtain⟨hnone,hav⟩:=aR hav
    have hva:=Hm b1 hav
    subst hva
    simp only[List.all_eq_true,Option.isNone_iff_eq_none]at hnone
    have ht:t∉blk.asg:=λe=>by rw[hnone t e]at hlt;cases hlt
    obtain⟨c,hc,h2⟩:=ct h
    have hgt:Av.look st.fr t=some (.v (.bool b)):=he.fr t _ (by rw[cC,hlt];rfl)
    have blkS:∃st1,Sys P (blk.er (some (t,want))) st st1/\st1.hp=st.hp/\(∀k,lk s.fr k≠none->∀y,Av.look (enc s).fr k=some y->Av.look st1.fr k=some y)/\
     g8 P st1 (ye t want rr.er alt.er) λy=>y=aS (.d ty c):=by
     have pickS:∀(st1:St) (x y:SX),Av.look st1.fr t=some (.v (.bool b))->(b=true->st1.get x=some (aS (.d ty c)))->(b=false->st1.get y=some (aS (.d ty c)))->g8 P st1 (.pick (.tm t) x y) λy=>y=aS (.d ty c):=
      λst1 x y e1 e2 e3=>⟨_,e1,_,rfl,b,rfl,λe=>⟨_,e2 e,rfl⟩,λe=>⟨_,e3 e,rfl⟩⟩
     have on:b=want->wN O ty.den blk s (λs'=>match s'.get rr with|some v=>cY ty v|none=>none) (λ_=>none)=some c->(∃st1,Sys P (blk.er (some (t,want))) st st1/\st1.hp=st.hp/\(∀k,lk s.fr k≠none->∀y,Av.look (enc s).fr k=some y->Av.look st1.fr k=some y)/\
      g8 P st1 (ye t want rr.er alt.er) λy=>y=aS (.d ty c)):=λhbw hev=>by
      obtain⟨s1,st1,k1,k2,k3,k4,k5⟩:=Cw hO blk ty.den s _ _ c (some (t,want)) st w1 w2 b3 hev he ⟨by rw[<-hbw];exact hlt,ht⟩
      split at k3
      ·rename_i v hv
       have:=Hm b1 k3
       subst this
       have e1:Av.look st1.fr t=some (.v (.bool b)):=k2.fr t _ (by rw[cC,k5 t ht,hlt];rfl)
       have e2:st1.get rr.er=some (aS (.d ty c)):=k2.get (aA w3 hv)
       refine⟨st1,k1,by rw[k2.hp,he.hp];simp only[enc,k4],λk hk y hy=>k2.fr k y ?_,?_⟩
       ·rw[cC,k5 k λe=>hk (hnone k e),<-cC];exact hy
       ·cases want with
        |true=>exact pickS st1 _ _ e1 (λ_=>e2) λe=>by rw[hbw]at e;cases e
        |false=>exact pickS st1 _ _ e1 (λe=>by rw[hbw]at e;cases e) λ_=>e2
      ·cases k3
     have off:b≠want->av=c->(∃st1,Sys P (blk.er (some (t,want))) st st1/\st1.hp=st.hp/\(∀k,lk s.fr k≠none->∀y,Av.look (enc s).fr k=some y->Av.look st1.fr k=some y)/\
      g8 P st1 (ye t want rr.er alt.er) λy=>y=aS (.d ty c)):=λhbw hac=>by
      subst hac
      obtain⟨st1,k1,k2,k3,_⟩:=wS (P:=P) blk (t,want) [] st b2 ⟨_,hgt,λe=>hbw (Option.some.inj e)⟩ (λk hk=>by cases hk) ht
      have e1:Av.look st1.fr t=some (.v (.bool b)):=by rw[k3 t ht];exact hgt
      have keepk:∀k,lk s.fr k≠none->∀y,Av.look (enc s).fr k=some y->Av.look st1.fr k=some y:=λk hk y hy=>by
       rw[k3 k λe=>hk (hnone k e)];exact he.fr k y hy
      have e2:st1.get alt.er=some (aS (.d ty av)):=by
       have:=aA w4 halt
       cases alt with
       |tm k=>
        have h0:lk s.fr k=some (.d ty av):=halt
        exact keepk k (by rw[h0];simp) _ this
       |_=>exact this
      refine⟨st1,k1,k2,keepk,?_⟩
      cases want with
      |true=>exact pickS st1 _ _ e1 (λe=>absurd e hbw) λ_=>e2
      |false=>exact pickS st1 _ _ e1 (λ_=>e2) λe=>absurd e hbw
     cases want with
     |true=>
      cases b with
      |true=>exact on rfl hc
      |false=>exact off (by simp) (Option.some.inj hc)
     |false=>
      cases b with
      |true=>exact off (by simp) (Option.some.inj hc)
      |false=>exact on rfl hc
    obtain⟨st1,q1,q2,q3,q4⟩:=blkS
    have hgdst:∀t' want',g=some (t',want')->lk s.fr t'=some (.d .bool want')/\t'∉blk.asg/\t'≠dst/\t'∉rest.asg:=λt' want' e=>by
     subst e
     obtain⟨g1,g2⟩:=hg
     simp only[RC.asg,List.mem_append,List.mem_cons,not_or]at g2
     exact⟨g1,g2.1,g2.2.1,g2.2.2⟩
    have hyd:ez P ⟨some dst,(ye t want rr.er alt.er),g⟩ st1 (aS (.d ty c)):=by
     cases g with
     |none=>exact q4
     |some g=>
      obtain⟨t',want'⟩:=g
      obtain⟨e1,_⟩:=hgdst t' want' rfl
      have:Av.look st1.fr t'=some (.v (.bool want')):=q3 t' (by rw[e1];simp) _ (by rw[cC,e1];rfl)
      exact⟨_,this,_,rfl,λ_=>q4,λe=>absurd rfl e⟩
    have hext:Ext (st1.putO (some dst) (aS (.d ty c))) (enc (s.put dst (.d ty c))):=by
     refine⟨by show st1.hp=(enc s).hp;rw[q2,he.hp],λk y hk=>?_⟩
     rw[eC]
     rw[cC]at hk
     have e:=vm s (some dst) (.d ty c) k
     rw[show s.putO (some dst) (.d ty c)=s.put dst (.d ty c)from rfl]at e
     rw[e]at hk
     by_cases hd:some dst=some k
     ·rw[if_pos hd]at hk⊢;exact hk
     ·rw[if_neg hd]at hk⊢
      refine q3 k (λe0=>by rw[e0]at hk;cases hk) y ?_
      rw[cC];exact hk
    have hlkp:∀k,lk (s.put dst (.d ty c)).fr k=if some dst=some k then some (.d ty c)else lk s.fr k:=λk=>vm s (some dst) (.d ty c) k
    obtain⟨s',st',k1,k2,k3,k4,k5⟩:=Cw hO rest R (s.put dst (.d ty c)) κ kp r g _ w5 hp.2 b4 h2 hext (by
     cases g with
     |none=>trivial
     |some g=>
      obtain⟨t',want'⟩:=g
      obtain⟨e1,e2,e3,e4⟩:=hgdst t' want' rfl
      exact⟨by rw[hlkp,if_neg λe=>e3 (Option.some.inj e).symm];exact e1,e4⟩)
    refine⟨s',st',q1.app (.cons _ _ _ st' _ hyd k1),k2,k3,k4,λk hk=>?_⟩
    simp only[RC.asg,List.mem_append,List.mem_cons,not_or]at hk
    rw[k5 k hk.2.2,hlkp,if_neg λe=>hk.2.1 (Option.some.inj e).symm]
   ·cases h
  ·cases h
def RC.adjW(m:Nat):RC->Bool
 | .nil=>true
 | .op _ _ rest=>rest.adjW m
 | .adj l rest=>xf m l&&rest.adjW m
 | .gb _ _ _ _ _ _ _ rest=>rest.adjW m
theorem Cr{A:List Nat}{s s':S}(h:∀k,k∉A->lk s'.fr k=lk s.fr k):Keeps A s s':=λk hk=>by
 rw[h k hk];exact⟨λ_ h _=>.inl h,λh=>h⟩
theorem Cj:∀(rc:RC) (g g':Option (Nat×Bool)),(rc.er g).length=(rc.er g').length
 | .nil,_,_=>rfl
 | .op d o rest,g,g'=>by simp only[RC.er,List.length_cons,Cj rest g g']
 | .adj _ rest,g,g'=>by simp only[RC.er,Cj rest g g']
 | .gb t want blk ty r alt dst rest,g,g'=>by simp only[RC.er,List.length_append,List.length_cons,Cj rest g g']
theorem J8(hO:OracleOk P O){t:Nat}{want:Bool}{blk rest:RC}{ty:Ty}{rr alt:X}{dst:Nat}{R:Type}{s:S}{κ kp:S->Option R}{r:R}{st:St}(hw:(RC.gb t want blk ty rr alt dst rest).wf P=true)(hb:(RC.gb t want blk ty rr alt dst rest).gbB=true)
 (h:wN O R (.gb t want blk ty rr alt dst rest) s κ kp=some r) (he:Ext st (enc s)):∃s' st',Sys P (blk.er (some (t,want))++[⟨some dst,(ye t want rr.er alt.er),none⟩]) st st'/\
  Ext st' (enc s')/\wN O R rest s' κ kp=some r/\Keeps (blk.asg++[dst]) s s':=by
 simp only[RC.wf,Bool.and_eq_true]at hw
 simp only[RC.gbB,Bool.and_eq_true]at hb
 obtain⟨s',st',k1,k2,k3,k4,k5⟩:=Cw hO (.gb t want blk ty rr alt dst .nil) R s (λs'=>wN O R rest s' κ kp) kp r none st
  (by simp only[RC.wf,hw.1.1.1.1,hw.1.1.1.2,hw.1.1.2,hw.1.2];rfl) (by simp only[RC.pureB,hw.1.1.1.2];rfl) (by simp only[RC.gbB,hb.1.1.1,hb.1.1.2,hb.1.2];rfl) h he trivial
 exact⟨s',st',k1,k2,k3,Cr k5⟩
theorem gJ(hO:OracleOk P O){m:Nat}:∀(rc:RC) (R:Type) (s:S) (κ kp:S->Option R) (r:R) (K KP:St->Prop),rc.wf P=true->rc.gbB=true->rc.adjW m=true->wN O R rc s κ kp=some r->
 (∀s',Keeps rc.asg s s'->κ s'=some r->W m K (enc s'))->(∀s',Keeps rc.asg s s'->kp s'=some r->KP (enc s'))->sops P m (rc.er none) (enc s) K KP
 | .nil,R,s,κ,kp,r,K,KP,_,_,_,h,hκ,_=>hκ s (Keeps.refl _ _) h
 | .adj l rest,R,s,κ,kp,r,K,KP,hw,hb,ha,h,hκ,hkp=>by
  simp only[wN]at h
  simp only[RC.adjW,Bool.and_eq_true]at ha
  obtain⟨s1,hs1,h⟩:=tN h
  ·obtain⟨e1,e2⟩:=pN ha.1 hs1
   exact gR e1 (gJ hO rest R s1 κ kp r K KP hw hb ha.2 h (λs' hk hh=>hκ s' ((e2 _).trans hk) hh) λs' hk hh=>hkp s' ((e2 _).trans hk) hh)
 | .op d o rest,R,s,κ,kp,r,K,KP,hw,hb,ha,h,hκ,hkp=>by
  simp only[RC.wf,Bool.and_eq_true]at hw
  refine W.mk ?_
  simp only[gC]
  have hasg:∀k,k∈fj d\/k∈rest.asg->k∈(RC.op d o rest).asg:=λk hk=>by
   simp only[RC.asg,pS,List.mem_append];exact hk
  refine ko (xH hO hw.1 h) (λst' ⟨s1,h1,h2,h3⟩=>?_) λst' ⟨s1,h1,h2,h3⟩=>?_
  ·have h2':=h2.sub (B:=(RC.op d o rest).asg) λk hk=>hasg k (.inl hk)
   exact gR h1.weak (gJ hO rest R s1 κ kp r K KP hw.2 hb ha h3 (λs' hk hh=>hκ s' (h2'.trans (hk.sub λk hk=>hasg k (.inr hk))) hh) λs' hk hh=>hkp s' (h2'.trans (hk.sub λk hk=>hasg k (.inr hk))) hh)
  ·rw[h1]
   exact hkp s1 (h2.sub λk hk=>hasg k (.inl hk)) h3
 | .gb t want blk ty rr alt dst rest,R,s,κ,kp,r,K,KP,hw,hb,ha,h,hκ,hkp=>by
  obtain⟨s1,st1,k1,k2,k3,k4⟩:=J8 hO hw hb h (Ext.refl _)
  simp only[RC.wf,Bool.and_eq_true]at hw
  simp only[RC.gbB,Bool.and_eq_true]at hb
  have hasg:∀k,k∈blk.asg++[dst]\/k∈rest.asg->k∈(RC.gb t want blk ty rr alt dst rest).asg:=λk hk=>by
   simp only[RC.asg,List.mem_append,List.mem_cons,List.not_mem_nil,or_false]at hk⊢
   rcases hk with(hk|hk)|hk
   ·exact .inl hk
   ·exact .inr (.inl hk)
   ·exact .inr (.inr hk)
  have k4':=k4.sub (B:=(RC.gb t want blk ty rr alt dst rest).asg) λk hk=>hasg k (.inl hk)
  have:=k1.sops (L:=rest.er none) (gR k2.weak (gJ hO rest R s1 κ kp r K KP hw.2 hb.2 ha k3 (λs' hk hh=>hκ s' (k4'.trans (hk.sub λk hk=>hasg k (.inr hk))) hh) λs' hk hh=>hkp s' (k4'.trans (hk.sub λk hk=>hasg k (.inr hk))) hh))
  rw[List.append_assoc]at this
  exact this
def RC.drB:Nat->RC->Bool
 |0,_=>true
 |k+1,.op _ o rest=>o.pureB&&rest.drB k
 |k+1,.gb _ _ blk _ _ _ _ rest=>Nat.ble (blk.er none).length k&&rest.drB (k - (blk.er none).length)
 |_,_=>false
theorem IF(hO:OracleOk P O){m:Nat}:∀(rc:RC) (k:Nat) (R:Type) (s:S) (κ kp:S->Option R) (r:R) (K KP:St->Prop) (st:St),rc.drB k=true->rc.wf P=true->rc.gbB=true->rc.adjW m=true->wN O R rc s κ kp=some r->Ext st (enc s)->
 (∀s',Keeps rc.asg s s'->κ s'=some r->W m K (enc s'))->(∀s',Keeps rc.asg s s'->kp s'=some r->KP (enc s'))->sdraw P m k (rc.er none) st K KP:=by
 intro rc
 induction rc with
 |nil=>
  intro k R s κ kp r K KP st hd hw hb ha h he hκ hkp
  cases k with
  |zero=>exact gR he.weak (gJ hO .nil R s κ kp r K KP hw hb ha h hκ hkp)
  |succ k=>cases hd
 |adj l rest _=>
  intro k R s κ kp r K KP st hd hw hb ha h he hκ hkp
  cases k with
  |zero=>
   have:=gR he.weak (gJ hO (.adj l rest) R s κ kp r K KP hw hb ha h hκ hkp)
   generalize RC.er none (RC.adj l rest)=L at this⊢
   cases L<;>exact this
  |succ k=>cases hd
 |op d o rest ih=>
  intro k R s κ kp r K KP st hd hw hb ha h he hκ hkp
  cases k with
  |zero=>exact gR he.weak (gJ hO (.op d o rest) R s κ kp r K KP hw hb ha h hκ hkp)
  |succ k=>
   simp only[RC.drB,Bool.and_eq_true]at hd
   simp only[RC.wf,Bool.and_eq_true]at hw
   have hasg:∀k,k∈fj d\/k∈rest.asg->k∈(RC.op d o rest).asg:=λk hk=>by
    simp only[RC.asg,pS,List.mem_append];exact hk
   obtain⟨v,h1,h2⟩:=rM hO hw.1 hd.1 h
   have hk0:=(Keeps.put s d v).sub (B:=(RC.op d o rest).asg) λk hk=>hasg k (.inl hk)
   exact⟨aS v,If he h1,ih k R (s.putO d v) κ kp r K KP _ hd.2 hw.2 hb ha h2 (by rw[fx];exact he.put d _) (λs' hk hh=>hκ s' (hk0.trans (hk.sub λk hk=>hasg k (.inr hk))) hh) λs' hk hh=>hkp s' (hk0.trans (hk.sub λk hk=>hasg k (.inr hk))) hh⟩
 |gb t want blk ty rr alt dst rest _ ih=>
  intro k R s κ kp r K KP st hd hw hb ha h he hκ hkp
  cases k with
  |zero=>
   have:=gR he.weak (gJ hO (.gb t want blk ty rr alt dst rest) R s κ kp r K KP hw hb ha h hκ hkp)
   generalize RC.er none (RC.gb t want blk ty rr alt dst rest)=L at this⊢
   cases L<;>exact this
  |succ k=>
   simp only[RC.drB,Bool.and_eq_true]at hd
   have hle:=Nat.le_of_ble_eq_true hd.1
   obtain⟨s1,st1,k1,k2,k3,k4⟩:=J8 hO hw hb h he
   simp only[RC.wf,Bool.and_eq_true]at hw
   simp only[RC.gbB,Bool.and_eq_true]at hb
   have hasg:∀k,k∈blk.asg++[dst]\/k∈rest.asg->k∈(RC.gb t want blk ty rr alt dst rest).asg:=λk hk=>by
    simp only[RC.asg,List.mem_append,List.mem_cons,List.not_mem_nil,or_false]at hk⊢
    rcases hk with(hk|hk)|hk
    ·exact .inl hk
    ·exact .inr (.inl hk)
    ·exact .inr (.inr hk)
   have k4':=k4.sub (B:=(RC.gb t want blk ty rr alt dst rest).asg) λk hk=>hasg k (.inl hk)
   have hl:=Cj blk (some (t,want)) none
   have:=k1.sdraw (L:=rest.er none) (n:=k - (blk.er none).length) (ih _ R s1 κ kp r K KP st1 hd.2 hw.2 hb.2 ha k3 k2 (λs' hk hh=>hκ s' (k4'.trans (hk.sub λk hk=>hasg k (.inr hk))) hh) λs' hk hh=>hkp s' (k4'.trans (hk.sub λk hk=>hasg k (.inr hk))) hh)
   rw[List.append_assoc]at this
   rw[show(blk.er (some (t,want))++[(⟨some dst,ye t want rr.er alt.er,none⟩:SOper)]).length+(k - (blk.er none).length)=k+1 by
    rw[List.length_append,hl,List.length_singleton];omega]at this
   exact this
end
end Go.Ev
namespace Go.Ev
open Go Go.RowKit Go.Av
theorem inL_iff{l:List Nat}{x:Nat}:mP l x=true↔x∈l:=by
 unfold mP
 simp only[List.any_eq_true]
 exact⟨fun⟨y,h1,h2⟩=>(Nat.eq_of_beq_eq_true h2)▸h1,λh=>⟨x,h,Nat.beq_refl x⟩⟩
theorem x6{l:List Nat}{x:Nat}(h:(!mP l x)=true):x∉l:=λhx=>by
 rw[inL_iff.2 hx]at h;cases h
theorem BK(s:S)(p:PO):touch (enc s) p.so=GY s p.so.rd p.o.er.lent:=by
 unfold touch GY
 congr 1
 refine q8 λk _=>?_
 rw[cC]
 cases lk s.fr k with
 |none=>rfl
 |some v=>exact(lE v).symm
theorem er_hf{o:TOp}:o.er.hf=true↔∃x,o= .mv x:=by
 cases o<;>simp[TOp.er,SOp.hf]
theorem yL(s:S)(p:PO)(h2:p.rd=p.so.rd)(h3:p.lent=p.o.er.lent):rz s p=(match p.b with|true=>dw (enc s) p.so|false=>touch (enc s) p.so):=by
 unfold rz
 cases hb:p.b with
 |false=>simp only;rw[BK,h2,h3]
 |true=>
  simp only[dw]
  by_cases hm:(∃x,p.o= .mv x)/\p.g=none
  ·obtain⟨⟨x,hx⟩,hg⟩:=hm
   rw[hx,hg]
   have:p.so.op.hf=true/\p.so.gd=none:=⟨by show p.o.er.hf=true;rw[hx];rfl,hg⟩
   rw[if_pos this]
  ·have:¬(p.so.op.hf=true/\p.so.gd=none):=λh=>hm ⟨er_hf.1 h.1,h.2⟩
   rw[if_neg this,BK,h2,h3]
   split
   ·rename_i x _ hx hg;exact absurd ⟨⟨x,hx⟩,hg⟩ hm
   ·rfl
theorem Hj{r:Av.Rec}{T:List Nat}{p:PO}(h:JV r T p.so.rd p.o.er.lent p.d p.b=true):comm r T p.so p.b:=by
 unfold JV at h
 simp only[Bool.and_eq_true]at h
 obtain⟨⟨⟨h1,h2⟩,h3⟩,h4⟩:=h
 refine⟨λt ht=>?_,λt ht=>?_,λt ht=>?_,λhb t ht=>?_,λhb=>?_⟩
 ·rw[ht]at h1
  simp only[Bool.and_eq_true]at h1
  refine⟨x6 h1.1,λe=>?_⟩
  have e':p.d=some t:=e
  rw[e']at h1
  have:=h1.2
  simp only[Nat.beq_refl]at this
  cases this
 ·have e':p.d=some t:=ht
  rw[e']at h2
  exact x6 h2
 ·rw[ht]at h3
  exact x6 h3
 ·rw[hb]at h4
  exact x6 (List.all_eq_true.1 h4 t ht)
 ·rw[hb]at h4
  simp only[Bool.and_eq_true]at h4
  exact⟨Option.isNone_iff_eq_none.1 h4.1,λi hi=>x6 (List.all_eq_true.1 h4.2 i hi)⟩
def PO.wf(P:Program)(p:PO):Bool:=p.o.wf P&&decide (p.rd=p.so.rd)&&decide (p.lent=p.o.er.lent)&&(match p.b with
 |true=>p.d.isSome&&(p.o.pureB||(p.o.isAt&&p.g.isNone))
 |false=>p.o.exB)
def Mx(anc:List (List Nat)):List PO->Bool
 |[]=>true
 |p::l=>l.all (λq=>(anc.getD q.j []).contains p.j||mP q.us p.j)&&Mx anc l
def ni(l:List PO):List Nat:=l.flatMap λp=>match p.d with|some d=>[d]|none=>[]
section
variable {R:Type} {P:Program} {O:aj}
theorem rk{s:S}{t:Nat}{v:V}(h:lk s.fr t=some v)(k:Nat):lk (s.put t v).fr k=lk s.fr k:=by
 show lk ((t,v)::s.fr) k=_
 simp only[lk]
 cases hb:Nat.beq k t
 ·rfl
 ·have:=Nat.eq_of_beq_eq_true hb
  subst this
  exact h.symm
theorem wU{s:S}{t:Nat}{v:V}(h:lk s.fr t=some v):Eqs (enc (s.put t v)) (enc s):=⟨rfl,λk=>by rw[cC,cC,rk h]⟩
theorem mY{s:S}{t:Nat}{v:V}(h:lk s.fr t=some v)(A:List Nat):Keeps A s (s.put t v):=λk _=>by
 rw[rk h]
 exact⟨λv hv _=>.inl hv,λhn=>hn⟩
theorem IH(hO:OracleOk P O){anc:List (List Nat)}{K:St->Prop}{KC:Prop}:∀(l:List PO) (A:List Av.Rec) (s:S) (κ kp:S->Option R) (r:R),l.all (PO.wf P)=true->Mx anc l=true->(∀a∈A,∀q∈l,(anc.getD q.j []).contains a.i=true\/mP q.us a.i=true)->
 Jw O A l s κ kp=some r->(∀s',Keeps (ni l) s s'->κ s'=some r->K (enc s'))->(∀s',Keeps (ni l) s s'->kp s'=some r->KC)->
 px P (λi j=> !(anc.getD j []).contains i) K KC A (l.map λp=>(p.j,p.b,p.so)) (enc s):=by
 intro l
 induction l with
 |nil=>
  intro A s κ kp r _ _ _ h hκ _
  exact⟨_,Eqs.refl _,hκ s (Keeps.refl _ _) h⟩
 |cons p l ih=>
  intro A s0 κ kp r hw hu hA h hκ0 hkp0
  simp only[List.all_cons,Bool.and_eq_true]at hw
  obtain⟨hwp,hwl⟩:=hw
  simp only[Mx,Bool.and_eq_true,List.all_eq_true,Bool.or_eq_true]at hu
  obtain⟨hup,hul⟩:=hu
  simp only[PO.wf,Bool.and_eq_true,decide_eq_true_eq]at hwp
  obtain⟨⟨⟨w1,w2⟩,w3⟩,w4⟩:=hwp
  have hasg:∀k,k∈fj p.d\/k∈ni l->k∈ni (p::l):=λk hk=>by
   unfold ni at hk⊢
   rw[List.flatMap_cons,List.mem_append]
   refine hk.imp (λh=>?_) id
   cases hd:p.d<;>rw[hd]at h<;>exact h
  have hAl:∀a∈A,∀q∈l,(anc.getD q.j []).contains a.i=true\/mP q.us a.i=true:=λa ha q hq=>hA a ha q (List.mem_cons_of_mem _ hq)
  have hrun:∀s:S,(p.g=none\/∃t want,p.g=some (t,want)/\lk s.fr t=some (.d .bool want))->uV A s p=true->evOp O p.d p.o s (λs'=>Jw O (vB A s s' p) l s' κ kp) kp=some r->(∀s',Keeps (ni (p::l)) s s'->κ s'=some r->K (enc s'))->(∀s',Keeps (ni (p::l)) s s'->kp s'=some r->KC)->px P (λi j=> !(anc.getD j []).contains i) K KC A ((p::l).map λp=>(p.j,p.b,p.so)) (enc s):=by
   intro s hg h1 h2 hκ hkp
   simp only[uV,Bool.and_eq_true]at h1
   obtain⟨⟨c1,c2⟩,c3⟩:=h1
   rw[w2,w3]at c1
   simp only[vB,w2]at h2
   have hT:=yL s p w2 w3
   have hchk:∀a∈A,(!(anc.getD p.j []).contains a.i)=true->comm a (match p.b with|true=>dw (enc s) p.so|false=>touch (enc s) p.so) p.so p.b:=λa ha hun=>by
    have:=List.all_eq_true.1 c1 a ha
    simp only[Bool.or_eq_true]at this
    rcases hA a ha p (List.mem_cons_self ..)with h3|h3
    ·rw[h3]at hun;cases hun
    ·rw[h3]at this
     rcases this with h4|h4
     ·cases h4
     ·rw[<-hT];exact Hj h4
   have hst:∀{X X':St->Prop},sexec P p.d p.o.er (enc s) X X'->gC P p.so (enc s) X X':=fun{X X'} hx=>by
    unfold gC
    rcases hg with hg|⟨t,want,hg,hl⟩
    ·rw[show p.so.gd=none from hg];exact hx
    ·rw[show p.so.gd=some (t,want)from hg]
     exact⟨_,by rw[cC,hl];rfl,_,rfl,λ_=>hx,λhne=>absurd rfl hne⟩
   have hsy:∀{x:AV},g8 P (enc s) p.o.er (λy=>y=x)->ez P p.so (enc s) x:=fun{x} hx=>by
    unfold ez
    rcases hg with hg|⟨t,want,hg,hl⟩
    ·rw[show p.so.gd=none from hg];exact hx
    ·rw[show p.so.gd=some (t,want)from hg]
     exact⟨_,by rw[cC,hl];rfl,_,rfl,λ_=>hx,λhne=>absurd rfl hne⟩
   cases hb:p.b with
   |false=>
    rw[hb]at w4 h2 hchk
    simp only[cond_false]at h2
    simp only[List.map_cons,hb]
    refine⟨hchk,?_⟩
    have hx:=F5 hO w1 w4 c3 h2
    refine hst (ko hx (λst' ⟨s',e1,e2,e3⟩=>?_) λst' ⟨s',e1,e2,e3⟩=>hkp s' (e2.sub λk hk=>hasg k (.inl hk)) e3)
    rw[e1]
    exact ih A s' κ kp r hwl hul hAl e3 (λs2 hk hh=>hκ s2 ((e2.sub λk hk=>hasg k (.inl hk)).trans (hk.sub λk hk=>hasg k (.inr hk))) hh) λs2 hk hh=>hkp s2 ((e2.sub λk hk=>hasg k (.inl hk)).trans (hk.sub λk hk=>hasg k (.inr hk))) hh
   |true=>
    rw[hb]at w4 h2 hchk c2 hT
    simp only at hchk hT
    simp only[Bool.and_eq_true]at w4
    obtain⟨hds,hpa⟩:=w4
    obtain⟨dk,hdk⟩:=Option.isSome_iff_exists.1 hds
    simp only[cond_true]at h2
    simp only[Bool.not_true,Bool.false_or]at c2
    simp only[List.map_cons,hb]
    have hle:∃E v s',rb P p.so (enc s) E/\E.x=aS v/\E.slot.map (·.1)=vG p.o/\enc s'=(enc s).app p.d E/\Hy s' p.d=v.ids/\Keeps (fj p.d) s s'/\Jw O (A++[⟨p.j,p.d,p.so.rd,vG p.o,Mq s s' p.d (rz s p)⟩]) l s' κ kp=some r:=by
     rcases Bool.or_eq_true_iff.1 hpa with hpu|hat
     ·obtain⟨v,e1,e2⟩:=rM hO w1 hpu h2
      have hsl:vG p.o=none:=by cases hq:p.o<;>first|rfl|(rw[hq]at hpu;cases hpu)
      refine⟨⟨aS v,none⟩,v,s.putO p.d v,hsy e1,rfl,by rw[hsl];rfl,fx _ _ _,?_,Keeps.put _ _ _,e2⟩
      unfold Hy
      rw[hdk]
      simp only[vm,if_true]
     ·simp only[Bool.and_eq_true]at hat
      obtain⟨hat,hgn⟩:=hat
      have hgn:=Option.isNone_iff_eq_none.1 hgn
      cases hq:p.o<;>(try (rw[hq]at hat;cases hat;done))
      rename_i k op
      rw[hq]at h2 w1
      obtain⟨ob,v,e1,e2⟩:=Ha (P:=P) (k:=k) (op:=op) w1 h2
      refine⟨⟨aS v,some (k,bN ob)⟩,v,_,?_,rfl,rfl,?_,?_,(Keeps.fr (s':=⟨s.fr,setAt s.hp k ob⟩) rfl).trans (Keeps.put _ p.d v),e2⟩
      ·have:p.so=⟨p.d,.atq k op.er,none⟩:=by unfold PO.so;rw[hq,hgn];rfl
       rw[this];exact e1
      ·rw[fx,gu];rfl
      ·unfold Hy
       rw[hdk]
       simp only[vm,if_true]
    obtain⟨E,v,s',e1,e2,e3,e4,e5,e6,e7⟩:=hle
    refine⟨hchk,E,Mq s s' p.d (rz s p),e1,⟨λi hi=>?_,λi hi=>?_⟩,?_⟩
    ·rw[<-hT]at hi
     have hlt:=List.all_eq_true.1 c2 i hi
     have hlt':i<s.hp.length:=Nat.le_of_ble_eq_true hlt
     refine⟨List.mem_append.2 (.inl (List.mem_append.2 (.inl hi))),_,by rw[bO,List.getElem?_eq_getElem hlt'];rfl,λj hj=>?_⟩
     rw[<-qY]at hj
     refine List.mem_append.2 (.inl (List.mem_append.2 (.inr (List.mem_flatMap.2 ⟨i,hi,?_⟩))))
     unfold Kb
     rw[List.getElem?_eq_getElem hlt']
     exact hj
    ·rw[e2,<-lE]at hi
     exact List.mem_append.2 (.inr (by rw[e5];exact hi))
    ·rw[e3]
     show px P _ K KC (A++[⟨p.j,p.d,p.so.rd,vG p.o,_⟩]) _ ((enc s).app p.d E)
     rw[<-e4]
     refine ih _ s' κ kp r hwl hul (λa ha q hq=>?_) e7 (λs2 hk hh=>hκ s2 ((e6.sub λk hk=>hasg k (.inl hk)).trans (hk.sub λk hk=>hasg k (.inr hk))) hh) λs2 hk hh=>hkp s2 ((e6.sub λk hk=>hasg k (.inl hk)).trans (hk.sub λk hk=>hasg k (.inr hk))) hh
     rcases List.mem_append.1 ha with h|h
     ·exact hAl a h q hq
     ·simp only[List.mem_singleton]at h
      subst h
      exact hup q hq
  have hskip:∀(s:S) t want b,p.g=some (t,want)->lk s.fr t=some (.d .bool b)->(want==b)=false->uV A s p=true->Jw O (vB A s (s.putO p.d (.raw Go.undef)) p) l (s.putO p.d (.raw Go.undef)) κ kp=some r->(∀s',Keeps (ni (p::l)) s s'->κ s'=some r->K (enc s'))->(∀s',Keeps (ni (p::l)) s s'->kp s'=some r->KC)->px P (λi j=> !(anc.getD j []).contains i) K KC A ((p::l).map λp=>(p.j,p.b,p.so)) (enc s):=by
   intro s t want b hg hl hne h1 h2 hκ hkp
   simp only[uV,Bool.and_eq_true]at h1
   obtain⟨⟨c1,c2⟩,c3⟩:=h1
   rw[w2,w3]at c1
   simp only[vB,w2]at h2
   have hT:=yL s p w2 w3
   have hchk:∀a∈A,(!(anc.getD p.j []).contains a.i)=true->comm a (match p.b with|true=>dw (enc s) p.so|false=>touch (enc s) p.so) p.so p.b:=λa ha hun=>by
    have:=List.all_eq_true.1 c1 a ha
    simp only[Bool.or_eq_true]at this
    rcases hA a ha p (List.mem_cons_self ..)with h3|h3
    ·rw[h3]at hun;cases hun
    ·rw[h3]at this
     rcases this with h4|h4
     ·cases h4
     ·rw[<-hT];exact Hj h4
   have hyv:yv (.bool b)≠some want:=λe=>by
    have:b=want:=by simpa[yv]using e
    subst this;simp at hne
   have e4:enc (s.putO p.d (.raw Go.undef))=(enc s).putO p.d (.v Go.undef):=fx _ _ _
   have e6:Keeps (fj p.d) s (s.putO p.d (.raw Go.undef)):=Keeps.put _ _ _
   cases hb:p.b with
   |false=>
    rw[hb]at h2 hchk
    simp only[cond_false]at h2
    simp only[List.map_cons,hb]
    refine⟨hchk,?_⟩
    unfold gC
    rw[show p.so.gd=some (t,want)from hg]
    refine⟨_,by rw[cC,hl];rfl,_,rfl,λhe=>absurd he hyv,λ_=>?_⟩
    show px P _ K KC A _ ((enc s).putO p.d (.v Go.undef))
    rw[<-e4]
    exact ih A _ κ kp r hwl hul hAl h2 (λs2 hk hh=>hκ s2 ((e6.sub λk hk=>hasg k (.inl hk)).trans (hk.sub λk hk=>hasg k (.inr hk))) hh) λs2 hk hh=>hkp s2 ((e6.sub λk hk=>hasg k (.inl hk)).trans (hk.sub λk hk=>hasg k (.inr hk))) hh
   |true=>
    rw[hb]at w4 h2 hchk c2 hT
    simp only at hchk hT
    simp only[Bool.and_eq_true]at w4
    simp only[cond_true]at h2
    simp only[Bool.not_true,Bool.false_or]at c2
    simp only[List.map_cons,hb]
    have hsl:vG p.o=none:=by
     have hpu:p.o.pureB=true:=by
      rcases Bool.or_eq_true_iff.1 w4.2 with h|h
      ·exact h
      ·rw[hg]at h;simp at h
     cases hq:p.o<;>first|rfl|(rw[hq]at hpu;cases hpu)
    refine⟨hchk,⟨.v Go.undef,none⟩,Mq s (s.putO p.d (.raw Go.undef)) p.d (rz s p),?_,⟨λi hi=>?_,λi hi=>?_⟩,?_⟩
    ·show ez P p.so (enc s) (.v Go.undef)
     unfold ez
     rw[show p.so.gd=some (t,want)from hg]
     exact⟨_,by rw[cC,hl];rfl,_,rfl,λhe=>absurd he hyv,λ_=>rfl⟩
    ·rw[<-hT]at hi
     have hlt:=List.all_eq_true.1 c2 i hi
     have hlt':i<s.hp.length:=Nat.le_of_ble_eq_true hlt
     refine⟨List.mem_append.2 (.inl (List.mem_append.2 (.inl hi))),_,by rw[bO,List.getElem?_eq_getElem hlt'];rfl,λj hj=>?_⟩
     rw[<-qY]at hj
     refine List.mem_append.2 (.inl (List.mem_append.2 (.inr (List.mem_flatMap.2 ⟨i,hi,?_⟩))))
     unfold Kb
     rw[List.getElem?_eq_getElem hlt']
     exact hj
    ·cases hi
    ·show px P _ K KC (A++[⟨p.j,p.d,p.so.rd,none,_⟩]) _ ((enc s).putO p.d (.v Go.undef))
     rw[<-e4,<-hsl]
     refine ih _ _ κ kp r hwl hul (λa ha q hq=>?_) h2 (λs2 hk hh=>hκ s2 ((e6.sub λk hk=>hasg k (.inl hk)).trans (hk.sub λk hk=>hasg k (.inr hk))) hh) λs2 hk hh=>hkp s2 ((e6.sub λk hk=>hasg k (.inl hk)).trans (hk.sub λk hk=>hasg k (.inr hk))) hh
     rcases List.mem_append.1 ha with h|h
     ·exact hAl a h q hq
     ·simp only[List.mem_singleton]at h
      subst h
      exact hup q hq
  simp only[Jw]at h
  cases hg:p.g with
  |none=>
   rw[hg]at h
   obtain⟨h1,h2⟩:=aR h
   exact hrun s0 (.inl hg) h1 h2 hκ0 hkp0
  |some q=>
   obtain⟨t,want⟩:=q
   rw[hg]at h
   simp only at h
   split at h
   ·rename_i b hl
    rcases hwb:(want==b)with _|_
    ·rw[hwb]at h
     have hb:b= !want:=by cases b<;>cases want<;>first|rfl|cases hwb
     subst hb
     obtain⟨h1,h2⟩:=aR h
     refine py _ _ _ _ (wU hl) ?_
     exact hskip _ t want _ hg (by rw[rk hl];exact hl) hwb h1 h2 (λs' hk=>hκ0 s' ((mY hl _).trans hk)) λs' hk=>hkp0 s' ((mY hl _).trans hk)
    ·rw[hwb]at h
     have:want=b:=by simpa using hwb
     subst this
     obtain⟨h1,h2⟩:=aR h
     refine py _ _ _ _ (wU hl) ?_
     exact hrun _ (.inr ⟨t,want,hg,by rw[rk hl];exact hl⟩) h1 h2 (λs' hk=>hκ0 s' ((mY hl _).trans hk)) λs' hk=>hkp0 s' ((mY hl _).trans hk)
   ·cases h
theorem vc(hO:OracleOk P O){m:Nat}{K KP:St->Prop}:∀(l:List PO) (s:S) (κ kp:S->Option R) (r:R),l.all (λp=>p.o.wf P)=true->Jv O l s κ kp=some r->
 (∀s',Keeps (ni l) s s'->κ s'=some r->W m K (enc s'))->(∀s',Keeps (ni l) s s'->kp s'=some r->KP (enc s'))->sops P m (l.map PO.so) (enc s) K KP
 |[],s,κ,kp,r,_,h,hκ,_=>hκ s (Keeps.refl _ _) h
 |p::l,s0,κ,kp,r,hw,h,hκ0,hkp0=>by
  rw[List.all_cons,Bool.and_eq_true]at hw
  have hasg:∀k,k∈fj p.d\/k∈ni l->k∈ni (p::l):=λk hk=>by
   simp only[ni,List.flatMap_cons,List.mem_append];exact hk
  have go:∀(s:S),(∀s',Keeps (ni (p::l)) s s'->κ s'=some r->W m K (enc s'))->(∀s',Keeps (ni (p::l)) s s'->kp s'=some r->KP (enc s'))->evOp O p.d p.o s (λs'=>Jv O l s' κ kp) kp=some r->
   sexec P p.d p.o.er (enc s) (λst=>sops P m (l.map PO.so) st K KP) KP:=by
   intro s hκ hkp h
   refine ko (xH hO hw.1 h) (λst' ⟨s1,h1,h2,h3⟩=>?_) λst' ⟨s1,h1,h2,h3⟩=>?_
   ·have h2':=h2.sub (B:=ni (p::l)) λk hk=>hasg k (.inl hk)
    exact gR h1.weak (vc hO l s1 κ kp r hw.2 h3 (λs' hk hh=>hκ s' (h2'.trans (hk.sub λk hk=>hasg k (.inr hk))) hh) λs' hk hh=>hkp s' (h2'.trans (hk.sub λk hk=>hasg k (.inr hk))) hh)
   ·rw[h1]
    exact hkp s1 (h2.sub λk hk=>hasg k (.inl hk)) h3
  have skip:∀(s:S),(∀s',Keeps (ni (p::l)) s s'->κ s'=some r->W m K (enc s'))->(∀s',Keeps (ni (p::l)) s s'->kp s'=some r->KP (enc s'))->Jv O l (s.putO p.d (.raw Go.undef)) κ kp=some r->
   sops P m (l.map PO.so) ((enc s).putO p.d (.v Go.undef)) K KP:=by
   intro s hκ hkp h
   have e4:enc (s.putO p.d (.raw Go.undef))=(enc s).putO p.d (.v Go.undef):=fx _ _ _
   have e6:Keeps (fj p.d) s (s.putO p.d (.raw Go.undef)):=Keeps.put _ _ _
   have h2':=e6.sub (B:=ni (p::l)) λk hk=>hasg k (.inl hk)
   rw[<-e4]
   exact vc hO l _ κ kp r hw.2 h (λs' hk hh=>hκ s' (h2'.trans (hk.sub λk hk=>hasg k (.inr hk))) hh) λs' hk hh=>hkp s' (h2'.trans (hk.sub λk hk=>hasg k (.inr hk))) hh
  show W m (λst=>gC P p.so st (λst'=>sops P m (l.map PO.so) st' K KP) KP) (enc s0)
  simp only[Jv]at h
  split at h
  ·rename_i hg
   refine W.mk ?_
   unfold gC
   rw[show p.so.gd=none from hg]
   exact go s0 hκ0 hkp0 h
  ·rename_i t want hg
   split at h
   ·rename_i b hl
    have e:Weak m (enc s0) (enc (s0.put t (.d .bool b))):=λc a w _ hr=>Rel.congr (wU hl).1 (wU hl).2 hr
    refine W.to _ e ?_
    unfold gC
    rw[show p.so.gd=some (t,want)from hg]
    have hl2:Av.look (enc (s0.put t (.d .bool b))).fr t=some (.b (.pv (.sc (.bool b)))):=by
     rw[cC,rk hl,hl];rfl
    have k1:∀s',Keeps (ni (p::l)) (s0.put t (.d .bool b)) s'->κ s'=some r->W m K (enc s'):=λs' hk=>hκ0 s' ((mY hl _).trans hk)
    have k2:∀s',Keeps (ni (p::l)) (s0.put t (.d .bool b)) s'->kp s'=some r->KP (enc s'):=λs' hk=>hkp0 s' ((mY hl _).trans hk)
    refine⟨_,hl2,.bool b,rfl,λhe=>?_,λhe=>?_⟩
    ·cases b<;>cases want<;>first|(exact go _ k1 k2 h)|(exact absurd he (by decide))
    ·cases b<;>cases want<;>first|(exact skip _ k1 k2 h)|(exact absurd rfl he)
   ·cases h
theorem BL{m:Nat}{s:S}:∀(r:Nat),Weak m (enc s) (enc ⟨s.fr,s.hp++List.replicate r .free⟩)
 |0=>by rw[List.replicate_zero,List.append_nil];exact Weak.refl _ _
 |r+1=>by
  refine(BL r).trans ?_
  rintro c a w _ ⟨θ,D,hI⟩
  refine⟨θ++[.no],D,?_⟩
  have:=hI.push (l:=.no) (o:=.free) trivial λg hg=>by cases hg
  rw[List.replicate_succ',<-List.append_assoc]
  have e:=qZ ⟨s.fr,s.hp++List.replicate r .free⟩ .free
  simp only at e
  rw[e]
  exact this
theorem Kg{pre:List PO}(hn:(pre.map (·.j)).Nodup){p:PO}(hp:p∈pre)(hj:p.j<pre.length)(tl:List SOper):(zK pre++tl).getD p.j default=p.so:=by
 have hl:(zK pre).length=pre.length:=by simp[zK]
 have hf:pre.find? (λq=>Nat.beq q.j p.j)=some p:=by
  clear hl hj
  induction pre with
  |nil=>cases hp
  |cons q pre ih=>
   rw[List.map_cons,List.nodup_cons]at hn
   rw[List.find?_cons]
   rcases List.mem_cons.1 hp with rfl|hp
   ·rw[Nat.beq_refl]
   ·have:Nat.beq q.j p.j=false:=by
     cases hb:Nat.beq q.j p.j with
     |false=>rfl
     |true=>exact absurd (List.mem_map.2 ⟨p,hp,(Nat.eq_of_beq_eq_true hb).symm⟩) hn.1
    rw[this]
    exact ih hn.2 hp
 rw[List.getD,List.getElem?_append_left (by omega)]
 unfold zK
 rw[List.getElem?_map,List.getElem?_range hj]
 simp only[Option.map_some,Option.getD_some,hf]
end
end Go.Ev
namespace Go.Ev
open Go Go.RowKit Go.Av
def NB(xs:List (Nat×Sh)):Bool:=xs.all λx=>x.2.wfB
def TC.wf(P:Program)(m:Nat):TC->Bool
 | .region ops=>ops.wf P&&ops.gbB&&ops.adjW m
 | .draw k ops _=>ops.wf P&&ops.gbB&&ops.adjW m&&ops.drB k
 | .draw2 _ pre tl af=>tl.wf P&&tl.gbB&&tl.adjW m&&pre.all (PO.wf P)&&Mx (eZ [] af) pre&&decide (pre.map (·.j)).Nodup&&pre.all (λp=>decide (p.j<pre.length))
 | .regL pre=>pre.all λp=>p.o.wf P
 | .seq a b=>a.wf P m&&b.wf P m
 | .cond x a b=>x.wf&&a.wf P m&&b.wf P m
 | .block _ a=>a.wf P m
 | .loop sh xs a=>sh.wfB&&NB xs&&a.wf P m
 | .adj l a=>xf m l&&a.wf P m
 | .after a l=>xf m l&&a.wf P m
 | .cut xs a=>NB xs&&a.wf P m
 |_=>true
section
variable {P:Program} {O:aj} {n m:Nat}
theorem JL{x:AC}{Q:AE->St->Prop}:∀{a b:St},Weak m a b->C8 P m x Q b->C8 P m x Q a:=by
 induction x generalizing Q with
 |skip=>exact λh k=>W.from h k
 |region ss=>exact λh k=>gR h k
 |draw k ss af=>exact λh k=>W.from h k
 |draw2 ord ss af=>exact λh k=>W.from h k
 |seq a b iha ihb=>exact λh k=>iha h k
 |cond c a b iha ihb=>exact λh k=>W.from h k
 |block id a iha=>exact λh k=>iha h k
 |loop a iha=>exact λh k=>W.from h k
 |exit id=>exact λh k=>W.from h k
 |ret=>exact λh k=>W.from h k
theorem ji{fr:List (Nat×V)}:∀{l:List Nat} {k:Nat} {v:V},lk (c9 fr l) k=some v->k∈l/\lk fr k=some v/\v.isD=true
 |[],k,v,h=>by cases h
 |j::l,k,v,h=>by
  simp only[c9]at h
  split at h
  ·rename_i u hu
   cases hd:u.isD
   ·rw[hd]at h
    obtain⟨h1,h2⟩:=ji h
    exact⟨List.mem_cons_of_mem _ h1,h2⟩
   ·rw[hd]at h
    simp only[cond_true,lk,e9]at h
    by_cases hk:k=j
    ·subst hk
     rw[decide_eq_true rfl]at h
     simp only[cond_true,Option.some.injEq]at h
     subst h
     exact⟨List.mem_cons_self ..,hu,hd⟩
    ·rw[decide_eq_false hk]at h
     obtain⟨h1,h2⟩:=ji h
     exact⟨List.mem_cons_of_mem _ h1,h2⟩
  ·obtain⟨h1,h2⟩:=ji h
   exact⟨List.mem_cons_of_mem _ h1,h2⟩
theorem ku:∀(l:List Slot) (c:HL l) (b:S) (k:Nat),(∀t,Slot.tm k t∉l)->lk (unpack l c b).fr k=lk b.fr k
 |[],_,_,_,_=>rfl
 | .tm j t::l,c,b,k,h=>by
  have:=ku l c.2 ⟨(j,.d t c.1)::b.fr,b.hp⟩ k λt ht=>h t (List.mem_cons_of_mem _ ht)
  show lk (unpack l c.2 ⟨(j,.d t c.1)::b.fr,b.hp⟩).fr k=_
  rw[this]
  simp only[lk,e9]
  rw[decide_eq_false]
  ·rfl
  ·rintro rfl
   exact h t (List.mem_cons_self ..)
 | .cell _ _ _::l,c,b,k,h=>ku l c.2 _ k λt ht=>h t (List.mem_cons_of_mem _ ht)
 | .vec _ _ _::l,c,b,k,h=>ku l c.2 _ k λt ht=>h t (List.mem_cons_of_mem _ ht)
 | .map _ _ _ _ _::l,c,b,k,h=>ku l c.2 _ k λt ht=>h t (List.mem_cons_of_mem _ ht)
 | .tree _ _ _ _::l,c,b,k,h=>ku l c.2 _ k λt ht=>h t (List.mem_cons_of_mem _ ht)
 | .treeH _ _ _ _ _ _::l,c,b,k,h=>ku l c.2 _ k λt ht=>h t (List.mem_cons_of_mem _ ht)
theorem Ge{A:List Nat}{fr:List (Nat×V)}{k:Nat}(h:mR A fr k=true):k∈A\/∃v,lk fr k=some v/\v.isD=false:=by
 simp only[mR,Bool.or_eq_true]at h
 rcases h with h|h
 ·exact .inl (inL_mem.1 h)
 ·split at h
  ·rename_i v hv;exact .inr ⟨v,hv,by simpa using h⟩
  ·cases h
theorem Ny{fr:List (Nat×V)}{k:Nat}(h:lk fr k≠none):∃v,(k,v)∈fr:=by
 cases hv:lk fr k with
 |none=>exact absurd hv h
 |some v=>exact⟨v,xW hv⟩
structure OkAt(sh:Sh)(A:List Nat)(s:S):Prop where
 keep:∀k∈sh.keep,k∉A
 tm:∀k t,Slot.tm k t∈sh.sl->mR A s.fr k=true
 sk:∀x∈sh.sk.fr,mR A s.fr x.1=true
theorem HM{sh:Sh}{A:List Nat}{s:S}(h:sh.okAt A s=true):OkAt sh A s:=by
 simp only[Sh.okAt,Bool.and_eq_true,List.all_eq_true,Bool.not_eq_true']at h
 refine⟨λk hk e=>?_,λk t hk=>h.1.2 _ hk,h.2⟩
 have:=h.1.1 k hk
 rw[inL_mem.2 e]at this;cases this
theorem JM{sh:Sh}{A:List Nat}{s:S}(ho:OkAt sh A s)(c:HL sh.sl){k:Nat}(hk:k∉A):
 (∀v,lk s.fr k=some v->v.isD=true->lk (unpack sh.sl c (sh.base s)).fr k=lk (c9 s.fr sh.keep) k)/\(lk s.fr k=none->lk (unpack sh.sl c (sh.base s)).fr k=none):=by
 have hnt:(∀v,lk s.fr k=some v->v.isD=true)->mR A s.fr k≠true:=λhd e=>by
  rcases Ge e with h|⟨v,h1,h2⟩
  ·exact hk h
  ·rw[hd v h1]at h2;cases h2
 have step:(∀v,lk s.fr k=some v->v.isD=true)->lk (unpack sh.sl c (sh.base s)).fr k=lk (c9 s.fr sh.keep) k:=λhd=>by
  rw[ku _ _ _ _ λt ht=>hnt hd (ho.tm k t ht)]
  show lk (c9 s.fr sh.keep++sh.sk.fr) k=_
  rw[Bf]
  have:lk sh.sk.fr k=none:=Classical.byContradiction λe=>by
   obtain⟨v,hv⟩:=Ny e
   exact hnt hd (ho.sk _ hv)
  rw[this]
  cases lk (c9 s.fr sh.keep) k<;>rfl
 refine⟨λv hv hd=>step λu hu=>by rw[hv]at hu;cases hu;exact hd,λhn=>?_⟩
 rw[step λu hu=>by rw[hn]at hu;cases hu]
 cases hkf:lk (c9 s.fr sh.keep) k with
 |none=>rfl
 |some v=>
  have:=(ji hkf).2.1
  rw[hn]at this;cases this
theorem xn{sh:Sh}{A:List Nat}{s:S}(ho:OkAt sh A s)(c:HL sh.sl):Keeps A s (unpack sh.sl c (sh.base s)):=λk hk=>by
 obtain⟨h1,h2⟩:=JM ho c hk
 refine⟨λv hv hd=>?_,h2⟩
 rw[h1 v hv hd]
 cases hkf:lk (c9 s.fr sh.keep) k with
 |none=>exact .inr rfl
 |some u=>
  have:=(ji hkf).2.1
  rw[hv]at this
  exact .inl this.symm
theorem kept{sh:Sh}{A:List Nat}{s s':S}{c:HL sh.sl}(ho:OkAt sh A s)(hk:Keeps A s s')(hp:pack sh s'=some c):∀k v,lk (c9 s.fr sh.keep) k=some v->lk s'.fr k=some v:=λk v h=>by
 obtain⟨h1,h2,h3⟩:=ji h
 rcases(hk k (ho.keep k h1)).1 v h2 h3 with h4|h4
 ·exact h4
 ·unfold pack at hp
  split at hp
  ·rename_i hf
   simp only[Bool.and_eq_true,List.all_eq_true]at hf
   have:=hf.2 k h1
   simp only[J9,h4]at this
   cases this
  ·cases hp
theorem uh{R:Type}{s s':S}{κ:Nat->S->Option R}{r:R}:∀{xs:List (Nat×Sh)} {key:Nat} {c:XT xs},inj xs key s'=some c->ik s κ xs c=some r->∃sh,(key,sh)∈xs/\∃c':HL sh.sl,pack sh s'=some c'/\κ key (unpack sh.sl c' (sh.base s))=some r
 |[],key,c,h,_=>by cases h
 |[(k,sh)],key,c,h,hd=>by
  simp only[inj,e9]at h
  by_cases hk:k=key
  ·subst hk
   rw[decide_eq_true rfl]at h
   exact⟨sh,List.mem_cons_self ..,c,h,hd⟩
  ·rw[decide_eq_false hk]at h;cases h
 |(k,sh)::a::l,key,c,h,hd=>by
  simp only[inj,e9]at h
  by_cases hk:k=key
  ·subst hk
   rw[decide_eq_true rfl]at h
   simp only[cond_true]at h
   split at h
   ·rename_i c' hc'
    cases h
    exact⟨sh,List.mem_cons_self ..,c',hc',hd⟩
   ·cases h
  ·rw[decide_eq_false hk]at h
   simp only[cond_false]at h
   split at h
   ·rename_i c' hc'
    cases h
    obtain⟨sh2,h1,h2⟩:=uh (xs:=a::l) hc' hd
    exact⟨sh2,List.mem_cons_of_mem _ h1,h2⟩
   ·cases h
structure Post(D2:Prop)(m:Nat)(A:List Nat)(s:S){R:Type}(Q:AE->St->Prop)(kn:S->Option R)(kx:Nat->S->Option R)(kr kp:S->Option R)(r:R):Prop where
 n:∀s',Keeps A s s'->kn s'=some r->W m (Q .normal) (enc s')
 x:∀i s',Keeps A s s'->kx i s'=some r->W m (Q (.exit i)) (enc s')
 rt:∀s',Keeps A s s'->kr s'=some r->W m (Q .ret) (enc s')
 p:∀s',Keeps A s s'->kp s'=some r->Q .pan (enc s')
 c:∀st,W m (Q .pan) st->Q .pan st
 d:D2->∀st st',Q .pan st->Q .pan st'
theorem Post.sub{D2:Prop}{A B:List Nat}{s:S}{R:Type}{Q:AE->St->Prop}{kn:S->Option R}{kx:Nat->S->Option R}{kr kp:S->Option R}{r:R}(h:Post D2 m A s Q kn kx kr kp r)(hs:∀k∈B,k∈A):Post D2 m B s Q kn kx kr kp r:=
 ⟨λs' hk=>h.n s' (hk.sub hs),λi s' hk=>h.x i s' (hk.sub hs),λs' hk=>h.rt s' (hk.sub hs),λs' hk=>h.p s' (hk.sub hs),h.c,h.d⟩
theorem Post.from{D2:Prop}{A:List Nat}{s s1:S}{R:Type}{Q:AE->St->Prop}{kn:S->Option R}{kx:Nat->S->Option R}{kr kp:S->Option R}{r:R}(h:Post D2 m A s Q kn kx kr kp r)(hk0:Keeps A s s1):Post D2 m A s1 Q kn kx kr kp r:=
 ⟨λs' hk=>h.n s' (hk0.trans hk),λi s' hk=>h.x i s' (hk0.trans hk),λs' hk=>h.rt s' (hk0.trans hk),λs' hk=>h.p s' (hk0.trans hk),h.c,h.d⟩
theorem FR{D2:Prop}{A:List Nat}{s s':S}{R:Type}{Q:AE->St->Prop}{kn:S->Option R}{kx:Nat->S->Option R}{kr kp:S->Option R}{r:R}{xs:List (Nat×Sh)}{c:XT xs}{key:Nat}(hpost:Post D2 m A s Q kn kx kr kp r)(hwf:NB xs=true)(hok:xs.all (λx=>x.2.okAt A s)=true)
 (hk:Keeps A s s') (hi:inj xs key s'=some c) (hd:ik s (λkey s=>match key with|0=>kn s|1=>kr s|2=>kp s|i+3=>kx i s) xs c=some r):
 match key with
 |0=>W m (Q .normal) (enc s')
 |1=>W m (Q .ret) (enc s')
 |2=>Q .pan (enc s')
 |i+3=>W m (Q (.exit i)) (enc s'):=by
 obtain⟨sh,h1,c',h2,h3⟩:=uh hi hd
 have hokx:=HM (List.all_eq_true.1 hok _ h1)
 have hwfx:sh.wfB=true:=List.all_eq_true.1 hwf _ h1
 have hle:=(Cy (s0:=s) hwfx h2 (kept hokx hk h2)).weak (m:=m)
 have hkb:=xn hokx c'
 match key,h3 with
 |0,h3=>exact W.from hle (hpost.n _ hkb h3)
 |1,h3=>exact W.from hle (hpost.rt _ hkb h3)
 |2,h3=>exact hpost.c _ (W.to _ hle (hpost.p _ hkb h3))
 |i+3,h3=>exact W.from hle (hpost.x i _ hkb h3)
theorem rL{D2:Prop}(hO:OracleOk P O):∀(tc:TC) (R:Type) (s:S) (kn:S->Option R) (kx:Nat->S->Option R) (kr kp:S->Option R) (r:R) (Q:AE->St->Prop),tc.wf P m=true->(tc.noD2=false->D2)->wC O n R tc s kn kx kr kp=some r->Post D2 m tc.asg s Q kn kx kr kp r->C8 P m tc.er Q (enc s):=by
 intro tc
 induction tc with
 |skip=>intro R s kn kx kr kp r Q _ _ h hp;exact hp.n s (Keeps.refl _ _) h
 |region ops=>
  intro R s kn kx kr kp r Q hw hz h hp
  simp only[TC.wf,Bool.and_eq_true]at hw
  exact gJ hO ops R s kn kp r _ _ hw.1.1 hw.1.2 hw.2 h (λs' hk hh=>hp.n s' hk hh) λs' hk hh=>hp.p s' hk hh
 |draw k ops af=>
  intro R s kn kx kr kp r Q hw hz h hp
  simp only[TC.wf,Bool.and_eq_true]at hw
  exact W.mk (IF hO ops k R s kn kp r _ _ _ hw.2 hw.1.1.1 hw.1.1.2 hw.1.2 h (Ext.refl _) (λs' hk hh=>hp.n s' hk hh) λs' hk hh=>hp.p s' hk hh)
 |draw2 r0 pre tl af=>
  intro R s kn kx kr kp r Q hw hz h hp
  simp only[TC.wf,Bool.and_eq_true,decide_eq_true_eq]at hw
  obtain⟨⟨⟨⟨⟨⟨w1,w2⟩,w3⟩,w4⟩,w5⟩,w6⟩,w7⟩:=hw
  have ha:∀k,k∈ni pre\/k∈tl.asg->k∈(TC.draw2 r0 pre tl af).asg:=λk hk=>List.mem_append.2 hk
  refine W.to _ (BL (s:=s) r0) ?_
  have hl:(zK pre).length=pre.length:=by simp[zK]
  have hd:(zK pre++tl.er none).drop (pre.map λp=>(p.j,p.b)).length=tl.er none:=by
   rw[List.length_map,<-hl];exact List.drop_left
  have hm:((pre.map λp=>(p.j,p.b)).map λu=>(u.1,u.2,(zK pre++tl.er none).getD u.1 default))=pre.map λp=>(p.j,p.b,p.so):=by
   rw[List.map_map]
   refine List.map_congr_left λp hp'=>?_
   simp only[Function.comp]
   rw[Kg w6 hp' (by simpa using List.all_eq_true.1 w7 p hp')]
  show px P _ (λst=>sops P m ((zK pre++tl.er none).drop (pre.map λp=>(p.j,p.b)).length) st (Q .normal) (Q .pan)) _ [] _ _
  rw[hm,hd]
  have k0:∀{A:List Nat} {s':S},Keeps A ⟨s.fr,s.hp++List.replicate r0 .free⟩ s'->Keeps A s s':=λhk=>(Keeps.fr (s':=⟨s.fr,s.hp++List.replicate r0 .free⟩) rfl).trans hk
  refine IH hO pre [] _ _ kp r w4 w5 (λa ha'=>by cases ha') h (λs' hk hh=>?_) λs' hk hh=>?_
  ·exact gJ hO tl R s' kn kp r _ _ w1 w2 w3 hh (λs2 hk2 hh2=>hp.n s2 (((k0 hk).sub λk hk=>ha k (.inl hk)).trans (hk2.sub λk hk=>ha k (.inr hk))) hh2) λs2 hk2 hh2=>hp.p s2 (((k0 hk).sub λk hk=>ha k (.inl hk)).trans (hk2.sub λk hk=>ha k (.inr hk))) hh2
  ·exact λst=>hp.d (hz rfl) _ _ (hp.p s' ((k0 hk).sub λk hk=>ha k (.inl hk)) hh)
 |regL pre=>
  intro R s kn kx kr kp r Q hw hz h hp
  exact vc hO pre s kn kp r hw h (λs' hk hh=>hp.n s' hk hh) λs' hk hh=>hp.p s' hk hh
 |seq a b iha ihb=>
  intro R s kn kx kr kp r Q hw hz h hp
  simp only[TC.wf,Bool.and_eq_true]at hw
  have ha:∀k∈a.asg,k∈(TC.seq a b).asg:=λk hk=>List.mem_append_left _ hk
  have hb:∀k∈b.asg,k∈(TC.seq a b).asg:=λk hk=>List.mem_append_right _ hk
  refine iha R s _ kx kr kp r (AE.then m (C8 P m b.er Q) Q) hw.1 (λe=>hz (by rw[TC.noD2,e];rfl)) h ⟨λs' hk hh=>?_,λi s' hk hh=>hp.x i s' (hk.sub ha) hh,λs' hk hh=>hp.rt s' (hk.sub ha) hh,λs' hk hh=>hp.p s' (hk.sub ha) hh,hp.c,hp.d⟩
  exact W.mk (W.mk (ihb R s' kn kx kr kp r Q hw.2 (λe=>hz (by rw[TC.noD2,e,Bool.and_false])) hh ((hp.from (hk.sub ha)).sub hb)))
 |cond x a b iha ihb=>
  intro R s kn kx kr kp r Q hw hz h hp
  simp only[TC.wf,Bool.and_eq_true]at hw
  have ha:∀k∈a.asg,k∈(TC.cond x a b).asg:=λk hk=>List.mem_append_left _ hk
  have hb:∀k∈b.asg,k∈(TC.cond x a b).asg:=λk hk=>List.mem_append_right _ hk
  simp only[wC]at h
  split at h
  ·rename_i t hx
   refine W.mk ⟨_,aA hw.1.1 hx,_,rfl,t,rfl,λe=>?_,λe=>?_⟩
   ·subst e;exact iha R s kn kx kr kp r Q hw.1.2 (λe=>hz (by rw[TC.noD2,e];rfl)) h (hp.sub ha)
   ·subst e;exact ihb R s kn kx kr kp r Q hw.2 (λe=>hz (by rw[TC.noD2,e,Bool.and_false])) h (hp.sub hb)
  ·cases h
 |block id a iha=>
  intro R s kn kx kr kp r Q hw hz h hp
  refine iha R s kn _ kr kp r (AE.inBlock id Q) hw hz h ⟨hp.n,λi s' hk hh=>?_,hp.rt,hp.p,hp.c,hp.d⟩
  have hh':(bif Nat.beq i id then kn s' else kx i s')=some r:=hh
  rw[e9]at hh'
  show W m (λst=>if i=id then Q .normal st else Q (.exit i) st) (enc s')
  by_cases hi:i=id
  ·subst hi
   rw[decide_eq_true rfl]at hh'
   simp only[if_true]
   exact hp.n s' hk hh'
  ·rw[decide_eq_false hi]at hh'
   simp only[if_neg hi]
   exact hp.x i s' hk hh'
 |loop sh xs a iha=>
  intro R s kn kx kr kp r Q hw hz h hp
  simp only[TC.wf,Bool.and_eq_true]at hw
  obtain⟨⟨hw1,hw2⟩,hw3⟩:=hw
  simp only[wC]at h
  split at h
  ·rename_i c hc
   obtain⟨hok,h2⟩:=aR h
   simp only[Bool.and_eq_true]at hok
   have hoks:=HM hok.1
   obtain⟨t,ht,hd⟩:=ct h2
   have hle0:Weak m (enc s) (enc (unpack sh.sl c (sh.base s))):=(Cy (s0:=s) hw1 hc λk v hk=>(ji hk).2.1).weak
   refine W.to _ hle0 ⟨n,?_⟩
   have key:∀(N:Nat) (c:HL sh.sl),aF N (λc=>wC O n (HL sh.sl⊕XT xs) a (unpack sh.sl c (sh.base s)) (λs=>match pack sh s with|some c=>some (.inl c)|none=>none)
    (λi s=>match inj xs (i+3) s with|some c=>some (.inr c)|none=>none) (λs=>match inj xs 1 s with|some c=>some (.inr c)|none=>none) (λs=>match inj xs 2 s with|some c=>some (.inr c)|none=>none)) c=some t->Dh m (C8 P m a.er) Q N (enc (unpack sh.sl c (sh.base s))):=by
    intro N
    induction N with
    |zero=>intro c h;cases h
    |succ N ihN=>
     intro c h
     simp only[aF]at h
     obtain⟨o,ho,h1⟩:=ct h
     have hk0:=xn hoks c
     refine iha _ (unpack sh.sl c (sh.base s)) _ _ _ _ o (AE.then m (Dh m (C8 P m a.er) Q N) Q) hw3 hz ho ⟨λs' hk hh=>?_,λi s' hk hh=>?_,λs' hk hh=>?_,λs' hk hh=>?_,hp.c,hp.d⟩
     ·split at hh
      ·rename_i c' hc'
       cases hh
       exact W.mk (W.to _ (Cy (s0:=s) hw1 hc' (kept hoks (hk0.trans hk) hc')).weak (ihN c' h1))
      ·cases hh
     ·split at hh
      ·rename_i c' hc'
       cases hh
       cases h1
       exact FR hp hw2 hok.2 (hk0.trans hk) hc' hd
      ·cases hh
     ·split at hh
      ·rename_i c' hc'
       cases hh
       cases h1
       exact FR hp hw2 hok.2 (hk0.trans hk) hc' hd
      ·cases hh
     ·split at hh
      ·rename_i c' hc'
       cases hh
       cases h1
       exact FR hp hw2 hok.2 (hk0.trans hk) hc' hd
      ·cases hh
   exact key n c ht
  ·cases h
 |exit id=>intro R s kn kx kr kp r Q _ _ h hp;exact hp.x id s (Keeps.refl _ _) h
 |ret=>intro R s kn kx kr kp r Q _ _ h hp;exact hp.rt s (Keeps.refl _ _) h
 |adj l a iha=>
  intro R s kn kx kr kp r Q hw hz h hp
  simp only[TC.wf,Bool.and_eq_true]at hw
  simp only[wC]at h
  obtain⟨s1,hs1,h⟩:=tN h
  obtain⟨e1,e2⟩:=pN hw.1 hs1
  exact JL e1 (iha R s1 kn kx kr kp r Q hw.2 hz h (hp.from (e2 _)))
 |after a l iha=>
  intro R s kn kx kr kp r Q hw hz h hp
  simp only[TC.wf,Bool.and_eq_true]at hw
  refine iha R s _ kx kr kp r Q hw.2 hz h ⟨λs' hk hh=>?_,hp.x,hp.rt,hp.p,hp.c,hp.d⟩
  obtain⟨s1,hs1,hh⟩:=tN hh
  obtain⟨e1,e2⟩:=pN hw.1 hs1
  exact W.from e1 (hp.n s1 (hk.trans (e2 _)) hh)
 |cut xs a iha=>
  intro R s kn kx kr kp r Q hw hz h hp
  simp only[TC.wf,Bool.and_eq_true]at hw
  simp only[wC]at h
  obtain⟨hok,h2⟩:=aR h
  obtain⟨t,ht,hd⟩:=ct h2
  exact iha _ s _ _ _ _ t Q hw.2 hz ht ⟨λs' hk hh=>FR hp hw.1 hok hk hh hd,λi s' hk hh=>FR hp hw.1 hok hk hh hd,λs' hk hh=>FR hp hw.1 hok hk hh hd,λs' hk hh=>FR hp hw.1 hok hk hh hd,hp.c,hp.d⟩
end
end Go.Ev
