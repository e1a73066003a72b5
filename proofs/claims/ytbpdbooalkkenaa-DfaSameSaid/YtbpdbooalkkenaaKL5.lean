/- Part ML5 of the layer: an abstract and a typed machine over the loaded code, proved sound. -/
import Derived.Test.YtbpdbooalkkenaaKL1
import Derived.Test.YtbpdbooalkkenaaKL4
set_option linter.unusedVariables false
set_option linter.unusedSimpArgs false
namespace Go.Ev
open Go Go.RowKit Go.Av
inductive Rx where
 |mk (kind lo hi:Int) (kids:List Rx)
 deriving Inhabited
inductive Ty where
 |int (k:IntKind)
 |bool
 |str
 |list (t:Ty)
 |unit
 |pair (a b:Ty)
 |rx
 deriving Inhabited,DecidableEq
@[reducible] def Ty.den:Ty->Type
 | .int _=>Int
 | .bool=>Bool
 | .str=>List UInt8
 | .list t=>List t.den
 | .unit=>Unit
 | .pair a b=>a.den×b.den
 | .rx=>Rx
def Ty.sz:Ty->Nat
 | .unit=>0
 | .pair a b=>a.sz+b.sz
 | .rx=>4
 |_=>1
def Ty.ag:Ty->Bool
 | .unit=>true
 | .pair _ _=>true
 | .rx=>true
 |_=>false
mutual
def JY:Rx->PV
 | .mk k l h ks=>.agg [.sc (.int .i64 k),.sc (.int .i64 l),.sc (.int .i64 h),ke 4 (Cg ks)]
def Cg:List Rx->List PV
 |[]=>[]
 |r::rs=>JY r::Cg rs
end
def aH:(t:Ty)->t.den->PV
 | .int k,x=>.sc (.int k x)
 | .bool,x=>.sc (.bool x)
 | .str,x=>.sc (.string ⟨x.toArray⟩)
 | .list t,x=>ke t.sz (x.map (aH t))
 | .unit,_=>.agg []
 | .pair a b,x=>.agg ((aH a x.1).cells++(aH b x.2).cells)
 | .rx,x=>JY x
inductive V where
 |d (t:Ty) (x:t.den)
 |nil (t:Ty)
 |agg (vs:List V)
 |tup (vs:List V)
 |sl (id:Nat)
 |ptr (id off:Nat)
 |elt (id i off:Nat)
 |dp (t:Ty) (x:t.den)
 |clo (f:FuncId) (ids:List Nat)
 |fnD (f:FuncId) (cs:List ((t:Ty)×t.den))
 |mp (id:Nat)
 |full (t:Ty) (x:List t.den)
 |pel (id off n:Nat) (t:Ty) (i:Int)
 |raw (v:Value)
 |any
 |ifc
 |lit (k:K) (t:Ty) (xs:List t.den)
instance:Inhabited V:=⟨.raw Go.undef⟩
inductive Ob where
 |gone
 |free
 |box (tid:TypeId) (cs:List V)
 |vec (tid:TypeId) (t:Ty) (xs:List t.den)
 |map (k e:TypeId) (a b:Ty) (kvs:List (a.den×b.den))
 |tree (tid:TypeId) (k:K) (t:Ty) (xs:List t.den) (hole:Option (Nat×Nat×V))
instance:Inhabited Ob:=⟨.gone⟩
def cu(k:K)(t:Ty)(x:t.den):PV:=match aH t x with
 | .agg cs=>.agg (cs.mapIdx λj y=>if(k.at j).isSome then nilP else y)
 |y=>if(k.at 0).isSome then nilP else y
def aM:V->BV
 | .d t x=>.pv (aH t x)
 | .nil _=>.nils
 | .sl id=>.sl id
 | .ptr id off=>.ptr id off
 | .elt id i off=>.elt id i off
 | .dp t x=>.pv (.pto (aH t x))
 | .clo f ids=>.clo (.func f) ids
 | .fnD f cs=>.pv (.fn (.func f) (cs.map λc=>.pto (aH c.1 c.2)))
 | .mp id=>.mp id
 | .full t x=>.full (ke t.sz (x.map (aH t)))
 | .raw v=>bq v
 | .pel id off _ t i=>.ptr id (off+i.toNat*t.sz)
 | .any=>.pv .any
 | .ifc=>.ifc
 | .lit k t xs=>.pv (ke t.sz (xs.map (cu k t)))
 | .agg _=>.pv .any
 | .tup _=>.pv .any
def aS:V->AV
 | .agg vs=>.agg (vs.map aM)
 | .tup vs=>.tup (vs.map aM)
 |v=>.b (aM v)
def NS:Option (Nat×Nat×V)->Option (Nat×Nat×BV)
 |some (i,j,v)=>some (i,j,aM v)
 |none=>none
def bN:Ob->AObj
 | .gone=>.gone
 | .free=>.free
 | .box t cs=>.box t (cs.map aM)
 | .vec e t xs=>.vec e t.sz (xs.map (aH t))
 | .map k e a b kvs=>.map k e (kvs.map λp=>(aH a p.1,aH b p.2))
 | .tree e k t xs h=>.tree e t.sz k (xs.map (aH t)) (NS h)
structure S where
 fr:List (Nat×V)
 hp:List Ob
def enc(s:S):St:=⟨s.fr.map λx=>(x.1,aS x.2),s.hp.map bN⟩
def lk:List (Nat×V)->Nat->Option V
 |[],_=>none
 |(k,a)::l,t=>bif Nat.beq t k then some a else lk l t
def S.put(s:S)(d:Nat)(v:V):S:=⟨(d,v)::s.fr,s.hp⟩
def S.putO(s:S)(d:Option Nat)(v:V):S:=match d with
 |some d=>s.put d v
 |none=>s
def bX(t u:Ty)(x:t.den):Option u.den:=if h:t=u then some (h▸x)else none
def aw{R:Type}(b:Bool)(x:Option R):Option R:=bif b then x else none
def aD{α:Type}(xs:List α)(i:Int):Option α:=bif decide (0<=i)then xs[i.toNat]? else none
def rxFields:Ty:=.pair (.int .i64) (.pair (.int .i64) (.pair (.int .i64) (.pair (.list .rx) .unit)))
def Rx.out:Rx->rxFields.den
 | .mk k l h ks=>(k,l,h,ks,())
def pp:(t:Ty)->(off:Nat)->(u:Ty)->t.den->Option u.den
 | .pair a b,off,u,x=>bif (decide (Ty.pair a b=u)&&Nat.beq off 0)then bX (.pair a b) u x else bif Nat.ble (off+1) a.sz then pp a off u x.1 else pp b (off - a.sz) u x.2
 | .rx,off,u,x=>match off with
  |0=>bif decide (u= .rx)then bX .rx u x else bX (.int .i64) u x.out.1
  |1=>bX (.int .i64) u x.out.2.1
  |2=>bX (.int .i64) u x.out.2.2.1
  |3=>bX (.list .rx) u x.out.2.2.2.1
  |_=>none
 |t,off,u,x=>bif Nat.beq off 0 then bX t u x else none
def jO:(t:Ty)->(off:Nat)->(u:Ty)->t.den->u.den->Option t.den
 | .pair a b,off,u,x,y=>bif (decide (Ty.pair a b=u)&&Nat.beq off 0)then bX u (.pair a b) y else bif Nat.ble (off+1) a.sz then(match jO a off u x.1 y with|some z=>some (z,x.2)|none=>none)else(match jO b (off - a.sz) u x.2 y with|some z=>some (x.1,z)|none=>none)
 | .rx,off,u,x,y=>bif Nat.beq off 0&&decide (u= .rx)then bX u .rx y else none
 |t,off,u,_,y=>bif Nat.beq off 0 then bX u t y else none
def fq:(t:Ty)->t.den->List V
 | .unit,_=>[]
 | .pair a b,x=>fq a x.1++fq b x.2
 | .rx,x=>[.d (.int .i64) x.out.1,.d (.int .i64) x.out.2.1,.d (.int .i64) x.out.2.2.1,.d (.list .rx) x.out.2.2.2.1]
 |t,x=>[.d t x]
def gx(u:Ty):V->Option u.den
 | .d t x=>bX t u x
 | .nil t=>bX (.list t) u ([]:List t.den)
 | .full t x=>bX (.list t) u x
 |_=>none
def G9:(t:Ty)->List V->Option (t.den×List V)
 | .unit,l=>some ((),l)
 | .pair a b,l=>match G9 a l with
  |some (x,l)=>match G9 b l with
   |some (y,l)=>some ((x,y),l)
   |none=>none
  |none=>none
 | .rx,l=>match l with
  |a::b::c::e::l=>match gx (.int .i64) a,gx (.int .i64) b,gx (.int .i64) c,gx (.list .rx) e with
   |some a,some b,some c,some e=>some (.mk a b c e,l)
   |_,_,_,_=>none
  |_=>none
 |t,l=>match l with
  |v::l=>match gx t v with
   |some x=>some (x,l)
   |none=>none
  |[]=>none
def cY(t:Ty)(v:V):Option t.den:=match v with
 | .agg vs=>match t.ag with
  |true=>match G9 t vs with
   |some (x,[])=>some x
   |_=>none
  |false=>none
 |v=>gx t v
def cw:V->List V
 | .d t x=>fq t x
 | .agg vs=>vs
 |v=>[v]
def whole(t:Ty)(cs:List V):V:=match t.ag with
 |true=>.agg cs
 |false=>match cs.headD default with
  | .agg _=>.any
  | .tup _=>.any
  |v=>v
def V.cellB:V->Bool
 | .d t _=> !t.ag
 | .agg _=>false
 | .tup _=>false
 | .any=>false
 | .lit _ _ _=>false
 | .raw v=>v.oneCell'
 |_=>true
def V.okB:V->Bool
 | .d _ _=>true
 | .agg vs=>vs.all V.cellB
 | .tup _=>false
 |v=>v.cellB
def V.cellD:V->Bool
 | .d _ _=>true
 | .nil _=>true
 | .full _ _=>true
 |_=>false
def wB:(t:Ty)->t.den->t.den->Bool
 | .int _,x,y=>x==y
 | .bool,x,y=>x==y
 | .str,x,y=>x==y
 | .unit,_,_=>true
 | .pair a b,x,y=>wB a x.1 y.1&&wB b x.2 y.2
 |_,_,_=>false
def Ty.eqOk:Ty->Bool
 | .int _=>true
 | .bool=>true
 | .str=>true
 | .unit=>true
 | .pair a b=>a.eqOk&&b.eqOk
 |_=>false
def fJ(a b:Ty):List (a.den×b.den)->a.den->Option b.den
 |[],_=>none
 |(k,v)::l,x=>bif wB a x k then some v else fJ a b l x
def jS(a b:Ty):List (a.den×b.den)->a.den->b.den->List (a.den×b.den)
 |[],x,y=>[(x,y)]
 |(k,v)::l,x,y=>bif wB a x k then(x,y)::l else(k,v)::jS a b l x y
def Ty.zero:(t:Ty)->t.den
 | .int _=>(0:Int)
 | .bool=>false
 | .str=>[]
 | .list _=>[]
 | .unit=>()
 | .pair a b=>(a.zero,b.zero)
 | .rx=>.mk 0 0 0 []
def Ty.flat:Ty->Bool
 | .list _=>false
 | .rx=>false
 | .pair a b=>a.flat&&b.flat
 |_=>true
inductive X where
 |tm (k:Nat)
 |k (t:Ty) (x:t.den)
 |nil (t:Ty)
 |ag (vs:List V)
 |f (n:Nat)
 |raw (v:Value)
 deriving Inhabited
def S.get(s:S):X->Option V
 | .tm k=>lk s.fr k
 | .k t x=>some (.d t x)
 | .nil t=>some (.nil t)
 | .ag vs=>some (.agg vs)
 | .f n=>some (.fnD n [])
 | .raw v=>some (.raw v)
end Go.Ev
namespace Go.Ev
open Go Go.RowKit Go.Av
inductive Slot where
 |tm (k:Nat) (t:Ty)
 |cell (id j:Nat) (t:Ty)
 |vec (id:Nat) (e:TypeId) (t:Ty)
 |map (id:Nat) (k e:TypeId) (a b:Ty)
 |tree (id:Nat) (e:TypeId) (k:K) (t:Ty)
 |treeH (id:Nat) (e:TypeId) (k:K) (t:Ty) (j kid:Nat)
@[reducible] def Slot.ty:Slot->Ty
 | .tm _ t=>t
 | .cell _ _ t=>t
 | .vec _ _ t=>.list t
 | .map _ _ _ a b=>.list (.pair a b)
 | .tree _ _ _ t=>.list t
 | .treeH _ _ _ t _ _=>.pair (.list t) (.int .i64)
@[reducible] def HL:List Slot->Type
 |[]=>Unit
 |s::l=>s.ty.den×HL l
structure Sh where
 keep:List Nat
 sk:S
 sl:List Slot
def V.isD:V->Bool
 | .d _ _=>true
 | .dp _ _=>true
 | .fnD _ _=>true
 |_=>false
def c9(fr:List (Nat×V)):List Nat->List (Nat×V)
 |[]=>[]
 |k::l=>match lk fr k with
  |some v=>bif v.isD then(k,v)::c9 fr l else c9 fr l
  |none=>c9 fr l
def J9(fr:List (Nat×V))(k:Nat):Bool:=match lk fr k with
 |some v=>v.isD
 |none=>false
def Sh.base(sh:Sh)(s:S):S:=⟨c9 s.fr sh.keep++sh.sk.fr,sh.sk.hp⟩
def setAt{α:Type}:List α->Nat->α->List α
 |[],_,_=>[]
 |_::l,0,y=>y::l
 |x::l,n+1,y=>x::setAt l n y
def setCell(hp:List Ob)(id j:Nat)(v:V):List Ob:=match hp[id]? with
 |some (.box t cs)=>setAt hp id (.box t (setAt cs j v))
 |_=>hp
def unpack:(sl:List Slot)->HL sl->S->S
 |[],_,s=>s
 | .tm k t::l,c,s=>unpack l c.2 ⟨(k,.d t c.1)::s.fr,s.hp⟩
 | .cell id j t::l,c,s=>unpack l c.2 ⟨s.fr,setCell s.hp id j (.d t c.1)⟩
 | .vec id e t::l,c,s=>unpack l c.2 ⟨s.fr,setAt s.hp id (.vec e t c.1)⟩
 | .map id k e a b::l,c,s=>unpack l c.2 ⟨s.fr,setAt s.hp id (.map k e a b c.1)⟩
 | .tree id e k t::l,c,s=>unpack l c.2 ⟨s.fr,setAt s.hp id (.tree e k t c.1 none)⟩
 | .treeH id e k t j kid::l,c,s=>unpack l c.2 ⟨s.fr,setAt s.hp id (.tree e k t c.1.1 (some (Int.toNat c.1.2,j,.sl kid)))⟩
def V.same:V->V->Bool
 | .sl i,.sl j=>Nat.beq i j
 | .ptr i o,.ptr j p=>Nat.beq i j&&Nat.beq o p
 | .mp i,.mp j=>Nat.beq i j
 | .clo f is,.clo g js=>Nat.beq f g&&decide (is=js)
 | .nil t,.nil u=>decide (t=u)
 | .raw (.pointer none),.raw (.pointer none)=>true
 | .raw (.map none),.raw (.map none)=>true
 | .raw .nilFunc,.raw .nilFunc=>true
 | .raw .nilIface,.raw .nilIface=>true
 |_,_=>false
def jB:List V->List V->Bool
 |[],[]=>true
 | .any::l,_::m=>jB l m
 | .agg xs::l,.agg ys::m=>(xs.length==ys.length)&&jB l m
 |x::l,y::m=>V.same x y&&jB l m
 |_,_=>false
def HJ:Ob->Ob->Bool
 | .gone,_=>true
 | .box t cs,.box u ds=>Nat.beq t u&&jB cs ds
 | .vec e t _,.vec e' t' _=>Nat.beq e e'&&decide (t=t')
 | .map k e a b _,.map k' e' a' b' _=>Nat.beq k k'&&Nat.beq e e'&&decide (a=a')&&decide (b=b')
 | .tree e k t _ h,.tree e' k' t' _ h'=>Nat.beq e e'&&decide (k=k')&&decide (t=t')&&(match h,h' with
  |none,none=>true
  |some (_,j,.sl a),some (_,j',.sl a')=>Nat.beq j j'&&Nat.beq a a'
  |_,_=>false)
 |_,_=>false
def vu:List Ob->List Ob->Bool
 |[],[]=>true
 |a::l,b::m=>HJ a b&&vu l m
 |_,_=>false
def xQ(fr:List (Nat×V)):List (Nat×V)->Bool
 |[]=>true
 |(k,v)::l=>(match lk fr k with|some w=>V.same v w|none=>false)&&xQ fr l
def S.fits(sk s:S):Bool:=xQ s.fr sk.fr&&vu sk.hp s.hp
def fD(s:S):(x:Slot)->Option x.ty.den
 | .tm k t=>match lk s.fr k with
  |some v=>cY t v
  |none=>none
 | .cell id j t=>match s.hp[id]? with
  |some (.box _ cs)=>match cs[j]? with
   |some v=>gx t v
   |none=>none
  |_=>none
 | .vec id _ t=>match s.hp[id]? with
  |some (.vec _ u xs)=>bX (.list u) (.list t) xs
  |_=>none
 | .map id _ _ a b=>match s.hp[id]? with
  |some (.map _ _ a' b' kvs)=>bX (.list (.pair a' b')) (.list (.pair a b)) kvs
  |_=>none
 | .tree id _ _ t=>match s.hp[id]? with
  |some (.tree _ _ u xs none)=>bX (.list u) (.list t) xs
  |_=>none
 | .treeH id _ _ t _ _=>match s.hp[id]? with
  |some (.tree _ _ u xs (some (i,_,_)))=>match bX (.list u) (.list t) xs with
   |some xs=>some (xs,(i:Int))
   |none=>none
  |_=>none
def yb(s:S):(sl:List Slot)->Option (HL sl)
 |[]=>some ()
 |x::l=>match fD s x with
  |some c=>match yb s l with
   |some r=>some (c,r)
   |none=>none
  |none=>none
def pack(sh:Sh)(s:S):Option (HL sh.sl):=match S.fits sh.sk s&&sh.keep.all (J9 s.fr)with
 |true=>yb s sh.sl
 |false=>none
def BE(hp:List Ob):Slot->Bool
 | .vec id e t=>match hp[id]? with
  |some (.vec e' t' _)=>Nat.beq e e'&&decide (t=t')
  |_=>false
 | .map id k e a b=>match hp[id]? with
  |some (.map k' e' a' b' _)=>Nat.beq k k'&&Nat.beq e e'&&decide (a=a')&&decide (b=b')
  |_=>false
 | .tree id e k t=>match hp[id]? with
  |some (.tree e' k' t' _ none)=>Nat.beq e e'&&decide (k=k')&&decide (t=t')
  |_=>false
 | .treeH id e k t j kid=>match hp[id]? with
  |some (.tree e' k' t' _ (some (_,j',.sl kid')))=>Nat.beq e e'&&decide (k=k')&&decide (t=t')&&Nat.beq j j'&&Nat.beq kid kid'
  |_=>false
 |_=>true
def Mg(sl:List Slot):Nat->List Ob->Bool
 |_,[]=>true
 |i,o::l=>(match o with
  | .vec _ _ _=>sl.any λx=>match x with
   | .vec j _ _=>Nat.beq j i
   |_=>false
  | .map _ _ _ _ _=>sl.any λx=>match x with
   | .map j _ _ _ _=>Nat.beq j i
   |_=>false
  | .tree _ _ _ _ _=>sl.any λx=>match x with
   | .tree j _ _ _=>Nat.beq j i
   | .treeH j _ _ _ _ _=>Nat.beq j i
   |_=>false
  |_=>true)&&Mg sl (i+1) l
def Sh.wfB(sh:Sh):Bool:=sh.sl.all (BE sh.sk.hp)&&Mg sh.sl 0 sh.sk.hp
@[reducible] def XT:List (Nat×Sh)->Type
 |[]=>Empty
 |[(_,sh)]=>HL sh.sl
 |(_,sh)::l=>HL sh.sl⊕XT l
def inj:(xs:List (Nat×Sh))->Nat->S->Option (XT xs)
 |[],_,_=>none
 |[(k,sh)],key,s=>bif Nat.beq k key then pack sh s else none
 |(k,sh)::a::l,key,s=>bif Nat.beq k key then(match pack sh s with|some c=>some (.inl c)|none=>none)else(match inj (a::l) key s with|some c=>some (.inr c)|none=>none)
def ik{R:Type}(s:S)(κ:Nat->S->Option R):(xs:List (Nat×Sh))->XT xs->Option R
 |[],_=>none
 |[(k,sh)],c=>κ k (unpack sh.sl c (sh.base s))
 |(k,sh)::a::l,c=>Sum.elim (λc=>κ k (unpack sh.sl c (sh.base s))) (λc=>ik s κ (a::l) c) c
inductive Adj where
 |freeze (id:Nat)
 |adopt (k:Nat) (e:TypeId) (t:Ty)
 |adoptC (id j:Nat) (e:TypeId) (t:Ty)
 |sel (ids:List Nat) (ks:List Nat)
 |drop (ks:List Nat)
 |focus (id k j:Nat) (u:Ty)
 |close (id:Nat)
 |adoptT (k:Nat) (e:TypeId) (kk:K) (t:Ty)
 |adoptCT (id j:Nat) (e:TypeId) (kk:K) (t:Ty)
def V.ren(ρ:Nat->Nat):V->V
 | .sl id=>.sl (ρ id)
 | .ptr id off=>.ptr (ρ id) off
 | .pel id off n t i=>.pel (ρ id) off n t i
 | .elt id i off=>.elt (ρ id) i off
 | .clo f ids=>.clo f (ids.map ρ)
 | .mp id=>.mp (ρ id)
 |x=>x
def V.ids1:V->List Nat
 | .sl id=>[id]
 | .ptr id _=>[id]
 | .pel id _ _ _ _=>[id]
 | .elt id _ _=>[id]
 | .clo _ ids=>ids
 | .mp id=>[id]
 |_=>[]
def kf(g:V->V):V->V
 | .agg vs=>.agg (vs.map g)
 | .tup vs=>.tup (vs.map g)
 |v=>g v
def N1(g:V->V):Option (Nat×Nat×V)->Option (Nat×Nat×V)
 |some (i,j,v)=>some (i,j,g v)
 |none=>none
def re(g:V->V):Ob->Ob
 | .box t cs=>.box t (cs.map g)
 | .tree e k t xs h=>.tree e k t xs (N1 g h)
 |o=>o
def V.ids:V->List Nat
 | .agg vs=>vs.flatMap V.ids1
 | .tup vs=>vs.flatMap V.ids1
 |v=>v.ids1
def Ob.ids:Ob->List Nat
 | .box _ cs=>cs.flatMap V.ids1
 | .tree _ _ _ _ (some (_,_,v))=>v.ids1
 |_=>[]
def S.map(g:V->V)(s:S):S:=⟨s.fr.map λx=>(x.1,kf g x.2),s.hp.map (re g)⟩
def V.kill1(id:Nat):V->V
 | .sl k=>bif Nat.beq k id then .any else .sl k
 | .elt k i o=>bif Nat.beq k id then .any else .elt k i o
 |v=>v
def S.moved(s:S)(id:Nat)(o:Ob):S:=⟨s.fr.map λx=>(x.1,kf (V.kill1 id) x.2),setAt (s.hp.map (re (V.kill1 id))) id o⟩
def zJ(l:List Nat)(x:Nat):Nat:=l.idxOf x
def mP(l:List Nat)(x:Nat):Bool:=l.any (Nat.beq x)
def allIn(l m:List Nat):Bool:=m.all (mP l)
def Jy(id:Nat)(t:Ty)(x:List t.den):V->V
 | .sl k=>bif Nat.beq k id then .d (.list t) x else .sl k
 | .elt k i o=>bif Nat.beq k id then .any else .elt k i o
 |v=>v
def rQ(e:TypeId)(k:K)(u:Ty)(L:List u.den):Ob:=bif k.allF then .vec e u L else .tree e k u L none
def wT(e:TypeId)(k:K)(u:Ty):Ob->Option (List u.den)
 | .vec e' t xs=>bif k.allF&&Nat.beq e e' then bX (.list t) (.list u) xs else none
 | .tree e' k' t xs none=>bif !k.allF&&Nat.beq e e'&&decide (k=k')then bX (.list t) (.list u) xs else none
 |_=>none
def LN:Ty->Nat->Option Ty
 | .list u,0=>some u
 | .pair a b,off=>bif Nat.ble (off+1) a.sz then LN a off else LN b (off - a.sz)
 |_,_=>none
def adj:Adj->S->Option S
 | .freeze id,s=>match s.hp[id]? with
  |some (.vec _ t xs)=>some (let s':=s.map (Jy id t xs);⟨s'.fr,setAt s'.hp id .gone⟩)
  |some (.tree _ _ t xs none)=>some (let s':=s.map (Jy id t xs);⟨s'.fr,setAt s'.hp id .gone⟩)
  |_=>none
 | .focus id k j u,s=>match lk s.fr k,s.hp[id]? with
  |some (.d (.int _) n),some (.tree e kk t xs none)=>match kk.at j with
   |some (e',sz',k')=>bif Nat.beq sz' u.sz&&decide (0<=n)then Option.bind xs[n.toNat]? λx=>(match pp t j (.list u) x with
    |some L=>some ⟨s.fr,setAt s.hp id (.tree e kk t xs (some (n.toNat,j,.sl s.hp.length)))++[rQ e' k' u L]⟩
    |none=>none)else none
   |none=>none
  |_,_=>none
 | .close id,s=>match s.hp[id]? with
  |some (.tree e kk t xs (some (i,j,.sl kid)))=>bif Nat.beq kid id then none else(match kk.at j,s.hp[kid]?,LN t j with
   |some (e',sz',k'),some o,some u=>match wT e' k' u o with
    |some L=>bif Nat.beq sz' u.sz then Option.bind xs[i]? λx=>(match jO t j (.list u) x L with
     |some y=>some (let s':=s.moved kid .gone;⟨s'.fr,setAt s'.hp id (.tree e kk t (xs.set i y) none)⟩)
     |none=>none)else none
    |none=>none
   |_,_,_=>none)
  |_=>none
 | .adopt k e t,s=>match lk s.fr k with
  |some (.nil _)=>some ⟨(k,.sl s.hp.length)::s.fr,s.hp++[.vec e t []]⟩
  |_=>none
 | .adoptC id j e t,s=>match s.hp[id]? with
  |some (.box u cs)=>match cs[j]? with
   |some (.nil _)=>some ⟨s.fr,setAt s.hp id (.box u (setAt cs j (.sl s.hp.length)))++[.vec e t []]⟩
   |_=>none
  |_=>none
 | .adoptT k e kk t,s=>match lk s.fr k with
  |some (.nil _)=>some ⟨(k,.sl s.hp.length)::s.fr,s.hp++[.tree e kk t [] none]⟩
  |_=>none
 | .adoptCT id j e kk t,s=>match s.hp[id]? with
  |some (.box u cs)=>match cs[j]? with
   |some (.nil _)=>some ⟨s.fr,setAt s.hp id (.box u (setAt cs j (.sl s.hp.length)))++[.tree e kk t [] none]⟩
   |_=>none
  |_=>none
 | .sel ids ks,s=>match ids.mapM (λi=>s.hp[i]?),ks.mapM (λk=>(lk s.fr k).map λv=>(k,v))with
  |some os,some fr=>bif decide ids.Nodup&&os.all (λo=>allIn ids o.ids)&&fr.all (λx=>allIn ids x.2.ids)then
   some ⟨fr.map λx=>(x.1,kf (V.ren (zJ ids)) x.2),os.map (re (V.ren (zJ ids)))⟩else none
  |_,_=>none
 | .drop ks,s=>some ⟨s.fr.filter λx=> !mP ks x.1,s.hp⟩
def JG:List Adj->S->Option S
 |[],s=>some s
 |a::l,s=>match adj a s with
  |some s=>JG l s
  |none=>none
def JF{R:Type}:Adj->S->(S->Option R)->Option R
 | .focus id k j u,s,κ=>match lk s.fr k,s.hp[id]? with
  |some (.d (.int _) n),some (.tree e kk t xs none)=>match kk.at j with
   |some (e',sz',k')=>bif Nat.beq sz' u.sz then aw (decide (0<=n)) (Option.bind xs[n.toNat]? λx=>(match pp t j (.list u) x with
    |some L=>κ ⟨s.fr,setAt s.hp id (.tree e kk t xs (some (n.toNat,j,.sl s.hp.length)))++[rQ e' k' u L]⟩
    |none=>none))else none
   |none=>none
  |_,_=>none
 | .close id,s,κ=>match s.hp[id]? with
  |some (.tree e kk t xs (some (i,j,.sl kid)))=>bif Nat.beq kid id then none else(match kk.at j,s.hp[kid]?,LN t j with
   |some (e',sz',k'),some o,some u=>match wT e' k' u o with
    |some L=>bif Nat.beq sz' u.sz then Option.bind xs[i]? λx=>(match jO t j (.list u) x L with
     |some y=>κ (let s':=s.moved kid .gone;⟨s'.fr,setAt s'.hp id (.tree e kk t (xs.set i y) none)⟩)
     |none=>none)else none
    |none=>none
   |_,_,_=>none)
  |_=>none
 |a,s,κ=>match adj a s with
  |some s=>κ s
  |none=>none
def sK{R:Type}:List Adj->S->(S->Option R)->Option R
 |[],s,κ=>κ s
 |a::l,s,κ=>JF a s λs=>sK l s κ
inductive Arg where
 |d (t:Ty)
 |x
inductive TOp where
 |mv (x:X)
 |pick (c a b:X)
 |bin (op:BinOp) (x y:X)
 |eqB (neg:Bool) (x y:X)
 |eqT (neg:Bool) (tid:TypeId) (t:Ty) (x y:X)
 |un (op:UnOp) (x:X)
 |len (str:Bool) (x:X)
 |lenM (k e:TypeId) (x:X)
 |idxS (x i:X)
 |idxV (n:Nat) (t:Ty) (x i:X)
 |idxA (t:Ty) (x i:X)
 |idxP (n:Nat) (t:Ty) (x i:X)
 |fldA (off:Nat) (t:Ty) (x:X)
 |fld (off:Nat) (t:Ty) (x:X)
 |load (t:Ty) (x:X)
 |store (t:Ty) (x v:X)
 |alloc (tid:TypeId) (zero:List V)
 |box (tid:TypeId) (x:X)
 |boxD (tid:TypeId) (t:Ty) (x:X)
 |build (zero:List V) (parts:List (Nat×Nat×X))
 |bslice (own:Bool) (tid:TypeId) (t:Ty) (len:Nat) (parts:List X)
 |mslice (tid:TypeId) (t:Ty) (bytes:Nat) (l c:X)
 |append (tid:TypeId) (t:Ty) (bytes:Nat) (x y:X)
 |cvtI (k:IntKind) (x:X)
 |slc (full:Bool) (t:Ty) (x:X) (lo hi mx:Option X)
 |slcS (x:X) (lo hi:Option X)
 |ext (x:X) (i:Nat)
 |nilc (x:X)
 |call (bor:Bool) (f:FuncId) (args:List (Arg×X)) (sh:Sh)
 |callA (pan bor:Bool) (B:List Nat) (f:FuncId) (args:List (Arg×X)) (sh:Sh)
 |callv (pan bor:Bool) (B:List Nat) (num:Nat) (x:X) (args:List (Arg×X)) (sh:Sh)
 |b2s (x:X)
 |mkfn (f:FuncId) (caps:List X)
 |mkmap (k e:TypeId) (a b:Ty)
 |lookup (k e:TypeId) (ok:Bool) (a b:Ty) (m x:X)
 |mapset (k e:TypeId) (a b:Ty) (m x v:X)
 |copy (tid:TypeId) (t:Ty) (x y:X)
 |mnmx (mx:Bool) (k:IntKind) (x:X) (ys:List X)
 |panic (x:X)
 |iface (tid:TypeId) (x:X)
 |bsliceF (tid:TypeId) (t:Ty) (len:Nat) (parts:List X)
 |appD (tid:TypeId) (t:Ty) (bytes:Nat) (x y:X)
 |bsliceN (tid:TypeId) (k:K) (t:Ty) (len:Nat) (parts:List X)
 |msliceT (tid:TypeId) (k:K) (u:Ty) (bytes:Nat) (l c:X)
 |appT (tid:TypeId) (k:K) (t:Ty) (bytes:Nat) (x y:X)
 |callp (bor:Bool) (num:Nat) (x:X) (args:List (Arg×X)) (sh:Sh)
 |atq(k:Nat) (op:TOp)
abbrev aj:=FuncId->List V->List Ob->Option (Option S)
section
variable {R:Type}
def LF(op:BinOp)(k k':IntKind)(a b:Int)(κ:V->Option R):Option R:=
 match op with
 | .shl=>aw (decide (0<=b)) (κ (.d (.int k) (k.wrap (a*2^(min b.toNat k.bits)))))
 | .shr=>aw (decide (0<=b)) (κ (.d (.int k) (a.fdiv (2^(min b.toNat k.bits)))))
 |op=>bif decide (k=k')then(match op with
  | .add=>κ (.d (.int k) (k.wrap (a+b)))
  | .sub=>κ (.d (.int k) (k.wrap (a - b)))
  | .mul=>κ (.d (.int k) (k.wrap (a*b)))
  | .quo=>aw (b != 0) (κ (.d (.int k) (k.wrap (a.tdiv b))))
  | .rem=>aw (b != 0) (κ (.d (.int k) (a.tmod b)))
  | .and=>κ (.d (.int k) (eo k .and a b))
  | .or=>κ (.d (.int k) (eo k .or a b))
  | .xor=>κ (.d (.int k) (eo k .xor a b))
  | .andNot=>κ (.d (.int k) (eo k .andNot a b))
  | .eql=>κ (.d .bool (a==b))
  | .neq=>κ (.d .bool (a != b))
  | .lss=>κ (.d .bool (decide (a<b)))
  | .leq=>κ (.d .bool (decide (a<=b)))
  | .gtr=>κ (.d .bool (decide (a>b)))
  | .geq=>κ (.d .bool (decide (a>=b)))
  |_=>none)else none
def LG(op:BinOp)(a b:List UInt8)(κ:V->Option R):Option R:=
 match op with
 | .add=>aw (decide (a.length+b.length<=9223372036854775807)) (κ (.d .str (a++b)))
 | .eql=>κ (.d .bool (a==b))
 | .neq=>κ (.d .bool (!(a==b)))
 | .lss=>κ (.d .bool (Op.bytesLess a b))
 | .leq=>κ (.d .bool (Op.bytesLess a b||a==b))
 | .gtr=>κ (.d .bool (!(Op.bytesLess a b||a==b)))
 | .geq=>κ (.d .bool (!(Op.bytesLess a b)))
 |_=>none
def intOf(v:Option V)(κ:Int->Option R):Option R:=match v with
 |some (.d (.int _) n)=>κ n
 |_=>none
def oR(hp:List Ob)(t:Ty)(v:Option V)(κ:List t.den->Option R):Option R:=match v with
 |some (.sl id)=>match hp[id]? with
  |some (.vec _ u xs)=>match bX (.list u) (.list t) xs with
   |some xs=>κ xs
   |none=>none
  |_=>none
 |some v=>match gx (.list t) v with
  |some xs=>κ xs
  |none=>none
 |none=>none
def xo(s:S)(x:Option X)(dflt:Nat)(κ:Nat->Option R):Option R:=match x with
 |none=>κ dflt
 |some x=>intOf (s.get x) λn=>aw (decide (0<=n)) (κ n.toNat)
def rowAt(t:Ty):Nat->V->Int->Option t.den
 |n+1,.d (.pair a b) x,m=>match bX a t x.1 with
  |some y=>bif decide (m=0)then some y else rowAt t n (.d b x.2) (m - 1)
  |none=>none
 |n+1,.agg vs,m=>match G9 t vs with
  |some (x,l)=>bif decide (m=0)then some x else rowAt t n (.agg l) (m - 1)
  |none=>none
 |_,_,_=>none
def tk(t:Ty)(y:t.den):Nat->List V->Int->Option (List V)
 |n+1,vs,m=>match G9 t vs with
  |some (x,l)=>match tk t y n l (m - 1)with
   |some r=>some (fq t (bif decide (m=0)then y else x)++r)
   |none=>none
  |none=>none
 |0,vs,_=>some vs
def loadT(hp:List Ob)(t:Ty)(v:Option V)(κ:V->Option R):Option R:=match v with
 |some (.dp u x)=>match bX u t x with
  |some x=>κ (.d t x)
  |none=>none
 |some (.ptr id off)=>match hp[id]? with
  |some (.box _ cs)=>bif Nat.ble (off+t.sz) cs.length then κ (whole t ((cs.drop off).take t.sz))else none
  |_=>none
 |some (.pel id off n u m)=>match hp[id]? with
  |some (.box _ cs)=>bif Nat.ble (off+n*u.sz) cs.length&&decide (u=t)then Option.bind (rowAt t n (.agg ((cs.drop off).take (n*u.sz))) m) λx=>κ (.d t x)else none
  |_=>none
 |some (.elt id i off)=>match hp[id]? with
  |some (.vec _ u xs)=>bif decide (u=t)|| !Nat.beq t.sz u.sz then Option.bind xs[i]? λx=>(match pp u off t x with
   |some y=>κ (.d t y)
   |none=>none)else none
  |some (.tree _ k u xs hole)=>bif k.flatB off t.sz then Option.bind xs[i]? λx=>(match pp u off t x with
   |some y=>κ (.d t y)
   |none=>none)else(match hole with
    |some (hi,hj,v)=>bif Nat.beq hj off&& !t.ag&&Nat.ble (off+1) u.sz&&(match v with| .sl _=>true|_=>false)then Option.bind xs[i]? λ_=>aw (Nat.beq hi i) (κ v)else none
    |none=>none)
  |_=>none
 |_=>none
def gS(cs:List V)(off:Nat)(vs:List V):List V:=cs.take off++vs++cs.drop (off+vs.length)
def storeT(s:S)(t:Ty)(a:Option V)(v:Option V)(κ:S->Option R):Option R:=match a,v with
 |some (.ptr id off),some v=>match s.hp[id]? with
  |some (.box tid cs)=>bif Nat.beq (cw v).length t.sz&&Nat.ble (off+t.sz) cs.length&&v.okB then κ ⟨s.fr,setAt s.hp id (.box tid (gS cs off (cw v)))⟩else none
  |_=>none
 |some (.pel id off n u m),some v=>match s.hp[id]?,cY t v with
  |some (.box tid cs),some y=>bif Nat.ble (off+n*u.sz) cs.length&&decide (u=t)&&Nat.ble 1 t.sz then(match tk t y n ((cs.drop off).take (n*u.sz)) m with
   |some vs=>aw (decide (0<=m)&&decide (m<n)) (κ ⟨s.fr,setAt s.hp id (.box tid (gS cs off vs))⟩)
   |none=>none)else none
  |_,_=>none
 |some (.elt id i off),some v=>match s.hp[id]?,cY t v with
  |some (.vec e u xs),some y=>bif decide (u=t)|| !Nat.beq t.sz u.sz then Option.bind xs[i]? λx=>(match jO u off t x y with
   |some z=>κ ⟨s.fr,setAt s.hp id (.vec e u (xs.set i z))⟩
   |none=>none)else none
  |some (.tree e k u xs hole),some y=>bif k.flatB off t.sz&&u.ag then Option.bind xs[i]? λx=>(match jO u off t x y with
   |some z=>κ ⟨s.fr,setAt s.hp id (.tree e k u (xs.set i z) hole)⟩
   |none=>none)else none
  |some (.tree e k u xs (some (hi,hj,_))),none=>(match v with
   | .sl kid=>bif Nat.beq hj off&&Nat.beq t.sz 1&&Nat.ble (off+1) u.sz then Option.bind xs[i]? λ_=>aw (Nat.beq hi i) (κ ⟨s.fr,setAt s.hp id (.tree e k u xs (some (hi,hj,.sl kid)))⟩)else none
   |_=>none)
  |_,_=>none
 |_,_=>none
def V.isRef:V->Bool
 | .sl _=>true
 | .ptr _ _=>true
 | .pel _ _ _ _ _=>true
 | .elt _ _ _=>true
 | .clo _ _=>true
 | .mp _=>true
 |_=>false
def Dk(s:S)(bor:Bool)(B:List Nat)(a:Arg×X):Option V:=match a.1,s.get a.2 with
 | .d (.list t),some (.sl id)=>bif bor&& !mP B id then(match s.hp[id]? with
  |some (.vec _ u xs)=>match bX (.list u) (.list t) xs with
   |some xs=>some (.d (.list t) xs)
   |none=>none
  |some (.tree _ _ u xs none)=>match bX (.list u) (.list t) xs with
   |some xs=>some (.d (.list t) xs)
   |none=>none
  |_=>none)else none
 | .d t,some v=>match cY t v with
  |some x=>some (.d t x)
  |none=>none
 | .x,some v=>match v with
  | .d _ _=>none
  | .nil _=>none
  | .full _ _=>none
  | .raw (.slice _ _ _)=>none
  | .agg vs=>bif vs.any V.isRef then some (.agg vs)else none
  |v=>some v
 |_,none=>none
def me(s:S)(bor:Bool)(B:List Nat):List (Arg×X)->Option (List V)
 |[]=>some []
 |a::l=>match Dk s bor B a with
  |some v=>match me s bor B l with
   |some vs=>some (v::vs)
   |none=>none
  |none=>none
def gj:Ty->List Ty
 | .unit=>[]
 | .pair a b=>gj a++gj b
 | .rx=>[.int .i64,.int .i64,.int .i64,.list .rx]
 |t=>[t]
def flatK:K->List Ty->Bool
 | .e,ts=>ts.all Ty.flat
 | .f r,t::ts=>t.flat&&flatK r ts
 | .s _ sz sub r,.list u::ts=>Nat.beq sz u.sz&&flatK sub (gj u)&&flatK r ts
 |_,_=>false
def Slot.flat:Slot->Bool
 | .tm _ t=>t.flat
 | .cell _ _ t=>t.flat
 | .vec _ _ t=>t.flat
 | .map _ _ _ a b=>a.flat&&b.flat
 | .tree _ _ k t=>flatK k (gj t)
 | .treeH _ _ k t _ _=>flatK k (gj t)
def Gt(fr:List (Nat×V))(n:Nat):List V:=(List.range n).map λi=>(lk fr i).getD .any
def res(n:Nat)(fr:List (Nat×V)):V:=bif Nat.beq n 1 then(lk fr 0).getD .any else .tup (Gt fr n)
def V.isA:V->Bool
 | .agg _=>true
 | .tup _=>true
 |_=>false
def Ey(n:Nat)(fr:List (Nat×V)):Bool:=Nat.beq n 1||fr.all λx=> !x.2.isA
def Ds(B:List Nat)(n k:Nat):Nat:=bif Nat.ble (k+1) B.length then B.getD k 0 else n+(k - B.length)
def p6(B:List Nat):V->V
 | .sl k=>bif mP B k then .any else .sl k
 | .elt k i o=>bif mP B k then .any else .elt k i o
 |v=>v
def Hb(B:List Nat)(os:List Ob)(n:Nat):Nat->List Ob->List Ob
 |_,[]=>[]
 |i,o::l=>(bif mP B i then re (V.ren (Ds B n)) (os.getD (zJ B i) .gone)else re (p6 B) o)::Hb B os n (i+1) l
def S.back(s:S)(B:List Nat)(os:List Ob):S:=
 ⟨s.fr.map λx=>(x.1,kf (p6 B) x.2),Hb B os s.hp.length 0 s.hp++(os.drop B.length).map (re (V.ren (Ds B s.hp.length)))⟩
def Sh.n(sh:Sh):Nat:=(sh.sk.fr.length)+(sh.sl.filter λx=>match x with| .tm _ _=>true|_=>false).length
def aI(O:aj)(f:FuncId)(ars:List V)(os:List Ob)(sh:Sh):Option (HL sh.sl):=match O f ars os with
 |some (some s)=>bif Nat.beq s.fr.length sh.n&&Ey sh.n s.fr then pack sh s else none
 |_=>none
def JP(O:aj)(f:FuncId)(ars:List V)(os:List Ob)(sh:Sh):Option (Option (HL sh.sl)):=match O f ars os with
 |some (some s)=>bif Nat.beq s.fr.length sh.n&&Ey sh.n s.fr then(match pack sh s with|some c=>some (some c)|none=>none)else none
 |some none=>some none
 |none=>none
end
end Go.Ev
namespace Go.Ev
open Go Go.RowKit Go.Av
def V.isNil:V->Bool
 | .nil _=>true
 |_=>false
def V.isRaw:V->Bool
 | .raw _=>true
 |_=>false
def Kq(k:K)(v:V):Bool:=(match v with| .agg _=>true| .nil _=>true|_=>false)&&(List.range (cw v).length).all λj=>(((cw v).getD j .any).isNil==(k.at j).isSome)&& !((cw v).getD j .any).isRaw
def Nf(k:K)(cs:List V):Bool:=(List.range cs.length).all λj=>match k.at j with
 |some _=>(match cs.getD j .any with| .d (.list _) l=>l.isEmpty|_=>false)
 |none=>true
section
variable {R:Type}
def uR(s:S)(d:Option Nat)(B:List Nat)(n:Nat)(sh:Sh)(κ:S->Option R)(c:HL sh.sl):Option R:=
 let r:=unpack sh.sl c (sh.base ⟨[],[]⟩)
 κ ((s.back B r.hp).putO d (kf (V.ren (Ds B s.hp.length)) (res n r.fr)))
def HK(s:S)(B:List Nat):Option (List Ob):=match B with
 |[]=>some []
 |i::B=>match s.hp[i]? with
  |some o=>match HK s B with
   |some os=>some (o::os)
   |none=>none
  |none=>none
def s3(pan:Bool)(O:aj)(s:S)(d:Option Nat)(bor:Bool)(B:List Nat)(f:FuncId)(ars:List V)(sh:Sh)(κ kp:S->Option R):Option R:=match HK s B with
 |some os=>bif decide B.Nodup&&ars.all (λa=>allIn B a.ids)&&os.all (λo=>allIn B o.ids)&&(!bor||sh.sl.all Slot.flat)then
  (match pan with
  |false=>Option.bind (aI O f (ars.map (kf (V.ren (zJ B)))) (os.map (re (V.ren (zJ B)))) sh) (uR s d B sh.n sh κ)
  |true=>Option.bind (JP O f (ars.map (kf (V.ren (zJ B)))) (os.map (re (V.ren (zJ B)))) sh) λo=>match o with
   |some c=>uR s d B sh.n sh κ c
   |none=>kp (s.back B (os.map λ_=>.gone)))else none
 |none=>none
def evOp(O:aj)(d:Option Nat)(op:TOp)(s:S)(κ kp:S->Option R):Option R:=
 match op with
 | .mv x=>match s.get x with
  |some v=>κ (s.putO d v)
  |none=>none
 | .pick c a b=>match s.get c,s.get a,s.get b with
  |some (.d .bool c),some (.d t x),some (.d u y)=>match bX u t y with
   |some y=>κ (s.putO d (.d t (bif c then x else y)))
   |none=>none
  |some (.d .bool c),some (.raw _),some (.d u y)=>bif c then none else κ (s.putO d (.d u y))
  |some (.d .bool c),some (.d t x),some (.raw _)=>bif c then κ (s.putO d (.d t x))else none
  |_,_,_=>none
 | .bin op x y=>match s.get x,s.get y with
  |some (.d (.int k) a),some (.d (.int k') b)=>LF op k k' a b λv=>κ (s.putO d v)
  |some (.d .str a),some (.d .str b)=>LG op a b λv=>κ (s.putO d v)
  |_,_=>none
 | .eqB neg x y=>match s.get x,s.get y with
  |some (.d .bool a),some (.d .bool b)=>κ (s.putO d (.d .bool (neg ^^ (a==b))))
  |_,_=>none
 | .eqT neg _ t x y=>match s.get x,s.get y with
  |some v,some u=>match cY t v,cY t u with
   |some a,some b=>bif t.eqOk then κ (s.putO d (.d .bool (neg ^^ wB t a b)))else none
   |_,_=>none
  |_,_=>none
 | .un op x=>match op,s.get x with
  | .not,some (.d .bool a)=>κ (s.putO d (.d .bool (!a)))
  | .neg,some (.d (.int k) a)=>κ (s.putO d (.d (.int k) (k.wrap (0 - a))))
  |_,_=>none
 | .len str x=>match str,s.get x with
  |true,some (.d .str a)=>κ (s.putO d (.d (.int .i64) a.length))
  |false,some (.d (.list _) a)=>κ (s.putO d (.d (.int .i64) a.length))
  |false,some (.nil _)=>κ (s.putO d (.d (.int .i64) 0))
  |false,some (.sl id)=>match s.hp[id]? with
   |some (.vec _ _ xs)=>κ (s.putO d (.d (.int .i64) xs.length))
   |some (.tree _ _ _ xs _)=>κ (s.putO d (.d (.int .i64) xs.length))
   |_=>none
  |_,_=>none
 | .lenM k e x=>match s.get x with
  |some (.mp id)=>match s.hp[id]? with
   |some (.map k' e' _ _ kvs)=>bif Nat.beq k k'&&Nat.beq e e' then κ (s.putO d (.d (.int .i64) kvs.length))else none
   |_=>none
  |_=>none
 | .idxS x i=>match s.get x with
  |some (.d .str a)=>intOf (s.get i) λn=>Option.bind (aD a n) λc=>κ (s.putO d (.d (.int .u8) c.toNat))
  |_=>none
 | .idxV n t x i=>match s.get x with
  |some v=>bif Nat.beq (cw v).length (n*t.sz)&&(match v with| .agg vs=>vs.all V.cellD|_=>true)then intOf (s.get i) λm=>Option.bind (rowAt t n v m) λc=>κ (s.putO d (.d t c))else none
  |none=>none
 | .idxA t x i=>match s.get x with
  |some (.sl id)=>match s.hp[id]? with
   |some (.vec _ u xs)=>bif decide (u=t)then intOf (s.get i) λn=>Option.bind (aD xs n) λ_=>κ (s.putO d (.elt id n.toNat 0))else none
   |some (.tree _ _ u xs _)=>bif decide (u=t)then intOf (s.get i) λn=>Option.bind (aD xs n) λ_=>κ (s.putO d (.elt id n.toNat 0))else none
   |_=>none
  |some (.d (.list u) xs)=>match bX (.list u) (.list t) xs with
   |some xs=>intOf (s.get i) λn=>Option.bind (aD xs n) λx=>κ (s.putO d (.dp t x))
   |none=>none
  |_=>none
 | .idxP n t x i=>match s.get x,i with
  |some (.ptr id off),.k (.int _) m=>aw (decide (0<=m)&&decide (m<n)) (κ (s.putO d (.ptr id (off+m.toNat*t.sz))))
  |some (.ptr id off),i=>intOf (s.get i) λm=>aw (decide (0<=m)&&decide (m<n)) (κ (s.putO d (.pel id off n t m)))
  |some (.dp u y),i=>bif Nat.beq u.sz (n*t.sz)&&u.ag then intOf (s.get i) λm=>Option.bind (rowAt t n (.d u y) m) λc=>κ (s.putO d (.dp t c))else none
  |_,_=>none
 | .fldA off t x=>match s.get x with
  |some (.dp u y)=>match pp u off t y with
   |some z=>κ (s.putO d (.dp t z))
   |none=>none
  |some (.ptr id o)=>κ (s.putO d (.ptr id (o+off)))
  |some (.elt id i o)=>κ (s.putO d (.elt id i (o+off)))
  |_=>none
 | .fld off t x=>match s.get x with
  |some (.d u y)=>bif u.ag then(match pp u off t y with
   |some z=>κ (s.putO d (.d t z))
   |none=>none)else none
  |some (.agg vs)=>bif Nat.ble (off+t.sz) vs.length then κ (s.putO d (whole t ((vs.drop off).take t.sz)))else none
  |_=>none
 | .load t x=>loadT s.hp t (s.get x) λv=>κ (s.putO d v)
 | .store t x v=>match d with
  |none=>storeT s t (s.get x) (s.get v) κ
  |some _=>none
 | .alloc tid zero=>κ (S.putO ⟨s.fr,s.hp++[.box tid zero]⟩ d (.ptr s.hp.length 0))
 | .box tid x=>match s.get x with
  |some v=>bif v.okB then κ (S.putO ⟨s.fr,s.hp++[.box tid (cw v)]⟩ d (.ptr s.hp.length 0))else none
  |none=>none
 | .boxD _ t x=>match s.get x with
  |some (.full _ _)=>none
  |some v=>match cY t v with
   |some y=>κ (s.putO d (.dp t y))
   |none=>none
  |none=>none
 | .build zero parts=>buildT s zero parts λcs=>κ (s.putO d (.agg cs))
 | .bslice own tid t len parts=>bif Nat.beq parts.length len&&Nat.ble 1 t.sz&&Nat.ble (len*t.sz) 16777216 then listT s t parts λxs=>(match own with
  |true=>κ (S.putO ⟨s.fr,s.hp++[.vec tid t xs]⟩ d (.sl s.hp.length))
  |false=>κ (s.putO d (.d (.list t) xs)))else none
 | .mslice tid t bytes l c=>bif Nat.ble 1 t.sz then intOf (s.get l) λl=>intOf (s.get c) λc=>
  aw (decide (0<=l)&&decide (l<=c)&&decide (c<=9223372036854775807)&&decide (bytes*c<=281474976710656)) (κ (S.putO ⟨s.fr,s.hp++[.vec tid t (List.replicate l.toNat t.zero)]⟩ d (.sl s.hp.length)))else none
 | .append tid t bytes x y=>oR s.hp t (s.get y) λys=>match s.get x with
  |some (.sl id)=>match s.hp[id]? with
   |some (.vec e u xs)=>match bX (.list u) (.list t) xs with
    |some xs=>bif Nat.beq e tid then aw (decide ((xs.length+ys.length)*bytes<=140737488355328)) (κ ((s.moved id (.vec e t (xs++ys))).putO d (.sl id)))else none
    |none=>none
   |_=>none
  |some (.nil _)=>aw (decide (ys.length*bytes<=140737488355328)) (κ (S.putO ⟨s.fr,s.hp++[.vec tid t ys]⟩ d (.sl s.hp.length)))
  |some (.full _ [])=>aw (decide (ys.length*bytes<=140737488355328)) (κ (S.putO ⟨s.fr,s.hp++[.vec tid t ys]⟩ d (.sl s.hp.length)))
  |_=>none
 | .cvtI k x=>match s.get x with
  |some (.d (.int _) n)=>κ (s.putO d (.d (.int k) (k.wrap n)))
  |_=>none
 | .slc full t x lo hi mx=>match s.get x with
  |some (.sl _)=>none
  |v=>oR s.hp t v λxs=>xo s lo 0 λl=>xo s hi xs.length λh=>xo s mx xs.length λm=>
   bif !(mx.isSome&& !hi.isSome)then aw (decide (l<=h)&&decide (h<=m)&&decide (m<=xs.length)) (match full with
    |false=>κ (s.putO d (.d (.list t) ((xs.take h).drop l)))
    |true=>aw (mx.isSome&&decide (h=m)) (κ (s.putO d (.full t ((xs.take h).drop l)))))else none
 | .slcS x lo hi=>match s.get x with
  |some (.d .str a)=>xo s lo 0 λl=>xo s hi a.length λh=>aw (decide (l<=h)&&decide (h<=a.length)) (κ (s.putO d (.d .str ((a.take h).drop l))))
  |_=>none
 | .ext x i=>match s.get x with
  |some (.tup vs)=>match vs[i]? with
   |some v=>bif (match v with| .agg _=>false| .tup _=>false|_=>true)then κ (s.putO d v)else none
   |none=>none
  |_=>none
 | .nilc x=>match s.get x with
  |some v=>(match v with
   | .dp _ _=>κ (s.putO d v)
   | .ptr _ _=>κ (s.putO d v)
   | .pel _ _ _ _ _=>κ (s.putO d v)
   | .elt _ _ _=>κ (s.putO d v)
   | .clo _ _=>κ (s.putO d v)
   | .fnD _ _=>κ (s.putO d v)
   |_=>none)
  |none=>none
 | .call bor f args sh=>match me s bor [] args with
  |some ars=>bif ars.all V.isD&&sh.sk.fr.isEmpty&&(!bor||sh.sl.all Slot.flat)then
   Option.bind (aI O f ars [] sh) λc=>κ (s.putO d (res sh.n (unpack sh.sl c (sh.base ⟨[],[]⟩)).fr))else none
  |none=>none
 | .callA pan bor B f args sh=>match me s bor B args with
  |some ars=>s3 pan O s d bor B f ars sh κ kp
  |none=>none
 | .callv pan bor B num x args sh=>match s.get x,me s bor B args with
  |some (.clo f ids),some ars=>bif Nat.beq (num%10000) f then s3 pan O s d bor B num (ars++ids.map λi=>.ptr i 0) sh κ kp else none
  |some (.fnD f cs),some ars=>bif Nat.beq (num%10000) f then s3 pan O s d bor B num (ars++cs.map λc=>.dp c.1 c.2) sh κ kp else none
  |_,_=>none
 | .callp bor num x args sh=>match s.get x,me s bor [] args with
  |some (.fnD f cs),some ars=>bif Nat.beq (num%10000) f&&ars.all V.isD&&sh.sk.fr.isEmpty&&(!bor||sh.sl.all Slot.flat)then
   Option.bind (aI O num (ars++cs.map λc=>.dp c.1 c.2) [] sh) λc=>κ (s.putO d (res sh.n (unpack sh.sl c (sh.base ⟨[],[]⟩)).fr))else none
  |_,_=>none
 | .b2s x=>oR s.hp (.int .u8) (s.get x) λl=>κ (s.putO d (.d .str (l.map fun(n:Int)=>UInt8.ofNat n.toNat)))
 | .mkfn f caps=>match capsOf s caps with
  |some ids=>κ (s.putO d (.clo f ids))
  |none=>match capsD s caps with
   |some cs=>κ (s.putO d (.fnD f cs))
   |none=>none
 | .mkmap k e a b=>κ (S.putO ⟨s.fr,s.hp++[.map k e a b []]⟩ d (.mp s.hp.length))
 | .lookup k e ok a b m x=>match s.get m,s.get x with
  |some (.mp id),some v=>match s.hp[id]?,cY a v with
   |some (.map k' e' a' b' kvs),some y=>match bX (.list (.pair a' b')) (.list (.pair a b)) kvs with
    |some kvs=>bif Nat.beq k k'&&Nat.beq e e'&&a.eqOk then(match ok with
     |true=>κ (s.putO d (.tup [.d b ((fJ a b kvs y).getD b.zero),.d .bool (fJ a b kvs y).isSome]))
     |false=>κ (s.putO d (.d b ((fJ a b kvs y).getD b.zero))))else none
    |none=>none
   |_,_=>none
  |_,_=>none
 | .mapset k e a b m x v=>match d,s.get m,s.get x,s.get v with
  |none,some (.mp id),some u,some w=>match s.hp[id]?,cY a u,cY b w with
   |some (.map k' e' a' b' kvs),some y,some z=>match bX (.list (.pair a' b')) (.list (.pair a b)) kvs with
    |some kvs=>bif Nat.beq k k'&&Nat.beq e e'&&a.eqOk&& !b.ag then aw (decide (kvs.length<maxLen)) (κ ⟨s.fr,setAt s.hp id (.map k e a b (jS a b kvs y z))⟩)else none
    |none=>none
   |_,_,_=>none
  |_,_,_,_=>none
 | .copy tid t x y=>match s.get x,s.get y with
  |some (.sl id),some v=>bif (match v with| .sl j=> !Nat.beq id j|_=>true)then(oR s.hp t (some v) λys=>match s.hp[id]? with
   |some (.vec e u xs)=>match bX (.list u) (.list t) xs with
    |some xs=>bif Nat.beq e tid then κ (S.putO ⟨s.fr,setAt s.hp id (.vec e t (ys.take xs.length++xs.drop ys.length))⟩ d (.d (.int .i64) (min xs.length ys.length:Nat)))else none
    |none=>none
   |_=>none)else none
  |_,_=>none
 | .mnmx mx k x ys=>match s.get x with
  |some (.d (.int k') n)=>bif decide (k'=k)then intsOf s k ys λns=>κ (s.putO d (.d (.int k) (ns.foldl (fun(a b:Int)=>bif mx then max a b else min a b) n)))else none
  |_=>none
 | .panic x=>match s.get x with
  |some .ifc=>kp s
  |_=>none
 | .iface _ x=>match s.get x with
  |some _=>κ (s.putO d .ifc)
  |none=>none
 | .bsliceF _ t len parts=>bif Nat.beq parts.length len&&Nat.ble 1 t.sz&&Nat.ble (len*t.sz) 16777216 then listT s t parts λxs=>κ (s.putO d (.full t xs))else none
 | .appD _ t bytes x y=>oR s.hp t (s.get y) λys=>match s.get x with
  |some (.nil _)=>aw (decide (ys.length*bytes<=140737488355328)) (κ (s.putO d (.d (.list t) ys)))
  |some (.full u xs)=>match bX (.list u) (.list t) xs with
   |some xs=>aw (decide ((xs.length+ys.length)*bytes<=140737488355328)) (κ (s.putO d (.d (.list t) (xs++ys))))
   |none=>none
  |_=>none
 | .bsliceN _ k t len parts=>bif Nat.beq parts.length len&&Nat.ble 1 t.sz&&Nat.ble (len*t.sz) 16777216 then listN s k t parts λxs=>κ (s.putO d (.lit k t xs))else none
 | .msliceT tid k u bytes l c=>bif (k.at 0).isSome then intOf (s.get l) λl=>intOf (s.get c) λc=>
  aw (decide (0<=l)&&decide (l<=c)&&decide (c<=9223372036854775807)&&decide (bytes*c<=281474976710656)) (κ (S.putO ⟨s.fr,s.hp++[.tree tid k (.list u) (List.replicate l.toNat []) none]⟩ d (.sl s.hp.length)))else none
 | .appT tid k t bytes x y=>match s.get y with
  |some (.lit k' u ys)=>bif decide (k=k')then(match bX (.list u) (.list t) ys with
   |some ys=>bif ys.all (λy=>Nf k (fq t y))then(match s.get x with
    |some (.sl id)=>match s.hp[id]? with
     |some (.tree e k2 u2 xs none)=>match bX (.list u2) (.list t) xs with
      |some xs=>bif Nat.beq e tid&&decide (k=k2)then aw (decide ((xs.length+ys.length)*bytes<=140737488355328)) (κ ((s.moved id (.tree e k t (xs++ys) none)).putO d (.sl id)))else none
      |none=>none
     |_=>none
    |some (.nil _)=>aw (decide (ys.length*bytes<=140737488355328)) (κ (S.putO ⟨s.fr,s.hp++[.tree tid k t ys none]⟩ d (.sl s.hp.length)))
    |_=>none)else none
   |none=>none)else none
  |_=>none
 | .atq k op=>match s.hp[k]? with
  |some .free=>mkT s op λo v=>κ (S.putO ⟨s.fr,setAt s.hp k o⟩ d (v k))
  |_=>none
where
 mkT (s:S) (op:TOp) (κ:Ob->(Nat->V)->Option R):Option R:=match op with
  | .alloc tid zero=>κ (.box tid zero) λn=>.ptr n 0
  | .box tid x=>match s.get x with
   |some v=>bif v.okB then κ (.box tid (cw v)) (λn=>.ptr n 0)else none
   |none=>none
  | .bslice true tid t len parts=>bif Nat.beq parts.length len&&Nat.ble 1 t.sz&&Nat.ble (len*t.sz) 16777216 then listT s t parts λxs=>κ (.vec tid t xs) .sl else none
  | .mslice tid t bytes l c=>bif Nat.ble 1 t.sz then intOf (s.get l) λl=>intOf (s.get c) λc=>
   aw (decide (0<=l)&&decide (l<=c)&&decide (c<=9223372036854775807)&&decide (bytes*c<=281474976710656)) (κ (.vec tid t (List.replicate l.toNat t.zero)) .sl)else none
  | .append tid t bytes x y=>oR s.hp t (s.get y) λys=>match s.get x with
   |some (.nil _)=>aw (decide (ys.length*bytes<=140737488355328)) (κ (.vec tid t ys) .sl)
   |some (.full _ [])=>aw (decide (ys.length*bytes<=140737488355328)) (κ (.vec tid t ys) .sl)
   |_=>none
  | .mkmap k e a b=>κ (.map k e a b []) .mp
  |_=>none
 buildT (s:S) (cs:List V):List (Nat×Nat×X)->(List V->Option R)->Option R
  |[],κ=>κ cs
  |(off,sz,x)::l,κ=>match s.get x with
   |some v=>bif Nat.beq (cw v).length sz&&Nat.ble (off+sz) cs.length&&v.okB then buildT s (gS cs off (cw v)) l κ else none
   |none=>none
 listT (s:S) (t:Ty):List X->(List t.den->Option R)->Option R
  |[],κ=>κ []
  |x::l,κ=>match s.get x with
   |some v=>match cY t v with
    |some y=>listT s t l λys=>κ (y::ys)
    |none=>none
   |none=>none
 listN (s:S) (k:K) (t:Ty):List X->(List t.den->Option R)->Option R
  |[],κ=>κ []
  |x::l,κ=>match s.get x with
   |some v=>match cY t v with
    |some y=>bif Kq k v then listN s k t l λys=>κ (y::ys)else none
    |none=>none
   |none=>none
 capsOf (s:S):List X->Option (List Nat)
  |[]=>some []
  |x::l=>match s.get x with
   |some (.ptr i 0)=>match capsOf s l with
    |some ids=>some (i::ids)
    |none=>none
   |_=>none
 capsD (s:S):List X->Option (List ((t:Ty)×t.den))
  |[]=>some []
  |x::l=>match s.get x with
   |some (.dp t y)=>match capsD s l with
    |some cs=>some (⟨t,y⟩::cs)
    |none=>none
   |_=>none
 intsOf (s:S) (k:IntKind):List X->(List Int->Option R)->Option R
  |[],κ=>κ []
  |x::l,κ=>match s.get x with
   |some (.d (.int k') n)=>bif decide (k'=k)then intsOf s k l λns=>κ (n::ns)else none
   |_=>none
inductive RC where
 |nil
 |op (d:Option Nat) (o:TOp) (rest:RC)
 |adj (l:List Adj) (rest:RC)
 |gb (t:Nat) (want:Bool) (blk:RC) (ty:Ty) (r alt:X) (dst:Nat) (rest:RC)
def RC.asg:RC->List Nat
 | .nil=>[]
 | .op d _ rest=>(match d with|some d=>[d]|none=>[])++rest.asg
 | .adj _ rest=>rest.asg
 | .gb _ _ blk _ _ _ dst rest=>blk.asg++dst::rest.asg
def wN(O:aj):(R:Type)->RC->S->(S->Option R)->(S->Option R)->Option R
 |_,.nil,s,κ,_=>κ s
 |R,.op d o rest,s,κ,kp=>evOp O d o s (λs'=>wN O R rest s' κ kp) kp
 |R,.adj l rest,s,κ,kp=>sK l s λs=>wN O R rest s κ kp
 |R,.gb t want blk ty r alt dst rest,s,κ,kp=>match lk s.fr t,s.get alt with
  |some (.d .bool b),some va=>match(bif blk.asg.all (λk=>(lk s.fr k).isNone)then cY ty va else none)with
   |some alt=>Option.bind (match want with
    |true=>bif b then wN O ty.den blk s (λs'=>match s'.get r with|some v=>cY ty v|none=>none) (λ_=>none)else some alt
    |false=>bif b then some alt else wN O ty.den blk s (λs'=>match s'.get r with|some v=>cY ty v|none=>none) (λ_=>none))
    λc=>wN O R rest (s.put dst (.d ty c)) κ kp
   |none=>none
  |_,_=>none
end
structure PO where
 j:Nat
 b:Bool
 us:List Nat
 rd:List Nat
 lent:List Nat
 d:Option Nat
 o:TOp
 g:Option (Nat×Bool)
def GY(s:S)(rd lent:List Nat):List Nat:=(rd.flatMap λk=>match lk s.fr k with|some v=>v.ids|none=>[])++lent
def rz(s:S)(p:PO):List Nat:=match p.b,p.o,p.g with
 |true,.mv _,none=>[]
 |_,_,_=>GY s p.rd p.lent
def JV(r:Av.Rec)(T rd lent:List Nat)(d:Option Nat)(b:Bool):Bool:=
 (match r.d with
  |some t=> !mP rd t&&(match d with|some u=> !Nat.beq u t|none=>true)
  |none=>true)&&
 (match d with
  |some t=> !mP r.rd t
  |none=>true)&&
 (match r.s with
  |some t=> !mP T t
  |none=>true)&&
 (match b with
  |true=>lent.all λt=> !mP r.F t
  |false=>r.s.isNone&&T.all λt=> !mP r.F t)
def Kb(s:S)(i:Nat):List Nat:=match s.hp[i]? with
 |some o=>o.ids
 |none=>[]
def vG:TOp->Option Nat
 | .atq k _=>some k
 |_=>none
def Hy(s:S)(d:Option Nat):List Nat:=match d with
 |some k=>(match lk s.fr k with
  |some v=>v.ids
  |none=>[])
 |none=>[]
def Mq(s s':S)(d:Option Nat)(T:List Nat):List Nat:=T++T.flatMap (Kb s)++Hy s' d
def Ln(s:S):TOp->Bool
 | .store _ x _=>(match s.get x with
  |some (.ptr _ _)=>true
  |_=>false)
 |_=>true
def uV(A:List Av.Rec)(s:S)(p:PO):Bool:=A.all (λr=> !mP p.us r.i||JV r (rz s p) p.rd p.lent p.d p.b)&&(!p.b||(rz s p).all λi=>Nat.blt i s.hp.length)&&Ln s p.o
def vB(A:List Av.Rec)(s s':S)(p:PO):List Av.Rec:=bif p.b then A++[⟨p.j,p.d,p.rd,vG p.o,Mq s s' p.d (rz s p)⟩]else A
def Jw{R:Type}(O:aj):List Av.Rec->List PO->S->(S->Option R)->(S->Option R)->Option R
 |_,[],s,κ,_=>κ s
 |A,p::l,s,κ,kp=>match p.g with
  |none=>bif uV A s p then evOp O p.d p.o s (λs'=>Jw O (vB A s s' p) l s' κ kp) kp else none
  |some (t,want)=>match lk s.fr t with
   |some (.d .bool b)=>bif want==b
    then(bif uV A (s.put t (.d .bool want)) p then evOp O p.d p.o (s.put t (.d .bool want)) (λs'=>Jw O (vB A (s.put t (.d .bool want)) s' p) l s' κ kp) kp else none)
    else(bif uV A (s.put t (.d .bool (!want))) p then Jw O (vB A (s.put t (.d .bool (!want))) ((s.put t (.d .bool (!want))).putO p.d (.raw Go.undef)) p) l ((s.put t (.d .bool (!want))).putO p.d (.raw Go.undef)) κ kp else none)
   |_=>none
def Jv{R:Type}(O:aj):List PO->S->(S->Option R)->(S->Option R)->Option R
 |[],s,κ,_=>κ s
 |p::l,s,κ,kp=>match p.g with
  |none=>evOp O p.d p.o s (λs'=>Jv O l s' κ kp) kp
  |some (t,want)=>match lk s.fr t with
   |some (.d .bool b)=>bif b
    then(match want with
     |true=>evOp O p.d p.o (s.put t (.d .bool true)) (λs'=>Jv O l s' κ kp) kp
     |false=>Jv O l ((s.put t (.d .bool true)).putO p.d (.raw Go.undef)) κ kp)
    else(match want with
     |true=>Jv O l ((s.put t (.d .bool false)).putO p.d (.raw Go.undef)) κ kp
     |false=>evOp O p.d p.o (s.put t (.d .bool false)) (λs'=>Jv O l s' κ kp) kp)
   |_=>none
inductive TC where
 |skip
 |region (ops:RC)
 |draw (k:Nat) (ops:RC) (af:List (List Nat))
 |draw2 (r:Nat) (pre:List PO) (tl:RC) (af:List (List Nat))
 |regL (pre:List PO)
 |seq (a b:TC)
 |cond (x:X) (a b:TC)
 |block (id:Nat) (a:TC)
 |loop (sh:Sh) (xs:List (Nat×Sh)) (a:TC)
 |exit (id:Nat)
 |ret
 |adj (l:List Adj) (a:TC)
 |after (a:TC) (l:List Adj)
 |cut (xs:List (Nat×Sh)) (a:TC)
def TC.asg:TC->List Nat
 | .region ops=>ops.asg
 | .draw _ ops _=>ops.asg
 | .regL pre=>pre.flatMap λp=>match p.d with|some d=>[d]|none=>[]
 | .draw2 _ pre tl _=>(pre.flatMap λp=>match p.d with|some d=>[d]|none=>[])++tl.asg
 | .seq a b=>a.asg++b.asg
 | .cond _ a b=>a.asg++b.asg
 | .block _ a=>a.asg
 | .loop _ _ a=>a.asg
 | .adj _ a=>a.asg
 | .after a _=>a.asg
 | .cut _ a=>a.asg
 |_=>[]
def TC.noD2:TC->Bool
 | .draw2 _ _ _ _=>false
 | .seq a b=>a.noD2&&b.noD2
 | .cond _ a b=>a.noD2&&b.noD2
 | .block _ a=>a.noD2
 | .loop _ _ a=>a.noD2
 | .adj _ a=>a.noD2
 | .after a _=>a.noD2
 | .cut _ a=>a.noD2
 |_=>true
def mR(A:List Nat)(fr:List (Nat×V))(k:Nat):Bool:=mP A k||(match lk fr k with
 |some v=> !v.isD
 |none=>false)
def Slot.tmOk(A:List Nat)(fr:List (Nat×V)):Slot->Bool
 | .tm k _=>mR A fr k
 |_=>true
def Sh.okAt(sh:Sh)(A:List Nat)(s:S):Bool:=sh.keep.all (λk=> !mP A k)&&sh.sl.all (Slot.tmOk A s.fr)&&sh.sk.fr.all (λx=>mR A s.fr x.1)
def aF{σ τ:Type}:Nat->(σ->Option (σ⊕τ))->σ->Option τ
 |0,_,_=>none
 |n+1,f,s=>Option.bind (f s) (Sum.elim (λs'=>aF n f s') some)
def wC(O:aj)(n:Nat):(R:Type)->TC->S->(kn:S->Option R)->(kx:Nat->S->Option R)->(kr kp:S->Option R)->Option R
 |_,.skip,s,kn,_,_,_=>kn s
 |R,.region ops,s,kn,_,_,kp=>wN O R ops s kn kp
 |R,.draw _ ops _,s,kn,_,_,kp=>wN O R ops s kn kp
 |_,.regL pre,s,kn,_,_,kp=>Jv O pre s kn kp
 |R,.draw2 r pre tl _,s,kn,_,_,kp=>Jw O [] pre ⟨s.fr,s.hp++List.replicate r .free⟩ (λs=>wN O R tl s kn kp) kp
 |R,.seq a b,s,kn,kx,kr,kp=>wC O n R a s (λs=>wC O n R b s kn kx kr kp) kx kr kp
 |R,.cond x a b,s,kn,kx,kr,kp=>match s.get x with
  |some (.d .bool t)=>bif t then wC O n R a s kn kx kr kp else wC O n R b s kn kx kr kp
  |_=>none
 |R,.block id a,s,kn,kx,kr,kp=>wC O n R a s kn (λi s=>bif Nat.beq i id then kn s else kx i s) kr kp
 |_,.exit id,s,_,kx,_,_=>kx id s
 |_,.ret,s,_,_,kr,_=>kr s
 |R,.adj l a,s,kn,kx,kr,kp=>sK l s λs=>wC O n R a s kn kx kr kp
 |R,.cut xs a,s,kn,kx,kr,kp=>bif xs.all (λx=>x.2.okAt a.asg s)then
  Option.bind (wC O n (XT xs) a s (λs=>inj xs 0 s) (λi s=>inj xs (i+3) s) (λs=>inj xs 1 s) (λs=>inj xs 2 s))
   (ik s (λkey s=>match key with|0=>kn s|1=>kr s|2=>kp s|i+3=>kx i s) xs)else none
 |R,.loop sh xs a,s,kn,kx,kr,kp=>match pack sh s with
  |some c=>bif sh.okAt a.asg s&&xs.all (λx=>x.2.okAt a.asg s)then Option.bind (aF n (λc=>wC O n (HL sh.sl⊕XT xs) a (unpack sh.sl c (sh.base s)) (λs=>match pack sh s with|some c=>some (.inl c)|none=>none)
   (λi s=>match inj xs (i+3) s with|some c=>some (.inr c)|none=>none) (λs=>match inj xs 1 s with|some c=>some (.inr c)|none=>none) (λs=>match inj xs 2 s with|some c=>some (.inr c)|none=>none)) c)
   (ik s (λkey s=>match key with|0=>kn s|1=>kr s|2=>kp s|i+3=>kx i s) xs)else none
  |none=>none
 |R,.after a l,s,kn,kx,kr,kp=>wC O n R a s (λs=>sK l s kn) kx kr kp
inductive RX where
 |tm (t:Nat)
 |cell (a:Nat) (t:Ty)
structure TF where
 code:TC
 res:List RX
 ntmps:Nat
 sh:Sh
 m:Nat
def Bv(s:S):List RX->Option (List V)
 |[]=>some []
 | .tm t::l=>match lk s.fr t with
  |some v=>match Bv s l with
   |some vs=>some (v::vs)
   |none=>none
  |none=>none
 | .cell a t::l=>match lk s.fr a with
  |some (.ptr id off)=>match s.hp[id]? with
   |some (.box _ cs)=>bif Nat.ble (off+t.sz) cs.length then(match Bv s l with
    |some vs=>some (whole t ((cs.drop off).take t.sz)::vs)
    |none=>none)else none
   |_=>none
  |_=>none
def du:Nat->List V->List (Nat×V)
 |_,[]=>[]
 |i,v::vs=>(i,v)::du (i+1) vs
def lO(sh:Sh)(c:HL sh.sl):S:=unpack sh.sl c (sh.base ⟨[],[]⟩)
def aZ(sh:Sh)(c:HL sh.sl):Option (Option S):=some (some (lO sh c))
def V.one:V->Bool
 | .agg vs=>vs.all V.cellD
 | .tup _=>false
 |_=>true
def xN(c:TF)(s:S):Option (Option S):=match Bv s c.res with
 |some vs=>bif Nat.ble c.sh.sk.hp.length s.hp.length&&(s.hp.take c.sh.sk.hp.length).all (λo=>o.ids.all λi=>Nat.ble (i+1) c.sh.sk.hp.length)&&vs.all (λv=>v.ids.all λi=>Nat.ble (i+1) c.sh.sk.hp.length)&&Nat.beq c.sh.n vs.length&&(Nat.beq vs.length 1||vs.all V.one)then
  (match pack c.sh ⟨du 0 vs,s.hp.take c.sh.sk.hp.length⟩with
  |some x=>aZ c.sh x
  |none=>none)else none
 |none=>none
def cO(O:aj)(n:Nat)(c:TF)(ars:List V)(os:List Ob):Option (Option S):=
 wC O n (Option S) c.code ⟨du 0 ars,os⟩ (xN c) (λ_ _=>none) (xN c) (λ_=>some none)
structure TD where
 c:TF
 a:TC
 h:TC
 ta:Nat
 tb:Nat
 t8:Nat
def sO(s:S)(t i:Nat):Bool:=match lk s.fr t with
 |some (.ptr j o)=>Nat.beq j i&&Nat.beq o 0
 |_=>false
def Ou(s:S)(t:Nat):Bool:=match lk s.fr t with
 |some _=>false
 |none=>true
def LS(d:TD)(s:S):Option (Option S):=xN d.c ⟨[(d.ta,.ptr 0 0),(d.tb,.ptr 1 0)],s.hp⟩
def LP(O:aj)(n:Nat)(d:TD)(ars:List V):Option (Option S):=
 wC O n (Option S) d.a ⟨du 0 ars,[]⟩ (λs=>bif sO s d.ta 0&&sO s d.tb 1&&Ou s d.t8&&Nat.beq s.hp.length 2 then
  wC O n (Option S) d.c.code s (xN d.c) (λ_ _=>none) (xN d.c) (λs=>bif sO s d.ta 0&&sO s d.tb 1 then
   wC O n (Option S) d.h ⟨[(0,.ptr 0 0),(1,.ptr 1 0)],s.hp⟩ (LS d) (λ_ _=>none) (LS d) (λ_=>none)else none)else none) (λ_ _=>none) (λ_=>none) (λ_=>none)
inductive Fun' where
 |code (c:TF)
 |dfr (d:TD)
 |nat (g:List V->Option S)
def mh(tbl:Nat->Option Fun'):Nat->aj
 |0=>λ_ _ _=>none
 |n+1=>λf ars os=>match tbl f with
  |some (.code c)=>bif Nat.beq os.length c.m&&Nat.ble ars.length c.ntmps then cO (mh tbl n) n c ars os else none
  |some (.dfr d)=>bif Nat.beq os.length 0&&Nat.ble ars.length d.c.ntmps then LP (mh tbl n) n d ars else none
  |some (.nat g)=>(match os with
   |[]=>(match g ars with
    |some s=>some (some s)
    |none=>none)
   |_=>none)
  |none=>none
abbrev tI:Ty:=.int .i64
abbrev tQ:Ty:=.int .u64
abbrev tY:Ty:=.int .u8
abbrev tB:Ty:=.bool
abbrev tS:Ty:=.str
@[reducible] def pr:List Ty->Ty
 |[]=>.unit
 |t::l=>.pair t (pr l)
end Go.Ev
namespace Go.Ev
open Go Go.RowKit Go.Av
abbrev aB(t:Ty)(x:t.den):List PV:=(aH t x).cells
theorem aG:∀(t:Ty) (x:t.den),(aB t x).length=t.sz
 | .int _,_=>rfl
 | .bool,_=>rfl
 | .str,_=>rfl
 | .list t,x=>by cases h:x.map (aH t)<;>simp[aB,aH,h,ke,PV.cells,Ty.sz]
 | .unit,_=>rfl
 | .pair a b,x=>by
  have h1:=aG a x.1
  have h2:=aG b x.2
  simp only[aB,aH,PV.cells,List.length_append,Ty.sz]at h1 h2⊢
  omega
 | .rx,.mk k l h ks=>rfl
theorem kN:∀(t:Ty) (x:t.den),(aH t x).isAgg=t.ag
 | .int _,_=>rfl
 | .bool,_=>rfl
 | .str,_=>rfl
 | .list t,x=>by cases h:x.map (aH t)<;>simp[aH,h,ke,PV.isAgg,Ty.ag]
 | .unit,_=>rfl
 | .pair a b,x=>rfl
 | .rx,.mk k l h ks=>rfl
theorem d6{t:Ty}(x:t.den)(h:t.ag=true):aH t x= .agg (aB t x):=by
 have:=kN t x
 rw[h]at this
 cases he:aH t x<;>rw[he]at this<;>simp[PV.isAgg]at this
 simp[aB,he,PV.cells]
theorem dq{t:Ty}(x:t.den)(h:t.ag=false):aB t x=[aH t x]:=by
 have:=kN t x
 rw[h]at this
 cases he:aH t x<;>rw[he]at this<;>simp_all[aB,PV.cells,PV.isAgg]
theorem eB{t:Ty}(h:t.ag=false):t.sz=1:=by cases t<;>simp_all[Ty.ag,Ty.sz]
theorem bH{t u:Ty}{x:t.den}{y:u.den}(h:bX t u x=some y):∃e:t=u,y=e▸x:=by
 unfold bX at h
 split at h
 ·rename_i e;exact⟨e,by simpa using h.symm⟩
 ·cases h
theorem bF{t u:Ty}{x:t.den}{y:u.den}(h:bX t u x=some y):aH u y=aH t x/\t=u:=by
 obtain⟨rfl,rfl⟩:=bH h
 exact⟨rfl,rfl⟩
theorem xF:∀(ks:List Rx),Cg ks=ks.map JY
 |[]=>rfl
 |k::ks=>by rw[Cg,xF ks];rfl
theorem pu(r:Rx):aB .rx r=[aH (.int .i64) r.out.1,aH (.int .i64) r.out.2.1,aH (.int .i64) r.out.2.2.1,aH (.list .rx) r.out.2.2.2.1]:=by
 cases r with
 |mk k l h ks=>
  show [_,_,_,_]=[_,_,_,_]
  simp only[aH,Rx.out,xF]
  rfl
theorem nC:∀(t:Ty) (off:Nat) (u:Ty) (x:t.den) (y:u.den),pp t off u x=some y->off+u.sz<=t.sz/\((aB t x).drop off).take u.sz=aB u y
 | .pair a b,off,u,x,y,h=>by
  have hl1:=aG a x.1
  have hl2:=aG b x.2
  have hc:aB (.pair a b) x=aB a x.1++aB b x.2:=rfl
  unfold pp at h
  cases hcond:(decide (Ty.pair a b=u)&&Nat.beq off 0)
  ·rw[hcond]at h
   simp only[cond_false]at h
   cases hle:Nat.ble (off+1) a.sz
   ·rw[hle]at h
    simp only[cond_false]at h
    have hge:a.sz<=off:=by
     have:=Nat.not_le_of_not_ble_eq_true (by rw[hle];simp)
     omega
    obtain⟨h1,h2⟩:=nC b (off - a.sz) u x.2 y h
    refine⟨by simp only[Ty.sz];omega,?_⟩
    rw[hc,List.drop_append,hl1,List.drop_eq_nil_of_le (by omega),List.nil_append]
    exact h2
   ·rw[hle]at h
    simp only[cond_true]at h
    have hlt:=Nat.le_of_ble_eq_true hle
    obtain⟨h1,h2⟩:=nC a off u x.1 y h
    refine⟨by simp only[Ty.sz];omega,?_⟩
    rw[hc,List.drop_append_of_le_length (by omega),List.take_append_of_le_length (by simp;omega)]
    exact h2
  ·rw[hcond]at h
   simp only[cond_true]at h
   simp only[Bool.and_eq_true,decide_eq_true_eq]at hcond
   have h0:off=0:=Nat.eq_of_beq_eq_true hcond.2
   subst h0
   obtain⟨e1,rfl⟩:=bF h
   refine⟨by omega,?_⟩
   rw[List.drop_zero,List.take_of_length_le (by rw[aG];exact Nat.le_refl _)]
   simp only[aB,e1]
 | .rx,off,u,x,y,h=>by
  have hc:=pu x
  have one:∀{t:Ty} {z:t.den},t.ag=false->bX t u z=some y->aB u y=[aH t z]/\u.sz=1:=fun{t z} ht hh=>by
   obtain⟨e1,rfl⟩:=bF hh
   exact⟨by rw[dq _ ht,e1],eB ht⟩
  unfold pp at h
  split at h
  ·by_cases hu:u= .rx
   ·subst hu
    simp only[decide_true,cond_true]at h
    obtain⟨e1,_⟩:=bF h
    refine⟨by simp[Ty.sz],?_⟩
    rw[List.drop_zero,List.take_of_length_le (by rw[aG];exact Nat.le_refl _)]
    simp only[aB,e1]
   ·simp only[hu,decide_false,cond_false]at h
    obtain⟨e1,e2⟩:=one rfl h
    rw[e1,e2,hc]
    exact⟨by simp[Ty.sz],rfl⟩
  ·obtain⟨e1,e2⟩:=one rfl h
   rw[e1,e2,hc]
   exact⟨by simp[Ty.sz],rfl⟩
  ·obtain⟨e1,e2⟩:=one rfl h
   rw[e1,e2,hc]
   exact⟨by simp[Ty.sz],rfl⟩
  ·obtain⟨e1,e2⟩:=one rfl h
   rw[e1,e2,hc]
   exact⟨by simp[Ty.sz],rfl⟩
  ·cases h
 | .int k,off,u,x,y,h=>part_leaf (.int k) off u x y h
 | .bool,off,u,x,y,h=>part_leaf .bool off u x y h
 | .str,off,u,x,y,h=>part_leaf .str off u x y h
 | .list t,off,u,x,y,h=>part_leaf (.list t) off u x y h
 | .unit,off,u,x,y,h=>part_leaf .unit off u x y h
where
 part_leaf (t:Ty) (off:Nat) (u:Ty) (x:t.den) (y:u.den) (h:(bif Nat.beq off 0 then bX t u x else none)=some y):off+u.sz<=t.sz/\((aB t x).drop off).take u.sz=aB u y:=by
  cases h0:Nat.beq off 0
  ·rw[h0]at h;cases h
  ·rw[h0]at h
   simp only[cond_true]at h
   have:=Nat.eq_of_beq_eq_true h0
   subst this
   obtain⟨e1,rfl⟩:=bF h
   refine⟨by omega,?_⟩
   rw[List.drop_zero,List.take_of_length_le (by rw[aG];exact Nat.le_refl _)]
   simp only[aB,e1]
theorem uv{t:Ty}{off:Nat}{u:Ty}{x:t.den}{y:u.den}(h:pp t off u x=some y):off+u.sz<=(aH t x).cells.length/\(u.ag=false->u.sz=1)/\(aH t x).sub off u.sz u.ag=aH u y:=by
 obtain⟨h1,h2⟩:=nC t off u x y h
 refine⟨by rw[aG];exact h1,eB,?_⟩
 cases hu:u.ag
 ·have hs:=eB hu
  rw[hs,dq y hu]at h2
  have hlt:off<(aB t x).length:=by rw[aG];omega
  rw[List.drop_eq_getElem_cons hlt]at h2
  simp only[List.take_succ_cons,List.take_zero,List.cons.injEq,and_true]at h2
  simp only[PV.sub,List.getD,List.getElem?_eq_getElem hlt,Option.getD_some]
  exact h2
 ·simp only[PV.sub]
  rw[d6 y hu,<-h2]
theorem da:∀(t:Ty) (x:t.den),(fq t x).map aM=(aB t x).map BV.pv/\(fq t x).length=t.sz
 | .int _,_=>⟨rfl,rfl⟩
 | .bool,_=>⟨rfl,rfl⟩
 | .str,_=>⟨rfl,rfl⟩
 | .list t,x=>⟨by rw[dq (t:=.list t) x rfl];rfl,rfl⟩
 | .unit,_=>⟨rfl,rfl⟩
 | .pair a b,x=>by
  obtain⟨h1,h2⟩:=da a x.1
  obtain⟨h3,h4⟩:=da b x.2
  have hc:aB (.pair a b) x=aB a x.1++aB b x.2:=rfl
  refine⟨?_,by simp only[fq,List.length_append,h2,h4,Ty.sz]⟩
  rw[hc]
  simp only[fq,List.map_append,h1,h3]
 | .rx,x=>⟨by rw[pu x];rfl,rfl⟩
theorem lH{u:Ty}{v:V}{x:u.den}(h:gx u v=some x):(aM v).toPV=some (aH u x):=by
 cases v<;>simp only[gx]at h<;>try cases h
 ·obtain⟨e1,rfl⟩:=bF h;rw[e1];rfl
 ·obtain⟨rfl,rfl⟩:=bH h;rfl
 ·obtain⟨e1,rfl⟩:=bF h;rw[e1];rfl
theorem Bc{u:Ty}{v:V}{x:u.den}(h:gx u v=some x):aS v= .b (aM v):=by
 cases v<;>simp only[gx]at h<;>first|rfl|cases h
theorem rF:∀(t:Ty) (l:List V) (x:t.den) (m:List V),G9 t l=some (x,m)->∃l0,l=l0++m/\(l0.map aM).mapM BV.toPV=some (aB t x)
 | .unit,l,x,m,h=>by simp only[G9,Option.some.injEq,Prod.mk.injEq]at h;obtain⟨_,rfl⟩:=h;exact⟨[],rfl,rfl⟩
 | .pair a b,l,x,m,h=>by
  simp only[G9]at h
  split at h
  ·rename_i y l1 h1
   split at h
   ·rename_i z l2 h2
    simp only[Option.some.injEq,Prod.mk.injEq]at h
    obtain⟨rfl,rfl⟩:=h
    obtain⟨p,rfl,hp⟩:=rF a l y l1 h1
    obtain⟨q,rfl,hq⟩:=rF b l1 z l2 h2
    refine⟨p++q,by simp,?_⟩
    have hc:aB (.pair a b) (y,z)=aB a y++aB b z:=rfl
    rw[hc,List.map_append,List.mapM_append,hp,hq]
    rfl
   ·cases h
  ·cases h
 | .rx,l,x,m,h=>by
  unfold G9 at h
  split at h
  ·rename_i a b c e l'
   split at h
   ·rename_i a' b' c' e' h1 h2 h3 h4
    simp only[Option.some.injEq,Prod.mk.injEq]at h
    obtain⟨rfl,rfl⟩:=h
    refine⟨[a,b,c,e],rfl,?_⟩
    rw[pu]
    simp only[List.map_cons,List.map_nil,List.mapM_cons,List.mapM_nil,lH h1,lH h2,lH h3,lH h4]
    rfl
   ·cases h
  ·cases h
 | .int k,l,x,m,h=>asm_leaf (.int k) l x m rfl h
 | .bool,l,x,m,h=>asm_leaf .bool l x m rfl h
 | .str,l,x,m,h=>asm_leaf .str l x m rfl h
 | .list t,l,x,m,h=>asm_leaf (.list t) l x m rfl h
where
 asm_leaf (t:Ty) (l:List V) (x:t.den) (m:List V) (ht:t.ag=false) (h:(match l with
  |v::l=>match gx t v with
   |some x=>some (x,l)
   |none=>none
  |[]=>none)=some (x,m)):∃l0,l=l0++m/\(l0.map aM).mapM BV.toPV=some (aB t x):=by
  split at h
  ·rename_i v l'
   split at h
   ·rename_i y h1
    simp only[Option.some.injEq,Prod.mk.injEq]at h
    obtain⟨rfl,rfl⟩:=h
    refine⟨[v],rfl,?_⟩
    rw[dq _ ht]
    simp only[List.map_cons,List.map_nil,List.mapM_cons,List.mapM_nil,lH h1]
    rfl
   ·cases h
  ·cases h
theorem eH{t:Ty}{v:V}{x:t.den}(h:cY t v=some x):(aS v).toPV=some (aH t x):=by
 unfold cY at h
 split at h
 ·rename_i vs
  split at h
  ·rename_i ht
   split at h
   ·rename_i y h1
    cases h
    obtain⟨l0,h2,h3⟩:=rF t vs x [] h1
    rw[List.append_nil]at h2
    subst h2
    show((vs.map aM).mapM BV.toPV).map PV.agg=_
    rw[h3,d6 x ht]
    rfl
   ·cases h
  ·cases h
 ·rw[Bc h]
  exact lH h
theorem FK(v:V)(hv:∀vs,v≠.tup vs):(cw v).map aM=(aS v).cells:=by
 cases v with
 |d t x=>exact(da t x).1
 |agg vs=>rfl
 |tup vs=>exact absurd rfl (hv vs)
 |nil t=>rfl
 |raw v=>
  show [bq v]=_;unfold aS;simp only[aM];cases hc:bq v<;>first|rfl|skip
  rename_i p
  unfold bq at hc
  split at hc
  ·cases hc
  ·cases hc;rfl
 |full t x=>rfl
 |any=>rfl
 |dp t x=>rfl
 |fnD f cs=>rfl
 |lit k t xs=>cases xs<;>rfl
 |_=>rfl
theorem M9(sz:Nat)(xs:List PV):(ke sz xs).cells=[ke sz xs]/\(ke sz xs).cellOk=true:=by
 cases xs<;>exact⟨rfl,rfl⟩
theorem Cu(t:Ty)(x:List t.den):(aH (.list t) x).cells=[aH (.list t) x]/\(aH (.list t) x).cellOk=true:=M9 _ _
theorem uo:∀(t:Ty) (x:t.den),((aB t x).all PV.cellOk)=true
 | .int _,_=>rfl
 | .bool,_=>rfl
 | .str,_=>rfl
 | .list t,x=>by
  have h:=Cu t x
  show((aH (.list t) x).cells.all PV.cellOk)=true
  rw[h.1]
  simp[h.2]
 | .unit,_=>rfl
 | .pair a b,x=>by
  show(((aH a x.1).cells++(aH b x.2).cells).all PV.cellOk)=true
  rw[List.all_append,uo a x.1,uo b x.2]
  rfl
 | .rx,r=>by
  rw[pu]
  have h:=(Cu .rx r.out.2.2.2.1).2
  simp only[List.all_cons,List.all_nil,Bool.and_true,h]
  rfl
theorem u9(t:Ty)(x:t.den):(aH t x).ok=true:=uo t x
theorem jJ:∀(t:Ty) (x:t.den),t.flat=true->(aH t x).Flat/\∀y∈aB t x,y.Flat
 | .int _,_,_=>⟨.sc _,λy hy=>by rw[List.mem_singleton.1 hy];exact .sc _⟩
 | .bool,_,_=>⟨.sc _,λy hy=>by rw[List.mem_singleton.1 hy];exact .sc _⟩
 | .str,_,_=>⟨.sc _,λy hy=>by rw[List.mem_singleton.1 hy];exact .sc _⟩
 | .unit,_,_=>⟨.agg [] (by simp),λy hy=>by cases hy⟩
 | .pair a b,x,h=>by
  simp only[Ty.flat,Bool.and_eq_true]at h
  have h1:=(jJ a x.1 h.1).2
  have h2:=(jJ b x.2 h.2).2
  have hc:∀y∈aB (.pair a b) x,y.Flat:=λy hy=>by
   have:aB (.pair a b) x=aB a x.1++aB b x.2:=rfl
   rw[this,List.mem_append]at hy
   exact hy.elim (h1 y) (h2 y)
  exact⟨.agg _ λi y hy=>hc y (List.mem_of_getElem? hy),hc⟩
end Go.Ev
namespace Go.Ev
open Go Go.RowKit Go.Av
def valOf:(t:Ty)->t.den->Value
 | .int k,x=>.int k x
 | .bool,x=>.bool x
 | .str,x=>.string ⟨x.toArray⟩
 |_,_=>.slice none 0 0
def uA:V->Value
 | .d t x=>valOf t x
 | .nil _=>.slice none 0 0
 | .raw v=>v
 |_=>Go.undef
def Ty.sc:Ty->Bool
 | .int _=>true
 | .bool=>true
 | .str=>true
 |_=>false
def V.konst:V->Bool
 | .d t _=>t.sc
 | .nil _=>true
 | .raw _=>true
 |_=>false
def X.er:X->SX
 | .tm j=>.tm j
 | .k t x=>.c (valOf t x)
 | .nil _=>.c (.slice none 0 0)
 | .ag vs=>.c (.agg (vs.map uA).toArray)
 | .f n=>.f n
 | .raw v=>.c v
def X.wf:X->Bool
 | .k t _=>t.sc
 | .ag vs=>vs.all V.konst
 | .raw v=>match v with
  | .agg _=>false
  | .slice _ _ _=>false
  |_=>true
 |_=>true
def mX(t:Ty):Value:=match t.ag with
 |true=>.agg (((fq t t.zero).map λv=>match v with
  | .d (.list _) _=>Value.slice none 0 0
  |v=>uA v).toArray)
 |false=>match t with
  | .list _=>.slice none 0 0
  |t=>valOf t t.zero
def Gi(x:Option X):Option SX:=x.map X.er
def TOp.er:TOp->SOp
 | .mv x=>.mv x.er
 | .pick c a b=>.pick c.er a.er b.er
 | .bin op x y=>.bin op x.er y.er
 | .eqB neg x y=>.eqB neg x.er y.er
 | .eqT neg tid _ x y=>.eqT neg tid x.er y.er
 | .un op x=>.un op x.er
 | .len str x=>.len str x.er
 | .lenM k e x=>.lenM k e x.er
 | .idxS x i=>.idxS x.er i.er
 | .idxV n t x i=>.idxV n t.sz t.ag x.er i.er
 | .idxA t x i=>.idxA t.sz x.er i.er
 | .idxP n t x i=>.idxP n t.sz t.ag x.er i.er
 | .fldA off t x=>.fldA off t.sz t.ag x.er
 | .fld off t x=>.fld off t.sz t.ag x.er
 | .load t x=>.load t.sz t.ag x.er
 | .store t x v=>.store t.sz x.er v.er
 | .alloc tid zero=>.alloc tid (zero.map uA)
 | .box tid x=>.box tid x.er
 | .boxD tid _ x=>.boxD tid x.er
 | .build zero parts=>.build (zero.map uA) (parts.map λq=>(q.1,q.2.1,q.2.2.er))
 | .bslice own tid t ln parts=>.bslice own tid t.sz ln (parts.map X.er)
 | .mslice tid t bytes l c=>.mslice tid t.sz bytes (mX t) l.er c.er
 | .append tid t bytes x y=>.append tid t.sz bytes x.er y.er
 | .cvtI k x=>.cvtI k x.er
 | .slc _ t x lo hi mx=>.slc t.sz x.er (Gi lo) (Gi hi) (Gi mx)
 | .slcS x lo hi=>.slcS x.er (Gi lo) (Gi hi)
 | .ext x i=>.ext x.er i
 | .nilc x=>.nilc x.er
 | .call bor f args _=>.call bor (f%10000) (args.map λa=>a.2.er)
 | .callA _ bor B f args _=>.callA bor B (f%10000) (args.map λa=>a.2.er)
 | .callv _ bor B _ x args _=>.callv bor B x.er (args.map λa=>a.2.er)
 | .callp bor _ x args _=>.callp bor x.er (args.map λa=>a.2.er)
 | .b2s x=>.b2s x.er
 | .mkfn f caps=>.mkfn f (caps.map X.er)
 | .mkmap k e _ _=>.mkmap k e
 | .lookup k e ok _ b m x=>.lookup k e ok (mX b) m.er x.er
 | .mapset k e _ _ m x v=>.mapset k e m.er x.er v.er
 | .copy tid t x y=>.copy tid t.sz x.er y.er
 | .mnmx mx k x ys=>.mnmx mx k x.er (ys.map X.er)
 | .panic x=>.panic x.er
 | .iface tid x=>.iface tid x.er
 | .bsliceF tid t ln parts=>.bslice false tid t.sz ln (parts.map X.er)
 | .appD tid t bytes x y=>.appD tid t.sz bytes x.er y.er
 | .bsliceN tid _ t ln parts=>.bsliceN tid t.sz ln (parts.map X.er)
 | .msliceT tid k _ bytes l c=>.msliceT k tid 1 bytes (.slice none 0 0) l.er c.er
 | .appT tid k t bytes x y=>.appT k tid t.sz bytes x.er y.er
 | .atq k op=>.atq k op.er
def LX(P:Program)(go:TypeId->Ty->Bool):List Field->Nat->Ty->Bool
 |[],_,.unit=>true
 |f::l,off,.pair a b=>(f.name != "_")&&Nat.beq f.offset off&&(match P.info? f.type with
  |some i=>Nat.beq i.size a.sz&&(P.underlying f.type).isSome&&(fG P f.type==a.ag)
  |none=>false)&&go f.type a&&LX P go l (off+a.sz) b
 |_,_,_=>false
def s7(P:Program):Nat->TypeId->Ty->Bool
 |0,_,_=>false
 |d+1,t,u=>match P.underlying t,u with
  |some .bool,.bool=>true
  |some (.int k),.int k'=>decide (k=k')
  |some .string,.str=>true
  |some (.struct fs),u=> !P.stoodInHeld t&&LX P (s7 P d) fs.toList 0 u
  |_,_=>false
def jz(l:List (Arg×X)):Bool:=l.all λa=>a.2.wf
def Ks(x:Option X):Bool:=match x with
 |some x=>x.wf
 |none=>true
def TOp.wf(P:Program):TOp->Bool
 | .mv x=>x.wf
 | .pick c a b=>c.wf&&a.wf&&b.wf
 | .bin _ x y=>x.wf&&y.wf
 | .eqB _ x y=>x.wf&&y.wf
 | .eqT _ tid t x y=>x.wf&&y.wf&&s7 P 64 tid t
 | .un _ x=>x.wf
 | .len _ x=>x.wf
 | .lenM _ _ x=>x.wf
 | .idxS x i=>x.wf&&i.wf
 | .idxV _ _ x i=>x.wf&&i.wf
 | .idxA _ x i=>x.wf&&i.wf
 | .idxP _ _ x i=>x.wf&&i.wf
 | .fldA _ _ x=>x.wf
 | .fld _ _ x=>x.wf
 | .load _ x=>x.wf
 | .store _ x v=>x.wf&&v.wf
 | .alloc _ zero=>zero.all V.konst
 | .box _ x=>x.wf
 | .boxD _ _ x=>x.wf
 | .build zero parts=>zero.all V.konst&&parts.all λq=>q.2.2.wf
 | .bslice _ _ _ _ parts=>parts.all X.wf
 | .mslice _ t _ l c=>l.wf&&c.wf&&decide (t≠.rx)
 | .append _ _ _ x y=>x.wf&&y.wf
 | .cvtI _ x=>x.wf
 | .slc _ _ x lo hi mx=>x.wf&&Ks lo&&Ks hi&&Ks mx
 | .slcS x lo hi=>x.wf&&Ks lo&&Ks hi
 | .ext x _=>x.wf
 | .nilc x=>x.wf
 | .call _ _ args sh=>jz args&&sh.wfB
 | .callA _ _ _ _ args sh=>jz args&&sh.wfB
 | .callv _ _ _ num x args sh=>x.wf&&jz args&&dI P (num%10000)&&sh.wfB
 | .callp _ num x args sh=>x.wf&&jz args&&dI P (num%10000)&&sh.wfB
 | .b2s x=>x.wf
 | .mkfn _ caps=>caps.all X.wf
 | .mkmap _ _ _ _=>true
 | .lookup k _ _ a b m x=>m.wf&&x.wf&&s7 P 64 k a&&b.sc
 | .mapset k _ a _ m x v=>m.wf&&x.wf&&v.wf&&s7 P 64 k a
 | .copy _ _ x y=>x.wf&&y.wf
 | .mnmx _ _ x ys=>x.wf&&ys.all X.wf
 | .panic x=>x.wf
 | .iface _ x=>x.wf
 | .bsliceF _ _ _ parts=>parts.all X.wf
 | .appD _ _ _ x y=>x.wf&&y.wf
 | .bsliceN _ _ _ _ parts=>parts.all X.wf
 | .msliceT _ _ _ _ l c=>l.wf&&c.wf
 | .appT _ _ _ _ x y=>x.wf&&y.wf
 | .atq _ op=>op.wf P
def ye(t:Nat)(want:Bool)(r alt:SX):SOp:=match want with
 |true=>.pick (.tm t) r alt
 |false=>.pick (.tm t) alt r
def RC.er:Option (Nat×Bool)->RC->List SOper
 |_,.nil=>[]
 |g,.op d o rest=>⟨d,o.er,g⟩::rest.er g
 |g,.adj _ rest=>rest.er g
 |g,.gb t want blk _ r alt dst rest=>blk.er (some (t,want))++(⟨some dst,ye t want r.er alt.er,g⟩::rest.er g)
def TOp.pureB:TOp->Bool
 | .store .. =>false
 | .alloc .. =>false
 | .box .. =>false
 | .bslice own .. => !own
 | .mslice .. =>false
 | .append .. =>false
 | .callA .. =>false
 | .callv .. =>false
 | .mkmap .. =>false
 | .mapset .. =>false
 | .copy .. =>false
 | .panic .. =>false
 | .atq .. =>false
 | .msliceT .. =>false
 | .appT .. =>false
 |_=>true
def TOp.exB:TOp->Bool
 | .append .. =>true
 | .callA .. =>true
 | .callv .. =>true
 | .store .. =>true
 |o=>o.pureB
def TOp.isAt:TOp->Bool
 | .atq .. =>true
 |_=>false
def RC.pureB:RC->Bool
 | .nil=>true
 | .op _ o rest=>o.pureB&&rest.pureB
 | .adj _ _=>false
 | .gb _ _ blk _ _ _ _ rest=>blk.pureB&&rest.pureB
def RC.wf(P:Program):RC->Bool
 | .nil=>true
 | .op _ o rest=>o.wf P&&rest.wf P
 | .adj _ rest=>rest.wf P
 | .gb _ _ blk _ r alt _ rest=>blk.wf P&&blk.pureB&&r.wf&&alt.wf&&rest.wf P
def OA(j:Nat)(b:Bool)(us:List Nat)(d:Option Nat)(o:TOp):PO:=⟨j,b,us,o.er.rd,o.er.lent,d,o,none⟩
def Oz(j:Nat)(b:Bool)(us:List Nat)(t:Nat)(want:Bool)(d:Option Nat)(o:TOp):PO:=⟨j,b,us,o.er.rd++[t],o.er.lent,d,o,some (t,want)⟩
def PO.so(p:PO):SOper:=⟨p.d,p.o.er,p.g⟩
def zK(pre:List PO):List SOper:=(List.range pre.length).map λj=>match pre.find? λp=>Nat.beq p.j j with
 |some p=>p.so
 |none=>default
def TC.er:TC->AC
 | .skip=>.skip
 | .region ops=>.region (ops.er none)
 | .draw k ops af=>.draw k (ops.er none) af
 | .regL pre=>.region (pre.map PO.so)
 | .draw2 _ pre tl af=>.draw2 (pre.map λp=>(p.j,p.b)) (zK pre++tl.er none) af
 | .seq a b=>.seq a.er b.er
 | .cond x a b=>.cond x.er a.er b.er
 | .block id a=>.block id a.er
 | .loop _ _ a=>.loop a.er
 | .exit id=>.exit id
 | .ret=>.ret
 | .adj _ a=>a.er
 | .after a _=>a.er
 | .cut _ a=>a.er
theorem mQ(fr:List (Nat×V))(k:Nat):Av.look (fr.map λx=>(x.1,aS x.2)) k=(lk fr k).map aS:=by
 induction fr with
 |nil=>rfl
 |cons x fr ih=>
  obtain⟨j,v⟩:=x
  simp only[List.map_cons,Av.look,lk]
  by_cases h:k=j
  ·subst h;simp
  ·rw[if_neg h,ih]
   have:Nat.beq k j=false:=by
    cases hb:Nat.beq k j
    ·rfl
    ·exact absurd (Nat.eq_of_beq_eq_true hb) h
   rw[this];rfl
theorem rR{v:V}(h:v.konst=true):bq (uA v)=aM v:=by
 cases v<;>simp only[V.konst]at h<;>try cases h
 ·rename_i t x
  cases t<;>simp only[Ty.sc]at h<;>first|rfl|cases h
 ·rfl
 ·rfl
theorem aA{s:S}{x:X}{v:V}(hw:x.wf=true)(h:s.get x=some v):(enc s).get x.er=some (aS v):=by
 cases x with
 |tm k=>
  simp only[S.get]at h
  show Av.look (s.fr.map λx=>(x.1,aS x.2)) k=_
  rw[mQ,h];rfl
 |k t x=>
  simp only[S.get,Option.some.injEq]at h
  subst h
  simp only[X.wf]at hw
  cases t<;>simp only[Ty.sc]at hw<;>first|rfl|cases hw
 |nil t=>simp only[S.get,Option.some.injEq]at h;subst h;rfl
 |ag vs=>
  simp only[S.get,Option.some.injEq]at h
  subst h
  simp only[X.wf,List.all_eq_true]at hw
  show some (AV.agg (((vs.map uA).toArray).toList.map bq))=some (.agg (vs.map aM))
  simp only[List.map_map]
  congr 2
  exact List.map_congr_left λv hv=>rR (hw v hv)
 |f n=>simp only[S.get,Option.some.injEq]at h;subst h;rfl
 |raw v=>
  simp only[S.get,Option.some.injEq]at h
  subst h
  simp only[X.wf]at hw
  cases v<;>simp only at hw<;>first|rfl|cases hw
theorem fx(s:S)(d:Option Nat)(v:V):enc (s.putO d v)=(enc s).putO d (aS v):=by
 cases d<;>rfl
theorem bO(s:S)(i:Nat):(enc s).hp[i]? =(s.hp[i]?).map bN:=by simp[enc]
theorem d9{α:Type}:∀(l:List α) (n:Nat) (y:α),setAt l n y=l.set n y
 |[],_,_=>rfl
 |_::_,0,_=>rfl
 |x::l,n+1,y=>by simp[setAt,d9 l n y]
theorem Ft(t:Ty)(ht:t≠.rx):(fe (mX t)).toPV=some (aH t t.zero)/\(fe (mX t)).cells.length=t.sz:=by
 have leafZ:∀(t:Ty),(((fq t t.zero).map λv=>match v with
  | .d (.list _) _=>Value.slice none 0 0
  |v=>uA v).map bq).mapM BV.toPV=some (aB t t.zero)/\(fq t t.zero).length=t.sz:=by
  intro t
  refine⟨?_,(da t t.zero).2⟩
  induction t with
  |pair a b iha ihb=>
   have hc:aB (.pair a b) (Ty.zero (.pair a b))=aB a a.zero++aB b b.zero:=rfl
   rw[hc]
   simp only[fq,Ty.zero,List.map_append,List.mapM_append]
   rw[iha,ihb]
   rfl
  |rx=>rfl
  |list t=>rfl
  |_=>rfl
 cases h:t.ag
 ·cases t<;>simp[Ty.ag]at h<;>exact⟨rfl,rfl⟩
 ·have:=leafZ t
  simp only[mX,h]
  simp only[fe]
  refine⟨?_,?_⟩
  ·show((((((fq t t.zero).map λv=>match v with
   | .d (.list _) _=>Value.slice none 0 0
   |v=>uA v).toArray).toList).map bq).mapM BV.toPV).map PV.agg=_
   rw[List.toList_toArray,this.1,d6 _ h]
   rfl
  ·show(((((fq t t.zero).map λv=>match v with
   | .d (.list _) _=>Value.slice none 0 0
   |v=>uA v).toArray).toList).map bq).length=_
   simp[this.2]
end Go.Ev
namespace Go.Ev
open Go Go.RowKit Go.Av
structure Zt where
 ty:List Ty
 kk:List K
 sh:List Sh
 zs:List (List V)
structure Zx where
 o:List TOp
 c:List TC
def x7{α:Type}(d:α):List α->Nat->α
 |[],_=>d
 |x::l,n=>bif Nat.beq n 0 then x else x7 d l (n - 1)
def zf:Nat->Nat->Nat×Nat
 |0,n=>(0,n)
 |f+1,n=>bif Nat.ble 8 (n%16)then(match zf f (n/16)with|(v,r)=>(n%16 - 8+8*v,r))else(n%16,n/16)
def zn(n:Nat):Nat×Nat:=zf 24 n
def zl{α:Type}(p:Nat->α×Nat):Nat->Nat->List α×Nat
 |0,n=>([],n)
 |k+1,n=>match p n with
  |(a,r)=>match zl p k r with
   |(l,r)=>(a::l,r)
def uO{α:Type}(p:Nat->α×Nat)(n:Nat):List α×Nat:=match zn n with
 |(k,r)=>zl p k r
def zm{α β:Type}(f:α->β)(p:α×Nat):β×Nat:=match p with
 |(a,r)=>(f a,r)
def zb{α β:Type}(p:α×Nat)(f:α->Nat->β×Nat):β×Nat:=match p with
 |(a,r)=>f a r
def My(v:Nat):Int:=bif Nat.beq (v%2) 0 then Int.ofNat (v/2)else Int.negSucc (v/2)
def Om:Nat->Nat->Nat->List Nat×Nat
 |0,_,n=>([],n)
 |k+1,b,n=>match zn n with
  |(v,r)=>match Om k (b+v) r with
   |(l,r)=>((b+v)::l,r)
def OJ(n:Nat):List Nat×Nat:=match zn n with
 |(k,r)=>Om k 0 r
def Jt(b c:Nat):Nat:=bif Nat.beq (c%2) 0 then b+c/2 else b - (c/2+1)
def zt(b n:Nat):Nat×Nat:=match zn n with
 |(c,r)=>(Jt b c,r)
def zd(b n:Nat):Option Nat×Nat:=match zn n with
 |(c,r)=>(bif Nat.beq c 0 then none else some (Jt b (c - 1)),r)
section
variable (T:Zt)
def sU(n:Nat):Ty×Nat:=match zn n with
 |(i,r)=>(x7 .unit T.ty i,r)
def zk(n:Nat):K×Nat:=match zn n with
 |(i,r)=>(x7 .e T.kk i,r)
def OE(n:Nat):Sh×Nat:=match zn n with
 |(i,r)=>(x7 ⟨[],⟨[],[]⟩,[]⟩ T.sh i,r)
def zV:Nat->Nat->V×Nat
 |0,n=>(.any,n)
 |f+1,n=>match zn n with
  |(o,r)=>match o with
   |0=>(.any,r)
   |1=>zm V.sl (zn r)
   |2=>zb (zn r) λi r=>zm (V.ptr i) (zn r)
   |3=>zm V.mp (zn r)
   |4=>zm V.nil (sU T r)
   |5=>(.raw (.pointer none),r)
   |6=>(.raw (.slice none 0 0),r)
   |7=>zm V.agg (uO (zV f) r)
   |8=>zm V.tup (uO (zV f) r)
   |9=>zm (λv=>V.d tI (My v)) (zn r)
   |10=>zm (λv=>V.d tB (Nat.beq v 1)) (zn r)
   |11=>zb (zn r) λi r=>zm (V.clo i) (uO zn r)
   |12=>(.raw .nilIface,r)
   |13=>(.raw (.map none),r)
   |14=>(.ifc,r)
   |15=>zb (zn r) λk r=>zm (λv=>match x7 .unit T.ty k with| .int k=>V.d (.int k) (My v)|_=>.any) (zn r)
   |_=>zm (λl=>V.d tS (l.map UInt8.ofNat)) (uO zn r)
def zX(b n:Nat):X×Nat:=match zn n with
 |(c,r)=>match c%4 with
  |0=>(.tm (Jt b (c/4)),r)
  |1=>(.k tI (My (c/4)),r)
  |_=>match c/4 with
   |0=>(.k tB false,r)
   |1=>(.k tB true,r)
   |2=>zm X.nil (sU T r)
   |3=>zb (zn r) λk r=>zm (λv=>match x7 .unit T.ty k with| .int k=>X.k (.int k) (My v)|_=>.f 0) (zn r)
   |4=>zm (λl=>X.k tS (l.map UInt8.ofNat)) (uO zn r)
   |5=>zm X.ag (uO (zV T 9) r)
   |6=>zm X.f (zn r)
   |7=>(.raw (.pointer none),r)
   |8=>(.raw (.slice none 0 0),r)
   |9=>(.raw .nilIface,r)
   |_=>(.raw (.map none),r)
def ND(b n:Nat):(Arg×X)×Nat:=match zn n with
 |(c,r)=>zm (λx=>(bif Nat.beq c 0 then Arg.x else .d (x7 .unit T.ty (c - 1)),x)) (zX T b r)
def OD:Nat->BinOp
 |0=>.add|1=>.sub|2=>.mul|3=>.quo|4=>.rem|5=>.and|6=>.or|7=>.xor|8=>.andNot|9=>.shl|10=>.shr
 |11=>.eql|12=>.neq|13=>.lss|14=>.leq|15=>.gtr|_=>.geq
def Oo(b n:Nat):Option X×Nat:=match zn n with
 |(0,r)=>(none,r)
 |(_,r)=>zm some (zX T b r)
def On(x:Zx)(b:Nat)(o:Nat)(r:Nat):TOp×Nat:=
 match o with
 |1=>zm (λt=>.mv (.tm t)) (zt b r)
 |2=>zb (sU T r) λt r=>zm (λx=>.load t (.tm x)) (zt b r)
 |3=>zb (zn r) λj r=>zb (sU T r) λt r=>zm (λx=>.fldA j t (.tm x)) (zt b r)
 |5=>zb (zn r) λk r=>zb (zX T b r) λx r=>zm (λy=>.bin (OD k) x y) (zX T b r)
 |6=>zm .mv (zX T b r)
 |7=>zb (sU T r) λt r=>zb (zX T b r) λx r=>zm (λi=>.idxA t x i) (zX T b r)
 |8=>zb (sU T r) λt r=>zb (zX T b r) λx r=>zm (λi=>.store t x i) (zX T b r)
 |9=>zm (.len false) (zX T b r)
 |10=>zb (zn r) λf r=>zb (uO (ND T b) r) λl r=>zm (λq=>.call false f l q) (OE T r)
 |12=>zm .nilc (zX T b r)
 |13=>zb (zX T b r) λx r=>zm (.ext x) (zn r)
 |14=>zm (.un .not) (zX T b r)
 |15=>zm (λi=>x7 (.mv (.tm 0)) x.o i) (zn r)
 |17=>zb (zn r) λt r=>zm (λi=>.alloc t (x7 [] T.zs i)) (zn r)
 |18=>zb (zn r) λt r=>zb (sU T r) λu r=>zm (.boxD t u) (zX T b r)
 |19=>zb (zn r) λi r=>zm (.build (x7 [] T.zs i)) (uO (λr=>zb (zn r) λa r=>zb (zn r) λc r=>zm (λx=>(a,c,x)) (zX T b r)) r)
 |20=>zb (zn r) λo r=>zb (zn r) λt r=>zb (sU T r) λu r=>zb (zn r) λl r=>zm (λp=>.bslice (Nat.beq o 1) t u l p) (uO (zX T b) r)
 |21=>zb (zn r) λt r=>zb (sU T r) λu r=>zb (zn r) λs r=>zb (zX T b r) λx r=>zm (.append t u s x) (zX T b r)
 |22=>zb (zn r) λm r=>zb (uO zn r) λB r=>zb (zn r) λf r=>zb (uO (ND T b) r) λl r=>zm (λq=>.callA (Nat.ble 2 m) (Nat.beq (m%2) 1) B f l q) (OE T r)
 |23=>zb (zn r) λt r=>zb (sU T r) λu r=>zb (zn r) λs r=>zb (zX T b r) λx r=>zm (.mslice t u s x) (zX T b r)
 |24=>zb (zn r) λj r=>zb (sU T r) λt r=>zm (.fld j t) (zX T b r)
 |25=>zb (zn r) λt r=>zm (.box t) (zX T b r)
 |26=>zb (zn r) λm r=>zb (zX T b r) λx r=>zm (.eqB (Nat.beq m 1) x) (zX T b r)
 |27=>zb (zX T b r) λx r=>zm (.idxS x) (zX T b r)
 |28=>zm (.len true) (zX T b r)
 |29=>zb (zn r) λm r=>zb (zn r) λt r=>zb (sU T r) λu r=>zb (zX T b r) λx r=>zm (.eqT (Nat.beq m 1) t u x) (zX T b r)
 |30=>zb (zn r) λf r=>zb (uO (ND T b) r) λl r=>zm (λq=>.call true f l q) (OE T r)
 |31=>zb (zX T b r) λx r=>zb (Oo T b r) λl r=>zm (.slcS x l) (Oo T b r)
 |_=>zb (zn r) λm r=>zb (sU T r) λt r=>zb (zX T b r) λx r=>zb (Oo T b r) λl r=>zb (Oo T b r) λh r=>zm (.slc (Nat.beq m 1) t x l h) (Oo T b r)
def OK(x:Zx)(b:Nat)(o:Nat)(r:Nat):TOp×Nat:=match o with
 |33=>zb (zn r) λs r=>zb (zn r) λo r=>zm (.atq s) (On T x b o r)
 |o=>On T x b o r
def NC(n:Nat):Adj×Nat:=match zn n with
 |(o,r)=>match o with
  |0=>zm Adj.freeze (zn r)
  |1=>zb (zn r) λk r=>zb (zn r) λty r=>zm (.adopt k ty) (sU T r)
  |2=>zb (zn r) λi r=>zb (zn r) λj r=>zb (zn r) λty r=>zm (.adoptC i j ty) (sU T r)
  |3=>zb (uO zn r) λa r=>zm (.sel a) (OJ r)
  |4=>zm Adj.drop (uO zn r)
  |5=>zb (zn r) λi r=>zb (zn r) λk r=>zb (zn r) λj r=>zm (.focus i k j) (sU T r)
  |6=>zm Adj.close (zn r)
  |7=>zb (zn r) λk r=>zb (zn r) λty r=>zb (zk T r) λkk r=>zm (.adoptT k ty kk) (sU T r)
  |_=>zb (zn r) λi r=>zb (zn r) λj r=>zb (zn r) λty r=>zb (zk T r) λkk r=>zm (.adoptCT i j ty kk) (sU T r)
def zR(x:Zx)(b:Nat):Nat->Nat->RC
 |0,_=>.nil
 |f+1,n=>match zn n with
  |(o,r)=>match o with
   |0=>.nil
   |4=>match zn r with
    |(c,r)=>match zn r with
     |(j,r)=>match sU T r with
      |(t,r)=>match zt b r with
       |(k,r)=>.op (some (Jt b c)) (.fldA j t (.tm k)) (.op (some (Jt b c+1)) (.load t (.tm (Jt b c))) (zR x b f r))
   |11=>match zn r with
    |(m,r)=>match zt b r with
     |(t,r)=>match sU T r with
      |(ty,r)=>match zX T b r with
       |(u,r)=>match zX T b r with
        |(al,r)=>match zt b r with
         |(d,r)=>match zn r with
          |(len,r)=>.gb t (Nat.beq m 1) (zR x b f r) ty u al d (zR x b f (Nat.shiftRight r (4*len)))
   |16=>match uO (NC T) r with
    |(l,r)=>.adj l (zR x b f r)
   |o=>match zd b r with
    |(d,r)=>match OK T x b o r with
     |(op,r)=>.op d op (zR x b f r)
def OX(n:Nat):Ob×Nat:=match zn n with
 |(o,r)=>match o with
  |0=>(.gone,r)
  |1=>zb (zn r) λt r=>zm (.box t) (uO (zV T 9) r)
  |2=>zb (zn r) λt r=>zm (λu=>.vec t u []) (sU T r)
  |3=>zb (zn r) λt r=>zb (zk T r) λk r=>zm (λu=>.tree t k u [] none) (sU T r)
  |4=>zb (zn r) λt r=>zb (zk T r) λk r=>zb (sU T r) λu r=>zb (zn r) λj r=>zm (λs=>.tree t k u [] (some (0,j,.sl s))) (zn r)
  |5=>zb (zn r) λk r=>zb (zn r) λty r=>zb (sU T r) λa r=>zm (λc=>.map k ty a c []) (sU T r)
  |_=>(.free,r)
def Oq(n:Nat):Slot×Nat:=match zn n with
 |(o,r)=>match o with
  |0=>zb (zn r) λk r=>zm (.tm k) (sU T r)
  |1=>zb (zn r) λk r=>zb (zn r) λj r=>zm (.cell k j) (sU T r)
  |2=>zb (zn r) λk r=>zb (zn r) λj r=>zm (.vec k j) (sU T r)
  |3=>zb (zn r) λk r=>zb (zn r) λj r=>zb (zn r) λty r=>zb (sU T r) λa r=>zm (.map k j ty a) (sU T r)
  |4=>zb (zn r) λk r=>zb (zn r) λj r=>zb (zk T r) λty r=>zm (.tree k j ty) (sU T r)
  |_=>zb (zn r) λk r=>zb (zn r) λj r=>zb (zk T r) λty r=>zb (sU T r) λu r=>zb (zn r) λi r=>zm (.treeH k j ty u i) (zn r)
def OI(n:Nat):Sh×Nat:=
 zb (OJ n) λks r=>zb (uO (λr=>zb (zn r) λk r=>zm (λv=>(k,v)) (zV T 9 r)) r) λfr r=>zb (uO (OX T) r) λhp r=>zm (λsl=>⟨ks,⟨fr,hp⟩,sl⟩) (uO (Oq T) r)
def OL(n:Nat):List (Nat×Sh)×Nat:=uO (λr=>zb (zn r) λk r=>zm (λv=>(k,v)) (OI T r)) n
def OH(x:Zx)(b n:Nat):PO×Nat:=
 zb (zn n) λj r=>zb (zn r) λc r=>zb (uO zn r) λus r=>zb (zd b r) λd r=>zb (zd b r) λg r=>zb (zn r) λo r=>zm (λop=>match g with|none=>OA j (Nat.beq (c%2) 1) us d op|some t=>Oz j (Nat.beq (c%2) 1) us t (Nat.ble 2 c) d op) (OK T x b o r)
def zC(x:Zx):Nat->Nat->TC
 |0,_=>.skip
 |f+1,n=>match zn n with
  |(o,r)=>match o with
   |0=>.skip
   |1=>match zn r with
    |(b,r)=>.region (zR T x b 400 r)
   |2=>match zn r with
    |(len,r)=>.seq (zC x f r) (zC x f (Nat.shiftRight r (4*len)))
   |3=>match zX T 0 r with
    |(c,r)=>match zn r with
     |(len,r)=>.cond c (zC x f r) (zC x f (Nat.shiftRight r (4*len)))
   |4=>match zn r with
    |(i,r)=>.block i (zC x f r)
   |5=>match OI T r with
    |(sh,r)=>match OL T r with
     |(xs,r)=>.loop sh xs (zC x f r)
   |6=>match zn r with
    |(i,_)=>.exit i
   |7=>.ret
   |8=>match zn r with
    |(k,r)=>match uO (uO zn) r with
     |(af,r)=>match zn r with
      |(b,r)=>.draw k (zR T x b 400 r) af
   |9=>match uO (NC T) r with
    |(l,r)=>.adj l (zC x f r)
   |10=>match uO (NC T) r with
    |(l,r)=>.after (zC x f r) l
   |11=>match OL T r with
    |(xs,r)=>.cut xs (zC x f r)
   |12=>match zn r with
    |(k,r)=>match uO (uO zn) r with
     |(af,r)=>match zn r with
      |(b,r)=>match uO (OH T x b) r with
       |(pre,r)=>.draw2 k pre (zR T x b 400 r) af
   |13=>match zn r with
    |(b,r)=>match uO (OH T x b) r with
     |(pre,_)=>.regL pre
   |_=>match zn r with
    |(i,_)=>x7 .skip x.c i
end
end Go.Ev
namespace Go.Ev
open Go Go.RowKit Go.Av
noncomputable def Ef(l:List (Nat×V))(t:Nat):Option V:=List.rec (motive:=λ_=>Option V) none (λx _ ih=>Bool.rec (motive:=λ_=>Option V) ih (some x.2) (Nat.beq t x.1)) l
theorem oS(t:Nat):∀l:List (Nat×V),Ef l t=lk l t
 |[]=>rfl
 |(k,a)::l=>by
  show(Bool.rec (motive:=λ_=>Option V) (Ef l t) (some a) (Nat.beq t k))=bif Nat.beq t k then some a else lk l t
  rw[oS t l]
  cases Nat.beq t k<;>rfl
noncomputable def S.getQ(s:S)(x:X):Option V:=X.casesOn (motive:=λ_=>Option V) x (λk=>Ef s.fr k) (λt x=>some (.d t x)) (λt=>some (.nil t)) (λvs=>some (.agg vs)) (λn=>some (.fnD n [])) (λv=>some (.raw v))
theorem fA(s:S)(x:X):s.getQ x=s.get x:=by
 cases x<;>first|exact oS _ _|rfl
def mB(m k:Nat):Bool:=Nat.beq (Nat.land (Nat.shiftRight m k) 1) 1
theorem jP(m k:Nat):mB m k=m.testBit k:=by
 show Nat.beq ((m>>>k)&&&1) 1=((1&&&(m>>>k)) != 0)
 rw[Nat.and_comm,Nat.and_comm 1,Nat.and_comm,Nat.one_and_eq_mod_two]
 rcases Nat.mod_two_eq_zero_or_one (m>>>k)with h|h<;>rw[h]<;>rfl
theorem p5(a b:List Nat)(k:Nat):mP (a++b) k=(mP a k||mP b k):=by simp[mP]
theorem nL(a b k:Nat):mB (Nat.lor a b) k=(mB a k||mB b k):=by
 rw[jP,jP,jP];exact Nat.testBit_or a b k
theorem vL(d k:Nat):mB (2^d) k=mP [d] k:=by
 rw[jP,Nat.testBit_two_pow]
 show decide (d=k)=(Nat.beq k d||false)
 rw[Bool.or_false]
 by_cases h:d=k
 ·subst h;simp
 ·rw[decide_eq_false h]
  cases hb:Nat.beq k d
  ·rfl
  ·exact absurd (Nat.eq_of_beq_eq_true hb).symm h
theorem i8(k:Nat):mB 0 k=mP [] k:=by rw[jP];simp[mP]
def M6:Option Nat->Nat
 |some d=>2^d
 |none=>0
theorem Hn(d:Option Nat)(k:Nat):mB (M6 d) k=mP (match d with|some d=>[d]|none=>[]) k:=by
 cases d with
 |none=>exact i8 k
 |some d=>exact vL d k
def RC.msk:RC->Nat
 | .nil=>0
 | .op d _ rest=>Nat.lor (M6 d) rest.msk
 | .adj _ rest=>rest.msk
 | .gb _ _ blk _ _ _ dst rest=>Nat.lor blk.msk (Nat.lor (2^dst) rest.msk)
theorem RC.msk_eq(k:Nat):∀r:RC,mB r.msk k=mP r.asg k
 | .nil=>i8 k
 | .op d o rest=>by simp only[RC.msk,RC.asg,nL,p5,Hn,RC.msk_eq k rest]<;>rfl
 | .adj l rest=>by simp only[RC.msk,RC.asg,RC.msk_eq k rest]
 | .gb a b blk c d e dst rest=>by
  simp only[RC.msk,RC.asg,nL,p5,RC.msk_eq k rest,RC.msk_eq k blk,vL]
  rw[show dst::rest.asg=[dst]++rest.asg from rfl,p5]
def KF:List PO->Nat
 |[]=>0
 |p::l=>Nat.lor (M6 p.d) (KF l)
theorem CC(k:Nat):∀l:List PO,mB (KF l) k=mP (l.flatMap λp=>match p.d with|some d=>[d]|none=>[]) k
 |[]=>i8 k
 |p::l=>by simp only[KF,List.flatMap_cons,nL,p5,Hn,CC k l]<;>rfl
def TC.msk:TC->Nat
 | .region ops=>ops.msk
 | .draw _ ops _=>ops.msk
 | .draw2 _ pre tl _=>Nat.lor (KF pre) tl.msk
 | .regL pre=>KF pre
 | .seq a b=>Nat.lor a.msk b.msk
 | .cond _ a b=>Nat.lor a.msk b.msk
 | .block _ a=>a.msk
 | .loop _ _ a=>a.msk
 | .adj _ a=>a.msk
 | .after a _=>a.msk
 | .cut _ a=>a.msk
 |_=>0
theorem TC.msk_eq(k:Nat):∀c:TC,mB c.msk k=mP c.asg k
 | .region ops=>RC.msk_eq k ops
 | .draw _ ops _=>RC.msk_eq k ops
 | .regL pre=>CC k pre
 | .draw2 _ pre tl _=>by simp only[TC.msk,TC.asg,nL,p5,RC.msk_eq k tl,CC k pre]<;>rfl
 | .seq a b=>by simp only[TC.msk,TC.asg,nL,p5,TC.msk_eq k a,TC.msk_eq k b]
 | .cond _ a b=>by simp only[TC.msk,TC.asg,nL,p5,TC.msk_eq k a,TC.msk_eq k b]
 | .block _ a=>TC.msk_eq k a
 | .loop _ _ a=>TC.msk_eq k a
 | .adj _ a=>TC.msk_eq k a
 | .after a _=>TC.msk_eq k a
 | .cut _ a=>TC.msk_eq k a
 | .skip=>i8 k
 | .exit _=>i8 k
 | .ret=>i8 k
noncomputable def Mc(m:Nat)(fr:List (Nat×V))(k:Nat):Bool:=mB m k||(match Ef fr k with
 |some v=> !v.isD
 |none=>false)
def OW(m:Nat->Bool):Slot->Bool
 | .tm k _=>m k
 |_=>true
noncomputable def N3(sh:Sh)(m:Nat)(s:S):Bool:=sh.keep.all (λk=> !mB m k)&&sh.sl.all (OW (Mc m s.fr))&&sh.sk.fr.all (λx=>Mc m s.fr x.1)
theorem HI{m:Nat}{A:List Nat}(h:∀k,mB m k=mP A k)(fr:List (Nat×V))(k:Nat):Mc m fr k=mR A fr k:=by
 unfold Mc mR
 rw[h,oS]
 all_goals rfl
theorem KA{m:Nat}{A:List Nat}(h:∀k,mB m k=mP A k)(sh:Sh)(s:S):N3 sh m s=sh.okAt A s:=by
 unfold N3 Sh.okAt
 congr 1
 ·congr 1
  ·congr 1;funext k;rw[h]
  ·congr 1;funext x
   cases x<;>first|exact HI h _ _|rfl
 ·congr 1;funext x;exact HI h _ _
noncomputable def Jx(fr:List (Nat×V)):Nat:=List.rec (motive:=λ_=>Nat) 0 (λx _ ih=>Nat.lor (2^x.1) ih) fr
theorem F7(k:Nat):∀fr:List (Nat×V),mB (Jx fr) k=(lk fr k).isSome
 |[]=>i8 k
 |(j,v)::l=>by
  show mB (Nat.lor (2^j) (Jx l)) k=(bif Nat.beq k j then some v else lk l k).isSome
  rw[nL,F7 k l,vL]
  show((Nat.beq k j||false)||_)=_
  cases Nat.beq k j<;>rfl
theorem Kr(r:RC)(fr:List (Nat×V)):Nat.beq (Nat.land r.msk (Jx fr)) 0=r.asg.all (λk=>(lk fr k).isNone):=by
 cases hb:r.asg.all (λk=>(lk fr k).isNone)
 ·cases hz:Nat.beq (Nat.land r.msk (Jx fr)) 0
  ·rfl
  ·have hz:=Nat.eq_of_beq_eq_true hz
   rw[List.all_eq_false]at hb
   obtain⟨k,hk,hn⟩:=hb
   have h1:(Nat.land r.msk (Jx fr)).testBit k=(r.msk.testBit k&&(Jx fr).testBit k):=Nat.testBit_and _ _ _
   rw[hz,<-jP r.msk,<-jP (Jx fr),RC.msk_eq,F7,Nat.zero_testBit]at h1
   have h2:mP r.asg k=true:=List.any_eq_true.2 ⟨k,hk,Nat.beq_refl k⟩
   rw[h2]at h1
   simp at h1
   rw[h1]at hn
   simp at hn
 ·have:Nat.land r.msk (Jx fr)=0:=by
   refine Nat.eq_of_testBit_eq λk=>?_
   have h1:(Nat.land r.msk (Jx fr)).testBit k=(r.msk.testBit k&&(Jx fr).testBit k):=Nat.testBit_and _ _ _
   rw[h1,<-jP r.msk,<-jP (Jx fr),RC.msk_eq,F7,Nat.zero_testBit]
   cases hi:mP r.asg k
   ·rfl
   ·obtain⟨j,hj,he⟩:=List.any_eq_true.1 hi
    have he:=Nat.eq_of_beq_eq_true he
    subst he
    have:=List.all_eq_true.1 hb k hj
    rw[Option.isNone_iff_eq_none.1 this];rfl
  rw[this];rfl
noncomputable def F6(fr l:List (Nat×V)):Bool:=List.rec (motive:=λ_=>Bool) true (λx _ ih=>Option.rec (motive:=λ_=>Bool) false (λw=>Bool.rec (motive:=λ_=>Bool) false ih (V.same x.2 w)) (Ef fr x.1)) l
theorem AT(fr:List (Nat×V)):∀l,F6 fr l=xQ fr l
 |[]=>rfl
 |(k,v)::l=>by
  show Option.rec (motive:=λ_=>Bool) false (λw=>Bool.rec (motive:=λ_=>Bool) false (F6 fr l) (V.same v w)) (Ef fr k)=((match lk fr k with|some w=>V.same v w|none=>false)&&xQ fr l)
  rw[oS,AT fr l]
  cases lk fr k with
  |none=>rfl
  |some w=>show Bool.rec (motive:=λ_=>Bool) false _ (V.same v w)=(V.same v w&&_);cases V.same v w<;>rfl
noncomputable def Li(s:S)(x:Slot):Option x.ty.den:=Slot.casesOn (motive:=λx=>Option x.ty.den) x (λk t=>Option.rec (motive:=λ_=>Option t.den) none (λv=>cY t v) (Ef s.fr k)) (λa b c=>fD s (.cell a b c)) (λa b c=>fD s (.vec a b c)) (λa b c d e=>fD s (.map a b c d e)) (λa b c d=>fD s (.tree a b c d)) (λa b c d e f=>fD s (.treeH a b c d e f))
theorem Lk(s:S)(x:Slot):Li s x=fD s x:=by
 cases x<;>try rfl
 rename_i k t
 show Option.rec (motive:=λ_=>Option t.den) none (λv=>cY t v) (Ef s.fr k)=match lk s.fr k with|some v=>cY t v|none=>none
 rw[oS]
 cases lk s.fr k<;>rfl
noncomputable def Gj(s:S)(sl:List Slot):Option (HL sl):=List.rec (motive:=λsl=>Option (HL sl)) (some ()) (λx l ih=>Option.rec (motive:=λ_=>Option (HL (x::l))) none (λc=>Option.rec (motive:=λ_=>Option (HL (x::l))) none (λr=>some (c,r)) ih) (Li s x)) sl
theorem Bp(s:S):∀sl,Gj s sl=yb s sl
 |[]=>rfl
 |x::l=>by
  show Option.rec (motive:=λ_=>Option (HL (x::l))) none (λc=>Option.rec (motive:=λ_=>Option (HL (x::l))) none (λr=>some (c,r)) (Gj s l)) (Li s x)=match fD s x with
   |some c=>match yb s l with
    |some r=>some (c,r)
    |none=>none
   |none=>none
  rw[Lk,Bp s l]
  cases fD s x with
  |none=>rfl
  |some c=>cases yb s l<;>rfl
noncomputable def JH(fr:List (Nat×V))(ks:List Nat):Bool:=List.rec (motive:=λ_=>Bool) true (λk _ ih=>Option.rec (motive:=λ_=>Bool) false (λv=>Bool.rec (motive:=λ_=>Bool) false ih v.isD) (Ef fr k)) ks
theorem De(fr:List (Nat×V)):∀ks,JH fr ks=ks.all (J9 fr)
 |[]=>rfl
 |k::l=>by
  show Option.rec (motive:=λ_=>Bool) false (λv=>Bool.rec (motive:=λ_=>Bool) false (JH fr l) v.isD) (Ef fr k)=((match lk fr k with|some v=>v.isD|none=>false)&&l.all (J9 fr))
  rw[oS,De fr l]
  cases lk fr k with
  |none=>rfl
  |some v=>show Bool.rec (motive:=λ_=>Bool) false _ v.isD=(v.isD&&_);cases v.isD<;>rfl
noncomputable def Bq(sh:Sh)(s:S):Option (HL sh.sl):=Bool.rec (motive:=λ_=>Option (HL sh.sl)) none (Gj s sh.sl) (F6 s.fr sh.sk.fr&&vu sh.sk.hp s.hp&&JH s.fr sh.keep)
theorem yc(sh:Sh)(s:S):Bq sh s=pack sh s:=by
 unfold Bq pack S.fits
 rw[AT,De,Bp]
 cases xQ s.fr sh.sk.fr&&vu sh.sk.hp s.hp&&sh.keep.all (J9 s.fr)<;>rfl
noncomputable def Ea(fr:List (Nat×V))(ks:List Nat):List (Nat×V):=List.rec (motive:=λ_=>List (Nat×V)) [] (λk _ ih=>Option.rec (motive:=λ_=>List (Nat×V)) ih (λv=>Bool.rec (motive:=λ_=>List (Nat×V)) ih ((k,v)::ih) v.isD) (Ef fr k)) ks
theorem Eb(fr:List (Nat×V)):∀ks,Ea fr ks=c9 fr ks
 |[]=>rfl
 |k::l=>by
  show Option.rec (motive:=λ_=>List (Nat×V)) (Ea fr l) (λv=>Bool.rec (motive:=λ_=>List (Nat×V)) (Ea fr l) ((k,v)::Ea fr l) v.isD) (Ef fr k)=match lk fr k with
   |some v=>bif v.isD then(k,v)::c9 fr l else c9 fr l
   |none=>c9 fr l
  rw[oS,Eb fr l]
  cases lk fr k with
  |none=>rfl
  |some v=>show Bool.rec (motive:=λ_=>List (Nat×V)) _ _ v.isD=bif v.isD then _ else _;cases v.isD<;>rfl
noncomputable def Sh.baseQ(sh:Sh)(s:S):S:=⟨Ea s.fr sh.keep++sh.sk.fr,sh.sk.hp⟩
theorem xm(sh:Sh)(s:S):sh.baseQ s=sh.base s:=by unfold Sh.baseQ Sh.base;rw[Eb]
noncomputable def xS:(xs:List (Nat×Sh))->Nat->S->Option (XT xs)
 |[],_,_=>none
 |[(k,sh)],key,s=>bif Nat.beq k key then Bq sh s else none
 |(k,sh)::a::l,key,s=>bif Nat.beq k key then(match Bq sh s with|some c=>some (.inl c)|none=>none)else(match xS (a::l) key s with|some c=>some (.inr c)|none=>none)
theorem Cp(key:Nat)(s:S):∀xs,xS xs key s=inj xs key s
 |[]=>rfl
 |[(k,sh)]=>by simp only[xS,inj,yc]
 |(k,sh)::a::l=>by simp only[xS,inj,yc,Cp key s (a::l)]<;>rfl
noncomputable def jh{R:Type}(s:S)(κ:Nat->S->Option R):(xs:List (Nat×Sh))->XT xs->Option R
 |[],_=>none
 |[(k,sh)],c=>κ k (unpack sh.sl c (sh.baseQ s))
 |(k,sh)::a::l,c=>Sum.elim (λc=>κ k (unpack sh.sl c (sh.baseQ s))) (λc=>jh s κ (a::l) c) c
theorem pU{R:Type}(s:S)(κ:Nat->S->Option R):∀xs c,jh s κ xs c=ik s κ xs c
 |[],_=>rfl
 |[(k,sh)],c=>by simp only[jh,ik,xm]
 |(k,sh)::a::l,c=>by simp only[jh,ik,xm,pU s κ (a::l)]
abbrev MQ(R:Type):Type:=aj->Option Nat->S->(S->Option R)->(S->Option R)->Option R
section
variable {R:Type}
noncomputable def Oa(x:X):MQ R:=λO d s κ kp=>match s.getQ x with
 |some v=>κ (s.putO d v)
 |none=>none
def Nr(c:X)(a:X)(b:X):MQ R:=λO d s κ kp=>evOp O d (.pick c a b) s κ kp
noncomputable def MO(op:BinOp)(x:X)(y:X):MQ R:=λO d s κ kp=>match s.getQ x,s.getQ y with
 |some (.d (.int k) a),some (.d (.int k') b)=>LF op k k' a b λv=>κ (s.putO d v)
 |some (.d .str a),some (.d .str b)=>LG op a b λv=>κ (s.putO d v)
 |_,_=>none
noncomputable def MP(neg:Bool)(x:X)(y:X):MQ R:=λO d s κ kp=>match s.getQ x,s.getQ y with
 |some (.d .bool a),some (.d .bool b)=>κ (s.putO d (.d .bool (neg ^^ (a==b))))
 |_,_=>none
def N8(neg:Bool)(tid:TypeId)(t:Ty)(x:X)(y:X):MQ R:=λO d s κ kp=>evOp O d (.eqT neg tid t x y) s κ kp
noncomputable def Od(op:UnOp)(x:X):MQ R:=λO d s κ kp=>match op,s.getQ x with
 | .not,some (.d .bool a)=>κ (s.putO d (.d .bool (!a)))
 | .neg,some (.d (.int k) a)=>κ (s.putO d (.d (.int k) (k.wrap (0 - a))))
 |_,_=>none
noncomputable def q_len(str:Bool)(x:X):MQ R:=λO d s κ kp=>match str,s.getQ x with
 |true,some (.d .str a)=>κ (s.putO d (.d (.int .i64) a.length))
 |false,some (.d (.list _) a)=>κ (s.putO d (.d (.int .i64) a.length))
 |false,some (.nil _)=>κ (s.putO d (.d (.int .i64) 0))
 |false,some (.sl id)=>match s.hp[id]? with
  |some (.vec _ _ xs)=>κ (s.putO d (.d (.int .i64) xs.length))
  |some (.tree _ _ _ xs _)=>κ (s.putO d (.d (.int .i64) xs.length))
  |_=>none
 |_,_=>none
def No(k:TypeId)(e:TypeId)(x:X):MQ R:=λO d s κ kp=>evOp O d (.lenM k e x) s κ kp
def Nm(x:X)(i:X):MQ R:=λO d s κ kp=>evOp O d (.idxS x i) s κ kp
def Nn(n:Nat)(t:Ty)(x:X)(i:X):MQ R:=λO d s κ kp=>evOp O d (.idxV n t x i) s κ kp
noncomputable def KX(t:Ty)(x:X)(i:X):MQ R:=λO d s κ kp=>match s.getQ x with
 |some (.sl id)=>match s.hp[id]? with
  |some (.vec _ u xs)=>bif decide (u=t)then intOf (s.getQ i) λn=>Option.bind (aD xs n) λ_=>κ (s.putO d (.elt id n.toNat 0))else none
  |some (.tree _ _ u xs _)=>bif decide (u=t)then intOf (s.getQ i) λn=>Option.bind (aD xs n) λ_=>κ (s.putO d (.elt id n.toNat 0))else none
  |_=>none
 |some (.d (.list u) xs)=>match bX (.list u) (.list t) xs with
  |some xs=>intOf (s.getQ i) λn=>Option.bind (aD xs n) λx=>κ (s.putO d (.dp t x))
  |none=>none
 |_=>none
def Nl(n:Nat)(t:Ty)(x:X)(i:X):MQ R:=λO d s κ kp=>evOp O d (.idxP n t x i) s κ kp
noncomputable def KW(off:Nat)(t:Ty)(x:X):MQ R:=λO d s κ kp=>match s.getQ x with
 |some (.dp u y)=>match pp u off t y with
  |some z=>κ (s.putO d (.dp t z))
  |none=>none
 |some (.ptr id o)=>κ (s.putO d (.ptr id (o+off)))
 |some (.elt id i o)=>κ (s.putO d (.elt id i (o+off)))
 |_=>none
def N9(off:Nat)(t:Ty)(x:X):MQ R:=λO d s κ kp=>evOp O d (.fld off t x) s κ kp
noncomputable def KY(t:Ty)(x:X):MQ R:=λO d s κ kp=>loadT s.hp t (s.getQ x) λv=>κ (s.putO d v)
noncomputable def H8(t:Ty)(x:X)(v:X):MQ R:=λO d s κ kp=>match d with
 |none=>storeT s t (s.getQ x) (s.getQ v) κ
 |some _=>none
def Mi(tid:TypeId)(zero:List V):MQ R:=λO d s κ kp=>evOp O d (.alloc tid zero) s κ kp
def N7(tid:TypeId)(x:X):MQ R:=λO d s κ kp=>evOp O d (.box tid x) s κ kp
def Ni(tid:TypeId)(t:Ty)(x:X):MQ R:=λO d s κ kp=>evOp O d (.boxD tid t x) s κ kp
def Mj(zero:List V)(parts:List (Nat×Nat×X)):MQ R:=λO d s κ kp=>evOp O d (.build zero parts) s κ kp
def KU(own:Bool)(tid:TypeId)(t:Ty)(len:Nat)(parts:List X):MQ R:=λO d s κ kp=>evOp O d (.bslice own tid t len parts) s κ kp
def K1(tid:TypeId)(t:Ty)(bytes:Nat)(l:X)(c:X):MQ R:=λO d s κ kp=>evOp O d (.mslice tid t bytes l c) s κ kp
def KT(tid:TypeId)(t:Ty)(bytes:Nat)(x:X)(y:X):MQ R:=λO d s κ kp=>evOp O d (.append tid t bytes x y) s κ kp
def Nk(k:IntKind)(x:X):MQ R:=λO d s κ kp=>evOp O d (.cvtI k x) s κ kp
def Oc(full:Bool)(t:Ty)(x:X)(lo:Option X)(hi:Option X)(mx:Option X):MQ R:=λO d s κ kp=>evOp O d (.slc full t x lo hi mx) s κ kp
def Ns(x:X)(lo:Option X)(hi:Option X):MQ R:=λO d s κ kp=>evOp O d (.slcS x lo hi) s κ kp
noncomputable def MR(x:X)(i:Nat):MQ R:=λO d s κ kp=>match s.getQ x with
 |some (.tup vs)=>match vs[i]? with
  |some v=>bif (match v with| .agg _=>false| .tup _=>false|_=>true)then κ (s.putO d v)else none
  |none=>none
 |_=>none
noncomputable def K2(x:X):MQ R:=λO d s κ kp=>match s.getQ x with
 |some v=>(match v with
  | .dp _ _=>κ (s.putO d v)
  | .ptr _ _=>κ (s.putO d v)
  | .pel _ _ _ _ _=>κ (s.putO d v)
  | .elt _ _ _=>κ (s.putO d v)
  | .clo _ _=>κ (s.putO d v)
  | .fnD _ _=>κ (s.putO d v)
  |_=>none)
 |none=>none
noncomputable def KV(bor:Bool)(f:FuncId)(args:List (Arg×X))(sh:Sh):MQ R:=λO d s κ kp=>match me s bor [] args with
 |some ars=>bif ars.all V.isD&&sh.sk.fr.isEmpty&&(!bor||sh.sl.all Slot.flat)then
  Option.bind (aI O f ars [] sh) λc=>κ (s.putO d (res sh.n (unpack sh.sl c (sh.base ⟨[],[]⟩)).fr))else none
 |none=>none
noncomputable def H7(pan:Bool)(bor:Bool)(B:List Nat)(f:FuncId)(args:List (Arg×X))(sh:Sh):MQ R:=λO d s κ kp=>match me s bor B args with
 |some ars=>s3 pan O s d bor B f ars sh κ kp
 |none=>none
def Ml(pan:Bool)(bor:Bool)(B:List Nat)(num:Nat)(x:X)(args:List (Arg×X))(sh:Sh):MQ R:=λO d s κ kp=>evOp O d (.callv pan bor B num x args sh) s κ kp
def N6(x:X):MQ R:=λO d s κ kp=>evOp O d (.b2s x) s κ kp
def Np(f:FuncId)(caps:List X):MQ R:=λO d s κ kp=>evOp O d (.mkfn f caps) s κ kp
def Mn(k:TypeId)(e:TypeId)(a:Ty)(b:Ty):MQ R:=λO d s κ kp=>evOp O d (.mkmap k e a b) s κ kp
def KZ(k:TypeId)(e:TypeId)(ok:Bool)(a:Ty)(b:Ty)(m:X)(x:X):MQ R:=λO d s κ kp=>evOp O d (.lookup k e ok a b m x) s κ kp
def K0(k:TypeId)(e:TypeId)(a:Ty)(b:Ty)(m:X)(x:X)(v:X):MQ R:=λO d s κ kp=>evOp O d (.mapset k e a b m x v) s κ kp
def Nj(tid:TypeId)(t:Ty)(x:X)(y:X):MQ R:=λO d s κ kp=>evOp O d (.copy tid t x y) s κ kp
def Nq(mx:Bool)(k:IntKind)(x:X)(ys:List X):MQ R:=λO d s κ kp=>evOp O d (.mnmx mx k x ys) s κ kp
def Mo(x:X):MQ R:=λO d s κ kp=>evOp O d (.panic x) s κ kp
def Mm(tid:TypeId)(x:X):MQ R:=λO d s κ kp=>evOp O d (.iface tid x) s κ kp
def I1(tid:TypeId)(t:Ty)(len:Nat)(parts:List X):MQ R:=λO d s κ kp=>evOp O d (.bsliceF tid t len parts) s κ kp
def Ng(tid:TypeId)(t:Ty)(bytes:Nat)(x:X)(y:X):MQ R:=λO d s κ kp=>evOp O d (.appD tid t bytes x y) s κ kp
def I2(tid:TypeId)(k:K)(t:Ty)(len:Nat)(parts:List X):MQ R:=λO d s κ kp=>evOp O d (.bsliceN tid k t len parts) s κ kp
def I3(tid:TypeId)(k:K)(u:Ty)(bytes:Nat)(l:X)(c:X):MQ R:=λO d s κ kp=>evOp O d (.msliceT tid k u bytes l c) s κ kp
def Nh(tid:TypeId)(k:K)(t:Ty)(bytes:Nat)(x:X)(y:X):MQ R:=λO d s κ kp=>evOp O d (.appT tid k t bytes x y) s κ kp
def Mk(bor:Bool)(num:Nat)(x:X)(args:List (Arg×X))(sh:Sh):MQ R:=λO d s κ kp=>evOp O d (.callp bor num x args sh) s κ kp
def OB(k:Nat)(op:TOp):MQ R:=λO d s κ kp=>evOp O d (.atq k op) s κ kp
noncomputable def fp(op:TOp):MQ R:=TOp.casesOn (motive:=λ_=>MQ R) op Oa Nr MO MP N8 Od q_len No Nm Nn KX Nl KW N9 KY H8 Mi N7 Ni Mj KU K1 KT Nk Oc Ns MR K2 KV H7 Ml N6 Np Mn KZ K0 Nj Nq Mo Mm I1 Ng I2 I3 Nh Mk OB
theorem xG(op:TOp)(O:aj)(d:Option Nat)(s:S)(κ kp:S->Option R):fp op O d s κ kp=evOp O d op s κ kp:=by
 cases op
 case mv=>simp only[fp,Oa,evOp,fA]<;>rfl
 case bin=>simp only[fp,MO,evOp,fA]<;>rfl
 case eqB=>simp only[fp,MP,evOp,fA]<;>rfl
 case un=>simp only[fp,Od,evOp,fA]<;>rfl
 case len=>simp only[fp,q_len,evOp,fA]<;>rfl
 case idxA=>simp only[fp,KX,evOp,fA]<;>rfl
 case fldA=>simp only[fp,KW,evOp,fA]<;>rfl
 case load=>simp only[fp,KY,evOp,fA]<;>rfl
 case store=>simp only[fp,H8,evOp,fA]<;>rfl
 case ext=>simp only[fp,MR,evOp,fA]<;>rfl
 case nilc=>simp only[fp,K2,evOp,fA]<;>rfl
 case call=>simp only[fp,KV,evOp,fA]<;>rfl
 case callA=>simp only[fp,H7,evOp,fA]<;>rfl
 all_goals rfl
abbrev RQ:Type 1:=(R:Type)->S->(S->Option R)->(S->Option R)->Option R
def Of:RQ:=λ_ s κ _=>κ s
noncomputable def OC(O:aj)(d:Option Nat)(o:TOp)(_:RC)(ih:RQ):RQ:=λR s κ kp=>fp o O d s (λs'=>ih R s' κ kp) kp
def Oe(l:List Adj)(_:RC)(ih:RQ):RQ:=λR s κ kp=>sK l s λs=>ih R s κ kp
noncomputable def Nt(t:Nat)(want:Bool)(blk:RC)(ty:Ty)(r alt:X)(dst:Nat)(_:RC)(ib ih:RQ):RQ:=λR s κ kp=>match Ef s.fr t,s.getQ alt with
 |some (.d .bool b),some va=>match(bif Nat.beq (Nat.land blk.msk (Jx s.fr)) 0 then cY ty va else none)with
  |some alt=>Option.bind (match want with
   |true=>bif b then ib ty.den s (λs'=>match s'.getQ r with|some v=>cY ty v|none=>none) (λ_=>none)else some alt
   |false=>bif b then some alt else ib ty.den s (λs'=>match s'.getQ r with|some v=>cY ty v|none=>none) (λ_=>none))
   λc=>ih R (s.put dst (.d ty c)) κ kp
  |none=>none
 |_,_=>none
noncomputable def xI(O:aj)(r:RC):RQ:=RC.rec (motive:=λ_=>RQ) Of (OC O) Oe Nt r
theorem Ck(O:aj)(r:RC):∀(R:Type) (s:S) (κ kp:S->Option R),xI O r R s κ kp=wN O R r s κ kp:=by
 induction r with
 |nil=>intro R s κ kp;rfl
 |op d o rest ih=>
  intro R s κ kp
  show fp o O d s (λs'=>xI O rest R s' κ kp) kp=evOp O d o s (λs'=>wN O R rest s' κ kp) kp
  rw[xG]
  congr 1
  funext s'
  exact ih R s' κ kp
 |adj l rest ih=>
  intro R s κ kp
  show sK l s (λs=>xI O rest R s κ kp)=sK l s λs=>wN O R rest s κ kp
  congr 1
  funext s'
  exact ih R s' κ kp
 |gb t want blk ty r alt dst rest ib ih=>
  intro R s κ kp
  have e1:xI O blk=λR s κ kp=>wN O R blk s κ kp:=by funext R s κ kp;exact ib R s κ kp
  have e2:xI O rest=λR s κ kp=>wN O R rest s κ kp:=by funext R s κ kp;exact ih R s κ kp
  show Nt t want blk ty r alt dst rest (xI O blk) (xI O rest) R s κ kp=_
  rw[e1,e2]
  simp only[Nt,wN,fA,oS,Kr]<;>rfl
noncomputable def IG{R:Type}(O:aj)(l:List PO):List Av.Rec->S->(S->Option R)->(S->Option R)->Option R:=List.rec (motive:=λ_=>List Av.Rec->S->(S->Option R)->(S->Option R)->Option R) (λ_ s κ _=>κ s) (λp _ ih A s κ kp=>
 match p.g with
 |none=>bif uV A s p then fp p.o O p.d s (λs'=>ih (vB A s s' p) s' κ kp) kp else none
 |some (t,want)=>match Ef s.fr t with
  |some (.d .bool b)=>bif want==b
   then(bif uV A (s.put t (.d .bool want)) p then fp p.o O p.d (s.put t (.d .bool want)) (λs'=>ih (vB A (s.put t (.d .bool want)) s' p) s' κ kp) kp else none)
   else(bif uV A (s.put t (.d .bool (!want))) p then ih (vB A (s.put t (.d .bool (!want))) ((s.put t (.d .bool (!want))).putO p.d (.raw Go.undef)) p) ((s.put t (.d .bool (!want))).putO p.d (.raw Go.undef)) κ kp else none)
  |_=>none) l
theorem Hu{R:Type}(O:aj):∀(l:List PO) (A:List Av.Rec) (s:S) (κ kp:S->Option R),IG O l A s κ kp=Jw O A l s κ kp
 |[],_,_,_,_=>rfl
 |p::l,A,s,κ,kp=>by
  show(match p.g with
  |none=>bif uV A s p then fp p.o O p.d s (λs'=>IG O l (vB A s s' p) s' κ kp) kp else none
  |some (t,want)=>match Ef s.fr t with
   |some (.d .bool b)=>bif want==b
    then(bif uV A (s.put t (.d .bool want)) p then fp p.o O p.d (s.put t (.d .bool want)) (λs'=>IG O l (vB A (s.put t (.d .bool want)) s' p) s' κ kp) kp else none)
    else(bif uV A (s.put t (.d .bool (!want))) p then IG O l (vB A (s.put t (.d .bool (!want))) ((s.put t (.d .bool (!want))).putO p.d (.raw Go.undef)) p) ((s.put t (.d .bool (!want))).putO p.d (.raw Go.undef)) κ kp else none)
   |_=>none)=_
  simp only[Hu O l,xG,Jw,oS]<;>rfl
noncomputable def F4{R:Type}(O:aj)(l:List PO):S->(S->Option R)->(S->Option R)->Option R:=List.rec (motive:=λ_=>S->(S->Option R)->(S->Option R)->Option R) (λs κ _=>κ s) (λp _ ih s κ kp=>
 match p.g with
 |none=>fp p.o O p.d s (λs'=>ih s' κ kp) kp
 |some (t,want)=>match Ef s.fr t with
  |some (.d .bool b)=>bif b
   then(match want with
    |true=>fp p.o O p.d (s.put t (.d .bool true)) (λs'=>ih s' κ kp) kp
    |false=>ih ((s.put t (.d .bool true)).putO p.d (.raw Go.undef)) κ kp)
   else(match want with
    |true=>ih ((s.put t (.d .bool false)).putO p.d (.raw Go.undef)) κ kp
    |false=>fp p.o O p.d (s.put t (.d .bool false)) (λs'=>ih s' κ kp) kp)
  |_=>none) l
theorem Ht{R:Type}(O:aj):∀(l:List PO) (s:S) (κ kp:S->Option R),F4 O l s κ kp=Jv O l s κ kp
 |[],_,_,_=>rfl
 |p::l,s,κ,kp=>by
  show(match p.g with
  |none=>fp p.o O p.d s (λs'=>F4 O l s' κ kp) kp
  |some (t,want)=>match Ef s.fr t with
   |some (.d .bool b)=>bif b
    then(match want with
     |true=>fp p.o O p.d (s.put t (.d .bool true)) (λs'=>F4 O l s' κ kp) kp
     |false=>F4 O l ((s.put t (.d .bool true)).putO p.d (.raw Go.undef)) κ kp)
    else(match want with
     |true=>F4 O l ((s.put t (.d .bool false)).putO p.d (.raw Go.undef)) κ kp
     |false=>fp p.o O p.d (s.put t (.d .bool false)) (λs'=>F4 O l s' κ kp) kp)
   |_=>none)=_
  simp only[Ht O l,xG,Jv,oS]<;>rfl
abbrev CQ:Type 1:=(R:Type)->S->(S->Option R)->(Nat->S->Option R)->(S->Option R)->(S->Option R)->Option R
def M5:CQ:=λ_ s kn _ _ _=>kn s
noncomputable def JO(O:aj)(ops:RC):CQ:=λR s kn _ _ kp=>xI O ops R s kn kp
noncomputable def M2(O:aj)(_:Nat)(ops:RC)(_:List (List Nat)):CQ:=λR s kn _ _ kp=>xI O ops R s kn kp
noncomputable def LI(O:aj)(r:Nat)(pre:List PO)(tl:RC)(_:List (List Nat)):CQ:=λR s kn _ _ kp=>IG O pre [] ⟨s.fr,s.hp++List.replicate r .free⟩ (λs=>xI O tl R s kn kp) kp
noncomputable def M4(O:aj)(pre:List PO):CQ:=λ_ s kn _ _ kp=>F4 O pre s kn kp
def ME(_ _:TC)(ia ib:CQ):CQ:=λR s kn kx kr kp=>ia R s (λs=>ib R s kn kx kr kp) kx kr kp
noncomputable def FH(x:X)(_ _:TC)(ia ib:CQ):CQ:=λR s kn kx kr kp=>match s.getQ x with
 |some (.d .bool t)=>bif t then ia R s kn kx kr kp else ib R s kn kx kr kp
 |_=>none
def Hf(id:Nat)(_:TC)(ia:CQ):CQ:=λR s kn kx kr kp=>ia R s kn (λi s=>bif Nat.beq i id then kn s else kx i s) kr kp
def M3(id:Nat):CQ:=λ_ s _ kx _ _=>kx id s
def NP:CQ:=λ_ s _ _ kr _=>kr s
def MD(l:List Adj)(_:TC)(ia:CQ):CQ:=λR s kn kx kr kp=>sK l s λs=>ia R s kn kx kr kp
def He(_:TC)(l:List Adj)(ia:CQ):CQ:=λR s kn kx kr kp=>ia R s (λs=>sK l s kn) kx kr kp
noncomputable def JN(xs:List (Nat×Sh))(a:TC)(ia:CQ):CQ:=λR s kn kx kr kp=>bif xs.all (λx=>N3 x.2 a.msk s)then
 Option.bind (ia (XT xs) s (λs=>xS xs 0 s) (λi s=>xS xs (i+3) s) (λs=>xS xs 1 s) (λs=>xS xs 2 s))
  (jh s (λkey s=>match key with|0=>kn s|1=>kr s|2=>kp s|i+3=>kx i s) xs)else none
noncomputable def FI(n:Nat)(sh:Sh)(xs:List (Nat×Sh))(a:TC)(ia:CQ):CQ:=λR s kn kx kr kp=>match Bq sh s with
 |some c=>bif N3 sh a.msk s&&xs.all (λx=>N3 x.2 a.msk s)then Option.bind (aF n (λc=>ia (HL sh.sl⊕XT xs) (unpack sh.sl c (sh.baseQ s)) (λs=>match Bq sh s with|some c=>some (.inl c)|none=>none)
  (λi s=>match xS xs (i+3) s with|some c=>some (.inr c)|none=>none) (λs=>match xS xs 1 s with|some c=>some (.inr c)|none=>none) (λs=>match xS xs 2 s with|some c=>some (.inr c)|none=>none)) c)
  (jh s (λkey s=>match key with|0=>kn s|1=>kr s|2=>kp s|i+3=>kx i s) xs)else none
 |none=>none
noncomputable def r7(O:aj)(n:Nat)(c:TC):CQ:=TC.rec (motive:=λ_=>CQ) M5 (JO O) (M2 O) (LI O) (M4 O) ME FH Hf (FI n) M3 NP MD He JN c
theorem Hq(O:aj)(n:Nat)(c:TC):∀(R:Type) (s:S) (kn:S->Option R) (kx:Nat->S->Option R) (kr kp:S->Option R),r7 O n c R s kn kx kr kp=wC O n R c s kn kx kr kp:=by
 have hx:∀a:TC,(∀(R:Type) (s:S) (kn:S->Option R) (kx:Nat->S->Option R) (kr kp:S->Option R),r7 O n a R s kn kx kr kp=wC O n R a s kn kx kr kp)->r7 O n a=λR s kn kx kr kp=>wC O n R a s kn kx kr kp:=λa h=>by
  funext R s kn kx kr kp;exact h R s kn kx kr kp
 induction c with
 |skip=>intro R s kn kx kr kp;rfl
 |region ops=>intro R s kn kx kr kp;exact Ck O ops R s kn kp
 |draw k ops af=>intro R s kn kx kr kp;exact Ck O ops R s kn kp
 |draw2 r pre tl af=>
  intro R s kn kx kr kp
  show IG O pre [] _ (λs=>xI O tl R s kn kp) kp=Jw O [] pre _ (λs=>wN O R tl s kn kp) kp
  rw[Hu]
  congr 1
  funext s'
  exact Ck O tl R s' kn kp
 |regL pre=>intro R s kn kx kr kp;exact Ht O pre s kn kp
 |seq a b iha ihb=>
  intro R s kn kx kr kp
  show ME a b (r7 O n a) (r7 O n b) R s kn kx kr kp=_
  rw[hx a iha,hx b ihb];rfl
 |cond x a b iha ihb=>
  intro R s kn kx kr kp
  show FH x a b (r7 O n a) (r7 O n b) R s kn kx kr kp=_
  rw[hx a iha,hx b ihb]
  simp only[FH,fA,wC]<;>rfl
 |block id a iha=>
  intro R s kn kx kr kp
  show Hf id a (r7 O n a) R s kn kx kr kp=_
  rw[hx a iha];rfl
 |loop sh xs a iha=>
  intro R s kn kx kr kp
  show FI n sh xs a (r7 O n a) R s kn kx kr kp=_
  rw[hx a iha]
  have hd:∀(κ:Nat->S->Option R),jh s κ xs=ik s κ xs:=λκ=>funext λc=>pU s κ xs c
  simp only[FI,wC,KA λk=>TC.msk_eq k a,yc,xm,Cp,hd]<;>rfl
 |exit id=>intro R s kn kx kr kp;rfl
 |ret=>intro R s kn kx kr kp;rfl
 |adj l a iha=>
  intro R s kn kx kr kp
  show MD l a (r7 O n a) R s kn kx kr kp=_
  rw[hx a iha];rfl
 |after a l iha=>
  intro R s kn kx kr kp
  show He a l (r7 O n a) R s kn kx kr kp=_
  rw[hx a iha];rfl
 |cut xs a iha=>
  intro R s kn kx kr kp
  show JN xs a (r7 O n a) R s kn kx kr kp=_
  rw[hx a iha]
  have hd:∀(κ:Nat->S->Option R),jh s κ xs=ik s κ xs:=λκ=>funext λc=>pU s κ xs c
  simp only[JN,wC,KA λk=>TC.msk_eq k a,Cp,hd]<;>rfl
end
noncomputable def J2(O:aj)(n:Nat)(c:TF)(ars:List V)(os:List Ob):Option (Option S):=
 r7 O n c.code (Option S) ⟨du 0 ars,os⟩ (xN c) (λ_ _=>none) (xN c) (λ_=>some none)
noncomputable def Hr(O:aj)(n:Nat)(d:TD)(ars:List V):Option (Option S):=
 r7 O n d.a (Option S) ⟨du 0 ars,[]⟩ (λs=>bif sO s d.ta 0&&sO s d.tb 1&&Ou s d.t8&&Nat.beq s.hp.length 2 then
  r7 O n d.c.code (Option S) s (xN d.c) (λ_ _=>none) (xN d.c) (λs=>bif sO s d.ta 0&&sO s d.tb 1 then
   r7 O n d.h (Option S) ⟨[(0,.ptr 0 0),(1,.ptr 1 0)],s.hp⟩ (LS d) (λ_ _=>none) (LS d) (λ_=>none)else none)else none) (λ_ _=>none) (λ_=>none) (λ_=>none)
noncomputable def J5(tbl:Nat->Option Fun')(n:Nat):aj:=Nat.rec (motive:=λ_=>aj) (λ_ _ _=>none) (λn ih f ars os=>match tbl f with
 |some (.code c)=>bif Nat.beq os.length c.m&&Nat.ble ars.length c.ntmps then J2 ih n c ars os else none
 |some (.dfr d)=>bif Nat.beq os.length 0&&Nat.ble ars.length d.c.ntmps then Hr ih n d ars else none
 |some (.nat g)=>(match os with
  |[]=>(match g ars with
   |some s=>some (some s)
   |none=>none)
  |_=>none)
 |none=>none) n
theorem J3(O:aj)(n:Nat)(c:TF)(ars:List V)(os:List Ob):J2 O n c ars os=cO O n c ars os:=Hq O n c.code _ _ _ _ _ _
theorem J4(O:aj)(n:Nat)(d:TD)(ars:List V):Hr O n d ars=LP O n d ars:=by
 simp only[Hr,LP,Hq]
theorem Hs(tbl:Nat->Option Fun'):∀n,J5 tbl n=mh tbl n
 |0=>rfl
 |n+1=>by
  funext f ars os
  have ih:=Hs tbl n
  simp only[mh]
  rw[<-ih]
  show(match tbl f with
  |some (.code c)=>bif Nat.beq os.length c.m&&Nat.ble ars.length c.ntmps then J2 (J5 tbl n) n c ars os else none
  |some (.dfr d)=>bif Nat.beq os.length 0&&Nat.ble ars.length d.c.ntmps then Hr (J5 tbl n) n d ars else none
  |some (.nat g)=>(match os with
   |[]=>(match g ars with
    |some s=>some (some s)
    |none=>none)
   |_=>none)
  |none=>none)=_
  cases tbl f with
  |none=>rfl
  |some x=>cases x with
   |code c=>simp only[J3]
   |dfr d=>simp only[J4]
   |nat g=>rfl
theorem LJ{tbl:Nat->Option Fun'}{n f:Nat}{ars:List V}{os:List Ob}{sh:Sh}{c:HL sh.sl}(h:aI (J5 tbl n) f ars os sh=some c):aI (mh tbl n) f ars os sh=some c:=by
 rw[<-Hs];exact h
theorem eG{tbl:Nat->Option Fun'}{f:Nat}{ars:List V}{os:List Ob}{sh:Sh}{c:HL sh.sl}{m:Nat}(h:∀k,aI (J5 tbl (k+m)) f ars os sh=some c):∃n0,∀n,n0<=n->aI (mh tbl n) f ars os sh=some c:=
 ⟨m,λn hn=>by
  obtain⟨k,rfl⟩:∃k,n=k+m:=⟨n - m,by omega⟩
  exact LJ (h k)⟩
end Go.Ev
namespace Go.Ev
open Go Go.RowKit Go.Av
inductive LeB:BV->BV->Prop
 |refl (x:BV):LeB x x
 |data (x:BV) (p:PV) (h:x.toPV=some p):LeB x (.pv p)
 |any (x:BV):LeB x (.pv .any)
inductive LeA:AV->AV->Prop
 |refl (x:AV):LeA x x
 |data (x:AV) (p:PV) (h:x.toPV=some p):LeA x (.b (.pv p))
 |any (x:AV):LeA x (.b (.pv .any))
 |agg (xs ys:List BV) (hl:xs.length=ys.length) (h:∀(i:Nat) (x y:BV),xs[i]? =some x->ys[i]? =some y->LeB x y):LeA (.agg xs) (.agg ys)
 |tup (xs ys:List BV) (hl:xs.length=ys.length) (h:∀(i:Nat) (x y:BV),xs[i]? =some x->ys[i]? =some y->LeB x y):LeA (.tup xs) (.tup ys)
inductive LeO:AObj->AObj->Prop
 |refl (x:AObj):LeO x x
 |gone (x:AObj):LeO x .gone
 |box (t:TypeId) (xs ys:List BV) (hl:xs.length=ys.length) (h:∀(i:Nat) (x y:BV),xs[i]? =some x->ys[i]? =some y->LeB x y):LeO (.box t xs) (.box t ys)
section
variable {θ:List Av.Loc} {D:Nat->Prop} {w:World}
theorem LeB.rel{x y:BV}(h:LeB x y){v:Value}(hr:RelB θ D w v x):RelB θ D w v y:=by
 cases h with
 |refl=>exact hr
 |data p h=>exact ki hr h
 |any=>exact RelP.any v
theorem Gn{vs:Array Value}{xs ys:List BV}(hl:xs.length=ys.length)(h:∀(i:Nat) (x y:BV),xs[i]? =some x->ys[i]? =some y->LeB x y)(h1:vs.size=xs.length)(h2:∀(i:Nat) (u:Value) (x:BV),vs[i]? =some u->xs[i]? =some x->RelB θ D w u x):
 vs.size=ys.length/\∀(i:Nat) (u:Value) (x:BV),vs[i]? =some u->ys[i]? =some x->RelB θ D w u x:=
 ⟨by omega,λi u y hu hy=>by
  obtain⟨x,hx⟩:=bg (l:=xs) hl hy
  exact(h i x y hx hy).rel (h2 i u x hu hx)⟩
theorem LeA.rel{x y:AV}(h:LeA x y){v:Value}(hr:RelA θ D w v x):RelA θ D w v y:=by
 cases h with
 |refl=>exact hr
 |data _ p h=>exact cn hr h
 |any=>exact RelP.any v
 |agg xs ys hl h=>obtain⟨vs,hv,h1,h2⟩:=hr;obtain⟨h3,h4⟩:=Gn hl h h1 h2;exact⟨vs,hv,h3,h4⟩
 |tup xs ys hl h=>obtain⟨vs,hv,h1,h2⟩:=hr;obtain⟨h3,h4⟩:=Gn hl h h1 h2;exact⟨vs,hv,h3,h4⟩
theorem LeO.rel{x y:AObj}(h:LeO x y){l:Av.Loc}(hr:RelO θ D w l x):RelO θ D w l y:=by
 cases h with
 |refl=>exact hr
 |gone=>cases l<;>trivial
 |box t xs ys hl h=>
  cases l<;>simp only[RelO]at hr⊢<;>try exact hr.elim
  obtain⟨cv,e1,e2,e3⟩:=hr
  obtain⟨h3,h4⟩:=Gn hl h e2 e3
  exact⟨cv,e1,h3,h4⟩
end
structure LeS(a b:St):Prop where
 fr:∀k y,Av.look b.fr k=some y->∃x,Av.look a.fr k=some x/\LeA x y
 len:a.hp.length=b.hp.length
 hp:∀(i:Nat) (x y:AObj),a.hp[i]? =some x->b.hp[i]? =some y->LeO x y
theorem LeS.weak{m:Nat}{a b:St}(h:LeS a b):Weak m a b:=by
 rintro c ac w _ ⟨θ,D,hI⟩
 refine⟨θ,D,hI.size,hI.defers,⟨by rw[hI.ok.len,h.len],hI.ok.dlt,hI.ok.inj,hI.ok.olt,λi l o hi ho=>?_⟩,hI.keep,hI.dsub,hI.dnew,hI.onew,λk y hk=>?_,hI.fix⟩
 ·obtain⟨x,hx⟩:=bg (l:=a.hp) h.len ho
  exact(h.hp i x o hx ho).rel (hI.ok.objs i l x hi hx)
 ·obtain⟨x,hx,hle⟩:=h.fr k y hk
  exact hle.rel (hI.fr k x hx)
theorem LeS.frame{fr fr':List (Nat×AV)}{hp:List AObj}(h:∀k y,Av.look fr' k=some y->Av.look fr k=some y):LeS ⟨fr,hp⟩ ⟨fr',hp⟩:=
 ⟨λk y hk=>⟨y,h k y hk,.refl y⟩,rfl,λi x y hx hy=>by rw[hx]at hy;cases hy;exact .refl x⟩
def Keeps(A:List Nat)(s s':S):Prop:=∀k,k∉A->(∀v,lk s.fr k=some v->v.isD=true->lk s'.fr k=some v\/lk s'.fr k=none)/\(lk s.fr k=none->lk s'.fr k=none)
theorem xV(g:V->V):∀(fr:List (Nat×V)) (k:Nat),lk (fr.map λx=>(x.1,g x.2)) k=(lk fr k).map g
 |[],_=>rfl
 |(j,v)::fr,k=>by
  simp only[List.map_cons,lk]
  cases Nat.beq k j
  ·exact xV g fr k
  ·rfl
theorem Keeps.refl(A:List Nat)(s:S):Keeps A s s:=λ_ _=>⟨λ_ h _=>.inl h,id⟩
theorem Keeps.trans{A:List Nat}{a b c:S}(h:Keeps A a b)(k:Keeps A b c):Keeps A a c:=λi hi=>by
 refine⟨λv hv hd=>?_,λhn=>(k i hi).2 ((h i hi).2 hn)⟩
 rcases(h i hi).1 v hv hd with h1|h1
 ·exact(k i hi).1 v h1 hd
 ·exact .inr ((k i hi).2 h1)
theorem Keeps.sub{A B:List Nat}{a b:S}(h:Keeps A a b)(hs:∀x∈A,x∈B):Keeps B a b:=λi hi=>h i λhx=>hi (hs i hx)
def fj(d:Option Nat):List Nat:=match d with
 |some d=>[d]
 |none=>[]
theorem Ma(s:S)(d:Option Nat)(v:V)(k:Nat)(h:k∉fj d):lk (s.putO d v).fr k=lk s.fr k:=by
 cases d with
 |none=>rfl
 |some j=>
  have hne:k≠j:=λe=>h (by simp[fj,e])
  have:Nat.beq k j=false:=by
   cases hb:Nat.beq k j
   ·rfl
   ·exact absurd (Nat.eq_of_beq_eq_true hb) hne
  show(bif Nat.beq k j then some v else lk s.fr k)=_
  rw[this];rfl
theorem Keeps.put(s:S)(d:Option Nat)(v:V):Keeps (fj d) s (s.putO d v):=λk hk=>by
 rw[Ma s d v k hk]
 exact⟨λ_ h _=>.inl h,id⟩
theorem Keeps.map(A:List Nat)(s s':S)(g:V->V)(hg:∀v,v.isD=true->kf g v=v)(hfr:s'.fr=s.fr.map λx=>(x.1,kf g x.2)):Keeps A s s':=λk _=>by
 have:lk s'.fr k=(lk s.fr k).map (kf g):=by rw[hfr];exact xV (kf g) s.fr k
 refine⟨λv hv hd=>.inl ?_,λh=>?_⟩
 ·rw[this,hv];simp[hg v hd]
 ·rw[this,h];rfl
theorem Keeps.fr{A:List Nat}{s s':S}(h:s'.fr=s.fr):Keeps A s s':=λk _=>by rw[h];exact⟨λ_ h _=>.inl h,id⟩
section
variable {R:Type} {P:Program} {O:aj} {d:Option Nat} {s:S} {κ kp:S->Option R} {r:R}
def Pu(P:Program)(s:S)(op:SOp)(d:Option Nat)(κ:S->Option R)(r:R):Prop:=∃v,g8 P (enc s) op (λy=>y=aS v)/\κ (s.putO d v)=some r
theorem ct{α β:Type}{o:Option α}{f:α->Option β}{b:β}(h:Option.bind o f=some b):∃a,o=some a/\f a=some b:=by
 cases o with
 |none=>cases h
 |some a=>exact⟨a,rfl,h⟩
theorem bB{α:Type}{b:Bool}{x:Option α}{a:α}(h:aw b x=some a):b=true/\x=some a:=by
 cases b
 ·cases h
 ·exact⟨rfl,h⟩
theorem aR{α:Type}{b:Bool}{x:Option α}{a:α}(h:(bif b then x else none)=some a):b=true/\x=some a:=by
 cases b
 ·cases h
 ·exact⟨rfl,h⟩
theorem wP{α:Type}{xs:List α}{i:Int}{x:α}(h:aD xs i=some x):0<=i/\xs[i.toNat]? =some x:=by
 unfold aD at h
 obtain⟨h1,h2⟩:=aR h
 exact⟨by simpa using h1,h2⟩
theorem MM{x:X}(hw:x.wf=true)(h:evOp O d (.mv x) s κ kp=some r):Pu P s (.mv x.er) d κ r:=by
 simp only[evOp]at h
 split at h
 ·rename_i v hv;exact⟨v,⟨_,aA hw hv,rfl⟩,h⟩
 ·cases h
theorem AH(a:List UInt8):(⟨a.toArray⟩:ByteArray).toList=a:=by rw[ByteArray.toList_eq]
theorem tT(a:List UInt8):(⟨a.toArray⟩:ByteArray).size=a.length:=by show a.toArray.size=a.length;simp
theorem Ix(a b:List UInt8):(⟨a.toArray⟩:ByteArray)++(⟨b.toArray⟩:ByteArray)=⟨(a++b).toArray⟩:=by
 apply ByteArray.ext
 rw[ByteArray.data_append]
 simp
theorem FE{op:BinOp}{k k':IntKind}{a b:Int}{κ':V->Option R}(h:LF op k k' a b κ'=some r):∃v,BY op (.int k a) (.int k' b) (λu=>AV.v u=aS v)/\κ' v=some r:=by
 cases op<;>simp only[LF]at h
 case shl=>obtain⟨h1,h2⟩:=bB h;exact⟨_,⟨by simpa using h1,rfl⟩,h2⟩
 case shr=>obtain⟨h1,h2⟩:=bB h;exact⟨_,⟨by simpa using h1,rfl⟩,h2⟩
 case quo=>obtain⟨h1,h2⟩:=aR h;obtain⟨h3,h4⟩:=bB h2;exact⟨_,⟨by simpa using h1,by simpa using h3,rfl⟩,h4⟩
 case rem=>obtain⟨h1,h2⟩:=aR h;obtain⟨h3,h4⟩:=bB h2;exact⟨_,⟨by simpa using h1,by simpa using h3,rfl⟩,h4⟩
 all_goals (obtain⟨h1,h2⟩:=aR h;exact⟨_,⟨by simpa using h1,rfl⟩,h2⟩)
theorem FF{op:BinOp}{a b:List UInt8}{κ':V->Option R}(h:LG op a b κ'=some r):∃v,BY op (.string ⟨a.toArray⟩) (.string ⟨b.toArray⟩) (λu=>AV.v u=aS v)/\κ' v=some r:=by
 cases op<;>simp only[LG]at h
 case add=>
  obtain⟨h1,h2⟩:=bB h
  refine⟨_,⟨by rw[tT,tT];simpa using h1,?_⟩,h2⟩
  rw[Ix];rfl
 all_goals first
  |(cases h;done)
  |exact⟨_,by simp only[BY,AH];rfl,h⟩
theorem KI{op:BinOp}{x y:X}(hw:x.wf=true/\y.wf=true)(h:evOp O d (.bin op x y) s κ kp=some r):Pu P s (.bin op x.er y.er) d κ r:=by
 simp only[evOp]at h
 split at h
 ·rename_i k a k' b hx hy
  obtain⟨v,h1,h2⟩:=FE h
  exact⟨v,⟨_,aA hw.1 hx,_,aA hw.2 hy,_,rfl,_,rfl,h1⟩,h2⟩
 ·rename_i a b hx hy
  obtain⟨v,h1,h2⟩:=FF h
  exact⟨v,⟨_,aA hw.1 hx,_,aA hw.2 hy,_,rfl,_,rfl,h1⟩,h2⟩
 ·cases h
theorem H5{c a b:X}(hw:c.wf=true/\a.wf=true/\b.wf=true)(h:evOp O d (.pick c a b) s κ kp=some r):Pu P s (.pick c.er a.er b.er) d κ r:=by
 simp only[evOp]at h
 split at h
 ·rename_i t x y u z hc ha hb
  split at h
  ·rename_i z' hz
   obtain⟨e1,rfl⟩:=bF hz
   refine⟨_,⟨_,aA hw.1 hc,_,rfl,t,rfl,λht=>⟨_,aA hw.2.1 ha,?_⟩,λht=>⟨_,aA hw.2.2 hb,?_⟩⟩,h⟩
   ·subst ht;rfl
   ·subst ht
    show AV.b (.pv (aH _ z))=AV.b (.pv (aH _ z'))
    rw[e1]
  ·cases h
 ·rename_i t x u z hc ha hb
  obtain⟨ht,h⟩:t=false/\κ (s.putO d (.d u z))=some r:=by cases t<;>first|exact⟨rfl,h⟩|cases h
  exact⟨_,⟨_,aA hw.1 hc,_,rfl,t,rfl,λe=>(by rw[ht]at e;cases e),λ_=>⟨_,aA hw.2.2 hb,rfl⟩⟩,h⟩
 ·rename_i t u z x hc ha hb
  obtain⟨ht,h⟩:t=true/\κ (s.putO d (.d u z))=some r:=by cases t<;>first|exact⟨rfl,h⟩|cases h
  exact⟨_,⟨_,aA hw.1 hc,_,rfl,t,rfl,λ_=>⟨_,aA hw.2.1 ha,rfl⟩,λe=>(by rw[ht]at e;cases e)⟩,h⟩
 ·cases h
theorem KJ{neg:Bool}{x y:X}(hw:x.wf=true/\y.wf=true)(h:evOp O d (.eqB neg x y) s κ kp=some r):Pu P s (.eqB neg x.er y.er) d κ r:=by
 simp only[evOp]at h
 split at h
 ·rename_i a b hx hy
  exact⟨_,⟨_,aA hw.1 hx,_,aA hw.2 hy,_,rfl,_,rfl,_,rfl,_,rfl,rfl⟩,h⟩
 ·cases h
theorem MN{op:UnOp}{x:X}(hw:x.wf=true)(h:evOp O d (.un op x) s κ kp=some r):Pu P s (.un op x.er) d κ r:=by
 simp only[evOp]at h
 split at h
 ·rename_i a hx;exact⟨_,⟨_,aA hw hx,_,rfl,show _=_ from rfl⟩,h⟩
 ·rename_i k a hx;exact⟨_,⟨_,aA hw hx,_,rfl,show _=_ from rfl⟩,h⟩
 ·cases h
theorem KR{str:Bool}{x:X}(hw:x.wf=true)(h:evOp O d (.len str x) s κ kp=some r):Pu P s (.len str x.er) d κ r:=by
 simp only[evOp]at h
 split at h
 ·rename_i a hx
  refine⟨_,⟨_,aA hw hx,_,rfl,_,rfl,?_⟩,h⟩
  show AV.v (.int .i64 ((⟨a.toArray⟩:ByteArray).size:Nat))=_
  rw[tT];rfl
 ·rename_i t a hx
  refine⟨_,⟨_,aA hw hx,.inr (.inl ⟨_,_,rfl,?_⟩)⟩,h⟩
  show AV.v (.int .i64 ((a.map _).length:Nat))=_
  rw[List.length_map];rfl
 ·rename_i t hx
  exact⟨_,⟨_,aA hw hx,.inl ⟨rfl,rfl⟩⟩,h⟩
 ·rename_i id hx
  split at h
  ·rename_i e t xs ho
   refine⟨_,⟨_,aA hw hx,.inr (.inr (.inl ⟨id,e,_,_,rfl,by rw[bO,ho];rfl,?_⟩))⟩,h⟩
   show AV.v (.int .i64 ((xs.map _).length:Nat))=_
   rw[List.length_map];rfl
  ·rename_i e k t xs hole ho
   refine⟨_,⟨_,aA hw hx,.inr (.inr (.inr (.inr ⟨id,e,_,k,_,_,rfl,by rw[bO,ho];rfl,?_⟩)))⟩,h⟩
   show AV.v (.int .i64 ((xs.map _).length:Nat))=_
   rw[List.length_map];rfl
  ·cases h
 ·cases h
theorem HZ{k e:TypeId}{x:X}(hw:x.wf=true)(h:evOp O d (.lenM k e x) s κ kp=some r):Pu P s (.lenM k e x.er) d κ r:=by
 simp only[evOp]at h
 split at h
 ·rename_i id hx
  split at h
  ·rename_i k' e' a b kvs ho
   obtain⟨h1,h2⟩:=aR h
   rw[Bool.and_eq_true]at h1
   have e1:=Nat.eq_of_beq_eq_true h1.1
   have e2:=Nat.eq_of_beq_eq_true h1.2
   subst e1;subst e2
   refine⟨_,⟨_,aA hw hx,id,_,rfl,by rw[bO,ho];rfl,?_⟩,h2⟩
   show AV.v (.int .i64 ((kvs.map _).length:Nat))=_
   rw[List.length_map];rfl
  ·cases h
 ·cases h
theorem eK{o:Option V}{f:Int->Option R}(h:intOf o f=some r):∃k n,o=some (.d (.int k) n)/\f n=some r:=by
 unfold intOf at h
 split at h
 ·exact⟨_,_,rfl,h⟩
 ·cases h
theorem HX{x i:X}(hw:x.wf=true/\i.wf=true)(h:evOp O d (.idxS x i) s κ kp=some r):Pu P s (.idxS x.er i.er) d κ r:=by
 simp only[evOp]at h
 split at h
 ·rename_i a hx
  obtain⟨k,n,hi,h⟩:=eK h
  obtain⟨c,hc,h⟩:=ct h
  obtain⟨h0,h1⟩:=wP hc
  have hlt:=(List.getElem?_eq_some_iff.1 h1).1
  refine⟨_,⟨_,aA hw.1 hx,_,aA hw.2 hi,_,rfl,_,rfl,_,_,rfl,_,rfl,h0,by rw[tT];omega,?_⟩,h⟩
  rw[AH]
  simp only[List.getD,h1,Option.getD_some]
  rfl
 ·cases h
theorem HT{k:IntKind}{x:X}(hw:x.wf=true)(h:evOp O d (.cvtI k x) s κ kp=some r):Pu P s (.cvtI k x.er) d κ r:=by
 simp only[evOp]at h
 split at h
 ·rename_i k' n hx;exact⟨_,⟨_,aA hw hx,_,rfl,_,_,rfl,rfl⟩,h⟩
 ·cases h
theorem KM{x:X}{i:Nat}(hw:x.wf=true)(h:evOp O d (.ext x i) s κ kp=some r):Pu P s (.ext x.er i) d κ r:=by
 simp only[evOp]at h
 split at h
 ·rename_i vs hx
  split at h
  ·rename_i v hv
   obtain⟨h1,h2⟩:=aR h
   refine⟨v,⟨_,aA hw hx,.inr ⟨_,rfl,aM v,by rw[List.getElem?_map,hv];rfl,?_⟩⟩,h2⟩
   cases v<;>first|rfl|cases h1
  ·cases h
 ·cases h
end
end Go.Ev
