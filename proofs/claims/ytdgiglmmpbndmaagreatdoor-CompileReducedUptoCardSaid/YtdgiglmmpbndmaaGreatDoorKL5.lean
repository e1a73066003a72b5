import Derived.Test.YtdgiglmmpbndmaaGreatDoorKL1
import Derived.Test.YtdgiglmmpbndmaaGreatDoorKL3
set_option linter.unusedVariables false
set_option linter.unusedSimpArgs false
open Bool renaming and_eq_true->b_,not_eq_true'->x_,rec->y_,false_eq_true->K_
open List renaming getElem?_eq_some_iff->g_,map_map->i_,map_congr_left->j_,mapM_cons->k_,map_cons->l_,all_eq_true->m_,length_map->o_,take_of_length_le->q_,all_cons->r_,mem_map->s_,getElem?_map->u_,getElem?_set_ne->v_,length_append->w_,map_drop->A_,map_append->B_,mem_cons_self->C_,drop_zero->D_,getElem?_set_self->E_,replicate->F_,any_eq_true->G_,map_take->H_,take_append_of_le_length->I_,mem_singleton->L_,drop_eq_getElem_cons->M_,getElem?_eq_getElem->O_,contains_iff_mem->Q_,mem_of_getElem?->R_,getD->S_,mem_map_of_mem->U_,take_succ_cons->V_,mapM_nil->X_,range->Y_,flatMap_cons->Z_,map_nil->aa_,drop_append->ad_,length_drop->ae_,mapM_append->af_,length->ah_,append_nil->aj_,nil_append->ak_,drop_drop->ao_,take_zero->ap_,mem_cons->aq_,all_map->ar_,flatMap->as_
open Nat renaming eq_of_beq_eq_true->a_,beq->c_,le_of_ble_eq_true->f_,ble->h_,lor->J_,land->P_,and_comm->ab_,zero_add->ac_,zero_testBit->ag_,add_mul->ai_,testBit_and->al_,add_zero->au_,beq_refl->av_,one_mul->aw_,zero_le->ax_
open Option renaming bind->d_,map_eq_some_iff->n_,bind_some->p_,rec->t_,getD_some->z_,isNone_iff_eq_none->N_,bind_eq_bind->W_,map_some->am_,pure_def->an_
open Option.some renaming injEq->e_
open Prod renaming mk->T_
open Sum renaming elim->ay_
namespace Go.Ev
open Go Go.RowKit Go.Av
inductive Rx where
 |mk (kind lo hi:Int) (kids:List Rx)
 deriving Inhabited
inductive Ty where
 |int (k:IntKind)
 |bool
 |str
 |list (t:Ty)
 |unit
 |pair (a b:Ty)
 |rx
 deriving Inhabited,DecidableEq
@[reducible] def Ty.den:Ty->Type
 | .int _=>Int
 | .bool=>Bool
 | .str=>List UInt8
 | .list t=>List t.den
 | .unit=>Unit
 | .pair a b=>a.den×b.den
 | .rx=>Rx
def Ty.sz:Ty->Nat
 | .unit=>0
 | .pair a b=>a.sz+b.sz
 | .rx=>4
 |_=>1
def Ty.ag:Ty->Bool
 | .unit=>true
 | .pair _ _=>true
 | .rx=>true
 |_=>false
mutual
def zcH:Rx->PV
 | .mk k l h ks=>.agg [.sc (.int .i64 k),.sc (.int .i64 l),.sc (.int .i64 h),rM 4 (R2 ks)]
def R2:List Rx->List PV
 |[]=>[]
 |r::a=>zcH r::R2 a
end
def aR:(t:Ty)->t.den->PV
 | .int k,x=>.sc (.int k x)
 | .bool,x=>.sc (.bool x)
 | .str,x=>.sc (.string ⟨x.toArray⟩)
 | .list t,x=>rM t.sz (x.map (aR t))
 | .unit,_=>.agg []
 | .pair a b,x=>.agg ((aR a x.1).cells++(aR b x.2).cells)
 | .rx,x=>zcH x
inductive V where
 |d (t:Ty) (x:t.den)
 |nil (t:Ty)
 |agg (vs:List V)
 |tup (vs:List V)
 |sl (id:Nat)
 |ptr (id off:Nat)
 |elt (id i off:Nat)
 |dp (t:Ty) (x:t.den)
 |clo (f:FuncId) (ids:List Nat)
 |fnD (f:FuncId) (cs:List ((t:Ty)×t.den))
 |mp (id:Nat)
 |full (t:Ty) (x:List t.den)
 |pel (id off n:Nat) (t:Ty) (i:Int)
 |raw (v:Value)
 |any
 |ifc
 |lit (k:K) (t:Ty) (xs:List t.den)
instance:Inhabited V:=⟨.raw Go.undef⟩
inductive Ob where
 |gone
 |free
 |box (tid:TypeId) (cs:List V)
 |vec (tid:TypeId) (t:Ty) (xs:List t.den)
 |map (k e:TypeId) (a b:Ty) (kvs:List (a.den×b.den))
 |tree (tid:TypeId) (k:K) (t:Ty) (xs:List t.den) (hole:Option (Nat×Nat×V))
instance:Inhabited Ob:=⟨.gone⟩
def dM(k:K)(t:Ty)(x:t.den):PV:=match aR t x with
 | .agg cs=>.agg (cs.mapIdx λj y=>if(k.at j).isSome then nilP else y)
 |y=>if(k.at 0).isSome then nilP else y
def aX:V->BV
 | .d t x=>.pv (aR t x)
 | .nil _=>.nils
 | .sl id=>.sl id
 | .ptr id off=>.ptr id off
 | .elt id i off=>.elt id i off
 | .dp t x=>.pv (.pto (aR t x))
 | .clo f ids=>.clo (.func f) ids
 | .fnD f cs=>.pv (.fn (.func f) (cs.map λc=>.pto (aR c.1 c.2)))
 | .mp id=>.mp id
 | .full t x=>.full (rM t.sz (x.map (aR t)))
 | .raw v=>bV v
 | .pel id off _ t i=>.ptr id (off+i.toNat*t.sz)
 | .any=>.pv .any
 | .ifc=>.ifc
 | .lit k t xs=>.pv (rM t.sz (xs.map (dM k t)))
 | .agg _=>.pv .any
 | .tup _=>.pv .any
def bg:V->AV
 | .agg vs=>.agg (vs.map aX)
 | .tup vs=>.tup (vs.map aX)
 |v=>.b (aX v)
def zhM:Option (Nat×Nat×V)->Option (Nat×Nat×BV)
 |some (i,j,v)=>some (i,j,aX v)
 |none=>none
def cq:Ob->AObj
 | .gone=>.gone
 | .free=>.free
 | .box t cs=>.box t (cs.map aX)
 | .vec e t xs=>.vec e t.sz (xs.map (aR t))
 | .map k e a b kvs=>.map k e (kvs.map λp=>(aR a p.1,aR b p.2))
 | .tree e k t xs h=>.tree e t.sz k (xs.map (aR t)) (zhM h)
structure S where
 fr:List (Nat×V)
 hp:List Ob
def enc(s:S):St:=⟨s.fr.map λx=>(x.1,bg x.2),s.hp.map cq⟩
def lk:List (Nat×V)->Nat->Option V
 |[],_=>none
 |(k,a)::l,t=>bif c_ t k then some a else lk l t
def S.put(s:S)(d:Nat)(v:V):S:=⟨(d,v)::s.fr,s.hp⟩
def S.putO(s:S)(d:Option Nat)(v:V):S:=match d with
 |some d=>s.put d v
 |none=>s
def cM(t u:Ty)(x:t.den):Option u.den:=if h:t=u then some (h▸x)else none
def aB{R:Type}(b:Bool)(x:Option R):Option R:=bif b then x else none
def aM{α:Type}(xs:List α)(i:Int):Option α:=bif decide (0<=i)then xs[i.toNat]? else none
def rxFields:Ty:=.pair (.int .i64) (.pair (.int .i64) (.pair (.int .i64) (.pair (.list .rx) .unit)))
def Rx.out:Rx->rxFields.den
 | .mk k l h ks=>(k,l,h,ks,())
def yi:(t:Ty)->(off:Nat)->(u:Ty)->t.den->Option u.den
 | .pair a b,off,u,x=>bif (decide (Ty.pair a b=u)&&c_ off 0)then cM (.pair a b) u x else bif h_ (off+1) a.sz then yi a off u x.1 else yi b (off - a.sz) u x.2
 | .rx,off,u,x=>match off with
  |0=>bif decide (u= .rx)then cM .rx u x else cM (.int .i64) u x.out.1
  |1=>cM (.int .i64) u x.out.2.1
  |2=>cM (.int .i64) u x.out.2.2.1
  |3=>cM (.list .rx) u x.out.2.2.2.1
  |_=>none
 |t,off,u,x=>bif c_ off 0 then cM t u x else none
def qG:(t:Ty)->(off:Nat)->(u:Ty)->t.den->u.den->Option t.den
 | .pair a b,off,u,x,y=>bif (decide (Ty.pair a b=u)&&c_ off 0)then cM u (.pair a b) y else bif h_ (off+1) a.sz then(match qG a off u x.1 y with|some z=>some (z,x.2)|none=>none)else(match qG b (off - a.sz) u x.2 y with|some z=>some (x.1,z)|none=>none)
 | .rx,off,u,x,y=>bif c_ off 0&&decide (u= .rx)then cM u .rx y else none
 |t,off,u,_,y=>bif c_ off 0 then cM u t y else none
def jO:(t:Ty)->t.den->List V
 | .unit,_=>[]
 | .pair a b,x=>jO a x.1++jO b x.2
 | .rx,x=>[.d (.int .i64) x.out.1,.d (.int .i64) x.out.2.1,.d (.int .i64) x.out.2.2.1,.d (.list .rx) x.out.2.2.2.1]
 |t,x=>[.d t x]
def mh(u:Ty):V->Option u.den
 | .d t x=>cM t u x
 | .nil t=>cM (.list t) u ([]:List t.den)
 | .full t x=>cM (.list t) u x
 |_=>none
def XU:(t:Ty)->List V->Option (t.den×List V)
 | .unit,l=>some ((),l)
 | .pair a b,l=>match XU a l with
  |some (x,l)=>match XU b l with
   |some (y,l)=>some ((x,y),l)
   |none=>none
  |none=>none
 | .rx,l=>match l with
  |a::b::c::e::l=>match mh (.int .i64) a,mh (.int .i64) b,mh (.int .i64) c,mh (.list .rx) e with
   |some a,some b,some c,some e=>some (.mk a b c e,l)
   |_,_,_,_=>none
  |_=>none
 |t,l=>match l with
  |v::l=>match mh t v with
   |some x=>some (x,l)
   |none=>none
  |[]=>none
def eF(t:Ty)(v:V):Option t.den:=match v with
 | .agg vs=>match t.ag with
  |true=>match XU t vs with
   |some (x,[])=>some x
   |_=>none
  |false=>none
 |v=>mh t v
def dP:V->List V
 | .d t x=>jO t x
 | .agg vs=>vs
 |v=>[v]
def whole(t:Ty)(cs:List V):V:=match t.ag with
 |true=>.agg cs
 |false=>match cs.headD default with
  | .agg _=>.any
  | .tup _=>.any
  |v=>v
def V.cellB:V->Bool
 | .d t _=> !t.ag
 | .agg _=>false
 | .tup _=>false
 | .any=>false
 | .lit _ _ _=>false
 | .raw v=>v.oneCell'
 |_=>true
def V.okB:V->Bool
 | .d _ _=>true
 | .agg vs=>vs.all V.cellB
 | .tup _=>false
 |v=>v.cellB
def V.cellD:V->Bool
 | .d _ _=>true
 | .nil _=>true
 | .full _ _=>true
 |_=>false
def jk:(t:Ty)->t.den->t.den->Bool
 | .int _,x,y=>x==y
 | .bool,x,y=>x==y
 | .str,x,y=>x==y
 | .unit,_,_=>true
 | .pair a b,x,y=>jk a x.1 y.1&&jk b x.2 y.2
 |_,_,_=>false
def Ty.eqOk:Ty->Bool
 | .int _=>true
 | .bool=>true
 | .str=>true
 | .unit=>true
 | .pair a b=>a.eqOk&&b.eqOk
 |_=>false
def bY(a b:Ty):List (a.den×b.den)->a.den->Option b.den
 |[],_=>none
 |(k,v)::l,x=>bif jk a x k then some v else bY a b l x
def dn(a b:Ty):List (a.den×b.den)->a.den->b.den->List (a.den×b.den)
 |[],x,y=>[(x,y)]
 |(k,v)::l,x,y=>bif jk a x k then(x,y)::l else(k,v)::dn a b l x y
def Ty.zero:(t:Ty)->t.den
 | .int _=>(0:Int)
 | .bool=>false
 | .str=>[]
 | .list _=>[]
 | .unit=>()
 | .pair a b=>(a.zero,b.zero)
 | .rx=>.mk 0 0 0 []
def Ty.flat:Ty->Bool
 | .list _=>false
 | .rx=>false
 | .pair a b=>a.flat&&b.flat
 |_=>true
inductive X where
 |tm (k:Nat)
 |k (t:Ty) (x:t.den)
 |nil (t:Ty)
 |ag (vs:List V)
 |f (n:Nat)
 |raw (v:Value)
 deriving Inhabited
def S.get(s:S):X->Option V
 | .tm k=>lk s.fr k
 | .k t x=>some (.d t x)
 | .nil t=>some (.nil t)
 | .ag vs=>some (.agg vs)
 | .f n=>some (.fnD n [])
 | .raw v=>some (.raw v)
inductive Slot where
 |tm (k:Nat) (t:Ty)
 |cell (id j:Nat) (t:Ty)
 |vec (id:Nat) (e:TypeId) (t:Ty)
 |map (id:Nat) (k e:TypeId) (a b:Ty)
 |tree (id:Nat) (e:TypeId) (k:K) (t:Ty)
 |treeH (id:Nat) (e:TypeId) (k:K) (t:Ty) (j kid:Nat)
@[reducible] def Slot.ty:Slot->Ty
 | .tm _ t=>t
 | .cell _ _ t=>t
 | .vec _ _ t=>.list t
 | .map _ _ _ a b=>.list (.pair a b)
 | .tree _ _ _ t=>.list t
 | .treeH _ _ _ t _ _=>.pair (.list t) (.int .i64)
@[reducible] def HL:List Slot->Type
 |[]=>Unit
 |s::l=>s.ty.den×HL l
structure Sh where
 keep:List Nat
 sk:S
 sl:List Slot
def V.isD:V->Bool
 | .d _ _=>true
 | .dp _ _=>true
 | .fnD _ _=>true
 |_=>false
def fA(fr:List (Nat×V)):List Nat->List (Nat×V)
 |[]=>[]
 |k::l=>match lk fr k with
  |some v=>bif v.isD then(k,v)::fA fr l else fA fr l
  |none=>fA fr l
def zcZ(fr:List (Nat×V))(k:Nat):Bool:=match lk fr k with
 |some v=>v.isD
 |none=>false
def Sh.base(sh:Sh)(s:S):S:=⟨fA s.fr sh.keep++sh.sk.fr,sh.sk.hp⟩
def setAt{α:Type}:List α->Nat->α->List α
 |[],_,_=>[]
 |_::l,0,y=>y::l
 |x::l,n+1,y=>x::setAt l n y
def setCell(hp:List Ob)(id j:Nat)(v:V):List Ob:=match hp[id]? with
 |some (.box t cs)=>setAt hp id (.box t (setAt cs j v))
 |_=>hp
def unpack:(sl:List Slot)->HL sl->S->S
 |[],_,s=>s
 | .tm k t::l,c,s=>unpack l c.2 ⟨(k,.d t c.1)::s.fr,s.hp⟩
 | .cell id j t::l,c,s=>unpack l c.2 ⟨s.fr,setCell s.hp id j (.d t c.1)⟩
 | .vec id e t::l,c,s=>unpack l c.2 ⟨s.fr,setAt s.hp id (.vec e t c.1)⟩
 | .map id k e a b::l,c,s=>unpack l c.2 ⟨s.fr,setAt s.hp id (.map k e a b c.1)⟩
 | .tree id e k t::l,c,s=>unpack l c.2 ⟨s.fr,setAt s.hp id (.tree e k t c.1 none)⟩
 | .treeH id e k t j kid::l,c,s=>unpack l c.2 ⟨s.fr,setAt s.hp id (.tree e k t c.1.1 (some (Int.toNat c.1.2,j,.sl kid)))⟩
def V.same:V->V->Bool
 | .sl i,.sl j=>c_ i j
 | .ptr i o,.ptr j p=>c_ i j&&c_ o p
 | .mp i,.mp j=>c_ i j
 | .clo f z,.clo g C=>c_ f g&&decide (z=C)
 | .nil t,.nil u=>decide (t=u)
 | .raw (.pointer none),.raw (.pointer none)=>true
 | .raw (.map none),.raw (.map none)=>true
 | .raw .nilFunc,.raw .nilFunc=>true
 | .raw .nilIface,.raw .nilIface=>true
 |_,_=>false
def pU:List V->List V->Bool
 |[],[]=>true
 | .any::l,_::m=>pU l m
 | .agg xs::l,.agg ys::m=>(xs.length==ys.length)&&pU l m
 |x::l,y::m=>V.same x y&&pU l m
 |_,_=>false
def Y2:Ob->Ob->Bool
 | .gone,_=>true
 | .box t cs,.box u ds=>c_ t u&&pU cs ds
 | .vec e t _,.vec c g _=>c_ e c&&decide (t=g)
 | .map k e a b _,.map f c d l _=>c_ k f&&c_ e c&&decide (a=d)&&decide (b=l)
 | .tree e k t _ h,.tree c f g _ h'=>c_ e c&&decide (k=f)&&decide (t=g)&&(match h,h' with
  |none,none=>true
  |some (_,j,.sl a),some (_,n,.sl d)=>c_ j n&&c_ a d
  |_,_=>false)
 |_,_=>false
def Jf:List Ob->List Ob->Bool
 |[],[]=>true
 |a::l,b::m=>Y2 a b&&Jf l m
 |_,_=>false
def MH(fr:List (Nat×V)):List (Nat×V)->Bool
 |[]=>true
 |(k,v)::l=>(match lk fr k with|some w=>V.same v w|none=>false)&&MH fr l
def S.fits(sk s:S):Bool:=MH s.fr sk.fr&&Jf sk.hp s.hp
def ki(s:S):(x:Slot)->Option x.ty.den
 | .tm k t=>match lk s.fr k with
  |some v=>eF t v
  |none=>none
 | .cell id j t=>match s.hp[id]? with
  |some (.box _ cs)=>match cs[j]? with
   |some v=>mh t v
   |none=>none
  |_=>none
 | .vec id _ t=>match s.hp[id]? with
  |some (.vec _ u xs)=>cM (.list u) (.list t) xs
  |_=>none
 | .map id _ _ a b=>match s.hp[id]? with
  |some (.map _ _ c d kvs)=>cM (.list (.pair c d)) (.list (.pair a b)) kvs
  |_=>none
 | .tree id _ _ t=>match s.hp[id]? with
  |some (.tree _ _ u xs none)=>cM (.list u) (.list t) xs
  |_=>none
 | .treeH id _ _ t _ _=>match s.hp[id]? with
  |some (.tree _ _ u xs (some (i,_,_)))=>match cM (.list u) (.list t) xs with
   |some xs=>some (xs,(i:Int))
   |none=>none
  |_=>none
def M6(s:S):(sl:List Slot)->Option (HL sl)
 |[]=>some ()
 |x::l=>match ki s x with
  |some c=>match M6 s l with
   |some r=>some (c,r)
   |none=>none
  |none=>none
def pack(sh:Sh)(s:S):Option (HL sh.sl):=match S.fits sh.sk s&&sh.keep.all (zcZ s.fr)with
 |true=>M6 s sh.sl
 |false=>none
def QJ(hp:List Ob):Slot->Bool
 | .vec id e t=>match hp[id]? with
  |some (.vec c g _)=>c_ e c&&decide (t=g)
  |_=>false
 | .map id k e a b=>match hp[id]? with
  |some (.map d c h l _)=>c_ k d&&c_ e c&&decide (a=h)&&decide (b=l)
  |_=>false
 | .tree id e k t=>match hp[id]? with
  |some (.tree c d g _ none)=>c_ e c&&decide (k=d)&&decide (t=g)
  |_=>false
 | .treeH id e k t j kid=>match hp[id]? with
  |some (.tree c d g _ (some (_,n,.sl f)))=>c_ e c&&decide (k=d)&&decide (t=g)&&c_ j n&&c_ kid f
  |_=>false
 |_=>true
def zfO(sl:List Slot):Nat->List Ob->Bool
 |_,[]=>true
 |i,o::l=>(match o with
  | .vec _ _ _=>sl.any λx=>match x with
   | .vec j _ _=>c_ j i
   |_=>false
  | .map _ _ _ _ _=>sl.any λx=>match x with
   | .map j _ _ _ _=>c_ j i
   |_=>false
  | .tree _ _ _ _ _=>sl.any λx=>match x with
   | .tree j _ _ _=>c_ j i
   | .treeH j _ _ _ _ _=>c_ j i
   |_=>false
  |_=>true)&&zfO sl (i+1) l
def Sh.wfB(sh:Sh):Bool:=sh.sl.all (QJ sh.sk.hp)&&zfO sh.sl 0 sh.sk.hp
@[reducible] def XT:List (Nat×Sh)->Type
 |[]=>Empty
 |[(_,sh)]=>HL sh.sl
 |(_,sh)::l=>HL sh.sl⊕XT l
def inj:(xs:List (Nat×Sh))->Nat->S->Option (XT xs)
 |[],_,_=>none
 |[(k,sh)],key,s=>bif c_ k key then pack sh s else none
 |(k,sh)::a::l,key,s=>bif c_ k key then(match pack sh s with|some c=>some (.inl c)|none=>none)else(match inj (a::l) key s with|some c=>some (.inr c)|none=>none)
def nG{R:Type}(s:S)(κ:Nat->S->Option R):(xs:List (Nat×Sh))->XT xs->Option R
 |[],_=>none
 |[(k,sh)],c=>κ k (unpack sh.sl c (sh.base s))
 |(k,sh)::a::l,c=>ay_ (λc=>κ k (unpack sh.sl c (sh.base s))) (λc=>nG s κ (a::l) c) c
inductive Adj where
 |freeze (id:Nat)
 |adopt (k:Nat) (e:TypeId) (t:Ty)
 |adoptC (id j:Nat) (e:TypeId) (t:Ty)
 |sel (ids:List Nat) (ks:List Nat)
 |drop (ks:List Nat)
 |focus (id k j:Nat) (u:Ty)
 |close (id:Nat)
 |adoptT (k:Nat) (e:TypeId) (kk:K) (t:Ty)
 |adoptCT (id j:Nat) (e:TypeId) (kk:K) (t:Ty)
def V.ren(ρ:Nat->Nat):V->V
 | .sl id=>.sl (ρ id)
 | .ptr id off=>.ptr (ρ id) off
 | .pel id off n t i=>.pel (ρ id) off n t i
 | .elt id i off=>.elt (ρ id) i off
 | .clo f ids=>.clo f (ids.map ρ)
 | .mp id=>.mp (ρ id)
 |x=>x
def V.ids1:V->List Nat
 | .sl id=>[id]
 | .ptr id _=>[id]
 | .pel id _ _ _ _=>[id]
 | .elt id _ _=>[id]
 | .clo _ ids=>ids
 | .mp id=>[id]
 |_=>[]
def rN(g:V->V):V->V
 | .agg vs=>.agg (vs.map g)
 | .tup vs=>.tup (vs.map g)
 |v=>g v
def zhU(g:V->V):Option (Nat×Nat×V)->Option (Nat×Nat×V)
 |some (i,j,v)=>some (i,j,g v)
 |none=>none
def CK(g:V->V):Ob->Ob
 | .box t cs=>.box t (cs.map g)
 | .tree e k t xs h=>.tree e k t xs (zhU g h)
 |o=>o
def V.ids:V->List Nat
 | .agg vs=>vs.flatMap V.ids1
 | .tup vs=>vs.flatMap V.ids1
 |v=>v.ids1
def V.kids1:V->List Nat
 | .sl id=>[id]
 | .elt id _ _=>[id]
 |_=>[]
def V.kids:V->List Nat
 | .agg vs=>vs.flatMap V.kids1
 | .tup vs=>vs.flatMap V.kids1
 |v=>v.kids1
def Ob.kids:Ob->List Nat
 | .box _ cs=>cs.flatMap V.kids1
 | .tree _ _ _ _ (some (_,_,v))=>v.kids1
 |_=>[]
def Ob.ids:Ob->List Nat
 | .box _ cs=>cs.flatMap V.ids1
 | .tree _ _ _ _ (some (_,_,v))=>v.ids1
 |_=>[]
def S.map(g:V->V)(s:S):S:=⟨s.fr.map λx=>(x.1,rN g x.2),s.hp.map (CK g)⟩
def V.kill1(id:Nat):V->V
 | .sl k=>bif c_ k id then .any else .sl k
 | .elt k i o=>bif c_ k id then .any else .elt k i o
 |v=>v
def S.moved(s:S)(id:Nat)(o:Ob):S:=⟨s.fr.map λx=>(x.1,rN (V.kill1 id) x.2),setAt (s.hp.map (CK (V.kill1 id))) id o⟩
def UG(l:List Nat)(x:Nat):Nat:=l.idxOf x
def qV(l:List Nat)(x:Nat):Bool:=l.any (c_ x)
def allIn(l m:List Nat):Bool:=m.all (qV l)
def frz(id:Nat)(t:Ty)(x:List t.den):V->V
 | .sl k=>bif c_ k id then .d (.list t) x else .sl k
 | .elt k i o=>bif c_ k id then .any else .elt k i o
 |v=>v
def Dx(e:TypeId)(k:K)(u:Ty)(L:List u.den):Ob:=bif k.allF then .vec e u L else .tree e k u L none
def Lh(e:TypeId)(k:K)(u:Ty):Ob->Option (List u.den)
 | .vec a t xs=>bif k.allF&&c_ e a then cM (.list t) (.list u) xs else none
 | .tree a b t xs none=>bif !k.allF&&c_ e a&&decide (k=b)then cM (.list t) (.list u) xs else none
 |_=>none
def zfn:Ty->Nat->Option Ty
 | .list u,0=>some u
 | .pair a b,off=>bif h_ (off+1) a.sz then zfn a off else zfn b (off - a.sz)
 |_,_=>none
def adj:Adj->S->Option S
 | .freeze id,s=>match s.hp[id]? with
  |some (.vec _ t xs)=>some (let s':=s.map (frz id t xs);⟨s'.fr,setAt s'.hp id .gone⟩)
  |some (.tree _ _ t xs none)=>some (let s':=s.map (frz id t xs);⟨s'.fr,setAt s'.hp id .gone⟩)
  |_=>none
 | .focus id k j u,s=>match lk s.fr k,s.hp[id]? with
  |some (.d (.int _) n),some (.tree e kk t xs none)=>match kk.at j with
   |some (b,a,c)=>bif c_ a u.sz&&decide (0<=n)then d_ xs[n.toNat]? λx=>(match yi t j (.list u) x with
    |some L=>some ⟨s.fr,setAt s.hp id (.tree e kk t xs (some (n.toNat,j,.sl s.hp.length)))++[Dx b c u L]⟩
    |none=>none)else none
   |none=>none
  |_,_=>none
 | .close id,s=>match s.hp[id]? with
  |some (.tree e kk t xs (some (i,j,.sl kid)))=>bif c_ kid id then none else(match kk.at j,s.hp[kid]?,zfn t j with
   |some (b,a,c),some o,some u=>match Lh b c u o with
    |some L=>bif c_ a u.sz then d_ xs[i]? λx=>(match qG t j (.list u) x L with
     |some y=>some (let s':=s.moved kid .gone;⟨s'.fr,setAt s'.hp id (.tree e kk t (xs.set i y) none)⟩)
     |none=>none)else none
    |none=>none
   |_,_,_=>none)
  |_=>none
 | .adopt k e t,s=>match lk s.fr k with
  |some (.nil _)=>some ⟨(k,.sl s.hp.length)::s.fr,s.hp++[.vec e t []]⟩
  |_=>none
 | .adoptC id j e t,s=>match s.hp[id]? with
  |some (.box u cs)=>match cs[j]? with
   |some (.nil _)=>some ⟨s.fr,setAt s.hp id (.box u (setAt cs j (.sl s.hp.length)))++[.vec e t []]⟩
   |_=>none
  |_=>none
 | .adoptT k e kk t,s=>match lk s.fr k with
  |some (.nil _)=>some ⟨(k,.sl s.hp.length)::s.fr,s.hp++[.tree e kk t [] none]⟩
  |_=>none
 | .adoptCT id j e kk t,s=>match s.hp[id]? with
  |some (.box u cs)=>match cs[j]? with
   |some (.nil _)=>some ⟨s.fr,setAt s.hp id (.box u (setAt cs j (.sl s.hp.length)))++[.tree e kk t [] none]⟩
   |_=>none
  |_=>none
 | .sel ids ks,s=>match ids.mapM (λi=>s.hp[i]?),ks.mapM (λk=>(lk s.fr k).map λv=>(k,v))with
  |some os,some fr=>bif decide ids.Nodup&&os.all (λo=>allIn ids o.ids)&&fr.all (λx=>allIn ids x.2.ids)then
   some ⟨fr.map λx=>(x.1,rN (V.ren (UG ids)) x.2),os.map (CK (V.ren (UG ids)))⟩else none
  |_,_=>none
 | .drop ks,s=>some ⟨s.fr.filter λx=> !qV ks x.1,s.hp⟩
def zcf:List Adj->S->Option S
 |[],s=>some s
 |a::l,s=>match adj a s with
  |some s=>zcf l s
  |none=>none
def zce{R:Type}:Adj->S->(S->Option R)->Option R
 | .focus id k j u,s,κ=>match lk s.fr k,s.hp[id]? with
  |some (.d (.int _) n),some (.tree e kk t xs none)=>match kk.at j with
   |some (c,b,d)=>bif c_ b u.sz then aB (decide (0<=n)) (d_ xs[n.toNat]? λx=>(match yi t j (.list u) x with
    |some L=>κ ⟨s.fr,setAt s.hp id (.tree e kk t xs (some (n.toNat,j,.sl s.hp.length)))++[Dx c d u L]⟩
    |none=>none))else none
   |none=>none
  |_,_=>none
 | .close id,s,κ=>match s.hp[id]? with
  |some (.tree e kk t xs (some (i,j,.sl kid)))=>bif c_ kid id then none else(match kk.at j,s.hp[kid]?,zfn t j with
   |some (c,b,d),some o,some u=>match Lh c d u o with
    |some L=>bif c_ b u.sz then d_ xs[i]? λx=>(match qG t j (.list u) x L with
     |some y=>κ (let s':=s.moved kid .gone;⟨s'.fr,setAt s'.hp id (.tree e kk t (xs.set i y) none)⟩)
     |none=>none)else none
    |none=>none
   |_,_,_=>none)
  |_=>none
 |a,s,κ=>match adj a s with
  |some s=>κ s
  |none=>none
def EY{R:Type}:List Adj->S->(S->Option R)->Option R
 |[],s,κ=>κ s
 |a::l,s,κ=>zce a s λs=>EY l s κ
inductive Arg where
 |d (t:Ty)
 |x
inductive TOp where
 |mv (x:X)
 |pick (c a b:X)
 |bin (op:BinOp) (x y:X)
 |eqB (neg:Bool) (x y:X)
 |eqT (neg:Bool) (tid:TypeId) (t:Ty) (x y:X)
 |un (op:UnOp) (x:X)
 |len (str:Bool) (x:X)
 |lenM (k e:TypeId) (x:X)
 |idxS (x i:X)
 |idxV (n:Nat) (t:Ty) (x i:X)
 |idxA (t:Ty) (x i:X)
 |idxP (n:Nat) (t:Ty) (x i:X)
 |fldA (off:Nat) (t:Ty) (x:X)
 |fld (off:Nat) (t:Ty) (x:X)
 |load (t:Ty) (x:X)
 |store (t:Ty) (x v:X)
 |alloc (tid:TypeId) (zero:List V)
 |box (tid:TypeId) (x:X)
 |boxD (tid:TypeId) (t:Ty) (x:X)
 |build (zero:List V) (parts:List (Nat×Nat×X))
 |bslice (own:Bool) (tid:TypeId) (t:Ty) (len:Nat) (parts:List X)
 |mslice (tid:TypeId) (t:Ty) (bytes:Nat) (l c:X)
 |append (tid:TypeId) (t:Ty) (bytes:Nat) (x y:X)
 |cvtI (k:IntKind) (x:X)
 |slc (full:Bool) (t:Ty) (x:X) (lo hi mx:Option X)
 |slcS (x:X) (lo hi:Option X)
 |ext (x:X) (i:Nat)
 |nilc (x:X)
 |call (bor:Bool) (f:FuncId) (args:List (Arg×X)) (sh:Sh)
 |callA (pan bor:Bool) (B:List Nat) (f:FuncId) (args:List (Arg×X)) (sh:Sh)
 |callv (pan bor:Bool) (B:List Nat) (num:Nat) (x:X) (args:List (Arg×X)) (sh:Sh)
 |b2s (x:X)
 |mkfn (f:FuncId) (caps:List X)
 |mkmap (k e:TypeId) (a b:Ty)
 |lookup (k e:TypeId) (ok:Bool) (a b:Ty) (m x:X)
 |mapset (k e:TypeId) (a b:Ty) (m x v:X)
 |copy (tid:TypeId) (t:Ty) (x y:X)
 |mnmx (mx:Bool) (k:IntKind) (x:X) (ys:List X)
 |panic (x:X)
 |iface (tid:TypeId) (x:X)
 |bsliceF (tid:TypeId) (t:Ty) (len:Nat) (parts:List X)
 |appD (tid:TypeId) (t:Ty) (bytes:Nat) (x y:X)
 |bsliceN (tid:TypeId) (k:K) (t:Ty) (len:Nat) (parts:List X)
 |msliceT (tid:TypeId) (k:K) (u:Ty) (bytes:Nat) (l c:X)
 |appT (tid:TypeId) (k:K) (t:Ty) (bytes:Nat) (x y:X)
 |callp (bor:Bool) (num:Nat) (x:X) (args:List (Arg×X)) (sh:Sh)
 |atq(k:Nat) (op:TOp)
abbrev ao:=FuncId->List V->List Ob->Option (Option S)
section
variable {R:Type}
def zfa(op:BinOp)(k c:IntKind)(a b:Int)(κ:V->Option R):Option R:=
 match op with
 | .shl=>aB (decide (0<=b)) (κ (.d (.int k) (k.wrap (a*2^(min b.toNat k.bits)))))
 | .shr=>aB (decide (0<=b)) (κ (.d (.int k) (a.fdiv (2^(min b.toNat k.bits)))))
 |op=>bif decide (k=c)then(match op with
  | .add=>κ (.d (.int k) (k.wrap (a+b)))
  | .sub=>κ (.d (.int k) (k.wrap (a - b)))
  | .mul=>κ (.d (.int k) (k.wrap (a*b)))
  | .quo=>aB (b != 0) (κ (.d (.int k) (k.wrap (a.tdiv b))))
  | .rem=>aB (b != 0) (κ (.d (.int k) (a.tmod b)))
  | .and=>κ (.d (.int k) (gE k .and a b))
  | .or=>κ (.d (.int k) (gE k .or a b))
  | .xor=>κ (.d (.int k) (gE k .xor a b))
  | .andNot=>κ (.d (.int k) (gE k .andNot a b))
  | .eql=>κ (.d .bool (a==b))
  | .neq=>κ (.d .bool (a != b))
  | .lss=>κ (.d .bool (decide (a<b)))
  | .leq=>κ (.d .bool (decide (a<=b)))
  | .gtr=>κ (.d .bool (decide (a>b)))
  | .geq=>κ (.d .bool (decide (a>=b)))
  |_=>none)else none
def zfb(op:BinOp)(a b:List UInt8)(κ:V->Option R):Option R:=
 match op with
 | .add=>aB (decide (a.length+b.length<=9223372036854775807)) (κ (.d .str (a++b)))
 | .eql=>κ (.d .bool (a==b))
 | .neq=>κ (.d .bool (!(a==b)))
 | .lss=>κ (.d .bool (Op.bytesLess a b))
 | .leq=>κ (.d .bool (Op.bytesLess a b||a==b))
 | .gtr=>κ (.d .bool (!(Op.bytesLess a b||a==b)))
 | .geq=>κ (.d .bool (!(Op.bytesLess a b)))
 |_=>none
def intOf(v:Option V)(κ:Int->Option R):Option R:=match v with
 |some (.d (.int _) n)=>κ n
 |_=>none
def xF(hp:List Ob)(t:Ty)(v:Option V)(κ:List t.den->Option R):Option R:=match v with
 |some (.sl id)=>match hp[id]? with
  |some (.vec _ u xs)=>match cM (.list u) (.list t) xs with
   |some xs=>κ xs
   |none=>none
  |_=>none
 |some v=>match mh (.list t) v with
  |some xs=>κ xs
  |none=>none
 |none=>none
def E4(s:S)(x:Option X)(a:Nat)(κ:Nat->Option R):Option R:=match x with
 |none=>κ a
 |some x=>intOf (s.get x) λn=>aB (decide (0<=n)) (κ n.toNat)
def rowAt(t:Ty):Nat->V->Int->Option t.den
 |n+1,.d (.pair a b) x,m=>match cM a t x.1 with
  |some y=>bif decide (m=0)then some y else rowAt t n (.d b x.2) (m - 1)
  |none=>none
 |n+1,.agg vs,m=>match XU t vs with
  |some (x,l)=>bif decide (m=0)then some x else rowAt t n (.agg l) (m - 1)
  |none=>none
 |_,_,_=>none
def Gj(t:Ty)(y:t.den):Nat->List V->Int->Option (List V)
 |n+1,vs,m=>match XU t vs with
  |some (x,l)=>match Gj t y n l (m - 1)with
   |some r=>some (jO t (bif decide (m=0)then y else x)++r)
   |none=>none
  |none=>none
 |0,vs,_=>some vs
def loadT(hp:List Ob)(t:Ty)(v:Option V)(κ:V->Option R):Option R:=match v with
 |some (.dp u x)=>match cM u t x with
  |some x=>κ (.d t x)
  |none=>none
 |some (.ptr id off)=>match hp[id]? with
  |some (.box _ cs)=>bif h_ (off+t.sz) cs.length then κ (whole t ((cs.drop off).take t.sz))else none
  |_=>none
 |some (.pel id off n u m)=>match hp[id]? with
  |some (.box _ cs)=>bif h_ (off+n*u.sz) cs.length&&decide (u=t)then d_ (rowAt t n (.agg ((cs.drop off).take (n*u.sz))) m) λx=>κ (.d t x)else none
  |_=>none
 |some (.elt id i off)=>match hp[id]? with
  |some (.vec _ u xs)=>bif decide (u=t)|| !c_ t.sz u.sz then d_ xs[i]? λx=>(match yi u off t x with
   |some y=>κ (.d t y)
   |none=>none)else none
  |some (.tree _ k u xs hole)=>bif k.flatB off t.sz then d_ xs[i]? λx=>(match yi u off t x with
   |some y=>κ (.d t y)
   |none=>none)else(match hole with
    |some (a,b,v)=>bif c_ b off&& !t.ag&&h_ (off+1) u.sz&&(match v with| .sl _=>true|_=>false)then d_ xs[i]? λ_=>aB (c_ a i) (κ v)else none
    |none=>none)
  |_=>none
 |_=>none
def mN(cs:List V)(off:Nat)(vs:List V):List V:=cs.take off++vs++cs.drop (off+vs.length)
def storeT(s:S)(t:Ty)(a:Option V)(v:Option V)(κ:S->Option R):Option R:=match a,v with
 |some (.ptr id off),some v=>match s.hp[id]? with
  |some (.box tid cs)=>bif c_ (dP v).length t.sz&&h_ (off+t.sz) cs.length&&v.okB then κ ⟨s.fr,setAt s.hp id (.box tid (mN cs off (dP v)))⟩else none
  |_=>none
 |some (.pel id off n u m),some v=>match s.hp[id]?,eF t v with
  |some (.box tid cs),some y=>bif h_ (off+n*u.sz) cs.length&&decide (u=t)&&h_ 1 t.sz then(match Gj t y n ((cs.drop off).take (n*u.sz)) m with
   |some vs=>aB (decide (0<=m)&&decide (m<n)) (κ ⟨s.fr,setAt s.hp id (.box tid (mN cs off vs))⟩)
   |none=>none)else none
  |_,_=>none
 |some (.elt id i off),some v=>match s.hp[id]?,eF t v with
  |some (.vec e u xs),some y=>bif decide (u=t)|| !c_ t.sz u.sz then d_ xs[i]? λx=>(match qG u off t x y with
   |some z=>κ ⟨s.fr,setAt s.hp id (.vec e u (xs.set i z))⟩
   |none=>none)else none
  |some (.tree e k u xs hole),some y=>bif k.flatB off t.sz&&u.ag then d_ xs[i]? λx=>(match qG u off t x y with
   |some z=>κ ⟨s.fr,setAt s.hp id (.tree e k u (xs.set i z) hole)⟩
   |none=>none)else none
  |some (.tree e k u xs (some (b,c,_))),none=>(match v with
   | .sl kid=>bif c_ c off&&c_ t.sz 1&&h_ (off+1) u.sz then d_ xs[i]? λ_=>aB (c_ b i) (κ ⟨s.fr,setAt s.hp id (.tree e k u xs (some (b,c,.sl kid)))⟩)else none
   |_=>none)
  |_,_=>none
 |_,_=>none
def V.isRef:V->Bool
 | .sl _=>true
 | .ptr _ _=>true
 | .pel _ _ _ _ _=>true
 | .elt _ _ _=>true
 | .clo _ _=>true
 | .mp _=>true
 |_=>false
def PF(s:S)(bor:Bool)(B:List Nat)(a:Arg×X):Option V:=match a.1,s.get a.2 with
 | .d (.list t),some (.sl id)=>bif bor&& !qV B id then(match s.hp[id]? with
  |some (.vec _ u xs)=>match cM (.list u) (.list t) xs with
   |some xs=>some (.d (.list t) xs)
   |none=>none
  |some (.tree _ _ u xs none)=>match cM (.list u) (.list t) xs with
   |some xs=>some (.d (.list t) xs)
   |none=>none
  |_=>none)else none
 | .d t,some v=>match eF t v with
  |some x=>some (.d t x)
  |none=>none
 | .x,some v=>match v with
  | .d _ _=>none
  | .nil _=>none
  | .full _ _=>none
  | .raw (.slice _ _ _)=>none
  | .agg vs=>bif vs.any V.isRef then some (.agg vs)else none
  |v=>some v
 |_,none=>none
def xm(s:S)(bor:Bool)(B:List Nat):List (Arg×X)->Option (List V)
 |[]=>some []
 |a::l=>match PF s bor B a with
  |some v=>match xm s bor B l with
   |some vs=>some (v::vs)
   |none=>none
  |none=>none
def zgZ(hp:List Ob):V->V
 | .sl id=>match hp[id]? with
  |some (.vec _ u xs)=>.d (.list u) xs
  |some (.tree _ _ u xs none)=>.d (.list u) xs
  |_=>.sl id
 |v=>v
def zgQ(s:S)(bor:Bool)(a:Arg×X):Option V:=match PF s bor [] a with
 |some v=>some v
 |none=>match a.1,s.get a.2 with
  | .d t,some (.agg vs)=>bif bor then(match eF t (.agg (vs.map (zgZ s.hp)))with
   |some x=>some (.d t x)
   |none=>none)else none
  |_,_=>none
def Tw(s:S)(bor:Bool):List (Arg×X)->Option (List V)
 |[]=>some []
 |a::l=>match zgQ s bor a with
  |some v=>match Tw s bor l with
   |some vs=>some (v::vs)
   |none=>none
  |none=>none
def lA:Ty->List Ty
 | .unit=>[]
 | .pair a b=>lA a++lA b
 | .rx=>[.int .i64,.int .i64,.int .i64,.list .rx]
 |t=>[t]
def flatK:K->List Ty->Bool
 | .e,ts=>ts.all Ty.flat
 | .f r,t::ts=>t.flat&&flatK r ts
 | .s _ sz sub r,.list u::ts=>c_ sz u.sz&&flatK sub (lA u)&&flatK r ts
 |_,_=>false
def Slot.flat:Slot->Bool
 | .tm _ t=>t.flat
 | .cell _ _ t=>t.flat
 | .vec _ _ t=>t.flat
 | .map _ _ _ a b=>a.flat&&b.flat
 | .tree _ _ k t=>flatK k (lA t)
 | .treeH _ _ k t _ _=>flatK k (lA t)
def Eo(fr:List (Nat×V))(n:Nat):List V:=(Y_ n).map λi=>(lk fr i).getD .any
def res(n:Nat)(fr:List (Nat×V)):V:=bif c_ n 1 then(lk fr 0).getD .any else .tup (Eo fr n)
def V.isA:V->Bool
 | .agg _=>true
 | .tup _=>true
 |_=>false
def Vf(n:Nat)(fr:List (Nat×V)):Bool:=c_ n 1||fr.all λx=> !x.2.isA
def TE(B:List Nat)(n k:Nat):Nat:=bif h_ (k+1) B.length then B.getD k 0 else n+(k - B.length)
def zY(B:List Nat):V->V
 | .sl k=>bif qV B k then .any else .sl k
 | .elt k i o=>bif qV B k then .any else .elt k i o
 |v=>v
def XX(B:List Nat)(os:List Ob)(n:Nat):Nat->List Ob->List Ob
 |_,[]=>[]
 |i,o::l=>(bif qV B i then CK (V.ren (TE B n)) (os.getD (UG B i) .gone)else CK (zY B) o)::XX B os n (i+1) l
def S.back(s:S)(B:List Nat)(os:List Ob):S:=
 ⟨s.fr.map λx=>(x.1,rN (zY B) x.2),XX B os s.hp.length 0 s.hp++(os.drop B.length).map (CK (V.ren (TE B s.hp.length)))⟩
def Sh.n(sh:Sh):Nat:=(sh.sk.fr.length)+(sh.sl.filter λx=>match x with| .tm _ _=>true|_=>false).length
def aC(O:ao)(f:FuncId)(ars:List V)(os:List Ob)(sh:Sh):Option (HL sh.sl):=match O f ars os with
 |some (some s)=>bif c_ s.fr.length sh.n&&Vf sh.n s.fr then pack sh s else none
 |_=>none
def lx(O:ao)(f:FuncId)(ars:List V)(os:List Ob)(sh:Sh):Option (Option (HL sh.sl)):=match O f ars os with
 |some (some s)=>bif c_ s.fr.length sh.n&&Vf sh.n s.fr then(match pack sh s with|some c=>some (some c)|none=>none)else none
 |some none=>some none
 |none=>none
end
def V.isNil:V->Bool
 | .nil _=>true
 |_=>false
def V.isRaw:V->Bool
 | .raw _=>true
 |_=>false
def zdt(k:K)(v:V):Bool:=(match v with| .agg _=>true| .nil _=>true|_=>false)&&(Y_ (dP v).length).all λj=>(((dP v).getD j .any).isNil==(k.at j).isSome)&& !((dP v).getD j .any).isRaw
def zg9(k:K)(cs:List V):Bool:=(Y_ cs.length).all λj=>match k.at j with
 |some _=>(match cs.getD j .any with| .d (.list _) l=>l.isEmpty|_=>false)
 |none=>true
section
variable {R:Type}
def IH(s:S)(d:Option Nat)(B:List Nat)(n:Nat)(sh:Sh)(κ:S->Option R)(c:HL sh.sl):Option R:=
 let r:=unpack sh.sl c (sh.base ⟨[],[]⟩)
 κ ((s.back B r.hp).putO d (rN (V.ren (TE B s.hp.length)) (res n r.fr)))
def Y3(s:S)(B:List Nat):Option (List Ob):=match B with
 |[]=>some []
 |i::B=>match s.hp[i]? with
  |some o=>match Y3 s B with
   |some os=>some (o::os)
   |none=>none
  |none=>none
def FV(pan:Bool)(O:ao)(s:S)(d:Option Nat)(bor:Bool)(B:List Nat)(f:FuncId)(ars:List V)(sh:Sh)(κ kp:S->Option R):Option R:=match Y3 s B with
 |some os=>bif decide B.Nodup&&ars.all (λa=>allIn B a.ids)&&os.all (λo=>allIn B o.ids)&&(!bor||sh.sl.all Slot.flat)then
  (match pan with
  |false=>d_ (aC O f (ars.map (rN (V.ren (UG B)))) (os.map (CK (V.ren (UG B)))) sh) (IH s d B sh.n sh κ)
  |true=>d_ (lx O f (ars.map (rN (V.ren (UG B)))) (os.map (CK (V.ren (UG B)))) sh) λo=>match o with
   |some c=>IH s d B sh.n sh κ c
   |none=>kp (s.back B (os.map λ_=>.gone)))else none
 |none=>none
def evOp(O:ao)(d:Option Nat)(op:TOp)(s:S)(κ kp:S->Option R):Option R:=
 match op with
 | .mv x=>match s.get x with
  |some v=>κ (s.putO d v)
  |none=>none
 | .pick c a b=>match s.get c,s.get a,s.get b with
  |some (.d .bool c),some (.d t x),some (.d u y)=>match cM u t y with
   |some y=>κ (s.putO d (.d t (bif c then x else y)))
   |none=>none
  |some (.d .bool c),some (.raw _),some (.d u y)=>bif c then none else κ (s.putO d (.d u y))
  |some (.d .bool c),some (.d t x),some (.raw _)=>bif c then κ (s.putO d (.d t x))else none
  |_,_,_=>none
 | .bin op x y=>match s.get x,s.get y with
  |some (.d (.int k) a),some (.d (.int g) b)=>zfa op k g a b λv=>κ (s.putO d v)
  |some (.d .str a),some (.d .str b)=>zfb op a b λv=>κ (s.putO d v)
  |_,_=>none
 | .eqB neg x y=>match s.get x,s.get y with
  |some (.d .bool a),some (.d .bool b)=>κ (s.putO d (.d .bool (neg ^^ (a==b))))
  |_,_=>none
 | .eqT neg _ t x y=>match s.get x,s.get y with
  |some v,some u=>match eF t v,eF t u with
   |some a,some b=>bif t.eqOk then κ (s.putO d (.d .bool (neg ^^ jk t a b)))else none
   |_,_=>none
  |_,_=>none
 | .un op x=>match op,s.get x with
  | .not,some (.d .bool a)=>κ (s.putO d (.d .bool (!a)))
  | .neg,some (.d (.int k) a)=>κ (s.putO d (.d (.int k) (k.wrap (0 - a))))
  |_,_=>none
 | .len str x=>match str,s.get x with
  |true,some (.d .str a)=>κ (s.putO d (.d (.int .i64) a.length))
  |false,some (.d (.list _) a)=>κ (s.putO d (.d (.int .i64) a.length))
  |false,some (.nil _)=>κ (s.putO d (.d (.int .i64) 0))
  |false,some (.sl id)=>match s.hp[id]? with
   |some (.vec _ _ xs)=>κ (s.putO d (.d (.int .i64) xs.length))
   |some (.tree _ _ _ xs _)=>κ (s.putO d (.d (.int .i64) xs.length))
   |_=>none
  |_,_=>none
 | .lenM k e x=>match s.get x with
  |some (.mp id)=>match s.hp[id]? with
   |some (.map g r _ _ kvs)=>bif c_ k g&&c_ e r then κ (s.putO d (.d (.int .i64) kvs.length))else none
   |_=>none
  |_=>none
 | .idxS x i=>match s.get x with
  |some (.d .str a)=>intOf (s.get i) λn=>d_ (aM a n) λc=>κ (s.putO d (.d (.int .u8) c.toNat))
  |_=>none
 | .idxV n t x i=>match s.get x with
  |some v=>bif c_ (dP v).length (n*t.sz)&&(match v with| .agg vs=>vs.all V.cellD|_=>true)then intOf (s.get i) λm=>d_ (rowAt t n v m) λc=>κ (s.putO d (.d t c))else none
  |none=>none
 | .idxA t x i=>match s.get x with
  |some (.sl id)=>match s.hp[id]? with
   |some (.vec _ u xs)=>bif decide (u=t)then intOf (s.get i) λn=>d_ (aM xs n) λ_=>κ (s.putO d (.elt id n.toNat 0))else none
   |some (.tree _ _ u xs _)=>bif decide (u=t)then intOf (s.get i) λn=>d_ (aM xs n) λ_=>κ (s.putO d (.elt id n.toNat 0))else none
   |_=>none
  |some (.d (.list u) xs)=>match cM (.list u) (.list t) xs with
   |some xs=>intOf (s.get i) λn=>d_ (aM xs n) λx=>κ (s.putO d (.dp t x))
   |none=>none
  |_=>none
 | .idxP n t x i=>match s.get x,i with
  |some (.ptr id off),.k (.int _) m=>aB (decide (0<=m)&&decide (m<n)) (κ (s.putO d (.ptr id (off+m.toNat*t.sz))))
  |some (.ptr id off),i=>intOf (s.get i) λm=>aB (decide (0<=m)&&decide (m<n)) (κ (s.putO d (.pel id off n t m)))
  |some (.dp u y),i=>bif c_ u.sz (n*t.sz)&&u.ag then intOf (s.get i) λm=>d_ (rowAt t n (.d u y) m) λc=>κ (s.putO d (.dp t c))else none
  |_,_=>none
 | .fldA off t x=>match s.get x with
  |some (.dp u y)=>match yi u off t y with
   |some z=>κ (s.putO d (.dp t z))
   |none=>none
  |some (.ptr id o)=>κ (s.putO d (.ptr id (o+off)))
  |some (.elt id i o)=>κ (s.putO d (.elt id i (o+off)))
  |_=>none
 | .fld off t x=>match s.get x with
  |some (.d u y)=>bif u.ag then(match yi u off t y with
   |some z=>κ (s.putO d (.d t z))
   |none=>none)else none
  |some (.agg vs)=>bif h_ (off+t.sz) vs.length then κ (s.putO d (whole t ((vs.drop off).take t.sz)))else none
  |_=>none
 | .load t x=>loadT s.hp t (s.get x) λv=>κ (s.putO d v)
 | .store t x v=>match d with
  |none=>storeT s t (s.get x) (s.get v) κ
  |some _=>none
 | .alloc tid zero=>κ (S.putO ⟨s.fr,s.hp++[.box tid zero]⟩ d (.ptr s.hp.length 0))
 | .box tid x=>match s.get x with
  |some v=>bif v.okB then κ (S.putO ⟨s.fr,s.hp++[.box tid (dP v)]⟩ d (.ptr s.hp.length 0))else none
  |none=>none
 | .boxD _ t x=>match s.get x with
  |some (.full _ _)=>none
  |some v=>match eF t v with
   |some y=>κ (s.putO d (.dp t y))
   |none=>none
  |none=>none
 | .build zero parts=>buildT s zero parts λcs=>κ (s.putO d (.agg cs))
 | .bslice own tid t len parts=>bif c_ parts.length len&&h_ 1 t.sz&&h_ (len*t.sz) 16777216 then listT s t parts λxs=>(match own with
  |true=>κ (S.putO ⟨s.fr,s.hp++[.vec tid t xs]⟩ d (.sl s.hp.length))
  |false=>κ (s.putO d (.d (.list t) xs)))else none
 | .mslice tid t bytes l c=>bif h_ 1 t.sz then intOf (s.get l) λl=>intOf (s.get c) λc=>
  aB (decide (0<=l)&&decide (l<=c)&&decide (c<=9223372036854775807)&&decide (bytes*c<=281474976710656)) (κ (S.putO ⟨s.fr,s.hp++[.vec tid t (F_ l.toNat t.zero)]⟩ d (.sl s.hp.length)))else none
 | .append tid t bytes x y=>xF s.hp t (s.get y) λys=>match s.get x with
  |some (.sl id)=>match s.hp[id]? with
   |some (.vec e u xs)=>match cM (.list u) (.list t) xs with
    |some xs=>bif c_ e tid then aB (decide ((xs.length+ys.length)*bytes<=140737488355328)) (κ ((s.moved id (.vec e t (xs++ys))).putO d (.sl id)))else none
    |none=>none
   |_=>none
  |some (.nil _)=>aB (decide (ys.length*bytes<=140737488355328)) (κ (S.putO ⟨s.fr,s.hp++[.vec tid t ys]⟩ d (.sl s.hp.length)))
  |some (.full _ [])=>aB (decide (ys.length*bytes<=140737488355328)) (κ (S.putO ⟨s.fr,s.hp++[.vec tid t ys]⟩ d (.sl s.hp.length)))
  |_=>none
 | .cvtI k x=>match s.get x with
  |some (.d (.int _) n)=>κ (s.putO d (.d (.int k) (k.wrap n)))
  |_=>none
 | .slc full t x lo p mx=>match s.get x with
  |some (.sl id)=>match s.hp[id]? with
   |some (.tree _ _ u xs _)=>bif c_ u.sz t.sz&& !full then E4 s lo 0 λl=>E4 s p xs.length λh=>E4 s mx xs.length λm=>
    bif !(mx.isSome&& !p.isSome)then aB (decide (l<=h)&&decide (h<=m)&&decide (m<=xs.length)) (aB (c_ h l) (κ (s.putO d (.d (.list t) []))))else none else none
   |_=>none
  |v=>xF s.hp t v λxs=>E4 s lo 0 λl=>E4 s p xs.length λh=>E4 s mx xs.length λm=>
   bif !(mx.isSome&& !p.isSome)then aB (decide (l<=h)&&decide (h<=m)&&decide (m<=xs.length)) (match full with
    |false=>κ (s.putO d (.d (.list t) ((xs.take h).drop l)))
    |true=>aB (mx.isSome&&decide (h=m)) (κ (s.putO d (.full t ((xs.take h).drop l)))))else none
 | .slcS x lo p=>match s.get x with
  |some (.d .str a)=>E4 s lo 0 λl=>E4 s p a.length λh=>aB (decide (l<=h)&&decide (h<=a.length)) (κ (s.putO d (.d .str ((a.take h).drop l))))
  |_=>none
 | .ext x i=>match s.get x with
  |some (.tup vs)=>match vs[i]? with
   |some v=>bif (match v with| .agg _=>false| .tup _=>false|_=>true)then κ (s.putO d v)else none
   |none=>none
  |_=>none
 | .nilc x=>match s.get x with
  |some v=>(match v with
   | .dp _ _=>κ (s.putO d v)
   | .ptr _ _=>κ (s.putO d v)
   | .pel _ _ _ _ _=>κ (s.putO d v)
   | .elt _ _ _=>κ (s.putO d v)
   | .clo _ _=>κ (s.putO d v)
   | .fnD _ _=>κ (s.putO d v)
   |_=>none)
  |none=>none
 | .call bor f args sh=>match Tw s bor args with
  |some ars=>bif ars.all V.isD&&sh.sk.fr.isEmpty&&(!bor||sh.sl.all Slot.flat)then
   d_ (aC O f ars [] sh) λc=>κ (s.putO d (res sh.n (unpack sh.sl c (sh.base ⟨[],[]⟩)).fr))else none
  |none=>none
 | .callA pan bor B f args sh=>match xm s bor B args with
  |some ars=>FV pan O s d bor B f ars sh κ kp
  |none=>none
 | .callv pan bor B num x args sh=>match s.get x,xm s bor B args with
  |some (.clo f ids),some ars=>bif c_ (num%10000) f then FV pan O s d bor B num (ars++ids.map λi=>.ptr i 0) sh κ kp else none
  |some (.fnD f cs),some ars=>bif c_ (num%10000) f then FV pan O s d bor B num (ars++cs.map λc=>.dp c.1 c.2) sh κ kp else none
  |_,_=>none
 | .callp bor num x args sh=>match s.get x,xm s bor [] args with
  |some (.fnD f cs),some ars=>bif c_ (num%10000) f&&ars.all V.isD&&sh.sk.fr.isEmpty&&(!bor||sh.sl.all Slot.flat)then
   d_ (aC O num (ars++cs.map λc=>.dp c.1 c.2) [] sh) λc=>κ (s.putO d (res sh.n (unpack sh.sl c (sh.base ⟨[],[]⟩)).fr))else none
  |_,_=>none
 | .b2s x=>xF s.hp (.int .u8) (s.get x) λl=>κ (s.putO d (.d .str (l.map fun(n:Int)=>UInt8.ofNat n.toNat)))
 | .mkfn f caps=>match capsOf s caps with
  |some ids=>κ (s.putO d (.clo f ids))
  |none=>match capsD s caps with
   |some cs=>κ (s.putO d (.fnD f cs))
   |none=>none
 | .mkmap k e a b=>κ (S.putO ⟨s.fr,s.hp++[.map k e a b []]⟩ d (.mp s.hp.length))
 | .lookup k e ok a b m x=>match s.get m,s.get x with
  |some (.mp id),some v=>match s.hp[id]?,eF a v with
   |some (.map g r A C kvs),some y=>match cM (.list (.pair A C)) (.list (.pair a b)) kvs with
    |some kvs=>bif c_ k g&&c_ e r&&a.eqOk then(match ok with
     |true=>κ (s.putO d (.tup [.d b ((bY a b kvs y).getD b.zero),.d .bool (bY a b kvs y).isSome]))
     |false=>κ (s.putO d (.d b ((bY a b kvs y).getD b.zero))))else none
    |none=>none
   |_,_=>none
  |_,_=>none
 | .mapset k e a b m x v=>match d,s.get m,s.get x,s.get v with
  |none,some (.mp id),some u,some w=>match s.hp[id]?,eF a u,eF b w with
   |some (.map g r A C kvs),some y,some z=>match cM (.list (.pair A C)) (.list (.pair a b)) kvs with
    |some kvs=>bif c_ k g&&c_ e r&&a.eqOk&& !b.ag then aB (decide (kvs.length<maxLen)) (κ ⟨s.fr,setAt s.hp id (.map k e a b (dn a b kvs y z))⟩)else none
    |none=>none
   |_,_,_=>none
  |_,_,_,_=>none
 | .copy tid t x y=>match s.get x,s.get y with
  |some (.sl id),some v=>bif (match v with| .sl j=> !c_ id j|_=>true)then(xF s.hp t (some v) λys=>match s.hp[id]? with
   |some (.vec e u xs)=>match cM (.list u) (.list t) xs with
    |some xs=>bif c_ e tid then κ (S.putO ⟨s.fr,setAt s.hp id (.vec e t (ys.take xs.length++xs.drop ys.length))⟩ d (.d (.int .i64) (min xs.length ys.length:Nat)))else none
    |none=>none
   |_=>none)else none
  |_,_=>none
 | .mnmx mx k x ys=>match s.get x with
  |some (.d (.int g) n)=>bif decide (g=k)then intsOf s k ys λD=>κ (s.putO d (.d (.int k) (D.foldl (fun(a b:Int)=>bif mx then max a b else min a b) n)))else none
  |_=>none
 | .panic x=>match s.get x with
  |some .ifc=>kp s
  |_=>none
 | .iface _ x=>match s.get x with
  |some _=>κ (s.putO d .ifc)
  |none=>none
 | .bsliceF _ t len parts=>bif c_ parts.length len&&h_ 1 t.sz&&h_ (len*t.sz) 16777216 then listT s t parts λxs=>κ (s.putO d (.full t xs))else none
 | .appD _ t bytes x y=>xF s.hp t (s.get y) λys=>match s.get x with
  |some (.nil _)=>aB (decide (ys.length*bytes<=140737488355328)) (κ (s.putO d (.d (.list t) ys)))
  |some (.full u xs)=>match cM (.list u) (.list t) xs with
   |some xs=>aB (decide ((xs.length+ys.length)*bytes<=140737488355328)) (κ (s.putO d (.d (.list t) (xs++ys))))
   |none=>none
  |_=>none
 | .bsliceN _ k t len parts=>bif c_ parts.length len&&h_ 1 t.sz&&h_ (len*t.sz) 16777216 then listN s k t parts λxs=>κ (s.putO d (.lit k t xs))else none
 | .msliceT tid k u bytes l c=>bif (k.at 0).isSome then intOf (s.get l) λl=>intOf (s.get c) λc=>
  aB (decide (0<=l)&&decide (l<=c)&&decide (c<=9223372036854775807)&&decide (bytes*c<=281474976710656)) (κ (S.putO ⟨s.fr,s.hp++[.tree tid k (.list u) (F_ l.toNat []) none]⟩ d (.sl s.hp.length)))else none
 | .appT tid k t bytes x y=>match s.get y with
  |some (.lit g u ys)=>bif decide (k=g)then(match cM (.list u) (.list t) ys with
   |some ys=>bif ys.all (λy=>zg9 k (jO t y))then(match s.get x with
    |some (.sl id)=>match s.hp[id]? with
     |some (.tree e E F xs none)=>match cM (.list F) (.list t) xs with
      |some xs=>bif c_ e tid&&decide (k=E)then aB (decide ((xs.length+ys.length)*bytes<=140737488355328)) (κ ((s.moved id (.tree e k t (xs++ys) none)).putO d (.sl id)))else none
      |none=>none
     |_=>none
    |some (.nil _)=>aB (decide (ys.length*bytes<=140737488355328)) (κ (S.putO ⟨s.fr,s.hp++[.tree tid k t ys none]⟩ d (.sl s.hp.length)))
    |_=>none)else none
   |none=>none)else none
  |_=>none
 | .atq k op=>match s.hp[k]? with
  |some .free=>mkT s op λo v=>κ (S.putO ⟨s.fr,setAt s.hp k o⟩ d (v k))
  |_=>none
where
 mkT (s:S) (op:TOp) (κ:Ob->(Nat->V)->Option R):Option R:=match op with
  | .alloc tid zero=>κ (.box tid zero) λn=>.ptr n 0
  | .box tid x=>match s.get x with
   |some v=>bif v.okB then κ (.box tid (dP v)) (λn=>.ptr n 0)else none
   |none=>none
  | .bslice true tid t len parts=>bif c_ parts.length len&&h_ 1 t.sz&&h_ (len*t.sz) 16777216 then listT s t parts λxs=>κ (.vec tid t xs) .sl else none
  | .mslice tid t bytes l c=>bif h_ 1 t.sz then intOf (s.get l) λl=>intOf (s.get c) λc=>
   aB (decide (0<=l)&&decide (l<=c)&&decide (c<=9223372036854775807)&&decide (bytes*c<=281474976710656)) (κ (.vec tid t (F_ l.toNat t.zero)) .sl)else none
  | .append tid t bytes x y=>xF s.hp t (s.get y) λys=>match s.get x with
   |some (.nil _)=>aB (decide (ys.length*bytes<=140737488355328)) (κ (.vec tid t ys) .sl)
   |some (.full _ [])=>aB (decide (ys.length*bytes<=140737488355328)) (κ (.vec tid t ys) .sl)
   |_=>none
  | .mkmap k e a b=>κ (.map k e a b []) .mp
  |_=>none
 buildT (s:S) (cs:List V):List (Nat×Nat×X)->(List V->Option R)->Option R
  |[],κ=>κ cs
  |(off,sz,x)::l,κ=>match s.get x with
   |some v=>bif c_ (dP v).length sz&&h_ (off+sz) cs.length&&v.okB then buildT s (mN cs off (dP v)) l κ else none
   |none=>none
 listT (s:S) (t:Ty):List X->(List t.den->Option R)->Option R
  |[],κ=>κ []
  |x::l,κ=>match s.get x with
   |some v=>match eF t v with
    |some y=>listT s t l λys=>κ (y::ys)
    |none=>none
   |none=>none
 listN (s:S) (k:K) (t:Ty):List X->(List t.den->Option R)->Option R
  |[],κ=>κ []
  |x::l,κ=>match s.get x with
   |some v=>match eF t v with
    |some y=>bif zdt k v then listN s k t l λys=>κ (y::ys)else none
    |none=>none
   |none=>none
 capsOf (s:S):List X->Option (List Nat)
  |[]=>some []
  |x::l=>match s.get x with
   |some (.ptr i 0)=>match capsOf s l with
    |some ids=>some (i::ids)
    |none=>none
   |_=>none
 capsD (s:S):List X->Option (List ((t:Ty)×t.den))
  |[]=>some []
  |x::l=>match s.get x with
   |some (.dp t y)=>match capsD s l with
    |some cs=>some (⟨t,y⟩::cs)
    |none=>none
   |_=>none
 intsOf (s:S) (k:IntKind):List X->(List Int->Option R)->Option R
  |[],κ=>κ []
  |x::l,κ=>match s.get x with
   |some (.d (.int g) n)=>bif decide (g=k)then intsOf s k l λD=>κ (n::D)else none
   |_=>none
inductive RC where
 |nil
 |op (d:Option Nat) (o:TOp) (rest:RC)
 |adj (l:List Adj) (rest:RC)
 |gb (t:Nat) (want:Bool) (blk:RC) (ty:Ty) (r alt:X) (dst:Nat) (rest:RC)
def RC.asg:RC->List Nat
 | .nil=>[]
 | .op d _ rest=>(match d with|some d=>[d]|none=>[])++rest.asg
 | .adj _ rest=>rest.asg
 | .gb _ _ blk _ _ _ dst rest=>blk.asg++dst::rest.asg
def K7(O:ao):(R:Type)->RC->S->(S->Option R)->(S->Option R)->Option R
 |_,.nil,s,κ,_=>κ s
 |R,.op d o rest,s,κ,kp=>evOp O d o s (λs'=>K7 O R rest s' κ kp) kp
 |R,.adj l rest,s,κ,kp=>EY l s λs=>K7 O R rest s κ kp
 |R,.gb t want blk ty r alt dst rest,s,κ,kp=>match lk s.fr t,s.get alt with
  |some (.d .bool b),some a=>match(bif blk.asg.all (λk=>(lk s.fr k).isNone)then eF ty a else none)with
   |some alt=>d_ (match want with
    |true=>bif b then K7 O ty.den blk s (λs'=>match s'.get r with|some v=>eF ty v|none=>none) (λ_=>none)else some alt
    |false=>bif b then some alt else K7 O ty.den blk s (λs'=>match s'.get r with|some v=>eF ty v|none=>none) (λ_=>none))
    λc=>K7 O R rest (s.put dst (.d ty c)) κ kp
   |none=>none
  |_,_=>none
end
structure PO where
 j:Nat
 b:Bool
 us:List Nat
 rd:List Nat
 lent:List Nat
 d:Option Nat
 o:TOp
 g:Option (Nat×Bool)
def SV(s:S)(rd lent:List Nat):List Nat:=(rd.flatMap λk=>match lk s.fr k with|some v=>v.ids|none=>[])++lent
def tL(s:S)(p:PO):List Nat:=match p.b,p.o,p.g with
 |true,.mv _,none=>[]
 |_,_,_=>SV s p.rd p.lent
def zcC(r:Av.Rec)(T rd lent:List Nat)(d:Option Nat)(b:Bool):Bool:=
 (match r.d with
  |some t=> !qV rd t&&(match d with|some u=> !c_ u t|none=>true)
  |none=>true)&&
 (match d with
  |some t=> !qV r.rd t
  |none=>true)&&
 (match r.s with
  |some t=> !qV T t
  |none=>true)&&
 (match b with
  |true=>lent.all λt=> !qV r.F t
  |false=>T.all λt=> !qV r.G t)
def MI(s:S)(i:Nat):List Nat:=match s.hp[i]? with
 |some o=>o.kids
 |none=>[]
def Gp:TOp->Option Nat
 | .atq k _=>some k
 |_=>none
def YM(s:S)(d:Option Nat):List Nat:=match d with
 |some k=>(match lk s.fr k with
  |some v=>v.kids
  |none=>[])
 |none=>[]
def Vr(s s':S)(d:Option Nat)(T:List Nat):List Nat:=T++T.flatMap (MI s)++YM s' d
def zbq(s s':S)(rd:List Nat)(d:Option Nat):List Nat:=(rd.flatMap λk=>match lk s.fr k with|some v=>v.kids|none=>[])++YM s' d
structure RecV where
 r:Av.Rec
 ld:Option (Ty×Nat×Nat×V)
def Se(s s':S)(p:PO):Option (Ty×Nat×Nat×V):=match p.o,p.g,p.d with
 | .load t x,none,some d=>(match s.get x,lk s'.fr d with
  |some (.ptr id off),some v=>some (t,id,off,v)
  |_,_=>none)
 |_,_,_=>none
def Qx(hp:List Ob)(t:Ty)(id off:Nat):Option V:=match hp[id]? with
 |some (.box _ cs)=>bif h_ (off+t.sz) cs.length then some (whole t ((cs.drop off).take t.sz))else none
 |_=>none
def zeo{R:Type}(k:Option R):V->V->Option R
 | .d t x,.d u y=>(match cM u t y with
  |some z=>bif t.eqOk then(bif jk t x z then k else none)else none
  |none=>none)
 | .ptr i o,.ptr j q=>bif c_ i j&&c_ o q then k else none
 | .mp i,.mp j=>bif c_ i j then k else none
 |_,_=>none
def reL{R:Type}(T us:List Nat)(s':S)(k:Option R):List RecV->Option R
 |[]=>k
 |a::A=>bif !qV us a.r.i||T.all (λt=> !qV a.r.F t)then reL T us s' k A else(match a.ld with
  |some (t,id,off,v)=>(match Qx s'.hp t id off with
   |some b=>bif (MI s' id).all (qV a.r.F)then zeo (reL T us s' k A) v b else none
   |none=>none)
  |none=>none)
def reK{R:Type}(A:List RecV)(s s':S)(p:PO)(k:Option R):Option R:=bif p.b then k else reL (SV s p.rd p.lent) p.us s' k A
def zbE(s:S):TOp->Bool
 | .store _ x _=>(match s.get x with
  |some (.ptr _ _)=>true
  |some (.elt id _ _)=>(match s.hp[id]? with
   |some (.vec _ _ _)=>true
   |_=>false)
  |_=>false)
 |_=>true
def zgD(A:List RecV)(o:TOp):Bool:=match Gp o with
 |some k=>A.all λa=>(match a.ld with
  |some (_,id,_,_)=> !c_ id k
  |none=>true)
 |none=>true
def IL(A:List RecV)(s:S)(p:PO):Bool:=A.all (λa=> !qV p.us a.r.i||zcC a.r (tL s p) p.rd p.lent p.d p.b)&&(!p.b||(tL s p).all λi=>Nat.blt i s.hp.length)&&zbE s p.o&&zgD A p.o
def Jk(A:List RecV)(s s':S)(p:PO):List RecV:=bif p.b then A++[⟨⟨p.j,p.d,p.rd,Gp p.o,Vr s s' p.d (tL s p),zbq s s' p.rd p.d⟩,Se s s' p⟩]else A
def evP{R:Type}(O:ao):List RecV->List PO->S->(S->Option R)->(S->Option R)->Option R
 |_,[],s,κ,_=>κ s
 |A,p::l,s,κ,kp=>match p.g with
  |none=>bif IL A s p then evOp O p.d p.o s (λs'=>reK A s s' p (evP O (Jk A s s' p) l s' κ kp)) kp else none
  |some (t,want)=>match lk s.fr t with
   |some (.d .bool b)=>bif want==b
    then(bif IL A (s.put t (.d .bool want)) p then evOp O p.d p.o (s.put t (.d .bool want)) (λs'=>reK A (s.put t (.d .bool want)) s' p (evP O (Jk A (s.put t (.d .bool want)) s' p) l s' κ kp)) kp else none)
    else(bif IL A (s.put t (.d .bool (!want))) p then reK A (s.put t (.d .bool (!want))) ((s.put t (.d .bool (!want))).putO p.d (.raw Go.undef)) p (evP O (Jk A (s.put t (.d .bool (!want))) ((s.put t (.d .bool (!want))).putO p.d (.raw Go.undef)) p) l ((s.put t (.d .bool (!want))).putO p.d (.raw Go.undef)) κ kp)else none)
   |_=>none
def evL{R:Type}(O:ao):List PO->S->(S->Option R)->(S->Option R)->Option R
 |[],s,κ,_=>κ s
 |p::l,s,κ,kp=>match p.g with
  |none=>evOp O p.d p.o s (λs'=>evL O l s' κ kp) kp
  |some (t,want)=>match lk s.fr t with
   |some (.d .bool b)=>bif b
    then(match want with
     |true=>evOp O p.d p.o (s.put t (.d .bool true)) (λs'=>evL O l s' κ kp) kp
     |false=>evL O l ((s.put t (.d .bool true)).putO p.d (.raw Go.undef)) κ kp)
    else(match want with
     |true=>evL O l ((s.put t (.d .bool false)).putO p.d (.raw Go.undef)) κ kp
     |false=>evOp O p.d p.o (s.put t (.d .bool false)) (λs'=>evL O l s' κ kp) kp)
   |_=>none
inductive TC where
 |skip
 |region (ops:RC)
 |draw (k:Nat) (ops:RC) (af:List (List Nat))
 |draw2 (r:Nat) (pre:List PO) (tl:RC) (af:List (List Nat))
 |regL (pre:List PO)
 |seq (a b:TC)
 |cond (x:X) (a b:TC)
 |block (id:Nat) (a:TC)
 |loop (sh:Sh) (xs:List (Nat×Sh)) (a:TC)
 |exit (id:Nat)
 |ret
 |adj (l:List Adj) (a:TC)
 |after (a:TC) (l:List Adj)
 |cut (xs:List (Nat×Sh)) (a:TC)
def TC.asg:TC->List Nat
 | .region ops=>ops.asg
 | .draw _ ops _=>ops.asg
 | .regL pre=>pre.flatMap λp=>match p.d with|some d=>[d]|none=>[]
 | .draw2 _ pre tl _=>(pre.flatMap λp=>match p.d with|some d=>[d]|none=>[])++tl.asg
 | .seq a b=>a.asg++b.asg
 | .cond _ a b=>a.asg++b.asg
 | .block _ a=>a.asg
 | .loop _ _ a=>a.asg
 | .adj _ a=>a.asg
 | .after a _=>a.asg
 | .cut _ a=>a.asg
 |_=>[]
def TC.noD2:TC->Bool
 | .draw2 _ _ _ _=>false
 | .seq a b=>a.noD2&&b.noD2
 | .cond _ a b=>a.noD2&&b.noD2
 | .block _ a=>a.noD2
 | .loop _ _ a=>a.noD2
 | .adj _ a=>a.noD2
 | .after a _=>a.noD2
 | .cut _ a=>a.noD2
 |_=>true
def uB(A:List Nat)(fr:List (Nat×V))(k:Nat):Bool:=qV A k||(match lk fr k with
 |some v=> !v.isD
 |none=>false)
def Slot.tmOk(A:List Nat)(fr:List (Nat×V)):Slot->Bool
 | .tm k _=>uB A fr k
 |_=>true
def Sh.okAt(sh:Sh)(A:List Nat)(s:S):Bool:=sh.keep.all (λk=> !qV A k)&&sh.sl.all (Slot.tmOk A s.fr)&&sh.sk.fr.all (λx=>uB A s.fr x.1)
def aT{σ a:Type}:Nat->(σ->Option (σ⊕a))->σ->Option a
 |0,_,_=>none
 |n+1,f,s=>d_ (f s) (ay_ (λs'=>aT n f s') some)
def KH(O:ao)(n:Nat):(R:Type)->TC->S->(kn:S->Option R)->(kx:Nat->S->Option R)->(kr kp:S->Option R)->Option R
 |_,.skip,s,kn,_,_,_=>kn s
 |R,.region ops,s,kn,_,_,kp=>K7 O R ops s kn kp
 |R,.draw _ ops _,s,kn,_,_,kp=>K7 O R ops s kn kp
 |_,.regL pre,s,kn,_,_,kp=>evL O pre s kn kp
 |R,.draw2 r pre tl _,s,kn,_,_,kp=>evP O [] pre ⟨s.fr,s.hp++F_ r .free⟩ (λs=>K7 O R tl s kn kp) kp
 |R,.seq a b,s,kn,kx,kr,kp=>KH O n R a s (λs=>KH O n R b s kn kx kr kp) kx kr kp
 |R,.cond x a b,s,kn,kx,kr,kp=>match s.get x with
  |some (.d .bool t)=>bif t then KH O n R a s kn kx kr kp else KH O n R b s kn kx kr kp
  |_=>none
 |R,.block id a,s,kn,kx,kr,kp=>KH O n R a s kn (λi s=>bif c_ i id then kn s else kx i s) kr kp
 |_,.exit id,s,_,kx,_,_=>kx id s
 |_,.ret,s,_,_,kr,_=>kr s
 |R,.adj l a,s,kn,kx,kr,kp=>EY l s λs=>KH O n R a s kn kx kr kp
 |R,.cut xs a,s,kn,kx,kr,kp=>bif xs.all (λx=>x.2.okAt a.asg s)then
  d_ (KH O n (XT xs) a s (λs=>inj xs 0 s) (λi s=>inj xs (i+3) s) (λs=>inj xs 1 s) (λs=>inj xs 2 s))
   (nG s (λkey s=>match key with|0=>kn s|1=>kr s|2=>kp s|i+3=>kx i s) xs)else none
 |R,.loop sh xs a,s,kn,kx,kr,kp=>match pack sh s with
  |some c=>bif sh.okAt a.asg s&&xs.all (λx=>x.2.okAt a.asg s)then d_ (aT n (λc=>KH O n (HL sh.sl⊕XT xs) a (unpack sh.sl c (sh.base s)) (λs=>match pack sh s with|some c=>some (.inl c)|none=>none)
   (λi s=>match inj xs (i+3) s with|some c=>some (.inr c)|none=>none) (λs=>match inj xs 1 s with|some c=>some (.inr c)|none=>none) (λs=>match inj xs 2 s with|some c=>some (.inr c)|none=>none)) c)
   (nG s (λkey s=>match key with|0=>kn s|1=>kr s|2=>kp s|i+3=>kx i s) xs)else none
  |none=>none
 |R,.after a l,s,kn,kx,kr,kp=>KH O n R a s (λs=>EY l s kn) kx kr kp
inductive RX where
 |tm (t:Nat)
 |cell (a:Nat) (t:Ty)
structure TF where
 code:TC
 res:List RX
 ntmps:Nat
 sh:Sh
 m:Nat
def QA(s:S):List RX->Option (List V)
 |[]=>some []
 | .tm t::l=>match lk s.fr t with
  |some v=>match QA s l with
   |some vs=>some (v::vs)
   |none=>none
  |none=>none
 | .cell a t::l=>match lk s.fr a with
  |some (.ptr id off)=>match s.hp[id]? with
   |some (.box _ cs)=>bif h_ (off+t.sz) cs.length then(match QA s l with
    |some vs=>some (whole t ((cs.drop off).take t.sz)::vs)
    |none=>none)else none
   |_=>none
  |_=>none
def f7:Nat->List V->List (Nat×V)
 |_,[]=>[]
 |i,v::vs=>(i,v)::f7 (i+1) vs
def f9(sh:Sh)(c:HL sh.sl):S:=unpack sh.sl c (sh.base ⟨[],[]⟩)
def aI(sh:Sh)(c:HL sh.sl):Option (Option S):=some (some (f9 sh c))
def V.one:V->Bool
 | .agg vs=>vs.all V.cellD
 | .tup _=>false
 |_=>true
def ME(c:TF)(s:S):Option (Option S):=match QA s c.res with
 |some vs=>bif h_ c.sh.sk.hp.length s.hp.length&&(s.hp.take c.sh.sk.hp.length).all (λo=>o.ids.all λi=>h_ (i+1) c.sh.sk.hp.length)&&vs.all (λv=>v.ids.all λi=>h_ (i+1) c.sh.sk.hp.length)&&c_ c.sh.n vs.length&&(c_ vs.length 1||vs.all V.one)then
  (match pack c.sh ⟨f7 0 vs,s.hp.take c.sh.sk.hp.length⟩with
  |some x=>aI c.sh x
  |none=>none)else none
 |none=>none
def WL(O:ao)(n:Nat)(c:TF)(ars:List V)(os:List Ob):Option (Option S):=
 KH O n (Option S) c.code ⟨f7 0 ars,os⟩ (ME c) (λ_ _=>none) (ME c) (λ_=>some none)
structure TD where
 c:TF
 a:TC
 h:TC
 ta:Nat
 tb:Nat
 t8:Nat
def Fs(s:S)(t i:Nat):Bool:=match lk s.fr t with
 |some (.ptr j o)=>c_ j i&&c_ o 0
 |_=>false
def noT(s:S)(t:Nat):Bool:=match lk s.fr t with
 |some _=>false
 |none=>true
def zfp(d:TD)(s:S):Option (Option S):=ME d.c ⟨[(d.ta,.ptr 0 0),(d.tb,.ptr 1 0)],s.hp⟩
def zcP(O:ao)(n:Nat)(d:TD)(ars:List V):Option (Option S):=
 KH O n (Option S) d.a ⟨f7 0 ars,[]⟩ (λs=>bif Fs s d.ta 0&&Fs s d.tb 1&&noT s d.t8&&c_ s.hp.length 2 then
  KH O n (Option S) d.c.code s (ME d.c) (λ_ _=>none) (ME d.c) (λs=>bif Fs s d.ta 0&&Fs s d.tb 1 then
   KH O n (Option S) d.h ⟨[(0,.ptr 0 0),(1,.ptr 1 0)],s.hp⟩ (zfp d) (λ_ _=>none) (zfp d) (λ_=>none)else none)else none) (λ_ _=>none) (λ_=>none) (λ_=>none)
inductive Fun' where
 |code (c:TF)
 |dfr (d:TD)
 |nat (g:List V->Option S)
def tj(tbl:Nat->Option Fun'):Nat->ao
 |0=>λ_ _ _=>none
 |n+1=>λf ars os=>match tbl f with
  |some (.code c)=>bif c_ os.length c.m&&h_ ars.length c.ntmps then WL (tj tbl n) n c ars os else none
  |some (.dfr d)=>bif c_ os.length 0&&h_ ars.length d.c.ntmps then zcP (tj tbl n) n d ars else none
  |some (.nat g)=>(match os with
   |[]=>(match g ars with
    |some s=>some (some s)
    |none=>none)
   |_=>none)
  |none=>none
def Jh{α R:Type}(o:Option α)(p:Option R)(k:α->Option R):Option R:=match o with
 |some c=>k c
 |none=>p
abbrev tI:Ty:=.int .i64
abbrev tW:Ty:=.int .u32
abbrev tQ:Ty:=.int .u64
abbrev tY:Ty:=.int .u8
abbrev tB:Ty:=.bool
abbrev tS:Ty:=.str
@[reducible] def pr:List Ty->Ty
 |[]=>.unit
 |t::l=>.pair t (pr l)
abbrev aS(t:Ty)(x:t.den):List PV:=(aR t x).cells
theorem aP:∀(t:Ty) (x:t.den),(aS t x).length=t.sz
 | .int _,_=>rfl
 | .bool,_=>rfl
 | .str,_=>rfl
 | .list t,x=>by cases h:x.map (aR t)<;>simp[aS,aR,h,rM,PV.cells,Ty.sz]
 | .unit,_=>rfl
 | .pair a b,x=>by have c:=aP a x.1;have d:=aP b x.2;simp only[aS,aR,PV.cells,w_,Ty.sz]at c d⊢;omega
 | .rx,.mk k l h ks=>rfl
theorem sd:∀(t:Ty) (x:t.den),(aR t x).isAgg=t.ag
 | .int _,_=>rfl
 | .bool,_=>rfl
 | .str,_=>rfl
 | .list t,x=>by cases h:x.map (aR t)<;>simp[aR,h,rM,PV.isAgg,Ty.ag]
 | .unit,_=>rfl
 | .pair a b,x=>rfl
 | .rx,.mk k l h ks=>rfl
theorem f5{t:Ty}(x:t.den)(h:t.ag=true):aR t x= .agg (aS t x):=by have:=sd t x;rw[h]at this;cases a:aR t x<;>rw[a]at this<;>simp[PV.isAgg]at this;simp[aS,a,PV.cells]
theorem fw{t:Ty}(x:t.den)(h:t.ag=false):aS t x=[aR t x]:=by have:=sd t x;rw[h]at this;cases a:aR t x<;>rw[a]at this<;>simp_all[aS,PV.cells,PV.isAgg]
theorem iW{t:Ty}(h:t.ag=false):t.sz=1:=by cases t<;>simp_all[Ty.ag,Ty.sz]
theorem cj{t u:Ty}{x:t.den}{y:u.den}(h:cM t u x=some y):∃e:t=u,y=e▸x:=by unfold cM at h;grind
theorem cd{t u:Ty}{x:t.den}{y:u.den}(h:cM t u x=some y):aR u y=aR t x/\t=u:=by obtain⟨rfl,rfl⟩:=cj h;exact⟨rfl,rfl⟩
theorem Mx:∀(ks:List Rx),R2 ks=ks.map zcH
 |[]=>rfl
 |k::ks=>by rw[R2,Mx ks];rfl
theorem yn(r:Rx):aS .rx r=[aR (.int .i64) r.out.1,aR (.int .i64) r.out.2.1,aR (.int .i64) r.out.2.2.1,aR (.list .rx) r.out.2.2.2.1]:=by cases r with|mk k l h ks=>show [_,_,_,_]=[_,_,_,_];simp only[aR,Rx.out,Mx];rfl
theorem vP:∀(t:Ty) (off:Nat) (u:Ty) (x:t.den) (y:u.den),yi t off u x=some y->off+u.sz<=t.sz/\((aS t x).drop off).take u.sz=aS u y
 | .pair a b,off,u,x,y,h=>by
  have l:=aP a x.1
  have A:=aP b x.2
  have hc:aS (.pair a b) x=aS a x.1++aS b x.2:=rfl
  unfold yi at h
  cases d:(decide (Ty.pair a b=u)&&c_ off 0)
  ·rw[d]at h
   simp only[cond_false]at h
   cases f:h_ (off+1) a.sz
   ·rw[f]at h
    simp only[cond_false]at h
    have v:a.sz<=off:=by
     have:=Nat.not_le_of_not_ble_eq_true (by rw[f];simp)
     omega
    obtain⟨r,s⟩:=vP b (off - a.sz) u x.2 y h
    refine⟨by simp only[Ty.sz];omega,?_⟩
    rw[hc,ad_,l,List.drop_eq_nil_of_le (by omega),ak_]
    omega
   ·rw[f]at h
    simp only[cond_true]at h
    have B:=f_ f
    obtain⟨r,s⟩:=vP a off u x.1 y h
    refine⟨by simp only[Ty.sz];omega,?_⟩
    grind
  ·rw[d]at h
   simp only[cond_true]at h
   simp only[b_,decide_eq_true_eq]at d
   have j:off=0:=a_ d.2
   subst j
   obtain⟨e,rfl⟩:=cd h
   refine⟨by simp,?_⟩
   rw[D_,q_ (by rw[aP];simp)]
   grind
 | .rx,off,u,x,y,h=>by
  have hc:=yn x
  have one:∀{t:Ty} {z:t.den},t.ag=false->cM t u z=some y->aS u y=[aR t z]/\u.sz=1:=fun{t z} n w=>by
   obtain⟨e,rfl⟩:=cd w
   exact⟨by rw[fw _ n,e],iW n⟩
  unfold yi at h
  split at h
  ·by_cases p:u= .rx
   ·subst p
    simp only[decide_true,cond_true]at h
    obtain⟨e,_⟩:=cd h
    refine⟨by simp,?_⟩
    rw[D_,q_ (by rw[aP];simp)]
    grind
   ·simp only[p,decide_false,cond_false]at h
    obtain⟨e,g⟩:=one rfl h
    rw[e,g,hc]
    exact⟨by simp[Ty.sz],rfl⟩
  ·obtain⟨e,g⟩:=one rfl h
   rw[e,g,hc]
   exact⟨by simp[Ty.sz],rfl⟩
  ·obtain⟨e,g⟩:=one rfl h
   rw[e,g,hc]
   exact⟨by simp[Ty.sz],rfl⟩
  ·obtain⟨e,g⟩:=one rfl h
   rw[e,g,hc]
   exact⟨by simp[Ty.sz],rfl⟩
  grind
 | .int k,off,u,x,y,h=>c (.int k) off u x y h
 | .bool,off,u,x,y,h=>c .bool off u x y h
 | .str,off,u,x,y,h=>c .str off u x y h
 | .list t,off,u,x,y,h=>c (.list t) off u x y h
 | .unit,off,u,x,y,h=>c .unit off u x y h
where
 c (t:Ty) (off:Nat) (u:Ty) (x:t.den) (y:u.den) (h:(bif c_ off 0 then cM t u x else none)=some y):off+u.sz<=t.sz/\((aS t x).drop off).take u.sz=aS u y:=by
  cases j:c_ off 0
  ·grind
  ·rw[j]at h
   simp only[cond_true]at h
   have:=a_ j
   subst this
   obtain⟨e,rfl⟩:=cd h
   refine⟨by simp,?_⟩
   rw[D_,q_ (by rw[aP];simp)]
   grind
theorem HX{t:Ty}{off:Nat}{u:Ty}{x:t.den}{y:u.den}(h:yi t off u x=some y):off+u.sz<=(aR t x).cells.length/\(u.ag=false->u.sz=1)/\(aR t x).sub off u.sz u.ag=aR u y:=by
 obtain⟨d,b⟩:=vP t off u x y h;refine⟨by rw[aP];omega,iW,?_⟩;cases c:u.ag
 ·have hs:=iW c;rw[hs,fw y c]at b;have a:off<(aS t x).length:=by rw[aP];omega
  rw[M_ a]at b;simp only[V_,ap_,List.cons.injEq,and_true]at b;simp only[PV.sub,S_,O_ a,z_];omega
 ·simp only[PV.sub];rw[f5 y c,<-b]
theorem fa:∀(t:Ty) (x:t.den),(jO t x).map aX=(aS t x).map BV.pv/\(jO t x).length=t.sz
 | .int _,_=>⟨rfl,rfl⟩
 | .bool,_=>⟨rfl,rfl⟩
 | .str,_=>⟨rfl,rfl⟩
 | .list t,x=>⟨by rw[fw (t:=.list t) x rfl];rfl,rfl⟩
 | .unit,_=>⟨rfl,rfl⟩
 | .pair a b,x=>by obtain⟨c,d⟩:=fa a x.1;obtain⟨e,f⟩:=fa b x.2;have hc:aS (.pair a b) x=aS a x.1++aS b x.2:=rfl;refine⟨?_,by simp only[jO,w_,d,f,Ty.sz]⟩;rw[hc];simp only[jO,B_,c,e]
 | .rx,x=>⟨by rw[yn x];rfl,rfl⟩
theorem sJ{u:Ty}{v:V}{x:u.den}(h:mh u v=some x):(aX v).toPV=some (aR u x):=by
 cases v<;>simp only[mh]at h<;>try cases h
 ·obtain⟨a,rfl⟩:=cd h;rw[a];rfl
 ·obtain⟨rfl,rfl⟩:=cj h;rfl
 ·obtain⟨a,rfl⟩:=cd h;rw[a];rfl
theorem Qf{u:Ty}{v:V}{x:u.den}(h:mh u v=some x):bg v= .b (aX v):=by cases v<;>simp only[mh]at h<;>first|rfl|cases h
theorem Dk:∀(t:Ty) (l:List V) (x:t.den) (m:List V),XU t l=some (x,m)->∃g,l=g++m/\(g.map aX).mapM BV.toPV=some (aS t x)
 | .unit,l,x,m,h=>by simp only[XU,e_,T_.injEq]at h;obtain⟨_,rfl⟩:=h;exact⟨[],rfl,rfl⟩
 | .pair a b,l,x,m,h=>by
  simp only[XU]at h
  split at h
  ·rename_i y l1 f
   split at h
   ·rename_i z l2 j
    simp only[e_,T_.injEq]at h
    obtain⟨rfl,rfl⟩:=h
    obtain⟨p,rfl,hp⟩:=Dk a l y l1 f
    obtain⟨q,rfl,C⟩:=Dk b l1 z l2 j
    refine⟨p++q,by simp,?_⟩
    have hc:aS (.pair a b) (y,z)=aS a y++aS b z:=rfl
    grind
   grind
  grind
 | .rx,l,x,m,h=>by
  unfold XU at h
  split at h
  ·rename_i a b c e l'
   split at h
   ·rename_i u w A B f j n r
    simp only[e_,T_.injEq]at h
    obtain⟨rfl,rfl⟩:=h
    refine⟨[a,b,c,e],rfl,?_⟩
    rw[yn]
    simp only[l_,aa_,k_,X_,sJ f,sJ j,sJ n,sJ r]
    rfl
   grind
  grind
 | .int k,l,x,m,h=>d (.int k) l x m rfl h
 | .bool,l,x,m,h=>d .bool l x m rfl h
 | .str,l,x,m,h=>d .str l x m rfl h
 | .list t,l,x,m,h=>d (.list t) l x m rfl h
where
 d (t:Ty) (l:List V) (x:t.den) (m:List V) (s:t.ag=false) (h:(match l with
  |v::l=>match mh t v with
   |some x=>some (x,l)
   |none=>none
  |[]=>none)=some (x,m)):∃g,l=g++m/\(g.map aX).mapM BV.toPV=some (aS t x):=by
  split at h
  ·rename_i v l'
   split at h
   ·rename_i y f
    simp only[e_,T_.injEq]at h
    obtain⟨rfl,rfl⟩:=h
    refine⟨[v],rfl,?_⟩
    rw[fw _ s]
    simp only[l_,aa_,k_,X_,sJ f]
    rfl
   grind
  grind
theorem fZ{t:Ty}{v:V}{x:t.den}(h:eF t v=some x):(bg v).toPV=some (aR t x):=by
 unfold eF at h;split at h
 ·rename_i vs;split at h
  ·rename_i d;split at h;·rename_i y b;cases h;obtain⟨e,a,c⟩:=Dk t vs x [] b;rw[aj_]at a;subst a;show((vs.map aX).mapM BV.toPV).map PV.agg=_;rw[c,f5 x d];rfl
   grind
  grind
 ·rw[Qf h];exact sJ h
theorem Ww(v:V)(a:∀vs,v≠.tup vs):(dP v).map aX=(bg v).cells:=by
 cases v with
 |d t x=>exact(fa t x).1|agg vs=>rfl|tup vs=>grind|nil t=>rfl|raw v=>
  show [bV v]=_;unfold bg;simp only[aX];cases hc:bV v<;>first|rfl|skip
  rename_i p;unfold bV at hc;split at hc;·grind
  ·cases hc;rfl
 |full t x=>rfl|any=>rfl|dp t x=>rfl|fnD f cs=>rfl|lit k t xs=>cases xs<;>rfl|_=>rfl
theorem zg3(sz:Nat)(xs:List PV):(rM sz xs).cells=[rM sz xs]/\(rM sz xs).cellOk=true:=by cases xs<;>exact⟨rfl,rfl⟩
theorem Sf(t:Ty)(x:List t.den):(aR (.list t) x).cells=[aR (.list t) x]/\(aR (.list t) x).cellOk=true:=zg3 _ _
theorem HP:∀(t:Ty) (x:t.den),((aS t x).all PV.cellOk)=true
 | .int _,_=>rfl
 | .bool,_=>rfl
 | .str,_=>rfl
 | .list t,x=>by have h:=Sf t x;grind
 | .unit,_=>rfl
 | .pair a b,x=>by show(((aR a x.1).cells++(aR b x.2).cells).all PV.cellOk)=true;rw[List.all_append,HP a x.1,HP b x.2];rfl
 | .rx,r=>by rw[yn];have h:=(Sf .rx r.out.2.2.2.1).2;simp only[r_,List.all_nil,Bool.and_true,h];rfl
theorem F5(t:Ty)(x:t.den):(aR t x).ok=true:=HP t x
theorem qm:∀(t:Ty) (x:t.den),t.flat=true->(aR t x).Flat/\∀y∈aS t x,y.Flat
 | .int _,_,_=>⟨.sc _,λy c=>by rw[L_.1 c];exact .sc _⟩
 | .bool,_,_=>⟨.sc _,λy c=>by rw[L_.1 c];exact .sc _⟩
 | .str,_,_=>⟨.sc _,λy c=>by rw[L_.1 c];exact .sc _⟩
 | .unit,_,_=>⟨.agg [] (by simp),λy c=>by cases c⟩
 | .pair a b,x,h=>by
  simp only[Ty.flat,b_]at h;have d:=(qm a x.1 h.1).2;have e:=(qm b x.2 h.2).2;have hc:∀y∈aS (.pair a b) x,y.Flat:=λy c=>by have:aS (.pair a b) x=aS a x.1++aS b x.2:=rfl;grind
  exact⟨.agg _ λi y c=>hc y (R_ c),hc⟩
def valOf:(t:Ty)->t.den->Value
 | .int k,x=>.int k x
 | .bool,x=>.bool x
 | .str,x=>.string ⟨x.toArray⟩
 |_,_=>.slice none 0 0
def H9:V->Value
 | .d t x=>valOf t x
 | .nil _=>.slice none 0 0
 | .raw v=>v
 |_=>Go.undef
def Ty.sc:Ty->Bool
 | .int _=>true
 | .bool=>true
 | .str=>true
 |_=>false
def V.konst:V->Bool
 | .d t _=>t.sc
 | .nil _=>true
 | .raw _=>true
 |_=>false
def X.er:X->SX
 | .tm j=>.tm j
 | .k t x=>.c (valOf t x)
 | .nil _=>.c (.slice none 0 0)
 | .ag vs=>.c (.agg (vs.map H9).toArray)
 | .f n=>.f n
 | .raw v=>.c v
def X.wf:X->Bool
 | .k t _=>t.sc
 | .ag vs=>vs.all V.konst
 | .raw v=>match v with
  | .agg _=>false
  | .slice _ _ _=>false
  |_=>true
 |_=>true
def uH(t:Ty):Value:=match t.ag with
 |true=>.agg (((jO t t.zero).map λv=>match v with
  | .d (.list _) _=>Value.slice none 0 0
  |v=>H9 v).toArray)
 |false=>match t with
  | .list _=>.slice none 0 0
  |t=>valOf t t.zero
def W3(x:Option X):Option SX:=x.map X.er
def TOp.er:TOp->SOp
 | .mv x=>.mv x.er
 | .pick c a b=>.pick c.er a.er b.er
 | .bin op x y=>.bin op x.er y.er
 | .eqB neg x y=>.eqB neg x.er y.er
 | .eqT neg tid _ x y=>.eqT neg tid x.er y.er
 | .un op x=>.un op x.er
 | .len str x=>.len str x.er
 | .lenM k e x=>.lenM k e x.er
 | .idxS x i=>.idxS x.er i.er
 | .idxV n t x i=>.idxV n t.sz t.ag x.er i.er
 | .idxA t x i=>.idxA t.sz x.er i.er
 | .idxP n t x i=>.idxP n t.sz t.ag x.er i.er
 | .fldA off t x=>.fldA off t.sz t.ag x.er
 | .fld off t x=>.fld off t.sz t.ag x.er
 | .load t x=>.load t.sz t.ag x.er
 | .store t x v=>.store t.sz x.er v.er
 | .alloc tid zero=>.alloc tid (zero.map H9)
 | .box tid x=>.box tid x.er
 | .boxD tid _ x=>.boxD tid x.er
 | .build zero parts=>.build (zero.map H9) (parts.map λq=>(q.1,q.2.1,q.2.2.er))
 | .bslice own tid t ln parts=>.bslice own tid t.sz ln (parts.map X.er)
 | .mslice tid t bytes l c=>.mslice tid t.sz bytes (uH t) l.er c.er
 | .append tid t bytes x y=>.append tid t.sz bytes x.er y.er
 | .cvtI k x=>.cvtI k x.er
 | .slc _ t x lo z mx=>.slc t.sz x.er (W3 lo) (W3 z) (W3 mx)
 | .slcS x lo z=>.slcS x.er (W3 lo) (W3 z)
 | .ext x i=>.ext x.er i
 | .nilc x=>.nilc x.er
 | .call bor f args _=>.call bor (f%10000) (args.map λa=>a.2.er)
 | .callA _ bor B f args _=>.callA bor B (f%10000) (args.map λa=>a.2.er)
 | .callv _ bor B _ x args _=>.callv bor B x.er (args.map λa=>a.2.er)
 | .callp bor _ x args _=>.callp bor x.er (args.map λa=>a.2.er)
 | .b2s x=>.b2s x.er
 | .mkfn f caps=>.mkfn f (caps.map X.er)
 | .mkmap k e _ _=>.mkmap k e
 | .lookup k e ok _ b m x=>.lookup k e ok (uH b) m.er x.er
 | .mapset k e _ _ m x v=>.mapset k e m.er x.er v.er
 | .copy tid t x y=>.copy tid t.sz x.er y.er
 | .mnmx mx k x ys=>.mnmx mx k x.er (ys.map X.er)
 | .panic x=>.panic x.er
 | .iface tid x=>.iface tid x.er
 | .bsliceF tid t ln parts=>.bslice false tid t.sz ln (parts.map X.er)
 | .appD tid t bytes x y=>.appD tid t.sz bytes x.er y.er
 | .bsliceN tid _ t ln parts=>.bsliceN tid t.sz ln (parts.map X.er)
 | .msliceT tid k _ bytes l c=>.msliceT k tid 1 bytes (.slice none 0 0) l.er c.er
 | .appT tid k t bytes x y=>.appT k tid t.sz bytes x.er y.er
 | .atq k op=>.atq k op.er
def fsT(P:Program)(c:TypeId->Ty->Bool):List Field->Nat->Ty->Bool
 |[],_,.unit=>true
 |f::l,off,.pair a b=>(f.name != "_")&&c_ f.offset off&&(match P.info? f.type with
  |some i=>c_ i.size a.sz&&(P.underlying f.type).isSome&&(lD P f.type==a.ag)
  |none=>false)&&c f.type a&&fsT P c l (off+a.sz) b
 |_,_,_=>false
def F7(P:Program):Nat->TypeId->Ty->Bool
 |0,_,_=>false
 |d+1,t,u=>match P.underlying t,u with
  |some .bool,.bool=>true
  |some (.int k),.int b=>decide (k=b)
  |some .string,.str=>true
  |some (.struct a),u=> !P.stoodInHeld t&&fsT P (F7 P d) a.toList 0 u
  |_,_=>false
def m4(l:List (Arg×X)):Bool:=l.all λa=>a.2.wf
def oWf(x:Option X):Bool:=match x with
 |some x=>x.wf
 |none=>true
def TOp.wf(P:Program):TOp->Bool
 | .mv x=>x.wf
 | .pick c a b=>c.wf&&a.wf&&b.wf
 | .bin _ x y=>x.wf&&y.wf
 | .eqB _ x y=>x.wf&&y.wf
 | .eqT _ tid t x y=>x.wf&&y.wf&&F7 P 64 tid t
 | .un _ x=>x.wf
 | .len _ x=>x.wf
 | .lenM _ _ x=>x.wf
 | .idxS x i=>x.wf&&i.wf
 | .idxV _ _ x i=>x.wf&&i.wf
 | .idxA _ x i=>x.wf&&i.wf
 | .idxP _ _ x i=>x.wf&&i.wf
 | .fldA _ _ x=>x.wf
 | .fld _ _ x=>x.wf
 | .load _ x=>x.wf
 | .store _ x v=>x.wf&&v.wf
 | .alloc _ zero=>zero.all V.konst
 | .box _ x=>x.wf
 | .boxD _ _ x=>x.wf
 | .build zero parts=>zero.all V.konst&&parts.all λq=>q.2.2.wf
 | .bslice _ _ _ _ parts=>parts.all X.wf
 | .mslice _ t _ l c=>l.wf&&c.wf&&decide (t≠.rx)
 | .append _ _ _ x y=>x.wf&&y.wf
 | .cvtI _ x=>x.wf
 | .slc _ _ x lo z mx=>x.wf&&oWf lo&&oWf z&&oWf mx
 | .slcS x lo z=>x.wf&&oWf lo&&oWf z
 | .ext x _=>x.wf
 | .nilc x=>x.wf
 | .call _ _ args sh=>m4 args&&sh.wfB
 | .callA _ _ _ _ args sh=>m4 args&&sh.wfB
 | .callv _ _ _ num x args sh=>x.wf&&m4 args&&fY P (num%10000)&&sh.wfB
 | .callp _ num x args sh=>x.wf&&m4 args&&fY P (num%10000)&&sh.wfB
 | .b2s x=>x.wf
 | .mkfn _ caps=>caps.all X.wf
 | .mkmap _ _ _ _=>true
 | .lookup k _ _ a b m x=>m.wf&&x.wf&&F7 P 64 k a&&b.sc
 | .mapset k _ a _ m x v=>m.wf&&x.wf&&v.wf&&F7 P 64 k a
 | .copy _ _ x y=>x.wf&&y.wf
 | .mnmx _ _ x ys=>x.wf&&ys.all X.wf
 | .panic x=>x.wf
 | .iface _ x=>x.wf
 | .bsliceF _ _ _ parts=>parts.all X.wf
 | .appD _ _ _ x y=>x.wf&&y.wf
 | .bsliceN _ _ _ _ parts=>parts.all X.wf
 | .msliceT _ _ _ _ l c=>l.wf&&c.wf
 | .appT _ _ _ _ x y=>x.wf&&y.wf
 | .atq _ op=>op.wf P
def M9(t:Nat)(want:Bool)(r alt:SX):SOp:=match want with
 |true=>.pick (.tm t) r alt
 |false=>.pick (.tm t) alt r
def RC.er:Option (Nat×Bool)->RC->List SOper
 |_,.nil=>[]
 |g,.op d o rest=>⟨d,o.er,g⟩::rest.er g
 |g,.adj _ rest=>rest.er g
 |g,.gb t want blk _ r alt dst rest=>blk.er (some (t,want))++(⟨some dst,M9 t want r.er alt.er,g⟩::rest.er g)
def TOp.pureB:TOp->Bool
 | .store .. =>false
 | .alloc .. =>false
 | .box .. =>false
 | .bslice own .. => !own
 | .mslice .. =>false
 | .append .. =>false
 | .callA .. =>false
 | .callv .. =>false
 | .mkmap .. =>false
 | .mapset .. =>false
 | .copy .. =>false
 | .panic .. =>false
 | .atq .. =>false
 | .msliceT .. =>false
 | .appT .. =>false
 |_=>true
def TOp.exB:TOp->Bool
 | .append .. =>true
 | .appT .. =>true
 | .callA .. =>true
 | .callv .. =>true
 | .store .. =>true
 |o=>o.pureB
def TOp.isAt:TOp->Bool
 | .atq .. =>true
 |_=>false
def RC.pureB:RC->Bool
 | .nil=>true
 | .op _ o rest=>o.pureB&&rest.pureB
 | .adj _ _=>false
 | .gb _ _ blk _ _ _ _ rest=>blk.pureB&&rest.pureB
def RC.wf(P:Program):RC->Bool
 | .nil=>true
 | .op _ o rest=>o.wf P&&rest.wf P
 | .adj _ rest=>rest.wf P
 | .gb _ _ blk _ r alt _ rest=>blk.wf P&&blk.pureB&&r.wf&&alt.wf&&rest.wf P
def ziv(j:Nat)(b:Bool)(us:List Nat)(d:Option Nat)(o:TOp):PO:=⟨j,b,us,o.er.rd,o.er.lent,d,o,none⟩
def ziu(j:Nat)(b:Bool)(us:List Nat)(t:Nat)(want:Bool)(d:Option Nat)(o:TOp):PO:=⟨j,b,us,o.er.rd++[t],o.er.lent,d,o,some (t,want)⟩
def PO.so(p:PO):SOper:=⟨p.d,p.o.er,p.g⟩
def OZ(pre:List PO):List SOper:=(Y_ pre.length).map λj=>match pre.find? λp=>c_ p.j j with
 |some p=>p.so
 |none=>default
def TC.er:TC->AC
 | .skip=>.skip
 | .region ops=>.region (ops.er none)
 | .draw k ops af=>.draw k (ops.er none) af
 | .regL pre=>.region (pre.map PO.so)
 | .draw2 _ pre tl af=>.draw2 (pre.map λp=>(p.j,p.b)) (OZ pre++tl.er none) af
 | .seq a b=>.seq a.er b.er
 | .cond x a b=>.cond x.er a.er b.er
 | .block id a=>.block id a.er
 | .loop _ _ a=>.loop a.er
 | .exit id=>.exit id
 | .ret=>.ret
 | .adj _ a=>a.er
 | .after a _=>a.er
 | .cut _ a=>a.er
theorem uz(fr:List (Nat×V))(k:Nat):Av.look (fr.map λx=>(x.1,bg x.2)) k=(lk fr k).map bg:=by
 induction fr with
 |nil=>rfl|cons x fr b=>
  obtain⟨j,v⟩:=x;simp only[l_,Av.look,lk];by_cases h:k=j;·subst h;simp
  ·rw[if_neg h,b];have:c_ k j=false:=by
    cases a:c_ k j;·rfl
    ·exact absurd (a_ a) h
   grind
theorem Dy{v:V}(h:v.konst=true):bV (H9 v)=aX v:=by
 cases v<;>simp only[V.konst]at h<;>try cases h
 ·rename_i t x;cases t<;>simp only[Ty.sc]at h<;>first|rfl|grind
 ·rfl
 ·rfl
theorem aL{s:S}{x:X}{v:V}(a:x.wf=true)(h:s.get x=some v):(enc s).get x.er=some (bg v):=by
 cases x with
 |tm k=>simp only[S.get]at h;show Av.look (s.fr.map λx=>(x.1,bg x.2)) k=_;rw[uz,h];rfl|k t x=>simp only[S.get,e_]at h;subst h;simp only[X.wf]at a;cases t<;>simp only[Ty.sc]at a<;>first|rfl|grind
 |nil t=>simp only[S.get,e_]at h;subst h;rfl|ag vs=>simp only[S.get,e_]at h;subst h;simp only[X.wf,m_]at a;show some (AV.agg (((vs.map H9).toArray).toList.map bV))=some (.agg (vs.map aX));simp only[i_];congr 2;exact j_ λv b=>Dy (a v b)|f n=>simp only[S.get,e_]at h;subst h;rfl|raw v=>simp only[S.get,e_]at h;subst h;simp only[X.wf]at a;cases v<;>simp only at a<;>first|rfl|grind
theorem j7(s:S)(d:Option Nat)(v:V):enc (s.putO d v)=(enc s).putO d (bg v):=by cases d<;>rfl
theorem ci(s:S)(i:Nat):(enc s).hp[i]? =(s.hp[i]?).map cq:=by simp[enc]
theorem g8{α:Type}:∀(l:List α) (n:Nat) (y:α),setAt l n y=l.set n y
 |[],_,_=>rfl
 |_::_,0,_=>rfl
 |x::l,n+1,y=>by simp[setAt,g8 l n y]
theorem V5(t:Ty)(f:t≠.rx):(jh (uH t)).toPV=some (aR t t.zero)/\(jh (uH t)).cells.length=t.sz:=by
 have c:∀(t:Ty),(((jO t t.zero).map λv=>match v with
  | .d (.list _) _=>Value.slice none 0 0
  |v=>H9 v).map bV).mapM BV.toPV=some (aS t t.zero)/\(jO t t.zero).length=t.sz:=by
  intro t
  refine⟨?_,(fa t t.zero).2⟩
  induction t with|pair a b d e=>have hc:aS (.pair a b) (Ty.zero (.pair a b))=aS a a.zero++aS b b.zero:=rfl;rw[hc];simp only[jO,Ty.zero,B_,af_];grind|rx=>rfl|list t=>rfl|_=>rfl
 cases h:t.ag;·cases t<;>simp[Ty.ag]at h<;>exact⟨rfl,rfl⟩
 ·have:=c t;simp only[uH,h];simp only[jh];refine⟨?_,?_⟩
  ·show((((((jO t t.zero).map λv=>match v with| .d (.list _) _=>Value.slice none 0 0|v=>H9 v).toArray).toList).map bV).mapM BV.toPV).map PV.agg=_
   rw[List.toList_toArray,this.1,f5 _ h];rfl
  ·show(((((jO t t.zero).map λv=>match v with| .d (.list _) _=>Value.slice none 0 0|v=>H9 v).toArray).toList).map bV).length=_
   grind
structure Zt where
 ty:List Ty
 kk:List K
 sh:List Sh
 zs:List (List V)
 fq:List (List (List Nat))
structure Zx where
 o:List TOp
def HU{α:Type}(d:α):List α->Nat->α
 |[],_=>d
 |x::l,n=>bif c_ n 0 then x else HU d l (n - 1)
def zf:Nat->Nat->Nat×Nat
 |0,n=>(0,n)
 |f+1,n=>bif h_ 8 (n%16)then(match zf f (n/16)with|(v,r)=>(n%16 - 8+8*v,r))else(n%16,n/16)
def zu:List Nat->Nat->Nat->Nat->Nat->Nat×Nat
 |[],_,s,m,q=>zf 24 (m*q+s)
 |f::l,v,s,m,q=>bif h_ 256 f then zu l (v+f - 256) s m q else bif h_ (s+1) f then(v,f*q+s)else zu l (v+1) (s - f) (m - f) q
def zn(T:Zt)(k n:Nat):Nat×Nat:=zu (HU [] (HU [] T.fq (k/16)) (k%16)) 0 (n%256) 256 (n/256)
def zl{α:Type}(p:Nat->α×Nat):Nat->Nat->List α×Nat
 |0,n=>([],n)
 |k+1,n=>match p n with
  |(a,r)=>match zl p k r with
   |(l,r)=>(a::l,r)
def Ln{α:Type}(T:Zt)(k:Nat)(p:Nat->α×Nat)(n:Nat):List α×Nat:=match zn T k n with
 |(k,r)=>zl p k r
def zm{α β:Type}(f:α->β)(p:α×Nat):β×Nat:=match p with
 |(a,r)=>(f a,r)
def zb{α β:Type}(p:α×Nat)(f:α->Nat->β×Nat):β×Nat:=match p with
 |(a,r)=>f a r
def zgf(v:Nat):Int:=bif c_ (v%2) 0 then Int.ofNat (v/2)else Int.negSucc (v/2)
def zij(T:Zt):Nat->Nat->Nat->List Nat×Nat
 |0,_,n=>([],n)
 |k+1,b,n=>match zn T 78 n with
  |(v,r)=>match zij T k (b+v) r with
   |(l,r)=>((b+v)::l,r)
def zas(T:Zt)(n:Nat):List Nat×Nat:=match zn T 79 n with
 |(k,r)=>zij T k 0 r
def zgF(b c:Nat):Nat:=bif c_ (c%2) 0 then b+c/2 else b - (c/2+1)
def zhC(b c:Nat):Nat:=bif h_ 4 c then c - 4 else b - 1 - c
def XN(b c:Nat):Nat:=bif h_ 2 c then c - 2 else b+c
def zt(T:Zt)(k b n:Nat):Nat×Nat:=match zn T k n with
 |(c,r)=>(zhC b c,r)
def zd(T:Zt)(k b n:Nat):Option Nat×Nat:=match zn T k n with
 |(c,r)=>(bif c_ c 0 then none else some (XN b (c - 1)),r)
section
variable (T:Zt)
def FM(k n:Nat):Ty×Nat:=match zn T k n with
 |(i,r)=>(HU .unit T.ty i,r)
def zk(n:Nat):K×Nat:=match zn T 80 n with
 |(i,r)=>(HU .e T.kk i,r)
def zsh(n:Nat):Sh×Nat:=match zn T 81 n with
 |(i,r)=>(HU ⟨[],⟨[],[]⟩,[]⟩ T.sh i,r)
def zik(n:Nat):V×Nat:=zb (zn T 82 n) λk r=>zm (λv=>match HU .unit T.ty k with| .int k=>V.d (.int k) (zgf v)|_=>.any) (zn T 83 r)
def zV:Nat->Nat->V×Nat
 |0,n=>(.any,n)
 |f+1,n=>match zn T 84 n with
  |(o,r)=>match o with
   |0=>(.any,r)
   |1=>zm V.sl (zn T 85 r)
   |2=>zb (zn T 85 r) λi r=>zm (V.ptr i) (zn T 86 r)
   |3=>zm V.mp (zn T 85 r)
   |4=>zm V.nil (FM T 87 r)
   |5=>(.raw (.pointer none),r)
   |6=>(.raw (.slice none 0 0),r)
   |7=>zm V.agg (Ln T 88 (zV f) r)
   |8=>zm V.tup (Ln T 88 (zV f) r)
   |9=>zm (λv=>V.d tI (zgf v)) (zn T 83 r)
   |10=>zm (λv=>V.d tB (c_ v 1)) (zn T 89 r)
   |11=>zb (zn T 90 r) λi r=>zm (V.clo i) (Ln T 88 (zn T 86) r)
   |12=>(.raw .nilIface,r)
   |13=>(.raw (.map none),r)
   |14=>(.ifc,r)
   |15=>zik T r
   |16=>zm (λl=>V.d tS (l.map UInt8.ofNat)) (Ln T 91 (zn T 92) r)
   |_=>zm (λi=>(HU [] T.zs i).headD .any) (zn T 93 r)
def zX(k b n:Nat):X×Nat:=match zn T k n with
 |(c,r)=>match c%4 with
  |0=>(.tm (zhC b (c/4)),r)
  |1=>(.k tI (zgf (c/4)),r)
  |_=>match c/4 with
   |0=>(.k tB false,r)
   |1=>(.k tB true,r)
   |2=>zm X.nil (FM T 87 r)
   |3=>zb (zn T 82 r) λk r=>zm (λv=>match HU .unit T.ty k with| .int k=>X.k (.int k) (zgf v)|_=>.f 0) (zn T 83 r)
   |4=>zm (λl=>X.k tS (l.map UInt8.ofNat)) (Ln T 91 (zn T 92) r)
   |5=>zm X.ag (Ln T 88 (zV T 9) r)
   |6=>zm X.f (zn T 90 r)
   |7=>(.raw (.pointer none),r)
   |8=>(.raw (.slice none 0 0),r)
   |9=>(.raw .nilIface,r)
   |10=>(.raw (.map none),r)
   |_=>zm (λi=>match(HU [] T.zs i).headD .any with| .raw v=>X.raw v|_=>.f 0) (zn T 93 r)
def zhB(b n:Nat):(Arg×X)×Nat:=match zn T 94 n with
 |(c,r)=>bif c_ c 0 then zm (λx=>(Arg.x,x)) (zX T 95 b r)else zm (λx=>(.d (HU .unit T.ty (c - 1)),x)) (zX T 96 b r)
def ziE:Nat->BinOp
 |0=>.add|1=>.sub|2=>.mul|3=>.quo|4=>.rem|5=>.and|6=>.or|7=>.xor|8=>.andNot|9=>.shl|10=>.shr
 |11=>.eql|12=>.neq|13=>.lss|14=>.leq|15=>.gtr|_=>.geq
def zox(b n:Nat):Option X×Nat:=match zn T 89 n with
 |(0,r)=>(none,r)
 |(_,r)=>zm some (zX T 97 b r)
def zil(x:Zx)(b:Nat)(o:Nat)(r:Nat):TOp×Nat:=
 match o with
 |1=>zm (λt=>.mv (.tm t)) (zt T 98 b r)
 |2=>zb (FM T 99 r) λt r=>zm (λx=>.load t (.tm x)) (zt T 100 b r)
 |3=>zb (zn T 101 r) λj r=>zb (FM T 102 r) λt r=>zm (λx=>.fldA j t (.tm x)) (zt T 103 b r)
 |5=>zb (zn T 104 r) λk r=>zb (zX T 105 b r) λx r=>zm (λy=>.bin (ziE k) x y) (zX T 106 b r)
 |6=>zm .mv (zX T 107 b r)
 |7=>zb (FM T 108 r) λt r=>zb (zX T 109 b r) λx r=>zm (λi=>.idxA t x i) (zX T 110 b r)
 |8=>zb (FM T 111 r) λt r=>zb (zX T 112 b r) λx r=>zm (λi=>.store t x i) (zX T 113 b r)
 |9=>zm (.len false) (zX T 114 b r)
 |10=>zb (zn T 90 r) λf r=>zb (Ln T 115 (zhB T b) r) λl r=>zm (λq=>.call false f l q) (zsh T r)
 |12=>zm .nilc (zX T 116 b r)
 |13=>zb (zX T 117 b r) λx r=>zm (.ext x) (zn T 118 r)
 |14=>zm (.un .not) (zX T 119 b r)
 |15=>zm (λi=>HU (.mv (.tm 0)) x.o i) (zn T 120 r)
 |17=>zb (zn T 121 r) λt r=>zm (λi=>.alloc t (HU [] T.zs i)) (zn T 93 r)
 |18=>zb (zn T 122 r) λt r=>zb (FM T 123 r) λu r=>zm (.boxD t u) (zX T 124 b r)
 |19=>zb (zn T 93 r) λi r=>zm (.build (HU [] T.zs i)) (Ln T 125 (λr=>zb (zn T 126 r) λa r=>zb (zn T 126 r) λc r=>zm (λx=>(a,c,x)) (zX T 127 b r)) r)
 |20=>zb (zn T 89 r) λo r=>zb (zn T 128 r) λt r=>zb (FM T 123 r) λu r=>zb (zn T 128 r) λl r=>zm (λp=>.bslice (c_ o 1) t u l p) (Ln T 125 (zX T 124 b) r)
 |21=>zb (zn T 129 r) λt r=>zb (FM T 130 r) λu r=>zb (zn T 129 r) λs r=>zb (zX T 131 b r) λx r=>zm (.append t u s x) (zX T 132 b r)
 |22=>zb (zn T 133 r) λm r=>zb (Ln T 125 (zn T 86) r) λB r=>zb (zn T 90 r) λf r=>zb (Ln T 115 (zhB T b) r) λl r=>zm (λq=>.callA (h_ 2 m) (c_ (m%2) 1) B f l q) (zsh T r)
 |23=>zb (zn T 128 r) λt r=>zb (FM T 123 r) λu r=>zb (zn T 128 r) λs r=>zb (zX T 124 b r) λx r=>zm (.mslice t u s x) (zX T 124 b r)
 |24=>zb (zn T 101 r) λj r=>zb (FM T 134 r) λt r=>zm (.fld j t) (zX T 135 b r)
 |25=>zb (zn T 136 r) λt r=>zm (.box t) (zX T 124 b r)
 |26=>zb (zn T 89 r) λm r=>zb (zX T 137 b r) λx r=>zm (.eqB (c_ m 1) x) (zX T 137 b r)
 |27=>zb (zX T 138 b r) λx r=>zm (.idxS x) (zX T 139 b r)
 |28=>zm (.len true) (zX T 114 b r)
 |29=>zb (zn T 89 r) λm r=>zb (zn T 128 r) λt r=>zb (FM T 123 r) λu r=>zb (zX T 137 b r) λx r=>zm (.eqT (c_ m 1) t u x) (zX T 137 b r)
 |30=>zb (zn T 90 r) λf r=>zb (Ln T 115 (zhB T b) r) λl r=>zm (λq=>.call true f l q) (zsh T r)
 |31=>zb (zX T 140 b r) λx r=>zb (zox T b r) λl r=>zm (.slcS x l) (zox T b r)
 |_=>zb (zn T 89 r) λm r=>zb (FM T 141 r) λt r=>zb (zX T 142 b r) λx r=>zb (zox T b r) λl r=>zb (zox T b r) λh r=>zm (.slc (c_ m 1) t x l h) (zox T b r)
def zop(x:Zx)(b:Nat)(o:Nat)(r:Nat):TOp×Nat:=match o with
 |33=>zb (zn T 143 r) λs r=>zb (zn T 33 r) λo r=>zm (.atq s) (zil T x b o r)
 |o=>zil T x b o r
def zhA(n:Nat):Adj×Nat:=match zn T 144 n with
 |(o,r)=>match o with
  |0=>zm Adj.freeze (zn T 145 r)
  |1=>zb (zn T 145 r) λk r=>zb (zn T 145 r) λty r=>zm (.adopt k ty) (FM T 146 r)
  |2=>zb (zn T 145 r) λi r=>zb (zn T 145 r) λj r=>zb (zn T 145 r) λty r=>zm (.adoptC i j ty) (FM T 146 r)
  |3=>zb (Ln T 125 (zn T 145) r) λa r=>zm (.sel a) (zas T r)
  |4=>zm Adj.drop (Ln T 125 (zn T 145) r)
  |5=>zb (zn T 145 r) λi r=>zb (zn T 145 r) λk r=>zb (zn T 145 r) λj r=>zm (.focus i k j) (FM T 146 r)
  |6=>zm Adj.close (zn T 145 r)
  |7=>zb (zn T 145 r) λk r=>zb (zn T 145 r) λty r=>zb (zk T r) λkk r=>zm (.adoptT k ty kk) (FM T 146 r)
  |_=>zb (zn T 145 r) λi r=>zb (zn T 145 r) λj r=>zb (zn T 145 r) λty r=>zb (zk T r) λkk r=>zm (.adoptCT i j ty kk) (FM T 146 r)
def zR(x:Zx):Nat->Nat->Nat->Nat->RC×Nat×Nat
 |0,_,b,n=>(.nil,b,n)
 |f+1,p,b,n=>match zn T p n with
  |(o,r)=>match o with
   |0=>(.nil,b,r)
   |4=>match zn T 38 r with
    |(c,r)=>match zn T 101 r with
     |(j,r)=>match FM T 102 r with
      |(t,r)=>match zt T 103 b r with
       |(k,r)=>match zR x f 4 (XN b c+2) r with
        |(l,e,r)=>(.op (some (XN b c)) (.fldA j t (.tm k)) (.op (some (XN b c+1)) (.load t (.tm (XN b c))) l),e,r)
   |11=>match zn T 89 r with
    |(m,r)=>match zt T 147 b r with
     |(t,r)=>match FM T 148 r with
      |(ty,r)=>match zR x f 0 b r with
       |(k,b,r)=>match zX T 149 b r with
        |(u,r)=>match zX T 150 b r with
         |(al,r)=>match zn T 45 r with
          |(d,r)=>match zR x f 11 (XN b d+1) r with
           |(l,e,r)=>(.gb t (c_ m 1) k ty u al (XN b d) l,e,r)
   |16=>match Ln T 125 (zhA T) r with
    |(a,r)=>match zR x f 16 b r with
     |(l,e,r)=>(.adj a l,e,r)
   |o=>match zd T (34+o) b r with
    |(d,r)=>match zop T x b o r with
     |(op,r)=>match zR x f o (match d with|none=>b|some d=>d+1) r with
      |(l,e,r)=>(.op d op l,e,r)
def zob(n:Nat):Ob×Nat:=match zn T 151 n with
 |(o,r)=>match o with
  |0=>(.gone,r)
  |1=>zb (zn T 152 r) λt r=>zm (.box t) (Ln T 88 (zV T 9) r)
  |2=>zb (zn T 152 r) λt r=>zm (λu=>.vec t u []) (FM T 153 r)
  |3=>zb (zn T 152 r) λt r=>zb (zk T r) λk r=>zm (λu=>.tree t k u [] none) (FM T 153 r)
  |4=>zb (zn T 152 r) λt r=>zb (zk T r) λk r=>zb (FM T 153 r) λu r=>zb (zn T 86 r) λj r=>zm (λs=>.tree t k u [] (some (0,j,.sl s))) (zn T 86 r)
  |5=>zb (zn T 152 r) λk r=>zb (zn T 152 r) λty r=>zb (FM T 153 r) λa r=>zm (λc=>.map k ty a c []) (FM T 153 r)
  |_=>(.free,r)
def zim(n:Nat):Slot×Nat:=match zn T 154 n with
 |(o,r)=>match o with
  |0=>zb (zn T 155 r) λk r=>zm (.tm k) (FM T 156 r)
  |1=>zb (zn T 86 r) λk r=>zb (zn T 86 r) λj r=>zm (.cell k j) (FM T 156 r)
  |2=>zb (zn T 86 r) λk r=>zb (zn T 86 r) λj r=>zm (.vec k j) (FM T 156 r)
  |3=>zb (zn T 86 r) λk r=>zb (zn T 86 r) λj r=>zb (zn T 86 r) λty r=>zb (FM T 156 r) λa r=>zm (.map k j ty a) (FM T 156 r)
  |4=>zb (zn T 86 r) λk r=>zb (zn T 86 r) λj r=>zb (zk T r) λty r=>zm (.tree k j ty) (FM T 156 r)
  |_=>zb (zn T 86 r) λk r=>zb (zn T 86 r) λj r=>zb (zk T r) λty r=>zb (FM T 156 r) λu r=>zb (zn T 86 r) λi r=>zm (.treeH k j ty u i) (zn T 86 r)
def zfr:Nat->Nat->Nat->List (Nat×V)×Nat
 |0,_,n=>([],n)
 |k+1,p,n=>match zn T 157 n with
  |(c,r)=>match zV T 9 r with
   |(v,r)=>match zfr k (zgF p c+1) r with
    |(l,r)=>((zgF p c,v)::l,r)
def zSh(n:Nat):Sh×Nat:=
 zb (zas T n) λks r=>zb (zb (zn T 158 r) λk r=>zfr T k 0 r) λfr r=>zb (Ln T 159 (zob T) r) λhp r=>zm (λsl=>⟨ks,⟨fr,hp⟩,sl⟩) (Ln T 160 (zim T) r)
def zxs(n:Nat):List (Nat×Sh)×Nat:=Ln T 161 (λr=>zb (zn T 162 r) λk r=>zm (λv=>(k,v)) (zSh T r)) n
def zPO(x:Zx)(b n:Nat):(PO×Option Nat)×Nat:=
 zb (zn T 163 n) λj r=>zb (zn T 164 r) λc r=>zb (Ln T 165 (zn T 166) r) λus r=>zb (zn T 167 r) λo r=>zb (zd T (34+o) b r) λd r=>zb (zn T 168 r) λg r=>zm (λop=>(bif c_ g 0 then ziv j (c_ (c%2) 1) us d op else ziu j (c_ (c%2) 1) us (zhC b (g - 1)) (h_ 2 c) d op,d)) (zop T x b o r)
def zPs(x:Zx):Nat->Nat->Nat->List PO×Nat×Nat
 |0,b,n=>([],b,n)
 |k+1,b,n=>match zPO T x b n with
  |((p,d),r)=>match zPs x k (match d with|none=>b|some d=>d+1) r with
   |(l,b,r)=>(p::l,b,r)
def zaf(n:Nat):List (List Nat)×Nat:=Ln T 169 (Ln T 169 (zn T 170)) n
def zG(x:Zx):Nat->Nat->Nat->Nat->TC×Nat×Nat
 |0,_,b,n=>(.skip,b,n)
 |f+1,p,b,n=>match zn T p n with
  |(o,r)=>match o with
   |0=>(.skip,b,r)
   |1=>match zR T x 400 0 b r with
    |(l,b,r)=>(.region l,b,r)
   |2=>match zG x f 69 b r with
    |(l,b,r)=>match zG x f 76 b r with
     |(k,b,r)=>(.seq l k,b,r)
   |3=>match zX T 172 b r with
    |(c,r)=>match zG x f 70 b r with
     |(l,b,r)=>match zG x f 77 b r with
      |(k,b,r)=>(.cond c l k,b,r)
   |4=>match zn T 171 r with
    |(i,r)=>match zG x f 71 b r with
     |(l,b,r)=>(.block i l,b,r)
   |5=>match zSh T r with
    |(sh,r)=>match zxs T r with
     |(xs,r)=>match zG x f 72 b r with
      |(l,b,r)=>(.loop sh xs l,b,r)
   |6=>match zn T 171 r with
    |(i,r)=>(.exit i,b,r)
   |7=>(.ret,b,r)
   |8=>match zn T 128 r with
    |(k,r)=>match zaf T r with
     |(af,r)=>match zR T x 400 0 b r with
      |(l,b,r)=>(.draw k l af,b,r)
   |9=>match Ln T 125 (zhA T) r with
    |(a,r)=>match zG x f 73 b r with
     |(l,b,r)=>(.adj a l,b,r)
   |10=>match Ln T 125 (zhA T) r with
    |(a,r)=>match zG x f 74 b r with
     |(l,b,r)=>(.after l a,b,r)
   |11=>match zxs T r with
    |(xs,r)=>match zG x f 75 b r with
     |(l,b,r)=>(.cut xs l,b,r)
   |12=>match zn T 128 r with
    |(k,r)=>match zaf T r with
     |(af,r)=>match zn T 173 r with
      |(m,r)=>match zPs T x m b r with
       |(pre,b,r)=>match zR T x 400 0 b r with
        |(l,b,r)=>(.draw2 k pre l af,b,r)
   |_=>match zn T 173 r with
    |(m,r)=>match zPs T x m b r with
     |(pre,b,r)=>(.regL pre,b,r)
def zC(x:Zx)(n:Nat):TC:=(zG T x 400 68 0 n).1
end
noncomputable def UU(l:List (Nat×V))(t:Nat):Option V:=List.rec (motive:=λ_=>Option V) none (λx _ a=>y_ (motive:=λ_=>Option V) a (some x.2) (c_ t x.1)) l
theorem xG(t:Nat):∀l:List (Nat×V),UU l t=lk l t
 |[]=>rfl
 |(k,a)::l=>by show(y_ (motive:=λ_=>Option V) (UU l t) (some a) (c_ t k))=bif c_ t k then some a else lk l t;rw[xG t l];cases c_ t k<;>rfl
noncomputable def S.getQ(s:S)(x:X):Option V:=X.casesOn (motive:=λ_=>Option V) x (λk=>UU s.fr k) (λt x=>some (.d t x)) (λt=>some (.nil t)) (λvs=>some (.agg vs)) (λn=>some (.fnD n [])) (λv=>some (.raw v))
theorem mG(s:S)(x:X):s.getQ x=s.get x:=by cases x<;>first|exact xG _ _|rfl
def uk(m k:Nat):Bool:=c_ (P_ (Nat.shiftRight m k) 1) 1
theorem qH(m k:Nat):uk m k=m.testBit k:=by show c_ ((m>>>k)&&&1) 1=((1&&&(m>>>k)) != 0);rw[ab_,ab_ 1,ab_,Nat.one_and_eq_mod_two];rcases Nat.mod_two_eq_zero_or_one (m>>>k)with h|h<;>rw[h]<;>rfl
theorem zW(a b:List Nat)(k:Nat):qV (a++b) k=(qV a k||qV b k):=by simp[qV]
theorem wd(a b k:Nat):uk (J_ a b) k=(uk a k||uk b k):=by rw[qH,qH,qH];exact Nat.testBit_or a b k
theorem Jw(d k:Nat):uk (2^d) k=qV [d] k:=by
 rw[qH,Nat.testBit_two_pow];show decide (d=k)=(c_ k d||false);rw[Bool.or_false];by_cases h:d=k;·subst h;simp
 ·rw[decide_eq_false h];cases a:c_ k d;·rfl
  ·exact absurd (a_ a).symm h
theorem oF(k:Nat):uk 0 k=qV [] k:=by rw[qH];simp[qV]
def zgX:Option Nat->Nat
 |some d=>2^d
 |none=>0
theorem X5(d:Option Nat)(k:Nat):uk (zgX d) k=qV (match d with|some d=>[d]|none=>[]) k:=by cases d with|none=>exact oF k|some d=>exact Jw d k
def RC.msk:RC->Nat
 | .nil=>0
 | .op d _ rest=>J_ (zgX d) rest.msk
 | .adj _ rest=>rest.msk
 | .gb _ _ blk _ _ _ dst rest=>J_ blk.msk (J_ (2^dst) rest.msk)
theorem RC.msk_eq(k:Nat):∀r:RC,uk r.msk k=qV r.asg k
 | .nil=>oF k
 | .op d o rest=>by simp only[RC.msk,RC.asg,wd,zW,X5,RC.msk_eq k rest]<;>rfl
 | .adj l rest=>by simp only[RC.msk,RC.asg,RC.msk_eq k rest]
 | .gb a b blk c d e dst rest=>by simp only[RC.msk,RC.asg,wd,zW,RC.msk_eq k rest,RC.msk_eq k blk,Jw];rw[show dst::rest.asg=[dst]++rest.asg from rfl,zW]
def zdN:List PO->Nat
 |[]=>0
 |p::l=>J_ (zgX p.d) (zdN l)
theorem Ss(k:Nat):∀l:List PO,uk (zdN l) k=qV (l.flatMap λp=>match p.d with|some d=>[d]|none=>[]) k
 |[]=>oF k
 |p::l=>by simp only[zdN,Z_,wd,zW,X5,Ss k l]<;>rfl
def TC.msk:TC->Nat
 | .region ops=>ops.msk
 | .draw _ ops _=>ops.msk
 | .draw2 _ pre tl _=>J_ (zdN pre) tl.msk
 | .regL pre=>zdN pre
 | .seq a b=>J_ a.msk b.msk
 | .cond _ a b=>J_ a.msk b.msk
 | .block _ a=>a.msk
 | .loop _ _ a=>a.msk
 | .adj _ a=>a.msk
 | .after a _=>a.msk
 | .cut _ a=>a.msk
 |_=>0
theorem TC.msk_eq(k:Nat):∀c:TC,uk c.msk k=qV c.asg k
 | .region ops=>RC.msk_eq k ops
 | .draw _ ops _=>RC.msk_eq k ops
 | .regL pre=>Ss k pre
 | .draw2 _ pre tl _=>by simp only[TC.msk,TC.asg,wd,zW,RC.msk_eq k tl,Ss k pre]<;>rfl
 | .seq a b=>by simp only[TC.msk,TC.asg,wd,zW,TC.msk_eq k a,TC.msk_eq k b]
 | .cond _ a b=>by simp only[TC.msk,TC.asg,wd,zW,TC.msk_eq k a,TC.msk_eq k b]
 | .block _ a=>TC.msk_eq k a
 | .loop _ _ a=>TC.msk_eq k a
 | .adj _ a=>TC.msk_eq k a
 | .after a _=>TC.msk_eq k a
 | .cut _ a=>TC.msk_eq k a
 | .skip=>oF k
 | .exit _=>oF k
 | .ret=>oF k
noncomputable def zfJ(m:Nat)(fr:List (Nat×V))(k:Nat):Bool:=uk m k||(match UU fr k with
 |some v=> !v.isD
 |none=>false)
def tmQ(m:Nat->Bool):Slot->Bool
 | .tm k _=>m k
 |_=>true
noncomputable def okQ(sh:Sh)(m:Nat)(s:S):Bool:=sh.keep.all (λk=> !uk m k)&&sh.sl.all (tmQ (zfJ m s.fr))&&sh.sk.fr.all (λx=>zfJ m s.fr x.1)
theorem Y1{m:Nat}{A:List Nat}(h:∀k,uk m k=qV A k)(fr:List (Nat×V))(k:Nat):zfJ m fr k=uB A fr k:=by unfold zfJ uB;rw[h,xG];all_goals rfl
theorem zdF{m:Nat}{A:List Nat}(h:∀k,uk m k=qV A k)(sh:Sh)(s:S):okQ sh m s=sh.okAt A s:=by
 unfold okQ Sh.okAt;congr 1
 ·congr 1;·grind
  ·congr 1;funext x;cases x<;>first|exact Y1 h _ _|rfl
 ·congr 1;funext x;exact Y1 h _ _
noncomputable def frM(fr:List (Nat×V)):Nat:=List.rec (motive:=λ_=>Nat) 0 (λx _ a=>J_ (2^x.1) a) fr
theorem WS(k:Nat):∀fr:List (Nat×V),uk (frM fr) k=(lk fr k).isSome
 |[]=>oF k
 |(j,v)::l=>by show uk (J_ (2^j) (frM l)) k=(bif c_ k j then some v else lk l k).isSome;rw[wd,WS k l,Jw];show((c_ k j||false)||_)=_;grind
theorem zdu(r:RC)(fr:List (Nat×V)):c_ (P_ r.msk (frM fr)) 0=r.asg.all (λk=>(lk fr k).isNone):=by
 cases b:r.asg.all (λk=>(lk fr k).isNone)
 ·cases d:c_ (P_ r.msk (frM fr)) 0;·rfl
  ·have d:=a_ d;rw[List.all_eq_false]at b;obtain⟨k,h,hn⟩:=b;have a:(P_ r.msk (frM fr)).testBit k=(r.msk.testBit k&&(frM fr).testBit k):=al_ _ _ _;rw[d,<-qH r.msk,<-qH (frM fr),RC.msk_eq,WS,ag_]at a;have e:qV r.asg k=true:=G_.2 ⟨k,h,av_ k⟩;rw[e]at a;simp at a;grind
 ·have:P_ r.msk (frM fr)=0:=by
   refine Nat.eq_of_testBit_eq λk=>?_;have a:(P_ r.msk (frM fr)).testBit k=(r.msk.testBit k&&(frM fr).testBit k):=al_ _ _ _;rw[a,<-qH r.msk,<-qH (frM fr),RC.msk_eq,WS,ag_];cases f:qV r.asg k;·rfl
   ·obtain⟨j,g,c⟩:=G_.1 f;have c:=a_ c;subst c;have:=m_.1 b k g;rw[N_.1 this];rfl
  rw[this];rfl
noncomputable def WR(fr l:List (Nat×V)):Bool:=List.rec (motive:=λ_=>Bool) true (λx _ a=>t_ (motive:=λ_=>Bool) false (λw=>y_ (motive:=λ_=>Bool) false a (V.same x.2 w)) (UU fr x.1)) l
theorem P7(fr:List (Nat×V)):∀l,WR fr l=MH fr l
 |[]=>rfl
 |(k,v)::l=>by
  show t_ (motive:=λ_=>Bool) false (λw=>y_ (motive:=λ_=>Bool) false (WR fr l) (V.same v w)) (UU fr k)=((match lk fr k with|some w=>V.same v w|none=>false)&&MH fr l)
  rw[xG,P7 fr l];cases lk fr k with|none=>rfl|some w=>show y_ (motive:=λ_=>Bool) false _ (V.same v w)=(V.same v w&&_);cases V.same v w<;>rfl
noncomputable def zev(s:S)(x:Slot):Option x.ty.den:=Slot.casesOn (motive:=λx=>Option x.ty.den) x (λk t=>t_ (motive:=λ_=>Option t.den) none (λv=>eF t v) (UU s.fr k)) (λa b c=>ki s (.cell a b c)) (λa b c=>ki s (.vec a b c)) (λa b c d e=>ki s (.map a b c d e)) (λa b c d=>ki s (.tree a b c d)) (λa b c d e f=>ki s (.treeH a b c d e f))
theorem zew(s:S)(x:Slot):zev s x=ki s x:=by
 cases x<;>try rfl
 rename_i k t;show t_ (motive:=λ_=>Option t.den) none (λv=>eF t v) (UU s.fr k)=match lk s.fr k with|some v=>eF t v|none=>none
 rw[xG];cases lk s.fr k<;>rfl
noncomputable def W5(s:S)(sl:List Slot):Option (HL sl):=List.rec (motive:=λsl=>Option (HL sl)) (some ()) (λx l a=>t_ (motive:=λ_=>Option (HL (x::l))) none (λc=>t_ (motive:=λ_=>Option (HL (x::l))) none (λr=>some (c,r)) a) (zev s x)) sl
theorem Qq(s:S):∀sl,W5 s sl=M6 s sl
 |[]=>rfl
 |x::l=>by
  show t_ (motive:=λ_=>Option (HL (x::l))) none (λc=>t_ (motive:=λ_=>Option (HL (x::l))) none (λr=>some (c,r)) (W5 s l)) (zev s x)=match ki s x with
   |some c=>match M6 s l with
    |some r=>some (c,r)
    |none=>none
   |none=>none
  rw[zew,Qq s l];cases ki s x with|none=>rfl|some c=>cases M6 s l<;>rfl
noncomputable def zcg(fr:List (Nat×V))(ks:List Nat):Bool:=List.rec (motive:=λ_=>Bool) true (λk _ a=>t_ (motive:=λ_=>Bool) false (λv=>y_ (motive:=λ_=>Bool) false a v.isD) (UU fr k)) ks
theorem Tk(fr:List (Nat×V)):∀ks,zcg fr ks=ks.all (zcZ fr)
 |[]=>rfl
 |k::l=>by
  show t_ (motive:=λ_=>Bool) false (λv=>y_ (motive:=λ_=>Bool) false (zcg fr l) v.isD) (UU fr k)=((match lk fr k with|some v=>v.isD|none=>false)&&l.all (zcZ fr))
  rw[xG,Tk fr l];cases lk fr k with|none=>rfl|some v=>show y_ (motive:=λ_=>Bool) false _ v.isD=(v.isD&&_);cases v.isD<;>rfl
noncomputable def Qr(sh:Sh)(s:S):Option (HL sh.sl):=y_ (motive:=λ_=>Option (HL sh.sl)) none (W5 s sh.sl) (WR s.fr sh.sk.fr&&Jf sh.sk.hp s.hp&&zcg s.fr sh.keep)
theorem M7(sh:Sh)(s:S):Qr sh s=pack sh s:=by unfold Qr pack S.fits;rw[P7,Tk,Qq];cases MH s.fr sh.sk.fr&&Jf sh.sk.hp s.hp&&sh.keep.all (zcZ s.fr)<;>rfl
noncomputable def UL(fr:List (Nat×V))(ks:List Nat):List (Nat×V):=List.rec (motive:=λ_=>List (Nat×V)) [] (λk _ a=>t_ (motive:=λ_=>List (Nat×V)) a (λv=>y_ (motive:=λ_=>List (Nat×V)) a ((k,v)::a) v.isD) (UU fr k)) ks
theorem UM(fr:List (Nat×V)):∀ks,UL fr ks=fA fr ks
 |[]=>rfl
 |k::l=>by
  show t_ (motive:=λ_=>List (Nat×V)) (UL fr l) (λv=>y_ (motive:=λ_=>List (Nat×V)) (UL fr l) ((k,v)::UL fr l) v.isD) (UU fr k)=match lk fr k with
   |some v=>bif v.isD then(k,v)::fA fr l else fA fr l
   |none=>fA fr l
  rw[xG,UM fr l];cases lk fr k with|none=>rfl|some v=>show y_ (motive:=λ_=>List (Nat×V)) _ _ v.isD=bif v.isD then _ else _;cases v.isD<;>rfl
noncomputable def Sh.baseQ(sh:Sh)(s:S):S:=⟨UL s.fr sh.keep++sh.sk.fr,sh.sk.hp⟩
theorem LR(sh:Sh)(s:S):sh.baseQ s=sh.base s:=by unfold Sh.baseQ Sh.base;rw[UM]
noncomputable def MJ:(xs:List (Nat×Sh))->Nat->S->Option (XT xs)
 |[],_,_=>none
 |[(k,sh)],key,s=>bif c_ k key then Qr sh s else none
 |(k,sh)::a::l,key,s=>bif c_ k key then(match Qr sh s with|some c=>some (.inl c)|none=>none)else(match MJ (a::l) key s with|some c=>some (.inr c)|none=>none)
theorem Sb(key:Nat)(s:S):∀xs,MJ xs key s=inj xs key s
 |[]=>rfl
 |[(k,sh)]=>by simp only[MJ,inj,M7]
 |(k,sh)::a::l=>by simp only[MJ,inj,M7,Sb key s (a::l)]<;>rfl
noncomputable def oT{R:Type}(s:S)(κ:Nat->S->Option R):(xs:List (Nat×Sh))->XT xs->Option R
 |[],_=>none
 |[(k,sh)],c=>κ k (unpack sh.sl c (sh.baseQ s))
 |(k,sh)::a::l,c=>ay_ (λc=>κ k (unpack sh.sl c (sh.baseQ s))) (λc=>oT s κ (a::l) c) c
theorem zi{R:Type}(s:S)(κ:Nat->S->Option R):∀xs c,oT s κ xs c=nG s κ xs c
 |[],_=>rfl
 |[(k,sh)],c=>by simp only[oT,nG,LR]
 |(k,sh)::a::l,c=>by simp only[oT,nG,LR,zi s κ (a::l)]
abbrev MQ(R:Type):Type:=ao->Option Nat->S->(S->Option R)->(S->Option R)->Option R
section
variable {R:Type}
noncomputable def zh4(x:X):MQ R:=λO d s κ kp=>match s.getQ x with
 |some v=>κ (s.putO d v)
 |none=>none
def zhq(c:X)(a:X)(b:X):MQ R:=λO d s κ kp=>evOp O d (.pick c a b) s κ kp
noncomputable def zgz(op:BinOp)(x:X)(y:X):MQ R:=λO d s κ kp=>match s.getQ x,s.getQ y with
 |some (.d (.int k) a),some (.d (.int c) b)=>zfa op k c a b λv=>κ (s.putO d v)
 |some (.d .str a),some (.d .str b)=>zfb op a b λv=>κ (s.putO d v)
 |_,_=>none
noncomputable def zgA(neg:Bool)(x:X)(y:X):MQ R:=λO d s κ kp=>match s.getQ x,s.getQ y with
 |some (.d .bool a),some (.d .bool b)=>κ (s.putO d (.d .bool (neg ^^ (a==b))))
 |_,_=>none
def zh2(neg:Bool)(tid:TypeId)(t:Ty)(x:X)(y:X):MQ R:=λO d s κ kp=>evOp O d (.eqT neg tid t x y) s κ kp
noncomputable def zh6(op:UnOp)(x:X):MQ R:=λO d s κ kp=>match op,s.getQ x with
 | .not,some (.d .bool a)=>κ (s.putO d (.d .bool (!a)))
 | .neg,some (.d (.int k) a)=>κ (s.putO d (.d (.int k) (k.wrap (0 - a))))
 |_,_=>none
noncomputable def q_len(str:Bool)(x:X):MQ R:=λO d s κ kp=>match str,s.getQ x with
 |true,some (.d .str a)=>κ (s.putO d (.d (.int .i64) a.length))
 |false,some (.d (.list _) a)=>κ (s.putO d (.d (.int .i64) a.length))
 |false,some (.nil _)=>κ (s.putO d (.d (.int .i64) 0))
 |false,some (.sl id)=>match s.hp[id]? with
  |some (.vec _ _ xs)=>κ (s.putO d (.d (.int .i64) xs.length))
  |some (.tree _ _ _ xs _)=>κ (s.putO d (.d (.int .i64) xs.length))
  |_=>none
 |_,_=>none
def zhn(k:TypeId)(e:TypeId)(x:X):MQ R:=λO d s κ kp=>evOp O d (.lenM k e x) s κ kp
def zhl(x:X)(i:X):MQ R:=λO d s κ kp=>evOp O d (.idxS x i) s κ kp
def zhm(n:Nat)(t:Ty)(x:X)(i:X):MQ R:=λO d s κ kp=>evOp O d (.idxV n t x i) s κ kp
noncomputable def zd3(t:Ty)(x:X)(i:X):MQ R:=λO d s κ kp=>match s.getQ x with
 |some (.sl id)=>match s.hp[id]? with
  |some (.vec _ u xs)=>bif decide (u=t)then intOf (s.getQ i) λn=>d_ (aM xs n) λ_=>κ (s.putO d (.elt id n.toNat 0))else none
  |some (.tree _ _ u xs _)=>bif decide (u=t)then intOf (s.getQ i) λn=>d_ (aM xs n) λ_=>κ (s.putO d (.elt id n.toNat 0))else none
  |_=>none
 |some (.d (.list u) xs)=>match cM (.list u) (.list t) xs with
  |some xs=>intOf (s.getQ i) λn=>d_ (aM xs n) λx=>κ (s.putO d (.dp t x))
  |none=>none
 |_=>none
def zhk(n:Nat)(t:Ty)(x:X)(i:X):MQ R:=λO d s κ kp=>evOp O d (.idxP n t x i) s κ kp
noncomputable def zd2(off:Nat)(t:Ty)(x:X):MQ R:=λO d s κ kp=>match s.getQ x with
 |some (.dp u y)=>match yi u off t y with
  |some z=>κ (s.putO d (.dp t z))
  |none=>none
 |some (.ptr id o)=>κ (s.putO d (.ptr id (o+off)))
 |some (.elt id i o)=>κ (s.putO d (.elt id i (o+off)))
 |_=>none
def zh3(off:Nat)(t:Ty)(x:X):MQ R:=λO d s κ kp=>evOp O d (.fld off t x) s κ kp
noncomputable def zd4(t:Ty)(x:X):MQ R:=λO d s κ kp=>loadT s.hp t (s.getQ x) λv=>κ (s.putO d v)
noncomputable def zai(t:Ty)(x:X)(v:X):MQ R:=λO d s κ kp=>match d with
 |none=>storeT s t (s.getQ x) (s.getQ v) κ
 |some _=>none
def zfY(tid:TypeId)(zero:List V):MQ R:=λO d s κ kp=>evOp O d (.alloc tid zero) s κ kp
def zh1(tid:TypeId)(x:X):MQ R:=λO d s κ kp=>evOp O d (.box tid x) s κ kp
def zhg(tid:TypeId)(t:Ty)(x:X):MQ R:=λO d s κ kp=>evOp O d (.boxD tid t x) s κ kp
def zfZ(zero:List V)(parts:List (Nat×Nat×X)):MQ R:=λO d s κ kp=>evOp O d (.build zero parts) s κ kp
def zd1(own:Bool)(tid:TypeId)(t:Ty)(len:Nat)(parts:List X):MQ R:=λO d s κ kp=>evOp O d (.bslice own tid t len parts) s κ kp
def zd7(tid:TypeId)(t:Ty)(bytes:Nat)(l:X)(c:X):MQ R:=λO d s κ kp=>evOp O d (.mslice tid t bytes l c) s κ kp
def zd0(tid:TypeId)(t:Ty)(bytes:Nat)(x:X)(y:X):MQ R:=λO d s κ kp=>evOp O d (.append tid t bytes x y) s κ kp
def zhj(k:IntKind)(x:X):MQ R:=λO d s κ kp=>evOp O d (.cvtI k x) s κ kp
def zh5(full:Bool)(t:Ty)(x:X)(lo:Option X)(a:Option X)(mx:Option X):MQ R:=λO d s κ kp=>evOp O d (.slc full t x lo a mx) s κ kp
def zhr(x:X)(lo:Option X)(a:Option X):MQ R:=λO d s κ kp=>evOp O d (.slcS x lo a) s κ kp
noncomputable def zgB(x:X)(i:Nat):MQ R:=λO d s κ kp=>match s.getQ x with
 |some (.tup vs)=>match vs[i]? with
  |some v=>bif (match v with| .agg _=>false| .tup _=>false|_=>true)then κ (s.putO d v)else none
  |none=>none
 |_=>none
noncomputable def zd8(x:X):MQ R:=λO d s κ kp=>match s.getQ x with
 |some v=>(match v with
  | .dp _ _=>κ (s.putO d v)
  | .ptr _ _=>κ (s.putO d v)
  | .pel _ _ _ _ _=>κ (s.putO d v)
  | .elt _ _ _=>κ (s.putO d v)
  | .clo _ _=>κ (s.putO d v)
  | .fnD _ _=>κ (s.putO d v)
  |_=>none)
 |none=>none
noncomputable def zhh(bor:Bool)(f:FuncId)(args:List (Arg×X))(sh:Sh):MQ R:=λO d s κ kp=>match Tw s bor args with
 |some ars=>bif ars.all V.isD&&sh.sk.fr.isEmpty&&(!bor||sh.sl.all Slot.flat)then
  d_ (aC O f ars [] sh) λc=>κ (s.putO d (res sh.n (unpack sh.sl c (sh.base ⟨[],[]⟩)).fr))else none
 |none=>none
noncomputable def zf0(pan:Bool)(bor:Bool)(B:List Nat)(f:FuncId)(args:List (Arg×X))(sh:Sh):MQ R:=λO d s κ kp=>match xm s bor B args with
 |some ars=>FV pan O s d bor B f ars sh κ kp
 |none=>none
def zf2(pan:Bool)(bor:Bool)(B:List Nat)(num:Nat)(x:X)(args:List (Arg×X))(sh:Sh):MQ R:=λO d s κ kp=>evOp O d (.callv pan bor B num x args sh) s κ kp
def zh0(x:X):MQ R:=λO d s κ kp=>evOp O d (.b2s x) s κ kp
def zho(f:FuncId)(caps:List X):MQ R:=λO d s κ kp=>evOp O d (.mkfn f caps) s κ kp
def zf4(k:TypeId)(e:TypeId)(a:Ty)(b:Ty):MQ R:=λO d s κ kp=>evOp O d (.mkmap k e a b) s κ kp
def zd5(k:TypeId)(e:TypeId)(ok:Bool)(a:Ty)(b:Ty)(m:X)(x:X):MQ R:=λO d s κ kp=>evOp O d (.lookup k e ok a b m x) s κ kp
def zd6(k:TypeId)(e:TypeId)(a:Ty)(b:Ty)(m:X)(x:X)(v:X):MQ R:=λO d s κ kp=>evOp O d (.mapset k e a b m x v) s κ kp
def zhi(tid:TypeId)(t:Ty)(x:X)(y:X):MQ R:=λO d s κ kp=>evOp O d (.copy tid t x y) s κ kp
def zhp(mx:Bool)(k:IntKind)(x:X)(ys:List X):MQ R:=λO d s κ kp=>evOp O d (.mnmx mx k x ys) s κ kp
def zf5(x:X):MQ R:=λO d s κ kp=>evOp O d (.panic x) s κ kp
def zf3(tid:TypeId)(x:X):MQ R:=λO d s κ kp=>evOp O d (.iface tid x) s κ kp
def zbm(tid:TypeId)(t:Ty)(len:Nat)(parts:List X):MQ R:=λO d s κ kp=>evOp O d (.bsliceF tid t len parts) s κ kp
def zhe(tid:TypeId)(t:Ty)(bytes:Nat)(x:X)(y:X):MQ R:=λO d s κ kp=>evOp O d (.appD tid t bytes x y) s κ kp
def zbn(tid:TypeId)(k:K)(t:Ty)(len:Nat)(parts:List X):MQ R:=λO d s κ kp=>evOp O d (.bsliceN tid k t len parts) s κ kp
def zbo(tid:TypeId)(k:K)(u:Ty)(bytes:Nat)(l:X)(c:X):MQ R:=λO d s κ kp=>evOp O d (.msliceT tid k u bytes l c) s κ kp
def zhf(tid:TypeId)(k:K)(t:Ty)(bytes:Nat)(x:X)(y:X):MQ R:=λO d s κ kp=>evOp O d (.appT tid k t bytes x y) s κ kp
def zf1(bor:Bool)(num:Nat)(x:X)(args:List (Arg×X))(sh:Sh):MQ R:=λO d s κ kp=>evOp O d (.callp bor num x args sh) s κ kp
def zix(k:Nat)(op:TOp):MQ R:=λO d s κ kp=>evOp O d (.atq k op) s κ kp
noncomputable def ly(op:TOp):MQ R:=TOp.casesOn (motive:=λ_=>MQ R) op zh4 zhq zgz zgA zh2 zh6 q_len zhn zhl zhm zd3 zhk zd2 zh3 zd4 zai zfY zh1 zhg zfZ zd1 zd7 zd0 zhj zh5 zhr zgB zd8 zhh zf0 zf2 zh0 zho zf4 zd5 zd6 zhi zhp zf5 zf3 zbm zhe zbn zbo zhf zf1 zix
theorem My(op:TOp)(O:ao)(d:Option Nat)(s:S)(κ kp:S->Option R):ly op O d s κ kp=evOp O d op s κ kp:=by
 cases op;case mv=>simp only[ly,zh4,evOp,mG]<;>rfl
 case bin=>simp only[ly,zgz,evOp,mG]<;>rfl
 case eqB=>simp only[ly,zgA,evOp,mG]<;>rfl
 case un=>simp only[ly,zh6,evOp,mG]<;>rfl
 case len=>simp only[ly,q_len,evOp,mG]<;>rfl
 case idxA=>simp only[ly,zd3,evOp,mG]<;>rfl
 case fldA=>simp only[ly,zd2,evOp,mG]<;>rfl
 case load=>simp only[ly,zd4,evOp,mG]<;>rfl
 case store=>simp only[ly,zai,evOp,mG]<;>rfl
 case ext=>simp only[ly,zgB,evOp,mG]<;>rfl
 case nilc=>simp only[ly,zd8,evOp,mG]<;>rfl
 case call=>rfl
 case callA=>rfl
 all_goals rfl
abbrev RQ:Type 1:=(R:Type)->S->(S->Option R)->(S->Option R)->Option R
def zh8:RQ:=λ_ s κ _=>κ s
noncomputable def ziy(O:ao)(d:Option Nat)(o:TOp)(_:RC)(a:RQ):RQ:=λR s κ kp=>ly o O d s (λs'=>a R s' κ kp) kp
def zh7(l:List Adj)(_:RC)(a:RQ):RQ:=λR s κ kp=>EY l s λs=>a R s κ kp
noncomputable def zht(t:Nat)(want:Bool)(blk:RC)(ty:Ty)(r alt:X)(dst:Nat)(_:RC)(a d:RQ):RQ:=λR s κ kp=>match UU s.fr t,s.getQ alt with
 |some (.d .bool b),some e=>match(bif c_ (P_ blk.msk (frM s.fr)) 0 then eF ty e else none)with
  |some alt=>d_ (match want with
   |true=>bif b then a ty.den s (λs'=>match s'.getQ r with|some v=>eF ty v|none=>none) (λ_=>none)else some alt
   |false=>bif b then some alt else a ty.den s (λs'=>match s'.getQ r with|some v=>eF ty v|none=>none) (λ_=>none))
   λc=>d R (s.put dst (.d ty c)) κ kp
  |none=>none
 |_,_=>none
noncomputable def MA(O:ao)(r:RC):RQ:=RC.rec (motive:=λ_=>RQ) zh8 (ziy O) zh7 zht r
theorem R6(O:ao)(r:RC):∀(R:Type) (s:S) (κ kp:S->Option R),MA O r R s κ kp=K7 O R r s κ kp:=by
 induction r with
 |nil=>intro R s κ kp;rfl|op d o rest a=>intro R s κ kp;show ly o O d s (λs'=>MA O rest R s' κ kp) kp=evOp O d o s (λs'=>K7 O R rest s' κ kp) kp;rw[My];grind|adj l rest a=>intro R s κ kp;show EY l s (λs=>MA O rest R s κ kp)=EY l s λs=>K7 O R rest s κ kp;grind|gb t want blk ty r alt dst rest e a=>
  intro R s κ kp;have b:MA O blk=λR s κ kp=>K7 O R blk s κ kp:=by grind
  have c:MA O rest=λR s κ kp=>K7 O R rest s κ kp:=by grind
  show zht t want blk ty r alt dst rest (MA O blk) (MA O rest) R s κ kp=_;rw[b,c];simp only[zht,K7,mG,xG,zdu]<;>rfl
noncomputable def zaQ{R:Type}(O:ao)(l:List PO):List RecV->S->(S->Option R)->(S->Option R)->Option R:=List.rec (motive:=λ_=>List RecV->S->(S->Option R)->(S->Option R)->Option R) (λ_ s κ _=>κ s) (λp _ a A s κ kp=>
 match p.g with
 |none=>bif IL A s p then ly p.o O p.d s (λs'=>reK A s s' p (a (Jk A s s' p) s' κ kp)) kp else none
 |some (t,want)=>match UU s.fr t with
  |some (.d .bool b)=>bif want==b
   then(bif IL A (s.put t (.d .bool want)) p then ly p.o O p.d (s.put t (.d .bool want)) (λs'=>reK A (s.put t (.d .bool want)) s' p (a (Jk A (s.put t (.d .bool want)) s' p) s' κ kp)) kp else none)
   else(bif IL A (s.put t (.d .bool (!want))) p then reK A (s.put t (.d .bool (!want))) ((s.put t (.d .bool (!want))).putO p.d (.raw Go.undef)) p (a (Jk A (s.put t (.d .bool (!want))) ((s.put t (.d .bool (!want))).putO p.d (.raw Go.undef)) p) ((s.put t (.d .bool (!want))).putO p.d (.raw Go.undef)) κ kp)else none)
  |_=>none) l
theorem YH{R:Type}(O:ao):∀(l:List PO) (A:List RecV) (s:S) (κ kp:S->Option R),zaQ O l A s κ kp=evP O A l s κ kp
 |[],_,_,_,_=>rfl
 |p::l,A,s,κ,kp=>by
  show(match p.g with
  |none=>bif IL A s p then ly p.o O p.d s (λs'=>reK A s s' p (zaQ O l (Jk A s s' p) s' κ kp)) kp else none|some (t,want)=>match UU s.fr t with
   |some (.d .bool b)=>bif want==b then(bif IL A (s.put t (.d .bool want)) p then ly p.o O p.d (s.put t (.d .bool want)) (λs'=>reK A (s.put t (.d .bool want)) s' p (zaQ O l (Jk A (s.put t (.d .bool want)) s' p) s' κ kp)) kp else none) else(bif IL A (s.put t (.d .bool (!want))) p then reK A (s.put t (.d .bool (!want))) ((s.put t (.d .bool (!want))).putO p.d (.raw Go.undef)) p (zaQ O l (Jk A (s.put t (.d .bool (!want))) ((s.put t (.d .bool (!want))).putO p.d (.raw Go.undef)) p) ((s.put t (.d .bool (!want))).putO p.d (.raw Go.undef)) κ kp)else none)
   |_=>none)=_
  simp only[YH O l,My,evP,xG]<;>rfl
noncomputable def WO{R:Type}(O:ao)(l:List PO):S->(S->Option R)->(S->Option R)->Option R:=List.rec (motive:=λ_=>S->(S->Option R)->(S->Option R)->Option R) (λs κ _=>κ s) (λp _ a s κ kp=>
 match p.g with
 |none=>ly p.o O p.d s (λs'=>a s' κ kp) kp
 |some (t,want)=>match UU s.fr t with
  |some (.d .bool b)=>bif b
   then(match want with
    |true=>ly p.o O p.d (s.put t (.d .bool true)) (λs'=>a s' κ kp) kp
    |false=>a ((s.put t (.d .bool true)).putO p.d (.raw Go.undef)) κ kp)
   else(match want with
    |true=>a ((s.put t (.d .bool false)).putO p.d (.raw Go.undef)) κ kp
    |false=>ly p.o O p.d (s.put t (.d .bool false)) (λs'=>a s' κ kp) kp)
  |_=>none) l
theorem YG{R:Type}(O:ao):∀(l:List PO) (s:S) (κ kp:S->Option R),WO O l s κ kp=evL O l s κ kp
 |[],_,_,_=>rfl
 |p::l,s,κ,kp=>by
  show(match p.g with
  |none=>ly p.o O p.d s (λs'=>WO O l s' κ kp) kp|some (t,want)=>match UU s.fr t with
   |some (.d .bool b)=>bif b
    then(match want with
     |true=>ly p.o O p.d (s.put t (.d .bool true)) (λs'=>WO O l s' κ kp) kp
     |false=>WO O l ((s.put t (.d .bool true)).putO p.d (.raw Go.undef)) κ kp)
    else(match want with
     |true=>WO O l ((s.put t (.d .bool false)).putO p.d (.raw Go.undef)) κ kp
     |false=>ly p.o O p.d (s.put t (.d .bool false)) (λs'=>WO O l s' κ kp) kp)
   |_=>none)=_
  simp only[YG O l,My,evL,xG]<;>rfl
abbrev CQ:Type 1:=(R:Type)->S->(S->Option R)->(Nat->S->Option R)->(S->Option R)->(S->Option R)->Option R
def zgW:CQ:=λ_ s kn _ _ _=>kn s
noncomputable def zcu(O:ao)(ops:RC):CQ:=λR s kn _ _ kp=>MA O ops R s kn kp
noncomputable def zgT(O:ao)(_:Nat)(ops:RC)(_:List (List Nat)):CQ:=λR s kn _ _ kp=>MA O ops R s kn kp
noncomputable def zfg(O:ao)(r:Nat)(pre:List PO)(tl:RC)(_:List (List Nat)):CQ:=λR s kn _ _ kp=>zaQ O pre [] ⟨s.fr,s.hp++F_ r .free⟩ (λs=>MA O tl R s kn kp) kp
noncomputable def zgV(O:ao)(pre:List PO):CQ:=λ_ s kn _ _ kp=>WO O pre s kn kp
def zgk(_ _:TC)(a b:CQ):CQ:=λR s kn kx kr kp=>a R s (λs=>b R s kn kx kr kp) kx kr kp
noncomputable def Wt(x:X)(_ _:TC)(a b:CQ):CQ:=λR s kn kx kr kp=>match s.getQ x with
 |some (.d .bool t)=>bif t then a R s kn kx kr kp else b R s kn kx kr kp
 |_=>none
def XZ(id:Nat)(_:TC)(a:CQ):CQ:=λR s kn kx kr kp=>a R s kn (λi s=>bif c_ i id then kn s else kx i s) kr kp
def zgU(id:Nat):CQ:=λ_ s _ kx _ _=>kx id s
def zhJ:CQ:=λ_ s _ _ kr _=>kr s
def zgj(l:List Adj)(_:TC)(a:CQ):CQ:=λR s kn kx kr kp=>EY l s λs=>a R s kn kx kr kp
def XY(_:TC)(l:List Adj)(a:CQ):CQ:=λR s kn kx kr kp=>a R s (λs=>EY l s kn) kx kr kp
noncomputable def zct(xs:List (Nat×Sh))(a:TC)(b:CQ):CQ:=λR s kn kx kr kp=>bif xs.all (λx=>okQ x.2 a.msk s)then
 d_ (b (XT xs) s (λs=>MJ xs 0 s) (λi s=>MJ xs (i+3) s) (λs=>MJ xs 1 s) (λs=>MJ xs 2 s))
  (oT s (λkey s=>match key with|0=>kn s|1=>kr s|2=>kp s|i+3=>kx i s) xs)else none
noncomputable def Wu(n:Nat)(sh:Sh)(xs:List (Nat×Sh))(a:TC)(b:CQ):CQ:=λR s kn kx kr kp=>match Qr sh s with
 |some c=>bif okQ sh a.msk s&&xs.all (λx=>okQ x.2 a.msk s)then d_ (aT n (λc=>b (HL sh.sl⊕XT xs) (unpack sh.sl c (sh.baseQ s)) (λs=>match Qr sh s with|some c=>some (.inl c)|none=>none)
  (λi s=>match MJ xs (i+3) s with|some c=>some (.inr c)|none=>none) (λs=>match MJ xs 1 s with|some c=>some (.inr c)|none=>none) (λs=>match MJ xs 2 s with|some c=>some (.inr c)|none=>none)) c)
  (oT s (λkey s=>match key with|0=>kn s|1=>kr s|2=>kp s|i+3=>kx i s) xs)else none
 |none=>none
noncomputable def Em(O:ao)(n:Nat)(c:TC):CQ:=TC.rec (motive:=λ_=>CQ) zgW (zcu O) (zgT O) (zfg O) (zgV O) zgk Wt XZ (Wu n) zgU zhJ zgj XY zct c
theorem X9(O:ao)(n:Nat)(c:TC):∀(R:Type) (s:S) (kn:S->Option R) (kx:Nat->S->Option R) (kr kp:S->Option R),Em O n c R s kn kx kr kp=KH O n R c s kn kx kr kp:=by
 have e:∀a:TC,(∀(R:Type) (s:S) (kn:S->Option R) (kx:Nat->S->Option R) (kr kp:S->Option R),Em O n a R s kn kx kr kp=KH O n R a s kn kx kr kp)->Em O n a=λR s kn kx kr kp=>KH O n R a s kn kx kr kp:=λa h=>by grind
 induction c with|skip=>intro R s kn kx kr kp;rfl|region ops=>intro R s kn kx kr kp;exact R6 O ops R s kn kp|draw k ops af=>intro R s kn kx kr kp;exact R6 O ops R s kn kp|draw2 r pre tl af=>intro R s kn kx kr kp;show zaQ O pre [] _ (λs=>MA O tl R s kn kp) kp=evP O [] pre _ (λs=>K7 O R tl s kn kp) kp;rw[YH];congr 1;funext s';exact R6 O tl R s' kn kp|regL pre=>intro R s kn kx kr kp;exact YG O pre s kn kp|seq a b d f=>intro R s kn kx kr kp;show zgk a b (Em O n a) (Em O n b) R s kn kx kr kp=_;rw[e a d,e b f];rfl|cond x a b d f=>intro R s kn kx kr kp;show Wt x a b (Em O n a) (Em O n b) R s kn kx kr kp=_;rw[e a d,e b f];simp only[Wt,mG,KH]<;>rfl|block id a d=>intro R s kn kx kr kp;show XZ id a (Em O n a) R s kn kx kr kp=_;rw[e a d];rfl|loop sh xs a d=>intro R s kn kx kr kp;show Wu n sh xs a (Em O n a) R s kn kx kr kp=_;rw[e a d];have hd:∀(κ:Nat->S->Option R),oT s κ xs=nG s κ xs:=λκ=>funext λc=>zi s κ xs c;simp only[Wu,KH,zdF λk=>TC.msk_eq k a,M7,LR,Sb,hd]<;>rfl|exit id=>intro R s kn kx kr kp;rfl|ret=>intro R s kn kx kr kp;rfl|adj l a d=>intro R s kn kx kr kp;show zgj l a (Em O n a) R s kn kx kr kp=_;rw[e a d];rfl|after a l d=>intro R s kn kx kr kp;show XY a l (Em O n a) R s kn kx kr kp=_;rw[e a d];rfl|cut xs a d=>intro R s kn kx kr kp;show zct xs a (Em O n a) R s kn kx kr kp=_;rw[e a d];have hd:∀(κ:Nat->S->Option R),oT s κ xs=nG s κ xs:=λκ=>funext λc=>zi s κ xs c;simp only[zct,KH,zdF λk=>TC.msk_eq k a,Sb,hd]<;>rfl
end
noncomputable def zcN(O:ao)(n:Nat)(c:TF)(ars:List V)(os:List Ob):Option (Option S):=
 Em O n c.code (Option S) ⟨f7 0 ars,os⟩ (ME c) (λ_ _=>none) (ME c) (λ_=>some none)
noncomputable def YE(O:ao)(n:Nat)(d:TD)(ars:List V):Option (Option S):=
 Em O n d.a (Option S) ⟨f7 0 ars,[]⟩ (λs=>bif Fs s d.ta 0&&Fs s d.tb 1&&noT s d.t8&&c_ s.hp.length 2 then
  Em O n d.c.code (Option S) s (ME d.c) (λ_ _=>none) (ME d.c) (λs=>bif Fs s d.ta 0&&Fs s d.tb 1 then
   Em O n d.h (Option S) ⟨[(0,.ptr 0 0),(1,.ptr 1 0)],s.hp⟩ (zfp d) (λ_ _=>none) (zfp d) (λ_=>none)else none)else none) (λ_ _=>none) (λ_=>none) (λ_=>none)
noncomputable def zcR(tbl:Nat->Option Fun')(n:Nat):ao:=Nat.rec (motive:=λ_=>ao) (λ_ _ _=>none) (λn a f ars os=>match tbl f with
 |some (.code c)=>bif c_ os.length c.m&&h_ ars.length c.ntmps then zcN a n c ars os else none
 |some (.dfr d)=>bif c_ os.length 0&&h_ ars.length d.c.ntmps then YE a n d ars else none
 |some (.nat g)=>(match os with
  |[]=>(match g ars with
   |some s=>some (some s)
   |none=>none)
  |_=>none)
 |none=>none) n
theorem zcO(O:ao)(n:Nat)(c:TF)(ars:List V)(os:List Ob):zcN O n c ars os=WL O n c ars os:=X9 O n c.code _ _ _ _ _ _
theorem zcQ(O:ao)(n:Nat)(d:TD)(ars:List V):YE O n d ars=zcP O n d ars:=by simp only[YE,zcP,X9]
theorem YF(tbl:Nat->Option Fun'):∀n,zcR tbl n=tj tbl n
 |0=>rfl
 |n+1=>by
  funext f ars os;have a:=YF tbl n;simp only[tj];rw[<-a];show(match tbl f with
  |some (.code c)=>bif c_ os.length c.m&&h_ ars.length c.ntmps then zcN (zcR tbl n) n c ars os else none|some (.dfr d)=>bif c_ os.length 0&&h_ ars.length d.c.ntmps then YE (zcR tbl n) n d ars else none|some (.nat g)=>(match os with
   |[]=>(match g ars with
    |some s=>some (some s)
    |none=>none)
   |_=>none)
  |none=>none)=_
  cases tbl f with
  |none=>rfl|some x=>cases x with
   |code c=>simp only[zcO]
   |dfr d=>simp only[zcQ]
   |nat g=>rfl
theorem zfh{tbl:Nat->Option Fun'}{n f:Nat}{ars:List V}{os:List Ob}{sh:Sh}{c:HL sh.sl}(h:aC (zcR tbl n) f ars os sh=some c):aC (tj tbl n) f ars os sh=some c:=by rw[<-YF];omega
theorem pT{tbl:Nat->Option Fun'}{f:Nat}{ars:List V}{os:List Ob}{sh:Sh}{c:HL sh.sl}{m:Nat}(h:∀k,aC (zcR tbl (k+m)) f ars os sh=some c):∃a,∀n,a<=n->aC (tj tbl n) f ars os sh=some c:=⟨m,λn hn=>by obtain⟨k,rfl⟩:∃k,n=k+m:=⟨n - m,by omega⟩;exact zfh (h k)⟩
inductive LeB:BV->BV->Prop
 |refl (x:BV):LeB x x
 |data (x:BV) (p:PV) (h:x.toPV=some p):LeB x (.pv p)
 |any (x:BV):LeB x (.pv .any)
inductive LeA:AV->AV->Prop
 |refl (x:AV):LeA x x
 |data (x:AV) (p:PV) (h:x.toPV=some p):LeA x (.b (.pv p))
 |any (x:AV):LeA x (.b (.pv .any))
 |agg (xs ys:List BV) (hl:xs.length=ys.length) (h:∀(i:Nat) (x y:BV),xs[i]? =some x->ys[i]? =some y->LeB x y):LeA (.agg xs) (.agg ys)
 |tup (xs ys:List BV) (hl:xs.length=ys.length) (h:∀(i:Nat) (x y:BV),xs[i]? =some x->ys[i]? =some y->LeB x y):LeA (.tup xs) (.tup ys)
inductive LeO:AObj->AObj->Prop
 |refl (x:AObj):LeO x x
 |gone (x:AObj):LeO x .gone
 |box (t:TypeId) (xs ys:List BV) (hl:xs.length=ys.length) (h:∀(i:Nat) (x y:BV),xs[i]? =some x->ys[i]? =some y->LeB x y):LeO (.box t xs) (.box t ys)
section
variable {θ:List Av.Loc} {D:Nat->Prop} {w:World}
theorem LeB.rel{x y:BV}(h:LeB x y){v:Value}(hr:RelB θ D w v x):RelB θ D w v y:=by cases h with|refl=>omega|data p h=>exact rR hr h|any=>exact RelP.any v
theorem Xh{vs:Array Value}{xs ys:List BV}(hl:xs.length=ys.length)(h:∀(i:Nat) (x y:BV),xs[i]? =some x->ys[i]? =some y->LeB x y)(e:vs.size=xs.length)(c:∀(i:Nat) (u:Value) (x:BV),vs[i]? =some u->xs[i]? =some x->RelB θ D w u x): vs.size=ys.length/\∀(i:Nat) (u:Value) (x:BV),vs[i]? =some u->ys[i]? =some x->RelB θ D w u x:=⟨by omega,λi u y d b=>by obtain⟨x,a⟩:=bJ (l:=xs) hl b;exact(h i x y a b).rel (c i u x d a)⟩
theorem LeA.rel{x y:AV}(h:LeA x y){v:Value}(hr:RelA θ D w v x):RelA θ D w v y:=by
 cases h with
 |refl=>omega|data _ p h=>exact dA hr h|any=>exact RelP.any v|agg xs ys hl h=>obtain⟨vs,I,z,C⟩:=hr;obtain⟨E,H⟩:=Xh hl h z C;exact⟨vs,I,E,H⟩
 |tup xs ys hl h=>obtain⟨vs,I,z,C⟩:=hr;obtain⟨E,H⟩:=Xh hl h z C;exact⟨vs,I,E,H⟩
theorem LeO.rel{x y:AObj}(h:LeO x y){l:Av.Loc}(hr:RelO θ D w l x):RelO θ D w l y:=by
 cases h with
 |refl=>omega|gone=>cases l<;>trivial|box t xs ys hl h=>
  cases l<;>simp only[RelO]at hr⊢<;>try exact hr.elim
  obtain⟨E,H,z,C⟩:=hr;obtain⟨I,J⟩:=Xh hl h z C;grind
end
structure LeS(a b:St):Prop where
 fr:∀k y,Av.look b.fr k=some y->∃x,Av.look a.fr k=some x/\LeA x y
 len:a.hp.length=b.hp.length
 hp:∀(i:Nat) (x y:AObj),a.hp[i]? =some x->b.hp[i]? =some y->LeO x y
theorem LeS.weak{m:Nat}{a b:St}(h:LeS a b):Weak m a b:=by
 rintro c ac w _ ⟨θ,D,z⟩;refine⟨θ,D,z.size,z.defers,⟨by rw[z.ok.len,h.len],z.ok.dlt,z.ok.inj,z.ok.olt,λi l o I H=>?_⟩,z.keep,z.dsub,z.dnew,z.onew,λk y J=>?_,z.fix⟩;·obtain⟨x,C⟩:=bJ (l:=a.hp) h.len H;exact(h.hp i x o C H).rel (z.ok.objs i l x I C)
 ·obtain⟨x,C,E⟩:=h.fr k y J;exact E.rel (z.fr k x C)
theorem LeS.frame{fr fr':List (Nat×AV)}{hp:List AObj}(h:∀k y,Av.look fr' k=some y->Av.look fr k=some y):LeS ⟨fr,hp⟩ ⟨fr',hp⟩:=⟨λk y C=>⟨y,h k y C,.refl y⟩,rfl,λi x y E z=>by rw[E]at z;cases z;exact .refl x⟩
def Keeps(A:List Nat)(s s':S):Prop:=∀k,k∉A->(∀v,lk s.fr k=some v->v.isD=true->lk s'.fr k=some v\/lk s'.fr k=none)/\(lk s.fr k=none->lk s'.fr k=none)
theorem MX(g:V->V):∀(fr:List (Nat×V)) (k:Nat),lk (fr.map λx=>(x.1,g x.2)) k=(lk fr k).map g
 |[],_=>rfl
 |(j,v)::fr,k=>by
  simp only[l_,lk];cases c_ k j;·exact MX g fr k
  simp
theorem Keeps.refl(A:List Nat)(s:S):Keeps A s s:=λ_ _=>⟨λ_ h _=>.inl h,id⟩
theorem Keeps.trans{A:List Nat}{a b c:S}(h:Keeps A a b)(k:Keeps A b c):Keeps A a c:=λi z=>by
 refine⟨λv E hd=>?_,λhn=>(k i z).2 ((h i z).2 hn)⟩;rcases(h i z).1 v E hd with C|C;·exact(k i z).1 v C hd
 ·exact .inr ((k i z).2 C)
theorem Keeps.sub{A B:List Nat}{a b:S}(h:Keeps A a b)(hs:∀x∈A,x∈B):Keeps B a b:=λi z=>h i λC=>z (hs i C)
def ji(d:Option Nat):List Nat:=match d with
 |some d=>[d]
 |none=>[]
theorem zfG(s:S)(d:Option Nat)(v:V)(k:Nat)(h:k∉ji d):lk (s.putO d v).fr k=lk s.fr k:=by
 cases d with
 |none=>rfl|some j=>
  have a:k≠j:=λe=>h (by simp[ji,e]);have:c_ k j=false:=by
   cases b:c_ k j;·rfl
   ·exact absurd (a_ b) a
  show(bif c_ k j then some v else lk s.fr k)=_;grind
theorem Keeps.put(s:S)(d:Option Nat)(v:V):Keeps (ji d) s (s.putO d v):=λk z=>by rw[zfG s d v k z];exact⟨λ_ h _=>.inl h,id⟩
theorem Keeps.map(A:List Nat)(s s':S)(g:V->V)(hg:∀v,v.isD=true->rN g v=v)(z:s'.fr=s.fr.map λx=>(x.1,rN g x.2)):Keeps A s s':=λk _=>by
 have:lk s'.fr k=(lk s.fr k).map (rN g):=by rw[z];exact MX (rN g) s.fr k
 grind
theorem Keeps.fr{A:List Nat}{s s':S}(h:s'.fr=s.fr):Keeps A s s':=λk _=>by rw[h];exact⟨λ_ h _=>.inl h,id⟩
section
variable {R:Type} {P:Program} {O:ao} {d:Option Nat} {s:S} {κ kp:S->Option R} {r:R}
def Pu(P:Program)(s:S)(op:SOp)(d:Option Nat)(κ:S->Option R)(r:R):Prop:=∃v,nq P (enc s) op (λy=>y=bg v)/\κ (s.putO d v)=some r
theorem dv{α β:Type}{o:Option α}{f:α->Option β}{b:β}(h:d_ o f=some b):∃a,o=some a/\f a=some b:=by cases o with|none=>grind|some a=>grind
theorem bT{α:Type}{b:Bool}{x:Option α}{a:α}(h:aB b x=some a):b=true/\x=some a:=by
 cases b;·cases h
 ·exact⟨rfl,h⟩
theorem aZ{α:Type}{b:Bool}{x:Option α}{a:α}(h:(bif b then x else none)=some a):b=true/\x=some a:=by
 cases b;·cases h
 ·exact⟨rfl,h⟩
theorem La{α:Type}{xs:List α}{i:Int}{x:α}(h:aM xs i=some x):0<=i/\xs[i.toNat]? =some x:=by unfold aM at h;grind
theorem zgx{x:X}(b:x.wf=true)(h:evOp O d (.mv x) s κ kp=some r):Pu P s (.mv x.er) d κ r:=by
 simp only[evOp]at h;split at h;·rename_i v a;exact⟨v,⟨_,aL b a,rfl⟩,h⟩
 grind
theorem PL(a:List UInt8):(⟨a.toArray⟩:ByteArray).toList=a:=by rw[ByteArray.toList_eq]
theorem G1(a:List UInt8):(⟨a.toArray⟩:ByteArray).size=a.length:=by show a.toArray.size=a.length;simp
theorem zaH(a b:List UInt8):(⟨a.toArray⟩:ByteArray)++(⟨b.toArray⟩:ByteArray)=⟨(a++b).toArray⟩:=by apply ByteArray.ext;simp
theorem Wo{op:BinOp}{k g:IntKind}{a b:Int}{d:V->Option R}(h:zfa op k g a b d=some r):∃v,Rj op (.int k a) (.int g b) (λu=>AV.v u=bg v)/\d v=some r:=by
 cases op<;>simp only[zfa]at h;case shl=>obtain⟨e,c⟩:=bT h;exact⟨_,⟨by grind,rfl⟩,c⟩
 case shr=>obtain⟨e,c⟩:=bT h;exact⟨_,⟨by grind,rfl⟩,c⟩
 case quo=>obtain⟨e,c⟩:=aZ h;obtain⟨j,f⟩:=bT c;exact⟨_,⟨by grind,by grind,rfl⟩,f⟩
 case rem=>obtain⟨e,c⟩:=aZ h;obtain⟨j,f⟩:=bT c;exact⟨_,⟨by grind,by grind,rfl⟩,f⟩
 all_goals (obtain⟨e,c⟩:=aZ h;exact⟨_,⟨by grind,rfl⟩,c⟩)
theorem Wq{op:BinOp}{a b:List UInt8}{c:V->Option R}(h:zfb op a b c=some r):∃v,Rj op (.string ⟨a.toArray⟩) (.string ⟨b.toArray⟩) (λu=>AV.v u=bg v)/\c v=some r:=by
 cases op<;>simp only[zfb]at h;case add=>obtain⟨e,d⟩:=bT h;refine⟨_,⟨by rw[G1,G1];grind,?_⟩,d⟩;rw[zaH];rfl
 all_goals first
  |(cases h;done)
  |exact⟨_,by simp only[Rj,PL];rfl,h⟩
theorem zdT{op:BinOp}{x y:X}(c:x.wf=true/\y.wf=true)(h:evOp O d (.bin op x y) s κ kp=some r):Pu P s (.bin op x.er y.er) d κ r:=by
 simp only[evOp]at h;split at h;·rename_i k a l b g j;obtain⟨v,e,f⟩:=Wo h;exact⟨v,⟨_,aL c.1 g,_,aL c.2 j,_,rfl,_,rfl,e⟩,f⟩
 ·rename_i a b g j;obtain⟨v,e,f⟩:=Wq h;exact⟨v,⟨_,aL c.1 g,_,aL c.2 j,_,rfl,_,rfl,e⟩,f⟩
 grind
theorem zag{c a b:X}(f:c.wf=true/\a.wf=true/\b.wf=true)(h:evOp O d (.pick c a b) s κ kp=some r):Pu P s (.pick c.er a.er b.er) d κ r:=by
 simp only[evOp]at h;split at h
 ·rename_i t x y u z hc g j;split at h
  ·rename_i n l;obtain⟨p,rfl⟩:=cd l;refine⟨_,⟨_,aL f.1 hc,_,rfl,t,rfl,λk=>⟨_,aL f.2.1 g,?_⟩,λk=>⟨_,aL f.2.2 j,?_⟩⟩,h⟩;·grind
   ·subst k;show AV.b (.pv (aR _ z))=AV.b (.pv (aR _ n));grind
  grind
 ·rename_i t x u z hc g j;obtain⟨k,h⟩:t=false/\κ (s.putO d (.d u z))=some r:=by grind
  exact⟨_,⟨_,aL f.1 hc,_,rfl,t,rfl,λe=>(by grind),λ_=>⟨_,aL f.2.2 j,rfl⟩⟩,h⟩
 ·rename_i t u z x hc g j;obtain⟨k,h⟩:t=true/\κ (s.putO d (.d u z))=some r:=by grind
  exact⟨_,⟨_,aL f.1 hc,_,rfl,t,rfl,λ_=>⟨_,aL f.2.1 g,rfl⟩,λe=>(by grind)⟩,h⟩
 grind
theorem zdU{neg:Bool}{x y:X}(c:x.wf=true/\y.wf=true)(h:evOp O d (.eqB neg x y) s κ kp=some r):Pu P s (.eqB neg x.er y.er) d κ r:=by
 simp only[evOp]at h;split at h;·rename_i a b e f;exact⟨_,⟨_,aL c.1 e,_,aL c.2 f,_,rfl,_,rfl,_,rfl,_,rfl,rfl⟩,h⟩
 grind
theorem zgy{op:UnOp}{x:X}(c:x.wf=true)(h:evOp O d (.un op x) s κ kp=some r):Pu P s (.un op x.er) d κ r:=by
 simp only[evOp]at h;split at h;·rename_i a b;exact⟨_,⟨_,aL c b,_,rfl,show _=_ from rfl⟩,h⟩
 ·rename_i k a b;exact⟨_,⟨_,aL c b,_,rfl,show _=_ from rfl⟩,h⟩
 grind
theorem zdY{str:Bool}{x:X}(c:x.wf=true)(h:evOp O d (.len str x) s κ kp=some r):Pu P s (.len str x.er) d κ r:=by
 simp only[evOp]at h;split at h;·rename_i a b;refine⟨_,⟨_,aL c b,_,rfl,_,rfl,?_⟩,h⟩;show AV.v (.int .i64 ((⟨a.toArray⟩:ByteArray).size:Nat))=_;rw[G1];rfl
 ·rename_i t a b;refine⟨_,⟨_,aL c b,.inr (.inl ⟨_,_,rfl,?_⟩)⟩,h⟩;show AV.v (.int .i64 ((a.map _).length:Nat))=_;rw[o_];rfl
 ·rename_i t b;exact⟨_,⟨_,aL c b,.inl ⟨rfl,rfl⟩⟩,h⟩
 ·rename_i id b;split at h;·rename_i e t xs f;refine⟨_,⟨_,aL c b,.inr (.inr (.inl ⟨id,e,_,_,rfl,by rw[ci,f];rfl,?_⟩))⟩,h⟩;show AV.v (.int .i64 ((xs.map _).length:Nat))=_;rw[o_];rfl
  ·rename_i e k t xs hole f;refine⟨_,⟨_,aL c b,.inr (.inr (.inr (.inr ⟨id,e,_,k,_,_,rfl,by rw[ci,f];rfl,?_⟩)))⟩,h⟩;show AV.v (.int .i64 ((xs.map _).length:Nat))=_;rw[o_];rfl
  grind
 grind
theorem zaa{k e:TypeId}{x:X}(n:x.wf=true)(h:evOp O d (.lenM k e x) s κ kp=some r):Pu P s (.lenM k e x.er) d κ r:=by
 simp only[evOp]at h;split at h
 ·rename_i id p;split at h;·rename_i v u a b kvs l;obtain⟨c,j⟩:=aZ h;rw[b_]at c;have f:=a_ c.1;have g:=a_ c.2;subst f;subst g;refine⟨_,⟨_,aL n p,id,_,rfl,by rw[ci,l];rfl,?_⟩,j⟩;show AV.v (.int .i64 ((kvs.map _).length:Nat))=_;rw[o_];rfl
  grind
 grind
theorem iI{o:Option V}{f:Int->Option R}(h:intOf o f=some r):∃k n,o=some (.d (.int k) n)/\f n=some r:=by unfold intOf at h;grind
theorem Z8{x i:X}(e:x.wf=true/\i.wf=true)(h:evOp O d (.idxS x i) s κ kp=some r):Pu P s (.idxS x.er i.er) d κ r:=by
 simp only[evOp]at h;split at h;·rename_i a l;obtain⟨k,n,g,h⟩:=iI h;obtain⟨c,hc,h⟩:=dv h;obtain⟨f,b⟩:=La hc;have j:=(g_.1 b).1;refine⟨_,⟨_,aL e.1 l,_,aL e.2 g,_,rfl,_,rfl,_,_,rfl,_,rfl,f,by rw[G1];omega,?_⟩,h⟩;rw[PL];simp only[S_,b,z_];rfl
 grind
theorem Z4{k:IntKind}{x:X}(a:x.wf=true)(h:evOp O d (.cvtI k x) s κ kp=some r):Pu P s (.cvtI k x.er) d κ r:=by
 simp only[evOp]at h;split at h;·rename_i c n b;exact⟨_,⟨_,aL a b,_,rfl,_,_,rfl,rfl⟩,h⟩
 grind
theorem zdW{x:X}{i:Nat}(b:x.wf=true)(h:evOp O d (.ext x i) s κ kp=some r):Pu P s (.ext x.er i) d κ r:=by
 simp only[evOp]at h;split at h
 ·rename_i vs c;split at h;·rename_i v f;obtain⟨e,a⟩:=aZ h;refine⟨v,⟨_,aL b c,.inr ⟨_,rfl,aX v,by grind,?_⟩⟩,a⟩;cases v<;>first|rfl|grind
  grind
 grind
end
section
variable {R:Type} {P:Program} {O:ao} {d:Option Nat} {s:S} {κ kp:S->Option R} {r:R}
theorem SG{p:PV}{off:Nat}{u:Ty}{y:u.den}(b:((p.cells).drop off).take u.sz=aS u y)(d:off+u.sz<=p.cells.length):p.sub off u.sz u.ag=aR u y:=by
 cases c:u.ag
 ·have hs:=iW c;rw[hs,fw y c]at b;have a:off<p.cells.length:=by omega
  rw[M_ a]at b;simp only[V_,ap_,List.cons.injEq,and_true]at b;simp only[PV.sub,S_,O_ a,z_];omega
 ·simp only[PV.sub];rw[f5 y c,<-b]
theorem H0(l:List PV):(l.map BV.pv).mapM BV.toPV=some l:=by induction l with|nil=>rfl|cons x l a=>rw[l_,k_,a];rfl
theorem Ha{α:Type}(l m:List α)(k n:Nat)(h:l.length=n):(l++m).drop (k+n)=m.drop k:=by rw[<-h,Nat.add_comm,ad_];simp
def zb5(t:Ty)(n:Nat)(m:Int)(c:t.den)(cs:List PV):Prop:=∃k:Nat,m=(k:Int)/\k<n/\(cs.drop (k*t.sz)).take t.sz=aS t c/\k*t.sz+t.sz<=cs.length
theorem Nm{t:Ty}{n:Nat}{m:Int}{c x:t.den}{cs:List PV}{o:Option t.den}(h:(bif decide (m=0)then some x else o)=some c)(hr:o=some c->zb5 t n (m - 1) c cs):zb5 t (n+1) m c (aS t x++cs):=by
 by_cases a:m=0
 ·subst a;simp only[decide_true,cond_true,e_]at h;subst h;refine⟨0,rfl,by simp,?_,?_⟩;·rw[Nat.zero_mul,D_,I_ (by rw[aP];simp),q_ (by rw[aP];simp)]
  ·simp[aP]
 ·simp only[a,decide_false,cond_false]at h;obtain⟨k,f,d,b,e⟩:=hr h;refine⟨k+1,by omega,by omega,?_,?_⟩;·rw[ai_,aw_,Ha _ _ _ _ (aP t x),b]
  ·rw[w_,aP t x,ai_];omega
theorem QB(t:Ty):∀(n:Nat) (v:V) (m:Int) (c:t.den) (cs:List PV),rowAt t n v m=some c->((dP v).map aX).mapM BV.toPV=some cs->zb5 t n m c cs:=by
 intro n;induction n with
 |zero=>intro v m c cs h;simp[rowAt]at h|succ n g=>
  intro v m c cs h hcs;cases v with
  |d u x=>
   cases u with
   |pair a b=>
    simp only[rowAt]at h;have hc:cs=aS a x.1++aS b x.2:=by rw[show dP (V.d (.pair a b) x)=jO (.pair a b) x from rfl,(fa (.pair a b) x).1,H0]at hcs;cases hcs;rfl
    split at h
    ·rename_i y p;obtain⟨r,rfl⟩:=cd p;have:aS a x.1=aS a y:=by grind
     rw[hc,this];exact Nm h λh=>g (.d b x.2) (m - 1) c _ h (by rw[show dP (V.d b x.2)=jO b x.2 from rfl,(fa b x.2).1,H0])
    grind
   |_=>simp[rowAt]at h
  |agg vs=>
   simp only[rowAt]at h;split at h;·rename_i x l k;obtain⟨j,rfl,f⟩:=Dk t vs x l k;rw[show dP (V.agg (j++l))=j++l from rfl,B_,af_,f]at hcs;simp only[W_,p_]at hcs;cases hl:(l.map aX).mapM BV.toPV with|none=>grind|some e=>rw[hl]at hcs;simp only[p_,an_,e_]at hcs;rw[<-hcs];exact Nm h λh=>g (.agg l) (m - 1) c e h hl
   grind
  |_=>simp[rowAt]at h
theorem mapM_len{α β:Type}{f:α->Option β}:∀{l:List α} {m:List β},l.mapM f=some m->m.length=l.length
 |[],m,h=>by grind
 |x::l,m,h=>by rw[k_]at h;cases a:f x with|none=>grind|some y=>cases hl:l.mapM f with|none=>grind|some m'=>rw[a,hl]at h;cases h;simp[mapM_len hl]
theorem Xl(t:Ty):∀(n:Nat) (vs:List V) (m:Int) (c:t.den),rowAt t n (.agg vs) m=some c->∃j:Nat,m=(j:Int)/\j<n/\(((vs.drop (j*t.sz)).take t.sz).map aX).mapM BV.toPV=some (aS t c)/\j*t.sz+t.sz<=vs.length:=by
 intro n;induction n with
 |zero=>intro vs m c h;simp[rowAt]at h|succ n g=>
  intro vs m c h;simp only[rowAt]at h;split at h
  ·rename_i x l f;obtain⟨k,rfl,b⟩:=Dk t vs x l f;have a:k.length=t.sz:=by have:=mapM_len b;rw[aP,o_]at this;omega
   by_cases d:m=0;·grind
   ·simp only[d,decide_false,cond_false]at h;obtain⟨j,s,e,p,r⟩:=g l (m - 1) c h;refine⟨j+1,by omega,by omega,?_,?_⟩;·rw[ai_,aw_,Ha _ _ _ _ a];omega
    grind
  grind
theorem Jz(t:Ty)(cs:List V)(h:t.ag=false->cs≠[]):bg (whole t cs)=sg t.ag (cs.map aX):=by
 unfold whole;cases a:t.ag;·cases cs with|nil=>grind|cons v cs=>cases v<;>rfl
 ·rfl
theorem Dn:∀(vs:List V),vs.all V.cellD=true->∃cs,(vs.map aX).mapM BV.toPV=some cs
 |[],_=>⟨[],rfl⟩
 |v::vs,h=>by
  simp only[r_,b_]at h;obtain⟨cs,hcs⟩:=Dn vs h.2;have:∃p,(aX v).toPV=some p:=by cases v<;>first|exact⟨_,rfl⟩|(have:=h.1;simp[V.cellD]at this)
  obtain⟨p,hp⟩:=this;exact⟨p::cs,by grind⟩
theorem zgP{v:V}{cs:List PV}(h:((dP v).map aX).mapM BV.toPV=some cs)(c:(∃a b x,v= .d (.pair a b) x)\/∃vs,v= .agg vs):∃p,(bg v).toPV=some p/\p.cells=cs/\p.isAgg=true:=by
 rcases c with⟨a,b,x,rfl⟩|⟨vs,rfl⟩;·rw[show dP (V.d (.pair a b) x)=jO (.pair a b) x from rfl,(fa (.pair a b) x).1,H0]at h;cases h;exact⟨_,rfl,rfl,rfl⟩
 ·refine⟨.agg cs,?_,rfl,rfl⟩;show((vs.map aX).mapM BV.toPV).map PV.agg=_;rw[show dP (V.agg vs)=vs from rfl]at h;grind
theorem Xk{t:Ty}{n:Nat}{v:V}{m:Int}{c:t.den}(h:rowAt t n v m=some c):(∃a b x,v= .d (.pair a b) x)\/∃vs,v= .agg vs:=by
 cases n with
 |zero=>simp[rowAt]at h|succ n=>
  cases v with
  |d u x=>cases u with
   |pair a b=>grind
   |_=>simp[rowAt]at h
  |agg vs=>simp|_=>simp[rowAt]at h
theorem Z9{n:Nat}{t:Ty}{x i:X}(A:x.wf=true/\i.wf=true)(h:evOp O d (.idxV n t x i) s κ kp=some r):Pu P s (.idxV n t.sz t.ag x.er i.er) d κ r:=by
 simp only[evOp]at h;split at h
 ·rename_i v C;obtain⟨f,h⟩:=aZ h;rw[b_]at f;obtain⟨k,m,B,h⟩:=iI h;obtain⟨c,hc,e⟩:=dv h;have w:=Xk hc;obtain⟨cs,hcs⟩:∃cs,((dP v).map aX).mapM BV.toPV=some cs:=by
   rcases w with⟨a,b,y,rfl⟩|⟨vs,rfl⟩;·exact⟨_,by rw[show dP (V.d (.pair a b) y)=jO (.pair a b) y from rfl,(fa (.pair a b) y).1,H0]⟩
   ·exact Dn vs f.2
  obtain⟨p,hp,l,g⟩:=zgP hcs w;obtain⟨j,rfl,H,E,F⟩:=QB t n v m c cs hc hcs;have z:cs.length=n*t.sz:=by have:=a_ f.1;have D:=congrArg ah_ l;have I:cs.length=((dP v).map aX).length:=mapM_len hcs;grind
  refine⟨_,⟨_,aL A.1 C,_,aL A.2 B,_,rfl,_,_,rfl,p,hp,by simp,by omega,iW,by grind,g,?_⟩,e⟩;show AV.p (p.sub ((j:Int).toNat*t.sz) t.sz t.ag)=AV.p (aR t c);rw[SG (u:=t) (y:=c)];all_goals grind
 grind
theorem Z6{t:Ty}{x i:X}(b:x.wf=true/\i.wf=true)(h:evOp O d (.idxA t x i) s κ kp=some r):Pu P s (.idxA t.sz x.er i.er) d κ r:=by
 simp only[evOp]at h;split at h
 ·rename_i id p;split at h
  ·rename_i e u xs y;obtain⟨v,g⟩:=aZ h;have z:u=t:=by grind
   obtain⟨k,m,l,j⟩:=iI g;obtain⟨c,hc,w⟩:=dv j;clear h v g j;subst z;obtain⟨f,a⟩:=La hc;have n:=(g_.1 a).1;refine⟨_,⟨_,aL b.1 p,_,aL b.2 l,_,rfl,_,_,rfl,.inr ⟨id,rfl,_,by rw[ci,y];rfl,.inl ⟨e,_,rfl,f,?_,show _=_ from rfl⟩⟩⟩,w⟩;grind
  ·rename_i e kk u xs hole y;obtain⟨v,g⟩:=aZ h;have z:u=t:=by grind
   obtain⟨k,m,l,j⟩:=iI g;obtain⟨c,hc,w⟩:=dv j;clear h v g j;subst z;obtain⟨f,a⟩:=La hc;have n:=(g_.1 a).1;refine⟨_,⟨_,aL b.1 p,_,aL b.2 l,_,rfl,_,_,rfl,.inr ⟨id,rfl,_,by rw[ci,y];rfl,.inr ⟨e,kk,_,_,rfl,f,?_,show _=_ from rfl⟩⟩⟩,w⟩;grind
  grind
 ·rename_i u xs p;split at h
  ·rename_i ys B;obtain⟨A,C⟩:=cd B;obtain⟨k,m,l,h⟩:=iI h;obtain⟨c,hc,h⟩:=dv h;obtain⟨f,a⟩:=La hc;have n:=(g_.1 a).1;refine⟨_,⟨_,aL b.1 p,_,aL b.2 l,_,rfl,_,_,rfl,.inl ⟨ys.map (aR t),?_,f,?_,?_⟩⟩,h⟩;·show AV.p (aR _ _)=_;rw[<-A];rfl
   ·grind
   ·show AV.p (.pto ((ys.map (aR t)).getD m.toNat .any))=_;simp only[S_,u_,a,am_,z_];rfl
  grind
 grind
theorem Z7{n:Nat}{t:Ty}{x i:X}(e:x.wf=true/\i.wf=true)(h:evOp O d (.idxP n t x i) s κ kp=some r):Pu P s (.idxP n t.sz t.ag x.er i.er) d κ r:=by
 simp only[evOp]at h;split at h;·rename_i id off k m g;obtain⟨a,h⟩:=bT h;simp only[b_,decide_eq_true_eq]at a;exact⟨_,⟨_,aL e.1 g,_,aL (s:=s) e.2 rfl,_,rfl,k,_,rfl,a.1,a.2,.inl ⟨id,off,rfl,rfl⟩⟩,h⟩
 ·rename_i id off g w;obtain⟨k,m,l,h⟩:=iI h;obtain⟨a,h⟩:=bT h;simp only[b_,decide_eq_true_eq]at a;exact⟨_,⟨_,aL e.1 g,_,aL e.2 l,_,rfl,k,_,rfl,a.1,a.2,.inl ⟨id,off,rfl,rfl⟩⟩,h⟩
 ·rename_i u y g;obtain⟨a,h⟩:=aZ h;simp only[b_]at a;have hsz:=a_ a.1;obtain⟨k,m,l,h⟩:=iI h;obtain⟨c,hc,f⟩:=dv h;have hcs:((dP (.d u y)).map aX).mapM BV.toPV=some (aS u y):=by rw[show dP (V.d u y)=jO u y from rfl,(fa u y).1,H0]
  obtain⟨j,rfl,z,p,v⟩:=QB t n _ m c _ hc hcs;have b:(aR u y).sub ((j:Int).toNat*t.sz) t.sz t.ag=aR t c:=SG p v;refine⟨_,⟨_,aL e.1 g,_,aL e.2 l,_,rfl,k,_,rfl,by simp,by omega,.inr ⟨aR u y,rfl,?_,iW,?_,?_⟩⟩,f⟩;·show(aS u y).length=_;rw[aP,hsz]
  ·rw[b,sd]
  ·rw[b];rfl
 grind
theorem Z5{off:Nat}{t:Ty}{x:X}(b:x.wf=true)(h:evOp O d (.fldA off t x) s κ kp=some r):Pu P s (.fldA off t.sz t.ag x.er) d κ r:=by
 simp only[evOp]at h;split at h
 ·rename_i u y a;split at h
  ·rename_i z g;obtain⟨e,f,c⟩:=HX g;refine⟨_,⟨_,aL b a,.inl ⟨aR u y,rfl,e,f,?_,?_⟩⟩,h⟩;·rw[c,sd]
   ·rw[c];rfl
  grind
 ·rename_i id o a;exact⟨_,⟨_,aL b a,.inr (.inl ⟨id,o,rfl,rfl⟩)⟩,h⟩
 ·rename_i id i o a;exact⟨_,⟨_,aL b a,.inr (.inr ⟨id,i,o,rfl,rfl⟩)⟩,h⟩
 grind
theorem Jc{α:Type}{l:List α}{n off:Nat}(h:off+n<=l.length)(hn:n=1):(l.drop off).take n≠[]:=by intro e;have:=congrArg ah_ e;grind
theorem zdX{off:Nat}{t:Ty}{x:X}(e:x.wf=true)(h:evOp O d (.fld off t x) s κ kp=some r):Pu P s (.fld off t.sz t.ag x.er) d κ r:=by
 simp only[evOp]at h;split at h
 ·rename_i u y c;obtain⟨k,h⟩:=aZ h;split at h
  ·rename_i z l;obtain⟨a,f,g⟩:=HX l;refine⟨_,⟨_,aL e c,.inl ⟨aR u y,rfl,?_,a,f,?_⟩⟩,h⟩;·rw[sd,k]
   ·rw[g];rfl
  grind
 ·rename_i vs c;obtain⟨a,h⟩:=aZ h;have b:=f_ a;refine⟨_,⟨_,aL e c,.inr ⟨_,rfl,by grind,iW,?_⟩⟩,h⟩;rw[Jz t _ λj=>Jc b (iW j),H_,A_]
 grind
theorem zab{t:Ty}{x:X}(C:x.wf=true)(h:evOp O d (.load t x) s κ kp=some r):Pu P s (.load t.sz t.ag x.er) d κ r:=by
 simp only[evOp,loadT]at h;split at h
 ·rename_i u y g;split at h;·rename_i z D;obtain⟨e1,rfl⟩:=cd D;refine⟨_,⟨_,aL C g,?_⟩,h⟩;show(aR u y).isAgg=_/\_/\AV.p (aR u y)=AV.p (aR u z);exact⟨sd u y,aP u y,by grind⟩
  grind
 ·rename_i id off g;split at h;·rename_i tid cs A;obtain⟨b,h⟩:=aZ h;have H:=f_ b;refine⟨_,⟨_,aL C g,?_⟩,h⟩;show aU _ _;refine⟨_,by rw[ci,A];rfl,tid,_,rfl,by grind,iW,.inl ?_⟩;rw[Jz t _ λht=>Jc H (iW ht),H_,A_]
  grind
 ·rename_i id off n u m g;split at h
  ·rename_i tid cs A;obtain⟨b,h⟩:=aZ h;simp only[b_,decide_eq_true_eq]at b;obtain⟨b,rfl⟩:=b;have H:=f_ b;obtain⟨c,hc,F⟩:=dv h;obtain⟨j,rfl,hj,a,_⟩:=Xl u n _ m c hc;have gc:j*u.sz+u.sz<=n*u.sz:=by grind
   have T:((((cs.drop off).take (n*u.sz)).drop (j*u.sz)).take u.sz)=(cs.drop (off+j*u.sz)).take u.sz:=by rw[List.drop_take,List.take_take,ao_];grind
   rw[T]at a;generalize U:(cs.drop (off+j*u.sz)).take u.sz=l0 at a;refine⟨_,⟨_,aL C g,?_⟩,F⟩;show aU _ _;refine⟨_,by rw[ci,A];rfl,tid,_,rfl,?_,iW,.inr ⟨aR u c,?_,rfl⟩⟩;·grind
   ·show(sg u.ag (((cs.map aX).drop (off+(j:Int).toNat*u.sz)).take u.sz)).toPV=_;rw[<-A_,<-H_,Int.toNat_natCast,U];cases hu:u.ag
    ·rw[fw c hu]at a
     match l0,a with
     |[v],a=>simp only[l_,aa_,k_,X_]at a;cases hv:(aX v).toPV with|none=>grind|some p=>rw[hv]at a;cases a;exact hv
     |[],a=>grind|v::w::l,a=>have:=mapM_len a;grind
    ·show(((l0.map aX).mapM BV.toPV).map PV.agg)=_;rw[a,f5 c hu];rfl
  grind
 ·rename_i id i off g;split at h
  ·rename_i e u xs A;obtain⟨Y,h⟩:=aZ h;obtain⟨y,L,h⟩:=dv h;split at h
   ·rename_i z D;obtain⟨b,E,B⟩:=HX D;have I:=(g_.1 L).1;have f:(xs.map (aR u)).getD i .any=aR u y:=by grind
    refine⟨_,⟨_,aL C g,?_⟩,h⟩;show aU _ _;refine⟨_,by rw[ci,A];rfl,.inl ⟨e,u.sz,_,rfl,by grind,by have:=b;rw[show(aR u y).cells.length=u.sz from aP u y]at this;omega,iW,?_⟩⟩;by_cases hs:t.sz=u.sz
    ·obtain⟨g1,g2⟩:=vP u off t y z D;have J:off=0:=by omega
     subst J;have Q:c_ t.sz u.sz=true:=by rw[hs];simp
     rw[Q]at Y;have el:u=t:=by grind
     subst el;have ph:aR u z=aR u y:=by rw[<-B];refine SG ?_ (by omega);rw[D_,q_ (by rw[aP];simp)]
     refine .inl ⟨rfl,rfl,?_,?_⟩;·rw[f,sd]
     ·rw[f];show AV.p (aR u y)=AV.p (aR u z);grind
    ·refine .inr ⟨hs,?_⟩;rw[f,B];rfl
   grind
  ·rename_i e k u xs hole A;cases R:k.flatB off t.sz
   ·rw[R]at h;simp only[cond_false]at h;split at h
    ·rename_i hi hj v;obtain⟨b,M⟩:=aZ h;simp only[b_,x_]at b;obtain⟨⟨⟨b,E⟩,h5⟩,B⟩:=b;obtain⟨y,L,N⟩:=dv M;obtain⟨h4,hb⟩:=bT N;have e1:=a_ b;have e2:=a_ h4;have h6:=f_ h5;clear h b h4 h5;subst e1;subst e2;have I:=(g_.1 L).1;split at B;·refine⟨_,⟨_,aL C g,?_⟩,hb⟩;show aU _ _;refine⟨_,by rw[ci,A];rfl,.inr ⟨e,u.sz,k,_,_,rfl,by grind,?_,iW,.inr ⟨_,rfl,iW E,E,rfl⟩⟩⟩;rw[iW E];omega
     grind
    grind
   ·rw[R]at h;simp only[cond_true]at h;obtain⟨y,L,h⟩:=dv h;split at h
    ·rename_i z D;obtain⟨b,E,B⟩:=HX D;have I:=(g_.1 L).1;have f:(xs.map (aR u)).getD i .any=aR u y:=by grind
     refine⟨_,⟨_,aL C g,?_⟩,h⟩;show aU _ _;refine⟨_,by rw[ci,A];rfl,.inr ⟨e,u.sz,k,_,_,rfl,by grind,by have:=b;rw[show(aR u y).cells.length=u.sz from aP u y]at this;omega,iW,.inl ⟨R,?_⟩⟩⟩;rw[f,B];rfl
    grind
  grind
 grind
end
section
variable {R:Type} {P:Program} {O:ao} {d:Option Nat} {s:S} {κ kp:S->Option R} {r:R}
theorem jI{x:Option X}{a:Nat}{f:Nat->Option R}(e:oWf x=true)(h:E4 s x a f=some r):∃n,f n=some r/\∀(K:Nat->Prop),K n->bnd (enc s) (W3 x) a K:=by cases x with|none=>exact⟨a,h,λK b=>b⟩|some x=>simp only[E4]at h;obtain⟨k,n,g,c⟩:=iI h;obtain⟨j,d⟩:=bT c;exact⟨n.toNat,d,λK b=>⟨_,aL e g,_,rfl,k,n,rfl,by grind,b⟩⟩
theorem qo{t:Ty}{o:Option V}{f:List t.den->Option R}(h:xF s.hp t o f=some r):∃v xs,o=some v/\f xs=some r/\(∀(K:List PV->Prop),K (xs.map (aR t))->tF (enc s).hp t.sz (bg v) K):=by
 unfold xF at h;split at h
 ·rename_i id;split at h
  ·rename_i e u xs n;split at h;·rename_i ys p;obtain⟨a,g⟩:=cj p;have j:=Ty.list.inj a;subst j;have k:ys=xs:=g;subst k;exact⟨_,ys,rfl,h,λK b=>.inr (.inr (.inl ⟨id,e,_,rfl,by rw[ci,n];rfl,b⟩))⟩
   grind
  grind
 ·rename_i v l;split at h
  ·rename_i xs c;refine⟨v,xs,rfl,h,λK b=>?_⟩;cases v<;>simp only[mh]at c<;>try cases c
   ·obtain⟨d,_⟩:=cd c;exact .inr (.inl ⟨_,by show AV.p _=_;rw[<-d];rfl,b⟩)
   ·obtain⟨a,rfl⟩:=cj c;cases a;exact .inl ⟨rfl,b⟩
   ·rename_i u y;obtain⟨a,rfl⟩:=cj c;cases a;exact .inr (.inr (.inr ⟨_,rfl,b⟩))
  grind
 grind
theorem za1{t:Ty}{v:V}{f:List t.den->Option R}(c:∀id,v≠.sl id)(h:xF s.hp t (some v) f=some r):∃xs,f xs=some r/\(bg v).toPV=some (rM t.sz (xs.map (aR t))):=by
 unfold xF at h;split at h;·grind
 ·rename_i d _ a;cases a;split at h;·rename_i xs b;exact⟨xs,h,by rw[Qf b];exact sJ b⟩
  grind
 grind
theorem Y0{t:Ty}(xs:List t.den)(l h:Nat):((xs.map (aR t)).take h).drop l=((xs.take h).drop l).map (aR t):=by rw[A_,H_]
theorem zdZ{full:Bool}{t:Ty}{x:X}{lo j mx:Option X}(c:x.wf=true/\oWf lo=true/\oWf j=true/\oWf mx=true)(h:evOp O d (.slc full t x lo j mx) s κ kp=some r):Pu P s (.slc t.sz x.er (W3 lo) (W3 j) (W3 mx)) d κ r:=by
 simp only[evOp]at h;have b:(!(mx.isSome&& !j.isSome))=true->(W3 mx).isSome=true->(W3 j).isSome=true:=by intro B L;cases mx<;>cases j<;>simp_all[W3]
 split at h
 ·rename_i id p;split at h;·rename_i e k u xs g M;obtain⟨B,C⟩:=aZ h;simp only[b_,x_]at B;obtain⟨l,D,hl⟩:=jI c.2.1 C;obtain⟨n,E,z⟩:=jI c.2.2.1 D;obtain⟨m,F,A⟩:=jI c.2.2.2 E;obtain⟨H,I⟩:=aZ F;obtain⟨a,w⟩:=bT I;obtain⟨y,f⟩:=bT w;simp only[b_,decide_eq_true_eq]at a;refine⟨_,⟨_,aL c.1 p,.inr ⟨id,rfl,_,by rw[ci,M];rfl,e,k,xs.map (aR u),_,by rw[<-a_ B.1];rfl,hl _ ?_⟩⟩,f⟩;rw[o_];exact z _ (A _ ⟨b H,a.1.1,a.1.2,a.2,a_ y,rfl⟩)
  grind
 ·rename_i J;cases p:s.get x with
  |none=>rw[p]at h;cases h|some v=>
   rw[p]at h;obtain⟨xs,C,hp⟩:=za1 (λid e=>J id (by grind)) h;obtain⟨l,D,hl⟩:=jI c.2.1 C;obtain⟨n,E,z⟩:=jI c.2.2.1 D;obtain⟨m,F,A⟩:=jI c.2.2.2 E;obtain⟨H,I⟩:=aZ F;obtain⟨a,w⟩:=bT I;simp only[b_,decide_eq_true_eq]at a;have b:=b H;cases full with
   |false=>refine⟨_,⟨_,aL c.1 p,.inl ⟨_,hp,_,rfl,hl _ ?_⟩⟩,w⟩;rw[o_];refine z _ (A _ ⟨b,a.1.1,a.1.2,a.2,.inl ?_⟩);rw[Y0];rfl|true=>
    obtain⟨y,f⟩:=bT w;simp only[b_,decide_eq_true_eq]at y;refine⟨_,⟨_,aL c.1 p,.inl ⟨_,hp,_,rfl,hl _ ?_⟩⟩,f⟩;rw[o_];refine z _ (A _ ⟨b,a.1.1,a.1.2,a.2,.inr ⟨?_,y.2,?_⟩⟩);·cases mx<;>simp_all[W3]
    ·rw[Y0];rfl
theorem Wl(a:List UInt8)(l h:Nat):(⟨a.toArray⟩:ByteArray).extract l h=⟨((a.take h).drop l).toArray⟩:=by apply ByteArray.ext;rw[ByteArray.data_extract];grind
theorem zah{x:X}{lo c:Option X}(e:x.wf=true/\oWf lo=true/\oWf c=true)(h:evOp O d (.slcS x lo c) s κ kp=some r):Pu P s (.slcS x.er (W3 lo) (W3 c)) d κ r:=by
 simp only[evOp]at h;split at h;·rename_i a p;obtain⟨l,f,hl⟩:=jI e.2.1 h;obtain⟨n,g,k⟩:=jI e.2.2 f;obtain⟨b,j⟩:=bT g;simp only[b_,decide_eq_true_eq]at b;refine⟨_,⟨_,aL e.1 p,_,rfl,_,rfl,hl _ ?_⟩,j⟩;rw[G1];refine k _ ⟨b.1,b.2,?_⟩;rw[Wl];rfl
 grind
theorem zae{x:X}(a:x.wf=true)(h:evOp O d (.nilc x) s κ kp=some r):Pu P s (.nilc x.er) d κ r:=by
 simp only[evOp]at h;split at h
 ·rename_i v b;split at h;·exact⟨_,⟨_,aL a b,.inl ⟨_,rfl⟩,rfl⟩,h⟩
  ·exact⟨_,⟨_,aL a b,.inr (.inl ⟨_,_,rfl⟩),rfl⟩,h⟩
  ·exact⟨_,⟨_,aL a b,.inr (.inl ⟨_,_,rfl⟩),rfl⟩,h⟩
  ·exact⟨_,⟨_,aL a b,.inr (.inr (.inl ⟨_,_,_,rfl⟩)),rfl⟩,h⟩
  ·exact⟨_,⟨_,aL a b,.inr (.inr (.inr (.inr ⟨_,_,rfl⟩))),rfl⟩,h⟩
  ·exact⟨_,⟨_,aL a b,.inr (.inr (.inr (.inl ⟨_,_,rfl⟩))),rfl⟩,h⟩
  grind
 grind
theorem Aa{v:V}(h:v.okB=true):(bg v).ok=true/\(dP v).map aX=(bg v).cells:=by
 have g:∀vs,v≠.tup vs:=λvs e=>by subst e;cases h
 refine⟨?_,Ww v g⟩;have hc:∀u:V,u.cellB=true->(aX u).cellOk=true:=by
  intro u b;cases u<;>simp only[V.cellB]at b<;>try cases b
  ·rename_i t x;have c:t.ag=false:=by grind
   have:=HP t x;rw[fw x c]at this;have a:(aR t x).cellOk=true:=by grind
   exact a
  all_goals first
   |rfl
   |skip
  rename_i v;show(bV v).cellOk=true;unfold bV;split;·rfl
  ·exact b
 cases v with
 |d t x=>show((AV.b (.pv (aR t x))).cells.all BV.cellOk)=true;show((aS t x).map BV.pv).all BV.cellOk=true;rw[ar_];exact HP t x|agg vs=>show(vs.map aX).all BV.cellOk=true;rw[ar_];simp only[V.okB,m_]at h⊢;grind|tup vs=>grind|raw v=>
  show(AV.b (bV v)).cells.all BV.cellOk=true;have j:=hc (.raw v) h;show(AV.b (bV v)).cells.all BV.cellOk=true;unfold bV;split;·rfl
  ·have a:v.oneCell'=true:=h;show([PV.sc v].map BV.pv).all BV.cellOk=true;simp[BV.cellOk,PV.cellOk,a]
 |full t x=>rfl|nil t=>rfl|sl id=>rfl|ptr id o=>rfl|elt id i o=>rfl|dp t x=>rfl|clo f ids=>rfl|fnD f cs=>rfl|mp id=>rfl|pel id off n t i=>rfl|any=>cases h|lit k t x=>cases h|ifc=>rfl
theorem X3{t:Ty}{v:V}{x:t.den}(h:eF t v=some x):v.okB=true:=by
 have hl:∀(u:Ty) (v:V) (y:u.den),u.ag=false->mh u v=some y->v.cellB=true:=by
  intro u v y s h;cases v<;>simp only[mh]at h<;>try cases h
  ·obtain⟨_,rfl⟩:=cd h;simp[V.cellB,s]
  ·rfl
  ·rfl
 have r:∀(t:Ty) (l:List V) (x:t.den) (m:List V),XU t l=some (x,m)->∃f,l=f++m/\f.all V.cellB=true:=by
  intro t;have one:∀(t:Ty) (l:List V) (x:t.den) (m:List V),t.ag=false->(match l with
   |v::l=>match mh t v with
    |some x=>some (x,l)
    |none=>none
   |[]=>none)=some (x,m)->∃f,l=f++m/\f.all V.cellB=true:=by
   intro t l x m E h
   split at h
   ·rename_i v l';split at h;·rename_i y g;simp only[e_,T_.injEq]at h;obtain⟨_,rfl⟩:=h;exact⟨[v],rfl,by grind⟩
    grind
   grind
  induction t with
  |unit=>intro l x m h;simp only[XU,e_,T_.injEq]at h;obtain⟨_,rfl⟩:=h;simp
  |pair a b w z=>intro l x m h;simp only[XU]at h;grind|rx=>
   intro l x m h;unfold XU at h;split at h
   ·rename_i a b c e l';split at h;·rename_i A B C D g j n p;simp only[e_,T_.injEq]at h;obtain⟨_,rfl⟩:=h;refine⟨[a,b,c,e],rfl,?_⟩;simp[hl _ a _ rfl g,hl _ b _ rfl j,hl _ c _ rfl n,hl _ e _ rfl p]
    grind
   grind
  |int k=>intro l x m h;exact one (.int k) l x m rfl h|bool=>intro l x m h;exact one .bool l x m rfl h|str=>intro l x m h;exact one .str l x m rfl h|list t _=>intro l x m h;exact one (.list t) l x m rfl h
 cases v with
 |agg vs=>
  simp only[eF]at h;split at h
  ·split at h;·rename_i y g;obtain⟨f,rfl,j⟩:=r t _ _ _ g;rw[aj_];exact j
   grind
  grind
 |d t x=>rfl|nil t=>rfl|full t x=>rfl|_=>simp[eF,mh]at h
theorem Z2{tid:TypeId}{t:Ty}{x:X}(c:x.wf=true)(h:evOp O d (.boxD tid t x) s κ kp=some r):Pu P s (.boxD tid x.er) d κ r:=by
 simp only[evOp]at h;split at h;·grind
 ·rename_i v b f;split at h
  ·rename_i y a;refine⟨_,⟨_,aL c f,_,fZ a,(Aa (X3 a)).1,λq e=>?_,rfl⟩,h⟩;cases v<;>try cases e
   ·grind
   ·rename_i v;simp[eF,mh]at a
  grind
 grind
theorem Vp{tid:TypeId}{x:X}(a:x.wf=true)(h:evOp O d (.iface tid x) s κ kp=some r):Pu P s (.iface tid x.er) d κ r:=by
 simp only[evOp]at h;split at h;·rename_i v b;exact⟨_,⟨_,aL a b,rfl⟩,h⟩
 grind
end
section
variable {R:Type} {P:Program} {O:ao} {d:Option Nat} {s:S} {κ kp:S->Option R} {r:R}
theorem w9(cs:List V)(off:Nat)(vs:List V):(mN cs off vs).map aX=splice (cs.map aX) off (vs.map aX):=by simp[mN,splice,H_,A_]
theorem G3:∀(parts:List (Nat×Nat×X)) (cs:List V) (f:List V->Option R),parts.all (λq=>q.2.2.wf)=true->evOp.buildT s cs parts f=some r->
 ∃c b,((parts.map λq=>(q.1,q.2.1,q.2.2.er)).mapM λq=>((enc s).get q.2.2).map λa=>(q.1,q.2.1,a))=some c/\(∀q∈c,q.2.2.ok=true/\q.2.2.cells.length=q.2.1/\q.1+q.2.1<=cs.length)/\b.map aX=c.foldl (λcs q=>splice cs q.1 q.2.2.cells) (cs.map aX)/\f b=some r
 |[],cs,f,_,h=>⟨[],cs,rfl,λq u=>(by grind),rfl,h⟩
 |(off,sz,x)::l,cs,f,e,h=>by
  simp only[r_,b_]at e;simp only[evOp.buildT]at h;split at h
  ·rename_i v w;obtain⟨d,n⟩:=aZ h;simp only[b_]at d;have hsz:=a_ d.1.1;have p:=f_ d.1.2;obtain⟨A,y⟩:=Aa d.2;obtain⟨c,b,g,z,j,k⟩:=G3 l _ f e.2 n;have hl:(mN cs off (dP v)).length=cs.length:=by simp only[mN,w_,List.length_take,ae_];omega
   refine⟨(off,sz,bg v)::c,b,?_,λq u=>?_,?_,k⟩;·rw[l_,k_];simp only[aL e.1 w,g];rfl
   ·grind
   ·rw[j,w9,y];rfl
  grind
theorem Vn{zero:List V}{parts:List (Nat×Nat×X)}(a:zero.all V.konst=true/\parts.all (λq=>q.2.2.wf)=true)(h:evOp O d (.build zero parts) s κ kp=some r): Pu P s (.build (zero.map H9) (parts.map λq=>(q.1,q.2.1,q.2.2.er))) d κ r:=by
 simp only[evOp]at h;obtain⟨k,b,c,l,e,f⟩:=G3 parts zero _ a.2 h;have j:(zero.map H9).map (λv=>bV v)=zero.map aX:=by rw[i_];exact j_ λv g=>Dy (m_.1 a.1 v g)
 refine⟨_,⟨k,c,λq n=>by grind,?_⟩,f⟩;rw[j,<-e];rfl
theorem sL{t:Ty}:∀(parts:List X) (f:List t.den->Option R),parts.all X.wf=true->evOp.listT s t parts f=some r->∃xs:List t.den,(parts.map X.er).mapM (λx=>((enc s).get x).bind AV.toPV)=some (xs.map (aR t))/\xs.length=parts.length/\f xs=some r
 |[],f,_,h=>⟨[],rfl,rfl,h⟩
 |x::l,f,a,h=>by
  simp only[r_,b_]at a;simp only[evOp.listT]at h;split at h
  ·rename_i v d;split at h;·rename_i y e;obtain⟨xs,b,g,c⟩:=sL l _ a.2 h;refine⟨y::xs,?_,by grind,c⟩;rw[l_,k_,b];simp only[aL a.1 d,p_,fZ e];rfl
   grind
  grind
theorem nH{t:Ty}(xs:List t.den):∀p∈xs.map (aR t),p.cells.length=t.sz/\p.ok=true:=λp hp=>by obtain⟨x,_,rfl⟩:=s_.1 hp;exact⟨aP t x,F5 t x⟩
theorem Qu{tid:TypeId}{t:Ty}{len:Nat}{parts:List X}(g:parts.all X.wf=true)(h:evOp O d (.bslice false tid t len parts) s κ kp=some r):Pu P s (.bslice false tid t.sz len (parts.map X.er)) d κ r:=by simp only[evOp]at h;obtain⟨a,b⟩:=aZ h;simp only[b_]at a;obtain⟨xs,c,e,f⟩:=sL parts _ g b;refine⟨_,⟨_,c,?_,f_ a.1.2,f_ a.2,nH xs,.inl rfl⟩,f⟩;rw[o_,e];exact a_ a.1.1
theorem U6{k:Av.K}:∀(vs:List V) (a:List PV) (n:Nat),(vs.map aX).mapM BV.toPV=some a->(∀j,j<vs.length->(vs.getD j .any).isNil=(k.at (n+j)).isSome/\(vs.getD j .any).isRaw=false)->
 (vs.map aX).mapM BV.toPVn=some ((a.zipIdx n).map fun(y,j)=>if(k.at j).isSome then nilP else y)
 |[],a,n,h,_=>by simp at h;subst h;rfl
 |v::vs,a,n,h,f=>by
  simp only[l_,k_,W_,an_,Option.bind_eq_some_iff,e_]at h;obtain⟨p,c,b,g,rfl⟩:=h;have l:=U6 vs b (n+1) g λj r=>by have:=f (j+1) (by grind);simpa[show n+(j+1)=n+1+j by omega]using this
  obtain⟨d,e⟩:=f 0 (by simp);simp only[List.getD_cons_zero,au_]at d e;rw[l_,k_,l];have:(aX v).toPVn=some (if(k.at n).isSome then nilP else p):=by
   rw[<-d];cases v with
   |nil u=>rfl|raw u=>cases e|_=>first
    |exact c
    |cases c
  rw[this];rfl
theorem za7{k:Av.K}{t:Ty}{v:V}{y:t.den}(hd:eF t v=some y)(hn:zdt k v=true):(bg v).toPVn=some (dM k t y):=by
 simp only[zdt,b_,m_,List.mem_range,beq_iff_eq,x_]at hn;obtain⟨h,c⟩:=hn;have e:=fZ hd;cases v with
 |nil u=>
  have a:=(c 0 (by simp[dP])).1;have d:(k.at 0).isSome=true:=by rw[<-a];rfl
  have l:aR t y= .list 0 []:=by have:(bg (.nil u)).toPV=some (.list 0 []):=rfl;grind
  show some nilP=some (dM k t y);unfold dM;grind
 |agg vs=>
  have b:((vs.map aX).mapM BV.toPV).map PV.agg=some (aR t y):=e;obtain⟨g,a,d⟩:=n_.1 b;show((vs.map aX).mapM BV.toPVn).map PV.agg=_;rw[U6 (k:=k) vs g 0 a λj f=>by have:=c j f;rw[ac_];exact this]
  simp only[am_,dM,<-d,List.mapIdx_eq_zipIdx_map]
 |_=>grind
theorem JV{k:Av.K}{t:Ty}:∀(parts:List X) (f:List t.den->Option R),parts.all X.wf=true->evOp.listN s k t parts f=some r->∃xs:List t.den,(parts.map X.er).mapM (λx=>((enc s).get x).bind AV.toPVn)=some (xs.map (dM k t))/\xs.length=parts.length/\f xs=some r
 |[],f,_,h=>⟨[],rfl,rfl,h⟩
 |x::l,f,a,h=>by
  simp only[r_,b_]at a;simp only[evOp.listN]at h;split at h
  ·rename_i v d;split at h;·rename_i y e;obtain⟨hn,h⟩:=aZ h;obtain⟨xs,b,g,c⟩:=JV l _ a.2 h;refine⟨y::xs,?_,by grind,c⟩;rw[l_,k_,b];simp only[aL a.1 d,p_,za7 e hn];rfl
   grind
  grind
theorem Mv(k:Av.K)(t:Ty)(x:t.den):(dM k t x).cells=(aR t x).cells.mapIdx λj y=>if(k.at j).isSome then nilP else y:=by unfold dM;cases h:aR t x with|agg cs=>rfl|_=>show(if(k.at 0).isSome then nilP else _).cells=[if(k.at 0).isSome then nilP else _];split<;>rfl
theorem PY{k:Av.K}{t:Ty}(xs:List t.den):∀p∈xs.map (dM k t),p.cells.length=t.sz/\p.ok=true:=λp hp=>by
 obtain⟨x,_,rfl⟩:=s_.1 hp;have hc:=Mv k t x;refine⟨by rw[hc];simp[show(aR t x).cells.length=t.sz from aP t x],?_⟩;show(dM k t x).cells.all PV.cellOk=true;rw[hc];have:=F5 t x;simp only[PV.ok,m_]at this⊢;intro y a;rw[List.mem_mapIdx]at a;obtain⟨i,b,rfl⟩:=a;split;·rfl
 grind
theorem Nb{tid:TypeId}{k:Av.K}{t:Ty}{len:Nat}{parts:List X}(g:parts.all X.wf=true)(h:evOp O d (.bsliceN tid k t len parts) s κ kp=some r):Pu P s (.bsliceN tid t.sz len (parts.map X.er)) d κ r:=by simp only[evOp]at h;obtain⟨a,b⟩:=aZ h;simp only[b_]at a;obtain⟨xs,c,e,f⟩:=JV parts _ g b;refine⟨_,⟨_,c,?_,f_ a.1.2,f_ a.2,PY xs,rfl⟩,f⟩;rw[o_,e];exact a_ a.1.1
theorem Na{tid:TypeId}{t:Ty}{len:Nat}{parts:List X}(g:parts.all X.wf=true)(h:evOp O d (.bsliceF tid t len parts) s κ kp=some r):Pu P s (.bslice false tid t.sz len (parts.map X.er)) d κ r:=by simp only[evOp]at h;obtain⟨a,b⟩:=aZ h;simp only[b_]at a;obtain⟨xs,c,e,f⟩:=sL parts _ g b;refine⟨_,⟨_,c,?_,f_ a.1.2,f_ a.2,nH xs,.inr rfl⟩,f⟩;rw[o_,e];exact a_ a.1.1
theorem Z1{tid:TypeId}{t:Ty}{bytes:Nat}{x y:X}(b:x.wf=true/\y.wf=true)(h:evOp O d (.appD tid t bytes x y) s κ kp=some r):Pu P s (.appD tid t.sz bytes x.er y.er) d κ r:=by
 simp only[evOp]at h;obtain⟨z,ys,g,a,f⟩:=qo h;split at a;·rename_i u e;obtain⟨v,c⟩:=bT a;refine⟨.d (.list t) ys,⟨_,aL b.1 e,_,aL b.2 g,f _ ⟨λp hp=>(nH ys p hp).2,[],.inl ⟨rfl,rfl⟩,by grind,rfl⟩⟩,c⟩
 ·rename_i u xs e;split at a;·rename_i zs w;obtain⟨j,k⟩:=cj w;have l:=Ty.list.inj j;subst l;have n:zs=xs:=k;subst n;obtain⟨v,c⟩:=bT a;refine⟨.d (.list u) (zs++ys),⟨_,aL b.1 e,_,aL b.2 g,f _ ⟨λp hp=>(nH ys p hp).2,zs.map (aR u),.inr rfl,by grind,?_⟩⟩,c⟩;show AV.p _=AV.p _;rw[<-B_];rfl
  grind
 grind
theorem zdS{x:X}(c:x.wf=true)(h:evOp O d (.b2s x) s κ kp=some r):Pu P s (.b2s x.er) d κ r:=by
 simp only[evOp]at h;obtain⟨v,xs,e,b,hl⟩:=qo h;have a:∀l:List Int,bytesOf (l.map (aR (.int .u8)))=some l:=by intro l;induction l with|nil=>rfl|cons x l f=>show(bytesOf (l.map (aR (.int .u8)))).map (x::·)=_;grind
 refine⟨_,⟨_,aL c e,hl _ ⟨_,a xs,?_⟩⟩,b⟩;rfl
theorem G5:∀(caps:List X) (ids:List Nat),caps.all X.wf=true->evOp.capsOf s caps=some ids->(caps.map X.er).mapM (enc s).get=some (ids.map λi=>.b (.ptr i 0))
 |[],ids,_,h=>by cases h;rfl
 |x::l,ids,a,h=>by
  simp only[r_,b_]at a;simp only[evOp.capsOf]at h;split at h
  ·rename_i i b;split at h;·rename_i c hl;cases h;rw[l_,k_,aL a.1 b,G5 l c a.2 hl];rfl
   grind
  grind
theorem JN:∀(caps:List X) (cs:List ((t:Ty)×t.den)),caps.all X.wf=true->evOp.capsD s caps=some cs->(caps.map X.er).mapM (enc s).get=some ((cs.map λc=>PV.pto (aR c.1 c.2)).map .p)
 |[],ids,_,h=>by cases h;rfl
 |x::l,ids,a,h=>by
  simp only[r_,b_]at a;simp only[evOp.capsD]at h;split at h
  ·rename_i i b;split at h;·rename_i d hl;cases h;rw[l_,k_,aL a.1 b,JN l d a.2 hl];rfl
   grind
  grind
theorem zac{f:FuncId}{caps:List X}(b:caps.all X.wf=true)(h:evOp O d (.mkfn f caps) s κ kp=some r):Pu P s (.mkfn f (caps.map X.er)) d κ r:=by
 simp only[evOp]at h;split at h;·rename_i ids a;exact⟨_,⟨_,G5 caps ids b a,.inl ⟨ids,rfl,rfl⟩⟩,h⟩
 ·split at h;·rename_i cs hcs;exact⟨_,⟨_,JN caps cs b hcs,.inr ⟨_,rfl,rfl⟩⟩,h⟩
  grind
theorem HJ{k:IntKind}:∀(ys:List X) (f:List Int->Option R),ys.all X.wf=true->evOp.intsOf s k ys f=some r->∃a:List Int,(ys.map X.er).mapM (enc s).get=some (a.map λn=>.v (.int k n))/\f a=some r
 |[],f,_,h=>⟨[],rfl,h⟩
 |x::l,f,b,h=>by
  simp only[r_,b_]at b;simp only[evOp.intsOf]at h;split at h
  ·rename_i p n j;obtain⟨u,c⟩:=aZ h;have g:p=k:=by grind
   subst g;obtain⟨a,d,e⟩:=HJ l _ b.2 c;refine⟨n::a,?_,e⟩;rw[l_,k_,aL b.1 j,d];rfl
  grind
theorem zad{mx:Bool}{k:IntKind}{x:X}{ys:List X}(c:x.wf=true/\ys.all X.wf=true)(h:evOp O d (.mnmx mx k x ys) s κ kp=some r):Pu P s (.mnmx mx k x.er (ys.map X.er)) d κ r:=by
 simp only[evOp]at h;split at h
 ·rename_i p n l;obtain⟨v,f⟩:=aZ h;have e:p=k:=by grind
  subst e;obtain⟨u,g,j⟩:=HJ ys _ c.2 f;refine⟨_,⟨_,aL c.1 l,_,rfl,_,_,rfl,_,g,u,rfl,rfl,?_⟩,j⟩;have:(fun(a b:Int)=>if mx=true then max a b else min a b)=λa b=>bif mx then max a b else min a b:=by grind
  rw[this];rfl
 grind
theorem R3:∀(t:Ty) (x y:t.den),t.eqOk=true->jk t x y=true->x=y
 | .int _,x,y,_,h=>by simpa[jk]using h
 | .bool,x,y,_,h=>by simpa[jk]using h
 | .str,x,y,_,h=>by simpa[jk]using h
 | .unit,_,_,_,_=>rfl
 | .pair a b,x,y,h,c=>by simp only[Ty.eqOk,b_]at h;simp only[jk,b_]at c;exact Prod.ext (R3 a x.1 y.1 h.1 c.1) (R3 b x.2 y.2 h.2 c.2)
theorem zhI(a b:List UInt8):((⟨a.toArray⟩:ByteArray)==⟨b.toArray⟩)=(a==b):=(show _=(a.toArray==b.toArray)from rfl).trans (by simp)
theorem R7(P:Program):∀(d:Nat) (t:TypeId) (u:Ty),F7 P d t u=true->∀x y:u.den,eqP P d t (aR u x) (aR u y)=some (jk u x y)/\I6 P d t (aR u x)=true:=by
 intro d;induction d with
 |zero=>intro t u h;simp[F7]at h|succ d O=>
  intro t u h x y;unfold F7 at h;have J:∀(l:List Field) (off:Nat) (u:Ty) (x y:u.den) (xs ys:List PV),fsT P (F7 P d) l off u=true->off<=xs.length->xs.drop off=aS u x->off<=ys.length->ys.drop off=aS u y->
   eqP.eqFs P d l xs ys=some (jk u x y)/\(l.all λf=>f.name != "_" &&(match P.info? f.type with
    |some i=>(P.underlying f.type).isSome&&decide (f.offset+i.size<=xs.length)&&(lD P f.type||decide (i.size=1))&&I6 P d f.type ((PV.agg xs).sub f.offset i.size (lD P f.type))
    |none=>false))=true:=by
   intro l
   induction l with
   |nil=>intro off u x y xs ys h _ _ _ _;cases u<;>simp[fsT]at h;exact⟨by unfold eqP.eqFs;rfl,rfl⟩|cons f l A=>
    intro off u x y xs ys h n r p s;cases u<;>try (simp[fsT]at h;done)
    rename_i a b;simp only[fsT,b_]at h;obtain⟨⟨⟨⟨hn,w⟩,v⟩,L⟩,hr⟩:=h;have w:=a_ w;cases j:P.info? f.type with
    |none=>grind|some i=>
     rw[j]at v;simp only[b_]at v;obtain⟨⟨hsz,e⟩,c⟩:=v;have hsz:=a_ hsz;have c:lD P f.type=a.ag:=by grind
     have g:f.name≠ "_" :=by grind
     have cut:∀(z:(Ty.pair a b).den) (zs:List PV),off<=zs.length->zs.drop off=aS (.pair a b) z->(PV.agg zs).sub f.offset i.size (lD P f.type)=aR a z.1/\f.offset+i.size<=zs.length/\zs.drop (off+a.sz)=aS b z.2:=by
      intro z zs M hd;have hc:aS (.pair a b) z=aS a z.1++aS b z.2:=rfl;rw[hc]at hd;have hl:=congrArg ah_ hd;simp only[ae_,w_,aP]at hl;refine⟨?_,by omega,?_⟩
      ·rw[w,hsz,c];refine SG ?_ ?_;·show(zs.drop off).take a.sz=_;rw[hd,I_ (by rw[aP];simp),q_ (by rw[aP];simp)]
       ·show off+a.sz<=zs.length;omega
      ·rw[<-ao_,hd,List.drop_append_of_le_length (by rw[aP];simp),List.drop_of_length_le (by rw[aP];simp),ak_]
     obtain⟨D,Q,E⟩:=cut x xs n r;obtain⟨F,R,H⟩:=cut y ys p s;obtain⟨I,k1⟩:=O f.type a L x.1 y.1;obtain⟨T,k2⟩:=A (off+a.sz) b x.2 y.2 xs ys hr (by omega) E (by omega) H;have B:lD P f.type=false->i.size=1:=λh=>by rw[hsz];exact iW (by grind)
     refine⟨?_,?_⟩
     ·unfold eqP.eqFs;rw[if_neg g,j];simp only[p_];rw[if_neg (by
       rintro(h|h|h|h);·rw[N_]at h;grind
       all_goals grind),D,F,I]
      simp only[p_,jk];grind
     grind
  have st:∀fl,P.underlying t=some (.struct fl)->(!P.stoodInHeld t&&fsT P (F7 P d) fl.toList 0 u)=true->eqP P (d+1) t (aR u x) (aR u y)=some (jk u x y)/\I6 P (d+1) t (aR u x)=true:=by
   intro fl e h;simp only[b_]at h;have N:P.stoodInHeld t=false:=by grind
   have c:u.ag=true:=by cases hl:fl.toList with|nil=>rw[hl]at h;cases u<;>simp[fsT]at h;rfl|cons f l=>rw[hl]at h;cases u<;>simp[fsT]at h;rfl
   obtain⟨U,Y⟩:=J fl.toList 0 u x y (aS u x) (aS u y) h.2 (ax_ _) rfl (ax_ _) rfl;rw[f5 x c,f5 y c];refine⟨?_,?_⟩;·unfold eqP;grind
   ·unfold I6;grind
  split at h;·rename_i e;exact⟨by unfold eqP;rw[e];rfl,by unfold I6;rw[e];rfl⟩
  ·rename_i k C e;refine⟨?_,by unfold I6;rw[e];rfl⟩;unfold eqP;rw[e];show(if C=C then some (_==_)else none)=_;rw[if_pos rfl];rfl
  ·rename_i e;refine⟨?_,by unfold I6;rw[e];rfl⟩;unfold eqP;rw[e];show some (_==_)=_;rw[zhI];rfl
  all_goals grind
theorem zdV{neg:Bool}{tid:TypeId}{t:Ty}{x y:X}(c:x.wf=true/\y.wf=true/\F7 P 64 tid t=true)(h:evOp O d (.eqT neg tid t x y) s κ kp=some r):Pu P s (.eqT neg tid x.er y.er) d κ r:=by
 simp only[evOp]at h;split at h
 ·rename_i v u j k;split at h;·rename_i a b f g;obtain⟨_,e⟩:=aZ h;refine⟨_,⟨_,aL c.1 j,_,aL c.2.1 k,_,fZ f,_,fZ g,_,(R7 P 64 tid t c.2.2 a b).1,?_⟩,e⟩;rfl
  grind
 grind
theorem MF{k:TypeId}{a b:Ty}(n:F7 P 64 k a=true)(y:a.den):∀(kvs:List (a.den×b.den)) (i:Nat),(∀e∈kvs.map (λp=>(aR a p.1,aR b p.2)),(eqP P 64 k (aR a y) e.1).isSome=true)/\
 ((bY a b kvs y=none/\AU P k (aR a y) (kvs.map λp=>(aR a p.1,aR b p.2)) i=some none)\/∃j v d,bY a b kvs y=some v/\kvs[j]? =some (d,v)/\jk a y d=true/\(∀i' e,i'<j->kvs[i']? =some e->jk a y e.1=false)/\AU P k (aR a y) (kvs.map λp=>(aR a p.1,aR b p.2)) i=some (some (i+j,aR b v)))
 |[],i=>⟨λe h=>(by grind),.inl ⟨rfl,rfl⟩⟩
 |(d,v)::l,i=>by
  obtain⟨B,r⟩:=MF n y l (i+1);have E:=(R7 P 64 k a n y d).1;refine⟨λe h=>?_,?_⟩;·grind
  ·have c:AU P k (aR a y) (((d,v)::l).map λp=>(aR a p.1,aR b p.2)) i=if jk a y d=true then some (some (i,aR b v))else AU P k (aR a y) (l.map λp=>(aR a p.1,aR b p.2)) (i+1):=by show(eqP P 64 k (aR a y) (aR a d)).bind _=_;grind
   cases f:jk a y d
   ·rw[f]at c;simp only[K_,if_false]at c;have hg:bY a b ((d,v)::l) y=bY a b l y:=by simp[bY,f]
    rcases r with⟨s,w⟩|⟨j,u,A,s,w,x,D,C⟩;·grind
    ·refine .inr ⟨j+1,u,A,by grind,by grind,x,λi' e g z=>?_,by grind⟩;grind
   ·rw[f]at c;refine .inr ⟨0,v,d,by simp[bY,f],rfl,f,λi' e g=>absurd g (by simp),by grind⟩
theorem UN{k:TypeId}{a:Ty}(b:F7 P 64 k a=true):(P.underlying k).isSome=true:=by unfold F7 at b;grind
theorem zhv{b:Ty}(h:b.sc=true):aR b b.zero= .sc (uH b):=by cases b<;>simp[Ty.sc]at h<;>rfl
theorem Qv{k e:TypeId}{ok:Bool}{a b:Ty}{m x:X}(g:m.wf=true/\x.wf=true/\F7 P 64 k a=true/\b.sc=true)(h:evOp O d (.lookup k e ok a b m x) s κ kp=some r):Pu P s (.lookup k e ok (uH b) m.er x.er) d κ r:=by
 simp only[evOp]at h;split at h
 ·rename_i id v R U;split at h
  ·rename_i k' e' n f kvs y T Y;split at h
   ·rename_i c u;obtain⟨p,A⟩:=aZ h;simp only[b_]at p;have C:=a_ p.1.1;have D:=a_ p.1.2;obtain⟨E,F⟩:=cj u;have H:=Ty.list.inj E;injection H with I J;clear h p;subst C;subst D;subst I;subst J;have L:c=kvs:=F;subst L;obtain⟨M,N⟩:=MF (P:=P) (b:=f) g.2.2.1 y c 0;have l:∀(K:AV->Prop) (ok:Bool),K (match ok with
     |true=>.tup [.pv (aR f ((bY n f c y).getD f.zero)),.pv (.sc (.bool (bY n f c y).isSome))]
     |false=>.p (aR f ((bY n f c y).getD f.zero)))->nq P (enc s) (.lookup k e ok (uH f) m.er x.er) K:=by
     intro K ok B
     refine⟨_,aL g.1 R,_,aL g.2.1 U,id,_,rfl,by rw[ci,T];rfl,_,fZ Y,(R7 P 64 k n g.2.2.1 y y).2,UN g.2.2.1,M,?_⟩
     rcases N with⟨w,z⟩|⟨j,v,k',w,z,g5,g7,Q⟩
     ·refine⟨_,z,?_⟩;rw[w]at B;simp only[Option.getD_none,zhv g.2.2.2]at B;grind
     ·refine⟨_,Q,?_⟩;grind
    cases ok with|true=>exact⟨_,l _ true rfl,A⟩|false=>exact⟨_,l _ false rfl,A⟩
   grind
  grind
 grind
end
theorem jf(a b:Nat):c_ a b=decide (a=b):=by
 cases h:c_ a b;·exact(decide_eq_false λe=>by rw[e,av_]at h;grind).symm
 ·exact(decide_eq_true (a_ h)).symm
theorem I5(l:List Nat)(x:Nat):qV l x=l.contains x:=by induction l with|nil=>rfl|cons y l a=>simp only[qV,List.any_cons,List.contains_cons]at a⊢;rw[a];congr 1;rw[jf];grind
theorem inL_mem{l:List Nat}{x:Nat}:qV l x=true↔x∈l:=by rw[I5,Q_]
theorem allIn_mem{l m:List Nat}:allIn l m=true↔∀i∈m,i∈l:=by simp only[allIn,m_,inL_mem]
theorem LP:TE=kP:=by
 funext B n k;unfold TE kP;by_cases h:k<B.length;·rw[if_pos h,Nat.ble_eq_true_of_le h];rfl
 ·rw[if_neg h];have:h_ (k+1) B.length=false:=by
   cases a:h_ (k+1) B.length;·rfl
   ·exact absurd (f_ a) h
  grind
theorem WA(v:Value)(ρ:Nat->Nat):(bV v).ren ρ=bV v:=by unfold bV;split<;>rfl
theorem FW(v:Value):(bV v).ids=[]:=by unfold bV;split<;>rfl
theorem TR(v:Value)(i:Nat):(bV v).kill i=bV v:=by unfold bV;split<;>rfl
theorem Rw(v:Value)(B:List Nat):(bV v).killB B=bV v:=by unfold bV;split<;>rfl
theorem Mu(ρ:Nat->Nat)(v:V):aX (v.ren ρ)=(aX v).ren ρ:=by cases v<;>first|rfl|exact(WA _ ρ).symm
theorem Hq(v:V):v.ids1=(aX v).ids:=by cases v<;>first|rfl|exact(FW _).symm
theorem IX(id:Nat)(v:V):aX (v.kill1 id)=(aX v).kill id:=by
 cases v<;>first|rfl|exact(TR _ id).symm|skip
 ·rename_i k;show aX (bif c_ k id then .any else .sl k)=if k=id then _ else _;rw[jf];by_cases h:k=id<;>simp[h,aX]
 ·rename_i k i o;show aX (bif c_ k id then .any else .elt k i o)=if k=id then _ else _;rw[jf];by_cases h:k=id<;>simp[h,aX]
theorem F4(B:List Nat)(v:V):aX (zY B v)=(aX v).killB B:=by
 cases v<;>first|rfl|exact(Rw _ B).symm|skip
 ·rename_i k;show aX (bif qV B k then .any else .sl k)=if B.contains k=true then _ else _;rw[I5];cases h:B.contains k<;>simp[aX]
 ·rename_i k i o;show aX (bif qV B k then .any else .elt k i o)=if B.contains k=true then _ else _;rw[I5];cases h:B.contains k<;>simp[aX]
theorem rG{v:V}(h:v.isA=false):bg v= .b (aX v):=by cases v<;>first|rfl|cases h
theorem zdl{g:V->V}{v:V}(h:v.isA=false):rN g v=g v:=by cases v<;>first|rfl|cases h
theorem Ms{g:V->V}{G:BV->BV}(hg:∀v,aX (g v)=G (aX v))(b:∀v,v.isA=false->(g v).isA=false)(v:V): bg (rN g v)=(match bg v with| .b x=>.b (G x)| .agg xs=>.agg (xs.map G)| .tup xs=>.tup (xs.map G)):=by
 have c:∀vs:List V,(vs.map g).map aX=(vs.map aX).map G:=λvs=>by rw[i_,i_];exact j_ λv _=>hg v
 cases a:v.isA;·rw[zdl a,rG a,rG (b v a),hg]
 ·cases v with|agg vs=>show AV.agg _=AV.agg _;grind|tup vs=>show AV.tup _=AV.tup _;grind|_=>cases a
theorem Mt(ρ:Nat->Nat)(v:V):bg (rN (V.ren ρ) v)=(bg v).ren ρ:=by
 rw[Ms (G:=BV.ren ρ) (Mu ρ) λv h=>by cases v<;>first|rfl|cases h]
 cases bg v<;>rfl
theorem zaN(id:Nat)(v:V):bg (rN (V.kill1 id) v)=(bg v).kill id:=by
 rw[Ms (G:=BV.kill id) (IX id) λv h=>by cases v<;>first|rfl|(simp only[V.kill1];cases c_ _ id<;>rfl)|cases h]
 cases bg v<;>rfl
theorem WJ(B:List Nat)(v:V):bg (rN (zY B) v)=(bg v).killB B:=by
 rw[Ms (G:=BV.killB B) (F4 B) λv h=>by cases v<;>first|rfl|(simp only[zY];cases qV B _<;>rfl)|cases h]
 cases bg v<;>rfl
theorem vp(v:V):v.ids=(bg v).ids:=by
 have b:∀vs:List V,vs.flatMap V.ids1=(vs.map aX).flatMap BV.ids:=λvs=>by induction vs with|nil=>rfl|cons v vs c=>simp only[Z_,l_,c,Hq]
 cases a:v.isA
 ·rw[rG a];have:v.ids=v.ids1:=by cases v<;>first|rfl|cases a
  rw[this];exact Hq v
 ·cases v with|agg vs=>exact b vs|tup vs=>exact b vs|_=>cases a
theorem Hr(ρ:Nat->Nat)(o:Ob):cq (CK (V.ren ρ) o)=(cq o).ren ρ:=by
 cases o<;>first|rfl|skip
 rotate_left
 ·rename_i hole;cases hole with|none=>rfl|some q=>obtain⟨i,j,v⟩:=q;show AObj.tree _ _ _ _ (some (_,_,aX _))=AObj.tree _ _ _ _ (some (_,_,_));rw[Mu ρ v]
 show AObj.box _ _=AObj.box _ _;rw[i_,i_];congr 1;exact j_ λv _=>Mu ρ v
theorem zaO(id:Nat)(o:Ob):cq (CK (V.kill1 id) o)=(cq o).kill id:=by
 cases o<;>first|rfl|skip
 rotate_left
 ·rename_i hole;cases hole with|none=>rfl|some q=>obtain⟨i,j,v⟩:=q;show AObj.tree _ _ _ _ (some (_,_,aX _))=AObj.tree _ _ _ _ (some (_,_,_));rw[IX id v]
 show AObj.box _ _=AObj.box _ _;rw[i_,i_];congr 1;exact j_ λv _=>IX id v
theorem WK(B:List Nat)(o:Ob):cq (CK (zY B) o)=(cq o).killB B:=by
 cases o<;>first|rfl|skip
 rotate_left
 ·rename_i hole;cases hole with|none=>rfl|some q=>obtain⟨i,j,v⟩:=q;show AObj.tree _ _ _ _ (some (_,_,aX _))=AObj.tree _ _ _ _ (some (_,_,_));rw[F4 B v]
 show AObj.box _ _=AObj.box _ _;rw[i_,i_];congr 1;exact j_ λv _=>F4 B v
theorem Mw(o:Ob):o.ids=(cq o).ids:=by
 cases o<;>first|rfl|skip
 rotate_left
 ·rename_i hole;cases hole with|none=>rfl|some q=>obtain⟨i,j,v⟩:=q;exact Hq v
 show as_ _ _=as_ _ (List.map _ _);rw[List.flatMap_map];congr 1;funext v;exact Hq v
theorem IZ(s:S)(id:Nat)(o:Ob):enc (s.moved id o)=(enc s).moved id (cq o):=by
 simp only[enc,S.moved,St.moved,g8,i_,List.map_set];congr 1;·exact j_ λx _=>by simp[zaN]
 ·congr 1;exact j_ λo _=>zaO id o
theorem PH(B:List Nat)(os:List Ob)(n:Nat):∀(l:List Ob) (i:Nat),(XX B os n i l).map cq=(l.map cq).mapIdx (λj o=>if B.contains (i+j)then(((os.map cq).getD (B.idxOf (i+j)) .gone).ren (kP B n))else o.killB B)
 |[],_=>rfl
 |o::l,i=>by
  simp only[XX,l_,List.mapIdx_cons,au_];rw[PH B os n l (i+1)];congr 1
  ·rw[I5];cases h:B.contains i;·simp[WK]
   ·simp only[cond_true,if_true,Hr,LP,UG];congr 1;simp only[S_,u_];cases os[B.idxOf i]? <;>rfl
  grind
theorem Uw(s:S)(B:List Nat)(os:List Ob):enc (s.back B os)=(enc s).back B (os.map cq):=by
 simp only[enc,S.back,St.back,pS];congr 1;·rw[i_,i_];exact j_ λx _=>by simp[WJ]
 ·rw[B_,PH];congr 1;·simp
  ·rw[<-A_,i_,i_];exact j_ λo _=>by simp[Hr,LP]
section
variable {P:Program} {s:S}
theorem JY:∀(B:List Nat) (os:List Ob),Y3 s B=some os->B.mapM ((enc s).hp[·]?)=some (os.map cq)
 |[],os,h=>by cases h;rfl
 |i::B,os,h=>by
  simp only[Y3]at h;split at h
  ·rename_i o a;split at h;·rename_i l hl;cases h;rw[k_,JY B l hl,ci,a];rfl
   grind
  grind
theorem za3{α β:Type}{f:α->Option β}{l:List α}{x:α}(a:x∈l)(h:f x=none):l.mapM f=none:=by
 induction l with
 |nil=>grind|cons y l b=>
  rw[k_];rcases aq_.1 a with rfl|a;·grind
  ·rw[b a];simp
theorem Wj{hp:List AObj}{bor:Bool}{B:List Nat}{t:Ty}{v:V}{x:t.den}(h:eF t v=some x):vj hp bor B (bg v)=some (bg (.d t x)):=by
 have hd:=fZ h;cases v with
 |d u y=>obtain⟨b,_⟩:=cd (show cM u t y=some x from h);show some (AV.p _)=some (AV.p _);grind
 |nil u=>obtain⟨b,_⟩:=cd (show cM (.list u) t []=some x from h);show some (AV.p _)=some (AV.p (aR t x));rw[b];rfl
 |full u y=>obtain⟨b,_⟩:=cd (show cM (.list u) t y=some x from h);show some (AV.p _)=some (AV.p (aR t x));rw[b];rfl
 |agg vs=>have a:((vs.map aX).mapM BV.toPV).map PV.agg=some (aR t x):=hd;show(if((vs.map aX).mapM BV.toPV).isSome=true then _ else _)=_;cases c:(vs.map aX).mapM BV.toPV with|none=>grind|some cs=>rw[c]at a;simp only[Option.isSome_some,if_true];show(((vs.map aX).mapM BV.toPV).map PV.agg).map AV.p=_;rw[c,a];rfl
 |_=>simp[eF,mh]at h
theorem Ts{bor:Bool}{B:List Nat}{a:Arg×X}{v:V}(g:a.2.wf=true)(h:PF s bor B a=some v)(k:∀i∈v.ids,i∈B):((enc s).get a.2.er).bind (vj (enc s).hp bor B)=some (bg v):=by
 obtain⟨a,x⟩:=a;simp only[PF]at h;split at h
 ·rename_i t id c;obtain⟨d,b⟩:=aZ h;simp only[b_,x_]at d;split at b
  ·rename_i e u xs l;split at b
   ·rename_i ys f;cases b;obtain⟨n,p⟩:=cd f;rw[aL g c,p_];have j:B.contains id=false:=by rw[<-I5];grind
    show(if B.contains id=true then _ else _)=_;rw[j];simp only[K_,if_false];show(if bor=true then Sz (enc s).hp id else none).map AV.p=_;rw[d.1,if_pos rfl,Sz,ci,l];show some (AV.p (aR (.list u) xs))=some (AV.p (aR (.list t) ys));grind
   grind
  ·rename_i e kk u xs l;split at b
   ·rename_i ys f;cases b;obtain⟨n,p⟩:=cd f;rw[aL g c,p_];have j:B.contains id=false:=by rw[<-I5];grind
    show(if B.contains id=true then _ else _)=_;rw[j];simp only[K_,if_false];show(if bor=true then Sz (enc s).hp id else none).map AV.p=_;rw[d.1,if_pos rfl,Sz,ci,l];show some (AV.p (aR (.list u) xs))=some (AV.p (aR (.list t) ys));grind
   grind
  grind
 ·rename_i t z _ c;split at h;·rename_i y f;cases h;rw[aL g c,p_];exact Wj f
  grind
 ·rename_i z c;rw[aL g c,p_];split at h;·grind
  ·grind
  ·grind
  ·grind
  ·rename_i vs;obtain⟨d,b⟩:=aZ h;cases b;obtain⟨u,r,hr⟩:=G_.1 d;have:(vs.map aX).mapM BV.toPV=none:=za3 (U_ r) (by cases u<;>first|rfl|cases hr)
   show(if((vs.map aX).mapM BV.toPV).isSome=true then _ else _)=_;rw[this];rfl
  ·rename_i A C D E F;cases h;cases v<;>first|rfl|skip
   ·grind
   ·grind
   ·rename_i id;have:B.contains id=true:=Q_.2 (k id (by simp[V.ids,V.ids1]));show(if B.contains id=true then _ else _)=_;rw[this];rfl
   ·grind
   ·rename_i w;show vj _ _ _ (AV.b (bV w))=some (AV.b (bV w));unfold bV;split;·grind
    ·rfl
 grind
theorem y8{bor:Bool}{B:List Nat}:∀(l:List (Arg×X)) (vs:List V),m4 l=true->xm s bor B l=some vs->(∀v∈vs,∀i∈v.ids,i∈B)->(l.map λa=>a.2.er).mapM (λx=>((enc s).get x).bind (vj (enc s).hp bor B))=some (vs.map bg)
 |[],vs,_,h,_=>by cases h;rfl
 |a::l,vs,c,h,b=>by
  simp only[m4,r_,b_]at c;simp only[xm]at h;split at h
  ·rename_i v f;split at h;·rename_i us d;cases h;rw[l_,k_,Ts c.1 f (b v (by simp)),y8 l us c.2 d λu e=>b u (by grind)];rfl
   grind
  grind
end
theorem Ns{v w:V}(h:V.same v w=true):bg v=bg w/\aX v=aX w/\(aX v).FlatB:=by
 unfold V.same at h;split at h;·have e:=a_ h;subst e;exact⟨rfl,rfl,trivial⟩
 ·simp only[b_]at h;have e:=a_ h.1;have a:=a_ h.2;subst e;subst a;exact⟨rfl,rfl,trivial⟩
 ·have e:=a_ h;subst e;exact⟨rfl,rfl,trivial⟩
 ·simp only[b_,decide_eq_true_eq]at h;have e:=a_ h.1;have a:=h.2;subst e;subst a;exact⟨rfl,rfl,trivial⟩
 ·exact⟨rfl,rfl,trivial⟩
 ·exact⟨rfl,rfl,.sc _⟩
 ·exact⟨rfl,rfl,.sc _⟩
 ·exact⟨rfl,rfl,.sc _⟩
 ·exact⟨rfl,rfl,.sc _⟩
 grind
theorem zeq{v w:V}(h:V.same v w=true):v.isA=false:=by unfold V.same at h;split at h<;>first|rfl|cases h
theorem zhT{v:V}{t:Ty}{x:t.den}(h:mh t v=some x):LeB (aX v) (aX (.d t x)):=.data _ _ (sJ h)
theorem zhS{v:V}{t:Ty}{x:t.den}(h:eF t v=some x):LeA (bg v) (bg (.d t x)):=.data _ _ (fZ h)
def LeC(cs ds:List V):Prop:=cs.length=ds.length/\∀(i:Nat) (x y:V),cs[i]? =some x->ds[i]? =some y->LeB (aX x) (aX y)
theorem LeC.refl(cs:List V):LeC cs cs:=⟨rfl,λi x y C z=>by rw[C]at z;cases z;exact .refl _⟩
theorem LeC.box{t:TypeId}{cs ds:List V}(h:LeC cs ds):LeO (cq (.box t cs)) (cq (.box t ds)):= .box t _ _ (by simp[h.1]) λi x y z C=>by simp only[u_,n_]at z C;obtain⟨u,E,rfl⟩:=z;obtain⟨v,H,rfl⟩:=C;exact h.2 i u v E H
theorem BY:∀(cs ds:List V),pU cs ds=true->LeC ds cs/\∀v∈cs,(aX v).FlatB
 |[],[],_=>⟨⟨rfl,λi x y n=>by simp⟩,λv c=>by grind⟩
 |[],_::_,h=>by simp[pU]at h
 |x::l,[],h=>by cases x<;>simp[pU]at h
 |x::l,y::m,h=>by
  have key:LeB (aX y) (aX x)/\(aX x).FlatB/\pU l m=true:=by
   unfold pU at h;split at h;·grind
   ·rename_i l1 g d a b;cases a;cases b;exact⟨.any _,.any,h⟩
   ·rename_i xs l1 ys d a b;cases a;cases b;simp only[b_]at h;exact⟨.refl _,.any,h.2⟩
   ·rename_i p l1 g d _ _ a b;cases a;cases b;simp only[b_]at h;obtain⟨_,e,f⟩:=Ns h.1;exact⟨by rw[e];exact .refl _,f,h.2⟩
   grind
  obtain⟨⟨a,b⟩,j⟩:=BY l m key.2.2;refine⟨⟨by grind,λi u v k c=>?_⟩,λv c=>?_⟩;all_goals grind
def Slot.obj:Slot->Option Nat
 | .vec id _ _=>some id
 | .map id _ _ _ _=>some id
 | .tree id _ _ _=>some id
 | .treeH id _ _ _ _ _=>some id
 |_=>none
inductive LikeO:Ob->Ob->Prop
 |vec (e:TypeId) (t:Ty) (xs ys:List t.den):LikeO (.vec e t xs) (.vec e t ys)
 |map (k e:TypeId) (a c:Ty) (xs ys:List (a.den×c.den)):LikeO (.map k e a c xs) (.map k e a c ys)
 |tree (e:TypeId) (k:Av.K) (t:Ty) (xs ys:List t.den):LikeO (.tree e k t xs none) (.tree e k t ys none)
 |treeH (e:TypeId) (k:Av.K) (t:Ty) (xs ys:List t.den) (i i' j kid:Nat):LikeO (.tree e k t xs (some (i,j,.sl kid))) (.tree e k t ys (some (i',j,.sl kid)))
def ObLe(l:List Slot)(i:Nat)(o b:Ob):Prop:=
 b= .gone\/(∃t cs ds,o= .box t cs/\b= .box t ds/\LeC cs ds)\/b=o\/(LikeO o b/\∃x∈l,x.obj=some i)
theorem ObLe.le{i:Nat}{o b:Ob}(h:ObLe [] i o b):LeO (cq o) (cq b):=by
 rcases h with rfl|⟨t,cs,ds,rfl,rfl,h⟩|rfl|⟨_,x,h,_⟩;·exact .gone _
 ·exact h.box
 ·exact .refl _
 grind
theorem ObLe.weak{l:List Slot}{x:Slot}{i:Nat}{o b:Ob}(h:ObLe (x::l) i o b)(C:x.obj≠some i):ObLe l i o b:=by
 rcases h with h|h|h|⟨h,y,E,z⟩;·exact .inl h
 ·exact .inr (.inl h)
 ·exact .inr (.inr (.inl h))
 ·exact .inr (.inr (.inr ⟨h,y,(aq_.1 E).resolve_left λe=>C (by grind),z⟩))
def SA(hp:List Ob):Slot->Prop
 | .vec id e t=>∃ys,hp[id]? =some (.vec e t ys)
 | .map id k e a b=>∃ys,hp[id]? =some (.map k e a b ys)
 | .tree id e k t=>∃ys,hp[id]? =some (.tree e k t ys none)
 | .treeH id e k t j kid=>∃ys i,hp[id]? =some (.tree e k t ys (some (i,j,.sl kid)))
 |_=>True
def LeF(fr fr':List (Nat×V)):Prop:=∀k v,lk fr' k=some v->∃u,lk fr k=some u/\LeA (bg u) (bg v)
structure LeP(l:List Slot)(s b:S):Prop where
 fr:LeF s.fr b.fr
 len:s.hp.length=b.hp.length
 hp:∀(i:Nat) (o o':Ob),s.hp[i]? =some o->b.hp[i]? =some o'->ObLe l i o o'
 on:∀x∈l,SA b.hp x
theorem Nt{hp:List Ob}{id:Nat}{o:Ob}{x:Slot}(h:SA hp x)(r:∀o',hp[id]? =some o'->(∀z,¬LikeO o' z)\/LikeO o' o):SA (hp.set id o) x:=by
 have l:∀(j:Nat) (o':Ob),hp[j]? =some o'->(∃z,LikeO o' z)->∃g,(hp.set id o)[j]? =some g/\(LikeO o' g\/g=o'):=λj o' p s=>by grind
 cases x with
 |vec j e t=>
  obtain⟨ys,f⟩:=h;obtain⟨g,c,d|rfl⟩:=l j _ f ⟨_,.vec e t ys ys⟩;·cases d;exact⟨_,c⟩
  ·exact⟨_,c⟩
 |map j k e a b=>
  obtain⟨ys,f⟩:=h;obtain⟨g,c,d|rfl⟩:=l j _ f ⟨_,.map k e a b ys ys⟩;·cases d;exact⟨_,c⟩
  ·exact⟨_,c⟩
 |tree j e k t=>
  obtain⟨ys,f⟩:=h;obtain⟨g,c,d|rfl⟩:=l j _ f ⟨_,.tree e k t ys ys⟩;·cases d;exact⟨_,c⟩
  ·exact⟨_,c⟩
 |treeH j e k t n kid=>
  obtain⟨ys,i,f⟩:=h;obtain⟨g,c,d|rfl⟩:=l j _ f ⟨_,.treeH e k t ys ys i i n kid⟩;·cases d;exact⟨_,_,c⟩
  ·exact⟨_,_,c⟩
 |_=>trivial
theorem U7{t:TypeId}{cs:List V}(z:Ob):¬LikeO (.box t cs) z:=λh=>by cases h
theorem LeF.put{fr fr':List (Nat×V)}(h:LeF fr fr'){k:Nat}{u v:V}(H:lk fr k=some u)(E:LeA (bg u) (bg v)):LeF fr ((k,v)::fr'):=λj w z=>by
 simp only[lk]at z;cases C:c_ j k;·rw[C]at z;exact h j w z
 ·rw[C]at z;simp only[cond_true,e_]at z;have:=a_ C;grind
theorem LeP.set{s:S}{x:Slot}{l:List Slot}{b:S}(h:LeP (x::l) s b){id:Nat}{o ob:Ob}(Y:x.obj=some id)(J:s.hp[id]? =some o)(I:b.hp[id]? =some ob)(hl:LikeO ob o):LeP l s ⟨b.fr,setAt b.hp id o⟩:=by
 have hid:=(g_.1 I).1;rw[g8];refine⟨h.fr,by simp[h.len],λi M N E C=>?_,λz hz=>Nt (h.on z (by grind)) (λo' U=>by grind)⟩;by_cases H:id=i;·subst H;rw[E_ hid]at C;cases C;rw[J]at E;cases E;exact .inr (.inr (.inl rfl))
 ·rw[v_ H]at C;exact(h.hp i M N E C).weak (by grind)
theorem rU(s:S):∀(l:List Slot) (c:HL l) (b:S),M6 s l=some c->LeP l s b->LeP [] s (unpack l c b)
 |[],_,b,_,h=>h
 |x::l,c,b,hc,h=>by
  simp only[M6]at hc;split at hc
  ·rename_i y f;split at hc
   ·rename_i L r;cases hc;cases x with
    |tm k t=>
     simp only[ki]at f;split at f;·rename_i v T;exact rU s l L _ r ⟨h.fr.put T (zhS f),h.len,λi o o' J C=>(h.hp i o o' J C).weak (by simp[Slot.obj]),λz P=>h.on z (by grind)⟩
     grind
    |cell id j t=>
     simp only[ki]at f;split at f
     ·rename_i u cs p;split at f
      ·rename_i v T;refine rU s l L _ r ?_;unfold setCell;split
       ·rename_i t' ds g;rw[g8,g8];have hid:=(g_.1 g).1;refine⟨h.fr,by simp[h.len],λi o o' J C=>?_,λz P=>Nt (h.on z (by grind)) (λo' d=>by rw[g]at d;cases d;exact .inl U7)⟩;by_cases hi:id=i
        ·subst hi;rw[E_ hid]at C;cases C;rw[p]at J;cases J;have e0:∃U D E,Ob.box u cs= .box U D/\Ob.box t' ds= .box U E/\LeC D E:=by
          rcases h.hp id _ _ p g with d|e0|d|⟨d,_⟩;·grind
          ·omega
          ·cases d;exact⟨_,_,_,rfl,rfl,rfl,λi x y hx f=>by rw[hx]at f;cases f;exact .refl _⟩
          ·cases d
         obtain⟨U,D,E,F,B,A⟩:=e0
         ·cases F;cases B;refine .inr (.inl ⟨_,_,_,rfl,rfl,by simp[A.1],λi u w R M=>?_⟩);by_cases N:j=i
          ·subst N;rw[List.getElem?_set]at M;split at M
           ·split at M;·cases M;rw[T]at R;cases R;exact zhT f
            grind
           omega
          ·rw[v_ N]at M;exact A.2 i u w R M
        ·rw[v_ hi]at C;exact(h.hp i o o' J C).weak (by simp[Slot.obj])
       ·exact⟨h.fr,h.len,λi o o' J C=>(h.hp i o o' J C).weak (by simp[Slot.obj]),λz P=>h.on z (by grind)⟩
      grind
     grind
    |vec id e t=>
     simp only[ki]at f;split at f
     ·rename_i Y u xs p;obtain⟨B,A⟩:=cj f;have H:=Ty.list.inj B;subst H;have I:y=xs:=A;subst I;obtain⟨ys,g⟩:=h.on _ (C_ ..);have Q:LikeO (.vec Y u y) (.vec e u ys):=by
       rcases h.hp id _ _ p g with d|⟨_,_,_,d,_⟩|d|⟨d,_⟩;·grind
       ·grind
       ·cases d;exact .vec _ _ _ _
       omega
      have n:Y=e:=by cases Q;rfl
      subst n;exact rU s l L _ r (h.set rfl p g (.vec _ _ _ _))
     grind
    |map id k e a b'=>
     simp only[ki]at f;split at f
     ·rename_i O F a1 b1 xs p;obtain⟨B,A⟩:=cj f;have H:=Ty.list.inj B;injection H with e6 e7;subst e6;subst e7;have I:y=xs:=A;subst I;obtain⟨ys,g⟩:=h.on _ (C_ ..);have n:O=k/\F=e:=by
       rcases h.hp id _ _ p g with d|⟨_,_,_,d,_⟩|d|⟨d,_⟩;·grind
       ·grind
       ·grind
       ·cases d;simp
      obtain⟨rfl,rfl⟩:=n;exact rU s l L _ r (h.set rfl p g (.map _ _ _ _ _ _))
     grind
    |tree id e k t=>
     simp only[ki]at f;split at f
     ·rename_i F O u xs p;obtain⟨B,A⟩:=cj f;have H:=Ty.list.inj B;subst H;have I:y=xs:=A;subst I;obtain⟨ys,g⟩:=h.on _ (C_ ..);have n:F=e/\O=k:=by
       rcases h.hp id _ _ p g with d|⟨_,_,_,d,_⟩|d|⟨d,_⟩;·grind
       ·grind
       ·grind
       ·cases d;simp
      obtain⟨rfl,rfl⟩:=n;exact rU s l L _ r (h.set rfl p g (.tree _ _ _ _ _))
     grind
    |treeH id e k t j kid=>
     simp only[ki]at f;split at f
     ·rename_i F O u xs i1 j1 v1 p;split at f
      ·rename_i zs P;cases f;obtain⟨B,A⟩:=cj P;have H:=Ty.list.inj B;subst H;have I:zs=xs:=A;subst I;obtain⟨ys,i2,g⟩:=h.on _ (C_ ..);have n:F=e/\O=k/\j1=j/\v1= .sl kid:=by
        rcases h.hp id _ _ p g with d|⟨_,_,_,d,_⟩|d|⟨d,_⟩;·grind
        ·grind
        ·grind
        ·cases d;simp
       obtain⟨rfl,rfl,rfl,rfl⟩:=n;exact rU s l L _ r (by have:=h.set rfl p g (.treeH _ _ _ _ _ _ _ _ _);grind)
      grind
     grind
   grind
  grind
theorem LeP.le{s b:S}(h:LeP [] s b):LeS (enc s) (enc b):=by
 refine⟨λk y I=>?_,by simp[enc,h.len],λi x y E H=>?_⟩;·show ∃x,Av.look (s.fr.map λx=>(x.1,bg x.2)) k=some x/\_;have z:Av.look (b.fr.map λx=>(x.1,bg x.2)) k=some y:=I;rw[uz]at z⊢;obtain⟨v,N,rfl⟩:=n_.1 z;obtain⟨u,U,J⟩:=h.fr k v N;grind
 ·rw[ci]at E H;obtain⟨o,M,rfl⟩:=n_.1 E;obtain⟨o',C,rfl⟩:=n_.1 H;exact(h.hp i o o' M C).le
theorem Qi(l m:List (Nat×V))(k:Nat):lk (l++m) k=(lk l k).or (lk m k):=by induction l with|nil=>rfl|cons x l a=>obtain⟨j,v⟩:=x;simp only[List.cons_append,lk];grind
theorem xH{l:List (Nat×V)}{k:Nat}{v:V}(h:lk l k=some v):(k,v)∈l:=by
 induction l with
 |nil=>cases h|cons x l b=>
  obtain⟨j,w⟩:=x;simp only[lk]at h;cases a:c_ k j;·grind
  ·rw[a]at h;simp only[cond_true,e_]at h;have:=a_ a;grind
theorem P8{fr sk:List (Nat×V)}(h:MH fr sk=true){k:Nat}{v:V}(a:(k,v)∈sk):∃w,lk fr k=some w/\V.same v w=true:=by induction sk with|nil=>grind|cons x sk b=>obtain⟨j,u⟩:=x;simp only[MH,b_]at h;grind
theorem Gg:∀{us c:List Ob},Jf us c=true->us.length=c.length/\∀(i:Nat) (x y:Ob),us[i]? =some x->c[i]? =some y->Y2 x y=true
 |[],[],_=>⟨rfl,λi x y h=>by simp⟩
 |[],_::_,h=>by cases h
 |_::_,[],h=>by cases h
 |a::us,b::c,h=>by simp only[Jf,b_]at h;obtain⟨d,e⟩:=Gg h.2;grind
def Ob.vary:Ob->Bool
 | .vec _ _ _=>true
 | .map _ _ _ _ _=>true
 | .tree _ _ _ _ _=>true
 |_=>false
theorem M3{sl:List Slot}:∀{l:List Ob} {i j:Nat} {o:Ob},zfO sl i l=true->l[j]? =some o->o.vary=true->∃x∈sl,x.obj=some (i+j)
 |[],i,j,o,_,b,_=>by grind
 |a::l,i,j,o,h,b,d=>by
  simp only[zfO,b_]at h;cases j with
  |zero=>
   simp at b;subst b;cases a<;>first|cases d|skip
   all_goals
    obtain⟨x,e,c⟩:=G_.1 h.1;refine⟨x,e,?_⟩;cases x<;>simp at c;all_goals (subst c;rfl)
  |succ j=>have:=M3 (i:=i+1) (j:=j) h.2 (by grind) d;grind
theorem zeu{hp:List Ob}{x:Slot}(h:QJ hp x=true):SA hp x:=by
 cases x with
 |vec id e t=>
  simp only[QJ]at h;split at h;·rename_i g s ys d;simp only[b_,decide_eq_true_eq]at h;have c:=a_ h.1;obtain⟨_,rfl⟩:=h;subst c;exact⟨ys,d⟩
  grind
 |map id k e a b=>
  simp only[QJ]at h;split at h;·rename_i p g w y ys d;simp only[b_,decide_eq_true_eq]at h;obtain⟨⟨⟨f,n⟩,rfl⟩,rfl⟩:=h;have c:=a_ f;have l:=a_ n;subst c;subst l;exact⟨ys,d⟩
  grind
 |tree id e k t=>
  simp only[QJ]at h;split at h;·rename_i g p s ys d;simp only[b_,decide_eq_true_eq]at h;obtain⟨⟨f,rfl⟩,rfl⟩:=h;have c:=a_ f;subst c;exact⟨ys,d⟩
  grind
 |treeH id e k t j kid=>
  simp only[QJ]at h;split at h;·rename_i g p s ys i' z r d;simp only[b_,decide_eq_true_eq]at h;obtain⟨⟨⟨⟨f,rfl⟩,rfl⟩,n⟩,v⟩:=h;have c:=a_ f;have l:=a_ n;have u:=a_ v;subst c;subst l;subst u;exact⟨ys,_,d⟩
  grind
 |_=>trivial
theorem M8{sh:Sh}{s s0:S}{c:HL sh.sl}(B:sh.wfB=true)(h:pack sh s=some c)(I:∀k v,lk (fA s0.fr sh.keep) k=some v->lk s.fr k=some v):LeP [] s (unpack sh.sl c (sh.base s0)):=by
 unfold pack at h;split at h
 ·rename_i A;simp only[b_,S.fits]at A;simp only[Sh.wfB,b_,m_]at B;obtain⟨E,F⟩:=Gg A.1.2;refine rU s sh.sl c _ h ⟨λk v J=>?_,E.symm,λi o o' r y=>?_,λx L=>zeu (B.1 x L)⟩;·have f:lk (fA s0.fr sh.keep++sh.sk.fr) k=some v:=J;rw[Qi]at f;cases j:lk (fA s0.fr sh.keep) k with|some u=>rw[j]at f;cases f;exact⟨v,I k v j,.refl _⟩|none=>rw[j]at f;obtain⟨w,r,y⟩:=P8 A.1.1 (xH f);exact⟨w,r,by rw[(Ns y).1];exact .refl _⟩
  ·have n:sh.sk.hp[i]? =some o':=y;have d:=F i o' o n r;have q:=M3 (i:=0) B.2 n;rw[ac_]at q;unfold Y2 at d;split at d;·exact .inl rfl
   ·rename_i t cs u ds;simp only[b_]at d;have g:=a_ d.1;subst g;exact .inr (.inl ⟨_,_,_,rfl,rfl,(BY cs ds d.2).1⟩)
   ·rename_i e t xs C N ys;simp only[b_,decide_eq_true_eq]at d;have g:=a_ d.1;obtain⟨_,rfl⟩:=d;subst g;exact .inr (.inr (.inr ⟨.vec _ _ _ _,q rfl⟩))
   ·rename_i k e a b xs M C O P ys;simp only[b_,decide_eq_true_eq]at d;obtain⟨⟨⟨z,l⟩,rfl⟩,rfl⟩:=d;have g:=a_ z;have p:=a_ l;subst g;subst p;exact .inr (.inr (.inr ⟨.map _ _ _ _ _ _,q rfl⟩))
   ·rename_i e k t xs Q C M N ys H;simp only[b_,decide_eq_true_eq]at d;obtain⟨⟨⟨z,rfl⟩,rfl⟩,l⟩:=d;have g:=a_ z;subst g;split at l;·exact .inr (.inr (.inr ⟨.tree _ _ _ _ _,q rfl⟩))
    ·simp only[b_]at l;have p:=a_ l.1;have D:=a_ l.2;subst p;subst D;exact .inr (.inr (.inr ⟨.treeH _ _ _ _ _ _ _ _ _,q rfl⟩))
    grind
   grind
 grind
theorem Sp{sh:Sh}{s s0:S}{c:HL sh.sl}(b:sh.wfB=true)(h:pack sh s=some c)(a:∀k v,lk (fA s0.fr sh.keep) k=some v->lk s.fr k=some v):LeS (enc s) (enc (unpack sh.sl c (sh.base s0))):=(M8 b h a).le
structure FlP(l:List Slot)(b:S):Prop where
 fr:∀k v,lk b.fr k=some v->(bg v).FlatA
 hp:∀(i:Nat) (o:Ob),b.hp[i]? =some o->(cq o).FlatO\/(o.vary=true/\∃x∈l,x.obj=some i)
theorem zeH{e:TypeId}{t:Ty}(xs:List t.den)(h:t.flat=true):(cq (.vec e t xs)).FlatO:=λp hp y a=>by obtain⟨x,_,rfl⟩:=s_.1 hp;exact(qm t x h).2 y a
theorem zdm{k e:TypeId}{a b:Ty}(xs:List (a.den×b.den))(h:a.flat=true/\b.flat=true):(cq (.map k e a b xs)).FlatO:=λp hp=>by obtain⟨x,_,rfl⟩:=s_.1 hp;exact⟨(qm a x.1 h.1).1,(qm b x.2 h.2).1⟩
theorem wN:∀(t:Ty) (x:t.den),(lA t).length=t.sz/\∀(j:Nat) (y:PV),(aS t x)[j]? =some y->∃(u:Ty) (z:u.den),(lA t)[j]? =some u/\y=aR u z
 | .unit,x=>⟨rfl,λj y h=>by simp[aS,aR,PV.cells]at h⟩
 | .pair a b,x=>by
  obtain⟨c,d⟩:=wN a x.1
  obtain⟨f,g⟩:=wN b x.2
  refine⟨by simp[lA,Ty.sz,c,f],λj y h=>?_⟩
  have hc:aS (.pair a b) x=aS a x.1++aS b x.2:=rfl
  rw[hc]at h
  have hl:(aS a x.1).length=a.sz:=aP a x.1
  rcases Nat.lt_or_ge j a.sz with n|n
  ·rw[List.getElem?_append_left (by omega)]at h
   obtain⟨u,z,l,e⟩:=d j y h
   exact⟨u,z,by simp only[lA];grind,e⟩
  ·rw[List.getElem?_append_right (by omega)]at h
   obtain⟨u,z,l,e⟩:=g _ y h
   exact⟨u,z,by simp only[lA];grind,e⟩
 | .rx,x=>by
  refine⟨rfl,λj y h=>?_⟩
  rw[yn]at h
  match j,h with
  |0,h=>cases h;exact⟨.int .i64,_,rfl,rfl⟩
  |1,h=>cases h;exact⟨.int .i64,_,rfl,rfl⟩
  |2,h=>cases h;exact⟨.int .i64,_,rfl,rfl⟩
  |3,h=>cases h;exact⟨.list .rx,_,rfl,rfl⟩
  |j+4,h=>grind
 | .int k,x=>leaf (.int k) x rfl rfl
 | .bool,x=>leaf .bool x rfl rfl
 | .str,x=>leaf .str x rfl rfl
 | .list t,x=>leaf (.list t) x rfl rfl
where
 leaf (t:Ty) (x:t.den) (c:t.ag=false) (d:lA t=[t]):(lA t).length=t.sz/\∀(j:Nat) (y:PV),(aS t x)[j]? =some y->∃(u:Ty) (z:u.den),(lA t)[j]? =some u/\y=aR u z:=by
  refine⟨by rw[d,iW c];rfl,λj y h=>?_⟩
  rw[fw x c]at h
  grind
theorem wK:∀(k:Av.K) (ts:List Ty),flatK k ts=true->∀(j:Nat) (u:Ty) (z:u.den),ts[j]? =some u->FlatT (k.at j) (aR u z)
 | .e,ts,h,j,u,z,a=>by simp only[flatK,m_]at h;exact .flat _ (qm u z (h u (R_ a))).1
 | .f r,[],h,j,u,z,a=>by grind
 | .f r,t::ts,h,j,u,z,a=>by simp only[flatK,b_]at h;cases j with|zero=>cases a;exact .flat _ (qm _ z h.1).1|succ j=>exact wK r ts h.2 j u z (by grind)
 | .s e sz sub r,[],h,j,u,z,a=>by grind
 | .s e sz sub r,t::ts,h,j,u,z,a=>by
  cases t<;>try cases h
  rename_i v;simp only[flatK,b_]at h;cases j with
  |zero=>cases a;have hs:=a_ h.1.1;refine .sl _ _ _ _ (z.map (aR v)) (by rw[hs];rfl) λi j x y b d=>?_;rw[u_]at b;obtain⟨w,_,rfl⟩:=n_.1 b;obtain⟨f,g,c,rfl⟩:=(wN v w).2 j y d;exact wK sub _ h.1.2 j f g c
  |succ j=>exact wK r ts h.2 j u z (by grind)
theorem NP{e:TypeId}{k:Av.K}{t:Ty}(xs:List t.den)(h:flatK k (lA t)=true)(hole:Option (Nat×Nat×V))(f:hole=none\/∃i j kid,hole=some (i,j,.sl kid)):(cq (.tree e k t xs hole)).FlatO:=by
 refine⟨λi j b a=>?_,λi j x y c g=>?_⟩
 ·rcases f with rfl|⟨i',p,kid,rfl⟩;·cases a
  ·cases a;trivial
 ·rw[u_]at c;obtain⟨w,_,rfl⟩:=n_.1 c;obtain⟨l,n,d,rfl⟩:=(wN t w).2 j y g;exact wK k _ h j l n d
theorem mz:∀(l:List Slot) (c:HL l) (b:S),l.all Slot.flat=true->FlP l b->FlP [] (unpack l c b)
 |[],_,b,_,h=>h
 |x::l,c,b,g,h=>by
  simp only[r_,b_]at g;have drop:∀(i:Nat) (o:Ob),b.hp[i]? =some o->x.obj≠some i->(cq o).FlatO\/(o.vary=true/\∃x∈l,x.obj=some i):=by intro i o p B;rcases h.hp i o p with s|⟨s,y,C,w⟩;all_goals grind
  have f:∀(id:Nat) (o':Ob),x.obj=some id->(cq o').FlatO->FlP l ⟨b.fr,setAt b.hp id o'⟩:=λid o' D z=>⟨h.fr,λi o p=>by
   have d:(setAt b.hp id o')[i]? =some o:=p;rw[g8]at d;by_cases u:id=i;·grind
   ·rw[v_ u]at d;exact drop i o d (by grind)⟩
  cases x with
  |tm k t=>
   refine mz l c.2 _ g.2 ⟨λj v n=>?_,λi o p=>drop i o p (by simp[Slot.obj])⟩;simp only[lk]at n;cases r:c_ j k;·rw[r]at n;exact h.fr j v n
   ·rw[r]at n;simp only[cond_true,e_]at n;subst n;exact(qm t c.1 g.1).1
  |cell id j t=>
   refine mz l c.2 _ g.2 ⟨h.fr,λi o p=>?_⟩;have d:(setCell b.hp id j (.d t c.1))[i]? =some o:=p;unfold setCell at d;split at d
   ·rename_i E ds r;rw[g8,g8]at d;have hid:=(g_.1 r).1;by_cases u:id=i
    ·subst u;rw[E_ hid]at d;cases d;left;rcases h.hp id _ r with s|⟨s,_⟩
     ·intro y w;obtain⟨v,n,rfl⟩:=s_.1 w;rcases List.mem_or_eq_of_mem_set n with n|rfl;·exact s _ (U_ n)
      ·exact(qm t c.1 g.1).1
     ·cases s
    ·rw[v_ u]at d;exact drop i o d (by simp[Slot.obj])
   ·exact drop i o d (by simp[Slot.obj])
  |vec id e t=>exact mz l c.2 _ g.2 (f id _ rfl (zeH _ g.1))|map id k e a A=>have:=g.1;simp only[Slot.flat,b_]at this;exact mz l c.2 _ g.2 (f id _ rfl (zdm _ this))|tree id e k t=>exact mz l c.2 _ g.2 (f id _ rfl (NP _ g.1 none (.inl rfl)))|treeH id e k t j kid=>exact mz l c.2 _ g.2 (f id _ rfl (NP _ g.1 _ (.inr ⟨_,_,_,rfl⟩)))
theorem base_nil(sh:Sh):(sh.base ⟨[],[]⟩).fr=sh.sk.fr:=by
 have:∀l,fA [] l=[]:=λl=>by induction l with
  |nil=>rfl
  |cons k l a=>simp only[fA,lk,a]
 simp[Sh.base,this]
theorem zbh{sh:Sh}{s:S}{c:HL sh.sl}(r:sh.wfB=true)(h:pack sh s=some c)(A:sh.sl.all Slot.flat=true):(∀k v,lk (unpack sh.sl c (sh.base ⟨[],[]⟩)).fr k=some v->(bg v).FlatA)/\∀o∈(unpack sh.sl c (sh.base ⟨[],[]⟩)).hp,(cq o).FlatO:=by
 unfold pack at h;split at h
 ·rename_i d;simp only[b_,S.fits]at d;simp only[Sh.wfB,b_,m_]at r;obtain⟨x,z⟩:=Gg d.1.2;have key:FlP [] (unpack sh.sl c (sh.base ⟨[],[]⟩)):=mz sh.sl c _ A ⟨λk v j=>by
   rw[base_nil]at j;obtain⟨w,D,p⟩:=P8 d.1.1 (xH j);rw[rG (zeq p)];exact(Ns p).2.2,λi o l=>by
   have f:sh.sk.hp[i]? =some o:=l;have q:=M3 (i:=0) r.2 f;rw[ac_]at q;obtain⟨u,n⟩:=bJ x.symm f;have g:=z i o u f n;cases o with
   |gone=>exact .inl trivial|free=>exact .inl trivial|box t cs=>cases u<;>simp[Y2]at g;left;intro y C;obtain⟨v,j,rfl⟩:=s_.1 C;exact(BY _ _ g.2).2 v j
   |vec e t xs=>exact .inr ⟨rfl,q rfl⟩|map k e a b xs=>exact .inr ⟨rfl,q rfl⟩|tree e k t xs hole=>exact .inr ⟨rfl,q rfl⟩⟩
  refine⟨key.fr,λo l=>?_⟩;obtain⟨i,B⟩:=List.getElem?_of_mem l;rcases key.hp i o B with E|⟨_,_,F,_⟩;all_goals grind
 grind
theorem zeg{n:Nat}{fr:List (Nat×V)}(h:∀k v,lk fr k=some v->(bg v).FlatA):(bg (res n fr)).FlatA:=by
 unfold res;cases c_ n 1
 ·intro x c;obtain⟨v,b,rfl⟩:=s_.1 c;obtain⟨i,_,rfl⟩:=s_.1 b;cases hl:lk fr i with
  |none=>exact .any|some u=>
   have:=h i u hl;simp only[z_];cases a:u.isA;·rw[rG a]at this;exact this
   ·cases u<;>first|exact .any|cases a
 ·cases hl:lk fr 0 with|none=>exact .any|some u=>grind
theorem zgv{x:BV}{v:V}(h:LeA (.b x) (bg v)):LeB x (aX v):=by
 cases a:v.isA;·rw[rG a]at h;generalize aX v=y at h⊢;cases h with|refl=>exact .refl _|data _ p h=>exact .data _ _ h|any=>exact .any _
 ·cases v with|agg vs=>cases h|tup vs=>cases h|_=>cases a
theorem zhu{n:Nat}{fr fr':List (Nat×V)}(h:LeF fr fr')(c:Vf n fr=true):LeA (bg (res n fr)) (bg (res n fr')):=by
 unfold res;simp only[Vf]at c;cases hn:c_ n 1
 ·rw[hn,Bool.false_or,m_]at c;refine .tup _ _ (by simp[Eo]) λi x y e f=>?_;simp only[Eo,u_,n_]at e f;obtain⟨v,⟨j,g,rfl⟩,rfl⟩:=e;obtain⟨w,⟨k,b,rfl⟩,rfl⟩:=f;rw[g]at b;cases b;cases hl:lk fr' j with
  |none=>exact .any _|some v=>
   obtain⟨u,d,a⟩:=h j v hl;rw[d];have:u.isA=false:=by simpa using c _ (xH d)
   rw[rG this]at a;exact zgv a
 ·cases hl:lk fr' 0 with|none=>exact .any _|some v=>obtain⟨u,d,a⟩:=h 0 v hl;grind
theorem zav{P:Program}{f:FuncId}{ars:List AV}{os b a:List AObj}{r g:AV}(h:ACalls P f ars os λo=>o=some (r,b))(hr:LeA r g)(hl:b.length=a.length) (F:∀(i:Nat) (x y:AObj),b[i]? =some x->a[i]? =some y->LeO x y):ACalls P f ars os λo=>o=some (g,a):=by
 intro w θ D vs u z A B;refine(h w θ D vs u z A B).mono λe w' C=>?_;rcases C with⟨v,r1,H,θ',D',j,k,n,c,s⟩|⟨I,j,k,n,_⟩;·cases k;refine .inl ⟨v,g,a,θ',D',j,rfl,hr.rel n,⟨by rw[c.len,hl],c.dlt,c.inj,c.olt,λi l o E d=>?_⟩,s⟩;obtain⟨x,p⟩:=bJ hl d;exact(F i x o p d).rel (c.objs i l x E p)
 grind
structure OracleOk(P:Program)(O:ao):Prop where
 ret:∀f ars os s,O f ars os=some (some s)->ACalls P (f%10000) (ars.map bg) (os.map cq) λo=>o=some (bg (res s.fr.length s.fr),s.hp.map cq)
 pan:∀f ars os,O f ars os=some none->ACalls P (f%10000) (ars.map bg) (os.map cq) λo=>o=none
section
variable {R:Type} {P:Program} {O:ao} {d:Option Nat} {s:S} {κ kp:S->Option R} {r:R}
theorem BX(hO:OracleOk P O){f:FuncId}{ars:List V}{os:List Ob}{sh:Sh}{c:HL sh.sl}(j:sh.wfB=true)(h:aC O f ars os sh=some c): ACalls P (f%10000) (ars.map bg) (os.map cq) (λo=>o=some (bg (res sh.n (unpack sh.sl c (sh.base ⟨[],[]⟩)).fr),(unpack sh.sl c (sh.base ⟨[],[]⟩)).hp.map cq))/\(sh.sl.all Slot.flat=true->(bg (res sh.n (unpack sh.sl c (sh.base ⟨[],[]⟩)).fr)).FlatA/\∀o∈(unpack sh.sl c (sh.base ⟨[],[]⟩)).hp.map cq,o.FlatO):=by
 unfold aC at h;split at h
 ·rename_i s' d;obtain⟨a,e⟩:=aZ h;simp only[b_]at a;have hn:=a_ a.1;have s:∀k v,lk (fA (⟨[],[]⟩:S).fr sh.keep) k=some v->lk s'.fr k=some v:=by
   have:∀l,fA [] l=[]:=λl=>by induction l with
    |nil=>rfl
    |cons k l z=>simp only[fA,lk,z]
   intro k v g;rw[this]at g;cases g
  have b:=M8 (s0:=⟨[],[]⟩) j e s;have p:=b.le;refine⟨zav (hO.ret f ars os s' d) ?_ (by simp[b.len]) (λi x y u w=>p.hp i x y u w),λr=>?_⟩;·rw[hn];exact zhu b.fr a.2
  ·obtain⟨n,f2⟩:=zbh j e r;refine⟨zeg n,λo A=>?_⟩;grind
 grind
theorem TK(hO:OracleOk P O){f:FuncId}{ars:List V}{os:List Ob}{sh:Sh}{c:Option (HL sh.sl)}(h:lx O f ars os sh=some c):(∀d,c=some d->aC O f ars os sh=some d)/\(c=none->ACalls P (f%10000) (ars.map bg) (os.map cq) λo=>o=none):=by
 unfold lx at h;split at h
 ·rename_i s' b;obtain⟨k,e⟩:=aZ h;split at e;·rename_i j g;cases e;refine⟨λd a=>?_,(λhc=>by grind)⟩;cases a;unfold aC;grind
  grind
 ·rename_i b;cases h;exact⟨(λd a=>by grind),λ_=>hO.pan f ars os b⟩
 grind
theorem UI{B:List Nat}{v:V}(h:v.isD=true):rN (zY B) v=v:=by cases v<;>first|rfl|cases h
theorem G4(hO:OracleOk P O){pan bor:Bool}{B:List Nat}{f:FuncId}{ars:List V}{sh:Sh}(N:sh.wfB=true)(h:FV pan O s d bor B f ars sh κ kp=some r): ∃os:List Ob,(enc s).hp=(enc s).hp/\B.mapM ((enc s).hp[·]?)=some (os.map cq)/\(∀v∈ars,∀i∈v.ids,i∈B)/\sexec.callK P (enc s) d bor B (f%10000) (ars.map bg) (os.map cq) (λl=>∃s',l=enc s'/\Keeps (ji d) s s'/\κ s'=some r) (λl=>∃s',l=enc s'/\Keeps (ji d) s s'/\kp s'=some r):=by
 unfold FV at h;split at h
 ·rename_i os E;obtain⟨F,H⟩:=aZ h;simp only[b_,decide_eq_true_eq,m_,Bool.or_eq_true,x_]at F;obtain⟨⟨⟨C,p⟩,j⟩,z⟩:=F;have A:∀v∈ars,∀i∈v.ids,i∈B:=λv n=>allIn_mem.1 (p v n);have g:((ars.map (rN (V.ren (UG B)))).map bg)=(ars.map bg).map (AV.ren (B.idxOf ·)):=by rw[i_,i_];exact j_ λv _=>Mt _ v
  have e:((os.map (CK (V.ren (UG B)))).map cq)=(os.map cq).map (AObj.ren (B.idxOf ·)):=by rw[i_,i_];exact j_ λv _=>Hr _ v
  have jN:∀(b:List Ob) (v:V),Keeps (ji d) s ((s.back B b).putO d v):=λb v=>(Keeps.map (ji d) s (s.back B b) (zY B) (λv n=>UI n) rfl).trans (Keeps.put _ d v);have k:∀(b:List Ob),Keeps (ji d) s (s.back B b):=λb=>Keeps.map (ji d) s (s.back B b) (zY B) (λv n=>UI n) rfl;have J:∀c:HL sh.sl,aC O f (ars.map (rN (V.ren (UG B)))) (os.map (CK (V.ren (UG B)))) sh=some c->IH s d B sh.n sh κ c=some r->
   ACalls P (f%10000) ((ars.map bg).map (AV.ren (B.idxOf ·))) ((os.map cq).map (AObj.ren (B.idxOf ·))) λo=>match o with
    |some (I,b)=>(bor=true->I.FlatA/\∀o∈b,o.FlatO)/\∃s',((enc s).back B b).putO d (I.ren (kP B (enc s).hp.length))=enc s'/\Keeps (ji d) s s'/\κ s'=some r
    |none=>∃s',(enc s).back B ((os.map cq).map λ_=>.gone)=enc s'/\Keeps (ji d) s s'/\kp s'=some r:=by
   intro c hc y
   obtain⟨w,R⟩:=BX hO N hc
   rw[g,e]at w
   refine w.mono λo u=>?_
   subst u
   refine⟨λU=>R ?_,_,?_,jN _ _,y⟩
   ·grind
   ·rw[j7,Uw,Mt,LP];congr 2;simp[enc]
  refine⟨os,rfl,JY B os E,A,C,?_,?_,?_⟩;·intro a M i x;obtain⟨v,n,rfl⟩:=s_.1 M;rw[<-vp]at x;grind
  ·intro o u i x;obtain⟨o',D,rfl⟩:=s_.1 u;rw[<-Mw]at x;exact allIn_mem.1 (j o' D) i x
  ·cases pan with
   |false=>obtain⟨c,hc,y⟩:=dv H;grind
   |true=>obtain⟨Q,hc,y⟩:=dv H;obtain⟨T,L⟩:=TK hO hc;cases Q with|some c=>grind|none=>have w:=L rfl;rw[g,e]at w;refine w.mono λo u=>?_;subst u;refine⟨_,?_,k _,y⟩;rw[Uw];congr 1;rw[i_,i_];rfl
 grind
end
end Go.Ev
