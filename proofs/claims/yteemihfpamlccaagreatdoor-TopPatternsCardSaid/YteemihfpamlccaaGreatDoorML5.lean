import Derived.Test.YteemihfpamlccaaGreatDoorML1
import Derived.Test.YteemihfpamlccaaGreatDoorML3
set_option linter.unusedVariables false
set_option linter.unusedSimpArgs false
open Bool renaming and_eq_true->b_,rec->E_,not_eq_true'->H_,false_eq_true->Q_,and_true->aE_,true_and->aF_
open Int renaming toNat_natCast->ak_
open List renaming length_map->d_,getElem?_eq_some_iff->g_,map_map->i_,mapM_cons->j_,map_congr_left->k_,map_cons->m_,all_eq_true->n_,take_of_length_le->p_,getElem?_map->r_,all_cons->s_,mem_map->t_,getElem?_set_ne->u_,take_append_of_le_length->v_,length_append->x_,getElem?_set_self->A_,mem_cons_self->B_,map_append->C_,mem_cons->D_,drop_zero->F_,map_drop->G_,replicate->I_,any_eq_true->J_,map_take->K_,drop_append_of_le_length->L_,getD->P_,getElem?_append_right->R_,mem_singleton->S_,drop_eq_getElem_cons->U_,getElem?_append_left->V_,getElem?_eq_getElem->Y_,length_drop->Z_,mapM_append->aa_,contains_iff_mem->ad_,mem_of_getElem?->ae_,mem_map_of_mem->af_,take_succ_cons->ag_,mapM_nil->ai_,range->aj_,flatMap_cons->al_,getElem?_set->am_,map_nil->an_,drop_append->aq_,length_take->ar_,length->au_,all_append->aw_,append_nil->ax_,nil_append->ay_,drop_drop->aB_,drop_take->aC_,take_zero->aD_,all_map->aG_,flatMap->aH_
open Nat renaming eq_of_beq_eq_true->a_,beq->c_,le_of_ble_eq_true->h_,ble->l_,le_refl->z_,lor->N_,zero_add->O_,shiftRight->T_,add_mul->X_,land->ab_,and_comm->ao_,beq_refl->ap_,zero_testBit->as_,one_mul->av_,testBit_and->az_,add_zero->aI_,zero_mul->aJ_,zero_le->aK_
open Option renaming bind->f_,map_eq_some_iff->o_,bind_some->q_,getD_some->w_,rec->y_,map_some->M_,isNone_iff_eq_none->W_,bind_eq_bind->ah_,pure_def->aA_
open Option.some renaming injEq->e_,inj->aM_
open Prod renaming mk->ac_
open Sum renaming elim->aL_
namespace Go.Ev
open Go Go.RowKit Go.Av
inductive Rx where
 |mk (kind lo hi:Int) (kids:List Rx)
 deriving Inhabited
inductive Ty where
 |int (k:IntKind)
 |bool
 |str
 |list (t:Ty)
 |unit
 |pair (a b:Ty)
 |rx
 deriving Inhabited,DecidableEq
@[reducible] def Ty.den:Ty->Type
 | .int _=>Int
 | .bool=>Bool
 | .str=>List UInt8
 | .list t=>List t.den
 | .unit=>Unit
 | .pair a b=>a.den×b.den
 | .rx=>Rx
def Ty.sz:Ty->Nat
 | .unit=>0
 | .pair a b=>a.sz+b.sz
 | .rx=>4
 |_=>1
def Ty.ag:Ty->Bool
 | .unit=>true
 | .pair _ _=>true
 | .rx=>true
 |_=>false
mutual
def S0:Rx->PV
 | .mk k l h ks=>.agg [.sc (.int .i64 k),.sc (.int .i64 l),.sc (.int .i64 h),mF 4 (JQ ks)]
def JQ:List Rx->List PV
 |[]=>[]
 |r::rs=>S0 r::JQ rs
end
def aG:(t:Ty)->t.den->PV
 | .int k,x=>.sc (.int k x)
 | .bool,x=>.sc (.bool x)
 | .str,x=>.sc (.string ⟨x.toArray⟩)
 | .list t,x=>mF t.sz (x.map (aG t))
 | .unit,_=>.agg []
 | .pair a b,x=>.agg ((aG a x.1).cells++(aG b x.2).cells)
 | .rx,x=>S0 x
inductive V where
 |d (t:Ty) (x:t.den)
 |nil (t:Ty)
 |agg (vs:List V)
 |tup (vs:List V)
 |sl (id:Nat)
 |ptr (id off:Nat)
 |elt (id i off:Nat)
 |dp (t:Ty) (x:t.den)
 |clo (f:FuncId) (ids:List Nat)
 |fnD (f:FuncId) (cs:List ((t:Ty)×t.den))
 |mp (id:Nat)
 |full (t:Ty) (x:List t.den)
 |pel (id off n:Nat) (t:Ty) (i:Int)
 |raw (v:Value)
 |any
 |ifc
 |lit (k:K) (t:Ty) (xs:List t.den)
instance:Inhabited V:=⟨.raw Go.undef⟩
inductive Ob where
 |gone
 |free
 |box (tid:TypeId) (cs:List V)
 |vec (tid:TypeId) (t:Ty) (xs:List t.den)
 |map (k e:TypeId) (a b:Ty) (kvs:List (a.den×b.den))
 |tree (tid:TypeId) (k:K) (t:Ty) (xs:List t.den) (hole:Option (Nat×Nat×V))
instance:Inhabited Ob:=⟨.gone⟩
def cQ(k:K)(t:Ty)(x:t.den):PV:=match aG t x with
 | .agg cs=>.agg (cs.mapIdx λj y=>if(k.at j).isSome then nilP else y)
 |y=>if(k.at 0).isSome then nilP else y
def aM:V->BV
 | .d t x=>.pv (aG t x)
 | .nil _=>.nils
 | .sl id=>.sl id
 | .ptr id off=>.ptr id off
 | .elt id i off=>.elt id i off
 | .dp t x=>.pv (.pto (aG t x))
 | .clo f ids=>.clo (.func f) ids
 | .fnD f cs=>.pv (.fn (.func f) (cs.map λc=>.pto (aG c.1 c.2)))
 | .mp id=>.mp id
 | .full t x=>.full (mF t.sz (x.map (aG t)))
 | .raw v=>bI v
 | .pel id off _ t i=>.ptr id (off+i.toNat*t.sz)
 | .any=>.pv .any
 | .ifc=>.ifc
 | .lit k t xs=>.pv (mF t.sz (xs.map (cQ k t)))
 | .agg _=>.pv .any
 | .tup _=>.pv .any
def aT:V->AV
 | .agg vs=>.agg (vs.map aM)
 | .tup vs=>.tup (vs.map aM)
 |v=>.b (aM v)
def Xe:Option (Nat×Nat×V)->Option (Nat×Nat×BV)
 |some (i,j,v)=>some (i,j,aM v)
 |none=>none
def bU:Ob->AObj
 | .gone=>.gone
 | .free=>.free
 | .box t cs=>.box t (cs.map aM)
 | .vec e t xs=>.vec e t.sz (xs.map (aG t))
 | .map k e a b kvs=>.map k e (kvs.map λp=>(aG a p.1,aG b p.2))
 | .tree e k t xs h=>.tree e t.sz k (xs.map (aG t)) (Xe h)
structure S where
 fr:List (Nat×V)
 hp:List Ob
def enc(s:S):St:=⟨s.fr.map λx=>(x.1,aT x.2),s.hp.map bU⟩
def lk:List (Nat×V)->Nat->Option V
 |[],_=>none
 |(k,a)::l,t=>bif c_ t k then some a else lk l t
def S.put(s:S)(d:Nat)(v:V):S:=⟨(d,v)::s.fr,s.hp⟩
def S.putO(s:S)(d:Option Nat)(v:V):S:=match d with
 |some d=>s.put d v
 |none=>s
def cf(t u:Ty)(x:t.den):Option u.den:=if h:t=u then some (h▸x)else none
def aw{R:Type}(b:Bool)(x:Option R):Option R:=bif b then x else none
def aL{α:Type}(xs:List α)(i:Int):Option α:=bif decide (0<=i)then xs[i.toNat]? else none
def rxFields:Ty:=.pair (.int .i64) (.pair (.int .i64) (.pair (.int .i64) (.pair (.list .rx) .unit)))
def Rx.out:Rx->rxFields.den
 | .mk k l h ks=>(k,l,h,ks,())
def s9:(t:Ty)->(off:Nat)->(u:Ty)->t.den->Option u.den
 | .pair a b,off,u,x=>bif (decide (Ty.pair a b=u)&&c_ off 0)then cf (.pair a b) u x else bif l_ (off+1) a.sz then s9 a off u x.1 else s9 b (off - a.sz) u x.2
 | .rx,off,u,x=>match off with
  |0=>bif decide (u= .rx)then cf .rx u x else cf (.int .i64) u x.out.1
  |1=>cf (.int .i64) u x.out.2.1
  |2=>cf (.int .i64) u x.out.2.2.1
  |3=>cf (.list .rx) u x.out.2.2.2.1
  |_=>none
 |t,off,u,x=>bif c_ off 0 then cf t u x else none
def lY:(t:Ty)->(off:Nat)->(u:Ty)->t.den->u.den->Option t.den
 | .pair a b,off,u,x,y=>bif (decide (Ty.pair a b=u)&&c_ off 0)then cf u (.pair a b) y else bif l_ (off+1) a.sz then(match lY a off u x.1 y with|some z=>some (z,x.2)|none=>none)else(match lY b (off - a.sz) u x.2 y with|some z=>some (x.1,z)|none=>none)
 | .rx,off,u,x,y=>bif c_ off 0&&decide (u= .rx)then cf u .rx y else none
 |t,off,u,_,y=>bif c_ off 0 then cf u t y else none
def gr:(t:Ty)->t.den->List V
 | .unit,_=>[]
 | .pair a b,x=>gr a x.1++gr b x.2
 | .rx,x=>[.d (.int .i64) x.out.1,.d (.int .i64) x.out.2.1,.d (.int .i64) x.out.2.2.1,.d (.list .rx) x.out.2.2.2.1]
 |t,x=>[.d t x]
def iP(u:Ty):V->Option u.den
 | .d t x=>cf t u x
 | .nil t=>cf (.list t) u ([]:List t.den)
 | .full t x=>cf (.list t) u x
 |_=>none
def Ph:(t:Ty)->List V->Option (t.den×List V)
 | .unit,l=>some ((),l)
 | .pair a b,l=>match Ph a l with
  |some (x,l)=>match Ph b l with
   |some (y,l)=>some ((x,y),l)
   |none=>none
  |none=>none
 | .rx,l=>match l with
  |a::b::c::e::l=>match iP (.int .i64) a,iP (.int .i64) b,iP (.int .i64) c,iP (.list .rx) e with
   |some a,some b,some c,some e=>some (.mk a b c e,l)
   |_,_,_,_=>none
  |_=>none
 |t,l=>match l with
  |v::l=>match iP t v with
   |some x=>some (x,l)
   |none=>none
  |[]=>none
def dD(t:Ty)(v:V):Option t.den:=match v with
 | .agg vs=>match t.ag with
  |true=>match Ph t vs with
   |some (x,[])=>some x
   |_=>none
  |false=>none
 |v=>iP t v
def cS:V->List V
 | .d t x=>gr t x
 | .agg vs=>vs
 |v=>[v]
def whole(t:Ty)(cs:List V):V:=match t.ag with
 |true=>.agg cs
 |false=>match cs.headD default with
  | .agg _=>.any
  | .tup _=>.any
  |v=>v
def V.cellB:V->Bool
 | .d t _=> !t.ag
 | .agg _=>false
 | .tup _=>false
 | .any=>false
 | .lit _ _ _=>false
 | .raw v=>v.oneCell'
 |_=>true
def V.okB:V->Bool
 | .d _ _=>true
 | .agg vs=>vs.all V.cellB
 | .tup _=>false
 |v=>v.cellB
def V.cellD:V->Bool
 | .d _ _=>true
 | .nil _=>true
 | .full _ _=>true
 |_=>false
def CP:(t:Ty)->t.den->t.den->Bool
 | .int _,x,y=>x==y
 | .bool,x,y=>x==y
 | .str,x,y=>x==y
 | .unit,_,_=>true
 | .pair a b,x,y=>CP a x.1 y.1&&CP b x.2 y.2
 |_,_,_=>false
def Ty.eqOk:Ty->Bool
 | .int _=>true
 | .bool=>true
 | .str=>true
 | .unit=>true
 | .pair a b=>a.eqOk&&b.eqOk
 |_=>false
def gN(a b:Ty):List (a.den×b.den)->a.den->Option b.den
 |[],_=>none
 |(k,v)::l,x=>bif CP a x k then some v else gN a b l x
def mg(a b:Ty):List (a.den×b.den)->a.den->b.den->List (a.den×b.den)
 |[],x,y=>[(x,y)]
 |(k,v)::l,x,y=>bif CP a x k then(x,y)::l else(k,v)::mg a b l x y
def Ty.zero:(t:Ty)->t.den
 | .int _=>(0:Int)
 | .bool=>false
 | .str=>[]
 | .list _=>[]
 | .unit=>()
 | .pair a b=>(a.zero,b.zero)
 | .rx=>.mk 0 0 0 []
def Ty.flat:Ty->Bool
 | .list _=>false
 | .rx=>false
 | .pair a b=>a.flat&&b.flat
 |_=>true
inductive X where
 |tm (k:Nat)
 |k (t:Ty) (x:t.den)
 |nil (t:Ty)
 |ag (vs:List V)
 |f (n:Nat)
 |raw (v:Value)
 deriving Inhabited
def S.get(s:S):X->Option V
 | .tm k=>lk s.fr k
 | .k t x=>some (.d t x)
 | .nil t=>some (.nil t)
 | .ag vs=>some (.agg vs)
 | .f n=>some (.fnD n [])
 | .raw v=>some (.raw v)
inductive Slot where
 |tm (k:Nat) (t:Ty)
 |cell (id j:Nat) (t:Ty)
 |vec (id:Nat) (e:TypeId) (t:Ty)
 |map (id:Nat) (k e:TypeId) (a b:Ty)
 |tree (id:Nat) (e:TypeId) (k:K) (t:Ty)
 |treeH (id:Nat) (e:TypeId) (k:K) (t:Ty) (j kid:Nat)
@[reducible] def Slot.ty:Slot->Ty
 | .tm _ t=>t
 | .cell _ _ t=>t
 | .vec _ _ t=>.list t
 | .map _ _ _ a b=>.list (.pair a b)
 | .tree _ _ _ t=>.list t
 | .treeH _ _ _ t _ _=>.pair (.list t) (.int .i64)
@[reducible] def HL:List Slot->Type
 |[]=>Unit
 |s::l=>s.ty.den×HL l
structure Sh where
 keep:List Nat
 sk:S
 sl:List Slot
def V.isD:V->Bool
 | .d _ _=>true
 | .dp _ _=>true
 | .fnD _ _=>true
 |_=>false
def dG(fr:List (Nat×V)):List Nat->List (Nat×V)
 |[]=>[]
 |k::l=>match lk fr k with
  |some v=>bif v.isD then(k,v)::dG fr l else dG fr l
  |none=>dG fr l
def Td(fr:List (Nat×V))(k:Nat):Bool:=match lk fr k with
 |some v=>v.isD
 |none=>false
def Sh.base(sh:Sh)(s:S):S:=⟨dG s.fr sh.keep++sh.sk.fr,sh.sk.hp⟩
def setAt{α:Type}:List α->Nat->α->List α
 |[],_,_=>[]
 |_::l,0,y=>y::l
 |x::l,n+1,y=>x::setAt l n y
def setCell(hp:List Ob)(id j:Nat)(v:V):List Ob:=match hp[id]? with
 |some (.box t cs)=>setAt hp id (.box t (setAt cs j v))
 |_=>hp
def unpack:(sl:List Slot)->HL sl->S->S
 |[],_,s=>s
 | .tm k t::l,c,s=>unpack l c.2 ⟨(k,.d t c.1)::s.fr,s.hp⟩
 | .cell id j t::l,c,s=>unpack l c.2 ⟨s.fr,setCell s.hp id j (.d t c.1)⟩
 | .vec id e t::l,c,s=>unpack l c.2 ⟨s.fr,setAt s.hp id (.vec e t c.1)⟩
 | .map id k e a b::l,c,s=>unpack l c.2 ⟨s.fr,setAt s.hp id (.map k e a b c.1)⟩
 | .tree id e k t::l,c,s=>unpack l c.2 ⟨s.fr,setAt s.hp id (.tree e k t c.1 none)⟩
 | .treeH id e k t j kid::l,c,s=>unpack l c.2 ⟨s.fr,setAt s.hp id (.tree e k t c.1.1 (some (Int.toNat c.1.2,j,.sl kid)))⟩
def V.same:V->V->Bool
 | .sl i,.sl j=>c_ i j
 | .ptr i o,.ptr j p=>c_ i j&&c_ o p
 | .mp i,.mp j=>c_ i j
 | .clo f is,.clo g js=>c_ f g&&decide (is=js)
 | .nil t,.nil u=>decide (t=u)
 | .raw (.pointer none),.raw (.pointer none)=>true
 | .raw (.map none),.raw (.map none)=>true
 | .raw .nilFunc,.raw .nilFunc=>true
 | .raw .nilIface,.raw .nilIface=>true
 |_,_=>false
def lA:List V->List V->Bool
 |[],[]=>true
 | .any::l,_::m=>lA l m
 | .agg xs::l,.agg ys::m=>(xs.length==ys.length)&&lA l m
 |x::l,y::m=>V.same x y&&lA l m
 |_,_=>false
def PW:Ob->Ob->Bool
 | .gone,_=>true
 | .box t cs,.box u ds=>c_ t u&&lA cs ds
 | .vec e t _,.vec e' t' _=>c_ e e'&&decide (t=t')
 | .map k e a b _,.map k' e' a' b' _=>c_ k k'&&c_ e e'&&decide (a=a')&&decide (b=b')
 | .tree e k t _ h,.tree e' k' t' _ h'=>c_ e e'&&decide (k=k')&&decide (t=t')&&(match h,h' with
  |none,none=>true
  |some (_,j,.sl a),some (_,j',.sl a')=>c_ j j'&&c_ a a'
  |_,_=>false)
 |_,_=>false
def Cf:List Ob->List Ob->Bool
 |[],[]=>true
 |a::l,b::m=>PW a b&&Cf l m
 |_,_=>false
def FC(fr:List (Nat×V)):List (Nat×V)->Bool
 |[]=>true
 |(k,v)::l=>(match lk fr k with|some w=>V.same v w|none=>false)&&FC fr l
def S.fits(sk s:S):Bool:=FC s.fr sk.fr&&Cf sk.hp s.hp
def gF(s:S):(x:Slot)->Option x.ty.den
 | .tm k t=>match lk s.fr k with
  |some v=>dD t v
  |none=>none
 | .cell id j t=>match s.hp[id]? with
  |some (.box _ cs)=>match cs[j]? with
   |some v=>iP t v
   |none=>none
  |_=>none
 | .vec id _ t=>match s.hp[id]? with
  |some (.vec _ u xs)=>cf (.list u) (.list t) xs
  |_=>none
 | .map id _ _ a b=>match s.hp[id]? with
  |some (.map _ _ a' b' kvs)=>cf (.list (.pair a' b')) (.list (.pair a b)) kvs
  |_=>none
 | .tree id _ _ t=>match s.hp[id]? with
  |some (.tree _ _ u xs none)=>cf (.list u) (.list t) xs
  |_=>none
 | .treeH id _ _ t _ _=>match s.hp[id]? with
  |some (.tree _ _ u xs (some (i,_,_)))=>match cf (.list u) (.list t) xs with
   |some xs=>some (xs,(i:Int))
   |none=>none
  |_=>none
def FT(s:S):(sl:List Slot)->Option (HL sl)
 |[]=>some ()
 |x::l=>match gF s x with
  |some c=>match FT s l with
   |some r=>some (c,r)
   |none=>none
  |none=>none
def pack(sh:Sh)(s:S):Option (HL sh.sl):=match S.fits sh.sk s&&sh.keep.all (Td s.fr)with
 |true=>FT s sh.sl
 |false=>none
def I7(hp:List Ob):Slot->Bool
 | .vec id e t=>match hp[id]? with
  |some (.vec e' t' _)=>c_ e e'&&decide (t=t')
  |_=>false
 | .map id k e a b=>match hp[id]? with
  |some (.map k' e' a' b' _)=>c_ k k'&&c_ e e'&&decide (a=a')&&decide (b=b')
  |_=>false
 | .tree id e k t=>match hp[id]? with
  |some (.tree e' k' t' _ none)=>c_ e e'&&decide (k=k')&&decide (t=t')
  |_=>false
 | .treeH id e k t j kid=>match hp[id]? with
  |some (.tree e' k' t' _ (some (_,j',.sl kid')))=>c_ e e'&&decide (k=k')&&decide (t=t')&&c_ j j'&&c_ kid kid'
  |_=>false
 |_=>true
def Vy(sl:List Slot):Nat->List Ob->Bool
 |_,[]=>true
 |i,o::l=>(match o with
  | .vec _ _ _=>sl.any λx=>match x with
   | .vec j _ _=>c_ j i
   |_=>false
  | .map _ _ _ _ _=>sl.any λx=>match x with
   | .map j _ _ _ _=>c_ j i
   |_=>false
  | .tree _ _ _ _ _=>sl.any λx=>match x with
   | .tree j _ _ _=>c_ j i
   | .treeH j _ _ _ _ _=>c_ j i
   |_=>false
  |_=>true)&&Vy sl (i+1) l
def Sh.wfB(sh:Sh):Bool:=sh.sl.all (I7 sh.sk.hp)&&Vy sh.sl 0 sh.sk.hp
@[reducible] def XT:List (Nat×Sh)->Type
 |[]=>Empty
 |[(_,sh)]=>HL sh.sl
 |(_,sh)::l=>HL sh.sl⊕XT l
def inj:(xs:List (Nat×Sh))->Nat->S->Option (XT xs)
 |[],_,_=>none
 |[(k,sh)],key,s=>bif c_ k key then pack sh s else none
 |(k,sh)::a::l,key,s=>bif c_ k key then(match pack sh s with|some c=>some (.inl c)|none=>none)else(match inj (a::l) key s with|some c=>some (.inr c)|none=>none)
def jC{R:Type}(s:S)(κ:Nat->S->Option R):(xs:List (Nat×Sh))->XT xs->Option R
 |[],_=>none
 |[(k,sh)],c=>κ k (unpack sh.sl c (sh.base s))
 |(k,sh)::a::l,c=>aL_ (λc=>κ k (unpack sh.sl c (sh.base s))) (λc=>jC s κ (a::l) c) c
inductive Adj where
 |freeze (id:Nat)
 |adopt (k:Nat) (e:TypeId) (t:Ty)
 |adoptC (id j:Nat) (e:TypeId) (t:Ty)
 |sel (ids:List Nat) (ks:List Nat)
 |drop (ks:List Nat)
 |focus (id k j:Nat) (u:Ty)
 |close (id:Nat)
 |adoptT (k:Nat) (e:TypeId) (kk:K) (t:Ty)
 |adoptCT (id j:Nat) (e:TypeId) (kk:K) (t:Ty)
def V.ren(ρ:Nat->Nat):V->V
 | .sl id=>.sl (ρ id)
 | .ptr id off=>.ptr (ρ id) off
 | .pel id off n t i=>.pel (ρ id) off n t i
 | .elt id i off=>.elt (ρ id) i off
 | .clo f ids=>.clo f (ids.map ρ)
 | .mp id=>.mp (ρ id)
 |x=>x
def V.ids1:V->List Nat
 | .sl id=>[id]
 | .ptr id _=>[id]
 | .pel id _ _ _ _=>[id]
 | .elt id _ _=>[id]
 | .clo _ ids=>ids
 | .mp id=>[id]
 |_=>[]
def mG(g:V->V):V->V
 | .agg vs=>.agg (vs.map g)
 | .tup vs=>.tup (vs.map g)
 |v=>g v
def Xk(g:V->V):Option (Nat×Nat×V)->Option (Nat×Nat×V)
 |some (i,j,v)=>some (i,j,g v)
 |none=>none
def wy(g:V->V):Ob->Ob
 | .box t cs=>.box t (cs.map g)
 | .tree e k t xs h=>.tree e k t xs (Xk g h)
 |o=>o
def V.ids:V->List Nat
 | .agg vs=>vs.flatMap V.ids1
 | .tup vs=>vs.flatMap V.ids1
 |v=>v.ids1
def V.kids1:V->List Nat
 | .sl id=>[id]
 | .elt id _ _=>[id]
 |_=>[]
def V.kids:V->List Nat
 | .agg vs=>vs.flatMap V.kids1
 | .tup vs=>vs.flatMap V.kids1
 |v=>v.kids1
def Ob.kids:Ob->List Nat
 | .box _ cs=>cs.flatMap V.kids1
 | .tree _ _ _ _ (some (_,_,v))=>v.kids1
 |_=>[]
def Ob.ids:Ob->List Nat
 | .box _ cs=>cs.flatMap V.ids1
 | .tree _ _ _ _ (some (_,_,v))=>v.ids1
 |_=>[]
def S.map(g:V->V)(s:S):S:=⟨s.fr.map λx=>(x.1,mG g x.2),s.hp.map (wy g)⟩
def V.kill1(id:Nat):V->V
 | .sl k=>bif c_ k id then .any else .sl k
 | .elt k i o=>bif c_ k id then .any else .elt k i o
 |v=>v
def S.moved(s:S)(id:Nat)(o:Ob):S:=⟨s.fr.map λx=>(x.1,mG (V.kill1 id) x.2),setAt (s.hp.map (wy (V.kill1 id))) id o⟩
def J2(l:List Nat)(x:Nat):Nat:=l.idxOf x
def mf(l:List Nat)(x:Nat):Bool:=l.any (c_ x)
def allIn(l m:List Nat):Bool:=m.all (mf l)
def Sg(id:Nat)(t:Ty)(x:List t.den):V->V
 | .sl k=>bif c_ k id then .d (.list t) x else .sl k
 | .elt k i o=>bif c_ k id then .any else .elt k i o
 |v=>v
def xn(e:TypeId)(k:K)(u:Ty)(L:List u.den):Ob:=bif k.allF then .vec e u L else .tree e k u L none
def El(e:TypeId)(k:K)(u:Ty):Ob->Option (List u.den)
 | .vec e' t xs=>bif k.allF&&c_ e e' then cf (.list t) (.list u) xs else none
 | .tree e' k' t xs none=>bif !k.allF&&c_ e e'&&decide (k=k')then cf (.list t) (.list u) xs else none
 |_=>none
def U7:Ty->Nat->Option Ty
 | .list u,0=>some u
 | .pair a b,off=>bif l_ (off+1) a.sz then U7 a off else U7 b (off - a.sz)
 |_,_=>none
def adj:Adj->S->Option S
 | .freeze id,s=>match s.hp[id]? with
  |some (.vec _ t xs)=>some (let s':=s.map (Sg id t xs);⟨s'.fr,setAt s'.hp id .gone⟩)
  |some (.tree _ _ t xs none)=>some (let s':=s.map (Sg id t xs);⟨s'.fr,setAt s'.hp id .gone⟩)
  |_=>none
 | .focus id k j u,s=>match lk s.fr k,s.hp[id]? with
  |some (.d (.int _) n),some (.tree e kk t xs none)=>match kk.at j with
   |some (e',sz',k')=>bif c_ sz' u.sz&&decide (0<=n)then f_ xs[n.toNat]? λx=>(match s9 t j (.list u) x with
    |some L=>some ⟨s.fr,setAt s.hp id (.tree e kk t xs (some (n.toNat,j,.sl s.hp.length)))++[xn e' k' u L]⟩
    |none=>none)else none
   |none=>none
  |_,_=>none
 | .close id,s=>match s.hp[id]? with
  |some (.tree e kk t xs (some (i,j,.sl kid)))=>bif c_ kid id then none else(match kk.at j,s.hp[kid]?,U7 t j with
   |some (e',sz',k'),some o,some u=>match El e' k' u o with
    |some L=>bif c_ sz' u.sz then f_ xs[i]? λx=>(match lY t j (.list u) x L with
     |some y=>some (let s':=s.moved kid .gone;⟨s'.fr,setAt s'.hp id (.tree e kk t (xs.set i y) none)⟩)
     |none=>none)else none
    |none=>none
   |_,_,_=>none)
  |_=>none
 | .adopt k e t,s=>match lk s.fr k with
  |some (.nil _)=>some ⟨(k,.sl s.hp.length)::s.fr,s.hp++[.vec e t []]⟩
  |_=>none
 | .adoptC id j e t,s=>match s.hp[id]? with
  |some (.box u cs)=>match cs[j]? with
   |some (.nil _)=>some ⟨s.fr,setAt s.hp id (.box u (setAt cs j (.sl s.hp.length)))++[.vec e t []]⟩
   |_=>none
  |_=>none
 | .adoptT k e kk t,s=>match lk s.fr k with
  |some (.nil _)=>some ⟨(k,.sl s.hp.length)::s.fr,s.hp++[.tree e kk t [] none]⟩
  |_=>none
 | .adoptCT id j e kk t,s=>match s.hp[id]? with
  |some (.box u cs)=>match cs[j]? with
   |some (.nil _)=>some ⟨s.fr,setAt s.hp id (.box u (setAt cs j (.sl s.hp.length)))++[.tree e kk t [] none]⟩
   |_=>none
  |_=>none
 | .sel ids ks,s=>match ids.mapM (λi=>s.hp[i]?),ks.mapM (λk=>(lk s.fr k).map λv=>(k,v))with
  |some os,some fr=>bif decide ids.Nodup&&os.all (λo=>allIn ids o.ids)&&fr.all (λx=>allIn ids x.2.ids)then
   some ⟨fr.map λx=>(x.1,mG (V.ren (J2 ids)) x.2),os.map (wy (V.ren (J2 ids)))⟩else none
  |_,_=>none
 | .drop ks,s=>some ⟨s.fr.filter λx=> !mf ks x.1,s.hp⟩
def SB:List Adj->S->Option S
 |[],s=>some s
 |a::l,s=>match adj a s with
  |some s=>SB l s
  |none=>none
def SA{R:Type}:Adj->S->(S->Option R)->Option R
 | .focus id k j u,s,κ=>match lk s.fr k,s.hp[id]? with
  |some (.d (.int _) n),some (.tree e kk t xs none)=>match kk.at j with
   |some (e',sz',k')=>bif c_ sz' u.sz then aw (decide (0<=n)) (f_ xs[n.toNat]? λx=>(match s9 t j (.list u) x with
    |some L=>κ ⟨s.fr,setAt s.hp id (.tree e kk t xs (some (n.toNat,j,.sl s.hp.length)))++[xn e' k' u L]⟩
    |none=>none))else none
   |none=>none
  |_,_=>none
 | .close id,s,κ=>match s.hp[id]? with
  |some (.tree e kk t xs (some (i,j,.sl kid)))=>bif c_ kid id then none else(match kk.at j,s.hp[kid]?,U7 t j with
   |some (e',sz',k'),some o,some u=>match El e' k' u o with
    |some L=>bif c_ sz' u.sz then f_ xs[i]? λx=>(match lY t j (.list u) x L with
     |some y=>κ (let s':=s.moved kid .gone;⟨s'.fr,setAt s'.hp id (.tree e kk t (xs.set i y) none)⟩)
     |none=>none)else none
    |none=>none
   |_,_,_=>none)
  |_=>none
 |a,s,κ=>match adj a s with
  |some s=>κ s
  |none=>none
def yk{R:Type}:List Adj->S->(S->Option R)->Option R
 |[],s,κ=>κ s
 |a::l,s,κ=>SA a s λs=>yk l s κ
inductive Arg where
 |d (t:Ty)
 |x
inductive TOp where
 |mv (x:X)
 |pick (c a b:X)
 |bin (op:BinOp) (x y:X)
 |eqB (neg:Bool) (x y:X)
 |eqT (neg:Bool) (tid:TypeId) (t:Ty) (x y:X)
 |un (op:UnOp) (x:X)
 |len (str:Bool) (x:X)
 |lenM (k e:TypeId) (x:X)
 |idxS (x i:X)
 |idxV (n:Nat) (t:Ty) (x i:X)
 |idxA (t:Ty) (x i:X)
 |idxP (n:Nat) (t:Ty) (x i:X)
 |fldA (off:Nat) (t:Ty) (x:X)
 |fld (off:Nat) (t:Ty) (x:X)
 |load (t:Ty) (x:X)
 |store (t:Ty) (x v:X)
 |alloc (tid:TypeId) (zero:List V)
 |box (tid:TypeId) (x:X)
 |boxD (tid:TypeId) (t:Ty) (x:X)
 |build (zero:List V) (parts:List (Nat×Nat×X))
 |bslice (own:Bool) (tid:TypeId) (t:Ty) (len:Nat) (parts:List X)
 |mslice (tid:TypeId) (t:Ty) (bytes:Nat) (l c:X)
 |append (tid:TypeId) (t:Ty) (bytes:Nat) (x y:X)
 |cvtI (k:IntKind) (x:X)
 |slc (full:Bool) (t:Ty) (x:X) (lo hi mx:Option X)
 |slcS (x:X) (lo hi:Option X)
 |ext (x:X) (i:Nat)
 |nilc (x:X)
 |call (bor:Bool) (f:FuncId) (args:List (Arg×X)) (sh:Sh)
 |callA (pan bor:Bool) (B:List Nat) (f:FuncId) (args:List (Arg×X)) (sh:Sh)
 |callv (pan bor:Bool) (B:List Nat) (num:Nat) (x:X) (args:List (Arg×X)) (sh:Sh)
 |b2s (x:X)
 |mkfn (f:FuncId) (caps:List X)
 |mkmap (k e:TypeId) (a b:Ty)
 |lookup (k e:TypeId) (ok:Bool) (a b:Ty) (m x:X)
 |mapset (k e:TypeId) (a b:Ty) (m x v:X)
 |copy (tid:TypeId) (t:Ty) (x y:X)
 |mnmx (mx:Bool) (k:IntKind) (x:X) (ys:List X)
 |panic (x:X)
 |iface (tid:TypeId) (x:X)
 |bsliceF (tid:TypeId) (t:Ty) (len:Nat) (parts:List X)
 |appD (tid:TypeId) (t:Ty) (bytes:Nat) (x y:X)
 |bsliceN (tid:TypeId) (k:K) (t:Ty) (len:Nat) (parts:List X)
 |msliceT (tid:TypeId) (k:K) (u:Ty) (bytes:Nat) (l c:X)
 |appT (tid:TypeId) (k:K) (t:Ty) (bytes:Nat) (x y:X)
 |callp (bor:Bool) (num:Nat) (x:X) (args:List (Arg×X)) (sh:Sh)
 |atq(k:Nat) (op:TOp)
abbrev ak:=FuncId->List V->List Ob->Option (Option S)
section
variable {R:Type}
def UX(op:BinOp)(k k':IntKind)(a b:Int)(κ:V->Option R):Option R:=
 match op with
 | .shl=>aw (decide (0<=b)) (κ (.d (.int k) (k.wrap (a*2^(min b.toNat k.bits)))))
 | .shr=>aw (decide (0<=b)) (κ (.d (.int k) (a.fdiv (2^(min b.toNat k.bits)))))
 |op=>bif decide (k=k')then(match op with
  | .add=>κ (.d (.int k) (k.wrap (a+b)))
  | .sub=>κ (.d (.int k) (k.wrap (a - b)))
  | .mul=>κ (.d (.int k) (k.wrap (a*b)))
  | .quo=>aw (b != 0) (κ (.d (.int k) (k.wrap (a.tdiv b))))
  | .rem=>aw (b != 0) (κ (.d (.int k) (a.tmod b)))
  | .and=>κ (.d (.int k) (fb k .and a b))
  | .or=>κ (.d (.int k) (fb k .or a b))
  | .xor=>κ (.d (.int k) (fb k .xor a b))
  | .andNot=>κ (.d (.int k) (fb k .andNot a b))
  | .eql=>κ (.d .bool (a==b))
  | .neq=>κ (.d .bool (a != b))
  | .lss=>κ (.d .bool (decide (a<b)))
  | .leq=>κ (.d .bool (decide (a<=b)))
  | .gtr=>κ (.d .bool (decide (a>b)))
  | .geq=>κ (.d .bool (decide (a>=b)))
  |_=>none)else none
def UY(op:BinOp)(a b:List UInt8)(κ:V->Option R):Option R:=
 match op with
 | .add=>aw (decide (a.length+b.length<=9223372036854775807)) (κ (.d .str (a++b)))
 | .eql=>κ (.d .bool (a==b))
 | .neq=>κ (.d .bool (!(a==b)))
 | .lss=>κ (.d .bool (Op.bytesLess a b))
 | .leq=>κ (.d .bool (Op.bytesLess a b||a==b))
 | .gtr=>κ (.d .bool (!(Op.bytesLess a b||a==b)))
 | .geq=>κ (.d .bool (!(Op.bytesLess a b)))
 |_=>none
def intOf(v:Option V)(κ:Int->Option R):Option R:=match v with
 |some (.d (.int _) n)=>κ n
 |_=>none
def sA(hp:List Ob)(t:Ty)(v:Option V)(κ:List t.den->Option R):Option R:=match v with
 |some (.sl id)=>match hp[id]? with
  |some (.vec _ u xs)=>match cf (.list u) (.list t) xs with
   |some xs=>κ xs
   |none=>none
  |_=>none
 |some v=>match iP (.list t) v with
  |some xs=>κ xs
  |none=>none
 |none=>none
def ET(s:S)(x:Option X)(dflt:Nat)(κ:Nat->Option R):Option R:=match x with
 |none=>κ dflt
 |some x=>intOf (s.get x) λn=>aw (decide (0<=n)) (κ n.toNat)
def rowAt(t:Ty):Nat->V->Int->Option t.den
 |n+1,.d (.pair a b) x,m=>match cf a t x.1 with
  |some y=>bif decide (m=0)then some y else rowAt t n (.d b x.2) (m - 1)
  |none=>none
 |n+1,.agg vs,m=>match Ph t vs with
  |some (x,l)=>bif decide (m=0)then some x else rowAt t n (.agg l) (m - 1)
  |none=>none
 |_,_,_=>none
def zq(t:Ty)(y:t.den):Nat->List V->Int->Option (List V)
 |n+1,vs,m=>match Ph t vs with
  |some (x,l)=>match zq t y n l (m - 1)with
   |some r=>some (gr t (bif decide (m=0)then y else x)++r)
   |none=>none
  |none=>none
 |0,vs,_=>some vs
def loadT(hp:List Ob)(t:Ty)(v:Option V)(κ:V->Option R):Option R:=match v with
 |some (.dp u x)=>match cf u t x with
  |some x=>κ (.d t x)
  |none=>none
 |some (.ptr id off)=>match hp[id]? with
  |some (.box _ cs)=>bif l_ (off+t.sz) cs.length then κ (whole t ((cs.drop off).take t.sz))else none
  |_=>none
 |some (.pel id off n u m)=>match hp[id]? with
  |some (.box _ cs)=>bif l_ (off+n*u.sz) cs.length&&decide (u=t)then f_ (rowAt t n (.agg ((cs.drop off).take (n*u.sz))) m) λx=>κ (.d t x)else none
  |_=>none
 |some (.elt id i off)=>match hp[id]? with
  |some (.vec _ u xs)=>bif decide (u=t)|| !c_ t.sz u.sz then f_ xs[i]? λx=>(match s9 u off t x with
   |some y=>κ (.d t y)
   |none=>none)else none
  |some (.tree _ k u xs hole)=>bif k.flatB off t.sz then f_ xs[i]? λx=>(match s9 u off t x with
   |some y=>κ (.d t y)
   |none=>none)else(match hole with
    |some (hi,hj,v)=>bif c_ hj off&& !t.ag&&l_ (off+1) u.sz&&(match v with| .sl _=>true|_=>false)then f_ xs[i]? λ_=>aw (c_ hi i) (κ v)else none
    |none=>none)
  |_=>none
 |_=>none
def jc(cs:List V)(off:Nat)(vs:List V):List V:=cs.take off++vs++cs.drop (off+vs.length)
def storeT(s:S)(t:Ty)(a:Option V)(v:Option V)(κ:S->Option R):Option R:=match a,v with
 |some (.ptr id off),some v=>match s.hp[id]? with
  |some (.box tid cs)=>bif c_ (cS v).length t.sz&&l_ (off+t.sz) cs.length&&v.okB then κ ⟨s.fr,setAt s.hp id (.box tid (jc cs off (cS v)))⟩else none
  |_=>none
 |some (.pel id off n u m),some v=>match s.hp[id]?,dD t v with
  |some (.box tid cs),some y=>bif l_ (off+n*u.sz) cs.length&&decide (u=t)&&l_ 1 t.sz then(match zq t y n ((cs.drop off).take (n*u.sz)) m with
   |some vs=>aw (decide (0<=m)&&decide (m<n)) (κ ⟨s.fr,setAt s.hp id (.box tid (jc cs off vs))⟩)
   |none=>none)else none
  |_,_=>none
 |some (.elt id i off),some v=>match s.hp[id]?,dD t v with
  |some (.vec e u xs),some y=>bif decide (u=t)|| !c_ t.sz u.sz then f_ xs[i]? λx=>(match lY u off t x y with
   |some z=>κ ⟨s.fr,setAt s.hp id (.vec e u (xs.set i z))⟩
   |none=>none)else none
  |some (.tree e k u xs hole),some y=>bif k.flatB off t.sz&&u.ag then f_ xs[i]? λx=>(match lY u off t x y with
   |some z=>κ ⟨s.fr,setAt s.hp id (.tree e k u (xs.set i z) hole)⟩
   |none=>none)else none
  |some (.tree e k u xs (some (hi,hj,_))),none=>(match v with
   | .sl kid=>bif c_ hj off&&c_ t.sz 1&&l_ (off+1) u.sz then f_ xs[i]? λ_=>aw (c_ hi i) (κ ⟨s.fr,setAt s.hp id (.tree e k u xs (some (hi,hj,.sl kid)))⟩)else none
   |_=>none)
  |_,_=>none
 |_,_=>none
def V.isRef:V->Bool
 | .sl _=>true
 | .ptr _ _=>true
 | .pel _ _ _ _ _=>true
 | .elt _ _ _=>true
 | .clo _ _=>true
 | .mp _=>true
 |_=>false
def K8(s:S)(bor:Bool)(B:List Nat)(a:Arg×X):Option V:=match a.1,s.get a.2 with
 | .d (.list t),some (.sl id)=>bif bor&& !mf B id then(match s.hp[id]? with
  |some (.vec _ u xs)=>match cf (.list u) (.list t) xs with
   |some xs=>some (.d (.list t) xs)
   |none=>none
  |some (.tree _ _ u xs none)=>match cf (.list u) (.list t) xs with
   |some xs=>some (.d (.list t) xs)
   |none=>none
  |_=>none)else none
 | .d t,some v=>match dD t v with
  |some x=>some (.d t x)
  |none=>none
 | .x,some v=>match v with
  | .d _ _=>none
  | .nil _=>none
  | .full _ _=>none
  | .raw (.slice _ _ _)=>none
  | .agg vs=>bif vs.any V.isRef then some (.agg vs)else none
  |v=>some v
 |_,none=>none
def oy(s:S)(bor:Bool)(B:List Nat):List (Arg×X)->Option (List V)
 |[]=>some []
 |a::l=>match K8 s bor B a with
  |some v=>match oy s bor B l with
   |some vs=>some (v::vs)
   |none=>none
  |none=>none
def iB:Ty->List Ty
 | .unit=>[]
 | .pair a b=>iB a++iB b
 | .rx=>[.int .i64,.int .i64,.int .i64,.list .rx]
 |t=>[t]
def flatK:K->List Ty->Bool
 | .e,ts=>ts.all Ty.flat
 | .f r,t::ts=>t.flat&&flatK r ts
 | .s _ sz sub r,.list u::ts=>c_ sz u.sz&&flatK sub (iB u)&&flatK r ts
 |_,_=>false
def Slot.flat:Slot->Bool
 | .tm _ t=>t.flat
 | .cell _ _ t=>t.flat
 | .vec _ _ t=>t.flat
 | .map _ _ _ a b=>a.flat&&b.flat
 | .tree _ _ k t=>flatK k (iB t)
 | .treeH _ _ k t _ _=>flatK k (iB t)
def Rw(fr:List (Nat×V))(n:Nat):List V:=(aj_ n).map λi=>(lk fr i).getD .any
def res(n:Nat)(fr:List (Nat×V)):V:=bif c_ n 1 then(lk fr 0).getD .any else .tup (Rw fr n)
def V.isA:V->Bool
 | .agg _=>true
 | .tup _=>true
 |_=>false
def IM(n:Nat)(fr:List (Nat×V)):Bool:=c_ n 1||fr.all λx=> !x.2.isA
def Lg(B:List Nat)(n k:Nat):Nat:=bif l_ (k+1) B.length then B.getD k 0 else n+(k - B.length)
def ud(B:List Nat):V->V
 | .sl k=>bif mf B k then .any else .sl k
 | .elt k i o=>bif mf B k then .any else .elt k i o
 |v=>v
def Pk(B:List Nat)(os:List Ob)(n:Nat):Nat->List Ob->List Ob
 |_,[]=>[]
 |i,o::l=>(bif mf B i then wy (V.ren (Lg B n)) (os.getD (J2 B i) .gone)else wy (ud B) o)::Pk B os n (i+1) l
def S.back(s:S)(B:List Nat)(os:List Ob):S:=
 ⟨s.fr.map λx=>(x.1,mG (ud B) x.2),Pk B os s.hp.length 0 s.hp++(os.drop B.length).map (wy (V.ren (Lg B s.hp.length)))⟩
def Sh.n(sh:Sh):Nat:=(sh.sk.fr.length)+(sh.sl.filter λx=>match x with| .tm _ _=>true|_=>false).length
def aH(O:ak)(f:FuncId)(ars:List V)(os:List Ob)(sh:Sh):Option (HL sh.sl):=match O f ars os with
 |some (some s)=>bif c_ s.fr.length sh.n&&IM sh.n s.fr then pack sh s else none
 |_=>none
def iw(O:ak)(f:FuncId)(ars:List V)(os:List Ob)(sh:Sh):Option (Option (HL sh.sl)):=match O f ars os with
 |some (some s)=>bif c_ s.fr.length sh.n&&IM sh.n s.fr then(match pack sh s with|some c=>some (some c)|none=>none)else none
 |some none=>some none
 |none=>none
end
def V.isNil:V->Bool
 | .nil _=>true
 |_=>false
def V.isRaw:V->Bool
 | .raw _=>true
 |_=>false
def TB(k:K)(v:V):Bool:=(match v with| .agg _=>true| .nil _=>true|_=>false)&&(aj_ (cS v).length).all λj=>(((cS v).getD j .any).isNil==(k.at j).isSome)&& !((cS v).getD j .any).isRaw
def WA(k:K)(cs:List V):Bool:=(aj_ cs.length).all λj=>match k.at j with
 |some _=>(match cs.getD j .any with| .d (.list _) l=>l.isEmpty|_=>false)
 |none=>true
section
variable {R:Type}
def BG(s:S)(d:Option Nat)(B:List Nat)(n:Nat)(sh:Sh)(κ:S->Option R)(c:HL sh.sl):Option R:=
 let r:=unpack sh.sl c (sh.base ⟨[],[]⟩)
 κ ((s.back B r.hp).putO d (mG (V.ren (Lg B s.hp.length)) (res n r.fr)))
def PX(s:S)(B:List Nat):Option (List Ob):=match B with
 |[]=>some []
 |i::B=>match s.hp[i]? with
  |some o=>match PX s B with
   |some os=>some (o::os)
   |none=>none
  |none=>none
def yU(pan:Bool)(O:ak)(s:S)(d:Option Nat)(bor:Bool)(B:List Nat)(f:FuncId)(ars:List V)(sh:Sh)(κ kp:S->Option R):Option R:=match PX s B with
 |some os=>bif decide B.Nodup&&ars.all (λa=>allIn B a.ids)&&os.all (λo=>allIn B o.ids)&&(!bor||sh.sl.all Slot.flat)then
  (match pan with
  |false=>f_ (aH O f (ars.map (mG (V.ren (J2 B)))) (os.map (wy (V.ren (J2 B)))) sh) (BG s d B sh.n sh κ)
  |true=>f_ (iw O f (ars.map (mG (V.ren (J2 B)))) (os.map (wy (V.ren (J2 B)))) sh) λo=>match o with
   |some c=>BG s d B sh.n sh κ c
   |none=>kp (s.back B (os.map λ_=>.gone)))else none
 |none=>none
def evOp(O:ak)(d:Option Nat)(op:TOp)(s:S)(κ kp:S->Option R):Option R:=
 match op with
 | .mv x=>match s.get x with
  |some v=>κ (s.putO d v)
  |none=>none
 | .pick c a b=>match s.get c,s.get a,s.get b with
  |some (.d .bool c),some (.d t x),some (.d u y)=>match cf u t y with
   |some y=>κ (s.putO d (.d t (bif c then x else y)))
   |none=>none
  |some (.d .bool c),some (.raw _),some (.d u y)=>bif c then none else κ (s.putO d (.d u y))
  |some (.d .bool c),some (.d t x),some (.raw _)=>bif c then κ (s.putO d (.d t x))else none
  |_,_,_=>none
 | .bin op x y=>match s.get x,s.get y with
  |some (.d (.int k) a),some (.d (.int k') b)=>UX op k k' a b λv=>κ (s.putO d v)
  |some (.d .str a),some (.d .str b)=>UY op a b λv=>κ (s.putO d v)
  |_,_=>none
 | .eqB neg x y=>match s.get x,s.get y with
  |some (.d .bool a),some (.d .bool b)=>κ (s.putO d (.d .bool (neg ^^ (a==b))))
  |_,_=>none
 | .eqT neg _ t x y=>match s.get x,s.get y with
  |some v,some u=>match dD t v,dD t u with
   |some a,some b=>bif t.eqOk then κ (s.putO d (.d .bool (neg ^^ CP t a b)))else none
   |_,_=>none
  |_,_=>none
 | .un op x=>match op,s.get x with
  | .not,some (.d .bool a)=>κ (s.putO d (.d .bool (!a)))
  | .neg,some (.d (.int k) a)=>κ (s.putO d (.d (.int k) (k.wrap (0 - a))))
  |_,_=>none
 | .len str x=>match str,s.get x with
  |true,some (.d .str a)=>κ (s.putO d (.d (.int .i64) a.length))
  |false,some (.d (.list _) a)=>κ (s.putO d (.d (.int .i64) a.length))
  |false,some (.nil _)=>κ (s.putO d (.d (.int .i64) 0))
  |false,some (.sl id)=>match s.hp[id]? with
   |some (.vec _ _ xs)=>κ (s.putO d (.d (.int .i64) xs.length))
   |some (.tree _ _ _ xs _)=>κ (s.putO d (.d (.int .i64) xs.length))
   |_=>none
  |_,_=>none
 | .lenM k e x=>match s.get x with
  |some (.mp id)=>match s.hp[id]? with
   |some (.map k' e' _ _ kvs)=>bif c_ k k'&&c_ e e' then κ (s.putO d (.d (.int .i64) kvs.length))else none
   |_=>none
  |_=>none
 | .idxS x i=>match s.get x with
  |some (.d .str a)=>intOf (s.get i) λn=>f_ (aL a n) λc=>κ (s.putO d (.d (.int .u8) c.toNat))
  |_=>none
 | .idxV n t x i=>match s.get x with
  |some v=>bif c_ (cS v).length (n*t.sz)&&(match v with| .agg vs=>vs.all V.cellD|_=>true)then intOf (s.get i) λm=>f_ (rowAt t n v m) λc=>κ (s.putO d (.d t c))else none
  |none=>none
 | .idxA t x i=>match s.get x with
  |some (.sl id)=>match s.hp[id]? with
   |some (.vec _ u xs)=>bif decide (u=t)then intOf (s.get i) λn=>f_ (aL xs n) λ_=>κ (s.putO d (.elt id n.toNat 0))else none
   |some (.tree _ _ u xs _)=>bif decide (u=t)then intOf (s.get i) λn=>f_ (aL xs n) λ_=>κ (s.putO d (.elt id n.toNat 0))else none
   |_=>none
  |some (.d (.list u) xs)=>match cf (.list u) (.list t) xs with
   |some xs=>intOf (s.get i) λn=>f_ (aL xs n) λx=>κ (s.putO d (.dp t x))
   |none=>none
  |_=>none
 | .idxP n t x i=>match s.get x,i with
  |some (.ptr id off),.k (.int _) m=>aw (decide (0<=m)&&decide (m<n)) (κ (s.putO d (.ptr id (off+m.toNat*t.sz))))
  |some (.ptr id off),i=>intOf (s.get i) λm=>aw (decide (0<=m)&&decide (m<n)) (κ (s.putO d (.pel id off n t m)))
  |some (.dp u y),i=>bif c_ u.sz (n*t.sz)&&u.ag then intOf (s.get i) λm=>f_ (rowAt t n (.d u y) m) λc=>κ (s.putO d (.dp t c))else none
  |_,_=>none
 | .fldA off t x=>match s.get x with
  |some (.dp u y)=>match s9 u off t y with
   |some z=>κ (s.putO d (.dp t z))
   |none=>none
  |some (.ptr id o)=>κ (s.putO d (.ptr id (o+off)))
  |some (.elt id i o)=>κ (s.putO d (.elt id i (o+off)))
  |_=>none
 | .fld off t x=>match s.get x with
  |some (.d u y)=>bif u.ag then(match s9 u off t y with
   |some z=>κ (s.putO d (.d t z))
   |none=>none)else none
  |some (.agg vs)=>bif l_ (off+t.sz) vs.length then κ (s.putO d (whole t ((vs.drop off).take t.sz)))else none
  |_=>none
 | .load t x=>loadT s.hp t (s.get x) λv=>κ (s.putO d v)
 | .store t x v=>match d with
  |none=>storeT s t (s.get x) (s.get v) κ
  |some _=>none
 | .alloc tid zero=>κ (S.putO ⟨s.fr,s.hp++[.box tid zero]⟩ d (.ptr s.hp.length 0))
 | .box tid x=>match s.get x with
  |some v=>bif v.okB then κ (S.putO ⟨s.fr,s.hp++[.box tid (cS v)]⟩ d (.ptr s.hp.length 0))else none
  |none=>none
 | .boxD _ t x=>match s.get x with
  |some (.full _ _)=>none
  |some v=>match dD t v with
   |some y=>κ (s.putO d (.dp t y))
   |none=>none
  |none=>none
 | .build zero parts=>buildT s zero parts λcs=>κ (s.putO d (.agg cs))
 | .bslice own tid t len parts=>bif c_ parts.length len&&l_ 1 t.sz&&l_ (len*t.sz) 16777216 then listT s t parts λxs=>(match own with
  |true=>κ (S.putO ⟨s.fr,s.hp++[.vec tid t xs]⟩ d (.sl s.hp.length))
  |false=>κ (s.putO d (.d (.list t) xs)))else none
 | .mslice tid t bytes l c=>bif l_ 1 t.sz then intOf (s.get l) λl=>intOf (s.get c) λc=>
  aw (decide (0<=l)&&decide (l<=c)&&decide (c<=9223372036854775807)&&decide (bytes*c<=281474976710656)) (κ (S.putO ⟨s.fr,s.hp++[.vec tid t (I_ l.toNat t.zero)]⟩ d (.sl s.hp.length)))else none
 | .append tid t bytes x y=>sA s.hp t (s.get y) λys=>match s.get x with
  |some (.sl id)=>match s.hp[id]? with
   |some (.vec e u xs)=>match cf (.list u) (.list t) xs with
    |some xs=>bif c_ e tid then aw (decide ((xs.length+ys.length)*bytes<=140737488355328)) (κ ((s.moved id (.vec e t (xs++ys))).putO d (.sl id)))else none
    |none=>none
   |_=>none
  |some (.nil _)=>aw (decide (ys.length*bytes<=140737488355328)) (κ (S.putO ⟨s.fr,s.hp++[.vec tid t ys]⟩ d (.sl s.hp.length)))
  |some (.full _ [])=>aw (decide (ys.length*bytes<=140737488355328)) (κ (S.putO ⟨s.fr,s.hp++[.vec tid t ys]⟩ d (.sl s.hp.length)))
  |_=>none
 | .cvtI k x=>match s.get x with
  |some (.d (.int _) n)=>κ (s.putO d (.d (.int k) (k.wrap n)))
  |_=>none
 | .slc full t x lo hi mx=>match s.get x with
  |some (.sl _)=>none
  |v=>sA s.hp t v λxs=>ET s lo 0 λl=>ET s hi xs.length λh=>ET s mx xs.length λm=>
   bif !(mx.isSome&& !hi.isSome)then aw (decide (l<=h)&&decide (h<=m)&&decide (m<=xs.length)) (match full with
    |false=>κ (s.putO d (.d (.list t) ((xs.take h).drop l)))
    |true=>aw (mx.isSome&&decide (h=m)) (κ (s.putO d (.full t ((xs.take h).drop l)))))else none
 | .slcS x lo hi=>match s.get x with
  |some (.d .str a)=>ET s lo 0 λl=>ET s hi a.length λh=>aw (decide (l<=h)&&decide (h<=a.length)) (κ (s.putO d (.d .str ((a.take h).drop l))))
  |_=>none
 | .ext x i=>match s.get x with
  |some (.tup vs)=>match vs[i]? with
   |some v=>bif (match v with| .agg _=>false| .tup _=>false|_=>true)then κ (s.putO d v)else none
   |none=>none
  |_=>none
 | .nilc x=>match s.get x with
  |some v=>(match v with
   | .dp _ _=>κ (s.putO d v)
   | .ptr _ _=>κ (s.putO d v)
   | .pel _ _ _ _ _=>κ (s.putO d v)
   | .elt _ _ _=>κ (s.putO d v)
   | .clo _ _=>κ (s.putO d v)
   | .fnD _ _=>κ (s.putO d v)
   |_=>none)
  |none=>none
 | .call bor f args sh=>match oy s bor [] args with
  |some ars=>bif ars.all V.isD&&sh.sk.fr.isEmpty&&(!bor||sh.sl.all Slot.flat)then
   f_ (aH O f ars [] sh) λc=>κ (s.putO d (res sh.n (unpack sh.sl c (sh.base ⟨[],[]⟩)).fr))else none
  |none=>none
 | .callA pan bor B f args sh=>match oy s bor B args with
  |some ars=>yU pan O s d bor B f ars sh κ kp
  |none=>none
 | .callv pan bor B num x args sh=>match s.get x,oy s bor B args with
  |some (.clo f ids),some ars=>bif c_ (num%10000) f then yU pan O s d bor B num (ars++ids.map λi=>.ptr i 0) sh κ kp else none
  |some (.fnD f cs),some ars=>bif c_ (num%10000) f then yU pan O s d bor B num (ars++cs.map λc=>.dp c.1 c.2) sh κ kp else none
  |_,_=>none
 | .callp bor num x args sh=>match s.get x,oy s bor [] args with
  |some (.fnD f cs),some ars=>bif c_ (num%10000) f&&ars.all V.isD&&sh.sk.fr.isEmpty&&(!bor||sh.sl.all Slot.flat)then
   f_ (aH O num (ars++cs.map λc=>.dp c.1 c.2) [] sh) λc=>κ (s.putO d (res sh.n (unpack sh.sl c (sh.base ⟨[],[]⟩)).fr))else none
  |_,_=>none
 | .b2s x=>sA s.hp (.int .u8) (s.get x) λl=>κ (s.putO d (.d .str (l.map fun(n:Int)=>UInt8.ofNat n.toNat)))
 | .mkfn f caps=>match capsOf s caps with
  |some ids=>κ (s.putO d (.clo f ids))
  |none=>match capsD s caps with
   |some cs=>κ (s.putO d (.fnD f cs))
   |none=>none
 | .mkmap k e a b=>κ (S.putO ⟨s.fr,s.hp++[.map k e a b []]⟩ d (.mp s.hp.length))
 | .lookup k e ok a b m x=>match s.get m,s.get x with
  |some (.mp id),some v=>match s.hp[id]?,dD a v with
   |some (.map k' e' a' b' kvs),some y=>match cf (.list (.pair a' b')) (.list (.pair a b)) kvs with
    |some kvs=>bif c_ k k'&&c_ e e'&&a.eqOk then(match ok with
     |true=>κ (s.putO d (.tup [.d b ((gN a b kvs y).getD b.zero),.d .bool (gN a b kvs y).isSome]))
     |false=>κ (s.putO d (.d b ((gN a b kvs y).getD b.zero))))else none
    |none=>none
   |_,_=>none
  |_,_=>none
 | .mapset k e a b m x v=>match d,s.get m,s.get x,s.get v with
  |none,some (.mp id),some u,some w=>match s.hp[id]?,dD a u,dD b w with
   |some (.map k' e' a' b' kvs),some y,some z=>match cf (.list (.pair a' b')) (.list (.pair a b)) kvs with
    |some kvs=>bif c_ k k'&&c_ e e'&&a.eqOk&& !b.ag then aw (decide (kvs.length<maxLen)) (κ ⟨s.fr,setAt s.hp id (.map k e a b (mg a b kvs y z))⟩)else none
    |none=>none
   |_,_,_=>none
  |_,_,_,_=>none
 | .copy tid t x y=>match s.get x,s.get y with
  |some (.sl id),some v=>bif (match v with| .sl j=> !c_ id j|_=>true)then(sA s.hp t (some v) λys=>match s.hp[id]? with
   |some (.vec e u xs)=>match cf (.list u) (.list t) xs with
    |some xs=>bif c_ e tid then κ (S.putO ⟨s.fr,setAt s.hp id (.vec e t (ys.take xs.length++xs.drop ys.length))⟩ d (.d (.int .i64) (min xs.length ys.length:Nat)))else none
    |none=>none
   |_=>none)else none
  |_,_=>none
 | .mnmx mx k x ys=>match s.get x with
  |some (.d (.int k') n)=>bif decide (k'=k)then intsOf s k ys λns=>κ (s.putO d (.d (.int k) (ns.foldl (fun(a b:Int)=>bif mx then max a b else min a b) n)))else none
  |_=>none
 | .panic x=>match s.get x with
  |some .ifc=>kp s
  |_=>none
 | .iface _ x=>match s.get x with
  |some _=>κ (s.putO d .ifc)
  |none=>none
 | .bsliceF _ t len parts=>bif c_ parts.length len&&l_ 1 t.sz&&l_ (len*t.sz) 16777216 then listT s t parts λxs=>κ (s.putO d (.full t xs))else none
 | .appD _ t bytes x y=>sA s.hp t (s.get y) λys=>match s.get x with
  |some (.nil _)=>aw (decide (ys.length*bytes<=140737488355328)) (κ (s.putO d (.d (.list t) ys)))
  |some (.full u xs)=>match cf (.list u) (.list t) xs with
   |some xs=>aw (decide ((xs.length+ys.length)*bytes<=140737488355328)) (κ (s.putO d (.d (.list t) (xs++ys))))
   |none=>none
  |_=>none
 | .bsliceN _ k t len parts=>bif c_ parts.length len&&l_ 1 t.sz&&l_ (len*t.sz) 16777216 then listN s k t parts λxs=>κ (s.putO d (.lit k t xs))else none
 | .msliceT tid k u bytes l c=>bif (k.at 0).isSome then intOf (s.get l) λl=>intOf (s.get c) λc=>
  aw (decide (0<=l)&&decide (l<=c)&&decide (c<=9223372036854775807)&&decide (bytes*c<=281474976710656)) (κ (S.putO ⟨s.fr,s.hp++[.tree tid k (.list u) (I_ l.toNat []) none]⟩ d (.sl s.hp.length)))else none
 | .appT tid k t bytes x y=>match s.get y with
  |some (.lit k' u ys)=>bif decide (k=k')then(match cf (.list u) (.list t) ys with
   |some ys=>bif ys.all (λy=>WA k (gr t y))then(match s.get x with
    |some (.sl id)=>match s.hp[id]? with
     |some (.tree e k2 u2 xs none)=>match cf (.list u2) (.list t) xs with
      |some xs=>bif c_ e tid&&decide (k=k2)then aw (decide ((xs.length+ys.length)*bytes<=140737488355328)) (κ ((s.moved id (.tree e k t (xs++ys) none)).putO d (.sl id)))else none
      |none=>none
     |_=>none
    |some (.nil _)=>aw (decide (ys.length*bytes<=140737488355328)) (κ (S.putO ⟨s.fr,s.hp++[.tree tid k t ys none]⟩ d (.sl s.hp.length)))
    |_=>none)else none
   |none=>none)else none
  |_=>none
 | .atq k op=>match s.hp[k]? with
  |some .free=>mkT s op λo v=>κ (S.putO ⟨s.fr,setAt s.hp k o⟩ d (v k))
  |_=>none
where
 mkT (s:S) (op:TOp) (κ:Ob->(Nat->V)->Option R):Option R:=match op with
  | .alloc tid zero=>κ (.box tid zero) λn=>.ptr n 0
  | .box tid x=>match s.get x with
   |some v=>bif v.okB then κ (.box tid (cS v)) (λn=>.ptr n 0)else none
   |none=>none
  | .bslice true tid t len parts=>bif c_ parts.length len&&l_ 1 t.sz&&l_ (len*t.sz) 16777216 then listT s t parts λxs=>κ (.vec tid t xs) .sl else none
  | .mslice tid t bytes l c=>bif l_ 1 t.sz then intOf (s.get l) λl=>intOf (s.get c) λc=>
   aw (decide (0<=l)&&decide (l<=c)&&decide (c<=9223372036854775807)&&decide (bytes*c<=281474976710656)) (κ (.vec tid t (I_ l.toNat t.zero)) .sl)else none
  | .append tid t bytes x y=>sA s.hp t (s.get y) λys=>match s.get x with
   |some (.nil _)=>aw (decide (ys.length*bytes<=140737488355328)) (κ (.vec tid t ys) .sl)
   |some (.full _ [])=>aw (decide (ys.length*bytes<=140737488355328)) (κ (.vec tid t ys) .sl)
   |_=>none
  | .mkmap k e a b=>κ (.map k e a b []) .mp
  |_=>none
 buildT (s:S) (cs:List V):List (Nat×Nat×X)->(List V->Option R)->Option R
  |[],κ=>κ cs
  |(off,sz,x)::l,κ=>match s.get x with
   |some v=>bif c_ (cS v).length sz&&l_ (off+sz) cs.length&&v.okB then buildT s (jc cs off (cS v)) l κ else none
   |none=>none
 listT (s:S) (t:Ty):List X->(List t.den->Option R)->Option R
  |[],κ=>κ []
  |x::l,κ=>match s.get x with
   |some v=>match dD t v with
    |some y=>listT s t l λys=>κ (y::ys)
    |none=>none
   |none=>none
 listN (s:S) (k:K) (t:Ty):List X->(List t.den->Option R)->Option R
  |[],κ=>κ []
  |x::l,κ=>match s.get x with
   |some v=>match dD t v with
    |some y=>bif TB k v then listN s k t l λys=>κ (y::ys)else none
    |none=>none
   |none=>none
 capsOf (s:S):List X->Option (List Nat)
  |[]=>some []
  |x::l=>match s.get x with
   |some (.ptr i 0)=>match capsOf s l with
    |some ids=>some (i::ids)
    |none=>none
   |_=>none
 capsD (s:S):List X->Option (List ((t:Ty)×t.den))
  |[]=>some []
  |x::l=>match s.get x with
   |some (.dp t y)=>match capsD s l with
    |some cs=>some (⟨t,y⟩::cs)
    |none=>none
   |_=>none
 intsOf (s:S) (k:IntKind):List X->(List Int->Option R)->Option R
  |[],κ=>κ []
  |x::l,κ=>match s.get x with
   |some (.d (.int k') n)=>bif decide (k'=k)then intsOf s k l λns=>κ (n::ns)else none
   |_=>none
inductive RC where
 |nil
 |op (d:Option Nat) (o:TOp) (rest:RC)
 |adj (l:List Adj) (rest:RC)
 |gb (t:Nat) (want:Bool) (blk:RC) (ty:Ty) (r alt:X) (dst:Nat) (rest:RC)
def RC.asg:RC->List Nat
 | .nil=>[]
 | .op d _ rest=>(match d with|some d=>[d]|none=>[])++rest.asg
 | .adj _ rest=>rest.asg
 | .gb _ _ blk _ _ _ dst rest=>blk.asg++dst::rest.asg
def Ee(O:ak):(R:Type)->RC->S->(S->Option R)->(S->Option R)->Option R
 |_,.nil,s,κ,_=>κ s
 |R,.op d o rest,s,κ,kp=>evOp O d o s (λs'=>Ee O R rest s' κ kp) kp
 |R,.adj l rest,s,κ,kp=>yk l s λs=>Ee O R rest s κ kp
 |R,.gb t want blk ty r alt dst rest,s,κ,kp=>match lk s.fr t,s.get alt with
  |some (.d .bool b),some va=>match(bif blk.asg.all (λk=>(lk s.fr k).isNone)then dD ty va else none)with
   |some alt=>f_ (match want with
    |true=>bif b then Ee O ty.den blk s (λs'=>match s'.get r with|some v=>dD ty v|none=>none) (λ_=>none)else some alt
    |false=>bif b then some alt else Ee O ty.den blk s (λs'=>match s'.get r with|some v=>dD ty v|none=>none) (λ_=>none))
    λc=>Ee O R rest (s.put dst (.d ty c)) κ kp
   |none=>none
  |_,_=>none
end
structure PO where
 j:Nat
 b:Bool
 us:List Nat
 rd:List Nat
 lent:List Nat
 d:Option Nat
 o:TOp
 g:Option (Nat×Bool)
def KE(s:S)(rd lent:List Nat):List Nat:=(rd.flatMap λk=>match lk s.fr k with|some v=>v.ids|none=>[])++lent
def qQ(s:S)(p:PO):List Nat:=match p.b,p.o,p.g with
 |true,.mv _,none=>[]
 |_,_,_=>KE s p.rd p.lent
def SU(r:Av.Rec)(T rd lent:List Nat)(d:Option Nat)(b:Bool):Bool:=
 (match r.d with
  |some t=> !mf rd t&&(match d with|some u=> !c_ u t|none=>true)
  |none=>true)&&
 (match d with
  |some t=> !mf r.rd t
  |none=>true)&&
 (match r.s with
  |some t=> !mf T t
  |none=>true)&&
 (match b with
  |true=>lent.all λt=> !mf r.F t
  |false=>r.s.isNone&&T.all λt=> !mf r.G t)
def Iy(s:S)(i:Nat):List Nat:=match s.hp[i]? with
 |some o=>o.kids
 |none=>[]
def Gk:TOp->Option Nat
 | .atq k _=>some k
 |_=>none
def PG(s:S)(d:Option Nat):List Nat:=match d with
 |some k=>(match lk s.fr k with
  |some v=>v.kids
  |none=>[])
 |none=>[]
def Ol(s s':S)(d:Option Nat)(T:List Nat):List Nat:=T++T.flatMap (Iy s)++PG s' d
def VI(s s':S)(rd:List Nat)(d:Option Nat):List Nat:=(rd.flatMap λk=>match lk s.fr k with|some v=>v.kids|none=>[])++PG s' d
structure RecV where
 r:Av.Rec
 ld:Option (Ty×Nat×Nat×V)
def N7(s s':S)(p:PO):Option (Ty×Nat×Nat×V):=match p.o,p.g,p.d with
 | .load t x,none,some d=>(match s.get x,lk s'.fr d with
  |some (.ptr id off),some v=>some (t,id,off,v)
  |_,_=>none)
 |_,_,_=>none
def Mx(hp:List Ob)(t:Ty)(id off:Nat):Option V:=match hp[id]? with
 |some (.box _ cs)=>bif l_ (off+t.sz) cs.length then some (whole t ((cs.drop off).take t.sz))else none
 |_=>none
def Ut{R:Type}(k:Option R):V->V->Option R
 | .d t x,.d u y=>(match cf u t y with
  |some z=>bif t.eqOk then(bif CP t x z then k else none)else none
  |none=>none)
 | .ptr i o,.ptr j q=>bif c_ i j&&c_ o q then k else none
 |_,_=>none
def Xy{R:Type}(T us:List Nat)(s':S)(k:Option R):List RecV->Option R
 |[]=>k
 |a::A=>bif !mf us a.r.i||T.all (λt=> !mf a.r.F t)then Xy T us s' k A else(match a.ld with
  |some (t,id,off,v)=>(match Mx s'.hp t id off with
   |some v'=>bif (Iy s' id).all (mf a.r.F)then Ut (Xy T us s' k A) v v' else none
   |none=>none)
  |none=>none)
def Rv{R:Type}(A:List RecV)(s s':S)(p:PO)(k:Option R):Option R:=bif p.b then k else Xy (KE s p.rd p.lent) p.us s' k A
def RZ(s:S):TOp->Bool
 | .store _ x _=>(match s.get x with
  |some (.ptr _ _)=>true
  |some (.elt id _ _)=>(match s.hp[id]? with
   |some (.vec _ _ _)=>true
   |_=>false)
  |_=>false)
 |_=>true
def BL(A:List RecV)(s:S)(p:PO):Bool:=A.all (λa=> !mf p.us a.r.i||SU a.r (qQ s p) p.rd p.lent p.d p.b)&&(!p.b||(qQ s p).all λi=>Nat.blt i s.hp.length)&&RZ s p.o
def Cj(A:List RecV)(s s':S)(p:PO):List RecV:=bif p.b then A++[⟨⟨p.j,p.d,p.rd,Gk p.o,Ol s s' p.d (qQ s p),VI s s' p.rd p.d⟩,N7 s s' p⟩]else A
def Se{R:Type}(O:ak):List RecV->List PO->S->(S->Option R)->(S->Option R)->Option R
 |_,[],s,κ,_=>κ s
 |A,p::l,s,κ,kp=>match p.g with
  |none=>bif BL A s p then evOp O p.d p.o s (λs'=>Rv A s s' p (Se O (Cj A s s' p) l s' κ kp)) kp else none
  |some (t,want)=>match lk s.fr t with
   |some (.d .bool b)=>bif want==b
    then(bif BL A (s.put t (.d .bool want)) p then evOp O p.d p.o (s.put t (.d .bool want)) (λs'=>Rv A (s.put t (.d .bool want)) s' p (Se O (Cj A (s.put t (.d .bool want)) s' p) l s' κ kp)) kp else none)
    else(bif BL A (s.put t (.d .bool (!want))) p then Rv A (s.put t (.d .bool (!want))) ((s.put t (.d .bool (!want))).putO p.d (.raw Go.undef)) p (Se O (Cj A (s.put t (.d .bool (!want))) ((s.put t (.d .bool (!want))).putO p.d (.raw Go.undef)) p) l ((s.put t (.d .bool (!want))).putO p.d (.raw Go.undef)) κ kp)else none)
   |_=>none
def Sd{R:Type}(O:ak):List PO->S->(S->Option R)->(S->Option R)->Option R
 |[],s,κ,_=>κ s
 |p::l,s,κ,kp=>match p.g with
  |none=>evOp O p.d p.o s (λs'=>Sd O l s' κ kp) kp
  |some (t,want)=>match lk s.fr t with
   |some (.d .bool b)=>bif b
    then(match want with
     |true=>evOp O p.d p.o (s.put t (.d .bool true)) (λs'=>Sd O l s' κ kp) kp
     |false=>Sd O l ((s.put t (.d .bool true)).putO p.d (.raw Go.undef)) κ kp)
    else(match want with
     |true=>Sd O l ((s.put t (.d .bool false)).putO p.d (.raw Go.undef)) κ kp
     |false=>evOp O p.d p.o (s.put t (.d .bool false)) (λs'=>Sd O l s' κ kp) kp)
   |_=>none
inductive TC where
 |skip
 |region (ops:RC)
 |draw (k:Nat) (ops:RC) (af:List (List Nat))
 |draw2 (r:Nat) (pre:List PO) (tl:RC) (af:List (List Nat))
 |regL (pre:List PO)
 |seq (a b:TC)
 |cond (x:X) (a b:TC)
 |block (id:Nat) (a:TC)
 |loop (sh:Sh) (xs:List (Nat×Sh)) (a:TC)
 |exit (id:Nat)
 |ret
 |adj (l:List Adj) (a:TC)
 |after (a:TC) (l:List Adj)
 |cut (xs:List (Nat×Sh)) (a:TC)
def TC.asg:TC->List Nat
 | .region ops=>ops.asg
 | .draw _ ops _=>ops.asg
 | .regL pre=>pre.flatMap λp=>match p.d with|some d=>[d]|none=>[]
 | .draw2 _ pre tl _=>(pre.flatMap λp=>match p.d with|some d=>[d]|none=>[])++tl.asg
 | .seq a b=>a.asg++b.asg
 | .cond _ a b=>a.asg++b.asg
 | .block _ a=>a.asg
 | .loop _ _ a=>a.asg
 | .adj _ a=>a.asg
 | .after a _=>a.asg
 | .cut _ a=>a.asg
 |_=>[]
def TC.noD2:TC->Bool
 | .draw2 _ _ _ _=>false
 | .seq a b=>a.noD2&&b.noD2
 | .cond _ a b=>a.noD2&&b.noD2
 | .block _ a=>a.noD2
 | .loop _ _ a=>a.noD2
 | .adj _ a=>a.noD2
 | .after a _=>a.noD2
 | .cut _ a=>a.noD2
 |_=>true
def pJ(A:List Nat)(fr:List (Nat×V))(k:Nat):Bool:=mf A k||(match lk fr k with
 |some v=> !v.isD
 |none=>false)
def Slot.tmOk(A:List Nat)(fr:List (Nat×V)):Slot->Bool
 | .tm k _=>pJ A fr k
 |_=>true
def Sh.okAt(sh:Sh)(A:List Nat)(s:S):Bool:=sh.keep.all (λk=> !mf A k)&&sh.sl.all (Slot.tmOk A s.fr)&&sh.sk.fr.all (λx=>pJ A s.fr x.1)
def aK{σ τ:Type}:Nat->(σ->Option (σ⊕τ))->σ->Option τ
 |0,_,_=>none
 |n+1,f,s=>f_ (f s) (aL_ (λs'=>aK n f s') some)
def DR(O:ak)(n:Nat):(R:Type)->TC->S->(kn:S->Option R)->(kx:Nat->S->Option R)->(kr kp:S->Option R)->Option R
 |_,.skip,s,kn,_,_,_=>kn s
 |R,.region ops,s,kn,_,_,kp=>Ee O R ops s kn kp
 |R,.draw _ ops _,s,kn,_,_,kp=>Ee O R ops s kn kp
 |_,.regL pre,s,kn,_,_,kp=>Sd O pre s kn kp
 |R,.draw2 r pre tl _,s,kn,_,_,kp=>Se O [] pre ⟨s.fr,s.hp++I_ r .free⟩ (λs=>Ee O R tl s kn kp) kp
 |R,.seq a b,s,kn,kx,kr,kp=>DR O n R a s (λs=>DR O n R b s kn kx kr kp) kx kr kp
 |R,.cond x a b,s,kn,kx,kr,kp=>match s.get x with
  |some (.d .bool t)=>bif t then DR O n R a s kn kx kr kp else DR O n R b s kn kx kr kp
  |_=>none
 |R,.block id a,s,kn,kx,kr,kp=>DR O n R a s kn (λi s=>bif c_ i id then kn s else kx i s) kr kp
 |_,.exit id,s,_,kx,_,_=>kx id s
 |_,.ret,s,_,_,kr,_=>kr s
 |R,.adj l a,s,kn,kx,kr,kp=>yk l s λs=>DR O n R a s kn kx kr kp
 |R,.cut xs a,s,kn,kx,kr,kp=>bif xs.all (λx=>x.2.okAt a.asg s)then
  f_ (DR O n (XT xs) a s (λs=>inj xs 0 s) (λi s=>inj xs (i+3) s) (λs=>inj xs 1 s) (λs=>inj xs 2 s))
   (jC s (λkey s=>match key with|0=>kn s|1=>kr s|2=>kp s|i+3=>kx i s) xs)else none
 |R,.loop sh xs a,s,kn,kx,kr,kp=>match pack sh s with
  |some c=>bif sh.okAt a.asg s&&xs.all (λx=>x.2.okAt a.asg s)then f_ (aK n (λc=>DR O n (HL sh.sl⊕XT xs) a (unpack sh.sl c (sh.base s)) (λs=>match pack sh s with|some c=>some (.inl c)|none=>none)
   (λi s=>match inj xs (i+3) s with|some c=>some (.inr c)|none=>none) (λs=>match inj xs 1 s with|some c=>some (.inr c)|none=>none) (λs=>match inj xs 2 s with|some c=>some (.inr c)|none=>none)) c)
   (jC s (λkey s=>match key with|0=>kn s|1=>kr s|2=>kp s|i+3=>kx i s) xs)else none
  |none=>none
 |R,.after a l,s,kn,kx,kr,kp=>DR O n R a s (λs=>yk l s kn) kx kr kp
inductive RX where
 |tm (t:Nat)
 |cell (a:Nat) (t:Ty)
structure TF where
 code:TC
 res:List RX
 ntmps:Nat
 sh:Sh
 m:Nat
def IY(s:S):List RX->Option (List V)
 |[]=>some []
 | .tm t::l=>match lk s.fr t with
  |some v=>match IY s l with
   |some vs=>some (v::vs)
   |none=>none
  |none=>none
 | .cell a t::l=>match lk s.fr a with
  |some (.ptr id off)=>match s.hp[id]? with
   |some (.box _ cs)=>bif l_ (off+t.sz) cs.length then(match IY s l with
    |some vs=>some (whole t ((cs.drop off).take t.sz)::vs)
    |none=>none)else none
   |_=>none
  |_=>none
def dW:Nat->List V->List (Nat×V)
 |_,[]=>[]
 |i,v::vs=>(i,v)::dW (i+1) vs
def ii(sh:Sh)(c:HL sh.sl):S:=unpack sh.sl c (sh.base ⟨[],[]⟩)
def aW(sh:Sh)(c:HL sh.sl):Option (Option S):=some (some (ii sh c))
def V.one:V->Bool
 | .agg vs=>vs.all V.cellD
 | .tup _=>false
 |_=>true
def Fz(c:TF)(s:S):Option (Option S):=match IY s c.res with
 |some vs=>bif l_ c.sh.sk.hp.length s.hp.length&&(s.hp.take c.sh.sk.hp.length).all (λo=>o.ids.all λi=>l_ (i+1) c.sh.sk.hp.length)&&vs.all (λv=>v.ids.all λi=>l_ (i+1) c.sh.sk.hp.length)&&c_ c.sh.n vs.length&&(c_ vs.length 1||vs.all V.one)then
  (match pack c.sh ⟨dW 0 vs,s.hp.take c.sh.sk.hp.length⟩with
  |some x=>aW c.sh x
  |none=>none)else none
 |none=>none
def cR(O:ak)(n:Nat)(c:TF)(ars:List V)(os:List Ob):Option (Option S):=
 DR O n (Option S) c.code ⟨dW 0 ars,os⟩ (Fz c) (λ_ _=>none) (Fz c) (λ_=>some none)
structure TD where
 c:TF
 a:TC
 h:TC
 ta:Nat
 tb:Nat
 t8:Nat
def yu(s:S)(t i:Nat):Bool:=match lk s.fr t with
 |some (.ptr j o)=>c_ j i&&c_ o 0
 |_=>false
def XK(s:S)(t:Nat):Bool:=match lk s.fr t with
 |some _=>false
 |none=>true
def Vb(d:TD)(s:S):Option (Option S):=Fz d.c ⟨[(d.ta,.ptr 0 0),(d.tb,.ptr 1 0)],s.hp⟩
def QW(O:ak)(n:Nat)(d:TD)(ars:List V):Option (Option S):=
 DR O n (Option S) d.a ⟨dW 0 ars,[]⟩ (λs=>bif yu s d.ta 0&&yu s d.tb 1&&XK s d.t8&&c_ s.hp.length 2 then
  DR O n (Option S) d.c.code s (Fz d.c) (λ_ _=>none) (Fz d.c) (λs=>bif yu s d.ta 0&&yu s d.tb 1 then
   DR O n (Option S) d.h ⟨[(0,.ptr 0 0),(1,.ptr 1 0)],s.hp⟩ (Vb d) (λ_ _=>none) (Vb d) (λ_=>none)else none)else none) (λ_ _=>none) (λ_=>none) (λ_=>none)
inductive Fun' where
 |code (c:TF)
 |dfr (d:TD)
 |nat (g:List V->Option S)
def kS(tbl:Nat->Option Fun'):Nat->ak
 |0=>λ_ _ _=>none
 |n+1=>λf ars os=>match tbl f with
  |some (.code c)=>bif c_ os.length c.m&&l_ ars.length c.ntmps then cR (kS tbl n) n c ars os else none
  |some (.dfr d)=>bif c_ os.length 0&&l_ ars.length d.c.ntmps then QW (kS tbl n) n d ars else none
  |some (.nat g)=>(match os with
   |[]=>(match g ars with
    |some s=>some (some s)
    |none=>none)
   |_=>none)
  |none=>none
def Ch{α R:Type}(o:Option α)(p:Option R)(k:α->Option R):Option R:=match o with
 |some c=>k c
 |none=>p
abbrev tI:Ty:=.int .i64
abbrev tW:Ty:=.int .u32
abbrev tQ:Ty:=.int .u64
abbrev tY:Ty:=.int .u8
abbrev tB:Ty:=.bool
abbrev tS:Ty:=.str
@[reducible] def pr:List Ty->Ty
 |[]=>.unit
 |t::l=>.pair t (pr l)
abbrev aC(t:Ty)(x:t.den):List PV:=(aG t x).cells
theorem aD:∀(t:Ty) (x:t.den),(aC t x).length=t.sz
 | .int _,_=>rfl
 | .bool,_=>rfl
 | .str,_=>rfl
 | .list t,x=>by cases h:x.map (aG t)<;>simp[aC,aG,h,mF,PV.cells,Ty.sz]
 | .unit,_=>rfl
 | .pair a b,x=>by
  have h1:=aD a x.1
  have h2:=aD b x.2
  simp only[aC,aG,PV.cells,x_,Ty.sz]at h1 h2⊢
  omega
 | .rx,.mk k l h ks=>rfl
theorem mV:∀(t:Ty) (x:t.den),(aG t x).isAgg=t.ag
 | .int _,_=>rfl
 | .bool,_=>rfl
 | .str,_=>rfl
 | .list t,x=>by cases h:x.map (aG t)<;>simp[aG,h,mF,PV.isAgg,Ty.ag]
 | .unit,_=>rfl
 | .pair a b,x=>rfl
 | .rx,.mk k l h ks=>rfl
theorem ev{t:Ty}(x:t.den)(h:t.ag=true):aG t x= .agg (aC t x):=by
 have:=mV t x
 rw[h]at this
 cases he:aG t x<;>rw[he]at this<;>simp[PV.isAgg]at this
 simp[aC,he,PV.cells]
theorem dU{t:Ty}(x:t.den)(h:t.ag=false):aC t x=[aG t x]:=by
 have:=mV t x
 rw[h]at this
 cases he:aG t x<;>rw[he]at this<;>simp_all[aC,PV.cells,PV.isAgg]
theorem fo{t:Ty}(h:t.ag=false):t.sz=1:=by cases t<;>simp_all[Ty.ag,Ty.sz]
theorem bV{t u:Ty}{x:t.den}{y:u.den}(h:cf t u x=some y):∃e:t=u,y=e▸x:=by
 unfold cf at h
 split at h
 ·rename_i e;exact⟨e,by simpa using h.symm⟩
 ·cases h
theorem bS{t u:Ty}{x:t.den}{y:u.den}(h:cf t u x=some y):aG u y=aG t x/\t=u:=by
 obtain⟨rfl,rfl⟩:=bV h
 exact⟨rfl,rfl⟩
theorem Fs:∀(ks:List Rx),JQ ks=ks.map S0
 |[]=>rfl
 |k::ks=>by rw[JQ,Fs ks];rfl
theorem tj(r:Rx):aC .rx r=[aG (.int .i64) r.out.1,aG (.int .i64) r.out.2.1,aG (.int .i64) r.out.2.2.1,aG (.list .rx) r.out.2.2.2.1]:=by
 cases r with
 |mk k l h ks=>
  show [_,_,_,_]=[_,_,_,_]
  simp only[aG,Rx.out,Fs]
  rfl
theorem qx:∀(t:Ty) (off:Nat) (u:Ty) (x:t.den) (y:u.den),s9 t off u x=some y->off+u.sz<=t.sz/\((aC t x).drop off).take u.sz=aC u y
 | .pair a b,off,u,x,y,h=>by
  have hl1:=aD a x.1
  have hl2:=aD b x.2
  have hc:aC (.pair a b) x=aC a x.1++aC b x.2:=rfl
  unfold s9 at h
  cases hcond:(decide (Ty.pair a b=u)&&c_ off 0)
  ·rw[hcond]at h
   simp only[cond_false]at h
   cases hle:l_ (off+1) a.sz
   ·rw[hle]at h
    simp only[cond_false]at h
    have hge:a.sz<=off:=by
     have:=Nat.not_le_of_not_ble_eq_true (by rw[hle];simp)
     omega
    obtain⟨h1,h2⟩:=qx b (off - a.sz) u x.2 y h
    refine⟨by simp only[Ty.sz];omega,?_⟩
    rw[hc,aq_,hl1,List.drop_eq_nil_of_le (by omega),ay_]
    exact h2
   ·rw[hle]at h
    simp only[cond_true]at h
    have hlt:=h_ hle
    obtain⟨h1,h2⟩:=qx a off u x.1 y h
    refine⟨by simp only[Ty.sz];omega,?_⟩
    rw[hc,L_ (by omega),v_ (by simp;omega)]
    exact h2
  ·rw[hcond]at h
   simp only[cond_true]at h
   simp only[b_,decide_eq_true_eq]at hcond
   have h0:off=0:=a_ hcond.2
   subst h0
   obtain⟨e1,rfl⟩:=bS h
   refine⟨by omega,?_⟩
   rw[F_,p_ (by rw[aD];exact z_ _)]
   simp only[aC,e1]
 | .rx,off,u,x,y,h=>by
  have hc:=tj x
  have one:∀{t:Ty} {z:t.den},t.ag=false->cf t u z=some y->aC u y=[aG t z]/\u.sz=1:=fun{t z} ht hh=>by
   obtain⟨e1,rfl⟩:=bS hh
   exact⟨by rw[dU _ ht,e1],fo ht⟩
  unfold s9 at h
  split at h
  ·by_cases hu:u= .rx
   ·subst hu
    simp only[decide_true,cond_true]at h
    obtain⟨e1,_⟩:=bS h
    refine⟨by simp[Ty.sz],?_⟩
    rw[F_,p_ (by rw[aD];exact z_ _)]
    simp only[aC,e1]
   ·simp only[hu,decide_false,cond_false]at h
    obtain⟨e1,e2⟩:=one rfl h
    rw[e1,e2,hc]
    exact⟨by simp[Ty.sz],rfl⟩
  ·obtain⟨e1,e2⟩:=one rfl h
   rw[e1,e2,hc]
   exact⟨by simp[Ty.sz],rfl⟩
  ·obtain⟨e1,e2⟩:=one rfl h
   rw[e1,e2,hc]
   exact⟨by simp[Ty.sz],rfl⟩
  ·obtain⟨e1,e2⟩:=one rfl h
   rw[e1,e2,hc]
   exact⟨by simp[Ty.sz],rfl⟩
  ·cases h
 | .int k,off,u,x,y,h=>part_leaf (.int k) off u x y h
 | .bool,off,u,x,y,h=>part_leaf .bool off u x y h
 | .str,off,u,x,y,h=>part_leaf .str off u x y h
 | .list t,off,u,x,y,h=>part_leaf (.list t) off u x y h
 | .unit,off,u,x,y,h=>part_leaf .unit off u x y h
where
 part_leaf (t:Ty) (off:Nat) (u:Ty) (x:t.den) (y:u.den) (h:(bif c_ off 0 then cf t u x else none)=some y):off+u.sz<=t.sz/\((aC t x).drop off).take u.sz=aC u y:=by
  cases h0:c_ off 0
  ·rw[h0]at h;cases h
  ·rw[h0]at h
   simp only[cond_true]at h
   have:=a_ h0
   subst this
   obtain⟨e1,rfl⟩:=bS h
   refine⟨by omega,?_⟩
   rw[F_,p_ (by rw[aD];exact z_ _)]
   simp only[aC,e1]
theorem AT{t:Ty}{off:Nat}{u:Ty}{x:t.den}{y:u.den}(h:s9 t off u x=some y):off+u.sz<=(aG t x).cells.length/\(u.ag=false->u.sz=1)/\(aG t x).sub off u.sz u.ag=aG u y:=by
 obtain⟨h1,h2⟩:=qx t off u x y h
 refine⟨by rw[aD];exact h1,fo,?_⟩
 cases hu:u.ag
 ·have hs:=fo hu
  rw[hs,dU y hu]at h2
  have hlt:off<(aC t x).length:=by rw[aD];omega
  rw[U_ hlt]at h2
  simp only[ag_,aD_,List.cons.injEq,and_true]at h2
  simp only[PV.sub,P_,Y_ hlt,w_]
  exact h2
 ·simp only[PV.sub]
  rw[ev y hu,<-h2]
theorem dH:∀(t:Ty) (x:t.den),(gr t x).map aM=(aC t x).map BV.pv/\(gr t x).length=t.sz
 | .int _,_=>⟨rfl,rfl⟩
 | .bool,_=>⟨rfl,rfl⟩
 | .str,_=>⟨rfl,rfl⟩
 | .list t,x=>⟨by rw[dU (t:=.list t) x rfl];rfl,rfl⟩
 | .unit,_=>⟨rfl,rfl⟩
 | .pair a b,x=>by
  obtain⟨h1,h2⟩:=dH a x.1
  obtain⟨h3,h4⟩:=dH b x.2
  have hc:aC (.pair a b) x=aC a x.1++aC b x.2:=rfl
  refine⟨?_,by simp only[gr,x_,h2,h4,Ty.sz]⟩
  rw[hc]
  simp only[gr,C_,h1,h3]
 | .rx,x=>⟨by rw[tj x];rfl,rfl⟩
theorem nL{u:Ty}{v:V}{x:u.den}(h:iP u v=some x):(aM v).toPV=some (aG u x):=by
 cases v<;>simp only[iP]at h<;>try cases h
 ·obtain⟨e1,rfl⟩:=bS h;rw[e1];rfl
 ·obtain⟨rfl,rfl⟩:=bV h;rfl
 ·obtain⟨e1,rfl⟩:=bS h;rw[e1];rfl
theorem IE{u:Ty}{v:V}{x:u.den}(h:iP u v=some x):aT v= .b (aM v):=by
 cases v<;>simp only[iP]at h<;>first|rfl|cases h
theorem wZ:∀(t:Ty) (l:List V) (x:t.den) (m:List V),Ph t l=some (x,m)->∃l0,l=l0++m/\(l0.map aM).mapM BV.toPV=some (aC t x)
 | .unit,l,x,m,h=>by simp only[Ph,e_,ac_.injEq]at h;obtain⟨_,rfl⟩:=h;exact⟨[],rfl,rfl⟩
 | .pair a b,l,x,m,h=>by
  simp only[Ph]at h
  split at h
  ·rename_i y l1 h1
   split at h
   ·rename_i z l2 h2
    simp only[e_,ac_.injEq]at h
    obtain⟨rfl,rfl⟩:=h
    obtain⟨p,rfl,hp⟩:=wZ a l y l1 h1
    obtain⟨q,rfl,hq⟩:=wZ b l1 z l2 h2
    refine⟨p++q,by simp,?_⟩
    have hc:aC (.pair a b) (y,z)=aC a y++aC b z:=rfl
    rw[hc,C_,aa_,hp,hq]
    rfl
   ·cases h
  ·cases h
 | .rx,l,x,m,h=>by
  unfold Ph at h
  split at h
  ·rename_i a b c e l'
   split at h
   ·rename_i a' b' c' e' h1 h2 h3 h4
    simp only[e_,ac_.injEq]at h
    obtain⟨rfl,rfl⟩:=h
    refine⟨[a,b,c,e],rfl,?_⟩
    rw[tj]
    simp only[m_,an_,j_,ai_,nL h1,nL h2,nL h3,nL h4]
    rfl
   ·cases h
  ·cases h
 | .int k,l,x,m,h=>asm_leaf (.int k) l x m rfl h
 | .bool,l,x,m,h=>asm_leaf .bool l x m rfl h
 | .str,l,x,m,h=>asm_leaf .str l x m rfl h
 | .list t,l,x,m,h=>asm_leaf (.list t) l x m rfl h
where
 asm_leaf (t:Ty) (l:List V) (x:t.den) (m:List V) (ht:t.ag=false) (h:(match l with
  |v::l=>match iP t v with
   |some x=>some (x,l)
   |none=>none
  |[]=>none)=some (x,m)):∃l0,l=l0++m/\(l0.map aM).mapM BV.toPV=some (aC t x):=by
  split at h
  ·rename_i v l'
   split at h
   ·rename_i y h1
    simp only[e_,ac_.injEq]at h
    obtain⟨rfl,rfl⟩:=h
    refine⟨[v],rfl,?_⟩
    rw[dU _ ht]
    simp only[m_,an_,j_,ai_,nL h1]
    rfl
   ·cases h
  ·cases h
theorem eU{t:Ty}{v:V}{x:t.den}(h:dD t v=some x):(aT v).toPV=some (aG t x):=by
 unfold dD at h
 split at h
 ·rename_i vs
  split at h
  ·rename_i ht
   split at h
   ·rename_i y h1
    cases h
    obtain⟨l0,h2,h3⟩:=wZ t vs x [] h1
    rw[ax_]at h2
    subst h2
    show((vs.map aM).mapM BV.toPV).map PV.agg=_
    rw[h3,ev x ht]
    rfl
   ·cases h
  ·cases h
 ·rw[IE h]
  exact nL h
theorem NH(v:V)(hv:∀vs,v≠.tup vs):(cS v).map aM=(aT v).cells:=by
 cases v with
 |d t x=>exact(dH t x).1
 |agg vs=>rfl
 |tup vs=>exact absurd rfl (hv vs)
 |nil t=>rfl
 |raw v=>
  show [bI v]=_;unfold aT;simp only[aM];cases hc:bI v<;>first|rfl|skip
  rename_i p
  unfold bI at hc
  split at hc
  ·cases hc
  ·cases hc;rfl
 |full t x=>rfl
 |any=>rfl
 |dp t x=>rfl
 |fnD f cs=>rfl
 |lit k t xs=>cases xs<;>rfl
 |_=>rfl
theorem Ww(sz:Nat)(xs:List PV):(mF sz xs).cells=[mF sz xs]/\(mF sz xs).cellOk=true:=by
 cases xs<;>exact⟨rfl,rfl⟩
theorem J6(t:Ty)(x:List t.den):(aG (.list t) x).cells=[aG (.list t) x]/\(aG (.list t) x).cellOk=true:=Ww _ _
theorem AM:∀(t:Ty) (x:t.den),((aC t x).all PV.cellOk)=true
 | .int _,_=>rfl
 | .bool,_=>rfl
 | .str,_=>rfl
 | .list t,x=>by
  have h:=J6 t x
  show((aG (.list t) x).cells.all PV.cellOk)=true
  rw[h.1]
  simp[h.2]
 | .unit,_=>rfl
 | .pair a b,x=>by
  show(((aG a x.1).cells++(aG b x.2).cells).all PV.cellOk)=true
  rw[aw_,AM a x.1,AM b x.2]
  rfl
 | .rx,r=>by
  rw[tj]
  have h:=(J6 .rx r.out.2.2.2.1).2
  simp only[s_,List.all_nil,aE_,h]
  rfl
theorem y9(t:Ty)(x:t.den):(aG t x).ok=true:=AM t x
theorem lN:∀(t:Ty) (x:t.den),t.flat=true->(aG t x).Flat/\∀y∈aC t x,y.Flat
 | .int _,_,_=>⟨.sc _,λy hy=>by rw[S_.1 hy];exact .sc _⟩
 | .bool,_,_=>⟨.sc _,λy hy=>by rw[S_.1 hy];exact .sc _⟩
 | .str,_,_=>⟨.sc _,λy hy=>by rw[S_.1 hy];exact .sc _⟩
 | .unit,_,_=>⟨.agg [] (by simp),λy hy=>by cases hy⟩
 | .pair a b,x,h=>by
  simp only[Ty.flat,b_]at h
  have h1:=(lN a x.1 h.1).2
  have h2:=(lN b x.2 h.2).2
  have hc:∀y∈aC (.pair a b) x,y.Flat:=λy hy=>by
   have:aC (.pair a b) x=aC a x.1++aC b x.2:=rfl
   rw[this,List.mem_append]at hy
   exact hy.elim (h1 y) (h2 y)
  exact⟨.agg _ λi y hy=>hc y (ae_ hy),hc⟩
def valOf:(t:Ty)->t.den->Value
 | .int k,x=>.int k x
 | .bool,x=>.bool x
 | .str,x=>.string ⟨x.toArray⟩
 |_,_=>.slice none 0 0
def AZ:V->Value
 | .d t x=>valOf t x
 | .nil _=>.slice none 0 0
 | .raw v=>v
 |_=>Go.undef
def Ty.sc:Ty->Bool
 | .int _=>true
 | .bool=>true
 | .str=>true
 |_=>false
def V.konst:V->Bool
 | .d t _=>t.sc
 | .nil _=>true
 | .raw _=>true
 |_=>false
def X.er:X->SX
 | .tm j=>.tm j
 | .k t x=>.c (valOf t x)
 | .nil _=>.c (.slice none 0 0)
 | .ag vs=>.c (.agg (vs.map AZ).toArray)
 | .f n=>.f n
 | .raw v=>.c v
def X.wf:X->Bool
 | .k t _=>t.sc
 | .ag vs=>vs.all V.konst
 | .raw v=>match v with
  | .agg _=>false
  | .slice _ _ _=>false
  |_=>true
 |_=>true
def pP(t:Ty):Value:=match t.ag with
 |true=>.agg (((gr t t.zero).map λv=>match v with
  | .d (.list _) _=>Value.slice none 0 0
  |v=>AZ v).toArray)
 |false=>match t with
  | .list _=>.slice none 0 0
  |t=>valOf t t.zero
def Of(x:Option X):Option SX:=x.map X.er
def TOp.er:TOp->SOp
 | .mv x=>.mv x.er
 | .pick c a b=>.pick c.er a.er b.er
 | .bin op x y=>.bin op x.er y.er
 | .eqB neg x y=>.eqB neg x.er y.er
 | .eqT neg tid _ x y=>.eqT neg tid x.er y.er
 | .un op x=>.un op x.er
 | .len str x=>.len str x.er
 | .lenM k e x=>.lenM k e x.er
 | .idxS x i=>.idxS x.er i.er
 | .idxV n t x i=>.idxV n t.sz t.ag x.er i.er
 | .idxA t x i=>.idxA t.sz x.er i.er
 | .idxP n t x i=>.idxP n t.sz t.ag x.er i.er
 | .fldA off t x=>.fldA off t.sz t.ag x.er
 | .fld off t x=>.fld off t.sz t.ag x.er
 | .load t x=>.load t.sz t.ag x.er
 | .store t x v=>.store t.sz x.er v.er
 | .alloc tid zero=>.alloc tid (zero.map AZ)
 | .box tid x=>.box tid x.er
 | .boxD tid _ x=>.boxD tid x.er
 | .build zero parts=>.build (zero.map AZ) (parts.map λq=>(q.1,q.2.1,q.2.2.er))
 | .bslice own tid t ln parts=>.bslice own tid t.sz ln (parts.map X.er)
 | .mslice tid t bytes l c=>.mslice tid t.sz bytes (pP t) l.er c.er
 | .append tid t bytes x y=>.append tid t.sz bytes x.er y.er
 | .cvtI k x=>.cvtI k x.er
 | .slc _ t x lo hi mx=>.slc t.sz x.er (Of lo) (Of hi) (Of mx)
 | .slcS x lo hi=>.slcS x.er (Of lo) (Of hi)
 | .ext x i=>.ext x.er i
 | .nilc x=>.nilc x.er
 | .call bor f args _=>.call bor (f%10000) (args.map λa=>a.2.er)
 | .callA _ bor B f args _=>.callA bor B (f%10000) (args.map λa=>a.2.er)
 | .callv _ bor B _ x args _=>.callv bor B x.er (args.map λa=>a.2.er)
 | .callp bor _ x args _=>.callp bor x.er (args.map λa=>a.2.er)
 | .b2s x=>.b2s x.er
 | .mkfn f caps=>.mkfn f (caps.map X.er)
 | .mkmap k e _ _=>.mkmap k e
 | .lookup k e ok _ b m x=>.lookup k e ok (pP b) m.er x.er
 | .mapset k e _ _ m x v=>.mapset k e m.er x.er v.er
 | .copy tid t x y=>.copy tid t.sz x.er y.er
 | .mnmx mx k x ys=>.mnmx mx k x.er (ys.map X.er)
 | .panic x=>.panic x.er
 | .iface tid x=>.iface tid x.er
 | .bsliceF tid t ln parts=>.bslice false tid t.sz ln (parts.map X.er)
 | .appD tid t bytes x y=>.appD tid t.sz bytes x.er y.er
 | .bsliceN tid _ t ln parts=>.bsliceN tid t.sz ln (parts.map X.er)
 | .msliceT tid k _ bytes l c=>.msliceT k tid 1 bytes (.slice none 0 0) l.er c.er
 | .appT tid k t bytes x y=>.appT k tid t.sz bytes x.er y.er
 | .atq k op=>.atq k op.er
def Vg(P:Program)(go:TypeId->Ty->Bool):List Field->Nat->Ty->Bool
 |[],_,.unit=>true
 |f::l,off,.pair a b=>(f.name != "_")&&c_ f.offset off&&(match P.info? f.type with
  |some i=>c_ i.size a.sz&&(P.underlying f.type).isSome&&(gJ P f.type==a.ag)
  |none=>false)&&go f.type a&&Vg P go l (off+a.sz) b
 |_,_,_=>false
def za(P:Program):Nat->TypeId->Ty->Bool
 |0,_,_=>false
 |d+1,t,u=>match P.underlying t,u with
  |some .bool,.bool=>true
  |some (.int k),.int k'=>decide (k=k')
  |some .string,.str=>true
  |some (.struct fs),u=> !P.stoodInHeld t&&Vg P (za P d) fs.toList 0 u
  |_,_=>false
def ly(l:List (Arg×X)):Bool:=l.all λa=>a.2.wf
def TH(x:Option X):Bool:=match x with
 |some x=>x.wf
 |none=>true
def TOp.wf(P:Program):TOp->Bool
 | .mv x=>x.wf
 | .pick c a b=>c.wf&&a.wf&&b.wf
 | .bin _ x y=>x.wf&&y.wf
 | .eqB _ x y=>x.wf&&y.wf
 | .eqT _ tid t x y=>x.wf&&y.wf&&za P 64 tid t
 | .un _ x=>x.wf
 | .len _ x=>x.wf
 | .lenM _ _ x=>x.wf
 | .idxS x i=>x.wf&&i.wf
 | .idxV _ _ x i=>x.wf&&i.wf
 | .idxA _ x i=>x.wf&&i.wf
 | .idxP _ _ x i=>x.wf&&i.wf
 | .fldA _ _ x=>x.wf
 | .fld _ _ x=>x.wf
 | .load _ x=>x.wf
 | .store _ x v=>x.wf&&v.wf
 | .alloc _ zero=>zero.all V.konst
 | .box _ x=>x.wf
 | .boxD _ _ x=>x.wf
 | .build zero parts=>zero.all V.konst&&parts.all λq=>q.2.2.wf
 | .bslice _ _ _ _ parts=>parts.all X.wf
 | .mslice _ t _ l c=>l.wf&&c.wf&&decide (t≠.rx)
 | .append _ _ _ x y=>x.wf&&y.wf
 | .cvtI _ x=>x.wf
 | .slc _ _ x lo hi mx=>x.wf&&TH lo&&TH hi&&TH mx
 | .slcS x lo hi=>x.wf&&TH lo&&TH hi
 | .ext x _=>x.wf
 | .nilc x=>x.wf
 | .call _ _ args sh=>ly args&&sh.wfB
 | .callA _ _ _ _ args sh=>ly args&&sh.wfB
 | .callv _ _ _ num x args sh=>x.wf&&ly args&&eu P (num%10000)&&sh.wfB
 | .callp _ num x args sh=>x.wf&&ly args&&eu P (num%10000)&&sh.wfB
 | .b2s x=>x.wf
 | .mkfn _ caps=>caps.all X.wf
 | .mkmap _ _ _ _=>true
 | .lookup k _ _ a b m x=>m.wf&&x.wf&&za P 64 k a&&b.sc
 | .mapset k _ a _ m x v=>m.wf&&x.wf&&v.wf&&za P 64 k a
 | .copy _ _ x y=>x.wf&&y.wf
 | .mnmx _ _ x ys=>x.wf&&ys.all X.wf
 | .panic x=>x.wf
 | .iface _ x=>x.wf
 | .bsliceF _ _ _ parts=>parts.all X.wf
 | .appD _ _ _ x y=>x.wf&&y.wf
 | .bsliceN _ _ _ _ parts=>parts.all X.wf
 | .msliceT _ _ _ _ l c=>l.wf&&c.wf
 | .appT _ _ _ _ x y=>x.wf&&y.wf
 | .atq _ op=>op.wf P
def FW(t:Nat)(want:Bool)(r alt:SX):SOp:=match want with
 |true=>.pick (.tm t) r alt
 |false=>.pick (.tm t) alt r
def RC.er:Option (Nat×Bool)->RC->List SOper
 |_,.nil=>[]
 |g,.op d o rest=>⟨d,o.er,g⟩::rest.er g
 |g,.adj _ rest=>rest.er g
 |g,.gb t want blk _ r alt dst rest=>blk.er (some (t,want))++(⟨some dst,FW t want r.er alt.er,g⟩::rest.er g)
def TOp.pureB:TOp->Bool
 | .store .. =>false
 | .alloc .. =>false
 | .box .. =>false
 | .bslice own .. => !own
 | .mslice .. =>false
 | .append .. =>false
 | .callA .. =>false
 | .callv .. =>false
 | .mkmap .. =>false
 | .mapset .. =>false
 | .copy .. =>false
 | .panic .. =>false
 | .atq .. =>false
 | .msliceT .. =>false
 | .appT .. =>false
 |_=>true
def TOp.exB:TOp->Bool
 | .append .. =>true
 | .callA .. =>true
 | .callv .. =>true
 | .store .. =>true
 |o=>o.pureB
def TOp.isAt:TOp->Bool
 | .atq .. =>true
 |_=>false
def RC.pureB:RC->Bool
 | .nil=>true
 | .op _ o rest=>o.pureB&&rest.pureB
 | .adj _ _=>false
 | .gb _ _ blk _ _ _ _ rest=>blk.pureB&&rest.pureB
def RC.wf(P:Program):RC->Bool
 | .nil=>true
 | .op _ o rest=>o.wf P&&rest.wf P
 | .adj _ rest=>rest.wf P
 | .gb _ _ blk _ r alt _ rest=>blk.wf P&&blk.pureB&&r.wf&&alt.wf&&rest.wf P
def XS(j:Nat)(b:Bool)(us:List Nat)(d:Option Nat)(o:TOp):PO:=⟨j,b,us,o.er.rd,o.er.lent,d,o,none⟩
def XR(j:Nat)(b:Bool)(us:List Nat)(t:Nat)(want:Bool)(d:Option Nat)(o:TOp):PO:=⟨j,b,us,o.er.rd++[t],o.er.lent,d,o,some (t,want)⟩
def PO.so(p:PO):SOper:=⟨p.d,p.o.er,p.g⟩
def Hr(pre:List PO):List SOper:=(aj_ pre.length).map λj=>match pre.find? λp=>c_ p.j j with
 |some p=>p.so
 |none=>default
def TC.er:TC->AC
 | .skip=>.skip
 | .region ops=>.region (ops.er none)
 | .draw k ops af=>.draw k (ops.er none) af
 | .regL pre=>.region (pre.map PO.so)
 | .draw2 _ pre tl af=>.draw2 (pre.map λp=>(p.j,p.b)) (Hr pre++tl.er none) af
 | .seq a b=>.seq a.er b.er
 | .cond x a b=>.cond x.er a.er b.er
 | .block id a=>.block id a.er
 | .loop _ _ a=>.loop a.er
 | .exit id=>.exit id
 | .ret=>.ret
 | .adj _ a=>a.er
 | .after a _=>a.er
 | .cut _ a=>a.er
theorem pH(fr:List (Nat×V))(k:Nat):Av.look (fr.map λx=>(x.1,aT x.2)) k=(lk fr k).map aT:=by
 induction fr with
 |nil=>rfl
 |cons x fr ih=>
  obtain⟨j,v⟩:=x
  simp only[m_,Av.look,lk]
  by_cases h:k=j
  ·subst h;simp
  ·rw[if_neg h,ih]
   have:c_ k j=false:=by
    cases hb:c_ k j
    ·rfl
    ·exact absurd (a_ hb) h
   rw[this];rfl
theorem xo{v:V}(h:v.konst=true):bI (AZ v)=aM v:=by
 cases v<;>simp only[V.konst]at h<;>try cases h
 ·rename_i t x
  cases t<;>simp only[Ty.sc]at h<;>first|rfl|cases h
 ·rfl
 ·rfl
theorem aA{s:S}{x:X}{v:V}(hw:x.wf=true)(h:s.get x=some v):(enc s).get x.er=some (aT v):=by
 cases x with
 |tm k=>
  simp only[S.get]at h
  show Av.look (s.fr.map λx=>(x.1,aT x.2)) k=_
  rw[pH,h];rfl
 |k t x=>
  simp only[S.get,e_]at h
  subst h
  simp only[X.wf]at hw
  cases t<;>simp only[Ty.sc]at hw<;>first|rfl|cases hw
 |nil t=>simp only[S.get,e_]at h;subst h;rfl
 |ag vs=>
  simp only[S.get,e_]at h
  subst h
  simp only[X.wf,n_]at hw
  show some (AV.agg (((vs.map AZ).toArray).toList.map bI))=some (.agg (vs.map aM))
  simp only[i_]
  congr 2
  exact k_ λv hv=>xo (hw v hv)
 |f n=>simp only[S.get,e_]at h;subst h;rfl
 |raw v=>
  simp only[S.get,e_]at h
  subst h
  simp only[X.wf]at hw
  cases v<;>simp only at hw<;>first|rfl|cases hw
theorem gB(s:S)(d:Option Nat)(v:V):enc (s.putO d v)=(enc s).putO d (aT v):=by
 cases d<;>rfl
theorem bY(s:S)(i:Nat):(enc s).hp[i]? =(s.hp[i]?).map bU:=by simp[enc]
theorem eX{α:Type}:∀(l:List α) (n:Nat) (y:α),setAt l n y=l.set n y
 |[],_,_=>rfl
 |_::_,0,_=>rfl
 |x::l,n+1,y=>by simp[setAt,eX l n y]
theorem Nn(t:Ty)(ht:t≠.rx):(fU (pP t)).toPV=some (aG t t.zero)/\(fU (pP t)).cells.length=t.sz:=by
 have leafZ:∀(t:Ty),(((gr t t.zero).map λv=>match v with
  | .d (.list _) _=>Value.slice none 0 0
  |v=>AZ v).map bI).mapM BV.toPV=some (aC t t.zero)/\(gr t t.zero).length=t.sz:=by
  intro t
  refine⟨?_,(dH t t.zero).2⟩
  induction t with
  |pair a b iha ihb=>
   have hc:aC (.pair a b) (Ty.zero (.pair a b))=aC a a.zero++aC b b.zero:=rfl
   rw[hc]
   simp only[gr,Ty.zero,C_,aa_]
   rw[iha,ihb]
   rfl
  |rx=>rfl
  |list t=>rfl
  |_=>rfl
 cases h:t.ag
 ·cases t<;>simp[Ty.ag]at h<;>exact⟨rfl,rfl⟩
 ·have:=leafZ t
  simp only[pP,h]
  simp only[fU]
  refine⟨?_,?_⟩
  ·show((((((gr t t.zero).map λv=>match v with
   | .d (.list _) _=>Value.slice none 0 0
   |v=>AZ v).toArray).toList).map bI).mapM BV.toPV).map PV.agg=_
   rw[List.toList_toArray,this.1,ev _ h]
   rfl
  ·show(((((gr t t.zero).map λv=>match v with
   | .d (.list _) _=>Value.slice none 0 0
   |v=>AZ v).toArray).toList).map bI).length=_
   simp[this.2]
structure Zt where
 ty:List Ty
 kk:List K
 sh:List Sh
 zs:List (List V)
structure Zx where
 o:List TOp
 c:List TC
def Ce{α:Type}(d:α):List α->Nat->α
 |[],_=>d
 |x::l,n=>bif c_ n 0 then x else Ce d l (n - 1)
def zf:Nat->Nat->Nat×Nat
 |0,n=>(0,n)
 |f+1,n=>bif l_ 8 (n%16)then(match zf f (n/16)with|(v,r)=>(n%16 - 8+8*v,r))else(n%16,n/16)
def zn(n:Nat):Nat×Nat:=zf 24 n
def zl{α:Type}(p:Nat->α×Nat):Nat->Nat->List α×Nat
 |0,n=>([],n)
 |k+1,n=>match p n with
  |(a,r)=>match zl p k r with
   |(l,r)=>(a::l,r)
def Bo{α:Type}(p:Nat->α×Nat)(n:Nat):List α×Nat:=match zn n with
 |(k,r)=>zl p k r
def zm{α β:Type}(f:α->β)(p:α×Nat):β×Nat:=match p with
 |(a,r)=>(f a,r)
def zb{α β:Type}(p:α×Nat)(f:α->Nat->β×Nat):β×Nat:=match p with
 |(a,r)=>f a r
def VQ(v:Nat):Int:=bif c_ (v%2) 0 then Int.ofNat (v/2)else Int.negSucc (v/2)
def XE:Nat->Nat->Nat->List Nat×Nat
 |0,_,n=>([],n)
 |k+1,b,n=>match zn n with
  |(v,r)=>match XE k (b+v) r with
   |(l,r)=>((b+v)::l,r)
def X2(n:Nat):List Nat×Nat:=match zn n with
 |(k,r)=>XE k 0 r
def R9(b c:Nat):Nat:=bif c_ (c%2) 0 then b+c/2 else b - (c/2+1)
def zt(b n:Nat):Nat×Nat:=match zn n with
 |(c,r)=>(R9 b c,r)
def zd(b n:Nat):Option Nat×Nat:=match zn n with
 |(c,r)=>(bif c_ c 0 then none else some (R9 b (c - 1)),r)
section
variable (T:Zt)
def yE(n:Nat):Ty×Nat:=match zn n with
 |(i,r)=>(Ce .unit T.ty i,r)
def zk(n:Nat):K×Nat:=match zn n with
 |(i,r)=>(Ce .e T.kk i,r)
def XX(n:Nat):Sh×Nat:=match zn n with
 |(i,r)=>(Ce ⟨[],⟨[],[]⟩,[]⟩ T.sh i,r)
def zV:Nat->Nat->V×Nat
 |0,n=>(.any,n)
 |f+1,n=>match zn n with
  |(o,r)=>match o with
   |0=>(.any,r)
   |1=>zm V.sl (zn r)
   |2=>zb (zn r) λi r=>zm (V.ptr i) (zn r)
   |3=>zm V.mp (zn r)
   |4=>zm V.nil (yE T r)
   |5=>(.raw (.pointer none),r)
   |6=>(.raw (.slice none 0 0),r)
   |7=>zm V.agg (Bo (zV f) r)
   |8=>zm V.tup (Bo (zV f) r)
   |9=>zm (λv=>V.d tI (VQ v)) (zn r)
   |10=>zm (λv=>V.d tB (c_ v 1)) (zn r)
   |11=>zb (zn r) λi r=>zm (V.clo i) (Bo zn r)
   |12=>(.raw .nilIface,r)
   |13=>(.raw (.map none),r)
   |14=>(.ifc,r)
   |15=>zb (zn r) λk r=>zm (λv=>match Ce .unit T.ty k with| .int k=>V.d (.int k) (VQ v)|_=>.any) (zn r)
   |16=>zm (λl=>V.d tS (l.map UInt8.ofNat)) (Bo zn r)
   |_=>zm (λi=>(Ce [] T.zs i).headD .any) (zn r)
def zX(b n:Nat):X×Nat:=match zn n with
 |(c,r)=>match c%4 with
  |0=>(.tm (R9 b (c/4)),r)
  |1=>(.k tI (VQ (c/4)),r)
  |_=>match c/4 with
   |0=>(.k tB false,r)
   |1=>(.k tB true,r)
   |2=>zm X.nil (yE T r)
   |3=>zb (zn r) λk r=>zm (λv=>match Ce .unit T.ty k with| .int k=>X.k (.int k) (VQ v)|_=>.f 0) (zn r)
   |4=>zm (λl=>X.k tS (l.map UInt8.ofNat)) (Bo zn r)
   |5=>zm X.ag (Bo (zV T 9) r)
   |6=>zm X.f (zn r)
   |7=>(.raw (.pointer none),r)
   |8=>(.raw (.slice none 0 0),r)
   |9=>(.raw .nilIface,r)
   |10=>(.raw (.map none),r)
   |_=>zm (λi=>match(Ce [] T.zs i).headD .any with| .raw v=>X.raw v|_=>.f 0) (zn r)
def W2(b n:Nat):(Arg×X)×Nat:=match zn n with
 |(c,r)=>zm (λx=>(bif c_ c 0 then Arg.x else .d (Ce .unit T.ty (c - 1)),x)) (zX T b r)
def XW:Nat->BinOp
 |0=>.add|1=>.sub|2=>.mul|3=>.quo|4=>.rem|5=>.and|6=>.or|7=>.xor|8=>.andNot|9=>.shl|10=>.shr
 |11=>.eql|12=>.neq|13=>.lss|14=>.leq|15=>.gtr|_=>.geq
def XG(b n:Nat):Option X×Nat:=match zn n with
 |(0,r)=>(none,r)
 |(_,r)=>zm some (zX T b r)
def XF(x:Zx)(b:Nat)(o:Nat)(r:Nat):TOp×Nat:=
 match o with
 |1=>zm (λt=>.mv (.tm t)) (zt b r)
 |2=>zb (yE T r) λt r=>zm (λx=>.load t (.tm x)) (zt b r)
 |3=>zb (zn r) λj r=>zb (yE T r) λt r=>zm (λx=>.fldA j t (.tm x)) (zt b r)
 |5=>zb (zn r) λk r=>zb (zX T b r) λx r=>zm (λy=>.bin (XW k) x y) (zX T b r)
 |6=>zm .mv (zX T b r)
 |7=>zb (yE T r) λt r=>zb (zX T b r) λx r=>zm (λi=>.idxA t x i) (zX T b r)
 |8=>zb (yE T r) λt r=>zb (zX T b r) λx r=>zm (λi=>.store t x i) (zX T b r)
 |9=>zm (.len false) (zX T b r)
 |10=>zb (zn r) λf r=>zb (Bo (W2 T b) r) λl r=>zm (λq=>.call false f l q) (XX T r)
 |12=>zm .nilc (zX T b r)
 |13=>zb (zX T b r) λx r=>zm (.ext x) (zn r)
 |14=>zm (.un .not) (zX T b r)
 |15=>zm (λi=>Ce (.mv (.tm 0)) x.o i) (zn r)
 |17=>zb (zn r) λt r=>zm (λi=>.alloc t (Ce [] T.zs i)) (zn r)
 |18=>zb (zn r) λt r=>zb (yE T r) λu r=>zm (.boxD t u) (zX T b r)
 |19=>zb (zn r) λi r=>zm (.build (Ce [] T.zs i)) (Bo (λr=>zb (zn r) λa r=>zb (zn r) λc r=>zm (λx=>(a,c,x)) (zX T b r)) r)
 |20=>zb (zn r) λo r=>zb (zn r) λt r=>zb (yE T r) λu r=>zb (zn r) λl r=>zm (λp=>.bslice (c_ o 1) t u l p) (Bo (zX T b) r)
 |21=>zb (zn r) λt r=>zb (yE T r) λu r=>zb (zn r) λs r=>zb (zX T b r) λx r=>zm (.append t u s x) (zX T b r)
 |22=>zb (zn r) λm r=>zb (Bo zn r) λB r=>zb (zn r) λf r=>zb (Bo (W2 T b) r) λl r=>zm (λq=>.callA (l_ 2 m) (c_ (m%2) 1) B f l q) (XX T r)
 |23=>zb (zn r) λt r=>zb (yE T r) λu r=>zb (zn r) λs r=>zb (zX T b r) λx r=>zm (.mslice t u s x) (zX T b r)
 |24=>zb (zn r) λj r=>zb (yE T r) λt r=>zm (.fld j t) (zX T b r)
 |25=>zb (zn r) λt r=>zm (.box t) (zX T b r)
 |26=>zb (zn r) λm r=>zb (zX T b r) λx r=>zm (.eqB (c_ m 1) x) (zX T b r)
 |27=>zb (zX T b r) λx r=>zm (.idxS x) (zX T b r)
 |28=>zm (.len true) (zX T b r)
 |29=>zb (zn r) λm r=>zb (zn r) λt r=>zb (yE T r) λu r=>zb (zX T b r) λx r=>zm (.eqT (c_ m 1) t u x) (zX T b r)
 |30=>zb (zn r) λf r=>zb (Bo (W2 T b) r) λl r=>zm (λq=>.call true f l q) (XX T r)
 |31=>zb (zX T b r) λx r=>zb (XG T b r) λl r=>zm (.slcS x l) (XG T b r)
 |_=>zb (zn r) λm r=>zb (yE T r) λt r=>zb (zX T b r) λx r=>zb (XG T b r) λl r=>zb (XG T b r) λh r=>zm (.slc (c_ m 1) t x l h) (XG T b r)
def X3(x:Zx)(b:Nat)(o:Nat)(r:Nat):TOp×Nat:=match o with
 |33=>zb (zn r) λs r=>zb (zn r) λo r=>zm (.atq s) (XF T x b o r)
 |o=>XF T x b o r
def W1(n:Nat):Adj×Nat:=match zn n with
 |(o,r)=>match o with
  |0=>zm Adj.freeze (zn r)
  |1=>zb (zn r) λk r=>zb (zn r) λty r=>zm (.adopt k ty) (yE T r)
  |2=>zb (zn r) λi r=>zb (zn r) λj r=>zb (zn r) λty r=>zm (.adoptC i j ty) (yE T r)
  |3=>zb (Bo zn r) λa r=>zm (.sel a) (X2 r)
  |4=>zm Adj.drop (Bo zn r)
  |5=>zb (zn r) λi r=>zb (zn r) λk r=>zb (zn r) λj r=>zm (.focus i k j) (yE T r)
  |6=>zm Adj.close (zn r)
  |7=>zb (zn r) λk r=>zb (zn r) λty r=>zb (zk T r) λkk r=>zm (.adoptT k ty kk) (yE T r)
  |_=>zb (zn r) λi r=>zb (zn r) λj r=>zb (zn r) λty r=>zb (zk T r) λkk r=>zm (.adoptCT i j ty kk) (yE T r)
def zR(x:Zx)(b:Nat):Nat->Nat->RC
 |0,_=>.nil
 |f+1,n=>match zn n with
  |(o,r)=>match o with
   |0=>.nil
   |4=>match zn r with
    |(c,r)=>match zn r with
     |(j,r)=>match yE T r with
      |(t,r)=>match zt b r with
       |(k,r)=>.op (some (R9 b c)) (.fldA j t (.tm k)) (.op (some (R9 b c+1)) (.load t (.tm (R9 b c))) (zR x b f r))
   |11=>match zn r with
    |(m,r)=>match zt b r with
     |(t,r)=>match yE T r with
      |(ty,r)=>match zX T b r with
       |(u,r)=>match zX T b r with
        |(al,r)=>match zt b r with
         |(d,r)=>match zn r with
          |(len,r)=>.gb t (c_ m 1) (zR x b f r) ty u al d (zR x b f (T_ r (4*len)))
   |16=>match Bo (W1 T) r with
    |(l,r)=>.adj l (zR x b f r)
   |o=>match zd b r with
    |(d,r)=>match X3 T x b o r with
     |(op,r)=>.op d op (zR x b f r)
def X9(n:Nat):Ob×Nat:=match zn n with
 |(o,r)=>match o with
  |0=>(.gone,r)
  |1=>zb (zn r) λt r=>zm (.box t) (Bo (zV T 9) r)
  |2=>zb (zn r) λt r=>zm (λu=>.vec t u []) (yE T r)
  |3=>zb (zn r) λt r=>zb (zk T r) λk r=>zm (λu=>.tree t k u [] none) (yE T r)
  |4=>zb (zn r) λt r=>zb (zk T r) λk r=>zb (yE T r) λu r=>zb (zn r) λj r=>zm (λs=>.tree t k u [] (some (0,j,.sl s))) (zn r)
  |5=>zb (zn r) λk r=>zb (zn r) λty r=>zb (yE T r) λa r=>zm (λc=>.map k ty a c []) (yE T r)
  |_=>(.free,r)
def XH(n:Nat):Slot×Nat:=match zn n with
 |(o,r)=>match o with
  |0=>zb (zn r) λk r=>zm (.tm k) (yE T r)
  |1=>zb (zn r) λk r=>zb (zn r) λj r=>zm (.cell k j) (yE T r)
  |2=>zb (zn r) λk r=>zb (zn r) λj r=>zm (.vec k j) (yE T r)
  |3=>zb (zn r) λk r=>zb (zn r) λj r=>zb (zn r) λty r=>zb (yE T r) λa r=>zm (.map k j ty a) (yE T r)
  |4=>zb (zn r) λk r=>zb (zn r) λj r=>zb (zk T r) λty r=>zm (.tree k j ty) (yE T r)
  |_=>zb (zn r) λk r=>zb (zn r) λj r=>zb (zk T r) λty r=>zb (yE T r) λu r=>zb (zn r) λi r=>zm (.treeH k j ty u i) (zn r)
def X1(n:Nat):Sh×Nat:=
 zb (X2 n) λks r=>zb (Bo (λr=>zb (zn r) λk r=>zm (λv=>(k,v)) (zV T 9 r)) r) λfr r=>zb (Bo (X9 T) r) λhp r=>zm (λsl=>⟨ks,⟨fr,hp⟩,sl⟩) (Bo (XH T) r)
def X4(n:Nat):List (Nat×Sh)×Nat:=Bo (λr=>zb (zn r) λk r=>zm (λv=>(k,v)) (X1 T r)) n
def X0(x:Zx)(b n:Nat):PO×Nat:=
 zb (zn n) λj r=>zb (zn r) λc r=>zb (Bo zn r) λus r=>zb (zd b r) λd r=>zb (zd b r) λg r=>zb (zn r) λo r=>zm (λop=>match g with|none=>XS j (c_ (c%2) 1) us d op|some t=>XR j (c_ (c%2) 1) us t (l_ 2 c) d op) (X3 T x b o r)
def zC(x:Zx):Nat->Nat->TC
 |0,_=>.skip
 |f+1,n=>match zn n with
  |(o,r)=>match o with
   |0=>.skip
   |1=>match zn r with
    |(b,r)=>.region (zR T x b 400 r)
   |2=>match zn r with
    |(len,r)=>.seq (zC x f r) (zC x f (T_ r (4*len)))
   |3=>match zX T 0 r with
    |(c,r)=>match zn r with
     |(len,r)=>.cond c (zC x f r) (zC x f (T_ r (4*len)))
   |4=>match zn r with
    |(i,r)=>.block i (zC x f r)
   |5=>match X1 T r with
    |(sh,r)=>match X4 T r with
     |(xs,r)=>.loop sh xs (zC x f r)
   |6=>match zn r with
    |(i,_)=>.exit i
   |7=>.ret
   |8=>match zn r with
    |(k,r)=>match Bo (Bo zn) r with
     |(af,r)=>match zn r with
      |(b,r)=>.draw k (zR T x b 400 r) af
   |9=>match Bo (W1 T) r with
    |(l,r)=>.adj l (zC x f r)
   |10=>match Bo (W1 T) r with
    |(l,r)=>.after (zC x f r) l
   |11=>match X4 T r with
    |(xs,r)=>.cut xs (zC x f r)
   |12=>match zn r with
    |(k,r)=>match Bo (Bo zn) r with
     |(af,r)=>match zn r with
      |(b,r)=>match Bo (X0 T x b) r with
       |(pre,r)=>.draw2 k pre (zR T x b 400 r) af
   |13=>match zn r with
    |(b,r)=>match Bo (X0 T x b) r with
     |(pre,_)=>.regL pre
   |_=>match zn r with
    |(i,_)=>Ce .skip x.c i
end
noncomputable def L4(l:List (Nat×V))(t:Nat):Option V:=List.rec (motive:=λ_=>Option V) none (λx _ ih=>E_ (motive:=λ_=>Option V) ih (some x.2) (c_ t x.1)) l
theorem sB(t:Nat):∀l:List (Nat×V),L4 l t=lk l t
 |[]=>rfl
 |(k,a)::l=>by
  show(E_ (motive:=λ_=>Option V) (L4 l t) (some a) (c_ t k))=bif c_ t k then some a else lk l t
  rw[sB t l]
  cases c_ t k<;>rfl
noncomputable def S.getQ(s:S)(x:X):Option V:=X.casesOn (motive:=λ_=>Option V) x (λk=>L4 s.fr k) (λt x=>some (.d t x)) (λt=>some (.nil t)) (λvs=>some (.agg vs)) (λn=>some (.fnD n [])) (λv=>some (.raw v))
theorem gC(s:S)(x:X):s.getQ x=s.get x:=by
 cases x<;>first|exact sB _ _|rfl
def pn(m k:Nat):Bool:=c_ (ab_ (T_ m k) 1) 1
theorem lZ(m k:Nat):pn m k=m.testBit k:=by
 show c_ ((m>>>k)&&&1) 1=((1&&&(m>>>k)) != 0)
 rw[ao_,ao_ 1,ao_,Nat.one_and_eq_mod_two]
 rcases Nat.mod_two_eq_zero_or_one (m>>>k)with h|h<;>rw[h]<;>rfl
theorem uc(a b:List Nat)(k:Nat):mf (a++b) k=(mf a k||mf b k):=by simp[mf]
theorem qP(a b k:Nat):pn (N_ a b) k=(pn a k||pn b k):=by
 rw[lZ,lZ,lZ];exact Nat.testBit_or a b k
theorem Cp(d k:Nat):pn (2^d) k=mf [d] k:=by
 rw[lZ,Nat.testBit_two_pow]
 show decide (d=k)=(c_ k d||false)
 rw[Bool.or_false]
 by_cases h:d=k
 ·subst h;simp
 ·rw[decide_eq_false h]
  cases hb:c_ k d
  ·rfl
  ·exact absurd (a_ hb).symm h
theorem ke(k:Nat):pn 0 k=mf [] k:=by rw[lZ];simp[mf]
def Ws:Option Nat->Nat
 |some d=>2^d
 |none=>0
theorem Pv(d:Option Nat)(k:Nat):pn (Ws d) k=mf (match d with|some d=>[d]|none=>[]) k:=by
 cases d with
 |none=>exact ke k
 |some d=>exact Cp d k
def RC.msk:RC->Nat
 | .nil=>0
 | .op d _ rest=>N_ (Ws d) rest.msk
 | .adj _ rest=>rest.msk
 | .gb _ _ blk _ _ _ dst rest=>N_ blk.msk (N_ (2^dst) rest.msk)
theorem RC.msk_eq(k:Nat):∀r:RC,pn r.msk k=mf r.asg k
 | .nil=>ke k
 | .op d o rest=>by simp only[RC.msk,RC.asg,qP,uc,Pv,RC.msk_eq k rest]<;>rfl
 | .adj l rest=>by simp only[RC.msk,RC.asg,RC.msk_eq k rest]
 | .gb a b blk c d e dst rest=>by
  simp only[RC.msk,RC.asg,qP,uc,RC.msk_eq k rest,RC.msk_eq k blk,Cp]
  rw[show dst::rest.asg=[dst]++rest.asg from rfl,uc]
def TV:List PO->Nat
 |[]=>0
 |p::l=>N_ (Ws p.d) (TV l)
theorem Kf(k:Nat):∀l:List PO,pn (TV l) k=mf (l.flatMap λp=>match p.d with|some d=>[d]|none=>[]) k
 |[]=>ke k
 |p::l=>by simp only[TV,al_,qP,uc,Pv,Kf k l]<;>rfl
def TC.msk:TC->Nat
 | .region ops=>ops.msk
 | .draw _ ops _=>ops.msk
 | .draw2 _ pre tl _=>N_ (TV pre) tl.msk
 | .regL pre=>TV pre
 | .seq a b=>N_ a.msk b.msk
 | .cond _ a b=>N_ a.msk b.msk
 | .block _ a=>a.msk
 | .loop _ _ a=>a.msk
 | .adj _ a=>a.msk
 | .after a _=>a.msk
 | .cut _ a=>a.msk
 |_=>0
theorem TC.msk_eq(k:Nat):∀c:TC,pn c.msk k=mf c.asg k
 | .region ops=>RC.msk_eq k ops
 | .draw _ ops _=>RC.msk_eq k ops
 | .regL pre=>Kf k pre
 | .draw2 _ pre tl _=>by simp only[TC.msk,TC.asg,qP,uc,RC.msk_eq k tl,Kf k pre]<;>rfl
 | .seq a b=>by simp only[TC.msk,TC.asg,qP,uc,TC.msk_eq k a,TC.msk_eq k b]
 | .cond _ a b=>by simp only[TC.msk,TC.asg,qP,uc,TC.msk_eq k a,TC.msk_eq k b]
 | .block _ a=>TC.msk_eq k a
 | .loop _ _ a=>TC.msk_eq k a
 | .adj _ a=>TC.msk_eq k a
 | .after a _=>TC.msk_eq k a
 | .cut _ a=>TC.msk_eq k a
 | .skip=>ke k
 | .exit _=>ke k
 | .ret=>ke k
noncomputable def Vu(m:Nat)(fr:List (Nat×V))(k:Nat):Bool:=pn m k||(match L4 fr k with
 |some v=> !v.isD
 |none=>false)
def X8(m:Nat->Bool):Slot->Bool
 | .tm k _=>m k
 |_=>true
noncomputable def Xm(sh:Sh)(m:Nat)(s:S):Bool:=sh.keep.all (λk=> !pn m k)&&sh.sl.all (X8 (Vu m s.fr))&&sh.sk.fr.all (λx=>Vu m s.fr x.1)
theorem PU{m:Nat}{A:List Nat}(h:∀k,pn m k=mf A k)(fr:List (Nat×V))(k:Nat):Vu m fr k=pJ A fr k:=by
 unfold Vu pJ
 rw[h,sB]
 all_goals rfl
theorem TP{m:Nat}{A:List Nat}(h:∀k,pn m k=mf A k)(sh:Sh)(s:S):Xm sh m s=sh.okAt A s:=by
 unfold Xm Sh.okAt
 congr 1
 ·congr 1
  ·congr 1;funext k;rw[h]
  ·congr 1;funext x
   cases x<;>first|exact PU h _ _|rfl
 ·congr 1;funext x;exact PU h _ _
noncomputable def Sf(fr:List (Nat×V)):Nat:=List.rec (motive:=λ_=>Nat) 0 (λx _ ih=>N_ (2^x.1) ih) fr
theorem N3(k:Nat):∀fr:List (Nat×V),pn (Sf fr) k=(lk fr k).isSome
 |[]=>ke k
 |(j,v)::l=>by
  show pn (N_ (2^j) (Sf l)) k=(bif c_ k j then some v else lk l k).isSome
  rw[qP,N3 k l,Cp]
  show((c_ k j||false)||_)=_
  cases c_ k j<;>rfl
theorem TE(r:RC)(fr:List (Nat×V)):c_ (ab_ r.msk (Sf fr)) 0=r.asg.all (λk=>(lk fr k).isNone):=by
 cases hb:r.asg.all (λk=>(lk fr k).isNone)
 ·cases hz:c_ (ab_ r.msk (Sf fr)) 0
  ·rfl
  ·have hz:=a_ hz
   rw[List.all_eq_false]at hb
   obtain⟨k,hk,hn⟩:=hb
   have h1:(ab_ r.msk (Sf fr)).testBit k=(r.msk.testBit k&&(Sf fr).testBit k):=az_ _ _ _
   rw[hz,<-lZ r.msk,<-lZ (Sf fr),RC.msk_eq,N3,as_]at h1
   have h2:mf r.asg k=true:=J_.2 ⟨k,hk,ap_ k⟩
   rw[h2]at h1
   simp at h1
   rw[h1]at hn
   simp at hn
 ·have:ab_ r.msk (Sf fr)=0:=by
   refine Nat.eq_of_testBit_eq λk=>?_
   have h1:(ab_ r.msk (Sf fr)).testBit k=(r.msk.testBit k&&(Sf fr).testBit k):=az_ _ _ _
   rw[h1,<-lZ r.msk,<-lZ (Sf fr),RC.msk_eq,N3,as_]
   cases hi:mf r.asg k
   ·rfl
   ·obtain⟨j,hj,he⟩:=J_.1 hi
    have he:=a_ he
    subst he
    have:=n_.1 hb k hj
    rw[W_.1 this];rfl
  rw[this];rfl
noncomputable def N2(fr l:List (Nat×V)):Bool:=List.rec (motive:=λ_=>Bool) true (λx _ ih=>y_ (motive:=λ_=>Bool) false (λw=>E_ (motive:=λ_=>Bool) false ih (V.same x.2 w)) (L4 fr x.1)) l
theorem Iv(fr:List (Nat×V)):∀l,N2 fr l=FC fr l
 |[]=>rfl
 |(k,v)::l=>by
  show y_ (motive:=λ_=>Bool) false (λw=>E_ (motive:=λ_=>Bool) false (N2 fr l) (V.same v w)) (L4 fr k)=((match lk fr k with|some w=>V.same v w|none=>false)&&FC fr l)
  rw[sB,Iv fr l]
  cases lk fr k with
  |none=>rfl
  |some w=>show E_ (motive:=λ_=>Bool) false _ (V.same v w)=(V.same v w&&_);cases V.same v w<;>rfl
noncomputable def Uy(s:S)(x:Slot):Option x.ty.den:=Slot.casesOn (motive:=λx=>Option x.ty.den) x (λk t=>y_ (motive:=λ_=>Option t.den) none (λv=>dD t v) (L4 s.fr k)) (λa b c=>gF s (.cell a b c)) (λa b c=>gF s (.vec a b c)) (λa b c d e=>gF s (.map a b c d e)) (λa b c d=>gF s (.tree a b c d)) (λa b c d e f=>gF s (.treeH a b c d e f))
theorem Uz(s:S)(x:Slot):Uy s x=gF s x:=by
 cases x<;>try rfl
 rename_i k t
 show y_ (motive:=λ_=>Option t.den) none (λv=>dD t v) (L4 s.fr k)=match lk s.fr k with|some v=>dD t v|none=>none
 rw[sB]
 cases lk s.fr k<;>rfl
noncomputable def Og(s:S)(sl:List Slot):Option (HL sl):=List.rec (motive:=λsl=>Option (HL sl)) (some ()) (λx l ih=>y_ (motive:=λ_=>Option (HL (x::l))) none (λc=>y_ (motive:=λ_=>Option (HL (x::l))) none (λr=>some (c,r)) ih) (Uy s x)) sl
theorem IQ(s:S):∀sl,Og s sl=FT s sl
 |[]=>rfl
 |x::l=>by
  show y_ (motive:=λ_=>Option (HL (x::l))) none (λc=>y_ (motive:=λ_=>Option (HL (x::l))) none (λr=>some (c,r)) (Og s l)) (Uy s x)=match gF s x with
   |some c=>match FT s l with
    |some r=>some (c,r)
    |none=>none
   |none=>none
  rw[Uz,IQ s l]
  cases gF s x with
  |none=>rfl
  |some c=>cases FT s l<;>rfl
noncomputable def SC(fr:List (Nat×V))(ks:List Nat):Bool:=List.rec (motive:=λ_=>Bool) true (λk _ ih=>y_ (motive:=λ_=>Bool) false (λv=>E_ (motive:=λ_=>Bool) false ih v.isD) (L4 fr k)) ks
theorem K3(fr:List (Nat×V)):∀ks,SC fr ks=ks.all (Td fr)
 |[]=>rfl
 |k::l=>by
  show y_ (motive:=λ_=>Bool) false (λv=>E_ (motive:=λ_=>Bool) false (SC fr l) v.isD) (L4 fr k)=((match lk fr k with|some v=>v.isD|none=>false)&&l.all (Td fr))
  rw[sB,K3 fr l]
  cases lk fr k with
  |none=>rfl
  |some v=>show E_ (motive:=λ_=>Bool) false _ v.isD=(v.isD&&_);cases v.isD<;>rfl
noncomputable def IR(sh:Sh)(s:S):Option (HL sh.sl):=E_ (motive:=λ_=>Option (HL sh.sl)) none (Og s sh.sl) (N2 s.fr sh.sk.fr&&Cf sh.sk.hp s.hp&&SC s.fr sh.keep)
theorem FU(sh:Sh)(s:S):IR sh s=pack sh s:=by
 unfold IR pack S.fits
 rw[Iv,K3,IQ]
 cases FC s.fr sh.sk.fr&&Cf sh.sk.hp s.hp&&sh.keep.all (Td s.fr)<;>rfl
noncomputable def LZ(fr:List (Nat×V))(ks:List Nat):List (Nat×V):=List.rec (motive:=λ_=>List (Nat×V)) [] (λk _ ih=>y_ (motive:=λ_=>List (Nat×V)) ih (λv=>E_ (motive:=λ_=>List (Nat×V)) ih ((k,v)::ih) v.isD) (L4 fr k)) ks
theorem L1(fr:List (Nat×V)):∀ks,LZ fr ks=dG fr ks
 |[]=>rfl
 |k::l=>by
  show y_ (motive:=λ_=>List (Nat×V)) (LZ fr l) (λv=>E_ (motive:=λ_=>List (Nat×V)) (LZ fr l) ((k,v)::LZ fr l) v.isD) (L4 fr k)=match lk fr k with
   |some v=>bif v.isD then(k,v)::dG fr l else dG fr l
   |none=>dG fr l
  rw[sB,L1 fr l]
  cases lk fr k with
  |none=>rfl
  |some v=>show E_ (motive:=λ_=>List (Nat×V)) _ _ v.isD=bif v.isD then _ else _;cases v.isD<;>rfl
noncomputable def Sh.baseQ(sh:Sh)(s:S):S:=⟨LZ s.fr sh.keep++sh.sk.fr,sh.sk.hp⟩
theorem ER(sh:Sh)(s:S):sh.baseQ s=sh.base s:=by unfold Sh.baseQ Sh.base;rw[L1]
noncomputable def FF:(xs:List (Nat×Sh))->Nat->S->Option (XT xs)
 |[],_,_=>none
 |[(k,sh)],key,s=>bif c_ k key then IR sh s else none
 |(k,sh)::a::l,key,s=>bif c_ k key then(match IR sh s with|some c=>some (.inl c)|none=>none)else(match FF (a::l) key s with|some c=>some (.inr c)|none=>none)
theorem J3(key:Nat)(s:S):∀xs,FF xs key s=inj xs key s
 |[]=>rfl
 |[(k,sh)]=>by simp only[FF,inj,FU]
 |(k,sh)::a::l=>by simp only[FF,inj,FU,J3 key s (a::l)]<;>rfl
noncomputable def kB{R:Type}(s:S)(κ:Nat->S->Option R):(xs:List (Nat×Sh))->XT xs->Option R
 |[],_=>none
 |[(k,sh)],c=>κ k (unpack sh.sl c (sh.baseQ s))
 |(k,sh)::a::l,c=>aL_ (λc=>κ k (unpack sh.sl c (sh.baseQ s))) (λc=>kB s κ (a::l) c) c
theorem tR{R:Type}(s:S)(κ:Nat->S->Option R):∀xs c,kB s κ xs c=jC s κ xs c
 |[],_=>rfl
 |[(k,sh)],c=>by simp only[kB,jC,ER]
 |(k,sh)::a::l,c=>by simp only[kB,jC,ER,tR s κ (a::l)]
abbrev MQ(R:Type):Type:=ak->Option Nat->S->(S->Option R)->(S->Option R)->Option R
section
variable {R:Type}
noncomputable def Xt(x:X):MQ R:=λO d s κ kp=>match s.getQ x with
 |some v=>κ (s.putO d v)
 |none=>none
def WR(c:X)(a:X)(b:X):MQ R:=λO d s κ kp=>evOp O d (.pick c a b) s κ kp
noncomputable def V5(op:BinOp)(x:X)(y:X):MQ R:=λO d s κ kp=>match s.getQ x,s.getQ y with
 |some (.d (.int k) a),some (.d (.int k') b)=>UX op k k' a b λv=>κ (s.putO d v)
 |some (.d .str a),some (.d .str b)=>UY op a b λv=>κ (s.putO d v)
 |_,_=>none
noncomputable def V6(neg:Bool)(x:X)(y:X):MQ R:=λO d s κ kp=>match s.getQ x,s.getQ y with
 |some (.d .bool a),some (.d .bool b)=>κ (s.putO d (.d .bool (neg ^^ (a==b))))
 |_,_=>none
def Xr(neg:Bool)(tid:TypeId)(t:Ty)(x:X)(y:X):MQ R:=λO d s κ kp=>evOp O d (.eqT neg tid t x y) s κ kp
noncomputable def Xv(op:UnOp)(x:X):MQ R:=λO d s κ kp=>match op,s.getQ x with
 | .not,some (.d .bool a)=>κ (s.putO d (.d .bool (!a)))
 | .neg,some (.d (.int k) a)=>κ (s.putO d (.d (.int k) (k.wrap (0 - a))))
 |_,_=>none
noncomputable def q_len(str:Bool)(x:X):MQ R:=λO d s κ kp=>match str,s.getQ x with
 |true,some (.d .str a)=>κ (s.putO d (.d (.int .i64) a.length))
 |false,some (.d (.list _) a)=>κ (s.putO d (.d (.int .i64) a.length))
 |false,some (.nil _)=>κ (s.putO d (.d (.int .i64) 0))
 |false,some (.sl id)=>match s.hp[id]? with
  |some (.vec _ _ xs)=>κ (s.putO d (.d (.int .i64) xs.length))
  |some (.tree _ _ _ xs _)=>κ (s.putO d (.d (.int .i64) xs.length))
  |_=>none
 |_,_=>none
def WO(k:TypeId)(e:TypeId)(x:X):MQ R:=λO d s κ kp=>evOp O d (.lenM k e x) s κ kp
def WM(x:X)(i:X):MQ R:=λO d s κ kp=>evOp O d (.idxS x i) s κ kp
def WN(n:Nat)(t:Ty)(x:X)(i:X):MQ R:=λO d s κ kp=>evOp O d (.idxV n t x i) s κ kp
noncomputable def T8(t:Ty)(x:X)(i:X):MQ R:=λO d s κ kp=>match s.getQ x with
 |some (.sl id)=>match s.hp[id]? with
  |some (.vec _ u xs)=>bif decide (u=t)then intOf (s.getQ i) λn=>f_ (aL xs n) λ_=>κ (s.putO d (.elt id n.toNat 0))else none
  |some (.tree _ _ u xs _)=>bif decide (u=t)then intOf (s.getQ i) λn=>f_ (aL xs n) λ_=>κ (s.putO d (.elt id n.toNat 0))else none
  |_=>none
 |some (.d (.list u) xs)=>match cf (.list u) (.list t) xs with
  |some xs=>intOf (s.getQ i) λn=>f_ (aL xs n) λx=>κ (s.putO d (.dp t x))
  |none=>none
 |_=>none
def WL(n:Nat)(t:Ty)(x:X)(i:X):MQ R:=λO d s κ kp=>evOp O d (.idxP n t x i) s κ kp
noncomputable def T7(off:Nat)(t:Ty)(x:X):MQ R:=λO d s κ kp=>match s.getQ x with
 |some (.dp u y)=>match s9 u off t y with
  |some z=>κ (s.putO d (.dp t z))
  |none=>none
 |some (.ptr id o)=>κ (s.putO d (.ptr id (o+off)))
 |some (.elt id i o)=>κ (s.putO d (.elt id i (o+off)))
 |_=>none
def Xs(off:Nat)(t:Ty)(x:X):MQ R:=λO d s κ kp=>evOp O d (.fld off t x) s κ kp
noncomputable def T9(t:Ty)(x:X):MQ R:=λO d s κ kp=>loadT s.hp t (s.getQ x) λv=>κ (s.putO d v)
noncomputable def Qj(t:Ty)(x:X)(v:X):MQ R:=λO d s κ kp=>match d with
 |none=>storeT s t (s.getQ x) (s.getQ v) κ
 |some _=>none
def VA(tid:TypeId)(zero:List V):MQ R:=λO d s κ kp=>evOp O d (.alloc tid zero) s κ kp
def Xq(tid:TypeId)(x:X):MQ R:=λO d s κ kp=>evOp O d (.box tid x) s κ kp
def WI(tid:TypeId)(t:Ty)(x:X):MQ R:=λO d s κ kp=>evOp O d (.boxD tid t x) s κ kp
def VB(zero:List V)(parts:List (Nat×Nat×X)):MQ R:=λO d s κ kp=>evOp O d (.build zero parts) s κ kp
def T5(own:Bool)(tid:TypeId)(t:Ty)(len:Nat)(parts:List X):MQ R:=λO d s κ kp=>evOp O d (.bslice own tid t len parts) s κ kp
def Uc(tid:TypeId)(t:Ty)(bytes:Nat)(l:X)(c:X):MQ R:=λO d s κ kp=>evOp O d (.mslice tid t bytes l c) s κ kp
def T4(tid:TypeId)(t:Ty)(bytes:Nat)(x:X)(y:X):MQ R:=λO d s κ kp=>evOp O d (.append tid t bytes x y) s κ kp
def WK(k:IntKind)(x:X):MQ R:=λO d s κ kp=>evOp O d (.cvtI k x) s κ kp
def Xu(full:Bool)(t:Ty)(x:X)(lo:Option X)(hi:Option X)(mx:Option X):MQ R:=λO d s κ kp=>evOp O d (.slc full t x lo hi mx) s κ kp
def WS(x:X)(lo:Option X)(hi:Option X):MQ R:=λO d s κ kp=>evOp O d (.slcS x lo hi) s κ kp
noncomputable def V7(x:X)(i:Nat):MQ R:=λO d s κ kp=>match s.getQ x with
 |some (.tup vs)=>match vs[i]? with
  |some v=>bif (match v with| .agg _=>false| .tup _=>false|_=>true)then κ (s.putO d v)else none
  |none=>none
 |_=>none
noncomputable def Ud(x:X):MQ R:=λO d s κ kp=>match s.getQ x with
 |some v=>(match v with
  | .dp _ _=>κ (s.putO d v)
  | .ptr _ _=>κ (s.putO d v)
  | .pel _ _ _ _ _=>κ (s.putO d v)
  | .elt _ _ _=>κ (s.putO d v)
  | .clo _ _=>κ (s.putO d v)
  | .fnD _ _=>κ (s.putO d v)
  |_=>none)
 |none=>none
noncomputable def T6(bor:Bool)(f:FuncId)(args:List (Arg×X))(sh:Sh):MQ R:=λO d s κ kp=>match oy s bor [] args with
 |some ars=>bif ars.all V.isD&&sh.sk.fr.isEmpty&&(!bor||sh.sl.all Slot.flat)then
  f_ (aH O f ars [] sh) λc=>κ (s.putO d (res sh.n (unpack sh.sl c (sh.base ⟨[],[]⟩)).fr))else none
 |none=>none
noncomputable def Qi(pan:Bool)(bor:Bool)(B:List Nat)(f:FuncId)(args:List (Arg×X))(sh:Sh):MQ R:=λO d s κ kp=>match oy s bor B args with
 |some ars=>yU pan O s d bor B f ars sh κ kp
 |none=>none
def VD(pan:Bool)(bor:Bool)(B:List Nat)(num:Nat)(x:X)(args:List (Arg×X))(sh:Sh):MQ R:=λO d s κ kp=>evOp O d (.callv pan bor B num x args sh) s κ kp
def Xp(x:X):MQ R:=λO d s κ kp=>evOp O d (.b2s x) s κ kp
def WP(f:FuncId)(caps:List X):MQ R:=λO d s κ kp=>evOp O d (.mkfn f caps) s κ kp
def VF(k:TypeId)(e:TypeId)(a:Ty)(b:Ty):MQ R:=λO d s κ kp=>evOp O d (.mkmap k e a b) s κ kp
def Ua(k:TypeId)(e:TypeId)(ok:Bool)(a:Ty)(b:Ty)(m:X)(x:X):MQ R:=λO d s κ kp=>evOp O d (.lookup k e ok a b m x) s κ kp
def Ub(k:TypeId)(e:TypeId)(a:Ty)(b:Ty)(m:X)(x:X)(v:X):MQ R:=λO d s κ kp=>evOp O d (.mapset k e a b m x v) s κ kp
def WJ(tid:TypeId)(t:Ty)(x:X)(y:X):MQ R:=λO d s κ kp=>evOp O d (.copy tid t x y) s κ kp
def WQ(mx:Bool)(k:IntKind)(x:X)(ys:List X):MQ R:=λO d s κ kp=>evOp O d (.mnmx mx k x ys) s κ kp
def VG(x:X):MQ R:=λO d s κ kp=>evOp O d (.panic x) s κ kp
def VE(tid:TypeId)(x:X):MQ R:=λO d s κ kp=>evOp O d (.iface tid x) s κ kp
def Rr(tid:TypeId)(t:Ty)(len:Nat)(parts:List X):MQ R:=λO d s κ kp=>evOp O d (.bsliceF tid t len parts) s κ kp
def WG(tid:TypeId)(t:Ty)(bytes:Nat)(x:X)(y:X):MQ R:=λO d s κ kp=>evOp O d (.appD tid t bytes x y) s κ kp
def Rs(tid:TypeId)(k:K)(t:Ty)(len:Nat)(parts:List X):MQ R:=λO d s κ kp=>evOp O d (.bsliceN tid k t len parts) s κ kp
def Rt(tid:TypeId)(k:K)(u:Ty)(bytes:Nat)(l:X)(c:X):MQ R:=λO d s κ kp=>evOp O d (.msliceT tid k u bytes l c) s κ kp
def WH(tid:TypeId)(k:K)(t:Ty)(bytes:Nat)(x:X)(y:X):MQ R:=λO d s κ kp=>evOp O d (.appT tid k t bytes x y) s κ kp
def VC(bor:Bool)(num:Nat)(x:X)(args:List (Arg×X))(sh:Sh):MQ R:=λO d s κ kp=>evOp O d (.callp bor num x args sh) s κ kp
def XU(k:Nat)(op:TOp):MQ R:=λO d s κ kp=>evOp O d (.atq k op) s κ kp
noncomputable def gn(op:TOp):MQ R:=TOp.casesOn (motive:=λ_=>MQ R) op Xt WR V5 V6 Xr Xv q_len WO WM WN T8 WL T7 Xs T9 Qj VA Xq WI VB T5 Uc T4 WK Xu WS V7 Ud T6 Qi VD Xp WP VF Ua Ub WJ WQ VG VE Rr WG Rs Rt WH VC XU
theorem Ft(op:TOp)(O:ak)(d:Option Nat)(s:S)(κ kp:S->Option R):gn op O d s κ kp=evOp O d op s κ kp:=by
 cases op
 case mv=>simp only[gn,Xt,evOp,gC]<;>rfl
 case bin=>simp only[gn,V5,evOp,gC]<;>rfl
 case eqB=>simp only[gn,V6,evOp,gC]<;>rfl
 case un=>simp only[gn,Xv,evOp,gC]<;>rfl
 case len=>simp only[gn,q_len,evOp,gC]<;>rfl
 case idxA=>simp only[gn,T8,evOp,gC]<;>rfl
 case fldA=>simp only[gn,T7,evOp,gC]<;>rfl
 case load=>simp only[gn,T9,evOp,gC]<;>rfl
 case store=>simp only[gn,Qj,evOp,gC]<;>rfl
 case ext=>simp only[gn,V7,evOp,gC]<;>rfl
 case nilc=>simp only[gn,Ud,evOp,gC]<;>rfl
 case call=>simp only[gn,T6,evOp,gC]<;>rfl
 case callA=>simp only[gn,Qi,evOp,gC]<;>rfl
 all_goals rfl
abbrev RQ:Type 1:=(R:Type)->S->(S->Option R)->(S->Option R)->Option R
def Xx:RQ:=λ_ s κ _=>κ s
noncomputable def XV(O:ak)(d:Option Nat)(o:TOp)(_:RC)(ih:RQ):RQ:=λR s κ kp=>gn o O d s (λs'=>ih R s' κ kp) kp
def Xw(l:List Adj)(_:RC)(ih:RQ):RQ:=λR s κ kp=>yk l s λs=>ih R s κ kp
noncomputable def WT(t:Nat)(want:Bool)(blk:RC)(ty:Ty)(r alt:X)(dst:Nat)(_:RC)(ib ih:RQ):RQ:=λR s κ kp=>match L4 s.fr t,s.getQ alt with
 |some (.d .bool b),some va=>match(bif c_ (ab_ blk.msk (Sf s.fr)) 0 then dD ty va else none)with
  |some alt=>f_ (match want with
   |true=>bif b then ib ty.den s (λs'=>match s'.getQ r with|some v=>dD ty v|none=>none) (λ_=>none)else some alt
   |false=>bif b then some alt else ib ty.den s (λs'=>match s'.getQ r with|some v=>dD ty v|none=>none) (λ_=>none))
   λc=>ih R (s.put dst (.d ty c)) κ kp
  |none=>none
 |_,_=>none
noncomputable def Fv(O:ak)(r:RC):RQ:=RC.rec (motive:=λ_=>RQ) Xx (XV O) Xw WT r
theorem JV(O:ak)(r:RC):∀(R:Type) (s:S) (κ kp:S->Option R),Fv O r R s κ kp=Ee O R r s κ kp:=by
 induction r with
 |nil=>intro R s κ kp;rfl
 |op d o rest ih=>
  intro R s κ kp
  show gn o O d s (λs'=>Fv O rest R s' κ kp) kp=evOp O d o s (λs'=>Ee O R rest s' κ kp) kp
  rw[Ft]
  congr 1
  funext s'
  exact ih R s' κ kp
 |adj l rest ih=>
  intro R s κ kp
  show yk l s (λs=>Fv O rest R s κ kp)=yk l s λs=>Ee O R rest s κ kp
  congr 1
  funext s'
  exact ih R s' κ kp
 |gb t want blk ty r alt dst rest ib ih=>
  intro R s κ kp
  have e1:Fv O blk=λR s κ kp=>Ee O R blk s κ kp:=by funext R s κ kp;exact ib R s κ kp
  have e2:Fv O rest=λR s κ kp=>Ee O R rest s κ kp:=by funext R s κ kp;exact ih R s κ kp
  show WT t want blk ty r alt dst rest (Fv O blk) (Fv O rest) R s κ kp=_
  rw[e1,e2]
  simp only[WT,Ee,gC,sB,TE]<;>rfl
noncomputable def QX{R:Type}(O:ak)(l:List PO):List RecV->S->(S->Option R)->(S->Option R)->Option R:=List.rec (motive:=λ_=>List RecV->S->(S->Option R)->(S->Option R)->Option R) (λ_ s κ _=>κ s) (λp _ ih A s κ kp=>
 match p.g with
 |none=>bif BL A s p then gn p.o O p.d s (λs'=>Rv A s s' p (ih (Cj A s s' p) s' κ kp)) kp else none
 |some (t,want)=>match L4 s.fr t with
  |some (.d .bool b)=>bif want==b
   then(bif BL A (s.put t (.d .bool want)) p then gn p.o O p.d (s.put t (.d .bool want)) (λs'=>Rv A (s.put t (.d .bool want)) s' p (ih (Cj A (s.put t (.d .bool want)) s' p) s' κ kp)) kp else none)
   else(bif BL A (s.put t (.d .bool (!want))) p then Rv A (s.put t (.d .bool (!want))) ((s.put t (.d .bool (!want))).putO p.d (.raw Go.undef)) p (ih (Cj A (s.put t (.d .bool (!want))) ((s.put t (.d .bool (!want))).putO p.d (.raw Go.undef)) p) ((s.put t (.d .bool (!want))).putO p.d (.raw Go.undef)) κ kp)else none)
  |_=>none) l
theorem PE{R:Type}(O:ak):∀(l:List PO) (A:List RecV) (s:S) (κ kp:S->Option R),QX O l A s κ kp=Se O A l s κ kp
 |[],_,_,_,_=>rfl
 |p::l,A,s,κ,kp=>by
  show(match p.g with
  |none=>bif BL A s p then gn p.o O p.d s (λs'=>Rv A s s' p (QX O l (Cj A s s' p) s' κ kp)) kp else none
  |some (t,want)=>match L4 s.fr t with
   |some (.d .bool b)=>bif want==b
    then(bif BL A (s.put t (.d .bool want)) p then gn p.o O p.d (s.put t (.d .bool want)) (λs'=>Rv A (s.put t (.d .bool want)) s' p (QX O l (Cj A (s.put t (.d .bool want)) s' p) s' κ kp)) kp else none)
    else(bif BL A (s.put t (.d .bool (!want))) p then Rv A (s.put t (.d .bool (!want))) ((s.put t (.d .bool (!want))).putO p.d (.raw Go.undef)) p (QX O l (Cj A (s.put t (.d .bool (!want))) ((s.put t (.d .bool (!want))).putO p.d (.raw Go.undef)) p) ((s.put t (.d .bool (!want))).putO p.d (.raw Go.undef)) κ kp)else none)
   |_=>none)=_
  simp only[PE O l,Ft,Se,sB]<;>rfl
noncomputable def N0{R:Type}(O:ak)(l:List PO):S->(S->Option R)->(S->Option R)->Option R:=List.rec (motive:=λ_=>S->(S->Option R)->(S->Option R)->Option R) (λs κ _=>κ s) (λp _ ih s κ kp=>
 match p.g with
 |none=>gn p.o O p.d s (λs'=>ih s' κ kp) kp
 |some (t,want)=>match L4 s.fr t with
  |some (.d .bool b)=>bif b
   then(match want with
    |true=>gn p.o O p.d (s.put t (.d .bool true)) (λs'=>ih s' κ kp) kp
    |false=>ih ((s.put t (.d .bool true)).putO p.d (.raw Go.undef)) κ kp)
   else(match want with
    |true=>ih ((s.put t (.d .bool false)).putO p.d (.raw Go.undef)) κ kp
    |false=>gn p.o O p.d (s.put t (.d .bool false)) (λs'=>ih s' κ kp) kp)
  |_=>none) l
theorem PD{R:Type}(O:ak):∀(l:List PO) (s:S) (κ kp:S->Option R),N0 O l s κ kp=Sd O l s κ kp
 |[],_,_,_=>rfl
 |p::l,s,κ,kp=>by
  show(match p.g with
  |none=>gn p.o O p.d s (λs'=>N0 O l s' κ kp) kp
  |some (t,want)=>match L4 s.fr t with
   |some (.d .bool b)=>bif b
    then(match want with
     |true=>gn p.o O p.d (s.put t (.d .bool true)) (λs'=>N0 O l s' κ kp) kp
     |false=>N0 O l ((s.put t (.d .bool true)).putO p.d (.raw Go.undef)) κ kp)
    else(match want with
     |true=>N0 O l ((s.put t (.d .bool false)).putO p.d (.raw Go.undef)) κ kp
     |false=>gn p.o O p.d (s.put t (.d .bool false)) (λs'=>N0 O l s' κ kp) kp)
   |_=>none)=_
  simp only[PD O l,Ft,Sd,sB]<;>rfl
abbrev CQ:Type 1:=(R:Type)->S->(S->Option R)->(Nat->S->Option R)->(S->Option R)->(S->Option R)->Option R
def Wr:CQ:=λ_ s kn _ _ _=>kn s
noncomputable def SL(O:ak)(ops:RC):CQ:=λR s kn _ _ kp=>Fv O ops R s kn kp
noncomputable def Wn(O:ak)(_:Nat)(ops:RC)(_:List (List Nat)):CQ:=λR s kn _ _ kp=>Fv O ops R s kn kp
noncomputable def U1(O:ak)(r:Nat)(pre:List PO)(tl:RC)(_:List (List Nat)):CQ:=λR s kn _ _ kp=>QX O pre [] ⟨s.fr,s.hp++I_ r .free⟩ (λs=>Fv O tl R s kn kp) kp
noncomputable def Wq(O:ak)(pre:List PO):CQ:=λ_ s kn _ _ kp=>N0 O pre s kn kp
def VV(_ _:TC)(ia ib:CQ):CQ:=λR s kn kx kr kp=>ia R s (λs=>ib R s kn kx kr kp) kx kr kp
noncomputable def NE(x:X)(_ _:TC)(ia ib:CQ):CQ:=λR s kn kx kr kp=>match s.getQ x with
 |some (.d .bool t)=>bif t then ia R s kn kx kr kp else ib R s kn kx kr kp
 |_=>none
def Pn(id:Nat)(_:TC)(ia:CQ):CQ:=λR s kn kx kr kp=>ia R s kn (λi s=>bif c_ i id then kn s else kx i s) kr kp
def Wo(id:Nat):CQ:=λ_ s _ kx _ _=>kx id s
def Xb:CQ:=λ_ s _ _ kr _=>kr s
def VU(l:List Adj)(_:TC)(ia:CQ):CQ:=λR s kn kx kr kp=>yk l s λs=>ia R s kn kx kr kp
def Pm(_:TC)(l:List Adj)(ia:CQ):CQ:=λR s kn kx kr kp=>ia R s (λs=>yk l s kn) kx kr kp
noncomputable def SK(xs:List (Nat×Sh))(a:TC)(ia:CQ):CQ:=λR s kn kx kr kp=>bif xs.all (λx=>Xm x.2 a.msk s)then
 f_ (ia (XT xs) s (λs=>FF xs 0 s) (λi s=>FF xs (i+3) s) (λs=>FF xs 1 s) (λs=>FF xs 2 s))
  (kB s (λkey s=>match key with|0=>kn s|1=>kr s|2=>kp s|i+3=>kx i s) xs)else none
noncomputable def NF(n:Nat)(sh:Sh)(xs:List (Nat×Sh))(a:TC)(ia:CQ):CQ:=λR s kn kx kr kp=>match IR sh s with
 |some c=>bif Xm sh a.msk s&&xs.all (λx=>Xm x.2 a.msk s)then f_ (aK n (λc=>ia (HL sh.sl⊕XT xs) (unpack sh.sl c (sh.baseQ s)) (λs=>match IR sh s with|some c=>some (.inl c)|none=>none)
  (λi s=>match FF xs (i+3) s with|some c=>some (.inr c)|none=>none) (λs=>match FF xs 1 s with|some c=>some (.inr c)|none=>none) (λs=>match FF xs 2 s with|some c=>some (.inr c)|none=>none)) c)
  (kB s (λkey s=>match key with|0=>kn s|1=>kr s|2=>kp s|i+3=>kx i s) xs)else none
 |none=>none
noncomputable def xT(O:ak)(n:Nat)(c:TC):CQ:=TC.rec (motive:=λ_=>CQ) Wr (SL O) (Wn O) (U1 O) (Wq O) VV NE Pn (NF n) Wo Xb VU Pm SK c
theorem Py(O:ak)(n:Nat)(c:TC):∀(R:Type) (s:S) (kn:S->Option R) (kx:Nat->S->Option R) (kr kp:S->Option R),xT O n c R s kn kx kr kp=DR O n R c s kn kx kr kp:=by
 have hx:∀a:TC,(∀(R:Type) (s:S) (kn:S->Option R) (kx:Nat->S->Option R) (kr kp:S->Option R),xT O n a R s kn kx kr kp=DR O n R a s kn kx kr kp)->xT O n a=λR s kn kx kr kp=>DR O n R a s kn kx kr kp:=λa h=>by
  funext R s kn kx kr kp;exact h R s kn kx kr kp
 induction c with
 |skip=>intro R s kn kx kr kp;rfl
 |region ops=>intro R s kn kx kr kp;exact JV O ops R s kn kp
 |draw k ops af=>intro R s kn kx kr kp;exact JV O ops R s kn kp
 |draw2 r pre tl af=>
  intro R s kn kx kr kp
  show QX O pre [] _ (λs=>Fv O tl R s kn kp) kp=Se O [] pre _ (λs=>Ee O R tl s kn kp) kp
  rw[PE]
  congr 1
  funext s'
  exact JV O tl R s' kn kp
 |regL pre=>intro R s kn kx kr kp;exact PD O pre s kn kp
 |seq a b iha ihb=>
  intro R s kn kx kr kp
  show VV a b (xT O n a) (xT O n b) R s kn kx kr kp=_
  rw[hx a iha,hx b ihb];rfl
 |cond x a b iha ihb=>
  intro R s kn kx kr kp
  show NE x a b (xT O n a) (xT O n b) R s kn kx kr kp=_
  rw[hx a iha,hx b ihb]
  simp only[NE,gC,DR]<;>rfl
 |block id a iha=>
  intro R s kn kx kr kp
  show Pn id a (xT O n a) R s kn kx kr kp=_
  rw[hx a iha];rfl
 |loop sh xs a iha=>
  intro R s kn kx kr kp
  show NF n sh xs a (xT O n a) R s kn kx kr kp=_
  rw[hx a iha]
  have hd:∀(κ:Nat->S->Option R),kB s κ xs=jC s κ xs:=λκ=>funext λc=>tR s κ xs c
  simp only[NF,DR,TP λk=>TC.msk_eq k a,FU,ER,J3,hd]<;>rfl
 |exit id=>intro R s kn kx kr kp;rfl
 |ret=>intro R s kn kx kr kp;rfl
 |adj l a iha=>
  intro R s kn kx kr kp
  show VU l a (xT O n a) R s kn kx kr kp=_
  rw[hx a iha];rfl
 |after a l iha=>
  intro R s kn kx kr kp
  show Pm a l (xT O n a) R s kn kx kr kp=_
  rw[hx a iha];rfl
 |cut xs a iha=>
  intro R s kn kx kr kp
  show SK xs a (xT O n a) R s kn kx kr kp=_
  rw[hx a iha]
  have hd:∀(κ:Nat->S->Option R),kB s κ xs=jC s κ xs:=λκ=>funext λc=>tR s κ xs c
  simp only[SK,DR,TP λk=>TC.msk_eq k a,J3,hd]<;>rfl
end
noncomputable def S6(O:ak)(n:Nat)(c:TF)(ars:List V)(os:List Ob):Option (Option S):=
 xT O n c.code (Option S) ⟨dW 0 ars,os⟩ (Fz c) (λ_ _=>none) (Fz c) (λ_=>some none)
noncomputable def Pz(O:ak)(n:Nat)(d:TD)(ars:List V):Option (Option S):=
 xT O n d.a (Option S) ⟨dW 0 ars,[]⟩ (λs=>bif yu s d.ta 0&&yu s d.tb 1&&XK s d.t8&&c_ s.hp.length 2 then
  xT O n d.c.code (Option S) s (Fz d.c) (λ_ _=>none) (Fz d.c) (λs=>bif yu s d.ta 0&&yu s d.tb 1 then
   xT O n d.h (Option S) ⟨[(0,.ptr 0 0),(1,.ptr 1 0)],s.hp⟩ (Vb d) (λ_ _=>none) (Vb d) (λ_=>none)else none)else none) (λ_ _=>none) (λ_=>none) (λ_=>none)
noncomputable def S9(tbl:Nat->Option Fun')(n:Nat):ak:=Nat.rec (motive:=λ_=>ak) (λ_ _ _=>none) (λn ih f ars os=>match tbl f with
 |some (.code c)=>bif c_ os.length c.m&&l_ ars.length c.ntmps then S6 ih n c ars os else none
 |some (.dfr d)=>bif c_ os.length 0&&l_ ars.length d.c.ntmps then Pz ih n d ars else none
 |some (.nat g)=>(match os with
  |[]=>(match g ars with
   |some s=>some (some s)
   |none=>none)
  |_=>none)
 |none=>none) n
theorem S7(O:ak)(n:Nat)(c:TF)(ars:List V)(os:List Ob):S6 O n c ars os=cR O n c ars os:=Py O n c.code _ _ _ _ _ _
theorem S8(O:ak)(n:Nat)(d:TD)(ars:List V):Pz O n d ars=QW O n d ars:=by
 simp only[Pz,QW,Py]
theorem PC(tbl:Nat->Option Fun'):∀n,S9 tbl n=kS tbl n
 |0=>rfl
 |n+1=>by
  funext f ars os
  have ih:=PC tbl n
  simp only[kS]
  rw[<-ih]
  show(match tbl f with
  |some (.code c)=>bif c_ os.length c.m&&l_ ars.length c.ntmps then S6 (S9 tbl n) n c ars os else none
  |some (.dfr d)=>bif c_ os.length 0&&l_ ars.length d.c.ntmps then Pz (S9 tbl n) n d ars else none
  |some (.nat g)=>(match os with
   |[]=>(match g ars with
    |some s=>some (some s)
    |none=>none)
   |_=>none)
  |none=>none)=_
  cases tbl f with
  |none=>rfl
  |some x=>cases x with
   |code c=>simp only[S7]
   |dfr d=>simp only[S8]
   |nat g=>rfl
theorem U2{tbl:Nat->Option Fun'}{n f:Nat}{ars:List V}{os:List Ob}{sh:Sh}{c:HL sh.sl}(h:aH (S9 tbl n) f ars os sh=some c):aH (kS tbl n) f ars os sh=some c:=by
 rw[<-PC];exact h
theorem Ab{tbl:Nat->Option Fun'}{f:Nat}{ars:List V}{os:List Ob}{sh:Sh}{c:HL sh.sl}{m:Nat}(h:∀k,aH (S9 tbl (k+m)) f ars os sh=some c):∃n0,∀n,n0<=n->aH (kS tbl n) f ars os sh=some c:=
 ⟨m,λn hn=>by
  obtain⟨k,rfl⟩:∃k,n=k+m:=⟨n - m,by omega⟩
  exact U2 (h k)⟩
inductive LeB:BV->BV->Prop
 |refl (x:BV):LeB x x
 |data (x:BV) (p:PV) (h:x.toPV=some p):LeB x (.pv p)
 |any (x:BV):LeB x (.pv .any)
inductive LeA:AV->AV->Prop
 |refl (x:AV):LeA x x
 |data (x:AV) (p:PV) (h:x.toPV=some p):LeA x (.b (.pv p))
 |any (x:AV):LeA x (.b (.pv .any))
 |agg (xs ys:List BV) (hl:xs.length=ys.length) (h:∀(i:Nat) (x y:BV),xs[i]? =some x->ys[i]? =some y->LeB x y):LeA (.agg xs) (.agg ys)
 |tup (xs ys:List BV) (hl:xs.length=ys.length) (h:∀(i:Nat) (x y:BV),xs[i]? =some x->ys[i]? =some y->LeB x y):LeA (.tup xs) (.tup ys)
inductive LeO:AObj->AObj->Prop
 |refl (x:AObj):LeO x x
 |gone (x:AObj):LeO x .gone
 |box (t:TypeId) (xs ys:List BV) (hl:xs.length=ys.length) (h:∀(i:Nat) (x y:BV),xs[i]? =some x->ys[i]? =some y->LeB x y):LeO (.box t xs) (.box t ys)
section
variable {θ:List Av.Loc} {D:Nat->Prop} {w:World}
theorem LeB.rel{x y:BV}(h:LeB x y){v:Value}(hr:RelB θ D w v x):RelB θ D w v y:=by
 cases h with
 |refl=>exact hr
 |data p h=>exact mI hr h
 |any=>exact RelP.any v
theorem Oq{vs:Array Value}{xs ys:List BV}(hl:xs.length=ys.length)(h:∀(i:Nat) (x y:BV),xs[i]? =some x->ys[i]? =some y->LeB x y)(h1:vs.size=xs.length)(h2:∀(i:Nat) (u:Value) (x:BV),vs[i]? =some u->xs[i]? =some x->RelB θ D w u x):
 vs.size=ys.length/\∀(i:Nat) (u:Value) (x:BV),vs[i]? =some u->ys[i]? =some x->RelB θ D w u x:=
 ⟨by omega,λi u y hu hy=>by
  obtain⟨x,hx⟩:=bw (l:=xs) hl hy
  exact(h i x y hx hy).rel (h2 i u x hu hx)⟩
theorem LeA.rel{x y:AV}(h:LeA x y){v:Value}(hr:RelA θ D w v x):RelA θ D w v y:=by
 cases h with
 |refl=>exact hr
 |data _ p h=>exact cF hr h
 |any=>exact RelP.any v
 |agg xs ys hl h=>obtain⟨vs,hv,h1,h2⟩:=hr;obtain⟨h3,h4⟩:=Oq hl h h1 h2;exact⟨vs,hv,h3,h4⟩
 |tup xs ys hl h=>obtain⟨vs,hv,h1,h2⟩:=hr;obtain⟨h3,h4⟩:=Oq hl h h1 h2;exact⟨vs,hv,h3,h4⟩
theorem LeO.rel{x y:AObj}(h:LeO x y){l:Av.Loc}(hr:RelO θ D w l x):RelO θ D w l y:=by
 cases h with
 |refl=>exact hr
 |gone=>cases l<;>trivial
 |box t xs ys hl h=>
  cases l<;>simp only[RelO]at hr⊢<;>try exact hr.elim
  obtain⟨cv,e1,e2,e3⟩:=hr
  obtain⟨h3,h4⟩:=Oq hl h e2 e3
  exact⟨cv,e1,h3,h4⟩
end
structure LeS(a b:St):Prop where
 fr:∀k y,Av.look b.fr k=some y->∃x,Av.look a.fr k=some x/\LeA x y
 len:a.hp.length=b.hp.length
 hp:∀(i:Nat) (x y:AObj),a.hp[i]? =some x->b.hp[i]? =some y->LeO x y
theorem LeS.weak{m:Nat}{a b:St}(h:LeS a b):Weak m a b:=by
 rintro c ac w _ ⟨θ,D,hI⟩
 refine⟨θ,D,hI.size,hI.defers,⟨by rw[hI.ok.len,h.len],hI.ok.dlt,hI.ok.inj,hI.ok.olt,λi l o hi ho=>?_⟩,hI.keep,hI.dsub,hI.dnew,hI.onew,λk y hk=>?_,hI.fix⟩
 ·obtain⟨x,hx⟩:=bw (l:=a.hp) h.len ho
  exact(h.hp i x o hx ho).rel (hI.ok.objs i l x hi hx)
 ·obtain⟨x,hx,hle⟩:=h.fr k y hk
  exact hle.rel (hI.fr k x hx)
theorem LeS.frame{fr fr':List (Nat×AV)}{hp:List AObj}(h:∀k y,Av.look fr' k=some y->Av.look fr k=some y):LeS ⟨fr,hp⟩ ⟨fr',hp⟩:=
 ⟨λk y hk=>⟨y,h k y hk,.refl y⟩,rfl,λi x y hx hy=>by rw[hx]at hy;cases hy;exact .refl x⟩
def Keeps(A:List Nat)(s s':S):Prop:=∀k,k∉A->(∀v,lk s.fr k=some v->v.isD=true->lk s'.fr k=some v\/lk s'.fr k=none)/\(lk s.fr k=none->lk s'.fr k=none)
theorem FK(g:V->V):∀(fr:List (Nat×V)) (k:Nat),lk (fr.map λx=>(x.1,g x.2)) k=(lk fr k).map g
 |[],_=>rfl
 |(j,v)::fr,k=>by
  simp only[m_,lk]
  cases c_ k j
  ·exact FK g fr k
  ·rfl
theorem Keeps.refl(A:List Nat)(s:S):Keeps A s s:=λ_ _=>⟨λ_ h _=>.inl h,id⟩
theorem Keeps.trans{A:List Nat}{a b c:S}(h:Keeps A a b)(k:Keeps A b c):Keeps A a c:=λi hi=>by
 refine⟨λv hv hd=>?_,λhn=>(k i hi).2 ((h i hi).2 hn)⟩
 rcases(h i hi).1 v hv hd with h1|h1
 ·exact(k i hi).1 v h1 hd
 ·exact .inr ((k i hi).2 h1)
theorem Keeps.sub{A B:List Nat}{a b:S}(h:Keeps A a b)(hs:∀x∈A,x∈B):Keeps B a b:=λi hi=>h i λhx=>hi (hs i hx)
def fV(d:Option Nat):List Nat:=match d with
 |some d=>[d]
 |none=>[]
theorem Vs(s:S)(d:Option Nat)(v:V)(k:Nat)(h:k∉fV d):lk (s.putO d v).fr k=lk s.fr k:=by
 cases d with
 |none=>rfl
 |some j=>
  have hne:k≠j:=λe=>h (by simp[fV,e])
  have:c_ k j=false:=by
   cases hb:c_ k j
   ·rfl
   ·exact absurd (a_ hb) hne
  show(bif c_ k j then some v else lk s.fr k)=_
  rw[this];rfl
theorem Keeps.put(s:S)(d:Option Nat)(v:V):Keeps (fV d) s (s.putO d v):=λk hk=>by
 rw[Vs s d v k hk]
 exact⟨λ_ h _=>.inl h,id⟩
theorem Keeps.map(A:List Nat)(s s':S)(g:V->V)(hg:∀v,v.isD=true->mG g v=v)(hfr:s'.fr=s.fr.map λx=>(x.1,mG g x.2)):Keeps A s s':=λk _=>by
 have:lk s'.fr k=(lk s.fr k).map (mG g):=by rw[hfr];exact FK (mG g) s.fr k
 refine⟨λv hv hd=>.inl ?_,λh=>?_⟩
 ·rw[this,hv];simp[hg v hd]
 ·rw[this,h];rfl
theorem Keeps.fr{A:List Nat}{s s':S}(h:s'.fr=s.fr):Keeps A s s':=λk _=>by rw[h];exact⟨λ_ h _=>.inl h,id⟩
section
variable {R:Type} {P:Program} {O:ak} {d:Option Nat} {s:S} {κ kp:S->Option R} {r:R}
def Pu(P:Program)(s:S)(op:SOp)(d:Option Nat)(κ:S->Option R)(r:R):Prop:=∃v,jp P (enc s) op (λy=>y=aT v)/\κ (s.putO d v)=some r
theorem cA{α β:Type}{o:Option α}{f:α->Option β}{b:β}(h:f_ o f=some b):∃a,o=some a/\f a=some b:=by
 cases o with
 |none=>cases h
 |some a=>exact⟨a,rfl,h⟩
theorem bO{α:Type}{b:Bool}{x:Option α}{a:α}(h:aw b x=some a):b=true/\x=some a:=by
 cases b
 ·cases h
 ·exact⟨rfl,h⟩
theorem aO{α:Type}{b:Bool}{x:Option α}{a:α}(h:(bif b then x else none)=some a):b=true/\x=some a:=by
 cases b
 ·cases h
 ·exact⟨rfl,h⟩
theorem Eh{α:Type}{xs:List α}{i:Int}{x:α}(h:aL xs i=some x):0<=i/\xs[i.toNat]? =some x:=by
 unfold aL at h
 obtain⟨h1,h2⟩:=aO h
 exact⟨by simpa using h1,h2⟩
theorem V3{x:X}(hw:x.wf=true)(h:evOp O d (.mv x) s κ kp=some r):Pu P s (.mv x.er) d κ r:=by
 simp only[evOp]at h
 split at h
 ·rename_i v hv;exact⟨v,⟨_,aA hw hv,rfl⟩,h⟩
 ·cases h
theorem Ii(a:List UInt8):(⟨a.toArray⟩:ByteArray).toList=a:=by rw[ByteArray.toList_eq]
theorem z6(a:List UInt8):(⟨a.toArray⟩:ByteArray).size=a.length:=by show a.toArray.size=a.length;simp
theorem QJ(a b:List UInt8):(⟨a.toArray⟩:ByteArray)++(⟨b.toArray⟩:ByteArray)=⟨(a++b).toArray⟩:=by
 apply ByteArray.ext
 rw[ByteArray.data_append]
 simp
theorem NB{op:BinOp}{k k':IntKind}{a b:Int}{κ':V->Option R}(h:UX op k k' a b κ'=some r):∃v,Js op (.int k a) (.int k' b) (λu=>AV.v u=aT v)/\κ' v=some r:=by
 cases op<;>simp only[UX]at h
 case shl=>obtain⟨h1,h2⟩:=bO h;exact⟨_,⟨by simpa using h1,rfl⟩,h2⟩
 case shr=>obtain⟨h1,h2⟩:=bO h;exact⟨_,⟨by simpa using h1,rfl⟩,h2⟩
 case quo=>obtain⟨h1,h2⟩:=aO h;obtain⟨h3,h4⟩:=bO h2;exact⟨_,⟨by simpa using h1,by simpa using h3,rfl⟩,h4⟩
 case rem=>obtain⟨h1,h2⟩:=aO h;obtain⟨h3,h4⟩:=bO h2;exact⟨_,⟨by simpa using h1,by simpa using h3,rfl⟩,h4⟩
 all_goals (obtain⟨h1,h2⟩:=aO h;exact⟨_,⟨by simpa using h1,rfl⟩,h2⟩)
theorem NC{op:BinOp}{a b:List UInt8}{κ':V->Option R}(h:UY op a b κ'=some r):∃v,Js op (.string ⟨a.toArray⟩) (.string ⟨b.toArray⟩) (λu=>AV.v u=aT v)/\κ' v=some r:=by
 cases op<;>simp only[UY]at h
 case add=>
  obtain⟨h1,h2⟩:=bO h
  refine⟨_,⟨by rw[z6,z6];simpa using h1,?_⟩,h2⟩
  rw[QJ];rfl
 all_goals first
  |(cases h;done)
  |exact⟨_,by simp only[Js,Ii];rfl,h⟩
theorem TX{op:BinOp}{x y:X}(hw:x.wf=true/\y.wf=true)(h:evOp O d (.bin op x y) s κ kp=some r):Pu P s (.bin op x.er y.er) d κ r:=by
 simp only[evOp]at h
 split at h
 ·rename_i k a k' b hx hy
  obtain⟨v,h1,h2⟩:=NB h
  exact⟨v,⟨_,aA hw.1 hx,_,aA hw.2 hy,_,rfl,_,rfl,h1⟩,h2⟩
 ·rename_i a b hx hy
  obtain⟨v,h1,h2⟩:=NC h
  exact⟨v,⟨_,aA hw.1 hx,_,aA hw.2 hy,_,rfl,_,rfl,h1⟩,h2⟩
 ·cases h
theorem Qg{c a b:X}(hw:c.wf=true/\a.wf=true/\b.wf=true)(h:evOp O d (.pick c a b) s κ kp=some r):Pu P s (.pick c.er a.er b.er) d κ r:=by
 simp only[evOp]at h
 split at h
 ·rename_i t x y u z hc ha hb
  split at h
  ·rename_i z' hz
   obtain⟨e1,rfl⟩:=bS hz
   refine⟨_,⟨_,aA hw.1 hc,_,rfl,t,rfl,λht=>⟨_,aA hw.2.1 ha,?_⟩,λht=>⟨_,aA hw.2.2 hb,?_⟩⟩,h⟩
   ·subst ht;rfl
   ·subst ht
    show AV.b (.pv (aG _ z))=AV.b (.pv (aG _ z'))
    rw[e1]
  ·cases h
 ·rename_i t x u z hc ha hb
  obtain⟨ht,h⟩:t=false/\κ (s.putO d (.d u z))=some r:=by cases t<;>first|exact⟨rfl,h⟩|cases h
  exact⟨_,⟨_,aA hw.1 hc,_,rfl,t,rfl,λe=>(by rw[ht]at e;cases e),λ_=>⟨_,aA hw.2.2 hb,rfl⟩⟩,h⟩
 ·rename_i t u z x hc ha hb
  obtain⟨ht,h⟩:t=true/\κ (s.putO d (.d u z))=some r:=by cases t<;>first|exact⟨rfl,h⟩|cases h
  exact⟨_,⟨_,aA hw.1 hc,_,rfl,t,rfl,λ_=>⟨_,aA hw.2.1 ha,rfl⟩,λe=>(by rw[ht]at e;cases e)⟩,h⟩
 ·cases h
theorem TY{neg:Bool}{x y:X}(hw:x.wf=true/\y.wf=true)(h:evOp O d (.eqB neg x y) s κ kp=some r):Pu P s (.eqB neg x.er y.er) d κ r:=by
 simp only[evOp]at h
 split at h
 ·rename_i a b hx hy
  exact⟨_,⟨_,aA hw.1 hx,_,aA hw.2 hy,_,rfl,_,rfl,_,rfl,_,rfl,rfl⟩,h⟩
 ·cases h
theorem V4{op:UnOp}{x:X}(hw:x.wf=true)(h:evOp O d (.un op x) s κ kp=some r):Pu P s (.un op x.er) d κ r:=by
 simp only[evOp]at h
 split at h
 ·rename_i a hx;exact⟨_,⟨_,aA hw hx,_,rfl,show _=_ from rfl⟩,h⟩
 ·rename_i k a hx;exact⟨_,⟨_,aA hw hx,_,rfl,show _=_ from rfl⟩,h⟩
 ·cases h
theorem T2{str:Bool}{x:X}(hw:x.wf=true)(h:evOp O d (.len str x) s κ kp=some r):Pu P s (.len str x.er) d κ r:=by
 simp only[evOp]at h
 split at h
 ·rename_i a hx
  refine⟨_,⟨_,aA hw hx,_,rfl,_,rfl,?_⟩,h⟩
  show AV.v (.int .i64 ((⟨a.toArray⟩:ByteArray).size:Nat))=_
  rw[z6];rfl
 ·rename_i t a hx
  refine⟨_,⟨_,aA hw hx,.inr (.inl ⟨_,_,rfl,?_⟩)⟩,h⟩
  show AV.v (.int .i64 ((a.map _).length:Nat))=_
  rw[d_];rfl
 ·rename_i t hx
  exact⟨_,⟨_,aA hw hx,.inl ⟨rfl,rfl⟩⟩,h⟩
 ·rename_i id hx
  split at h
  ·rename_i e t xs ho
   refine⟨_,⟨_,aA hw hx,.inr (.inr (.inl ⟨id,e,_,_,rfl,by rw[bY,ho];rfl,?_⟩))⟩,h⟩
   show AV.v (.int .i64 ((xs.map _).length:Nat))=_
   rw[d_];rfl
  ·rename_i e k t xs hole ho
   refine⟨_,⟨_,aA hw hx,.inr (.inr (.inr (.inr ⟨id,e,_,k,_,_,rfl,by rw[bY,ho];rfl,?_⟩)))⟩,h⟩
   show AV.v (.int .i64 ((xs.map _).length:Nat))=_
   rw[d_];rfl
  ·cases h
 ·cases h
theorem Qb{k e:TypeId}{x:X}(hw:x.wf=true)(h:evOp O d (.lenM k e x) s κ kp=some r):Pu P s (.lenM k e x.er) d κ r:=by
 simp only[evOp]at h
 split at h
 ·rename_i id hx
  split at h
  ·rename_i k' e' a b kvs ho
   obtain⟨h1,h2⟩:=aO h
   rw[b_]at h1
   have e1:=a_ h1.1
   have e2:=a_ h1.2
   subst e1;subst e2
   refine⟨_,⟨_,aA hw hx,id,_,rfl,by rw[bY,ho];rfl,?_⟩,h2⟩
   show AV.v (.int .i64 ((kvs.map _).length:Nat))=_
   rw[d_];rfl
  ·cases h
 ·cases h
theorem fD{o:Option V}{f:Int->Option R}(h:intOf o f=some r):∃k n,o=some (.d (.int k) n)/\f n=some r:=by
 unfold intOf at h
 split at h
 ·exact⟨_,_,rfl,h⟩
 ·cases h
theorem P9{x i:X}(hw:x.wf=true/\i.wf=true)(h:evOp O d (.idxS x i) s κ kp=some r):Pu P s (.idxS x.er i.er) d κ r:=by
 simp only[evOp]at h
 split at h
 ·rename_i a hx
  obtain⟨k,n,hi,h⟩:=fD h
  obtain⟨c,hc,h⟩:=cA h
  obtain⟨h0,h1⟩:=Eh hc
  have hlt:=(g_.1 h1).1
  refine⟨_,⟨_,aA hw.1 hx,_,aA hw.2 hi,_,rfl,_,rfl,_,_,rfl,_,rfl,h0,by rw[z6];omega,?_⟩,h⟩
  rw[Ii]
  simp only[P_,h1,w_]
  rfl
 ·cases h
theorem P5{k:IntKind}{x:X}(hw:x.wf=true)(h:evOp O d (.cvtI k x) s κ kp=some r):Pu P s (.cvtI k x.er) d κ r:=by
 simp only[evOp]at h
 split at h
 ·rename_i k' n hx;exact⟨_,⟨_,aA hw hx,_,rfl,_,_,rfl,rfl⟩,h⟩
 ·cases h
theorem T0{x:X}{i:Nat}(hw:x.wf=true)(h:evOp O d (.ext x i) s κ kp=some r):Pu P s (.ext x.er i) d κ r:=by
 simp only[evOp]at h
 split at h
 ·rename_i vs hx
  split at h
  ·rename_i v hv
   obtain⟨h1,h2⟩:=aO h
   refine⟨v,⟨_,aA hw hx,.inr ⟨_,rfl,aM v,by rw[r_,hv];rfl,?_⟩⟩,h2⟩
   cases v<;>first|rfl|cases h1
  ·cases h
 ·cases h
end
section
variable {R:Type} {P:Program} {O:ak} {d:Option Nat} {s:S} {κ kp:S->Option R} {r:R}
theorem Ku{p:PV}{off:Nat}{u:Ty}{y:u.den}(h2:((p.cells).drop off).take u.sz=aC u y)(h1:off+u.sz<=p.cells.length):p.sub off u.sz u.ag=aG u y:=by
 cases hu:u.ag
 ·have hs:=fo hu
  rw[hs,dU y hu]at h2
  have hlt:off<p.cells.length:=by omega
  rw[U_ hlt]at h2
  simp only[ag_,aD_,List.cons.injEq,and_true]at h2
  simp only[PV.sub,P_,Y_ hlt,w_]
  exact h2
 ·simp only[PV.sub]
  rw[ev y hu,<-h2]
theorem AX(l:List PV):(l.map BV.pv).mapM BV.toPV=some l:=by
 induction l with
 |nil=>rfl
 |cons x l ih=>rw[m_,j_,ih];rfl
theorem Ah{α:Type}(l m:List α)(k n:Nat)(h:l.length=n):(l++m).drop (k+n)=m.drop k:=by
 rw[<-h,Nat.add_comm,aq_]
 simp
def Sq(t:Ty)(n:Nat)(m:Int)(c:t.den)(cs:List PV):Prop:=∃k:Nat,m=(k:Int)/\k<n/\(cs.drop (k*t.sz)).take t.sz=aC t c/\k*t.sz+t.sz<=cs.length
theorem Gc{t:Ty}{n:Nat}{m:Int}{c x:t.den}{cs:List PV}{o:Option t.den}(h:(bif decide (m=0)then some x else o)=some c)(hr:o=some c->Sq t n (m - 1) c cs):Sq t (n+1) m c (aC t x++cs):=by
 by_cases h0:m=0
 ·subst h0
  simp only[decide_true,cond_true,e_]at h
  subst h
  refine⟨0,rfl,by omega,?_,?_⟩
  ·rw[aJ_,F_,v_ (by rw[aD];exact z_ _),p_ (by rw[aD];exact z_ _)]
  ·simp[aD]
 ·simp only[h0,decide_false,cond_false]at h
  obtain⟨k,hk,hlt,h1,h2⟩:=hr h
  refine⟨k+1,by omega,by omega,?_,?_⟩
  ·rw[X_,av_,Ah _ _ _ _ (aD t x),h1]
  ·rw[x_,aD t x,X_];omega
theorem IZ(t:Ty):∀(n:Nat) (v:V) (m:Int) (c:t.den) (cs:List PV),rowAt t n v m=some c->((cS v).map aM).mapM BV.toPV=some cs->Sq t n m c cs:=by
 intro n
 induction n with
 |zero=>intro v m c cs h;simp[rowAt]at h
 |succ n ih=>
  intro v m c cs h hcs
  cases v with
  |d u x=>
   cases u with
   |pair a b=>
    simp only[rowAt]at h
    have hc:cs=aC a x.1++aC b x.2:=by
     rw[show cS (V.d (.pair a b) x)=gr (.pair a b) x from rfl,(dH (.pair a b) x).1,AX]at hcs
     cases hcs;rfl
    split at h
    ·rename_i y hy
     obtain⟨e1,rfl⟩:=bS hy
     have:aC a x.1=aC a y:=by show(aG _ _).cells=(aG _ _).cells;rw[e1]
     rw[hc,this]
     exact Gc h λh=>ih (.d b x.2) (m - 1) c _ h (by
      rw[show cS (V.d b x.2)=gr b x.2 from rfl,(dH b x.2).1,AX])
    ·cases h
   |_=>simp[rowAt]at h
  |agg vs=>
   simp only[rowAt]at h
   split at h
   ·rename_i x l hx
    obtain⟨l0,rfl,hl0⟩:=wZ t vs x l hx
    rw[show cS (V.agg (l0++l))=l0++l from rfl,C_,aa_,hl0]at hcs
    simp only[ah_,q_]at hcs
    cases hl:(l.map aM).mapM BV.toPV with
    |none=>rw[hl]at hcs;cases hcs
    |some cs'=>
     rw[hl]at hcs
     simp only[q_,aA_,e_]at hcs
     rw[<-hcs]
     exact Gc h λh=>ih (.agg l) (m - 1) c cs' h hl
   ·cases h
  |_=>simp[rowAt]at h
theorem mapM_len{α β:Type}{f:α->Option β}:∀{l:List α} {m:List β},l.mapM f=some m->m.length=l.length
 |[],m,h=>by cases h;rfl
 |x::l,m,h=>by
  rw[j_]at h
  cases hx:f x with
  |none=>rw[hx]at h;cases h
  |some y=>
   cases hl:l.mapM f with
   |none=>rw[hx,hl]at h;cases h
   |some m'=>rw[hx,hl]at h;cases h;simp[mapM_len hl]
theorem Oz(t:Ty):∀(n:Nat) (vs:List V) (m:Int) (c:t.den),rowAt t n (.agg vs) m=some c->∃j:Nat,m=(j:Int)/\j<n/\(((vs.drop (j*t.sz)).take t.sz).map aM).mapM BV.toPV=some (aC t c)/\j*t.sz+t.sz<=vs.length:=by
 intro n
 induction n with
 |zero=>intro vs m c h;simp[rowAt]at h
 |succ n ih=>
  intro vs m c h
  simp only[rowAt]at h
  split at h
  ·rename_i x l hx
   obtain⟨l0,rfl,hl0⟩:=wZ t vs x l hx
   have hlen:l0.length=t.sz:=by
    have:=mapM_len hl0
    rw[aD,d_]at this
    exact this.symm
   by_cases h0:m=0
   ·subst h0
    simp only[decide_true,cond_true,e_]at h
    subst h
    refine⟨0,rfl,by omega,?_,by simp[hlen]⟩
    rw[aJ_,F_,v_ (by omega),p_ (by omega)]
    exact hl0
   ·simp only[h0,decide_false,cond_false]at h
    obtain⟨j,hj,hlt,h1,h2⟩:=ih l (m - 1) c h
    refine⟨j+1,by omega,by omega,?_,?_⟩
    ·rw[X_,av_,Ah _ _ _ _ hlen]
     exact h1
    ·rw[x_,hlen,X_];omega
  ·cases h
theorem Cs(t:Ty)(cs:List V)(h:t.ag=false->cs≠[]):aT (whole t cs)=ni t.ag (cs.map aM):=by
 unfold whole
 cases ht:t.ag
 ·cases cs with
  |nil=>exact absurd rfl (h ht)
  |cons v cs=>cases v<;>rfl
 ·rfl
theorem w9:∀(vs:List V),vs.all V.cellD=true->∃cs,(vs.map aM).mapM BV.toPV=some cs
 |[],_=>⟨[],rfl⟩
 |v::vs,h=>by
  simp only[s_,b_]at h
  obtain⟨cs,hcs⟩:=w9 vs h.2
  have:∃p,(aM v).toPV=some p:=by cases v<;>first|exact⟨_,rfl⟩|(have:=h.1;simp[V.cellD]at this)
  obtain⟨p,hp⟩:=this
  exact⟨p::cs,by simp only[m_,j_,hp,hcs];rfl⟩
theorem Wm{v:V}{cs:List PV}(h:((cS v).map aM).mapM BV.toPV=some cs)(hv:(∃a b x,v= .d (.pair a b) x)\/∃vs,v= .agg vs):∃p,(aT v).toPV=some p/\p.cells=cs/\p.isAgg=true:=by
 rcases hv with⟨a,b,x,rfl⟩|⟨vs,rfl⟩
 ·rw[show cS (V.d (.pair a b) x)=gr (.pair a b) x from rfl,(dH (.pair a b) x).1,AX]at h
  cases h
  exact⟨_,rfl,rfl,rfl⟩
 ·refine⟨.agg cs,?_,rfl,rfl⟩
  show((vs.map aM).mapM BV.toPV).map PV.agg=_
  rw[show cS (V.agg vs)=vs from rfl]at h
  rw[h];rfl
theorem Oy{t:Ty}{n:Nat}{v:V}{m:Int}{c:t.den}(h:rowAt t n v m=some c):(∃a b x,v= .d (.pair a b) x)\/∃vs,v= .agg vs:=by
 cases n with
 |zero=>simp[rowAt]at h
 |succ n=>
  cases v with
  |d u x=>cases u with
   |pair a b=>exact .inl ⟨a,b,x,rfl⟩
   |_=>simp[rowAt]at h
  |agg vs=>exact .inr ⟨vs,rfl⟩
  |_=>simp[rowAt]at h
theorem Qa{n:Nat}{t:Ty}{x i:X}(hw:x.wf=true/\i.wf=true)(h:evOp O d (.idxV n t x i) s κ kp=some r):Pu P s (.idxV n t.sz t.ag x.er i.er) d κ r:=by
 simp only[evOp]at h
 split at h
 ·rename_i v hx
  obtain⟨h1,h⟩:=aO h
  rw[b_]at h1
  obtain⟨k,m,hi,h⟩:=fD h
  obtain⟨c,hc,hfin⟩:=cA h
  have hf:=Oy hc
  obtain⟨cs,hcs⟩:∃cs,((cS v).map aM).mapM BV.toPV=some cs:=by
   rcases hf with⟨a,b,y,rfl⟩|⟨vs,rfl⟩
   ·exact⟨_,by rw[show cS (V.d (.pair a b) y)=gr (.pair a b) y from rfl,(dH (.pair a b) y).1,AX]⟩
   ·exact w9 vs h1.2
  obtain⟨p,hp,hpc,hpa⟩:=Wm hcs hf
  obtain⟨j,rfl,hj,h3,h4⟩:=IZ t n v m c cs hc hcs
  have hlen:cs.length=n*t.sz:=by
   have:=a_ h1.1
   have h2:=congrArg au_ hpc
   have hm:cs.length=((cS v).map aM).length:=mapM_len hcs
   rw[hm,d_,this]
  refine⟨_,⟨_,aA hw.1 hx,_,aA hw.2 hi,_,rfl,_,_,rfl,p,hp,by omega,by omega,fo,by rw[hpc,hlen],hpa,?_⟩,hfin⟩
  show AV.p (p.sub ((j:Int).toNat*t.sz) t.sz t.ag)=AV.p (aG t c)
  rw[Ku (u:=t) (y:=c)]
  ·rw[hpc];exact h3
  ·rw[hpc];exact h4
 ·cases h
theorem P7{t:Ty}{x i:X}(hw:x.wf=true/\i.wf=true)(h:evOp O d (.idxA t x i) s κ kp=some r):Pu P s (.idxA t.sz x.er i.er) d κ r:=by
 simp only[evOp]at h
 split at h
 ·rename_i id hx
  split at h
  ·rename_i e u xs ho
   obtain⟨h1,h5⟩:=aO h
   have hu:u=t:=by simpa using h1
   obtain⟨k,m,hi,h6⟩:=fD h5
   obtain⟨c,hc,h7⟩:=cA h6
   clear h h1 h5 h6
   subst hu
   obtain⟨h2,h3⟩:=Eh hc
   have hlt:=(g_.1 h3).1
   refine⟨_,⟨_,aA hw.1 hx,_,aA hw.2 hi,_,rfl,_,_,rfl,.inr ⟨id,rfl,_,by rw[bY,ho];rfl,.inl ⟨e,_,rfl,h2,?_,show _=_ from rfl⟩⟩⟩,h7⟩
   rw[d_];omega
  ·rename_i e kk u xs hole ho
   obtain⟨h1,h5⟩:=aO h
   have hu:u=t:=by simpa using h1
   obtain⟨k,m,hi,h6⟩:=fD h5
   obtain⟨c,hc,h7⟩:=cA h6
   clear h h1 h5 h6
   subst hu
   obtain⟨h2,h3⟩:=Eh hc
   have hlt:=(g_.1 h3).1
   refine⟨_,⟨_,aA hw.1 hx,_,aA hw.2 hi,_,rfl,_,_,rfl,.inr ⟨id,rfl,_,by rw[bY,ho];rfl,.inr ⟨e,kk,_,_,rfl,h2,?_,show _=_ from rfl⟩⟩⟩,h7⟩
   rw[d_];omega
  ·cases h
 ·rename_i u xs hx
  split at h
  ·rename_i ys hy
   obtain⟨e1,e2⟩:=bS hy
   obtain⟨k,m,hi,h⟩:=fD h
   obtain⟨c,hc,h⟩:=cA h
   obtain⟨h2,h3⟩:=Eh hc
   have hlt:=(g_.1 h3).1
   refine⟨_,⟨_,aA hw.1 hx,_,aA hw.2 hi,_,rfl,_,_,rfl,.inl ⟨ys.map (aG t),?_,h2,?_,?_⟩⟩,h⟩
   ·show AV.p (aG _ _)=_
    rw[<-e1];rfl
   ·rw[d_];omega
   ·show AV.p (.pto ((ys.map (aG t)).getD m.toNat .any))=_
    simp only[P_,r_,h3,M_,w_]
    rfl
  ·cases h
 ·cases h
theorem P8{n:Nat}{t:Ty}{x i:X}(hw:x.wf=true/\i.wf=true)(h:evOp O d (.idxP n t x i) s κ kp=some r):Pu P s (.idxP n t.sz t.ag x.er i.er) d κ r:=by
 simp only[evOp]at h
 split at h
 ·rename_i id off k m hx
  obtain⟨h1,h⟩:=bO h
  simp only[b_,decide_eq_true_eq]at h1
  exact⟨_,⟨_,aA hw.1 hx,_,aA (s:=s) hw.2 rfl,_,rfl,k,_,rfl,h1.1,h1.2,.inl ⟨id,off,rfl,rfl⟩⟩,h⟩
 ·rename_i id off hx hne
  obtain⟨k,m,hi,h⟩:=fD h
  obtain⟨h1,h⟩:=bO h
  simp only[b_,decide_eq_true_eq]at h1
  exact⟨_,⟨_,aA hw.1 hx,_,aA hw.2 hi,_,rfl,k,_,rfl,h1.1,h1.2,.inl ⟨id,off,rfl,rfl⟩⟩,h⟩
 ·rename_i u y hx
  obtain⟨h1,h⟩:=aO h
  simp only[b_]at h1
  have hsz:=a_ h1.1
  obtain⟨k,m,hi,h⟩:=fD h
  obtain⟨c,hc,hfin⟩:=cA h
  have hcs:((cS (.d u y)).map aM).mapM BV.toPV=some (aC u y):=by
   rw[show cS (V.d u y)=gr u y from rfl,(dH u y).1,AX]
  obtain⟨j,rfl,hj,h3,h4⟩:=IZ t n _ m c _ hc hcs
  have hsub:(aG u y).sub ((j:Int).toNat*t.sz) t.sz t.ag=aG t c:=Ku h3 h4
  refine⟨_,⟨_,aA hw.1 hx,_,aA hw.2 hi,_,rfl,k,_,rfl,by omega,by omega,.inr ⟨aG u y,rfl,?_,fo,?_,?_⟩⟩,hfin⟩
  ·show(aC u y).length=_
   rw[aD,hsz]
  ·rw[hsub,mV]
  ·rw[hsub];rfl
 ·cases h
theorem P6{off:Nat}{t:Ty}{x:X}(hw:x.wf=true)(h:evOp O d (.fldA off t x) s κ kp=some r):Pu P s (.fldA off t.sz t.ag x.er) d κ r:=by
 simp only[evOp]at h
 split at h
 ·rename_i u y hx
  split at h
  ·rename_i z hz
   obtain⟨h1,h2,h3⟩:=AT hz
   refine⟨_,⟨_,aA hw hx,.inl ⟨aG u y,rfl,h1,h2,?_,?_⟩⟩,h⟩
   ·rw[h3,mV]
   ·rw[h3];rfl
  ·cases h
 ·rename_i id o hx;exact⟨_,⟨_,aA hw hx,.inr (.inl ⟨id,o,rfl,rfl⟩)⟩,h⟩
 ·rename_i id i o hx;exact⟨_,⟨_,aA hw hx,.inr (.inr ⟨id,i,o,rfl,rfl⟩)⟩,h⟩
 ·cases h
theorem Cc{α:Type}{l:List α}{n off:Nat}(h:off+n<=l.length)(hn:n=1):(l.drop off).take n≠[]:=by
 intro e
 have:=congrArg au_ e
 simp only[ar_,Z_,List.length_nil]at this
 omega
theorem T1{off:Nat}{t:Ty}{x:X}(hw:x.wf=true)(h:evOp O d (.fld off t x) s κ kp=some r):Pu P s (.fld off t.sz t.ag x.er) d κ r:=by
 simp only[evOp]at h
 split at h
 ·rename_i u y hx
  obtain⟨hu,h⟩:=aO h
  split at h
  ·rename_i z hz
   obtain⟨h1,h2,h3⟩:=AT hz
   refine⟨_,⟨_,aA hw hx,.inl ⟨aG u y,rfl,?_,h1,h2,?_⟩⟩,h⟩
   ·rw[mV,hu]
   ·rw[h3];rfl
  ·cases h
 ·rename_i vs hx
  obtain⟨h1,h⟩:=aO h
  have hle:=h_ h1
  refine⟨_,⟨_,aA hw hx,.inr ⟨_,rfl,by rw[d_];exact hle,fo,?_⟩⟩,h⟩
  rw[Cs t _ λht=>Cc hle (fo ht),K_,G_]
 ·cases h
theorem Qc{t:Ty}{x:X}(hw:x.wf=true)(h:evOp O d (.load t x) s κ kp=some r):Pu P s (.load t.sz t.ag x.er) d κ r:=by
 simp only[evOp,loadT]at h
 split at h
 ·rename_i u y hx
  split at h
  ·rename_i z hz
   obtain⟨e1,rfl⟩:=bS hz
   refine⟨_,⟨_,aA hw hx,?_⟩,h⟩
   show(aG u y).isAgg=_/\_/\AV.p (aG u y)=AV.p (aG u z)
   exact⟨mV u y,aD u y,by rw[e1]⟩
  ·cases h
 ·rename_i id off hx
  split at h
  ·rename_i tid cs ho
   obtain⟨h1,h⟩:=aO h
   have hle:=h_ h1
   refine⟨_,⟨_,aA hw hx,?_⟩,h⟩
   show aI _ _
   refine⟨_,by rw[bY,ho];rfl,tid,_,rfl,by rw[d_];exact hle,fo,.inl ?_⟩
   rw[Cs t _ λht=>Cc hle (fo ht),K_,G_]
  ·cases h
 ·rename_i id off n u m hx
  split at h
  ·rename_i tid cs ho
   obtain⟨h1,h⟩:=aO h
   simp only[b_,decide_eq_true_eq]at h1
   obtain⟨h1,rfl⟩:=h1
   have hle:=h_ h1
   obtain⟨c,hc,hfin⟩:=cA h
   obtain⟨j,rfl,hj,hl0,_⟩:=Oz u n _ m c hc
   have hrow:j*u.sz+u.sz<=n*u.sz:=by
    have:=Nat.mul_le_mul_right u.sz (show j+1<=n from hj)
    rw[X_,av_]at this
    exact this
   have hl':((((cs.drop off).take (n*u.sz)).drop (j*u.sz)).take u.sz)=(cs.drop (off+j*u.sz)).take u.sz:=by
    rw[aC_,List.take_take,aB_]
    congr 1
    omega
   rw[hl']at hl0
   generalize hl2:(cs.drop (off+j*u.sz)).take u.sz=l0 at hl0
   refine⟨_,⟨_,aA hw hx,?_⟩,hfin⟩
   show aI _ _
   refine⟨_,by rw[bY,ho];rfl,tid,_,rfl,?_,fo,.inr ⟨aG u c,?_,rfl⟩⟩
   ·rw[d_]
    show off+(j:Int).toNat*u.sz+u.sz<=_
    simp only[ak_]
    omega
   ·show(ni u.ag (((cs.map aM).drop (off+(j:Int).toNat*u.sz)).take u.sz)).toPV=_
    rw[<-G_,<-K_,ak_,hl2]
    cases hu:u.ag
    ·rw[dU c hu]at hl0
     match l0,hl0 with
     |[v],hl0=>
      simp only[m_,an_,j_,ai_]at hl0
      cases hv:(aM v).toPV with
      |none=>rw[hv]at hl0;cases hl0
      |some p=>rw[hv]at hl0;cases hl0;exact hv
     |[],hl0=>cases hl0
     |v::w::l,hl0=>
      have:=mapM_len hl0
      simp at this
    ·show(((l0.map aM).mapM BV.toPV).map PV.agg)=_
     rw[hl0,ev c hu];rfl
  ·cases h
 ·rename_i id i off hx
  split at h
  ·rename_i e u xs ho
   obtain⟨hst,h⟩:=aO h
   obtain⟨y,hy,h⟩:=cA h
   split at h
   ·rename_i z hz
    obtain⟨h1,h2,h3⟩:=AT hz
    have hlt:=(g_.1 hy).1
    have hgd:(xs.map (aG u)).getD i .any=aG u y:=by
     simp only[P_,r_,hy,M_,w_]
    refine⟨_,⟨_,aA hw hx,?_⟩,h⟩
    show aI _ _
    refine⟨_,by rw[bY,ho];rfl,.inl ⟨e,u.sz,_,rfl,by rw[d_];exact hlt,by have:=h1;rw[show(aG u y).cells.length=u.sz from aD u y]at this;exact this,fo,?_⟩⟩
    by_cases hs:t.sz=u.sz
    ·obtain⟨g1,g2⟩:=qx u off t y z hz
     have hoff:off=0:=by omega
     subst hoff
     have hbe:c_ t.sz u.sz=true:=by rw[hs];exact ap_ _
     rw[hbe]at hst
     have hut:u=t:=by simpa using hst
     subst hut
     have hz2:aG u z=aG u y:=by
      rw[<-h3]
      refine Ku ?_ (by rw[O_];exact Nat.le_of_eq (aD u y).symm)
      rw[F_,p_ (by rw[aD];exact z_ _)]
     refine .inl ⟨rfl,rfl,?_,?_⟩
     ·rw[hgd,mV]
     ·rw[hgd];show AV.p (aG u y)=AV.p (aG u z);rw[hz2]
    ·refine .inr ⟨hs,?_⟩
     rw[hgd,h3];rfl
   ·cases h
  ·rename_i e k u xs hole ho
   cases hf:k.flatB off t.sz
   ·rw[hf]at h
    simp only[cond_false]at h
    split at h
    ·rename_i hi hj v
     obtain⟨h1,hb1⟩:=aO h
     simp only[b_,H_]at h1
     obtain⟨⟨⟨h1,h2⟩,h5⟩,h3⟩:=h1
     obtain⟨y,hy,hb2⟩:=cA hb1
     obtain⟨h4,hb⟩:=bO hb2
     have e1:=a_ h1
     have e2:=a_ h4
     have h6:=h_ h5
     clear h h1 h4 h5
     subst e1;subst e2
     have hlt:=(g_.1 hy).1
     split at h3
     ·refine⟨_,⟨_,aA hw hx,?_⟩,hb⟩
      show aI _ _
      refine⟨_,by rw[bY,ho];rfl,.inr ⟨e,u.sz,k,_,_,rfl,by rw[d_];exact hlt,?_,fo,.inr ⟨_,rfl,fo h2,h2,rfl⟩⟩⟩
      rw[fo h2];exact h6
     ·cases h3
    ·cases h
   ·rw[hf]at h
    simp only[cond_true]at h
    obtain⟨y,hy,h⟩:=cA h
    split at h
    ·rename_i z hz
     obtain⟨h1,h2,h3⟩:=AT hz
     have hlt:=(g_.1 hy).1
     have hgd:(xs.map (aG u)).getD i .any=aG u y:=by
      simp only[P_,r_,hy,M_,w_]
     refine⟨_,⟨_,aA hw hx,?_⟩,h⟩
     show aI _ _
     refine⟨_,by rw[bY,ho];rfl,.inr ⟨e,u.sz,k,_,_,rfl,by rw[d_];exact hlt,by have:=h1;rw[show(aG u y).cells.length=u.sz from aD u y]at this;exact this,fo,.inl ⟨hf,?_⟩⟩⟩
     rw[hgd,h3];rfl
    ·cases h
  ·cases h
 ·cases h
end
section
variable {R:Type} {P:Program} {O:ak} {d:Option Nat} {s:S} {κ kp:S->Option R} {r:R}
theorem nw{x:Option X}{dflt:Nat}{f:Nat->Option R}(hw:TH x=true)(h:ET s x dflt f=some r):∃n,f n=some r/\∀(K:Nat->Prop),K n->bnd (enc s) (Of x) dflt K:=by
 cases x with
 |none=>exact⟨dflt,h,λK hK=>hK⟩
 |some x=>
  simp only[ET]at h
  obtain⟨k,n,hx,h1⟩:=fD h
  obtain⟨h2,h3⟩:=bO h1
  exact⟨n.toNat,h3,λK hK=>⟨_,aA hw hx,_,rfl,k,n,rfl,by simpa using h2,hK⟩⟩
theorem lQ{t:Ty}{o:Option V}{f:List t.den->Option R}(h:sA s.hp t o f=some r):∃v xs,o=some v/\f xs=some r/\(∀(K:List PV->Prop),K (xs.map (aG t))->oC (enc s).hp t.sz (aT v) K):=by
 unfold sA at h
 split at h
 ·rename_i id
  split at h
  ·rename_i e u xs ho
   split at h
   ·rename_i ys hy
    obtain⟨e2,e3⟩:=bV hy
    have e4:=Ty.list.inj e2
    subst e4
    have e5:ys=xs:=e3
    subst e5
    exact⟨_,ys,rfl,h,λK hK=>.inr (.inr (.inl ⟨id,e,_,rfl,by rw[bY,ho];rfl,hK⟩))⟩
   ·cases h
  ·cases h
 ·rename_i v hns
  split at h
  ·rename_i xs hx
   refine⟨v,xs,rfl,h,λK hK=>?_⟩
   cases v<;>simp only[iP]at hx<;>try cases hx
   ·obtain⟨e1,_⟩:=bS hx
    exact .inr (.inl ⟨_,by show AV.p _=_;rw[<-e1];rfl,hK⟩)
   ·obtain⟨e2,rfl⟩:=bV hx
    cases e2
    exact .inl ⟨rfl,hK⟩
   ·rename_i u y
    obtain⟨e2,rfl⟩:=bV hx
    cases e2
    exact .inr (.inr (.inr ⟨_,rfl,hK⟩))
  ·cases h
 ·cases h
theorem Q3{t:Ty}{v:V}{f:List t.den->Option R}(hv:∀id,v≠.sl id)(h:sA s.hp t (some v) f=some r):∃xs,f xs=some r/\(aT v).toPV=some (mF t.sz (xs.map (aG t))):=by
 unfold sA at h
 split at h
 ·rename_i id heq;cases heq;exact absurd rfl (hv id)
 ·rename_i v' _ heq
  cases heq
  split at h
  ·rename_i xs hx
   exact⟨xs,h,by rw[IE hx];exact nL hx⟩
  ·cases h
 ·cases h
theorem PT{t:Ty}(xs:List t.den)(l h:Nat):((xs.map (aG t)).take h).drop l=((xs.take h).drop l).map (aG t):=by rw[G_,K_]
theorem T3{full:Bool}{t:Ty}{x:X}{lo hi mx:Option X}(hw:x.wf=true/\TH lo=true/\TH hi=true/\TH mx=true)(h:evOp O d (.slc full t x lo hi mx) s κ kp=some r):Pu P s (.slc t.sz x.er (Of lo) (Of hi) (Of mx)) d κ r:=by
 simp only[evOp]at h
 split at h
 ·cases h
 ·rename_i hns
  cases hx:s.get x with
  |none=>rw[hx]at h;cases h
  |some v=>
   rw[hx]at h
   obtain⟨xs,h1,hp⟩:=Q3 (λid e=>hns id (by rw[hx,e])) h
   obtain⟨l,h2,hl⟩:=nw hw.2.1 h1
   obtain⟨n,h3,hh⟩:=nw hw.2.2.1 h2
   obtain⟨m,h4,hm⟩:=nw hw.2.2.2 h3
   obtain⟨h5,h6⟩:=aO h4
   obtain⟨h7,h8⟩:=bO h6
   simp only[b_,decide_eq_true_eq]at h7
   have hmh:(Of mx).isSome=true->(Of hi).isSome=true:=by
    intro hh1
    cases mx<;>cases hi<;>simp_all[Of]
   cases full with
   |false=>
    refine⟨_,⟨_,aA hw.1 hx,_,hp,_,rfl,hl _ ?_⟩,h8⟩
    rw[d_]
    refine hh _ (hm _ ⟨hmh,h7.1.1,h7.1.2,h7.2,.inl ?_⟩)
    rw[PT];rfl
   |true=>
    obtain⟨h9,h10⟩:=bO h8
    simp only[b_,decide_eq_true_eq]at h9
    refine⟨_,⟨_,aA hw.1 hx,_,hp,_,rfl,hl _ ?_⟩,h10⟩
    rw[d_]
    refine hh _ (hm _ ⟨hmh,h7.1.1,h7.1.2,h7.2,.inr ⟨?_,h9.2,?_⟩⟩)
    ·cases mx<;>simp_all[Of]
    ·rw[PT];rfl
theorem Ny(a:List UInt8)(l h:Nat):(⟨a.toArray⟩:ByteArray).extract l h=⟨((a.take h).drop l).toArray⟩:=by
 apply ByteArray.ext
 rw[ByteArray.data_extract]
 apply Array.ext'
 rw[Array.toList_extract]
 simp[List.extract,aC_]
theorem Qh{x:X}{lo hi:Option X}(hw:x.wf=true/\TH lo=true/\TH hi=true)(h:evOp O d (.slcS x lo hi) s κ kp=some r):Pu P s (.slcS x.er (Of lo) (Of hi)) d κ r:=by
 simp only[evOp]at h
 split at h
 ·rename_i a hx
  obtain⟨l,h2,hl⟩:=nw hw.2.1 h
  obtain⟨n,h3,hh⟩:=nw hw.2.2 h2
  obtain⟨h4,h5⟩:=bO h3
  simp only[b_,decide_eq_true_eq]at h4
  refine⟨_,⟨_,aA hw.1 hx,_,rfl,_,rfl,hl _ ?_⟩,h5⟩
  rw[z6]
  refine hh _ ⟨h4.1,h4.2,?_⟩
  rw[Ny];rfl
 ·cases h
theorem Qf{x:X}(hw:x.wf=true)(h:evOp O d (.nilc x) s κ kp=some r):Pu P s (.nilc x.er) d κ r:=by
 simp only[evOp]at h
 split at h
 ·rename_i v hx
  split at h
  ·exact⟨_,⟨_,aA hw hx,.inl ⟨_,rfl⟩,rfl⟩,h⟩
  ·exact⟨_,⟨_,aA hw hx,.inr (.inl ⟨_,_,rfl⟩),rfl⟩,h⟩
  ·exact⟨_,⟨_,aA hw hx,.inr (.inl ⟨_,_,rfl⟩),rfl⟩,h⟩
  ·exact⟨_,⟨_,aA hw hx,.inr (.inr (.inl ⟨_,_,_,rfl⟩)),rfl⟩,h⟩
  ·exact⟨_,⟨_,aA hw hx,.inr (.inr (.inr (.inr ⟨_,_,rfl⟩))),rfl⟩,h⟩
  ·exact⟨_,⟨_,aA hw hx,.inr (.inr (.inr (.inl ⟨_,_,rfl⟩))),rfl⟩,h⟩
  ·cases h
 ·cases h
theorem ug{v:V}(h:v.okB=true):(aT v).ok=true/\(cS v).map aM=(aT v).cells:=by
 have ht:∀vs,v≠.tup vs:=λvs e=>by subst e;cases h
 refine⟨?_,NH v ht⟩
 have hc:∀u:V,u.cellB=true->(aM u).cellOk=true:=by
  intro u hu
  cases u<;>simp only[V.cellB]at hu<;>try cases hu
  ·rename_i t x
   have h0:t.ag=false:=by simpa using hu
   have:=AM t x
   rw[dU x h0]at this
   have h2:(aG t x).cellOk=true:=by simpa using this
   exact h2
  all_goals first
   |rfl
   |skip
  rename_i v
  show(bI v).cellOk=true
  unfold bI
  split
  ·rfl
  ·exact hu
 cases v with
 |d t x=>
  show((AV.b (.pv (aG t x))).cells.all BV.cellOk)=true
  show((aC t x).map BV.pv).all BV.cellOk=true
  rw[aG_]
  exact AM t x
 |agg vs=>
  show(vs.map aM).all BV.cellOk=true
  rw[aG_]
  simp only[V.okB,n_]at h⊢
  exact λu hu=>hc u (h u hu)
 |tup vs=>cases h
 |raw v=>
  show(AV.b (bI v)).cells.all BV.cellOk=true
  have h1:=hc (.raw v) h
  show(AV.b (bI v)).cells.all BV.cellOk=true
  unfold bI
  split
  ·rfl
  ·have h2:v.oneCell'=true:=h
   show([PV.sc v].map BV.pv).all BV.cellOk=true
   simp[BV.cellOk,PV.cellOk,h2]
 |full t x=>rfl
 |nil t=>rfl
 |sl id=>rfl
 |ptr id o=>rfl
 |elt id i o=>rfl
 |dp t x=>rfl
 |clo f ids=>rfl
 |fnD f cs=>rfl
 |mp id=>rfl
 |pel id off n t i=>rfl
 |any=>cases h
 |lit k t x=>cases h
 |ifc=>rfl
theorem Ps{t:Ty}{v:V}{x:t.den}(h:dD t v=some x):v.okB=true:=by
 have hl:∀(u:Ty) (v:V) (y:u.den),u.ag=false->iP u v=some y->v.cellB=true:=by
  intro u v y hu h
  cases v<;>simp only[iP]at h<;>try cases h
  ·obtain⟨_,rfl⟩:=bS h;simp[V.cellB,hu]
  ·rfl
  ·rfl
 have ha:∀(t:Ty) (l:List V) (x:t.den) (m:List V),Ph t l=some (x,m)->∃l0,l=l0++m/\l0.all V.cellB=true:=by
  intro t
  have one:∀(t:Ty) (l:List V) (x:t.den) (m:List V),t.ag=false->(match l with
   |v::l=>match iP t v with
    |some x=>some (x,l)
    |none=>none
   |[]=>none)=some (x,m)->∃l0,l=l0++m/\l0.all V.cellB=true:=by
   intro t l x m ht h
   split at h
   ·rename_i v l'
    split at h
    ·rename_i y h1
     simp only[e_,ac_.injEq]at h
     obtain⟨_,rfl⟩:=h
     exact⟨[v],rfl,by simp[hl t v y ht h1]⟩
    ·cases h
   ·cases h
  induction t with
  |unit=>intro l x m h;simp only[Ph,e_,ac_.injEq]at h;obtain⟨_,rfl⟩:=h;exact⟨[],rfl,rfl⟩
  |pair a b iha ihb=>
   intro l x m h
   simp only[Ph]at h
   split at h
   ·rename_i y l1 h1
    split at h
    ·rename_i z l2 h2
     simp only[e_,ac_.injEq]at h
     obtain⟨_,rfl⟩:=h
     obtain⟨p,rfl,hp⟩:=iha _ _ _ h1
     obtain⟨q,rfl,hq⟩:=ihb _ _ _ h2
     exact⟨p++q,by simp,by rw[aw_,hp,hq];rfl⟩
    ·cases h
   ·cases h
  |rx=>
   intro l x m h
   unfold Ph at h
   split at h
   ·rename_i a b c e l'
    split at h
    ·rename_i a' b' c' e' h1 h2 h3 h4
     simp only[e_,ac_.injEq]at h
     obtain⟨_,rfl⟩:=h
     refine⟨[a,b,c,e],rfl,?_⟩
     simp[hl _ a _ rfl h1,hl _ b _ rfl h2,hl _ c _ rfl h3,hl _ e _ rfl h4]
    ·cases h
   ·cases h
  |int k=>intro l x m h;exact one (.int k) l x m rfl h
  |bool=>intro l x m h;exact one .bool l x m rfl h
  |str=>intro l x m h;exact one .str l x m rfl h
  |list t _=>intro l x m h;exact one (.list t) l x m rfl h
 cases v with
 |agg vs=>
  simp only[dD]at h
  split at h
  ·split at h
   ·rename_i y h1
    obtain⟨l0,rfl,h2⟩:=ha t _ _ _ h1
    rw[ax_]
    exact h2
   ·cases h
  ·cases h
 |d t x=>rfl
 |nil t=>rfl
 |full t x=>rfl
 |_=>simp[dD,iP]at h
theorem P3{tid:TypeId}{t:Ty}{x:X}(hw:x.wf=true)(h:evOp O d (.boxD tid t x) s κ kp=some r):Pu P s (.boxD tid x.er) d κ r:=by
 simp only[evOp]at h
 split at h
 ·cases h
 ·rename_i v hne hx
  split at h
  ·rename_i y hy
   refine⟨_,⟨_,aA hw hx,_,eU hy,(ug (Ps hy)).1,λq e=>?_,rfl⟩,h⟩
   cases v<;>try cases e
   ·rename_i u z;exact hne u z rfl
   ·rename_i v;simp[dD,iP]at hy
  ·cases h
 ·cases h
theorem Mu{tid:TypeId}{x:X}(hw:x.wf=true)(h:evOp O d (.iface tid x) s κ kp=some r):Pu P s (.iface tid x.er) d κ r:=by
 simp only[evOp]at h
 split at h
 ·rename_i v hx;exact⟨_,⟨_,aA hw hx,rfl⟩,h⟩
 ·cases h
end
section
variable {R:Type} {P:Program} {O:ak} {d:Option Nat} {s:S} {κ kp:S->Option R} {r:R}
theorem r7(cs:List V)(off:Nat)(vs:List V):(jc cs off vs).map aM=splice (cs.map aM) off (vs.map aM):=by
 simp[jc,splice,K_,G_]
theorem z8:∀(parts:List (Nat×Nat×X)) (cs:List V) (f:List V->Option R),parts.all (λq=>q.2.2.wf)=true->evOp.buildT s cs parts f=some r->
 ∃ps cs',((parts.map λq=>(q.1,q.2.1,q.2.2.er)).mapM λq=>((enc s).get q.2.2).map λa=>(q.1,q.2.1,a))=some ps/\(∀q∈ps,q.2.2.ok=true/\q.2.2.cells.length=q.2.1/\q.1+q.2.1<=cs.length)/\
  cs'.map aM=ps.foldl (λcs q=>splice cs q.1 q.2.2.cells) (cs.map aM)/\f cs'=some r
 |[],cs,f,_,h=>⟨[],cs,rfl,λq hq=>(by cases hq),rfl,h⟩
 |(off,sz,x)::l,cs,f,hw,h=>by
  simp only[s_,b_]at hw
  simp only[evOp.buildT]at h
  split at h
  ·rename_i v hx
   obtain⟨h1,h2⟩:=aO h
   simp only[b_]at h1
   have hsz:=a_ h1.1.1
   have hle:=h_ h1.1.2
   obtain⟨o1,o2⟩:=ug h1.2
   obtain⟨ps,cs',e1,e2,e3,e4⟩:=z8 l _ f hw.2 h2
   have hl:(jc cs off (cS v)).length=cs.length:=by
    simp only[jc,x_,ar_,Z_]
    omega
   refine⟨(off,sz,aT v)::ps,cs',?_,λq hq=>?_,?_,e4⟩
   ·rw[m_,j_]
    simp only[aA hw.1 hx,e1]
    rfl
   ·rcases D_.1 hq with rfl|hq
    ·exact⟨o1,by show(aT v).cells.length=sz;rw[<-o2,d_,hsz],hle⟩
    ·have:=e2 q hq;rw[hl]at this;exact this
   ·rw[e3,r7,o2];rfl
  ·cases h
theorem Ms{zero:List V}{parts:List (Nat×Nat×X)}(hw:zero.all V.konst=true/\parts.all (λq=>q.2.2.wf)=true)(h:evOp O d (.build zero parts) s κ kp=some r):
 Pu P s (.build (zero.map AZ) (parts.map λq=>(q.1,q.2.1,q.2.2.er))) d κ r:=by
 simp only[evOp]at h
 obtain⟨ps,cs',e1,e2,e3,e4⟩:=z8 parts zero _ hw.2 h
 have hz:(zero.map AZ).map (λv=>bI v)=zero.map aM:=by
  rw[i_]
  exact k_ λv hv=>xo (n_.1 hw.1 v hv)
 refine⟨_,⟨ps,e1,λq hq=>by rw[d_];exact e2 q hq,?_⟩,e4⟩
 rw[hz,<-e3];rfl
theorem nN{t:Ty}:∀(parts:List X) (f:List t.den->Option R),parts.all X.wf=true->evOp.listT s t parts f=some r->∃xs:List t.den,(parts.map X.er).mapM (λx=>((enc s).get x).bind AV.toPV)=some (xs.map (aG t))/\xs.length=parts.length/\f xs=some r
 |[],f,_,h=>⟨[],rfl,rfl,h⟩
 |x::l,f,hw,h=>by
  simp only[s_,b_]at hw
  simp only[evOp.listT]at h
  split at h
  ·rename_i v hx
   split at h
   ·rename_i y hy
    obtain⟨xs,h1,h2,h3⟩:=nN l _ hw.2 h
    refine⟨y::xs,?_,by simp[h2],h3⟩
    rw[m_,j_,h1]
    simp only[aA hw.1 hx,q_,eU hy]
    rfl
   ·cases h
  ·cases h
theorem jD{t:Ty}(xs:List t.den):∀p∈xs.map (aG t),p.cells.length=t.sz/\p.ok=true:=λp hp=>by
 obtain⟨x,_,rfl⟩:=t_.1 hp
 exact⟨aD t x,y9 t x⟩
theorem IT{tid:TypeId}{t:Ty}{len:Nat}{parts:List X}(hw:parts.all X.wf=true)(h:evOp O d (.bslice false tid t len parts) s κ kp=some r):Pu P s (.bslice false tid t.sz len (parts.map X.er)) d κ r:=by
 simp only[evOp]at h
 obtain⟨h1,h2⟩:=aO h
 simp only[b_]at h1
 obtain⟨xs,h3,h4,h5⟩:=nN parts _ hw h2
 refine⟨_,⟨_,h3,?_,h_ h1.1.2,h_ h1.2,jD xs,.inl rfl⟩,h5⟩
 rw[d_,h4]
 exact a_ h1.1.1
theorem Mf{k:Av.K}:∀(vs:List V) (ps:List PV) (n:Nat),(vs.map aM).mapM BV.toPV=some ps->(∀j,j<vs.length->(vs.getD j .any).isNil=(k.at (n+j)).isSome/\(vs.getD j .any).isRaw=false)->
 (vs.map aM).mapM BV.toPVn=some ((ps.zipIdx n).map fun(y,j)=>if(k.at j).isSome then nilP else y)
 |[],ps,n,h,_=>by simp at h;subst h;rfl
 |v::vs,ps,n,h,hk=>by
  simp only[m_,j_,ah_,aA_,Option.bind_eq_some_iff,e_]at h
  obtain⟨p,h1,ps',h2,rfl⟩:=h
  have ih:=Mf vs ps' (n+1) h2 λj hj=>by
   have:=hk (j+1) (by simpa using hj)
   simpa[show n+(j+1)=n+1+j by omega]using this
  obtain⟨h3,h4⟩:=hk 0 (by simp)
  simp only[List.getD_cons_zero,aI_]at h3 h4
  rw[m_,j_,ih]
  have:(aM v).toPVn=some (if(k.at n).isSome then nilP else p):=by
   rw[<-h3]
   cases v with
   |nil u=>rfl
   |raw u=>cases h4
   |_=>first
    |exact h1
    |cases h1
  rw[this]
  rfl
theorem Rc{k:Av.K}{t:Ty}{v:V}{y:t.den}(hd:dD t v=some y)(hn:TB k v=true):(aT v).toPVn=some (cQ k t y):=by
 simp only[TB,b_,n_,List.mem_range,beq_iff_eq,H_]at hn
 obtain⟨h1,h2⟩:=hn
 have he:=eU hd
 cases v with
 |nil u=>
  have h3:=(h2 0 (by simp[cS])).1
  have h4:(k.at 0).isSome=true:=by rw[<-h3];rfl
  have h5:aG t y= .list 0 []:=by
   have:(aT (.nil u)).toPV=some (.list 0 []):=rfl
   rw[this]at he;exact(aM_ he).symm
  show some nilP=some (cQ k t y)
  unfold cQ
  rw[h5]
  simp[h4]
 |agg vs=>
  have he':((vs.map aM).mapM BV.toPV).map PV.agg=some (aG t y):=he
  obtain⟨ps,h3,h4⟩:=o_.1 he'
  show((vs.map aM).mapM BV.toPVn).map PV.agg=_
  rw[Mf (k:=k) vs ps 0 h3 λj hj=>by
   have:=h2 j hj
   rw[O_];exact this]
  simp only[M_,cQ,<-h4,List.mapIdx_eq_zipIdx_map]
 |_=>cases h1
theorem C0{k:Av.K}{t:Ty}:∀(parts:List X) (f:List t.den->Option R),parts.all X.wf=true->evOp.listN s k t parts f=some r->∃xs:List t.den,(parts.map X.er).mapM (λx=>((enc s).get x).bind AV.toPVn)=some (xs.map (cQ k t))/\xs.length=parts.length/\f xs=some r
 |[],f,_,h=>⟨[],rfl,rfl,h⟩
 |x::l,f,hw,h=>by
  simp only[s_,b_]at hw
  simp only[evOp.listN]at h
  split at h
  ·rename_i v hx
   split at h
   ·rename_i y hy
    obtain⟨hn,h⟩:=aO h
    obtain⟨xs,h1,h2,h3⟩:=C0 l _ hw.2 h
    refine⟨y::xs,?_,by simp[h2],h3⟩
    rw[m_,j_,h1]
    simp only[aA hw.1 hx,q_,Rc hy hn]
    rfl
   ·cases h
  ·cases h
theorem Fp(k:Av.K)(t:Ty)(x:t.den):(cQ k t x).cells=(aG t x).cells.mapIdx λj y=>if(k.at j).isSome then nilP else y:=by
 unfold cQ
 cases h:aG t x with
 |agg cs=>rfl
 |_=>
  show(if(k.at 0).isSome then nilP else _).cells=[if(k.at 0).isSome then nilP else _]
  split<;>rfl
theorem Iq{k:Av.K}{t:Ty}(xs:List t.den):∀p∈xs.map (cQ k t),p.cells.length=t.sz/\p.ok=true:=λp hp=>by
 obtain⟨x,_,rfl⟩:=t_.1 hp
 have hc:=Fp k t x
 refine⟨by rw[hc];simp[show(aG t x).cells.length=t.sz from aD t x],?_⟩
 show(cQ k t x).cells.all PV.cellOk=true
 rw[hc]
 have:=y9 t x
 simp only[PV.ok,n_]at this⊢
 intro y hy
 rw[List.mem_mapIdx]at hy
 obtain⟨i,hi,rfl⟩:=hy
 split
 ·rfl
 ·exact this _ (List.getElem_mem hi)
theorem F0{tid:TypeId}{k:Av.K}{t:Ty}{len:Nat}{parts:List X}(hw:parts.all X.wf=true)(h:evOp O d (.bsliceN tid k t len parts) s κ kp=some r):Pu P s (.bsliceN tid t.sz len (parts.map X.er)) d κ r:=by
 simp only[evOp]at h
 obtain⟨h1,h2⟩:=aO h
 simp only[b_]at h1
 obtain⟨xs,h3,h4,h5⟩:=C0 parts _ hw h2
 refine⟨_,⟨_,h3,?_,h_ h1.1.2,h_ h1.2,Iq xs,rfl⟩,h5⟩
 rw[d_,h4]
 exact a_ h1.1.1
theorem FZ{tid:TypeId}{t:Ty}{len:Nat}{parts:List X}(hw:parts.all X.wf=true)(h:evOp O d (.bsliceF tid t len parts) s κ kp=some r):Pu P s (.bslice false tid t.sz len (parts.map X.er)) d κ r:=by
 simp only[evOp]at h
 obtain⟨h1,h2⟩:=aO h
 simp only[b_]at h1
 obtain⟨xs,h3,h4,h5⟩:=nN parts _ hw h2
 refine⟨_,⟨_,h3,?_,h_ h1.1.2,h_ h1.2,jD xs,.inr rfl⟩,h5⟩
 rw[d_,h4]
 exact a_ h1.1.1
theorem P2{tid:TypeId}{t:Ty}{bytes:Nat}{x y:X}(hw:x.wf=true/\y.wf=true)(h:evOp O d (.appD tid t bytes x y) s κ kp=some r):Pu P s (.appD tid t.sz bytes x.er y.er) d κ r:=by
 simp only[evOp]at h
 obtain⟨vy,ys,hy,h1,h2⟩:=lQ h
 split at h1
 ·rename_i u hx
  obtain⟨h3,h4⟩:=bO h1
  refine⟨.d (.list t) ys,⟨_,aA hw.1 hx,_,aA hw.2 hy,h2 _ ⟨λp hp=>(jD ys p hp).2,[],.inl ⟨rfl,rfl⟩,by rw[d_];simpa using h3,rfl⟩⟩,h4⟩
 ·rename_i u xs hx
  split at h1
  ·rename_i zs hz
   obtain⟨e2,e3⟩:=bV hz
   have e4:=Ty.list.inj e2
   subst e4
   have e5:zs=xs:=e3
   subst e5
   obtain⟨h3,h4⟩:=bO h1
   refine⟨.d (.list u) (zs++ys),⟨_,aA hw.1 hx,_,aA hw.2 hy,h2 _ ⟨λp hp=>(jD ys p hp).2,zs.map (aG u),.inr rfl,by rw[d_,d_];simpa using h3,?_⟩⟩,h4⟩
   show AV.p _=AV.p _
   rw[<-C_];rfl
  ·cases h1
 ·cases h1
theorem TW{x:X}(hw:x.wf=true)(h:evOp O d (.b2s x) s κ kp=some r):Pu P s (.b2s x.er) d κ r:=by
 simp only[evOp]at h
 obtain⟨v,xs,hx,hf,hl⟩:=lQ h
 have hb:∀l:List Int,bytesOf (l.map (aG (.int .u8)))=some l:=by
  intro l
  induction l with
  |nil=>rfl
  |cons x l ih=>
   show(bytesOf (l.map (aG (.int .u8)))).map (x::·)=_
   rw[ih];rfl
 refine⟨_,⟨_,aA hw hx,hl _ ⟨_,hb xs,?_⟩⟩,hf⟩
 rfl
theorem Ad:∀(caps:List X) (ids:List Nat),caps.all X.wf=true->evOp.capsOf s caps=some ids->(caps.map X.er).mapM (enc s).get=some (ids.map λi=>.b (.ptr i 0))
 |[],ids,_,h=>by cases h;rfl
 |x::l,ids,hw,h=>by
  simp only[s_,b_]at hw
  simp only[evOp.capsOf]at h
  split at h
  ·rename_i i hx
   split at h
   ·rename_i is hl
    cases h
    rw[m_,j_,aA hw.1 hx,Ad l is hw.2 hl]
    rfl
   ·cases h
  ·cases h
theorem CO:∀(caps:List X) (cs:List ((t:Ty)×t.den)),caps.all X.wf=true->evOp.capsD s caps=some cs->(caps.map X.er).mapM (enc s).get=some ((cs.map λc=>PV.pto (aG c.1 c.2)).map .p)
 |[],ids,_,h=>by cases h;rfl
 |x::l,ids,hw,h=>by
  simp only[s_,b_]at hw
  simp only[evOp.capsD]at h
  split at h
  ·rename_i i hx
   split at h
   ·rename_i is hl
    cases h
    rw[m_,j_,aA hw.1 hx,CO l is hw.2 hl]
    rfl
   ·cases h
  ·cases h
theorem Qd{f:FuncId}{caps:List X}(hw:caps.all X.wf=true)(h:evOp O d (.mkfn f caps) s κ kp=some r):Pu P s (.mkfn f (caps.map X.er)) d κ r:=by
 simp only[evOp]at h
 split at h
 ·rename_i ids hids
  exact⟨_,⟨_,Ad caps ids hw hids,.inl ⟨ids,rfl,rfl⟩⟩,h⟩
 ·split at h
  ·rename_i cs hcs
   exact⟨_,⟨_,CO caps cs hw hcs,.inr ⟨_,rfl,rfl⟩⟩,h⟩
  ·cases h
theorem AI{k:IntKind}:∀(ys:List X) (f:List Int->Option R),ys.all X.wf=true->evOp.intsOf s k ys f=some r->∃ns:List Int,(ys.map X.er).mapM (enc s).get=some (ns.map λn=>.v (.int k n))/\f ns=some r
 |[],f,_,h=>⟨[],rfl,h⟩
 |x::l,f,hw,h=>by
  simp only[s_,b_]at hw
  simp only[evOp.intsOf]at h
  split at h
  ·rename_i k' n hx
   obtain⟨h1,h2⟩:=aO h
   have hk:k'=k:=by simpa using h1
   subst hk
   obtain⟨ns,h3,h4⟩:=AI l _ hw.2 h2
   refine⟨n::ns,?_,h4⟩
   rw[m_,j_,aA hw.1 hx,h3]
   rfl
  ·cases h
theorem Qe{mx:Bool}{k:IntKind}{x:X}{ys:List X}(hw:x.wf=true/\ys.all X.wf=true)(h:evOp O d (.mnmx mx k x ys) s κ kp=some r):Pu P s (.mnmx mx k x.er (ys.map X.er)) d κ r:=by
 simp only[evOp]at h
 split at h
 ·rename_i k' n hx
  obtain⟨h0,h1⟩:=aO h
  have e:k'=k:=by simpa using h0
  subst e
  obtain⟨ns,h2,h3⟩:=AI ys _ hw.2 h1
  refine⟨_,⟨_,aA hw.1 hx,_,rfl,_,_,rfl,_,h2,ns,rfl,rfl,?_⟩,h3⟩
  have:(fun(a b:Int)=>if mx=true then max a b else min a b)=λa b=>bif mx then max a b else min a b:=by
   funext a b;cases mx<;>rfl
  rw[this];rfl
 ·cases h
theorem JR:∀(t:Ty) (x y:t.den),t.eqOk=true->CP t x y=true->x=y
 | .int _,x,y,_,h=>by simpa[CP]using h
 | .bool,x,y,_,h=>by simpa[CP]using h
 | .str,x,y,_,h=>by simpa[CP]using h
 | .unit,_,_,_,_=>rfl
 | .pair a b,x,y,h,h2=>by
  simp only[Ty.eqOk,b_]at h
  simp only[CP,b_]at h2
  exact Prod.ext (JR a x.1 y.1 h.1 h2.1) (JR b x.2 y.2 h.2 h2.2)
theorem Xa(a b:List UInt8):((⟨a.toArray⟩:ByteArray)==⟨b.toArray⟩)=(a==b):=
 (show _=(a.toArray==b.toArray)from rfl).trans (by simp)
theorem JX(P:Program):∀(d:Nat) (t:TypeId) (u:Ty),za P d t u=true->∀x y:u.den,eqP P d t (aG u x) (aG u y)=some (CP u x y)/\B7 P d t (aG u x)=true:=by
 intro d
 induction d with
 |zero=>intro t u h;simp[za]at h
 |succ d ih=>
  intro t u h x y
  unfold za at h
  have fs:∀(l:List Field) (off:Nat) (u:Ty) (x y:u.den) (xs ys:List PV),Vg P (za P d) l off u=true->off<=xs.length->xs.drop off=aC u x->off<=ys.length->ys.drop off=aC u y->
   eqP.eqFs P d l xs ys=some (CP u x y)/\(l.all λf=>f.name != "_" &&(match P.info? f.type with
    |some i=>(P.underlying f.type).isSome&&decide (f.offset+i.size<=xs.length)&&(gJ P f.type||decide (i.size=1))&&B7 P d f.type ((PV.agg xs).sub f.offset i.size (gJ P f.type))
    |none=>false))=true:=by
   intro l
   induction l with
   |nil=>
    intro off u x y xs ys h _ _ _ _
    cases u<;>simp[Vg]at h
    exact⟨by unfold eqP.eqFs;rfl,rfl⟩
   |cons f l ihl=>
    intro off u x y xs ys h hle1 hd1 hle2 hd2
    cases u<;>try (simp[Vg]at h;done)
    rename_i a b
    simp only[Vg,b_]at h
    obtain⟨⟨⟨⟨hn,ho⟩,hi⟩,hf⟩,hr⟩:=h
    have ho:=a_ ho
    cases hin:P.info? f.type with
    |none=>rw[hin]at hi;cases hi
    |some i=>
     rw[hin]at hi
     simp only[b_]at hi
     obtain⟨⟨hsz,hu⟩,hag⟩:=hi
     have hsz:=a_ hsz
     have hag:gJ P f.type=a.ag:=by simpa using hag
     have hname:f.name≠ "_" :=by simpa using hn
     have cut:∀(z:(Ty.pair a b).den) (zs:List PV),off<=zs.length->zs.drop off=aC (.pair a b) z->(PV.agg zs).sub f.offset i.size (gJ P f.type)=aG a z.1/\f.offset+i.size<=zs.length/\zs.drop (off+a.sz)=aC b z.2:=by
      intro z zs hle hd
      have hc:aC (.pair a b) z=aC a z.1++aC b z.2:=rfl
      rw[hc]at hd
      have hl:=congrArg au_ hd
      simp only[Z_,x_,aD]at hl
      refine⟨?_,by omega,?_⟩
      ·rw[ho,hsz,hag]
       refine Ku ?_ ?_
       ·show(zs.drop off).take a.sz=_
        rw[hd,v_ (by rw[aD];exact z_ _),p_ (by rw[aD];exact z_ _)]
       ·show off+a.sz<=zs.length
        omega
      ·rw[<-aB_,hd,L_ (by rw[aD];exact z_ _),List.drop_of_length_le (by rw[aD];exact z_ _),ay_]
     obtain⟨c1,c2,c3⟩:=cut x xs hle1 hd1
     obtain⟨c4,c5,c6⟩:=cut y ys hle2 hd2
     obtain⟨e1,k1⟩:=ih f.type a hf x.1 y.1
     obtain⟨e2,k2⟩:=ihl (off+a.sz) b x.2 y.2 xs ys hr (by omega) c3 (by omega) c6
     have hone:gJ P f.type=false->i.size=1:=λh=>by rw[hsz];exact fo (by rw[<-hag,h])
     refine⟨?_,?_⟩
     ·unfold eqP.eqFs
      rw[if_neg hname,hin]
      simp only[q_]
      rw[if_neg (by
       rintro(h|h|h|h)
       ·rw[W_]at h;rw[h]at hu;cases hu
       ·omega
       ·omega
       ·exact h.2 (hone h.1)),c1,c4,e1]
      simp only[q_,CP]
      cases CP a x.1 y.1
      ·rfl
      ·simp only[if_true,aF_];exact e2
     ·rw[s_,k2,hin]
      simp only[c1,k1,hu,aE_,aF_]
      have h1:(f.name != "_")=true:=hn
      have h2:decide (f.offset+i.size<=xs.length)=true:=by simpa using c2
      have h3:(gJ P f.type||decide (i.size=1))=true:=by
       cases h:gJ P f.type
       ·simp[hone h]
       ·rfl
      rw[h1,h2,h3];rfl
  have st:∀fl,P.underlying t=some (.struct fl)->(!P.stoodInHeld t&&Vg P (za P d) fl.toList 0 u)=true->eqP P (d+1) t (aG u x) (aG u y)=some (CP u x y)/\B7 P (d+1) t (aG u x)=true:=by
   intro fl hu h
   simp only[b_]at h
   have hst:P.stoodInHeld t=false:=by simpa using h.1
   have hag:u.ag=true:=by
    cases hl:fl.toList with
    |nil=>rw[hl]at h;cases u<;>simp[Vg]at h;rfl
    |cons f l=>rw[hl]at h;cases u<;>simp[Vg]at h;rfl
   obtain⟨g1,g2⟩:=fs fl.toList 0 u x y (aC u x) (aC u y) h.2 (aK_ _) rfl (aK_ _) rfl
   rw[ev x hag,ev y hag]
   refine⟨?_,?_⟩
   ·unfold eqP;rw[hu]
    simp only[hst]
    exact g1
   ·unfold B7;rw[hu]
    exact g2
  split at h
  ·rename_i hu;exact⟨by unfold eqP;rw[hu];rfl,by unfold B7;rw[hu];rfl⟩
  ·rename_i k k' hu
   refine⟨?_,by unfold B7;rw[hu];rfl⟩
   unfold eqP;rw[hu]
   show(if k'=k' then some (_==_)else none)=_
   rw[if_pos rfl];rfl
  ·rename_i hu
   refine⟨?_,by unfold B7;rw[hu];rfl⟩
   unfold eqP;rw[hu]
   show some (_==_)=_
   rw[Xa];rfl
  ·exact st _ ‹_› h
  ·cases h
theorem TZ{neg:Bool}{tid:TypeId}{t:Ty}{x y:X}(hw:x.wf=true/\y.wf=true/\za P 64 tid t=true)(h:evOp O d (.eqT neg tid t x y) s κ kp=some r):Pu P s (.eqT neg tid x.er y.er) d κ r:=by
 simp only[evOp]at h
 split at h
 ·rename_i v u hx hy
  split at h
  ·rename_i a b ha hb
   obtain⟨_,h2⟩:=aO h
   refine⟨_,⟨_,aA hw.1 hx,_,aA hw.2.1 hy,_,eU ha,_,eU hb,_,(JX P 64 tid t hw.2.2 a b).1,?_⟩,h2⟩
   rfl
  ·cases h
 ·cases h
theorem FA{k:TypeId}{a b:Ty}(hf:za P 64 k a=true)(y:a.den):∀(kvs:List (a.den×b.den)) (i:Nat),(∀kv∈kvs.map (λp=>(aG a p.1,aG b p.2)),(eqP P 64 k (aG a y) kv.1).isSome=true)/\
 ((gN a b kvs y=none/\uX P k (aG a y) (kvs.map λp=>(aG a p.1,aG b p.2)) i=some none)\/
  ∃j v k',gN a b kvs y=some v/\kvs[j]? =some (k',v)/\CP a y k'=true/\(∀i' kv,i'<j->kvs[i']? =some kv->CP a y kv.1=false)/\uX P k (aG a y) (kvs.map λp=>(aG a p.1,aG b p.2)) i=some (some (i+j,aG b v)))
 |[],i=>⟨λkv h=>(by cases h),.inl ⟨rfl,rfl⟩⟩
 |(k',v)::l,i=>by
  obtain⟨h1,h2⟩:=FA hf y l (i+1)
  have he:=(JX P 64 k a hf y k').1
  refine⟨λkv h=>?_,?_⟩
  ·rcases D_.1 h with rfl|h
   ·simp only[he];rfl
   ·exact h1 kv h
  ·have hstep:uX P k (aG a y) (((k',v)::l).map λp=>(aG a p.1,aG b p.2)) i=if CP a y k'=true then some (some (i,aG b v))else uX P k (aG a y) (l.map λp=>(aG a p.1,aG b p.2)) (i+1):=by
    show(eqP P 64 k (aG a y) (aG a k')).bind _=_
    rw[he];rfl
   cases hb:CP a y k'
   ·rw[hb]at hstep
    simp only[Q_,if_false]at hstep
    have hg:gN a b ((k',v)::l) y=gN a b l y:=by simp[gN,hb]
    rcases h2 with⟨h3,h4⟩|⟨j,u,k2,h3,h4,h5,h7,h6⟩
    ·exact .inl ⟨by rw[hg,h3],by rw[hstep,h4]⟩
    ·refine .inr ⟨j+1,u,k2,by rw[hg,h3],by simpa using h4,h5,λi' kv hi' hkv=>?_,by rw[hstep,h6];congr 2;congr 1;omega⟩
     cases i' with
     |zero=>simp at hkv;subst hkv;exact hb
     |succ i'=>exact h7 i' kv (by omega) (by simpa using hkv)
   ·rw[hb]at hstep
    refine .inr ⟨0,v,k',by simp[gN,hb],rfl,hb,λi' kv hi'=>absurd hi' (by omega),by rw[hstep];rfl⟩
theorem L3{k:TypeId}{a:Ty}(hf:za P 64 k a=true):(P.underlying k).isSome=true:=by
 unfold za at hf
 split at hf<;>first|(rename_i h;rw[h];rfl)|skip
 all_goals first
  |(simp_all;done)
  |cases hf
theorem WW{b:Ty}(h:b.sc=true):aG b b.zero= .sc (pP b):=by cases b<;>simp[Ty.sc]at h<;>rfl
theorem IU{k e:TypeId}{ok:Bool}{a b:Ty}{m x:X}(hw:m.wf=true/\x.wf=true/\za P 64 k a=true/\b.sc=true)(h:evOp O d (.lookup k e ok a b m x) s κ kp=some r):Pu P s (.lookup k e ok (pP b) m.er x.er) d κ r:=by
 simp only[evOp]at h
 split at h
 ·rename_i id v hm hx
  split at h
  ·rename_i k' e' a' b' kvs y ho hy
   split at h
   ·rename_i kvs2 hkv
    obtain⟨h1,h2⟩:=aO h
    simp only[b_]at h1
    have e1:=a_ h1.1.1
    have e2:=a_ h1.1.2
    obtain⟨e3,e4⟩:=bV hkv
    have e5:=Ty.list.inj e3
    injection e5 with e6 e7
    clear h h1
    subst e1;subst e2;subst e6;subst e7
    have e8:kvs2=kvs:=e4
    subst e8
    obtain⟨g1,g2⟩:=FA (P:=P) (b:=b') hw.2.2.1 y kvs2 0
    have hrd:∀(K:AV->Prop) (ok:Bool),K (match ok with
     |true=>.tup [.pv (aG b' ((gN a' b' kvs2 y).getD b'.zero)),.pv (.sc (.bool (gN a' b' kvs2 y).isSome))]
     |false=>.p (aG b' ((gN a' b' kvs2 y).getD b'.zero)))->jp P (enc s) (.lookup k e ok (pP b') m.er x.er) K:=by
     intro K ok hK
     refine⟨_,aA hw.1 hm,_,aA hw.2.1 hx,id,_,rfl,by rw[bY,ho];rfl,_,eU hy,(JX P 64 k a' hw.2.2.1 y y).2,L3 hw.2.2.1,g1,?_⟩
     rcases g2 with⟨g3,g4⟩|⟨j,v,k',g3,g4,g5,g7,g6⟩
     ·refine⟨_,g4,?_⟩
      rw[g3]at hK
      simp only[Option.getD_none,WW hw.2.2.2]at hK
      exact hK
     ·refine⟨_,g6,?_⟩
      rw[g3]at hK
      exact hK
    cases ok with
    |true=>exact⟨_,hrd _ true rfl,h2⟩
    |false=>exact⟨_,hrd _ false rfl,h2⟩
   ·cases h
  ·cases h
 ·cases h
end
theorem fS(a b:Nat):c_ a b=decide (a=b):=by
 cases h:c_ a b
 ·exact(decide_eq_false λe=>by rw[e,ap_]at h;cases h).symm
 ·exact(decide_eq_true (a_ h)).symm
theorem B5(l:List Nat)(x:Nat):mf l x=l.contains x:=by
 induction l with
 |nil=>rfl
 |cons y l ih=>
  simp only[mf,List.any_cons,List.contains_cons]at ih⊢
  rw[ih]
  congr 1
  rw[fS]
  by_cases h:x=y<;>simp[h]
theorem inL_mem{l:List Nat}{x:Nat}:mf l x=true↔x∈l:=by rw[B5,ad_]
theorem allIn_mem{l m:List Nat}:allIn l m=true↔∀i∈m,i∈l:=by simp only[allIn,n_,inL_mem]
theorem EP:Lg=ic:=by
 funext B n k
 unfold Lg ic
 by_cases h:k<B.length
 ·rw[if_pos h,Nat.ble_eq_true_of_le h];rfl
 ·rw[if_neg h]
  have:l_ (k+1) B.length=false:=by
   cases hb:l_ (k+1) B.length
   ·rfl
   ·exact absurd (h_ hb) h
  rw[this];rfl
theorem NO(v:Value)(ρ:Nat->Nat):(bI v).ren ρ=bI v:=by unfold bI;split<;>rfl
theorem yW(v:Value):(bI v).ids=[]:=by unfold bI;split<;>rfl
theorem Ls(v:Value)(i:Nat):(bI v).kill i=bI v:=by unfold bI;split<;>rfl
theorem JF(v:Value)(B:List Nat):(bI v).killB B=bI v:=by unfold bI;split<;>rfl
theorem Fo(ρ:Nat->Nat)(v:V):aM (v.ren ρ)=(aM v).ren ρ:=by
 cases v<;>first|rfl|exact(NO _ ρ).symm
theorem Aw(v:V):v.ids1=(aM v).ids:=by
 cases v<;>first|rfl|exact(yW _).symm
theorem BW(id:Nat)(v:V):aM (v.kill1 id)=(aM v).kill id:=by
 cases v<;>first|rfl|exact(Ls _ id).symm|skip
 ·rename_i k
  show aM (bif c_ k id then .any else .sl k)=if k=id then _ else _
  rw[fS]
  by_cases h:k=id<;>simp[h,aM]
 ·rename_i k i o
  show aM (bif c_ k id then .any else .elt k i o)=if k=id then _ else _
  rw[fS]
  by_cases h:k=id<;>simp[h,aM]
theorem y8(B:List Nat)(v:V):aM (ud B v)=(aM v).killB B:=by
 cases v<;>first|rfl|exact(JF _ B).symm|skip
 ·rename_i k
  show aM (bif mf B k then .any else .sl k)=if B.contains k=true then _ else _
  rw[B5]
  cases h:B.contains k<;>simp[aM]
 ·rename_i k i o
  show aM (bif mf B k then .any else .elt k i o)=if B.contains k=true then _ else _
  rw[B5]
  cases h:B.contains k<;>simp[aM]
theorem mD{v:V}(h:v.isA=false):aT v= .b (aM v):=by cases v<;>first|rfl|cases h
theorem Tu{g:V->V}{v:V}(h:v.isA=false):mG g v=g v:=by cases v<;>first|rfl|cases h
theorem Fj{g:V->V}{G:BV->BV}(hg:∀v,aM (g v)=G (aM v))(ha:∀v,v.isA=false->(g v).isA=false)(v:V):
 aT (mG g v)=(match aT v with| .b x=>.b (G x)| .agg xs=>.agg (xs.map G)| .tup xs=>.tup (xs.map G)):=by
 have hm:∀vs:List V,(vs.map g).map aM=(vs.map aM).map G:=λvs=>by
  rw[i_,i_]
  exact k_ λv _=>hg v
 cases hv:v.isA
 ·rw[Tu hv,mD hv,mD (ha v hv),hg]
 ·cases v with
  |agg vs=>show AV.agg _=AV.agg _;rw[hm]
  |tup vs=>show AV.tup _=AV.tup _;rw[hm]
  |_=>cases hv
theorem Fl(ρ:Nat->Nat)(v:V):aT (mG (V.ren ρ) v)=(aT v).ren ρ:=by
 rw[Fj (G:=BV.ren ρ) (Fo ρ) λv h=>by cases v<;>first|rfl|cases h]
 cases aT v<;>rfl
theorem QT(id:Nat)(v:V):aT (mG (V.kill1 id) v)=(aT v).kill id:=by
 rw[Fj (G:=BV.kill id) (BW id) λv h=>by
  cases v<;>first|rfl|(simp only[V.kill1];cases c_ _ id<;>rfl)|cases h]
 cases aT v<;>rfl
theorem NV(B:List Nat)(v:V):aT (mG (ud B) v)=(aT v).killB B:=by
 rw[Fj (G:=BV.killB B) (y8 B) λv h=>by
  cases v<;>first|rfl|(simp only[ud];cases mf B _<;>rfl)|cases h]
 cases aT v<;>rfl
theorem qg(v:V):v.ids=(aT v).ids:=by
 have hm:∀vs:List V,vs.flatMap V.ids1=(vs.map aM).flatMap BV.ids:=λvs=>by
  induction vs with
  |nil=>rfl
  |cons v vs ih=>simp only[al_,m_,ih,Aw]
 cases hv:v.isA
 ·rw[mD hv]
  have:v.ids=v.ids1:=by cases v<;>first|rfl|cases hv
  rw[this]
  exact Aw v
 ·cases v with
  |agg vs=>exact hm vs
  |tup vs=>exact hm vs
  |_=>cases hv
theorem Ax(ρ:Nat->Nat)(o:Ob):bU (wy (V.ren ρ) o)=(bU o).ren ρ:=by
 cases o<;>first|rfl|skip
 rotate_left
 ·rename_i hole
  cases hole with
  |none=>rfl
  |some q=>obtain⟨i,j,v⟩:=q;show AObj.tree _ _ _ _ (some (_,_,aM _))=AObj.tree _ _ _ _ (some (_,_,_));rw[Fo ρ v]
 show AObj.box _ _=AObj.box _ _
 rw[i_,i_]
 congr 1
 exact k_ λv _=>Fo ρ v
theorem QU(id:Nat)(o:Ob):bU (wy (V.kill1 id) o)=(bU o).kill id:=by
 cases o<;>first|rfl|skip
 rotate_left
 ·rename_i hole
  cases hole with
  |none=>rfl
  |some q=>obtain⟨i,j,v⟩:=q;show AObj.tree _ _ _ _ (some (_,_,aM _))=AObj.tree _ _ _ _ (some (_,_,_));rw[BW id v]
 show AObj.box _ _=AObj.box _ _
 rw[i_,i_]
 congr 1
 exact k_ λv _=>BW id v
theorem NW(B:List Nat)(o:Ob):bU (wy (ud B) o)=(bU o).killB B:=by
 cases o<;>first|rfl|skip
 rotate_left
 ·rename_i hole
  cases hole with
  |none=>rfl
  |some q=>obtain⟨i,j,v⟩:=q;show AObj.tree _ _ _ _ (some (_,_,aM _))=AObj.tree _ _ _ _ (some (_,_,_));rw[y8 B v]
 show AObj.box _ _=AObj.box _ _
 rw[i_,i_]
 congr 1
 exact k_ λv _=>y8 B v
theorem Fq(o:Ob):o.ids=(bU o).ids:=by
 cases o<;>first|rfl|skip
 rotate_left
 ·rename_i hole
  cases hole with
  |none=>rfl
  |some q=>obtain⟨i,j,v⟩:=q;exact Aw v
 show aH_ _ _=aH_ _ (List.map _ _)
 rw[List.flatMap_map]
 congr 1
 funext v
 exact Aw v
theorem BY(s:S)(id:Nat)(o:Ob):enc (s.moved id o)=(enc s).moved id (bU o):=by
 simp only[enc,S.moved,St.moved,eX,i_,List.map_set]
 congr 1
 ·exact k_ λx _=>by simp[QT]
 ·congr 1
  exact k_ λo _=>QU id o
theorem Ig(B:List Nat)(os:List Ob)(n:Nat):∀(l:List Ob) (i:Nat),(Pk B os n i l).map bU=(l.map bU).mapIdx (λj o=>if B.contains (i+j)then(((os.map bU).getD (B.idxOf (i+j)) .gone).ren (ic B n))else o.killB B)
 |[],_=>rfl
 |o::l,i=>by
  simp only[Pk,m_,List.mapIdx_cons,aI_]
  rw[Ig B os n l (i+1)]
  congr 1
  ·rw[B5]
   cases h:B.contains i
   ·simp[NW]
   ·simp only[cond_true,if_true,Ax,EP,J2]
    congr 1
    simp only[P_,r_]
    cases os[B.idxOf i]? <;>rfl
  ·congr 1
   funext j o
   rw[show i+1+j=i+(j+1) by omega]
theorem LL(s:S)(B:List Nat)(os:List Ob):enc (s.back B os)=(enc s).back B (os.map bU):=by
 simp only[enc,S.back,St.back,vM]
 congr 1
 ·rw[i_,i_]
  exact k_ λx _=>by simp[NV]
 ·rw[C_,Ig]
  congr 1
  ·simp only[O_,d_]
  ·rw[<-G_,i_,i_]
   exact k_ λo _=>by simp[Ax,EP]
section
variable {P:Program} {s:S}
theorem C4:∀(B:List Nat) (os:List Ob),PX s B=some os->B.mapM ((enc s).hp[·]?)=some (os.map bU)
 |[],os,h=>by cases h;rfl
 |i::B,os,h=>by
  simp only[PX]at h
  split at h
  ·rename_i o ho
   split at h
   ·rename_i l hl
    cases h
    rw[j_,C4 B l hl,bY,ho]
    rfl
   ·cases h
  ·cases h
theorem Q5{α β:Type}{f:α->Option β}{l:List α}{x:α}(hx:x∈l)(h:f x=none):l.mapM f=none:=by
 induction l with
 |nil=>cases hx
 |cons y l ih=>
  rw[j_]
  rcases D_.1 hx with rfl|hx
  ·rw[h];rfl
  ·rw[ih hx];cases f y<;>rfl
theorem Nw{hp:List AObj}{bor:Bool}{B:List Nat}{t:Ty}{v:V}{x:t.den}(h:dD t v=some x):uL hp bor B (aT v)=some (aT (.d t x)):=by
 have hd:=eU h
 cases v with
 |d u y=>obtain⟨e1,_⟩:=bS (show cf u t y=some x from h);show some (AV.p _)=some (AV.p _);rw[e1]
 |nil u=>obtain⟨e1,_⟩:=bS (show cf (.list u) t []=some x from h);show some (AV.p _)=some (AV.p (aG t x));rw[e1];rfl
 |full u y=>obtain⟨e1,_⟩:=bS (show cf (.list u) t y=some x from h);show some (AV.p _)=some (AV.p (aG t x));rw[e1];rfl
 |agg vs=>
  have hd':((vs.map aM).mapM BV.toPV).map PV.agg=some (aG t x):=hd
  show(if((vs.map aM).mapM BV.toPV).isSome=true then _ else _)=_
  cases hm:(vs.map aM).mapM BV.toPV with
  |none=>rw[hm]at hd';cases hd'
  |some cs=>
   rw[hm]at hd'
   simp only[Option.isSome_some,if_true]
   show(((vs.map aM).mapM BV.toPV).map PV.agg).map AV.p=_
   rw[hm,hd'];rfl
 |_=>simp[dD,iP]at h
theorem K9{bor:Bool}{B:List Nat}{a:Arg×X}{v:V}(hw:a.2.wf=true)(h:K8 s bor B a=some v)(hin:∀i∈v.ids,i∈B):((enc s).get a.2.er).bind (uL (enc s).hp bor B)=some (aT v):=by
 obtain⟨a,x⟩:=a
 simp only[K8]at h
 split at h
 ·rename_i t id hx
  obtain⟨h1,h2⟩:=aO h
  simp only[b_,H_]at h1
  split at h2
  ·rename_i e u xs ho
   split at h2
   ·rename_i ys hy
    cases h2
    obtain⟨e1,e2⟩:=bS hy
    rw[aA hw hx,q_]
    have hB:B.contains id=false:=by rw[<-B5];exact h1.2
    show(if B.contains id=true then _ else _)=_
    rw[hB]
    simp only[Q_,if_false]
    show(if bor=true then Nq (enc s).hp id else none).map AV.p=_
    rw[h1.1,if_pos rfl,Nq,bY,ho]
    show some (AV.p (aG (.list u) xs))=some (AV.p (aG (.list t) ys))
    rw[e1]
   ·cases h2
  ·rename_i e kk u xs ho
   split at h2
   ·rename_i ys hy
    cases h2
    obtain⟨e1,e2⟩:=bS hy
    rw[aA hw hx,q_]
    have hB:B.contains id=false:=by rw[<-B5];exact h1.2
    show(if B.contains id=true then _ else _)=_
    rw[hB]
    simp only[Q_,if_false]
    show(if bor=true then Nq (enc s).hp id else none).map AV.p=_
    rw[h1.1,if_pos rfl,Nq,bY,ho]
    show some (AV.p (aG (.list u) xs))=some (AV.p (aG (.list t) ys))
    rw[e1]
   ·cases h2
  ·cases h2
 ·rename_i t v' _ hx
  split at h
  ·rename_i y hy
   cases h
   rw[aA hw hx,q_]
   exact Nw hy
  ·cases h
 ·rename_i v' hx
  rw[aA hw hx,q_]
  split at h
  ·cases h
  ·cases h
  ·cases h
  ·cases h
  ·rename_i vs
   obtain⟨h1,h2⟩:=aO h
   cases h2
   obtain⟨u,hu,hr⟩:=J_.1 h1
   have:(vs.map aM).mapM BV.toPV=none:=Q5 (af_ hu) (by cases u<;>first|rfl|cases hr)
   show(if((vs.map aM).mapM BV.toPV).isSome=true then _ else _)=_
   rw[this];rfl
  ·rename_i n1 n2 n3 n4 n5
   cases h
   cases v<;>first|rfl|skip
   ·exact absurd rfl (n2 _)
   ·exact absurd rfl (n5 _)
   ·rename_i id
    have:B.contains id=true:=ad_.2 (hin id (by simp[V.ids,V.ids1]))
    show(if B.contains id=true then _ else _)=_
    rw[this];rfl
   ·exact absurd rfl (n3 _ _)
   ·rename_i w
    show uL _ _ _ (AV.b (bI w))=some (AV.b (bI w))
    unfold bI
    split
    ·exact absurd rfl (n4 _ _ _)
    ·rfl
 ·cases h
theorem tM{bor:Bool}{B:List Nat}:∀(l:List (Arg×X)) (vs:List V),ly l=true->oy s bor B l=some vs->(∀v∈vs,∀i∈v.ids,i∈B)->(l.map λa=>a.2.er).mapM (λx=>((enc s).get x).bind (uL (enc s).hp bor B))=some (vs.map aT)
 |[],vs,_,h,_=>by cases h;rfl
 |a::l,vs,hw,h,hin=>by
  simp only[ly,s_,b_]at hw
  simp only[oy]at h
  split at h
  ·rename_i v hv
   split at h
   ·rename_i us hu
    cases h
    rw[m_,j_,K9 hw.1 hv (hin v (by simp)),tM l us hw.2 hu λu hu'=>hin u (by simp[hu'])]
    rfl
   ·cases h
  ·cases h
end
theorem Gj{v w:V}(h:V.same v w=true):aT v=aT w/\aM v=aM w/\(aM v).FlatB:=by
 unfold V.same at h
 split at h
 ·have e:=a_ h;subst e;exact⟨rfl,rfl,trivial⟩
 ·simp only[b_]at h
  have e:=a_ h.1;have e2:=a_ h.2;subst e;subst e2;exact⟨rfl,rfl,trivial⟩
 ·have e:=a_ h;subst e;exact⟨rfl,rfl,trivial⟩
 ·simp only[b_,decide_eq_true_eq]at h
  have e:=a_ h.1;have e2:=h.2;subst e;subst e2;exact⟨rfl,rfl,trivial⟩
 ·exact⟨rfl,rfl,trivial⟩
 ·exact⟨rfl,rfl,.sc _⟩
 ·exact⟨rfl,rfl,.sc _⟩
 ·exact⟨rfl,rfl,.sc _⟩
 ·exact⟨rfl,rfl,.sc _⟩
 ·cases h
theorem Uv{v w:V}(h:V.same v w=true):v.isA=false:=by
 unfold V.same at h
 split at h<;>first|rfl|cases h
theorem Xj{v:V}{t:Ty}{x:t.den}(h:iP t v=some x):LeB (aM v) (aM (.d t x)):=.data _ _ (nL h)
theorem Xi{v:V}{t:Ty}{x:t.den}(h:dD t v=some x):LeA (aT v) (aT (.d t x)):=.data _ _ (eU h)
def LeC(cs ds:List V):Prop:=cs.length=ds.length/\∀(i:Nat) (x y:V),cs[i]? =some x->ds[i]? =some y->LeB (aM x) (aM y)
theorem LeC.refl(cs:List V):LeC cs cs:=⟨rfl,λi x y hx hy=>by rw[hx]at hy;cases hy;exact .refl _⟩
theorem LeC.box{t:TypeId}{cs ds:List V}(h:LeC cs ds):LeO (bU (.box t cs)) (bU (.box t ds)):=
 .box t _ _ (by simp[h.1]) λi x y hx hy=>by
  simp only[r_,o_]at hx hy
  obtain⟨u,hu,rfl⟩:=hx
  obtain⟨v,hv,rfl⟩:=hy
  exact h.2 i u v hu hv
theorem vQ:∀(cs ds:List V),lA cs ds=true->LeC ds cs/\∀v∈cs,(aM v).FlatB
 |[],[],_=>⟨⟨rfl,λi x y hx=>by simp at hx⟩,λv hv=>by cases hv⟩
 |[],_::_,h=>by simp[lA]at h
 |x::l,[],h=>by cases x<;>simp[lA]at h
 |x::l,y::m,h=>by
  have key:LeB (aM y) (aM x)/\(aM x).FlatB/\lA l m=true:=by
   unfold lA at h
   split at h
   ·rename_i heq;cases heq
   ·rename_i l1 y1 m1 h1 h2
    cases h1;cases h2
    exact⟨.any _,.any,h⟩
   ·rename_i xs l1 ys m1 h1 h2
    cases h1;cases h2
    simp only[b_]at h
    exact⟨.refl _,.any,h.2⟩
   ·rename_i x1 l1 y1 m1 _ _ h1 h2
    cases h1;cases h2
    simp only[b_]at h
    obtain⟨_,e,f⟩:=Gj h.1
    exact⟨by rw[e];exact .refl _,f,h.2⟩
   ·cases h
  obtain⟨⟨h1,h2⟩,h3⟩:=vQ l m key.2.2
  refine⟨⟨by simp[h1],λi u v hu hv=>?_⟩,λv hv=>?_⟩
  ·cases i with
   |zero=>simp at hu hv;subst hu;subst hv;exact key.1
   |succ i=>exact h2 i u v (by simpa using hu) (by simpa using hv)
  ·rcases D_.1 hv with rfl|hv
   ·exact key.2.1
   ·exact h3 v hv
def Slot.obj:Slot->Option Nat
 | .vec id _ _=>some id
 | .map id _ _ _ _=>some id
 | .tree id _ _ _=>some id
 | .treeH id _ _ _ _ _=>some id
 |_=>none
inductive LikeO:Ob->Ob->Prop
 |vec (e:TypeId) (t:Ty) (xs ys:List t.den):LikeO (.vec e t xs) (.vec e t ys)
 |map (k e:TypeId) (a c:Ty) (xs ys:List (a.den×c.den)):LikeO (.map k e a c xs) (.map k e a c ys)
 |tree (e:TypeId) (k:Av.K) (t:Ty) (xs ys:List t.den):LikeO (.tree e k t xs none) (.tree e k t ys none)
 |treeH (e:TypeId) (k:Av.K) (t:Ty) (xs ys:List t.den) (i i' j kid:Nat):LikeO (.tree e k t xs (some (i,j,.sl kid))) (.tree e k t ys (some (i',j,.sl kid)))
def ObLe(l:List Slot)(i:Nat)(o b:Ob):Prop:=
 b= .gone\/(∃t cs ds,o= .box t cs/\b= .box t ds/\LeC cs ds)\/b=o\/(LikeO o b/\∃x∈l,x.obj=some i)
theorem ObLe.le{i:Nat}{o b:Ob}(h:ObLe [] i o b):LeO (bU o) (bU b):=by
 rcases h with rfl|⟨t,cs,ds,rfl,rfl,h⟩|rfl|⟨_,x,h,_⟩
 ·exact .gone _
 ·exact h.box
 ·exact .refl _
 ·cases h
theorem ObLe.weak{l:List Slot}{x:Slot}{i:Nat}{o b:Ob}(h:ObLe (x::l) i o b)(hx:x.obj≠some i):ObLe l i o b:=by
 rcases h with h|h|h|⟨h,y,hy,hyi⟩
 ·exact .inl h
 ·exact .inr (.inl h)
 ·exact .inr (.inr (.inl h))
 ·exact .inr (.inr (.inr ⟨h,y,(D_.1 hy).resolve_left λe=>hx (by rw[<-e];exact hyi),hyi⟩))
def Ko(hp:List Ob):Slot->Prop
 | .vec id e t=>∃ys,hp[id]? =some (.vec e t ys)
 | .map id k e a b=>∃ys,hp[id]? =some (.map k e a b ys)
 | .tree id e k t=>∃ys,hp[id]? =some (.tree e k t ys none)
 | .treeH id e k t j kid=>∃ys i,hp[id]? =some (.tree e k t ys (some (i,j,.sl kid)))
 |_=>True
def LeF(fr fr':List (Nat×V)):Prop:=∀k v,lk fr' k=some v->∃u,lk fr k=some u/\LeA (aT u) (aT v)
structure LeP(l:List Slot)(s b:S):Prop where
 fr:LeF s.fr b.fr
 len:s.hp.length=b.hp.length
 hp:∀(i:Nat) (o o':Ob),s.hp[i]? =some o->b.hp[i]? =some o'->ObLe l i o o'
 on:∀x∈l,Ko b.hp x
theorem Gl{hp:List Ob}{id:Nat}{o:Ob}{x:Slot}(h:Ko hp x)(hk:∀o',hp[id]? =some o'->(∀z,¬LikeO o' z)\/LikeO o' o):Ko (hp.set id o) x:=by
 have go:∀(j:Nat) (o':Ob),hp[j]? =some o'->(∃z,LikeO o' z)->∃o2,(hp.set id o)[j]? =some o2/\(LikeO o' o2\/o2=o'):=λj o' hj hz=>by
  by_cases hij:id=j
  ·subst hij
   refine⟨o,A_ (g_.1 hj).1,.inl ?_⟩
   rcases hk o' hj with h1|h1
   ·exact(h1 _ hz.choose_spec).elim
   ·exact h1
  ·exact⟨o',by rw[u_ hij];exact hj,.inr rfl⟩
 cases x with
 |vec j e t=>
  obtain⟨ys,hy⟩:=h
  obtain⟨o2,h1,h2|rfl⟩:=go j _ hy ⟨_,.vec e t ys ys⟩
  ·cases h2;exact⟨_,h1⟩
  ·exact⟨_,h1⟩
 |map j k e a b=>
  obtain⟨ys,hy⟩:=h
  obtain⟨o2,h1,h2|rfl⟩:=go j _ hy ⟨_,.map k e a b ys ys⟩
  ·cases h2;exact⟨_,h1⟩
  ·exact⟨_,h1⟩
 |tree j e k t=>
  obtain⟨ys,hy⟩:=h
  obtain⟨o2,h1,h2|rfl⟩:=go j _ hy ⟨_,.tree e k t ys ys⟩
  ·cases h2;exact⟨_,h1⟩
  ·exact⟨_,h1⟩
 |treeH j e k t jj kid=>
  obtain⟨ys,i,hy⟩:=h
  obtain⟨o2,h1,h2|rfl⟩:=go j _ hy ⟨_,.treeH e k t ys ys i i jj kid⟩
  ·cases h2;exact⟨_,_,h1⟩
  ·exact⟨_,_,h1⟩
 |_=>trivial
theorem Mg{t:TypeId}{cs:List V}(z:Ob):¬LikeO (.box t cs) z:=λh=>by cases h
theorem LeF.put{fr fr':List (Nat×V)}(h:LeF fr fr'){k:Nat}{u v:V}(hu:lk fr k=some u)(hle:LeA (aT u) (aT v)):LeF fr ((k,v)::fr'):=λj w hw=>by
 simp only[lk]at hw
 cases hb:c_ j k
 ·rw[hb]at hw;exact h j w hw
 ·rw[hb]at hw
  simp only[cond_true,e_]at hw
  have:=a_ hb
  subst this;subst hw
  exact⟨u,hu,hle⟩
theorem LeP.set{s:S}{x:Slot}{l:List Slot}{b:S}(h:LeP (x::l) s b){id:Nat}{o ob:Ob}(hx:x.obj=some id)(ho:s.hp[id]? =some o)(hb:b.hp[id]? =some ob)(hl:LikeO ob o):LeP l s ⟨b.fr,setAt b.hp id o⟩:=by
 have hid:=(g_.1 hb).1
 rw[eX]
 refine⟨h.fr,by simp[h.len],λi o1 o2 h1 h2=>?_,λz hz=>Gl (h.on z (by simp[hz])) (λo' hh=>by rw[hb]at hh;cases hh;exact .inr hl)⟩
 by_cases hi:id=i
 ·subst hi
  rw[A_ hid]at h2
  cases h2
  rw[ho]at h1;cases h1
  exact .inr (.inr (.inl rfl))
 ·rw[u_ hi]at h2
  exact(h.hp i o1 o2 h1 h2).weak (by rw[hx];simpa using hi)
theorem mM(s:S):∀(l:List Slot) (c:HL l) (b:S),FT s l=some c->LeP l s b->LeP [] s (unpack l c b)
 |[],_,b,_,h=>h
 |x::l,c,b,hc,h=>by
  simp only[FT]at hc
  split at hc
  ·rename_i y hy
   split at hc
   ·rename_i c' hc'
    cases hc
    cases x with
    |tm k t=>
     simp only[gF]at hy
     split at hy
     ·rename_i v hv
      exact mM s l c' _ hc' ⟨h.fr.put hv (Xi hy),h.len,λi o o' h1 h2=>(h.hp i o o' h1 h2).weak (by simp[Slot.obj]),λz hz=>h.on z (by simp[hz])⟩
     ·cases hy
    |cell id j t=>
     simp only[gF]at hy
     split at hy
     ·rename_i u cs ho
      split at hy
      ·rename_i v hv
       refine mM s l c' _ hc' ?_
       unfold setCell
       split
       ·rename_i t' ds hb
        rw[eX,eX]
        have hid:=(g_.1 hb).1
        refine⟨h.fr,by simp[h.len],λi o o' h1 h2=>?_,λz hz=>Gl (h.on z (by simp[hz])) (λo' hh=>by rw[hb]at hh;cases hh;exact .inl Mg)⟩
        by_cases hi:id=i
        ·subst hi
         rw[A_ hid]at h2
         cases h2
         rw[ho]at h1;cases h1
         have e0:∃t2 cs2 ds2,Ob.box u cs= .box t2 cs2/\Ob.box t' ds= .box t2 ds2/\LeC cs2 ds2:=by
          rcases h.hp id _ _ ho hb with hh|e0|hh|⟨hh,_⟩
          ·cases hh
          ·exact e0
          ·cases hh;exact⟨_,_,_,rfl,rfl,rfl,λi x y hx hy=>by rw[hx]at hy;cases hy;exact .refl _⟩
          ·cases hh
         obtain⟨t2,cs2,ds2,e1,e2,e3⟩:=e0
         ·cases e1;cases e2
          refine .inr (.inl ⟨_,_,_,rfl,rfl,by simp[e3.1],λi u w hu hw=>?_⟩)
          by_cases hij:j=i
          ·subst hij
           rw[am_]at hw
           split at hw
           ·split at hw
            ·cases hw
             rw[hv]at hu;cases hu
             exact Xj hy
            ·cases hw
           ·rename_i hne;exact absurd rfl hne
          ·rw[u_ hij]at hw
           exact e3.2 i u w hu hw
        ·rw[u_ hi]at h2
         exact(h.hp i o o' h1 h2).weak (by simp[Slot.obj])
       ·exact⟨h.fr,h.len,λi o o' h1 h2=>(h.hp i o o' h1 h2).weak (by simp[Slot.obj]),λz hz=>h.on z (by simp[hz])⟩
      ·cases hy
     ·cases hy
    |vec id e t=>
     simp only[gF]at hy
     split at hy
     ·rename_i e' u xs ho
      obtain⟨e2,e3⟩:=bV hy
      have e4:=Ty.list.inj e2
      subst e4
      have e5:y=xs:=e3
      subst e5
      obtain⟨ys,hb⟩:=h.on _ (B_ ..)
      have hlk:LikeO (.vec e' u y) (.vec e u ys):=by
       rcases h.hp id _ _ ho hb with hh|⟨_,_,_,hh,_⟩|hh|⟨hh,_⟩
       ·cases hh
       ·cases hh
       ·cases hh;exact .vec _ _ _ _
       ·exact hh
      have hee:e'=e:=by cases hlk;rfl
      subst hee
      exact mM s l c' _ hc' (h.set rfl ho hb (.vec _ _ _ _))
     ·cases hy
    |map id k e a b'=>
     simp only[gF]at hy
     split at hy
     ·rename_i k1 e1 a1 b1 xs ho
      obtain⟨e2,e3⟩:=bV hy
      have e4:=Ty.list.inj e2
      injection e4 with e6 e7
      subst e6;subst e7
      have e5:y=xs:=e3
      subst e5
      obtain⟨ys,hb⟩:=h.on _ (B_ ..)
      have hee:k1=k/\e1=e:=by
       rcases h.hp id _ _ ho hb with hh|⟨_,_,_,hh,_⟩|hh|⟨hh,_⟩
       ·cases hh
       ·cases hh
       ·cases hh;exact⟨rfl,rfl⟩
       ·cases hh;exact⟨rfl,rfl⟩
      obtain⟨rfl,rfl⟩:=hee
      exact mM s l c' _ hc' (h.set rfl ho hb (.map _ _ _ _ _ _))
     ·cases hy
    |tree id e k t=>
     simp only[gF]at hy
     split at hy
     ·rename_i e1 k1 u xs ho
      obtain⟨e2,e3⟩:=bV hy
      have e4:=Ty.list.inj e2
      subst e4
      have e5:y=xs:=e3
      subst e5
      obtain⟨ys,hb⟩:=h.on _ (B_ ..)
      have hee:e1=e/\k1=k:=by
       rcases h.hp id _ _ ho hb with hh|⟨_,_,_,hh,_⟩|hh|⟨hh,_⟩
       ·cases hh
       ·cases hh
       ·cases hh;exact⟨rfl,rfl⟩
       ·cases hh;exact⟨rfl,rfl⟩
      obtain⟨rfl,rfl⟩:=hee
      exact mM s l c' _ hc' (h.set rfl ho hb (.tree _ _ _ _ _))
     ·cases hy
    |treeH id e k t j kid=>
     simp only[gF]at hy
     split at hy
     ·rename_i e1 k1 u xs i1 j1 v1 ho
      split at hy
      ·rename_i zs hz
       cases hy
       obtain⟨e2,e3⟩:=bV hz
       have e4:=Ty.list.inj e2
       subst e4
       have e5:zs=xs:=e3
       subst e5
       obtain⟨ys,i2,hb⟩:=h.on _ (B_ ..)
       have hee:e1=e/\k1=k/\j1=j/\v1= .sl kid:=by
        rcases h.hp id _ _ ho hb with hh|⟨_,_,_,hh,_⟩|hh|⟨hh,_⟩
        ·cases hh
        ·cases hh
        ·cases hh;exact⟨rfl,rfl,rfl,rfl⟩
        ·cases hh;exact⟨rfl,rfl,rfl,rfl⟩
       obtain⟨rfl,rfl,rfl,rfl⟩:=hee
       exact mM s l c' _ hc' (by have:=h.set rfl ho hb (.treeH _ _ _ _ _ _ _ _ _);simpa using this)
      ·cases hy
     ·cases hy
   ·cases hc
  ·cases hc
theorem LeP.le{s b:S}(h:LeP [] s b):LeS (enc s) (enc b):=by
 refine⟨λk y hk=>?_,by simp[enc,h.len],λi x y hx hy=>?_⟩
 ·show ∃x,Av.look (s.fr.map λx=>(x.1,aT x.2)) k=some x/\_
  have hk':Av.look (b.fr.map λx=>(x.1,aT x.2)) k=some y:=hk
  rw[pH]at hk'⊢
  obtain⟨v,hv,rfl⟩:=o_.1 hk'
  obtain⟨u,hu,hle⟩:=h.fr k v hv
  exact⟨aT u,by rw[hu];rfl,hle⟩
 ·rw[bY]at hx hy
  obtain⟨o,ho,rfl⟩:=o_.1 hx
  obtain⟨o',ho',rfl⟩:=o_.1 hy
  exact(h.hp i o o' ho ho').le
theorem IH(l m:List (Nat×V))(k:Nat):lk (l++m) k=(lk l k).or (lk m k):=by
 induction l with
 |nil=>rfl
 |cons x l ih=>
  obtain⟨j,v⟩:=x
  simp only[List.cons_append,lk]
  cases c_ k j
  ·exact ih
  ·rfl
theorem FL{l:List (Nat×V)}{k:Nat}{v:V}(h:lk l k=some v):(k,v)∈l:=by
 induction l with
 |nil=>cases h
 |cons x l ih=>
  obtain⟨j,w⟩:=x
  simp only[lk]at h
  cases hb:c_ k j
  ·rw[hb]at h;exact List.mem_cons_of_mem _ (ih h)
  ·rw[hb]at h
   simp only[cond_true,e_]at h
   have:=a_ hb
   subst this;subst h
   exact B_ ..
theorem Iw{fr sk:List (Nat×V)}(h:FC fr sk=true){k:Nat}{v:V}(hm:(k,v)∈sk):∃w,lk fr k=some w/\V.same v w=true:=by
 induction sk with
 |nil=>cases hm
 |cons x sk ih=>
  obtain⟨j,u⟩:=x
  simp only[FC,b_]at h
  rcases D_.1 hm with e|hm
  ·cases e
   cases hl:lk fr k with
   |none=>rw[hl]at h;cases h.1
   |some w=>rw[hl]at h;exact⟨w,rfl,h.1⟩
  ·exact ih h.2 hm
theorem zj:∀{us bs:List Ob},Cf us bs=true->us.length=bs.length/\∀(i:Nat) (x y:Ob),us[i]? =some x->bs[i]? =some y->PW x y=true
 |[],[],_=>⟨rfl,λi x y h=>by simp at h⟩
 |[],_::_,h=>by cases h
 |_::_,[],h=>by cases h
 |a::us,b::bs,h=>by
  simp only[Cf,b_]at h
  obtain⟨h1,h2⟩:=zj h.2
  refine⟨by simp[h1],λi x y hx hy=>?_⟩
  cases i with
  |zero=>simp at hx hy;subst hx;subst hy;exact h.1
  |succ i=>exact h2 i x y (by simpa using hx) (by simpa using hy)
def Ob.vary:Ob->Bool
 | .vec _ _ _=>true
 | .map _ _ _ _ _=>true
 | .tree _ _ _ _ _=>true
 |_=>false
theorem FQ{sl:List Slot}:∀{l:List Ob} {i j:Nat} {o:Ob},Vy sl i l=true->l[j]? =some o->o.vary=true->∃x∈sl,x.obj=some (i+j)
 |[],i,j,o,_,hj,_=>by simp at hj
 |a::l,i,j,o,h,hj,hv=>by
  simp only[Vy,b_]at h
  cases j with
  |zero=>
   simp at hj
   subst hj
   cases a<;>first|cases hv|skip
   all_goals
    obtain⟨x,hx,hb⟩:=J_.1 h.1
    refine⟨x,hx,?_⟩
    cases x<;>simp at hb
    all_goals (subst hb;rfl)
  |succ j=>
   have:=FQ (i:=i+1) (j:=j) h.2 (by simpa using hj) hv
   rw[show i+1+j=i+(j+1) by omega]at this
   exact this
theorem Ux{hp:List Ob}{x:Slot}(h:I7 hp x=true):Ko hp x:=by
 cases x with
 |vec id e t=>
  simp only[I7]at h
  split at h
  ·rename_i e' t' ys ho
   simp only[b_,decide_eq_true_eq]at h
   have e1:=a_ h.1
   obtain⟨_,rfl⟩:=h
   subst e1
   exact⟨ys,ho⟩
  ·cases h
 |map id k e a b=>
  simp only[I7]at h
  split at h
  ·rename_i k' e' a' b' ys ho
   simp only[b_,decide_eq_true_eq]at h
   obtain⟨⟨⟨h1,h2⟩,rfl⟩,rfl⟩:=h
   have e1:=a_ h1
   have e2:=a_ h2
   subst e1;subst e2
   exact⟨ys,ho⟩
  ·cases h
 |tree id e k t=>
  simp only[I7]at h
  split at h
  ·rename_i e' k' t' ys ho
   simp only[b_,decide_eq_true_eq]at h
   obtain⟨⟨h1,rfl⟩,rfl⟩:=h
   have e1:=a_ h1
   subst e1
   exact⟨ys,ho⟩
  ·cases h
 |treeH id e k t j kid=>
  simp only[I7]at h
  split at h
  ·rename_i e' k' t' ys i' j' kid' ho
   simp only[b_,decide_eq_true_eq]at h
   obtain⟨⟨⟨⟨h1,rfl⟩,rfl⟩,h2⟩,h3⟩:=h
   have e1:=a_ h1
   have e2:=a_ h2
   have e3:=a_ h3
   subst e1;subst e2;subst e3
   exact⟨ys,_,ho⟩
  ·cases h
 |_=>trivial
theorem FV{sh:Sh}{s s0:S}{c:HL sh.sl}(hw:sh.wfB=true)(h:pack sh s=some c)(hk:∀k v,lk (dG s0.fr sh.keep) k=some v->lk s.fr k=some v):LeP [] s (unpack sh.sl c (sh.base s0)):=by
 unfold pack at h
 split at h
 ·rename_i hf
  simp only[b_,S.fits]at hf
  simp only[Sh.wfB,b_,n_]at hw
  obtain⟨g1,g2⟩:=zj hf.1.2
  refine mM s sh.sl c _ h ⟨λk v hv=>?_,g1.symm,λi o o' h1 h2=>?_,λx hx=>Ux (hw.1 x hx)⟩
  ·have hv':lk (dG s0.fr sh.keep++sh.sk.fr) k=some v:=hv
   rw[IH]at hv'
   cases hkp:lk (dG s0.fr sh.keep) k with
   |some u=>
    rw[hkp]at hv'
    cases hv'
    exact⟨v,hk k v hkp,.refl _⟩
   |none=>
    rw[hkp]at hv'
    obtain⟨w,h1,h2⟩:=Iw hf.1.1 (FL hv')
    exact⟨w,h1,by rw[(Gj h2).1];exact .refl _⟩
  ·have h2':sh.sk.hp[i]? =some o':=h2
   have hfit:=g2 i o' o h2' h1
   have q:=FQ (i:=0) hw.2 h2'
   rw[O_]at q
   unfold PW at hfit
   split at hfit
   ·exact .inl rfl
   ·rename_i t cs u ds
    simp only[b_]at hfit
    have e1:=a_ hfit.1
    subst e1
    exact .inr (.inl ⟨_,_,_,rfl,rfl,(vQ cs ds hfit.2).1⟩)
   ·rename_i e t xs e' t' ys
    simp only[b_,decide_eq_true_eq]at hfit
    have e1:=a_ hfit.1
    obtain⟨_,rfl⟩:=hfit
    subst e1
    exact .inr (.inr (.inr ⟨.vec _ _ _ _,q rfl⟩))
   ·rename_i k e a b xs k' e' a' b' ys
    simp only[b_,decide_eq_true_eq]at hfit
    obtain⟨⟨⟨h3,h4⟩,rfl⟩,rfl⟩:=hfit
    have e1:=a_ h3
    have e2:=a_ h4
    subst e1;subst e2
    exact .inr (.inr (.inr ⟨.map _ _ _ _ _ _,q rfl⟩))
   ·rename_i e k t xs hh e' k' t' ys hh'
    simp only[b_,decide_eq_true_eq]at hfit
    obtain⟨⟨⟨h3,rfl⟩,rfl⟩,h4⟩:=hfit
    have e1:=a_ h3
    subst e1
    split at h4
    ·exact .inr (.inr (.inr ⟨.tree _ _ _ _ _,q rfl⟩))
    ·simp only[b_]at h4
     have e2:=a_ h4.1
     have e3:=a_ h4.2
     subst e2;subst e3
     exact .inr (.inr (.inr ⟨.treeH _ _ _ _ _ _ _ _ _,q rfl⟩))
    ·cases h4
   ·cases hfit
 ·cases h
theorem Kb{sh:Sh}{s s0:S}{c:HL sh.sl}(hw:sh.wfB=true)(h:pack sh s=some c)(hk:∀k v,lk (dG s0.fr sh.keep) k=some v->lk s.fr k=some v):LeS (enc s) (enc (unpack sh.sl c (sh.base s0))):=(FV hw h hk).le
structure FlP(l:List Slot)(b:S):Prop where
 fr:∀k v,lk b.fr k=some v->(aT v).FlatA
 hp:∀(i:Nat) (o:Ob),b.hp[i]? =some o->(bU o).FlatO\/(o.vary=true/\∃x∈l,x.obj=some i)
theorem UH{e:TypeId}{t:Ty}(xs:List t.den)(h:t.flat=true):(bU (.vec e t xs)).FlatO:=λp hp y hy=>by
 obtain⟨x,_,rfl⟩:=t_.1 hp
 exact(lN t x h).2 y hy
theorem Tv{k e:TypeId}{a b:Ty}(xs:List (a.den×b.den))(h:a.flat=true/\b.flat=true):(bU (.map k e a b xs)).FlatO:=λp hp=>by
 obtain⟨x,_,rfl⟩:=t_.1 hp
 exact⟨(lN a x.1 h.1).1,(lN b x.2 h.2).1⟩
theorem rO:∀(t:Ty) (x:t.den),(iB t).length=t.sz/\∀(j:Nat) (y:PV),(aC t x)[j]? =some y->∃(u:Ty) (z:u.den),(iB t)[j]? =some u/\y=aG u z
 | .unit,x=>⟨rfl,λj y h=>by simp[aC,aG,PV.cells]at h⟩
 | .pair a b,x=>by
  obtain⟨h1,h2⟩:=rO a x.1
  obtain⟨h3,h4⟩:=rO b x.2
  refine⟨by simp[iB,Ty.sz,h1,h3],λj y h=>?_⟩
  have hc:aC (.pair a b) x=aC a x.1++aC b x.2:=rfl
  rw[hc]at h
  have hl:(aC a x.1).length=a.sz:=aD a x.1
  rcases Nat.lt_or_ge j a.sz with hj|hj
  ·rw[V_ (by omega)]at h
   obtain⟨u,z,h5,h6⟩:=h2 j y h
   exact⟨u,z,by simp only[iB];rw[V_ (by omega)];exact h5,h6⟩
  ·rw[R_ (by omega)]at h
   obtain⟨u,z,h5,h6⟩:=h4 _ y h
   exact⟨u,z,by simp only[iB];rw[R_ (by omega),h1,<-hl];exact h5,h6⟩
 | .rx,x=>by
  refine⟨rfl,λj y h=>?_⟩
  rw[tj]at h
  match j,h with
  |0,h=>cases h;exact⟨.int .i64,_,rfl,rfl⟩
  |1,h=>cases h;exact⟨.int .i64,_,rfl,rfl⟩
  |2,h=>cases h;exact⟨.int .i64,_,rfl,rfl⟩
  |3,h=>cases h;exact⟨.list .rx,_,rfl,rfl⟩
  |j+4,h=>simp at h
 | .int k,x=>leaf (.int k) x rfl rfl
 | .bool,x=>leaf .bool x rfl rfl
 | .str,x=>leaf .str x rfl rfl
 | .list t,x=>leaf (.list t) x rfl rfl
where
 leaf (t:Ty) (x:t.den) (h1:t.ag=false) (h2:iB t=[t]):(iB t).length=t.sz/\∀(j:Nat) (y:PV),(aC t x)[j]? =some y->∃(u:Ty) (z:u.den),(iB t)[j]? =some u/\y=aG u z:=by
  refine⟨by rw[h2,fo h1];rfl,λj y h=>?_⟩
  rw[dU x h1]at h
  cases j with
  |zero=>cases h;exact⟨t,x,by rw[h2];rfl,rfl⟩
  |succ j=>simp at h
theorem rK:∀(k:Av.K) (ts:List Ty),flatK k ts=true->∀(j:Nat) (u:Ty) (z:u.den),ts[j]? =some u->FlatT (k.at j) (aG u z)
 | .e,ts,h,j,u,z,hu=>by
  simp only[flatK,n_]at h
  exact .flat _ (lN u z (h u (ae_ hu))).1
 | .f r,[],h,j,u,z,hu=>by simp at hu
 | .f r,t::ts,h,j,u,z,hu=>by
  simp only[flatK,b_]at h
  cases j with
  |zero=>cases hu;exact .flat _ (lN _ z h.1).1
  |succ j=>exact rK r ts h.2 j u z (by simpa using hu)
 | .s e sz sub r,[],h,j,u,z,hu=>by simp at hu
 | .s e sz sub r,t::ts,h,j,u,z,hu=>by
  cases t<;>try cases h
  rename_i v
  simp only[flatK,b_]at h
  cases j with
  |zero=>
   cases hu
   have hs:=a_ h.1.1
   refine .sl _ _ _ _ (z.map (aG v)) (by rw[hs];rfl) λi j x y hx hy=>?_
   rw[r_]at hx
   obtain⟨w,_,rfl⟩:=o_.1 hx
   obtain⟨u',z',h1,rfl⟩:=(rO v w).2 j y hy
   exact rK sub _ h.1.2 j u' z' h1
  |succ j=>exact rK r ts h.2 j u z (by simpa using hu)
theorem Gz{e:TypeId}{k:Av.K}{t:Ty}(xs:List t.den)(h:flatK k (iB t)=true)(hole:Option (Nat×Nat×V))(hh:hole=none\/∃i j kid,hole=some (i,j,.sl kid)):(bU (.tree e k t xs hole)).FlatO:=by
 refine⟨λi j b hb=>?_,λi j x y hx hy=>?_⟩
 ·rcases hh with rfl|⟨i',j',kid,rfl⟩
  ·cases hb
  ·cases hb;trivial
 ·rw[r_]at hx
  obtain⟨w,_,rfl⟩:=o_.1 hx
  obtain⟨u',z',h1,rfl⟩:=(rO t w).2 j y hy
  exact rK k _ h j u' z' h1
theorem iW:∀(l:List Slot) (c:HL l) (b:S),l.all Slot.flat=true->FlP l b->FlP [] (unpack l c b)
 |[],_,b,_,h=>h
 |x::l,c,b,hf,h=>by
  simp only[s_,b_]at hf
  have drop:∀(i:Nat) (o:Ob),b.hp[i]? =some o->x.obj≠some i->(bU o).FlatO\/(o.vary=true/\∃x∈l,x.obj=some i):=by
   intro i o ho h1
   rcases h.hp i o ho with hh|⟨hh,y,hm,hy⟩
   ·exact .inl hh
   ·exact .inr ⟨hh,y,(D_.1 hm).resolve_left λq=>h1 (by rw[<-q];exact hy),hy⟩
  have set_:∀(id:Nat) (o':Ob),x.obj=some id->(bU o').FlatO->FlP l ⟨b.fr,setAt b.hp id o'⟩:=λid o' hx hfo=>⟨h.fr,λi o ho=>by
   have ho':(setAt b.hp id o')[i]? =some o:=ho
   rw[eX]at ho'
   by_cases hi:id=i
   ·subst hi
    rw[am_]at ho'
    split at ho'
    ·split at ho'
     ·cases ho';exact .inl hfo
     ·cases ho'
    ·rename_i hne;exact absurd rfl hne
   ·rw[u_ hi]at ho'
    exact drop i o ho' (by rw[hx];simpa using hi)⟩
  cases x with
  |tm k t=>
   refine iW l c.2 _ hf.2 ⟨λj v hv=>?_,λi o ho=>drop i o ho (by simp[Slot.obj])⟩
   simp only[lk]at hv
   cases hb:c_ j k
   ·rw[hb]at hv;exact h.fr j v hv
   ·rw[hb]at hv
    simp only[cond_true,e_]at hv
    subst hv
    exact(lN t c.1 hf.1).1
  |cell id j t=>
   refine iW l c.2 _ hf.2 ⟨h.fr,λi o ho=>?_⟩
   have ho':(setCell b.hp id j (.d t c.1))[i]? =some o:=ho
   unfold setCell at ho'
   split at ho'
   ·rename_i t' ds hb
    rw[eX,eX]at ho'
    have hid:=(g_.1 hb).1
    by_cases hi:id=i
    ·subst hi
     rw[A_ hid]at ho'
     cases ho'
     left
     rcases h.hp id _ hb with hh|⟨hh,_⟩
     ·intro y hy
      obtain⟨v,hv,rfl⟩:=t_.1 hy
      rcases List.mem_or_eq_of_mem_set hv with hv|rfl
      ·exact hh _ (af_ hv)
      ·exact(lN t c.1 hf.1).1
     ·cases hh
    ·rw[u_ hi]at ho'
     exact drop i o ho' (by simp[Slot.obj])
   ·exact drop i o ho' (by simp[Slot.obj])
  |vec id e t=>exact iW l c.2 _ hf.2 (set_ id _ rfl (UH _ hf.1))
  |map id k e a b'=>
   have:=hf.1
   simp only[Slot.flat,b_]at this
   exact iW l c.2 _ hf.2 (set_ id _ rfl (Tv _ this))
  |tree id e k t=>exact iW l c.2 _ hf.2 (set_ id _ rfl (Gz _ hf.1 none (.inl rfl)))
  |treeH id e k t j kid=>exact iW l c.2 _ hf.2 (set_ id _ rfl (Gz _ hf.1 _ (.inr ⟨_,_,_,rfl⟩)))
theorem base_nil(sh:Sh):(sh.base ⟨[],[]⟩).fr=sh.sk.fr:=by
 have:∀l,dG [] l=[]:=λl=>by induction l with
  |nil=>rfl
  |cons k l ih=>simp only[dG,lk,ih]
 simp[Sh.base,this]
theorem Rn{sh:Sh}{s:S}{c:HL sh.sl}(hw:sh.wfB=true)(h:pack sh s=some c)(hf:sh.sl.all Slot.flat=true):
 (∀k v,lk (unpack sh.sl c (sh.base ⟨[],[]⟩)).fr k=some v->(aT v).FlatA)/\∀o∈(unpack sh.sl c (sh.base ⟨[],[]⟩)).hp,(bU o).FlatO:=by
 unfold pack at h
 split at h
 ·rename_i hfit
  simp only[b_,S.fits]at hfit
  simp only[Sh.wfB,b_,n_]at hw
  obtain⟨g1,g2⟩:=zj hfit.1.2
  have key:FlP [] (unpack sh.sl c (sh.base ⟨[],[]⟩)):=iW sh.sl c _ hf ⟨λk v hv=>by
   rw[base_nil]at hv
   obtain⟨w,h1,h2⟩:=Iw hfit.1.1 (FL hv)
   rw[mD (Uv h2)]
   exact(Gj h2).2.2,λi o ho=>by
   have ho':sh.sk.hp[i]? =some o:=ho
   have q:=FQ (i:=0) hw.2 ho'
   rw[O_]at q
   obtain⟨o2,ho2⟩:=bw g1.symm ho'
   have hfo:=g2 i o o2 ho' ho2
   cases o with
   |gone=>exact .inl trivial
   |free=>exact .inl trivial
   |box t cs=>
    cases o2<;>simp[PW]at hfo
    left
    intro y hy
    obtain⟨v,hv,rfl⟩:=t_.1 hy
    exact(vQ _ _ hfo.2).2 v hv
   |vec e t xs=>exact .inr ⟨rfl,q rfl⟩
   |map k e a b xs=>exact .inr ⟨rfl,q rfl⟩
   |tree e k t xs hole=>exact .inr ⟨rfl,q rfl⟩⟩
  refine⟨key.fr,λo ho=>?_⟩
  obtain⟨i,hi⟩:=List.getElem?_of_mem ho
  rcases key.hp i o hi with hh|⟨_,_,hm,_⟩
  ·exact hh
  ·cases hm
 ·cases h
theorem Un{n:Nat}{fr:List (Nat×V)}(h:∀k v,lk fr k=some v->(aT v).FlatA):(aT (res n fr)).FlatA:=by
 unfold res
 cases c_ n 1
 ·intro x hx
  obtain⟨v,hv,rfl⟩:=t_.1 hx
  obtain⟨i,_,rfl⟩:=t_.1 hv
  cases hl:lk fr i with
  |none=>exact .any
  |some u=>
   have:=h i u hl
   simp only[w_]
   cases hu:u.isA
   ·rw[mD hu]at this;exact this
   ·cases u<;>first|exact .any|cases hu
 ·cases hl:lk fr 0 with
  |none=>exact .any
  |some u=>exact h 0 u hl
theorem V1{x:BV}{v:V}(h:LeA (.b x) (aT v)):LeB x (aM v):=by
 cases hv:v.isA
 ·rw[mD hv]at h
  generalize aM v=y at h⊢
  cases h with
  |refl=>exact .refl _
  |data _ p h=>exact .data _ _ h
  |any=>exact .any _
 ·cases v with
  |agg vs=>cases h
  |tup vs=>cases h
  |_=>cases hv
theorem WV{n:Nat}{fr fr':List (Nat×V)}(h:LeF fr fr')(h1:IM n fr=true):LeA (aT (res n fr)) (aT (res n fr')):=by
 unfold res
 simp only[IM]at h1
 cases hn:c_ n 1
 ·rw[hn,Bool.false_or,n_]at h1
  refine .tup _ _ (by simp[Rw]) λi x y hx hy=>?_
  simp only[Rw,r_,o_]at hx hy
  obtain⟨v,⟨j,hj,rfl⟩,rfl⟩:=hx
  obtain⟨w,⟨j',hj',rfl⟩,rfl⟩:=hy
  rw[hj]at hj';cases hj'
  cases hl:lk fr' j with
  |none=>exact .any _
  |some v=>
   obtain⟨u,hu,hle⟩:=h j v hl
   rw[hu]
   have:u.isA=false:=by simpa using h1 _ (FL hu)
   rw[mD this]at hle
   exact V1 hle
 ·cases hl:lk fr' 0 with
  |none=>exact .any _
  |some v=>
   obtain⟨u,hu,hle⟩:=h 0 v hl
   rw[hu];exact hle
theorem QD{P:Program}{f:FuncId}{ars:List AV}{os os1 os2:List AObj}{r r':AV}(h:ACalls P f ars os λo=>o=some (r,os1))(hr:LeA r r')(hl:os1.length=os2.length)
 (ho:∀(i:Nat) (x y:AObj),os1[i]? =some x->os2[i]? =some y->LeO x y):ACalls P f ars os λo=>o=some (r',os2):=by
 intro w θ D vs h0 h1 h2 h3
 refine(h w θ D vs h0 h1 h2 h3).mono λe w' hb=>?_
 rcases hb with⟨v,r1,os',θ',D',e1,e2,e3,e4,e5⟩|⟨ch,e1,e2,e3,_⟩
 ·cases e2
  refine .inl ⟨v,r',os2,θ',D',e1,rfl,hr.rel e3,⟨by rw[e4.len,hl],e4.dlt,e4.inj,e4.olt,λi l o hi hoi=>?_⟩,e5⟩
  obtain⟨x,hx⟩:=bw hl hoi
  exact(ho i x o hx hoi).rel (e4.objs i l x hi hx)
 ·cases e3
structure OracleOk(P:Program)(O:ak):Prop where
 ret:∀f ars os s,O f ars os=some (some s)->ACalls P (f%10000) (ars.map aT) (os.map bU) λo=>o=some (aT (res s.fr.length s.fr),s.hp.map bU)
 pan:∀f ars os,O f ars os=some none->ACalls P (f%10000) (ars.map aT) (os.map bU) λo=>o=none
section
variable {R:Type} {P:Program} {O:ak} {d:Option Nat} {s:S} {κ kp:S->Option R} {r:R}
theorem vP(hO:OracleOk P O){f:FuncId}{ars:List V}{os:List Ob}{sh:Sh}{c:HL sh.sl}(hw:sh.wfB=true)(h:aH O f ars os sh=some c):
 ACalls P (f%10000) (ars.map aT) (os.map bU) (λo=>o=some (aT (res sh.n (unpack sh.sl c (sh.base ⟨[],[]⟩)).fr),(unpack sh.sl c (sh.base ⟨[],[]⟩)).hp.map bU))/\
  (sh.sl.all Slot.flat=true->(aT (res sh.n (unpack sh.sl c (sh.base ⟨[],[]⟩)).fr)).FlatA/\∀o∈(unpack sh.sl c (sh.base ⟨[],[]⟩)).hp.map bU,o.FlatO):=by
 unfold aH at h
 split at h
 ·rename_i s' hs'
  obtain⟨h1,h2⟩:=aO h
  simp only[b_]at h1
  have hn:=a_ h1.1
  have hk:∀k v,lk (dG (⟨[],[]⟩:S).fr sh.keep) k=some v->lk s'.fr k=some v:=by
   have:∀l,dG [] l=[]:=λl=>by induction l with
    |nil=>rfl
    |cons k l ih=>simp only[dG,lk,ih]
   intro k v hv
   rw[this]at hv;cases hv
  have hP:=FV (s0:=⟨[],[]⟩) hw h2 hk
  have hS:=hP.le
  refine⟨QD (hO.ret f ars os s' hs') ?_ (by simp[hP.len]) (λi x y hx hy=>hS.hp i x y hx hy),λhf=>?_⟩
  ·rw[hn];exact WV hP.fr h1.2
  ·obtain⟨f1,f2⟩:=Rn hw h2 hf
   refine⟨Un f1,λo ho=>?_⟩
   obtain⟨o',ho',rfl⟩:=t_.1 ho
   exact f2 o' ho'
 ·cases h
theorem Lk(hO:OracleOk P O){f:FuncId}{ars:List V}{os:List Ob}{sh:Sh}{c:Option (HL sh.sl)}(h:iw O f ars os sh=some c):
 (∀c',c=some c'->aH O f ars os sh=some c')/\(c=none->ACalls P (f%10000) (ars.map aT) (os.map bU) λo=>o=none):=by
 unfold iw at h
 split at h
 ·rename_i s' hs'
  obtain⟨h1,h2⟩:=aO h
  split at h2
  ·rename_i c2 hc2
   cases h2
   refine⟨λc' hc'=>?_,(λhc=>by cases hc)⟩
   cases hc'
   unfold aH
   rw[hs']
   simp only[h1,cond_true]
   exact hc2
  ·cases h2
 ·rename_i hs'
  cases h
  exact⟨(λc' hc'=>by cases hc'),λ_=>hO.pan f ars os hs'⟩
 ·cases h
theorem LW{B:List Nat}{v:V}(h:v.isD=true):mG (ud B) v=v:=by cases v<;>first|rfl|cases h
theorem Aa(hO:OracleOk P O){pan bor:Bool}{B:List Nat}{f:FuncId}{ars:List V}{sh:Sh}(hw:sh.wfB=true)(h:yU pan O s d bor B f ars sh κ kp=some r):
 ∃os:List Ob,(enc s).hp=(enc s).hp/\B.mapM ((enc s).hp[·]?)=some (os.map bU)/\(∀v∈ars,∀i∈v.ids,i∈B)/\
  sexec.callK P (enc s) d bor B (f%10000) (ars.map aT) (os.map bU) (λst'=>∃s',st'=enc s'/\Keeps (fV d) s s'/\κ s'=some r) (λst'=>∃s',st'=enc s'/\Keeps (fV d) s s'/\kp s'=some r):=by
 unfold yU at h
 split at h
 ·rename_i os hos
  obtain⟨h1,h2⟩:=aO h
  simp only[b_,decide_eq_true_eq,n_,Bool.or_eq_true,H_]at h1
  obtain⟨⟨⟨hnd,hids⟩,hoids⟩,hflat⟩:=h1
  have hin:∀v∈ars,∀i∈v.ids,i∈B:=λv hv=>allIn_mem.1 (hids v hv)
  have hren:((ars.map (mG (V.ren (J2 B)))).map aT)=(ars.map aT).map (AV.ren (B.idxOf ·)):=by
   rw[i_,i_]
   exact k_ λv _=>Fl _ v
  have horen:((os.map (wy (V.ren (J2 B)))).map bU)=(os.map bU).map (AObj.ren (B.idxOf ·)):=by
   rw[i_,i_]
   exact k_ λv _=>Ax _ v
  have fX:∀(os':List Ob) (v:V),Keeps (fV d) s ((s.back B os').putO d v):=λos' v=>
   (Keeps.map (fV d) s (s.back B os') (ud B) (λv hv=>LW hv) rfl).trans (Keeps.put _ d v)
  have keepP:∀(os':List Ob),Keeps (fV d) s (s.back B os'):=λos'=>Keeps.map (fV d) s (s.back B os') (ud B) (λv hv=>LW hv) rfl
  have retK:∀c:HL sh.sl,aH O f (ars.map (mG (V.ren (J2 B)))) (os.map (wy (V.ren (J2 B)))) sh=some c->BG s d B sh.n sh κ c=some r->
   ACalls P (f%10000) ((ars.map aT).map (AV.ren (B.idxOf ·))) ((os.map bU).map (AObj.ren (B.idxOf ·))) λo=>match o with
    |some (r',os')=>(bor=true->r'.FlatA/\∀o∈os',o.FlatO)/\∃s',((enc s).back B os').putO d (r'.ren (ic B (enc s).hp.length))=enc s'/\Keeps (fV d) s s'/\κ s'=some r
    |none=>∃s',(enc s).back B ((os.map bU).map λ_=>.gone)=enc s'/\Keeps (fV d) s s'/\kp s'=some r:=by
   intro c hc hk
   obtain⟨q1,q2⟩:=vP hO hw hc
   rw[hren,horen]at q1
   refine q1.mono λo ho=>?_
   subst ho
   refine⟨λhb=>q2 ?_,_,?_,fX _ _,hk⟩
   ·rcases hflat with hh|hh
    ·rw[hb]at hh;cases hh
    ·exact n_.2 hh
   ·rw[gB,LL,Fl,EP]
    congr 2
    simp[enc]
  refine⟨os,rfl,C4 B os hos,hin,hnd,?_,?_,?_⟩
  ·intro a ha i hi
   obtain⟨v,hv,rfl⟩:=t_.1 ha
   rw[<-qg]at hi
   exact hin v hv i hi
  ·intro o ho i hi
   obtain⟨o',ho',rfl⟩:=t_.1 ho
   rw[<-Fq]at hi
   exact allIn_mem.1 (hoids o' ho') i hi
  ·cases pan with
   |false=>
    obtain⟨c,hc,hk⟩:=cA h2
    exact retK c hc hk
   |true=>
    obtain⟨oc,hc,hk⟩:=cA h2
    obtain⟨g1,g2⟩:=Lk hO hc
    cases oc with
    |some c=>exact retK c (g1 c rfl) hk
    |none=>
     have q1:=g2 rfl
     rw[hren,horen]at q1
     refine q1.mono λo ho=>?_
     subst ho
     refine⟨_,?_,keepP _,hk⟩
     rw[LL]
     congr 1
     rw[i_,i_];rfl
 ·cases h
end
end Go.Ev
