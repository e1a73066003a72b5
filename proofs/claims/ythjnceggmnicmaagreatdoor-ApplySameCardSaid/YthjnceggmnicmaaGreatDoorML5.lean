import Derived.Test.YthjnceggmnicmaaGreatDoorML1
import Derived.Test.YthjnceggmnicmaaGreatDoorML3
set_option linter.unusedVariables false
set_option linter.unusedSimpArgs false
open Bool renaming and_eq_true->b_,not_eq_true'->E_,rec->F_,false_eq_true->Q_,and_true->aE_,true_and->aF_
open Int renaming toNat_natCast->ak_
open List renaming length_map->d_,getElem?_eq_some_iff->g_,map_map->i_,mapM_cons->j_,map_congr_left->k_,map_cons->m_,all_eq_true->n_,take_of_length_le->p_,getElem?_map->r_,all_cons->s_,mem_map->t_,getElem?_set_ne->u_,take_append_of_le_length->v_,length_append->x_,getElem?_set_self->A_,mem_cons_self->B_,map_append->C_,mem_cons->D_,drop_zero->G_,map_drop->H_,replicate->I_,any_eq_true->J_,map_take->K_,drop_append_of_le_length->L_,getD->P_,getElem?_append_right->R_,mem_singleton->S_,drop_eq_getElem_cons->U_,getElem?_append_left->V_,getElem?_eq_getElem->Y_,length_drop->Z_,mapM_append->aa_,contains_iff_mem->ad_,mem_of_getElem?->ae_,mem_map_of_mem->af_,take_succ_cons->ag_,mapM_nil->ai_,range->aj_,flatMap_cons->al_,getElem?_set->am_,map_nil->an_,drop_append->aq_,length_take->ar_,length->au_,all_append->aw_,append_nil->ax_,nil_append->ay_,drop_drop->aB_,drop_take->aC_,take_zero->aD_,all_map->aG_,flatMap->aH_
open Nat renaming eq_of_beq_eq_true->a_,beq->c_,le_of_ble_eq_true->h_,ble->l_,le_refl->z_,lor->N_,zero_add->O_,shiftRight->T_,add_mul->X_,land->ab_,and_comm->ao_,beq_refl->ap_,zero_testBit->as_,one_mul->av_,testBit_and->az_,add_zero->aI_,zero_mul->aJ_,zero_le->aK_
open Option renaming bind->f_,map_eq_some_iff->o_,bind_some->q_,getD_some->w_,rec->y_,map_some->M_,isNone_iff_eq_none->W_,bind_eq_bind->ah_,pure_def->aA_
open Option.some renaming injEq->e_,inj->aM_
open Prod renaming mk->ac_
open Sum renaming elim->aL_
namespace Go.Ev
open Go Go.RowKit Go.Av
inductive Rx where
 |mk (kind lo hi:Int) (kids:List Rx)
 deriving Inhabited
inductive Ty where
 |int (k:IntKind)
 |bool
 |str
 |list (t:Ty)
 |unit
 |pair (a b:Ty)
 |rx
 deriving Inhabited,DecidableEq
@[reducible] def Ty.den:Ty->Type
 | .int _=>Int
 | .bool=>Bool
 | .str=>List UInt8
 | .list t=>List t.den
 | .unit=>Unit
 | .pair a b=>a.den×b.den
 | .rx=>Rx
def Ty.sz:Ty->Nat
 | .unit=>0
 | .pair a b=>a.sz+b.sz
 | .rx=>4
 |_=>1
def Ty.ag:Ty->Bool
 | .unit=>true
 | .pair _ _=>true
 | .rx=>true
 |_=>false
mutual
def QS:Rx->PV
 | .mk k l h ks=>.agg [.sc (.int .i64 k),.sc (.int .i64 l),.sc (.int .i64 h),mb 4 (Ja ks)]
def Ja:List Rx->List PV
 |[]=>[]
 |r::a=>QS r::Ja a
end
def aG:(t:Ty)->t.den->PV
 | .int k,x=>.sc (.int k x)
 | .bool,x=>.sc (.bool x)
 | .str,x=>.sc (.string ⟨x.toArray⟩)
 | .list t,x=>mb t.sz (x.map (aG t))
 | .unit,_=>.agg []
 | .pair a b,x=>.agg ((aG a x.1).cells++(aG b x.2).cells)
 | .rx,x=>QS x
inductive V where
 |d (t:Ty) (x:t.den)
 |nil (t:Ty)
 |agg (vs:List V)
 |tup (vs:List V)
 |sl (id:Nat)
 |ptr (id off:Nat)
 |elt (id i off:Nat)
 |dp (t:Ty) (x:t.den)
 |clo (f:FuncId) (ids:List Nat)
 |fnD (f:FuncId) (cs:List ((t:Ty)×t.den))
 |mp (id:Nat)
 |full (t:Ty) (x:List t.den)
 |pel (id off n:Nat) (t:Ty) (i:Int)
 |raw (v:Value)
 |any
 |ifc
 |lit (k:K) (t:Ty) (xs:List t.den)
instance:Inhabited V:=⟨.raw Go.undef⟩
inductive Ob where
 |gone
 |free
 |box (tid:TypeId) (cs:List V)
 |vec (tid:TypeId) (t:Ty) (xs:List t.den)
 |map (k e:TypeId) (a b:Ty) (kvs:List (a.den×b.den))
 |tree (tid:TypeId) (k:K) (t:Ty) (xs:List t.den) (hole:Option (Nat×Nat×V))
instance:Inhabited Ob:=⟨.gone⟩
def uG(k:K)(t:Ty)(x:t.den):PV:=match aG t x with
 | .agg cs=>.agg (cs.mapIdx λj y=>if(k.at j).isSome then nilP else y)
 |y=>if(k.at 0).isSome then nilP else y
def aO:V->BV
 | .d t x=>.pv (aG t x)
 | .nil _=>.nils
 | .sl id=>.sl id
 | .ptr id off=>.ptr id off
 | .elt id i off=>.elt id i off
 | .dp t x=>.pv (.pto (aG t x))
 | .clo f ids=>.clo (.func f) ids
 | .fnD f cs=>.pv (.fn (.func f) (cs.map λc=>.pto (aG c.1 c.2)))
 | .mp id=>.mp id
 | .full t x=>.full (mb t.sz (x.map (aG t)))
 | .raw v=>bn v
 | .pel id off _ t i=>.ptr id (off+i.toNat*t.sz)
 | .any=>.pv .any
 | .ifc=>.ifc
 | .lit k t xs=>.pv (mb t.sz (xs.map (uG k t)))
 | .agg _=>.pv .any
 | .tup _=>.pv .any
def aS:V->AV
 | .agg vs=>.agg (vs.map aO)
 | .tup vs=>.tup (vs.map aO)
 |v=>.b (aO v)
def VC:Option (Nat×Nat×V)->Option (Nat×Nat×BV)
 |some (i,j,v)=>some (i,j,aO v)
 |none=>none
def bC:Ob->AObj
 | .gone=>.gone
 | .free=>.free
 | .box t cs=>.box t (cs.map aO)
 | .vec e t xs=>.vec e t.sz (xs.map (aG t))
 | .map k e a b kvs=>.map k e (kvs.map λp=>(aG a p.1,aG b p.2))
 | .tree e k t xs h=>.tree e t.sz k (xs.map (aG t)) (VC h)
structure S where
 fr:List (Nat×V)
 hp:List Ob
def enc(s:S):St:=⟨s.fr.map λx=>(x.1,aS x.2),s.hp.map bC⟩
def lk:List (Nat×V)->Nat->Option V
 |[],_=>none
 |(k,a)::l,t=>bif c_ t k then some a else lk l t
def S.put(s:S)(d:Nat)(v:V):S:=⟨(d,v)::s.fr,s.hp⟩
def S.putO(s:S)(d:Option Nat)(v:V):S:=match d with
 |some d=>s.put d v
 |none=>s
def bP(t u:Ty)(x:t.den):Option u.den:=if h:t=u then some (h▸x)else none
def aK{R:Type}(b:Bool)(x:Option R):Option R:=bif b then x else none
def bF{α:Type}(xs:List α)(i:Int):Option α:=bif decide (0<=i)then xs[i.toNat]? else none
def rxFields:Ty:=.pair (.int .i64) (.pair (.int .i64) (.pair (.int .i64) (.pair (.list .rx) .unit)))
def Rx.out:Rx->rxFields.den
 | .mk k l h ks=>(k,l,h,ks,())
def rm:(t:Ty)->(off:Nat)->(u:Ty)->t.den->Option u.den
 | .pair a b,off,u,x=>bif (decide (Ty.pair a b=u)&&c_ off 0)then bP (.pair a b) u x else bif l_ (off+1) a.sz then rm a off u x.1 else rm b (off - a.sz) u x.2
 | .rx,off,u,x=>match off with
  |0=>bif decide (u= .rx)then bP .rx u x else bP (.int .i64) u x.out.1
  |1=>bP (.int .i64) u x.out.2.1
  |2=>bP (.int .i64) u x.out.2.2.1
  |3=>bP (.list .rx) u x.out.2.2.2.1
  |_=>none
 |t,off,u,x=>bif c_ off 0 then bP t u x else none
def lG:(t:Ty)->(off:Nat)->(u:Ty)->t.den->u.den->Option t.den
 | .pair a b,off,u,x,y=>bif (decide (Ty.pair a b=u)&&c_ off 0)then bP u (.pair a b) y else bif l_ (off+1) a.sz then(match lG a off u x.1 y with|some z=>some (z,x.2)|none=>none)else(match lG b (off - a.sz) u x.2 y with|some z=>some (x.1,z)|none=>none)
 | .rx,off,u,x,y=>bif c_ off 0&&decide (u= .rx)then bP u .rx y else none
 |t,off,u,_,y=>bif c_ off 0 then bP u t y else none
def fY:(t:Ty)->t.den->List V
 | .unit,_=>[]
 | .pair a b,x=>fY a x.1++fY b x.2
 | .rx,x=>[.d (.int .i64) x.out.1,.d (.int .i64) x.out.2.1,.d (.int .i64) x.out.2.2.1,.d (.list .rx) x.out.2.2.2.1]
 |t,x=>[.d t x]
def iy(u:Ty):V->Option u.den
 | .d t x=>bP t u x
 | .nil t=>bP (.list t) u ([]:List t.den)
 | .full t x=>bP (.list t) u x
 |_=>none
def NT:(t:Ty)->List V->Option (t.den×List V)
 | .unit,l=>some ((),l)
 | .pair a b,l=>match NT a l with
  |some (x,l)=>match NT b l with
   |some (y,l)=>some ((x,y),l)
   |none=>none
  |none=>none
 | .rx,l=>match l with
  |a::b::c::e::l=>match iy (.int .i64) a,iy (.int .i64) b,iy (.int .i64) c,iy (.list .rx) e with
   |some a,some b,some c,some e=>some (.mk a b c e,l)
   |_,_,_,_=>none
  |_=>none
 |t,l=>match l with
  |v::l=>match iy t v with
   |some x=>some (x,l)
   |none=>none
  |[]=>none
def cG(t:Ty)(v:V):Option t.den:=match v with
 | .agg vs=>match t.ag with
  |true=>match NT t vs with
   |some (x,[])=>some x
   |_=>none
  |false=>none
 |v=>iy t v
def cn:V->List V
 | .d t x=>fY t x
 | .agg vs=>vs
 |v=>[v]
def whole(t:Ty)(cs:List V):V:=match t.ag with
 |true=>.agg cs
 |false=>match cs.headD default with
  | .agg _=>.any
  | .tup _=>.any
  |v=>v
def V.cellB:V->Bool
 | .d t _=> !t.ag
 | .agg _=>false
 | .tup _=>false
 | .any=>false
 | .lit _ _ _=>false
 | .raw v=>v.oneCell'
 |_=>true
def V.okB:V->Bool
 | .d _ _=>true
 | .agg vs=>vs.all V.cellB
 | .tup _=>false
 |v=>v.cellB
def V.cellD:V->Bool
 | .d _ _=>true
 | .nil _=>true
 | .full _ _=>true
 |_=>false
def oR:(t:Ty)->t.den->t.den->Bool
 | .int _,x,y=>x==y
 | .bool,x,y=>x==y
 | .str,x,y=>x==y
 | .unit,_,_=>true
 | .pair a b,x,y=>oR a x.1 y.1&&oR b x.2 y.2
 |_,_,_=>false
def Ty.eqOk:Ty->Bool
 | .int _=>true
 | .bool=>true
 | .str=>true
 | .unit=>true
 | .pair a b=>a.eqOk&&b.eqOk
 |_=>false
def oX(a b:Ty):List (a.den×b.den)->a.den->Option b.den
 |[],_=>none
 |(k,v)::l,x=>bif oR a x k then some v else oX a b l x
def Aa(a b:Ty):List (a.den×b.den)->a.den->b.den->List (a.den×b.den)
 |[],x,y=>[(x,y)]
 |(k,v)::l,x,y=>bif oR a x k then(x,y)::l else(k,v)::Aa a b l x y
def Ty.zero:(t:Ty)->t.den
 | .int _=>(0:Int)
 | .bool=>false
 | .str=>[]
 | .list _=>[]
 | .unit=>()
 | .pair a b=>(a.zero,b.zero)
 | .rx=>.mk 0 0 0 []
def Ty.flat:Ty->Bool
 | .list _=>false
 | .rx=>false
 | .pair a b=>a.flat&&b.flat
 |_=>true
inductive X where
 |tm (k:Nat)
 |k (t:Ty) (x:t.den)
 |nil (t:Ty)
 |ag (vs:List V)
 |f (n:Nat)
 |raw (v:Value)
 deriving Inhabited
def S.get(s:S):X->Option V
 | .tm k=>lk s.fr k
 | .k t x=>some (.d t x)
 | .nil t=>some (.nil t)
 | .ag vs=>some (.agg vs)
 | .f n=>some (.fnD n [])
 | .raw v=>some (.raw v)
inductive Slot where
 |tm (k:Nat) (t:Ty)
 |cell (id j:Nat) (t:Ty)
 |vec (id:Nat) (e:TypeId) (t:Ty)
 |map (id:Nat) (k e:TypeId) (a b:Ty)
 |tree (id:Nat) (e:TypeId) (k:K) (t:Ty)
 |treeH (id:Nat) (e:TypeId) (k:K) (t:Ty) (j kid:Nat)
@[reducible] def Slot.ty:Slot->Ty
 | .tm _ t=>t
 | .cell _ _ t=>t
 | .vec _ _ t=>.list t
 | .map _ _ _ a b=>.list (.pair a b)
 | .tree _ _ _ t=>.list t
 | .treeH _ _ _ t _ _=>.pair (.list t) (.int .i64)
@[reducible] def HL:List Slot->Type
 |[]=>Unit
 |s::l=>s.ty.den×HL l
structure Sh where
 keep:List Nat
 sk:S
 sl:List Slot
def V.isD:V->Bool
 | .d _ _=>true
 | .dp _ _=>true
 | .fnD _ _=>true
 |_=>false
def cV(fr:List (Nat×V)):List Nat->List (Nat×V)
 |[]=>[]
 |k::l=>match lk fr k with
  |some v=>bif v.isD then(k,v)::cV fr l else cV fr l
  |none=>cV fr l
def Q5(fr:List (Nat×V))(k:Nat):Bool:=match lk fr k with
 |some v=>v.isD
 |none=>false
def Sh.base(sh:Sh)(s:S):S:=⟨cV s.fr sh.keep++sh.sk.fr,sh.sk.hp⟩
def setAt{α:Type}:List α->Nat->α->List α
 |[],_,_=>[]
 |_::l,0,y=>y::l
 |x::l,n+1,y=>x::setAt l n y
def setCell(hp:List Ob)(id j:Nat)(v:V):List Ob:=match hp[id]? with
 |some (.box t cs)=>setAt hp id (.box t (setAt cs j v))
 |_=>hp
def unpack:(sl:List Slot)->HL sl->S->S
 |[],_,s=>s
 | .tm k t::l,c,s=>unpack l c.2 ⟨(k,.d t c.1)::s.fr,s.hp⟩
 | .cell id j t::l,c,s=>unpack l c.2 ⟨s.fr,setCell s.hp id j (.d t c.1)⟩
 | .vec id e t::l,c,s=>unpack l c.2 ⟨s.fr,setAt s.hp id (.vec e t c.1)⟩
 | .map id k e a b::l,c,s=>unpack l c.2 ⟨s.fr,setAt s.hp id (.map k e a b c.1)⟩
 | .tree id e k t::l,c,s=>unpack l c.2 ⟨s.fr,setAt s.hp id (.tree e k t c.1 none)⟩
 | .treeH id e k t j kid::l,c,s=>unpack l c.2 ⟨s.fr,setAt s.hp id (.tree e k t c.1.1 (some (Int.toNat c.1.2,j,.sl kid)))⟩
def V.same:V->V->Bool
 | .sl i,.sl j=>c_ i j
 | .ptr i o,.ptr j p=>c_ i j&&c_ o p
 | .mp i,.mp j=>c_ i j
 | .clo f z,.clo g E=>c_ f g&&decide (z=E)
 | .nil t,.nil u=>decide (t=u)
 | .raw (.pointer none),.raw (.pointer none)=>true
 | .raw (.map none),.raw (.map none)=>true
 | .raw .nilFunc,.raw .nilFunc=>true
 | .raw .nilIface,.raw .nilIface=>true
 |_,_=>false
def kI:List V->List V->Bool
 |[],[]=>true
 | .any::l,_::m=>kI l m
 | .agg xs::l,.agg ys::m=>(xs.length==ys.length)&&kI l m
 |x::l,y::m=>V.same x y&&kI l m
 |_,_=>false
def Om:Ob->Ob->Bool
 | .gone,_=>true
 | .box t cs,.box u ds=>c_ t u&&kI cs ds
 | .vec e t _,.vec c g _=>c_ e c&&decide (t=g)
 | .map k e a b _,.map f c d l _=>c_ k f&&c_ e c&&decide (a=d)&&decide (b=l)
 | .tree e k t _ h,.tree c f g _ h'=>c_ e c&&decide (k=f)&&decide (t=g)&&(match h,h' with
  |none,none=>true
  |some (_,j,.sl a),some (_,n,.sl d)=>c_ j n&&c_ a d
  |_,_=>false)
 |_,_=>false
def BL:List Ob->List Ob->Bool
 |[],[]=>true
 |a::l,b::m=>Om a b&&BL l m
 |_,_=>false
def Er(fr:List (Nat×V)):List (Nat×V)->Bool
 |[]=>true
 |(k,v)::l=>(match lk fr k with|some w=>V.same v w|none=>false)&&Er fr l
def S.fits(sk s:S):Bool:=Er s.fr sk.fr&&BL sk.hp s.hp
def gB(s:S):(x:Slot)->Option x.ty.den
 | .tm k t=>match lk s.fr k with
  |some v=>cG t v
  |none=>none
 | .cell id j t=>match s.hp[id]? with
  |some (.box _ cs)=>match cs[j]? with
   |some v=>iy t v
   |none=>none
  |_=>none
 | .vec id _ t=>match s.hp[id]? with
  |some (.vec _ u xs)=>bP (.list u) (.list t) xs
  |_=>none
 | .map id _ _ a b=>match s.hp[id]? with
  |some (.map _ _ c d kvs)=>bP (.list (.pair c d)) (.list (.pair a b)) kvs
  |_=>none
 | .tree id _ _ t=>match s.hp[id]? with
  |some (.tree _ _ u xs none)=>bP (.list u) (.list t) xs
  |_=>none
 | .treeH id _ _ t _ _=>match s.hp[id]? with
  |some (.tree _ _ u xs (some (i,_,_)))=>match bP (.list u) (.list t) xs with
   |some xs=>some (xs,(i:Int))
   |none=>none
  |_=>none
def EH(s:S):(sl:List Slot)->Option (HL sl)
 |[]=>some ()
 |x::l=>match gB s x with
  |some c=>match EH s l with
   |some r=>some (c,r)
   |none=>none
  |none=>none
def pack(sh:Sh)(s:S):Option (HL sh.sl):=match S.fits sh.sk s&&sh.keep.all (Q5 s.fr)with
 |true=>EH s sh.sl
 |false=>none
def Ib(hp:List Ob):Slot->Bool
 | .vec id e t=>match hp[id]? with
  |some (.vec c g _)=>c_ e c&&decide (t=g)
  |_=>false
 | .map id k e a b=>match hp[id]? with
  |some (.map d c h l _)=>c_ k d&&c_ e c&&decide (a=h)&&decide (b=l)
  |_=>false
 | .tree id e k t=>match hp[id]? with
  |some (.tree c d g _ none)=>c_ e c&&decide (k=d)&&decide (t=g)
  |_=>false
 | .treeH id e k t j kid=>match hp[id]? with
  |some (.tree c d g _ (some (_,n,.sl f)))=>c_ e c&&decide (k=d)&&decide (t=g)&&c_ j n&&c_ kid f
  |_=>false
 |_=>true
def Tu(sl:List Slot):Nat->List Ob->Bool
 |_,[]=>true
 |i,o::l=>(match o with
  | .vec _ _ _=>sl.any λx=>match x with
   | .vec j _ _=>c_ j i
   |_=>false
  | .map _ _ _ _ _=>sl.any λx=>match x with
   | .map j _ _ _ _=>c_ j i
   |_=>false
  | .tree _ _ _ _ _=>sl.any λx=>match x with
   | .tree j _ _ _=>c_ j i
   | .treeH j _ _ _ _ _=>c_ j i
   |_=>false
  |_=>true)&&Tu sl (i+1) l
def Sh.wfB(sh:Sh):Bool:=sh.sl.all (Ib sh.sk.hp)&&Tu sh.sl 0 sh.sk.hp
@[reducible] def XT:List (Nat×Sh)->Type
 |[]=>Empty
 |[(_,sh)]=>HL sh.sl
 |(_,sh)::l=>HL sh.sl⊕XT l
def inj:(xs:List (Nat×Sh))->Nat->S->Option (XT xs)
 |[],_,_=>none
 |[(k,sh)],key,s=>bif c_ k key then pack sh s else none
 |(k,sh)::a::l,key,s=>bif c_ k key then(match pack sh s with|some c=>some (.inl c)|none=>none)else(match inj (a::l) key s with|some c=>some (.inr c)|none=>none)
def jt{R:Type}(s:S)(κ:Nat->S->Option R):(xs:List (Nat×Sh))->XT xs->Option R
 |[],_=>none
 |[(k,sh)],c=>κ k (unpack sh.sl c (sh.base s))
 |(k,sh)::a::l,c=>aL_ (λc=>κ k (unpack sh.sl c (sh.base s))) (λc=>jt s κ (a::l) c) c
inductive Adj where
 |freeze (id:Nat)
 |adopt (k:Nat) (e:TypeId) (t:Ty)
 |adoptC (id j:Nat) (e:TypeId) (t:Ty)
 |sel (ids:List Nat) (ks:List Nat)
 |drop (ks:List Nat)
 |focus (id k j:Nat) (u:Ty)
 |close (id:Nat)
 |adoptT (k:Nat) (e:TypeId) (kk:K) (t:Ty)
 |adoptCT (id j:Nat) (e:TypeId) (kk:K) (t:Ty)
def V.ren(ρ:Nat->Nat):V->V
 | .sl id=>.sl (ρ id)
 | .ptr id off=>.ptr (ρ id) off
 | .pel id off n t i=>.pel (ρ id) off n t i
 | .elt id i off=>.elt (ρ id) i off
 | .clo f ids=>.clo f (ids.map ρ)
 | .mp id=>.mp (ρ id)
 |x=>x
def V.ids1:V->List Nat
 | .sl id=>[id]
 | .ptr id _=>[id]
 | .pel id _ _ _ _=>[id]
 | .elt id _ _=>[id]
 | .clo _ ids=>ids
 | .mp id=>[id]
 |_=>[]
def mc(g:V->V):V->V
 | .agg vs=>.agg (vs.map g)
 | .tup vs=>.tup (vs.map g)
 |v=>g v
def VH(g:V->V):Option (Nat×Nat×V)->Option (Nat×Nat×V)
 |some (i,j,v)=>some (i,j,g v)
 |none=>none
def uT(g:V->V):Ob->Ob
 | .box t cs=>.box t (cs.map g)
 | .tree e k t xs h=>.tree e k t xs (VH g h)
 |o=>o
def V.ids:V->List Nat
 | .agg vs=>vs.flatMap V.ids1
 | .tup vs=>vs.flatMap V.ids1
 |v=>v.ids1
def V.kids1:V->List Nat
 | .sl id=>[id]
 | .elt id _ _=>[id]
 |_=>[]
def V.kids:V->List Nat
 | .agg vs=>vs.flatMap V.kids1
 | .tup vs=>vs.flatMap V.kids1
 |v=>v.kids1
def Ob.kids:Ob->List Nat
 | .box _ cs=>cs.flatMap V.kids1
 | .tree _ _ _ _ (some (_,_,v))=>v.kids1
 |_=>[]
def Ob.ids:Ob->List Nat
 | .box _ cs=>cs.flatMap V.ids1
 | .tree _ _ _ _ (some (_,_,v))=>v.ids1
 |_=>[]
def S.map(g:V->V)(s:S):S:=⟨s.fr.map λx=>(x.1,mc g x.2),s.hp.map (uT g)⟩
def V.kill1(id:Nat):V->V
 | .sl k=>bif c_ k id then .any else .sl k
 | .elt k i o=>bif c_ k id then .any else .elt k i o
 |v=>v
def S.moved(s:S)(id:Nat)(o:Ob):S:=⟨s.fr.map λx=>(x.1,mc (V.kill1 id) x.2),setAt (s.hp.map (uT (V.kill1 id))) id o⟩
def Lg(l:List Nat)(x:Nat):Nat:=l.idxOf x
def lQ(l:List Nat)(x:Nat):Bool:=l.any (c_ x)
def allIn(l m:List Nat):Bool:=m.all (lQ l)
def Qi(id:Nat)(t:Ty)(x:List t.den):V->V
 | .sl k=>bif c_ k id then .d (.list t) x else .sl k
 | .elt k i o=>bif c_ k id then .any else .elt k i o
 |v=>v
def vS(e:TypeId)(k:K)(u:Ty)(L:List u.den):Ob:=bif k.allF then .vec e u L else .tree e k u L none
def De(e:TypeId)(k:K)(u:Ty):Ob->Option (List u.den)
 | .vec a t xs=>bif k.allF&&c_ e a then bP (.list t) (.list u) xs else none
 | .tree a b t xs none=>bif !k.allF&&c_ e a&&decide (k=b)then bP (.list t) (.list u) xs else none
 |_=>none
def S8:Ty->Nat->Option Ty
 | .list u,0=>some u
 | .pair a b,off=>bif l_ (off+1) a.sz then S8 a off else S8 b (off - a.sz)
 |_,_=>none
def adj:Adj->S->Option S
 | .freeze id,s=>match s.hp[id]? with
  |some (.vec _ t xs)=>some (let s':=s.map (Qi id t xs);⟨s'.fr,setAt s'.hp id .gone⟩)
  |some (.tree _ _ t xs none)=>some (let s':=s.map (Qi id t xs);⟨s'.fr,setAt s'.hp id .gone⟩)
  |_=>none
 | .focus id k j u,s=>match lk s.fr k,s.hp[id]? with
  |some (.d (.int _) n),some (.tree e kk t xs none)=>match kk.at j with
   |some (b,a,c)=>bif c_ a u.sz&&decide (0<=n)then f_ xs[n.toNat]? λx=>(match rm t j (.list u) x with
    |some L=>some ⟨s.fr,setAt s.hp id (.tree e kk t xs (some (n.toNat,j,.sl s.hp.length)))++[vS b c u L]⟩
    |none=>none)else none
   |none=>none
  |_,_=>none
 | .close id,s=>match s.hp[id]? with
  |some (.tree e kk t xs (some (i,j,.sl kid)))=>bif c_ kid id then none else(match kk.at j,s.hp[kid]?,S8 t j with
   |some (b,a,c),some o,some u=>match De b c u o with
    |some L=>bif c_ a u.sz then f_ xs[i]? λx=>(match lG t j (.list u) x L with
     |some y=>some (let s':=s.moved kid .gone;⟨s'.fr,setAt s'.hp id (.tree e kk t (xs.set i y) none)⟩)
     |none=>none)else none
    |none=>none
   |_,_,_=>none)
  |_=>none
 | .adopt k e t,s=>match lk s.fr k with
  |some (.nil _)=>some ⟨(k,.sl s.hp.length)::s.fr,s.hp++[.vec e t []]⟩
  |_=>none
 | .adoptC id j e t,s=>match s.hp[id]? with
  |some (.box u cs)=>match cs[j]? with
   |some (.nil _)=>some ⟨s.fr,setAt s.hp id (.box u (setAt cs j (.sl s.hp.length)))++[.vec e t []]⟩
   |_=>none
  |_=>none
 | .adoptT k e kk t,s=>match lk s.fr k with
  |some (.nil _)=>some ⟨(k,.sl s.hp.length)::s.fr,s.hp++[.tree e kk t [] none]⟩
  |_=>none
 | .adoptCT id j e kk t,s=>match s.hp[id]? with
  |some (.box u cs)=>match cs[j]? with
   |some (.nil _)=>some ⟨s.fr,setAt s.hp id (.box u (setAt cs j (.sl s.hp.length)))++[.tree e kk t [] none]⟩
   |_=>none
  |_=>none
 | .sel ids ks,s=>match ids.mapM (λi=>s.hp[i]?),ks.mapM (λk=>(lk s.fr k).map λv=>(k,v))with
  |some os,some fr=>bif decide ids.Nodup&&os.all (λo=>allIn ids o.ids)&&fr.all (λx=>allIn ids x.2.ids)then
   some ⟨fr.map λx=>(x.1,mc (V.ren (Lg ids)) x.2),os.map (uT (V.ren (Lg ids)))⟩else none
  |_,_=>none
 | .drop ks,s=>some ⟨s.fr.filter λx=> !lQ ks x.1,s.hp⟩
def QC:List Adj->S->Option S
 |[],s=>some s
 |a::l,s=>match adj a s with
  |some s=>QC l s
  |none=>none
def QB{R:Type}:Adj->S->(S->Option R)->Option R
 | .focus id k j u,s,κ=>match lk s.fr k,s.hp[id]? with
  |some (.d (.int _) n),some (.tree e kk t xs none)=>match kk.at j with
   |some (c,b,d)=>bif c_ b u.sz then aK (decide (0<=n)) (f_ xs[n.toNat]? λx=>(match rm t j (.list u) x with
    |some L=>κ ⟨s.fr,setAt s.hp id (.tree e kk t xs (some (n.toNat,j,.sl s.hp.length)))++[vS c d u L]⟩
    |none=>none))else none
   |none=>none
  |_,_=>none
 | .close id,s,κ=>match s.hp[id]? with
  |some (.tree e kk t xs (some (i,j,.sl kid)))=>bif c_ kid id then none else(match kk.at j,s.hp[kid]?,S8 t j with
   |some (c,b,d),some o,some u=>match De c d u o with
    |some L=>bif c_ b u.sz then f_ xs[i]? λx=>(match lG t j (.list u) x L with
     |some y=>κ (let s':=s.moved kid .gone;⟨s'.fr,setAt s'.hp id (.tree e kk t (xs.set i y) none)⟩)
     |none=>none)else none
    |none=>none
   |_,_,_=>none)
  |_=>none
 |a,s,κ=>match adj a s with
  |some s=>κ s
  |none=>none
def w8{R:Type}:List Adj->S->(S->Option R)->Option R
 |[],s,κ=>κ s
 |a::l,s,κ=>QB a s λs=>w8 l s κ
inductive Arg where
 |d (t:Ty)
 |x
inductive TOp where
 |mv (x:X)
 |pick (c a b:X)
 |bin (op:BinOp) (x y:X)
 |eqB (neg:Bool) (x y:X)
 |eqT (neg:Bool) (tid:TypeId) (t:Ty) (x y:X)
 |un (op:UnOp) (x:X)
 |len (str:Bool) (x:X)
 |lenM (k e:TypeId) (x:X)
 |idxS (x i:X)
 |idxV (n:Nat) (t:Ty) (x i:X)
 |idxA (t:Ty) (x i:X)
 |idxP (n:Nat) (t:Ty) (x i:X)
 |fldA (off:Nat) (t:Ty) (x:X)
 |fld (off:Nat) (t:Ty) (x:X)
 |load (t:Ty) (x:X)
 |store (t:Ty) (x v:X)
 |alloc (tid:TypeId) (zero:List V)
 |box (tid:TypeId) (x:X)
 |boxD (tid:TypeId) (t:Ty) (x:X)
 |build (zero:List V) (parts:List (Nat×Nat×X))
 |bslice (own:Bool) (tid:TypeId) (t:Ty) (len:Nat) (parts:List X)
 |mslice (tid:TypeId) (t:Ty) (bytes:Nat) (l c:X)
 |append (tid:TypeId) (t:Ty) (bytes:Nat) (x y:X)
 |cvtI (k:IntKind) (x:X)
 |slc (full:Bool) (t:Ty) (x:X) (lo hi mx:Option X)
 |slcS (x:X) (lo hi:Option X)
 |ext (x:X) (i:Nat)
 |nilc (x:X)
 |call (bor:Bool) (f:FuncId) (args:List (Arg×X)) (sh:Sh)
 |callA (pan bor:Bool) (B:List Nat) (f:FuncId) (args:List (Arg×X)) (sh:Sh)
 |callv (pan bor:Bool) (B:List Nat) (num:Nat) (x:X) (args:List (Arg×X)) (sh:Sh)
 |b2s (x:X)
 |mkfn (f:FuncId) (caps:List X)
 |mkmap (k e:TypeId) (a b:Ty)
 |lookup (k e:TypeId) (ok:Bool) (a b:Ty) (m x:X)
 |mapset (k e:TypeId) (a b:Ty) (m x v:X)
 |copy (tid:TypeId) (t:Ty) (x y:X)
 |mnmx (mx:Bool) (k:IntKind) (x:X) (ys:List X)
 |panic (x:X)
 |iface (tid:TypeId) (x:X)
 |bsliceF (tid:TypeId) (t:Ty) (len:Nat) (parts:List X)
 |appD (tid:TypeId) (t:Ty) (bytes:Nat) (x y:X)
 |bsliceN (tid:TypeId) (k:K) (t:Ty) (len:Nat) (parts:List X)
 |msliceT (tid:TypeId) (k:K) (u:Ty) (bytes:Nat) (l c:X)
 |appT (tid:TypeId) (k:K) (t:Ty) (bytes:Nat) (x y:X)
 |callp (bor:Bool) (num:Nat) (x:X) (args:List (Arg×X)) (sh:Sh)
 |atq(k:Nat) (op:TOp)
abbrev ak:=FuncId->List V->List Ob->Option (Option S)
section
variable {R:Type}
def S2(op:BinOp)(k c:IntKind)(a b:Int)(κ:V->Option R):Option R:=
 match op with
 | .shl=>aK (decide (0<=b)) (κ (.d (.int k) (k.wrap (a*2^(min b.toNat k.bits)))))
 | .shr=>aK (decide (0<=b)) (κ (.d (.int k) (a.fdiv (2^(min b.toNat k.bits)))))
 |op=>bif decide (k=c)then(match op with
  | .add=>κ (.d (.int k) (k.wrap (a+b)))
  | .sub=>κ (.d (.int k) (k.wrap (a - b)))
  | .mul=>κ (.d (.int k) (k.wrap (a*b)))
  | .quo=>aK (b != 0) (κ (.d (.int k) (k.wrap (a.tdiv b))))
  | .rem=>aK (b != 0) (κ (.d (.int k) (a.tmod b)))
  | .and=>κ (.d (.int k) (oN k .and a b))
  | .or=>κ (.d (.int k) (oN k .or a b))
  | .xor=>κ (.d (.int k) (oN k .xor a b))
  | .andNot=>κ (.d (.int k) (oN k .andNot a b))
  | .eql=>κ (.d .bool (a==b))
  | .neq=>κ (.d .bool (a != b))
  | .lss=>κ (.d .bool (decide (a<b)))
  | .leq=>κ (.d .bool (decide (a<=b)))
  | .gtr=>κ (.d .bool (decide (a>b)))
  | .geq=>κ (.d .bool (decide (a>=b)))
  |_=>none)else none
def S3(op:BinOp)(a b:List UInt8)(κ:V->Option R):Option R:=
 match op with
 | .add=>aK (decide (a.length+b.length<=9223372036854775807)) (κ (.d .str (a++b)))
 | .eql=>κ (.d .bool (a==b))
 | .neq=>κ (.d .bool (!(a==b)))
 | .lss=>κ (.d .bool (Op.bytesLess a b))
 | .leq=>κ (.d .bool (Op.bytesLess a b||a==b))
 | .gtr=>κ (.d .bool (!(Op.bytesLess a b||a==b)))
 | .geq=>κ (.d .bool (!(Op.bytesLess a b)))
 |_=>none
def intOf(v:Option V)(κ:Int->Option R):Option R:=match v with
 |some (.d (.int _) n)=>κ n
 |_=>none
def qP(hp:List Ob)(t:Ty)(v:Option V)(κ:List t.den->Option R):Option R:=match v with
 |some (.sl id)=>match hp[id]? with
  |some (.vec _ u xs)=>match bP (.list u) (.list t) xs with
   |some xs=>κ xs
   |none=>none
  |_=>none
 |some v=>match iy (.list t) v with
  |some xs=>κ xs
  |none=>none
 |none=>none
def xc(s:S)(x:Option X)(a:Nat)(κ:Nat->Option R):Option R:=match x with
 |none=>κ a
 |some x=>intOf (s.get x) λn=>aK (decide (0<=n)) (κ n.toNat)
def rowAt(t:Ty):Nat->V->Int->Option t.den
 |n+1,.d (.pair a b) x,m=>match bP a t x.1 with
  |some y=>bif decide (m=0)then some y else rowAt t n (.d b x.2) (m - 1)
  |none=>none
 |n+1,.agg vs,m=>match NT t vs with
  |some (x,l)=>bif decide (m=0)then some x else rowAt t n (.agg l) (m - 1)
  |none=>none
 |_,_,_=>none
def yg(t:Ty)(y:t.den):Nat->List V->Int->Option (List V)
 |n+1,vs,m=>match NT t vs with
  |some (x,l)=>match yg t y n l (m - 1)with
   |some r=>some (fY t (bif decide (m=0)then y else x)++r)
   |none=>none
  |none=>none
 |0,vs,_=>some vs
def loadT(hp:List Ob)(t:Ty)(v:Option V)(κ:V->Option R):Option R:=match v with
 |some (.dp u x)=>match bP u t x with
  |some x=>κ (.d t x)
  |none=>none
 |some (.ptr id off)=>match hp[id]? with
  |some (.box _ cs)=>bif l_ (off+t.sz) cs.length then κ (whole t ((cs.drop off).take t.sz))else none
  |_=>none
 |some (.pel id off n u m)=>match hp[id]? with
  |some (.box _ cs)=>bif l_ (off+n*u.sz) cs.length&&decide (u=t)then f_ (rowAt t n (.agg ((cs.drop off).take (n*u.sz))) m) λx=>κ (.d t x)else none
  |_=>none
 |some (.elt id i off)=>match hp[id]? with
  |some (.vec _ u xs)=>bif decide (u=t)|| !c_ t.sz u.sz then f_ xs[i]? λx=>(match rm u off t x with
   |some y=>κ (.d t y)
   |none=>none)else none
  |some (.tree _ k u xs hole)=>bif k.flatB off t.sz then f_ xs[i]? λx=>(match rm u off t x with
   |some y=>κ (.d t y)
   |none=>none)else(match hole with
    |some (a,b,v)=>bif c_ b off&& !t.ag&&l_ (off+1) u.sz&&(match v with| .sl _=>true|_=>false)then f_ xs[i]? λ_=>aK (c_ a i) (κ v)else none
    |none=>none)
  |_=>none
 |_=>none
def i7(cs:List V)(off:Nat)(vs:List V):List V:=cs.take off++vs++cs.drop (off+vs.length)
def storeT(s:S)(t:Ty)(a:Option V)(v:Option V)(κ:S->Option R):Option R:=match a,v with
 |some (.ptr id off),some v=>match s.hp[id]? with
  |some (.box tid cs)=>bif c_ (cn v).length t.sz&&l_ (off+t.sz) cs.length&&v.okB then κ ⟨s.fr,setAt s.hp id (.box tid (i7 cs off (cn v)))⟩else none
  |_=>none
 |some (.pel id off n u m),some v=>match s.hp[id]?,cG t v with
  |some (.box tid cs),some y=>bif l_ (off+n*u.sz) cs.length&&decide (u=t)&&l_ 1 t.sz then(match yg t y n ((cs.drop off).take (n*u.sz)) m with
   |some vs=>aK (decide (0<=m)&&decide (m<n)) (κ ⟨s.fr,setAt s.hp id (.box tid (i7 cs off vs))⟩)
   |none=>none)else none
  |_,_=>none
 |some (.elt id i off),some v=>match s.hp[id]?,cG t v with
  |some (.vec e u xs),some y=>bif decide (u=t)|| !c_ t.sz u.sz then f_ xs[i]? λx=>(match lG u off t x y with
   |some z=>κ ⟨s.fr,setAt s.hp id (.vec e u (xs.set i z))⟩
   |none=>none)else none
  |some (.tree e k u xs hole),some y=>bif k.flatB off t.sz&&u.ag then f_ xs[i]? λx=>(match lG u off t x y with
   |some z=>κ ⟨s.fr,setAt s.hp id (.tree e k u (xs.set i z) hole)⟩
   |none=>none)else none
  |some (.tree e k u xs (some (b,c,_))),none=>(match v with
   | .sl kid=>bif c_ c off&&c_ t.sz 1&&l_ (off+1) u.sz then f_ xs[i]? λ_=>aK (c_ b i) (κ ⟨s.fr,setAt s.hp id (.tree e k u xs (some (b,c,.sl kid)))⟩)else none
   |_=>none)
  |_,_=>none
 |_,_=>none
def V.isRef:V->Bool
 | .sl _=>true
 | .ptr _ _=>true
 | .pel _ _ _ _ _=>true
 | .elt _ _ _=>true
 | .clo _ _=>true
 | .mp _=>true
 |_=>false
def Hj(s:S)(bor:Bool)(B:List Nat)(a:Arg×X):Option V:=match a.1,s.get a.2 with
 | .d (.list t),some (.sl id)=>bif bor&& !lQ B id then(match s.hp[id]? with
  |some (.vec _ u xs)=>match bP (.list u) (.list t) xs with
   |some xs=>some (.d (.list t) xs)
   |none=>none
  |some (.tree _ _ u xs none)=>match bP (.list u) (.list t) xs with
   |some xs=>some (.d (.list t) xs)
   |none=>none
  |_=>none)else none
 | .d t,some v=>match cG t v with
  |some x=>some (.d t x)
  |none=>none
 | .x,some v=>match v with
  | .d _ _=>none
  | .nil _=>none
  | .full _ _=>none
  | .raw (.slice _ _ _)=>none
  | .agg vs=>bif vs.any V.isRef then some (.agg vs)else none
  |v=>some v
 |_,none=>none
def qK(s:S)(bor:Bool)(B:List Nat):List (Arg×X)->Option (List V)
 |[]=>some []
 |a::l=>match Hj s bor B a with
  |some v=>match qK s bor B l with
   |some vs=>some (v::vs)
   |none=>none
  |none=>none
def UI(hp:List Ob):V->V
 | .sl id=>match hp[id]? with
  |some (.vec _ u xs)=>.d (.list u) xs
  |some (.tree _ _ u xs none)=>.d (.list u) xs
  |_=>.sl id
 |v=>v
def Uz(s:S)(bor:Bool)(a:Arg×X):Option V:=match Hj s bor [] a with
 |some v=>some v
 |none=>match a.1,s.get a.2 with
  | .d t,some (.agg vs)=>bif bor then(match cG t (.agg (vs.map (UI s.hp)))with
   |some x=>some (.d t x)
   |none=>none)else none
  |_,_=>none
def Kw(s:S)(bor:Bool):List (Arg×X)->Option (List V)
 |[]=>some []
 |a::l=>match Uz s bor a with
  |some v=>match Kw s bor l with
   |some vs=>some (v::vs)
   |none=>none
  |none=>none
def ig:Ty->List Ty
 | .unit=>[]
 | .pair a b=>ig a++ig b
 | .rx=>[.int .i64,.int .i64,.int .i64,.list .rx]
 |t=>[t]
def flatK:K->List Ty->Bool
 | .e,a=>a.all Ty.flat
 | .f r,t::a=>t.flat&&flatK r a
 | .s _ sz sub r,.list u::a=>c_ sz u.sz&&flatK sub (ig u)&&flatK r a
 |_,_=>false
def Slot.flat:Slot->Bool
 | .tm _ t=>t.flat
 | .cell _ _ t=>t.flat
 | .vec _ _ t=>t.flat
 | .map _ _ _ a b=>a.flat&&b.flat
 | .tree _ _ k t=>flatK k (ig t)
 | .treeH _ _ k t _ _=>flatK k (ig t)
def PT(fr:List (Nat×V))(n:Nat):List V:=(aj_ n).map λi=>(lk fr i).getD .any
def res(n:Nat)(fr:List (Nat×V)):V:=bif c_ n 1 then(lk fr 0).getD .any else .tup (PT fr n)
def V.isA:V->Bool
 | .agg _=>true
 | .tup _=>true
 |_=>false
def HR(n:Nat)(fr:List (Nat×V)):Bool:=c_ n 1||fr.all λx=> !x.2.isA
def Kz(B:List Nat)(n k:Nat):Nat:=bif l_ (k+1) B.length then B.getD k 0 else n+(k - B.length)
def sy(B:List Nat):V->V
 | .sl k=>bif lQ B k then .any else .sl k
 | .elt k i o=>bif lQ B k then .any else .elt k i o
 |v=>v
def NW(B:List Nat)(os:List Ob)(n:Nat):Nat->List Ob->List Ob
 |_,[]=>[]
 |i,o::l=>(bif lQ B i then uT (V.ren (Kz B n)) (os.getD (Lg B i) .gone)else uT (sy B) o)::NW B os n (i+1) l
def S.back(s:S)(B:List Nat)(os:List Ob):S:=
 ⟨s.fr.map λx=>(x.1,mc (sy B) x.2),NW B os s.hp.length 0 s.hp++(os.drop B.length).map (uT (V.ren (Kz B s.hp.length)))⟩
def Sh.n(sh:Sh):Nat:=(sh.sk.fr.length)+(sh.sl.filter λx=>match x with| .tm _ _=>true|_=>false).length
def aB(O:ak)(f:FuncId)(ars:List V)(os:List Ob)(sh:Sh):Option (HL sh.sl):=match O f ars os with
 |some (some s)=>bif c_ s.fr.length sh.n&&HR sh.n s.fr then pack sh s else none
 |_=>none
def gX(O:ak)(f:FuncId)(ars:List V)(os:List Ob)(sh:Sh):Option (Option (HL sh.sl)):=match O f ars os with
 |some (some s)=>bif c_ s.fr.length sh.n&&HR sh.n s.fr then(match pack sh s with|some c=>some (some c)|none=>none)else none
 |some none=>some none
 |none=>none
end
def V.isNil:V->Bool
 | .nil _=>true
 |_=>false
def V.isRaw:V->Bool
 | .raw _=>true
 |_=>false
def Rr(k:K)(v:V):Bool:=(match v with| .agg _=>true| .nil _=>true|_=>false)&&(aj_ (cn v).length).all λj=>(((cn v).getD j .any).isNil==(k.at j).isSome)&& !((cn v).getD j .any).isRaw
def UQ(k:K)(cs:List V):Bool:=(aj_ cs.length).all λj=>match k.at j with
 |some _=>(match cs.getD j .any with| .d (.list _) l=>l.isEmpty|_=>false)
 |none=>true
section
variable {R:Type}
def Bm(s:S)(d:Option Nat)(B:List Nat)(n:Nat)(sh:Sh)(κ:S->Option R)(c:HL sh.sl):Option R:=
 let r:=unpack sh.sl c (sh.base ⟨[],[]⟩)
 κ ((s.back B r.hp).putO d (mc (V.ren (Kz B s.hp.length)) (res n r.fr)))
def On(s:S)(B:List Nat):Option (List Ob):=match B with
 |[]=>some []
 |i::B=>match s.hp[i]? with
  |some o=>match On s B with
   |some os=>some (o::os)
   |none=>none
  |none=>none
def xU(pan:Bool)(O:ak)(s:S)(d:Option Nat)(bor:Bool)(B:List Nat)(f:FuncId)(ars:List V)(sh:Sh)(κ kp:S->Option R):Option R:=match On s B with
 |some os=>bif decide B.Nodup&&ars.all (λa=>allIn B a.ids)&&os.all (λo=>allIn B o.ids)&&(!bor||sh.sl.all Slot.flat)then
  (match pan with
  |false=>f_ (aB O f (ars.map (mc (V.ren (Lg B)))) (os.map (uT (V.ren (Lg B)))) sh) (Bm s d B sh.n sh κ)
  |true=>f_ (gX O f (ars.map (mc (V.ren (Lg B)))) (os.map (uT (V.ren (Lg B)))) sh) λo=>match o with
   |some c=>Bm s d B sh.n sh κ c
   |none=>kp (s.back B (os.map λ_=>.gone)))else none
 |none=>none
def evOp(O:ak)(d:Option Nat)(op:TOp)(s:S)(κ kp:S->Option R):Option R:=
 match op with
 | .mv x=>match s.get x with
  |some v=>κ (s.putO d v)
  |none=>none
 | .pick c a b=>match s.get c,s.get a,s.get b with
  |some (.d .bool c),some (.d t x),some (.d u y)=>match bP u t y with
   |some y=>κ (s.putO d (.d t (bif c then x else y)))
   |none=>none
  |some (.d .bool c),some (.raw _),some (.d u y)=>bif c then none else κ (s.putO d (.d u y))
  |some (.d .bool c),some (.d t x),some (.raw _)=>bif c then κ (s.putO d (.d t x))else none
  |_,_,_=>none
 | .bin op x y=>match s.get x,s.get y with
  |some (.d (.int k) a),some (.d (.int g) b)=>S2 op k g a b λv=>κ (s.putO d v)
  |some (.d .str a),some (.d .str b)=>S3 op a b λv=>κ (s.putO d v)
  |_,_=>none
 | .eqB neg x y=>match s.get x,s.get y with
  |some (.d .bool a),some (.d .bool b)=>κ (s.putO d (.d .bool (neg ^^ (a==b))))
  |_,_=>none
 | .eqT neg _ t x y=>match s.get x,s.get y with
  |some v,some u=>match cG t v,cG t u with
   |some a,some b=>bif t.eqOk then κ (s.putO d (.d .bool (neg ^^ oR t a b)))else none
   |_,_=>none
  |_,_=>none
 | .un op x=>match op,s.get x with
  | .not,some (.d .bool a)=>κ (s.putO d (.d .bool (!a)))
  | .neg,some (.d (.int k) a)=>κ (s.putO d (.d (.int k) (k.wrap (0 - a))))
  |_,_=>none
 | .len str x=>match str,s.get x with
  |true,some (.d .str a)=>κ (s.putO d (.d (.int .i64) a.length))
  |false,some (.d (.list _) a)=>κ (s.putO d (.d (.int .i64) a.length))
  |false,some (.nil _)=>κ (s.putO d (.d (.int .i64) 0))
  |false,some (.sl id)=>match s.hp[id]? with
   |some (.vec _ _ xs)=>κ (s.putO d (.d (.int .i64) xs.length))
   |some (.tree _ _ _ xs _)=>κ (s.putO d (.d (.int .i64) xs.length))
   |_=>none
  |_,_=>none
 | .lenM k e x=>match s.get x with
  |some (.mp id)=>match s.hp[id]? with
   |some (.map g r _ _ kvs)=>bif c_ k g&&c_ e r then κ (s.putO d (.d (.int .i64) kvs.length))else none
   |_=>none
  |_=>none
 | .idxS x i=>match s.get x with
  |some (.d .str a)=>intOf (s.get i) λn=>f_ (bF a n) λc=>κ (s.putO d (.d (.int .u8) c.toNat))
  |_=>none
 | .idxV n t x i=>match s.get x with
  |some v=>bif c_ (cn v).length (n*t.sz)&&(match v with| .agg vs=>vs.all V.cellD|_=>true)then intOf (s.get i) λm=>f_ (rowAt t n v m) λc=>κ (s.putO d (.d t c))else none
  |none=>none
 | .idxA t x i=>match s.get x with
  |some (.sl id)=>match s.hp[id]? with
   |some (.vec _ u xs)=>bif decide (u=t)then intOf (s.get i) λn=>f_ (bF xs n) λ_=>κ (s.putO d (.elt id n.toNat 0))else none
   |some (.tree _ _ u xs _)=>bif decide (u=t)then intOf (s.get i) λn=>f_ (bF xs n) λ_=>κ (s.putO d (.elt id n.toNat 0))else none
   |_=>none
  |some (.d (.list u) xs)=>match bP (.list u) (.list t) xs with
   |some xs=>intOf (s.get i) λn=>f_ (bF xs n) λx=>κ (s.putO d (.dp t x))
   |none=>none
  |_=>none
 | .idxP n t x i=>match s.get x,i with
  |some (.ptr id off),.k (.int _) m=>aK (decide (0<=m)&&decide (m<n)) (κ (s.putO d (.ptr id (off+m.toNat*t.sz))))
  |some (.ptr id off),i=>intOf (s.get i) λm=>aK (decide (0<=m)&&decide (m<n)) (κ (s.putO d (.pel id off n t m)))
  |some (.dp u y),i=>bif c_ u.sz (n*t.sz)&&u.ag then intOf (s.get i) λm=>f_ (rowAt t n (.d u y) m) λc=>κ (s.putO d (.dp t c))else none
  |_,_=>none
 | .fldA off t x=>match s.get x with
  |some (.dp u y)=>match rm u off t y with
   |some z=>κ (s.putO d (.dp t z))
   |none=>none
  |some (.ptr id o)=>κ (s.putO d (.ptr id (o+off)))
  |some (.elt id i o)=>κ (s.putO d (.elt id i (o+off)))
  |_=>none
 | .fld off t x=>match s.get x with
  |some (.d u y)=>bif u.ag then(match rm u off t y with
   |some z=>κ (s.putO d (.d t z))
   |none=>none)else none
  |some (.agg vs)=>bif l_ (off+t.sz) vs.length then κ (s.putO d (whole t ((vs.drop off).take t.sz)))else none
  |_=>none
 | .load t x=>loadT s.hp t (s.get x) λv=>κ (s.putO d v)
 | .store t x v=>match d with
  |none=>storeT s t (s.get x) (s.get v) κ
  |some _=>none
 | .alloc tid zero=>κ (S.putO ⟨s.fr,s.hp++[.box tid zero]⟩ d (.ptr s.hp.length 0))
 | .box tid x=>match s.get x with
  |some v=>bif v.okB then κ (S.putO ⟨s.fr,s.hp++[.box tid (cn v)]⟩ d (.ptr s.hp.length 0))else none
  |none=>none
 | .boxD _ t x=>match s.get x with
  |some (.full _ _)=>none
  |some v=>match cG t v with
   |some y=>κ (s.putO d (.dp t y))
   |none=>none
  |none=>none
 | .build zero parts=>buildT s zero parts λcs=>κ (s.putO d (.agg cs))
 | .bslice own tid t len parts=>bif c_ parts.length len&&l_ 1 t.sz&&l_ (len*t.sz) 16777216 then listT s t parts λxs=>(match own with
  |true=>κ (S.putO ⟨s.fr,s.hp++[.vec tid t xs]⟩ d (.sl s.hp.length))
  |false=>κ (s.putO d (.d (.list t) xs)))else none
 | .mslice tid t bytes l c=>bif l_ 1 t.sz then intOf (s.get l) λl=>intOf (s.get c) λc=>
  aK (decide (0<=l)&&decide (l<=c)&&decide (c<=9223372036854775807)&&decide (bytes*c<=281474976710656)) (κ (S.putO ⟨s.fr,s.hp++[.vec tid t (I_ l.toNat t.zero)]⟩ d (.sl s.hp.length)))else none
 | .append tid t bytes x y=>qP s.hp t (s.get y) λys=>match s.get x with
  |some (.sl id)=>match s.hp[id]? with
   |some (.vec e u xs)=>match bP (.list u) (.list t) xs with
    |some xs=>bif c_ e tid then aK (decide ((xs.length+ys.length)*bytes<=140737488355328)) (κ ((s.moved id (.vec e t (xs++ys))).putO d (.sl id)))else none
    |none=>none
   |_=>none
  |some (.nil _)=>aK (decide (ys.length*bytes<=140737488355328)) (κ (S.putO ⟨s.fr,s.hp++[.vec tid t ys]⟩ d (.sl s.hp.length)))
  |some (.full _ [])=>aK (decide (ys.length*bytes<=140737488355328)) (κ (S.putO ⟨s.fr,s.hp++[.vec tid t ys]⟩ d (.sl s.hp.length)))
  |_=>none
 | .cvtI k x=>match s.get x with
  |some (.d (.int _) n)=>κ (s.putO d (.d (.int k) (k.wrap n)))
  |_=>none
 | .slc full t x lo p mx=>match s.get x with
  |some (.sl id)=>match s.hp[id]? with
   |some (.tree _ _ u xs _)=>bif c_ u.sz t.sz&& !full then xc s lo 0 λl=>xc s p xs.length λh=>xc s mx xs.length λm=>
    bif !(mx.isSome&& !p.isSome)then aK (decide (l<=h)&&decide (h<=m)&&decide (m<=xs.length)) (aK (c_ h l) (κ (s.putO d (.d (.list t) []))))else none else none
   |_=>none
  |v=>qP s.hp t v λxs=>xc s lo 0 λl=>xc s p xs.length λh=>xc s mx xs.length λm=>
   bif !(mx.isSome&& !p.isSome)then aK (decide (l<=h)&&decide (h<=m)&&decide (m<=xs.length)) (match full with
    |false=>κ (s.putO d (.d (.list t) ((xs.take h).drop l)))
    |true=>aK (mx.isSome&&decide (h=m)) (κ (s.putO d (.full t ((xs.take h).drop l)))))else none
 | .slcS x lo p=>match s.get x with
  |some (.d .str a)=>xc s lo 0 λl=>xc s p a.length λh=>aK (decide (l<=h)&&decide (h<=a.length)) (κ (s.putO d (.d .str ((a.take h).drop l))))
  |_=>none
 | .ext x i=>match s.get x with
  |some (.tup vs)=>match vs[i]? with
   |some v=>bif (match v with| .agg _=>false| .tup _=>false|_=>true)then κ (s.putO d v)else none
   |none=>none
  |_=>none
 | .nilc x=>match s.get x with
  |some v=>(match v with
   | .dp _ _=>κ (s.putO d v)
   | .ptr _ _=>κ (s.putO d v)
   | .pel _ _ _ _ _=>κ (s.putO d v)
   | .elt _ _ _=>κ (s.putO d v)
   | .clo _ _=>κ (s.putO d v)
   | .fnD _ _=>κ (s.putO d v)
   |_=>none)
  |none=>none
 | .call bor f args sh=>match Kw s bor args with
  |some ars=>bif ars.all V.isD&&sh.sk.fr.isEmpty&&(!bor||sh.sl.all Slot.flat)then
   f_ (aB O f ars [] sh) λc=>κ (s.putO d (res sh.n (unpack sh.sl c (sh.base ⟨[],[]⟩)).fr))else none
  |none=>none
 | .callA pan bor B f args sh=>match qK s bor B args with
  |some ars=>xU pan O s d bor B f ars sh κ kp
  |none=>none
 | .callv pan bor B num x args sh=>match s.get x,qK s bor B args with
  |some (.clo f ids),some ars=>bif c_ (num%10000) f then xU pan O s d bor B num (ars++ids.map λi=>.ptr i 0) sh κ kp else none
  |some (.fnD f cs),some ars=>bif c_ (num%10000) f then xU pan O s d bor B num (ars++cs.map λc=>.dp c.1 c.2) sh κ kp else none
  |_,_=>none
 | .callp bor num x args sh=>match s.get x,qK s bor [] args with
  |some (.fnD f cs),some ars=>bif c_ (num%10000) f&&ars.all V.isD&&sh.sk.fr.isEmpty&&(!bor||sh.sl.all Slot.flat)then
   f_ (aB O num (ars++cs.map λc=>.dp c.1 c.2) [] sh) λc=>κ (s.putO d (res sh.n (unpack sh.sl c (sh.base ⟨[],[]⟩)).fr))else none
  |_,_=>none
 | .b2s x=>qP s.hp (.int .u8) (s.get x) λl=>κ (s.putO d (.d .str (l.map fun(n:Int)=>UInt8.ofNat n.toNat)))
 | .mkfn f caps=>match capsOf s caps with
  |some ids=>κ (s.putO d (.clo f ids))
  |none=>match capsD s caps with
   |some cs=>κ (s.putO d (.fnD f cs))
   |none=>none
 | .mkmap k e a b=>κ (S.putO ⟨s.fr,s.hp++[.map k e a b []]⟩ d (.mp s.hp.length))
 | .lookup k e ok a b m x=>match s.get m,s.get x with
  |some (.mp id),some v=>match s.hp[id]?,cG a v with
   |some (.map g r A C kvs),some y=>match bP (.list (.pair A C)) (.list (.pair a b)) kvs with
    |some kvs=>bif c_ k g&&c_ e r&&a.eqOk then(match ok with
     |true=>κ (s.putO d (.tup [.d b ((oX a b kvs y).getD b.zero),.d .bool (oX a b kvs y).isSome]))
     |false=>κ (s.putO d (.d b ((oX a b kvs y).getD b.zero))))else none
    |none=>none
   |_,_=>none
  |_,_=>none
 | .mapset k e a b m x v=>match d,s.get m,s.get x,s.get v with
  |none,some (.mp id),some u,some w=>match s.hp[id]?,cG a u,cG b w with
   |some (.map g r A C kvs),some y,some z=>match bP (.list (.pair A C)) (.list (.pair a b)) kvs with
    |some kvs=>bif c_ k g&&c_ e r&&a.eqOk&& !b.ag then aK (decide (kvs.length<maxLen)) (κ ⟨s.fr,setAt s.hp id (.map k e a b (Aa a b kvs y z))⟩)else none
    |none=>none
   |_,_,_=>none
  |_,_,_,_=>none
 | .copy tid t x y=>match s.get x,s.get y with
  |some (.sl id),some v=>bif (match v with| .sl j=> !c_ id j|_=>true)then(qP s.hp t (some v) λys=>match s.hp[id]? with
   |some (.vec e u xs)=>match bP (.list u) (.list t) xs with
    |some xs=>bif c_ e tid then κ (S.putO ⟨s.fr,setAt s.hp id (.vec e t (ys.take xs.length++xs.drop ys.length))⟩ d (.d (.int .i64) (min xs.length ys.length:Nat)))else none
    |none=>none
   |_=>none)else none
  |_,_=>none
 | .mnmx mx k x ys=>match s.get x with
  |some (.d (.int g) n)=>bif decide (g=k)then intsOf s k ys λD=>κ (s.putO d (.d (.int k) (D.foldl (fun(a b:Int)=>bif mx then max a b else min a b) n)))else none
  |_=>none
 | .panic x=>match s.get x with
  |some .ifc=>kp s
  |_=>none
 | .iface _ x=>match s.get x with
  |some _=>κ (s.putO d .ifc)
  |none=>none
 | .bsliceF _ t len parts=>bif c_ parts.length len&&l_ 1 t.sz&&l_ (len*t.sz) 16777216 then listT s t parts λxs=>κ (s.putO d (.full t xs))else none
 | .appD _ t bytes x y=>qP s.hp t (s.get y) λys=>match s.get x with
  |some (.nil _)=>aK (decide (ys.length*bytes<=140737488355328)) (κ (s.putO d (.d (.list t) ys)))
  |some (.full u xs)=>match bP (.list u) (.list t) xs with
   |some xs=>aK (decide ((xs.length+ys.length)*bytes<=140737488355328)) (κ (s.putO d (.d (.list t) (xs++ys))))
   |none=>none
  |_=>none
 | .bsliceN _ k t len parts=>bif c_ parts.length len&&l_ 1 t.sz&&l_ (len*t.sz) 16777216 then listN s k t parts λxs=>κ (s.putO d (.lit k t xs))else none
 | .msliceT tid k u bytes l c=>bif (k.at 0).isSome then intOf (s.get l) λl=>intOf (s.get c) λc=>
  aK (decide (0<=l)&&decide (l<=c)&&decide (c<=9223372036854775807)&&decide (bytes*c<=281474976710656)) (κ (S.putO ⟨s.fr,s.hp++[.tree tid k (.list u) (I_ l.toNat []) none]⟩ d (.sl s.hp.length)))else none
 | .appT tid k t bytes x y=>match s.get y with
  |some (.lit g u ys)=>bif decide (k=g)then(match bP (.list u) (.list t) ys with
   |some ys=>bif ys.all (λy=>UQ k (fY t y))then(match s.get x with
    |some (.sl id)=>match s.hp[id]? with
     |some (.tree e E F xs none)=>match bP (.list F) (.list t) xs with
      |some xs=>bif c_ e tid&&decide (k=E)then aK (decide ((xs.length+ys.length)*bytes<=140737488355328)) (κ ((s.moved id (.tree e k t (xs++ys) none)).putO d (.sl id)))else none
      |none=>none
     |_=>none
    |some (.nil _)=>aK (decide (ys.length*bytes<=140737488355328)) (κ (S.putO ⟨s.fr,s.hp++[.tree tid k t ys none]⟩ d (.sl s.hp.length)))
    |_=>none)else none
   |none=>none)else none
  |_=>none
 | .atq k op=>match s.hp[k]? with
  |some .free=>mkT s op λo v=>κ (S.putO ⟨s.fr,setAt s.hp k o⟩ d (v k))
  |_=>none
where
 mkT (s:S) (op:TOp) (κ:Ob->(Nat->V)->Option R):Option R:=match op with
  | .alloc tid zero=>κ (.box tid zero) λn=>.ptr n 0
  | .box tid x=>match s.get x with
   |some v=>bif v.okB then κ (.box tid (cn v)) (λn=>.ptr n 0)else none
   |none=>none
  | .bslice true tid t len parts=>bif c_ parts.length len&&l_ 1 t.sz&&l_ (len*t.sz) 16777216 then listT s t parts λxs=>κ (.vec tid t xs) .sl else none
  | .mslice tid t bytes l c=>bif l_ 1 t.sz then intOf (s.get l) λl=>intOf (s.get c) λc=>
   aK (decide (0<=l)&&decide (l<=c)&&decide (c<=9223372036854775807)&&decide (bytes*c<=281474976710656)) (κ (.vec tid t (I_ l.toNat t.zero)) .sl)else none
  | .append tid t bytes x y=>qP s.hp t (s.get y) λys=>match s.get x with
   |some (.nil _)=>aK (decide (ys.length*bytes<=140737488355328)) (κ (.vec tid t ys) .sl)
   |some (.full _ [])=>aK (decide (ys.length*bytes<=140737488355328)) (κ (.vec tid t ys) .sl)
   |_=>none
  | .mkmap k e a b=>κ (.map k e a b []) .mp
  |_=>none
 buildT (s:S) (cs:List V):List (Nat×Nat×X)->(List V->Option R)->Option R
  |[],κ=>κ cs
  |(off,sz,x)::l,κ=>match s.get x with
   |some v=>bif c_ (cn v).length sz&&l_ (off+sz) cs.length&&v.okB then buildT s (i7 cs off (cn v)) l κ else none
   |none=>none
 listT (s:S) (t:Ty):List X->(List t.den->Option R)->Option R
  |[],κ=>κ []
  |x::l,κ=>match s.get x with
   |some v=>match cG t v with
    |some y=>listT s t l λys=>κ (y::ys)
    |none=>none
   |none=>none
 listN (s:S) (k:K) (t:Ty):List X->(List t.den->Option R)->Option R
  |[],κ=>κ []
  |x::l,κ=>match s.get x with
   |some v=>match cG t v with
    |some y=>bif Rr k v then listN s k t l λys=>κ (y::ys)else none
    |none=>none
   |none=>none
 capsOf (s:S):List X->Option (List Nat)
  |[]=>some []
  |x::l=>match s.get x with
   |some (.ptr i 0)=>match capsOf s l with
    |some ids=>some (i::ids)
    |none=>none
   |_=>none
 capsD (s:S):List X->Option (List ((t:Ty)×t.den))
  |[]=>some []
  |x::l=>match s.get x with
   |some (.dp t y)=>match capsD s l with
    |some cs=>some (⟨t,y⟩::cs)
    |none=>none
   |_=>none
 intsOf (s:S) (k:IntKind):List X->(List Int->Option R)->Option R
  |[],κ=>κ []
  |x::l,κ=>match s.get x with
   |some (.d (.int g) n)=>bif decide (g=k)then intsOf s k l λD=>κ (n::D)else none
   |_=>none
inductive RC where
 |nil
 |op (d:Option Nat) (o:TOp) (rest:RC)
 |adj (l:List Adj) (rest:RC)
 |gb (t:Nat) (want:Bool) (blk:RC) (ty:Ty) (r alt:X) (dst:Nat) (rest:RC)
def RC.asg:RC->List Nat
 | .nil=>[]
 | .op d _ rest=>(match d with|some d=>[d]|none=>[])++rest.asg
 | .adj _ rest=>rest.asg
 | .gb _ _ blk _ _ _ dst rest=>blk.asg++dst::rest.asg
def C9(O:ak):(R:Type)->RC->S->(S->Option R)->(S->Option R)->Option R
 |_,.nil,s,κ,_=>κ s
 |R,.op d o rest,s,κ,kp=>evOp O d o s (λs'=>C9 O R rest s' κ kp) kp
 |R,.adj l rest,s,κ,kp=>w8 l s λs=>C9 O R rest s κ kp
 |R,.gb t want blk ty r alt dst rest,s,κ,kp=>match lk s.fr t,s.get alt with
  |some (.d .bool b),some a=>match(bif blk.asg.all (λk=>(lk s.fr k).isNone)then cG ty a else none)with
   |some alt=>f_ (match want with
    |true=>bif b then C9 O ty.den blk s (λs'=>match s'.get r with|some v=>cG ty v|none=>none) (λ_=>none)else some alt
    |false=>bif b then some alt else C9 O ty.den blk s (λs'=>match s'.get r with|some v=>cG ty v|none=>none) (λ_=>none))
    λc=>C9 O R rest (s.put dst (.d ty c)) κ kp
   |none=>none
  |_,_=>none
end
structure PO where
 j:Nat
 b:Bool
 us:List Nat
 rd:List Nat
 lent:List Nat
 d:Option Nat
 o:TOp
 g:Option (Nat×Bool)
def JQ(s:S)(rd lent:List Nat):List Nat:=(rd.flatMap λk=>match lk s.fr k with|some v=>v.ids|none=>[])++lent
def px(s:S)(p:PO):List Nat:=match p.b,p.o,p.g with
 |true,.mv _,none=>[]
 |_,_,_=>JQ s p.rd p.lent
def QP(r:Av.Rec)(T rd lent:List Nat)(d:Option Nat)(b:Bool):Bool:=
 (match r.d with
  |some t=> !lQ rd t&&(match d with|some u=> !c_ u t|none=>true)
  |none=>true)&&
 (match d with
  |some t=> !lQ r.rd t
  |none=>true)&&
 (match r.s with
  |some t=> !lQ T t
  |none=>true)&&
 (match b with
  |true=>lent.all λt=> !lQ r.F t
  |false=>r.s.isNone&&T.all λt=> !lQ r.G t)
def HC(s:S)(i:Nat):List Nat:=match s.hp[i]? with
 |some o=>o.kids
 |none=>[]
def EX:TOp->Option Nat
 | .atq k _=>some k
 |_=>none
def Oa(s:S)(d:Option Nat):List Nat:=match d with
 |some k=>(match lk s.fr k with
  |some v=>v.kids
  |none=>[])
 |none=>[]
def Nf(s s':S)(d:Option Nat)(T:List Nat):List Nat:=T++T.flatMap (HC s)++Oa s' d
def TJ(s s':S)(rd:List Nat)(d:Option Nat):List Nat:=(rd.flatMap λk=>match lk s.fr k with|some v=>v.kids|none=>[])++Oa s' d
structure RecV where
 r:Av.Rec
 ld:Option (Ty×Nat×Nat×V)
def M5(s s':S)(p:PO):Option (Ty×Nat×Nat×V):=match p.o,p.g,p.d with
 | .load t x,none,some d=>(match s.get x,lk s'.fr d with
  |some (.ptr id off),some v=>some (t,id,off,v)
  |_,_=>none)
 |_,_,_=>none
def LI(hp:List Ob)(t:Ty)(id off:Nat):Option V:=match hp[id]? with
 |some (.box _ cs)=>bif l_ (off+t.sz) cs.length then some (whole t ((cs.drop off).take t.sz))else none
 |_=>none
def Sk{R:Type}(k:Option R):V->V->Option R
 | .d t x,.d u y=>(match bP u t y with
  |some z=>bif t.eqOk then(bif oR t x z then k else none)else none
  |none=>none)
 | .ptr i o,.ptr j q=>bif c_ i j&&c_ o q then k else none
 |_,_=>none
def VT{R:Type}(T us:List Nat)(s':S)(k:Option R):List RecV->Option R
 |[]=>k
 |a::A=>bif !lQ us a.r.i||T.all (λt=> !lQ a.r.F t)then VT T us s' k A else(match a.ld with
  |some (t,id,off,v)=>(match LI s'.hp t id off with
   |some b=>bif (HC s' id).all (lQ a.r.F)then Sk (VT T us s' k A) v b else none
   |none=>none)
  |none=>none)
def PR{R:Type}(A:List RecV)(s s':S)(p:PO)(k:Option R):Option R:=bif p.b then k else VT (JQ s p.rd p.lent) p.us s' k A
def P5(s:S):TOp->Bool
 | .store _ x _=>(match s.get x with
  |some (.ptr _ _)=>true
  |some (.elt id _ _)=>(match s.hp[id]? with
   |some (.vec _ _ _)=>true
   |_=>false)
  |_=>false)
 |_=>true
def Bo(A:List RecV)(s:S)(p:PO):Bool:=A.all (λa=> !lQ p.us a.r.i||QP a.r (px s p) p.rd p.lent p.d p.b)&&(!p.b||(px s p).all λi=>Nat.blt i s.hp.length)&&P5 s p.o
def BO(A:List RecV)(s s':S)(p:PO):List RecV:=bif p.b then A++[⟨⟨p.j,p.d,p.rd,EX p.o,Nf s s' p.d (px s p),TJ s s' p.rd p.d⟩,M5 s s' p⟩]else A
def Pn{R:Type}(O:ak):List RecV->List PO->S->(S->Option R)->(S->Option R)->Option R
 |_,[],s,κ,_=>κ s
 |A,p::l,s,κ,kp=>match p.g with
  |none=>bif Bo A s p then evOp O p.d p.o s (λs'=>PR A s s' p (Pn O (BO A s s' p) l s' κ kp)) kp else none
  |some (t,want)=>match lk s.fr t with
   |some (.d .bool b)=>bif want==b
    then(bif Bo A (s.put t (.d .bool want)) p then evOp O p.d p.o (s.put t (.d .bool want)) (λs'=>PR A (s.put t (.d .bool want)) s' p (Pn O (BO A (s.put t (.d .bool want)) s' p) l s' κ kp)) kp else none)
    else(bif Bo A (s.put t (.d .bool (!want))) p then PR A (s.put t (.d .bool (!want))) ((s.put t (.d .bool (!want))).putO p.d (.raw Go.undef)) p (Pn O (BO A (s.put t (.d .bool (!want))) ((s.put t (.d .bool (!want))).putO p.d (.raw Go.undef)) p) l ((s.put t (.d .bool (!want))).putO p.d (.raw Go.undef)) κ kp)else none)
   |_=>none
def Qg{R:Type}(O:ak):List PO->S->(S->Option R)->(S->Option R)->Option R
 |[],s,κ,_=>κ s
 |p::l,s,κ,kp=>match p.g with
  |none=>evOp O p.d p.o s (λs'=>Qg O l s' κ kp) kp
  |some (t,want)=>match lk s.fr t with
   |some (.d .bool b)=>bif b
    then(match want with
     |true=>evOp O p.d p.o (s.put t (.d .bool true)) (λs'=>Qg O l s' κ kp) kp
     |false=>Qg O l ((s.put t (.d .bool true)).putO p.d (.raw Go.undef)) κ kp)
    else(match want with
     |true=>Qg O l ((s.put t (.d .bool false)).putO p.d (.raw Go.undef)) κ kp
     |false=>evOp O p.d p.o (s.put t (.d .bool false)) (λs'=>Qg O l s' κ kp) kp)
   |_=>none
inductive TC where
 |skip
 |region (ops:RC)
 |draw (k:Nat) (ops:RC) (af:List (List Nat))
 |draw2 (r:Nat) (pre:List PO) (tl:RC) (af:List (List Nat))
 |regL (pre:List PO)
 |seq (a b:TC)
 |cond (x:X) (a b:TC)
 |block (id:Nat) (a:TC)
 |loop (sh:Sh) (xs:List (Nat×Sh)) (a:TC)
 |exit (id:Nat)
 |ret
 |adj (l:List Adj) (a:TC)
 |after (a:TC) (l:List Adj)
 |cut (xs:List (Nat×Sh)) (a:TC)
def TC.asg:TC->List Nat
 | .region ops=>ops.asg
 | .draw _ ops _=>ops.asg
 | .regL pre=>pre.flatMap λp=>match p.d with|some d=>[d]|none=>[]
 | .draw2 _ pre tl _=>(pre.flatMap λp=>match p.d with|some d=>[d]|none=>[])++tl.asg
 | .seq a b=>a.asg++b.asg
 | .cond _ a b=>a.asg++b.asg
 | .block _ a=>a.asg
 | .loop _ _ a=>a.asg
 | .adj _ a=>a.asg
 | .after a _=>a.asg
 | .cut _ a=>a.asg
 |_=>[]
def TC.noD2:TC->Bool
 | .draw2 _ _ _ _=>false
 | .seq a b=>a.noD2&&b.noD2
 | .cond _ a b=>a.noD2&&b.noD2
 | .block _ a=>a.noD2
 | .loop _ _ a=>a.noD2
 | .adj _ a=>a.noD2
 | .after a _=>a.noD2
 | .cut _ a=>a.noD2
 |_=>true
def ow(A:List Nat)(fr:List (Nat×V))(k:Nat):Bool:=lQ A k||(match lk fr k with
 |some v=> !v.isD
 |none=>false)
def Slot.tmOk(A:List Nat)(fr:List (Nat×V)):Slot->Bool
 | .tm k _=>ow A fr k
 |_=>true
def Sh.okAt(sh:Sh)(A:List Nat)(s:S):Bool:=sh.keep.all (λk=> !lQ A k)&&sh.sl.all (Slot.tmOk A s.fr)&&sh.sk.fr.all (λx=>ow A s.fr x.1)
def a8{a b:Type}:Nat->(a->Option (a⊕b))->a->Option b
 |0,_,_=>none
 |n+1,f,s=>f_ (f s) (aL_ (λs'=>a8 n f s') some)
def CU(O:ak)(n:Nat):(R:Type)->TC->S->(kn:S->Option R)->(kx:Nat->S->Option R)->(kr kp:S->Option R)->Option R
 |_,.skip,s,kn,_,_,_=>kn s
 |R,.region ops,s,kn,_,_,kp=>C9 O R ops s kn kp
 |R,.draw _ ops _,s,kn,_,_,kp=>C9 O R ops s kn kp
 |_,.regL pre,s,kn,_,_,kp=>Qg O pre s kn kp
 |R,.draw2 r pre tl _,s,kn,_,_,kp=>Pn O [] pre ⟨s.fr,s.hp++I_ r .free⟩ (λs=>C9 O R tl s kn kp) kp
 |R,.seq a b,s,kn,kx,kr,kp=>CU O n R a s (λs=>CU O n R b s kn kx kr kp) kx kr kp
 |R,.cond x a b,s,kn,kx,kr,kp=>match s.get x with
  |some (.d .bool t)=>bif t then CU O n R a s kn kx kr kp else CU O n R b s kn kx kr kp
  |_=>none
 |R,.block id a,s,kn,kx,kr,kp=>CU O n R a s kn (λi s=>bif c_ i id then kn s else kx i s) kr kp
 |_,.exit id,s,_,kx,_,_=>kx id s
 |_,.ret,s,_,_,kr,_=>kr s
 |R,.adj l a,s,kn,kx,kr,kp=>w8 l s λs=>CU O n R a s kn kx kr kp
 |R,.cut xs a,s,kn,kx,kr,kp=>bif xs.all (λx=>x.2.okAt a.asg s)then
  f_ (CU O n (XT xs) a s (λs=>inj xs 0 s) (λi s=>inj xs (i+3) s) (λs=>inj xs 1 s) (λs=>inj xs 2 s))
   (jt s (λkey s=>match key with|0=>kn s|1=>kr s|2=>kp s|i+3=>kx i s) xs)else none
 |R,.loop sh xs a,s,kn,kx,kr,kp=>match pack sh s with
  |some c=>bif sh.okAt a.asg s&&xs.all (λx=>x.2.okAt a.asg s)then f_ (a8 n (λc=>CU O n (HL sh.sl⊕XT xs) a (unpack sh.sl c (sh.base s)) (λs=>match pack sh s with|some c=>some (.inl c)|none=>none)
   (λi s=>match inj xs (i+3) s with|some c=>some (.inr c)|none=>none) (λs=>match inj xs 1 s with|some c=>some (.inr c)|none=>none) (λs=>match inj xs 2 s with|some c=>some (.inr c)|none=>none)) c)
   (jt s (λkey s=>match key with|0=>kn s|1=>kr s|2=>kp s|i+3=>kx i s) xs)else none
  |none=>none
 |R,.after a l,s,kn,kx,kr,kp=>CU O n R a s (λs=>w8 l s kn) kx kr kp
inductive RX where
 |tm (t:Nat)
 |cell (a:Nat) (t:Ty)
structure TF where
 code:TC
 res:List RX
 ntmps:Nat
 sh:Sh
 m:Nat
def H1(s:S):List RX->Option (List V)
 |[]=>some []
 | .tm t::l=>match lk s.fr t with
  |some v=>match H1 s l with
   |some vs=>some (v::vs)
   |none=>none
  |none=>none
 | .cell a t::l=>match lk s.fr a with
  |some (.ptr id off)=>match s.hp[id]? with
   |some (.box _ cs)=>bif l_ (off+t.sz) cs.length then(match H1 s l with
    |some vs=>some (whole t ((cs.drop off).take t.sz)::vs)
    |none=>none)else none
   |_=>none
  |_=>none
def dh:Nat->List V->List (Nat×V)
 |_,[]=>[]
 |i,v::vs=>(i,v)::dh (i+1) vs
def gP(sh:Sh)(c:HL sh.sl):S:=unpack sh.sl c (sh.base ⟨[],[]⟩)
def aH(sh:Sh)(c:HL sh.sl):Option (Option S):=some (some (gP sh c))
def V.one:V->Bool
 | .agg vs=>vs.all V.cellD
 | .tup _=>false
 |_=>true
def Eo(c:TF)(s:S):Option (Option S):=match H1 s c.res with
 |some vs=>bif l_ c.sh.sk.hp.length s.hp.length&&(s.hp.take c.sh.sk.hp.length).all (λo=>o.ids.all λi=>l_ (i+1) c.sh.sk.hp.length)&&vs.all (λv=>v.ids.all λi=>l_ (i+1) c.sh.sk.hp.length)&&c_ c.sh.n vs.length&&(c_ vs.length 1||vs.all V.one)then
  (match pack c.sh ⟨dh 0 vs,s.hp.take c.sh.sk.hp.length⟩with
  |some x=>aH c.sh x
  |none=>none)else none
 |none=>none
def bp(O:ak)(n:Nat)(c:TF)(ars:List V)(os:List Ob):Option (Option S):=
 CU O n (Option S) c.code ⟨dh 0 ars,os⟩ (Eo c) (λ_ _=>none) (Eo c) (λ_=>some none)
structure TD where
 c:TF
 a:TC
 h:TC
 ta:Nat
 tb:Nat
 t8:Nat
def xy(s:S)(t i:Nat):Bool:=match lk s.fr t with
 |some (.ptr j o)=>c_ j i&&c_ o 0
 |_=>false
def Wa(s:S)(t:Nat):Bool:=match lk s.fr t with
 |some _=>false
 |none=>true
def Tc(d:TD)(s:S):Option (Option S):=Eo d.c ⟨[(d.ta,.ptr 0 0),(d.tb,.ptr 1 0)],s.hp⟩
def Pm(O:ak)(n:Nat)(d:TD)(ars:List V):Option (Option S):=
 CU O n (Option S) d.a ⟨dh 0 ars,[]⟩ (λs=>bif xy s d.ta 0&&xy s d.tb 1&&Wa s d.t8&&c_ s.hp.length 2 then
  CU O n (Option S) d.c.code s (Eo d.c) (λ_ _=>none) (Eo d.c) (λs=>bif xy s d.ta 0&&xy s d.tb 1 then
   CU O n (Option S) d.h ⟨[(0,.ptr 0 0),(1,.ptr 1 0)],s.hp⟩ (Tc d) (λ_ _=>none) (Tc d) (λ_=>none)else none)else none) (λ_ _=>none) (λ_=>none) (λ_=>none)
inductive Fun' where
 |code (c:TF)
 |dfr (d:TD)
 |nat (g:List V->Option S)
def qW(tbl:Nat->Option Fun'):Nat->ak
 |0=>λ_ _ _=>none
 |n+1=>λf ars os=>match tbl f with
  |some (.code c)=>bif c_ os.length c.m&&l_ ars.length c.ntmps then bp (qW tbl n) n c ars os else none
  |some (.dfr d)=>bif c_ os.length 0&&l_ ars.length d.c.ntmps then Pm (qW tbl n) n d ars else none
  |some (.nat g)=>(match os with
   |[]=>(match g ars with
    |some s=>some (some s)
    |none=>none)
   |_=>none)
  |none=>none
def BN{α R:Type}(o:Option α)(p:Option R)(k:α->Option R):Option R:=match o with
 |some c=>k c
 |none=>p
abbrev tI:Ty:=.int .i64
abbrev tW:Ty:=.int .u32
abbrev tQ:Ty:=.int .u64
abbrev tY:Ty:=.int .u8
abbrev tB:Ty:=.bool
abbrev tS:Ty:=.str
@[reducible] def pr:List Ty->Ty
 |[]=>.unit
 |t::l=>.pair t (pr l)
abbrev aC(t:Ty)(x:t.den):List PV:=(aG t x).cells
theorem aD:∀(t:Ty) (x:t.den),(aC t x).length=t.sz
 | .int _,_=>rfl
 | .bool,_=>rfl
 | .str,_=>rfl
 | .list t,x=>by cases h:x.map (aG t)<;>simp[aC,aG,h,mb,PV.cells,Ty.sz]
 | .unit,_=>rfl
 | .pair a b,x=>by have c:=aD a x.1;have d:=aD b x.2;simp only[aC,aG,PV.cells,x_,Ty.sz]at c d⊢;omega
 | .rx,.mk k l h ks=>rfl
theorem mD:∀(t:Ty) (x:t.den),(aG t x).isAgg=t.ag
 | .int _,_=>rfl
 | .bool,_=>rfl
 | .str,_=>rfl
 | .list t,x=>by cases h:x.map (aG t)<;>simp[aG,h,mb,PV.isAgg,Ty.ag]
 | .unit,_=>rfl
 | .pair a b,x=>rfl
 | .rx,.mk k l h ks=>rfl
theorem dI{t:Ty}(x:t.den)(h:t.ag=true):aG t x= .agg (aC t x):=by have:=mD t x;rw[h]at this;cases a:aG t x<;>rw[a]at this<;>simp[PV.isAgg]at this;simp[aC,a,PV.cells]
theorem dc{t:Ty}(x:t.den)(h:t.ag=false):aC t x=[aG t x]:=by have:=mD t x;rw[h]at this;cases a:aG t x<;>rw[a]at this<;>simp_all[aC,PV.cells,PV.isAgg]
theorem eA{t:Ty}(h:t.ag=false):t.sz=1:=by cases t<;>simp_all[Ty.ag,Ty.sz]
theorem bD{t u:Ty}{x:t.den}{y:u.den}(h:bP t u x=some y):∃e:t=u,y=e▸x:=by
 unfold bP at h;split at h;·rename_i e;exact⟨e,by simpa using h.symm⟩
 ·cases h
theorem bw{t u:Ty}{x:t.den}{y:u.den}(h:bP t u x=some y):aG u y=aG t x/\t=u:=by obtain⟨rfl,rfl⟩:=bD h;exact⟨rfl,rfl⟩
theorem Ek:∀(ks:List Rx),Ja ks=ks.map QS
 |[]=>rfl
 |k::ks=>by rw[Ja,Ek ks];rfl
theorem rA(r:Rx):aC .rx r=[aG (.int .i64) r.out.1,aG (.int .i64) r.out.2.1,aG (.int .i64) r.out.2.2.1,aG (.list .rx) r.out.2.2.2.1]:=by cases r with|mk k l h ks=>show [_,_,_,_]=[_,_,_,_];simp only[aG,Rx.out,Ek];rfl
theorem o9:∀(t:Ty) (off:Nat) (u:Ty) (x:t.den) (y:u.den),rm t off u x=some y->off+u.sz<=t.sz/\((aC t x).drop off).take u.sz=aC u y
 | .pair a b,off,u,x,y,h=>by
  have n:=aD a x.1
  have A:=aD b x.2
  have hc:aC (.pair a b) x=aC a x.1++aC b x.2:=rfl
  unfold rm at h
  cases d:(decide (Ty.pair a b=u)&&c_ off 0)
  ·rw[d]at h
   simp only[cond_false]at h
   cases f:l_ (off+1) a.sz
   ·rw[f]at h
    simp only[cond_false]at h
    have v:a.sz<=off:=by
     have:=Nat.not_le_of_not_ble_eq_true (by rw[f];simp)
     omega
    obtain⟨s,l⟩:=o9 b (off - a.sz) u x.2 y h
    refine⟨by simp only[Ty.sz];omega,?_⟩
    rw[hc,aq_,n,List.drop_eq_nil_of_le (by omega),ay_]
    exact l
   ·rw[f]at h
    simp only[cond_true]at h
    have B:=h_ f
    obtain⟨s,l⟩:=o9 a off u x.1 y h
    refine⟨by simp only[Ty.sz];omega,?_⟩
    rw[hc,L_ (by omega),v_ (by simp;omega)]
    exact l
  ·rw[d]at h
   simp only[cond_true]at h
   simp only[b_,decide_eq_true_eq]at d
   have j:off=0:=a_ d.2
   subst j
   obtain⟨e,rfl⟩:=bw h
   refine⟨by omega,?_⟩
   rw[G_,p_ (by rw[aD];exact z_ _)]
   simp only[aC,e]
 | .rx,off,u,x,y,h=>by
  have hc:=rA x
  have one:∀{t:Ty} {z:t.den},t.ag=false->bP t u z=some y->aC u y=[aG t z]/\u.sz=1:=fun{t z} p w=>by
   obtain⟨e,rfl⟩:=bw w
   exact⟨by rw[dc _ p,e],eA p⟩
  unfold rm at h
  split at h
  ·by_cases r:u= .rx
   ·subst r
    simp only[decide_true,cond_true]at h
    obtain⟨e,_⟩:=bw h
    refine⟨by simp[Ty.sz],?_⟩
    rw[G_,p_ (by rw[aD];exact z_ _)]
    simp only[aC,e]
   ·simp only[r,decide_false,cond_false]at h
    obtain⟨e,g⟩:=one rfl h
    rw[e,g,hc]
    exact⟨by simp[Ty.sz],rfl⟩
  ·obtain⟨e,g⟩:=one rfl h
   rw[e,g,hc]
   exact⟨by simp[Ty.sz],rfl⟩
  ·obtain⟨e,g⟩:=one rfl h
   rw[e,g,hc]
   exact⟨by simp[Ty.sz],rfl⟩
  ·obtain⟨e,g⟩:=one rfl h
   rw[e,g,hc]
   exact⟨by simp[Ty.sz],rfl⟩
  ·cases h
 | .int k,off,u,x,y,h=>c (.int k) off u x y h
 | .bool,off,u,x,y,h=>c .bool off u x y h
 | .str,off,u,x,y,h=>c .str off u x y h
 | .list t,off,u,x,y,h=>c (.list t) off u x y h
 | .unit,off,u,x,y,h=>c .unit off u x y h
where
 c (t:Ty) (off:Nat) (u:Ty) (x:t.den) (y:u.den) (h:(bif c_ off 0 then bP t u x else none)=some y):off+u.sz<=t.sz/\((aC t x).drop off).take u.sz=aC u y:=by
  cases j:c_ off 0
  ·rw[j]at h;cases h
  ·rw[j]at h
   simp only[cond_true]at h
   have:=a_ j
   subst this
   obtain⟨e,rfl⟩:=bw h
   refine⟨by omega,?_⟩
   rw[G_,p_ (by rw[aD];exact z_ _)]
   simp only[aC,e]
theorem Ah{t:Ty}{off:Nat}{u:Ty}{x:t.den}{y:u.den}(h:rm t off u x=some y):off+u.sz<=(aG t x).cells.length/\(u.ag=false->u.sz=1)/\(aG t x).sub off u.sz u.ag=aG u y:=by
 obtain⟨d,a⟩:=o9 t off u x y h;refine⟨by rw[aD];exact d,eA,?_⟩;cases c:u.ag
 ·have hs:=eA c;rw[hs,dc y c]at a;have b:off<(aC t x).length:=by rw[aD];omega
  rw[U_ b]at a;simp only[ag_,aD_,List.cons.injEq,and_true]at a;simp only[PV.sub,P_,Y_ b,w_];exact a
 ·simp only[PV.sub];rw[dI y c,<-a]
theorem cW:∀(t:Ty) (x:t.den),(fY t x).map aO=(aC t x).map BV.pv/\(fY t x).length=t.sz
 | .int _,_=>⟨rfl,rfl⟩
 | .bool,_=>⟨rfl,rfl⟩
 | .str,_=>⟨rfl,rfl⟩
 | .list t,x=>⟨by rw[dc (t:=.list t) x rfl];rfl,rfl⟩
 | .unit,_=>⟨rfl,rfl⟩
 | .pair a b,x=>by obtain⟨c,d⟩:=cW a x.1;obtain⟨e,f⟩:=cW b x.2;have hc:aC (.pair a b) x=aC a x.1++aC b x.2:=rfl;refine⟨?_,by simp only[fY,x_,d,f,Ty.sz]⟩;rw[hc];simp only[fY,C_,c,e]
 | .rx,x=>⟨by rw[rA x];rfl,rfl⟩
theorem nb{u:Ty}{v:V}{x:u.den}(h:iy u v=some x):(aO v).toPV=some (aG u x):=by
 cases v<;>simp only[iy]at h<;>try cases h
 ·obtain⟨a,rfl⟩:=bw h;rw[a];rfl
 ·obtain⟨rfl,rfl⟩:=bD h;rfl
 ·obtain⟨a,rfl⟩:=bw h;rw[a];rfl
theorem HI{u:Ty}{v:V}{x:u.den}(h:iy u v=some x):aS v= .b (aO v):=by cases v<;>simp only[iy]at h<;>first|rfl|cases h
theorem vI:∀(t:Ty) (l:List V) (x:t.den) (m:List V),NT t l=some (x,m)->∃g,l=g++m/\(g.map aO).mapM BV.toPV=some (aC t x)
 | .unit,l,x,m,h=>by simp only[NT,e_,ac_.injEq]at h;obtain⟨_,rfl⟩:=h;exact⟨[],rfl,rfl⟩
 | .pair a b,l,x,m,h=>by
  simp only[NT]at h
  split at h
  ·rename_i y l1 f
   split at h
   ·rename_i z l2 j
    simp only[e_,ac_.injEq]at h
    obtain⟨rfl,rfl⟩:=h
    obtain⟨p,rfl,hp⟩:=vI a l y l1 f
    obtain⟨q,rfl,s⟩:=vI b l1 z l2 j
    refine⟨p++q,by simp,?_⟩
    have hc:aC (.pair a b) (y,z)=aC a y++aC b z:=rfl
    rw[hc,C_,aa_,hp,s]
    rfl
   ·cases h
  ·cases h
 | .rx,l,x,m,h=>by
  unfold NT at h
  split at h
  ·rename_i a b c e l'
   split at h
   ·rename_i w A B C f j n r
    simp only[e_,ac_.injEq]at h
    obtain⟨rfl,rfl⟩:=h
    refine⟨[a,b,c,e],rfl,?_⟩
    rw[rA]
    simp only[m_,an_,j_,ai_,nb f,nb j,nb n,nb r]
    rfl
   ·cases h
  ·cases h
 | .int k,l,x,m,h=>d (.int k) l x m rfl h
 | .bool,l,x,m,h=>d .bool l x m rfl h
 | .str,l,x,m,h=>d .str l x m rfl h
 | .list t,l,x,m,h=>d (.list t) l x m rfl h
where
 d (t:Ty) (l:List V) (x:t.den) (m:List V) (u:t.ag=false) (h:(match l with
  |v::l=>match iy t v with
   |some x=>some (x,l)
   |none=>none
  |[]=>none)=some (x,m)):∃g,l=g++m/\(g.map aO).mapM BV.toPV=some (aC t x):=by
  split at h
  ·rename_i v l'
   split at h
   ·rename_i y f
    simp only[e_,ac_.injEq]at h
    obtain⟨rfl,rfl⟩:=h
    refine⟨[v],rfl,?_⟩
    rw[dc _ u]
    simp only[m_,an_,j_,ai_,nb f]
    rfl
   ·cases h
  ·cases h
theorem dH{t:Ty}{v:V}{x:t.den}(h:cG t v=some x):(aS v).toPV=some (aG t x):=by
 unfold cG at h;split at h
 ·rename_i vs;split at h
  ·rename_i d;split at h;·rename_i y b;cases h;obtain⟨e,a,c⟩:=vI t vs x [] b;rw[ax_]at a;subst a;show((vs.map aO).mapM BV.toPV).map PV.agg=_;rw[c,dI x d];rfl
   ·cases h
  ·cases h
 ·rw[HI h];exact nb h
theorem MG(v:V)(a:∀vs,v≠.tup vs):(cn v).map aO=(aS v).cells:=by
 cases v with
 |d t x=>exact(cW t x).1|agg vs=>rfl|tup vs=>exact absurd rfl (a vs)|nil t=>rfl|raw v=>
  show [bn v]=_;unfold aS;simp only[aO];cases hc:bn v<;>first|rfl|skip
  rename_i p;unfold bn at hc;split at hc;·cases hc
  ·cases hc;rfl
 |full t x=>rfl|any=>rfl|dp t x=>rfl|fnD f cs=>rfl|lit k t xs=>cases xs<;>rfl|_=>rfl
theorem UK(sz:Nat)(xs:List PV):(mb sz xs).cells=[mb sz xs]/\(mb sz xs).cellOk=true:=by cases xs<;>exact⟨rfl,rfl⟩
theorem Jm(t:Ty)(x:List t.den):(aG (.list t) x).cells=[aG (.list t) x]/\(aG (.list t) x).cellOk=true:=UK _ _
theorem Ab:∀(t:Ty) (x:t.den),((aC t x).all PV.cellOk)=true
 | .int _,_=>rfl
 | .bool,_=>rfl
 | .str,_=>rfl
 | .list t,x=>by have h:=Jm t x;show((aG (.list t) x).cells.all PV.cellOk)=true;rw[h.1];simp[h.2]
 | .unit,_=>rfl
 | .pair a b,x=>by show(((aG a x.1).cells++(aG b x.2).cells).all PV.cellOk)=true;rw[aw_,Ab a x.1,Ab b x.2];rfl
 | .rx,r=>by rw[rA];have h:=(Jm .rx r.out.2.2.2.1).2;simp only[s_,List.all_nil,aE_,h];rfl
theorem x6(t:Ty)(x:t.den):(aG t x).ok=true:=Ab t x
theorem lb:∀(t:Ty) (x:t.den),t.flat=true->(aG t x).Flat/\∀y∈aC t x,y.Flat
 | .int _,_,_=>⟨.sc _,λy c=>by rw[S_.1 c];exact .sc _⟩
 | .bool,_,_=>⟨.sc _,λy c=>by rw[S_.1 c];exact .sc _⟩
 | .str,_,_=>⟨.sc _,λy c=>by rw[S_.1 c];exact .sc _⟩
 | .unit,_,_=>⟨.agg [] (by simp),λy c=>by cases c⟩
 | .pair a b,x,h=>by
  simp only[Ty.flat,b_]at h;have d:=(lb a x.1 h.1).2;have e:=(lb b x.2 h.2).2;have hc:∀y∈aC (.pair a b) x,y.Flat:=λy c=>by have:aC (.pair a b) x=aC a x.1++aC b x.2:=rfl;rw[this,List.mem_append]at c;exact c.elim (d y) (e y)
  exact⟨.agg _ λi y c=>hc y (ae_ c),hc⟩
def valOf:(t:Ty)->t.den->Value
 | .int k,x=>.int k x
 | .bool,x=>.bool x
 | .str,x=>.string ⟨x.toArray⟩
 |_,_=>.slice none 0 0
def Au:V->Value
 | .d t x=>valOf t x
 | .nil _=>.slice none 0 0
 | .raw v=>v
 |_=>Go.undef
def Ty.sc:Ty->Bool
 | .int _=>true
 | .bool=>true
 | .str=>true
 |_=>false
def V.konst:V->Bool
 | .d t _=>t.sc
 | .nil _=>true
 | .raw _=>true
 |_=>false
def X.er:X->SX
 | .tm j=>.tm j
 | .k t x=>.c (valOf t x)
 | .nil _=>.c (.slice none 0 0)
 | .ag vs=>.c (.agg (vs.map Au).toArray)
 | .f n=>.f n
 | .raw v=>.c v
def X.wf:X->Bool
 | .k t _=>t.sc
 | .ag vs=>vs.all V.konst
 | .raw v=>match v with
  | .agg _=>false
  | .slice _ _ _=>false
  |_=>true
 |_=>true
def oA(t:Ty):Value:=match t.ag with
 |true=>.agg (((fY t t.zero).map λv=>match v with
  | .d (.list _) _=>Value.slice none 0 0
  |v=>Au v).toArray)
 |false=>match t with
  | .list _=>.slice none 0 0
  |t=>valOf t t.zero
def M9(x:Option X):Option SX:=x.map X.er
def TOp.er:TOp->SOp
 | .mv x=>.mv x.er
 | .pick c a b=>.pick c.er a.er b.er
 | .bin op x y=>.bin op x.er y.er
 | .eqB neg x y=>.eqB neg x.er y.er
 | .eqT neg tid _ x y=>.eqT neg tid x.er y.er
 | .un op x=>.un op x.er
 | .len str x=>.len str x.er
 | .lenM k e x=>.lenM k e x.er
 | .idxS x i=>.idxS x.er i.er
 | .idxV n t x i=>.idxV n t.sz t.ag x.er i.er
 | .idxA t x i=>.idxA t.sz x.er i.er
 | .idxP n t x i=>.idxP n t.sz t.ag x.er i.er
 | .fldA off t x=>.fldA off t.sz t.ag x.er
 | .fld off t x=>.fld off t.sz t.ag x.er
 | .load t x=>.load t.sz t.ag x.er
 | .store t x v=>.store t.sz x.er v.er
 | .alloc tid zero=>.alloc tid (zero.map Au)
 | .box tid x=>.box tid x.er
 | .boxD tid _ x=>.boxD tid x.er
 | .build zero parts=>.build (zero.map Au) (parts.map λq=>(q.1,q.2.1,q.2.2.er))
 | .bslice own tid t z parts=>.bslice own tid t.sz z (parts.map X.er)
 | .mslice tid t bytes l c=>.mslice tid t.sz bytes (oA t) l.er c.er
 | .append tid t bytes x y=>.append tid t.sz bytes x.er y.er
 | .cvtI k x=>.cvtI k x.er
 | .slc _ t x lo E mx=>.slc t.sz x.er (M9 lo) (M9 E) (M9 mx)
 | .slcS x lo E=>.slcS x.er (M9 lo) (M9 E)
 | .ext x i=>.ext x.er i
 | .nilc x=>.nilc x.er
 | .call bor f args _=>.call bor (f%10000) (args.map λa=>a.2.er)
 | .callA _ bor B f args _=>.callA bor B (f%10000) (args.map λa=>a.2.er)
 | .callv _ bor B _ x args _=>.callv bor B x.er (args.map λa=>a.2.er)
 | .callp bor _ x args _=>.callp bor x.er (args.map λa=>a.2.er)
 | .b2s x=>.b2s x.er
 | .mkfn f caps=>.mkfn f (caps.map X.er)
 | .mkmap k e _ _=>.mkmap k e
 | .lookup k e ok _ b m x=>.lookup k e ok (oA b) m.er x.er
 | .mapset k e _ _ m x v=>.mapset k e m.er x.er v.er
 | .copy tid t x y=>.copy tid t.sz x.er y.er
 | .mnmx mx k x ys=>.mnmx mx k x.er (ys.map X.er)
 | .panic x=>.panic x.er
 | .iface tid x=>.iface tid x.er
 | .bsliceF tid t z parts=>.bslice false tid t.sz z (parts.map X.er)
 | .appD tid t bytes x y=>.appD tid t.sz bytes x.er y.er
 | .bsliceN tid _ t z parts=>.bsliceN tid t.sz z (parts.map X.er)
 | .msliceT tid k _ bytes l c=>.msliceT k tid 1 bytes (.slice none 0 0) l.er c.er
 | .appT tid k t bytes x y=>.appT k tid t.sz bytes x.er y.er
 | .atq k op=>.atq k op.er
def Tg(P:Program)(c:TypeId->Ty->Bool):List Field->Nat->Ty->Bool
 |[],_,.unit=>true
 |f::l,off,.pair a b=>(f.name != "_")&&c_ f.offset off&&(match P.info? f.type with
  |some i=>c_ i.size a.sz&&(P.underlying f.type).isSome&&(gE P f.type==a.ag)
  |none=>false)&&c f.type a&&Tg P c l (off+a.sz) b
 |_,_,_=>false
def x7(P:Program):Nat->TypeId->Ty->Bool
 |0,_,_=>false
 |d+1,t,u=>match P.underlying t,u with
  |some .bool,.bool=>true
  |some (.int k),.int b=>decide (k=b)
  |some .string,.str=>true
  |some (.struct a),u=> !P.stoodInHeld t&&Tg P (x7 P d) a.toList 0 u
  |_,_=>false
def jm(l:List (Arg×X)):Bool:=l.all λa=>a.2.wf
def Rt(x:Option X):Bool:=match x with
 |some x=>x.wf
 |none=>true
def TOp.wf(P:Program):TOp->Bool
 | .mv x=>x.wf
 | .pick c a b=>c.wf&&a.wf&&b.wf
 | .bin _ x y=>x.wf&&y.wf
 | .eqB _ x y=>x.wf&&y.wf
 | .eqT _ tid t x y=>x.wf&&y.wf&&x7 P 64 tid t
 | .un _ x=>x.wf
 | .len _ x=>x.wf
 | .lenM _ _ x=>x.wf
 | .idxS x i=>x.wf&&i.wf
 | .idxV _ _ x i=>x.wf&&i.wf
 | .idxA _ x i=>x.wf&&i.wf
 | .idxP _ _ x i=>x.wf&&i.wf
 | .fldA _ _ x=>x.wf
 | .fld _ _ x=>x.wf
 | .load _ x=>x.wf
 | .store _ x v=>x.wf&&v.wf
 | .alloc _ zero=>zero.all V.konst
 | .box _ x=>x.wf
 | .boxD _ _ x=>x.wf
 | .build zero parts=>zero.all V.konst&&parts.all λq=>q.2.2.wf
 | .bslice _ _ _ _ parts=>parts.all X.wf
 | .mslice _ t _ l c=>l.wf&&c.wf&&decide (t≠.rx)
 | .append _ _ _ x y=>x.wf&&y.wf
 | .cvtI _ x=>x.wf
 | .slc _ _ x lo z mx=>x.wf&&Rt lo&&Rt z&&Rt mx
 | .slcS x lo z=>x.wf&&Rt lo&&Rt z
 | .ext x _=>x.wf
 | .nilc x=>x.wf
 | .call _ _ args sh=>jm args&&sh.wfB
 | .callA _ _ _ _ args sh=>jm args&&sh.wfB
 | .callv _ _ _ num x args sh=>x.wf&&jm args&&dG P (num%10000)&&sh.wfB
 | .callp _ num x args sh=>x.wf&&jm args&&dG P (num%10000)&&sh.wfB
 | .b2s x=>x.wf
 | .mkfn _ caps=>caps.all X.wf
 | .mkmap _ _ _ _=>true
 | .lookup k _ _ a b m x=>m.wf&&x.wf&&x7 P 64 k a&&b.sc
 | .mapset k _ a _ m x v=>m.wf&&x.wf&&v.wf&&x7 P 64 k a
 | .copy _ _ x y=>x.wf&&y.wf
 | .mnmx _ _ x ys=>x.wf&&ys.all X.wf
 | .panic x=>x.wf
 | .iface _ x=>x.wf
 | .bsliceF _ _ _ parts=>parts.all X.wf
 | .appD _ _ _ x y=>x.wf&&y.wf
 | .bsliceN _ _ _ _ parts=>parts.all X.wf
 | .msliceT _ _ _ _ l c=>l.wf&&c.wf
 | .appT _ _ _ _ x y=>x.wf&&y.wf
 | .atq _ op=>op.wf P
def EK(t:Nat)(want:Bool)(r alt:SX):SOp:=match want with
 |true=>.pick (.tm t) r alt
 |false=>.pick (.tm t) alt r
def RC.er:Option (Nat×Bool)->RC->List SOper
 |_,.nil=>[]
 |g,.op d o rest=>⟨d,o.er,g⟩::rest.er g
 |g,.adj _ rest=>rest.er g
 |g,.gb t want blk _ r alt dst rest=>blk.er (some (t,want))++(⟨some dst,EK t want r.er alt.er,g⟩::rest.er g)
def TOp.pureB:TOp->Bool
 | .store .. =>false
 | .alloc .. =>false
 | .box .. =>false
 | .bslice own .. => !own
 | .mslice .. =>false
 | .append .. =>false
 | .callA .. =>false
 | .callv .. =>false
 | .mkmap .. =>false
 | .mapset .. =>false
 | .copy .. =>false
 | .panic .. =>false
 | .atq .. =>false
 | .msliceT .. =>false
 | .appT .. =>false
 |_=>true
def TOp.exB:TOp->Bool
 | .append .. =>true
 | .appT .. =>true
 | .callA .. =>true
 | .callv .. =>true
 | .store .. =>true
 |o=>o.pureB
def TOp.isAt:TOp->Bool
 | .atq .. =>true
 |_=>false
def RC.pureB:RC->Bool
 | .nil=>true
 | .op _ o rest=>o.pureB&&rest.pureB
 | .adj _ _=>false
 | .gb _ _ blk _ _ _ _ rest=>blk.pureB&&rest.pureB
def RC.wf(P:Program):RC->Bool
 | .nil=>true
 | .op _ o rest=>o.wf P&&rest.wf P
 | .adj _ rest=>rest.wf P
 | .gb _ _ blk _ r alt _ rest=>blk.wf P&&blk.pureB&&r.wf&&alt.wf&&rest.wf P
def Wq(j:Nat)(b:Bool)(us:List Nat)(d:Option Nat)(o:TOp):PO:=⟨j,b,us,o.er.rd,o.er.lent,d,o,none⟩
def Wo(j:Nat)(b:Bool)(us:List Nat)(t:Nat)(want:Bool)(d:Option Nat)(o:TOp):PO:=⟨j,b,us,o.er.rd++[t],o.er.lent,d,o,some (t,want)⟩
def PO.so(p:PO):SOper:=⟨p.d,p.o.er,p.g⟩
def GC(pre:List PO):List SOper:=(aj_ pre.length).map λj=>match pre.find? λp=>c_ p.j j with
 |some p=>p.so
 |none=>default
def TC.er:TC->AC
 | .skip=>.skip
 | .region ops=>.region (ops.er none)
 | .draw k ops af=>.draw k (ops.er none) af
 | .regL pre=>.region (pre.map PO.so)
 | .draw2 _ pre tl af=>.draw2 (pre.map λp=>(p.j,p.b)) (GC pre++tl.er none) af
 | .seq a b=>.seq a.er b.er
 | .cond x a b=>.cond x.er a.er b.er
 | .block id a=>.block id a.er
 | .loop _ _ a=>.loop a.er
 | .exit id=>.exit id
 | .ret=>.ret
 | .adj _ a=>a.er
 | .after a _=>a.er
 | .cut _ a=>a.er
theorem ov(fr:List (Nat×V))(k:Nat):Av.look (fr.map λx=>(x.1,aS x.2)) k=(lk fr k).map aS:=by
 induction fr with
 |nil=>rfl|cons x fr b=>
  obtain⟨j,v⟩:=x;simp only[m_,Av.look,lk];by_cases h:k=j;·subst h;simp
  ·rw[if_neg h,b];have:c_ k j=false:=by
    cases a:c_ k j;·rfl
    ·exact absurd (a_ a) h
   rw[this];rfl
theorem vU{v:V}(h:v.konst=true):bn (Au v)=aO v:=by
 cases v<;>simp only[V.konst]at h<;>try cases h
 ·rename_i t x;cases t<;>simp only[Ty.sc]at h<;>first|rfl|cases h
 ·rfl
 ·rfl
theorem au{s:S}{x:X}{v:V}(a:x.wf=true)(h:s.get x=some v):(enc s).get x.er=some (aS v):=by
 cases x with
 |tm k=>simp only[S.get]at h;show Av.look (s.fr.map λx=>(x.1,aS x.2)) k=_;rw[ov,h];rfl|k t x=>simp only[S.get,e_]at h;subst h;simp only[X.wf]at a;cases t<;>simp only[Ty.sc]at a<;>first|rfl|cases a
 |nil t=>simp only[S.get,e_]at h;subst h;rfl|ag vs=>simp only[S.get,e_]at h;subst h;simp only[X.wf,n_]at a;show some (AV.agg (((vs.map Au).toArray).toList.map bn))=some (.agg (vs.map aO));simp only[i_];congr 2;exact k_ λv b=>vU (a v b)|f n=>simp only[S.get,e_]at h;subst h;rfl|raw v=>simp only[S.get,e_]at h;subst h;simp only[X.wf]at a;cases v<;>simp only at a<;>first|rfl|cases a
theorem gv(s:S)(d:Option Nat)(v:V):enc (s.putO d v)=(enc s).putO d (aS v):=by cases d<;>rfl
theorem bA(s:S)(i:Nat):(enc s).hp[i]? =(s.hp[i]?).map bC:=by simp[enc]
theorem et{α:Type}:∀(l:List α) (n:Nat) (y:α),setAt l n y=l.set n y
 |[],_,_=>rfl
 |_::_,0,_=>rfl
 |x::l,n+1,y=>by simp[setAt,et l n y]
theorem Mr(t:Ty)(f:t≠.rx):(fM (oA t)).toPV=some (aG t t.zero)/\(fM (oA t)).cells.length=t.sz:=by
 have c:∀(t:Ty),(((fY t t.zero).map λv=>match v with
  | .d (.list _) _=>Value.slice none 0 0
  |v=>Au v).map bn).mapM BV.toPV=some (aC t t.zero)/\(fY t t.zero).length=t.sz:=by
  intro t
  refine⟨?_,(cW t t.zero).2⟩
  induction t with|pair a b d e=>have hc:aC (.pair a b) (Ty.zero (.pair a b))=aC a a.zero++aC b b.zero:=rfl;rw[hc];simp only[fY,Ty.zero,C_,aa_];rw[d,e];rfl|rx=>rfl|list t=>rfl|_=>rfl
 cases h:t.ag;·cases t<;>simp[Ty.ag]at h<;>exact⟨rfl,rfl⟩
 ·have:=c t;simp only[oA,h];simp only[fM];refine⟨?_,?_⟩
  ·show((((((fY t t.zero).map λv=>match v with| .d (.list _) _=>Value.slice none 0 0|v=>Au v).toArray).toList).map bn).mapM BV.toPV).map PV.agg=_
   rw[List.toList_toArray,this.1,dI _ h];rfl
  ·show(((((fY t t.zero).map λv=>match v with| .d (.list _) _=>Value.slice none 0 0|v=>Au v).toArray).toList).map bn).length=_
   simp[this.2]
structure Zt where
 ty:List Ty
 kk:List K
 sh:List Sh
 zs:List (List V)
structure Zx where
 o:List TOp
 c:List TC
def BK{α:Type}(d:α):List α->Nat->α
 |[],_=>d
 |x::l,n=>bif c_ n 0 then x else BK d l (n - 1)
def zf:Nat->Nat->Nat×Nat
 |0,n=>(0,n)
 |f+1,n=>bif l_ 8 (n%16)then(match zf f (n/16)with|(v,r)=>(n%16 - 8+8*v,r))else(n%16,n/16)
def zn(n:Nat):Nat×Nat:=zf 24 n
def zl{α:Type}(p:Nat->α×Nat):Nat->Nat->List α×Nat
 |0,n=>([],n)
 |k+1,n=>match p n with
  |(a,r)=>match zl p k r with
   |(l,r)=>(a::l,r)
def Bd{α:Type}(p:Nat->α×Nat)(n:Nat):List α×Nat:=match zn n with
 |(k,r)=>zl p k r
def zm{α β:Type}(f:α->β)(p:α×Nat):β×Nat:=match p with
 |(a,r)=>(f a,r)
def zb{α β:Type}(p:α×Nat)(f:α->Nat->β×Nat):β×Nat:=match p with
 |(a,r)=>f a r
def TP(v:Nat):Int:=bif c_ (v%2) 0 then Int.ofNat (v/2)else Int.negSucc (v/2)
def V1:Nat->Nat->Nat->List Nat×Nat
 |0,_,n=>([],n)
 |k+1,b,n=>match zn n with
  |(v,r)=>match V1 k (b+v) r with
   |(l,r)=>((b+v)::l,r)
def WO(n:Nat):List Nat×Nat:=match zn n with
 |(k,r)=>V1 k 0 r
def Qc(b c:Nat):Nat:=bif c_ (c%2) 0 then b+c/2 else b - (c/2+1)
def zt(b n:Nat):Nat×Nat:=match zn n with
 |(c,r)=>(Qc b c,r)
def zd(b n:Nat):Option Nat×Nat:=match zn n with
 |(c,r)=>(bif c_ c 0 then none else some (Qc b (c - 1)),r)
section
variable (T:Zt)
def xQ(n:Nat):Ty×Nat:=match zn n with
 |(i,r)=>(BK .unit T.ty i,r)
def zk(n:Nat):K×Nat:=match zn n with
 |(i,r)=>(BK .e T.kk i,r)
def WG(n:Nat):Sh×Nat:=match zn n with
 |(i,r)=>(BK ⟨[],⟨[],[]⟩,[]⟩ T.sh i,r)
def zV:Nat->Nat->V×Nat
 |0,n=>(.any,n)
 |f+1,n=>match zn n with
  |(o,r)=>match o with
   |0=>(.any,r)
   |1=>zm V.sl (zn r)
   |2=>zb (zn r) λi r=>zm (V.ptr i) (zn r)
   |3=>zm V.mp (zn r)
   |4=>zm V.nil (xQ T r)
   |5=>(.raw (.pointer none),r)
   |6=>(.raw (.slice none 0 0),r)
   |7=>zm V.agg (Bd (zV f) r)
   |8=>zm V.tup (Bd (zV f) r)
   |9=>zm (λv=>V.d tI (TP v)) (zn r)
   |10=>zm (λv=>V.d tB (c_ v 1)) (zn r)
   |11=>zb (zn r) λi r=>zm (V.clo i) (Bd zn r)
   |12=>(.raw .nilIface,r)
   |13=>(.raw (.map none),r)
   |14=>(.ifc,r)
   |15=>zb (zn r) λk r=>zm (λv=>match BK .unit T.ty k with| .int k=>V.d (.int k) (TP v)|_=>.any) (zn r)
   |16=>zm (λl=>V.d tS (l.map UInt8.ofNat)) (Bd zn r)
   |_=>zm (λi=>(BK [] T.zs i).headD .any) (zn r)
def zX(b n:Nat):X×Nat:=match zn n with
 |(c,r)=>match c%4 with
  |0=>(.tm (Qc b (c/4)),r)
  |1=>(.k tI (TP (c/4)),r)
  |_=>match c/4 with
   |0=>(.k tB false,r)
   |1=>(.k tB true,r)
   |2=>zm X.nil (xQ T r)
   |3=>zb (zn r) λk r=>zm (λv=>match BK .unit T.ty k with| .int k=>X.k (.int k) (TP v)|_=>.f 0) (zn r)
   |4=>zm (λl=>X.k tS (l.map UInt8.ofNat)) (Bd zn r)
   |5=>zm X.ag (Bd (zV T 9) r)
   |6=>zm X.f (zn r)
   |7=>(.raw (.pointer none),r)
   |8=>(.raw (.slice none 0 0),r)
   |9=>(.raw .nilIface,r)
   |10=>(.raw (.map none),r)
   |_=>zm (λi=>match(BK [] T.zs i).headD .any with| .raw v=>X.raw v|_=>.f 0) (zn r)
def Vg(b n:Nat):(Arg×X)×Nat:=match zn n with
 |(c,r)=>zm (λx=>(bif c_ c 0 then Arg.x else .d (BK .unit T.ty (c - 1)),x)) (zX T b r)
def WF:Nat->BinOp
 |0=>.add|1=>.sub|2=>.mul|3=>.quo|4=>.rem|5=>.and|6=>.or|7=>.xor|8=>.andNot|9=>.shl|10=>.shr
 |11=>.eql|12=>.neq|13=>.lss|14=>.leq|15=>.gtr|_=>.geq
def V3(b n:Nat):Option X×Nat:=match zn n with
 |(0,r)=>(none,r)
 |(_,r)=>zm some (zX T b r)
def V2(x:Zx)(b:Nat)(o:Nat)(r:Nat):TOp×Nat:=
 match o with
 |1=>zm (λt=>.mv (.tm t)) (zt b r)
 |2=>zb (xQ T r) λt r=>zm (λx=>.load t (.tm x)) (zt b r)
 |3=>zb (zn r) λj r=>zb (xQ T r) λt r=>zm (λx=>.fldA j t (.tm x)) (zt b r)
 |5=>zb (zn r) λk r=>zb (zX T b r) λx r=>zm (λy=>.bin (WF k) x y) (zX T b r)
 |6=>zm .mv (zX T b r)
 |7=>zb (xQ T r) λt r=>zb (zX T b r) λx r=>zm (λi=>.idxA t x i) (zX T b r)
 |8=>zb (xQ T r) λt r=>zb (zX T b r) λx r=>zm (λi=>.store t x i) (zX T b r)
 |9=>zm (.len false) (zX T b r)
 |10=>zb (zn r) λf r=>zb (Bd (Vg T b) r) λl r=>zm (λq=>.call false f l q) (WG T r)
 |12=>zm .nilc (zX T b r)
 |13=>zb (zX T b r) λx r=>zm (.ext x) (zn r)
 |14=>zm (.un .not) (zX T b r)
 |15=>zm (λi=>BK (.mv (.tm 0)) x.o i) (zn r)
 |17=>zb (zn r) λt r=>zm (λi=>.alloc t (BK [] T.zs i)) (zn r)
 |18=>zb (zn r) λt r=>zb (xQ T r) λu r=>zm (.boxD t u) (zX T b r)
 |19=>zb (zn r) λi r=>zm (.build (BK [] T.zs i)) (Bd (λr=>zb (zn r) λa r=>zb (zn r) λc r=>zm (λx=>(a,c,x)) (zX T b r)) r)
 |20=>zb (zn r) λo r=>zb (zn r) λt r=>zb (xQ T r) λu r=>zb (zn r) λl r=>zm (λp=>.bslice (c_ o 1) t u l p) (Bd (zX T b) r)
 |21=>zb (zn r) λt r=>zb (xQ T r) λu r=>zb (zn r) λs r=>zb (zX T b r) λx r=>zm (.append t u s x) (zX T b r)
 |22=>zb (zn r) λm r=>zb (Bd zn r) λB r=>zb (zn r) λf r=>zb (Bd (Vg T b) r) λl r=>zm (λq=>.callA (l_ 2 m) (c_ (m%2) 1) B f l q) (WG T r)
 |23=>zb (zn r) λt r=>zb (xQ T r) λu r=>zb (zn r) λs r=>zb (zX T b r) λx r=>zm (.mslice t u s x) (zX T b r)
 |24=>zb (zn r) λj r=>zb (xQ T r) λt r=>zm (.fld j t) (zX T b r)
 |25=>zb (zn r) λt r=>zm (.box t) (zX T b r)
 |26=>zb (zn r) λm r=>zb (zX T b r) λx r=>zm (.eqB (c_ m 1) x) (zX T b r)
 |27=>zb (zX T b r) λx r=>zm (.idxS x) (zX T b r)
 |28=>zm (.len true) (zX T b r)
 |29=>zb (zn r) λm r=>zb (zn r) λt r=>zb (xQ T r) λu r=>zb (zX T b r) λx r=>zm (.eqT (c_ m 1) t u x) (zX T b r)
 |30=>zb (zn r) λf r=>zb (Bd (Vg T b) r) λl r=>zm (λq=>.call true f l q) (WG T r)
 |31=>zb (zX T b r) λx r=>zb (V3 T b r) λl r=>zm (.slcS x l) (V3 T b r)
 |_=>zb (zn r) λm r=>zb (xQ T r) λt r=>zb (zX T b r) λx r=>zb (V3 T b r) λl r=>zb (V3 T b r) λh r=>zm (.slc (c_ m 1) t x l h) (V3 T b r)
def WP(x:Zx)(b:Nat)(o:Nat)(r:Nat):TOp×Nat:=match o with
 |33=>zb (zn r) λs r=>zb (zn r) λo r=>zm (.atq s) (V2 T x b o r)
 |o=>V2 T x b o r
def Vf(n:Nat):Adj×Nat:=match zn n with
 |(o,r)=>match o with
  |0=>zm Adj.freeze (zn r)
  |1=>zb (zn r) λk r=>zb (zn r) λty r=>zm (.adopt k ty) (xQ T r)
  |2=>zb (zn r) λi r=>zb (zn r) λj r=>zb (zn r) λty r=>zm (.adoptC i j ty) (xQ T r)
  |3=>zb (Bd zn r) λa r=>zm (.sel a) (WO r)
  |4=>zm Adj.drop (Bd zn r)
  |5=>zb (zn r) λi r=>zb (zn r) λk r=>zb (zn r) λj r=>zm (.focus i k j) (xQ T r)
  |6=>zm Adj.close (zn r)
  |7=>zb (zn r) λk r=>zb (zn r) λty r=>zb (zk T r) λkk r=>zm (.adoptT k ty kk) (xQ T r)
  |_=>zb (zn r) λi r=>zb (zn r) λj r=>zb (zn r) λty r=>zb (zk T r) λkk r=>zm (.adoptCT i j ty kk) (xQ T r)
def zR(x:Zx)(b:Nat):Nat->Nat->RC
 |0,_=>.nil
 |f+1,n=>match zn n with
  |(o,r)=>match o with
   |0=>.nil
   |4=>match zn r with
    |(c,r)=>match zn r with
     |(j,r)=>match xQ T r with
      |(t,r)=>match zt b r with
       |(k,r)=>.op (some (Qc b c)) (.fldA j t (.tm k)) (.op (some (Qc b c+1)) (.load t (.tm (Qc b c))) (zR x b f r))
   |11=>match zn r with
    |(m,r)=>match zt b r with
     |(t,r)=>match xQ T r with
      |(ty,r)=>match zX T b r with
       |(u,r)=>match zX T b r with
        |(al,r)=>match zt b r with
         |(d,r)=>match zn r with
          |(len,r)=>.gb t (c_ m 1) (zR x b f r) ty u al d (zR x b f (T_ r (4*len)))
   |16=>match Bd (Vf T) r with
    |(l,r)=>.adj l (zR x b f r)
   |o=>match zd b r with
    |(d,r)=>match WP T x b o r with
     |(op,r)=>.op d op (zR x b f r)
def WY(n:Nat):Ob×Nat:=match zn n with
 |(o,r)=>match o with
  |0=>(.gone,r)
  |1=>zb (zn r) λt r=>zm (.box t) (Bd (zV T 9) r)
  |2=>zb (zn r) λt r=>zm (λu=>.vec t u []) (xQ T r)
  |3=>zb (zn r) λt r=>zb (zk T r) λk r=>zm (λu=>.tree t k u [] none) (xQ T r)
  |4=>zb (zn r) λt r=>zb (zk T r) λk r=>zb (xQ T r) λu r=>zb (zn r) λj r=>zm (λs=>.tree t k u [] (some (0,j,.sl s))) (zn r)
  |5=>zb (zn r) λk r=>zb (zn r) λty r=>zb (xQ T r) λa r=>zm (λc=>.map k ty a c []) (xQ T r)
  |_=>(.free,r)
def V4(n:Nat):Slot×Nat:=match zn n with
 |(o,r)=>match o with
  |0=>zb (zn r) λk r=>zm (.tm k) (xQ T r)
  |1=>zb (zn r) λk r=>zb (zn r) λj r=>zm (.cell k j) (xQ T r)
  |2=>zb (zn r) λk r=>zb (zn r) λj r=>zm (.vec k j) (xQ T r)
  |3=>zb (zn r) λk r=>zb (zn r) λj r=>zb (zn r) λty r=>zb (xQ T r) λa r=>zm (.map k j ty a) (xQ T r)
  |4=>zb (zn r) λk r=>zb (zn r) λj r=>zb (zk T r) λty r=>zm (.tree k j ty) (xQ T r)
  |_=>zb (zn r) λk r=>zb (zn r) λj r=>zb (zk T r) λty r=>zb (xQ T r) λu r=>zb (zn r) λi r=>zm (.treeH k j ty u i) (zn r)
def WN(n:Nat):Sh×Nat:=
 zb (WO n) λks r=>zb (Bd (λr=>zb (zn r) λk r=>zm (λv=>(k,v)) (zV T 9 r)) r) λfr r=>zb (Bd (WY T) r) λhp r=>zm (λsl=>⟨ks,⟨fr,hp⟩,sl⟩) (Bd (V4 T) r)
def WQ(n:Nat):List (Nat×Sh)×Nat:=Bd (λr=>zb (zn r) λk r=>zm (λv=>(k,v)) (WN T r)) n
def WM(x:Zx)(b n:Nat):PO×Nat:=
 zb (zn n) λj r=>zb (zn r) λc r=>zb (Bd zn r) λus r=>zb (zd b r) λd r=>zb (zd b r) λg r=>zb (zn r) λo r=>zm (λop=>match g with|none=>Wq j (c_ (c%2) 1) us d op|some t=>Wo j (c_ (c%2) 1) us t (l_ 2 c) d op) (WP T x b o r)
def zC(x:Zx):Nat->Nat->TC
 |0,_=>.skip
 |f+1,n=>match zn n with
  |(o,r)=>match o with
   |0=>.skip
   |1=>match zn r with
    |(b,r)=>.region (zR T x b 400 r)
   |2=>match zn r with
    |(len,r)=>.seq (zC x f r) (zC x f (T_ r (4*len)))
   |3=>match zX T 0 r with
    |(c,r)=>match zn r with
     |(len,r)=>.cond c (zC x f r) (zC x f (T_ r (4*len)))
   |4=>match zn r with
    |(i,r)=>.block i (zC x f r)
   |5=>match WN T r with
    |(sh,r)=>match WQ T r with
     |(xs,r)=>.loop sh xs (zC x f r)
   |6=>match zn r with
    |(i,_)=>.exit i
   |7=>.ret
   |8=>match zn r with
    |(k,r)=>match Bd (Bd zn) r with
     |(af,r)=>match zn r with
      |(b,r)=>.draw k (zR T x b 400 r) af
   |9=>match Bd (Vf T) r with
    |(l,r)=>.adj l (zC x f r)
   |10=>match Bd (Vf T) r with
    |(l,r)=>.after (zC x f r) l
   |11=>match WQ T r with
    |(xs,r)=>.cut xs (zC x f r)
   |12=>match zn r with
    |(k,r)=>match Bd (Bd zn) r with
     |(af,r)=>match zn r with
      |(b,r)=>match Bd (WM T x b) r with
       |(pre,r)=>.draw2 k pre (zR T x b 400 r) af
   |13=>match zn r with
    |(b,r)=>match Bd (WM T x b) r with
     |(pre,_)=>.regL pre
   |_=>match zn r with
    |(i,_)=>BK .skip x.c i
end
noncomputable def Lp(l:List (Nat×V))(t:Nat):Option V:=List.rec (motive:=λ_=>Option V) none (λx _ a=>F_ (motive:=λ_=>Option V) a (some x.2) (c_ t x.1)) l
theorem qQ(t:Nat):∀l:List (Nat×V),Lp l t=lk l t
 |[]=>rfl
 |(k,a)::l=>by show(F_ (motive:=λ_=>Option V) (Lp l t) (some a) (c_ t k))=bif c_ t k then some a else lk l t;rw[qQ t l];cases c_ t k<;>rfl
noncomputable def S.getQ(s:S)(x:X):Option V:=X.casesOn (motive:=λ_=>Option V) x (λk=>Lp s.fr k) (λt x=>some (.d t x)) (λt=>some (.nil t)) (λvs=>some (.agg vs)) (λn=>some (.fnD n [])) (λv=>some (.raw v))
theorem gy(s:S)(x:X):s.getQ x=s.get x:=by cases x<;>first|exact qQ _ _|rfl
def nS(m k:Nat):Bool:=c_ (ab_ (T_ m k) 1) 1
theorem lH(m k:Nat):nS m k=m.testBit k:=by show c_ ((m>>>k)&&&1) 1=((1&&&(m>>>k)) != 0);rw[ao_,ao_ 1,ao_,Nat.one_and_eq_mod_two];rcases Nat.mod_two_eq_zero_or_one (m>>>k)with h|h<;>rw[h]<;>rfl
theorem sx(a b:List Nat)(k:Nat):lQ (a++b) k=(lQ a k||lQ b k):=by simp[lQ]
theorem pw(a b k:Nat):nS (N_ a b) k=(nS a k||nS b k):=by rw[lH,lH,lH];exact Nat.testBit_or a b k
theorem BX(d k:Nat):nS (2^d) k=lQ [d] k:=by
 rw[lH,Nat.testBit_two_pow];show decide (d=k)=(c_ k d||false);rw[Bool.or_false];by_cases h:d=k;·subst h;simp
 ·rw[decide_eq_false h];cases a:c_ k d;·rfl
  ·exact absurd (a_ a).symm h
theorem jW(k:Nat):nS 0 k=lQ [] k:=by rw[lH];simp[lQ]
def UG:Option Nat->Nat
 |some d=>2^d
 |none=>0
theorem N3(d:Option Nat)(k:Nat):nS (UG d) k=lQ (match d with|some d=>[d]|none=>[]) k:=by cases d with|none=>exact jW k|some d=>exact BX d k
def RC.msk:RC->Nat
 | .nil=>0
 | .op d _ rest=>N_ (UG d) rest.msk
 | .adj _ rest=>rest.msk
 | .gb _ _ blk _ _ _ dst rest=>N_ blk.msk (N_ (2^dst) rest.msk)
theorem RC.msk_eq(k:Nat):∀r:RC,nS r.msk k=lQ r.asg k
 | .nil=>jW k
 | .op d o rest=>by simp only[RC.msk,RC.asg,pw,sx,N3,RC.msk_eq k rest]<;>rfl
 | .adj l rest=>by simp only[RC.msk,RC.asg,RC.msk_eq k rest]
 | .gb a b blk c d e dst rest=>by simp only[RC.msk,RC.asg,pw,sx,RC.msk_eq k rest,RC.msk_eq k blk,BX];rw[show dst::rest.asg=[dst]++rest.asg from rfl,sx]
def RL:List PO->Nat
 |[]=>0
 |p::l=>N_ (UG p.d) (RL l)
theorem Ju(k:Nat):∀l:List PO,nS (RL l) k=lQ (l.flatMap λp=>match p.d with|some d=>[d]|none=>[]) k
 |[]=>jW k
 |p::l=>by simp only[RL,al_,pw,sx,N3,Ju k l]<;>rfl
def TC.msk:TC->Nat
 | .region ops=>ops.msk
 | .draw _ ops _=>ops.msk
 | .draw2 _ pre tl _=>N_ (RL pre) tl.msk
 | .regL pre=>RL pre
 | .seq a b=>N_ a.msk b.msk
 | .cond _ a b=>N_ a.msk b.msk
 | .block _ a=>a.msk
 | .loop _ _ a=>a.msk
 | .adj _ a=>a.msk
 | .after a _=>a.msk
 | .cut _ a=>a.msk
 |_=>0
theorem TC.msk_eq(k:Nat):∀c:TC,nS c.msk k=lQ c.asg k
 | .region ops=>RC.msk_eq k ops
 | .draw _ ops _=>RC.msk_eq k ops
 | .regL pre=>Ju k pre
 | .draw2 _ pre tl _=>by simp only[TC.msk,TC.asg,pw,sx,RC.msk_eq k tl,Ju k pre]<;>rfl
 | .seq a b=>by simp only[TC.msk,TC.asg,pw,sx,TC.msk_eq k a,TC.msk_eq k b]
 | .cond _ a b=>by simp only[TC.msk,TC.asg,pw,sx,TC.msk_eq k a,TC.msk_eq k b]
 | .block _ a=>TC.msk_eq k a
 | .loop _ _ a=>TC.msk_eq k a
 | .adj _ a=>TC.msk_eq k a
 | .after a _=>TC.msk_eq k a
 | .cut _ a=>TC.msk_eq k a
 | .skip=>jW k
 | .exit _=>jW k
 | .ret=>jW k
noncomputable def Tq(m:Nat)(fr:List (Nat×V))(k:Nat):Bool:=nS m k||(match Lp fr k with
 |some v=> !v.isD
 |none=>false)
def WX(m:Nat->Bool):Slot->Bool
 | .tm k _=>m k
 |_=>true
noncomputable def VI(sh:Sh)(m:Nat)(s:S):Bool:=sh.keep.all (λk=> !nS m k)&&sh.sl.all (WX (Tq m s.fr))&&sh.sk.fr.all (λx=>Tq m s.fr x.1)
theorem Oj{m:Nat}{A:List Nat}(h:∀k,nS m k=lQ A k)(fr:List (Nat×V))(k:Nat):Tq m fr k=ow A fr k:=by unfold Tq ow;rw[h,qQ];all_goals rfl
theorem RD{m:Nat}{A:List Nat}(h:∀k,nS m k=lQ A k)(sh:Sh)(s:S):VI sh m s=sh.okAt A s:=by
 unfold VI Sh.okAt;congr 1
 ·congr 1;·congr 1;funext k;rw[h]
  ·congr 1;funext x;cases x<;>first|exact Oj h _ _|rfl
 ·congr 1;funext x;exact Oj h _ _
noncomputable def Qh(fr:List (Nat×V)):Nat:=List.rec (motive:=λ_=>Nat) 0 (λx _ a=>N_ (2^x.1) a) fr
theorem M2(k:Nat):∀fr:List (Nat×V),nS (Qh fr) k=(lk fr k).isSome
 |[]=>jW k
 |(j,v)::l=>by show nS (N_ (2^j) (Qh l)) k=(bif c_ k j then some v else lk l k).isSome;rw[pw,M2 k l,BX];show((c_ k j||false)||_)=_;cases c_ k j<;>rfl
theorem Rs(r:RC)(fr:List (Nat×V)):c_ (ab_ r.msk (Qh fr)) 0=r.asg.all (λk=>(lk fr k).isNone):=by
 cases b:r.asg.all (λk=>(lk fr k).isNone)
 ·cases d:c_ (ab_ r.msk (Qh fr)) 0;·rfl
  ·have d:=a_ d;rw[List.all_eq_false]at b;obtain⟨k,h,hn⟩:=b;have a:(ab_ r.msk (Qh fr)).testBit k=(r.msk.testBit k&&(Qh fr).testBit k):=az_ _ _ _;rw[d,<-lH r.msk,<-lH (Qh fr),RC.msk_eq,M2,as_]at a;have e:lQ r.asg k=true:=J_.2 ⟨k,h,ap_ k⟩;rw[e]at a;simp at a;rw[a]at hn;simp at hn
 ·have:ab_ r.msk (Qh fr)=0:=by
   refine Nat.eq_of_testBit_eq λk=>?_;have a:(ab_ r.msk (Qh fr)).testBit k=(r.msk.testBit k&&(Qh fr).testBit k):=az_ _ _ _;rw[a,<-lH r.msk,<-lH (Qh fr),RC.msk_eq,M2,as_];cases f:lQ r.asg k;·rfl
   ·obtain⟨j,g,c⟩:=J_.1 f;have c:=a_ c;subst c;have:=n_.1 b k g;rw[W_.1 this];rfl
  rw[this];rfl
noncomputable def M1(fr l:List (Nat×V)):Bool:=List.rec (motive:=λ_=>Bool) true (λx _ a=>y_ (motive:=λ_=>Bool) false (λw=>F_ (motive:=λ_=>Bool) false a (V.same x.2 w)) (Lp fr x.1)) l
theorem HA(fr:List (Nat×V)):∀l,M1 fr l=Er fr l
 |[]=>rfl
 |(k,v)::l=>by
  show y_ (motive:=λ_=>Bool) false (λw=>F_ (motive:=λ_=>Bool) false (M1 fr l) (V.same v w)) (Lp fr k)=((match lk fr k with|some w=>V.same v w|none=>false)&&Er fr l)
  rw[qQ,HA fr l];cases lk fr k with|none=>rfl|some w=>show F_ (motive:=λ_=>Bool) false _ (V.same v w)=(V.same v w&&_);cases V.same v w<;>rfl
noncomputable def Sq(s:S)(x:Slot):Option x.ty.den:=Slot.casesOn (motive:=λx=>Option x.ty.den) x (λk t=>y_ (motive:=λ_=>Option t.den) none (λv=>cG t v) (Lp s.fr k)) (λa b c=>gB s (.cell a b c)) (λa b c=>gB s (.vec a b c)) (λa b c d e=>gB s (.map a b c d e)) (λa b c d=>gB s (.tree a b c d)) (λa b c d e f=>gB s (.treeH a b c d e f))
theorem Sr(s:S)(x:Slot):Sq s x=gB s x:=by
 cases x<;>try rfl
 rename_i k t;show y_ (motive:=λ_=>Option t.den) none (λv=>cG t v) (Lp s.fr k)=match lk s.fr k with|some v=>cG t v|none=>none
 rw[qQ];cases lk s.fr k<;>rfl
noncomputable def Nb(s:S)(sl:List Slot):Option (HL sl):=List.rec (motive:=λsl=>Option (HL sl)) (some ()) (λx l a=>y_ (motive:=λ_=>Option (HL (x::l))) none (λc=>y_ (motive:=λ_=>Option (HL (x::l))) none (λr=>some (c,r)) a) (Sq s x)) sl
theorem HV(s:S):∀sl,Nb s sl=EH s sl
 |[]=>rfl
 |x::l=>by
  show y_ (motive:=λ_=>Option (HL (x::l))) none (λc=>y_ (motive:=λ_=>Option (HL (x::l))) none (λr=>some (c,r)) (Nb s l)) (Sq s x)=match gB s x with
   |some c=>match EH s l with
    |some r=>some (c,r)
    |none=>none
   |none=>none
  rw[Sr,HV s l];cases gB s x with|none=>rfl|some c=>cases EH s l<;>rfl
noncomputable def QD(fr:List (Nat×V))(ks:List Nat):Bool:=List.rec (motive:=λ_=>Bool) true (λk _ a=>y_ (motive:=λ_=>Bool) false (λv=>F_ (motive:=λ_=>Bool) false a v.isD) (Lp fr k)) ks
theorem Ko(fr:List (Nat×V)):∀ks,QD fr ks=ks.all (Q5 fr)
 |[]=>rfl
 |k::l=>by
  show y_ (motive:=λ_=>Bool) false (λv=>F_ (motive:=λ_=>Bool) false (QD fr l) v.isD) (Lp fr k)=((match lk fr k with|some v=>v.isD|none=>false)&&l.all (Q5 fr))
  rw[qQ,Ko fr l];cases lk fr k with|none=>rfl|some v=>show F_ (motive:=λ_=>Bool) false _ v.isD=(v.isD&&_);cases v.isD<;>rfl
noncomputable def HW(sh:Sh)(s:S):Option (HL sh.sl):=F_ (motive:=λ_=>Option (HL sh.sl)) none (Nb s sh.sl) (M1 s.fr sh.sk.fr&&BL sh.sk.hp s.hp&&QD s.fr sh.keep)
theorem EI(sh:Sh)(s:S):HW sh s=pack sh s:=by unfold HW pack S.fits;rw[HA,Ko,HV];cases Er s.fr sh.sk.fr&&BL sh.sk.hp s.hp&&sh.keep.all (Q5 s.fr)<;>rfl
noncomputable def Ll(fr:List (Nat×V))(ks:List Nat):List (Nat×V):=List.rec (motive:=λ_=>List (Nat×V)) [] (λk _ a=>y_ (motive:=λ_=>List (Nat×V)) a (λv=>F_ (motive:=λ_=>List (Nat×V)) a ((k,v)::a) v.isD) (Lp fr k)) ks
theorem Lm(fr:List (Nat×V)):∀ks,Ll fr ks=cV fr ks
 |[]=>rfl
 |k::l=>by
  show y_ (motive:=λ_=>List (Nat×V)) (Ll fr l) (λv=>F_ (motive:=λ_=>List (Nat×V)) (Ll fr l) ((k,v)::Ll fr l) v.isD) (Lp fr k)=match lk fr k with
   |some v=>bif v.isD then(k,v)::cV fr l else cV fr l
   |none=>cV fr l
  rw[qQ,Lm fr l];cases lk fr k with|none=>rfl|some v=>show F_ (motive:=λ_=>List (Nat×V)) _ _ v.isD=bif v.isD then _ else _;cases v.isD<;>rfl
noncomputable def Sh.baseQ(sh:Sh)(s:S):S:=⟨Ll s.fr sh.keep++sh.sk.fr,sh.sk.hp⟩
theorem DK(sh:Sh)(s:S):sh.baseQ s=sh.base s:=by unfold Sh.baseQ Sh.base;rw[Lm]
noncomputable def Et:(xs:List (Nat×Sh))->Nat->S->Option (XT xs)
 |[],_,_=>none
 |[(k,sh)],key,s=>bif c_ k key then HW sh s else none
 |(k,sh)::a::l,key,s=>bif c_ k key then(match HW sh s with|some c=>some (.inl c)|none=>none)else(match Et (a::l) key s with|some c=>some (.inr c)|none=>none)
theorem Ji(key:Nat)(s:S):∀xs,Et xs key s=inj xs key s
 |[]=>rfl
 |[(k,sh)]=>by simp only[Et,inj,EI]
 |(k,sh)::a::l=>by simp only[Et,inj,EI,Ji key s (a::l)]<;>rfl
noncomputable def j4{R:Type}(s:S)(κ:Nat->S->Option R):(xs:List (Nat×Sh))->XT xs->Option R
 |[],_=>none
 |[(k,sh)],c=>κ k (unpack sh.sl c (sh.baseQ s))
 |(k,sh)::a::l,c=>aL_ (λc=>κ k (unpack sh.sl c (sh.baseQ s))) (λc=>j4 s κ (a::l) c) c
theorem r6{R:Type}(s:S)(κ:Nat->S->Option R):∀xs c,j4 s κ xs c=jt s κ xs c
 |[],_=>rfl
 |[(k,sh)],c=>by simp only[j4,jt,DK]
 |(k,sh)::a::l,c=>by simp only[j4,jt,DK,r6 s κ (a::l)]
abbrev MQ(R:Type):Type:=ak->Option Nat->S->(S->Option R)->(S->Option R)->Option R
section
variable {R:Type}
noncomputable def VO(x:X):MQ R:=λO d s κ kp=>match s.getQ x with
 |some v=>κ (s.putO d v)
 |none=>none
def U4(c:X)(a:X)(b:X):MQ R:=λO d s κ kp=>evOp O d (.pick c a b) s κ kp
noncomputable def T4(op:BinOp)(x:X)(y:X):MQ R:=λO d s κ kp=>match s.getQ x,s.getQ y with
 |some (.d (.int k) a),some (.d (.int c) b)=>S2 op k c a b λv=>κ (s.putO d v)
 |some (.d .str a),some (.d .str b)=>S3 op a b λv=>κ (s.putO d v)
 |_,_=>none
noncomputable def T5(neg:Bool)(x:X)(y:X):MQ R:=λO d s κ kp=>match s.getQ x,s.getQ y with
 |some (.d .bool a),some (.d .bool b)=>κ (s.putO d (.d .bool (neg ^^ (a==b))))
 |_,_=>none
def VM(neg:Bool)(tid:TypeId)(t:Ty)(x:X)(y:X):MQ R:=λO d s κ kp=>evOp O d (.eqT neg tid t x y) s κ kp
noncomputable def VQ(op:UnOp)(x:X):MQ R:=λO d s κ kp=>match op,s.getQ x with
 | .not,some (.d .bool a)=>κ (s.putO d (.d .bool (!a)))
 | .neg,some (.d (.int k) a)=>κ (s.putO d (.d (.int k) (k.wrap (0 - a))))
 |_,_=>none
noncomputable def q_len(str:Bool)(x:X):MQ R:=λO d s κ kp=>match str,s.getQ x with
 |true,some (.d .str a)=>κ (s.putO d (.d (.int .i64) a.length))
 |false,some (.d (.list _) a)=>κ (s.putO d (.d (.int .i64) a.length))
 |false,some (.nil _)=>κ (s.putO d (.d (.int .i64) 0))
 |false,some (.sl id)=>match s.hp[id]? with
  |some (.vec _ _ xs)=>κ (s.putO d (.d (.int .i64) xs.length))
  |some (.tree _ _ _ xs _)=>κ (s.putO d (.d (.int .i64) xs.length))
  |_=>none
 |_,_=>none
def U1(k:TypeId)(e:TypeId)(x:X):MQ R:=λO d s κ kp=>evOp O d (.lenM k e x) s κ kp
def UZ(x:X)(i:X):MQ R:=λO d s κ kp=>evOp O d (.idxS x i) s κ kp
def U0(n:Nat)(t:Ty)(x:X)(i:X):MQ R:=λO d s κ kp=>evOp O d (.idxV n t x i) s κ kp
noncomputable def R5(t:Ty)(x:X)(i:X):MQ R:=λO d s κ kp=>match s.getQ x with
 |some (.sl id)=>match s.hp[id]? with
  |some (.vec _ u xs)=>bif decide (u=t)then intOf (s.getQ i) λn=>f_ (bF xs n) λ_=>κ (s.putO d (.elt id n.toNat 0))else none
  |some (.tree _ _ u xs _)=>bif decide (u=t)then intOf (s.getQ i) λn=>f_ (bF xs n) λ_=>κ (s.putO d (.elt id n.toNat 0))else none
  |_=>none
 |some (.d (.list u) xs)=>match bP (.list u) (.list t) xs with
  |some xs=>intOf (s.getQ i) λn=>f_ (bF xs n) λx=>κ (s.putO d (.dp t x))
  |none=>none
 |_=>none
def UY(n:Nat)(t:Ty)(x:X)(i:X):MQ R:=λO d s κ kp=>evOp O d (.idxP n t x i) s κ kp
noncomputable def R4(off:Nat)(t:Ty)(x:X):MQ R:=λO d s κ kp=>match s.getQ x with
 |some (.dp u y)=>match rm u off t y with
  |some z=>κ (s.putO d (.dp t z))
  |none=>none
 |some (.ptr id o)=>κ (s.putO d (.ptr id (o+off)))
 |some (.elt id i o)=>κ (s.putO d (.elt id i (o+off)))
 |_=>none
def VN(off:Nat)(t:Ty)(x:X):MQ R:=λO d s κ kp=>evOp O d (.fld off t x) s κ kp
noncomputable def R6(t:Ty)(x:X):MQ R:=λO d s κ kp=>loadT s.hp t (s.getQ x) λv=>κ (s.putO d v)
noncomputable def ON(t:Ty)(x:X)(v:X):MQ R:=λO d s κ kp=>match d with
 |none=>storeT s t (s.getQ x) (s.getQ v) κ
 |some _=>none
def Tx(tid:TypeId)(zero:List V):MQ R:=λO d s κ kp=>evOp O d (.alloc tid zero) s κ kp
def VL(tid:TypeId)(x:X):MQ R:=λO d s κ kp=>evOp O d (.box tid x) s κ kp
def UV(tid:TypeId)(t:Ty)(x:X):MQ R:=λO d s κ kp=>evOp O d (.boxD tid t x) s κ kp
def Tz(zero:List V)(parts:List (Nat×Nat×X)):MQ R:=λO d s κ kp=>evOp O d (.build zero parts) s κ kp
def R2(own:Bool)(tid:TypeId)(t:Ty)(len:Nat)(parts:List X):MQ R:=λO d s κ kp=>evOp O d (.bslice own tid t len parts) s κ kp
def R9(tid:TypeId)(t:Ty)(bytes:Nat)(l:X)(c:X):MQ R:=λO d s κ kp=>evOp O d (.mslice tid t bytes l c) s κ kp
def R1(tid:TypeId)(t:Ty)(bytes:Nat)(x:X)(y:X):MQ R:=λO d s κ kp=>evOp O d (.append tid t bytes x y) s κ kp
def UX(k:IntKind)(x:X):MQ R:=λO d s κ kp=>evOp O d (.cvtI k x) s κ kp
def VP(full:Bool)(t:Ty)(x:X)(lo:Option X)(a:Option X)(mx:Option X):MQ R:=λO d s κ kp=>evOp O d (.slc full t x lo a mx) s κ kp
def U5(x:X)(lo:Option X)(a:Option X):MQ R:=λO d s κ kp=>evOp O d (.slcS x lo a) s κ kp
noncomputable def T6(x:X)(i:Nat):MQ R:=λO d s κ kp=>match s.getQ x with
 |some (.tup vs)=>match vs[i]? with
  |some v=>bif (match v with| .agg _=>false| .tup _=>false|_=>true)then κ (s.putO d v)else none
  |none=>none
 |_=>none
noncomputable def Sa(x:X):MQ R:=λO d s κ kp=>match s.getQ x with
 |some v=>(match v with
  | .dp _ _=>κ (s.putO d v)
  | .ptr _ _=>κ (s.putO d v)
  | .pel _ _ _ _ _=>κ (s.putO d v)
  | .elt _ _ _=>κ (s.putO d v)
  | .clo _ _=>κ (s.putO d v)
  | .fnD _ _=>κ (s.putO d v)
  |_=>none)
 |none=>none
noncomputable def R3(bor:Bool)(f:FuncId)(args:List (Arg×X))(sh:Sh):MQ R:=λO d s κ kp=>match Kw s bor args with
 |some ars=>bif ars.all V.isD&&sh.sk.fr.isEmpty&&(!bor||sh.sl.all Slot.flat)then
  f_ (aB O f ars [] sh) λc=>κ (s.putO d (res sh.n (unpack sh.sl c (sh.base ⟨[],[]⟩)).fr))else none
 |none=>none
noncomputable def OM(pan:Bool)(bor:Bool)(B:List Nat)(f:FuncId)(args:List (Arg×X))(sh:Sh):MQ R:=λO d s κ kp=>match qK s bor B args with
 |some ars=>xU pan O s d bor B f ars sh κ kp
 |none=>none
def TB(pan:Bool)(bor:Bool)(B:List Nat)(num:Nat)(x:X)(args:List (Arg×X))(sh:Sh):MQ R:=λO d s κ kp=>evOp O d (.callv pan bor B num x args sh) s κ kp
def VK(x:X):MQ R:=λO d s κ kp=>evOp O d (.b2s x) s κ kp
def U2(f:FuncId)(caps:List X):MQ R:=λO d s κ kp=>evOp O d (.mkfn f caps) s κ kp
def TG(k:TypeId)(e:TypeId)(a:Ty)(b:Ty):MQ R:=λO d s κ kp=>evOp O d (.mkmap k e a b) s κ kp
def R7(k:TypeId)(e:TypeId)(ok:Bool)(a:Ty)(b:Ty)(m:X)(x:X):MQ R:=λO d s κ kp=>evOp O d (.lookup k e ok a b m x) s κ kp
def R8(k:TypeId)(e:TypeId)(a:Ty)(b:Ty)(m:X)(x:X)(v:X):MQ R:=λO d s κ kp=>evOp O d (.mapset k e a b m x v) s κ kp
def UW(tid:TypeId)(t:Ty)(x:X)(y:X):MQ R:=λO d s κ kp=>evOp O d (.copy tid t x y) s κ kp
def U3(mx:Bool)(k:IntKind)(x:X)(ys:List X):MQ R:=λO d s κ kp=>evOp O d (.mnmx mx k x ys) s κ kp
def TH(x:X):MQ R:=λO d s κ kp=>evOp O d (.panic x) s κ kp
def TE(tid:TypeId)(x:X):MQ R:=λO d s κ kp=>evOp O d (.iface tid x) s κ kp
def PN(tid:TypeId)(t:Ty)(len:Nat)(parts:List X):MQ R:=λO d s κ kp=>evOp O d (.bsliceF tid t len parts) s κ kp
def UT(tid:TypeId)(t:Ty)(bytes:Nat)(x:X)(y:X):MQ R:=λO d s κ kp=>evOp O d (.appD tid t bytes x y) s κ kp
def PP(tid:TypeId)(k:K)(t:Ty)(len:Nat)(parts:List X):MQ R:=λO d s κ kp=>evOp O d (.bsliceN tid k t len parts) s κ kp
def PQ(tid:TypeId)(k:K)(u:Ty)(bytes:Nat)(l:X)(c:X):MQ R:=λO d s κ kp=>evOp O d (.msliceT tid k u bytes l c) s κ kp
def UU(tid:TypeId)(k:K)(t:Ty)(bytes:Nat)(x:X)(y:X):MQ R:=λO d s κ kp=>evOp O d (.appT tid k t bytes x y) s κ kp
def TA(bor:Bool)(num:Nat)(x:X)(args:List (Arg×X))(sh:Sh):MQ R:=λO d s κ kp=>evOp O d (.callp bor num x args sh) s κ kp
def Wu(k:Nat)(op:TOp):MQ R:=λO d s κ kp=>evOp O d (.atq k op) s κ kp
noncomputable def fX(op:TOp):MQ R:=TOp.casesOn (motive:=λ_=>MQ R) op VO U4 T4 T5 VM VQ q_len U1 UZ U0 R5 UY R4 VN R6 ON Tx VL UV Tz R2 R9 R1 UX VP U5 T6 Sa R3 OM TB VK U2 TG R7 R8 UW U3 TH TE PN UT PP PQ UU TA Wu
theorem El(op:TOp)(O:ak)(d:Option Nat)(s:S)(κ kp:S->Option R):fX op O d s κ kp=evOp O d op s κ kp:=by
 cases op;case mv=>simp only[fX,VO,evOp,gy]<;>rfl
 case bin=>simp only[fX,T4,evOp,gy]<;>rfl
 case eqB=>simp only[fX,T5,evOp,gy]<;>rfl
 case un=>simp only[fX,VQ,evOp,gy]<;>rfl
 case len=>simp only[fX,q_len,evOp,gy]<;>rfl
 case idxA=>simp only[fX,R5,evOp,gy]<;>rfl
 case fldA=>simp only[fX,R4,evOp,gy]<;>rfl
 case load=>simp only[fX,R6,evOp,gy]<;>rfl
 case store=>simp only[fX,ON,evOp,gy]<;>rfl
 case ext=>simp only[fX,T6,evOp,gy]<;>rfl
 case nilc=>simp only[fX,Sa,evOp,gy]<;>rfl
 case call=>simp only[fX,R3,evOp,gy]<;>rfl
 case callA=>simp only[fX,OM,evOp,gy]<;>rfl
 all_goals rfl
abbrev RQ:Type 1:=(R:Type)->S->(S->Option R)->(S->Option R)->Option R
def VS:RQ:=λ_ s κ _=>κ s
noncomputable def Wv(O:ak)(d:Option Nat)(o:TOp)(_:RC)(a:RQ):RQ:=λR s κ kp=>fX o O d s (λs'=>a R s' κ kp) kp
def VR(l:List Adj)(_:RC)(a:RQ):RQ:=λR s κ kp=>w8 l s λs=>a R s κ kp
noncomputable def U6(t:Nat)(want:Bool)(blk:RC)(ty:Ty)(r alt:X)(dst:Nat)(_:RC)(a d:RQ):RQ:=λR s κ kp=>match Lp s.fr t,s.getQ alt with
 |some (.d .bool b),some e=>match(bif c_ (ab_ blk.msk (Qh s.fr)) 0 then cG ty e else none)with
  |some alt=>f_ (match want with
   |true=>bif b then a ty.den s (λs'=>match s'.getQ r with|some v=>cG ty v|none=>none) (λ_=>none)else some alt
   |false=>bif b then some alt else a ty.den s (λs'=>match s'.getQ r with|some v=>cG ty v|none=>none) (λ_=>none))
   λc=>d R (s.put dst (.d ty c)) κ kp
  |none=>none
 |_,_=>none
noncomputable def En(O:ak)(r:RC):RQ:=RC.rec (motive:=λ_=>RQ) VS (Wv O) VR U6 r
theorem Je(O:ak)(r:RC):∀(R:Type) (s:S) (κ kp:S->Option R),En O r R s κ kp=C9 O R r s κ kp:=by
 induction r with
 |nil=>intro R s κ kp;rfl|op d o rest a=>intro R s κ kp;show fX o O d s (λs'=>En O rest R s' κ kp) kp=evOp O d o s (λs'=>C9 O R rest s' κ kp) kp;rw[El];congr 1;funext s';exact a R s' κ kp|adj l rest a=>intro R s κ kp;show w8 l s (λs=>En O rest R s κ kp)=w8 l s λs=>C9 O R rest s κ kp;congr 1;funext s';exact a R s' κ kp|gb t want blk ty r alt dst rest e a=>
  intro R s κ kp;have b:En O blk=λR s κ kp=>C9 O R blk s κ kp:=by funext R s κ kp;exact e R s κ kp
  have c:En O rest=λR s κ kp=>C9 O R rest s κ kp:=by funext R s κ kp;exact a R s κ kp
  show U6 t want blk ty r alt dst rest (En O blk) (En O rest) R s κ kp=_;rw[b,c];simp only[U6,C9,gy,qQ,Rs]<;>rfl
noncomputable def Po{R:Type}(O:ak)(l:List PO):List RecV->S->(S->Option R)->(S->Option R)->Option R:=List.rec (motive:=λ_=>List RecV->S->(S->Option R)->(S->Option R)->Option R) (λ_ s κ _=>κ s) (λp _ a A s κ kp=>
 match p.g with
 |none=>bif Bo A s p then fX p.o O p.d s (λs'=>PR A s s' p (a (BO A s s' p) s' κ kp)) kp else none
 |some (t,want)=>match Lp s.fr t with
  |some (.d .bool b)=>bif want==b
   then(bif Bo A (s.put t (.d .bool want)) p then fX p.o O p.d (s.put t (.d .bool want)) (λs'=>PR A (s.put t (.d .bool want)) s' p (a (BO A (s.put t (.d .bool want)) s' p) s' κ kp)) kp else none)
   else(bif Bo A (s.put t (.d .bool (!want))) p then PR A (s.put t (.d .bool (!want))) ((s.put t (.d .bool (!want))).putO p.d (.raw Go.undef)) p (a (BO A (s.put t (.d .bool (!want))) ((s.put t (.d .bool (!want))).putO p.d (.raw Go.undef)) p) ((s.put t (.d .bool (!want))).putO p.d (.raw Go.undef)) κ kp)else none)
  |_=>none) l
theorem N8{R:Type}(O:ak):∀(l:List PO) (A:List RecV) (s:S) (κ kp:S->Option R),Po O l A s κ kp=Pn O A l s κ kp
 |[],_,_,_,_=>rfl
 |p::l,A,s,κ,kp=>by
  show(match p.g with
  |none=>bif Bo A s p then fX p.o O p.d s (λs'=>PR A s s' p (Po O l (BO A s s' p) s' κ kp)) kp else none|some (t,want)=>match Lp s.fr t with
   |some (.d .bool b)=>bif want==b then(bif Bo A (s.put t (.d .bool want)) p then fX p.o O p.d (s.put t (.d .bool want)) (λs'=>PR A (s.put t (.d .bool want)) s' p (Po O l (BO A (s.put t (.d .bool want)) s' p) s' κ kp)) kp else none) else(bif Bo A (s.put t (.d .bool (!want))) p then PR A (s.put t (.d .bool (!want))) ((s.put t (.d .bool (!want))).putO p.d (.raw Go.undef)) p (Po O l (BO A (s.put t (.d .bool (!want))) ((s.put t (.d .bool (!want))).putO p.d (.raw Go.undef)) p) ((s.put t (.d .bool (!want))).putO p.d (.raw Go.undef)) κ kp)else none)
   |_=>none)=_
  simp only[N8 O l,El,Pn,qQ]<;>rfl
noncomputable def MZ{R:Type}(O:ak)(l:List PO):S->(S->Option R)->(S->Option R)->Option R:=List.rec (motive:=λ_=>S->(S->Option R)->(S->Option R)->Option R) (λs κ _=>κ s) (λp _ a s κ kp=>
 match p.g with
 |none=>fX p.o O p.d s (λs'=>a s' κ kp) kp
 |some (t,want)=>match Lp s.fr t with
  |some (.d .bool b)=>bif b
   then(match want with
    |true=>fX p.o O p.d (s.put t (.d .bool true)) (λs'=>a s' κ kp) kp
    |false=>a ((s.put t (.d .bool true)).putO p.d (.raw Go.undef)) κ kp)
   else(match want with
    |true=>a ((s.put t (.d .bool false)).putO p.d (.raw Go.undef)) κ kp
    |false=>fX p.o O p.d (s.put t (.d .bool false)) (λs'=>a s' κ kp) kp)
  |_=>none) l
theorem N7{R:Type}(O:ak):∀(l:List PO) (s:S) (κ kp:S->Option R),MZ O l s κ kp=Qg O l s κ kp
 |[],_,_,_=>rfl
 |p::l,s,κ,kp=>by
  show(match p.g with
  |none=>fX p.o O p.d s (λs'=>MZ O l s' κ kp) kp|some (t,want)=>match Lp s.fr t with
   |some (.d .bool b)=>bif b
    then(match want with
     |true=>fX p.o O p.d (s.put t (.d .bool true)) (λs'=>MZ O l s' κ kp) kp
     |false=>MZ O l ((s.put t (.d .bool true)).putO p.d (.raw Go.undef)) κ kp)
    else(match want with
     |true=>MZ O l ((s.put t (.d .bool false)).putO p.d (.raw Go.undef)) κ kp
     |false=>fX p.o O p.d (s.put t (.d .bool false)) (λs'=>MZ O l s' κ kp) kp)
   |_=>none)=_
  simp only[N7 O l,El,Qg,qQ]<;>rfl
abbrev CQ:Type 1:=(R:Type)->S->(S->Option R)->(Nat->S->Option R)->(S->Option R)->(S->Option R)->Option R
def UE:CQ:=λ_ s kn _ _ _=>kn s
noncomputable def QN(O:ak)(ops:RC):CQ:=λR s kn _ _ kp=>En O ops R s kn kp
noncomputable def UB(O:ak)(_:Nat)(ops:RC)(_:List (List Nat)):CQ:=λR s kn _ _ kp=>En O ops R s kn kp
noncomputable def S5(O:ak)(r:Nat)(pre:List PO)(tl:RC)(_:List (List Nat)):CQ:=λR s kn _ _ kp=>Po O pre [] ⟨s.fr,s.hp++I_ r .free⟩ (λs=>En O tl R s kn kp) kp
noncomputable def UD(O:ak)(pre:List PO):CQ:=λ_ s kn _ _ kp=>MZ O pre s kn kp
def TU(_ _:TC)(a b:CQ):CQ:=λR s kn kx kr kp=>a R s (λs=>b R s kn kx kr kp) kx kr kp
noncomputable def MD(x:X)(_ _:TC)(a b:CQ):CQ:=λR s kn kx kr kp=>match s.getQ x with
 |some (.d .bool t)=>bif t then a R s kn kx kr kp else b R s kn kx kr kp
 |_=>none
def NY(id:Nat)(_:TC)(a:CQ):CQ:=λR s kn kx kr kp=>a R s kn (λi s=>bif c_ i id then kn s else kx i s) kr kp
def UC(id:Nat):CQ:=λ_ s _ kx _ _=>kx id s
def Vr:CQ:=λ_ s _ _ kr _=>kr s
def TT(l:List Adj)(_:TC)(a:CQ):CQ:=λR s kn kx kr kp=>w8 l s λs=>a R s kn kx kr kp
def NX(_:TC)(l:List Adj)(a:CQ):CQ:=λR s kn kx kr kp=>a R s (λs=>w8 l s kn) kx kr kp
noncomputable def QM(xs:List (Nat×Sh))(a:TC)(b:CQ):CQ:=λR s kn kx kr kp=>bif xs.all (λx=>VI x.2 a.msk s)then
 f_ (b (XT xs) s (λs=>Et xs 0 s) (λi s=>Et xs (i+3) s) (λs=>Et xs 1 s) (λs=>Et xs 2 s))
  (j4 s (λkey s=>match key with|0=>kn s|1=>kr s|2=>kp s|i+3=>kx i s) xs)else none
noncomputable def ME(n:Nat)(sh:Sh)(xs:List (Nat×Sh))(a:TC)(b:CQ):CQ:=λR s kn kx kr kp=>match HW sh s with
 |some c=>bif VI sh a.msk s&&xs.all (λx=>VI x.2 a.msk s)then f_ (a8 n (λc=>b (HL sh.sl⊕XT xs) (unpack sh.sl c (sh.baseQ s)) (λs=>match HW sh s with|some c=>some (.inl c)|none=>none)
  (λi s=>match Et xs (i+3) s with|some c=>some (.inr c)|none=>none) (λs=>match Et xs 1 s with|some c=>some (.inr c)|none=>none) (λs=>match Et xs 2 s with|some c=>some (.inr c)|none=>none)) c)
  (j4 s (λkey s=>match key with|0=>kn s|1=>kr s|2=>kp s|i+3=>kx i s) xs)else none
 |none=>none
noncomputable def wv(O:ak)(n:Nat)(c:TC):CQ:=TC.rec (motive:=λ_=>CQ) UE (QN O) (UB O) (S5 O) (UD O) TU MD NY (ME n) UC Vr TT NX QM c
theorem N4(O:ak)(n:Nat)(c:TC):∀(R:Type) (s:S) (kn:S->Option R) (kx:Nat->S->Option R) (kr kp:S->Option R),wv O n c R s kn kx kr kp=CU O n R c s kn kx kr kp:=by
 have e:∀a:TC,(∀(R:Type) (s:S) (kn:S->Option R) (kx:Nat->S->Option R) (kr kp:S->Option R),wv O n a R s kn kx kr kp=CU O n R a s kn kx kr kp)->wv O n a=λR s kn kx kr kp=>CU O n R a s kn kx kr kp:=λa h=>by funext R s kn kx kr kp;exact h R s kn kx kr kp
 induction c with|skip=>intro R s kn kx kr kp;rfl|region ops=>intro R s kn kx kr kp;exact Je O ops R s kn kp|draw k ops af=>intro R s kn kx kr kp;exact Je O ops R s kn kp|draw2 r pre tl af=>intro R s kn kx kr kp;show Po O pre [] _ (λs=>En O tl R s kn kp) kp=Pn O [] pre _ (λs=>C9 O R tl s kn kp) kp;rw[N8];congr 1;funext s';exact Je O tl R s' kn kp|regL pre=>intro R s kn kx kr kp;exact N7 O pre s kn kp|seq a b d f=>intro R s kn kx kr kp;show TU a b (wv O n a) (wv O n b) R s kn kx kr kp=_;rw[e a d,e b f];rfl|cond x a b d f=>intro R s kn kx kr kp;show MD x a b (wv O n a) (wv O n b) R s kn kx kr kp=_;rw[e a d,e b f];simp only[MD,gy,CU]<;>rfl|block id a d=>intro R s kn kx kr kp;show NY id a (wv O n a) R s kn kx kr kp=_;rw[e a d];rfl|loop sh xs a d=>intro R s kn kx kr kp;show ME n sh xs a (wv O n a) R s kn kx kr kp=_;rw[e a d];have hd:∀(κ:Nat->S->Option R),j4 s κ xs=jt s κ xs:=λκ=>funext λc=>r6 s κ xs c;simp only[ME,CU,RD λk=>TC.msk_eq k a,EI,DK,Ji,hd]<;>rfl|exit id=>intro R s kn kx kr kp;rfl|ret=>intro R s kn kx kr kp;rfl|adj l a d=>intro R s kn kx kr kp;show TT l a (wv O n a) R s kn kx kr kp=_;rw[e a d];rfl|after a l d=>intro R s kn kx kr kp;show NX a l (wv O n a) R s kn kx kr kp=_;rw[e a d];rfl|cut xs a d=>intro R s kn kx kr kp;show QM xs a (wv O n a) R s kn kx kr kp=_;rw[e a d];have hd:∀(κ:Nat->S->Option R),j4 s κ xs=jt s κ xs:=λκ=>funext λc=>r6 s κ xs c;simp only[QM,CU,RD λk=>TC.msk_eq k a,Ji,hd]<;>rfl
end
noncomputable def QY(O:ak)(n:Nat)(c:TF)(ars:List V)(os:List Ob):Option (Option S):=
 wv O n c.code (Option S) ⟨dh 0 ars,os⟩ (Eo c) (λ_ _=>none) (Eo c) (λ_=>some none)
noncomputable def N5(O:ak)(n:Nat)(d:TD)(ars:List V):Option (Option S):=
 wv O n d.a (Option S) ⟨dh 0 ars,[]⟩ (λs=>bif xy s d.ta 0&&xy s d.tb 1&&Wa s d.t8&&c_ s.hp.length 2 then
  wv O n d.c.code (Option S) s (Eo d.c) (λ_ _=>none) (Eo d.c) (λs=>bif xy s d.ta 0&&xy s d.tb 1 then
   wv O n d.h (Option S) ⟨[(0,.ptr 0 0),(1,.ptr 1 0)],s.hp⟩ (Tc d) (λ_ _=>none) (Tc d) (λ_=>none)else none)else none) (λ_ _=>none) (λ_=>none) (λ_=>none)
noncomputable def Q1(tbl:Nat->Option Fun')(n:Nat):ak:=Nat.rec (motive:=λ_=>ak) (λ_ _ _=>none) (λn a f ars os=>match tbl f with
 |some (.code c)=>bif c_ os.length c.m&&l_ ars.length c.ntmps then QY a n c ars os else none
 |some (.dfr d)=>bif c_ os.length 0&&l_ ars.length d.c.ntmps then N5 a n d ars else none
 |some (.nat g)=>(match os with
  |[]=>(match g ars with
   |some s=>some (some s)
   |none=>none)
  |_=>none)
 |none=>none) n
theorem QZ(O:ak)(n:Nat)(c:TF)(ars:List V)(os:List Ob):QY O n c ars os=bp O n c ars os:=N4 O n c.code _ _ _ _ _ _
theorem Q0(O:ak)(n:Nat)(d:TD)(ars:List V):N5 O n d ars=Pm O n d ars:=by simp only[N5,Pm,N4]
theorem N6(tbl:Nat->Option Fun'):∀n,Q1 tbl n=qW tbl n
 |0=>rfl
 |n+1=>by
  funext f ars os;have a:=N6 tbl n;simp only[qW];rw[<-a];show(match tbl f with
  |some (.code c)=>bif c_ os.length c.m&&l_ ars.length c.ntmps then QY (Q1 tbl n) n c ars os else none|some (.dfr d)=>bif c_ os.length 0&&l_ ars.length d.c.ntmps then N5 (Q1 tbl n) n d ars else none|some (.nat g)=>(match os with
   |[]=>(match g ars with
    |some s=>some (some s)
    |none=>none)
   |_=>none)
  |none=>none)=_
  cases tbl f with
  |none=>rfl|some x=>cases x with
   |code c=>simp only[QZ]
   |dfr d=>simp only[Q0]
   |nat g=>rfl
theorem S6{tbl:Nat->Option Fun'}{n f:Nat}{ars:List V}{os:List Ob}{sh:Sh}{c:HL sh.sl}(h:aB (Q1 tbl n) f ars os sh=some c):aB (qW tbl n) f ars os sh=some c:=by rw[<-N6];exact h
theorem kH{tbl:Nat->Option Fun'}{f:Nat}{ars:List V}{os:List Ob}{sh:Sh}{c:HL sh.sl}{m:Nat}(h:∀k,aB (Q1 tbl (k+m)) f ars os sh=some c):∃a,∀n,a<=n->aB (qW tbl n) f ars os sh=some c:=⟨m,λn hn=>by obtain⟨k,rfl⟩:∃k,n=k+m:=⟨n - m,by omega⟩;exact S6 (h k)⟩
inductive LeB:BV->BV->Prop
 |refl (x:BV):LeB x x
 |data (x:BV) (p:PV) (h:x.toPV=some p):LeB x (.pv p)
 |any (x:BV):LeB x (.pv .any)
inductive LeA:AV->AV->Prop
 |refl (x:AV):LeA x x
 |data (x:AV) (p:PV) (h:x.toPV=some p):LeA x (.b (.pv p))
 |any (x:AV):LeA x (.b (.pv .any))
 |agg (xs ys:List BV) (hl:xs.length=ys.length) (h:∀(i:Nat) (x y:BV),xs[i]? =some x->ys[i]? =some y->LeB x y):LeA (.agg xs) (.agg ys)
 |tup (xs ys:List BV) (hl:xs.length=ys.length) (h:∀(i:Nat) (x y:BV),xs[i]? =some x->ys[i]? =some y->LeB x y):LeA (.tup xs) (.tup ys)
inductive LeO:AObj->AObj->Prop
 |refl (x:AObj):LeO x x
 |gone (x:AObj):LeO x .gone
 |box (t:TypeId) (xs ys:List BV) (hl:xs.length=ys.length) (h:∀(i:Nat) (x y:BV),xs[i]? =some x->ys[i]? =some y->LeB x y):LeO (.box t xs) (.box t ys)
section
variable {θ:List Av.Loc} {D:Nat->Prop} {w:World}
theorem LeB.rel{x y:BV}(h:LeB x y){v:Value}(hr:RelB θ D w v x):RelB θ D w v y:=by cases h with|refl=>exact hr|data p h=>exact mg hr h|any=>exact RelP.any v
theorem Nj{vs:Array Value}{xs ys:List BV}(hl:xs.length=ys.length)(h:∀(i:Nat) (x y:BV),xs[i]? =some x->ys[i]? =some y->LeB x y)(e:vs.size=xs.length)(c:∀(i:Nat) (u:Value) (x:BV),vs[i]? =some u->xs[i]? =some x->RelB θ D w u x): vs.size=ys.length/\∀(i:Nat) (u:Value) (x:BV),vs[i]? =some u->ys[i]? =some x->RelB θ D w u x:=⟨by omega,λi u y d b=>by obtain⟨x,a⟩:=bb (l:=xs) hl b;exact(h i x y a b).rel (c i u x d a)⟩
theorem LeA.rel{x y:AV}(h:LeA x y){v:Value}(hr:RelA θ D w v x):RelA θ D w v y:=by
 cases h with
 |refl=>exact hr|data _ p h=>exact cd hr h|any=>exact RelP.any v|agg xs ys hl h=>obtain⟨vs,J,z,E⟩:=hr;obtain⟨H,I⟩:=Nj hl h z E;exact⟨vs,J,H,I⟩
 |tup xs ys hl h=>obtain⟨vs,J,z,E⟩:=hr;obtain⟨H,I⟩:=Nj hl h z E;exact⟨vs,J,H,I⟩
theorem LeO.rel{x y:AObj}(h:LeO x y){l:Av.Loc}(hr:RelO θ D w l x):RelO θ D w l y:=by
 cases h with
 |refl=>exact hr|gone=>cases l<;>trivial|box t xs ys hl h=>
  cases l<;>simp only[RelO]at hr⊢<;>try exact hr.elim
  obtain⟨z,E,H,I⟩:=hr;obtain⟨J,N⟩:=Nj hl h H I;exact⟨z,E,J,N⟩
end
structure LeS(a b:St):Prop where
 fr:∀k y,Av.look b.fr k=some y->∃x,Av.look a.fr k=some x/\LeA x y
 len:a.hp.length=b.hp.length
 hp:∀(i:Nat) (x y:AObj),a.hp[i]? =some x->b.hp[i]? =some y->LeO x y
theorem LeS.weak{m:Nat}{a b:St}(h:LeS a b):Weak m a b:=by
 rintro c ac w _ ⟨θ,D,z⟩;refine⟨θ,D,z.size,z.defers,⟨by rw[z.ok.len,h.len],z.ok.dlt,z.ok.inj,z.ok.olt,λi l o J I=>?_⟩,z.keep,z.dsub,z.dnew,z.onew,λk y N=>?_,z.fix⟩;·obtain⟨x,E⟩:=bb (l:=a.hp) h.len I;exact(h.hp i x o E I).rel (z.ok.objs i l x J E)
 ·obtain⟨x,E,H⟩:=h.fr k y N;exact H.rel (z.fr k x E)
theorem LeS.frame{fr fr':List (Nat×AV)}{hp:List AObj}(h:∀k y,Av.look fr' k=some y->Av.look fr k=some y):LeS ⟨fr,hp⟩ ⟨fr',hp⟩:=⟨λk y E=>⟨y,h k y E,.refl y⟩,rfl,λi x y H z=>by rw[H]at z;cases z;exact .refl x⟩
def Keeps(A:List Nat)(s s':S):Prop:=∀k,k∉A->(∀v,lk s.fr k=some v->v.isD=true->lk s'.fr k=some v\/lk s'.fr k=none)/\(lk s.fr k=none->lk s'.fr k=none)
theorem Ez(g:V->V):∀(fr:List (Nat×V)) (k:Nat),lk (fr.map λx=>(x.1,g x.2)) k=(lk fr k).map g
 |[],_=>rfl
 |(j,v)::fr,k=>by
  simp only[m_,lk];cases c_ k j;·exact Ez g fr k
  ·rfl
theorem Keeps.refl(A:List Nat)(s:S):Keeps A s s:=λ_ _=>⟨λ_ h _=>.inl h,id⟩
theorem Keeps.trans{A:List Nat}{a b c:S}(h:Keeps A a b)(k:Keeps A b c):Keeps A a c:=λi z=>by
 refine⟨λv H hd=>?_,λhn=>(k i z).2 ((h i z).2 hn)⟩;rcases(h i z).1 v H hd with E|E;·exact(k i z).1 v E hd
 ·exact .inr ((k i z).2 E)
theorem Keeps.sub{A B:List Nat}{a b:S}(h:Keeps A a b)(hs:∀x∈A,x∈B):Keeps B a b:=λi z=>h i λE=>z (hs i E)
def fN(d:Option Nat):List Nat:=match d with
 |some d=>[d]
 |none=>[]
theorem Tp(s:S)(d:Option Nat)(v:V)(k:Nat)(h:k∉fN d):lk (s.putO d v).fr k=lk s.fr k:=by
 cases d with
 |none=>rfl|some j=>
  have a:k≠j:=λe=>h (by simp[fN,e]);have:c_ k j=false:=by
   cases b:c_ k j;·rfl
   ·exact absurd (a_ b) a
  show(bif c_ k j then some v else lk s.fr k)=_;rw[this];rfl
theorem Keeps.put(s:S)(d:Option Nat)(v:V):Keeps (fN d) s (s.putO d v):=λk z=>by rw[Tp s d v k z];exact⟨λ_ h _=>.inl h,id⟩
theorem Keeps.map(A:List Nat)(s s':S)(g:V->V)(hg:∀v,v.isD=true->mc g v=v)(z:s'.fr=s.fr.map λx=>(x.1,mc g x.2)):Keeps A s s':=λk _=>by
 have:lk s'.fr k=(lk s.fr k).map (mc g):=by rw[z];exact Ez (mc g) s.fr k
 refine⟨λv E hd=>.inl ?_,λh=>?_⟩;·rw[this,E];simp[hg v hd]
 ·rw[this,h];rfl
theorem Keeps.fr{A:List Nat}{s s':S}(h:s'.fr=s.fr):Keeps A s s':=λk _=>by rw[h];exact⟨λ_ h _=>.inl h,id⟩
section
variable {R:Type} {P:Program} {O:ak} {d:Option Nat} {s:S} {κ kp:S->Option R} {r:R}
def Pu(P:Program)(s:S)(op:SOp)(d:Option Nat)(κ:S->Option R)(r:R):Prop:=∃v,jp P (enc s) op (λy=>y=aS v)/\κ (s.putO d v)=some r
theorem ca{α β:Type}{o:Option α}{f:α->Option β}{b:β}(h:f_ o f=some b):∃a,o=some a/\f a=some b:=by cases o with|none=>cases h|some a=>exact⟨a,rfl,h⟩
theorem bm{α:Type}{b:Bool}{x:Option α}{a:α}(h:aK b x=some a):b=true/\x=some a:=by
 cases b;·cases h
 ·exact⟨rfl,h⟩
theorem aN{α:Type}{b:Bool}{x:Option α}{a:α}(h:(bif b then x else none)=some a):b=true/\x=some a:=by
 cases b;·cases h
 ·exact⟨rfl,h⟩
theorem Da{α:Type}{xs:List α}{i:Int}{x:α}(h:bF xs i=some x):0<=i/\xs[i.toNat]? =some x:=by unfold bF at h;obtain⟨a,b⟩:=aN h;exact⟨by simpa using a,b⟩
theorem T2{x:X}(b:x.wf=true)(h:evOp O d (.mv x) s κ kp=some r):Pu P s (.mv x.er) d κ r:=by
 simp only[evOp]at h;split at h;·rename_i v a;exact⟨v,⟨_,au b a,rfl⟩,h⟩
 ·cases h
theorem Hm(a:List UInt8):(⟨a.toArray⟩:ByteArray).toList=a:=by rw[ByteArray.toList_eq]
theorem zc(a:List UInt8):(⟨a.toArray⟩:ByteArray).size=a.length:=by show a.toArray.size=a.length;simp
theorem O9(a b:List UInt8):(⟨a.toArray⟩:ByteArray)++(⟨b.toArray⟩:ByteArray)=⟨(a++b).toArray⟩:=by apply ByteArray.ext;rw[ByteArray.data_append];simp
theorem MB{op:BinOp}{k j:IntKind}{a b:Int}{e:V->Option R}(h:S2 op k j a b e=some r):∃v,IG op (.int k a) (.int j b) (λu=>AV.v u=aS v)/\e v=some r:=by
 cases op<;>simp only[S2]at h;case shl=>obtain⟨c,d⟩:=bm h;exact⟨_,⟨by simpa using c,rfl⟩,d⟩
 case shr=>obtain⟨c,d⟩:=bm h;exact⟨_,⟨by simpa using c,rfl⟩,d⟩
 case quo=>obtain⟨c,d⟩:=aN h;obtain⟨f,g⟩:=bm d;exact⟨_,⟨by simpa using c,by simpa using f,rfl⟩,g⟩
 case rem=>obtain⟨c,d⟩:=aN h;obtain⟨f,g⟩:=bm d;exact⟨_,⟨by simpa using c,by simpa using f,rfl⟩,g⟩
 all_goals (obtain⟨c,d⟩:=aN h;exact⟨_,⟨by simpa using c,rfl⟩,d⟩)
theorem MC{op:BinOp}{a b:List UInt8}{c:V->Option R}(h:S3 op a b c=some r):∃v,IG op (.string ⟨a.toArray⟩) (.string ⟨b.toArray⟩) (λu=>AV.v u=aS v)/\c v=some r:=by
 cases op<;>simp only[S3]at h;case add=>obtain⟨d,e⟩:=bm h;refine⟨_,⟨by rw[zc,zc];simpa using d,?_⟩,e⟩;rw[O9];rfl
 all_goals first
  |(cases h;done)
  |exact⟨_,by simp only[IG,Hm];rfl,h⟩
theorem RP{op:BinOp}{x y:X}(c:x.wf=true/\y.wf=true)(h:evOp O d (.bin op x y) s κ kp=some r):Pu P s (.bin op x.er y.er) d κ r:=by
 simp only[evOp]at h;split at h;·rename_i k a l b g j;obtain⟨v,e,f⟩:=MB h;exact⟨v,⟨_,au c.1 g,_,au c.2 j,_,rfl,_,rfl,e⟩,f⟩
 ·rename_i a b g j;obtain⟨v,e,f⟩:=MC h;exact⟨v,⟨_,au c.1 g,_,au c.2 j,_,rfl,_,rfl,e⟩,f⟩
 ·cases h
theorem OK{c a b:X}(g:c.wf=true/\a.wf=true/\b.wf=true)(h:evOp O d (.pick c a b) s κ kp=some r):Pu P s (.pick c.er a.er b.er) d κ r:=by
 simp only[evOp]at h;split at h
 ·rename_i t x y u z hc j k;split at h
  ·rename_i p n;obtain⟨l,rfl⟩:=bw n;refine⟨_,⟨_,au g.1 hc,_,rfl,t,rfl,λf=>⟨_,au g.2.1 j,?_⟩,λf=>⟨_,au g.2.2 k,?_⟩⟩,h⟩;·subst f;rfl
   ·subst f;show AV.b (.pv (aG _ z))=AV.b (.pv (aG _ p));rw[l]
  ·cases h
 ·rename_i t x u z hc j k;obtain⟨f,h⟩:t=false/\κ (s.putO d (.d u z))=some r:=by cases t<;>first|exact⟨rfl,h⟩|cases h
  exact⟨_,⟨_,au g.1 hc,_,rfl,t,rfl,λe=>(by rw[f]at e;cases e),λ_=>⟨_,au g.2.2 k,rfl⟩⟩,h⟩
 ·rename_i t u z x hc j k;obtain⟨f,h⟩:t=true/\κ (s.putO d (.d u z))=some r:=by cases t<;>first|exact⟨rfl,h⟩|cases h
  exact⟨_,⟨_,au g.1 hc,_,rfl,t,rfl,λ_=>⟨_,au g.2.1 j,rfl⟩,λe=>(by rw[f]at e;cases e)⟩,h⟩
 ·cases h
theorem RR{neg:Bool}{x y:X}(c:x.wf=true/\y.wf=true)(h:evOp O d (.eqB neg x y) s κ kp=some r):Pu P s (.eqB neg x.er y.er) d κ r:=by
 simp only[evOp]at h;split at h;·rename_i a b e f;exact⟨_,⟨_,au c.1 e,_,au c.2 f,_,rfl,_,rfl,_,rfl,_,rfl,rfl⟩,h⟩
 ·cases h
theorem T3{op:UnOp}{x:X}(c:x.wf=true)(h:evOp O d (.un op x) s κ kp=some r):Pu P s (.un op x.er) d κ r:=by
 simp only[evOp]at h;split at h;·rename_i a b;exact⟨_,⟨_,au c b,_,rfl,show _=_ from rfl⟩,h⟩
 ·rename_i k a b;exact⟨_,⟨_,au c b,_,rfl,show _=_ from rfl⟩,h⟩
 ·cases h
theorem RZ{str:Bool}{x:X}(c:x.wf=true)(h:evOp O d (.len str x) s κ kp=some r):Pu P s (.len str x.er) d κ r:=by
 simp only[evOp]at h;split at h;·rename_i a b;refine⟨_,⟨_,au c b,_,rfl,_,rfl,?_⟩,h⟩;show AV.v (.int .i64 ((⟨a.toArray⟩:ByteArray).size:Nat))=_;rw[zc];rfl
 ·rename_i t a b;refine⟨_,⟨_,au c b,.inr (.inl ⟨_,_,rfl,?_⟩)⟩,h⟩;show AV.v (.int .i64 ((a.map _).length:Nat))=_;rw[d_];rfl
 ·rename_i t b;exact⟨_,⟨_,au c b,.inl ⟨rfl,rfl⟩⟩,h⟩
 ·rename_i id b;split at h;·rename_i e t xs f;refine⟨_,⟨_,au c b,.inr (.inr (.inl ⟨id,e,_,_,rfl,by rw[bA,f];rfl,?_⟩))⟩,h⟩;show AV.v (.int .i64 ((xs.map _).length:Nat))=_;rw[d_];rfl
  ·rename_i e k t xs hole f;refine⟨_,⟨_,au c b,.inr (.inr (.inr (.inr ⟨id,e,_,k,_,_,rfl,by rw[bA,f];rfl,?_⟩)))⟩,h⟩;show AV.v (.int .i64 ((xs.map _).length:Nat))=_;rw[d_];rfl
  ·cases h
 ·cases h
theorem OF{k e:TypeId}{x:X}(n:x.wf=true)(h:evOp O d (.lenM k e x) s κ kp=some r):Pu P s (.lenM k e x.er) d κ r:=by
 simp only[evOp]at h;split at h
 ·rename_i id p;split at h;·rename_i v u a b kvs l;obtain⟨c,j⟩:=aN h;rw[b_]at c;have f:=a_ c.1;have g:=a_ c.2;subst f;subst g;refine⟨_,⟨_,au n p,id,_,rfl,by rw[bA,l];rfl,?_⟩,j⟩;show AV.v (.int .i64 ((kvs.map _).length:Nat))=_;rw[d_];rfl
  ·cases h
 ·cases h
theorem fb{o:Option V}{f:Int->Option R}(h:intOf o f=some r):∃k n,o=some (.d (.int k) n)/\f n=some r:=by
 unfold intOf at h;split at h;·exact⟨_,_,rfl,h⟩
 ·cases h
theorem OD{x i:X}(e:x.wf=true/\i.wf=true)(h:evOp O d (.idxS x i) s κ kp=some r):Pu P s (.idxS x.er i.er) d κ r:=by
 simp only[evOp]at h;split at h;·rename_i a l;obtain⟨k,n,g,h⟩:=fb h;obtain⟨c,hc,h⟩:=ca h;obtain⟨f,b⟩:=Da hc;have j:=(g_.1 b).1;refine⟨_,⟨_,au e.1 l,_,au e.2 g,_,rfl,_,rfl,_,_,rfl,_,rfl,f,by rw[zc];omega,?_⟩,h⟩;rw[Hm];simp only[P_,b,w_];rfl
 ·cases h
theorem Oz{k:IntKind}{x:X}(a:x.wf=true)(h:evOp O d (.cvtI k x) s κ kp=some r):Pu P s (.cvtI k x.er) d κ r:=by
 simp only[evOp]at h;split at h;·rename_i c n b;exact⟨_,⟨_,au a b,_,rfl,_,_,rfl,rfl⟩,h⟩
 ·cases h
theorem RU{x:X}{i:Nat}(e:x.wf=true)(h:evOp O d (.ext x i) s κ kp=some r):Pu P s (.ext x.er i) d κ r:=by
 simp only[evOp]at h;split at h
 ·rename_i vs f;split at h;·rename_i v c;obtain⟨a,b⟩:=aN h;refine⟨v,⟨_,au e f,.inr ⟨_,rfl,aO v,by rw[r_,c];rfl,?_⟩⟩,b⟩;cases v<;>first|rfl|cases a
  ·cases h
 ·cases h
end
section
variable {R:Type} {P:Program} {O:ak} {d:Option Nat} {s:S} {κ kp:S->Option R} {r:R}
theorem JD{p:PV}{off:Nat}{u:Ty}{y:u.den}(a:((p.cells).drop off).take u.sz=aC u y)(d:off+u.sz<=p.cells.length):p.sub off u.sz u.ag=aG u y:=by
 cases c:u.ag
 ·have hs:=eA c;rw[hs,dc y c]at a;have b:off<p.cells.length:=by omega
  rw[U_ b]at a;simp only[ag_,aD_,List.cons.injEq,and_true]at a;simp only[PV.sub,P_,Y_ b,w_];exact a
 ·simp only[PV.sub];rw[dI y c,<-a]
theorem Aj(l:List PV):(l.map BV.pv).mapM BV.toPV=some l:=by induction l with|nil=>rfl|cons x l a=>rw[m_,j_,a];rfl
theorem zp{α:Type}(l m:List α)(k n:Nat)(h:l.length=n):(l++m).drop (k+n)=m.drop k:=by rw[<-h,Nat.add_comm,aq_];simp
def Qw(t:Ty)(n:Nat)(m:Int)(c:t.den)(cs:List PV):Prop:=∃k:Nat,m=(k:Int)/\k<n/\(cs.drop (k*t.sz)).take t.sz=aC t c/\k*t.sz+t.sz<=cs.length
theorem ET{t:Ty}{n:Nat}{m:Int}{c x:t.den}{cs:List PV}{o:Option t.den}(h:(bif decide (m=0)then some x else o)=some c)(hr:o=some c->Qw t n (m - 1) c cs):Qw t (n+1) m c (aC t x++cs):=by
 by_cases a:m=0
 ·subst a;simp only[decide_true,cond_true,e_]at h;subst h;refine⟨0,rfl,by omega,?_,?_⟩;·rw[aJ_,G_,v_ (by rw[aD];exact z_ _),p_ (by rw[aD];exact z_ _)]
  ·simp[aD]
 ·simp only[a,decide_false,cond_false]at h;obtain⟨k,f,d,b,e⟩:=hr h;refine⟨k+1,by omega,by omega,?_,?_⟩;·rw[X_,av_,zp _ _ _ _ (aD t x),b]
  ·rw[x_,aD t x,X_];omega
theorem H2(t:Ty):∀(n:Nat) (v:V) (m:Int) (c:t.den) (cs:List PV),rowAt t n v m=some c->((cn v).map aO).mapM BV.toPV=some cs->Qw t n m c cs:=by
 intro n;induction n with
 |zero=>intro v m c cs h;simp[rowAt]at h|succ n g=>
  intro v m c cs h hcs;cases v with
  |d u x=>
   cases u with
   |pair a b=>
    simp only[rowAt]at h;have hc:cs=aC a x.1++aC b x.2:=by rw[show cn (V.d (.pair a b) x)=fY (.pair a b) x from rfl,(cW (.pair a b) x).1,Aj]at hcs;cases hcs;rfl
    split at h
    ·rename_i y r;obtain⟨k,rfl⟩:=bw r;have:aC a x.1=aC a y:=by show(aG _ _).cells=(aG _ _).cells;rw[k]
     rw[hc,this];exact ET h λh=>g (.d b x.2) (m - 1) c _ h (by rw[show cn (V.d b x.2)=fY b x.2 from rfl,(cW b x.2).1,Aj])
    ·cases h
   |_=>simp[rowAt]at h
  |agg vs=>
   simp only[rowAt]at h;split at h;·rename_i x l p;obtain⟨j,rfl,f⟩:=vI t vs x l p;rw[show cn (V.agg (j++l))=j++l from rfl,C_,aa_,f]at hcs;simp only[ah_,q_]at hcs;cases hl:(l.map aO).mapM BV.toPV with|none=>rw[hl]at hcs;cases hcs|some e=>rw[hl]at hcs;simp only[q_,aA_,e_]at hcs;rw[<-hcs];exact ET h λh=>g (.agg l) (m - 1) c e h hl
   ·cases h
  |_=>simp[rowAt]at h
theorem mapM_len{α β:Type}{f:α->Option β}:∀{l:List α} {m:List β},l.mapM f=some m->m.length=l.length
 |[],m,h=>by cases h;rfl
 |x::l,m,h=>by rw[j_]at h;cases a:f x with|none=>rw[a]at h;cases h|some y=>cases hl:l.mapM f with|none=>rw[a,hl]at h;cases h|some b=>rw[a,hl]at h;cases h;simp[mapM_len hl]
theorem Nn(t:Ty):∀(n:Nat) (vs:List V) (m:Int) (c:t.den),rowAt t n (.agg vs) m=some c->∃j:Nat,m=(j:Int)/\j<n/\(((vs.drop (j*t.sz)).take t.sz).map aO).mapM BV.toPV=some (aC t c)/\j*t.sz+t.sz<=vs.length:=by
 intro n;induction n with
 |zero=>intro vs m c h;simp[rowAt]at h|succ n k=>
  intro vs m c h;simp only[rowAt]at h;split at h
  ·rename_i x l g;obtain⟨p,rfl,b⟩:=vI t vs x l g;have a:p.length=t.sz:=by have:=mapM_len b;rw[aD,d_]at this;exact this.symm
   by_cases d:m=0;·subst d;simp only[decide_true,cond_true,e_]at h;subst h;refine⟨0,rfl,by omega,?_,by simp[a]⟩;rw[aJ_,G_,v_ (by omega),p_ (by omega)];exact b
   ·simp only[d,decide_false,cond_false]at h;obtain⟨j,s,f,e,r⟩:=k l (m - 1) c h;refine⟨j+1,by omega,by omega,?_,?_⟩;·rw[X_,av_,zp _ _ _ _ a];exact e
    ·rw[x_,a,X_];omega
  ·cases h
theorem B0(t:Ty)(cs:List V)(h:t.ag=false->cs≠[]):aS (whole t cs)=mR t.ag (cs.map aO):=by
 unfold whole;cases a:t.ag;·cases cs with|nil=>exact absurd rfl (h a)|cons v cs=>cases v<;>rfl
 ·rfl
theorem vL:∀(vs:List V),vs.all V.cellD=true->∃cs,(vs.map aO).mapM BV.toPV=some cs
 |[],_=>⟨[],rfl⟩
 |v::vs,h=>by
  simp only[s_,b_]at h;obtain⟨cs,hcs⟩:=vL vs h.2;have:∃p,(aO v).toPV=some p:=by cases v<;>first|exact⟨_,rfl⟩|(have:=h.1;simp[V.cellD]at this)
  obtain⟨p,hp⟩:=this;exact⟨p::cs,by simp only[m_,j_,hp,hcs];rfl⟩
theorem Uy{v:V}{cs:List PV}(h:((cn v).map aO).mapM BV.toPV=some cs)(c:(∃a b x,v= .d (.pair a b) x)\/∃vs,v= .agg vs):∃p,(aS v).toPV=some p/\p.cells=cs/\p.isAgg=true:=by
 rcases c with⟨a,b,x,rfl⟩|⟨vs,rfl⟩;·rw[show cn (V.d (.pair a b) x)=fY (.pair a b) x from rfl,(cW (.pair a b) x).1,Aj]at h;cases h;exact⟨_,rfl,rfl,rfl⟩
 ·refine⟨.agg cs,?_,rfl,rfl⟩;show((vs.map aO).mapM BV.toPV).map PV.agg=_;rw[show cn (V.agg vs)=vs from rfl]at h;rw[h];rfl
theorem Nm{t:Ty}{n:Nat}{v:V}{m:Int}{c:t.den}(h:rowAt t n v m=some c):(∃a b x,v= .d (.pair a b) x)\/∃vs,v= .agg vs:=by
 cases n with
 |zero=>simp[rowAt]at h|succ n=>
  cases v with
  |d u x=>cases u with
   |pair a b=>exact .inl ⟨a,b,x,rfl⟩
   |_=>simp[rowAt]at h
  |agg vs=>exact .inr ⟨vs,rfl⟩|_=>simp[rowAt]at h
theorem OE{n:Nat}{t:Ty}{x i:X}(A:x.wf=true/\i.wf=true)(h:evOp O d (.idxV n t x i) s κ kp=some r):Pu P s (.idxV n t.sz t.ag x.er i.er) d κ r:=by
 simp only[evOp]at h;split at h
 ·rename_i v F;obtain⟨l,h⟩:=aN h;rw[b_]at l;obtain⟨k,m,D,h⟩:=fb h;obtain⟨c,hc,f⟩:=ca h;have z:=Nm hc;obtain⟨cs,hcs⟩:∃cs,((cn v).map aO).mapM BV.toPV=some cs:=by
   rcases z with⟨a,b,y,rfl⟩|⟨vs,rfl⟩;·exact⟨_,by rw[show cn (V.d (.pair a b) y)=fY (.pair a b) y from rfl,(cW (.pair a b) y).1,Aj]⟩
   ·exact vL vs l.2
  obtain⟨p,hp,e,w⟩:=Uy hcs z;obtain⟨j,rfl,I,B,C⟩:=H2 t n v m c cs hc hcs;have g:cs.length=n*t.sz:=by have:=a_ l.1;have H:=congrArg au_ e;have E:cs.length=((cn v).map aO).length:=mapM_len hcs;rw[E,d_,this]
  refine⟨_,⟨_,au A.1 F,_,au A.2 D,_,rfl,_,_,rfl,p,hp,by omega,by omega,eA,by rw[e,g],w,?_⟩,f⟩;show AV.p (p.sub ((j:Int).toNat*t.sz) t.sz t.ag)=AV.p (aG t c);rw[JD (u:=t) (y:=c)];·rw[e];exact B
  ·rw[e];exact C
 ·cases h
theorem OB{t:Ty}{x i:X}(b:x.wf=true/\i.wf=true)(h:evOp O d (.idxA t x i) s κ kp=some r):Pu P s (.idxA t.sz x.er i.er) d κ r:=by
 simp only[evOp]at h;split at h
 ·rename_i id v;split at h
  ·rename_i e u xs y;obtain⟨f,j⟩:=aN h;have z:u=t:=by simpa using f
   obtain⟨k,m,n,l⟩:=fb j;obtain⟨c,hc,w⟩:=ca l;clear h f j l;subst z;obtain⟨g,a⟩:=Da hc;have p:=(g_.1 a).1;refine⟨_,⟨_,au b.1 v,_,au b.2 n,_,rfl,_,_,rfl,.inr ⟨id,rfl,_,by rw[bA,y];rfl,.inl ⟨e,_,rfl,g,?_,show _=_ from rfl⟩⟩⟩,w⟩;rw[d_];omega
  ·rename_i e kk u xs hole y;obtain⟨f,j⟩:=aN h;have z:u=t:=by simpa using f
   obtain⟨k,m,n,l⟩:=fb j;obtain⟨c,hc,w⟩:=ca l;clear h f j l;subst z;obtain⟨g,a⟩:=Da hc;have p:=(g_.1 a).1;refine⟨_,⟨_,au b.1 v,_,au b.2 n,_,rfl,_,_,rfl,.inr ⟨id,rfl,_,by rw[bA,y];rfl,.inr ⟨e,kk,_,_,rfl,g,?_,show _=_ from rfl⟩⟩⟩,w⟩;rw[d_];omega
  ·cases h
 ·rename_i u xs v;split at h
  ·rename_i ys B;obtain⟨A,C⟩:=bw B;obtain⟨k,m,n,h⟩:=fb h;obtain⟨c,hc,h⟩:=ca h;obtain⟨g,a⟩:=Da hc;have p:=(g_.1 a).1;refine⟨_,⟨_,au b.1 v,_,au b.2 n,_,rfl,_,_,rfl,.inl ⟨ys.map (aG t),?_,g,?_,?_⟩⟩,h⟩;·show AV.p (aG _ _)=_;rw[<-A];rfl
   ·rw[d_];omega
   ·show AV.p (.pto ((ys.map (aG t)).getD m.toNat .any))=_;simp only[P_,r_,a,M_,w_];rfl
  ·cases h
 ·cases h
theorem OC{n:Nat}{t:Ty}{x i:X}(e:x.wf=true/\i.wf=true)(h:evOp O d (.idxP n t x i) s κ kp=some r):Pu P s (.idxP n t.sz t.ag x.er i.er) d κ r:=by
 simp only[evOp]at h;split at h;·rename_i id off k m g;obtain⟨a,h⟩:=bm h;simp only[b_,decide_eq_true_eq]at a;exact⟨_,⟨_,au e.1 g,_,au (s:=s) e.2 rfl,_,rfl,k,_,rfl,a.1,a.2,.inl ⟨id,off,rfl,rfl⟩⟩,h⟩
 ·rename_i id off g w;obtain⟨k,m,l,h⟩:=fb h;obtain⟨a,h⟩:=bm h;simp only[b_,decide_eq_true_eq]at a;exact⟨_,⟨_,au e.1 g,_,au e.2 l,_,rfl,k,_,rfl,a.1,a.2,.inl ⟨id,off,rfl,rfl⟩⟩,h⟩
 ·rename_i u y g;obtain⟨a,h⟩:=aN h;simp only[b_]at a;have hsz:=a_ a.1;obtain⟨k,m,l,h⟩:=fb h;obtain⟨c,hc,f⟩:=ca h;have hcs:((cn (.d u y)).map aO).mapM BV.toPV=some (aC u y):=by rw[show cn (V.d u y)=fY u y from rfl,(cW u y).1,Aj]
  obtain⟨j,rfl,z,p,v⟩:=H2 t n _ m c _ hc hcs;have b:(aG u y).sub ((j:Int).toNat*t.sz) t.sz t.ag=aG t c:=JD p v;refine⟨_,⟨_,au e.1 g,_,au e.2 l,_,rfl,k,_,rfl,by omega,by omega,.inr ⟨aG u y,rfl,?_,eA,?_,?_⟩⟩,f⟩;·show(aC u y).length=_;rw[aD,hsz]
  ·rw[b,mD]
  ·rw[b];rfl
 ·cases h
theorem OA{off:Nat}{t:Ty}{x:X}(b:x.wf=true)(h:evOp O d (.fldA off t x) s κ kp=some r):Pu P s (.fldA off t.sz t.ag x.er) d κ r:=by
 simp only[evOp]at h;split at h
 ·rename_i u y a;split at h
  ·rename_i z g;obtain⟨e,f,c⟩:=Ah g;refine⟨_,⟨_,au b a,.inl ⟨aG u y,rfl,e,f,?_,?_⟩⟩,h⟩;·rw[c,mD]
   ·rw[c];rfl
  ·cases h
 ·rename_i id o a;exact⟨_,⟨_,au b a,.inr (.inl ⟨id,o,rfl,rfl⟩)⟩,h⟩
 ·rename_i id i o a;exact⟨_,⟨_,au b a,.inr (.inr ⟨id,i,o,rfl,rfl⟩)⟩,h⟩
 ·cases h
theorem BI{α:Type}{l:List α}{n off:Nat}(h:off+n<=l.length)(hn:n=1):(l.drop off).take n≠[]:=by intro e;have:=congrArg au_ e;simp only[ar_,Z_,List.length_nil]at this;omega
theorem RY{off:Nat}{t:Ty}{x:X}(e:x.wf=true)(h:evOp O d (.fld off t x) s κ kp=some r):Pu P s (.fld off t.sz t.ag x.er) d κ r:=by
 simp only[evOp]at h;split at h
 ·rename_i u y c;obtain⟨k,h⟩:=aN h;split at h
  ·rename_i z l;obtain⟨b,f,g⟩:=Ah l;refine⟨_,⟨_,au e c,.inl ⟨aG u y,rfl,?_,b,f,?_⟩⟩,h⟩;·rw[mD,k]
   ·rw[g];rfl
  ·cases h
 ·rename_i vs c;obtain⟨b,h⟩:=aN h;have a:=h_ b;refine⟨_,⟨_,au e c,.inr ⟨_,rfl,by rw[d_];exact a,eA,?_⟩⟩,h⟩;rw[B0 t _ λj=>BI a (eA j),K_,H_]
 ·cases h
theorem OG{t:Ty}{x:X}(F:x.wf=true)(h:evOp O d (.load t x) s κ kp=some r):Pu P s (.load t.sz t.ag x.er) d κ r:=by
 simp only[evOp,loadT]at h;split at h
 ·rename_i u y A;split at h;·rename_i z H;obtain⟨N,rfl⟩:=bw H;refine⟨_,⟨_,au F A,?_⟩,h⟩;show(aG u y).isAgg=_/\_/\AV.p (aG u y)=AV.p (aG u z);exact⟨mD u y,aD u y,by rw[N]⟩
  ·cases h
 ·rename_i id off A;split at h;·rename_i tid cs B;obtain⟨b,h⟩:=aN h;have D:=h_ b;refine⟨_,⟨_,au F A,?_⟩,h⟩;show aM _ _;refine⟨_,by rw[bA,B];rfl,tid,_,rfl,by rw[d_];exact D,eA,.inl ?_⟩;rw[B0 t _ λht=>BI D (eA ht),K_,H_]
  ·cases h
 ·rename_i id off n u m A;split at h
  ·rename_i tid cs B;obtain⟨b,h⟩:=aN h;simp only[b_,decide_eq_true_eq]at b;obtain⟨b,rfl⟩:=b;have D:=h_ b;obtain⟨c,hc,J⟩:=ca h;obtain⟨j,rfl,hj,a,_⟩:=Nn u n _ m c hc;have qr:j*u.sz+u.sz<=n*u.sz:=by have:=Nat.mul_le_mul_right u.sz (show j+1<=n from hj);rw[X_,av_]at this;exact this
   have Y:((((cs.drop off).take (n*u.sz)).drop (j*u.sz)).take u.sz)=(cs.drop (off+j*u.sz)).take u.sz:=by rw[aC_,List.take_take,aB_];congr 1;omega
   rw[Y]at a;generalize el:(cs.drop (off+j*u.sz)).take u.sz=l0 at a;refine⟨_,⟨_,au F A,?_⟩,J⟩;show aM _ _;refine⟨_,by rw[bA,B];rfl,tid,_,rfl,?_,eA,.inr ⟨aG u c,?_,rfl⟩⟩;·rw[d_];show off+(j:Int).toNat*u.sz+u.sz<=_;simp only[ak_];omega
   ·show(mR u.ag (((cs.map aO).drop (off+(j:Int).toNat*u.sz)).take u.sz)).toPV=_;rw[<-H_,<-K_,ak_,el];cases hu:u.ag
    ·rw[dc c hu]at a
     match l0,a with
     |[v],a=>simp only[m_,an_,j_,ai_]at a;cases hv:(aO v).toPV with|none=>rw[hv]at a;cases a|some p=>rw[hv]at a;cases a;exact hv
     |[],a=>cases a|v::w::l,a=>have:=mapM_len a;simp at this
    ·show(((l0.map aO).mapM BV.toPV).map PV.agg)=_;rw[a,dI c hu];rfl
  ·cases h
 ·rename_i id i off A;split at h
  ·rename_i e u xs B;obtain⟨M,h⟩:=aN h;obtain⟨y,E,h⟩:=ca h;split at h
   ·rename_i z H;obtain⟨b,I,C⟩:=Ah H;have g:=(g_.1 E).1;have f:(xs.map (aG u)).getD i .any=aG u y:=by simp only[P_,r_,E,M_,w_]
    refine⟨_,⟨_,au F A,?_⟩,h⟩;show aM _ _;refine⟨_,by rw[bA,B];rfl,.inl ⟨e,u.sz,_,rfl,by rw[d_];exact g,by have:=b;rw[show(aG u y).cells.length=u.sz from aD u y]at this;exact this,eA,?_⟩⟩;by_cases hs:t.sz=u.sz
    ·obtain⟨g1,g2⟩:=o9 u off t y z H;have L:off=0:=by omega
     subst L;have T:c_ t.sz u.sz=true:=by rw[hs];exact ap_ _
     rw[T]at M;have gc:u=t:=by simpa using M
     subst gc;have ph:aG u z=aG u y:=by rw[<-C];refine JD ?_ (by rw[O_];exact Nat.le_of_eq (aD u y).symm);rw[G_,p_ (by rw[aD];exact z_ _)]
     refine .inl ⟨rfl,rfl,?_,?_⟩;·rw[f,mD]
     ·rw[f];show AV.p (aG u y)=AV.p (aG u z);rw[ph]
    ·refine .inr ⟨hs,?_⟩;rw[f,C];rfl
   ·cases h
  ·rename_i e k u xs hole B;cases U:k.flatB off t.sz
   ·rw[U]at h;simp only[cond_false]at h;split at h
    ·rename_i hi hj v;obtain⟨b,Q⟩:=aN h;simp only[b_,E_]at b;obtain⟨⟨⟨b,I⟩,h5⟩,C⟩:=b;obtain⟨y,E,R⟩:=ca Q;obtain⟨h4,hb⟩:=bm R;have N:=a_ b;have e2:=a_ h4;have h6:=h_ h5;clear h b h4 h5;subst N;subst e2;have g:=(g_.1 E).1;split at C;·refine⟨_,⟨_,au F A,?_⟩,hb⟩;show aM _ _;refine⟨_,by rw[bA,B];rfl,.inr ⟨e,u.sz,k,_,_,rfl,by rw[d_];exact g,?_,eA,.inr ⟨_,rfl,eA I,I,rfl⟩⟩⟩;rw[eA I];exact h6
     ·cases C
    ·cases h
   ·rw[U]at h;simp only[cond_true]at h;obtain⟨y,E,h⟩:=ca h;split at h
    ·rename_i z H;obtain⟨b,I,C⟩:=Ah H;have g:=(g_.1 E).1;have f:(xs.map (aG u)).getD i .any=aG u y:=by simp only[P_,r_,E,M_,w_]
     refine⟨_,⟨_,au F A,?_⟩,h⟩;show aM _ _;refine⟨_,by rw[bA,B];rfl,.inr ⟨e,u.sz,k,_,_,rfl,by rw[d_];exact g,by have:=b;rw[show(aG u y).cells.length=u.sz from aD u y]at this;exact this,eA,.inl ⟨U,?_⟩⟩⟩;rw[f,C];rfl
    ·cases h
  ·cases h
 ·cases h
end
section
variable {R:Type} {P:Program} {O:ak} {d:Option Nat} {s:S} {κ kp:S->Option R} {r:R}
theorem fV{x:Option X}{a:Nat}{f:Nat->Option R}(g:Rt x=true)(h:xc s x a f=some r):∃n,f n=some r/\∀(K:Nat->Prop),K n->bnd (enc s) (M9 x) a K:=by cases x with|none=>exact⟨a,h,λK b=>b⟩|some x=>simp only[xc]at h;obtain⟨k,n,j,c⟩:=fb h;obtain⟨d,e⟩:=bm c;exact⟨n.toNat,e,λK b=>⟨_,au g j,_,rfl,k,n,rfl,by simpa using d,b⟩⟩
theorem lf{t:Ty}{o:Option V}{f:List t.den->Option R}(h:qP s.hp t o f=some r):∃v xs,o=some v/\f xs=some r/\(∀(K:List PV->Prop),K (xs.map (aG t))->nC (enc s).hp t.sz (aS v) K):=by
 unfold qP at h;split at h
 ·rename_i id;split at h
  ·rename_i e u xs n;split at h;·rename_i ys p;obtain⟨a,g⟩:=bD p;have j:=Ty.list.inj a;subst j;have k:ys=xs:=g;subst k;exact⟨_,ys,rfl,h,λK b=>.inr (.inr (.inl ⟨id,e,_,rfl,by rw[bA,n];rfl,b⟩))⟩
   ·cases h
  ·cases h
 ·rename_i v l;split at h
  ·rename_i xs c;refine⟨v,xs,rfl,h,λK b=>?_⟩;cases v<;>simp only[iy]at c<;>try cases c
   ·obtain⟨d,_⟩:=bw c;exact .inr (.inl ⟨_,by show AV.p _=_;rw[<-d];rfl,b⟩)
   ·obtain⟨a,rfl⟩:=bD c;cases a;exact .inl ⟨rfl,b⟩
   ·rename_i u y;obtain⟨a,rfl⟩:=bD c;cases a;exact .inr (.inr (.inr ⟨_,rfl,b⟩))
  ·cases h
 ·cases h
theorem Pv{t:Ty}{v:V}{f:List t.den->Option R}(c:∀id,v≠.sl id)(h:qP s.hp t (some v) f=some r):∃xs,f xs=some r/\(aS v).toPV=some (mb t.sz (xs.map (aG t))):=by
 unfold qP at h;split at h;·rename_i id a;cases a;exact absurd rfl (c id)
 ·rename_i d _ a;cases a;split at h;·rename_i xs b;exact⟨xs,h,by rw[HI b];exact nb b⟩
  ·cases h
 ·cases h
theorem Oi{t:Ty}(xs:List t.den)(l h:Nat):((xs.map (aG t)).take h).drop l=((xs.take h).drop l).map (aG t):=by rw[H_,K_]
theorem R0{full:Bool}{t:Ty}{x:X}{lo p mx:Option X}(c:x.wf=true/\Rt lo=true/\Rt p=true/\Rt mx=true)(h:evOp O d (.slc full t x lo p mx) s κ kp=some r):Pu P s (.slc t.sz x.er (M9 lo) (M9 p) (M9 mx)) d κ r:=by
 simp only[evOp]at h;have b:(!(mx.isSome&& !p.isSome))=true->(M9 mx).isSome=true->(M9 p).isSome=true:=by intro B L;cases mx<;>cases p<;>simp_all[M9]
 split at h
 ·rename_i id j;split at h;·rename_i e k u xs g M;obtain⟨B,C⟩:=aN h;simp only[b_,E_]at B;obtain⟨l,D,hl⟩:=fV c.2.1 C;obtain⟨n,E,z⟩:=fV c.2.2.1 D;obtain⟨m,F,A⟩:=fV c.2.2.2 E;obtain⟨H,I⟩:=aN F;obtain⟨a,w⟩:=bm I;obtain⟨y,f⟩:=bm w;simp only[b_,decide_eq_true_eq]at a;refine⟨_,⟨_,au c.1 j,.inr ⟨id,rfl,_,by rw[bA,M];rfl,e,k,xs.map (aG u),_,by rw[<-a_ B.1];rfl,hl _ ?_⟩⟩,f⟩;rw[d_];exact z _ (A _ ⟨b H,a.1.1,a.1.2,a.2,a_ y,rfl⟩)
  ·cases h
 ·rename_i J;cases j:s.get x with
  |none=>rw[j]at h;cases h|some v=>
   rw[j]at h;obtain⟨xs,C,hp⟩:=Pv (λid e=>J id (by rw[j,e])) h;obtain⟨l,D,hl⟩:=fV c.2.1 C;obtain⟨n,E,z⟩:=fV c.2.2.1 D;obtain⟨m,F,A⟩:=fV c.2.2.2 E;obtain⟨H,I⟩:=aN F;obtain⟨a,w⟩:=bm I;simp only[b_,decide_eq_true_eq]at a;have b:=b H;cases full with
   |false=>refine⟨_,⟨_,au c.1 j,.inl ⟨_,hp,_,rfl,hl _ ?_⟩⟩,w⟩;rw[d_];refine z _ (A _ ⟨b,a.1.1,a.1.2,a.2,.inl ?_⟩);rw[Oi];rfl|true=>
    obtain⟨y,f⟩:=bm w;simp only[b_,decide_eq_true_eq]at y;refine⟨_,⟨_,au c.1 j,.inl ⟨_,hp,_,rfl,hl _ ?_⟩⟩,f⟩;rw[d_];refine z _ (A _ ⟨b,a.1.1,a.1.2,a.2,.inr ⟨?_,y.2,?_⟩⟩);·cases mx<;>simp_all[M9]
    ·rw[Oi];rfl
theorem My(a:List UInt8)(l h:Nat):(⟨a.toArray⟩:ByteArray).extract l h=⟨((a.take h).drop l).toArray⟩:=by apply ByteArray.ext;rw[ByteArray.data_extract];apply Array.ext';rw[Array.toList_extract];simp[List.extract,aC_]
theorem OL{x:X}{lo c:Option X}(e:x.wf=true/\Rt lo=true/\Rt c=true)(h:evOp O d (.slcS x lo c) s κ kp=some r):Pu P s (.slcS x.er (M9 lo) (M9 c)) d κ r:=by
 simp only[evOp]at h;split at h;·rename_i a p;obtain⟨l,f,hl⟩:=fV e.2.1 h;obtain⟨n,g,k⟩:=fV e.2.2 f;obtain⟨b,j⟩:=bm g;simp only[b_,decide_eq_true_eq]at b;refine⟨_,⟨_,au e.1 p,_,rfl,_,rfl,hl _ ?_⟩,j⟩;rw[zc];refine k _ ⟨b.1,b.2,?_⟩;rw[My];rfl
 ·cases h
theorem OJ{x:X}(a:x.wf=true)(h:evOp O d (.nilc x) s κ kp=some r):Pu P s (.nilc x.er) d κ r:=by
 simp only[evOp]at h;split at h
 ·rename_i v b;split at h;·exact⟨_,⟨_,au a b,.inl ⟨_,rfl⟩,rfl⟩,h⟩
  ·exact⟨_,⟨_,au a b,.inr (.inl ⟨_,_,rfl⟩),rfl⟩,h⟩
  ·exact⟨_,⟨_,au a b,.inr (.inl ⟨_,_,rfl⟩),rfl⟩,h⟩
  ·exact⟨_,⟨_,au a b,.inr (.inr (.inl ⟨_,_,_,rfl⟩)),rfl⟩,h⟩
  ·exact⟨_,⟨_,au a b,.inr (.inr (.inr (.inr ⟨_,_,rfl⟩))),rfl⟩,h⟩
  ·exact⟨_,⟨_,au a b,.inr (.inr (.inr (.inl ⟨_,_,rfl⟩))),rfl⟩,h⟩
  ·cases h
 ·cases h
theorem sC{v:V}(h:v.okB=true):(aS v).ok=true/\(cn v).map aO=(aS v).cells:=by
 have g:∀vs,v≠.tup vs:=λvs e=>by subst e;cases h
 refine⟨?_,MG v g⟩;have hc:∀u:V,u.cellB=true->(aO u).cellOk=true:=by
  intro u a;cases u<;>simp only[V.cellB]at a<;>try cases a
  ·rename_i t x;have c:t.ag=false:=by simpa using a
   have:=Ab t x;rw[dc x c]at this;have b:(aG t x).cellOk=true:=by simpa using this
   exact b
  all_goals first
   |rfl
   |skip
  rename_i v;show(bn v).cellOk=true;unfold bn;split;·rfl
  ·exact a
 cases v with
 |d t x=>show((AV.b (.pv (aG t x))).cells.all BV.cellOk)=true;show((aC t x).map BV.pv).all BV.cellOk=true;rw[aG_];exact Ab t x|agg vs=>show(vs.map aO).all BV.cellOk=true;rw[aG_];simp only[V.okB,n_]at h⊢;exact λu a=>hc u (h u a)|tup vs=>cases h|raw v=>
  show(AV.b (bn v)).cells.all BV.cellOk=true;have j:=hc (.raw v) h;show(AV.b (bn v)).cells.all BV.cellOk=true;unfold bn;split;·rfl
  ·have b:v.oneCell'=true:=h;show([PV.sc v].map BV.pv).all BV.cellOk=true;simp[BV.cellOk,PV.cellOk,b]
 |full t x=>rfl|nil t=>rfl|sl id=>rfl|ptr id o=>rfl|elt id i o=>rfl|dp t x=>rfl|clo f ids=>rfl|fnD f cs=>rfl|mp id=>rfl|pel id off n t i=>rfl|any=>cases h|lit k t x=>cases h|ifc=>rfl
theorem N1{t:Ty}{v:V}{x:t.den}(h:cG t v=some x):v.okB=true:=by
 have hl:∀(u:Ty) (v:V) (y:u.den),u.ag=false->iy u v=some y->v.cellB=true:=by
  intro u v y D h;cases v<;>simp only[iy]at h<;>try cases h
  ·obtain⟨_,rfl⟩:=bw h;simp[V.cellB,D]
  ·rfl
  ·rfl
 have A:∀(t:Ty) (l:List V) (x:t.den) (m:List V),NT t l=some (x,m)->∃g,l=g++m/\g.all V.cellB=true:=by
  intro t;have one:∀(t:Ty) (l:List V) (x:t.den) (m:List V),t.ag=false->(match l with
   |v::l=>match iy t v with
    |some x=>some (x,l)
    |none=>none
   |[]=>none)=some (x,m)->∃g,l=g++m/\g.all V.cellB=true:=by
   intro t l x m C h
   split at h
   ·rename_i v l';split at h;·rename_i y f;simp only[e_,ac_.injEq]at h;obtain⟨_,rfl⟩:=h;exact⟨[v],rfl,by simp[hl t v y C f]⟩
    ·cases h
   ·cases h
  induction t with
  |unit=>intro l x m h;simp only[NT,e_,ac_.injEq]at h;obtain⟨_,rfl⟩:=h;exact⟨[],rfl,rfl⟩
  |pair a b n r=>
   intro l x m h;simp only[NT]at h;split at h
   ·rename_i y l1 f;split at h;·rename_i z l2 j;simp only[e_,ac_.injEq]at h;obtain⟨_,rfl⟩:=h;obtain⟨p,rfl,hp⟩:=n _ _ _ f;obtain⟨q,rfl,B⟩:=r _ _ _ j;exact⟨p++q,by simp,by rw[aw_,hp,B];rfl⟩
    ·cases h
   ·cases h
  |rx=>
   intro l x m h;unfold NT at h;split at h
   ·rename_i a b c e l';split at h;·rename_i E F H I f j s w;simp only[e_,ac_.injEq]at h;obtain⟨_,rfl⟩:=h;refine⟨[a,b,c,e],rfl,?_⟩;simp[hl _ a _ rfl f,hl _ b _ rfl j,hl _ c _ rfl s,hl _ e _ rfl w]
    ·cases h
   ·cases h
  |int k=>intro l x m h;exact one (.int k) l x m rfl h|bool=>intro l x m h;exact one .bool l x m rfl h|str=>intro l x m h;exact one .str l x m rfl h|list t _=>intro l x m h;exact one (.list t) l x m rfl h
 cases v with
 |agg vs=>
  simp only[cG]at h;split at h
  ·split at h;·rename_i y f;obtain⟨g,rfl,j⟩:=A t _ _ _ f;rw[ax_];exact j
   ·cases h
  ·cases h
 |d t x=>rfl|nil t=>rfl|full t x=>rfl|_=>simp[cG,iy]at h
theorem Ow{tid:TypeId}{t:Ty}{x:X}(c:x.wf=true)(h:evOp O d (.boxD tid t x) s κ kp=some r):Pu P s (.boxD tid x.er) d κ r:=by
 simp only[evOp]at h;split at h;·cases h
 ·rename_i v a f;split at h
  ·rename_i y b;refine⟨_,⟨_,au c f,_,dH b,(sC (N1 b)).1,λq e=>?_,rfl⟩,h⟩;cases v<;>try cases e
   ·rename_i u z;exact a u z rfl
   ·rename_i v;simp[cG,iy]at b
  ·cases h
 ·cases h
theorem LH{tid:TypeId}{x:X}(a:x.wf=true)(h:evOp O d (.iface tid x) s κ kp=some r):Pu P s (.iface tid x.er) d κ r:=by
 simp only[evOp]at h;split at h;·rename_i v b;exact⟨_,⟨_,au a b,rfl⟩,h⟩
 ·cases h
end
section
variable {R:Type} {P:Program} {O:ak} {d:Option Nat} {s:S} {κ kp:S->Option R} {r:R}
theorem qy(cs:List V)(off:Nat)(vs:List V):(i7 cs off vs).map aO=splice (cs.map aO) off (vs.map aO):=by simp[i7,splice,K_,H_]
theorem ze:∀(parts:List (Nat×Nat×X)) (cs:List V) (f:List V->Option R),parts.all (λq=>q.2.2.wf)=true->evOp.buildT s cs parts f=some r->
 ∃d b,((parts.map λq=>(q.1,q.2.1,q.2.2.er)).mapM λq=>((enc s).get q.2.2).map λa=>(q.1,q.2.1,a))=some d/\(∀q∈d,q.2.2.ok=true/\q.2.2.cells.length=q.2.1/\q.1+q.2.1<=cs.length)/\b.map aO=d.foldl (λcs q=>splice cs q.1 q.2.2.cells) (cs.map aO)/\f b=some r
 |[],cs,f,_,h=>⟨[],cs,rfl,λq c=>(by cases c),rfl,h⟩
 |(off,sz,x)::l,cs,f,j,h=>by
  simp only[s_,b_]at j;simp only[evOp.buildT]at h;split at h
  ·rename_i v z;obtain⟨e,y⟩:=aN h;simp only[b_]at e;have hsz:=a_ e.1.1;have g:=h_ e.1.2;obtain⟨A,k⟩:=sC e.2;obtain⟨d,b,n,p,u,w⟩:=ze l _ f j.2 y;have hl:(i7 cs off (cn v)).length=cs.length:=by simp only[i7,x_,ar_,Z_];omega
   refine⟨(off,sz,aS v)::d,b,?_,λq c=>?_,?_,w⟩;·rw[m_,j_];simp only[au j.1 z,n];rfl
   ·rcases D_.1 c with rfl|c;·exact⟨A,by show(aS v).cells.length=sz;rw[<-k,d_,hsz],g⟩
    ·have:=p q c;rw[hl]at this;exact this
   ·rw[u,qy,k];rfl
  ·cases h
theorem LF{zero:List V}{parts:List (Nat×Nat×X)}(a:zero.all V.konst=true/\parts.all (λq=>q.2.2.wf)=true)(h:evOp O d (.build zero parts) s κ kp=some r): Pu P s (.build (zero.map Au) (parts.map λq=>(q.1,q.2.1,q.2.2.er))) d κ r:=by
 simp only[evOp]at h;obtain⟨n,b,c,e,f,g⟩:=ze parts zero _ a.2 h;have l:(zero.map Au).map (λv=>bn v)=zero.map aO:=by rw[i_];exact k_ λv k=>vU (n_.1 a.1 v k)
 refine⟨_,⟨n,c,λq j=>by rw[d_];exact e q j,?_⟩,g⟩;rw[l,<-f];rfl
theorem ng{t:Ty}:∀(parts:List X) (f:List t.den->Option R),parts.all X.wf=true->evOp.listT s t parts f=some r->∃xs:List t.den,(parts.map X.er).mapM (λx=>((enc s).get x).bind AV.toPV)=some (xs.map (aG t))/\xs.length=parts.length/\f xs=some r
 |[],f,_,h=>⟨[],rfl,rfl,h⟩
 |x::l,f,a,h=>by
  simp only[s_,b_]at a;simp only[evOp.listT]at h;split at h
  ·rename_i v e;split at h;·rename_i y g;obtain⟨xs,b,c,d⟩:=ng l _ a.2 h;refine⟨y::xs,?_,by simp[c],d⟩;rw[m_,j_,b];simp only[au a.1 e,q_,dH g];rfl
   ·cases h
  ·cases h
theorem ju{t:Ty}(xs:List t.den):∀p∈xs.map (aG t),p.cells.length=t.sz/\p.ok=true:=λp hp=>by obtain⟨x,_,rfl⟩:=t_.1 hp;exact⟨aD t x,x6 t x⟩
theorem HX{tid:TypeId}{t:Ty}{len:Nat}{parts:List X}(g:parts.all X.wf=true)(h:evOp O d (.bslice false tid t len parts) s κ kp=some r):Pu P s (.bslice false tid t.sz len (parts.map X.er)) d κ r:=by simp only[evOp]at h;obtain⟨a,b⟩:=aN h;simp only[b_]at a;obtain⟨xs,c,e,f⟩:=ng parts _ g b;refine⟨_,⟨_,c,?_,h_ a.1.2,h_ a.2,ju xs,.inl rfl⟩,f⟩;rw[d_,e];exact a_ a.1.1
theorem Lx{k:Av.K}:∀(vs:List V) (a:List PV) (n:Nat),(vs.map aO).mapM BV.toPV=some a->(∀j,j<vs.length->(vs.getD j .any).isNil=(k.at (n+j)).isSome/\(vs.getD j .any).isRaw=false)->
 (vs.map aO).mapM BV.toPVn=some ((a.zipIdx n).map fun(y,j)=>if(k.at j).isSome then nilP else y)
 |[],a,n,h,_=>by simp at h;subst h;rfl
 |v::vs,a,n,h,f=>by
  simp only[m_,j_,ah_,aA_,Option.bind_eq_some_iff,e_]at h;obtain⟨p,c,b,g,rfl⟩:=h;have r:=Lx vs b (n+1) g λj l=>by have:=f (j+1) (by simpa using l);simpa[show n+(j+1)=n+1+j by omega]using this
  obtain⟨d,e⟩:=f 0 (by simp);simp only[List.getD_cons_zero,aI_]at d e;rw[m_,j_,r];have:(aO v).toPVn=some (if(k.at n).isSome then nilP else p):=by
   rw[<-d];cases v with
   |nil u=>rfl|raw u=>cases e|_=>first
    |exact c
    |cases c
  rw[this];rfl
theorem PC{k:Av.K}{t:Ty}{v:V}{y:t.den}(hd:cG t v=some y)(hn:Rr k v=true):(aS v).toPVn=some (uG k t y):=by
 simp only[Rr,b_,n_,List.mem_range,beq_iff_eq,E_]at hn;obtain⟨f,e⟩:=hn;have c:=dH hd;cases v with
 |nil u=>
  have a:=(e 0 (by simp[cn])).1;have b:(k.at 0).isSome=true:=by rw[<-a];rfl
  have g:aG t y= .list 0 []:=by have:(aS (.nil u)).toPV=some (.list 0 []):=rfl;rw[this]at c;exact(aM_ c).symm
  show some nilP=some (uG k t y);unfold uG;rw[g];simp[b]
 |agg vs=>
  have d:((vs.map aO).mapM BV.toPV).map PV.agg=some (aG t y):=c;obtain⟨l,a,b⟩:=o_.1 d;show((vs.map aO).mapM BV.toPVn).map PV.agg=_;rw[Lx (k:=k) vs l 0 a λj h=>by have:=e j h;rw[O_];exact this]
  simp only[M_,uG,<-b,List.mapIdx_eq_zipIdx_map]
 |_=>cases f
theorem Ch{k:Av.K}{t:Ty}:∀(parts:List X) (f:List t.den->Option R),parts.all X.wf=true->evOp.listN s k t parts f=some r->∃xs:List t.den,(parts.map X.er).mapM (λx=>((enc s).get x).bind AV.toPVn)=some (xs.map (uG k t))/\xs.length=parts.length/\f xs=some r
 |[],f,_,h=>⟨[],rfl,rfl,h⟩
 |x::l,f,a,h=>by
  simp only[s_,b_]at a;simp only[evOp.listN]at h;split at h
  ·rename_i v e;split at h;·rename_i y g;obtain⟨hn,h⟩:=aN h;obtain⟨xs,b,c,d⟩:=Ch l _ a.2 h;refine⟨y::xs,?_,by simp[c],d⟩;rw[m_,j_,b];simp only[au a.1 e,q_,PC g hn];rfl
   ·cases h
  ·cases h
theorem Ei(k:Av.K)(t:Ty)(x:t.den):(uG k t x).cells=(aG t x).cells.mapIdx λj y=>if(k.at j).isSome then nilP else y:=by unfold uG;cases h:aG t x with|agg cs=>rfl|_=>show(if(k.at 0).isSome then nilP else _).cells=[if(k.at 0).isSome then nilP else _];split<;>rfl
theorem Hv{k:Av.K}{t:Ty}(xs:List t.den):∀p∈xs.map (uG k t),p.cells.length=t.sz/\p.ok=true:=λp hp=>by
 obtain⟨x,_,rfl⟩:=t_.1 hp;have hc:=Ei k t x;refine⟨by rw[hc];simp[show(aG t x).cells.length=t.sz from aD t x],?_⟩;show(uG k t x).cells.all PV.cellOk=true;rw[hc];have:=x6 t x;simp only[PV.ok,n_]at this⊢;intro y a;rw[List.mem_mapIdx]at a;obtain⟨i,b,rfl⟩:=a;split;·rfl
 ·exact this _ (List.getElem_mem b)
theorem EN{tid:TypeId}{k:Av.K}{t:Ty}{len:Nat}{parts:List X}(g:parts.all X.wf=true)(h:evOp O d (.bsliceN tid k t len parts) s κ kp=some r):Pu P s (.bsliceN tid t.sz len (parts.map X.er)) d κ r:=by simp only[evOp]at h;obtain⟨a,b⟩:=aN h;simp only[b_]at a;obtain⟨xs,c,e,f⟩:=Ch parts _ g b;refine⟨_,⟨_,c,?_,h_ a.1.2,h_ a.2,Hv xs,rfl⟩,f⟩;rw[d_,e];exact a_ a.1.1
theorem EM{tid:TypeId}{t:Ty}{len:Nat}{parts:List X}(g:parts.all X.wf=true)(h:evOp O d (.bsliceF tid t len parts) s κ kp=some r):Pu P s (.bslice false tid t.sz len (parts.map X.er)) d κ r:=by simp only[evOp]at h;obtain⟨a,b⟩:=aN h;simp only[b_]at a;obtain⟨xs,c,e,f⟩:=ng parts _ g b;refine⟨_,⟨_,c,?_,h_ a.1.2,h_ a.2,ju xs,.inr rfl⟩,f⟩;rw[d_,e];exact a_ a.1.1
theorem Ov{tid:TypeId}{t:Ty}{bytes:Nat}{x y:X}(b:x.wf=true/\y.wf=true)(h:evOp O d (.appD tid t bytes x y) s κ kp=some r):Pu P s (.appD tid t.sz bytes x.er y.er) d κ r:=by
 simp only[evOp]at h;obtain⟨z,ys,j,a,g⟩:=lf h;split at a;·rename_i u f;obtain⟨c,e⟩:=bm a;refine⟨.d (.list t) ys,⟨_,au b.1 f,_,au b.2 j,g _ ⟨λp hp=>(ju ys p hp).2,[],.inl ⟨rfl,rfl⟩,by rw[d_];simpa using c,rfl⟩⟩,e⟩
 ·rename_i u xs f;split at a;·rename_i zs w;obtain⟨k,l⟩:=bD w;have n:=Ty.list.inj k;subst n;have v:zs=xs:=l;subst v;obtain⟨c,e⟩:=bm a;refine⟨.d (.list u) (zs++ys),⟨_,au b.1 f,_,au b.2 j,g _ ⟨λp hp=>(ju ys p hp).2,zs.map (aG u),.inr rfl,by rw[d_,d_];simpa using c,?_⟩⟩,e⟩;show AV.p _=AV.p _;rw[<-C_];rfl
  ·cases a
 ·cases a
theorem RO{x:X}(c:x.wf=true)(h:evOp O d (.b2s x) s κ kp=some r):Pu P s (.b2s x.er) d κ r:=by
 simp only[evOp]at h;obtain⟨v,xs,e,b,hl⟩:=lf h;have a:∀l:List Int,bytesOf (l.map (aG (.int .u8)))=some l:=by intro l;induction l with|nil=>rfl|cons x l f=>show(bytesOf (l.map (aG (.int .u8)))).map (x::·)=_;rw[f];rfl
 refine⟨_,⟨_,au c e,hl _ ⟨_,a xs,?_⟩⟩,b⟩;rfl
theorem zi:∀(caps:List X) (ids:List Nat),caps.all X.wf=true->evOp.capsOf s caps=some ids->(caps.map X.er).mapM (enc s).get=some (ids.map λi=>.b (.ptr i 0))
 |[],ids,_,h=>by cases h;rfl
 |x::l,ids,a,h=>by
  simp only[s_,b_]at a;simp only[evOp.capsOf]at h;split at h
  ·rename_i i b;split at h;·rename_i c hl;cases h;rw[m_,j_,au a.1 b,zi l c a.2 hl];rfl
   ·cases h
  ·cases h
theorem Cd:∀(caps:List X) (cs:List ((t:Ty)×t.den)),caps.all X.wf=true->evOp.capsD s caps=some cs->(caps.map X.er).mapM (enc s).get=some ((cs.map λc=>PV.pto (aG c.1 c.2)).map .p)
 |[],ids,_,h=>by cases h;rfl
 |x::l,ids,a,h=>by
  simp only[s_,b_]at a;simp only[evOp.capsD]at h;split at h
  ·rename_i i b;split at h;·rename_i d hl;cases h;rw[m_,j_,au a.1 b,Cd l d a.2 hl];rfl
   ·cases h
  ·cases h
theorem OH{f:FuncId}{caps:List X}(b:caps.all X.wf=true)(h:evOp O d (.mkfn f caps) s κ kp=some r):Pu P s (.mkfn f (caps.map X.er)) d κ r:=by
 simp only[evOp]at h;split at h;·rename_i ids a;exact⟨_,⟨_,zi caps ids b a,.inl ⟨ids,rfl,rfl⟩⟩,h⟩
 ·split at h;·rename_i cs hcs;exact⟨_,⟨_,Cd caps cs b hcs,.inr ⟨_,rfl,rfl⟩⟩,h⟩
  ·cases h
theorem z6{k:IntKind}:∀(ys:List X) (f:List Int->Option R),ys.all X.wf=true->evOp.intsOf s k ys f=some r->∃a:List Int,(ys.map X.er).mapM (enc s).get=some (a.map λn=>.v (.int k n))/\f a=some r
 |[],f,_,h=>⟨[],rfl,h⟩
 |x::l,f,b,h=>by
  simp only[s_,b_]at b;simp only[evOp.intsOf]at h;split at h
  ·rename_i u n p;obtain⟨c,d⟩:=aN h;have j:u=k:=by simpa using c
   subst j;obtain⟨a,e,g⟩:=z6 l _ b.2 d;refine⟨n::a,?_,g⟩;rw[m_,j_,au b.1 p,e];rfl
  ·cases h
theorem OI{mx:Bool}{k:IntKind}{x:X}{ys:List X}(c:x.wf=true/\ys.all X.wf=true)(h:evOp O d (.mnmx mx k x ys) s κ kp=some r):Pu P s (.mnmx mx k x.er (ys.map X.er)) d κ r:=by
 simp only[evOp]at h;split at h
 ·rename_i u n p;obtain⟨f,g⟩:=aN h;have e:u=k:=by simpa using f
  subst e;obtain⟨v,j,l⟩:=z6 ys _ c.2 g;refine⟨_,⟨_,au c.1 p,_,rfl,_,_,rfl,_,j,v,rfl,rfl,?_⟩,l⟩;have:(fun(a b:Int)=>if mx=true then max a b else min a b)=λa b=>bif mx then max a b else min a b:=by funext a b;cases mx<;>rfl
  rw[this];rfl
 ·cases h
theorem Jb:∀(t:Ty) (x y:t.den),t.eqOk=true->oR t x y=true->x=y
 | .int _,x,y,_,h=>by simpa[oR]using h
 | .bool,x,y,_,h=>by simpa[oR]using h
 | .str,x,y,_,h=>by simpa[oR]using h
 | .unit,_,_,_,_=>rfl
 | .pair a b,x,y,h,c=>by simp only[Ty.eqOk,b_]at h;simp only[oR,b_]at c;exact Prod.ext (Jb a x.1 y.1 h.1 c.1) (Jb b x.2 y.2 h.2 c.2)
theorem Vq(a b:List UInt8):((⟨a.toArray⟩:ByteArray)==⟨b.toArray⟩)=(a==b):=(show _=(a.toArray==b.toArray)from rfl).trans (by simp)
theorem Jf(P:Program):∀(d:Nat) (t:TypeId) (u:Ty),x7 P d t u=true->∀x y:u.den,eqP P d t (aG u x) (aG u y)=some (oR u x y)/\BC P d t (aG u x)=true:=by
 intro d;induction d with
 |zero=>intro t u h;simp[x7]at h|succ d ih=>
  intro t u h x y;unfold x7 at h;have N:∀(l:List Field) (off:Nat) (u:Ty) (x y:u.den) (xs ys:List PV),Tg P (x7 P d) l off u=true->off<=xs.length->xs.drop off=aC u x->off<=ys.length->ys.drop off=aC u y->
   eqP.eqFs P d l xs ys=some (oR u x y)/\(l.all λf=>f.name != "_" &&(match P.info? f.type with
    |some i=>(P.underlying f.type).isSome&&decide (f.offset+i.size<=xs.length)&&(gE P f.type||decide (i.size=1))&&BC P d f.type ((PV.agg xs).sub f.offset i.size (gE P f.type))
    |none=>false))=true:=by
   intro l
   induction l with
   |nil=>intro off u x y xs ys h _ _ _ _;cases u<;>simp[Tg]at h;exact⟨by unfold eqP.eqFs;rfl,rfl⟩|cons f l C=>
    intro off u x y xs ys h r v s w;cases u<;>try (simp[Tg]at h;done)
    rename_i a b;simp only[Tg,b_]at h;obtain⟨⟨⟨⟨hn,A⟩,p⟩,Y⟩,hr⟩:=h;have A:=a_ A;cases g:P.info? f.type with
    |none=>rw[g]at p;cases p|some i=>
     rw[g]at p;simp only[b_]at p;obtain⟨⟨hsz,e⟩,c⟩:=p;have hsz:=a_ hsz;have c:gE P f.type=a.ag:=by simpa using c
     have n:f.name≠ "_" :=by simpa using hn
     have cut:∀(z:(Ty.pair a b).den) (zs:List PV),off<=zs.length->zs.drop off=aC (.pair a b) z->(PV.agg zs).sub f.offset i.size (gE P f.type)=aG a z.1/\f.offset+i.size<=zs.length/\zs.drop (off+a.sz)=aC b z.2:=by
      intro z zs el hd;have hc:aC (.pair a b) z=aC a z.1++aC b z.2:=rfl;rw[hc]at hd;have hl:=congrArg au_ hd;simp only[Z_,x_,aD]at hl;refine⟨?_,by omega,?_⟩
      ·rw[A,hsz,c];refine JD ?_ ?_;·show(zs.drop off).take a.sz=_;rw[hd,v_ (by rw[aD];exact z_ _),p_ (by rw[aD];exact z_ _)]
       ·show off+a.sz<=zs.length;omega
      ·rw[<-aB_,hd,L_ (by rw[aD];exact z_ _),List.drop_of_length_le (by rw[aD];exact z_ _),ay_]
     obtain⟨D,F,H⟩:=cut x xs r v;obtain⟨I,c5,J⟩:=cut y ys s w;obtain⟨L,k1⟩:=ih f.type a Y x.1 y.1;obtain⟨M,k2⟩:=C (off+a.sz) b x.2 y.2 xs ys hr (by omega) H (by omega) J;have j:gE P f.type=false->i.size=1:=λh=>by rw[hsz];exact eA (by rw[<-c,h])
     refine⟨?_,?_⟩
     ·unfold eqP.eqFs;rw[if_neg n,g];simp only[q_];rw[if_neg (by
       rintro(h|h|h|h);·rw[W_]at h;rw[h]at e;cases e
       ·omega
       ·omega
       ·exact h.2 (j h.1)),D,I,L]
      simp only[q_,oR];cases oR a x.1 y.1;·rfl
      ·simp only[if_true,aF_];exact M
     ·rw[s_,k2,g];simp only[D,k1,e,aE_,aF_];have R:(f.name != "_")=true:=hn;have T:decide (f.offset+i.size<=xs.length)=true:=by simpa using F
      have U:(gE P f.type||decide (i.size=1))=true:=by
       cases h:gE P f.type;·simp[j h]
       ·rfl
      rw[R,T,U];rfl
  have st:∀fl,P.underlying t=some (.struct fl)->(!P.stoodInHeld t&&Tg P (x7 P d) fl.toList 0 u)=true->eqP P (d+1) t (aG u x) (aG u y)=some (oR u x y)/\BC P (d+1) t (aG u x)=true:=by
   intro fl e h;simp only[b_]at h;have B:P.stoodInHeld t=false:=by simpa using h.1
   have c:u.ag=true:=by cases hl:fl.toList with|nil=>rw[hl]at h;cases u<;>simp[Tg]at h;rfl|cons f l=>rw[hl]at h;cases u<;>simp[Tg]at h;rfl
   obtain⟨O,Q⟩:=N fl.toList 0 u x y (aC u x) (aC u y) h.2 (aK_ _) rfl (aK_ _) rfl;rw[dI x c,dI y c];refine⟨?_,?_⟩;·unfold eqP;rw[e];simp only[B];exact O
   ·unfold BC;rw[e];exact Q
  split at h;·rename_i e;exact⟨by unfold eqP;rw[e];rfl,by unfold BC;rw[e];rfl⟩
  ·rename_i k E e;refine⟨?_,by unfold BC;rw[e];rfl⟩;unfold eqP;rw[e];show(if E=E then some (_==_)else none)=_;rw[if_pos rfl];rfl
  ·rename_i e;refine⟨?_,by unfold BC;rw[e];rfl⟩;unfold eqP;rw[e];show some (_==_)=_;rw[Vq];rfl
  ·exact st _ ‹_› h
  ·cases h
theorem RS{neg:Bool}{tid:TypeId}{t:Ty}{x y:X}(c:x.wf=true/\y.wf=true/\x7 P 64 tid t=true)(h:evOp O d (.eqT neg tid t x y) s κ kp=some r):Pu P s (.eqT neg tid x.er y.er) d κ r:=by
 simp only[evOp]at h;split at h
 ·rename_i v u j k;split at h;·rename_i a b f g;obtain⟨_,e⟩:=aN h;refine⟨_,⟨_,au c.1 j,_,au c.2.1 k,_,dH f,_,dH g,_,(Jf P 64 tid t c.2.2 a b).1,?_⟩,e⟩;rfl
  ·cases h
 ·cases h
theorem Ep{k:TypeId}{a b:Ty}(x:x7 P 64 k a=true)(y:a.den):∀(kvs:List (a.den×b.den)) (i:Nat),(∀e∈kvs.map (λp=>(aG a p.1,aG b p.2)),(eqP P 64 k (aG a y) e.1).isSome=true)/\
 ((oX a b kvs y=none/\tn P k (aG a y) (kvs.map λp=>(aG a p.1,aG b p.2)) i=some none)\/∃j v d,oX a b kvs y=some v/\kvs[j]? =some (d,v)/\oR a y d=true/\(∀i' e,i'<j->kvs[i']? =some e->oR a y e.1=false)/\tn P k (aG a y) (kvs.map λp=>(aG a p.1,aG b p.2)) i=some (some (i+j,aG b v)))
 |[],i=>⟨λe h=>(by cases h),.inl ⟨rfl,rfl⟩⟩
 |(d,v)::l,i=>by
  obtain⟨z,A⟩:=Ep x y l (i+1);have w:=(Jf P 64 k a x y d).1;refine⟨λe h=>?_,?_⟩
  ·rcases D_.1 h with rfl|h;·simp only[w];rfl
   ·exact z e h
  ·have c:tn P k (aG a y) (((d,v)::l).map λp=>(aG a p.1,aG b p.2)) i=if oR a y d=true then some (some (i,aG b v))else tn P k (aG a y) (l.map λp=>(aG a p.1,aG b p.2)) (i+1):=by show(eqP P 64 k (aG a y) (aG a d)).bind _=_;rw[w];rfl
   cases g:oR a y d
   ·rw[g]at c;simp only[Q_,if_false]at c;have hg:oX a b ((d,v)::l) y=oX a b l y:=by simp[oX,g]
    rcases A with⟨r,s⟩|⟨j,u,E,r,s,B,D,C⟩;·exact .inl ⟨by rw[hg,r],by rw[c,s]⟩
    ·refine .inr ⟨j+1,u,E,by rw[hg,r],by simpa using s,B,λi' e n f=>?_,by rw[c,C];congr 2;congr 1;omega⟩;cases i' with|zero=>simp at f;subst f;exact g|succ i'=>exact D i' e (by omega) (by simpa using f)
   ·rw[g]at c;refine .inr ⟨0,v,d,by simp[oX,g],rfl,g,λi' e n=>absurd n (by omega),by rw[c];rfl⟩
theorem Ln{k:TypeId}{a:Ty}(b:x7 P 64 k a=true):(P.underlying k).isSome=true:=by
 unfold x7 at b;split at b<;>first|(rename_i h;rw[h];rfl)|skip
 all_goals first
  |(simp_all;done)
  |cases b
theorem U9{b:Ty}(h:b.sc=true):aG b b.zero= .sc (oA b):=by cases b<;>simp[Ty.sc]at h<;>rfl
theorem HY{k e:TypeId}{ok:Bool}{a b:Ty}{m x:X}(g:m.wf=true/\x.wf=true/\x7 P 64 k a=true/\b.sc=true)(h:evOp O d (.lookup k e ok a b m x) s κ kp=some r):Pu P s (.lookup k e ok (oA b) m.er x.er) d κ r:=by
 simp only[evOp]at h;split at h
 ·rename_i id v R U;split at h
  ·rename_i k' e' p f kvs y T Y;split at h
   ·rename_i c z;obtain⟨u,B⟩:=aN h;simp only[b_]at u;have C:=a_ u.1.1;have D:=a_ u.1.2;obtain⟨E,F⟩:=bD z;have H:=Ty.list.inj E;injection H with I J;clear h u;subst C;subst D;subst I;subst J;have L:c=kvs:=F;subst L;obtain⟨M,N⟩:=Ep (P:=P) (b:=f) g.2.2.1 y c 0;have n:∀(K:AV->Prop) (ok:Bool),K (match ok with
     |true=>.tup [.pv (aG f ((oX p f c y).getD f.zero)),.pv (.sc (.bool (oX p f c y).isSome))]
     |false=>.p (aG f ((oX p f c y).getD f.zero)))->jp P (enc s) (.lookup k e ok (oA f) m.er x.er) K:=by
     intro K ok l
     refine⟨_,au g.1 R,_,au g.2.1 U,id,_,rfl,by rw[bA,T];rfl,_,dH Y,(Jf P 64 k p g.2.2.1 y y).2,Ln g.2.2.1,M,?_⟩
     rcases N with⟨w,A⟩|⟨j,v,k',w,A,g5,g7,Q⟩
     ·refine⟨_,A,?_⟩;rw[w]at l;simp only[Option.getD_none,U9 g.2.2.2]at l;exact l
     ·refine⟨_,Q,?_⟩;rw[w]at l;exact l
    cases ok with|true=>exact⟨_,n _ true rfl,B⟩|false=>exact⟨_,n _ false rfl,B⟩
   ·cases h
  ·cases h
 ·cases h
end
theorem fI(a b:Nat):c_ a b=decide (a=b):=by
 cases h:c_ a b;·exact(decide_eq_false λe=>by rw[e,ap_]at h;cases h).symm
 ·exact(decide_eq_true (a_ h)).symm
theorem BA(l:List Nat)(x:Nat):lQ l x=l.contains x:=by induction l with|nil=>rfl|cons y l a=>simp only[lQ,List.any_cons,List.contains_cons]at a⊢;rw[a];congr 1;rw[fI];by_cases h:x=y<;>simp[h]
theorem inL_mem{l:List Nat}{x:Nat}:lQ l x=true↔x∈l:=by rw[BA,ad_]
theorem allIn_mem{l m:List Nat}:allIn l m=true↔∀i∈m,i∈l:=by simp only[allIn,n_,inL_mem]
theorem DI:Kz=gN:=by
 funext B n k;unfold Kz gN;by_cases h:k<B.length;·rw[if_pos h,Nat.ble_eq_true_of_le h];rfl
 ·rw[if_neg h];have:l_ (k+1) B.length=false:=by
   cases a:l_ (k+1) B.length;·rfl
   ·exact absurd (h_ a) h
  rw[this];rfl
theorem MK(v:Value)(ρ:Nat->Nat):(bn v).ren ρ=bn v:=by unfold bn;split<;>rfl
theorem xV(v:Value):(bn v).ids=[]:=by unfold bn;split<;>rfl
theorem KN(v:Value)(i:Nat):(bn v).kill i=bn v:=by unfold bn;split<;>rfl
theorem W1(v:Value)(B:List Nat):(bn v).killB B=bn v:=by unfold bn;split<;>rfl
theorem Eh(ρ:Nat->Nat)(v:V):aO (v.ren ρ)=(aO v).ren ρ:=by cases v<;>first|rfl|exact(MK _ ρ).symm
theorem zI(v:V):v.ids1=(aO v).ids:=by cases v<;>first|rfl|exact(xV _).symm
theorem Bv(id:Nat)(v:V):aO (v.kill1 id)=(aO v).kill id:=by
 cases v<;>first|rfl|exact(KN _ id).symm|skip
 ·rename_i k;show aO (bif c_ k id then .any else .sl k)=if k=id then _ else _;rw[fI];by_cases h:k=id<;>simp[h,aO]
 ·rename_i k i o;show aO (bif c_ k id then .any else .elt k i o)=if k=id then _ else _;rw[fI];by_cases h:k=id<;>simp[h,aO]
theorem x5(B:List Nat)(v:V):aO (sy B v)=(aO v).killB B:=by
 cases v<;>first|rfl|exact(W1 _ B).symm|skip
 ·rename_i k;show aO (bif lQ B k then .any else .sl k)=if B.contains k=true then _ else _;rw[BA];cases h:B.contains k<;>simp[aO]
 ·rename_i k i o;show aO (bif lQ B k then .any else .elt k i o)=if B.contains k=true then _ else _;rw[BA];cases h:B.contains k<;>simp[aO]
theorem l7{v:V}(h:v.isA=false):aS v= .b (aO v):=by cases v<;>first|rfl|cases h
theorem Ri{g:V->V}{v:V}(h:v.isA=false):mc g v=g v:=by cases v<;>first|rfl|cases h
theorem Ef{g:V->V}{G:BV->BV}(hg:∀v,aO (g v)=G (aO v))(c:∀v,v.isA=false->(g v).isA=false)(v:V): aS (mc g v)=(match aS v with| .b x=>.b (G x)| .agg xs=>.agg (xs.map G)| .tup xs=>.tup (xs.map G)):=by
 have b:∀vs:List V,(vs.map g).map aO=(vs.map aO).map G:=λvs=>by rw[i_,i_];exact k_ λv _=>hg v
 cases a:v.isA;·rw[Ri a,l7 a,l7 (c v a),hg]
 ·cases v with|agg vs=>show AV.agg _=AV.agg _;rw[b]|tup vs=>show AV.tup _=AV.tup _;rw[b]|_=>cases a
theorem Eg(ρ:Nat->Nat)(v:V):aS (mc (V.ren ρ) v)=(aS v).ren ρ:=by
 rw[Ef (G:=BV.ren ρ) (Eh ρ) λv h=>by cases v<;>first|rfl|cases h]
 cases aS v<;>rfl
theorem Pi(id:Nat)(v:V):aS (mc (V.kill1 id) v)=(aS v).kill id:=by
 rw[Ef (G:=BV.kill id) (Bv id) λv h=>by cases v<;>first|rfl|(simp only[V.kill1];cases c_ _ id<;>rfl)|cases h]
 cases aS v<;>rfl
theorem MV(B:List Nat)(v:V):aS (mc (sy B) v)=(aS v).killB B:=by
 rw[Ef (G:=BV.killB B) (x5 B) λv h=>by cases v<;>first|rfl|(simp only[sy];cases lQ B _<;>rfl)|cases h]
 cases aS v<;>rfl
theorem oQ(v:V):v.ids=(aS v).ids:=by
 have b:∀vs:List V,vs.flatMap V.ids1=(vs.map aO).flatMap BV.ids:=λvs=>by induction vs with|nil=>rfl|cons v vs c=>simp only[al_,m_,c,zI]
 cases a:v.isA
 ·rw[l7 a];have:v.ids=v.ids1:=by cases v<;>first|rfl|cases a
  rw[this];exact zI v
 ·cases v with|agg vs=>exact b vs|tup vs=>exact b vs|_=>cases a
theorem zJ(ρ:Nat->Nat)(o:Ob):bC (uT (V.ren ρ) o)=(bC o).ren ρ:=by
 cases o<;>first|rfl|skip
 rotate_left
 ·rename_i hole;cases hole with|none=>rfl|some q=>obtain⟨i,j,v⟩:=q;show AObj.tree _ _ _ _ (some (_,_,aO _))=AObj.tree _ _ _ _ (some (_,_,_));rw[Eh ρ v]
 show AObj.box _ _=AObj.box _ _;rw[i_,i_];congr 1;exact k_ λv _=>Eh ρ v
theorem Pj(id:Nat)(o:Ob):bC (uT (V.kill1 id) o)=(bC o).kill id:=by
 cases o<;>first|rfl|skip
 rotate_left
 ·rename_i hole;cases hole with|none=>rfl|some q=>obtain⟨i,j,v⟩:=q;show AObj.tree _ _ _ _ (some (_,_,aO _))=AObj.tree _ _ _ _ (some (_,_,_));rw[Bv id v]
 show AObj.box _ _=AObj.box _ _;rw[i_,i_];congr 1;exact k_ λv _=>Bv id v
theorem MW(B:List Nat)(o:Ob):bC (uT (sy B) o)=(bC o).killB B:=by
 cases o<;>first|rfl|skip
 rotate_left
 ·rename_i hole;cases hole with|none=>rfl|some q=>obtain⟨i,j,v⟩:=q;show AObj.tree _ _ _ _ (some (_,_,aO _))=AObj.tree _ _ _ _ (some (_,_,_));rw[x5 B v]
 show AObj.box _ _=AObj.box _ _;rw[i_,i_];congr 1;exact k_ λv _=>x5 B v
theorem Ej(o:Ob):o.ids=(bC o).ids:=by
 cases o<;>first|rfl|skip
 rotate_left
 ·rename_i hole;cases hole with|none=>rfl|some q=>obtain⟨i,j,v⟩:=q;exact zI v
 show aH_ _ _=aH_ _ (List.map _ _);rw[List.flatMap_map];congr 1;funext v;exact zI v
theorem By(s:S)(id:Nat)(o:Ob):enc (s.moved id o)=(enc s).moved id (bC o):=by
 simp only[enc,S.moved,St.moved,et,i_,List.map_set];congr 1;·exact k_ λx _=>by simp[Pi]
 ·congr 1;exact k_ λo _=>Pj id o
theorem Hl(B:List Nat)(os:List Ob)(n:Nat):∀(l:List Ob) (i:Nat),(NW B os n i l).map bC=(l.map bC).mapIdx (λj o=>if B.contains (i+j)then(((os.map bC).getD (B.idxOf (i+j)) .gone).ren (gN B n))else o.killB B)
 |[],_=>rfl
 |o::l,i=>by
  simp only[NW,m_,List.mapIdx_cons,aI_];rw[Hl B os n l (i+1)];congr 1
  ·rw[BA];cases h:B.contains i;·simp[MW]
   ·simp only[cond_true,if_true,zJ,DI,Lg];congr 1;simp only[P_,r_];cases os[B.idxOf i]? <;>rfl
  ·congr 1;funext j o;rw[show i+1+j=i+(j+1) by omega]
theorem K6(s:S)(B:List Nat)(os:List Ob):enc (s.back B os)=(enc s).back B (os.map bC):=by
 simp only[enc,S.back,St.back,uk];congr 1;·rw[i_,i_];exact k_ λx _=>by simp[MV]
 ·rw[C_,Hl];congr 1;·simp only[O_,d_]
  ·rw[<-H_,i_,i_];exact k_ λo _=>by simp[zJ,DI]
section
variable {P:Program} {s:S}
theorem Ck:∀(B:List Nat) (os:List Ob),On s B=some os->B.mapM ((enc s).hp[·]?)=some (os.map bC)
 |[],os,h=>by cases h;rfl
 |i::B,os,h=>by
  simp only[On]at h;split at h
  ·rename_i o a;split at h;·rename_i l hl;cases h;rw[j_,Ck B l hl,bA,a];rfl
   ·cases h
  ·cases h
theorem Px{α β:Type}{f:α->Option β}{l:List α}{x:α}(a:x∈l)(h:f x=none):l.mapM f=none:=by
 induction l with
 |nil=>cases a|cons y l b=>
  rw[j_];rcases D_.1 a with rfl|a;·rw[h];rfl
  ·rw[b a];cases f y<;>rfl
theorem Mx{hp:List AObj}{bor:Bool}{B:List Nat}{t:Ty}{v:V}{x:t.den}(h:cG t v=some x):s8 hp bor B (aS v)=some (aS (.d t x)):=by
 have hd:=dH h;cases v with
 |d u y=>obtain⟨b,_⟩:=bw (show bP u t y=some x from h);show some (AV.p _)=some (AV.p _);rw[b]
 |nil u=>obtain⟨b,_⟩:=bw (show bP (.list u) t []=some x from h);show some (AV.p _)=some (AV.p (aG t x));rw[b];rfl
 |full u y=>obtain⟨b,_⟩:=bw (show bP (.list u) t y=some x from h);show some (AV.p _)=some (AV.p (aG t x));rw[b];rfl
 |agg vs=>have a:((vs.map aO).mapM BV.toPV).map PV.agg=some (aG t x):=hd;show(if((vs.map aO).mapM BV.toPV).isSome=true then _ else _)=_;cases c:(vs.map aO).mapM BV.toPV with|none=>rw[c]at a;cases a|some cs=>rw[c]at a;simp only[Option.isSome_some,if_true];show(((vs.map aO).mapM BV.toPV).map PV.agg).map AV.p=_;rw[c,a];rfl
 |_=>simp[cG,iy]at h
theorem Ks{bor:Bool}{B:List Nat}{a:Arg×X}{v:V}(g:a.2.wf=true)(h:Hj s bor B a=some v)(l:∀i∈v.ids,i∈B):((enc s).get a.2.er).bind (s8 (enc s).hp bor B)=some (aS v):=by
 obtain⟨a,x⟩:=a;simp only[Hj]at h;split at h
 ·rename_i t id d;obtain⟨c,b⟩:=aN h;simp only[b_,E_]at c;split at b
  ·rename_i e u xs n;split at b
   ·rename_i ys f;cases b;obtain⟨j,p⟩:=bw f;rw[au g d,q_];have k:B.contains id=false:=by rw[<-BA];exact c.2
    show(if B.contains id=true then _ else _)=_;rw[k];simp only[Q_,if_false];show(if bor=true then J5 (enc s).hp id else none).map AV.p=_;rw[c.1,if_pos rfl,J5,bA,n];show some (AV.p (aG (.list u) xs))=some (AV.p (aG (.list t) ys));rw[j]
   ·cases b
  ·rename_i e kk u xs n;split at b
   ·rename_i ys f;cases b;obtain⟨j,p⟩:=bw f;rw[au g d,q_];have k:B.contains id=false:=by rw[<-BA];exact c.2
    show(if B.contains id=true then _ else _)=_;rw[k];simp only[Q_,if_false];show(if bor=true then J5 (enc s).hp id else none).map AV.p=_;rw[c.1,if_pos rfl,J5,bA,n];show some (AV.p (aG (.list u) xs))=some (AV.p (aG (.list t) ys));rw[j]
   ·cases b
  ·cases b
 ·rename_i t E _ d;split at h;·rename_i y f;cases h;rw[au g d,q_];exact Mx f
  ·cases h
 ·rename_i E d;rw[au g d,q_];split at h;·cases h
  ·cases h
  ·cases h
  ·cases h
  ·rename_i vs;obtain⟨c,b⟩:=aN h;cases b;obtain⟨u,r,hr⟩:=J_.1 c;have:(vs.map aO).mapM BV.toPV=none:=Px (af_ r) (by cases u<;>first|rfl|cases hr)
   show(if((vs.map aO).mapM BV.toPV).isSome=true then _ else _)=_;rw[this];rfl
  ·rename_i F z A C D;cases h;cases v<;>first|rfl|skip
   ·exact absurd rfl (z _)
   ·exact absurd rfl (D _)
   ·rename_i id;have:B.contains id=true:=ad_.2 (l id (by simp[V.ids,V.ids1]));show(if B.contains id=true then _ else _)=_;rw[this];rfl
   ·exact absurd rfl (A _ _)
   ·rename_i w;show s8 _ _ _ (AV.b (bn w))=some (AV.b (bn w));unfold bn;split;·exact absurd rfl (C _ _ _)
    ·rfl
 ·cases h
theorem rX{bor:Bool}{B:List Nat}:∀(l:List (Arg×X)) (vs:List V),jm l=true->qK s bor B l=some vs->(∀v∈vs,∀i∈v.ids,i∈B)->(l.map λa=>a.2.er).mapM (λx=>((enc s).get x).bind (s8 (enc s).hp bor B))=some (vs.map aS)
 |[],vs,_,h,_=>by cases h;rfl
 |a::l,vs,d,h,b=>by
  simp only[jm,s_,b_]at d;simp only[qK]at h;split at h
  ·rename_i v f;split at h;·rename_i us e;cases h;rw[m_,j_,Ks d.1 f (b v (by simp)),rX l us d.2 e λu c=>b u (by simp[c])];rfl
   ·cases h
  ·cases h
end
theorem EW{v w:V}(h:V.same v w=true):aS v=aS w/\aO v=aO w/\(aO v).FlatB:=by
 unfold V.same at h;split at h;·have e:=a_ h;subst e;exact⟨rfl,rfl,trivial⟩
 ·simp only[b_]at h;have e:=a_ h.1;have a:=a_ h.2;subst e;subst a;exact⟨rfl,rfl,trivial⟩
 ·have e:=a_ h;subst e;exact⟨rfl,rfl,trivial⟩
 ·simp only[b_,decide_eq_true_eq]at h;have e:=a_ h.1;have a:=h.2;subst e;subst a;exact⟨rfl,rfl,trivial⟩
 ·exact⟨rfl,rfl,trivial⟩
 ·exact⟨rfl,rfl,.sc _⟩
 ·exact⟨rfl,rfl,.sc _⟩
 ·exact⟨rfl,rfl,.sc _⟩
 ·exact⟨rfl,rfl,.sc _⟩
 ·cases h
theorem Sm{v w:V}(h:V.same v w=true):v.isA=false:=by unfold V.same at h;split at h<;>first|rfl|cases h
theorem VG{v:V}{t:Ty}{x:t.den}(h:iy t v=some x):LeB (aO v) (aO (.d t x)):=.data _ _ (nb h)
theorem VF{v:V}{t:Ty}{x:t.den}(h:cG t v=some x):LeA (aS v) (aS (.d t x)):=.data _ _ (dH h)
def LeC(cs ds:List V):Prop:=cs.length=ds.length/\∀(i:Nat) (x y:V),cs[i]? =some x->ds[i]? =some y->LeB (aO x) (aO y)
theorem LeC.refl(cs:List V):LeC cs cs:=⟨rfl,λi x y E z=>by rw[E]at z;cases z;exact .refl _⟩
theorem LeC.box{t:TypeId}{cs ds:List V}(h:LeC cs ds):LeO (bC (.box t cs)) (bC (.box t ds)):= .box t _ _ (by simp[h.1]) λi x y z E=>by simp only[r_,o_]at z E;obtain⟨u,H,rfl⟩:=z;obtain⟨v,I,rfl⟩:=E;exact h.2 i u v H I
theorem uq:∀(cs ds:List V),kI cs ds=true->LeC ds cs/\∀v∈cs,(aO v).FlatB
 |[],[],_=>⟨⟨rfl,λi x y n=>by simp at n⟩,λv a=>by cases a⟩
 |[],_::_,h=>by simp[kI]at h
 |x::l,[],h=>by cases x<;>simp[kI]at h
 |x::l,y::m,h=>by
  have key:LeB (aO y) (aO x)/\(aO x).FlatB/\kI l m=true:=by
   unfold kI at h;split at h;·rename_i d;cases d
   ·rename_i l1 p j b c;cases b;cases c;exact⟨.any _,.any,h⟩
   ·rename_i xs l1 ys j b c;cases b;cases c;simp only[b_]at h;exact⟨.refl _,.any,h.2⟩
   ·rename_i r l1 p j _ _ b c;cases b;cases c;simp only[b_]at h;obtain⟨_,e,f⟩:=EW h.1;exact⟨by rw[e];exact .refl _,f,h.2⟩
   ·cases h
  obtain⟨⟨b,c⟩,k⟩:=uq l m key.2.2;refine⟨⟨by simp[b],λi u v g a=>?_⟩,λv a=>?_⟩;·cases i with|zero=>simp at g a;subst g;subst a;exact key.1|succ i=>exact c i u v (by simpa using g) (by simpa using a)
  ·rcases D_.1 a with rfl|a;·exact key.2.1
   ·exact k v a
def Slot.obj:Slot->Option Nat
 | .vec id _ _=>some id
 | .map id _ _ _ _=>some id
 | .tree id _ _ _=>some id
 | .treeH id _ _ _ _ _=>some id
 |_=>none
inductive LikeO:Ob->Ob->Prop
 |vec (e:TypeId) (t:Ty) (xs ys:List t.den):LikeO (.vec e t xs) (.vec e t ys)
 |map (k e:TypeId) (a c:Ty) (xs ys:List (a.den×c.den)):LikeO (.map k e a c xs) (.map k e a c ys)
 |tree (e:TypeId) (k:Av.K) (t:Ty) (xs ys:List t.den):LikeO (.tree e k t xs none) (.tree e k t ys none)
 |treeH (e:TypeId) (k:Av.K) (t:Ty) (xs ys:List t.den) (i i' j kid:Nat):LikeO (.tree e k t xs (some (i,j,.sl kid))) (.tree e k t ys (some (i',j,.sl kid)))
def ObLe(l:List Slot)(i:Nat)(o b:Ob):Prop:=
 b= .gone\/(∃t cs ds,o= .box t cs/\b= .box t ds/\LeC cs ds)\/b=o\/(LikeO o b/\∃x∈l,x.obj=some i)
theorem ObLe.le{i:Nat}{o b:Ob}(h:ObLe [] i o b):LeO (bC o) (bC b):=by
 rcases h with rfl|⟨t,cs,ds,rfl,rfl,h⟩|rfl|⟨_,x,h,_⟩;·exact .gone _
 ·exact h.box
 ·exact .refl _
 ·cases h
theorem ObLe.weak{l:List Slot}{x:Slot}{i:Nat}{o b:Ob}(h:ObLe (x::l) i o b)(E:x.obj≠some i):ObLe l i o b:=by
 rcases h with h|h|h|⟨h,y,H,z⟩;·exact .inl h
 ·exact .inr (.inl h)
 ·exact .inr (.inr (.inl h))
 ·exact .inr (.inr (.inr ⟨h,y,(D_.1 H).resolve_left λe=>E (by rw[<-e];exact z),z⟩))
def Jx(hp:List Ob):Slot->Prop
 | .vec id e t=>∃ys,hp[id]? =some (.vec e t ys)
 | .map id k e a b=>∃ys,hp[id]? =some (.map k e a b ys)
 | .tree id e k t=>∃ys,hp[id]? =some (.tree e k t ys none)
 | .treeH id e k t j kid=>∃ys i,hp[id]? =some (.tree e k t ys (some (i,j,.sl kid)))
 |_=>True
def LeF(fr fr':List (Nat×V)):Prop:=∀k v,lk fr' k=some v->∃u,lk fr k=some u/\LeA (aS u) (aS v)
structure LeP(l:List Slot)(s b:S):Prop where
 fr:LeF s.fr b.fr
 len:s.hp.length=b.hp.length
 hp:∀(i:Nat) (o o':Ob),s.hp[i]? =some o->b.hp[i]? =some o'->ObLe l i o o'
 on:∀x∈l,Jx b.hp x
theorem EY{hp:List Ob}{id:Nat}{o:Ob}{x:Slot}(h:Jx hp x)(r:∀o',hp[id]? =some o'->(∀z,¬LikeO o' z)\/LikeO o' o):Jx (hp.set id o) x:=by
 have n:∀(j:Nat) (o':Ob),hp[j]? =some o'->(∃z,LikeO o' z)->∃g,(hp.set id o)[j]? =some g/\(LikeO o' g\/g=o'):=λj o' p s=>by
  by_cases l:id=j
  ·subst l;refine⟨o,A_ (g_.1 p).1,.inl ?_⟩;rcases r o' p with c|c;·exact(c _ s.choose_spec).elim
   ·exact c
  ·exact⟨o',by rw[u_ l];exact p,.inr rfl⟩
 cases x with
 |vec j e t=>
  obtain⟨ys,f⟩:=h;obtain⟨g,c,d|rfl⟩:=n j _ f ⟨_,.vec e t ys ys⟩;·cases d;exact⟨_,c⟩
  ·exact⟨_,c⟩
 |map j k e a b=>
  obtain⟨ys,f⟩:=h;obtain⟨g,c,d|rfl⟩:=n j _ f ⟨_,.map k e a b ys ys⟩;·cases d;exact⟨_,c⟩
  ·exact⟨_,c⟩
 |tree j e k t=>
  obtain⟨ys,f⟩:=h;obtain⟨g,c,d|rfl⟩:=n j _ f ⟨_,.tree e k t ys ys⟩;·cases d;exact⟨_,c⟩
  ·exact⟨_,c⟩
 |treeH j e k t u kid=>
  obtain⟨ys,i,f⟩:=h;obtain⟨g,c,d|rfl⟩:=n j _ f ⟨_,.treeH e k t ys ys i i u kid⟩;·cases d;exact⟨_,_,c⟩
  ·exact⟨_,_,c⟩
 |_=>trivial
theorem Ly{t:TypeId}{cs:List V}(z:Ob):¬LikeO (.box t cs) z:=λh=>by cases h
theorem LeF.put{fr fr':List (Nat×V)}(h:LeF fr fr'){k:Nat}{u v:V}(I:lk fr k=some u)(H:LeA (aS u) (aS v)):LeF fr ((k,v)::fr'):=λj w z=>by
 simp only[lk]at z;cases E:c_ j k;·rw[E]at z;exact h j w z
 ·rw[E]at z;simp only[cond_true,e_]at z;have:=a_ E;subst this;subst z;exact⟨u,I,H⟩
theorem LeP.set{s:S}{x:Slot}{l:List Slot}{b:S}(h:LeP (x::l) s b){id:Nat}{o ob:Ob}(U:x.obj=some id)(R:s.hp[id]? =some o)(J:b.hp[id]? =some ob)(hl:LikeO ob o):LeP l s ⟨b.fr,setAt b.hp id o⟩:=by
 have hid:=(g_.1 J).1;rw[et];refine⟨h.fr,by simp[h.len],λi o1 o2 H E=>?_,λz Y=>EY (h.on z (by simp[Y])) (λo' N=>by rw[J]at N;cases N;exact .inr hl)⟩;by_cases I:id=i;·subst I;rw[A_ hid]at E;cases E;rw[R]at H;cases H;exact .inr (.inr (.inl rfl))
 ·rw[u_ I]at E;exact(h.hp i o1 o2 H E).weak (by rw[U];simpa using I)
theorem mn(s:S):∀(l:List Slot) (c:HL l) (b:S),EH s l=some c->LeP l s b->LeP [] s (unpack l c b)
 |[],_,b,_,h=>h
 |x::l,c,b,hc,h=>by
  simp only[EH]at hc;split at hc
  ·rename_i y f;split at hc
   ·rename_i N r;cases hc;cases x with
    |tm k t=>
     simp only[gB]at f;split at f;·rename_i v Y;exact mn s l N _ r ⟨h.fr.put Y (VF f),h.len,λi o o' J C=>(h.hp i o o' J C).weak (by simp[Slot.obj]),λz M=>h.on z (by simp[M])⟩
     ·cases f
    |cell id j t=>
     simp only[gB]at f;split at f
     ·rename_i u cs p;split at f
      ·rename_i v Y;refine mn s l N _ r ?_;unfold setCell;split
       ·rename_i t' ds g;rw[et,et];have hid:=(g_.1 g).1;refine⟨h.fr,by simp[h.len],λi o o' J C=>?_,λz M=>EY (h.on z (by simp[M])) (λo' d=>by rw[g]at d;cases d;exact .inl Ly)⟩;by_cases hi:id=i
        ·subst hi;rw[A_ hid]at C;cases C;rw[p]at J;cases J;have Q:∃t2 D E,Ob.box u cs= .box t2 D/\Ob.box t' ds= .box t2 E/\LeC D E:=by
          rcases h.hp id _ _ p g with d|Q|d|⟨d,_⟩;·cases d
          ·exact Q
          ·cases d;exact⟨_,_,_,rfl,rfl,rfl,λi x y hx f=>by rw[hx]at f;cases f;exact .refl _⟩
          ·cases d
         obtain⟨t2,D,E,F,B,A⟩:=Q
         ·cases F;cases B;refine .inr (.inl ⟨_,_,_,rfl,rfl,by simp[A.1],λi u w U L=>?_⟩);by_cases O:j=i
          ·subst O;rw[am_]at L;split at L
           ·split at L;·cases L;rw[Y]at U;cases U;exact VG f
            ·cases L
           ·rename_i T;exact absurd rfl T
          ·rw[u_ O]at L;exact A.2 i u w U L
        ·rw[u_ hi]at C;exact(h.hp i o o' J C).weak (by simp[Slot.obj])
       ·exact⟨h.fr,h.len,λi o o' J C=>(h.hp i o o' J C).weak (by simp[Slot.obj]),λz M=>h.on z (by simp[M])⟩
      ·cases f
     ·cases f
    |vec id e t=>
     simp only[gB]at f;split at f
     ·rename_i e' u xs p;obtain⟨B,A⟩:=bD f;have H:=Ty.list.inj B;subst H;have I:y=xs:=A;subst I;obtain⟨ys,g⟩:=h.on _ (B_ ..);have R:LikeO (.vec e' u y) (.vec e u ys):=by
       rcases h.hp id _ _ p g with d|⟨_,_,_,d,_⟩|d|⟨d,_⟩;·cases d
       ·cases d
       ·cases d;exact .vec _ _ _ _
       ·exact d
      have n:e'=e:=by cases R;rfl
      subst n;exact mn s l N _ r (h.set rfl p g (.vec _ _ _ _))
     ·cases f
    |map id k e a b'=>
     simp only[gB]at f;split at f
     ·rename_i P F a1 b1 xs p;obtain⟨B,A⟩:=bD f;have H:=Ty.list.inj B;injection H with e6 e7;subst e6;subst e7;have I:y=xs:=A;subst I;obtain⟨ys,g⟩:=h.on _ (B_ ..);have n:P=k/\F=e:=by
       rcases h.hp id _ _ p g with d|⟨_,_,_,d,_⟩|d|⟨d,_⟩;·cases d
       ·cases d
       ·cases d;exact⟨rfl,rfl⟩
       ·cases d;exact⟨rfl,rfl⟩
      obtain⟨rfl,rfl⟩:=n;exact mn s l N _ r (h.set rfl p g (.map _ _ _ _ _ _))
     ·cases f
    |tree id e k t=>
     simp only[gB]at f;split at f
     ·rename_i F P u xs p;obtain⟨B,A⟩:=bD f;have H:=Ty.list.inj B;subst H;have I:y=xs:=A;subst I;obtain⟨ys,g⟩:=h.on _ (B_ ..);have n:F=e/\P=k:=by
       rcases h.hp id _ _ p g with d|⟨_,_,_,d,_⟩|d|⟨d,_⟩;·cases d
       ·cases d
       ·cases d;exact⟨rfl,rfl⟩
       ·cases d;exact⟨rfl,rfl⟩
      obtain⟨rfl,rfl⟩:=n;exact mn s l N _ r (h.set rfl p g (.tree _ _ _ _ _))
     ·cases f
    |treeH id e k t j kid=>
     simp only[gB]at f;split at f
     ·rename_i F P u xs i1 j1 v1 p;split at f
      ·rename_i zs M;cases f;obtain⟨B,A⟩:=bD M;have H:=Ty.list.inj B;subst H;have I:zs=xs:=A;subst I;obtain⟨ys,i2,g⟩:=h.on _ (B_ ..);have n:F=e/\P=k/\j1=j/\v1= .sl kid:=by
        rcases h.hp id _ _ p g with d|⟨_,_,_,d,_⟩|d|⟨d,_⟩;·cases d
        ·cases d
        ·cases d;exact⟨rfl,rfl,rfl,rfl⟩
        ·cases d;exact⟨rfl,rfl,rfl,rfl⟩
       obtain⟨rfl,rfl,rfl,rfl⟩:=n;exact mn s l N _ r (by have:=h.set rfl p g (.treeH _ _ _ _ _ _ _ _ _);simpa using this)
      ·cases f
     ·cases f
   ·cases hc
  ·cases hc
theorem LeP.le{s b:S}(h:LeP [] s b):LeS (enc s) (enc b):=by
 refine⟨λk y N=>?_,by simp[enc,h.len],λi x y I J=>?_⟩;·show ∃x,Av.look (s.fr.map λx=>(x.1,aS x.2)) k=some x/\_;have z:Av.look (b.fr.map λx=>(x.1,aS x.2)) k=some y:=N;rw[ov]at z⊢;obtain⟨v,Y,rfl⟩:=o_.1 z;obtain⟨u,U,E⟩:=h.fr k v Y;exact⟨aS u,by rw[U];rfl,E⟩
 ·rw[bA]at I J;obtain⟨o,R,rfl⟩:=o_.1 I;obtain⟨o',H,rfl⟩:=o_.1 J;exact(h.hp i o o' R H).le
theorem HN(l m:List (Nat×V))(k:Nat):lk (l++m) k=(lk l k).or (lk m k):=by
 induction l with
 |nil=>rfl|cons x l a=>
  obtain⟨j,v⟩:=x;simp only[List.cons_append,lk];cases c_ k j;·exact a
  ·rfl
theorem EA{l:List (Nat×V)}{k:Nat}{v:V}(h:lk l k=some v):(k,v)∈l:=by
 induction l with
 |nil=>cases h|cons x l b=>
  obtain⟨j,w⟩:=x;simp only[lk]at h;cases a:c_ k j;·rw[a]at h;exact List.mem_cons_of_mem _ (b h)
  ·rw[a]at h;simp only[cond_true,e_]at h;have:=a_ a;subst this;subst h;exact B_ ..
theorem HB{fr sk:List (Nat×V)}(h:Er fr sk=true){k:Nat}{v:V}(a:(k,v)∈sk):∃w,lk fr k=some w/\V.same v w=true:=by
 induction sk with
 |nil=>cases a|cons x sk b=>
  obtain⟨j,u⟩:=x;simp only[Er,b_]at h;rcases D_.1 a with e|a;·cases e;cases hl:lk fr k with|none=>rw[hl]at h;cases h.1|some w=>rw[hl]at h;exact⟨w,rfl,h.1⟩
  ·exact b h.2 a
theorem yd:∀{us c:List Ob},BL us c=true->us.length=c.length/\∀(i:Nat) (x y:Ob),us[i]? =some x->c[i]? =some y->Om x y=true
 |[],[],_=>⟨rfl,λi x y h=>by simp at h⟩
 |[],_::_,h=>by cases h
 |_::_,[],h=>by cases h
 |a::us,b::c,h=>by simp only[BL,b_]at h;obtain⟨f,g⟩:=yd h.2;refine⟨by simp[f],λi x y d e=>?_⟩;cases i with|zero=>simp at d e;subst d;subst e;exact h.1|succ i=>exact g i x y (by simpa using d) (by simpa using e)
def Ob.vary:Ob->Bool
 | .vec _ _ _=>true
 | .map _ _ _ _ _=>true
 | .tree _ _ _ _ _=>true
 |_=>false
theorem EE{sl:List Slot}:∀{l:List Ob} {i j:Nat} {o:Ob},Tu sl i l=true->l[j]? =some o->o.vary=true->∃x∈sl,x.obj=some (i+j)
 |[],i,j,o,_,b,_=>by simp at b
 |a::l,i,j,o,h,b,d=>by
  simp only[Tu,b_]at h;cases j with
  |zero=>
   simp at b;subst b;cases a<;>first|cases d|skip
   all_goals
    obtain⟨x,e,c⟩:=J_.1 h.1;refine⟨x,e,?_⟩;cases x<;>simp at c;all_goals (subst c;rfl)
  |succ j=>have:=EE (i:=i+1) (j:=j) h.2 (by simpa using b) d;rw[show i+1+j=i+(j+1) by omega]at this;exact this
theorem Sp{hp:List Ob}{x:Slot}(h:Ib hp x=true):Jx hp x:=by
 cases x with
 |vec id e t=>
  simp only[Ib]at h;split at h;·rename_i g s ys d;simp only[b_,decide_eq_true_eq]at h;have c:=a_ h.1;obtain⟨_,rfl⟩:=h;subst c;exact⟨ys,d⟩
  ·cases h
 |map id k e a b=>
  simp only[Ib]at h;split at h;·rename_i p g w y ys d;simp only[b_,decide_eq_true_eq]at h;obtain⟨⟨⟨f,n⟩,rfl⟩,rfl⟩:=h;have c:=a_ f;have l:=a_ n;subst c;subst l;exact⟨ys,d⟩
  ·cases h
 |tree id e k t=>
  simp only[Ib]at h;split at h;·rename_i g p s ys d;simp only[b_,decide_eq_true_eq]at h;obtain⟨⟨f,rfl⟩,rfl⟩:=h;have c:=a_ f;subst c;exact⟨ys,d⟩
  ·cases h
 |treeH id e k t j kid=>
  simp only[Ib]at h;split at h;·rename_i g p s ys i' z r d;simp only[b_,decide_eq_true_eq]at h;obtain⟨⟨⟨⟨f,rfl⟩,rfl⟩,n⟩,v⟩:=h;have c:=a_ f;have l:=a_ n;have u:=a_ v;subst c;subst l;subst u;exact⟨ys,_,d⟩
  ·cases h
 |_=>trivial
theorem EJ{sh:Sh}{s s0:S}{c:HL sh.sl}(B:sh.wfB=true)(h:pack sh s=some c)(I:∀k v,lk (cV s0.fr sh.keep) k=some v->lk s.fr k=some v):LeP [] s (unpack sh.sl c (sh.base s0)):=by
 unfold pack at h;split at h
 ·rename_i A;simp only[b_,S.fits]at A;simp only[Sh.wfB,b_,n_]at B;obtain⟨E,F⟩:=yd A.1.2;refine mn s sh.sl c _ h ⟨λk v J=>?_,E.symm,λi o o' r y=>?_,λx L=>Sp (B.1 x L)⟩;·have f:lk (cV s0.fr sh.keep++sh.sk.fr) k=some v:=J;rw[HN]at f;cases l:lk (cV s0.fr sh.keep) k with|some u=>rw[l]at f;cases f;exact⟨v,I k v l,.refl _⟩|none=>rw[l]at f;obtain⟨w,r,y⟩:=HB A.1.1 (EA f);exact⟨w,r,by rw[(EW y).1];exact .refl _⟩
  ·have n:sh.sk.hp[i]? =some o':=y;have d:=F i o' o n r;have q:=EE (i:=0) B.2 n;rw[O_]at q;unfold Om at d;split at d;·exact .inl rfl
   ·rename_i t cs u ds;simp only[b_]at d;have g:=a_ d.1;subst g;exact .inr (.inl ⟨_,_,_,rfl,rfl,(uq cs ds d.2).1⟩)
   ·rename_i e t xs C N ys;simp only[b_,decide_eq_true_eq]at d;have g:=a_ d.1;obtain⟨_,rfl⟩:=d;subst g;exact .inr (.inr (.inr ⟨.vec _ _ _ _,q rfl⟩))
   ·rename_i k e a b xs M C O P ys;simp only[b_,decide_eq_true_eq]at d;obtain⟨⟨⟨z,j⟩,rfl⟩,rfl⟩:=d;have g:=a_ z;have p:=a_ j;subst g;subst p;exact .inr (.inr (.inr ⟨.map _ _ _ _ _ _,q rfl⟩))
   ·rename_i e k t xs Q C M N ys H;simp only[b_,decide_eq_true_eq]at d;obtain⟨⟨⟨z,rfl⟩,rfl⟩,j⟩:=d;have g:=a_ z;subst g;split at j;·exact .inr (.inr (.inr ⟨.tree _ _ _ _ _,q rfl⟩))
    ·simp only[b_]at j;have p:=a_ j.1;have D:=a_ j.2;subst p;subst D;exact .inr (.inr (.inr ⟨.treeH _ _ _ _ _ _ _ _ _,q rfl⟩))
    ·cases j
   ·cases d
 ·cases h
theorem Jr{sh:Sh}{s s0:S}{c:HL sh.sl}(b:sh.wfB=true)(h:pack sh s=some c)(a:∀k v,lk (cV s0.fr sh.keep) k=some v->lk s.fr k=some v):LeS (enc s) (enc (unpack sh.sl c (sh.base s0))):=(EJ b h a).le
structure FlP(l:List Slot)(b:S):Prop where
 fr:∀k v,lk b.fr k=some v->(aS v).FlatA
 hp:∀(i:Nat) (o:Ob),b.hp[i]? =some o->(bC o).FlatO\/(o.vary=true/\∃x∈l,x.obj=some i)
theorem SB{e:TypeId}{t:Ty}(xs:List t.den)(h:t.flat=true):(bC (.vec e t xs)).FlatO:=λp hp y a=>by obtain⟨x,_,rfl⟩:=t_.1 hp;exact(lb t x h).2 y a
theorem Rj{k e:TypeId}{a b:Ty}(xs:List (a.den×b.den))(h:a.flat=true/\b.flat=true):(bC (.map k e a b xs)).FlatO:=λp hp=>by obtain⟨x,_,rfl⟩:=t_.1 hp;exact⟨(lb a x.1 h.1).1,(lb b x.2 h.2).1⟩
theorem qn:∀(t:Ty) (x:t.den),(ig t).length=t.sz/\∀(j:Nat) (y:PV),(aC t x)[j]? =some y->∃(u:Ty) (z:u.den),(ig t)[j]? =some u/\y=aG u z
 | .unit,x=>⟨rfl,λj y h=>by simp[aC,aG,PV.cells]at h⟩
 | .pair a b,x=>by
  obtain⟨c,d⟩:=qn a x.1
  obtain⟨g,l⟩:=qn b x.2
  refine⟨by simp[ig,Ty.sz,c,g],λj y h=>?_⟩
  have hc:aC (.pair a b) x=aC a x.1++aC b x.2:=rfl
  rw[hc]at h
  have hl:(aC a x.1).length=a.sz:=aD a x.1
  rcases Nat.lt_or_ge j a.sz with n|n
  ·rw[V_ (by omega)]at h
   obtain⟨u,z,e,f⟩:=d j y h
   exact⟨u,z,by simp only[ig];rw[V_ (by omega)];exact e,f⟩
  ·rw[R_ (by omega)]at h
   obtain⟨u,z,e,f⟩:=l _ y h
   exact⟨u,z,by simp only[ig];rw[R_ (by omega),c,<-hl];exact e,f⟩
 | .rx,x=>by
  refine⟨rfl,λj y h=>?_⟩
  rw[rA]at h
  match j,h with
  |0,h=>cases h;exact⟨.int .i64,_,rfl,rfl⟩
  |1,h=>cases h;exact⟨.int .i64,_,rfl,rfl⟩
  |2,h=>cases h;exact⟨.int .i64,_,rfl,rfl⟩
  |3,h=>cases h;exact⟨.list .rx,_,rfl,rfl⟩
  |j+4,h=>simp at h
 | .int k,x=>leaf (.int k) x rfl rfl
 | .bool,x=>leaf .bool x rfl rfl
 | .str,x=>leaf .str x rfl rfl
 | .list t,x=>leaf (.list t) x rfl rfl
where
 leaf (t:Ty) (x:t.den) (c:t.ag=false) (d:ig t=[t]):(ig t).length=t.sz/\∀(j:Nat) (y:PV),(aC t x)[j]? =some y->∃(u:Ty) (z:u.den),(ig t)[j]? =some u/\y=aG u z:=by
  refine⟨by rw[d,eA c];rfl,λj y h=>?_⟩
  rw[dc x c]at h
  cases j with
  |zero=>cases h;exact⟨t,x,by rw[d];rfl,rfl⟩
  |succ j=>simp at h
theorem qj:∀(k:Av.K) (b:List Ty),flatK k b=true->∀(j:Nat) (u:Ty) (z:u.den),b[j]? =some u->FlatT (k.at j) (aG u z)
 | .e,b,h,j,u,z,a=>by simp only[flatK,n_]at h;exact .flat _ (lb u z (h u (ae_ a))).1
 | .f r,[],h,j,u,z,a=>by simp at a
 | .f r,t::b,h,j,u,z,a=>by simp only[flatK,b_]at h;cases j with|zero=>cases a;exact .flat _ (lb _ z h.1).1|succ j=>exact qj r b h.2 j u z (by simpa using a)
 | .s e sz sub r,[],h,j,u,z,a=>by simp at a
 | .s e sz sub r,t::b,h,j,u,z,a=>by
  cases t<;>try cases h
  rename_i v;simp only[flatK,b_]at h;cases j with
  |zero=>cases a;have hs:=a_ h.1.1;refine .sl _ _ _ _ (z.map (aG v)) (by rw[hs];rfl) λi j x y c f=>?_;rw[r_]at c;obtain⟨w,_,rfl⟩:=o_.1 c;obtain⟨g,l,d,rfl⟩:=(qn v w).2 j y f;exact qj sub _ h.1.2 j g l d
  |succ j=>exact qj r b h.2 j u z (by simpa using a)
theorem Fg{e:TypeId}{k:Av.K}{t:Ty}(xs:List t.den)(h:flatK k (ig t)=true)(hole:Option (Nat×Nat×V))(f:hole=none\/∃i j kid,hole=some (i,j,.sl kid)):(bC (.tree e k t xs hole)).FlatO:=by
 refine⟨λi j b a=>?_,λi j x y c g=>?_⟩
 ·rcases f with rfl|⟨i',p,kid,rfl⟩;·cases a
  ·cases a;trivial
 ·rw[r_]at c;obtain⟨w,_,rfl⟩:=o_.1 c;obtain⟨l,n,d,rfl⟩:=(qn t w).2 j y g;exact qj k _ h j l n d
theorem iG:∀(l:List Slot) (c:HL l) (b:S),l.all Slot.flat=true->FlP l b->FlP [] (unpack l c b)
 |[],_,b,_,h=>h
 |x::l,c,b,g,h=>by
  simp only[s_,b_]at g;have drop:∀(i:Nat) (o:Ob),b.hp[i]? =some o->x.obj≠some i->(bC o).FlatO\/(o.vary=true/\∃x∈l,x.obj=some i):=by
   intro i o r B;rcases h.hp i o r with p|⟨p,y,C,w⟩;·exact .inl p
   ·exact .inr ⟨p,y,(D_.1 C).resolve_left λq=>B (by rw[<-q];exact w),w⟩
  have f:∀(id:Nat) (o':Ob),x.obj=some id->(bC o').FlatO->FlP l ⟨b.fr,setAt b.hp id o'⟩:=λid o' D z=>⟨h.fr,λi o r=>by
   have d:(setAt b.hp id o')[i]? =some o:=r;rw[et]at d;by_cases s:id=i
   ·subst s;rw[am_]at d;split at d
    ·split at d;·cases d;exact .inl z
     ·cases d
    ·rename_i A;exact absurd rfl A
   ·rw[u_ s]at d;exact drop i o d (by rw[D];simpa using s)⟩
  cases x with
  |tm k t=>
   refine iG l c.2 _ g.2 ⟨λj v n=>?_,λi o r=>drop i o r (by simp[Slot.obj])⟩;simp only[lk]at n;cases u:c_ j k;·rw[u]at n;exact h.fr j v n
   ·rw[u]at n;simp only[cond_true,e_]at n;subst n;exact(lb t c.1 g.1).1
  |cell id j t=>
   refine iG l c.2 _ g.2 ⟨h.fr,λi o r=>?_⟩;have d:(setCell b.hp id j (.d t c.1))[i]? =some o:=r;unfold setCell at d;split at d
   ·rename_i F ds u;rw[et,et]at d;have hid:=(g_.1 u).1;by_cases s:id=i
    ·subst s;rw[A_ hid]at d;cases d;left;rcases h.hp id _ u with p|⟨p,_⟩
     ·intro y w;obtain⟨v,n,rfl⟩:=t_.1 w;rcases List.mem_or_eq_of_mem_set n with n|rfl;·exact p _ (af_ n)
      ·exact(lb t c.1 g.1).1
     ·cases p
    ·rw[u_ s]at d;exact drop i o d (by simp[Slot.obj])
   ·exact drop i o d (by simp[Slot.obj])
  |vec id e t=>exact iG l c.2 _ g.2 (f id _ rfl (SB _ g.1))|map id k e a E=>have:=g.1;simp only[Slot.flat,b_]at this;exact iG l c.2 _ g.2 (f id _ rfl (Rj _ this))|tree id e k t=>exact iG l c.2 _ g.2 (f id _ rfl (Fg _ g.1 none (.inl rfl)))|treeH id e k t j kid=>exact iG l c.2 _ g.2 (f id _ rfl (Fg _ g.1 _ (.inr ⟨_,_,_,rfl⟩)))
theorem base_nil(sh:Sh):(sh.base ⟨[],[]⟩).fr=sh.sk.fr:=by
 have:∀l,cV [] l=[]:=λl=>by induction l with
  |nil=>rfl
  |cons k l a=>simp only[cV,lk,a]
 simp[Sh.base,this]
theorem PK{sh:Sh}{s:S}{c:HL sh.sl}(r:sh.wfB=true)(h:pack sh s=some c)(A:sh.sl.all Slot.flat=true):(∀k v,lk (unpack sh.sl c (sh.base ⟨[],[]⟩)).fr k=some v->(aS v).FlatA)/\∀o∈(unpack sh.sl c (sh.base ⟨[],[]⟩)).hp,(bC o).FlatO:=by
 unfold pack at h;split at h
 ·rename_i d;simp only[b_,S.fits]at d;simp only[Sh.wfB,b_,n_]at r;obtain⟨x,z⟩:=yd d.1.2;have key:FlP [] (unpack sh.sl c (sh.base ⟨[],[]⟩)):=iG sh.sl c _ A ⟨λk v j=>by
   rw[base_nil]at j;obtain⟨w,F,p⟩:=HB d.1.1 (EA j);rw[l7 (Sm p)];exact(EW p).2.2,λi o l=>by
   have f:sh.sk.hp[i]? =some o:=l;have q:=EE (i:=0) r.2 f;rw[O_]at q;obtain⟨u,n⟩:=bb x.symm f;have g:=z i o u f n;cases o with
   |gone=>exact .inl trivial|free=>exact .inl trivial|box t cs=>cases u<;>simp[Om]at g;left;intro y E;obtain⟨v,j,rfl⟩:=t_.1 E;exact(uq _ _ g.2).2 v j
   |vec e t xs=>exact .inr ⟨rfl,q rfl⟩|map k e a b xs=>exact .inr ⟨rfl,q rfl⟩|tree e k t xs hole=>exact .inr ⟨rfl,q rfl⟩⟩
  refine⟨key.fr,λo l=>?_⟩;obtain⟨i,C⟩:=List.getElem?_of_mem l;rcases key.hp i o C with B|⟨_,_,D,_⟩;·exact B
  ·cases D
 ·cases h
theorem Sg{n:Nat}{fr:List (Nat×V)}(h:∀k v,lk fr k=some v->(aS v).FlatA):(aS (res n fr)).FlatA:=by
 unfold res;cases c_ n 1
 ·intro x c;obtain⟨v,b,rfl⟩:=t_.1 c;obtain⟨i,_,rfl⟩:=t_.1 b;cases hl:lk fr i with
  |none=>exact .any|some u=>
   have:=h i u hl;simp only[w_];cases a:u.isA;·rw[l7 a]at this;exact this
   ·cases u<;>first|exact .any|cases a
 ·cases hl:lk fr 0 with|none=>exact .any|some u=>exact h 0 u hl
theorem TZ{x:BV}{v:V}(h:LeA (.b x) (aS v)):LeB x (aO v):=by
 cases a:v.isA;·rw[l7 a]at h;generalize aO v=y at h⊢;cases h with|refl=>exact .refl _|data _ p h=>exact .data _ _ h|any=>exact .any _
 ·cases v with|agg vs=>cases h|tup vs=>cases h|_=>cases a
theorem U7{n:Nat}{fr fr':List (Nat×V)}(h:LeF fr fr')(d:HR n fr=true):LeA (aS (res n fr)) (aS (res n fr')):=by
 unfold res;simp only[HR]at d;cases hn:c_ n 1
 ·rw[hn,Bool.false_or,n_]at d;refine .tup _ _ (by simp[PT]) λi x y e f=>?_;simp only[PT,r_,o_]at e f;obtain⟨v,⟨j,g,rfl⟩,rfl⟩:=e;obtain⟨w,⟨k,b,rfl⟩,rfl⟩:=f;rw[g]at b;cases b;cases hl:lk fr' j with
  |none=>exact .any _|some v=>
   obtain⟨u,c,a⟩:=h j v hl;rw[c];have:u.isA=false:=by simpa using d _ (EA c)
   rw[l7 this]at a;exact TZ a
 ·cases hl:lk fr' 0 with|none=>exact .any _|some v=>obtain⟨u,c,a⟩:=h 0 v hl;rw[c];exact a
theorem O3{P:Program}{f:FuncId}{ars:List AV}{os b a:List AObj}{r j:AV}(h:ACalls P f ars os λo=>o=some (r,b))(hr:LeA r j)(hl:b.length=a.length) (F:∀(i:Nat) (x y:AObj),b[i]? =some x->a[i]? =some y->LeO x y):ACalls P f ars os λo=>o=some (j,a):=by
 intro w θ D vs u z A B;refine(h w θ D vs u z A B).mono λe w' C=>?_;rcases C with⟨v,r1,H,θ',D',k,n,g,c,s⟩|⟨I,k,n,g,_⟩;·cases n;refine .inl ⟨v,j,a,θ',D',k,rfl,hr.rel g,⟨by rw[c.len,hl],c.dlt,c.inj,c.olt,λi l o E d=>?_⟩,s⟩;obtain⟨x,p⟩:=bb hl d;exact(F i x o p d).rel (c.objs i l x E p)
 ·cases g
structure OracleOk(P:Program)(O:ak):Prop where
 ret:∀f ars os s,O f ars os=some (some s)->ACalls P (f%10000) (ars.map aS) (os.map bC) λo=>o=some (aS (res s.fr.length s.fr),s.hp.map bC)
 pan:∀f ars os,O f ars os=some none->ACalls P (f%10000) (ars.map aS) (os.map bC) λo=>o=none
section
variable {R:Type} {P:Program} {O:ak} {d:Option Nat} {s:S} {κ kp:S->Option R} {r:R}
theorem uo(hO:OracleOk P O){f:FuncId}{ars:List V}{os:List Ob}{sh:Sh}{c:HL sh.sl}(n:sh.wfB=true)(h:aB O f ars os sh=some c): ACalls P (f%10000) (ars.map aS) (os.map bC) (λo=>o=some (aS (res sh.n (unpack sh.sl c (sh.base ⟨[],[]⟩)).fr),(unpack sh.sl c (sh.base ⟨[],[]⟩)).hp.map bC))/\(sh.sl.all Slot.flat=true->(aS (res sh.n (unpack sh.sl c (sh.base ⟨[],[]⟩)).fr)).FlatA/\∀o∈(unpack sh.sl c (sh.base ⟨[],[]⟩)).hp.map bC,o.FlatO):=by
 unfold aB at h;split at h
 ·rename_i s' e;obtain⟨a,g⟩:=aN h;simp only[b_]at a;have hn:=a_ a.1;have u:∀k v,lk (cV (⟨[],[]⟩:S).fr sh.keep) k=some v->lk s'.fr k=some v:=by
   have:∀l,cV [] l=[]:=λl=>by induction l with
    |nil=>rfl
    |cons k l B=>simp only[cV,lk,B]
   intro k v j;rw[this]at j;cases j
  have b:=EJ (s0:=⟨[],[]⟩) n g u;have r:=b.le;refine⟨O3 (hO.ret f ars os s' e) ?_ (by simp[b.len]) (λi x y z A=>r.hp i x y z A),λs=>?_⟩;·rw[hn];exact U7 b.fr a.2
  ·obtain⟨p,f2⟩:=PK n g s;refine⟨Sg p,λo w=>?_⟩;obtain⟨o',d,rfl⟩:=t_.1 w;exact f2 o' d
 ·cases h
theorem KF(hO:OracleOk P O){f:FuncId}{ars:List V}{os:List Ob}{sh:Sh}{c:Option (HL sh.sl)}(h:gX O f ars os sh=some c):(∀d,c=some d->aB O f ars os sh=some d)/\(c=none->ACalls P (f%10000) (ars.map aS) (os.map bC) λo=>o=none):=by
 unfold gX at h;split at h
 ·rename_i s' b;obtain⟨j,e⟩:=aN h;split at e;·rename_i k g;cases e;refine⟨λd a=>?_,(λhc=>by cases hc)⟩;cases a;unfold aB;rw[b];simp only[j,cond_true];exact g
  ·cases e
 ·rename_i b;cases h;exact⟨(λd a=>by cases a),λ_=>hO.pan f ars os b⟩
 ·cases h
theorem Li{B:List Nat}{v:V}(h:v.isD=true):mc (sy B) v=v:=by cases v<;>first|rfl|cases h
theorem zg(hO:OracleOk P O){pan bor:Bool}{B:List Nat}{f:FuncId}{ars:List V}{sh:Sh}(T:sh.wfB=true)(h:xU pan O s d bor B f ars sh κ kp=some r): ∃os:List Ob,(enc s).hp=(enc s).hp/\B.mapM ((enc s).hp[·]?)=some (os.map bC)/\(∀v∈ars,∀i∈v.ids,i∈B)/\sexec.callK P (enc s) d bor B (f%10000) (ars.map aS) (os.map bC) (λu=>∃s',u=enc s'/\Keeps (fN d) s s'/\κ s'=some r) (λu=>∃s',u=enc s'/\Keeps (fN d) s s'/\kp s'=some r):=by
 unfold xU at h;split at h
 ·rename_i os H;obtain⟨I,J⟩:=aN h;simp only[b_,decide_eq_true_eq,n_,Bool.or_eq_true,E_]at I;obtain⟨⟨⟨E,y⟩,l⟩,k⟩:=I;have z:∀v∈ars,∀i∈v.ids,i∈B:=λv n=>allIn_mem.1 (y v n);have g:((ars.map (mc (V.ren (Lg B)))).map aS)=(ars.map aS).map (AV.ren (B.idxOf ·)):=by rw[i_,i_];exact k_ λv _=>Eg _ v
  have e:((os.map (uT (V.ren (Lg B)))).map bC)=(os.map bC).map (AObj.ren (B.idxOf ·)):=by rw[i_,i_];exact k_ λv _=>zJ _ v
  have tp:∀(b:List Ob) (v:V),Keeps (fN d) s ((s.back B b).putO d v):=λb v=>(Keeps.map (fN d) s (s.back B b) (sy B) (λv n=>Li n) rfl).trans (Keeps.put _ d v);have p:∀(b:List Ob),Keeps (fN d) s (s.back B b):=λb=>Keeps.map (fN d) s (s.back B b) (sy B) (λv n=>Li n) rfl;have j:∀c:HL sh.sl,aB O f (ars.map (mc (V.ren (Lg B)))) (os.map (uT (V.ren (Lg B)))) sh=some c->Bm s d B sh.n sh κ c=some r->
   ACalls P (f%10000) ((ars.map aS).map (AV.ren (B.idxOf ·))) ((os.map bC).map (AObj.ren (B.idxOf ·))) λo=>match o with
    |some (L,b)=>(bor=true->L.FlatA/\∀o∈b,o.FlatO)/\∃s',((enc s).back B b).putO d (L.ren (gN B (enc s).hp.length))=enc s'/\Keeps (fN d) s s'/\κ s'=some r
    |none=>∃s',(enc s).back B ((os.map bC).map λ_=>.gone)=enc s'/\Keeps (fN d) s s'/\kp s'=some r:=by
   intro c hc w
   obtain⟨C,Y⟩:=uo hO T hc
   rw[g,e]at C
   refine C.mono λo A=>?_
   subst A
   refine⟨λR=>Y ?_,_,?_,tp _ _,w⟩
   ·rcases k with D|D;·rw[R]at D;cases D
    ·exact n_.2 D
   ·rw[gv,K6,Eg,DI];congr 2;simp[enc]
  refine⟨os,rfl,Ck B os H,z,E,?_,?_,?_⟩;·intro a Q i x;obtain⟨v,n,rfl⟩:=t_.1 Q;rw[<-oQ]at x;exact z v n i x
  ·intro o A i x;obtain⟨o',F,rfl⟩:=t_.1 A;rw[<-Ej]at x;exact allIn_mem.1 (l o' F) i x
  ·cases pan with
   |false=>obtain⟨c,hc,w⟩:=ca J;exact j c hc w
   |true=>obtain⟨U,hc,w⟩:=ca J;obtain⟨M,N⟩:=KF hO hc;cases U with|some c=>exact j c (M c rfl) w|none=>have C:=N rfl;rw[g,e]at C;refine C.mono λo A=>?_;subst A;refine⟨_,?_,p _,w⟩;rw[K6];congr 1;rw[i_,i_];rfl
 ·cases h
end
end Go.Ev
