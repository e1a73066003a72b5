import Derived.Test.YtmfolppncelceaaGreatDoorVL1
import Derived.Test.YtmfolppncelceaaGreatDoorVL3
set_option linter.unusedVariables false
set_option linter.unusedSimpArgs false
open Bool renaming and_eq_true->b_,not_eq_true'->x_,rec->y_,false_eq_true->K_
open List renaming getElem?_eq_some_iff->g_,map_map->h_,map_congr_left->i_,mapM_cons->k_,map_cons->l_,all_eq_true->m_,length_map->o_,take_of_length_le->q_,all_cons->r_,mem_map->s_,getElem?_map->u_,getElem?_set_ne->v_,length_append->w_,map_drop->A_,map_append->B_,mem_cons_self->C_,drop_zero->D_,getElem?_set_self->E_,replicate->F_,any_eq_true->G_,map_take->H_,take_append_of_le_length->I_,mem_singleton->L_,drop_eq_getElem_cons->N_,getElem?_eq_getElem->P_,contains_iff_mem->R_,mem_of_getElem?->S_,getD->T_,mem_map_of_mem->V_,take_succ_cons->W_,mapM_nil->Y_,range->Z_,flatMap_cons->aa_,map_nil->ab_,drop_append->ae_,length_drop->af_,mapM_append->ag_,length->ai_,append_nil->ak_,nil_append->al_,drop_drop->ap_,take_zero->aq_,mem_cons->ar_,all_map->as_,flatMap->au_
open Nat renaming eq_of_beq_eq_true->a_,beq->c_,le_of_ble_eq_true->f_,ble->j_,lor->J_,shiftRight->M_,land->Q_,and_comm->ac_,zero_add->ad_,zero_testBit->ah_,add_mul->aj_,testBit_and->am_,add_zero->av_,beq_refl->aw_,one_mul->ax_,zero_le->ay_
open Option renaming bind->d_,map_eq_some_iff->n_,bind_some->p_,rec->t_,getD_some->z_,isNone_iff_eq_none->O_,bind_eq_bind->X_,map_some->an_,pure_def->ao_
open Option.some renaming injEq->e_
open Prod renaming mk->U_
open Sum renaming elim->az_
namespace Go.Ev
open Go Go.RowKit Go.Av
inductive Rx where
 |mk (kind lo hi:Int) (kids:List Rx)
 deriving Inhabited
inductive Ty where
 |int (k:IntKind)
 |bool
 |str
 |list (t:Ty)
 |unit
 |pair (a b:Ty)
 |rx
 deriving Inhabited,DecidableEq
@[reducible] def Ty.den:Ty->Type
 | .int _=>Int
 | .bool=>Bool
 | .str=>List UInt8
 | .list t=>List t.den
 | .unit=>Unit
 | .pair a b=>a.den×b.den
 | .rx=>Rx
def Ty.sz:Ty->Nat
 | .unit=>0
 | .pair a b=>a.sz+b.sz
 | .rx=>4
 |_=>1
def Ty.ag:Ty->Bool
 | .unit=>true
 | .pair _ _=>true
 | .rx=>true
 |_=>false
mutual
def zdR:Rx->PV
 | .mk k l h ks=>.agg [.sc (.int .i64 k),.sc (.int .i64 l),.sc (.int .i64 h),p5 4 (Tb ks)]
def Tb:List Rx->List PV
 |[]=>[]
 |r::a=>zdR r::Tb a
end
def aM:(t:Ty)->t.den->PV
 | .int k,x=>.sc (.int k x)
 | .bool,x=>.sc (.bool x)
 | .str,x=>.sc (.string ⟨x.toArray⟩)
 | .list t,x=>p5 t.sz (x.map (aM t))
 | .unit,_=>.agg []
 | .pair a b,x=>.agg ((aM a x.1).cells++(aM b x.2).cells)
 | .rx,x=>zdR x
inductive V where
 |d (t:Ty) (x:t.den)
 |nil (t:Ty)
 |agg (vs:List V)
 |tup (vs:List V)
 |sl (id:Nat)
 |ptr (id off:Nat)
 |elt (id i off:Nat)
 |dp (t:Ty) (x:t.den)
 |clo (f:FuncId) (ids:List Nat)
 |fnD (f:FuncId) (cs:List ((t:Ty)×t.den))
 |mp (id:Nat)
 |full (t:Ty) (x:List t.den)
 |pel (id off n:Nat) (t:Ty) (i:Int)
 |raw (v:Value)
 |any
 |ifc
 |lit (k:K) (t:Ty) (xs:List t.den)
instance:Inhabited V:=⟨.raw Go.undef⟩
inductive Ob where
 |gone
 |free
 |box (tid:TypeId) (cs:List V)
 |vec (tid:TypeId) (t:Ty) (xs:List t.den)
 |map (k e:TypeId) (a b:Ty) (kvs:List (a.den×b.den))
 |tree (tid:TypeId) (k:K) (t:Ty) (xs:List t.den) (hole:Option (Nat×Nat×V))
instance:Inhabited Ob:=⟨.gone⟩
def Ed(k:K)(t:Ty)(x:t.den):PV:=match aM t x with
 | .agg cs=>.agg (cs.mapIdx λj y=>if(k.at j).isSome then nilP else y)
 |y=>if(k.at 0).isSome then nilP else y
def aW:V->BV
 | .d t x=>.pv (aM t x)
 | .nil _=>.nils
 | .sl id=>.sl id
 | .ptr id off=>.ptr id off
 | .elt id i off=>.elt id i off
 | .dp t x=>.pv (.pto (aM t x))
 | .clo f ids=>.clo (.func f) ids
 | .fnD f cs=>.pv (.fn (.func f) (cs.map λc=>.pto (aM c.1 c.2)))
 | .mp id=>.mp id
 | .full t x=>.full (p5 t.sz (x.map (aM t)))
 | .raw v=>bJ v
 | .pel id off _ t i=>.ptr id (off+i.toNat*t.sz)
 | .any=>.pv .any
 | .ifc=>.ifc
 | .lit k t xs=>.pv (p5 t.sz (xs.map (Ed k t)))
 | .agg _=>.pv .any
 | .tup _=>.pv .any
def aZ:V->AV
 | .agg vs=>.agg (vs.map aW)
 | .tup vs=>.tup (vs.map aW)
 |v=>.b (aW v)
def zip:Option (Nat×Nat×V)->Option (Nat×Nat×BV)
 |some (i,j,v)=>some (i,j,aW v)
 |none=>none
def bV:Ob->AObj
 | .gone=>.gone
 | .free=>.free
 | .box t cs=>.box t (cs.map aW)
 | .vec e t xs=>.vec e t.sz (xs.map (aM t))
 | .map k e a b kvs=>.map k e (kvs.map λp=>(aM a p.1,aM b p.2))
 | .tree e k t xs h=>.tree e t.sz k (xs.map (aM t)) (zip h)
structure S where
 fr:List (Nat×V)
 hp:List Ob
def enc(s:S):St:=⟨s.fr.map λx=>(x.1,aZ x.2),s.hp.map bV⟩
def lk:List (Nat×V)->Nat->Option V
 |[],_=>none
 |(k,a)::l,t=>bif c_ t k then some a else lk l t
def S.put(s:S)(d:Nat)(v:V):S:=⟨(d,v)::s.fr,s.hp⟩
def S.putO(s:S)(d:Option Nat)(v:V):S:=match d with
 |some d=>s.put d v
 |none=>s
def cg(t u:Ty)(x:t.den):Option u.den:=if h:t=u then some (h▸x)else none
def aG{R:Type}(b:Bool)(x:Option R):Option R:=bif b then x else none
def aR{α:Type}(xs:List α)(i:Int):Option α:=bif decide (0<=i)then xs[i.toNat]? else none
def rxFields:Ty:=.pair (.int .i64) (.pair (.int .i64) (.pair (.int .i64) (.pair (.list .rx) .unit)))
def Rx.out:Rx->rxFields.den
 | .mk k l h ks=>(k,l,h,ks,())
def AI:(t:Ty)->(off:Nat)->(u:Ty)->t.den->Option u.den
 | .pair a b,off,u,x=>bif (decide (Ty.pair a b=u)&&c_ off 0)then cg (.pair a b) u x else bif j_ (off+1) a.sz then AI a off u x.1 else AI b (off - a.sz) u x.2
 | .rx,off,u,x=>match off with
  |0=>bif decide (u= .rx)then cg .rx u x else cg (.int .i64) u x.out.1
  |1=>cg (.int .i64) u x.out.2.1
  |2=>cg (.int .i64) u x.out.2.2.1
  |3=>cg (.list .rx) u x.out.2.2.2.1
  |_=>none
 |t,off,u,x=>bif c_ off 0 then cg t u x else none
def rO:(t:Ty)->(off:Nat)->(u:Ty)->t.den->u.den->Option t.den
 | .pair a b,off,u,x,y=>bif (decide (Ty.pair a b=u)&&c_ off 0)then cg u (.pair a b) y else bif j_ (off+1) a.sz then(match rO a off u x.1 y with|some z=>some (z,x.2)|none=>none)else(match rO b (off - a.sz) u x.2 y with|some z=>some (x.1,z)|none=>none)
 | .rx,off,u,x,y=>bif c_ off 0&&decide (u= .rx)then cg u .rx y else none
 |t,off,u,_,y=>bif c_ off 0 then cg u t y else none
def jV:(t:Ty)->t.den->List V
 | .unit,_=>[]
 | .pair a b,x=>jV a x.1++jV b x.2
 | .rx,x=>[.d (.int .i64) x.out.1,.d (.int .i64) x.out.2.1,.d (.int .i64) x.out.2.2.1,.d (.list .rx) x.out.2.2.2.1]
 |t,x=>[.d t x]
def mP(u:Ty):V->Option u.den
 | .d t x=>cg t u x
 | .nil t=>cg (.list t) u ([]:List t.den)
 | .full t x=>cg (.list t) u x
 |_=>none
def asm:(t:Ty)->List V->Option (t.den×List V)
 | .unit,l=>some ((),l)
 | .pair a b,l=>match asm a l with
  |some (x,l)=>match asm b l with
   |some (y,l)=>some ((x,y),l)
   |none=>none
  |none=>none
 | .rx,l=>match l with
  |a::b::c::e::l=>match mP (.int .i64) a,mP (.int .i64) b,mP (.int .i64) c,mP (.list .rx) e with
   |some a,some b,some c,some e=>some (.mk a b c e,l)
   |_,_,_,_=>none
  |_=>none
 |t,l=>match l with
  |v::l=>match mP t v with
   |some x=>some (x,l)
   |none=>none
  |[]=>none
def d6(t:Ty)(v:V):Option t.den:=match v with
 | .agg vs=>match t.ag with
  |true=>match asm t vs with
   |some (x,[])=>some x
   |_=>none
  |false=>none
 |v=>mP t v
def dw:V->List V
 | .d t x=>jV t x
 | .agg vs=>vs
 |v=>[v]
def whole(t:Ty)(cs:List V):V:=match t.ag with
 |true=>.agg cs
 |false=>match cs.headD default with
  | .agg _=>.any
  | .tup _=>.any
  |v=>v
def V.cellB:V->Bool
 | .d t _=> !t.ag
 | .agg _=>false
 | .tup _=>false
 | .any=>false
 | .lit _ _ _=>false
 | .raw v=>v.oneCell'
 |_=>true
def V.okB:V->Bool
 | .d _ _=>true
 | .agg vs=>vs.all V.cellB
 | .tup _=>false
 |v=>v.cellB
def V.cellD:V->Bool
 | .d _ _=>true
 | .nil _=>true
 | .full _ _=>true
 |_=>false
def nH:(t:Ty)->t.den->t.den->Bool
 | .int _,x,y=>x==y
 | .bool,x,y=>x==y
 | .str,x,y=>x==y
 | .unit,_,_=>true
 | .pair a b,x,y=>nH a x.1 y.1&&nH b x.2 y.2
 |_,_,_=>false
def Ty.eqOk:Ty->Bool
 | .int _=>true
 | .bool=>true
 | .str=>true
 | .unit=>true
 | .pair a b=>a.eqOk&&b.eqOk
 |_=>false
def jU(a b:Ty):List (a.den×b.den)->a.den->Option b.den
 |[],_=>none
 |(k,v)::l,x=>bif nH a x k then some v else jU a b l x
def oU(a b:Ty):List (a.den×b.den)->a.den->b.den->List (a.den×b.den)
 |[],x,y=>[(x,y)]
 |(k,v)::l,x,y=>bif nH a x k then(x,y)::l else(k,v)::oU a b l x y
def Ty.zero:(t:Ty)->t.den
 | .int _=>(0:Int)
 | .bool=>false
 | .str=>[]
 | .list _=>[]
 | .unit=>()
 | .pair a b=>(a.zero,b.zero)
 | .rx=>.mk 0 0 0 []
def Ty.flat:Ty->Bool
 | .list _=>false
 | .rx=>false
 | .pair a b=>a.flat&&b.flat
 |_=>true
inductive X where
 |tm (k:Nat)
 |k (t:Ty) (x:t.den)
 |nil (t:Ty)
 |ag (vs:List V)
 |f (n:Nat)
 |raw (v:Value)
 deriving Inhabited
def S.get(s:S):X->Option V
 | .tm k=>lk s.fr k
 | .k t x=>some (.d t x)
 | .nil t=>some (.nil t)
 | .ag vs=>some (.agg vs)
 | .f n=>some (.fnD n [])
 | .raw v=>some (.raw v)
inductive Slot where
 |tm (k:Nat) (t:Ty)
 |cell (id j:Nat) (t:Ty)
 |vec (id:Nat) (e:TypeId) (t:Ty)
 |map (id:Nat) (k e:TypeId) (a b:Ty)
 |tree (id:Nat) (e:TypeId) (k:K) (t:Ty)
 |treeH (id:Nat) (e:TypeId) (k:K) (t:Ty) (j kid:Nat)
@[reducible] def Slot.ty:Slot->Ty
 | .tm _ t=>t
 | .cell _ _ t=>t
 | .vec _ _ t=>.list t
 | .map _ _ _ a b=>.list (.pair a b)
 | .tree _ _ _ t=>.list t
 | .treeH _ _ _ t _ _=>.pair (.list t) (.int .i64)
@[reducible] def HL:List Slot->Type
 |[]=>Unit
 |s::l=>s.ty.den×HL l
structure Sh where
 keep:List Nat
 sk:S
 sl:List Slot
def V.isD:V->Bool
 | .d _ _=>true
 | .dp _ _=>true
 | .fnD _ _=>true
 |_=>false
def fg(fr:List (Nat×V)):List Nat->List (Nat×V)
 |[]=>[]
 |k::l=>match lk fr k with
  |some v=>bif v.isD then(k,v)::fg fr l else fg fr l
  |none=>fg fr l
def zd6(fr:List (Nat×V))(k:Nat):Bool:=match lk fr k with
 |some v=>v.isD
 |none=>false
def Sh.base(sh:Sh)(s:S):S:=⟨fg s.fr sh.keep++sh.sk.fr,sh.sk.hp⟩
def setAt{α:Type}:List α->Nat->α->List α
 |[],_,_=>[]
 |_::l,0,y=>y::l
 |x::l,n+1,y=>x::setAt l n y
def setCell(hp:List Ob)(id j:Nat)(v:V):List Ob:=match hp[id]? with
 |some (.box t cs)=>setAt hp id (.box t (setAt cs j v))
 |_=>hp
def unpack:(sl:List Slot)->HL sl->S->S
 |[],_,s=>s
 | .tm k t::l,c,s=>unpack l c.2 ⟨(k,.d t c.1)::s.fr,s.hp⟩
 | .cell id j t::l,c,s=>unpack l c.2 ⟨s.fr,setCell s.hp id j (.d t c.1)⟩
 | .vec id e t::l,c,s=>unpack l c.2 ⟨s.fr,setAt s.hp id (.vec e t c.1)⟩
 | .map id k e a b::l,c,s=>unpack l c.2 ⟨s.fr,setAt s.hp id (.map k e a b c.1)⟩
 | .tree id e k t::l,c,s=>unpack l c.2 ⟨s.fr,setAt s.hp id (.tree e k t c.1 none)⟩
 | .treeH id e k t j kid::l,c,s=>unpack l c.2 ⟨s.fr,setAt s.hp id (.tree e k t c.1.1 (some (Int.toNat c.1.2,j,.sl kid)))⟩
def V.same:V->V->Bool
 | .sl i,.sl j=>c_ i j
 | .ptr i o,.ptr j p=>c_ i j&&c_ o p
 | .mp i,.mp j=>c_ i j
 | .clo f z,.clo g E=>c_ f g&&decide (z=E)
 | .nil t,.nil u=>decide (t=u)
 | .raw (.pointer none),.raw (.pointer none)=>true
 | .raw (.map none),.raw (.map none)=>true
 | .raw .nilFunc,.raw .nilFunc=>true
 | .raw .nilIface,.raw .nilIface=>true
 |_,_=>false
def q9:List V->List V->Bool
 |[],[]=>true
 | .any::l,_::m=>q9 l m
 | .agg xs::l,.agg ys::m=>(xs.length==ys.length)&&q9 l m
 |x::l,y::m=>V.same x y&&q9 l m
 |_,_=>false
def zbp:Ob->Ob->Bool
 | .gone,_=>true
 | .box t cs,.box u ds=>c_ t u&&q9 cs ds
 | .vec e t _,.vec c g _=>c_ e c&&decide (t=g)
 | .map k e a b _,.map f c d l _=>c_ k f&&c_ e c&&decide (a=d)&&decide (b=l)
 | .tree e k t _ h,.tree c f g _ h'=>c_ e c&&decide (k=f)&&decide (t=g)&&(match h,h' with
  |none,none=>true
  |some (_,j,.sl a),some (_,n,.sl d)=>c_ j n&&c_ a d
  |_,_=>false)
 |_,_=>false
def Ki:List Ob->List Ob->Bool
 |[],[]=>true
 |a::l,b::m=>zbp a b&&Ki l m
 |_,_=>false
def NI(fr:List (Nat×V)):List (Nat×V)->Bool
 |[]=>true
 |(k,v)::l=>(match lk fr k with|some w=>V.same v w|none=>false)&&NI fr l
def S.fits(sk s:S):Bool:=NI s.fr sk.fr&&Ki sk.hp s.hp
def kI(s:S):(x:Slot)->Option x.ty.den
 | .tm k t=>match lk s.fr k with
  |some v=>d6 t v
  |none=>none
 | .cell id j t=>match s.hp[id]? with
  |some (.box _ cs)=>match cs[j]? with
   |some v=>mP t v
   |none=>none
  |_=>none
 | .vec id _ t=>match s.hp[id]? with
  |some (.vec _ u xs)=>cg (.list u) (.list t) xs
  |_=>none
 | .map id _ _ a b=>match s.hp[id]? with
  |some (.map _ _ c d kvs)=>cg (.list (.pair c d)) (.list (.pair a b)) kvs
  |_=>none
 | .tree id _ _ t=>match s.hp[id]? with
  |some (.tree _ _ u xs none)=>cg (.list u) (.list t) xs
  |_=>none
 | .treeH id _ _ t _ _=>match s.hp[id]? with
  |some (.tree _ _ u xs (some (i,_,_)))=>match cg (.list u) (.list t) xs with
   |some xs=>some (xs,(i:Int))
   |none=>none
  |_=>none
def N6(s:S):(sl:List Slot)->Option (HL sl)
 |[]=>some ()
 |x::l=>match kI s x with
  |some c=>match N6 s l with
   |some r=>some (c,r)
   |none=>none
  |none=>none
def pack(sh:Sh)(s:S):Option (HL sh.sl):=match S.fits sh.sk s&&sh.keep.all (zd6 s.fr)with
 |true=>N6 s sh.sl
 |false=>none
def Se(hp:List Ob):Slot->Bool
 | .vec id e t=>match hp[id]? with
  |some (.vec c g _)=>c_ e c&&decide (t=g)
  |_=>false
 | .map id k e a b=>match hp[id]? with
  |some (.map d c h l _)=>c_ k d&&c_ e c&&decide (a=h)&&decide (b=l)
  |_=>false
 | .tree id e k t=>match hp[id]? with
  |some (.tree c d g _ none)=>c_ e c&&decide (k=d)&&decide (t=g)
  |_=>false
 | .treeH id e k t j kid=>match hp[id]? with
  |some (.tree c d g _ (some (_,n,.sl f)))=>c_ e c&&decide (k=d)&&decide (t=g)&&c_ j n&&c_ kid f
  |_=>false
 |_=>true
def zgs(sl:List Slot):Nat->List Ob->Bool
 |_,[]=>true
 |i,o::l=>(match o with
  | .vec _ _ _=>sl.any λx=>match x with
   | .vec j _ _=>c_ j i
   |_=>false
  | .map _ _ _ _ _=>sl.any λx=>match x with
   | .map j _ _ _ _=>c_ j i
   |_=>false
  | .tree _ _ _ _ _=>sl.any λx=>match x with
   | .tree j _ _ _=>c_ j i
   | .treeH j _ _ _ _ _=>c_ j i
   |_=>false
  |_=>true)&&zgs sl (i+1) l
def Sh.wfB(sh:Sh):Bool:=sh.sl.all (Se sh.sk.hp)&&zgs sh.sl 0 sh.sk.hp
@[reducible] def XT:List (Nat×Sh)->Type
 |[]=>Empty
 |[(_,sh)]=>HL sh.sl
 |(_,sh)::l=>HL sh.sl⊕XT l
def inj:(xs:List (Nat×Sh))->Nat->S->Option (XT xs)
 |[],_,_=>none
 |[(k,sh)],key,s=>bif c_ k key then pack sh s else none
 |(k,sh)::a::l,key,s=>bif c_ k key then(match pack sh s with|some c=>some (.inl c)|none=>none)else(match inj (a::l) key s with|some c=>some (.inr c)|none=>none)
def oP{R:Type}(s:S)(κ:Nat->S->Option R):(xs:List (Nat×Sh))->XT xs->Option R
 |[],_=>none
 |[(k,sh)],c=>κ k (unpack sh.sl c (sh.base s))
 |(k,sh)::a::l,c=>az_ (λc=>κ k (unpack sh.sl c (sh.base s))) (λc=>oP s κ (a::l) c) c
inductive Adj where
 |freeze (id:Nat)
 |adopt (k:Nat) (e:TypeId) (t:Ty)
 |adoptC (id j:Nat) (e:TypeId) (t:Ty)
 |sel (ids:List Nat) (ks:List Nat)
 |drop (ks:List Nat)
 |focus (id k j:Nat) (u:Ty)
 |close (id:Nat)
 |adoptT (k:Nat) (e:TypeId) (kk:K) (t:Ty)
 |adoptCT (id j:Nat) (e:TypeId) (kk:K) (t:Ty)
def V.ren(ρ:Nat->Nat):V->V
 | .sl id=>.sl (ρ id)
 | .ptr id off=>.ptr (ρ id) off
 | .pel id off n t i=>.pel (ρ id) off n t i
 | .elt id i off=>.elt (ρ id) i off
 | .clo f ids=>.clo f (ids.map ρ)
 | .mp id=>.mp (ρ id)
 |x=>x
def V.ids1:V->List Nat
 | .sl id=>[id]
 | .ptr id _=>[id]
 | .pel id _ _ _ _=>[id]
 | .elt id _ _=>[id]
 | .clo _ ids=>ids
 | .mp id=>[id]
 |_=>[]
def sR(g:V->V):V->V
 | .agg vs=>.agg (vs.map g)
 | .tup vs=>.tup (vs.map g)
 |v=>g v
def zit(g:V->V):Option (Nat×Nat×V)->Option (Nat×Nat×V)
 |some (i,j,v)=>some (i,j,g v)
 |none=>none
def Ex(g:V->V):Ob->Ob
 | .box t cs=>.box t (cs.map g)
 | .tree e k t xs h=>.tree e k t xs (zit g h)
 |o=>o
def V.ids:V->List Nat
 | .agg vs=>vs.flatMap V.ids1
 | .tup vs=>vs.flatMap V.ids1
 |v=>v.ids1
def V.kids1:V->List Nat
 | .sl id=>[id]
 | .elt id _ _=>[id]
 |_=>[]
def V.kids:V->List Nat
 | .agg vs=>vs.flatMap V.kids1
 | .tup vs=>vs.flatMap V.kids1
 |v=>v.kids1
def Ob.kids:Ob->List Nat
 | .box _ cs=>cs.flatMap V.kids1
 | .tree _ _ _ _ (some (_,_,v))=>v.kids1
 |_=>[]
def Ob.ids:Ob->List Nat
 | .box _ cs=>cs.flatMap V.ids1
 | .tree _ _ _ _ (some (_,_,v))=>v.ids1
 |_=>[]
def S.map(g:V->V)(s:S):S:=⟨s.fr.map λx=>(x.1,sR g x.2),s.hp.map (Ex g)⟩
def V.kill1(id:Nat):V->V
 | .sl k=>bif c_ k id then .any else .sl k
 | .elt k i o=>bif c_ k id then .any else .elt k i o
 |v=>v
def S.moved(s:S)(id:Nat)(o:Ob):S:=⟨s.fr.map λx=>(x.1,sR (V.kill1 id) x.2),setAt (s.hp.map (Ex (V.kill1 id))) id o⟩
def V2(l:List Nat)(x:Nat):Nat:=l.idxOf x
def r8(l:List Nat)(x:Nat):Bool:=l.any (c_ x)
def allIn(l m:List Nat):Bool:=m.all (r8 l)
def frz(id:Nat)(t:Ty)(x:List t.den):V->V
 | .sl k=>bif c_ k id then .d (.list t) x else .sl k
 | .elt k i o=>bif c_ k id then .any else .elt k i o
 |v=>v
def E9(e:TypeId)(k:K)(u:Ty)(L:List u.den):Ob:=bif k.allF then .vec e u L else .tree e k u L none
def My(e:TypeId)(k:K)(u:Ty):Ob->Option (List u.den)
 | .vec a t xs=>bif k.allF&&c_ e a then cg (.list t) (.list u) xs else none
 | .tree a b t xs none=>bif !k.allF&&c_ e a&&decide (k=b)then cg (.list t) (.list u) xs else none
 |_=>none
def zf2:Ty->Nat->Option Ty
 | .list u,0=>some u
 | .pair a b,off=>bif j_ (off+1) a.sz then zf2 a off else zf2 b (off - a.sz)
 |_,_=>none
def adj:Adj->S->Option S
 | .freeze id,s=>match s.hp[id]? with
  |some (.vec _ t xs)=>some (let s':=s.map (frz id t xs);⟨s'.fr,setAt s'.hp id .gone⟩)
  |some (.tree _ _ t xs none)=>some (let s':=s.map (frz id t xs);⟨s'.fr,setAt s'.hp id .gone⟩)
  |_=>none
 | .focus id k j u,s=>match lk s.fr k,s.hp[id]? with
  |some (.d (.int _) n),some (.tree e kk t xs none)=>match kk.at j with
   |some (b,a,c)=>bif c_ a u.sz&&decide (0<=n)then d_ xs[n.toNat]? λx=>(match AI t j (.list u) x with
    |some L=>some ⟨s.fr,setAt s.hp id (.tree e kk t xs (some (n.toNat,j,.sl s.hp.length)))++[E9 b c u L]⟩
    |none=>none)else none
   |none=>none
  |_,_=>none
 | .close id,s=>match s.hp[id]? with
  |some (.tree e kk t xs (some (i,j,.sl kid)))=>bif c_ kid id then none else(match kk.at j,s.hp[kid]?,zf2 t j with
   |some (b,a,c),some o,some u=>match My b c u o with
    |some L=>bif c_ a u.sz then d_ xs[i]? λx=>(match rO t j (.list u) x L with
     |some y=>some (let s':=s.moved kid .gone;⟨s'.fr,setAt s'.hp id (.tree e kk t (xs.set i y) none)⟩)
     |none=>none)else none
    |none=>none
   |_,_,_=>none)
  |_=>none
 | .adopt k e t,s=>match lk s.fr k with
  |some (.nil _)=>some ⟨(k,.sl s.hp.length)::s.fr,s.hp++[.vec e t []]⟩
  |_=>none
 | .adoptC id j e t,s=>match s.hp[id]? with
  |some (.box u cs)=>match cs[j]? with
   |some (.nil _)=>some ⟨s.fr,setAt s.hp id (.box u (setAt cs j (.sl s.hp.length)))++[.vec e t []]⟩
   |_=>none
  |_=>none
 | .adoptT k e kk t,s=>match lk s.fr k with
  |some (.nil _)=>some ⟨(k,.sl s.hp.length)::s.fr,s.hp++[.tree e kk t [] none]⟩
  |_=>none
 | .adoptCT id j e kk t,s=>match s.hp[id]? with
  |some (.box u cs)=>match cs[j]? with
   |some (.nil _)=>some ⟨s.fr,setAt s.hp id (.box u (setAt cs j (.sl s.hp.length)))++[.tree e kk t [] none]⟩
   |_=>none
  |_=>none
 | .sel ids ks,s=>match ids.mapM (λi=>s.hp[i]?),ks.mapM (λk=>(lk s.fr k).map λv=>(k,v))with
  |some os,some fr=>bif decide ids.Nodup&&os.all (λo=>allIn ids o.ids)&&fr.all (λx=>allIn ids x.2.ids)then
   some ⟨fr.map λx=>(x.1,sR (V.ren (V2 ids)) x.2),os.map (Ex (V.ren (V2 ids)))⟩else none
  |_,_=>none
 | .drop ks,s=>some ⟨s.fr.filter λx=> !r8 ks x.1,s.hp⟩
def zdx:List Adj->S->Option S
 |[],s=>some s
 |a::l,s=>match adj a s with
  |some s=>zdx l s
  |none=>none
def zdv{R:Type}:Adj->S->(S->Option R)->Option R
 | .focus id k j u,s,κ=>match lk s.fr k,s.hp[id]? with
  |some (.d (.int _) n),some (.tree e kk t xs none)=>match kk.at j with
   |some (c,b,d)=>bif c_ b u.sz then aG (decide (0<=n)) (d_ xs[n.toNat]? λx=>(match AI t j (.list u) x with
    |some L=>κ ⟨s.fr,setAt s.hp id (.tree e kk t xs (some (n.toNat,j,.sl s.hp.length)))++[E9 c d u L]⟩
    |none=>none))else none
   |none=>none
  |_,_=>none
 | .close id,s,κ=>match s.hp[id]? with
  |some (.tree e kk t xs (some (i,j,.sl kid)))=>bif c_ kid id then none else(match kk.at j,s.hp[kid]?,zf2 t j with
   |some (c,b,d),some o,some u=>match My c d u o with
    |some L=>bif c_ b u.sz then d_ xs[i]? λx=>(match rO t j (.list u) x L with
     |some y=>κ (let s':=s.moved kid .gone;⟨s'.fr,setAt s'.hp id (.tree e kk t (xs.set i y) none)⟩)
     |none=>none)else none
    |none=>none
   |_,_,_=>none)
  |_=>none
 |a,s,κ=>match adj a s with
  |some s=>κ s
  |none=>none
def GM{R:Type}:List Adj->S->(S->Option R)->Option R
 |[],s,κ=>κ s
 |a::l,s,κ=>zdv a s λs=>GM l s κ
inductive Arg where
 |d (t:Ty)
 |x
inductive TOp where
 |mv (x:X)
 |pick (c a b:X)
 |bin (op:BinOp) (x y:X)
 |eqB (neg:Bool) (x y:X)
 |eqT (neg:Bool) (tid:TypeId) (t:Ty) (x y:X)
 |un (op:UnOp) (x:X)
 |len (str:Bool) (x:X)
 |lenM (k e:TypeId) (x:X)
 |idxS (x i:X)
 |idxV (n:Nat) (t:Ty) (x i:X)
 |idxA (t:Ty) (x i:X)
 |idxP (n:Nat) (t:Ty) (x i:X)
 |fldA (off:Nat) (t:Ty) (x:X)
 |fld (off:Nat) (t:Ty) (x:X)
 |load (t:Ty) (x:X)
 |store (t:Ty) (x v:X)
 |alloc (tid:TypeId) (zero:List V)
 |box (tid:TypeId) (x:X)
 |boxD (tid:TypeId) (t:Ty) (x:X)
 |build (zero:List V) (parts:List (Nat×Nat×X))
 |bslice (own:Bool) (tid:TypeId) (t:Ty) (len:Nat) (parts:List X)
 |mslice (tid:TypeId) (t:Ty) (bytes:Nat) (l c:X)
 |append (tid:TypeId) (t:Ty) (bytes:Nat) (x y:X)
 |cvtI (k:IntKind) (x:X)
 |slc (full:Bool) (t:Ty) (x:X) (lo hi mx:Option X)
 |slcS (x:X) (lo hi:Option X)
 |ext (x:X) (i:Nat)
 |nilc (x:X)
 |call (bor:Bool) (f:FuncId) (args:List (Arg×X)) (sh:Sh)
 |callA (pan bor:Bool) (B:List Nat) (f:FuncId) (args:List (Arg×X)) (sh:Sh)
 |callv (pan bor:Bool) (B:List Nat) (num:Nat) (x:X) (args:List (Arg×X)) (sh:Sh)
 |b2s (x:X)
 |mkfn (f:FuncId) (caps:List X)
 |mkmap (k e:TypeId) (a b:Ty)
 |lookup (k e:TypeId) (ok:Bool) (a b:Ty) (m x:X)
 |mapset (k e:TypeId) (a b:Ty) (m x v:X)
 |copy (tid:TypeId) (t:Ty) (x y:X)
 |mnmx (mx:Bool) (k:IntKind) (x:X) (ys:List X)
 |panic (x:X)
 |iface (tid:TypeId) (x:X)
 |bsliceF (tid:TypeId) (t:Ty) (len:Nat) (parts:List X)
 |appD (tid:TypeId) (t:Ty) (bytes:Nat) (x y:X)
 |bsliceN (tid:TypeId) (k:K) (t:Ty) (len:Nat) (parts:List X)
 |msliceT (tid:TypeId) (k:K) (u:Ty) (bytes:Nat) (l c:X)
 |appT (tid:TypeId) (k:K) (t:Ty) (bytes:Nat) (x y:X)
 |callp (bor:Bool) (num:Nat) (x:X) (args:List (Arg×X)) (sh:Sh)
 |atq(k:Nat) (op:TOp)
abbrev ak:=FuncId->List V->List Ob->Option (Option S)
section
variable {R:Type}
def zfT(op:BinOp)(k c:IntKind)(a b:Int)(κ:V->Option R):Option R:=
 match op with
 | .shl=>aG (decide (0<=b)) (κ (.d (.int k) (k.wrap (a*2^(min b.toNat k.bits)))))
 | .shr=>aG (decide (0<=b)) (κ (.d (.int k) (a.fdiv (2^(min b.toNat k.bits)))))
 |op=>bif decide (k=c)then(match op with
  | .add=>κ (.d (.int k) (k.wrap (a+b)))
  | .sub=>κ (.d (.int k) (k.wrap (a - b)))
  | .mul=>κ (.d (.int k) (k.wrap (a*b)))
  | .quo=>aG (b != 0) (κ (.d (.int k) (k.wrap (a.tdiv b))))
  | .rem=>aG (b != 0) (κ (.d (.int k) (a.tmod b)))
  | .and=>κ (.d (.int k) (r6 k .and a b))
  | .or=>κ (.d (.int k) (r6 k .or a b))
  | .xor=>κ (.d (.int k) (r6 k .xor a b))
  | .andNot=>κ (.d (.int k) (r6 k .andNot a b))
  | .eql=>κ (.d .bool (a==b))
  | .neq=>κ (.d .bool (a != b))
  | .lss=>κ (.d .bool (decide (a<b)))
  | .leq=>κ (.d .bool (decide (a<=b)))
  | .gtr=>κ (.d .bool (decide (a>b)))
  | .geq=>κ (.d .bool (decide (a>=b)))
  |_=>none)else none
def zfU(op:BinOp)(a b:List UInt8)(κ:V->Option R):Option R:=
 match op with
 | .add=>aG (decide (a.length+b.length<=9223372036854775807)) (κ (.d .str (a++b)))
 | .eql=>κ (.d .bool (a==b))
 | .neq=>κ (.d .bool (!(a==b)))
 | .lss=>κ (.d .bool (Op.bytesLess a b))
 | .leq=>κ (.d .bool (Op.bytesLess a b||a==b))
 | .gtr=>κ (.d .bool (!(Op.bytesLess a b||a==b)))
 | .geq=>κ (.d .bool (!(Op.bytesLess a b)))
 |_=>none
def intOf(v:Option V)(κ:Int->Option R):Option R:=match v with
 |some (.d (.int _) n)=>κ n
 |_=>none
def zP(hp:List Ob)(t:Ty)(v:Option V)(κ:List t.den->Option R):Option R:=match v with
 |some (.sl id)=>match hp[id]? with
  |some (.vec _ u xs)=>match cg (.list u) (.list t) xs with
   |some xs=>κ xs
   |none=>none
  |_=>none
 |some v=>match mP (.list t) v with
  |some xs=>κ xs
  |none=>none
 |none=>none
def GO(s:S)(x:Option X)(a:Nat)(κ:Nat->Option R):Option R:=match x with
 |none=>κ a
 |some x=>intOf (s.get x) λn=>aG (decide (0<=n)) (κ n.toNat)
def rowAt(t:Ty):Nat->V->Int->Option t.den
 |n+1,.d (.pair a b) x,m=>match cg a t x.1 with
  |some y=>bif decide (m=0)then some y else rowAt t n (.d b x.2) (m - 1)
  |none=>none
 |n+1,.agg vs,m=>match asm t vs with
  |some (x,l)=>bif decide (m=0)then some x else rowAt t n (.agg l) (m - 1)
  |none=>none
 |_,_,_=>none
def Hr(t:Ty)(y:t.den):Nat->List V->Int->Option (List V)
 |n+1,vs,m=>match asm t vs with
  |some (x,l)=>match Hr t y n l (m - 1)with
   |some r=>some (jV t (bif decide (m=0)then y else x)++r)
   |none=>none
  |none=>none
 |0,vs,_=>some vs
def loadT(hp:List Ob)(t:Ty)(v:Option V)(κ:V->Option R):Option R:=match v with
 |some (.dp u x)=>match cg u t x with
  |some x=>κ (.d t x)
  |none=>none
 |some (.ptr id off)=>match hp[id]? with
  |some (.box _ cs)=>bif j_ (off+t.sz) cs.length then κ (whole t ((cs.drop off).take t.sz))else none
  |_=>none
 |some (.pel id off n u m)=>match hp[id]? with
  |some (.box _ cs)=>bif j_ (off+n*u.sz) cs.length&&decide (u=t)then d_ (rowAt t n (.agg ((cs.drop off).take (n*u.sz))) m) λx=>κ (.d t x)else none
  |_=>none
 |some (.elt id i off)=>match hp[id]? with
  |some (.vec _ u xs)=>bif decide (u=t)|| !c_ t.sz u.sz then d_ xs[i]? λx=>(match AI u off t x with
   |some y=>κ (.d t y)
   |none=>none)else none
  |some (.tree _ k u xs hole)=>bif k.flatB off t.sz then d_ xs[i]? λx=>(match AI u off t x with
   |some y=>κ (.d t y)
   |none=>none)else(match hole with
    |some (a,b,v)=>bif c_ b off&& !t.ag&&j_ (off+1) u.sz&&(match v with| .sl _=>true|_=>false)then d_ xs[i]? λ_=>aG (c_ a i) (κ v)else none
    |none=>none)
  |_=>none
 |_=>none
def nC(cs:List V)(off:Nat)(vs:List V):List V:=cs.take off++vs++cs.drop (off+vs.length)
def storeT(s:S)(t:Ty)(a:Option V)(v:Option V)(κ:S->Option R):Option R:=match a,v with
 |some (.ptr id off),some v=>match s.hp[id]? with
  |some (.box tid cs)=>bif c_ (dw v).length t.sz&&j_ (off+t.sz) cs.length&&v.okB then κ ⟨s.fr,setAt s.hp id (.box tid (nC cs off (dw v)))⟩else none
  |_=>none
 |some (.pel id off n u m),some v=>match s.hp[id]?,d6 t v with
  |some (.box tid cs),some y=>bif j_ (off+n*u.sz) cs.length&&decide (u=t)&&j_ 1 t.sz then(match Hr t y n ((cs.drop off).take (n*u.sz)) m with
   |some vs=>aG (decide (0<=m)&&decide (m<n)) (κ ⟨s.fr,setAt s.hp id (.box tid (nC cs off vs))⟩)
   |none=>none)else none
  |_,_=>none
 |some (.elt id i off),some v=>match s.hp[id]?,d6 t v with
  |some (.vec e u xs),some y=>bif decide (u=t)|| !c_ t.sz u.sz then d_ xs[i]? λx=>(match rO u off t x y with
   |some z=>κ ⟨s.fr,setAt s.hp id (.vec e u (xs.set i z))⟩
   |none=>none)else none
  |some (.tree e k u xs hole),some y=>bif k.flatB off t.sz&&u.ag then d_ xs[i]? λx=>(match rO u off t x y with
   |some z=>κ ⟨s.fr,setAt s.hp id (.tree e k u (xs.set i z) hole)⟩
   |none=>none)else none
  |some (.tree e k u xs (some (b,c,_))),none=>(match v with
   | .sl kid=>bif c_ c off&&c_ t.sz 1&&j_ (off+1) u.sz then d_ xs[i]? λ_=>aG (c_ b i) (κ ⟨s.fr,setAt s.hp id (.tree e k u xs (some (b,c,.sl kid)))⟩)else none
   |_=>none)
  |_,_=>none
 |_,_=>none
def V.isRef:V->Bool
 | .sl _=>true
 | .ptr _ _=>true
 | .pel _ _ _ _ _=>true
 | .elt _ _ _=>true
 | .clo _ _=>true
 | .mp _=>true
 |_=>false
def Rh(s:S)(bor:Bool)(B:List Nat)(a:Arg×X):Option V:=match a.1,s.get a.2 with
 | .d (.list t),some (.sl id)=>bif bor&& !r8 B id then(match s.hp[id]? with
  |some (.vec _ u xs)=>match cg (.list u) (.list t) xs with
   |some xs=>some (.d (.list t) xs)
   |none=>none
  |some (.tree _ _ u xs none)=>match cg (.list u) (.list t) xs with
   |some xs=>some (.d (.list t) xs)
   |none=>none
  |_=>none)else none
 | .d t,some v=>match d6 t v with
  |some x=>some (.d t x)
  |none=>none
 | .x,some v=>match v with
  | .d _ _=>none
  | .nil _=>none
  | .full _ _=>none
  | .raw (.slice _ _ _)=>none
  | .agg vs=>bif vs.any V.isRef then some (.agg vs)else none
  |v=>some v
 |_,none=>none
def yI(s:S)(bor:Bool)(B:List Nat):List (Arg×X)->Option (List V)
 |[]=>some []
 |a::l=>match Rh s bor B a with
  |some v=>match yI s bor B l with
   |some vs=>some (v::vs)
   |none=>none
  |none=>none
def zhy(hp:List Ob):V->V
 | .sl id=>match hp[id]? with
  |some (.vec _ u xs)=>.d (.list u) xs
  |some (.tree _ _ u xs none)=>.d (.list u) xs
  |_=>.sl id
 |v=>v
def zhf(s:S)(bor:Bool)(a:Arg×X):Option V:=match Rh s bor [] a with
 |some v=>some v
 |none=>match a.1,s.get a.2 with
  | .d t,some (.agg vs)=>bif bor then(match d6 t (.agg (vs.map (zhy s.hp)))with
   |some x=>some (.d t x)
   |none=>none)else none
  |_,_=>none
def Ve(s:S)(bor:Bool):List (Arg×X)->Option (List V)
 |[]=>some []
 |a::l=>match zhf s bor a with
  |some v=>match Ve s bor l with
   |some vs=>some (v::vs)
   |none=>none
  |none=>none
def mf:Ty->List Ty
 | .unit=>[]
 | .pair a b=>mf a++mf b
 | .rx=>[.int .i64,.int .i64,.int .i64,.list .rx]
 |t=>[t]
def flatK:K->List Ty->Bool
 | .e,a=>a.all Ty.flat
 | .f r,t::a=>t.flat&&flatK r a
 | .s _ sz sub r,.list u::a=>c_ sz u.sz&&flatK sub (mf u)&&flatK r a
 |_,_=>false
def Slot.flat:Slot->Bool
 | .tm _ t=>t.flat
 | .cell _ _ t=>t.flat
 | .vec _ _ t=>t.flat
 | .map _ _ _ a b=>a.flat&&b.flat
 | .tree _ _ k t=>flatK k (mf t)
 | .treeH _ _ k t _ _=>flatK k (mf t)
def zcP(fr:List (Nat×V))(n:Nat):List V:=(Z_ n).map λi=>(lk fr i).getD .any
def res(n:Nat)(fr:List (Nat×V)):V:=bif c_ n 1 then(lk fr 0).getD .any else .tup (zcP fr n)
def V.isA:V->Bool
 | .agg _=>true
 | .tup _=>true
 |_=>false
def Wy(n:Nat)(fr:List (Nat×V)):Bool:=c_ n 1||fr.all λx=> !x.2.isA
def Vh(B:List Nat)(n k:Nat):Nat:=bif j_ (k+1) B.length then B.getD k 0 else n+(k - B.length)
def BQ(B:List Nat):V->V
 | .sl k=>bif r8 B k then .any else .sl k
 | .elt k i o=>bif r8 B k then .any else .elt k i o
 |v=>v
def zaU(B:List Nat)(os:List Ob)(n:Nat):Nat->List Ob->List Ob
 |_,[]=>[]
 |i,o::l=>(bif r8 B i then Ex (V.ren (Vh B n)) (os.getD (V2 B i) .gone)else Ex (BQ B) o)::zaU B os n (i+1) l
def S.back(s:S)(B:List Nat)(os:List Ob):S:=
 ⟨s.fr.map λx=>(x.1,sR (BQ B) x.2),zaU B os s.hp.length 0 s.hp++(os.drop B.length).map (Ex (V.ren (Vh B s.hp.length)))⟩
def Sh.n(sh:Sh):Nat:=(sh.sk.fr.length)+(sh.sl.filter λx=>match x with| .tm _ _=>true|_=>false).length
def au(O:ak)(f:FuncId)(ars:List V)(os:List Ob)(sh:Sh):Option (HL sh.sl):=match O f ars os with
 |some (some s)=>bif c_ s.fr.length sh.n&&Wy sh.n s.fr then pack sh s else none
 |_=>none
def l9(O:ak)(f:FuncId)(ars:List V)(os:List Ob)(sh:Sh):Option (Option (HL sh.sl)):=match O f ars os with
 |some (some s)=>bif c_ s.fr.length sh.n&&Wy sh.n s.fr then(match pack sh s with|some c=>some (some c)|none=>none)else none
 |some none=>some none
 |none=>none
end
def V.isNil:V->Bool
 | .nil _=>true
 |_=>false
def V.isRaw:V->Bool
 | .raw _=>true
 |_=>false
def zep(k:K)(v:V):Bool:=(match v with| .agg _=>true| .nil _=>true|_=>false)&&(Z_ (dw v).length).all λj=>(((dw v).getD j .any).isNil==(k.at j).isSome)&& !((dw v).getD j .any).isRaw
def zhE(k:K)(cs:List V):Bool:=(Z_ cs.length).all λj=>match k.at j with
 |some _=>(match cs.getD j .any with| .d (.list _) l=>l.isEmpty|_=>false)
 |none=>true
section
variable {R:Type}
def JI(s:S)(d:Option Nat)(B:List Nat)(n:Nat)(sh:Sh)(κ:S->Option R)(c:HL sh.sl):Option R:=
 let r:=unpack sh.sl c (sh.base ⟨[],[]⟩)
 κ ((s.back B r.hp).putO d (sR (V.ren (Vh B s.hp.length)) (res n r.fr)))
def zbq(s:S)(B:List Nat):Option (List Ob):=match B with
 |[]=>some []
 |i::B=>match s.hp[i]? with
  |some o=>match zbq s B with
   |some os=>some (o::os)
   |none=>none
  |none=>none
def G3(pan:Bool)(O:ak)(s:S)(d:Option Nat)(bor:Bool)(B:List Nat)(f:FuncId)(ars:List V)(sh:Sh)(κ kp:S->Option R):Option R:=match zbq s B with
 |some os=>bif decide B.Nodup&&ars.all (λa=>allIn B a.ids)&&os.all (λo=>allIn B o.ids)&&(!bor||sh.sl.all Slot.flat)then
  (match pan with
  |false=>d_ (au O f (ars.map (sR (V.ren (V2 B)))) (os.map (Ex (V.ren (V2 B)))) sh) (JI s d B sh.n sh κ)
  |true=>d_ (l9 O f (ars.map (sR (V.ren (V2 B)))) (os.map (Ex (V.ren (V2 B)))) sh) λo=>match o with
   |some c=>JI s d B sh.n sh κ c
   |none=>kp (s.back B (os.map λ_=>.gone)))else none
 |none=>none
def evOp(O:ak)(d:Option Nat)(op:TOp)(s:S)(κ kp:S->Option R):Option R:=
 match op with
 | .mv x=>match s.get x with
  |some v=>κ (s.putO d v)
  |none=>none
 | .pick c a b=>match s.get c,s.get a,s.get b with
  |some (.d .bool c),some (.d t x),some (.d u y)=>match cg u t y with
   |some y=>κ (s.putO d (.d t (bif c then x else y)))
   |none=>none
  |some (.d .bool c),some (.raw _),some (.d u y)=>bif c then none else κ (s.putO d (.d u y))
  |some (.d .bool c),some (.d t x),some (.raw _)=>bif c then κ (s.putO d (.d t x))else none
  |_,_,_=>none
 | .bin op x y=>match s.get x,s.get y with
  |some (.d (.int k) a),some (.d (.int g) b)=>zfT op k g a b λv=>κ (s.putO d v)
  |some (.d .str a),some (.d .str b)=>zfU op a b λv=>κ (s.putO d v)
  |_,_=>none
 | .eqB neg x y=>match s.get x,s.get y with
  |some (.d .bool a),some (.d .bool b)=>κ (s.putO d (.d .bool (neg ^^ (a==b))))
  |_,_=>none
 | .eqT neg _ t x y=>match s.get x,s.get y with
  |some v,some u=>match d6 t v,d6 t u with
   |some a,some b=>bif t.eqOk then κ (s.putO d (.d .bool (neg ^^ nH t a b)))else none
   |_,_=>none
  |_,_=>none
 | .un op x=>match op,s.get x with
  | .not,some (.d .bool a)=>κ (s.putO d (.d .bool (!a)))
  | .neg,some (.d (.int k) a)=>κ (s.putO d (.d (.int k) (k.wrap (0 - a))))
  |_,_=>none
 | .len str x=>match str,s.get x with
  |true,some (.d .str a)=>κ (s.putO d (.d (.int .i64) a.length))
  |false,some (.d (.list _) a)=>κ (s.putO d (.d (.int .i64) a.length))
  |false,some (.nil _)=>κ (s.putO d (.d (.int .i64) 0))
  |false,some (.sl id)=>match s.hp[id]? with
   |some (.vec _ _ xs)=>κ (s.putO d (.d (.int .i64) xs.length))
   |some (.tree _ _ _ xs _)=>κ (s.putO d (.d (.int .i64) xs.length))
   |_=>none
  |_,_=>none
 | .lenM k e x=>match s.get x with
  |some (.mp id)=>match s.hp[id]? with
   |some (.map g r _ _ kvs)=>bif c_ k g&&c_ e r then κ (s.putO d (.d (.int .i64) kvs.length))else none
   |_=>none
  |_=>none
 | .idxS x i=>match s.get x with
  |some (.d .str a)=>intOf (s.get i) λn=>d_ (aR a n) λc=>κ (s.putO d (.d (.int .u8) c.toNat))
  |_=>none
 | .idxV n t x i=>match s.get x with
  |some v=>bif c_ (dw v).length (n*t.sz)&&(match v with| .agg vs=>vs.all V.cellD|_=>true)then intOf (s.get i) λm=>d_ (rowAt t n v m) λc=>κ (s.putO d (.d t c))else none
  |none=>none
 | .idxA t x i=>match s.get x with
  |some (.sl id)=>match s.hp[id]? with
   |some (.vec _ u xs)=>bif decide (u=t)then intOf (s.get i) λn=>d_ (aR xs n) λ_=>κ (s.putO d (.elt id n.toNat 0))else none
   |some (.tree _ _ u xs _)=>bif decide (u=t)then intOf (s.get i) λn=>d_ (aR xs n) λ_=>κ (s.putO d (.elt id n.toNat 0))else none
   |_=>none
  |some (.d (.list u) xs)=>match cg (.list u) (.list t) xs with
   |some xs=>intOf (s.get i) λn=>d_ (aR xs n) λx=>κ (s.putO d (.dp t x))
   |none=>none
  |_=>none
 | .idxP n t x i=>match s.get x,i with
  |some (.ptr id off),.k (.int _) m=>aG (decide (0<=m)&&decide (m<n)) (κ (s.putO d (.ptr id (off+m.toNat*t.sz))))
  |some (.ptr id off),i=>intOf (s.get i) λm=>aG (decide (0<=m)&&decide (m<n)) (κ (s.putO d (.pel id off n t m)))
  |some (.dp u y),i=>bif c_ u.sz (n*t.sz)&&u.ag then intOf (s.get i) λm=>d_ (rowAt t n (.d u y) m) λc=>κ (s.putO d (.dp t c))else none
  |_,_=>none
 | .fldA off t x=>match s.get x with
  |some (.dp u y)=>match AI u off t y with
   |some z=>κ (s.putO d (.dp t z))
   |none=>none
  |some (.ptr id o)=>κ (s.putO d (.ptr id (o+off)))
  |some (.elt id i o)=>κ (s.putO d (.elt id i (o+off)))
  |_=>none
 | .fld off t x=>match s.get x with
  |some (.d u y)=>bif u.ag then(match AI u off t y with
   |some z=>κ (s.putO d (.d t z))
   |none=>none)else none
  |some (.agg vs)=>bif j_ (off+t.sz) vs.length then κ (s.putO d (whole t ((vs.drop off).take t.sz)))else none
  |_=>none
 | .load t x=>loadT s.hp t (s.get x) λv=>κ (s.putO d v)
 | .store t x v=>match d with
  |none=>storeT s t (s.get x) (s.get v) κ
  |some _=>none
 | .alloc tid zero=>κ (S.putO ⟨s.fr,s.hp++[.box tid zero]⟩ d (.ptr s.hp.length 0))
 | .box tid x=>match s.get x with
  |some v=>bif v.okB then κ (S.putO ⟨s.fr,s.hp++[.box tid (dw v)]⟩ d (.ptr s.hp.length 0))else none
  |none=>none
 | .boxD _ t x=>match s.get x with
  |some (.full _ _)=>none
  |some v=>match d6 t v with
   |some y=>κ (s.putO d (.dp t y))
   |none=>none
  |none=>none
 | .build zero parts=>buildT s zero parts λcs=>κ (s.putO d (.agg cs))
 | .bslice own tid t len parts=>bif c_ parts.length len&&j_ 1 t.sz&&j_ (len*t.sz) 16777216 then listT s t parts λxs=>(match own with
  |true=>κ (S.putO ⟨s.fr,s.hp++[.vec tid t xs]⟩ d (.sl s.hp.length))
  |false=>κ (s.putO d (.d (.list t) xs)))else none
 | .mslice tid t bytes l c=>bif j_ 1 t.sz then intOf (s.get l) λl=>intOf (s.get c) λc=>
  aG (decide (0<=l)&&decide (l<=c)&&decide (c<=9223372036854775807)&&decide (bytes*c<=281474976710656)) (κ (S.putO ⟨s.fr,s.hp++[.vec tid t (F_ l.toNat t.zero)]⟩ d (.sl s.hp.length)))else none
 | .append tid t bytes x y=>zP s.hp t (s.get y) λys=>match s.get x with
  |some (.sl id)=>match s.hp[id]? with
   |some (.vec e u xs)=>match cg (.list u) (.list t) xs with
    |some xs=>bif c_ e tid then aG (decide ((xs.length+ys.length)*bytes<=140737488355328)) (κ ((s.moved id (.vec e t (xs++ys))).putO d (.sl id)))else none
    |none=>none
   |_=>none
  |some (.nil _)=>aG (decide (ys.length*bytes<=140737488355328)) (κ (S.putO ⟨s.fr,s.hp++[.vec tid t ys]⟩ d (.sl s.hp.length)))
  |some (.full _ [])=>aG (decide (ys.length*bytes<=140737488355328)) (κ (S.putO ⟨s.fr,s.hp++[.vec tid t ys]⟩ d (.sl s.hp.length)))
  |_=>none
 | .cvtI k x=>match s.get x with
  |some (.d (.int _) n)=>κ (s.putO d (.d (.int k) (k.wrap n)))
  |_=>none
 | .slc full t x lo p mx=>match s.get x with
  |some (.sl id)=>match s.hp[id]? with
   |some (.tree _ _ u xs _)=>bif c_ u.sz t.sz&& !full then GO s lo 0 λl=>GO s p xs.length λh=>GO s mx xs.length λm=>
    bif !(mx.isSome&& !p.isSome)then aG (decide (l<=h)&&decide (h<=m)&&decide (m<=xs.length)) (aG (c_ h l) (κ (s.putO d (.d (.list t) []))))else none else none
   |_=>none
  |v=>zP s.hp t v λxs=>GO s lo 0 λl=>GO s p xs.length λh=>GO s mx xs.length λm=>
   bif !(mx.isSome&& !p.isSome)then aG (decide (l<=h)&&decide (h<=m)&&decide (m<=xs.length)) (match full with
    |false=>κ (s.putO d (.d (.list t) ((xs.take h).drop l)))
    |true=>aG (mx.isSome&&decide (h=m)) (κ (s.putO d (.full t ((xs.take h).drop l)))))else none
 | .slcS x lo p=>match s.get x with
  |some (.d .str a)=>GO s lo 0 λl=>GO s p a.length λh=>aG (decide (l<=h)&&decide (h<=a.length)) (κ (s.putO d (.d .str ((a.take h).drop l))))
  |_=>none
 | .ext x i=>match s.get x with
  |some (.tup vs)=>match vs[i]? with
   |some v=>bif (match v with| .agg _=>false| .tup _=>false|_=>true)then κ (s.putO d v)else none
   |none=>none
  |_=>none
 | .nilc x=>match s.get x with
  |some v=>(match v with
   | .dp _ _=>κ (s.putO d v)
   | .ptr _ _=>κ (s.putO d v)
   | .pel _ _ _ _ _=>κ (s.putO d v)
   | .elt _ _ _=>κ (s.putO d v)
   | .clo _ _=>κ (s.putO d v)
   | .fnD _ _=>κ (s.putO d v)
   |_=>none)
  |none=>none
 | .call bor f args sh=>match Ve s bor args with
  |some ars=>bif ars.all V.isD&&sh.sk.fr.isEmpty&&(!bor||sh.sl.all Slot.flat)then
   d_ (au O f ars [] sh) λc=>κ (s.putO d (res sh.n (unpack sh.sl c (sh.base ⟨[],[]⟩)).fr))else none
  |none=>none
 | .callA pan bor B f args sh=>match yI s bor B args with
  |some ars=>G3 pan O s d bor B f ars sh κ kp
  |none=>none
 | .callv pan bor B num x args sh=>match s.get x,yI s bor B args with
  |some (.clo f ids),some ars=>bif c_ (num%10000) f then G3 pan O s d bor B num (ars++ids.map λi=>.ptr i 0) sh κ kp else none
  |some (.fnD f cs),some ars=>bif c_ (num%10000) f then G3 pan O s d bor B num (ars++cs.map λc=>.dp c.1 c.2) sh κ kp else none
  |_,_=>none
 | .callp bor num x args sh=>match s.get x,yI s bor [] args with
  |some (.fnD f cs),some ars=>bif c_ (num%10000) f&&ars.all V.isD&&sh.sk.fr.isEmpty&&(!bor||sh.sl.all Slot.flat)then
   d_ (au O num (ars++cs.map λc=>.dp c.1 c.2) [] sh) λc=>κ (s.putO d (res sh.n (unpack sh.sl c (sh.base ⟨[],[]⟩)).fr))else none
  |_,_=>none
 | .b2s x=>zP s.hp (.int .u8) (s.get x) λl=>κ (s.putO d (.d .str (l.map fun(n:Int)=>UInt8.ofNat n.toNat)))
 | .mkfn f caps=>match capsOf s caps with
  |some ids=>κ (s.putO d (.clo f ids))
  |none=>match capsD s caps with
   |some cs=>κ (s.putO d (.fnD f cs))
   |none=>none
 | .mkmap k e a b=>κ (S.putO ⟨s.fr,s.hp++[.map k e a b []]⟩ d (.mp s.hp.length))
 | .lookup k e ok a b m x=>match s.get m,s.get x with
  |some (.mp id),some v=>match s.hp[id]?,d6 a v with
   |some (.map g r A C kvs),some y=>match cg (.list (.pair A C)) (.list (.pair a b)) kvs with
    |some kvs=>bif c_ k g&&c_ e r&&a.eqOk then(match ok with
     |true=>κ (s.putO d (.tup [.d b ((jU a b kvs y).getD b.zero),.d .bool (jU a b kvs y).isSome]))
     |false=>κ (s.putO d (.d b ((jU a b kvs y).getD b.zero))))else none
    |none=>none
   |_,_=>none
  |_,_=>none
 | .mapset k e a b m x v=>match d,s.get m,s.get x,s.get v with
  |none,some (.mp id),some u,some w=>match s.hp[id]?,d6 a u,d6 b w with
   |some (.map g r A C kvs),some y,some z=>match cg (.list (.pair A C)) (.list (.pair a b)) kvs with
    |some kvs=>bif c_ k g&&c_ e r&&a.eqOk&& !b.ag then aG (decide (kvs.length<maxLen)) (κ ⟨s.fr,setAt s.hp id (.map k e a b (oU a b kvs y z))⟩)else none
    |none=>none
   |_,_,_=>none
  |_,_,_,_=>none
 | .copy tid t x y=>match s.get x,s.get y with
  |some (.sl id),some v=>bif (match v with| .sl j=> !c_ id j|_=>true)then(zP s.hp t (some v) λys=>match s.hp[id]? with
   |some (.vec e u xs)=>match cg (.list u) (.list t) xs with
    |some xs=>bif c_ e tid then κ (S.putO ⟨s.fr,setAt s.hp id (.vec e t (ys.take xs.length++xs.drop ys.length))⟩ d (.d (.int .i64) (min xs.length ys.length:Nat)))else none
    |none=>none
   |_=>none)else none
  |_,_=>none
 | .mnmx mx k x ys=>match s.get x with
  |some (.d (.int g) n)=>bif decide (g=k)then intsOf s k ys λD=>κ (s.putO d (.d (.int k) (D.foldl (fun(a b:Int)=>bif mx then max a b else min a b) n)))else none
  |_=>none
 | .panic x=>match s.get x with
  |some .ifc=>kp s
  |_=>none
 | .iface _ x=>match s.get x with
  |some _=>κ (s.putO d .ifc)
  |none=>none
 | .bsliceF _ t len parts=>bif c_ parts.length len&&j_ 1 t.sz&&j_ (len*t.sz) 16777216 then listT s t parts λxs=>κ (s.putO d (.full t xs))else none
 | .appD _ t bytes x y=>zP s.hp t (s.get y) λys=>match s.get x with
  |some (.nil _)=>aG (decide (ys.length*bytes<=140737488355328)) (κ (s.putO d (.d (.list t) ys)))
  |some (.full u xs)=>match cg (.list u) (.list t) xs with
   |some xs=>aG (decide ((xs.length+ys.length)*bytes<=140737488355328)) (κ (s.putO d (.d (.list t) (xs++ys))))
   |none=>none
  |_=>none
 | .bsliceN _ k t len parts=>bif c_ parts.length len&&j_ 1 t.sz&&j_ (len*t.sz) 16777216 then listN s k t parts λxs=>κ (s.putO d (.lit k t xs))else none
 | .msliceT tid k u bytes l c=>bif (k.at 0).isSome then intOf (s.get l) λl=>intOf (s.get c) λc=>
  aG (decide (0<=l)&&decide (l<=c)&&decide (c<=9223372036854775807)&&decide (bytes*c<=281474976710656)) (κ (S.putO ⟨s.fr,s.hp++[.tree tid k (.list u) (F_ l.toNat []) none]⟩ d (.sl s.hp.length)))else none
 | .appT tid k t bytes x y=>match s.get y with
  |some (.lit g u ys)=>bif decide (k=g)then(match cg (.list u) (.list t) ys with
   |some ys=>bif ys.all (λy=>zhE k (jV t y))then(match s.get x with
    |some (.sl id)=>match s.hp[id]? with
     |some (.tree e E F xs none)=>match cg (.list F) (.list t) xs with
      |some xs=>bif c_ e tid&&decide (k=E)then aG (decide ((xs.length+ys.length)*bytes<=140737488355328)) (κ ((s.moved id (.tree e k t (xs++ys) none)).putO d (.sl id)))else none
      |none=>none
     |_=>none
    |some (.nil _)=>aG (decide (ys.length*bytes<=140737488355328)) (κ (S.putO ⟨s.fr,s.hp++[.tree tid k t ys none]⟩ d (.sl s.hp.length)))
    |_=>none)else none
   |none=>none)else none
  |_=>none
 | .atq k op=>match s.hp[k]? with
  |some .free=>mkT s op λo v=>κ (S.putO ⟨s.fr,setAt s.hp k o⟩ d (v k))
  |_=>none
where
 mkT (s:S) (op:TOp) (κ:Ob->(Nat->V)->Option R):Option R:=match op with
  | .alloc tid zero=>κ (.box tid zero) λn=>.ptr n 0
  | .box tid x=>match s.get x with
   |some v=>bif v.okB then κ (.box tid (dw v)) (λn=>.ptr n 0)else none
   |none=>none
  | .bslice true tid t len parts=>bif c_ parts.length len&&j_ 1 t.sz&&j_ (len*t.sz) 16777216 then listT s t parts λxs=>κ (.vec tid t xs) .sl else none
  | .mslice tid t bytes l c=>bif j_ 1 t.sz then intOf (s.get l) λl=>intOf (s.get c) λc=>
   aG (decide (0<=l)&&decide (l<=c)&&decide (c<=9223372036854775807)&&decide (bytes*c<=281474976710656)) (κ (.vec tid t (F_ l.toNat t.zero)) .sl)else none
  | .append tid t bytes x y=>zP s.hp t (s.get y) λys=>match s.get x with
   |some (.nil _)=>aG (decide (ys.length*bytes<=140737488355328)) (κ (.vec tid t ys) .sl)
   |some (.full _ [])=>aG (decide (ys.length*bytes<=140737488355328)) (κ (.vec tid t ys) .sl)
   |_=>none
  | .mkmap k e a b=>κ (.map k e a b []) .mp
  |_=>none
 buildT (s:S) (cs:List V):List (Nat×Nat×X)->(List V->Option R)->Option R
  |[],κ=>κ cs
  |(off,sz,x)::l,κ=>match s.get x with
   |some v=>bif c_ (dw v).length sz&&j_ (off+sz) cs.length&&v.okB then buildT s (nC cs off (dw v)) l κ else none
   |none=>none
 listT (s:S) (t:Ty):List X->(List t.den->Option R)->Option R
  |[],κ=>κ []
  |x::l,κ=>match s.get x with
   |some v=>match d6 t v with
    |some y=>listT s t l λys=>κ (y::ys)
    |none=>none
   |none=>none
 listN (s:S) (k:K) (t:Ty):List X->(List t.den->Option R)->Option R
  |[],κ=>κ []
  |x::l,κ=>match s.get x with
   |some v=>match d6 t v with
    |some y=>bif zep k v then listN s k t l λys=>κ (y::ys)else none
    |none=>none
   |none=>none
 capsOf (s:S):List X->Option (List Nat)
  |[]=>some []
  |x::l=>match s.get x with
   |some (.ptr i 0)=>match capsOf s l with
    |some ids=>some (i::ids)
    |none=>none
   |_=>none
 capsD (s:S):List X->Option (List ((t:Ty)×t.den))
  |[]=>some []
  |x::l=>match s.get x with
   |some (.dp t y)=>match capsD s l with
    |some cs=>some (⟨t,y⟩::cs)
    |none=>none
   |_=>none
 intsOf (s:S) (k:IntKind):List X->(List Int->Option R)->Option R
  |[],κ=>κ []
  |x::l,κ=>match s.get x with
   |some (.d (.int g) n)=>bif decide (g=k)then intsOf s k l λD=>κ (n::D)else none
   |_=>none
inductive RC where
 |nil
 |op (d:Option Nat) (o:TOp) (rest:RC)
 |adj (l:List Adj) (rest:RC)
 |gb (t:Nat) (want:Bool) (blk:RC) (ty:Ty) (r alt:X) (dst:Nat) (rest:RC)
def RC.asg:RC->List Nat
 | .nil=>[]
 | .op d _ rest=>(match d with|some d=>[d]|none=>[])++rest.asg
 | .adj _ rest=>rest.asg
 | .gb _ _ blk _ _ _ dst rest=>blk.asg++dst::rest.asg
def Mt(O:ak):(R:Type)->RC->S->(S->Option R)->(S->Option R)->Option R
 |_,.nil,s,κ,_=>κ s
 |R,.op d o rest,s,κ,kp=>evOp O d o s (λs'=>Mt O R rest s' κ kp) kp
 |R,.adj l rest,s,κ,kp=>GM l s λs=>Mt O R rest s κ kp
 |R,.gb t want blk ty r alt dst rest,s,κ,kp=>match lk s.fr t,s.get alt with
  |some (.d .bool b),some a=>match(bif blk.asg.all (λk=>(lk s.fr k).isNone)then d6 ty a else none)with
   |some alt=>d_ (match want with
    |true=>bif b then Mt O ty.den blk s (λs'=>match s'.get r with|some v=>d6 ty v|none=>none) (λ_=>none)else some alt
    |false=>bif b then some alt else Mt O ty.den blk s (λs'=>match s'.get r with|some v=>d6 ty v|none=>none) (λ_=>none))
    λc=>Mt O R rest (s.put dst (.d ty c)) κ kp
   |none=>none
  |_,_=>none
end
structure PO where
 j:Nat
 b:Bool
 us:List Nat
 rd:List Nat
 lent:List Nat
 d:Option Nat
 o:TOp
 g:Option (Nat×Bool)
def Ux(s:S)(rd lent:List Nat):List Nat:=(rd.flatMap λk=>match lk s.fr k with|some v=>v.ids|none=>[])++lent
def vq(s:S)(p:PO):List Nat:=match p.b,p.o,p.g with
 |true,.mv _,none=>[]
 |_,_,_=>Ux s p.rd p.lent
def zdN(r:Av.Rec)(T rd lent:List Nat)(d:Option Nat)(b:Bool):Bool:=
 (match r.d with
  |some t=> !r8 rd t&&(match d with|some u=> !c_ u t|none=>true)
  |none=>true)&&
 (match d with
  |some t=> !r8 r.rd t
  |none=>true)&&
 (match r.s with
  |some t=> !r8 T t
  |none=>true)&&
 (match b with
  |true=>lent.all λt=> !r8 r.F t
  |false=>T.all λt=> !r8 r.G t)
def NK(s:S)(i:Nat):List Nat:=match s.hp[i]? with
 |some o=>o.kids
 |none=>[]
def Hw:TOp->Option Nat
 | .atq k _=>some k
 |_=>none
def za9(s:S)(d:Option Nat):List Nat:=match d with
 |some k=>(match lk s.fr k with
  |some v=>v.kids
  |none=>[])
 |none=>[]
def WM(s s':S)(d:Option Nat)(T:List Nat):List Nat:=T++T.flatMap (NK s)++za9 s' d
def zcO(s s':S)(rd:List Nat)(d:Option Nat):List Nat:=(rd.flatMap λk=>match lk s.fr k with|some v=>v.kids|none=>[])++za9 s' d
structure RecV where
 r:Av.Rec
 ld:Option (Ty×Nat×Nat×V)
def Tt(s s':S)(p:PO):Option (Ty×Nat×Nat×V):=match p.o,p.g,p.d with
 | .load t x,none,some d=>(match s.get x,lk s'.fr d with
  |some (.ptr id off),some v=>some (t,id,off,v)
  |_,_=>none)
 |_,_,_=>none
def R3(hp:List Ob)(t:Ty)(id off:Nat):Option V:=match hp[id]? with
 |some (.box _ cs)=>bif j_ (off+t.sz) cs.length then some (whole t ((cs.drop off).take t.sz))else none
 |_=>none
def ze7{R:Type}(k:Option R):V->V->Option R
 | .d t x,.d u y=>(match cg u t y with
  |some z=>bif t.eqOk then(bif nH t x z then k else none)else none
  |none=>none)
 | .ptr i o,.ptr j q=>bif c_ i j&&c_ o q then k else none
 | .mp i,.mp j=>bif c_ i j then k else none
 |_,_=>none
def reL{R:Type}(T us:List Nat)(s':S)(k:Option R):List RecV->Option R
 |[]=>k
 |a::A=>bif !r8 us a.r.i||T.all (λt=> !r8 a.r.F t)then reL T us s' k A else(match a.ld with
  |some (t,id,off,v)=>(match R3 s'.hp t id off with
   |some b=>bif (NK s' id).all (r8 a.r.F)then ze7 (reL T us s' k A) v b else none
   |none=>none)
  |none=>none)
def reK{R:Type}(A:List RecV)(s s':S)(p:PO)(k:Option R):Option R:=bif p.b then k else reL (Ux s p.rd p.lent) p.us s' k A
def zc0(s:S):TOp->Bool
 | .store _ x _=>(match s.get x with
  |some (.ptr _ _)=>true
  |some (.elt id _ _)=>(match s.hp[id]? with
   |some (.vec _ _ _)=>true
   |_=>false)
  |_=>false)
 |_=>true
def zg3(A:List RecV)(o:TOp):Bool:=match Hw o with
 |some k=>A.all λa=>(match a.ld with
  |some (_,id,_,_)=> !c_ id k
  |none=>true)
 |none=>true
def JK(A:List RecV)(s:S)(p:PO):Bool:=A.all (λa=> !r8 p.us a.r.i||zdN a.r (vq s p) p.rd p.lent p.d p.b)&&(!p.b||(vq s p).all λi=>Nat.blt i s.hp.length)&&zc0 s p.o&&zg3 A p.o
def Kl(A:List RecV)(s s':S)(p:PO):List RecV:=bif p.b then A++[⟨⟨p.j,p.d,p.rd,Hw p.o,WM s s' p.d (vq s p),zcO s s' p.rd p.d⟩,Tt s s' p⟩]else A
def Ef{R:Type}(O:ak):List RecV->List PO->S->(S->Option R)->(S->Option R)->Option R
 |_,[],s,κ,_=>κ s
 |A,p::l,s,κ,kp=>match p.g with
  |none=>bif JK A s p then evOp O p.d p.o s (λs'=>reK A s s' p (Ef O (Kl A s s' p) l s' κ kp)) kp else none
  |some (t,want)=>match lk s.fr t with
   |some (.d .bool b)=>bif want==b
    then(bif JK A (s.put t (.d .bool want)) p then evOp O p.d p.o (s.put t (.d .bool want)) (λs'=>reK A (s.put t (.d .bool want)) s' p (Ef O (Kl A (s.put t (.d .bool want)) s' p) l s' κ kp)) kp else none)
    else(bif JK A (s.put t (.d .bool (!want))) p then reK A (s.put t (.d .bool (!want))) ((s.put t (.d .bool (!want))).putO p.d (.raw Go.undef)) p (Ef O (Kl A (s.put t (.d .bool (!want))) ((s.put t (.d .bool (!want))).putO p.d (.raw Go.undef)) p) l ((s.put t (.d .bool (!want))).putO p.d (.raw Go.undef)) κ kp)else none)
   |_=>none
def evL{R:Type}(O:ak):List PO->S->(S->Option R)->(S->Option R)->Option R
 |[],s,κ,_=>κ s
 |p::l,s,κ,kp=>match p.g with
  |none=>evOp O p.d p.o s (λs'=>evL O l s' κ kp) kp
  |some (t,want)=>match lk s.fr t with
   |some (.d .bool b)=>bif b
    then(match want with
     |true=>evOp O p.d p.o (s.put t (.d .bool true)) (λs'=>evL O l s' κ kp) kp
     |false=>evL O l ((s.put t (.d .bool true)).putO p.d (.raw Go.undef)) κ kp)
    else(match want with
     |true=>evL O l ((s.put t (.d .bool false)).putO p.d (.raw Go.undef)) κ kp
     |false=>evOp O p.d p.o (s.put t (.d .bool false)) (λs'=>evL O l s' κ kp) kp)
   |_=>none
inductive TC where
 |skip
 |region (ops:RC)
 |draw (k:Nat) (ops:RC) (af:List (List Nat))
 |draw2 (r:Nat) (pre:List PO) (tl:RC) (af:List (List Nat))
 |regL (pre:List PO)
 |seq (a b:TC)
 |cond (x:X) (a b:TC)
 |block (id:Nat) (a:TC)
 |loop (sh:Sh) (xs:List (Nat×Sh)) (a:TC)
 |exit (id:Nat)
 |ret
 |adj (l:List Adj) (a:TC)
 |after (a:TC) (l:List Adj)
 |cut (xs:List (Nat×Sh)) (a:TC)
def TC.asg:TC->List Nat
 | .region ops=>ops.asg
 | .draw _ ops _=>ops.asg
 | .regL pre=>pre.flatMap λp=>match p.d with|some d=>[d]|none=>[]
 | .draw2 _ pre tl _=>(pre.flatMap λp=>match p.d with|some d=>[d]|none=>[])++tl.asg
 | .seq a b=>a.asg++b.asg
 | .cond _ a b=>a.asg++b.asg
 | .block _ a=>a.asg
 | .loop _ _ a=>a.asg
 | .adj _ a=>a.asg
 | .after a _=>a.asg
 | .cut _ a=>a.asg
 |_=>[]
def TC.noD2:TC->Bool
 | .draw2 _ _ _ _=>false
 | .seq a b=>a.noD2&&b.noD2
 | .cond _ a b=>a.noD2&&b.noD2
 | .block _ a=>a.noD2
 | .loop _ _ a=>a.noD2
 | .adj _ a=>a.noD2
 | .after a _=>a.noD2
 | .cut _ a=>a.noD2
 |_=>true
def wa(A:List Nat)(fr:List (Nat×V))(k:Nat):Bool:=r8 A k||(match lk fr k with
 |some v=> !v.isD
 |none=>false)
def Slot.tmOk(A:List Nat)(fr:List (Nat×V)):Slot->Bool
 | .tm k _=>wa A fr k
 |_=>true
def Sh.okAt(sh:Sh)(A:List Nat)(s:S):Bool:=sh.keep.all (λk=> !r8 A k)&&sh.sl.all (Slot.tmOk A s.fr)&&sh.sk.fr.all (λx=>wa A s.fr x.1)
def aL{a b:Type}:Nat->(a->Option (a⊕b))->a->Option b
 |0,_,_=>none
 |n+1,f,s=>d_ (f s) (az_ (λs'=>aL n f s') some)
def LZ(O:ak)(n:Nat):(R:Type)->TC->S->(kn:S->Option R)->(kx:Nat->S->Option R)->(kr kp:S->Option R)->Option R
 |_,.skip,s,kn,_,_,_=>kn s
 |R,.region ops,s,kn,_,_,kp=>Mt O R ops s kn kp
 |R,.draw _ ops _,s,kn,_,_,kp=>Mt O R ops s kn kp
 |_,.regL pre,s,kn,_,_,kp=>evL O pre s kn kp
 |R,.draw2 r pre tl _,s,kn,_,_,kp=>Ef O [] pre ⟨s.fr,s.hp++F_ r .free⟩ (λs=>Mt O R tl s kn kp) kp
 |R,.seq a b,s,kn,kx,kr,kp=>LZ O n R a s (λs=>LZ O n R b s kn kx kr kp) kx kr kp
 |R,.cond x a b,s,kn,kx,kr,kp=>match s.get x with
  |some (.d .bool t)=>bif t then LZ O n R a s kn kx kr kp else LZ O n R b s kn kx kr kp
  |_=>none
 |R,.block id a,s,kn,kx,kr,kp=>LZ O n R a s kn (λi s=>bif c_ i id then kn s else kx i s) kr kp
 |_,.exit id,s,_,kx,_,_=>kx id s
 |_,.ret,s,_,_,kr,_=>kr s
 |R,.adj l a,s,kn,kx,kr,kp=>GM l s λs=>LZ O n R a s kn kx kr kp
 |R,.cut xs a,s,kn,kx,kr,kp=>bif xs.all (λx=>x.2.okAt a.asg s)then
  d_ (LZ O n (XT xs) a s (λs=>inj xs 0 s) (λi s=>inj xs (i+3) s) (λs=>inj xs 1 s) (λs=>inj xs 2 s))
   (oP s (λkey s=>match key with|0=>kn s|1=>kr s|2=>kp s|i+3=>kx i s) xs)else none
 |R,.loop sh xs a,s,kn,kx,kr,kp=>match pack sh s with
  |some c=>bif sh.okAt a.asg s&&xs.all (λx=>x.2.okAt a.asg s)then d_ (aL n (λc=>LZ O n (HL sh.sl⊕XT xs) a (unpack sh.sl c (sh.base s)) (λs=>match pack sh s with|some c=>some (.inl c)|none=>none)
   (λi s=>match inj xs (i+3) s with|some c=>some (.inr c)|none=>none) (λs=>match inj xs 1 s with|some c=>some (.inr c)|none=>none) (λs=>match inj xs 2 s with|some c=>some (.inr c)|none=>none)) c)
   (oP s (λkey s=>match key with|0=>kn s|1=>kr s|2=>kp s|i+3=>kx i s) xs)else none
  |none=>none
 |R,.after a l,s,kn,kx,kr,kp=>LZ O n R a s (λs=>GM l s kn) kx kr kp
inductive RX where
 |tm (t:Nat)
 |cell (a:Nat) (t:Ty)
structure TF where
 code:TC
 res:List RX
 ntmps:Nat
 sh:Sh
 m:Nat
def R6(s:S):List RX->Option (List V)
 |[]=>some []
 | .tm t::l=>match lk s.fr t with
  |some v=>match R6 s l with
   |some vs=>some (v::vs)
   |none=>none
  |none=>none
 | .cell a t::l=>match lk s.fr a with
  |some (.ptr id off)=>match s.hp[id]? with
   |some (.box _ cs)=>bif j_ (off+t.sz) cs.length then(match R6 s l with
    |some vs=>some (whole t ((cs.drop off).take t.sz)::vs)
    |none=>none)else none
   |_=>none
  |_=>none
def fY:Nat->List V->List (Nat×V)
 |_,[]=>[]
 |i,v::vs=>(i,v)::fY (i+1) vs
def jm(sh:Sh)(c:HL sh.sl):S:=unpack sh.sl c (sh.base ⟨[],[]⟩)
def ar(sh:Sh)(c:HL sh.sl):Option (Option S):=some (some (jm sh c))
def V.one:V->Bool
 | .agg vs=>vs.all V.cellD
 | .tup _=>false
 |_=>true
def NG(c:TF)(s:S):Option (Option S):=match R6 s c.res with
 |some vs=>bif j_ c.sh.sk.hp.length s.hp.length&&(s.hp.take c.sh.sk.hp.length).all (λo=>o.ids.all λi=>j_ (i+1) c.sh.sk.hp.length)&&vs.all (λv=>v.ids.all λi=>j_ (i+1) c.sh.sk.hp.length)&&c_ c.sh.n vs.length&&(c_ vs.length 1||vs.all V.one)then
  (match pack c.sh ⟨fY 0 vs,s.hp.take c.sh.sk.hp.length⟩with
  |some x=>ar c.sh x
  |none=>none)else none
 |none=>none
def YW(O:ak)(n:Nat)(c:TF)(ars:List V)(os:List Ob):Option (Option S):=
 LZ O n (Option S) c.code ⟨fY 0 ars,os⟩ (NG c) (λ_ _=>none) (NG c) (λ_=>some none)
structure TD where
 c:TF
 a:TC
 h:TC
 ta:Nat
 tb:Nat
 t8:Nat
def GP(s:S)(t i:Nat):Bool:=match lk s.fr t with
 |some (.ptr j o)=>c_ j i&&c_ o 0
 |_=>false
def noT(s:S)(t:Nat):Bool:=match lk s.fr t with
 |some _=>false
 |none=>true
def zf6(d:TD)(s:S):Option (Option S):=NG d.c ⟨[(d.ta,.ptr 0 0),(d.tb,.ptr 1 0)],s.hp⟩
def zdZ(O:ak)(n:Nat)(d:TD)(ars:List V):Option (Option S):=
 LZ O n (Option S) d.a ⟨fY 0 ars,[]⟩ (λs=>bif GP s d.ta 0&&GP s d.tb 1&&noT s d.t8&&c_ s.hp.length 2 then
  LZ O n (Option S) d.c.code s (NG d.c) (λ_ _=>none) (NG d.c) (λs=>bif GP s d.ta 0&&GP s d.tb 1 then
   LZ O n (Option S) d.h ⟨[(0,.ptr 0 0),(1,.ptr 1 0)],s.hp⟩ (zf6 d) (λ_ _=>none) (zf6 d) (λ_=>none)else none)else none) (λ_ _=>none) (λ_=>none) (λ_=>none)
inductive Fun' where
 |code (c:TF)
 |dfr (d:TD)
 |nat (g:List V->Option S)
def sC(tbl:Nat->Option Fun'):Nat->ak
 |0=>λ_ _ _=>none
 |n+1=>λf ars os=>match tbl f with
  |some (.code c)=>bif c_ os.length c.m&&j_ ars.length c.ntmps then YW (sC tbl n) n c ars os else none
  |some (.dfr d)=>bif c_ os.length 0&&j_ ars.length d.c.ntmps then zdZ (sC tbl n) n d ars else none
  |some (.nat g)=>(match os with
   |[]=>(match g ars with
    |some s=>some (some s)
    |none=>none)
   |_=>none)
  |none=>none
def Kk{α R:Type}(o:Option α)(p:Option R)(k:α->Option R):Option R:=match o with
 |some c=>k c
 |none=>p
abbrev tI:Ty:=.int .i64
abbrev tW:Ty:=.int .u32
abbrev tQ:Ty:=.int .u64
abbrev tY:Ty:=.int .u8
abbrev tB:Ty:=.bool
abbrev tS:Ty:=.str
@[reducible] def pr:List Ty->Ty
 |[]=>.unit
 |t::l=>.pair t (pr l)
abbrev aP(t:Ty)(x:t.den):List PV:=(aM t x).cells
theorem aO:∀(t:Ty) (x:t.den),(aP t x).length=t.sz
 | .int _,_=>rfl
 | .bool,_=>rfl
 | .str,_=>rfl
 | .list t,x=>by cases h:x.map (aM t)<;>simp[aP,aM,h,p5,PV.cells,Ty.sz]
 | .unit,_=>rfl
 | .pair a b,x=>by have c:=aO a x.1;have d:=aO b x.2;simp only[aP,aM,PV.cells,w_,Ty.sz]at c d⊢;omega
 | .rx,.mk k l h ks=>rfl
theorem tE:∀(t:Ty) (x:t.den),(aM t x).isAgg=t.ag
 | .int _,_=>rfl
 | .bool,_=>rfl
 | .str,_=>rfl
 | .list t,x=>by cases h:x.map (aM t)<;>simp[aM,h,p5,PV.isAgg,Ty.ag]
 | .unit,_=>rfl
 | .pair a b,x=>rfl
 | .rx,.mk k l h ks=>rfl
theorem fW{t:Ty}(x:t.den)(h:t.ag=true):aM t x= .agg (aP t x):=by have:=tE t x;rw[h]at this;cases a:aM t x<;>rw[a]at this<;>simp[PV.isAgg]at this;simp[aP,a,PV.cells]
theorem fe{t:Ty}(x:t.den)(h:t.ag=false):aP t x=[aM t x]:=by have:=tE t x;rw[h]at this;cases a:aM t x<;>rw[a]at this<;>simp_all[aP,PV.cells,PV.isAgg]
theorem jf{t:Ty}(h:t.ag=false):t.sz=1:=by cases t<;>simp_all[Ty.ag,Ty.sz]
theorem bT{t u:Ty}{x:t.den}{y:u.den}(h:cg t u x=some y):∃e:t=u,y=e▸x:=by unfold cg at h;grind
theorem bO{t u:Ty}{x:t.den}{y:u.den}(h:cg t u x=some y):aM u y=aM t x/\t=u:=by obtain⟨rfl,rfl⟩:=bT h;exact⟨rfl,rfl⟩
theorem NC:∀(ks:List Rx),Tb ks=ks.map zdR
 |[]=>rfl
 |k::ks=>by rw[Tb,NC ks];rfl
theorem AK(r:Rx):aP .rx r=[aM (.int .i64) r.out.1,aM (.int .i64) r.out.2.1,aM (.int .i64) r.out.2.2.1,aM (.list .rx) r.out.2.2.2.1]:=by cases r with|mk k l h ks=>show [_,_,_,_]=[_,_,_,_];simp only[aM,Rx.out,NC];rfl
theorem xl:∀(t:Ty) (off:Nat) (u:Ty) (x:t.den) (y:u.den),AI t off u x=some y->off+u.sz<=t.sz/\((aP t x).drop off).take u.sz=aP u y
 | .pair a b,off,u,x,y,h=>by
  have l:=aO a x.1
  have A:=aO b x.2
  have hc:aP (.pair a b) x=aP a x.1++aP b x.2:=rfl
  unfold AI at h
  cases d:(decide (Ty.pair a b=u)&&c_ off 0)
  ·rw[d]at h
   simp only[cond_false]at h
   cases f:j_ (off+1) a.sz
   ·rw[f]at h
    simp only[cond_false]at h
    have v:a.sz<=off:=by
     have:=Nat.not_le_of_not_ble_eq_true (by rw[f];simp)
     omega
    obtain⟨r,s⟩:=xl b (off - a.sz) u x.2 y h
    refine⟨by simp only[Ty.sz];omega,?_⟩
    rw[hc,ae_,l,List.drop_eq_nil_of_le (by omega),al_]
    omega
   ·rw[f]at h
    simp only[cond_true]at h
    have B:=f_ f
    obtain⟨r,s⟩:=xl a off u x.1 y h
    refine⟨by simp only[Ty.sz];omega,?_⟩
    grind
  ·rw[d]at h
   simp only[cond_true]at h
   simp only[b_,decide_eq_true_eq]at d
   have j:off=0:=a_ d.2
   subst j
   obtain⟨e,rfl⟩:=bO h
   refine⟨by simp,?_⟩
   rw[D_,q_ (by rw[aO];simp)]
   grind
 | .rx,off,u,x,y,h=>by
  have hc:=AK x
  have one:∀{t:Ty} {z:t.den},t.ag=false->cg t u z=some y->aP u y=[aM t z]/\u.sz=1:=fun{t z} n w=>by
   obtain⟨e,rfl⟩:=bO w
   exact⟨by rw[fe _ n,e],jf n⟩
  unfold AI at h
  split at h
  ·by_cases p:u= .rx
   ·subst p
    simp only[decide_true,cond_true]at h
    obtain⟨e,_⟩:=bO h
    refine⟨by simp,?_⟩
    rw[D_,q_ (by rw[aO];simp)]
    grind
   ·simp only[p,decide_false,cond_false]at h
    obtain⟨e,g⟩:=one rfl h
    rw[e,g,hc]
    exact⟨by simp[Ty.sz],rfl⟩
  ·obtain⟨e,g⟩:=one rfl h
   rw[e,g,hc]
   exact⟨by simp[Ty.sz],rfl⟩
  ·obtain⟨e,g⟩:=one rfl h
   rw[e,g,hc]
   exact⟨by simp[Ty.sz],rfl⟩
  ·obtain⟨e,g⟩:=one rfl h
   rw[e,g,hc]
   exact⟨by simp[Ty.sz],rfl⟩
  grind
 | .int k,off,u,x,y,h=>c (.int k) off u x y h
 | .bool,off,u,x,y,h=>c .bool off u x y h
 | .str,off,u,x,y,h=>c .str off u x y h
 | .list t,off,u,x,y,h=>c (.list t) off u x y h
 | .unit,off,u,x,y,h=>c .unit off u x y h
where
 c (t:Ty) (off:Nat) (u:Ty) (x:t.den) (y:u.den) (h:(bif c_ off 0 then cg t u x else none)=some y):off+u.sz<=t.sz/\((aP t x).drop off).take u.sz=aP u y:=by
  cases j:c_ off 0
  ·grind
  ·rw[j]at h
   simp only[cond_true]at h
   have:=a_ j
   subst this
   obtain⟨e,rfl⟩:=bO h
   refine⟨by simp,?_⟩
   rw[D_,q_ (by rw[aO];simp)]
   grind
theorem IW{t:Ty}{off:Nat}{u:Ty}{x:t.den}{y:u.den}(h:AI t off u x=some y):off+u.sz<=(aM t x).cells.length/\(u.ag=false->u.sz=1)/\(aM t x).sub off u.sz u.ag=aM u y:=by
 obtain⟨d,b⟩:=xl t off u x y h;refine⟨by rw[aO];omega,jf,?_⟩;cases c:u.ag
 ·have hs:=jf c;rw[hs,fe y c]at b;have a:off<(aP t x).length:=by rw[aO];omega
  rw[N_ a]at b;simp only[W_,aq_,List.cons.injEq,and_true]at b;simp only[PV.sub,T_,P_ a,z_];omega
 ·simp only[PV.sub];rw[fW y c,<-b]
theorem eG:∀(t:Ty) (x:t.den),(jV t x).map aW=(aP t x).map BV.pv/\(jV t x).length=t.sz
 | .int _,_=>⟨rfl,rfl⟩
 | .bool,_=>⟨rfl,rfl⟩
 | .str,_=>⟨rfl,rfl⟩
 | .list t,x=>⟨by rw[fe (t:=.list t) x rfl];rfl,rfl⟩
 | .unit,_=>⟨rfl,rfl⟩
 | .pair a b,x=>by obtain⟨c,d⟩:=eG a x.1;obtain⟨e,f⟩:=eG b x.2;have hc:aP (.pair a b) x=aP a x.1++aP b x.2:=rfl;refine⟨?_,by simp only[jV,w_,d,f,Ty.sz]⟩;rw[hc];simp only[jV,B_,c,e]
 | .rx,x=>⟨by rw[AK x];rfl,rfl⟩
theorem uc{u:Ty}{v:V}{x:u.den}(h:mP u v=some x):(aW v).toPV=some (aM u x):=by
 cases v<;>simp only[mP]at h<;>try cases h
 ·obtain⟨a,rfl⟩:=bO h;rw[a];rfl
 ·obtain⟨rfl,rfl⟩:=bT h;rfl
 ·obtain⟨a,rfl⟩:=bO h;rw[a];rfl
theorem RE{u:Ty}{v:V}{x:u.den}(h:mP u v=some x):aZ v= .b (aW v):=by cases v<;>simp only[mP]at h<;>first|rfl|cases h
theorem EU:∀(t:Ty) (l:List V) (x:t.den) (m:List V),asm t l=some (x,m)->∃g,l=g++m/\(g.map aW).mapM BV.toPV=some (aP t x)
 | .unit,l,x,m,h=>by simp only[asm,e_,U_.injEq]at h;obtain⟨_,rfl⟩:=h;exact⟨[],rfl,rfl⟩
 | .pair a b,l,x,m,h=>by
  simp only[asm]at h
  split at h
  ·rename_i y l1 f
   split at h
   ·rename_i z l2 j
    simp only[e_,U_.injEq]at h
    obtain⟨rfl,rfl⟩:=h
    obtain⟨p,rfl,hp⟩:=EU a l y l1 f
    obtain⟨q,rfl,C⟩:=EU b l1 z l2 j
    refine⟨p++q,by simp,?_⟩
    have hc:aP (.pair a b) (y,z)=aP a y++aP b z:=rfl
    grind
   grind
  grind
 | .rx,l,x,m,h=>by
  unfold asm at h
  split at h
  ·rename_i a b c e l'
   split at h
   ·rename_i u w A B f j n r
    simp only[e_,U_.injEq]at h
    obtain⟨rfl,rfl⟩:=h
    refine⟨[a,b,c,e],rfl,?_⟩
    rw[AK]
    simp only[l_,ab_,k_,Y_,uc f,uc j,uc n,uc r]
    rfl
   grind
  grind
 | .int k,l,x,m,h=>d (.int k) l x m rfl h
 | .bool,l,x,m,h=>d .bool l x m rfl h
 | .str,l,x,m,h=>d .str l x m rfl h
 | .list t,l,x,m,h=>d (.list t) l x m rfl h
where
 d (t:Ty) (l:List V) (x:t.den) (m:List V) (s:t.ag=false) (h:(match l with
  |v::l=>match mP t v with
   |some x=>some (x,l)
   |none=>none
  |[]=>none)=some (x,m)):∃g,l=g++m/\(g.map aW).mapM BV.toPV=some (aP t x):=by
  split at h
  ·rename_i v l'
   split at h
   ·rename_i y f
    simp only[e_,U_.injEq]at h
    obtain⟨rfl,rfl⟩:=h
    refine⟨[v],rfl,?_⟩
    rw[fe _ s]
    simp only[l_,ab_,k_,Y_,uc f]
    rfl
   grind
  grind
theorem fV{t:Ty}{v:V}{x:t.den}(h:d6 t v=some x):(aZ v).toPV=some (aM t x):=by
 unfold d6 at h;split at h
 ·rename_i vs;split at h
  ·rename_i d;split at h;·rename_i y b;cases h;obtain⟨e,a,c⟩:=EU t vs x [] b;rw[ak_]at a;subst a;show((vs.map aW).mapM BV.toPV).map PV.agg=_;rw[c,fW x d];rfl
   grind
  grind
 ·rw[RE h];exact uc h
theorem X6(v:V)(a:∀vs,v≠.tup vs):(dw v).map aW=(aZ v).cells:=by
 cases v with
 |d t x=>exact(eG t x).1|agg vs=>rfl|tup vs=>grind|nil t=>rfl|raw v=>
  show [bJ v]=_;unfold aZ;simp only[aW];cases hc:bJ v<;>first|rfl|skip
  rename_i p;unfold bJ at hc;split at hc;·grind
  ·cases hc;rfl
 |full t x=>rfl|any=>rfl|dp t x=>rfl|fnD f cs=>rfl|lit k t xs=>cases xs<;>rfl|_=>rfl
theorem zhA(sz:Nat)(xs:List PV):(p5 sz xs).cells=[p5 sz xs]/\(p5 sz xs).cellOk=true:=by cases xs<;>exact⟨rfl,rfl⟩
theorem Tu(t:Ty)(x:List t.den):(aM (.list t) x).cells=[aM (.list t) x]/\(aM (.list t) x).cellOk=true:=zhA _ _
theorem zjf:∀(t:Ty) (x:t.den),((aP t x).all PV.cellOk)=true
 | .int _,_=>rfl
 | .bool,_=>rfl
 | .str,_=>rfl
 | .list t,x=>by have h:=Tu t x;grind
 | .unit,_=>rfl
 | .pair a b,x=>by show(((aM a x.1).cells++(aM b x.2).cells).all PV.cellOk)=true;rw[List.all_append,zjf a x.1,zjf b x.2];rfl
 | .rx,r=>by rw[AK];have h:=(Tu .rx r.out.2.2.2.1).2;simp only[r_,List.all_nil,Bool.and_true,h];rfl
theorem Hb(t:Ty)(x:t.den):(aM t x).ok=true:=zjf t x
theorem rB:∀(t:Ty) (x:t.den),t.flat=true->(aM t x).Flat/\∀y∈aP t x,y.Flat
 | .int _,_,_=>⟨.sc _,λy c=>by rw[L_.1 c];exact .sc _⟩
 | .bool,_,_=>⟨.sc _,λy c=>by rw[L_.1 c];exact .sc _⟩
 | .str,_,_=>⟨.sc _,λy c=>by rw[L_.1 c];exact .sc _⟩
 | .unit,_,_=>⟨.agg [] (by simp),λy c=>by cases c⟩
 | .pair a b,x,h=>by
  simp only[Ty.flat,b_]at h;have d:=(rB a x.1 h.1).2;have e:=(rB b x.2 h.2).2;have hc:∀y∈aP (.pair a b) x,y.Flat:=λy c=>by have:aP (.pair a b) x=aP a x.1++aP b x.2:=rfl;grind
  exact⟨.agg _ λi y c=>hc y (S_ c),hc⟩
def valOf:(t:Ty)->t.den->Value
 | .int k,x=>.int k x
 | .bool,x=>.bool x
 | .str,x=>.string ⟨x.toArray⟩
 |_,_=>.slice none 0 0
def I1:V->Value
 | .d t x=>valOf t x
 | .nil _=>.slice none 0 0
 | .raw v=>v
 |_=>Go.undef
def Ty.sc:Ty->Bool
 | .int _=>true
 | .bool=>true
 | .str=>true
 |_=>false
def V.konst:V->Bool
 | .d t _=>t.sc
 | .nil _=>true
 | .raw _=>true
 |_=>false
def X.er:X->SX
 | .tm j=>.tm j
 | .k t x=>.c (valOf t x)
 | .nil _=>.c (.slice none 0 0)
 | .ag vs=>.c (.agg (vs.map I1).toArray)
 | .f n=>.f n
 | .raw v=>.c v
def X.wf:X->Bool
 | .k t _=>t.sc
 | .ag vs=>vs.all V.konst
 | .raw v=>match v with
  | .agg _=>false
  | .slice _ _ _=>false
  |_=>true
 |_=>true
def wh(t:Ty):Value:=match t.ag with
 |true=>.agg (((jV t t.zero).map λv=>match v with
  | .d (.list _) _=>Value.slice none 0 0
  |v=>I1 v).toArray)
 |false=>match t with
  | .list _=>.slice none 0 0
  |t=>valOf t t.zero
def Z3(x:Option X):Option SX:=x.map X.er
def TOp.er:TOp->SOp
 | .mv x=>.mv x.er
 | .pick c a b=>.pick c.er a.er b.er
 | .bin op x y=>.bin op x.er y.er
 | .eqB neg x y=>.eqB neg x.er y.er
 | .eqT neg tid _ x y=>.eqT neg tid x.er y.er
 | .un op x=>.un op x.er
 | .len str x=>.len str x.er
 | .lenM k e x=>.lenM k e x.er
 | .idxS x i=>.idxS x.er i.er
 | .idxV n t x i=>.idxV n t.sz t.ag x.er i.er
 | .idxA t x i=>.idxA t.sz x.er i.er
 | .idxP n t x i=>.idxP n t.sz t.ag x.er i.er
 | .fldA off t x=>.fldA off t.sz t.ag x.er
 | .fld off t x=>.fld off t.sz t.ag x.er
 | .load t x=>.load t.sz t.ag x.er
 | .store t x v=>.store t.sz x.er v.er
 | .alloc tid zero=>.alloc tid (zero.map I1)
 | .box tid x=>.box tid x.er
 | .boxD tid _ x=>.boxD tid x.er
 | .build zero parts=>.build (zero.map I1) (parts.map λq=>(q.1,q.2.1,q.2.2.er))
 | .bslice own tid t z parts=>.bslice own tid t.sz z (parts.map X.er)
 | .mslice tid t bytes l c=>.mslice tid t.sz bytes (wh t) l.er c.er
 | .append tid t bytes x y=>.append tid t.sz bytes x.er y.er
 | .cvtI k x=>.cvtI k x.er
 | .slc _ t x lo E mx=>.slc t.sz x.er (Z3 lo) (Z3 E) (Z3 mx)
 | .slcS x lo E=>.slcS x.er (Z3 lo) (Z3 E)
 | .ext x i=>.ext x.er i
 | .nilc x=>.nilc x.er
 | .call bor f args _=>.call bor (f%10000) (args.map λa=>a.2.er)
 | .callA _ bor B f args _=>.callA bor B (f%10000) (args.map λa=>a.2.er)
 | .callv _ bor B _ x args _=>.callv bor B x.er (args.map λa=>a.2.er)
 | .callp bor _ x args _=>.callp bor x.er (args.map λa=>a.2.er)
 | .b2s x=>.b2s x.er
 | .mkfn f caps=>.mkfn f (caps.map X.er)
 | .mkmap k e _ _=>.mkmap k e
 | .lookup k e ok _ b m x=>.lookup k e ok (wh b) m.er x.er
 | .mapset k e _ _ m x v=>.mapset k e m.er x.er v.er
 | .copy tid t x y=>.copy tid t.sz x.er y.er
 | .mnmx mx k x ys=>.mnmx mx k x.er (ys.map X.er)
 | .panic x=>.panic x.er
 | .iface tid x=>.iface tid x.er
 | .bsliceF tid t z parts=>.bslice false tid t.sz z (parts.map X.er)
 | .appD tid t bytes x y=>.appD tid t.sz bytes x.er y.er
 | .bsliceN tid _ t z parts=>.bsliceN tid t.sz z (parts.map X.er)
 | .msliceT tid k _ bytes l c=>.msliceT k tid 1 bytes (.slice none 0 0) l.er c.er
 | .appT tid k t bytes x y=>.appT k tid t.sz bytes x.er y.er
 | .atq k op=>.atq k op.er
def fsT(P:Program)(c:TypeId->Ty->Bool):List Field->Nat->Ty->Bool
 |[],_,.unit=>true
 |f::l,off,.pair a b=>(f.name != "_")&&c_ f.offset off&&(match P.info? f.type with
  |some i=>c_ i.size a.sz&&(P.underlying f.type).isSome&&(mh P f.type==a.ag)
  |none=>false)&&c f.type a&&fsT P c l (off+a.sz) b
 |_,_,_=>false
def He(P:Program):Nat->TypeId->Ty->Bool
 |0,_,_=>false
 |d+1,t,u=>match P.underlying t,u with
  |some .bool,.bool=>true
  |some (.int k),.int b=>decide (k=b)
  |some .string,.str=>true
  |some (.struct a),u=> !P.stoodInHeld t&&fsT P (He P d) a.toList 0 u
  |_,_=>false
def nS(l:List (Arg×X)):Bool:=l.all λa=>a.2.wf
def oWf(x:Option X):Bool:=match x with
 |some x=>x.wf
 |none=>true
def TOp.wf(P:Program):TOp->Bool
 | .mv x=>x.wf
 | .pick c a b=>c.wf&&a.wf&&b.wf
 | .bin _ x y=>x.wf&&y.wf
 | .eqB _ x y=>x.wf&&y.wf
 | .eqT _ tid t x y=>x.wf&&y.wf&&He P 64 tid t
 | .un _ x=>x.wf
 | .len _ x=>x.wf
 | .lenM _ _ x=>x.wf
 | .idxS x i=>x.wf&&i.wf
 | .idxV _ _ x i=>x.wf&&i.wf
 | .idxA _ x i=>x.wf&&i.wf
 | .idxP _ _ x i=>x.wf&&i.wf
 | .fldA _ _ x=>x.wf
 | .fld _ _ x=>x.wf
 | .load _ x=>x.wf
 | .store _ x v=>x.wf&&v.wf
 | .alloc _ zero=>zero.all V.konst
 | .box _ x=>x.wf
 | .boxD _ _ x=>x.wf
 | .build zero parts=>zero.all V.konst&&parts.all λq=>q.2.2.wf
 | .bslice _ _ _ _ parts=>parts.all X.wf
 | .mslice _ t _ l c=>l.wf&&c.wf&&decide (t≠.rx)
 | .append _ _ _ x y=>x.wf&&y.wf
 | .cvtI _ x=>x.wf
 | .slc _ _ x lo z mx=>x.wf&&oWf lo&&oWf z&&oWf mx
 | .slcS x lo z=>x.wf&&oWf lo&&oWf z
 | .ext x _=>x.wf
 | .nilc x=>x.wf
 | .call _ _ args sh=>nS args&&sh.wfB
 | .callA _ _ _ _ args sh=>nS args&&sh.wfB
 | .callv _ _ _ num x args sh=>x.wf&&nS args&&fU P (num%10000)&&sh.wfB
 | .callp _ num x args sh=>x.wf&&nS args&&fU P (num%10000)&&sh.wfB
 | .b2s x=>x.wf
 | .mkfn _ caps=>caps.all X.wf
 | .mkmap _ _ _ _=>true
 | .lookup k _ _ a b m x=>m.wf&&x.wf&&He P 64 k a&&b.sc
 | .mapset k _ a _ m x v=>m.wf&&x.wf&&v.wf&&He P 64 k a
 | .copy _ _ x y=>x.wf&&y.wf
 | .mnmx _ _ x ys=>x.wf&&ys.all X.wf
 | .panic x=>x.wf
 | .iface _ x=>x.wf
 | .bsliceF _ _ _ parts=>parts.all X.wf
 | .appD _ _ _ x y=>x.wf&&y.wf
 | .bsliceN _ _ _ _ parts=>parts.all X.wf
 | .msliceT _ _ _ _ l c=>l.wf&&c.wf
 | .appT _ _ _ _ x y=>x.wf&&y.wf
 | .atq _ op=>op.wf P
def N9(t:Nat)(want:Bool)(r alt:SX):SOp:=match want with
 |true=>.pick (.tm t) r alt
 |false=>.pick (.tm t) alt r
def RC.er:Option (Nat×Bool)->RC->List SOper
 |_,.nil=>[]
 |g,.op d o rest=>⟨d,o.er,g⟩::rest.er g
 |g,.adj _ rest=>rest.er g
 |g,.gb t want blk _ r alt dst rest=>blk.er (some (t,want))++(⟨some dst,N9 t want r.er alt.er,g⟩::rest.er g)
def TOp.pureB:TOp->Bool
 | .store .. =>false
 | .alloc .. =>false
 | .box .. =>false
 | .bslice own .. => !own
 | .mslice .. =>false
 | .append .. =>false
 | .callA .. =>false
 | .callv .. =>false
 | .mkmap .. =>false
 | .mapset .. =>false
 | .copy .. =>false
 | .panic .. =>false
 | .atq .. =>false
 | .msliceT .. =>false
 | .appT .. =>false
 |_=>true
def TOp.exB:TOp->Bool
 | .append .. =>true
 | .appT .. =>true
 | .callA .. =>true
 | .callv .. =>true
 | .store .. =>true
 |o=>o.pureB
def TOp.isAt:TOp->Bool
 | .atq .. =>true
 |_=>false
def RC.pureB:RC->Bool
 | .nil=>true
 | .op _ o rest=>o.pureB&&rest.pureB
 | .adj _ _=>false
 | .gb _ _ blk _ _ _ _ rest=>blk.pureB&&rest.pureB
def RC.wf(P:Program):RC->Bool
 | .nil=>true
 | .op _ o rest=>o.wf P&&rest.wf P
 | .adj _ rest=>rest.wf P
 | .gb _ _ blk _ r alt _ rest=>blk.wf P&&blk.pureB&&r.wf&&alt.wf&&rest.wf P
def zi0(j:Nat)(b:Bool)(us:List Nat)(d:Option Nat)(o:TOp):PO:=⟨j,b,us,o.er.rd,o.er.lent,d,o,none⟩
def ziZ(j:Nat)(b:Bool)(us:List Nat)(t:Nat)(want:Bool)(d:Option Nat)(o:TOp):PO:=⟨j,b,us,o.er.rd++[t],o.er.lent,d,o,some (t,want)⟩
def PO.so(p:PO):SOper:=⟨p.d,p.o.er,p.g⟩
def Qn(pre:List PO):List SOper:=(Z_ pre.length).map λj=>match pre.find? λp=>c_ p.j j with
 |some p=>p.so
 |none=>default
def TC.er:TC->AC
 | .skip=>.skip
 | .region ops=>.region (ops.er none)
 | .draw k ops af=>.draw k (ops.er none) af
 | .regL pre=>.region (pre.map PO.so)
 | .draw2 _ pre tl af=>.draw2 (pre.map λp=>(p.j,p.b)) (Qn pre++tl.er none) af
 | .seq a b=>.seq a.er b.er
 | .cond x a b=>.cond x.er a.er b.er
 | .block id a=>.block id a.er
 | .loop _ _ a=>.loop a.er
 | .exit id=>.exit id
 | .ret=>.ret
 | .adj _ a=>a.er
 | .after a _=>a.er
 | .cut _ a=>a.er
theorem vZ(fr:List (Nat×V))(k:Nat):Av.look (fr.map λx=>(x.1,aZ x.2)) k=(lk fr k).map aZ:=by
 induction fr with
 |nil=>rfl|cons x fr b=>
  obtain⟨j,v⟩:=x;simp only[l_,Av.look,lk];by_cases h:k=j;·subst h;simp
  ·rw[if_neg h,b];have:c_ k j=false:=by
    cases a:c_ k j;·rfl
    ·exact absurd (a_ a) h
   grind
theorem Fb{v:V}(h:v.konst=true):bJ (I1 v)=aW v:=by
 cases v<;>simp only[V.konst]at h<;>try cases h
 ·rename_i t x;cases t<;>simp only[Ty.sc]at h<;>first|rfl|grind
 ·rfl
 ·rfl
theorem aJ{s:S}{x:X}{v:V}(a:x.wf=true)(h:s.get x=some v):(enc s).get x.er=some (aZ v):=by
 cases x with
 |tm k=>simp only[S.get]at h;show Av.look (s.fr.map λx=>(x.1,aZ x.2)) k=_;rw[vZ,h];rfl|k t x=>simp only[S.get,e_]at h;subst h;simp only[X.wf]at a;cases t<;>simp only[Ty.sc]at a<;>first|rfl|grind
 |nil t=>simp only[S.get,e_]at h;subst h;rfl|ag vs=>simp only[S.get,e_]at h;subst h;simp only[X.wf,m_]at a;show some (AV.agg (((vs.map I1).toArray).toList.map bJ))=some (.agg (vs.map aW));simp only[h_];congr 2;exact i_ λv b=>Fb (a v b)|f n=>simp only[S.get,e_]at h;subst h;rfl|raw v=>simp only[S.get,e_]at h;subst h;simp only[X.wf]at a;cases v<;>simp only at a<;>first|rfl|grind
theorem kf(s:S)(d:Option Nat)(v:V):enc (s.putO d v)=(enc s).putO d (aZ v):=by cases d<;>rfl
theorem bR(s:S)(i:Nat):(enc s).hp[i]? =(s.hp[i]?).map bV:=by simp[enc]
theorem gZ{α:Type}:∀(l:List α) (n:Nat) (y:α),setAt l n y=l.set n y
 |[],_,_=>rfl
 |_::_,0,_=>rfl
 |x::l,n+1,y=>by simp[setAt,gZ l n y]
theorem XH(t:Ty)(f:t≠.rx):(jF (wh t)).toPV=some (aM t t.zero)/\(jF (wh t)).cells.length=t.sz:=by
 have c:∀(t:Ty),(((jV t t.zero).map λv=>match v with
  | .d (.list _) _=>Value.slice none 0 0
  |v=>I1 v).map bJ).mapM BV.toPV=some (aP t t.zero)/\(jV t t.zero).length=t.sz:=by
  intro t
  refine⟨?_,(eG t t.zero).2⟩
  induction t with|pair a b d e=>have hc:aP (.pair a b) (Ty.zero (.pair a b))=aP a a.zero++aP b b.zero:=rfl;rw[hc];simp only[jV,Ty.zero,B_,ag_];grind|rx=>rfl|list t=>rfl|_=>rfl
 cases h:t.ag;·cases t<;>simp[Ty.ag]at h<;>exact⟨rfl,rfl⟩
 ·have:=c t;simp only[wh,h];simp only[jF];refine⟨?_,?_⟩
  ·show((((((jV t t.zero).map λv=>match v with| .d (.list _) _=>Value.slice none 0 0|v=>I1 v).toArray).toList).map bJ).mapM BV.toPV).map PV.agg=_
   rw[List.toList_toArray,this.1,fW _ h];rfl
  ·show(((((jV t t.zero).map λv=>match v with| .d (.list _) _=>Value.slice none 0 0|v=>I1 v).toArray).toList).map bJ).length=_
   grind
structure Zt where
 ty:List Ty
 kk:List K
 sh:List Sh
 zs:List (List V)
structure Zx where
 o:List TOp
 c:List TC
def Kh{α:Type}(d:α):List α->Nat->α
 |[],_=>d
 |x::l,n=>bif c_ n 0 then x else Kh d l (n - 1)
def zf:Nat->Nat->Nat×Nat
 |0,n=>(0,n)
 |f+1,n=>bif j_ 8 (n%16)then(match zf f (n/16)with|(v,r)=>(n%16 - 8+8*v,r))else(n%16,n/16)
def zn(n:Nat):Nat×Nat:=zf 24 n
def zl{α:Type}(p:Nat->α×Nat):Nat->Nat->List α×Nat
 |0,n=>([],n)
 |k+1,n=>match p n with
  |(a,r)=>match zl p k r with
   |(l,r)=>(a::l,r)
def Jt{α:Type}(p:Nat->α×Nat)(n:Nat):List α×Nat:=match zn n with
 |(k,r)=>zl p k r
def zm{α β:Type}(f:α->β)(p:α×Nat):β×Nat:=match p with
 |(a,r)=>(f a,r)
def zb{α β:Type}(p:α×Nat)(f:α->Nat->β×Nat):β×Nat:=match p with
 |(a,r)=>f a r
def zgN(v:Nat):Int:=bif c_ (v%2) 0 then Int.ofNat (v/2)else Int.negSucc (v/2)
def ziQ:Nat->Nat->Nat->List Nat×Nat
 |0,_,n=>([],n)
 |k+1,b,n=>match zn n with
  |(v,r)=>match ziQ k (b+v) r with
   |(l,r)=>((b+v)::l,r)
def zas(n:Nat):List Nat×Nat:=match zn n with
 |(k,r)=>ziQ k 0 r
def zc7(b c:Nat):Nat:=bif c_ (c%2) 0 then b+c/2 else b - (c/2+1)
def zt(b n:Nat):Nat×Nat:=match zn n with
 |(c,r)=>(zc7 b c,r)
def zd(b n:Nat):Option Nat×Nat:=match zn n with
 |(c,r)=>(bif c_ c 0 then none else some (zc7 b (c - 1)),r)
section
variable (T:Zt)
def GU(n:Nat):Ty×Nat:=match zn n with
 |(i,r)=>(Kh .unit T.ty i,r)
def zk(n:Nat):K×Nat:=match zn n with
 |(i,r)=>(Kh .e T.kk i,r)
def zsh(n:Nat):Sh×Nat:=match zn n with
 |(i,r)=>(Kh ⟨[],⟨[],[]⟩,[]⟩ T.sh i,r)
def zV:Nat->Nat->V×Nat
 |0,n=>(.any,n)
 |f+1,n=>match zn n with
  |(o,r)=>match o with
   |0=>(.any,r)
   |1=>zm V.sl (zn r)
   |2=>zb (zn r) λi r=>zm (V.ptr i) (zn r)
   |3=>zm V.mp (zn r)
   |4=>zm V.nil (GU T r)
   |5=>(.raw (.pointer none),r)
   |6=>(.raw (.slice none 0 0),r)
   |7=>zm V.agg (Jt (zV f) r)
   |8=>zm V.tup (Jt (zV f) r)
   |9=>zm (λv=>V.d tI (zgN v)) (zn r)
   |10=>zm (λv=>V.d tB (c_ v 1)) (zn r)
   |11=>zb (zn r) λi r=>zm (V.clo i) (Jt zn r)
   |12=>(.raw .nilIface,r)
   |13=>(.raw (.map none),r)
   |14=>(.ifc,r)
   |15=>zb (zn r) λk r=>zm (λv=>match Kh .unit T.ty k with| .int k=>V.d (.int k) (zgN v)|_=>.any) (zn r)
   |16=>zm (λl=>V.d tS (l.map UInt8.ofNat)) (Jt zn r)
   |_=>zm (λi=>(Kh [] T.zs i).headD .any) (zn r)
def zX(b n:Nat):X×Nat:=match zn n with
 |(c,r)=>match c%4 with
  |0=>(.tm (zc7 b (c/4)),r)
  |1=>(.k tI (zgN (c/4)),r)
  |_=>match c/4 with
   |0=>(.k tB false,r)
   |1=>(.k tB true,r)
   |2=>zm X.nil (GU T r)
   |3=>zb (zn r) λk r=>zm (λv=>match Kh .unit T.ty k with| .int k=>X.k (.int k) (zgN v)|_=>.f 0) (zn r)
   |4=>zm (λl=>X.k tS (l.map UInt8.ofNat)) (Jt zn r)
   |5=>zm X.ag (Jt (zV T 9) r)
   |6=>zm X.f (zn r)
   |7=>(.raw (.pointer none),r)
   |8=>(.raw (.slice none 0 0),r)
   |9=>(.raw .nilIface,r)
   |10=>(.raw (.map none),r)
   |_=>zm (λi=>match(Kh [] T.zs i).headD .any with| .raw v=>X.raw v|_=>.f 0) (zn r)
def zh9(b n:Nat):(Arg×X)×Nat:=match zn n with
 |(c,r)=>zm (λx=>(bif c_ c 0 then Arg.x else .d (Kh .unit T.ty (c - 1)),x)) (zX T b r)
def zjc:Nat->BinOp
 |0=>.add|1=>.sub|2=>.mul|3=>.quo|4=>.rem|5=>.and|6=>.or|7=>.xor|8=>.andNot|9=>.shl|10=>.shr
 |11=>.eql|12=>.neq|13=>.lss|14=>.leq|15=>.gtr|_=>.geq
def zox(b n:Nat):Option X×Nat:=match zn n with
 |(0,r)=>(none,r)
 |(_,r)=>zm some (zX T b r)
def ziR(x:Zx)(b:Nat)(o:Nat)(r:Nat):TOp×Nat:=
 match o with
 |1=>zm (λt=>.mv (.tm t)) (zt b r)
 |2=>zb (GU T r) λt r=>zm (λx=>.load t (.tm x)) (zt b r)
 |3=>zb (zn r) λj r=>zb (GU T r) λt r=>zm (λx=>.fldA j t (.tm x)) (zt b r)
 |5=>zb (zn r) λk r=>zb (zX T b r) λx r=>zm (λy=>.bin (zjc k) x y) (zX T b r)
 |6=>zm .mv (zX T b r)
 |7=>zb (GU T r) λt r=>zb (zX T b r) λx r=>zm (λi=>.idxA t x i) (zX T b r)
 |8=>zb (GU T r) λt r=>zb (zX T b r) λx r=>zm (λi=>.store t x i) (zX T b r)
 |9=>zm (.len false) (zX T b r)
 |10=>zb (zn r) λf r=>zb (Jt (zh9 T b) r) λl r=>zm (λq=>.call false f l q) (zsh T r)
 |12=>zm .nilc (zX T b r)
 |13=>zb (zX T b r) λx r=>zm (.ext x) (zn r)
 |14=>zm (.un .not) (zX T b r)
 |15=>zm (λi=>Kh (.mv (.tm 0)) x.o i) (zn r)
 |17=>zb (zn r) λt r=>zm (λi=>.alloc t (Kh [] T.zs i)) (zn r)
 |18=>zb (zn r) λt r=>zb (GU T r) λu r=>zm (.boxD t u) (zX T b r)
 |19=>zb (zn r) λi r=>zm (.build (Kh [] T.zs i)) (Jt (λr=>zb (zn r) λa r=>zb (zn r) λc r=>zm (λx=>(a,c,x)) (zX T b r)) r)
 |20=>zb (zn r) λo r=>zb (zn r) λt r=>zb (GU T r) λu r=>zb (zn r) λl r=>zm (λp=>.bslice (c_ o 1) t u l p) (Jt (zX T b) r)
 |21=>zb (zn r) λt r=>zb (GU T r) λu r=>zb (zn r) λs r=>zb (zX T b r) λx r=>zm (.append t u s x) (zX T b r)
 |22=>zb (zn r) λm r=>zb (Jt zn r) λB r=>zb (zn r) λf r=>zb (Jt (zh9 T b) r) λl r=>zm (λq=>.callA (j_ 2 m) (c_ (m%2) 1) B f l q) (zsh T r)
 |23=>zb (zn r) λt r=>zb (GU T r) λu r=>zb (zn r) λs r=>zb (zX T b r) λx r=>zm (.mslice t u s x) (zX T b r)
 |24=>zb (zn r) λj r=>zb (GU T r) λt r=>zm (.fld j t) (zX T b r)
 |25=>zb (zn r) λt r=>zm (.box t) (zX T b r)
 |26=>zb (zn r) λm r=>zb (zX T b r) λx r=>zm (.eqB (c_ m 1) x) (zX T b r)
 |27=>zb (zX T b r) λx r=>zm (.idxS x) (zX T b r)
 |28=>zm (.len true) (zX T b r)
 |29=>zb (zn r) λm r=>zb (zn r) λt r=>zb (GU T r) λu r=>zb (zX T b r) λx r=>zm (.eqT (c_ m 1) t u x) (zX T b r)
 |30=>zb (zn r) λf r=>zb (Jt (zh9 T b) r) λl r=>zm (λq=>.call true f l q) (zsh T r)
 |31=>zb (zX T b r) λx r=>zb (zox T b r) λl r=>zm (.slcS x l) (zox T b r)
 |_=>zb (zn r) λm r=>zb (GU T r) λt r=>zb (zX T b r) λx r=>zb (zox T b r) λl r=>zb (zox T b r) λh r=>zm (.slc (c_ m 1) t x l h) (zox T b r)
def zop(x:Zx)(b:Nat)(o:Nat)(r:Nat):TOp×Nat:=match o with
 |33=>zb (zn r) λs r=>zb (zn r) λo r=>zm (.atq s) (ziR T x b o r)
 |o=>ziR T x b o r
def zh8(n:Nat):Adj×Nat:=match zn n with
 |(o,r)=>match o with
  |0=>zm Adj.freeze (zn r)
  |1=>zb (zn r) λk r=>zb (zn r) λty r=>zm (.adopt k ty) (GU T r)
  |2=>zb (zn r) λi r=>zb (zn r) λj r=>zb (zn r) λty r=>zm (.adoptC i j ty) (GU T r)
  |3=>zb (Jt zn r) λa r=>zm (.sel a) (zas r)
  |4=>zm Adj.drop (Jt zn r)
  |5=>zb (zn r) λi r=>zb (zn r) λk r=>zb (zn r) λj r=>zm (.focus i k j) (GU T r)
  |6=>zm Adj.close (zn r)
  |7=>zb (zn r) λk r=>zb (zn r) λty r=>zb (zk T r) λkk r=>zm (.adoptT k ty kk) (GU T r)
  |_=>zb (zn r) λi r=>zb (zn r) λj r=>zb (zn r) λty r=>zb (zk T r) λkk r=>zm (.adoptCT i j ty kk) (GU T r)
def zR(x:Zx)(b:Nat):Nat->Nat->RC
 |0,_=>.nil
 |f+1,n=>match zn n with
  |(o,r)=>match o with
   |0=>.nil
   |4=>match zn r with
    |(c,r)=>match zn r with
     |(j,r)=>match GU T r with
      |(t,r)=>match zt b r with
       |(k,r)=>.op (some (zc7 b c)) (.fldA j t (.tm k)) (.op (some (zc7 b c+1)) (.load t (.tm (zc7 b c))) (zR x b f r))
   |11=>match zn r with
    |(m,r)=>match zt b r with
     |(t,r)=>match GU T r with
      |(ty,r)=>match zX T b r with
       |(u,r)=>match zX T b r with
        |(al,r)=>match zt b r with
         |(d,r)=>match zn r with
          |(len,r)=>.gb t (c_ m 1) (zR x b f r) ty u al d (zR x b f (M_ r (4*len)))
   |16=>match Jt (zh8 T) r with
    |(l,r)=>.adj l (zR x b f r)
   |o=>match zd b r with
    |(d,r)=>match zop T x b o r with
     |(op,r)=>.op d op (zR x b f r)
def zob(n:Nat):Ob×Nat:=match zn n with
 |(o,r)=>match o with
  |0=>(.gone,r)
  |1=>zb (zn r) λt r=>zm (.box t) (Jt (zV T 9) r)
  |2=>zb (zn r) λt r=>zm (λu=>.vec t u []) (GU T r)
  |3=>zb (zn r) λt r=>zb (zk T r) λk r=>zm (λu=>.tree t k u [] none) (GU T r)
  |4=>zb (zn r) λt r=>zb (zk T r) λk r=>zb (GU T r) λu r=>zb (zn r) λj r=>zm (λs=>.tree t k u [] (some (0,j,.sl s))) (zn r)
  |5=>zb (zn r) λk r=>zb (zn r) λty r=>zb (GU T r) λa r=>zm (λc=>.map k ty a c []) (GU T r)
  |_=>(.free,r)
def ziS(n:Nat):Slot×Nat:=match zn n with
 |(o,r)=>match o with
  |0=>zb (zn r) λk r=>zm (.tm k) (GU T r)
  |1=>zb (zn r) λk r=>zb (zn r) λj r=>zm (.cell k j) (GU T r)
  |2=>zb (zn r) λk r=>zb (zn r) λj r=>zm (.vec k j) (GU T r)
  |3=>zb (zn r) λk r=>zb (zn r) λj r=>zb (zn r) λty r=>zb (GU T r) λa r=>zm (.map k j ty a) (GU T r)
  |4=>zb (zn r) λk r=>zb (zn r) λj r=>zb (zk T r) λty r=>zm (.tree k j ty) (GU T r)
  |_=>zb (zn r) λk r=>zb (zn r) λj r=>zb (zk T r) λty r=>zb (GU T r) λu r=>zb (zn r) λi r=>zm (.treeH k j ty u i) (zn r)
def zSh(n:Nat):Sh×Nat:=
 zb (zas n) λks r=>zb (Jt (λr=>zb (zn r) λk r=>zm (λv=>(k,v)) (zV T 9 r)) r) λfr r=>zb (Jt (zob T) r) λhp r=>zm (λsl=>⟨ks,⟨fr,hp⟩,sl⟩) (Jt (ziS T) r)
def zxs(n:Nat):List (Nat×Sh)×Nat:=Jt (λr=>zb (zn r) λk r=>zm (λv=>(k,v)) (zSh T r)) n
def zPO(x:Zx)(b n:Nat):PO×Nat:=
 zb (zn n) λj r=>zb (zn r) λc r=>zb (Jt zn r) λus r=>zb (zd b r) λd r=>zb (zd b r) λg r=>zb (zn r) λo r=>zm (λop=>match g with|none=>zi0 j (c_ (c%2) 1) us d op|some t=>ziZ j (c_ (c%2) 1) us t (j_ 2 c) d op) (zop T x b o r)
def zC(x:Zx):Nat->Nat->TC
 |0,_=>.skip
 |f+1,n=>match zn n with
  |(o,r)=>match o with
   |0=>.skip
   |1=>match zn r with
    |(b,r)=>.region (zR T x b 400 r)
   |2=>match zn r with
    |(len,r)=>.seq (zC x f r) (zC x f (M_ r (4*len)))
   |3=>match zX T 0 r with
    |(c,r)=>match zn r with
     |(len,r)=>.cond c (zC x f r) (zC x f (M_ r (4*len)))
   |4=>match zn r with
    |(i,r)=>.block i (zC x f r)
   |5=>match zSh T r with
    |(sh,r)=>match zxs T r with
     |(xs,r)=>.loop sh xs (zC x f r)
   |6=>match zn r with
    |(i,_)=>.exit i
   |7=>.ret
   |8=>match zn r with
    |(k,r)=>match Jt (Jt zn) r with
     |(af,r)=>match zn r with
      |(b,r)=>.draw k (zR T x b 400 r) af
   |9=>match Jt (zh8 T) r with
    |(l,r)=>.adj l (zC x f r)
   |10=>match Jt (zh8 T) r with
    |(l,r)=>.after (zC x f r) l
   |11=>match zxs T r with
    |(xs,r)=>.cut xs (zC x f r)
   |12=>match zn r with
    |(k,r)=>match Jt (Jt zn) r with
     |(af,r)=>match zn r with
      |(b,r)=>match Jt (zPO T x b) r with
       |(pre,r)=>.draw2 k pre (zR T x b 400 r) af
   |13=>match zn r with
    |(b,r)=>match Jt (zPO T x b) r with
     |(pre,_)=>.regL pre
   |_=>match zn r with
    |(i,_)=>Kh .skip x.c i
end
noncomputable def Wc(l:List (Nat×V))(t:Nat):Option V:=List.rec (motive:=λ_=>Option V) none (λx _ a=>y_ (motive:=λ_=>Option V) a (some x.2) (c_ t x.1)) l
theorem zQ(t:Nat):∀l:List (Nat×V),Wc l t=lk l t
 |[]=>rfl
 |(k,a)::l=>by show(y_ (motive:=λ_=>Option V) (Wc l t) (some a) (c_ t k))=bif c_ t k then some a else lk l t;rw[zQ t l];cases c_ t k<;>rfl
noncomputable def S.getQ(s:S)(x:X):Option V:=X.casesOn (motive:=λ_=>Option V) x (λk=>Wc s.fr k) (λt x=>some (.d t x)) (λt=>some (.nil t)) (λvs=>some (.agg vs)) (λn=>some (.fnD n [])) (λv=>some (.raw v))
theorem nr(s:S)(x:X):s.getQ x=s.get x:=by cases x<;>first|exact zQ _ _|rfl
def vM(m k:Nat):Bool:=c_ (Q_ (M_ m k) 1) 1
theorem rR(m k:Nat):vM m k=m.testBit k:=by show c_ ((m>>>k)&&&1) 1=((1&&&(m>>>k)) != 0);rw[ac_,ac_ 1,ac_,Nat.one_and_eq_mod_two];rcases Nat.mod_two_eq_zero_or_one (m>>>k)with h|h<;>rw[h]<;>rfl
theorem BP(a b:List Nat)(k:Nat):r8 (a++b) k=(r8 a k||r8 b k):=by simp[r8]
theorem xy(a b k:Nat):vM (J_ a b) k=(vM a k||vM b k):=by rw[rR,rR,rR];exact Nat.testBit_or a b k
theorem KE(d k:Nat):vM (2^d) k=r8 [d] k:=by
 rw[rR,Nat.testBit_two_pow];show decide (d=k)=(c_ k d||false);rw[Bool.or_false];by_cases h:d=k;·subst h;simp
 ·rw[decide_eq_false h];cases a:c_ k d;·rfl
  ·exact absurd (a_ a).symm h
theorem p7(k:Nat):vM 0 k=r8 [] k:=by rw[rR];simp[r8]
def zhm:Option Nat->Nat
 |some d=>2^d
 |none=>0
theorem za1(d:Option Nat)(k:Nat):vM (zhm d) k=r8 (match d with|some d=>[d]|none=>[]) k:=by cases d with|none=>exact p7 k|some d=>exact KE d k
def RC.msk:RC->Nat
 | .nil=>0
 | .op d _ rest=>J_ (zhm d) rest.msk
 | .adj _ rest=>rest.msk
 | .gb _ _ blk _ _ _ dst rest=>J_ blk.msk (J_ (2^dst) rest.msk)
theorem RC.msk_eq(k:Nat):∀r:RC,vM r.msk k=r8 r.asg k
 | .nil=>p7 k
 | .op d o rest=>by simp only[RC.msk,RC.asg,xy,BP,za1,RC.msk_eq k rest]<;>rfl
 | .adj l rest=>by simp only[RC.msk,RC.asg,RC.msk_eq k rest]
 | .gb a b blk c d e dst rest=>by simp only[RC.msk,RC.asg,xy,BP,RC.msk_eq k rest,RC.msk_eq k blk,KE];rw[show dst::rest.asg=[dst]++rest.asg from rfl,BP]
def zeG:List PO->Nat
 |[]=>0
 |p::l=>J_ (zhm p.d) (zeG l)
theorem TH(k:Nat):∀l:List PO,vM (zeG l) k=r8 (l.flatMap λp=>match p.d with|some d=>[d]|none=>[]) k
 |[]=>p7 k
 |p::l=>by simp only[zeG,aa_,xy,BP,za1,TH k l]<;>rfl
def TC.msk:TC->Nat
 | .region ops=>ops.msk
 | .draw _ ops _=>ops.msk
 | .draw2 _ pre tl _=>J_ (zeG pre) tl.msk
 | .regL pre=>zeG pre
 | .seq a b=>J_ a.msk b.msk
 | .cond _ a b=>J_ a.msk b.msk
 | .block _ a=>a.msk
 | .loop _ _ a=>a.msk
 | .adj _ a=>a.msk
 | .after a _=>a.msk
 | .cut _ a=>a.msk
 |_=>0
theorem TC.msk_eq(k:Nat):∀c:TC,vM c.msk k=r8 c.asg k
 | .region ops=>RC.msk_eq k ops
 | .draw _ ops _=>RC.msk_eq k ops
 | .regL pre=>TH k pre
 | .draw2 _ pre tl _=>by simp only[TC.msk,TC.asg,xy,BP,RC.msk_eq k tl,TH k pre]<;>rfl
 | .seq a b=>by simp only[TC.msk,TC.asg,xy,BP,TC.msk_eq k a,TC.msk_eq k b]
 | .cond _ a b=>by simp only[TC.msk,TC.asg,xy,BP,TC.msk_eq k a,TC.msk_eq k b]
 | .block _ a=>TC.msk_eq k a
 | .loop _ _ a=>TC.msk_eq k a
 | .adj _ a=>TC.msk_eq k a
 | .after a _=>TC.msk_eq k a
 | .cut _ a=>TC.msk_eq k a
 | .skip=>p7 k
 | .exit _=>p7 k
 | .ret=>p7 k
noncomputable def zgp(m:Nat)(fr:List (Nat×V))(k:Nat):Bool:=vM m k||(match Wc fr k with
 |some v=> !v.isD
 |none=>false)
def tmQ(m:Nat->Bool):Slot->Bool
 | .tm k _=>m k
 |_=>true
noncomputable def okQ(sh:Sh)(m:Nat)(s:S):Bool:=sh.keep.all (λk=> !vM m k)&&sh.sl.all (tmQ (zgp m s.fr))&&sh.sk.fr.all (λx=>zgp m s.fr x.1)
theorem zbn{m:Nat}{A:List Nat}(h:∀k,vM m k=r8 A k)(fr:List (Nat×V))(k:Nat):zgp m fr k=wa A fr k:=by unfold zgp wa;rw[h,zQ];all_goals rfl
theorem zey{m:Nat}{A:List Nat}(h:∀k,vM m k=r8 A k)(sh:Sh)(s:S):okQ sh m s=sh.okAt A s:=by
 unfold okQ Sh.okAt;congr 1
 ·congr 1;·grind
  ·congr 1;funext x;cases x<;>first|exact zbn h _ _|rfl
 ·congr 1;funext x;exact zbn h _ _
noncomputable def frM(fr:List (Nat×V)):Nat:=List.rec (motive:=λ_=>Nat) 0 (λx _ a=>J_ (2^x.1) a) fr
theorem Y4(k:Nat):∀fr:List (Nat×V),vM (frM fr) k=(lk fr k).isSome
 |[]=>p7 k
 |(j,v)::l=>by show vM (J_ (2^j) (frM l)) k=(bif c_ k j then some v else lk l k).isSome;rw[xy,Y4 k l,KE];show((c_ k j||false)||_)=_;grind
theorem zeq(r:RC)(fr:List (Nat×V)):c_ (Q_ r.msk (frM fr)) 0=r.asg.all (λk=>(lk fr k).isNone):=by
 cases b:r.asg.all (λk=>(lk fr k).isNone)
 ·cases d:c_ (Q_ r.msk (frM fr)) 0;·rfl
  ·have d:=a_ d;rw[List.all_eq_false]at b;obtain⟨k,h,hn⟩:=b;have a:(Q_ r.msk (frM fr)).testBit k=(r.msk.testBit k&&(frM fr).testBit k):=am_ _ _ _;rw[d,<-rR r.msk,<-rR (frM fr),RC.msk_eq,Y4,ah_]at a;have e:r8 r.asg k=true:=G_.2 ⟨k,h,aw_ k⟩;rw[e]at a;simp at a;grind
 ·have:Q_ r.msk (frM fr)=0:=by
   refine Nat.eq_of_testBit_eq λk=>?_;have a:(Q_ r.msk (frM fr)).testBit k=(r.msk.testBit k&&(frM fr).testBit k):=am_ _ _ _;rw[a,<-rR r.msk,<-rR (frM fr),RC.msk_eq,Y4,ah_];cases f:r8 r.asg k;·rfl
   ·obtain⟨j,g,c⟩:=G_.1 f;have c:=a_ c;subst c;have:=m_.1 b k g;rw[O_.1 this];rfl
  rw[this];rfl
noncomputable def Y3(fr l:List (Nat×V)):Bool:=List.rec (motive:=λ_=>Bool) true (λx _ a=>t_ (motive:=λ_=>Bool) false (λw=>y_ (motive:=λ_=>Bool) false a (V.same x.2 w)) (Wc fr x.1)) l
theorem Ry(fr:List (Nat×V)):∀l,Y3 fr l=NI fr l
 |[]=>rfl
 |(k,v)::l=>by
  show t_ (motive:=λ_=>Bool) false (λw=>y_ (motive:=λ_=>Bool) false (Y3 fr l) (V.same v w)) (Wc fr k)=((match lk fr k with|some w=>V.same v w|none=>false)&&NI fr l)
  rw[zQ,Ry fr l];cases lk fr k with|none=>rfl|some w=>show y_ (motive:=λ_=>Bool) false _ (V.same v w)=(V.same v w&&_);cases V.same v w<;>rfl
noncomputable def zfd(s:S)(x:Slot):Option x.ty.den:=Slot.casesOn (motive:=λx=>Option x.ty.den) x (λk t=>t_ (motive:=λ_=>Option t.den) none (λv=>d6 t v) (Wc s.fr k)) (λa b c=>kI s (.cell a b c)) (λa b c=>kI s (.vec a b c)) (λa b c d e=>kI s (.map a b c d e)) (λa b c d=>kI s (.tree a b c d)) (λa b c d e f=>kI s (.treeH a b c d e f))
theorem zfe(s:S)(x:Slot):zfd s x=kI s x:=by
 cases x<;>try rfl
 rename_i k t;show t_ (motive:=λ_=>Option t.den) none (λv=>d6 t v) (Wc s.fr k)=match lk s.fr k with|some v=>d6 t v|none=>none
 rw[zQ];cases lk s.fr k<;>rfl
noncomputable def Z5(s:S)(sl:List Slot):Option (HL sl):=List.rec (motive:=λsl=>Option (HL sl)) (some ()) (λx l a=>t_ (motive:=λ_=>Option (HL (x::l))) none (λc=>t_ (motive:=λ_=>Option (HL (x::l))) none (λr=>some (c,r)) a) (zfd s x)) sl
theorem RY(s:S):∀sl,Z5 s sl=N6 s sl
 |[]=>rfl
 |x::l=>by
  show t_ (motive:=λ_=>Option (HL (x::l))) none (λc=>t_ (motive:=λ_=>Option (HL (x::l))) none (λr=>some (c,r)) (Z5 s l)) (zfd s x)=match kI s x with
   |some c=>match N6 s l with
    |some r=>some (c,r)
    |none=>none
   |none=>none
  rw[zfe,RY s l];cases kI s x with|none=>rfl|some c=>cases N6 s l<;>rfl
noncomputable def zdy(fr:List (Nat×V))(ks:List Nat):Bool:=List.rec (motive:=λ_=>Bool) true (λk _ a=>t_ (motive:=λ_=>Bool) false (λv=>y_ (motive:=λ_=>Bool) false a v.isD) (Wc fr k)) ks
theorem U3(fr:List (Nat×V)):∀ks,zdy fr ks=ks.all (zd6 fr)
 |[]=>rfl
 |k::l=>by
  show t_ (motive:=λ_=>Bool) false (λv=>y_ (motive:=λ_=>Bool) false (zdy fr l) v.isD) (Wc fr k)=((match lk fr k with|some v=>v.isD|none=>false)&&l.all (zd6 fr))
  rw[zQ,U3 fr l];cases lk fr k with|none=>rfl|some v=>show y_ (motive:=λ_=>Bool) false _ v.isD=(v.isD&&_);cases v.isD<;>rfl
noncomputable def RZ(sh:Sh)(s:S):Option (HL sh.sl):=y_ (motive:=λ_=>Option (HL sh.sl)) none (Z5 s sh.sl) (Y3 s.fr sh.sk.fr&&Ki sh.sk.hp s.hp&&zdy s.fr sh.keep)
theorem N7(sh:Sh)(s:S):RZ sh s=pack sh s:=by unfold RZ pack S.fits;rw[Ry,U3,RY];cases NI s.fr sh.sk.fr&&Ki sh.sk.hp s.hp&&sh.keep.all (zd6 s.fr)<;>rfl
noncomputable def V8(fr:List (Nat×V))(ks:List Nat):List (Nat×V):=List.rec (motive:=λ_=>List (Nat×V)) [] (λk _ a=>t_ (motive:=λ_=>List (Nat×V)) a (λv=>y_ (motive:=λ_=>List (Nat×V)) a ((k,v)::a) v.isD) (Wc fr k)) ks
theorem V9(fr:List (Nat×V)):∀ks,V8 fr ks=fg fr ks
 |[]=>rfl
 |k::l=>by
  show t_ (motive:=λ_=>List (Nat×V)) (V8 fr l) (λv=>y_ (motive:=λ_=>List (Nat×V)) (V8 fr l) ((k,v)::V8 fr l) v.isD) (Wc fr k)=match lk fr k with
   |some v=>bif v.isD then(k,v)::fg fr l else fg fr l
   |none=>fg fr l
  rw[zQ,V9 fr l];cases lk fr k with|none=>rfl|some v=>show y_ (motive:=λ_=>List (Nat×V)) _ _ v.isD=bif v.isD then _ else _;cases v.isD<;>rfl
noncomputable def Sh.baseQ(sh:Sh)(s:S):S:=⟨V8 s.fr sh.keep++sh.sk.fr,sh.sk.hp⟩
theorem M4(sh:Sh)(s:S):sh.baseQ s=sh.base s:=by unfold Sh.baseQ Sh.base;rw[V9]
noncomputable def NL:(xs:List (Nat×Sh))->Nat->S->Option (XT xs)
 |[],_,_=>none
 |[(k,sh)],key,s=>bif c_ k key then RZ sh s else none
 |(k,sh)::a::l,key,s=>bif c_ k key then(match RZ sh s with|some c=>some (.inl c)|none=>none)else(match NL (a::l) key s with|some c=>some (.inr c)|none=>none)
theorem Tn(key:Nat)(s:S):∀xs,NL xs key s=inj xs key s
 |[]=>rfl
 |[(k,sh)]=>by simp only[NL,inj,N7]
 |(k,sh)::a::l=>by simp only[NL,inj,N7,Tn key s (a::l)]<;>rfl
noncomputable def qh{R:Type}(s:S)(κ:Nat->S->Option R):(xs:List (Nat×Sh))->XT xs->Option R
 |[],_=>none
 |[(k,sh)],c=>κ k (unpack sh.sl c (sh.baseQ s))
 |(k,sh)::a::l,c=>az_ (λc=>κ k (unpack sh.sl c (sh.baseQ s))) (λc=>qh s κ (a::l) c) c
theorem Bd{R:Type}(s:S)(κ:Nat->S->Option R):∀xs c,qh s κ xs c=oP s κ xs c
 |[],_=>rfl
 |[(k,sh)],c=>by simp only[qh,oP,M4]
 |(k,sh)::a::l,c=>by simp only[qh,oP,M4,Bd s κ (a::l)]
abbrev MQ(R:Type):Type:=ak->Option Nat->S->(S->Option R)->(S->Option R)->Option R
section
variable {R:Type}
noncomputable def ziD(x:X):MQ R:=λO d s κ kp=>match s.getQ x with
 |some v=>κ (s.putO d v)
 |none=>none
def zhU(c:X)(a:X)(b:X):MQ R:=λO d s κ kp=>evOp O d (.pick c a b) s κ kp
noncomputable def zgZ(op:BinOp)(x:X)(y:X):MQ R:=λO d s κ kp=>match s.getQ x,s.getQ y with
 |some (.d (.int k) a),some (.d (.int c) b)=>zfT op k c a b λv=>κ (s.putO d v)
 |some (.d .str a),some (.d .str b)=>zfU op a b λv=>κ (s.putO d v)
 |_,_=>none
noncomputable def zg0(neg:Bool)(x:X)(y:X):MQ R:=λO d s κ kp=>match s.getQ x,s.getQ y with
 |some (.d .bool a),some (.d .bool b)=>κ (s.putO d (.d .bool (neg ^^ (a==b))))
 |_,_=>none
def ziB(neg:Bool)(tid:TypeId)(t:Ty)(x:X)(y:X):MQ R:=λO d s κ kp=>evOp O d (.eqT neg tid t x y) s κ kp
noncomputable def ziF(op:UnOp)(x:X):MQ R:=λO d s κ kp=>match op,s.getQ x with
 | .not,some (.d .bool a)=>κ (s.putO d (.d .bool (!a)))
 | .neg,some (.d (.int k) a)=>κ (s.putO d (.d (.int k) (k.wrap (0 - a))))
 |_,_=>none
noncomputable def q_len(str:Bool)(x:X):MQ R:=λO d s κ kp=>match str,s.getQ x with
 |true,some (.d .str a)=>κ (s.putO d (.d (.int .i64) a.length))
 |false,some (.d (.list _) a)=>κ (s.putO d (.d (.int .i64) a.length))
 |false,some (.nil _)=>κ (s.putO d (.d (.int .i64) 0))
 |false,some (.sl id)=>match s.hp[id]? with
  |some (.vec _ _ xs)=>κ (s.putO d (.d (.int .i64) xs.length))
  |some (.tree _ _ _ xs _)=>κ (s.putO d (.d (.int .i64) xs.length))
  |_=>none
 |_,_=>none
def zhR(k:TypeId)(e:TypeId)(x:X):MQ R:=λO d s κ kp=>evOp O d (.lenM k e x) s κ kp
def zhP(x:X)(i:X):MQ R:=λO d s κ kp=>evOp O d (.idxS x i) s κ kp
def zhQ(n:Nat)(t:Ty)(x:X)(i:X):MQ R:=λO d s κ kp=>evOp O d (.idxV n t x i) s κ kp
noncomputable def zeS(t:Ty)(x:X)(i:X):MQ R:=λO d s κ kp=>match s.getQ x with
 |some (.sl id)=>match s.hp[id]? with
  |some (.vec _ u xs)=>bif decide (u=t)then intOf (s.getQ i) λn=>d_ (aR xs n) λ_=>κ (s.putO d (.elt id n.toNat 0))else none
  |some (.tree _ _ u xs _)=>bif decide (u=t)then intOf (s.getQ i) λn=>d_ (aR xs n) λ_=>κ (s.putO d (.elt id n.toNat 0))else none
  |_=>none
 |some (.d (.list u) xs)=>match cg (.list u) (.list t) xs with
  |some xs=>intOf (s.getQ i) λn=>d_ (aR xs n) λx=>κ (s.putO d (.dp t x))
  |none=>none
 |_=>none
def zhO(n:Nat)(t:Ty)(x:X)(i:X):MQ R:=λO d s κ kp=>evOp O d (.idxP n t x i) s κ kp
noncomputable def zeR(off:Nat)(t:Ty)(x:X):MQ R:=λO d s κ kp=>match s.getQ x with
 |some (.dp u y)=>match AI u off t y with
  |some z=>κ (s.putO d (.dp t z))
  |none=>none
 |some (.ptr id o)=>κ (s.putO d (.ptr id (o+off)))
 |some (.elt id i o)=>κ (s.putO d (.elt id i (o+off)))
 |_=>none
def ziC(off:Nat)(t:Ty)(x:X):MQ R:=λO d s κ kp=>evOp O d (.fld off t x) s κ kp
noncomputable def zeT(t:Ty)(x:X):MQ R:=λO d s κ kp=>loadT s.hp t (s.getQ x) λv=>κ (s.putO d v)
noncomputable def zbN(t:Ty)(x:X)(v:X):MQ R:=λO d s κ kp=>match d with
 |none=>storeT s t (s.getQ x) (s.getQ v) κ
 |some _=>none
def zgu(tid:TypeId)(zero:List V):MQ R:=λO d s κ kp=>evOp O d (.alloc tid zero) s κ kp
def ziA(tid:TypeId)(x:X):MQ R:=λO d s κ kp=>evOp O d (.box tid x) s κ kp
def zhK(tid:TypeId)(t:Ty)(x:X):MQ R:=λO d s κ kp=>evOp O d (.boxD tid t x) s κ kp
def zgv(zero:List V)(parts:List (Nat×Nat×X)):MQ R:=λO d s κ kp=>evOp O d (.build zero parts) s κ kp
def zeQ(own:Bool)(tid:TypeId)(t:Ty)(len:Nat)(parts:List X):MQ R:=λO d s κ kp=>evOp O d (.bslice own tid t len parts) s κ kp
def zeW(tid:TypeId)(t:Ty)(bytes:Nat)(l:X)(c:X):MQ R:=λO d s κ kp=>evOp O d (.mslice tid t bytes l c) s κ kp
def zeP(tid:TypeId)(t:Ty)(bytes:Nat)(x:X)(y:X):MQ R:=λO d s κ kp=>evOp O d (.append tid t bytes x y) s κ kp
def zhN(k:IntKind)(x:X):MQ R:=λO d s κ kp=>evOp O d (.cvtI k x) s κ kp
def ziE(full:Bool)(t:Ty)(x:X)(lo:Option X)(a:Option X)(mx:Option X):MQ R:=λO d s κ kp=>evOp O d (.slc full t x lo a mx) s κ kp
def zhV(x:X)(lo:Option X)(a:Option X):MQ R:=λO d s κ kp=>evOp O d (.slcS x lo a) s κ kp
noncomputable def zg1(x:X)(i:Nat):MQ R:=λO d s κ kp=>match s.getQ x with
 |some (.tup vs)=>match vs[i]? with
  |some v=>bif (match v with| .agg _=>false| .tup _=>false|_=>true)then κ (s.putO d v)else none
  |none=>none
 |_=>none
noncomputable def zeX(x:X):MQ R:=λO d s κ kp=>match s.getQ x with
 |some v=>(match v with
  | .dp _ _=>κ (s.putO d v)
  | .ptr _ _=>κ (s.putO d v)
  | .pel _ _ _ _ _=>κ (s.putO d v)
  | .elt _ _ _=>κ (s.putO d v)
  | .clo _ _=>κ (s.putO d v)
  | .fnD _ _=>κ (s.putO d v)
  |_=>none)
 |none=>none
noncomputable def zhL(bor:Bool)(f:FuncId)(args:List (Arg×X))(sh:Sh):MQ R:=λO d s κ kp=>match Ve s bor args with
 |some ars=>bif ars.all V.isD&&sh.sk.fr.isEmpty&&(!bor||sh.sl.all Slot.flat)then
  d_ (au O f ars [] sh) λc=>κ (s.putO d (res sh.n (unpack sh.sl c (sh.base ⟨[],[]⟩)).fr))else none
 |none=>none
noncomputable def zgw(pan:Bool)(bor:Bool)(B:List Nat)(f:FuncId)(args:List (Arg×X))(sh:Sh):MQ R:=λO d s κ kp=>match yI s bor B args with
 |some ars=>G3 pan O s d bor B f ars sh κ kp
 |none=>none
def zgy(pan:Bool)(bor:Bool)(B:List Nat)(num:Nat)(x:X)(args:List (Arg×X))(sh:Sh):MQ R:=λO d s κ kp=>evOp O d (.callv pan bor B num x args sh) s κ kp
def ziz(x:X):MQ R:=λO d s κ kp=>evOp O d (.b2s x) s κ kp
def zhS(f:FuncId)(caps:List X):MQ R:=λO d s κ kp=>evOp O d (.mkfn f caps) s κ kp
def zgA(k:TypeId)(e:TypeId)(a:Ty)(b:Ty):MQ R:=λO d s κ kp=>evOp O d (.mkmap k e a b) s κ kp
def zeU(k:TypeId)(e:TypeId)(ok:Bool)(a:Ty)(b:Ty)(m:X)(x:X):MQ R:=λO d s κ kp=>evOp O d (.lookup k e ok a b m x) s κ kp
def zeV(k:TypeId)(e:TypeId)(a:Ty)(b:Ty)(m:X)(x:X)(v:X):MQ R:=λO d s κ kp=>evOp O d (.mapset k e a b m x v) s κ kp
def zhM(tid:TypeId)(t:Ty)(x:X)(y:X):MQ R:=λO d s κ kp=>evOp O d (.copy tid t x y) s κ kp
def zhT(mx:Bool)(k:IntKind)(x:X)(ys:List X):MQ R:=λO d s κ kp=>evOp O d (.mnmx mx k x ys) s κ kp
def zgB(x:X):MQ R:=λO d s κ kp=>evOp O d (.panic x) s κ kp
def zgz(tid:TypeId)(x:X):MQ R:=λO d s κ kp=>evOp O d (.iface tid x) s κ kp
def zcL(tid:TypeId)(t:Ty)(len:Nat)(parts:List X):MQ R:=λO d s κ kp=>evOp O d (.bsliceF tid t len parts) s κ kp
def zhI(tid:TypeId)(t:Ty)(bytes:Nat)(x:X)(y:X):MQ R:=λO d s κ kp=>evOp O d (.appD tid t bytes x y) s κ kp
def zcM(tid:TypeId)(k:K)(t:Ty)(len:Nat)(parts:List X):MQ R:=λO d s κ kp=>evOp O d (.bsliceN tid k t len parts) s κ kp
def zcN(tid:TypeId)(k:K)(u:Ty)(bytes:Nat)(l:X)(c:X):MQ R:=λO d s κ kp=>evOp O d (.msliceT tid k u bytes l c) s κ kp
def zhJ(tid:TypeId)(k:K)(t:Ty)(bytes:Nat)(x:X)(y:X):MQ R:=λO d s κ kp=>evOp O d (.appT tid k t bytes x y) s κ kp
def zgx(bor:Bool)(num:Nat)(x:X)(args:List (Arg×X))(sh:Sh):MQ R:=λO d s κ kp=>evOp O d (.callp bor num x args sh) s κ kp
def zi5(k:Nat)(op:TOp):MQ R:=λO d s κ kp=>evOp O d (.atq k op) s κ kp
noncomputable def mb(op:TOp):MQ R:=TOp.casesOn (motive:=λ_=>MQ R) op ziD zhU zgZ zg0 ziB ziF q_len zhR zhP zhQ zeS zhO zeR ziC zeT zbN zgu ziA zhK zgv zeQ zeW zeP zhN ziE zhV zg1 zeX zhL zgw zgy ziz zhS zgA zeU zeV zhM zhT zgB zgz zcL zhI zcM zcN zhJ zgx zi5
theorem ND(op:TOp)(O:ak)(d:Option Nat)(s:S)(κ kp:S->Option R):mb op O d s κ kp=evOp O d op s κ kp:=by
 cases op;case mv=>simp only[mb,ziD,evOp,nr]<;>rfl
 case bin=>simp only[mb,zgZ,evOp,nr]<;>rfl
 case eqB=>simp only[mb,zg0,evOp,nr]<;>rfl
 case un=>simp only[mb,ziF,evOp,nr]<;>rfl
 case len=>simp only[mb,q_len,evOp,nr]<;>rfl
 case idxA=>simp only[mb,zeS,evOp,nr]<;>rfl
 case fldA=>simp only[mb,zeR,evOp,nr]<;>rfl
 case load=>simp only[mb,zeT,evOp,nr]<;>rfl
 case store=>simp only[mb,zbN,evOp,nr]<;>rfl
 case ext=>simp only[mb,zg1,evOp,nr]<;>rfl
 case nilc=>simp only[mb,zeX,evOp,nr]<;>rfl
 case call=>rfl
 case callA=>rfl
 all_goals rfl
abbrev RQ:Type 1:=(R:Type)->S->(S->Option R)->(S->Option R)->Option R
def ziH:RQ:=λ_ s κ _=>κ s
noncomputable def zi6(O:ak)(d:Option Nat)(o:TOp)(_:RC)(a:RQ):RQ:=λR s κ kp=>mb o O d s (λs'=>a R s' κ kp) kp
def ziG(l:List Adj)(_:RC)(a:RQ):RQ:=λR s κ kp=>GM l s λs=>a R s κ kp
noncomputable def zhW(t:Nat)(want:Bool)(blk:RC)(ty:Ty)(r alt:X)(dst:Nat)(_:RC)(a d:RQ):RQ:=λR s κ kp=>match Wc s.fr t,s.getQ alt with
 |some (.d .bool b),some e=>match(bif c_ (Q_ blk.msk (frM s.fr)) 0 then d6 ty e else none)with
  |some alt=>d_ (match want with
   |true=>bif b then a ty.den s (λs'=>match s'.getQ r with|some v=>d6 ty v|none=>none) (λ_=>none)else some alt
   |false=>bif b then some alt else a ty.den s (λs'=>match s'.getQ r with|some v=>d6 ty v|none=>none) (λ_=>none))
   λc=>d R (s.put dst (.d ty c)) κ kp
  |none=>none
 |_,_=>none
noncomputable def NF(O:ak)(r:RC):RQ:=RC.rec (motive:=λ_=>RQ) ziH (zi6 O) ziG zhW r
theorem Tf(O:ak)(r:RC):∀(R:Type) (s:S) (κ kp:S->Option R),NF O r R s κ kp=Mt O R r s κ kp:=by
 induction r with
 |nil=>intro R s κ kp;rfl|op d o rest a=>intro R s κ kp;show mb o O d s (λs'=>NF O rest R s' κ kp) kp=evOp O d o s (λs'=>Mt O R rest s' κ kp) kp;rw[ND];grind|adj l rest a=>intro R s κ kp;show GM l s (λs=>NF O rest R s κ kp)=GM l s λs=>Mt O R rest s κ kp;grind|gb t want blk ty r alt dst rest e a=>
  intro R s κ kp;have b:NF O blk=λR s κ kp=>Mt O R blk s κ kp:=by grind
  have c:NF O rest=λR s κ kp=>Mt O R rest s κ kp:=by grind
  show zhW t want blk ty r alt dst rest (NF O blk) (NF O rest) R s κ kp=_;rw[b,c];simp only[zhW,Mt,nr,zQ,zeq]<;>rfl
noncomputable def zci{R:Type}(O:ak)(l:List PO):List RecV->S->(S->Option R)->(S->Option R)->Option R:=List.rec (motive:=λ_=>List RecV->S->(S->Option R)->(S->Option R)->Option R) (λ_ s κ _=>κ s) (λp _ a A s κ kp=>
 match p.g with
 |none=>bif JK A s p then mb p.o O p.d s (λs'=>reK A s s' p (a (Kl A s s' p) s' κ kp)) kp else none
 |some (t,want)=>match Wc s.fr t with
  |some (.d .bool b)=>bif want==b
   then(bif JK A (s.put t (.d .bool want)) p then mb p.o O p.d (s.put t (.d .bool want)) (λs'=>reK A (s.put t (.d .bool want)) s' p (a (Kl A (s.put t (.d .bool want)) s' p) s' κ kp)) kp else none)
   else(bif JK A (s.put t (.d .bool (!want))) p then reK A (s.put t (.d .bool (!want))) ((s.put t (.d .bool (!want))).putO p.d (.raw Go.undef)) p (a (Kl A (s.put t (.d .bool (!want))) ((s.put t (.d .bool (!want))).putO p.d (.raw Go.undef)) p) ((s.put t (.d .bool (!want))).putO p.d (.raw Go.undef)) κ kp)else none)
  |_=>none) l
theorem za7{R:Type}(O:ak):∀(l:List PO) (A:List RecV) (s:S) (κ kp:S->Option R),zci O l A s κ kp=Ef O A l s κ kp
 |[],_,_,_,_=>rfl
 |p::l,A,s,κ,kp=>by
  show(match p.g with
  |none=>bif JK A s p then mb p.o O p.d s (λs'=>reK A s s' p (zci O l (Kl A s s' p) s' κ kp)) kp else none|some (t,want)=>match Wc s.fr t with
   |some (.d .bool b)=>bif want==b then(bif JK A (s.put t (.d .bool want)) p then mb p.o O p.d (s.put t (.d .bool want)) (λs'=>reK A (s.put t (.d .bool want)) s' p (zci O l (Kl A (s.put t (.d .bool want)) s' p) s' κ kp)) kp else none) else(bif JK A (s.put t (.d .bool (!want))) p then reK A (s.put t (.d .bool (!want))) ((s.put t (.d .bool (!want))).putO p.d (.raw Go.undef)) p (zci O l (Kl A (s.put t (.d .bool (!want))) ((s.put t (.d .bool (!want))).putO p.d (.raw Go.undef)) p) ((s.put t (.d .bool (!want))).putO p.d (.raw Go.undef)) κ kp)else none)
   |_=>none)=_
  simp only[za7 O l,ND,Ef,zQ]<;>rfl
noncomputable def YZ{R:Type}(O:ak)(l:List PO):S->(S->Option R)->(S->Option R)->Option R:=List.rec (motive:=λ_=>S->(S->Option R)->(S->Option R)->Option R) (λs κ _=>κ s) (λp _ a s κ kp=>
 match p.g with
 |none=>mb p.o O p.d s (λs'=>a s' κ kp) kp
 |some (t,want)=>match Wc s.fr t with
  |some (.d .bool b)=>bif b
   then(match want with
    |true=>mb p.o O p.d (s.put t (.d .bool true)) (λs'=>a s' κ kp) kp
    |false=>a ((s.put t (.d .bool true)).putO p.d (.raw Go.undef)) κ kp)
   else(match want with
    |true=>a ((s.put t (.d .bool false)).putO p.d (.raw Go.undef)) κ kp
    |false=>mb p.o O p.d (s.put t (.d .bool false)) (λs'=>a s' κ kp) kp)
  |_=>none) l
theorem za6{R:Type}(O:ak):∀(l:List PO) (s:S) (κ kp:S->Option R),YZ O l s κ kp=evL O l s κ kp
 |[],_,_,_=>rfl
 |p::l,s,κ,kp=>by
  show(match p.g with
  |none=>mb p.o O p.d s (λs'=>YZ O l s' κ kp) kp|some (t,want)=>match Wc s.fr t with
   |some (.d .bool b)=>bif b
    then(match want with
     |true=>mb p.o O p.d (s.put t (.d .bool true)) (λs'=>YZ O l s' κ kp) kp
     |false=>YZ O l ((s.put t (.d .bool true)).putO p.d (.raw Go.undef)) κ kp)
    else(match want with
     |true=>YZ O l ((s.put t (.d .bool false)).putO p.d (.raw Go.undef)) κ kp
     |false=>mb p.o O p.d (s.put t (.d .bool false)) (λs'=>YZ O l s' κ kp) kp)
   |_=>none)=_
  simp only[za6 O l,ND,evL,zQ]<;>rfl
abbrev CQ:Type 1:=(R:Type)->S->(S->Option R)->(Nat->S->Option R)->(S->Option R)->(S->Option R)->Option R
def zhk:CQ:=λ_ s kn _ _ _=>kn s
noncomputable def zdI(O:ak)(ops:RC):CQ:=λR s kn _ _ kp=>NF O ops R s kn kp
noncomputable def zhh(O:ak)(_:Nat)(ops:RC)(_:List (List Nat)):CQ:=λR s kn _ _ kp=>NF O ops R s kn kp
noncomputable def zfW(O:ak)(r:Nat)(pre:List PO)(tl:RC)(_:List (List Nat)):CQ:=λR s kn _ _ kp=>zci O pre [] ⟨s.fr,s.hp++F_ r .free⟩ (λs=>NF O tl R s kn kp) kp
noncomputable def zhj(O:ak)(pre:List PO):CQ:=λ_ s kn _ _ kp=>YZ O pre s kn kp
def zgT(_ _:TC)(a b:CQ):CQ:=λR s kn kx kr kp=>a R s (λs=>b R s kn kx kr kp) kx kr kp
noncomputable def X3(x:X)(_ _:TC)(a b:CQ):CQ:=λR s kn kx kr kp=>match s.getQ x with
 |some (.d .bool t)=>bif t then a R s kn kx kr kp else b R s kn kx kr kp
 |_=>none
def zaW(id:Nat)(_:TC)(a:CQ):CQ:=λR s kn kx kr kp=>a R s kn (λi s=>bif c_ i id then kn s else kx i s) kr kp
def zhi(id:Nat):CQ:=λ_ s _ kx _ _=>kx id s
def zie:CQ:=λ_ s _ _ kr _=>kr s
def zgS(l:List Adj)(_:TC)(a:CQ):CQ:=λR s kn kx kr kp=>GM l s λs=>a R s kn kx kr kp
def zaV(_:TC)(l:List Adj)(a:CQ):CQ:=λR s kn kx kr kp=>a R s (λs=>GM l s kn) kx kr kp
noncomputable def zdH(xs:List (Nat×Sh))(a:TC)(b:CQ):CQ:=λR s kn kx kr kp=>bif xs.all (λx=>okQ x.2 a.msk s)then
 d_ (b (XT xs) s (λs=>NL xs 0 s) (λi s=>NL xs (i+3) s) (λs=>NL xs 1 s) (λs=>NL xs 2 s))
  (qh s (λkey s=>match key with|0=>kn s|1=>kr s|2=>kp s|i+3=>kx i s) xs)else none
noncomputable def X4(n:Nat)(sh:Sh)(xs:List (Nat×Sh))(a:TC)(b:CQ):CQ:=λR s kn kx kr kp=>match RZ sh s with
 |some c=>bif okQ sh a.msk s&&xs.all (λx=>okQ x.2 a.msk s)then d_ (aL n (λc=>b (HL sh.sl⊕XT xs) (unpack sh.sl c (sh.baseQ s)) (λs=>match RZ sh s with|some c=>some (.inl c)|none=>none)
  (λi s=>match NL xs (i+3) s with|some c=>some (.inr c)|none=>none) (λs=>match NL xs 1 s with|some c=>some (.inr c)|none=>none) (λs=>match NL xs 2 s with|some c=>some (.inr c)|none=>none)) c)
  (qh s (λkey s=>match key with|0=>kn s|1=>kr s|2=>kp s|i+3=>kx i s) xs)else none
 |none=>none
noncomputable def FJ(O:ak)(n:Nat)(c:TC):CQ:=TC.rec (motive:=λ_=>CQ) zhk (zdI O) (zhh O) (zfW O) (zhj O) zgT X3 zaW (X4 n) zhi zie zgS zaV zdH c
theorem za3(O:ak)(n:Nat)(c:TC):∀(R:Type) (s:S) (kn:S->Option R) (kx:Nat->S->Option R) (kr kp:S->Option R),FJ O n c R s kn kx kr kp=LZ O n R c s kn kx kr kp:=by
 have e:∀a:TC,(∀(R:Type) (s:S) (kn:S->Option R) (kx:Nat->S->Option R) (kr kp:S->Option R),FJ O n a R s kn kx kr kp=LZ O n R a s kn kx kr kp)->FJ O n a=λR s kn kx kr kp=>LZ O n R a s kn kx kr kp:=λa h=>by grind
 induction c with|skip=>intro R s kn kx kr kp;rfl|region ops=>intro R s kn kx kr kp;exact Tf O ops R s kn kp|draw k ops af=>intro R s kn kx kr kp;exact Tf O ops R s kn kp|draw2 r pre tl af=>intro R s kn kx kr kp;show zci O pre [] _ (λs=>NF O tl R s kn kp) kp=Ef O [] pre _ (λs=>Mt O R tl s kn kp) kp;rw[za7];congr 1;funext s';exact Tf O tl R s' kn kp|regL pre=>intro R s kn kx kr kp;exact za6 O pre s kn kp|seq a b d f=>intro R s kn kx kr kp;show zgT a b (FJ O n a) (FJ O n b) R s kn kx kr kp=_;rw[e a d,e b f];rfl|cond x a b d f=>intro R s kn kx kr kp;show X3 x a b (FJ O n a) (FJ O n b) R s kn kx kr kp=_;rw[e a d,e b f];simp only[X3,nr,LZ]<;>rfl|block id a d=>intro R s kn kx kr kp;show zaW id a (FJ O n a) R s kn kx kr kp=_;rw[e a d];rfl|loop sh xs a d=>intro R s kn kx kr kp;show X4 n sh xs a (FJ O n a) R s kn kx kr kp=_;rw[e a d];have hd:∀(κ:Nat->S->Option R),qh s κ xs=oP s κ xs:=λκ=>funext λc=>Bd s κ xs c;simp only[X4,LZ,zey λk=>TC.msk_eq k a,N7,M4,Tn,hd]<;>rfl|exit id=>intro R s kn kx kr kp;rfl|ret=>intro R s kn kx kr kp;rfl|adj l a d=>intro R s kn kx kr kp;show zgS l a (FJ O n a) R s kn kx kr kp=_;rw[e a d];rfl|after a l d=>intro R s kn kx kr kp;show zaV a l (FJ O n a) R s kn kx kr kp=_;rw[e a d];rfl|cut xs a d=>intro R s kn kx kr kp;show zdH xs a (FJ O n a) R s kn kx kr kp=_;rw[e a d];have hd:∀(κ:Nat->S->Option R),qh s κ xs=oP s κ xs:=λκ=>funext λc=>Bd s κ xs c;simp only[zdH,LZ,zey λk=>TC.msk_eq k a,Tn,hd]<;>rfl
end
noncomputable def zdX(O:ak)(n:Nat)(c:TF)(ars:List V)(os:List Ob):Option (Option S):=
 FJ O n c.code (Option S) ⟨fY 0 ars,os⟩ (NG c) (λ_ _=>none) (NG c) (λ_=>some none)
noncomputable def za4(O:ak)(n:Nat)(d:TD)(ars:List V):Option (Option S):=
 FJ O n d.a (Option S) ⟨fY 0 ars,[]⟩ (λs=>bif GP s d.ta 0&&GP s d.tb 1&&noT s d.t8&&c_ s.hp.length 2 then
  FJ O n d.c.code (Option S) s (NG d.c) (λ_ _=>none) (NG d.c) (λs=>bif GP s d.ta 0&&GP s d.tb 1 then
   FJ O n d.h (Option S) ⟨[(0,.ptr 0 0),(1,.ptr 1 0)],s.hp⟩ (zf6 d) (λ_ _=>none) (zf6 d) (λ_=>none)else none)else none) (λ_ _=>none) (λ_=>none) (λ_=>none)
noncomputable def zd1(tbl:Nat->Option Fun')(n:Nat):ak:=Nat.rec (motive:=λ_=>ak) (λ_ _ _=>none) (λn a f ars os=>match tbl f with
 |some (.code c)=>bif c_ os.length c.m&&j_ ars.length c.ntmps then zdX a n c ars os else none
 |some (.dfr d)=>bif c_ os.length 0&&j_ ars.length d.c.ntmps then za4 a n d ars else none
 |some (.nat g)=>(match os with
  |[]=>(match g ars with
   |some s=>some (some s)
   |none=>none)
  |_=>none)
 |none=>none) n
theorem zdY(O:ak)(n:Nat)(c:TF)(ars:List V)(os:List Ob):zdX O n c ars os=YW O n c ars os:=za3 O n c.code _ _ _ _ _ _
theorem zd0(O:ak)(n:Nat)(d:TD)(ars:List V):za4 O n d ars=zdZ O n d ars:=by simp only[za4,zdZ,za3]
theorem za5(tbl:Nat->Option Fun'):∀n,zd1 tbl n=sC tbl n
 |0=>rfl
 |n+1=>by
  funext f ars os;have a:=za5 tbl n;simp only[sC];rw[<-a];show(match tbl f with
  |some (.code c)=>bif c_ os.length c.m&&j_ ars.length c.ntmps then zdX (zd1 tbl n) n c ars os else none|some (.dfr d)=>bif c_ os.length 0&&j_ ars.length d.c.ntmps then za4 (zd1 tbl n) n d ars else none|some (.nat g)=>(match os with
   |[]=>(match g ars with
    |some s=>some (some s)
    |none=>none)
   |_=>none)
  |none=>none)=_
  cases tbl f with
  |none=>rfl|some x=>cases x with
   |code c=>simp only[zdY]
   |dfr d=>simp only[zd0]
   |nat g=>rfl
theorem zfX{tbl:Nat->Option Fun'}{n f:Nat}{ars:List V}{os:List Ob}{sh:Sh}{c:HL sh.sl}(h:au (zd1 tbl n) f ars os sh=some c):au (sC tbl n) f ars os sh=some c:=by rw[<-za5];omega
theorem Mp{tbl:Nat->Option Fun'}{f:Nat}{ars:List V}{os:List Ob}{sh:Sh}{c:HL sh.sl}{m:Nat}(h:∀k,au (zd1 tbl (k+m)) f ars os sh=some c):∃a,∀n,a<=n->au (sC tbl n) f ars os sh=some c:=⟨m,λn hn=>by obtain⟨k,rfl⟩:∃k,n=k+m:=⟨n - m,by omega⟩;exact zfX (h k)⟩
inductive LeB:BV->BV->Prop
 |refl (x:BV):LeB x x
 |data (x:BV) (p:PV) (h:x.toPV=some p):LeB x (.pv p)
 |any (x:BV):LeB x (.pv .any)
inductive LeA:AV->AV->Prop
 |refl (x:AV):LeA x x
 |data (x:AV) (p:PV) (h:x.toPV=some p):LeA x (.b (.pv p))
 |any (x:AV):LeA x (.b (.pv .any))
 |agg (xs ys:List BV) (hl:xs.length=ys.length) (h:∀(i:Nat) (x y:BV),xs[i]? =some x->ys[i]? =some y->LeB x y):LeA (.agg xs) (.agg ys)
 |tup (xs ys:List BV) (hl:xs.length=ys.length) (h:∀(i:Nat) (x y:BV),xs[i]? =some x->ys[i]? =some y->LeB x y):LeA (.tup xs) (.tup ys)
inductive LeO:AObj->AObj->Prop
 |refl (x:AObj):LeO x x
 |gone (x:AObj):LeO x .gone
 |box (t:TypeId) (xs ys:List BV) (hl:xs.length=ys.length) (h:∀(i:Nat) (x y:BV),xs[i]? =some x->ys[i]? =some y->LeB x y):LeO (.box t xs) (.box t ys)
section
variable {θ:List Av.Loc} {D:Nat->Prop} {w:World}
theorem LeB.rel{x y:BV}(h:LeB x y){v:Value}(hr:RelB θ D w v x):RelB θ D w v y:=by cases h with|refl=>omega|data p h=>exact sX hr h|any=>exact RelP.any v
theorem zaa{vs:Array Value}{xs ys:List BV}(hl:xs.length=ys.length)(h:∀(i:Nat) (x y:BV),xs[i]? =some x->ys[i]? =some y->LeB x y)(e:vs.size=xs.length)(c:∀(i:Nat) (u:Value) (x:BV),vs[i]? =some u->xs[i]? =some x->RelB θ D w u x): vs.size=ys.length/\∀(i:Nat) (u:Value) (x:BV),vs[i]? =some u->ys[i]? =some x->RelB θ D w u x:=⟨by omega,λi u y d b=>by obtain⟨x,a⟩:=bA (l:=xs) hl b;exact(h i x y a b).rel (c i u x d a)⟩
theorem LeA.rel{x y:AV}(h:LeA x y){v:Value}(hr:RelA θ D w v x):RelA θ D w v y:=by
 cases h with
 |refl=>omega|data _ p h=>exact db hr h|any=>exact RelP.any v|agg xs ys hl h=>obtain⟨vs,J,z,E⟩:=hr;obtain⟨H,I⟩:=zaa hl h z E;exact⟨vs,J,H,I⟩
 |tup xs ys hl h=>obtain⟨vs,J,z,E⟩:=hr;obtain⟨H,I⟩:=zaa hl h z E;exact⟨vs,J,H,I⟩
theorem LeO.rel{x y:AObj}(h:LeO x y){l:Av.Loc}(hr:RelO θ D w l x):RelO θ D w l y:=by
 cases h with
 |refl=>omega|gone=>cases l<;>trivial|box t xs ys hl h=>
  cases l<;>simp only[RelO]at hr⊢<;>try exact hr.elim
  obtain⟨H,I,z,E⟩:=hr;obtain⟨J,N⟩:=zaa hl h z E;grind
end
structure LeS(a b:St):Prop where
 fr:∀k y,Av.look b.fr k=some y->∃x,Av.look a.fr k=some x/\LeA x y
 len:a.hp.length=b.hp.length
 hp:∀(i:Nat) (x y:AObj),a.hp[i]? =some x->b.hp[i]? =some y->LeO x y
theorem LeS.weak{m:Nat}{a b:St}(h:LeS a b):Weak m a b:=by
 rintro c ac w _ ⟨θ,D,z⟩;refine⟨θ,D,z.size,z.defers,⟨by rw[z.ok.len,h.len],z.ok.dlt,z.ok.inj,z.ok.olt,λi l o J I=>?_⟩,z.keep,z.dsub,z.dnew,z.onew,λk y N=>?_,z.fix⟩;·obtain⟨x,E⟩:=bA (l:=a.hp) h.len I;exact(h.hp i x o E I).rel (z.ok.objs i l x J E)
 ·obtain⟨x,E,H⟩:=h.fr k y N;exact H.rel (z.fr k x E)
theorem LeS.frame{fr fr':List (Nat×AV)}{hp:List AObj}(h:∀k y,Av.look fr' k=some y->Av.look fr k=some y):LeS ⟨fr,hp⟩ ⟨fr',hp⟩:=⟨λk y E=>⟨y,h k y E,.refl y⟩,rfl,λi x y H z=>by rw[H]at z;cases z;exact .refl x⟩
def Keeps(A:List Nat)(s s':S):Prop:=∀k,k∉A->(∀v,lk s.fr k=some v->v.isD=true->lk s'.fr k=some v\/lk s'.fr k=none)/\(lk s.fr k=none->lk s'.fr k=none)
theorem NR(g:V->V):∀(fr:List (Nat×V)) (k:Nat),lk (fr.map λx=>(x.1,g x.2)) k=(lk fr k).map g
 |[],_=>rfl
 |(j,v)::fr,k=>by
  simp only[l_,lk];cases c_ k j;·exact NR g fr k
  simp
theorem Keeps.refl(A:List Nat)(s:S):Keeps A s s:=λ_ _=>⟨λ_ h _=>.inl h,id⟩
theorem Keeps.trans{A:List Nat}{a b c:S}(h:Keeps A a b)(k:Keeps A b c):Keeps A a c:=λi z=>by
 refine⟨λv H hd=>?_,λhn=>(k i z).2 ((h i z).2 hn)⟩;rcases(h i z).1 v H hd with E|E;·exact(k i z).1 v E hd
 ·exact .inr ((k i z).2 E)
theorem Keeps.sub{A B:List Nat}{a b:S}(h:Keeps A a b)(hs:∀x∈A,x∈B):Keeps B a b:=λi z=>h i λE=>z (hs i E)
def jG(d:Option Nat):List Nat:=match d with
 |some d=>[d]
 |none=>[]
theorem zgn(s:S)(d:Option Nat)(v:V)(k:Nat)(h:k∉jG d):lk (s.putO d v).fr k=lk s.fr k:=by
 cases d with
 |none=>rfl|some j=>
  have a:k≠j:=λe=>h (by simp[jG,e]);have:c_ k j=false:=by
   cases b:c_ k j;·rfl
   ·exact absurd (a_ b) a
  show(bif c_ k j then some v else lk s.fr k)=_;grind
theorem Keeps.put(s:S)(d:Option Nat)(v:V):Keeps (jG d) s (s.putO d v):=λk z=>by rw[zgn s d v k z];exact⟨λ_ h _=>.inl h,id⟩
theorem Keeps.map(A:List Nat)(s s':S)(g:V->V)(hg:∀v,v.isD=true->sR g v=v)(z:s'.fr=s.fr.map λx=>(x.1,sR g x.2)):Keeps A s s':=λk _=>by
 have:lk s'.fr k=(lk s.fr k).map (sR g):=by rw[z];exact NR (sR g) s.fr k
 grind
theorem Keeps.fr{A:List Nat}{s s':S}(h:s'.fr=s.fr):Keeps A s s':=λk _=>by rw[h];exact⟨λ_ h _=>.inl h,id⟩
section
variable {R:Type} {P:Program} {O:ak} {d:Option Nat} {s:S} {κ kp:S->Option R} {r:R}
def Pu(P:Program)(s:S)(op:SOp)(d:Option Nat)(κ:S->Option R)(r:R):Prop:=∃v,ou P (enc s) op (λy=>y=aZ v)/\κ (s.putO d v)=some r
theorem cZ{α β:Type}{o:Option α}{f:α->Option β}{b:β}(h:d_ o f=some b):∃a,o=some a/\f a=some b:=by cases o with|none=>grind|some a=>grind
theorem bH{α:Type}{b:Bool}{x:Option α}{a:α}(h:aG b x=some a):b=true/\x=some a:=by
 cases b;·cases h
 ·exact⟨rfl,h⟩
theorem aV{α:Type}{b:Bool}{x:Option α}{a:α}(h:(bif b then x else none)=some a):b=true/\x=some a:=by
 cases b;·cases h
 ·exact⟨rfl,h⟩
theorem Mu{α:Type}{xs:List α}{i:Int}{x:α}(h:aR xs i=some x):0<=i/\xs[i.toNat]? =some x:=by unfold aR at h;grind
theorem zgX{x:X}(b:x.wf=true)(h:evOp O d (.mv x) s κ kp=some r):Pu P s (.mv x.er) d κ r:=by
 simp only[evOp]at h;split at h;·rename_i v a;exact⟨v,⟨_,aJ b a,rfl⟩,h⟩
 grind
theorem Rk(a:List UInt8):(⟨a.toArray⟩:ByteArray).toList=a:=by rw[ByteArray.toList_eq]
theorem Ie(a:List UInt8):(⟨a.toArray⟩:ByteArray).size=a.length:=by show a.toArray.size=a.length;simp
theorem zb6(a b:List UInt8):(⟨a.toArray⟩:ByteArray)++(⟨b.toArray⟩:ByteArray)=⟨(a++b).toArray⟩:=by apply ByteArray.ext;simp
theorem XZ{op:BinOp}{k g:IntKind}{a b:Int}{d:V->Option R}(h:zfT op k g a b d=some r):∃v,SI op (.int k a) (.int g b) (λu=>AV.v u=aZ v)/\d v=some r:=by
 cases op<;>simp only[zfT]at h;case shl=>obtain⟨e,c⟩:=bH h;exact⟨_,⟨by grind,rfl⟩,c⟩
 case shr=>obtain⟨e,c⟩:=bH h;exact⟨_,⟨by grind,rfl⟩,c⟩
 case quo=>obtain⟨e,c⟩:=aV h;obtain⟨j,f⟩:=bH c;exact⟨_,⟨by grind,by grind,rfl⟩,f⟩
 case rem=>obtain⟨e,c⟩:=aV h;obtain⟨j,f⟩:=bH c;exact⟨_,⟨by grind,by grind,rfl⟩,f⟩
 all_goals (obtain⟨e,c⟩:=aV h;exact⟨_,⟨by grind,rfl⟩,c⟩)
theorem X0{op:BinOp}{a b:List UInt8}{c:V->Option R}(h:zfU op a b c=some r):∃v,SI op (.string ⟨a.toArray⟩) (.string ⟨b.toArray⟩) (λu=>AV.v u=aZ v)/\c v=some r:=by
 cases op<;>simp only[zfU]at h;case add=>obtain⟨e,d⟩:=bH h;refine⟨_,⟨by rw[Ie,Ie];grind,?_⟩,d⟩;rw[zb6];rfl
 all_goals first
  |(cases h;done)
  |exact⟨_,by simp only[SI,Rk];rfl,h⟩
theorem zeI{op:BinOp}{x y:X}(c:x.wf=true/\y.wf=true)(h:evOp O d (.bin op x y) s κ kp=some r):Pu P s (.bin op x.er y.er) d κ r:=by
 simp only[evOp]at h;split at h;·rename_i k a l b g j;obtain⟨v,e,f⟩:=XZ h;exact⟨v,⟨_,aJ c.1 g,_,aJ c.2 j,_,rfl,_,rfl,e⟩,f⟩
 ·rename_i a b g j;obtain⟨v,e,f⟩:=X0 h;exact⟨v,⟨_,aJ c.1 g,_,aJ c.2 j,_,rfl,_,rfl,e⟩,f⟩
 grind
theorem zbL{c a b:X}(f:c.wf=true/\a.wf=true/\b.wf=true)(h:evOp O d (.pick c a b) s κ kp=some r):Pu P s (.pick c.er a.er b.er) d κ r:=by
 simp only[evOp]at h;split at h
 ·rename_i t x y u z hc g j;split at h
  ·rename_i n l;obtain⟨p,rfl⟩:=bO l;refine⟨_,⟨_,aJ f.1 hc,_,rfl,t,rfl,λk=>⟨_,aJ f.2.1 g,?_⟩,λk=>⟨_,aJ f.2.2 j,?_⟩⟩,h⟩;·grind
   ·subst k;show AV.b (.pv (aM _ z))=AV.b (.pv (aM _ n));grind
  grind
 ·rename_i t x u z hc g j;obtain⟨k,h⟩:t=false/\κ (s.putO d (.d u z))=some r:=by grind
  exact⟨_,⟨_,aJ f.1 hc,_,rfl,t,rfl,λe=>(by grind),λ_=>⟨_,aJ f.2.2 j,rfl⟩⟩,h⟩
 ·rename_i t u z x hc g j;obtain⟨k,h⟩:t=true/\κ (s.putO d (.d u z))=some r:=by grind
  exact⟨_,⟨_,aJ f.1 hc,_,rfl,t,rfl,λ_=>⟨_,aJ f.2.1 g,rfl⟩,λe=>(by grind)⟩,h⟩
 grind
theorem zeJ{neg:Bool}{x y:X}(c:x.wf=true/\y.wf=true)(h:evOp O d (.eqB neg x y) s κ kp=some r):Pu P s (.eqB neg x.er y.er) d κ r:=by
 simp only[evOp]at h;split at h;·rename_i a b e f;exact⟨_,⟨_,aJ c.1 e,_,aJ c.2 f,_,rfl,_,rfl,_,rfl,_,rfl,rfl⟩,h⟩
 grind
theorem zgY{op:UnOp}{x:X}(c:x.wf=true)(h:evOp O d (.un op x) s κ kp=some r):Pu P s (.un op x.er) d κ r:=by
 simp only[evOp]at h;split at h;·rename_i a b;exact⟨_,⟨_,aJ c b,_,rfl,show _=_ from rfl⟩,h⟩
 ·rename_i k a b;exact⟨_,⟨_,aJ c b,_,rfl,show _=_ from rfl⟩,h⟩
 grind
theorem zeN{str:Bool}{x:X}(c:x.wf=true)(h:evOp O d (.len str x) s κ kp=some r):Pu P s (.len str x.er) d κ r:=by
 simp only[evOp]at h;split at h;·rename_i a b;refine⟨_,⟨_,aJ c b,_,rfl,_,rfl,?_⟩,h⟩;show AV.v (.int .i64 ((⟨a.toArray⟩:ByteArray).size:Nat))=_;rw[Ie];rfl
 ·rename_i t a b;refine⟨_,⟨_,aJ c b,.inr (.inl ⟨_,_,rfl,?_⟩)⟩,h⟩;show AV.v (.int .i64 ((a.map _).length:Nat))=_;rw[o_];rfl
 ·rename_i t b;exact⟨_,⟨_,aJ c b,.inl ⟨rfl,rfl⟩⟩,h⟩
 ·rename_i id b;split at h;·rename_i e t xs f;refine⟨_,⟨_,aJ c b,.inr (.inr (.inl ⟨id,e,_,_,rfl,by rw[bR,f];rfl,?_⟩))⟩,h⟩;show AV.v (.int .i64 ((xs.map _).length:Nat))=_;rw[o_];rfl
  ·rename_i e k t xs hole f;refine⟨_,⟨_,aJ c b,.inr (.inr (.inr (.inr ⟨id,e,_,k,_,_,rfl,by rw[bR,f];rfl,?_⟩)))⟩,h⟩;show AV.v (.int .i64 ((xs.map _).length:Nat))=_;rw[o_];rfl
  grind
 grind
theorem zbG{k e:TypeId}{x:X}(n:x.wf=true)(h:evOp O d (.lenM k e x) s κ kp=some r):Pu P s (.lenM k e x.er) d κ r:=by
 simp only[evOp]at h;split at h
 ·rename_i id p;split at h;·rename_i v u a b kvs l;obtain⟨c,j⟩:=aV h;rw[b_]at c;have f:=a_ c.1;have g:=a_ c.2;subst f;subst g;refine⟨_,⟨_,aJ n p,id,_,rfl,by rw[bR,l];rfl,?_⟩,j⟩;show AV.v (.int .i64 ((kvs.map _).length:Nat))=_;rw[o_];rfl
  grind
 grind
theorem iQ{o:Option V}{f:Int->Option R}(h:intOf o f=some r):∃k n,o=some (.d (.int k) n)/\f n=some r:=by unfold intOf at h;grind
theorem zbE{x i:X}(e:x.wf=true/\i.wf=true)(h:evOp O d (.idxS x i) s κ kp=some r):Pu P s (.idxS x.er i.er) d κ r:=by
 simp only[evOp]at h;split at h;·rename_i a l;obtain⟨k,n,g,h⟩:=iQ h;obtain⟨c,hc,h⟩:=cZ h;obtain⟨f,b⟩:=Mu hc;have j:=(g_.1 b).1;refine⟨_,⟨_,aJ e.1 l,_,aJ e.2 g,_,rfl,_,rfl,_,_,rfl,_,rfl,f,by rw[Ie];omega,?_⟩,h⟩;rw[Rk];simp only[T_,b,z_];rfl
 grind
theorem zbA{k:IntKind}{x:X}(a:x.wf=true)(h:evOp O d (.cvtI k x) s κ kp=some r):Pu P s (.cvtI k x.er) d κ r:=by
 simp only[evOp]at h;split at h;·rename_i c n b;exact⟨_,⟨_,aJ a b,_,rfl,_,_,rfl,rfl⟩,h⟩
 grind
theorem zeL{x:X}{i:Nat}(b:x.wf=true)(h:evOp O d (.ext x i) s κ kp=some r):Pu P s (.ext x.er i) d κ r:=by
 simp only[evOp]at h;split at h
 ·rename_i vs c;split at h;·rename_i v f;obtain⟨e,a⟩:=aV h;refine⟨v,⟨_,aJ b c,.inr ⟨_,rfl,aW v,by grind,?_⟩⟩,a⟩;cases v<;>first|rfl|grind
  grind
 grind
end
section
variable {R:Type} {P:Program} {O:ak} {d:Option Nat} {s:S} {κ kp:S->Option R} {r:R}
theorem TS{p:PV}{off:Nat}{u:Ty}{y:u.den}(b:((p.cells).drop off).take u.sz=aP u y)(d:off+u.sz<=p.cells.length):p.sub off u.sz u.ag=aM u y:=by
 cases c:u.ag
 ·have hs:=jf c;rw[hs,fe y c]at b;have a:off<p.cells.length:=by omega
  rw[N_ a]at b;simp only[W_,aq_,List.cons.injEq,and_true]at b;simp only[PV.sub,T_,P_ a,z_];omega
 ·simp only[PV.sub];rw[fW y c,<-b]
theorem I0(l:List PV):(l.map BV.pv).mapM BV.toPV=some l:=by induction l with|nil=>rfl|cons x l a=>rw[l_,k_,a];rfl
theorem Ip{α:Type}(l m:List α)(k n:Nat)(h:l.length=n):(l++m).drop (k+n)=m.drop k:=by rw[<-h,Nat.add_comm,ae_];simp
def zdr(t:Ty)(n:Nat)(m:Int)(c:t.den)(cs:List PV):Prop:=∃k:Nat,m=(k:Int)/\k<n/\(cs.drop (k*t.sz)).take t.sz=aP t c/\k*t.sz+t.sz<=cs.length
theorem Ol{t:Ty}{n:Nat}{m:Int}{c x:t.den}{cs:List PV}{o:Option t.den}(h:(bif decide (m=0)then some x else o)=some c)(hr:o=some c->zdr t n (m - 1) c cs):zdr t (n+1) m c (aP t x++cs):=by
 by_cases a:m=0
 ·subst a;simp only[decide_true,cond_true,e_]at h;subst h;refine⟨0,rfl,by simp,?_,?_⟩;·rw[Nat.zero_mul,D_,I_ (by rw[aO];simp),q_ (by rw[aO];simp)]
  ·simp[aO]
 ·simp only[a,decide_false,cond_false]at h;obtain⟨k,f,d,b,e⟩:=hr h;refine⟨k+1,by omega,by omega,?_,?_⟩;·rw[aj_,ax_,Ip _ _ _ _ (aO t x),b]
  ·rw[w_,aO t x,aj_];omega
theorem R7(t:Ty):∀(n:Nat) (v:V) (m:Int) (c:t.den) (cs:List PV),rowAt t n v m=some c->((dw v).map aW).mapM BV.toPV=some cs->zdr t n m c cs:=by
 intro n;induction n with
 |zero=>intro v m c cs h;simp[rowAt]at h|succ n g=>
  intro v m c cs h hcs;cases v with
  |d u x=>
   cases u with
   |pair a b=>
    simp only[rowAt]at h;have hc:cs=aP a x.1++aP b x.2:=by rw[show dw (V.d (.pair a b) x)=jV (.pair a b) x from rfl,(eG (.pair a b) x).1,I0]at hcs;cases hcs;rfl
    split at h
    ·rename_i y p;obtain⟨r,rfl⟩:=bO p;have:aP a x.1=aP a y:=by grind
     rw[hc,this];exact Ol h λh=>g (.d b x.2) (m - 1) c _ h (by rw[show dw (V.d b x.2)=jV b x.2 from rfl,(eG b x.2).1,I0])
    grind
   |_=>simp[rowAt]at h
  |agg vs=>
   simp only[rowAt]at h;split at h;·rename_i x l k;obtain⟨j,rfl,f⟩:=EU t vs x l k;rw[show dw (V.agg (j++l))=j++l from rfl,B_,ag_,f]at hcs;simp only[X_,p_]at hcs;cases hl:(l.map aW).mapM BV.toPV with|none=>grind|some e=>rw[hl]at hcs;simp only[p_,ao_,e_]at hcs;rw[<-hcs];exact Ol h λh=>g (.agg l) (m - 1) c e h hl
   grind
  |_=>simp[rowAt]at h
theorem mapM_len{α β:Type}{f:α->Option β}:∀{l:List α} {m:List β},l.mapM f=some m->m.length=l.length
 |[],m,h=>by grind
 |x::l,m,h=>by rw[k_]at h;cases a:f x with|none=>grind|some y=>cases hl:l.mapM f with|none=>grind|some b=>rw[a,hl]at h;cases h;simp[mapM_len hl]
theorem zae(t:Ty):∀(n:Nat) (vs:List V) (m:Int) (c:t.den),rowAt t n (.agg vs) m=some c->∃j:Nat,m=(j:Int)/\j<n/\(((vs.drop (j*t.sz)).take t.sz).map aW).mapM BV.toPV=some (aP t c)/\j*t.sz+t.sz<=vs.length:=by
 intro n;induction n with
 |zero=>intro vs m c h;simp[rowAt]at h|succ n g=>
  intro vs m c h;simp only[rowAt]at h;split at h
  ·rename_i x l f;obtain⟨k,rfl,b⟩:=EU t vs x l f;have a:k.length=t.sz:=by have:=mapM_len b;rw[aO,o_]at this;omega
   by_cases d:m=0;·grind
   ·simp only[d,decide_false,cond_false]at h;obtain⟨j,s,e,p,r⟩:=g l (m - 1) c h;refine⟨j+1,by omega,by omega,?_,?_⟩;·rw[aj_,ax_,Ip _ _ _ _ a];omega
    grind
  grind
theorem KH(t:Ty)(cs:List V)(h:t.ag=false->cs≠[]):aZ (whole t cs)=tG t.ag (cs.map aW):=by
 unfold whole;cases a:t.ag;·cases cs with|nil=>grind|cons v cs=>cases v<;>rfl
 ·rfl
theorem EX:∀(vs:List V),vs.all V.cellD=true->∃cs,(vs.map aW).mapM BV.toPV=some cs
 |[],_=>⟨[],rfl⟩
 |v::vs,h=>by
  simp only[r_,b_]at h;obtain⟨cs,hcs⟩:=EX vs h.2;have:∃p,(aW v).toPV=some p:=by cases v<;>first|exact⟨_,rfl⟩|(have:=h.1;simp[V.cellD]at this)
  obtain⟨p,hp⟩:=this;exact⟨p::cs,by grind⟩
theorem zhe{v:V}{cs:List PV}(h:((dw v).map aW).mapM BV.toPV=some cs)(c:(∃a b x,v= .d (.pair a b) x)\/∃vs,v= .agg vs):∃p,(aZ v).toPV=some p/\p.cells=cs/\p.isAgg=true:=by
 rcases c with⟨a,b,x,rfl⟩|⟨vs,rfl⟩;·rw[show dw (V.d (.pair a b) x)=jV (.pair a b) x from rfl,(eG (.pair a b) x).1,I0]at h;cases h;exact⟨_,rfl,rfl,rfl⟩
 ·refine⟨.agg cs,?_,rfl,rfl⟩;show((vs.map aW).mapM BV.toPV).map PV.agg=_;rw[show dw (V.agg vs)=vs from rfl]at h;grind
theorem zad{t:Ty}{n:Nat}{v:V}{m:Int}{c:t.den}(h:rowAt t n v m=some c):(∃a b x,v= .d (.pair a b) x)\/∃vs,v= .agg vs:=by
 cases n with
 |zero=>simp[rowAt]at h|succ n=>
  cases v with
  |d u x=>cases u with
   |pair a b=>grind
   |_=>simp[rowAt]at h
  |agg vs=>simp|_=>simp[rowAt]at h
theorem zbF{n:Nat}{t:Ty}{x i:X}(A:x.wf=true/\i.wf=true)(h:evOp O d (.idxV n t x i) s κ kp=some r):Pu P s (.idxV n t.sz t.ag x.er i.er) d κ r:=by
 simp only[evOp]at h;split at h
 ·rename_i v C;obtain⟨f,h⟩:=aV h;rw[b_]at f;obtain⟨k,m,B,h⟩:=iQ h;obtain⟨c,hc,e⟩:=cZ h;have w:=zad hc;obtain⟨cs,hcs⟩:∃cs,((dw v).map aW).mapM BV.toPV=some cs:=by
   rcases w with⟨a,b,y,rfl⟩|⟨vs,rfl⟩;·exact⟨_,by rw[show dw (V.d (.pair a b) y)=jV (.pair a b) y from rfl,(eG (.pair a b) y).1,I0]⟩
   ·exact EX vs f.2
  obtain⟨p,hp,l,g⟩:=zhe hcs w;obtain⟨j,rfl,H,E,F⟩:=R7 t n v m c cs hc hcs;have z:cs.length=n*t.sz:=by have:=a_ f.1;have D:=congrArg ai_ l;have I:cs.length=((dw v).map aW).length:=mapM_len hcs;grind
  refine⟨_,⟨_,aJ A.1 C,_,aJ A.2 B,_,rfl,_,_,rfl,p,hp,by simp,by omega,jf,by grind,g,?_⟩,e⟩;show AV.p (p.sub ((j:Int).toNat*t.sz) t.sz t.ag)=AV.p (aM t c);rw[TS (u:=t) (y:=c)];all_goals grind
 grind
theorem zbC{t:Ty}{x i:X}(b:x.wf=true/\i.wf=true)(h:evOp O d (.idxA t x i) s κ kp=some r):Pu P s (.idxA t.sz x.er i.er) d κ r:=by
 simp only[evOp]at h;split at h
 ·rename_i id p;split at h
  ·rename_i e u xs y;obtain⟨v,g⟩:=aV h;have z:u=t:=by grind
   obtain⟨k,m,l,j⟩:=iQ g;obtain⟨c,hc,w⟩:=cZ j;clear h v g j;subst z;obtain⟨f,a⟩:=Mu hc;have n:=(g_.1 a).1;refine⟨_,⟨_,aJ b.1 p,_,aJ b.2 l,_,rfl,_,_,rfl,.inr ⟨id,rfl,_,by rw[bR,y];rfl,.inl ⟨e,_,rfl,f,?_,show _=_ from rfl⟩⟩⟩,w⟩;grind
  ·rename_i e kk u xs hole y;obtain⟨v,g⟩:=aV h;have z:u=t:=by grind
   obtain⟨k,m,l,j⟩:=iQ g;obtain⟨c,hc,w⟩:=cZ j;clear h v g j;subst z;obtain⟨f,a⟩:=Mu hc;have n:=(g_.1 a).1;refine⟨_,⟨_,aJ b.1 p,_,aJ b.2 l,_,rfl,_,_,rfl,.inr ⟨id,rfl,_,by rw[bR,y];rfl,.inr ⟨e,kk,_,_,rfl,f,?_,show _=_ from rfl⟩⟩⟩,w⟩;grind
  grind
 ·rename_i u xs p;split at h
  ·rename_i ys B;obtain⟨A,C⟩:=bO B;obtain⟨k,m,l,h⟩:=iQ h;obtain⟨c,hc,h⟩:=cZ h;obtain⟨f,a⟩:=Mu hc;have n:=(g_.1 a).1;refine⟨_,⟨_,aJ b.1 p,_,aJ b.2 l,_,rfl,_,_,rfl,.inl ⟨ys.map (aM t),?_,f,?_,?_⟩⟩,h⟩;·show AV.p (aM _ _)=_;rw[<-A];rfl
   ·grind
   ·show AV.p (.pto ((ys.map (aM t)).getD m.toNat .any))=_;simp only[T_,u_,a,an_,z_];rfl
  grind
 grind
theorem zbD{n:Nat}{t:Ty}{x i:X}(e:x.wf=true/\i.wf=true)(h:evOp O d (.idxP n t x i) s κ kp=some r):Pu P s (.idxP n t.sz t.ag x.er i.er) d κ r:=by
 simp only[evOp]at h;split at h;·rename_i id off k m g;obtain⟨a,h⟩:=bH h;simp only[b_,decide_eq_true_eq]at a;exact⟨_,⟨_,aJ e.1 g,_,aJ (s:=s) e.2 rfl,_,rfl,k,_,rfl,a.1,a.2,.inl ⟨id,off,rfl,rfl⟩⟩,h⟩
 ·rename_i id off g w;obtain⟨k,m,l,h⟩:=iQ h;obtain⟨a,h⟩:=bH h;simp only[b_,decide_eq_true_eq]at a;exact⟨_,⟨_,aJ e.1 g,_,aJ e.2 l,_,rfl,k,_,rfl,a.1,a.2,.inl ⟨id,off,rfl,rfl⟩⟩,h⟩
 ·rename_i u y g;obtain⟨a,h⟩:=aV h;simp only[b_]at a;have hsz:=a_ a.1;obtain⟨k,m,l,h⟩:=iQ h;obtain⟨c,hc,f⟩:=cZ h;have hcs:((dw (.d u y)).map aW).mapM BV.toPV=some (aP u y):=by rw[show dw (V.d u y)=jV u y from rfl,(eG u y).1,I0]
  obtain⟨j,rfl,z,p,v⟩:=R7 t n _ m c _ hc hcs;have b:(aM u y).sub ((j:Int).toNat*t.sz) t.sz t.ag=aM t c:=TS p v;refine⟨_,⟨_,aJ e.1 g,_,aJ e.2 l,_,rfl,k,_,rfl,by simp,by omega,.inr ⟨aM u y,rfl,?_,jf,?_,?_⟩⟩,f⟩;·show(aP u y).length=_;rw[aO,hsz]
  ·rw[b,tE]
  ·rw[b];rfl
 grind
theorem zbB{off:Nat}{t:Ty}{x:X}(b:x.wf=true)(h:evOp O d (.fldA off t x) s κ kp=some r):Pu P s (.fldA off t.sz t.ag x.er) d κ r:=by
 simp only[evOp]at h;split at h
 ·rename_i u y a;split at h
  ·rename_i z g;obtain⟨e,f,c⟩:=IW g;refine⟨_,⟨_,aJ b a,.inl ⟨aM u y,rfl,e,f,?_,?_⟩⟩,h⟩;·rw[c,tE]
   ·rw[c];rfl
  grind
 ·rename_i id o a;exact⟨_,⟨_,aJ b a,.inr (.inl ⟨id,o,rfl,rfl⟩)⟩,h⟩
 ·rename_i id i o a;exact⟨_,⟨_,aJ b a,.inr (.inr ⟨id,i,o,rfl,rfl⟩)⟩,h⟩
 grind
theorem Kf{α:Type}{l:List α}{n off:Nat}(h:off+n<=l.length)(hn:n=1):(l.drop off).take n≠[]:=by intro e;have:=congrArg ai_ e;grind
theorem zeM{off:Nat}{t:Ty}{x:X}(e:x.wf=true)(h:evOp O d (.fld off t x) s κ kp=some r):Pu P s (.fld off t.sz t.ag x.er) d κ r:=by
 simp only[evOp]at h;split at h
 ·rename_i u y c;obtain⟨k,h⟩:=aV h;split at h
  ·rename_i z l;obtain⟨a,f,g⟩:=IW l;refine⟨_,⟨_,aJ e c,.inl ⟨aM u y,rfl,?_,a,f,?_⟩⟩,h⟩;·rw[tE,k]
   ·rw[g];rfl
  grind
 ·rename_i vs c;obtain⟨a,h⟩:=aV h;have b:=f_ a;refine⟨_,⟨_,aJ e c,.inr ⟨_,rfl,by grind,jf,?_⟩⟩,h⟩;rw[KH t _ λj=>Kf b (jf j),H_,A_]
 grind
theorem zbH{t:Ty}{x:X}(C:x.wf=true)(h:evOp O d (.load t x) s κ kp=some r):Pu P s (.load t.sz t.ag x.er) d κ r:=by
 simp only[evOp,loadT]at h;split at h
 ·rename_i u y g;split at h;·rename_i z D;obtain⟨e1,rfl⟩:=bO D;refine⟨_,⟨_,aJ C g,?_⟩,h⟩;show(aM u y).isAgg=_/\_/\AV.p (aM u y)=AV.p (aM u z);exact⟨tE u y,aO u y,by grind⟩
  grind
 ·rename_i id off g;split at h;·rename_i tid cs A;obtain⟨b,h⟩:=aV h;have H:=f_ b;refine⟨_,⟨_,aJ C g,?_⟩,h⟩;show aU _ _;refine⟨_,by rw[bR,A];rfl,tid,_,rfl,by grind,jf,.inl ?_⟩;rw[KH t _ λht=>Kf H (jf ht),H_,A_]
  grind
 ·rename_i id off n u m g;split at h
  ·rename_i tid cs A;obtain⟨b,h⟩:=aV h;simp only[b_,decide_eq_true_eq]at b;obtain⟨b,rfl⟩:=b;have H:=f_ b;obtain⟨c,hc,F⟩:=cZ h;obtain⟨j,rfl,hj,a,_⟩:=zae u n _ m c hc;have gc:j*u.sz+u.sz<=n*u.sz:=by grind
   have T:((((cs.drop off).take (n*u.sz)).drop (j*u.sz)).take u.sz)=(cs.drop (off+j*u.sz)).take u.sz:=by rw[List.drop_take,List.take_take,ap_];grind
   rw[T]at a;generalize U:(cs.drop (off+j*u.sz)).take u.sz=l0 at a;refine⟨_,⟨_,aJ C g,?_⟩,F⟩;show aU _ _;refine⟨_,by rw[bR,A];rfl,tid,_,rfl,?_,jf,.inr ⟨aM u c,?_,rfl⟩⟩;·grind
   ·show(tG u.ag (((cs.map aW).drop (off+(j:Int).toNat*u.sz)).take u.sz)).toPV=_;rw[<-A_,<-H_,Int.toNat_natCast,U];cases hu:u.ag
    ·rw[fe c hu]at a
     match l0,a with
     |[v],a=>simp only[l_,ab_,k_,Y_]at a;cases hv:(aW v).toPV with|none=>grind|some p=>rw[hv]at a;cases a;exact hv
     |[],a=>grind|v::w::l,a=>have:=mapM_len a;grind
    ·show(((l0.map aW).mapM BV.toPV).map PV.agg)=_;rw[a,fW c hu];rfl
  grind
 ·rename_i id i off g;split at h
  ·rename_i e u xs A;obtain⟨Y,h⟩:=aV h;obtain⟨y,L,h⟩:=cZ h;split at h
   ·rename_i z D;obtain⟨b,E,B⟩:=IW D;have I:=(g_.1 L).1;have f:(xs.map (aM u)).getD i .any=aM u y:=by grind
    refine⟨_,⟨_,aJ C g,?_⟩,h⟩;show aU _ _;refine⟨_,by rw[bR,A];rfl,.inl ⟨e,u.sz,_,rfl,by grind,by have:=b;rw[show(aM u y).cells.length=u.sz from aO u y]at this;omega,jf,?_⟩⟩;by_cases hs:t.sz=u.sz
    ·obtain⟨g1,g2⟩:=xl u off t y z D;have J:off=0:=by omega
     subst J;have Q:c_ t.sz u.sz=true:=by rw[hs];simp
     rw[Q]at Y;have el:u=t:=by grind
     subst el;have ph:aM u z=aM u y:=by rw[<-B];refine TS ?_ (by omega);rw[D_,q_ (by rw[aO];simp)]
     refine .inl ⟨rfl,rfl,?_,?_⟩;·rw[f,tE]
     ·rw[f];show AV.p (aM u y)=AV.p (aM u z);grind
    ·refine .inr ⟨hs,?_⟩;rw[f,B];rfl
   grind
  ·rename_i e k u xs hole A;cases R:k.flatB off t.sz
   ·rw[R]at h;simp only[cond_false]at h;split at h
    ·rename_i hi hj v;obtain⟨b,M⟩:=aV h;simp only[b_,x_]at b;obtain⟨⟨⟨b,E⟩,h5⟩,B⟩:=b;obtain⟨y,L,N⟩:=cZ M;obtain⟨h4,hb⟩:=bH N;have e1:=a_ b;have e2:=a_ h4;have h6:=f_ h5;clear h b h4 h5;subst e1;subst e2;have I:=(g_.1 L).1;split at B;·refine⟨_,⟨_,aJ C g,?_⟩,hb⟩;show aU _ _;refine⟨_,by rw[bR,A];rfl,.inr ⟨e,u.sz,k,_,_,rfl,by grind,?_,jf,.inr ⟨_,rfl,jf E,E,rfl⟩⟩⟩;rw[jf E];omega
     grind
    grind
   ·rw[R]at h;simp only[cond_true]at h;obtain⟨y,L,h⟩:=cZ h;split at h
    ·rename_i z D;obtain⟨b,E,B⟩:=IW D;have I:=(g_.1 L).1;have f:(xs.map (aM u)).getD i .any=aM u y:=by grind
     refine⟨_,⟨_,aJ C g,?_⟩,h⟩;show aU _ _;refine⟨_,by rw[bR,A];rfl,.inr ⟨e,u.sz,k,_,_,rfl,by grind,by have:=b;rw[show(aM u y).cells.length=u.sz from aO u y]at this;omega,jf,.inl ⟨R,?_⟩⟩⟩;rw[f,B];rfl
    grind
  grind
 grind
end
section
variable {R:Type} {P:Program} {O:ak} {d:Option Nat} {s:S} {κ kp:S->Option R} {r:R}
theorem jS{x:Option X}{a:Nat}{f:Nat->Option R}(e:oWf x=true)(h:GO s x a f=some r):∃n,f n=some r/\∀(K:Nat->Prop),K n->bnd (enc s) (Z3 x) a K:=by cases x with|none=>exact⟨a,h,λK b=>b⟩|some x=>simp only[GO]at h;obtain⟨k,n,g,c⟩:=iQ h;obtain⟨j,d⟩:=bH c;exact⟨n.toNat,d,λK b=>⟨_,aJ e g,_,rfl,k,n,rfl,by grind,b⟩⟩
theorem rF{t:Ty}{o:Option V}{f:List t.den->Option R}(h:zP s.hp t o f=some r):∃v xs,o=some v/\f xs=some r/\(∀(K:List PV->Prop),K (xs.map (aM t))->vl (enc s).hp t.sz (aZ v) K):=by
 unfold zP at h;split at h
 ·rename_i id;split at h
  ·rename_i e u xs n;split at h;·rename_i ys p;obtain⟨a,g⟩:=bT p;have j:=Ty.list.inj a;subst j;have k:ys=xs:=g;subst k;exact⟨_,ys,rfl,h,λK b=>.inr (.inr (.inl ⟨id,e,_,rfl,by rw[bR,n];rfl,b⟩))⟩
   grind
  grind
 ·rename_i v l;split at h
  ·rename_i xs c;refine⟨v,xs,rfl,h,λK b=>?_⟩;cases v<;>simp only[mP]at c<;>try cases c
   ·obtain⟨d,_⟩:=bO c;exact .inr (.inl ⟨_,by show AV.p _=_;rw[<-d];rfl,b⟩)
   ·obtain⟨a,rfl⟩:=bT c;cases a;exact .inl ⟨rfl,b⟩
   ·rename_i u y;obtain⟨a,rfl⟩:=bT c;cases a;exact .inr (.inr (.inr ⟨_,rfl,b⟩))
  grind
 grind
theorem zcu{t:Ty}{v:V}{f:List t.den->Option R}(c:∀id,v≠.sl id)(h:zP s.hp t (some v) f=some r):∃xs,f xs=some r/\(aZ v).toPV=some (p5 t.sz (xs.map (aM t))):=by
 unfold zP at h;split at h;·grind
 ·rename_i d _ a;cases a;split at h;·rename_i xs b;exact⟨xs,h,by rw[RE b];exact uc b⟩
  grind
 grind
theorem zbk{t:Ty}(xs:List t.den)(l h:Nat):((xs.map (aM t)).take h).drop l=((xs.take h).drop l).map (aM t):=by rw[A_,H_]
theorem zeO{full:Bool}{t:Ty}{x:X}{lo j mx:Option X}(c:x.wf=true/\oWf lo=true/\oWf j=true/\oWf mx=true)(h:evOp O d (.slc full t x lo j mx) s κ kp=some r):Pu P s (.slc t.sz x.er (Z3 lo) (Z3 j) (Z3 mx)) d κ r:=by
 simp only[evOp]at h;have b:(!(mx.isSome&& !j.isSome))=true->(Z3 mx).isSome=true->(Z3 j).isSome=true:=by intro B L;cases mx<;>cases j<;>simp_all[Z3]
 split at h
 ·rename_i id p;split at h;·rename_i e k u xs g M;obtain⟨B,C⟩:=aV h;simp only[b_,x_]at B;obtain⟨l,D,hl⟩:=jS c.2.1 C;obtain⟨n,E,z⟩:=jS c.2.2.1 D;obtain⟨m,F,A⟩:=jS c.2.2.2 E;obtain⟨H,I⟩:=aV F;obtain⟨a,w⟩:=bH I;obtain⟨y,f⟩:=bH w;simp only[b_,decide_eq_true_eq]at a;refine⟨_,⟨_,aJ c.1 p,.inr ⟨id,rfl,_,by rw[bR,M];rfl,e,k,xs.map (aM u),_,by rw[<-a_ B.1];rfl,hl _ ?_⟩⟩,f⟩;rw[o_];exact z _ (A _ ⟨b H,a.1.1,a.1.2,a.2,a_ y,rfl⟩)
  grind
 ·rename_i J;cases p:s.get x with
  |none=>rw[p]at h;cases h|some v=>
   rw[p]at h;obtain⟨xs,C,hp⟩:=zcu (λid e=>J id (by grind)) h;obtain⟨l,D,hl⟩:=jS c.2.1 C;obtain⟨n,E,z⟩:=jS c.2.2.1 D;obtain⟨m,F,A⟩:=jS c.2.2.2 E;obtain⟨H,I⟩:=aV F;obtain⟨a,w⟩:=bH I;simp only[b_,decide_eq_true_eq]at a;have b:=b H;cases full with
   |false=>refine⟨_,⟨_,aJ c.1 p,.inl ⟨_,hp,_,rfl,hl _ ?_⟩⟩,w⟩;rw[o_];refine z _ (A _ ⟨b,a.1.1,a.1.2,a.2,.inl ?_⟩);rw[zbk];rfl|true=>
    obtain⟨y,f⟩:=bH w;simp only[b_,decide_eq_true_eq]at y;refine⟨_,⟨_,aJ c.1 p,.inl ⟨_,hp,_,rfl,hl _ ?_⟩⟩,f⟩;rw[o_];refine z _ (A _ ⟨b,a.1.1,a.1.2,a.2,.inr ⟨?_,y.2,?_⟩⟩);·cases mx<;>simp_all[Z3]
    ·rw[zbk];rfl
theorem XW(a:List UInt8)(l h:Nat):(⟨a.toArray⟩:ByteArray).extract l h=⟨((a.take h).drop l).toArray⟩:=by apply ByteArray.ext;rw[ByteArray.data_extract];grind
theorem zbM{x:X}{lo c:Option X}(e:x.wf=true/\oWf lo=true/\oWf c=true)(h:evOp O d (.slcS x lo c) s κ kp=some r):Pu P s (.slcS x.er (Z3 lo) (Z3 c)) d κ r:=by
 simp only[evOp]at h;split at h;·rename_i a p;obtain⟨l,f,hl⟩:=jS e.2.1 h;obtain⟨n,g,k⟩:=jS e.2.2 f;obtain⟨b,j⟩:=bH g;simp only[b_,decide_eq_true_eq]at b;refine⟨_,⟨_,aJ e.1 p,_,rfl,_,rfl,hl _ ?_⟩,j⟩;rw[Ie];refine k _ ⟨b.1,b.2,?_⟩;rw[XW];rfl
 grind
theorem zbK{x:X}(a:x.wf=true)(h:evOp O d (.nilc x) s κ kp=some r):Pu P s (.nilc x.er) d κ r:=by
 simp only[evOp]at h;split at h
 ·rename_i v b;split at h;·exact⟨_,⟨_,aJ a b,.inl ⟨_,rfl⟩,rfl⟩,h⟩
  ·exact⟨_,⟨_,aJ a b,.inr (.inl ⟨_,_,rfl⟩),rfl⟩,h⟩
  ·exact⟨_,⟨_,aJ a b,.inr (.inl ⟨_,_,rfl⟩),rfl⟩,h⟩
  ·exact⟨_,⟨_,aJ a b,.inr (.inr (.inl ⟨_,_,_,rfl⟩)),rfl⟩,h⟩
  ·exact⟨_,⟨_,aJ a b,.inr (.inr (.inr (.inr ⟨_,_,rfl⟩))),rfl⟩,h⟩
  ·exact⟨_,⟨_,aJ a b,.inr (.inr (.inr (.inl ⟨_,_,rfl⟩))),rfl⟩,h⟩
  grind
 grind
theorem BZ{v:V}(h:v.okB=true):(aZ v).ok=true/\(dw v).map aW=(aZ v).cells:=by
 have g:∀vs,v≠.tup vs:=λvs e=>by subst e;cases h
 refine⟨?_,X6 v g⟩;have hc:∀u:V,u.cellB=true->(aW u).cellOk=true:=by
  intro u b;cases u<;>simp only[V.cellB]at b<;>try cases b
  ·rename_i t x;have c:t.ag=false:=by grind
   have:=zjf t x;rw[fe x c]at this;have a:(aM t x).cellOk=true:=by grind
   exact a
  all_goals first
   |rfl
   |skip
  rename_i v;show(bJ v).cellOk=true;unfold bJ;split;·rfl
  ·exact b
 cases v with
 |d t x=>show((AV.b (.pv (aM t x))).cells.all BV.cellOk)=true;show((aP t x).map BV.pv).all BV.cellOk=true;rw[as_];exact zjf t x|agg vs=>show(vs.map aW).all BV.cellOk=true;rw[as_];simp only[V.okB,m_]at h⊢;grind|tup vs=>grind|raw v=>
  show(AV.b (bJ v)).cells.all BV.cellOk=true;have j:=hc (.raw v) h;show(AV.b (bJ v)).cells.all BV.cellOk=true;unfold bJ;split;·rfl
  ·have a:v.oneCell'=true:=h;show([PV.sc v].map BV.pv).all BV.cellOk=true;simp[BV.cellOk,PV.cellOk,a]
 |full t x=>rfl|nil t=>rfl|sl id=>rfl|ptr id o=>rfl|elt id i o=>rfl|dp t x=>rfl|clo f ids=>rfl|fnD f cs=>rfl|mp id=>rfl|pel id off n t i=>rfl|any=>cases h|lit k t x=>cases h|ifc=>rfl
theorem zaZ{t:Ty}{v:V}{x:t.den}(h:d6 t v=some x):v.okB=true:=by
 have hl:∀(u:Ty) (v:V) (y:u.den),u.ag=false->mP u v=some y->v.cellB=true:=by
  intro u v y s h;cases v<;>simp only[mP]at h<;>try cases h
  ·obtain⟨_,rfl⟩:=bO h;simp[V.cellB,s]
  ·rfl
  ·rfl
 have r:∀(t:Ty) (l:List V) (x:t.den) (m:List V),asm t l=some (x,m)->∃f,l=f++m/\f.all V.cellB=true:=by
  intro t;have one:∀(t:Ty) (l:List V) (x:t.den) (m:List V),t.ag=false->(match l with
   |v::l=>match mP t v with
    |some x=>some (x,l)
    |none=>none
   |[]=>none)=some (x,m)->∃f,l=f++m/\f.all V.cellB=true:=by
   intro t l x m E h
   split at h
   ·rename_i v l';split at h;·rename_i y g;simp only[e_,U_.injEq]at h;obtain⟨_,rfl⟩:=h;exact⟨[v],rfl,by grind⟩
    grind
   grind
  induction t with
  |unit=>intro l x m h;simp only[asm,e_,U_.injEq]at h;obtain⟨_,rfl⟩:=h;simp
  |pair a b w z=>intro l x m h;simp only[asm]at h;grind|rx=>
   intro l x m h;unfold asm at h;split at h
   ·rename_i a b c e l';split at h;·rename_i A B C D g j n p;simp only[e_,U_.injEq]at h;obtain⟨_,rfl⟩:=h;refine⟨[a,b,c,e],rfl,?_⟩;simp[hl _ a _ rfl g,hl _ b _ rfl j,hl _ c _ rfl n,hl _ e _ rfl p]
    grind
   grind
  |int k=>intro l x m h;exact one (.int k) l x m rfl h|bool=>intro l x m h;exact one .bool l x m rfl h|str=>intro l x m h;exact one .str l x m rfl h|list t _=>intro l x m h;exact one (.list t) l x m rfl h
 cases v with
 |agg vs=>
  simp only[d6]at h;split at h
  ·split at h;·rename_i y g;obtain⟨f,rfl,j⟩:=r t _ _ _ g;rw[ak_];exact j
   grind
  grind
 |d t x=>rfl|nil t=>rfl|full t x=>rfl|_=>simp[d6,mP]at h
theorem zby{tid:TypeId}{t:Ty}{x:X}(c:x.wf=true)(h:evOp O d (.boxD tid t x) s κ kp=some r):Pu P s (.boxD tid x.er) d κ r:=by
 simp only[evOp]at h;split at h;·grind
 ·rename_i v b f;split at h
  ·rename_i y a;refine⟨_,⟨_,aJ c f,_,fV a,(BZ (zaZ a)).1,λq e=>?_,rfl⟩,h⟩;cases v<;>try cases e
   ·grind
   ·rename_i v;simp[d6,mP]at a
  grind
 grind
theorem WK{tid:TypeId}{x:X}(a:x.wf=true)(h:evOp O d (.iface tid x) s κ kp=some r):Pu P s (.iface tid x.er) d κ r:=by
 simp only[evOp]at h;split at h;·rename_i v b;exact⟨_,⟨_,aJ a b,rfl⟩,h⟩
 grind
end
section
variable {R:Type} {P:Program} {O:ak} {d:Option Nat} {s:S} {κ kp:S->Option R} {r:R}
theorem yr(cs:List V)(off:Nat)(vs:List V):(nC cs off vs).map aW=splice (cs.map aW) off (vs.map aW):=by simp[nC,splice,H_,A_]
theorem If:∀(parts:List (Nat×Nat×X)) (cs:List V) (f:List V->Option R),parts.all (λq=>q.2.2.wf)=true->evOp.buildT s cs parts f=some r->
 ∃c b,((parts.map λq=>(q.1,q.2.1,q.2.2.er)).mapM λq=>((enc s).get q.2.2).map λa=>(q.1,q.2.1,a))=some c/\(∀q∈c,q.2.2.ok=true/\q.2.2.cells.length=q.2.1/\q.1+q.2.1<=cs.length)/\b.map aW=c.foldl (λcs q=>splice cs q.1 q.2.2.cells) (cs.map aW)/\f b=some r
 |[],cs,f,_,h=>⟨[],cs,rfl,λq u=>(by grind),rfl,h⟩
 |(off,sz,x)::l,cs,f,e,h=>by
  simp only[r_,b_]at e;simp only[evOp.buildT]at h;split at h
  ·rename_i v w;obtain⟨d,n⟩:=aV h;simp only[b_]at d;have hsz:=a_ d.1.1;have p:=f_ d.1.2;obtain⟨A,y⟩:=BZ d.2;obtain⟨c,b,g,z,j,k⟩:=If l _ f e.2 n;have hl:(nC cs off (dw v)).length=cs.length:=by simp only[nC,w_,List.length_take,af_];omega
   refine⟨(off,sz,aZ v)::c,b,?_,λq u=>?_,?_,k⟩;·rw[l_,k_];simp only[aJ e.1 w,g];rfl
   ·grind
   ·rw[j,yr,y];rfl
  grind
theorem WI{zero:List V}{parts:List (Nat×Nat×X)}(a:zero.all V.konst=true/\parts.all (λq=>q.2.2.wf)=true)(h:evOp O d (.build zero parts) s κ kp=some r): Pu P s (.build (zero.map I1) (parts.map λq=>(q.1,q.2.1,q.2.2.er))) d κ r:=by
 simp only[evOp]at h;obtain⟨k,b,c,l,e,f⟩:=If parts zero _ a.2 h;have j:(zero.map I1).map (λv=>bJ v)=zero.map aW:=by rw[h_];exact i_ λv g=>Fb (m_.1 a.1 v g)
 refine⟨_,⟨k,c,λq n=>by grind,?_⟩,f⟩;rw[j,<-e];rfl
theorem ue{t:Ty}:∀(parts:List X) (f:List t.den->Option R),parts.all X.wf=true->evOp.listT s t parts f=some r->∃xs:List t.den,(parts.map X.er).mapM (λx=>((enc s).get x).bind AV.toPV)=some (xs.map (aM t))/\xs.length=parts.length/\f xs=some r
 |[],f,_,h=>⟨[],rfl,rfl,h⟩
 |x::l,f,a,h=>by
  simp only[r_,b_]at a;simp only[evOp.listT]at h;split at h
  ·rename_i v d;split at h;·rename_i y e;obtain⟨xs,b,g,c⟩:=ue l _ a.2 h;refine⟨y::xs,?_,by grind,c⟩;rw[l_,k_,b];simp only[aJ a.1 d,p_,fV e];rfl
   grind
  grind
theorem oQ{t:Ty}(xs:List t.den):∀p∈xs.map (aM t),p.cells.length=t.sz/\p.ok=true:=λp hp=>by obtain⟨x,_,rfl⟩:=s_.1 hp;exact⟨aO t x,Hb t x⟩
theorem R1{tid:TypeId}{t:Ty}{len:Nat}{parts:List X}(g:parts.all X.wf=true)(h:evOp O d (.bslice false tid t len parts) s κ kp=some r):Pu P s (.bslice false tid t.sz len (parts.map X.er)) d κ r:=by simp only[evOp]at h;obtain⟨a,b⟩:=aV h;simp only[b_]at a;obtain⟨xs,c,e,f⟩:=ue parts _ g b;refine⟨_,⟨_,c,?_,f_ a.1.2,f_ a.2,oQ xs,.inl rfl⟩,f⟩;rw[o_,e];exact a_ a.1.1
theorem Ws{k:Av.K}:∀(vs:List V) (a:List PV) (n:Nat),(vs.map aW).mapM BV.toPV=some a->(∀j,j<vs.length->(vs.getD j .any).isNil=(k.at (n+j)).isSome/\(vs.getD j .any).isRaw=false)->
 (vs.map aW).mapM BV.toPVn=some ((a.zipIdx n).map fun(y,j)=>if(k.at j).isSome then nilP else y)
 |[],a,n,h,_=>by simp at h;subst h;rfl
 |v::vs,a,n,h,f=>by
  simp only[l_,k_,X_,ao_,Option.bind_eq_some_iff,e_]at h;obtain⟨p,c,b,g,rfl⟩:=h;have l:=Ws vs b (n+1) g λj r=>by have:=f (j+1) (by grind);simpa[show n+(j+1)=n+1+j by omega]using this
  obtain⟨d,e⟩:=f 0 (by simp);simp only[List.getD_cons_zero,av_]at d e;rw[l_,k_,l];have:(aW v).toPVn=some (if(k.at n).isSome then nilP else p):=by
   rw[<-d];cases v with
   |nil u=>rfl|raw u=>cases e|_=>first
    |exact c
    |cases c
  rw[this];rfl
theorem zcz{k:Av.K}{t:Ty}{v:V}{y:t.den}(hd:d6 t v=some y)(hn:zep k v=true):(aZ v).toPVn=some (Ed k t y):=by
 simp only[zep,b_,m_,List.mem_range,beq_iff_eq,x_]at hn;obtain⟨h,c⟩:=hn;have e:=fV hd;cases v with
 |nil u=>
  have a:=(c 0 (by simp[dw])).1;have d:(k.at 0).isSome=true:=by rw[<-a];rfl
  have l:aM t y= .list 0 []:=by have:(aZ (.nil u)).toPV=some (.list 0 []):=rfl;grind
  show some nilP=some (Ed k t y);unfold Ed;grind
 |agg vs=>
  have b:((vs.map aW).mapM BV.toPV).map PV.agg=some (aM t y):=e;obtain⟨g,a,d⟩:=n_.1 b;show((vs.map aW).mapM BV.toPVn).map PV.agg=_;rw[Ws (k:=k) vs g 0 a λj f=>by have:=c j f;rw[ad_];exact this]
  simp only[an_,Ed,<-d,List.mapIdx_eq_zipIdx_map]
 |_=>grind
theorem Lc{k:Av.K}{t:Ty}:∀(parts:List X) (f:List t.den->Option R),parts.all X.wf=true->evOp.listN s k t parts f=some r->∃xs:List t.den,(parts.map X.er).mapM (λx=>((enc s).get x).bind AV.toPVn)=some (xs.map (Ed k t))/\xs.length=parts.length/\f xs=some r
 |[],f,_,h=>⟨[],rfl,rfl,h⟩
 |x::l,f,a,h=>by
  simp only[r_,b_]at a;simp only[evOp.listN]at h;split at h
  ·rename_i v d;split at h;·rename_i y e;obtain⟨hn,h⟩:=aV h;obtain⟨xs,b,g,c⟩:=Lc l _ a.2 h;refine⟨y::xs,?_,by grind,c⟩;rw[l_,k_,b];simp only[aJ a.1 d,p_,zcz e hn];rfl
   grind
  grind
theorem NA(k:Av.K)(t:Ty)(x:t.den):(Ed k t x).cells=(aM t x).cells.mapIdx λj y=>if(k.at j).isSome then nilP else y:=by unfold Ed;cases h:aM t x with|agg cs=>rfl|_=>show(if(k.at 0).isSome then nilP else _).cells=[if(k.at 0).isSome then nilP else _];split<;>rfl
theorem Rt{k:Av.K}{t:Ty}(xs:List t.den):∀p∈xs.map (Ed k t),p.cells.length=t.sz/\p.ok=true:=λp hp=>by
 obtain⟨x,_,rfl⟩:=s_.1 hp;have hc:=NA k t x;refine⟨by rw[hc];simp[show(aM t x).cells.length=t.sz from aO t x],?_⟩;show(Ed k t x).cells.all PV.cellOk=true;rw[hc];have:=Hb t x;simp only[PV.ok,m_]at this⊢;intro y a;rw[List.mem_mapIdx]at a;obtain⟨i,b,rfl⟩:=a;split;·rfl
 grind
theorem Oe{tid:TypeId}{k:Av.K}{t:Ty}{len:Nat}{parts:List X}(g:parts.all X.wf=true)(h:evOp O d (.bsliceN tid k t len parts) s κ kp=some r):Pu P s (.bsliceN tid t.sz len (parts.map X.er)) d κ r:=by simp only[evOp]at h;obtain⟨a,b⟩:=aV h;simp only[b_]at a;obtain⟨xs,c,e,f⟩:=Lc parts _ g b;refine⟨_,⟨_,c,?_,f_ a.1.2,f_ a.2,Rt xs,rfl⟩,f⟩;rw[o_,e];exact a_ a.1.1
theorem Od{tid:TypeId}{t:Ty}{len:Nat}{parts:List X}(g:parts.all X.wf=true)(h:evOp O d (.bsliceF tid t len parts) s κ kp=some r):Pu P s (.bslice false tid t.sz len (parts.map X.er)) d κ r:=by simp only[evOp]at h;obtain⟨a,b⟩:=aV h;simp only[b_]at a;obtain⟨xs,c,e,f⟩:=ue parts _ g b;refine⟨_,⟨_,c,?_,f_ a.1.2,f_ a.2,oQ xs,.inr rfl⟩,f⟩;rw[o_,e];exact a_ a.1.1
theorem zbx{tid:TypeId}{t:Ty}{bytes:Nat}{x y:X}(b:x.wf=true/\y.wf=true)(h:evOp O d (.appD tid t bytes x y) s κ kp=some r):Pu P s (.appD tid t.sz bytes x.er y.er) d κ r:=by
 simp only[evOp]at h;obtain⟨z,ys,g,a,f⟩:=rF h;split at a;·rename_i u e;obtain⟨v,c⟩:=bH a;refine⟨.d (.list t) ys,⟨_,aJ b.1 e,_,aJ b.2 g,f _ ⟨λp hp=>(oQ ys p hp).2,[],.inl ⟨rfl,rfl⟩,by grind,rfl⟩⟩,c⟩
 ·rename_i u xs e;split at a;·rename_i zs w;obtain⟨j,k⟩:=bT w;have l:=Ty.list.inj j;subst l;have n:zs=xs:=k;subst n;obtain⟨v,c⟩:=bH a;refine⟨.d (.list u) (zs++ys),⟨_,aJ b.1 e,_,aJ b.2 g,f _ ⟨λp hp=>(oQ ys p hp).2,zs.map (aM u),.inr rfl,by grind,?_⟩⟩,c⟩;show AV.p _=AV.p _;rw[<-B_];rfl
  grind
 grind
theorem zeH{x:X}(c:x.wf=true)(h:evOp O d (.b2s x) s κ kp=some r):Pu P s (.b2s x.er) d κ r:=by
 simp only[evOp]at h;obtain⟨v,xs,e,b,hl⟩:=rF h;have a:∀l:List Int,bytesOf (l.map (aM (.int .u8)))=some l:=by intro l;induction l with|nil=>rfl|cons x l f=>show(bytesOf (l.map (aM (.int .u8)))).map (x::·)=_;grind
 refine⟨_,⟨_,aJ c e,hl _ ⟨_,a xs,?_⟩⟩,b⟩;rfl
theorem Ih:∀(caps:List X) (ids:List Nat),caps.all X.wf=true->evOp.capsOf s caps=some ids->(caps.map X.er).mapM (enc s).get=some (ids.map λi=>.b (.ptr i 0))
 |[],ids,_,h=>by cases h;rfl
 |x::l,ids,a,h=>by
  simp only[r_,b_]at a;simp only[evOp.capsOf]at h;split at h
  ·rename_i i b;split at h;·rename_i c hl;cases h;rw[l_,k_,aJ a.1 b,Ih l c a.2 hl];rfl
   grind
  grind
theorem K5:∀(caps:List X) (cs:List ((t:Ty)×t.den)),caps.all X.wf=true->evOp.capsD s caps=some cs->(caps.map X.er).mapM (enc s).get=some ((cs.map λc=>PV.pto (aM c.1 c.2)).map .p)
 |[],ids,_,h=>by cases h;rfl
 |x::l,ids,a,h=>by
  simp only[r_,b_]at a;simp only[evOp.capsD]at h;split at h
  ·rename_i i b;split at h;·rename_i d hl;cases h;rw[l_,k_,aJ a.1 b,K5 l d a.2 hl];rfl
   grind
  grind
theorem zbI{f:FuncId}{caps:List X}(b:caps.all X.wf=true)(h:evOp O d (.mkfn f caps) s κ kp=some r):Pu P s (.mkfn f (caps.map X.er)) d κ r:=by
 simp only[evOp]at h;split at h;·rename_i ids a;exact⟨_,⟨_,Ih caps ids b a,.inl ⟨ids,rfl,rfl⟩⟩,h⟩
 ·split at h;·rename_i cs hcs;exact⟨_,⟨_,K5 caps cs b hcs,.inr ⟨_,rfl,rfl⟩⟩,h⟩
  grind
theorem IK{k:IntKind}:∀(ys:List X) (f:List Int->Option R),ys.all X.wf=true->evOp.intsOf s k ys f=some r->∃a:List Int,(ys.map X.er).mapM (enc s).get=some (a.map λn=>.v (.int k n))/\f a=some r
 |[],f,_,h=>⟨[],rfl,h⟩
 |x::l,f,b,h=>by
  simp only[r_,b_]at b;simp only[evOp.intsOf]at h;split at h
  ·rename_i p n j;obtain⟨u,c⟩:=aV h;have g:p=k:=by grind
   subst g;obtain⟨a,d,e⟩:=IK l _ b.2 c;refine⟨n::a,?_,e⟩;rw[l_,k_,aJ b.1 j,d];rfl
  grind
theorem zbJ{mx:Bool}{k:IntKind}{x:X}{ys:List X}(c:x.wf=true/\ys.all X.wf=true)(h:evOp O d (.mnmx mx k x ys) s κ kp=some r):Pu P s (.mnmx mx k x.er (ys.map X.er)) d κ r:=by
 simp only[evOp]at h;split at h
 ·rename_i p n l;obtain⟨v,f⟩:=aV h;have e:p=k:=by grind
  subst e;obtain⟨u,g,j⟩:=IK ys _ c.2 f;refine⟨_,⟨_,aJ c.1 l,_,rfl,_,_,rfl,_,g,u,rfl,rfl,?_⟩,j⟩;have:(fun(a b:Int)=>if mx=true then max a b else min a b)=λa b=>bif mx then max a b else min a b:=by grind
  rw[this];rfl
 grind
theorem Tc:∀(t:Ty) (x y:t.den),t.eqOk=true->nH t x y=true->x=y
 | .int _,x,y,_,h=>by simpa[nH]using h
 | .bool,x,y,_,h=>by simpa[nH]using h
 | .str,x,y,_,h=>by simpa[nH]using h
 | .unit,_,_,_,_=>rfl
 | .pair a b,x,y,h,c=>by simp only[Ty.eqOk,b_]at h;simp only[nH,b_]at c;exact Prod.ext (Tc a x.1 y.1 h.1 c.1) (Tc b x.2 y.2 h.2 c.2)
theorem zid(a b:List UInt8):((⟨a.toArray⟩:ByteArray)==⟨b.toArray⟩)=(a==b):=(show _=(a.toArray==b.toArray)from rfl).trans (by simp)
theorem Ti(P:Program):∀(d:Nat) (t:TypeId) (u:Ty),He P d t u=true->∀x y:u.den,eqP P d t (aM u x) (aM u y)=some (nH u x y)/\Ka P d t (aM u x)=true:=by
 intro d;induction d with
 |zero=>intro t u h;simp[He]at h|succ d O=>
  intro t u h x y;unfold He at h;have J:∀(l:List Field) (off:Nat) (u:Ty) (x y:u.den) (xs ys:List PV),fsT P (He P d) l off u=true->off<=xs.length->xs.drop off=aP u x->off<=ys.length->ys.drop off=aP u y->
   eqP.eqFs P d l xs ys=some (nH u x y)/\(l.all λf=>f.name != "_" &&(match P.info? f.type with
    |some i=>(P.underlying f.type).isSome&&decide (f.offset+i.size<=xs.length)&&(mh P f.type||decide (i.size=1))&&Ka P d f.type ((PV.agg xs).sub f.offset i.size (mh P f.type))
    |none=>false))=true:=by
   intro l
   induction l with
   |nil=>intro off u x y xs ys h _ _ _ _;cases u<;>simp[fsT]at h;exact⟨by unfold eqP.eqFs;rfl,rfl⟩|cons f l A=>
    intro off u x y xs ys h n r p s;cases u<;>try (simp[fsT]at h;done)
    rename_i a b;simp only[fsT,b_]at h;obtain⟨⟨⟨⟨hn,w⟩,v⟩,L⟩,hr⟩:=h;have w:=a_ w;cases j:P.info? f.type with
    |none=>grind|some i=>
     rw[j]at v;simp only[b_]at v;obtain⟨⟨hsz,e⟩,c⟩:=v;have hsz:=a_ hsz;have c:mh P f.type=a.ag:=by grind
     have g:f.name≠ "_" :=by grind
     have cut:∀(z:(Ty.pair a b).den) (zs:List PV),off<=zs.length->zs.drop off=aP (.pair a b) z->(PV.agg zs).sub f.offset i.size (mh P f.type)=aM a z.1/\f.offset+i.size<=zs.length/\zs.drop (off+a.sz)=aP b z.2:=by
      intro z zs M hd;have hc:aP (.pair a b) z=aP a z.1++aP b z.2:=rfl;rw[hc]at hd;have hl:=congrArg ai_ hd;simp only[af_,w_,aO]at hl;refine⟨?_,by omega,?_⟩
      ·rw[w,hsz,c];refine TS ?_ ?_;·show(zs.drop off).take a.sz=_;rw[hd,I_ (by rw[aO];simp),q_ (by rw[aO];simp)]
       ·show off+a.sz<=zs.length;omega
      ·rw[<-ap_,hd,List.drop_append_of_le_length (by rw[aO];simp),List.drop_of_length_le (by rw[aO];simp),al_]
     obtain⟨D,Q,E⟩:=cut x xs n r;obtain⟨F,R,H⟩:=cut y ys p s;obtain⟨I,k1⟩:=O f.type a L x.1 y.1;obtain⟨T,k2⟩:=A (off+a.sz) b x.2 y.2 xs ys hr (by omega) E (by omega) H;have B:mh P f.type=false->i.size=1:=λh=>by rw[hsz];exact jf (by grind)
     refine⟨?_,?_⟩
     ·unfold eqP.eqFs;rw[if_neg g,j];simp only[p_];rw[if_neg (by
       rintro(h|h|h|h);·rw[O_]at h;grind
       all_goals grind),D,F,I]
      simp only[p_,nH];grind
     grind
  have st:∀fl,P.underlying t=some (.struct fl)->(!P.stoodInHeld t&&fsT P (He P d) fl.toList 0 u)=true->eqP P (d+1) t (aM u x) (aM u y)=some (nH u x y)/\Ka P (d+1) t (aM u x)=true:=by
   intro fl e h;simp only[b_]at h;have N:P.stoodInHeld t=false:=by grind
   have c:u.ag=true:=by cases hl:fl.toList with|nil=>rw[hl]at h;cases u<;>simp[fsT]at h;rfl|cons f l=>rw[hl]at h;cases u<;>simp[fsT]at h;rfl
   obtain⟨U,Y⟩:=J fl.toList 0 u x y (aP u x) (aP u y) h.2 (ay_ _) rfl (ay_ _) rfl;rw[fW x c,fW y c];refine⟨?_,?_⟩;·unfold eqP;grind
   ·unfold Ka;grind
  split at h;·rename_i e;exact⟨by unfold eqP;rw[e];rfl,by unfold Ka;rw[e];rfl⟩
  ·rename_i k C e;refine⟨?_,by unfold Ka;rw[e];rfl⟩;unfold eqP;rw[e];show(if C=C then some (_==_)else none)=_;rw[if_pos rfl];rfl
  ·rename_i e;refine⟨?_,by unfold Ka;rw[e];rfl⟩;unfold eqP;rw[e];show some (_==_)=_;rw[zid];rfl
  all_goals grind
theorem zeK{neg:Bool}{tid:TypeId}{t:Ty}{x y:X}(c:x.wf=true/\y.wf=true/\He P 64 tid t=true)(h:evOp O d (.eqT neg tid t x y) s κ kp=some r):Pu P s (.eqT neg tid x.er y.er) d κ r:=by
 simp only[evOp]at h;split at h
 ·rename_i v u j k;split at h;·rename_i a b f g;obtain⟨_,e⟩:=aV h;refine⟨_,⟨_,aJ c.1 j,_,aJ c.2.1 k,_,fV f,_,fV g,_,(Ti P 64 tid t c.2.2 a b).1,?_⟩,e⟩;rfl
  grind
 grind
theorem NH{k:TypeId}{a b:Ty}(n:He P 64 k a=true)(y:a.den):∀(kvs:List (a.den×b.den)) (i:Nat),(∀e∈kvs.map (λp=>(aM a p.1,aM b p.2)),(eqP P 64 k (aM a y) e.1).isSome=true)/\
 ((jU a b kvs y=none/\CN P k (aM a y) (kvs.map λp=>(aM a p.1,aM b p.2)) i=some none)\/∃j v d,jU a b kvs y=some v/\kvs[j]? =some (d,v)/\nH a y d=true/\(∀i' e,i'<j->kvs[i']? =some e->nH a y e.1=false)/\CN P k (aM a y) (kvs.map λp=>(aM a p.1,aM b p.2)) i=some (some (i+j,aM b v)))
 |[],i=>⟨λe h=>(by grind),.inl ⟨rfl,rfl⟩⟩
 |(d,v)::l,i=>by
  obtain⟨B,r⟩:=NH n y l (i+1);have E:=(Ti P 64 k a n y d).1;refine⟨λe h=>?_,?_⟩;·grind
  ·have c:CN P k (aM a y) (((d,v)::l).map λp=>(aM a p.1,aM b p.2)) i=if nH a y d=true then some (some (i,aM b v))else CN P k (aM a y) (l.map λp=>(aM a p.1,aM b p.2)) (i+1):=by show(eqP P 64 k (aM a y) (aM a d)).bind _=_;grind
   cases f:nH a y d
   ·rw[f]at c;simp only[K_,if_false]at c;have hg:jU a b ((d,v)::l) y=jU a b l y:=by simp[jU,f]
    rcases r with⟨s,w⟩|⟨j,u,A,s,w,x,D,C⟩;·grind
    ·refine .inr ⟨j+1,u,A,by grind,by grind,x,λi' e g z=>?_,by grind⟩;grind
   ·rw[f]at c;refine .inr ⟨0,v,d,by simp[jU,f],rfl,f,λi' e g=>absurd g (by simp),by grind⟩
theorem Wa{k:TypeId}{a:Ty}(b:He P 64 k a=true):(P.underlying k).isSome=true:=by unfold He at b;grind
theorem zh1{b:Ty}(h:b.sc=true):aM b b.zero= .sc (wh b):=by cases b<;>simp[Ty.sc]at h<;>rfl
theorem R2{k e:TypeId}{ok:Bool}{a b:Ty}{m x:X}(g:m.wf=true/\x.wf=true/\He P 64 k a=true/\b.sc=true)(h:evOp O d (.lookup k e ok a b m x) s κ kp=some r):Pu P s (.lookup k e ok (wh b) m.er x.er) d κ r:=by
 simp only[evOp]at h;split at h
 ·rename_i id v R U;split at h
  ·rename_i k' e' n f kvs y T Y;split at h
   ·rename_i c u;obtain⟨p,A⟩:=aV h;simp only[b_]at p;have C:=a_ p.1.1;have D:=a_ p.1.2;obtain⟨E,F⟩:=bT u;have H:=Ty.list.inj E;injection H with I J;clear h p;subst C;subst D;subst I;subst J;have L:c=kvs:=F;subst L;obtain⟨M,N⟩:=NH (P:=P) (b:=f) g.2.2.1 y c 0;have l:∀(K:AV->Prop) (ok:Bool),K (match ok with
     |true=>.tup [.pv (aM f ((jU n f c y).getD f.zero)),.pv (.sc (.bool (jU n f c y).isSome))]
     |false=>.p (aM f ((jU n f c y).getD f.zero)))->ou P (enc s) (.lookup k e ok (wh f) m.er x.er) K:=by
     intro K ok B
     refine⟨_,aJ g.1 R,_,aJ g.2.1 U,id,_,rfl,by rw[bR,T];rfl,_,fV Y,(Ti P 64 k n g.2.2.1 y y).2,Wa g.2.2.1,M,?_⟩
     rcases N with⟨w,z⟩|⟨j,v,k',w,z,g5,g7,Q⟩
     ·refine⟨_,z,?_⟩;rw[w]at B;simp only[Option.getD_none,zh1 g.2.2.2]at B;grind
     ·refine⟨_,Q,?_⟩;grind
    cases ok with|true=>exact⟨_,l _ true rfl,A⟩|false=>exact⟨_,l _ false rfl,A⟩
   grind
  grind
 grind
end
theorem jD(a b:Nat):c_ a b=decide (a=b):=by
 cases h:c_ a b;·exact(decide_eq_false λe=>by rw[e,aw_]at h;grind).symm
 ·exact(decide_eq_true (a_ h)).symm
theorem J8(l:List Nat)(x:Nat):r8 l x=l.contains x:=by induction l with|nil=>rfl|cons y l a=>simp only[r8,List.any_cons,List.contains_cons]at a⊢;rw[a];congr 1;rw[jD];grind
theorem inL_mem{l:List Nat}{x:Nat}:r8 l x=true↔x∈l:=by rw[J8,R_]
theorem allIn_mem{l m:List Nat}:allIn l m=true↔∀i∈m,i∈l:=by simp only[allIn,m_,inL_mem]
theorem M2:Vh=lG:=by
 funext B n k;unfold Vh lG;by_cases h:k<B.length;·rw[if_pos h,Nat.ble_eq_true_of_le h];rfl
 ·rw[if_neg h];have:j_ (k+1) B.length=false:=by
   cases a:j_ (k+1) B.length;·rfl
   ·exact absurd (f_ a) h
  grind
theorem YN(v:Value)(ρ:Nat->Nat):(bJ v).ren ρ=bJ v:=by unfold bJ;split<;>rfl
theorem G4(v:Value):(bJ v).ids=[]:=by unfold bJ;split<;>rfl
theorem Vu(v:Value)(i:Nat):(bJ v).kill i=bJ v:=by unfold bJ;split<;>rfl
theorem SP(v:Value)(B:List Nat):(bJ v).killB B=bJ v:=by unfold bJ;split<;>rfl
theorem Nz(ρ:Nat->Nat)(v:V):aW (v.ren ρ)=(aW v).ren ρ:=by cases v<;>first|rfl|exact(YN _ ρ).symm
theorem IE(v:V):v.ids1=(aW v).ids:=by cases v<;>first|rfl|exact(G4 _).symm
theorem J2(id:Nat)(v:V):aW (v.kill1 id)=(aW v).kill id:=by
 cases v<;>first|rfl|exact(Vu _ id).symm|skip
 ·rename_i k;show aW (bif c_ k id then .any else .sl k)=if k=id then _ else _;rw[jD];by_cases h:k=id<;>simp[h,aW]
 ·rename_i k i o;show aW (bif c_ k id then .any else .elt k i o)=if k=id then _ else _;rw[jD];by_cases h:k=id<;>simp[h,aW]
theorem Ha(B:List Nat)(v:V):aW (BQ B v)=(aW v).killB B:=by
 cases v<;>first|rfl|exact(SP _ B).symm|skip
 ·rename_i k;show aW (bif r8 B k then .any else .sl k)=if B.contains k=true then _ else _;rw[J8];cases h:B.contains k<;>simp[aW]
 ·rename_i k i o;show aW (bif r8 B k then .any else .elt k i o)=if B.contains k=true then _ else _;rw[J8];cases h:B.contains k<;>simp[aW]
theorem sB{v:V}(h:v.isA=false):aZ v= .b (aW v):=by cases v<;>first|rfl|cases h
theorem zei{g:V->V}{v:V}(h:v.isA=false):sR g v=g v:=by cases v<;>first|rfl|cases h
theorem Nx{g:V->V}{G:BV->BV}(hg:∀v,aW (g v)=G (aW v))(b:∀v,v.isA=false->(g v).isA=false)(v:V): aZ (sR g v)=(match aZ v with| .b x=>.b (G x)| .agg xs=>.agg (xs.map G)| .tup xs=>.tup (xs.map G)):=by
 have c:∀vs:List V,(vs.map g).map aW=(vs.map aW).map G:=λvs=>by rw[h_,h_];exact i_ λv _=>hg v
 cases a:v.isA;·rw[zei a,sB a,sB (b v a),hg]
 ·cases v with|agg vs=>show AV.agg _=AV.agg _;grind|tup vs=>show AV.tup _=AV.tup _;grind|_=>cases a
theorem Ny(ρ:Nat->Nat)(v:V):aZ (sR (V.ren ρ) v)=(aZ v).ren ρ:=by
 rw[Nx (G:=BV.ren ρ) (Nz ρ) λv h=>by cases v<;>first|rfl|cases h]
 cases aZ v<;>rfl
theorem zce(id:Nat)(v:V):aZ (sR (V.kill1 id) v)=(aZ v).kill id:=by
 rw[Nx (G:=BV.kill id) (J2 id) λv h=>by cases v<;>first|rfl|(simp only[V.kill1];cases c_ _ id<;>rfl)|cases h]
 cases aZ v<;>rfl
theorem YU(B:List Nat)(v:V):aZ (sR (BQ B) v)=(aZ v).killB B:=by
 rw[Nx (G:=BV.killB B) (Ha B) λv h=>by cases v<;>first|rfl|(simp only[BQ];cases r8 B _<;>rfl)|cases h]
 cases aZ v<;>rfl
theorem wI(v:V):v.ids=(aZ v).ids:=by
 have b:∀vs:List V,vs.flatMap V.ids1=(vs.map aW).flatMap BV.ids:=λvs=>by induction vs with|nil=>rfl|cons v vs c=>simp only[aa_,l_,c,IE]
 cases a:v.isA
 ·rw[sB a];have:v.ids=v.ids1:=by cases v<;>first|rfl|cases a
  rw[this];exact IE v
 ·cases v with|agg vs=>exact b vs|tup vs=>exact b vs|_=>cases a
theorem IF(ρ:Nat->Nat)(o:Ob):bV (Ex (V.ren ρ) o)=(bV o).ren ρ:=by
 cases o<;>first|rfl|skip
 rotate_left
 ·rename_i hole;cases hole with|none=>rfl|some q=>obtain⟨i,j,v⟩:=q;show AObj.tree _ _ _ _ (some (_,_,aW _))=AObj.tree _ _ _ _ (some (_,_,_));rw[Nz ρ v]
 show AObj.box _ _=AObj.box _ _;rw[h_,h_];congr 1;exact i_ λv _=>Nz ρ v
theorem zcf(id:Nat)(o:Ob):bV (Ex (V.kill1 id) o)=(bV o).kill id:=by
 cases o<;>first|rfl|skip
 rotate_left
 ·rename_i hole;cases hole with|none=>rfl|some q=>obtain⟨i,j,v⟩:=q;show AObj.tree _ _ _ _ (some (_,_,aW _))=AObj.tree _ _ _ _ (some (_,_,_));rw[J2 id v]
 show AObj.box _ _=AObj.box _ _;rw[h_,h_];congr 1;exact i_ λv _=>J2 id v
theorem YV(B:List Nat)(o:Ob):bV (Ex (BQ B) o)=(bV o).killB B:=by
 cases o<;>first|rfl|skip
 rotate_left
 ·rename_i hole;cases hole with|none=>rfl|some q=>obtain⟨i,j,v⟩:=q;show AObj.tree _ _ _ _ (some (_,_,aW _))=AObj.tree _ _ _ _ (some (_,_,_));rw[Ha B v]
 show AObj.box _ _=AObj.box _ _;rw[h_,h_];congr 1;exact i_ λv _=>Ha B v
theorem NB(o:Ob):o.ids=(bV o).ids:=by
 cases o<;>first|rfl|skip
 rotate_left
 ·rename_i hole;cases hole with|none=>rfl|some q=>obtain⟨i,j,v⟩:=q;exact IE v
 show au_ _ _=au_ _ (List.map _ _);rw[List.flatMap_map];congr 1;funext v;exact IE v
theorem J4(s:S)(id:Nat)(o:Ob):enc (s.moved id o)=(enc s).moved id (bV o):=by
 simp only[enc,S.moved,St.moved,gZ,h_,List.map_set];congr 1;·exact i_ λx _=>by simp[zce]
 ·congr 1;exact i_ λo _=>zcf id o
theorem Rj(B:List Nat)(os:List Ob)(n:Nat):∀(l:List Ob) (i:Nat),(zaU B os n i l).map bV=(l.map bV).mapIdx (λj o=>if B.contains (i+j)then(((os.map bV).getD (B.idxOf (i+j)) .gone).ren (lG B n))else o.killB B)
 |[],_=>rfl
 |o::l,i=>by
  simp only[zaU,l_,List.mapIdx_cons,av_];rw[Rj B os n l (i+1)];congr 1
  ·rw[J8];cases h:B.contains i;·simp[YV]
   ·simp only[cond_true,if_true,IF,M2,V2];congr 1;simp only[T_,u_];cases os[B.idxOf i]? <;>rfl
  grind
theorem VO(s:S)(B:List Nat)(os:List Ob):enc (s.back B os)=(enc s).back B (os.map bV):=by
 simp only[enc,S.back,St.back,q8];congr 1;·rw[h_,h_];exact i_ λx _=>by simp[YU]
 ·rw[B_,Rj];congr 1;·simp
  ·rw[<-A_,h_,h_];exact i_ λo _=>by simp[IF,M2]
section
variable {P:Program} {s:S}
theorem Lg:∀(B:List Nat) (os:List Ob),zbq s B=some os->B.mapM ((enc s).hp[·]?)=some (os.map bV)
 |[],os,h=>by cases h;rfl
 |i::B,os,h=>by
  simp only[zbq]at h;split at h
  ·rename_i o a;split at h;·rename_i l hl;cases h;rw[k_,Lg B l hl,bR,a];rfl
   grind
  grind
theorem zcw{α β:Type}{f:α->Option β}{l:List α}{x:α}(a:x∈l)(h:f x=none):l.mapM f=none:=by
 induction l with
 |nil=>grind|cons y l b=>
  rw[k_];rcases ar_.1 a with rfl|a;·grind
  ·rw[b a];simp
theorem XV{hp:List AObj}{bor:Bool}{B:List Nat}{t:Ty}{v:V}{x:t.den}(h:d6 t v=some x):wE hp bor B (aZ v)=some (aZ (.d t x)):=by
 have hd:=fV h;cases v with
 |d u y=>obtain⟨b,_⟩:=bO (show cg u t y=some x from h);show some (AV.p _)=some (AV.p _);grind
 |nil u=>obtain⟨b,_⟩:=bO (show cg (.list u) t []=some x from h);show some (AV.p _)=some (AV.p (aM t x));rw[b];rfl
 |full u y=>obtain⟨b,_⟩:=bO (show cg (.list u) t y=some x from h);show some (AV.p _)=some (AV.p (aM t x));rw[b];rfl
 |agg vs=>have a:((vs.map aW).mapM BV.toPV).map PV.agg=some (aM t x):=hd;show(if((vs.map aW).mapM BV.toPV).isSome=true then _ else _)=_;cases c:(vs.map aW).mapM BV.toPV with|none=>grind|some cs=>rw[c]at a;simp only[Option.isSome_some,if_true];show(((vs.map aW).mapM BV.toPV).map PV.agg).map AV.p=_;rw[c,a];rfl
 |_=>simp[d6,mP]at h
theorem U9{bor:Bool}{B:List Nat}{a:Arg×X}{v:V}(g:a.2.wf=true)(h:Rh s bor B a=some v)(k:∀i∈v.ids,i∈B):((enc s).get a.2.er).bind (wE (enc s).hp bor B)=some (aZ v):=by
 obtain⟨a,x⟩:=a;simp only[Rh]at h;split at h
 ·rename_i t id c;obtain⟨d,b⟩:=aV h;simp only[b_,x_]at d;split at b
  ·rename_i e u xs l;split at b
   ·rename_i ys f;cases b;obtain⟨n,p⟩:=bO f;rw[aJ g c,p_];have j:B.contains id=false:=by rw[<-J8];grind
    show(if B.contains id=true then _ else _)=_;rw[j];simp only[K_,if_false];show(if bor=true then TL (enc s).hp id else none).map AV.p=_;rw[d.1,if_pos rfl,TL,bR,l];show some (AV.p (aM (.list u) xs))=some (AV.p (aM (.list t) ys));grind
   grind
  ·rename_i e kk u xs l;split at b
   ·rename_i ys f;cases b;obtain⟨n,p⟩:=bO f;rw[aJ g c,p_];have j:B.contains id=false:=by rw[<-J8];grind
    show(if B.contains id=true then _ else _)=_;rw[j];simp only[K_,if_false];show(if bor=true then TL (enc s).hp id else none).map AV.p=_;rw[d.1,if_pos rfl,TL,bR,l];show some (AV.p (aM (.list u) xs))=some (AV.p (aM (.list t) ys));grind
   grind
  grind
 ·rename_i t z _ c;split at h;·rename_i y f;cases h;rw[aJ g c,p_];exact XV f
  grind
 ·rename_i z c;rw[aJ g c,p_];split at h;·grind
  ·grind
  ·grind
  ·grind
  ·rename_i vs;obtain⟨d,b⟩:=aV h;cases b;obtain⟨u,r,hr⟩:=G_.1 d;have:(vs.map aW).mapM BV.toPV=none:=zcw (V_ r) (by cases u<;>first|rfl|cases hr)
   show(if((vs.map aW).mapM BV.toPV).isSome=true then _ else _)=_;rw[this];rfl
  ·rename_i A C D E F;cases h;cases v<;>first|rfl|skip
   ·grind
   ·grind
   ·rename_i id;have:B.contains id=true:=R_.2 (k id (by simp[V.ids,V.ids1]));show(if B.contains id=true then _ else _)=_;rw[this];rfl
   ·grind
   ·rename_i w;show wE _ _ _ (AV.b (bJ w))=some (AV.b (bJ w));unfold bJ;split;·grind
    ·rfl
 grind
theorem Ba{bor:Bool}{B:List Nat}:∀(l:List (Arg×X)) (vs:List V),nS l=true->yI s bor B l=some vs->(∀v∈vs,∀i∈v.ids,i∈B)->(l.map λa=>a.2.er).mapM (λx=>((enc s).get x).bind (wE (enc s).hp bor B))=some (vs.map aZ)
 |[],vs,_,h,_=>by cases h;rfl
 |a::l,vs,c,h,b=>by
  simp only[nS,r_,b_]at c;simp only[yI]at h;split at h
  ·rename_i v f;split at h;·rename_i us d;cases h;rw[l_,k_,U9 c.1 f (b v (by simp)),Ba l us c.2 d λu e=>b u (by grind)];rfl
   grind
  grind
end
theorem Oq{v w:V}(h:V.same v w=true):aZ v=aZ w/\aW v=aW w/\(aW v).FlatB:=by
 unfold V.same at h;split at h;·have e:=a_ h;subst e;exact⟨rfl,rfl,trivial⟩
 ·simp only[b_]at h;have e:=a_ h.1;have a:=a_ h.2;subst e;subst a;exact⟨rfl,rfl,trivial⟩
 ·have e:=a_ h;subst e;exact⟨rfl,rfl,trivial⟩
 ·simp only[b_,decide_eq_true_eq]at h;have e:=a_ h.1;have a:=h.2;subst e;subst a;exact⟨rfl,rfl,trivial⟩
 ·exact⟨rfl,rfl,trivial⟩
 ·exact⟨rfl,rfl,.sc _⟩
 ·exact⟨rfl,rfl,.sc _⟩
 ·exact⟨rfl,rfl,.sc _⟩
 ·exact⟨rfl,rfl,.sc _⟩
 grind
theorem ze9{v w:V}(h:V.same v w=true):v.isA=false:=by unfold V.same at h;split at h<;>first|rfl|cases h
theorem zis{v:V}{t:Ty}{x:t.den}(h:mP t v=some x):LeB (aW v) (aW (.d t x)):=.data _ _ (uc h)
theorem zir{v:V}{t:Ty}{x:t.den}(h:d6 t v=some x):LeA (aZ v) (aZ (.d t x)):=.data _ _ (fV h)
def LeC(cs ds:List V):Prop:=cs.length=ds.length/\∀(i:Nat) (x y:V),cs[i]? =some x->ds[i]? =some y->LeB (aW x) (aW y)
theorem LeC.refl(cs:List V):LeC cs cs:=⟨rfl,λi x y E z=>by rw[E]at z;cases z;exact .refl _⟩
theorem LeC.box{t:TypeId}{cs ds:List V}(h:LeC cs ds):LeO (bV (.box t cs)) (bV (.box t ds)):= .box t _ _ (by simp[h.1]) λi x y z E=>by simp only[u_,n_]at z E;obtain⟨u,H,rfl⟩:=z;obtain⟨v,I,rfl⟩:=E;exact h.2 i u v H I
theorem DU:∀(cs ds:List V),q9 cs ds=true->LeC ds cs/\∀v∈cs,(aW v).FlatB
 |[],[],_=>⟨⟨rfl,λi x y n=>by simp⟩,λv c=>by grind⟩
 |[],_::_,h=>by simp[q9]at h
 |x::l,[],h=>by cases x<;>simp[q9]at h
 |x::l,y::m,h=>by
  have key:LeB (aW y) (aW x)/\(aW x).FlatB/\q9 l m=true:=by
   unfold q9 at h;split at h;·grind
   ·rename_i l1 g d a b;cases a;cases b;exact⟨.any _,.any,h⟩
   ·rename_i xs l1 ys d a b;cases a;cases b;simp only[b_]at h;exact⟨.refl _,.any,h.2⟩
   ·rename_i p l1 g d _ _ a b;cases a;cases b;simp only[b_]at h;obtain⟨_,e,f⟩:=Oq h.1;exact⟨by rw[e];exact .refl _,f,h.2⟩
   grind
  obtain⟨⟨a,b⟩,j⟩:=DU l m key.2.2;refine⟨⟨by grind,λi u v k c=>?_⟩,λv c=>?_⟩;all_goals grind
def Slot.obj:Slot->Option Nat
 | .vec id _ _=>some id
 | .map id _ _ _ _=>some id
 | .tree id _ _ _=>some id
 | .treeH id _ _ _ _ _=>some id
 |_=>none
inductive LikeO:Ob->Ob->Prop
 |vec (e:TypeId) (t:Ty) (xs ys:List t.den):LikeO (.vec e t xs) (.vec e t ys)
 |map (k e:TypeId) (a c:Ty) (xs ys:List (a.den×c.den)):LikeO (.map k e a c xs) (.map k e a c ys)
 |tree (e:TypeId) (k:Av.K) (t:Ty) (xs ys:List t.den):LikeO (.tree e k t xs none) (.tree e k t ys none)
 |treeH (e:TypeId) (k:Av.K) (t:Ty) (xs ys:List t.den) (i i' j kid:Nat):LikeO (.tree e k t xs (some (i,j,.sl kid))) (.tree e k t ys (some (i',j,.sl kid)))
def ObLe(l:List Slot)(i:Nat)(o b:Ob):Prop:=
 b= .gone\/(∃t cs ds,o= .box t cs/\b= .box t ds/\LeC cs ds)\/b=o\/(LikeO o b/\∃x∈l,x.obj=some i)
theorem ObLe.le{i:Nat}{o b:Ob}(h:ObLe [] i o b):LeO (bV o) (bV b):=by
 rcases h with rfl|⟨t,cs,ds,rfl,rfl,h⟩|rfl|⟨_,x,h,_⟩;·exact .gone _
 ·exact h.box
 ·exact .refl _
 grind
theorem ObLe.weak{l:List Slot}{x:Slot}{i:Nat}{o b:Ob}(h:ObLe (x::l) i o b)(E:x.obj≠some i):ObLe l i o b:=by
 rcases h with h|h|h|⟨h,y,H,z⟩;·exact .inl h
 ·exact .inr (.inl h)
 ·exact .inr (.inr (.inl h))
 ·exact .inr (.inr (.inr ⟨h,y,(ar_.1 H).resolve_left λe=>E (by grind),z⟩))
def TM(hp:List Ob):Slot->Prop
 | .vec id e t=>∃ys,hp[id]? =some (.vec e t ys)
 | .map id k e a b=>∃ys,hp[id]? =some (.map k e a b ys)
 | .tree id e k t=>∃ys,hp[id]? =some (.tree e k t ys none)
 | .treeH id e k t j kid=>∃ys i,hp[id]? =some (.tree e k t ys (some (i,j,.sl kid)))
 |_=>True
def LeF(fr fr':List (Nat×V)):Prop:=∀k v,lk fr' k=some v->∃u,lk fr k=some u/\LeA (aZ u) (aZ v)
structure LeP(l:List Slot)(s b:S):Prop where
 fr:LeF s.fr b.fr
 len:s.hp.length=b.hp.length
 hp:∀(i:Nat) (o o':Ob),s.hp[i]? =some o->b.hp[i]? =some o'->ObLe l i o o'
 on:∀x∈l,TM b.hp x
theorem Ot{hp:List Ob}{id:Nat}{o:Ob}{x:Slot}(h:TM hp x)(r:∀o',hp[id]? =some o'->(∀z,¬LikeO o' z)\/LikeO o' o):TM (hp.set id o) x:=by
 have l:∀(j:Nat) (o':Ob),hp[j]? =some o'->(∃z,LikeO o' z)->∃g,(hp.set id o)[j]? =some g/\(LikeO o' g\/g=o'):=λj o' p s=>by grind
 cases x with
 |vec j e t=>
  obtain⟨ys,f⟩:=h;obtain⟨g,c,d|rfl⟩:=l j _ f ⟨_,.vec e t ys ys⟩;·cases d;exact⟨_,c⟩
  ·exact⟨_,c⟩
 |map j k e a b=>
  obtain⟨ys,f⟩:=h;obtain⟨g,c,d|rfl⟩:=l j _ f ⟨_,.map k e a b ys ys⟩;·cases d;exact⟨_,c⟩
  ·exact⟨_,c⟩
 |tree j e k t=>
  obtain⟨ys,f⟩:=h;obtain⟨g,c,d|rfl⟩:=l j _ f ⟨_,.tree e k t ys ys⟩;·cases d;exact⟨_,c⟩
  ·exact⟨_,c⟩
 |treeH j e k t n kid=>
  obtain⟨ys,i,f⟩:=h;obtain⟨g,c,d|rfl⟩:=l j _ f ⟨_,.treeH e k t ys ys i i n kid⟩;·cases d;exact⟨_,_,c⟩
  ·exact⟨_,_,c⟩
 |_=>trivial
theorem Wt{t:TypeId}{cs:List V}(z:Ob):¬LikeO (.box t cs) z:=λh=>by cases h
theorem LeF.put{fr fr':List (Nat×V)}(h:LeF fr fr'){k:Nat}{u v:V}(I:lk fr k=some u)(H:LeA (aZ u) (aZ v)):LeF fr ((k,v)::fr'):=λj w z=>by
 simp only[lk]at z;cases E:c_ j k;·rw[E]at z;exact h j w z
 ·rw[E]at z;simp only[cond_true,e_]at z;have:=a_ E;grind
theorem LeP.set{s:S}{x:Slot}{l:List Slot}{b:S}(h:LeP (x::l) s b){id:Nat}{o ob:Ob}(hx:x.obj=some id)(N:s.hp[id]? =some o)(J:b.hp[id]? =some ob)(hl:LikeO ob o):LeP l s ⟨b.fr,setAt b.hp id o⟩:=by
 have hid:=(g_.1 J).1;rw[gZ];refine⟨h.fr,by simp[h.len],λi R U H E=>?_,λz hz=>Ot (h.on z (by grind)) (λo' Y=>by grind)⟩;by_cases I:id=i;·subst I;rw[E_ hid]at E;cases E;rw[N]at H;cases H;exact .inr (.inr (.inl rfl))
 ·rw[v_ I]at E;exact(h.hp i R U H E).weak (by grind)
theorem sZ(s:S):∀(l:List Slot) (c:HL l) (b:S),N6 s l=some c->LeP l s b->LeP [] s (unpack l c b)
 |[],_,b,_,h=>h
 |x::l,c,b,hc,h=>by
  simp only[N6]at hc;split at hc
  ·rename_i y f;split at hc
   ·rename_i L r;cases hc;cases x with
    |tm k t=>
     simp only[kI]at f;split at f;·rename_i v T;exact sZ s l L _ r ⟨h.fr.put T (zir f),h.len,λi o o' J C=>(h.hp i o o' J C).weak (by simp[Slot.obj]),λz P=>h.on z (by grind)⟩
     grind
    |cell id j t=>
     simp only[kI]at f;split at f
     ·rename_i u cs p;split at f
      ·rename_i v T;refine sZ s l L _ r ?_;unfold setCell;split
       ·rename_i t' ds g;rw[gZ,gZ];have hid:=(g_.1 g).1;refine⟨h.fr,by simp[h.len],λi o o' J C=>?_,λz P=>Ot (h.on z (by grind)) (λo' d=>by rw[g]at d;cases d;exact .inl Wt)⟩;by_cases hi:id=i
        ·subst hi;rw[E_ hid]at C;cases C;rw[p]at J;cases J;have e0:∃U D E,Ob.box u cs= .box U D/\Ob.box t' ds= .box U E/\LeC D E:=by
          rcases h.hp id _ _ p g with d|e0|d|⟨d,_⟩;·grind
          ·omega
          ·cases d;exact⟨_,_,_,rfl,rfl,rfl,λi x y hx f=>by rw[hx]at f;cases f;exact .refl _⟩
          ·cases d
         obtain⟨U,D,E,F,B,A⟩:=e0
         ·cases F;cases B;refine .inr (.inl ⟨_,_,_,rfl,rfl,by simp[A.1],λi u w R M=>?_⟩);by_cases N:j=i
          ·subst N;rw[List.getElem?_set]at M;split at M
           ·split at M;·cases M;rw[T]at R;cases R;exact zis f
            grind
           omega
          ·rw[v_ N]at M;exact A.2 i u w R M
        ·rw[v_ hi]at C;exact(h.hp i o o' J C).weak (by simp[Slot.obj])
       ·exact⟨h.fr,h.len,λi o o' J C=>(h.hp i o o' J C).weak (by simp[Slot.obj]),λz P=>h.on z (by grind)⟩
      grind
     grind
    |vec id e t=>
     simp only[kI]at f;split at f
     ·rename_i Y u xs p;obtain⟨B,A⟩:=bT f;have H:=Ty.list.inj B;subst H;have I:y=xs:=A;subst I;obtain⟨ys,g⟩:=h.on _ (C_ ..);have Q:LikeO (.vec Y u y) (.vec e u ys):=by
       rcases h.hp id _ _ p g with d|⟨_,_,_,d,_⟩|d|⟨d,_⟩;·grind
       ·grind
       ·cases d;exact .vec _ _ _ _
       omega
      have n:Y=e:=by cases Q;rfl
      subst n;exact sZ s l L _ r (h.set rfl p g (.vec _ _ _ _))
     grind
    |map id k e a b'=>
     simp only[kI]at f;split at f
     ·rename_i O F a1 b1 xs p;obtain⟨B,A⟩:=bT f;have H:=Ty.list.inj B;injection H with e6 e7;subst e6;subst e7;have I:y=xs:=A;subst I;obtain⟨ys,g⟩:=h.on _ (C_ ..);have n:O=k/\F=e:=by
       rcases h.hp id _ _ p g with d|⟨_,_,_,d,_⟩|d|⟨d,_⟩;·grind
       ·grind
       ·grind
       ·cases d;simp
      obtain⟨rfl,rfl⟩:=n;exact sZ s l L _ r (h.set rfl p g (.map _ _ _ _ _ _))
     grind
    |tree id e k t=>
     simp only[kI]at f;split at f
     ·rename_i F O u xs p;obtain⟨B,A⟩:=bT f;have H:=Ty.list.inj B;subst H;have I:y=xs:=A;subst I;obtain⟨ys,g⟩:=h.on _ (C_ ..);have n:F=e/\O=k:=by
       rcases h.hp id _ _ p g with d|⟨_,_,_,d,_⟩|d|⟨d,_⟩;·grind
       ·grind
       ·grind
       ·cases d;simp
      obtain⟨rfl,rfl⟩:=n;exact sZ s l L _ r (h.set rfl p g (.tree _ _ _ _ _))
     grind
    |treeH id e k t j kid=>
     simp only[kI]at f;split at f
     ·rename_i F O u xs i1 j1 v1 p;split at f
      ·rename_i zs P;cases f;obtain⟨B,A⟩:=bT P;have H:=Ty.list.inj B;subst H;have I:zs=xs:=A;subst I;obtain⟨ys,i2,g⟩:=h.on _ (C_ ..);have n:F=e/\O=k/\j1=j/\v1= .sl kid:=by
        rcases h.hp id _ _ p g with d|⟨_,_,_,d,_⟩|d|⟨d,_⟩;·grind
        ·grind
        ·grind
        ·cases d;simp
       obtain⟨rfl,rfl,rfl,rfl⟩:=n;exact sZ s l L _ r (by have:=h.set rfl p g (.treeH _ _ _ _ _ _ _ _ _);grind)
      grind
     grind
   grind
  grind
theorem LeP.le{s b:S}(h:LeP [] s b):LeS (enc s) (enc b):=by
 refine⟨λk y J=>?_,by simp[enc,h.len],λi x y H I=>?_⟩;·show ∃x,Av.look (s.fr.map λx=>(x.1,aZ x.2)) k=some x/\_;have z:Av.look (b.fr.map λx=>(x.1,aZ x.2)) k=some y:=J;rw[vZ]at z⊢;obtain⟨v,U,rfl⟩:=n_.1 z;obtain⟨u,Y,N⟩:=h.fr k v U;grind
 ·rw[bR]at H I;obtain⟨o,R,rfl⟩:=n_.1 H;obtain⟨o',E,rfl⟩:=n_.1 I;exact(h.hp i o o' R E).le
theorem RI(l m:List (Nat×V))(k:Nat):lk (l++m) k=(lk l k).or (lk m k):=by induction l with|nil=>rfl|cons x l a=>obtain⟨j,v⟩:=x;simp only[List.cons_append,lk];grind
theorem NS{l:List (Nat×V)}{k:Nat}{v:V}(h:lk l k=some v):(k,v)∈l:=by
 induction l with
 |nil=>cases h|cons x l b=>
  obtain⟨j,w⟩:=x;simp only[lk]at h;cases a:c_ k j;·grind
  ·rw[a]at h;simp only[cond_true,e_]at h;have:=a_ a;grind
theorem Rz{fr sk:List (Nat×V)}(h:NI fr sk=true){k:Nat}{v:V}(a:(k,v)∈sk):∃w,lk fr k=some w/\V.same v w=true:=by induction sk with|nil=>grind|cons x sk b=>obtain⟨j,u⟩:=x;simp only[NI,b_]at h;grind
theorem Hm:∀{us c:List Ob},Ki us c=true->us.length=c.length/\∀(i:Nat) (x y:Ob),us[i]? =some x->c[i]? =some y->zbp x y=true
 |[],[],_=>⟨rfl,λi x y h=>by simp⟩
 |[],_::_,h=>by cases h
 |_::_,[],h=>by cases h
 |a::us,b::c,h=>by simp only[Ki,b_]at h;obtain⟨d,e⟩:=Hm h.2;grind
def Ob.vary:Ob->Bool
 | .vec _ _ _=>true
 | .map _ _ _ _ _=>true
 | .tree _ _ _ _ _=>true
 |_=>false
theorem N2{sl:List Slot}:∀{l:List Ob} {i j:Nat} {o:Ob},zgs sl i l=true->l[j]? =some o->o.vary=true->∃x∈sl,x.obj=some (i+j)
 |[],i,j,o,_,b,_=>by grind
 |a::l,i,j,o,h,b,d=>by
  simp only[zgs,b_]at h;cases j with
  |zero=>
   simp at b;subst b;cases a<;>first|cases d|skip
   all_goals
    obtain⟨x,e,c⟩:=G_.1 h.1;refine⟨x,e,?_⟩;cases x<;>simp at c;all_goals (subst c;rfl)
  |succ j=>have:=N2 (i:=i+1) (j:=j) h.2 (by grind) d;grind
theorem zfc{hp:List Ob}{x:Slot}(h:Se hp x=true):TM hp x:=by
 cases x with
 |vec id e t=>
  simp only[Se]at h;split at h;·rename_i g s ys d;simp only[b_,decide_eq_true_eq]at h;have c:=a_ h.1;obtain⟨_,rfl⟩:=h;subst c;exact⟨ys,d⟩
  grind
 |map id k e a b=>
  simp only[Se]at h;split at h;·rename_i p g w y ys d;simp only[b_,decide_eq_true_eq]at h;obtain⟨⟨⟨f,n⟩,rfl⟩,rfl⟩:=h;have c:=a_ f;have l:=a_ n;subst c;subst l;exact⟨ys,d⟩
  grind
 |tree id e k t=>
  simp only[Se]at h;split at h;·rename_i g p s ys d;simp only[b_,decide_eq_true_eq]at h;obtain⟨⟨f,rfl⟩,rfl⟩:=h;have c:=a_ f;subst c;exact⟨ys,d⟩
  grind
 |treeH id e k t j kid=>
  simp only[Se]at h;split at h;·rename_i g p s ys i' z r d;simp only[b_,decide_eq_true_eq]at h;obtain⟨⟨⟨⟨f,rfl⟩,rfl⟩,n⟩,v⟩:=h;have c:=a_ f;have l:=a_ n;have u:=a_ v;subst c;subst l;subst u;exact⟨ys,_,d⟩
  grind
 |_=>trivial
theorem N8{sh:Sh}{s s0:S}{c:HL sh.sl}(B:sh.wfB=true)(h:pack sh s=some c)(I:∀k v,lk (fg s0.fr sh.keep) k=some v->lk s.fr k=some v):LeP [] s (unpack sh.sl c (sh.base s0)):=by
 unfold pack at h;split at h
 ·rename_i A;simp only[b_,S.fits]at A;simp only[Sh.wfB,b_,m_]at B;obtain⟨E,F⟩:=Hm A.1.2;refine sZ s sh.sl c _ h ⟨λk v J=>?_,E.symm,λi o o' r y=>?_,λx L=>zfc (B.1 x L)⟩;·have f:lk (fg s0.fr sh.keep++sh.sk.fr) k=some v:=J;rw[RI]at f;cases j:lk (fg s0.fr sh.keep) k with|some u=>rw[j]at f;cases f;exact⟨v,I k v j,.refl _⟩|none=>rw[j]at f;obtain⟨w,r,y⟩:=Rz A.1.1 (NS f);exact⟨w,r,by rw[(Oq y).1];exact .refl _⟩
  ·have n:sh.sk.hp[i]? =some o':=y;have d:=F i o' o n r;have q:=N2 (i:=0) B.2 n;rw[ad_]at q;unfold zbp at d;split at d;·exact .inl rfl
   ·rename_i t cs u ds;simp only[b_]at d;have g:=a_ d.1;subst g;exact .inr (.inl ⟨_,_,_,rfl,rfl,(DU cs ds d.2).1⟩)
   ·rename_i e t xs C N ys;simp only[b_,decide_eq_true_eq]at d;have g:=a_ d.1;obtain⟨_,rfl⟩:=d;subst g;exact .inr (.inr (.inr ⟨.vec _ _ _ _,q rfl⟩))
   ·rename_i k e a b xs M C O P ys;simp only[b_,decide_eq_true_eq]at d;obtain⟨⟨⟨z,l⟩,rfl⟩,rfl⟩:=d;have g:=a_ z;have p:=a_ l;subst g;subst p;exact .inr (.inr (.inr ⟨.map _ _ _ _ _ _,q rfl⟩))
   ·rename_i e k t xs Q C M N ys H;simp only[b_,decide_eq_true_eq]at d;obtain⟨⟨⟨z,rfl⟩,rfl⟩,l⟩:=d;have g:=a_ z;subst g;split at l;·exact .inr (.inr (.inr ⟨.tree _ _ _ _ _,q rfl⟩))
    ·simp only[b_]at l;have p:=a_ l.1;have D:=a_ l.2;subst p;subst D;exact .inr (.inr (.inr ⟨.treeH _ _ _ _ _ _ _ _ _,q rfl⟩))
    grind
   grind
 grind
theorem TB{sh:Sh}{s s0:S}{c:HL sh.sl}(b:sh.wfB=true)(h:pack sh s=some c)(a:∀k v,lk (fg s0.fr sh.keep) k=some v->lk s.fr k=some v):LeS (enc s) (enc (unpack sh.sl c (sh.base s0))):=(N8 b h a).le
structure FlP(l:List Slot)(b:S):Prop where
 fr:∀k v,lk b.fr k=some v->(aZ v).FlatA
 hp:∀(i:Nat) (o:Ob),b.hp[i]? =some o->(bV o).FlatO\/(o.vary=true/\∃x∈l,x.obj=some i)
theorem zfs{e:TypeId}{t:Ty}(xs:List t.den)(h:t.flat=true):(bV (.vec e t xs)).FlatO:=λp hp y a=>by obtain⟨x,_,rfl⟩:=s_.1 hp;exact(rB t x h).2 y a
theorem zej{k e:TypeId}{a b:Ty}(xs:List (a.den×b.den))(h:a.flat=true/\b.flat=true):(bV (.map k e a b xs)).FlatO:=λp hp=>by obtain⟨x,_,rfl⟩:=s_.1 hp;exact⟨(rB a x.1 h.1).1,(rB b x.2 h.2).1⟩
theorem yl:∀(t:Ty) (x:t.den),(mf t).length=t.sz/\∀(j:Nat) (y:PV),(aP t x)[j]? =some y->∃(u:Ty) (z:u.den),(mf t)[j]? =some u/\y=aM u z
 | .unit,x=>⟨rfl,λj y h=>by simp[aP,aM,PV.cells]at h⟩
 | .pair a b,x=>by
  obtain⟨c,d⟩:=yl a x.1
  obtain⟨f,g⟩:=yl b x.2
  refine⟨by simp[mf,Ty.sz,c,f],λj y h=>?_⟩
  have hc:aP (.pair a b) x=aP a x.1++aP b x.2:=rfl
  rw[hc]at h
  have hl:(aP a x.1).length=a.sz:=aO a x.1
  rcases Nat.lt_or_ge j a.sz with n|n
  ·rw[List.getElem?_append_left (by omega)]at h
   obtain⟨u,z,l,e⟩:=d j y h
   exact⟨u,z,by simp only[mf];grind,e⟩
  ·rw[List.getElem?_append_right (by omega)]at h
   obtain⟨u,z,l,e⟩:=g _ y h
   exact⟨u,z,by simp only[mf];grind,e⟩
 | .rx,x=>by
  refine⟨rfl,λj y h=>?_⟩
  rw[AK]at h
  match j,h with
  |0,h=>cases h;exact⟨.int .i64,_,rfl,rfl⟩
  |1,h=>cases h;exact⟨.int .i64,_,rfl,rfl⟩
  |2,h=>cases h;exact⟨.int .i64,_,rfl,rfl⟩
  |3,h=>cases h;exact⟨.list .rx,_,rfl,rfl⟩
  |j+4,h=>grind
 | .int k,x=>leaf (.int k) x rfl rfl
 | .bool,x=>leaf .bool x rfl rfl
 | .str,x=>leaf .str x rfl rfl
 | .list t,x=>leaf (.list t) x rfl rfl
where
 leaf (t:Ty) (x:t.den) (c:t.ag=false) (d:mf t=[t]):(mf t).length=t.sz/\∀(j:Nat) (y:PV),(aP t x)[j]? =some y->∃(u:Ty) (z:u.den),(mf t)[j]? =some u/\y=aM u z:=by
  refine⟨by rw[d,jf c];rfl,λj y h=>?_⟩
  rw[fe x c]at h
  grind
theorem yh:∀(k:Av.K) (b:List Ty),flatK k b=true->∀(j:Nat) (u:Ty) (z:u.den),b[j]? =some u->FlatT (k.at j) (aM u z)
 | .e,b,h,j,u,z,a=>by simp only[flatK,m_]at h;exact .flat _ (rB u z (h u (S_ a))).1
 | .f r,[],h,j,u,z,a=>by grind
 | .f r,t::b,h,j,u,z,a=>by simp only[flatK,b_]at h;cases j with|zero=>cases a;exact .flat _ (rB _ z h.1).1|succ j=>exact yh r b h.2 j u z (by grind)
 | .s e sz sub r,[],h,j,u,z,a=>by grind
 | .s e sz sub r,t::b,h,j,u,z,a=>by
  cases t<;>try cases h
  rename_i v;simp only[flatK,b_]at h;cases j with
  |zero=>cases a;have hs:=a_ h.1.1;refine .sl _ _ _ _ (z.map (aM v)) (by rw[hs];rfl) λi j x y c f=>?_;rw[u_]at c;obtain⟨w,_,rfl⟩:=n_.1 c;obtain⟨g,l,d,rfl⟩:=(yl v w).2 j y f;exact yh sub _ h.1.2 j g l d
  |succ j=>exact yh r b h.2 j u z (by grind)
theorem OU{e:TypeId}{k:Av.K}{t:Ty}(xs:List t.den)(h:flatK k (mf t)=true)(hole:Option (Nat×Nat×V))(f:hole=none\/∃i j kid,hole=some (i,j,.sl kid)):(bV (.tree e k t xs hole)).FlatO:=by
 refine⟨λi j b a=>?_,λi j x y c g=>?_⟩
 ·rcases f with rfl|⟨i',p,kid,rfl⟩;·cases a
  ·cases a;trivial
 ·rw[u_]at c;obtain⟨w,_,rfl⟩:=n_.1 c;obtain⟨l,n,d,rfl⟩:=(yl t w).2 j y g;exact yh k _ h j l n d
theorem m6:∀(l:List Slot) (c:HL l) (b:S),l.all Slot.flat=true->FlP l b->FlP [] (unpack l c b)
 |[],_,b,_,h=>h
 |x::l,c,b,g,h=>by
  simp only[r_,b_]at g;have drop:∀(i:Nat) (o:Ob),b.hp[i]? =some o->x.obj≠some i->(bV o).FlatO\/(o.vary=true/\∃x∈l,x.obj=some i):=by intro i o p B;rcases h.hp i o p with s|⟨s,y,C,w⟩;all_goals grind
  have f:∀(id:Nat) (o':Ob),x.obj=some id->(bV o').FlatO->FlP l ⟨b.fr,setAt b.hp id o'⟩:=λid o' D z=>⟨h.fr,λi o p=>by
   have d:(setAt b.hp id o')[i]? =some o:=p;rw[gZ]at d;by_cases u:id=i;·grind
   ·rw[v_ u]at d;exact drop i o d (by grind)⟩
  cases x with
  |tm k t=>
   refine m6 l c.2 _ g.2 ⟨λj v n=>?_,λi o p=>drop i o p (by simp[Slot.obj])⟩;simp only[lk]at n;cases r:c_ j k;·rw[r]at n;exact h.fr j v n
   ·rw[r]at n;simp only[cond_true,e_]at n;subst n;exact(rB t c.1 g.1).1
  |cell id j t=>
   refine m6 l c.2 _ g.2 ⟨h.fr,λi o p=>?_⟩;have d:(setCell b.hp id j (.d t c.1))[i]? =some o:=p;unfold setCell at d;split at d
   ·rename_i E ds r;rw[gZ,gZ]at d;have hid:=(g_.1 r).1;by_cases u:id=i
    ·subst u;rw[E_ hid]at d;cases d;left;rcases h.hp id _ r with s|⟨s,_⟩
     ·intro y w;obtain⟨v,n,rfl⟩:=s_.1 w;rcases List.mem_or_eq_of_mem_set n with n|rfl;·exact s _ (V_ n)
      ·exact(rB t c.1 g.1).1
     ·cases s
    ·rw[v_ u]at d;exact drop i o d (by simp[Slot.obj])
   ·exact drop i o d (by simp[Slot.obj])
  |vec id e t=>exact m6 l c.2 _ g.2 (f id _ rfl (zfs _ g.1))|map id k e a A=>have:=g.1;simp only[Slot.flat,b_]at this;exact m6 l c.2 _ g.2 (f id _ rfl (zej _ this))|tree id e k t=>exact m6 l c.2 _ g.2 (f id _ rfl (OU _ g.1 none (.inl rfl)))|treeH id e k t j kid=>exact m6 l c.2 _ g.2 (f id _ rfl (OU _ g.1 _ (.inr ⟨_,_,_,rfl⟩)))
theorem base_nil(sh:Sh):(sh.base ⟨[],[]⟩).fr=sh.sk.fr:=by
 have:∀l,fg [] l=[]:=λl=>by induction l with
  |nil=>rfl
  |cons k l a=>simp only[fg,lk,a]
 simp[Sh.base,this]
theorem zcI{sh:Sh}{s:S}{c:HL sh.sl}(r:sh.wfB=true)(h:pack sh s=some c)(A:sh.sl.all Slot.flat=true):(∀k v,lk (unpack sh.sl c (sh.base ⟨[],[]⟩)).fr k=some v->(aZ v).FlatA)/\∀o∈(unpack sh.sl c (sh.base ⟨[],[]⟩)).hp,(bV o).FlatO:=by
 unfold pack at h;split at h
 ·rename_i d;simp only[b_,S.fits]at d;simp only[Sh.wfB,b_,m_]at r;obtain⟨x,z⟩:=Hm d.1.2;have key:FlP [] (unpack sh.sl c (sh.base ⟨[],[]⟩)):=m6 sh.sl c _ A ⟨λk v j=>by
   rw[base_nil]at j;obtain⟨w,D,p⟩:=Rz d.1.1 (NS j);rw[sB (ze9 p)];exact(Oq p).2.2,λi o l=>by
   have f:sh.sk.hp[i]? =some o:=l;have q:=N2 (i:=0) r.2 f;rw[ad_]at q;obtain⟨u,n⟩:=bA x.symm f;have g:=z i o u f n;cases o with
   |gone=>exact .inl trivial|free=>exact .inl trivial|box t cs=>cases u<;>simp[zbp]at g;left;intro y C;obtain⟨v,j,rfl⟩:=s_.1 C;exact(DU _ _ g.2).2 v j
   |vec e t xs=>exact .inr ⟨rfl,q rfl⟩|map k e a b xs=>exact .inr ⟨rfl,q rfl⟩|tree e k t xs hole=>exact .inr ⟨rfl,q rfl⟩⟩
  refine⟨key.fr,λo l=>?_⟩;obtain⟨i,B⟩:=List.getElem?_of_mem l;rcases key.hp i o B with E|⟨_,_,F,_⟩;all_goals grind
 grind
theorem ze4{n:Nat}{fr:List (Nat×V)}(h:∀k v,lk fr k=some v->(aZ v).FlatA):(aZ (res n fr)).FlatA:=by
 unfold res;cases c_ n 1
 ·intro x c;obtain⟨v,b,rfl⟩:=s_.1 c;obtain⟨i,_,rfl⟩:=s_.1 b;cases hl:lk fr i with
  |none=>exact .any|some u=>
   have:=h i u hl;simp only[z_];cases a:u.isA;·rw[sB a]at this;exact this
   ·cases u<;>first|exact .any|cases a
 ·cases hl:lk fr 0 with|none=>exact .any|some u=>grind
theorem zgW{x:BV}{v:V}(h:LeA (.b x) (aZ v)):LeB x (aW v):=by
 cases a:v.isA;·rw[sB a]at h;generalize aW v=y at h⊢;cases h with|refl=>exact .refl _|data _ p h=>exact .data _ _ h|any=>exact .any _
 ·cases v with|agg vs=>cases h|tup vs=>cases h|_=>cases a
theorem zhX{n:Nat}{fr fr':List (Nat×V)}(h:LeF fr fr')(c:Wy n fr=true):LeA (aZ (res n fr)) (aZ (res n fr')):=by
 unfold res;simp only[Wy]at c;cases hn:c_ n 1
 ·rw[hn,Bool.false_or,m_]at c;refine .tup _ _ (by simp[zcP]) λi x y e f=>?_;simp only[zcP,u_,n_]at e f;obtain⟨v,⟨j,g,rfl⟩,rfl⟩:=e;obtain⟨w,⟨k,b,rfl⟩,rfl⟩:=f;rw[g]at b;cases b;cases hl:lk fr' j with
  |none=>exact .any _|some v=>
   obtain⟨u,d,a⟩:=h j v hl;rw[d];have:u.isA=false:=by simpa using c _ (NS d)
   rw[sB this]at a;exact zgW a
 ·cases hl:lk fr' 0 with|none=>exact .any _|some v=>obtain⟨u,d,a⟩:=h 0 v hl;grind
theorem zbY{P:Program}{f:FuncId}{ars:List AV}{os b a:List AObj}{r g:AV}(h:ACalls P f ars os λo=>o=some (r,b))(hr:LeA r g)(hl:b.length=a.length) (F:∀(i:Nat) (x y:AObj),b[i]? =some x->a[i]? =some y->LeO x y):ACalls P f ars os λo=>o=some (g,a):=by
 intro w θ D vs u z A B;refine(h w θ D vs u z A B).mono λe w' C=>?_;rcases C with⟨v,r1,H,θ',D',j,k,n,c,s⟩|⟨I,j,k,n,_⟩;·cases k;refine .inl ⟨v,g,a,θ',D',j,rfl,hr.rel n,⟨by rw[c.len,hl],c.dlt,c.inj,c.olt,λi l o E d=>?_⟩,s⟩;obtain⟨x,p⟩:=bA hl d;exact(F i x o p d).rel (c.objs i l x E p)
 grind
structure OracleOk(P:Program)(O:ak):Prop where
 ret:∀f ars os s,O f ars os=some (some s)->ACalls P (f%10000) (ars.map aZ) (os.map bV) λo=>o=some (aZ (res s.fr.length s.fr),s.hp.map bV)
 pan:∀f ars os,O f ars os=some none->ACalls P (f%10000) (ars.map aZ) (os.map bV) λo=>o=none
section
variable {R:Type} {P:Program} {O:ak} {d:Option Nat} {s:S} {κ kp:S->Option R} {r:R}
theorem DT(hO:OracleOk P O){f:FuncId}{ars:List V}{os:List Ob}{sh:Sh}{c:HL sh.sl}(j:sh.wfB=true)(h:au O f ars os sh=some c): ACalls P (f%10000) (ars.map aZ) (os.map bV) (λo=>o=some (aZ (res sh.n (unpack sh.sl c (sh.base ⟨[],[]⟩)).fr),(unpack sh.sl c (sh.base ⟨[],[]⟩)).hp.map bV))/\(sh.sl.all Slot.flat=true->(aZ (res sh.n (unpack sh.sl c (sh.base ⟨[],[]⟩)).fr)).FlatA/\∀o∈(unpack sh.sl c (sh.base ⟨[],[]⟩)).hp.map bV,o.FlatO):=by
 unfold au at h;split at h
 ·rename_i s' d;obtain⟨a,e⟩:=aV h;simp only[b_]at a;have hn:=a_ a.1;have s:∀k v,lk (fg (⟨[],[]⟩:S).fr sh.keep) k=some v->lk s'.fr k=some v:=by
   have:∀l,fg [] l=[]:=λl=>by induction l with
    |nil=>rfl
    |cons k l z=>simp only[fg,lk,z]
   intro k v g;rw[this]at g;cases g
  have b:=N8 (s0:=⟨[],[]⟩) j e s;have p:=b.le;refine⟨zbY (hO.ret f ars os s' d) ?_ (by simp[b.len]) (λi x y u w=>p.hp i x y u w),λr=>?_⟩;·rw[hn];exact zhX b.fr a.2
  ·obtain⟨n,f2⟩:=zcI j e r;refine⟨ze4 n,λo A=>?_⟩;grind
 grind
theorem Vn(hO:OracleOk P O){f:FuncId}{ars:List V}{os:List Ob}{sh:Sh}{c:Option (HL sh.sl)}(h:l9 O f ars os sh=some c):(∀d,c=some d->au O f ars os sh=some d)/\(c=none->ACalls P (f%10000) (ars.map aZ) (os.map bV) λo=>o=none):=by
 unfold l9 at h;split at h
 ·rename_i s' b;obtain⟨k,e⟩:=aV h;split at e;·rename_i j g;cases e;refine⟨λd a=>?_,(λhc=>by grind)⟩;cases a;unfold au;grind
  grind
 ·rename_i b;cases h;exact⟨(λd a=>by grind),λ_=>hO.pan f ars os b⟩
 grind
theorem V4{B:List Nat}{v:V}(h:v.isD=true):sR (BQ B) v=v:=by cases v<;>first|rfl|cases h
theorem Ig(hO:OracleOk P O){pan bor:Bool}{B:List Nat}{f:FuncId}{ars:List V}{sh:Sh}(N:sh.wfB=true)(h:G3 pan O s d bor B f ars sh κ kp=some r): ∃os:List Ob,(enc s).hp=(enc s).hp/\B.mapM ((enc s).hp[·]?)=some (os.map bV)/\(∀v∈ars,∀i∈v.ids,i∈B)/\sexec.callK P (enc s) d bor B (f%10000) (ars.map aZ) (os.map bV) (λl=>∃s',l=enc s'/\Keeps (jG d) s s'/\κ s'=some r) (λl=>∃s',l=enc s'/\Keeps (jG d) s s'/\kp s'=some r):=by
 unfold G3 at h;split at h
 ·rename_i os E;obtain⟨F,H⟩:=aV h;simp only[b_,decide_eq_true_eq,m_,Bool.or_eq_true,x_]at F;obtain⟨⟨⟨C,p⟩,j⟩,z⟩:=F;have A:∀v∈ars,∀i∈v.ids,i∈B:=λv n=>allIn_mem.1 (p v n);have g:((ars.map (sR (V.ren (V2 B)))).map aZ)=(ars.map aZ).map (AV.ren (B.idxOf ·)):=by rw[h_,h_];exact i_ λv _=>Ny _ v
  have e:((os.map (Ex (V.ren (V2 B)))).map bV)=(os.map bV).map (AObj.ren (B.idxOf ·)):=by rw[h_,h_];exact i_ λv _=>IF _ v
  have CO:∀(b:List Ob) (v:V),Keeps (jG d) s ((s.back B b).putO d v):=λb v=>(Keeps.map (jG d) s (s.back B b) (BQ B) (λv n=>V4 n) rfl).trans (Keeps.put _ d v);have k:∀(b:List Ob),Keeps (jG d) s (s.back B b):=λb=>Keeps.map (jG d) s (s.back B b) (BQ B) (λv n=>V4 n) rfl;have J:∀c:HL sh.sl,au O f (ars.map (sR (V.ren (V2 B)))) (os.map (Ex (V.ren (V2 B)))) sh=some c->JI s d B sh.n sh κ c=some r->
   ACalls P (f%10000) ((ars.map aZ).map (AV.ren (B.idxOf ·))) ((os.map bV).map (AObj.ren (B.idxOf ·))) λo=>match o with
    |some (I,b)=>(bor=true->I.FlatA/\∀o∈b,o.FlatO)/\∃s',((enc s).back B b).putO d (I.ren (lG B (enc s).hp.length))=enc s'/\Keeps (jG d) s s'/\κ s'=some r
    |none=>∃s',(enc s).back B ((os.map bV).map λ_=>.gone)=enc s'/\Keeps (jG d) s s'/\kp s'=some r:=by
   intro c hc y
   obtain⟨w,R⟩:=DT hO N hc
   rw[g,e]at w
   refine w.mono λo u=>?_
   subst u
   refine⟨λU=>R ?_,_,?_,CO _ _,y⟩
   ·grind
   ·rw[kf,VO,Ny,M2];congr 2;simp[enc]
  refine⟨os,rfl,Lg B os E,A,C,?_,?_,?_⟩;·intro a M i x;obtain⟨v,n,rfl⟩:=s_.1 M;rw[<-wI]at x;grind
  ·intro o u i x;obtain⟨o',D,rfl⟩:=s_.1 u;rw[<-NB]at x;exact allIn_mem.1 (j o' D) i x
  ·cases pan with
   |false=>obtain⟨c,hc,y⟩:=cZ H;grind
   |true=>obtain⟨Q,hc,y⟩:=cZ H;obtain⟨T,L⟩:=Vn hO hc;cases Q with|some c=>grind|none=>have w:=L rfl;rw[g,e]at w;refine w.mono λo u=>?_;subst u;refine⟨_,?_,k _,y⟩;rw[VO];congr 1;rw[h_,h_];rfl
 grind
end
end Go.Ev
