import Derived.WalkKit
import Derived.KernelRfl
import Derived.Deep.Quiet
import Derived.Test.YteemihfpamlccaaGreatDoorGw
set_option linter.unusedVariables false
set_option linter.unusedSimpArgs false
open Array renaming getElem?_eq_getElem->d_,getElem?_toList->j_,getElem?_append_left->p_,getElem?_extract->s_,length_toList->v_,size_append->P_,getElem?_setIfInBounds_ne->T_,getElem?_append_right->X_,size_extract->aa_,getElem?_range->aj_,getElem?_map->am_,toList_map->aq_,ext'->aC_
open Classical renaming byContradiction->aB_
open Int renaming not_lt->aD_
open List renaming getElem?_eq_some_iff->a_,getElem?_eq_getElem->b_,mem_of_getElem?->c_,getElem?_map->e_,getElem?_append_left->h_,getElem?_append_right->i_,getElem?_take->l_,getElem?_set_ne->m_,eq_nil_of_length_eq_zero->n_,getElem?_set_self->t_,getElem?_drop->w_,length_nil->y_,getD->B_,getElem?_of_mem->E_,idxOf_lt_length_of_mem->F_,eq_of_mem_replicate->I_,all_eq_true->J_,getElem?_mapIdx->K_,length_mapIdx->M_,replicate->Q_,size_toArray->R_,length_cons->U_,mem_append->V_,mem_map->Y_,length_append->ab_,mem_or_eq_of_mem_set->ac_,getElem?_cons_zero->ad_,length_drop->ae_,getElem?_eq_none->ah_,getElem?_zipIdx->ak_,append_assoc->an_,ext_getElem?->ao_,getElem?_inj->ap_,length_take->ar_,mem_flatMap->as_,append_nil->au_,length_map->av_,mapM_cons->ay_,mem_range->az_,range->aA_
open Nat renaming mul_le_mul_right->g_,add_mul->k_,lt_of_lt_of_le->q_,one_mul->r_,le_refl->u_,zero_add->x_,pos_of_ne_zero->z_,lt_or_ge->G_,add_assoc->H_,le_trans->L_,eq_zero_or_pos->N_,le_mul_of_pos_right->O_,add_zero->S_,mul_comm->Z_,mod_eq_of_lt->af_,mul_add_mod->ag_,div_lt_iff_lt_mul->ai_,div_add_mod->aw_,mod_lt->aE_
open Option renaming map_eq_some_iff->f_,bind_eq_some_iff->o_,map_some->C_,getD_some->D_,bind_eq_bind->al_,pure_def->ax_
open Option.some renaming injEq->A_,inj->W_
namespace Go.Av
open Go Go.RowKit
inductive PV where
 |sc (v:Value)
 |list (sz:Nat) (xs:List PV)
 |agg (xs:List PV)
 |tup (xs:List PV)
 |pto (x:PV)
 |fn (f:Fn) (caps:List PV)
 |any
 deriving Inhabited
def PV.cells:PV->List PV
 | .agg xs=>xs
 |x=>[x]
def mF(sz:Nat):List PV->PV
 |[]=>.list 0 []
 |x::xs=>.list sz (x::xs)
inductive RelP(D:Nat->Prop)(w:World):Value->PV->Prop
 |sc (v:Value):RelP D w v (.sc v)
 |any (v:Value):RelP D w v .any
 |agg (vs:Array Value) (xs:List PV) (hs:vs.size=xs.length) (h:∀(i:Nat) (v:Value) (x:PV),vs[i]? =some v->xs[i]? =some x->RelP D w v x):RelP D w (.agg vs) (.agg xs)
 |tup (vs:Array Value) (xs:List PV) (hs:vs.size=xs.length) (h:∀(i:Nat) (v:Value) (x:PV),vs[i]? =some v->xs[i]? =some x->RelP D w v x):RelP D w (.tuple vs) (.tup xs)
 |nil (a:Option Addr) (cap:Nat):RelP D w (.slice a 0 cap) (.list 0 [])
 |list (b o cap sz:Nat) (x0:PV) (xs:List PV) (val:Nat->Nat->Value) (hcap:(x0::xs).length<=cap) (hD:D b) (hsz:∀x∈x0::xs,x.cells.length=sz)
  (hc:∀(i j:Nat) (x y:PV),(x0::xs)[i]? =some x->x.cells[j]? =some y->w.cell? ⟨b,o+i*sz+j,none⟩=some (val i j))
  (hr:∀(i j:Nat) (x y:PV),(x0::xs)[i]? =some x->x.cells[j]? =some y->RelP D w (val i j) y):
  RelP D w (.slice (some ⟨b,o,none⟩) (x0::xs).length cap) (.list sz (x0::xs))
 |pto (b o:Nat) (x:PV) (val:Nat->Value) (hD:D b) (hc:∀(j:Nat) (y:PV),x.cells[j]? =some y->w.cell? ⟨b,o+j,none⟩=some (val j))
  (hr:∀(j:Nat) (y:PV),x.cells[j]? =some y->RelP D w (val j) y):RelP D w (.pointer (some ⟨b,o,none⟩)) (.pto x)
 |fn (f:Fn) (vs:Array Value) (xs:List PV) (hs:vs.size=xs.length) (h:∀(i:Nat) (v:Value) (x:PV),vs[i]? =some v->xs[i]? =some x->RelP D w v x):RelP D w (.func f #[] vs) (.fn f xs)
theorem Il{w w':World}{a:Addr}(h:w'.heap[a.block]? =w.heap[a.block]?):w'.cell? a=w.cell? a:=World.cell?_of_block h
theorem RelP.mono{D D':Nat->Prop}{w w':World}(hD:∀b,D b->D' b)(hw:∀b,D b->w'.heap[b]? =w.heap[b]?){v:Value}{p:PV}(h:RelP D w v p):RelP D' w' v p:=by
 induction h with
 |sc v=>exact .sc v
 |any v=>exact .any v
 |agg vs xs hs _ ih=>exact .agg vs xs hs ih
 |tup vs xs hs _ ih=>exact .tup vs xs hs ih
 |nil a cap=>exact .nil a cap
 |list b o cap sz x0 xs val hcap hb hsz hc _ ih=>
  exact .list b o cap sz x0 xs val hcap (hD b hb) hsz (λi j x y hx hy=>by rw[Il (hw b hb)];exact hc i j x y hx hy) ih
 |pto b o x val hb hc _ ih=>exact .pto b o x val (hD b hb) (λj y hy=>by rw[Il (hw b hb)];exact hc j y hy) ih
 |fn f vs xs hs _ ih=>exact .fn f vs xs hs ih
inductive PV.Flat:PV->Prop
 |sc (v:Value):Flat (.sc v)
 |any:Flat .any
 |agg (xs:List PV) (h:∀(i:Nat) (x:PV),xs[i]? =some x->Flat x):Flat (.agg xs)
 |tup (xs:List PV) (h:∀(i:Nat) (x:PV),xs[i]? =some x->Flat x):Flat (.tup xs)
theorem RelP.flat{D D':Nat->Prop}{w w':World}{v:Value}{p:PV}(h:RelP D w v p)(hf:p.Flat):RelP D' w' v p:=by
 induction h with
 |sc v=>exact .sc v
 |any v=>exact .any v
 |agg vs xs hs _ ih=>cases hf with|agg _ hh=>exact .agg vs xs hs λi v x hv hx=>ih i v x hv hx (hh i x hx)
 |tup vs xs hs _ ih=>cases hf with|tup _ hh=>exact .tup vs xs hs λi v x hv hx=>ih i v x hv hx (hh i x hx)
 |nil a cap=>exact .nil a cap
 |list=>cases hf
 |pto=>cases hf
 |fn=>cases hf
theorem qK{D:Nat->Prop}{w:World}{v:Value}{sz:Nat}{xs:List PV}(h:RelP D w v (mF sz xs)):
 ∃a cap,v= .slice a xs.length cap/\xs.length<=cap/\(0<xs.length->∃b o,a=some ⟨b,o,none⟩/\D b/\(∀x∈xs,x.cells.length=sz)/\
  ∀(i j:Nat) (x y:PV),xs[i]? =some x->x.cells[j]? =some y->∃u,w.cell? ⟨b,o+i*sz+j,none⟩=some u/\RelP D w u y):=by
 cases xs with
 |nil=>
  cases h with
  |nil a cap=>exact⟨a,cap,rfl,Nat.zero_le _,λh=>absurd h (by simp)⟩
 |cons x0 xs=>
  cases h with
  |list b o cap _ _ _ val hcap hb hsz hc hr=>
   exact⟨_,cap,rfl,hcap,λ_=>⟨b,o,rfl,hb,hsz,λi j x y hx hy=>⟨val i j,hc i j x y hx hy,hr i j x y hx hy⟩⟩⟩
theorem gy{D:Nat->Prop}{w:World}{sz:Nat}{xs:List PV}{a:Option Addr}{cap:Nat}(hcap:xs.length<=cap)
 (h:0<xs.length->∃b o,a=some ⟨b,o,none⟩/\D b/\(∀x∈xs,x.cells.length=sz)/\
  ∀(i j:Nat) (x y:PV),xs[i]? =some x->x.cells[j]? =some y->∃u,w.cell? ⟨b,o+i*sz+j,none⟩=some u/\RelP D w u y):
 RelP D w (.slice a xs.length cap) (mF sz xs):=by
 cases xs with
 |nil=>exact .nil a cap
 |cons x0 xs=>
  obtain⟨b,o,rfl,hb,hsz,hc⟩:=h (by simp)
  have key:∀i j,∃u,∀x y,(x0::xs)[i]? =some x->x.cells[j]? =some y->w.cell? ⟨b,o+i*sz+j,none⟩=some u/\RelP D w u y:=by
   intro i j
   by_cases hx:∃x y,(x0::xs)[i]? =some x/\x.cells[j]? =some y
   ·obtain⟨x,y,hx,hy⟩:=hx
    obtain⟨u,h1,h2⟩:=hc i j x y hx hy
    refine⟨u,λx' y' hx' hy'=>?_⟩
    rw[hx]at hx';cases hx'
    rw[hy]at hy';cases hy'
    exact⟨h1,h2⟩
   ·exact⟨undef,λx y h1 h2=>absurd ⟨x,y,h1,h2⟩ hx⟩
  exact .list b o cap sz x0 xs (λi j=>(key i j).choose) hcap hb hsz (λi j x y hx hy=>((key i j).choose_spec x y hx hy).1) (λi j x y hx hy=>((key i j).choose_spec x y hx hy).2)
theorem A6{D:Nat->Prop}{w:World}{v:Value}{x:PV}(h:RelP D w v (.pto x)):
 ∃b o,v= .pointer (some ⟨b,o,none⟩)/\D b/\∀(j:Nat) (y:PV),x.cells[j]? =some y->∃u,w.cell? ⟨b,o+j,none⟩=some u/\RelP D w u y:=by
 cases h with
 |pto b o _ val hb hc hr=>exact⟨b,o,rfl,hb,λj y hy=>⟨val j,hc j y hy,hr j y hy⟩⟩
theorem r4{D:Nat->Prop}{w:World}{b o:Nat}{x:PV}(hb:D b)
 (h:∀(j:Nat) (y:PV),x.cells[j]? =some y->∃u,w.cell? ⟨b,o+j,none⟩=some u/\RelP D w u y):RelP D w (.pointer (some ⟨b,o,none⟩)) (.pto x):=by
 have key:∀j,∃u,∀y,x.cells[j]? =some y->w.cell? ⟨b,o+j,none⟩=some u/\RelP D w u y:=by
  intro j
  cases hj:x.cells[j]? with
  |none=>exact⟨undef,λy h=>by cases h⟩
  |some y=>
   obtain⟨u,h1,h2⟩:=h j y hj
   exact⟨u,λy' hy'=>by cases hy';exact⟨h1,h2⟩⟩
 exact .pto b o x (λj=>(key j).choose) hb (λj y hy=>((key j).choose_spec y hy).1) (λj y hy=>((key j).choose_spec y hy).2)
inductive BV where
 |pv (p:PV)
 |nils
 |sl (id:Nat)
 |ptr (id off:Nat)
 |elt (id i off:Nat)
 |clo (f:Fn) (ids:List Nat)
 |mp (id:Nat)
 |full (p:PV)
 |ifc
 deriving Inhabited
inductive AV where
 |b (x:BV)
 |agg (xs:List BV)
 |tup (xs:List BV)
 deriving Inhabited
abbrev AV.p(x:PV):AV:=.b (.pv x)
abbrev AV.v(x:Value):AV:=.b (.pv (.sc x))
def AV.cells:AV->List BV
 | .agg xs=>xs
 | .b (.pv p)=>p.cells.map .pv
 | .b x=>[x]
 | .tup _=>[.pv .any]
inductive K where
 |e
 |f (r:K)
 |s (t:TypeId) (sz:Nat) (sub r:K)
 deriving Inhabited,DecidableEq
def K.at:K->Nat->Option (TypeId×Nat×K)
 | .e,_=>none
 | .f _,0=>none
 | .s t sz sub _,0=>some (t,sz,sub)
 | .f r,n+1=>r.at n
 | .s _ _ _ r,n+1=>r.at n
def K.allF:K->Bool
 | .e=>true
 | .f r=>r.allF
 | .s _ _ _ _=>false
def K.flatB(k:K)(off n:Nat):Bool:=(aA_ n).all λj=>(k.at (off+j)).isNone
inductive AObj where
 |gone
 |free
 |box (t:TypeId) (cs:List BV)
 |vec (e:TypeId) (sz:Nat) (xs:List PV)
 |map (k e:TypeId) (kvs:List (PV×PV))
 |tree (e:TypeId) (sz:Nat) (k:K) (xs:List PV) (hole:Option (Nat×Nat×BV))
 deriving Inhabited
structure St where
 fr:List (Nat×AV)
 hp:List AObj
def look:List (Nat×AV)->Nat->Option AV
 |[],_=>none
 |(k,a)::l,t=>if t=k then some a else look l t
def St.put(st:St)(d:Nat)(a:AV):St:={st with fr:=(d,a)::st.fr}
inductive SX where
 |tm (k:Nat)
 |c (v:Value)
 |g (n:Nat)
 |f (n:Nat)
 deriving Inhabited
def SX.of:Operand->SX
 | .tmp k=>.tm k
 | .const v=>.c v
 | .global n=>.g n
 | .func n=>.f n
inductive SOp where
 |mv (x:SX)
 |pick (c a b:SX)
 |bin (op:BinOp) (x y:SX)
 |eqB (neg:Bool) (x y:SX)
 |un (op:UnOp) (x:SX)
 |len (str:Bool) (x:SX)
 |idxS (x i:SX)
 |idxV (n sz:Nat) (ag:Bool) (x i:SX)
 |idxA (sz:Nat) (x i:SX)
 |idxP (n sz:Nat) (ag:Bool) (x i:SX)
 |fldA (off sz:Nat) (ag:Bool) (x:SX)
 |fld (off sz:Nat) (ag:Bool) (x:SX)
 |load (sz:Nat) (ag:Bool) (x:SX)
 |store (sz:Nat) (x v:SX)
 |alloc (t:TypeId) (zero:List Value)
 |box (t:TypeId) (x:SX)
 |boxD (t:TypeId) (x:SX)
 |build (zero:List Value) (parts:List (Nat×Nat×SX))
 |bslice (own:Bool) (e:TypeId) (sz len:Nat) (parts:List SX)
 |mslice (e:TypeId) (sz bytes:Nat) (zero:Value) (l c:SX)
 |append (e:TypeId) (sz bytes:Nat) (x y:SX)
 |cvtI (k:IntKind) (x:SX)
 |slc (sz:Nat) (x:SX) (lo hi mx:Option SX)
 |slcS (x:SX) (lo hi:Option SX)
 |ext (x:SX) (i:Nat)
 |nilc (x:SX)
 |call (bor:Bool) (f:FuncId) (args:List SX)
 |callA (bor:Bool) (B:List Nat) (f:FuncId) (args:List SX)
 |callv (bor:Bool) (B:List Nat) (x:SX) (args:List SX)
 |lenM (k e:TypeId) (x:SX)
 |b2s (x:SX)
 |mkfn (f:FuncId) (caps:List SX)
 |mkmap (k e:TypeId)
 |lookup (k e:TypeId) (ok:Bool) (zero:Value) (m x:SX)
 |mapset (k e:TypeId) (m x v:SX)
 |eqT (neg:Bool) (t:TypeId) (x y:SX)
 |copy (e:TypeId) (sz:Nat) (x y:SX)
 |mnmx (mx:Bool) (k:IntKind) (x:SX) (ys:List SX)
 |panic (x:SX)
 |iface (t:TypeId) (x:SX)
 |appD (e:TypeId) (sz bytes:Nat) (x y:SX)
 |bsliceN (e:TypeId) (sz len:Nat) (parts:List SX)
 |msliceT (k:K) (e:TypeId) (sz bytes:Nat) (zero:Value) (l c:SX)
 |appT (k:K) (e:TypeId) (sz bytes:Nat) (x y:SX)
 |callp (bor:Bool) (x:SX) (args:List SX)
 |atq(s:Nat) (op:SOp)
 deriving Inhabited
structure SOper where
 dst:Option Nat
 op:SOp
 gd:Option (Nat×Bool)
 deriving Inhabited
inductive SCode where
 |skip
 |region (ops:List SOper)
 |draw (ops:List SOper) (after:List (List Nat))
 |seq (a b:SCode)
 |cond (c:SX) (thn els:SCode)
 |block (id:Nat) (body:SCode)
 |loop (body:SCode)
 |exit (id:Nat)
 |scope (body:SCode)
 |ret
 deriving Inhabited
def bI:Value->BV
 | .slice none 0 0=>.nils
 |v=>.pv (.sc v)
def fU:Value->AV
 | .agg cs=>.agg (cs.toList.map bI)
 |v=>.b (bI v)
def St.get(st:St):SX->Option AV
 | .tm k=>look st.fr k
 | .c v=>some (fU v)
 | .g n=>some (.v (.pointer (some ⟨n,0,none⟩)))
 | .f n=>some (.p (.fn (.func n) []))
def aI{α:Type}(o:Option α)(K:α->Prop):Prop:=∃a,o=some a/\K a
def Bq(a:AV)(K:Value->Prop):Prop:=∃v,a= .v v/\K v
def isInt(v:Value)(K:IntKind->Int->Prop):Prop:=∃k n,v= .int k n/\K k n
def isBool(v:Value)(K:Bool->Prop):Prop:=∃b,v= .bool b/\K b
def LY(v:Value)(K:ByteArray->Prop):Prop:=∃s,v= .string s/\K s
def oC(hp:List AObj)(sz:Nat)(a:AV)(K:List PV->Prop):Prop:=
 (a= .b .nils/\K [])\/(∃L,a= .p (mF sz L)/\K L)\/(∃id e L,a= .b (.sl id)/\hp[id]? =some (.vec e sz L)/\K L)\/(∃L,a= .b (.full (mF sz L))/\K L)
theorem PS{sz:Nat}{L L':List PV}(h:mF sz L=mF sz L'):L=L':=by
 cases L<;>cases L'<;>simp_all[mF]
def isLen(hp:List AObj)(a:AV)(K:Nat->Prop):Prop:=
 (a= .b .nils/\K 0)\/(∃sz L,a= .p (mF sz L)/\K L.length)\/(∃id e sz L,a= .b (.sl id)/\hp[id]? =some (.vec e sz L)/\K L.length)\/(∃sz L,a= .b (.full (mF sz L))/\K L.length)\/
  (∃id e sz k L hole,a= .b (.sl id)/\hp[id]? =some (.tree e sz k L hole)/\K L.length)
def isMap(hp:List AObj)(k e:TypeId)(a:AV)(K:Nat->List (PV×PV)->Prop):Prop:=∃id kvs,a= .b (.mp id)/\hp[id]? =some (.map k e kvs)/\K id kvs
def fb(k:IntKind)(op:BinOp)(x y:Int):Int:=
 match op with
 | .and=>k.wrap (BitVec.ofInt k.bits x&&&BitVec.ofInt k.bits y).toNat
 | .or=>k.wrap (BitVec.ofInt k.bits x|||BitVec.ofInt k.bits y).toNat
 | .xor=>k.wrap (BitVec.ofInt k.bits x ^^^ BitVec.ofInt k.bits y).toNat
 |_=>k.wrap (BitVec.ofInt k.bits x&&& ~~~ BitVec.ofInt k.bits y).toNat
def Js(op:BinOp)(x y:Value)(K:Value->Prop):Prop:=
 match x,y with
 | .int k a,.int k' b=>
  match op with
  | .add=>k=k'/\K (.int k (k.wrap (a+b)))
  | .sub=>k=k'/\K (.int k (k.wrap (a - b)))
  | .mul=>k=k'/\K (.int k (k.wrap (a*b)))
  | .quo=>k=k'/\b≠0/\K (.int k (k.wrap (a.tdiv b)))
  | .rem=>k=k'/\b≠0/\K (.int k (a.tmod b))
  | .and=>k=k'/\K (.int k (fb k .and a b))
  | .or=>k=k'/\K (.int k (fb k .or a b))
  | .xor=>k=k'/\K (.int k (fb k .xor a b))
  | .andNot=>k=k'/\K (.int k (fb k .andNot a b))
  | .shl=>0<=b/\K (.int k (k.wrap (a*2^(min b.toNat k.bits))))
  | .shr=>0<=b/\K (.int k (a.fdiv (2^(min b.toNat k.bits))))
  | .eql=>k=k'/\K (.bool (a==b))
  | .neq=>k=k'/\K (.bool (a != b))
  | .lss=>k=k'/\K (.bool (decide (a<b)))
  | .leq=>k=k'/\K (.bool (decide (a<=b)))
  | .gtr=>k=k'/\K (.bool (decide (a>b)))
  | .geq=>k=k'/\K (.bool (decide (a>=b)))
 | .string a,.string b=>
  match op with
  | .add=>a.size+b.size<=9223372036854775807/\K (.string (a++b))
  | .eql=>K (.bool (a.toList==b.toList))
  | .neq=>K (.bool !(a.toList==b.toList))
  | .lss=>K (.bool (Op.bytesLess a.toList b.toList))
  | .leq=>K (.bool (Op.bytesLess a.toList b.toList||a.toList==b.toList))
  | .gtr=>K (.bool !(Op.bytesLess a.toList b.toList||a.toList==b.toList))
  | .geq=>K (.bool !(Op.bytesLess a.toList b.toList))
  |_=>False
 |_,_=>False
def W7(op:UnOp)(x:Value)(K:Value->Prop):Prop:=
 match op,x with
 | .not,.bool b=>K (.bool !b)
 | .neg,.int k n=>K (.int k (k.wrap (0 - n)))
 |_,_=>False
def PV.isAgg:PV->Bool
 | .agg _=>true
 |_=>false
def PV.sub(x:PV)(off sz:Nat)(ag:Bool):PV:=match ag with
 |true=>.agg ((x.cells.drop off).take sz)
 |false=>x.cells.getD off .any
def BV.toPV:BV->Option PV
 | .pv p=>some p
 | .nils=>some (.list 0 [])
 | .full p=>some p
 |_=>none
def AV.toPV:AV->Option PV
 | .b x=>x.toPV
 | .agg xs=>(xs.mapM BV.toPV).map .agg
 | .tup xs=>(xs.mapM BV.toPV).map .tup
def nilP:PV:=.sc (.slice none 0 0)
def BV.toPVn:BV->Option PV
 | .nils=>some nilP
 |x=>x.toPV
def AV.toPVn:AV->Option PV
 | .b x=>x.toPVn
 | .agg xs=>(xs.mapM BV.toPVn).map .agg
 | .tup _=>none
def K.nilsB(k:K)(cs:List PV):Bool:=(aA_ cs.length).all λj=>match k.at j with
 |some _=>(match cs.getD j .any with| .sc (.slice none 0 0)=>true|_=>false)
 |none=>true
def K.unnil(k:K)(p:PV):PV:=match p with
 | .agg cs=>.agg (cs.mapIdx λj x=>if(k.at j).isSome then .list 0 []else x)
 |x=>if(k.at 0).isSome then .list 0 []else x
def PV.cellOk:PV->Bool
 | .sc v=>v.oneCell'
 | .list .. | .pto _| .fn .. =>true
 |_=>false
def PV.ok(p:PV):Bool:=p.cells.all PV.cellOk
def BV.cellOk:BV->Bool
 | .pv p=>p.cellOk
 |_=>true
def AV.ok(x:AV):Bool:=x.cells.all BV.cellOk
def splice{α:Type}(xs:List α)(off:Nat)(ys:List α):List α:=xs.take off++ys++xs.drop (off+ys.length)
def ni(ag:Bool)(cs:List BV):AV:=match ag with
 |true=>.agg cs
 |false=>.b (cs.headD (.pv .any))
def C2(hp:List AObj)(sz:Nat)(ag:Bool)(a:AV)(K:AV->Prop):Prop:=
 match a with
 | .b (.pv (.pto x))=>x.isAgg=ag/\x.cells.length=sz/\K (.p x)
 | .b (.ptr id off)=>aI hp[id]? λo=>∃t cs,o= .box t cs/\off+sz<=cs.length/\(ag=false->sz=1)/\(K (ni ag ((cs.drop off).take sz))\/aI (ni ag ((cs.drop off).take sz)).toPV λp=>K (.p p))
 | .b (.elt id i off)=>aI hp[id]? λo=>(∃e s xs,o= .vec e s xs/\i<xs.length/\off+sz<=s/\(ag=false->sz=1)/\
  ((off=0/\sz=s/\(xs.getD i .any).isAgg=ag/\K (.p (xs.getD i .any)))\/(sz≠s/\K (.p ((xs.getD i .any).sub off sz ag)))))\/
  (∃e s k xs hole,o= .tree e s k xs hole/\i<xs.length/\off+sz<=s/\(ag=false->sz=1)/\
   ((k.flatB off sz=true/\K (.p ((xs.getD i .any).sub off sz ag)))\/(∃bv,hole=some (i,off,bv)/\sz=1/\ag=false/\K (.b bv))))
 |_=>False
def Cn(hp:List AObj)(sz:Nat)(a v:AV)(K:List AObj->Prop):Prop:=
 match a with
 | .b (.ptr id off)=>aI hp[id]? λo=>∃t cs,o= .box t cs/\v.cells.length=sz/\off+sz<=cs.length/\v.ok=true/\K (hp.set id (.box t (splice cs off v.cells)))
 | .b (.elt id i off)=>aI hp[id]? λo=>(∃e s xs,o= .vec e s xs/\i<xs.length/\aI v.toPV λp=>p.cells.length=sz/\p.ok=true/\
  ((off=0/\sz=s/\K (hp.set id (.vec e s (xs.set i p))))\/(sz≠s/\off+sz<=s/\K (hp.set id (.vec e s (xs.set i (.agg (splice (xs.getD i .any).cells off p.cells))))))))\/
  (∃e s k xs hole,o= .tree e s k xs hole/\i<xs.length/\off+sz<=s/\
   ((k.flatB off sz=true/\(xs.getD i .any).isAgg=true/\aI v.toPV λp=>p.cells.length=sz/\p.ok=true/\K (hp.set id (.tree e s k (xs.set i (.agg (splice (xs.getD i .any).cells off p.cells))) hole)))\/
    (∃bv bv',hole=some (i,off,bv)/\sz=1/\v= .b bv'/\bv'.cellOk=true/\K (hp.set id (.tree e s k xs (some (i,off,bv')))))))
 |_=>False
def BV.kill(id:Nat):BV->BV
 | .sl k=>if k=id then .pv .any else .sl k
 | .elt k i o=>if k=id then .pv .any else .elt k i o
 |x=>x
def AV.kill(id:Nat):AV->AV
 | .b x=>.b (x.kill id)
 | .agg xs=>.agg (xs.map (BV.kill id))
 | .tup xs=>.tup (xs.map (BV.kill id))
def J8(g:BV->BV):Option (Nat×Nat×BV)->Option (Nat×Nat×BV)
 |some (i,j,b)=>some (i,j,g b)
 |none=>none
def AObj.kill(id:Nat):AObj->AObj
 | .box t cs=>.box t (cs.map (BV.kill id))
 | .tree e sz k xs h=>.tree e sz k xs (J8 (BV.kill id) h)
 |o=>o
def St.kill(st:St)(id:Nat):St:={st with fr:=st.fr.map λx=>(x.1,x.2.kill id),hp:=st.hp.map (AObj.kill id)}
def St.moved(st:St)(id:Nat)(o:AObj):St:=⟨st.fr.map λx=>(x.1,x.2.kill id),(st.hp.map (AObj.kill id)).set id o⟩
def Nq(hp:List AObj)(id:Nat):Option PV:=match hp[id]? with
 |some (.vec _ sz xs)=>some (mF sz xs)
 |some (.tree _ sz _ xs none)=>some (mF sz xs)
 |_=>none
def Dr(hp:List AObj)(bor:Bool):BV->Option PV
 | .sl id=>if bor then Nq hp id else none
 |x=>x.toPV
def nv(hp:List AObj)(bor:Bool):AV->Option PV
 | .b x=>Dr hp bor x
 | .agg xs=>(xs.mapM (Dr hp bor)).map .agg
 |a=>a.toPV
def uL(hp:List AObj)(bor:Bool)(B:List Nat):AV->Option AV
 | .b (.sl id)=>if B.contains id then some (.b (.sl id))else(nv hp bor (.b (.sl id))).map .p
 | .agg xs=>if(xs.mapM BV.toPV).isSome then(AV.agg xs).toPV.map .p else some (.agg xs)
 | .b (.full p)=>some (.p p)
 | .b .nils=>some (.p (.list 0 []))
 |a=>some a
def PV.plain:PV->Bool
 | .sc (.int _ _)=>true
 | .sc (.bool _)=>true
 | .sc (.string _)=>true
 | .agg xs=>xs.all λx=>match x with
  | .sc (.int _ _)=>true
  | .sc (.bool _)=>true
  | .sc (.string _)=>true
  |_=>false
 |_=>false
def bnd(st:St)(x:Option SX)(dflt:Nat)(K:Nat->Prop):Prop:=match x with
 |none=>K dflt
 |some x=>aI (st.get x) λa=>Bq a λv=>isInt v λ_ n=>0<=n/\K n.toNat
def bytesOf:List PV->Option (List Int)
 |[]=>some []
 | .sc (.int .u8 n)::l=>(bytesOf l).map (n::·)
 |_=>none
def St.putO(st:St)(d:Option Nat)(a:AV):St:=match d with
 |some d=>st.put d a
 |none=>st
def yv:Value->Option Bool
 | .bool b=>some b
 |_=>none
def BV.ren(ρ:Nat->Nat):BV->BV
 | .sl id=>.sl (ρ id)
 | .ptr id off=>.ptr (ρ id) off
 | .elt id i off=>.elt (ρ id) i off
 | .clo f ids=>.clo f (ids.map ρ)
 | .mp id=>.mp (ρ id)
 |x=>x
def AV.ren(ρ:Nat->Nat):AV->AV
 | .b x=>.b (x.ren ρ)
 | .agg xs=>.agg (xs.map (BV.ren ρ))
 | .tup xs=>.tup (xs.map (BV.ren ρ))
def AObj.ren(ρ:Nat->Nat):AObj->AObj
 | .box t cs=>.box t (cs.map (BV.ren ρ))
 | .tree e sz k xs h=>.tree e sz k xs (J8 (BV.ren ρ) h)
 |o=>o
def BV.ids:BV->List Nat
 | .sl id=>[id]
 | .ptr id _=>[id]
 | .elt id _ _=>[id]
 | .clo _ ids=>ids
 | .mp id=>[id]
 |_=>[]
def AV.ids:AV->List Nat
 | .b x=>x.ids
 | .agg xs=>xs.flatMap BV.ids
 | .tup xs=>xs.flatMap BV.ids
def AObj.ids:AObj->List Nat
 | .box _ cs=>cs.flatMap BV.ids
 | .tree _ _ _ _ (some (_,_,b))=>b.ids
 |_=>[]
def BV.killB(B:List Nat):BV->BV
 | .sl k=>if B.contains k then .pv .any else .sl k
 | .elt k i o=>if B.contains k then .pv .any else .elt k i o
 |x=>x
def AV.killB(B:List Nat):AV->AV
 | .b x=>.b (x.killB B)
 | .agg xs=>.agg (xs.map (BV.killB B))
 | .tup xs=>.tup (xs.map (BV.killB B))
def AObj.killB(B:List Nat):AObj->AObj
 | .box t cs=>.box t (cs.map (BV.killB B))
 | .tree e sz k xs h=>.tree e sz k xs (J8 (BV.killB B) h)
 |o=>o
def ic(B:List Nat)(n k:Nat):Nat:=if k<B.length then B.getD k 0 else n+(k - B.length)
def vM(B:List Nat)(hp os:List AObj):List AObj:=
 (hp.mapIdx λi o=>if B.contains i then((os.getD (B.idxOf i) .gone).ren (ic B hp.length))else o.killB B)++(os.drop B.length).map (AObj.ren (ic B hp.length))
def St.back(st:St)(B:List Nat)(os:List AObj):St:=⟨st.fr.map λx=>(x.1,x.2.killB B),vM B st.hp os⟩
structure Rec where
 i:Nat
 d:Option Nat
 rd:List Nat
 s:Option Nat
 F:List Nat
 G:List Nat
inductive Loc where
 |no
 |blk (g:Nat)
 |nil (a:Option Addr)
 |hdr (g n cap sz:Nat) (O:Nat->Prop)
 |mp (g:Nat)
def Loc.has:Loc->Nat->Prop
 | .blk g,b=>b=g
 | .hdr g _ _ _ O,b=>b=g\/O b
 | .mp g,b=>b=g
 |_,_=>False
def none':Nat->Prop:=λ_=>False
def Loc.fixed:Loc->Bool
 | .blk _=>true
 | .mp _=>true
 |_=>false
def Loc.head(l:Loc)(v:Value):Prop:=match l with
 | .nil a=>v= .slice a 0 0
 | .hdr g n cap _ _=>v= .slice (some ⟨g,0,none⟩) n cap
 |_=>False
def RelB(θ:List Loc)(D:Nat->Prop)(w:World)(v:Value):BV->Prop
 | .pv p=>RelP D w v p
 | .nils=>v= .slice none 0 0
 | .sl id=>∃l,θ[id]? =some l/\l.head v
 | .ptr id off=>∃g,θ[id]? =some (.blk g)/\v= .pointer (some ⟨g,off,none⟩)
 | .elt id i off=>∃g n cap sz O,θ[id]? =some (.hdr g n cap sz O)/\v= .pointer (some ⟨g,i*sz+off,none⟩)
 | .clo f ids=>∃gs:List Nat,gs.length=ids.length/\(∀(k id g:Nat),ids[k]? =some id->gs[k]? =some g->θ[id]? =some (.blk g))/\v= .func f #[] (gs.map λg=>Value.pointer (some ⟨g,0,none⟩)).toArray
 | .mp id=>∃g,θ[id]? =some (.mp g)/\v= .map (some g)
 | .full p=>RelP D w v p/\∃a n,v= .slice a n n
 | .ifc=>∃t u,v= .iface t u
def RelA(θ:List Loc)(D:Nat->Prop)(w:World)(v:Value):AV->Prop
 | .b x=>RelB θ D w v x
 | .agg xs=>∃vs:Array Value,v= .agg vs/\vs.size=xs.length/\∀(i:Nat) (u:Value) (x:BV),vs[i]? =some u->xs[i]? =some x->RelB θ D w u x
 | .tup xs=>∃vs:Array Value,v= .tuple vs/\vs.size=xs.length/\∀(i:Nat) (u:Value) (x:BV),vs[i]? =some u->xs[i]? =some x->RelB θ D w u x
inductive RelT(D:Nat->Prop)(w:World):Option (TypeId×Nat×K)->(Nat->Prop)->Value->PV->Prop
 |flat (O:Nat->Prop) (v:Value) (p:PV) (h:RelP D w v p):RelT D w none O v p
 |nil (q:TypeId×Nat×K) (O:Nat->Prop) (a:Option Addr):RelT D w (some q) O (.slice a 0 0) (.list 0 [])
 |hdr (e:TypeId) (sz:Nat) (k:K) (O:Nat->Prop) (g cap:Nat) (xs:List PV) (p:PV) (cs:Array Value) (val:Nat->Nat->Value) (Os:Nat->Nat->Nat->Prop)
  (hp:p=mF sz xs) (hcap:xs.length<=cap) (hmax:cap<=maxLen) (hsz:∀x∈xs,x.cells.length=sz) (hg:w.heap[g]? =some (.cells cs e (0,0))) (hcs:cs.size=cap*sz)
  (hO:O g) (hOs:∀i j b,Os i j b->O b/\b≠g) (hdj:∀i j i' j' b,Os i j b->Os i' j' b->i=i'/\j=j')
  (hc:∀(i j:Nat) (x y:PV),xs[i]? =some x->x.cells[j]? =some y->cs[i*sz+j]? =some (val i j))
  (hr:∀(i j:Nat) (x y:PV),xs[i]? =some x->x.cells[j]? =some y->RelT D w (k.at j) (Os i j) (val i j) y):
  RelT D w (some (e,sz,k)) O (.slice (some ⟨g,0,none⟩) xs.length cap) p
theorem RelT.mono{D D':Nat->Prop}{w w':World}(hD:∀b,D b->D' b)(hw:∀b,D b->w'.heap[b]? =w.heap[b]?){q:Option (TypeId×Nat×K)}{O:Nat->Prop}{v:Value}{p:PV}(hO:∀b,O b->w'.heap[b]? =w.heap[b]?)(h:RelT D w q O v p):RelT D' w' q O v p:=by
 induction h with
 |flat O v p h=>exact .flat O v p (h.mono hD hw)
 |nil q O a=>exact .nil q O a
 |hdr e sz k O g cap xs p cs val Os hp hcap hmax hsz hg hcs hOg hOs hdj hc _ ih=>
  exact .hdr e sz k O g cap xs p cs val Os hp hcap hmax hsz ((hO g hOg).trans hg) hcs hOg hOs hdj hc λi j x y hx hy=>ih i j x y hx hy λb hb=>hO b (hOs i j b hb).1
theorem RelT.wide{D:Nat->Prop}{w:World}{q:Option (TypeId×Nat×K)}{O O':Nat->Prop}{v:Value}{p:PV}(hO:∀b,O b->O' b)(h:RelT D w q O v p):RelT D w q O' v p:=by
 cases h with
 |flat O v p h=>exact .flat O' v p h
 |nil q O a=>exact .nil q O' a
 |hdr e sz k O g cap xs p cs val Os hp hcap hmax hsz hg hcs hOg hOs hdj hc hr=>
  exact .hdr e sz k O' g cap xs p cs val Os hp hcap hmax hsz hg hcs (hO g hOg) (λi j b hb=>⟨hO b (hOs i j b hb).1,(hOs i j b hb).2⟩) hdj hc hr
theorem RelT.toP{D D':Nat->Prop}{w:World}{q:Option (TypeId×Nat×K)}{O:Nat->Prop}{v:Value}{p:PV}(hD:∀b,D b->D' b)(hO:∀b,O b->D' b)(h:RelT D w q O v p):RelP D' w v p:=by
 induction h with
 |flat O v p h=>exact h.mono hD λ_ _=>rfl
 |nil q O a=>exact .nil a 0
 |hdr e sz k O g cap xs p cs val Os hp hcap hmax hsz hg hcs hOg hOs hdj hc _ ih=>
  subst hp
  refine gy hcap λ_=>⟨g,0,rfl,hO g hOg,hsz,λi j x y hx hy=>⟨val i j,?_,ih i j x y hx hy λb hb=>hO b (hOs i j b hb).1⟩⟩
  rw[x_,cell_of_row w g _ cs e (0,0) hg]
  exact hc i j x y hx hy
def dA(h:Option (Nat×Nat×BV))(i j:Nat):Option BV:=match h with
 |some (a,b,x)=>if a=i/\b=j then some x else none
 |none=>none
def RelO(θ:List Loc)(D:Nat->Prop)(w:World):Loc->AObj->Prop
 | .blk g,.box t cs=>∃c:Array Value,w.heap[g]? =some (.cells c t (0,0))/\c.size=cs.length/\∀(i:Nat) (u:Value) (x:BV),c[i]? =some u->cs[i]? =some x->RelB θ D w u x
 | .nil _,.vec _ _ xs=>xs=[]
 | .nil _,.tree _ _ _ xs h=>xs=[]/\h=none
 | .hdr g n cap s O,.tree e sz k xs hole=>s=sz/\n=xs.length/\n<=cap/\cap<=maxLen/\(∀x∈xs,x.cells.length=sz)/\∃(c:Array Value) (Os:Nat->Nat->Nat->Prop),w.heap[g]? =some (.cells c e (0,0))/\c.size=cap*sz/\
  (∀i j b,Os i j b->O b/\b≠g)/\(∀i j i' j' b,Os i j b->Os i' j' b->i=i'/\j=j')/\(∀i j b,hole=some (i,j,b)->i<xs.length/\(k.at j).isSome=true)/\
  ∀(i j:Nat) (x y:PV),xs[i]? =some x->x.cells[j]? =some y->∃u,c[i*sz+j]? =some u/\(match dA hole i j with|some b=>RelB θ D w u b|none=>RelT D w (k.at j) (Os i j) u y)
 | .hdr g n cap s _,.vec e sz xs=>s=sz/\n=xs.length/\n<=cap/\cap<=maxLen/\(∀x∈xs,x.cells.length=sz)/\∃c:Array Value,w.heap[g]? =some (.cells c e (0,0))/\c.size=cap*sz/\
  ∀(i j:Nat) (x y:PV),xs[i]? =some x->x.cells[j]? =some y->∃u,c[i*sz+j]? =some u/\RelP D w u y
 | .mp g,.map _ _ kvs=>∃(es:Array MapEntry) (clock:Nat),w.heap[g]? =some (.map es clock)/\es.size=kvs.length/\∀(i:Nat) (en:MapEntry) (kv:PV×PV),es[i]? =some en->kvs[i]? =some kv->RelP D w en.key kv.1/\RelP D w en.val kv.2
 | .no,.free=>True
 |_,.gone=>True
 |_,_=>False
structure Ok(θ:List Loc)(D:Nat->Prop)(hp:List AObj)(w:World):Prop where
 len:θ.length=hp.length
 dlt:∀b,D b->b<w.heap.size
 inj:∀(i j:Nat) (li lj:Loc) (g:Nat),θ[i]? =some li->θ[j]? =some lj->li.has g->lj.has g->i=j
 olt:∀(i:Nat) (l:Loc) (g:Nat),θ[i]? =some l->l.has g->g<w.heap.size/\¬D g
 objs:∀(i:Nat) (l:Loc) (o:AObj),θ[i]? =some l->hp[i]? =some o->RelO θ D w l o
structure Keep(O:Nat->Prop)(w w':World):Prop where
 os:w'.os=w.os
 tape:w'.tape=w.tape
 output:w'.output=w.output
 size:w.heap.size<=w'.heap.size
 block:∀k,k<w.heap.size->¬O k->w'.heap[k]? =w.heap[k]?
theorem Keep.refl(O:Nat->Prop)(w:World):Keep O w w:=⟨rfl,rfl,rfl,u_ _,λ_ _ _=>rfl⟩
theorem Keep.trans{O:Nat->Prop}{a b c:World}(h:Keep O a b)(k:Keep O b c):Keep O a c:=
 ⟨k.os.trans h.os,k.tape.trans h.tape,k.output.trans h.output,L_ h.size k.size,λi hi ho=>(k.block i (q_ hi h.size) ho).trans (h.block i hi ho)⟩
theorem Keep.of_below{O:Nat->Prop}{w w':World}(h:Below w.heap.size w w'):Keep O w w':=⟨h.os,h.tape,h.output,h.size,λk hk _=>h.block k hk⟩
theorem Keep.below{w w':World}(h:Keep (λ_=>False) w w'):Below w.heap.size w w':=⟨h.os,h.tape,h.output,h.size,λk hk=>h.block k hk id⟩
def GW(D:Nat->Prop)(w:World):Prop:=∀w',Keep (λb=>¬D b) w w'->GT w'
theorem GW.mono{D D':Nat->Prop}{w w':World}{O:Nat->Prop}(h:GW D w)(hk:Keep O w w')(hO:∀b,D b->¬O b)(hD:∀b,D b->D' b):GW D' w':=λw2 h2=>
 h w2 ⟨h2.os.trans hk.os,h2.tape.trans hk.tape,h2.output.trans hk.output,L_ hk.size h2.size,λk hk1 hk2=>
  have hd:D k:=aB_ hk2
  (h2.block k (q_ hk1 hk.size) (λh=>h (hD k hd))).trans (hk.block k hk1 (hO k hd))⟩
theorem GW.of{w:World}(h:GT w):GW (λb=>b<w.heap.size) w:=λ_ h2=>h.below ⟨h2.os,h2.tape,h2.output,h2.size,λk hk=>h2.block k hk (λh=>h hk)⟩
structure Ctx where
 n:Nat
 w0:World
 D0:Nat->Prop
 O0:Nat->Prop
 dfs:List Deferred
 th:List Loc
 gk:∀w,Keep O0 w0 w->GW D0 w
structure Inv(c:Ctx)(θ:List Loc)(D:Nat->Prop)(st:St)(a:Act)(w:World):Prop where
 size:a.tmps.size=c.n
 defers:a.defers=c.dfs
 ok:Ok θ D st.hp w
 keep:Keep c.O0 c.w0 w
 dsub:∀b,c.D0 b->D b
 dnew:∀b,D b->c.D0 b\/c.O0 b\/c.w0.heap.size<=b
 onew:∀(i:Nat) (l:Loc) (g:Nat),θ[i]? =some l->l.has g->c.O0 g\/c.w0.heap.size<=g
 fr:∀k x,look st.fr k=some x->RelA θ D w (a.tmps.getD k undef) x
 fix:∀(k:Nat) (l:Loc),c.th[k]? =some l->l.fixed=true->θ[k]? =some l
def Rel(c:Ctx)(st:St)(a:Act)(w:World):Prop:=∃θ D,Inv c θ D st a w
section
variable {θ:List Loc} {D D':Nat->Prop} {w w':World}
theorem RelB.mono(hD:∀b,D b->D' b)(hw:∀b,D b->w'.heap[b]? =w.heap[b]?){v:Value}{x:BV}(h:RelB θ D w v x):RelB θ D' w' v x:=by
 cases x<;>simp only[RelB]at h⊢
 case pv p=>exact h.mono hD hw
 case full p=>exact⟨h.1.mono hD hw,h.2⟩
 all_goals exact h
theorem RelA.mono(hD:∀b,D b->D' b)(hw:∀b,D b->w'.heap[b]? =w.heap[b]?){v:Value}{x:AV}(h:RelA θ D w v x):RelA θ D' w' v x:=by
 cases x with
 |b x=>exact RelB.mono hD hw h
 |agg xs=>
  obtain⟨vs,hv,hs,hh⟩:=h
  exact⟨vs,hv,hs,λi u x hu hx=>(hh i u x hu hx).mono hD hw⟩
 |tup xs=>
  obtain⟨vs,hv,hs,hh⟩:=h
  exact⟨vs,hv,hs,λi u x hu hx=>(hh i u x hu hx).mono hD hw⟩
theorem RelO.mono(hD:∀b,D b->D' b)(hw:∀b,D b->w'.heap[b]? =w.heap[b]?){l:Loc}{o:AObj}(hl:∀g,l.has g->w'.heap[g]? =w.heap[g]?)(h:RelO θ D w l o):RelO θ D' w' l o:=by
 cases l<;>cases o<;>simp only[RelO]at h⊢<;>try exact h
 case blk.box g t cs=>
  obtain⟨c,h1,h2,h3⟩:=h
  exact⟨c,(hl g rfl).trans h1,h2,λi u x hu hx=>(h3 i u x hu hx).mono hD hw⟩
 case hdr.tree g n cap s O e sz k xs hole=>
  obtain⟨h1,h2,h3,h4,h5,c,Os,h6,h7,h8,h9,h11,h10⟩:=h
  refine⟨h1,h2,h3,h4,h5,c,Os,(hl g (.inl rfl)).trans h6,h7,h8,h9,h11,λi j x y hx hy=>?_⟩
  obtain⟨u,e1,e2⟩:=h10 i j x y hx hy
  refine⟨u,e1,?_⟩
  split
  ·rename_i b hb;rw[hb]at e2;exact e2.mono hD hw
  ·rename_i hb;rw[hb]at e2;exact e2.mono hD hw λb hb=>hl b (.inr (h8 i j b hb).1)
 case hdr.vec g n cap s O e sz xs=>
  obtain⟨h1,h2,h3,h4,h5,c,h6,h7,h8⟩:=h
  exact⟨h1,h2,h3,h4,h5,c,(hl g (.inl rfl)).trans h6,h7,λi j x y hx hy=>let⟨u,e1,e2⟩:=h8 i j x y hx hy;⟨u,e1,e2.mono hD hw⟩⟩
 case mp.map g k e kvs=>
  obtain⟨es,clock,h1,h2,h3⟩:=h
  exact⟨es,clock,(hl g rfl).trans h1,h2,λi en kv he hk=>⟨(h3 i en kv he hk).1.mono hD hw,(h3 i en kv he hk).2.mono hD hw⟩⟩
theorem RelB.extN{θ':List Loc}(hθ:∀(i:Nat) (l:Loc),θ[i]? =some l->l≠.no->θ'[i]? =some l){v:Value}{x:BV}(h:RelB θ D w v x):RelB θ' D w v x:=by
 cases x<;>simp only[RelB]at h⊢
 ·exact h
 ·exact h
 ·obtain⟨l,h1,h2⟩:=h;exact⟨l,hθ _ _ h1 (λe=>by subst e;exact h2),h2⟩
 ·obtain⟨g,h1,h2⟩:=h;exact⟨g,hθ _ _ h1 (λe=>by cases e),h2⟩
 ·obtain⟨g,n,cap,sz,O,h1,h2⟩:=h;exact⟨g,n,cap,sz,O,hθ _ _ h1 (λe=>by cases e),h2⟩
 ·obtain⟨gs,h1,h2,h3⟩:=h;exact⟨gs,h1,λk id g e1 e2=>hθ _ _ (h2 k id g e1 e2) (λe=>by cases e),h3⟩
 ·obtain⟨g,h1,h2⟩:=h;exact⟨g,hθ _ _ h1 (λe=>by cases e),h2⟩
 ·exact h
 ·exact h
theorem RelA.extN{θ':List Loc}(hθ:∀(i:Nat) (l:Loc),θ[i]? =some l->l≠.no->θ'[i]? =some l){v:Value}{x:AV}(h:RelA θ D w v x):RelA θ' D w v x:=by
 cases x with
 |b x=>exact RelB.extN hθ h
 |agg xs=>
  obtain⟨vs,hv,hs,hh⟩:=h
  exact⟨vs,hv,hs,λi u x hu hx=>(hh i u x hu hx).extN hθ⟩
 |tup xs=>
  obtain⟨vs,hv,hs,hh⟩:=h
  exact⟨vs,hv,hs,λi u x hu hx=>(hh i u x hu hx).extN hθ⟩
theorem RelO.extN{θ':List Loc}(hθ:∀(i:Nat) (l:Loc),θ[i]? =some l->l≠.no->θ'[i]? =some l){l:Loc}{o:AObj}(h:RelO θ D w l o):RelO θ' D w l o:=by
 cases l<;>cases o<;>simp only[RelO]at h⊢<;>try exact h
 case blk.box g t cs=>
  obtain⟨c,h1,h2,h3⟩:=h
  exact⟨c,h1,h2,λi u x hu hx=>(h3 i u x hu hx).extN hθ⟩
 case hdr.tree g n cap s O e sz k xs hole=>
  obtain⟨h1,h2,h3,h4,h5,c,Os,h6,h7,h8,h9,h11,h10⟩:=h
  refine⟨h1,h2,h3,h4,h5,c,Os,h6,h7,h8,h9,h11,λi j x y hx hy=>?_⟩
  obtain⟨u,e1,e2⟩:=h10 i j x y hx hy
  refine⟨u,e1,?_⟩
  split
  ·rename_i b hb;rw[hb]at e2;exact e2.extN hθ
  ·rename_i hb;rw[hb]at e2;exact e2
theorem RelB.ext{θ':List Loc}(hθ:∀(i:Nat) (l:Loc),θ[i]? =some l->θ'[i]? =some l){v:Value}{x:BV}(h:RelB θ D w v x):RelB θ' D w v x:=h.extN λi l hi _=>hθ i l hi
theorem RelA.ext{θ':List Loc}(hθ:∀(i:Nat) (l:Loc),θ[i]? =some l->θ'[i]? =some l){v:Value}{x:AV}(h:RelA θ D w v x):RelA θ' D w v x:=h.extN λi l hi _=>hθ i l hi
theorem RelO.ext{θ':List Loc}(hθ:∀(i:Nat) (l:Loc),θ[i]? =some l->θ'[i]? =some l){l:Loc}{o:AObj}(h:RelO θ D w l o):RelO θ' D w l o:=h.extN λi l hi _=>hθ i l hi
end
theorem get_append{α:Type}{l m:List α}{i:Nat}{x:α}(h:l[i]? =some x):(l++m)[i]? =some x:=by
 rw[h_ (a_.1 h).1];exact h
theorem Inv.below{c:Ctx}{θ:List Loc}{D:Nat->Prop}{st:St}{a:Act}{w w':World}(h:Inv c θ D st a w)(hb:Below w.heap.size w w')(hw0:c.w0.heap.size<=w.heap.size){D':Nat->Prop}(hD:∀b,D b->D' b)
 (hD':∀b,D' b->D b\/(w.heap.size<=b/\b<w'.heap.size)):Inv c θ D' st a w':=by
 have hDw:∀b,D b->w'.heap[b]? =w.heap[b]? :=λb hb'=>hb.block b (h.ok.dlt b hb')
 refine⟨h.size,h.defers,⟨h.ok.len,λb hb'=>?_,h.ok.inj,λi l g hi hg=>?_,λi l o hi ho=>?_⟩,h.keep.trans (.of_below hb),λb hb'=>hD b (h.dsub b hb'),λb hb'=>?_,h.onew,λk x hk=>(h.fr k x hk).mono hD hDw,h.fix⟩
 ·rcases hD' b hb' with h1|h1
  ·exact q_ (h.ok.dlt b h1) hb.size
  ·exact h1.2
 ·obtain⟨h1,h2⟩:=h.ok.olt i l g hi hg
  refine⟨q_ h1 hb.size,λhd=>?_⟩
  rcases hD' g hd with h3|h3
  ·exact h2 h3
  ·omega
 ·exact(h.ok.objs i l o hi ho).mono hD hDw λg hg=>hb.block g (h.ok.olt i l g hi hg).1
 ·rcases hD' b hb' with h1|h1
  ·exact h.dnew b h1
  ·exact .inr (.inr (by omega))
theorem Inv.w0le{c:Ctx}{θ:List Loc}{D:Nat->Prop}{st:St}{a:Act}{w:World}(h:Inv c θ D st a w):c.w0.heap.size<=w.heap.size:=h.keep.size
theorem Inv.drew{c:Ctx}{θ:List Loc}{D:Nat->Prop}{st:St}{a:Act}{w:World}(h:Inv c θ D st a w):Inv c θ D st a w.drew:=
 h.below ((Below.refl _ _).drew) h.w0le (λ_ hb=>hb) (λ_ hb=>.inl hb)
theorem Inv.put{c:Ctx}{θ:List Loc}{D:Nat->Prop}{st:St}{a:Act}{w:World}(h:Inv c θ D st a w){d:Option Nat}{v:Value}{x:AV}(hd:∀k,d=some k->k<c.n)(hv:RelA θ D w v x):Inv c θ D (st.putO d x) (a.put d v) w:=by
 cases d with
 |none=>exact h
 |some k=>
  have hk:=hd k rfl
  refine⟨by simpa[Act.put,St.putO,St.put]using h.size,h.defers,h.ok,h.keep,h.dsub,h.dnew,h.onew,λj y hj=>?_,h.fix⟩
  simp only[St.putO,St.put,look]at hj
  have hs:k<a.tmps.size:=by rw[h.size];exact hk
  by_cases hjk:j=k
  ·subst hjk
   simp only[if_true]at hj
   cases hj
   simp[Act.put,hs]
   exact hv
  ·simp only[hjk,if_false]at hj
   have:=h.fr j y hj
   simp[Act.put,T_ (Ne.symm hjk)]at this⊢
   exact this
theorem Inv.push{c:Ctx}{θ:List Loc}{D:Nat->Prop}{st:St}{a:Act}{w:World}(h:Inv c θ D st a w){l:Loc}{o:AObj}(ho:RelO (θ++[l]) D w l o)
 (hl:∀g,l.has g->c.w0.heap.size<=g/\g<w.heap.size/\¬D g/\∀(i:Nat) (li:Loc),θ[i]? =some li->¬li.has g):Inv c (θ++[l]) D {st with hp:=st.hp++[o]} a w:=by
 have hext:∀(i:Nat) (l':Loc),θ[i]? =some l'->(θ++[l])[i]? =some l':=λi l' hi=>get_append hi
 have hcase:∀(i:Nat) (l':Loc),(θ++[l])[i]? =some l'->θ[i]? =some l'\/(i=θ.length/\l'=l):=by
  intro i l' hi
  rcases G_ i θ.length with h1|h1
  ·rw[h_ h1]at hi;exact .inl hi
  ·rw[i_ h1]at hi
   have:i - θ.length=0:=by
    rcases N_ (i - θ.length)with h2|h2
    ·exact h2
    ·rw[ah_ (show [l].length<=i - θ.length from h2)]at hi;cases hi
   rw[this]at hi
   simp at hi
   exact .inr ⟨by omega,hi.symm⟩
 refine⟨h.size,h.defers,⟨by simp[h.ok.len],h.ok.dlt,λi j li lj g hi hj hgi hgj=>?_,λi l' g hi hg=>?_,λi l' o' hi ho'=>?_⟩,h.keep,h.dsub,h.dnew,λi l' g hi hg=>?_,λk x hk=>(h.fr k x hk).ext hext,λk l hk hf=>hext k l (h.fix k l hk hf)⟩
 ·rcases hcase i li hi with h1|⟨rfl,rfl⟩<;>rcases hcase j lj hj with h2|⟨rfl,rfl⟩
  ·exact h.ok.inj i j li lj g h1 h2 hgi hgj
  ·exact absurd hgi ((hl g hgj).2.2.2 i li h1)
  ·exact absurd hgj ((hl g hgi).2.2.2 j lj h2)
  ·rfl
 ·rcases hcase i l' hi with h1|⟨rfl,rfl⟩
  ·exact h.ok.olt i l' g h1 hg
  ·exact⟨(hl g hg).2.1,(hl g hg).2.2.1⟩
 ·rcases hcase i l' hi with h1|⟨rfl,rfl⟩
  ·have hlt:i<st.hp.length:=by rw[<-h.ok.len];exact(a_.1 h1).1
   rw[h_ hlt]at ho'
   exact(h.ok.objs i l' o' h1 ho').ext hext
  ·rw[h.ok.len,i_ (u_ _)]at ho'
   simp at ho'
   subst ho'
   exact ho
 ·rcases hcase i l' hi with h1|⟨rfl,rfl⟩
  ·exact h.onew i l' g h1 hg
  ·exact .inr (hl g hg).1
theorem Inv.free_no{c:Ctx}{θ:List Loc}{D:Nat->Prop}{st:St}{a:Act}{w:World}(h:Inv c θ D st a w){s:Nat}(hs:st.hp[s]? =some .free):θ[s]? =some .no:=by
 have hlt:s<st.hp.length:=(a_.1 hs).1
 have hlt':s<θ.length:=by rw[h.ok.len];exact hlt
 have h1:=b_ hlt'
 have:=h.ok.objs s _ _ h1 hs
 rw[h1]
 cases hq:θ[s]<;>rw[hq]at this<;>simp only[RelO]at this
theorem Inv.fill{c:Ctx}{θ:List Loc}{D:Nat->Prop}{st:St}{a:Act}{w:World}(h:Inv c θ D st a w){s:Nat}(hs:st.hp[s]? =some .free){l:Loc}{o:AObj}(ho:RelO (θ.set s l) D w l o)
 (hl:∀g,l.has g->c.w0.heap.size<=g/\g<w.heap.size/\¬D g/\∀(i:Nat) (li:Loc),θ[i]? =some li->¬li.has g):Inv c (θ.set s l) D {st with hp:=st.hp.set s o} a w:=by
 have hlt:s<st.hp.length:=(a_.1 hs).1
 have hlt':s<θ.length:=by rw[h.ok.len];exact hlt
 have hno:=h.free_no hs
 have hext:∀(i:Nat) (l':Loc),θ[i]? =some l'->l'≠.no->(θ.set s l)[i]? =some l':=λi l' hi hn=>by
  rw[m_ (λe=>hn (by subst e;rw[hno]at hi;exact(W_ hi).symm))];exact hi
 have hcase:∀(i:Nat) (l':Loc),(θ.set s l)[i]? =some l'->(i=s/\l'=l)\/(i≠s/\θ[i]? =some l'):=λi l' hi=>by
  by_cases hii:i=s
  ·subst hii
   rw[t_ hlt']at hi
   exact .inl ⟨rfl,(W_ hi).symm⟩
  ·rw[m_ (Ne.symm hii)]at hi
   exact .inr ⟨hii,hi⟩
 refine⟨h.size,h.defers,⟨by simp[h.ok.len],h.ok.dlt,λi j li lj g hi hj hgi hgj=>?_,λi l' g hi hg=>?_,λi l' o' hi ho'=>?_⟩,h.keep,h.dsub,h.dnew,λi l' g hi hg=>?_,λk x hk=>(h.fr k x hk).extN hext,λk l hk hf=>hext k l (h.fix k l hk hf) (λe=>by subst e;cases hf)⟩
 ·rcases hcase i li hi with⟨rfl,rfl⟩|⟨h1,h1'⟩<;>rcases hcase j lj hj with⟨rfl,rfl⟩|⟨h2,h2'⟩
  ·rfl
  ·exact absurd hgj ((hl g hgi).2.2.2 j lj h2')
  ·exact absurd hgi ((hl g hgj).2.2.2 i li h1')
  ·exact h.ok.inj i j li lj g h1' h2' hgi hgj
 ·rcases hcase i l' hi with⟨rfl,rfl⟩|⟨h1,h1'⟩
  ·exact⟨(hl g hg).2.1,(hl g hg).2.2.1⟩
  ·exact h.ok.olt i l' g h1' hg
 ·rcases hcase i l' hi with⟨rfl,rfl⟩|⟨h1,h1'⟩
  ·rw[t_ hlt]at ho'
   cases ho'
   exact ho
  ·rw[m_ (Ne.symm h1)]at ho'
   exact(h.ok.objs i l' o' h1' ho').extN hext
 ·rcases hcase i l' hi with⟨rfl,rfl⟩|⟨h1,h1'⟩
  ·exact .inr (hl g hg).1
  ·exact h.onew i l' g h1' hg
def owns(θ:List Loc)(b:Nat):Prop:=∃(i:Nat) (l:Loc),θ[i]? =some l/\l.has b
abbrev EH:=Option (AV×List AObj)
def tH(ch:List PanicEntry):Prop:=∃t v,ch=[{v:=.iface t v,recovered:=false}]
def Back(θ:List Loc)(D:Nat->Prop)(w:World)(K:EH->Prop)(e:Ending)(w':World):Prop:=
 (∃v r os' θ' D',e= .returned v/\K (some (r,os'))/\RelA θ' D' w' v r/\Ok θ' D' os' w'/\Keep (owns θ) w w'/\(∀b,D b->D' b)/\(∀b,D' b->D b\/owns θ b\/w.heap.size<=b)/\
  (∀(i:Nat) (l:Loc) (g:Nat),θ'[i]? =some l->l.has g->owns θ g\/w.heap.size<=g)/\(∀(k:Nat) (l:Loc),θ[k]? =some l->l.fixed=true->θ'[k]? =some l)/\θ.length<=θ'.length)\/
 (∃ch,tH ch/\e= .panicked ch/\K none/\Keep (owns θ) w w')
def ACalls(P:Program)(f:FuncId)(ars:List AV)(os:List AObj)(K:EH->Prop):Prop:=
 ∀(w:World) (θ:List Loc) (D:Nat->Prop) (vs:List Value),GW D w->Ok θ D os w->vs.length=ars.length->(∀(i:Nat) (v:Value) (x:AV),vs[i]? =some v->ars[i]? =some x->RelA θ D w v x)->
  Calls P f vs.toArray w (Back θ D w K)
theorem Back.mono{θ:List Loc}{D:Nat->Prop}{w w':World}{K K':EH->Prop}{e:Ending}(h:Back θ D w K e w')(hk:∀o,K o->K' o):Back θ D w K' e w':=by
 rcases h with⟨v,r,os',θ',D',h1,h2,h3⟩|⟨ch,h0,h1,h2,h3⟩
 ·exact .inl ⟨v,r,os',θ',D',h1,hk _ h2,h3⟩
 ·exact .inr ⟨ch,h0,h1,hk _ h2,h3⟩
theorem ACalls.mono{P:Program}{f:FuncId}{ars:List AV}{os:List AObj}{K K':EH->Prop}(h:ACalls P f ars os K)(hk:∀o,K o->K' o):ACalls P f ars os K':=
 λw θ D vs h0 h1 h2 h3=>(h w θ D vs h0 h1 h2 h3).mono λ_ _ hb=>hb.mono hk
def BV.FlatB:BV->Prop
 | .pv p=>p.Flat
 | .full _=>False
 |_=>True
def AV.FlatA:AV->Prop
 | .b x=>x.FlatB
 | .agg xs=>∀x∈xs,x.FlatB
 | .tup xs=>∀x∈xs,x.FlatB
inductive FlatT:Option (TypeId×Nat×K)->PV->Prop
 |flat (p:PV) (h:p.Flat):FlatT none p
 |sl (e:TypeId) (sz:Nat) (k:K) (p:PV) (xs:List PV) (hp:p=mF sz xs) (h:∀(i j:Nat) (x y:PV),xs[i]? =some x->x.cells[j]? =some y->FlatT (k.at j) y):FlatT (some (e,sz,k)) p
def flatT(k:K)(xs:List PV):Prop:=∀(i j:Nat) (x y:PV),xs[i]? =some x->x.cells[j]? =some y->FlatT (k.at j) y
def AObj.FlatO:AObj->Prop
 | .gone=>True
 | .free=>True
 | .box _ cs=>∀x∈cs,x.FlatB
 | .vec _ _ xs=>∀x∈xs,∀y∈x.cells,y.Flat
 | .map _ _ kvs=>∀kv∈kvs,kv.1.Flat/\kv.2.Flat
 | .tree _ _ k xs h=>(∀i j b,h=some (i,j,b)->b.FlatB)/\flatT k xs
def gJ(P:Program)(t:TypeId):Bool:=match P.underlying t with
 |some (.struct _)=>true
 |some (.array _ _)=>true
 |_=>false
def eqP(P:Program):Nat->TypeId->PV->PV->Option Bool
 |0,_,_,_=>none
 |d+1,t,x,y=>match P.underlying t,x,y with
  |some .bool,.sc (.bool a),.sc (.bool b)=>some (a==b)
  |some (.int _),.sc (.int k a),.sc (.int k' b)=>if k=k' then some (a==b)else none
  |some .string,.sc (.string a),.sc (.string b)=>some (a==b)
  |some (.struct fs),.agg xs,.agg ys=>if P.stoodInHeld t then none else eqFs d fs.toList xs ys
  |_,_,_=>none
where eqFs (d:Nat):List Field->List PV->List PV->Option Bool
 |[],_,_=>some true
 |f::l,xs,ys=>if f.name= "_" then none else(P.info? f.type).bind λi=>if(P.underlying f.type).isNone\/xs.length<f.offset+i.size\/ys.length<f.offset+i.size\/(gJ P f.type=false/\i.size≠1)then none else
  (eqP P d f.type ((PV.agg xs).sub f.offset i.size (gJ P f.type)) ((PV.agg ys).sub f.offset i.size (gJ P f.type))).bind λb=>if b then eqFs d l xs ys else some false
def B7(P:Program):Nat->TypeId->PV->Bool
 |0,_,_=>false
 |d+1,t,p=>match P.underlying t,p with
  |some .bool,.sc (.bool _)=>true
  |some (.int _),.sc (.int _ _)=>true
  |some .string,.sc (.string _)=>true
  |some (.struct fs),.agg xs=>fs.toList.all λf=>f.name != "_" &&(match P.info? f.type with
   |some i=>(P.underlying f.type).isSome&&decide (f.offset+i.size<=xs.length)&&(gJ P f.type||decide (i.size=1))&&B7 P d f.type ((PV.agg xs).sub f.offset i.size (gJ P f.type))
   |none=>false)
  |_,_=>false
def uX(P:Program)(k:TypeId)(x:PV):List (PV×PV)->Nat->Option (Option (Nat×PV))
 |[],_=>some none
 |kv::l,i=>(eqP P 64 k x kv.1).bind λb=>if b then some (some (i,kv.2))else uX P k x l (i+1)
def eu(P:Program)(f:FuncId):Bool:=match P.funcs[f]? with
 |some fn=>fn.body.isSome&&fn.name != "runtime.NumGoroutine"
 |none=>false
def jp(P:Program)(st:St)(op:SOp)(K:AV->Prop):Prop:=
 match op with
 | .mv x=>aI (st.get x) K
 | .pick c a b=>aI (st.get c) λc=>Bq c λt=>isBool t λt=>(t=true->aI (st.get a) K)/\(t=false->aI (st.get b) K)
 | .bin op x y=>aI (st.get x) λx=>aI (st.get y) λy=>Bq x λx=>Bq y λy=>Js op x y λv=>K (.v v)
 | .eqB neg x y=>aI (st.get x) λx=>aI (st.get y) λy=>Bq x λx=>Bq y λy=>isBool x λa=>isBool y λb=>K (.v (.bool (neg ^^ (a==b))))
 | .un op x=>aI (st.get x) λx=>Bq x λx=>W7 op x λv=>K (.v v)
 | .len str x=>aI (st.get x) λx=>match str with
  |false=>isLen st.hp x λn=>K (.v (.int .i64 n))
  |true=>Bq x λx=>LY x λs=>K (.v (.int .i64 s.size))
 | .lenM k e x=>aI (st.get x) λx=>isMap st.hp k e x λ_ kvs=>K (.v (.int .i64 kvs.length))
 | .idxS x i=>aI (st.get x) λx=>aI (st.get i) λi=>Bq x λx=>Bq i λi=>isInt i λ_ n=>LY x λs=>0<=n/\n<s.size/\K (.v (.int .u8 (s.toList.getD n.toNat 0).toNat))
 | .idxV n sz ag x i=>aI (st.get x) λx=>aI (st.get i) λi=>Bq i λi=>isInt i λ_ m=>aI x.toPV λp=>0<=m/\m<n/\(ag=false->sz=1)/\p.cells.length=n*sz/\p.isAgg=true/\K (.p (p.sub (m.toNat*sz) sz ag))
 | .idxA sz x i=>aI (st.get x) λx=>aI (st.get i) λi=>Bq i λi=>isInt i λ_ n=>
  ((∃L,x= .p (mF sz L)/\0<=n/\n<L.length/\K (.p (.pto (L.getD n.toNat .any))))\/(∃id,x= .b (.sl id)/\aI st.hp[id]? λo=>(∃e L,o= .vec e sz L/\0<=n/\n<L.length/\K (.b (.elt id n.toNat 0)))\/(∃e k L h,o= .tree e sz k L h/\0<=n/\n<L.length/\K (.b (.elt id n.toNat 0)))))
 | .idxP n sz ag x i=>aI (st.get x) λx=>aI (st.get i) λi=>Bq i λi=>isInt i λ_ m=>0<=m/\m<n/\((∃id off,x= .b (.ptr id off)/\K (.b (.ptr id (off+m.toNat*sz))))\/
  (∃p,x= .p (.pto p)/\p.cells.length=n*sz/\(ag=false->sz=1)/\(p.sub (m.toNat*sz) sz ag).isAgg=ag/\K (.p (.pto (p.sub (m.toNat*sz) sz ag)))))
 | .fldA off sz ag x=>aI (st.get x) λx=>(∃p,x= .p (.pto p)/\off+sz<=p.cells.length/\(ag=false->sz=1)/\(p.sub off sz ag).isAgg=ag/\K (.p (.pto (p.sub off sz ag))))\/(∃id o,x= .b (.ptr id o)/\K (.b (.ptr id (o+off))))\/(∃id i o,x= .b (.elt id i o)/\K (.b (.elt id i (o+off))))
 | .fld off sz ag x=>aI (st.get x) λx=>(∃p,x= .p p/\p.isAgg=true/\off+sz<=p.cells.length/\(ag=false->sz=1)/\K (.p (p.sub off sz ag)))\/(∃cs,x= .agg cs/\off+sz<=cs.length/\(ag=false->sz=1)/\K (ni ag ((cs.drop off).take sz)))
 | .load sz ag x=>aI (st.get x) λx=>C2 st.hp sz ag x K
 | .cvtI k x=>aI (st.get x) λx=>Bq x λx=>isInt x λ_ n=>K (.v (.int k (k.wrap n)))
 | .slc sz x lo hi mx=>aI (st.get x) λx=>aI x.toPV λq=>∃L,q=mF sz L/\bnd st lo 0 λl=>bnd st hi L.length λh=>bnd st mx L.length λm=>
  (mx.isSome=true->hi.isSome=true)/\l<=h/\h<=m/\m<=L.length/\
   (K (.p (mF sz ((L.take h).drop l)))\/(mx.isSome=true/\h=m/\K (.b (.full (mF sz ((L.take h).drop l))))))
 | .slcS x lo hi=>aI (st.get x) λx=>Bq x λx=>LY x λs=>bnd st lo 0 λl=>bnd st hi s.size λh=>
  l<=h/\h<=s.size/\K (.v (.string (s.extract l h)))
 | .ext x i=>aI (st.get x) λx=>(∃xs,x= .p (.tup xs)/\aI xs[i]? λp=>K (.p p))\/(∃xs,x= .tup xs/\aI xs[i]? λp=>K (.b p))
 | .nilc x=>aI (st.get x) λx=>((∃p,x= .p (.pto p))\/(∃id o,x= .b (.ptr id o))\/(∃id i o,x= .b (.elt id i o))\/(∃f ps,x= .p (.fn (.func f) ps))\/(∃f ids,x= .b (.clo (.func f) ids)))/\K x
 | .build zero parts=>aI (parts.mapM λq=>(st.get q.2.2).map λa=>(q.1,q.2.1,a)) λps=>
  (∀q∈ps,q.2.2.ok=true/\q.2.2.cells.length=q.2.1/\q.1+q.2.1<=zero.length)/\K (.agg (ps.foldl (λcs q=>splice cs q.1 q.2.2.cells) (zero.map λv=>bI v)))
 | .call bor f args=>aI (args.mapM λx=>(st.get x).bind (nv st.hp bor)) λps=>ACalls P f (ps.map .p) [] λo=>∃r os',o=some (r,os')/\r.ids=[]/\(bor=true->r.FlatA)/\K r
 | .callp bor x args=>aI (st.get x) λx=>∃f cs,x= .p (.fn (.func f) cs)/\eu P f=true/\aI (args.mapM λx=>(st.get x).bind (nv st.hp bor)) λps=>ACalls P f ((ps++cs).map .p) [] λo=>∃r os',o=some (r,os')/\r.ids=[]/\(bor=true->r.FlatA)/\K r
 | .boxD _ x=>aI (st.get x) λx=>aI x.toPV λp=>x.ok=true/\(∀q,x≠.b (.full q))/\K (.p (.pto p))
 | .b2s x=>aI (st.get x) λx=>oC st.hp 1 x λL=>aI (bytesOf L) λl=>K (.v (.string (strOfNums l)))
 | .bslice false _ sz len parts=>aI (parts.mapM λx=>(st.get x).bind AV.toPV) λps=>ps.length=len/\0<sz/\len*sz<=16777216/\(∀p∈ps,p.cells.length=sz/\p.ok=true)/\(K (.p (mF sz ps))\/K (.b (.full (mF sz ps))))
 | .mkfn f caps=>aI (caps.mapM st.get) λars=>(∃ids:List Nat,ars=ids.map (λi=>.b (.ptr i 0))/\K (.b (.clo (.func f) ids)))\/(∃ps:List PV,ars=ps.map .p/\K (.p (.fn (.func f) ps)))
 | .lookup k e ok zero m x=>aI (st.get m) λm=>aI (st.get x) λx=>isMap st.hp k e m λ_ kvs=>aI x.toPV λp=>B7 P 64 k p=true/\(P.underlying k).isSome=true/\(∀kv∈kvs,(eqP P 64 k p kv.1).isSome=true)/\aI (uX P k p kvs 0) λr=>
  K (match ok with
   |true=>.tup [.pv (match r with|some (_,v)=>v|none=>.sc zero),.pv (.sc (.bool r.isSome))]
   |false=>.p (match r with|some (_,v)=>v|none=>.sc zero))
 | .eqT neg t x y=>aI (st.get x) λx=>aI (st.get y) λy=>aI x.toPV λp=>aI y.toPV λq=>aI (eqP P 64 t p q) λb=>K (.v (.bool (neg ^^ b)))
 | .mnmx mx k x ys=>aI (st.get x) λx=>Bq x λv=>isInt v λk1 n=>aI (ys.mapM st.get) λars=>∃ns:List Int,k1=k/\ars=ns.map (λn=>.v (.int k n))/\
  K (.v (.int k (ns.foldl (λa b=>if mx then max a b else min a b) n)))
 | .iface _ x=>aI (st.get x) λ_=>K (.b .ifc)
 | .appD _ sz bytes x y=>aI (st.get x) λx=>aI (st.get y) λy=>oC st.hp sz y λL=>(∀p∈L,p.ok=true)/\
  ∃L0,((x= .b .nils/\L0=[])\/x= .b (.full (mF sz L0)))/\(L0.length+L.length)*bytes<=140737488355328/\K (.p (mF sz (L0++L)))
 | .bsliceN _ sz len parts=>aI (parts.mapM λx=>(st.get x).bind AV.toPVn) λps=>ps.length=len/\0<sz/\len*sz<=16777216/\(∀p∈ps,p.cells.length=sz/\p.ok=true)/\K (.p (mF sz ps))
 |_=>False
def St.new(st:St)(pl:Option Nat)(o:AObj):St:=match pl with
 |none=>{st with hp:=st.hp++[o]}
 |some s=>{st with hp:=st.hp.set s o}
def St.nid(st:St)(pl:Option Nat):Nat:=pl.getD st.hp.length
def AU(st:St):Option Nat->Prop
 |none=>True
 |some s=>st.hp[s]? =some .free
def Hy(st:St)(op:SOp)(R:AObj->(Nat->BV)->Prop):Prop:=
 match op with
 | .alloc t zero=>R (.box t (zero.map λv=>bI v)) λn=>.ptr n 0
 | .box t x=>aI (st.get x) λx=>x.ok=true/\R (.box t x.cells) λn=>.ptr n 0
 | .bslice true e sz len parts=>aI (parts.mapM λx=>(st.get x).bind AV.toPV) λps=>ps.length=len/\0<sz/\len*sz<=16777216/\(∀p∈ps,p.cells.length=sz/\p.ok=true)/\R (.vec e sz ps) .sl
 | .mslice e sz bytes zero l c=>aI (st.get l) λl=>aI (st.get c) λc=>Bq l λl=>Bq c λc=>isInt l λ_ l=>isInt c λ_ c=>
  0<=l/\l<=c/\c<=9223372036854775807/\bytes*c<=281474976710656/\(fU zero).cells.length=sz/\0<sz/\aI (fU zero).toPV λz=>z.ok=true/\R (.vec e sz (Q_ l.toNat z)) .sl
 | .append e sz bytes x y=>aI (st.get x) λx=>aI (st.get y) λy=>oC st.hp sz y λL=>(∀p∈L,p.ok=true)/\
  (x= .b .nils\/x= .b (.full (.list 0 [])))/\L.length*bytes<=140737488355328/\R (.vec e sz L) .sl
 | .mkmap k e=>R (.map k e []) .mp
 |_=>False
def sexec(P:Program)(d:Option Nat)(op:SOp)(st:St)(K KP:St->Prop):Prop:=
 match op with
 | .store sz x v=>aI (st.get x) λx=>aI (st.get v) λv=>d=none/\Cn st.hp sz x v λhp=>K {st with hp:=hp}
 | .alloc t zero=>K ({st with hp:=st.hp++[AObj.box t (zero.map λv=>bI v)]}.putO d (.b (.ptr st.hp.length 0)))
 | .box t x=>aI (st.get x) λx=>x.ok=true/\K ({st with hp:=st.hp++[AObj.box t x.cells]}.putO d (.b (.ptr st.hp.length 0)))
 | .bslice true e sz len parts=>aI (parts.mapM λx=>(st.get x).bind AV.toPV) λps=>ps.length=len/\0<sz/\len*sz<=16777216/\(∀p∈ps,p.cells.length=sz/\p.ok=true)/\
  K ({st with hp:=st.hp++[AObj.vec e sz ps]}.putO d (.b (.sl st.hp.length)))
 | .mslice e sz bytes zero l c=>aI (st.get l) λl=>aI (st.get c) λc=>Bq l λl=>Bq c λc=>isInt l λ_ l=>isInt c λ_ c=>
  0<=l/\l<=c/\c<=9223372036854775807/\bytes*c<=281474976710656/\(fU zero).cells.length=sz/\0<sz/\aI (fU zero).toPV λz=>z.ok=true/\K ({st with hp:=st.hp++[AObj.vec e sz (Q_ l.toNat z)]}.putO d (.b (.sl st.hp.length)))
 | .append e sz bytes x y=>aI (st.get x) λx=>aI (st.get y) λy=>oC st.hp sz y λL=>(∀p∈L,p.ok=true)/\
  ((∃id,x= .b (.sl id)/\aI st.hp[id]? λo=>∃xs,o= .vec e sz xs/\(xs.length+L.length)*bytes<=140737488355328/\
   K ((st.moved id (.vec e sz (xs++L))).putO d (.b (.sl id))))\/
   ((x= .b .nils\/x= .b (.full (.list 0 [])))/\L.length*bytes<=140737488355328/\K ({st with hp:=st.hp++[AObj.vec e sz L]}.putO d (.b (.sl st.hp.length)))))
 | .callA bor B f args=>aI (args.mapM λx=>(st.get x).bind (uL st.hp bor B)) λars=>aI (B.mapM (st.hp[·]?)) λos=>
  callK P st d bor B f ars os K KP
 | .callv bor B x args=>aI (st.get x) λx=>∃f caps,((∃ids:List Nat,x= .b (.clo (.func f) ids)/\caps=ids.map λi=>.b (.ptr i 0))\/(∃ps:List PV,x= .p (.fn (.func f) ps)/\caps=ps.map AV.p))/\eu P f=true/\
  aI (args.mapM λx=>(st.get x).bind (uL st.hp bor B)) λars=>aI (B.mapM (st.hp[·]?)) λos=>callK P st d bor B f (ars++caps) os K KP
 | .msliceT k e sz bytes zero l c=>aI (st.get l) λl=>aI (st.get c) λc=>Bq l λl=>Bq c λc=>isInt l λ_ l=>isInt c λ_ c=>
  0<=l/\l<=c/\c<=9223372036854775807/\bytes*c<=281474976710656/\(fU zero).cells.length=sz/\0<sz/\aI (fU zero).toPVn λz=>z.ok=true/\k.nilsB z.cells=true/\K ({st with hp:=st.hp++[AObj.tree e sz k (Q_ l.toNat (k.unnil z)) none]}.putO d (.b (.sl st.hp.length)))
 | .appT k e sz bytes x y=>aI (st.get x) λx=>aI (st.get y) λy=>oC st.hp sz y λL=>(∀p∈L,p.ok=true/\k.nilsB p.cells=true)/\
  ((∃id,x= .b (.sl id)/\aI st.hp[id]? λo=>∃xs,o= .tree e sz k xs none/\(xs.length+L.length)*bytes<=140737488355328/\
   K ((st.moved id (.tree e sz k (xs++L.map k.unnil) none)).putO d (.b (.sl id))))\/
   (x= .b .nils/\L.length*bytes<=140737488355328/\K ({st with hp:=st.hp++[AObj.tree e sz k (L.map k.unnil) none]}.putO d (.b (.sl st.hp.length)))))
 | .mkmap k e=>K ({st with hp:=st.hp++[AObj.map k e []]}.putO d (.b (.mp st.hp.length)))
 | .mapset k e m x v=>aI (st.get m) λm=>aI (st.get x) λx=>aI (st.get v) λv=>isMap st.hp k e m λid kvs=>aI x.toPV λp=>aI v.toPV λq=>d=none/\p.plain=true/\
  B7 P 64 k p=true/\(P.underlying k).isSome=true/\(∀kv∈kvs,(eqP P 64 k p kv.1).isSome=true)/\aI (uX P k p kvs 0) λr=>(∀i u,r=some (i,u)->∃u',kvs[i]? =some (p,u'))/\K {st with hp:=st.hp.set id (.map k e (match r with|some (i,_)=>kvs.set i (p,q)|none=>kvs++[(p,q)]))}
 | .copy e sz x y=>aI (st.get x) λx=>aI (st.get y) λy=>oC st.hp sz y λL=>(∀p∈L,p.ok=true)/\∃id,x= .b (.sl id)/\y≠x/\aI st.hp[id]? λo=>∃xs,o= .vec e sz xs/\
  K ({st with hp:=st.hp.set id (.vec e sz (L.take xs.length++xs.drop L.length))}.putO d (.v (.int .i64 ((min xs.length L.length:Nat):Int))))
 | .panic x=>aI (st.get x) λa=>a= .b .ifc/\KP st
 | .atq s op=>Hy st op λo mk=>AU st (some s)/\K ((st.new (some s) o).putO d (.b (mk s)))
 |op=>jp P st op λa=>K (st.putO d a)
where
 callK (P:Program) (st:St) (d:Option Nat) (bor:Bool) (B:List Nat) (f:FuncId) (ars:List AV) (os:List AObj) (K KP:St->Prop):Prop:=
  B.Nodup/\(∀a∈ars,∀i∈a.ids,i∈B)/\(∀o∈os,∀i∈o.ids,i∈B)/\
  ACalls P f (ars.map (AV.ren (B.idxOf ·))) (os.map (AObj.ren (B.idxOf ·))) λo=>match o with
   |some (r,os')=>(bor=true->r.FlatA/\∀o∈os',o.FlatO)/\K ((st.back B os').putO d (r.ren (ic B st.hp.length)))
   |none=>KP (st.back B (os.map λ_=>.gone))
def iV(P:Program)(o:SOper)(st:St)(K KP:St->Prop):Prop:=
 match o.gd with
 |none=>sexec P o.dst o.op st K KP
 |some (t,want)=>aI (look st.fr t) λg=>Bq g λv=>(yv v=some want->sexec P o.dst o.op st K KP)/\(yv v≠some want->K (st.putO o.dst (.v undef)))
def Weak(m:Nat)(s s':St):Prop:=∀(c:Ctx) (a:Act) (w:World),c.th.length<=m->Rel c s a w->Rel c s' a w
def W(m:Nat)(f:St->Prop)(s:St):Prop:=∃s',Weak m s s'/\f s'
theorem W.mk{m:Nat}{f:St->Prop}{s:St}(h:f s):W m f s:=⟨s,λ_ _ _ _ h=>h,h⟩
theorem W.to{m:Nat}{f:St->Prop}{s:St}(s':St)(hw:Weak m s s')(h:f s'):W m f s:=⟨s',hw,h⟩
theorem Weak.refl(m:Nat)(s:St):Weak m s s:=λ_ _ _ _ h=>h
theorem Weak.trans{m:Nat}{a b c:St}(h:Weak m a b)(k:Weak m b c):Weak m a c:=λ_ _ _ hm hr=>k _ _ _ hm (h _ _ _ hm hr)
theorem W.from{m:Nat}{f:St->Prop}{s s':St}(h:Weak m s s')(k:W m f s'):W m f s:=let⟨s2,h2,h3⟩:=k;⟨s2,h.trans h2,h3⟩
theorem W.mono{m:Nat}{f g:St->Prop}{s:St}(h:W m f s)(hk:∀x,f x->g x):W m g s:=let⟨s',h1,h2⟩:=h;⟨s',h1,hk s' h2⟩
def sops(P:Program)(m:Nat):List SOper->St->(St->Prop)->(St->Prop)->Prop
 |[],st,K,_=>W m K st
 |o::l,st,K,KP=>W m (λst=>iV P o st (λst'=>sops P m l st' K KP) KP) st
def b9(P:Program)(t:TypeId):Option Nat:=(P.info? t).map (·.size)
def iJ(P:Program)(t:TypeId):Option Nat:=(P.info? t).map (·.bytes)
def dI(P:Program)(t:TypeId):Option Value:=(P.info? t).bind (·.zero)
def fA(P:Program)(t:TypeId):Option TypeId:=match P.underlying t with
 |some (.slice e)=>some e
 |_=>none
def xl(P:Program)(s:TypeId)(f:Nat):Option Field:=match P.underlying s with
 |some (.struct fs)=>fs[f]?
 |_=>none
def partsOf(P:Program)(t:TypeId)(parts:List (Nat×Operand)):Option (List (Nat×Nat×SX)):=
 match P.underlying t with
 |some (.struct fs)=>(fs.toList.mapM λf=>(P.info? f.type).map λi=>(f.offset,i.size)).bind λplaces=>parts.mapM λq=>(places[q.1]?).map λpl=>(pl.1,pl.2,SX.of q.2)
 |some (.array _ e)=>(P.info? e).bind λie=>parts.mapM λq=>some (q.1*ie.size,ie.size,SX.of q.2)
 |_=>none
def rN(parts:List (Nat×Operand)):Bool:=(parts.map (·.1))==aA_ parts.length
def ig(P:Program)(o:Oper):Option SOp:=
 match o.op with
 | .move x| .assign x=>some (.mv (.of x))
 | .pick c a b=>some (.pick (.of c) (.of a) (.of b))
 | .binOp op t x y _=>match P.underlying t with
  |some (.int _)=>some (.bin op (.of x) (.of y))
  |some .string=>some (.bin op (.of x) (.of y))
  |some .bool=>match op with
   | .eql=>some (.eqB false (.of x) (.of y))
   | .neq=>some (.eqB true (.of x) (.of y))
   |_=>none
  |some (.struct _)=>match op with
   | .eql=>some (.eqT false t (.of x) (.of y))
   | .neq=>some (.eqT true t (.of x) (.of y))
   |_=>none
  |_=>none
 | .unOp op _ x=>some (.un op (.of x))
 | .call c=>match c.callee with
  | .builtin .len=>match c.args.toList,c.argTypes.toList with
   |[x],[t]=>match P.underlying t with
    |some (.slice _)=>some (.len false (.of x))
    |some .string=>some (.len true (.of x))
    |some (.array n _)=>some (.mv (.c (.int .i64 n)))
    |some (.map k e)=>some (.lenM k e (.of x))
    |_=>none
   |_,_=>none
  | .builtin .append=>match c.args.toList,c.argTypes.toList with
   |[x,y],[t,u]=>if t=u then(fA P t).bind λe=>(b9 P e).bind λs=>(iJ P e).bind λb=>(dI P e).bind λz=>if z.cells.size=s/\0<s/\0<b then some (.append e s b (.of x) (.of y))else none else none
   |_,_=>none
  | .builtin .copy=>match c.args.toList,c.argTypes.toList with
   |[x,y],[t,u]=>(fA P t).bind λe=>(fA P u).bind λe'=>(b9 P e).bind λs=>if e=e'/\0<s then some (.copy e s (.of x) (.of y))else none
   |_,_=>none
  | .builtin .min=>match c.args.toList,c.argTypes.toList with
   |x::ys,t::_=>match P.underlying t with
    |some (.int k)=>some (.mnmx false k (.of x) (ys.map SX.of))
    |_=>none
   |_,_=>none
  | .builtin .max=>match c.args.toList,c.argTypes.toList with
   |x::ys,t::_=>match P.underlying t with
    |some (.int k)=>some (.mnmx true k (.of x) (ys.map SX.of))
    |_=>none
   |_,_=>none
  | .value (.func f)=>if eu P f then some (.call false f (c.args.toList.map SX.of))else none
  | .value (.tmp t)=>some (.callv false [] (.tm t) (c.args.toList.map SX.of))
  |_=>none
 | .index t x i=>match P.underlying t with
  |some .string=>some (.idxS (.of x) (.of i))
  |some (.array n e)=>if(P.underlying e).isSome then(b9 P e).map λs=>.idxV n s (gJ P e) (.of x) (.of i)else none
  |_=>none
 | .indexAddr t x i=>match P.underlying t with
  |some (.slice e)=>(b9 P e).map λs=>.idxA s (.of x) (.of i)
  |some (.array n e)=>(b9 P e).map λs=>.idxP n s (gJ P e) (.of x) (.of i)
  |_=>none
 | .fieldAddr s x f=>(xl P s f).bind λfd=>(b9 P fd.type).bind λsz=>if sz=0 then none else some (.fldA fd.offset sz (gJ P fd.type) (.of x))
 | .field s x f=>(xl P s f).bind λfd=>if(P.underlying fd.type).isSome then(b9 P fd.type).map λsz=>.fld fd.offset sz (gJ P fd.type) (.of x)else none
 | .load t x=>(b9 P t).bind λsz=>if(P.underlying t).isSome then some (.load sz (gJ P t) (.of x))else none
 | .store t x v=>(b9 P t).map λsz=>.store sz (.of x) (.of v)
 | .alloc e=>(dI P e).map λz=>.alloc e z.cells.toList
 | .box e x=>some (.box e (.of x))
 | .build t parts=>(dI P t).bind λz=>(partsOf P t parts.toList).map λps=>.build z.cells.toList ps
 | .buildSlice t len parts=>(fA P t).bind λe=>(b9 P e).bind λs=>(dI P e).bind λz=>if rN parts.toList/\z.cells.size=s then some (.bslice false e s len (parts.toList.map λq=>SX.of q.2))else none
 | .makeSlice t l c=>(fA P t).bind λe=>(b9 P e).bind λs=>(iJ P e).bind λb=>(dI P e).map λz=>.mslice e s b z (.of l) (.of c)
 | .convert sT d x=>match P.underlying sT,P.underlying d with
  |some _,some (.int k)=>some (.cvtI k (.of x))
  |some (.slice e),some .string=>match P.underlying e with
   |some (.int .u8)=>some (.b2s (.of x))
   |_=>none
  |_,_=>none
 | .slice t x lo hi mx=>match P.underlying t with
  |some (.slice e)=>(b9 P e).map λs=>.slc s (.of x) (lo.map .of) (hi.map .of) (mx.map .of)
  |some .string=>match mx with
   |none=>some (.slcS (.of x) (lo.map .of) (hi.map .of))
   |some _=>none
  |_=>none
 | .extract x i=>some (.ext (.of x) i)
 | .nilCheck x=>some (.nilc (.of x))
 | .makeFunc (.func f) first captured=>if first.isEmpty&&eu P f then some (.mkfn f (captured.toList.map SX.of))else none
 | .makeMap t none=>match P.underlying t with
  |some (.map k e)=>some (.mkmap k e)
  |_=>none
 | .lookup t m x ok=>match P.underlying t with
  |some (.map k e)=>(dI P e).map λz=>.lookup k e ok z (.of m) (.of x)
  |_=>none
 | .mapUpdate t m x v| .insert t m x v=>match P.underlying t with
  |some (.map k e)=>some (.mapset k e (.of m) (.of x) (.of v))
  |_=>none
 | .panic x=>some (.panic (.of x))
 | .makeInterface t x=>some (.iface t (.of x))
 |_=>none
def SOp.canon:SOp->SOp
 | .bslice _ e s l ps=>.bslice false e s l ps
 | .call _ f xs=>.call false f xs
 | .callA _ _ f xs=>.call false f xs
 | .boxD t x=>.box t x
 | .callv _ _ x xs=>.callv false [] x xs
 | .callp _ x xs=>.callv false [] x xs
 | .appD e s b x y=>.append e s b x y
 | .bsliceN e s l ps=>.bslice false e s l ps
 | .msliceT _ e s b z x y=>.mslice e s b z x y
 | .appT _ e s b x y=>.append e s b x y
 | .atq _ op=>op.canon
 |x=>x
theorem zp{θ:List Loc}{D:Nat->Prop}{w:World}(v:Value):RelB θ D w v (bI v):=by
 unfold bI
 split
 ·rfl
 ·exact RelP.sc v
theorem ui{θ:List Loc}{D:Nat->Prop}{w:World}(v:Value):RelA θ D w v (fU v):=by
 unfold fU
 split
 ·rename_i cs
  refine⟨cs,rfl,by simp,λi u x hu hx=>?_⟩
  simp only[e_]at hx
  rw[j_,hu]at hx
  simp at hx
  subst hx
  exact zp u
 ·exact zp _
theorem Inv.get{c:Ctx}{θ:List Loc}{D:Nat->Prop}{st:St}{a:Act}{w:World}(h:Inv c θ D st a w){x:Operand}{av:AV}(hx:st.get (.of x)=some av):RelA θ D w (a.eval x) av:=by
 cases x with
 |tmp t=>exact h.fr t av hx
 |const v=>simp[SX.of,St.get]at hx;subst hx;exact ui v
 |global g=>simp[SX.of,St.get]at hx;subst hx;exact RelP.sc _
 |func f=>
  simp[SX.of,St.get]at hx;subst hx
  exact RelP.fn (.func f) #[] [] rfl λi v x hv _=>by simp at hv
section
variable {θ:List Loc} {D:Nat->Prop} {w:World}
theorem Oo{v u:Value}(h:RelA θ D w v (.v u)):v=u:=by cases h;rfl
theorem zo{v:Value}{p:PV}(h:RelA θ D w v (.p p)):RelP D w v p:=h
theorem cN{v:Value}{a:AV}{K:Value->Prop}(h:RelA θ D w v a)(hk:Bq a K):K v:=by
 obtain⟨u,rfl,hk⟩:=hk
 rw[Oo h];exact hk
theorem mapM_some{α β:Type}{f:α->Option β}:∀{l:List α} {m:List β},l.mapM f=some m->l.length=m.length/\∀(i:Nat) (x:α) (y:β),l[i]? =some x->m[i]? =some y->f x=some y
 |[],m,h=>by simp at h;subst h;exact⟨rfl,λi x y hx=>by simp at hx⟩
 |x::l,m,h=>by
  simp only[ay_,al_,ax_,o_,A_]at h
  obtain⟨y,hy,m',hm,rfl⟩:=h
  obtain⟨h1,h2⟩:=mapM_some hm
  refine⟨by simp[h1],λi u v hu hv=>?_⟩
  cases i with
  |zero=>simp at hu hv;subst hu;subst hv;exact hy
  |succ i=>exact h2 i u v (by simpa using hu) (by simpa using hv)
theorem bw{α β:Type}{l:List α}{m:List β}(h:l.length=m.length){i:Nat}{y:β}(hy:m[i]? =some y):∃x,l[i]? =some x:=by
 have:i<l.length:=by rw[h];exact(a_.1 hy).1
 exact⟨l[i],b_ this⟩
theorem iU{v:Value}{p:PV}(h:RelP D w v p)(hok:p.cellOk=true):v.oneCell'=true:=by
 cases h<;>simp[PV.cellOk]at hok<;>first|exact hok|rfl
theorem wM{v:Value}{x:BV}(h:RelB θ D w v x)(hok:x.cellOk=true):v.oneCell'=true:=by
 cases x with
 |pv p=>exact iU h hok
 |nils=>cases h;rfl
 |sl id=>
  obtain⟨l,_,h2⟩:=h
  cases l<;>simp only[Loc.head]at h2<;>(subst h2;rfl)
 |ptr id off=>obtain⟨g,_,rfl⟩:=h;rfl
 |elt id i off=>obtain⟨g,n,cap,sz,_,_,rfl⟩:=h;rfl
 |clo f ids=>obtain⟨gs,_,_,rfl⟩:=h;rfl
 |mp id=>obtain⟨g,_,rfl⟩:=h;rfl
 |full p=>obtain⟨_,a,n,rfl⟩:=h;rfl
 |ifc=>obtain⟨t,u,rfl⟩:=h;rfl
theorem cells_one{v:Value}(h:v.oneCell'=true):v.cells= #[v]:=by
 cases v<;>simp[Value.oneCell']at h<;>rfl
theorem qI{v:Value}{x:AV}(h:RelA θ D w v x)(hok:x.ok=true):v.cells.size=x.cells.length/\∀(i:Nat) (u:Value) (y:BV),v.cells[i]? =some u->x.cells[i]? =some y->RelB θ D w u y/\u.oneCell'=true:=by
 have one:∀(v:Value) (y:BV),y.cellOk=true->RelB θ D w v y->v.cells.size=[y].length/\∀(i:Nat) (u:Value) (z:BV),v.cells[i]? =some u->[y][i]? =some z->RelB θ D w u z/\u.oneCell'=true:=by
  intro v y hy hr
  have ho:=wM hr hy
  rw[cells_one ho]
  refine⟨rfl,λi u z hu hz=>?_⟩
  cases i with
  |zero=>simp at hu hz;subst hu;subst hz;exact⟨hr,ho⟩
  |succ i=>simp at hz
 have all:∀y∈x.cells,y.cellOk=true:=by simpa[AV.ok]using hok
 cases x with
 |tup xs=>have:=all (.pv .any) (by simp[AV.cells]);simp[BV.cellOk,PV.cellOk]at this
 |agg xs=>
  obtain⟨vs,rfl,h1,h2⟩:=h
  exact⟨h1,λi u y hu hy=>⟨h2 i u y hu hy,wM (h2 i u y hu hy) (all y (c_ hy))⟩⟩
 |b x=>
  by_cases hag:∃xs,x= .pv (.agg xs)
  ·obtain⟨xs,rfl⟩:=hag
   have h':RelP D w v (.agg xs):=h
   cases h' with
   |agg vs _ hq hh=>
    refine⟨by simp[AV.cells,PV.cells,Value.cells,hq],λi u y hu hy=>?_⟩
    have hmem:=all y (c_ hy)
    simp only[AV.cells,PV.cells,e_]at hy
    cases hxi:xs[i]? with
    |none=>rw[hxi]at hy;simp at hy
    |some z=>
     rw[hxi]at hy;simp at hy;subst hy
     have:=hh i u z hu hxi
     exact⟨this,iU this hmem⟩
  ·have e:(AV.b x).cells=[x]:=by
    cases x with
    |pv p=>cases p<;>first|rfl|exact absurd ⟨_,rfl⟩ hag
    |_=>rfl
   rw[e]at all⊢
   exact one v x (all x (by simp)) h
theorem qJ{v:Value}{p:PV}(h:RelP D w v p)(hok:p.ok=true):v.cells.size=p.cells.length/\∀(i:Nat) (u:Value) (y:PV),v.cells[i]? =some u->p.cells[i]? =some y->RelP D w u y/\u.oneCell'=true:=by
 have hok':(AV.p p).ok=true:=by
  simp only[PV.ok,J_]at hok
  simp only[AV.ok,AV.cells,List.all_map,J_]
  exact hok
 obtain⟨h1,h2⟩:=qI (θ:=[]) (x:=.p p) h hok'
 simp only[AV.cells,av_,e_]at h1 h2
 exact⟨h1,λi u y hu hy=>h2 i u (.pv y) hu (by rw[hy];rfl)⟩
theorem mI{v:Value}{x:BV}{p:PV}(h:RelB θ D w v x)(hx:x.toPV=some p):RelP D w v p:=by
 cases x<;>simp[BV.toPV]at hx
 ·subst hx;exact h
 ·subst hx;cases h;exact .nil none 0
 ·subst hx;exact h.1
theorem cF{v:Value}{x:AV}{p:PV}(h:RelA θ D w v x)(hx:x.toPV=some p):RelP D w v p:=by
 cases x with
 |b x=>exact mI h hx
 |agg xs=>
  obtain⟨vs,rfl,h1,h2⟩:=h
  simp only[AV.toPV,f_]at hx
  obtain⟨ps,hps,rfl⟩:=hx
  obtain⟨h3,h4⟩:=mapM_some hps
  refine RelP.agg _ _ (by rw[h1,h3]) λi u p hu hp=>?_
  obtain⟨x,hx⟩:=bw h3 hp
  exact mI (h2 i u x hu hx) (h4 i x p hx hp)
 |tup xs=>
  obtain⟨vs,rfl,h1,h2⟩:=h
  simp only[AV.toPV,f_]at hx
  obtain⟨ps,hps,rfl⟩:=hx
  obtain⟨h3,h4⟩:=mapM_some hps
  refine RelP.tup _ _ (by rw[h1,h3]) λi u p hu hp=>?_
  obtain⟨x,hx⟩:=bw h3 hp
  exact mI (h2 i u x hu hx) (h4 i x p hx hp)
theorem F9{v:Value}{x:BV}{p:PV}(h:RelB θ D w v x)(hx:x.toPVn=some p):RelP D w v p:=by
 cases x with
 |nils=>cases hx;cases h;exact .sc _
 |_=>exact mI h hx
theorem F8{v:Value}{x:AV}{p:PV}(h:RelA θ D w v x)(hx:x.toPVn=some p):RelP D w v p:=by
 cases x with
 |b x=>exact F9 h hx
 |agg xs=>
  obtain⟨vs,rfl,h1,h2⟩:=h
  simp only[AV.toPVn,f_]at hx
  obtain⟨ps,hps,rfl⟩:=hx
  obtain⟨h3,h4⟩:=mapM_some hps
  refine RelP.agg _ _ (by rw[h1,h3]) λi u p hu hp=>?_
  obtain⟨x,hx⟩:=bw h3 hp
  exact F9 (h2 i u x hu hx) (h4 i x p hx hp)
 |tup xs=>cases hx
theorem mH{hp:List AObj}(hok:Ok θ D hp w){v:Value}{x:AV}{sz:Nat}{K:List PV->Prop}(h:RelA θ D w v x)(hk:oC hp sz x K):
 ∃L a cap,K L/\v= .slice a L.length cap/\L.length<=cap/\(a=none->cap=0\/L=[])/\(0<L.length->∃b o,a=some ⟨b,o,none⟩/\b<w.heap.size/\(∀x∈L,x.cells.length=sz)/\
  ∀(i j:Nat) (x y:PV),L[i]? =some x->x.cells[j]? =some y->∃u,w.cell? ⟨b,o+i*sz+j,none⟩=some u/\RelP D w u y):=by
 rcases hk with⟨rfl,hk⟩|⟨L,rfl,hk⟩|⟨id,e,L,rfl,ho,hk⟩|⟨L,rfl,hk⟩
 rotate_left 3
 ·obtain⟨a,cap,rfl,h1,h2⟩:=qK h.1
  refine⟨L,a,cap,hk,rfl,h1,λha=>?_,λhl=>?_⟩
  ·rcases N_ L.length with h0|h0
   ·exact .inr (n_ h0)
   ·obtain⟨b,o,e,_⟩:=h2 h0
    rw[ha]at e;cases e
  ·obtain⟨b,o,e,hb,h3,h4⟩:=h2 hl
   exact⟨b,o,e,hok.dlt b hb,h3,h4⟩
 ·cases h
  exact⟨[],none,0,hk,rfl,u_ _,λ_=>.inl rfl,λh=>absurd h (by simp)⟩
 ·obtain⟨a,cap,rfl,h1,h2⟩:=qK (zo h)
  refine⟨L,a,cap,hk,rfl,h1,λha=>?_,λhl=>?_⟩
  ·rcases N_ L.length with h0|h0
   ·exact .inr (n_ h0)
   ·obtain⟨b,o,e,_⟩:=h2 h0
    rw[ha]at e;cases e
  ·obtain⟨b,o,e,hb,h3,h4⟩:=h2 hl
   exact⟨b,o,e,hok.dlt b hb,h3,h4⟩
 ·obtain⟨l,hl,hh⟩:=h
  have hro:=hok.objs id l _ hl ho
  cases l<;>simp only[RelO,Loc.head]at hro hh
  ·subst hh;subst hro
   exact⟨[],_,0,hk,rfl,u_ _,λ_=>.inl rfl,λh=>absurd h (by simp)⟩
  ·rename_i g n cap s O
   obtain⟨rfl,rfl,h3,h4,h5,c,h6,h7,h8⟩:=hro
   subst hh
   refine⟨L,_,cap,hk,rfl,h3,λe=>by simp at e,λ_=>⟨g,0,rfl,(hok.olt id _ g hl (.inl rfl)).1,h5,λi j x y hx hy=>?_⟩⟩
   obtain⟨u,h9,h10⟩:=h8 i j x y hx hy
   refine⟨u,?_,h10⟩
   rw[x_,cell_of_row w g _ c e (0,0) h6]
   exact h9
theorem Qs{hp:List AObj}(hok:Ok θ D hp w){v:Value}{id:Nat}{p:PV}(h:RelB θ D w v (.sl id))(hp':Nq hp id=some p):
 ∃l,θ[id]? =some l/\∀D':Nat->Prop,(∀b,D b->D' b)->(∀b,l.has b->D' b)->RelP D' w v p:=by
 obtain⟨l,hl,hh⟩:=h
 refine⟨l,hl,λD' hD hO=>?_⟩
 unfold Nq at hp'
 split at hp'
 ·rename_i e sz xs ho
  cases hp'
  have hro:=hok.objs id l _ hl ho
  cases l<;>simp only[RelO,Loc.head]at hro hh
  ·subst hh;subst hro;exact .nil _ 0
  ·obtain⟨rfl,rfl,h3,h4,h5,c,h6,h7,h8⟩:=hro
   subst hh
   refine gy h3 λ_=>⟨_,0,rfl,hO _ (.inl rfl),h5,λi j x y hx hy=>?_⟩
   obtain⟨u,e1,e2⟩:=h8 i j x y hx hy
   refine⟨u,?_,e2.mono hD (λ_ _=>rfl)⟩
   rw[x_,cell_of_row w _ _ c e (0,0) h6];exact e1
 ·rename_i e sz k xs ho
  cases hp'
  have hro:=hok.objs id l _ hl ho
  cases l<;>simp only[RelO,Loc.head]at hro hh
  ·subst hh;rw[hro.1];exact .nil _ 0
  ·obtain⟨rfl,rfl,h3,h4,h5,c,Os,h6,h7,h8,h9,h11,h10⟩:=hro
   subst hh
   refine gy h3 λ_=>⟨_,0,rfl,hO _ (.inl rfl),h5,λi j x y hx hy=>?_⟩
   obtain⟨u,e1,e2⟩:=h10 i j x y hx hy
   refine⟨u,?_,RelT.toP hD (λb hb=>hO b (.inr (h8 i j b hb).1)) e2⟩
   rw[x_,cell_of_row w _ _ c e (0,0) h6];exact e1
 ·cases hp'
theorem LO{k:Av.K}{off n j:Nat}(h:k.flatB off n=true)(hj:j<n):k.at (off+j)=none:=by
 simp only[Av.K.flatB,J_,az_]at h
 simpa using h j hj
theorem rL{h:Option (Nat×Nat×BV)}{i j:Nat}{b:BV}(e:dA h i j=some b):h=some (i,j,b):=by
 unfold dA at e
 split at e
 ·split at e
  ·rename_i hij;obtain⟨rfl,rfl⟩:=hij;cases e;rfl
  ·cases e
 ·cases e
theorem R5{hole:Option (Nat×Nat×BV)}{k:Av.K}{n i j:Nat}{u:Value}{y:PV}{O:Nat->Prop}(hh:∀i j b,hole=some (i,j,b)->i<n/\(k.at j).isSome=true)(hf:k.at j=none)
 (h:match dA hole i j with|some b=>RelB θ D w u b|none=>RelT D w (k.at j) O u y):RelP D w u y:=by
 cases hq:dA hole i j with
 |some b=>
  have:=(hh i j b (rL hq)).2
  rw[hf]at this;cases this
 |none=>
  rw[hq,hf]at h
  cases h with|flat _ _ _ h=>exact h
theorem Uh{hp:List AObj}(hok:Ok θ D hp w){v:Value}{x:AV}{K:Nat->Prop}(h:RelA θ D w v x)(hk:isLen hp x K):
 ∃n a cap,K n/\v= .slice a n cap:=by
 rcases hk with⟨rfl,hk⟩|⟨sz,L,rfl,hk⟩|⟨id,e,sz,L,rfl,ho,hk⟩|⟨sz,L,rfl,hk⟩|⟨id,e,sz,k,L,hole,rfl,ho,hk⟩
 rotate_left 3
 ·obtain⟨a,cap,rfl,_⟩:=qK h.1
  exact⟨_,a,cap,hk,rfl⟩
 ·obtain⟨l,hl,hh⟩:=h
  have hro:=hok.objs id l _ hl ho
  cases l<;>simp only[RelO,Loc.head]at hro hh
  ·obtain⟨rfl,rfl⟩:=hro;exact⟨0,_,0,hk,hh⟩
  ·obtain⟨_,rfl,_⟩:=hro;exact⟨_,_,_,hk,hh⟩
 ·cases h
  exact⟨_,_,_,hk,rfl⟩
 ·obtain⟨a,cap,rfl,_⟩:=qK (zo h)
  exact⟨_,a,cap,hk,rfl⟩
 ·obtain⟨L',a,cap,rfl,rfl,_⟩:=mH (K:=λL'=>L'=L) hok h (.inr (.inr (.inl ⟨id,e,L,rfl,ho,rfl⟩)))
  exact⟨_,a,cap,hk,rfl⟩
end
def Yields(P:Program)(o:Oper)(a:Act)(w:World)(R:Value->World->Prop):Prop:=
 ∃v w',(execOp a.eval o).run P w= .ok (.value v) w'/\R v w'
theorem Yields.wp{P:Program}{o:Oper}{a:Act}{w:World}{R:Value->World->Prop}{next:Act->World->Prop}{Q:Exit->Act->World->Prop}(h:Yields P o a w R)(hn:∀v w',R v w'->next (a.put o.dst v) w'):o.wp P a w next Q:=by
 obtain⟨v,w',h1,h2⟩:=h
 unfold Oper.wp
 rw[h1]
 exact hn v w' h2
theorem Us{P:Program}{w:World}{op:BinOp}{t:TypeId}{x y:Operand}{a b:Value}{K:Value->Prop}(h:Js op a b K):
 ∃v,K v/\Sem.run P (do eqGuard op t x y a b;binOp op t a b) w= .ok v w:=by
 cases a<;>cases b<;>simp only[Js]at h
 case int.int k m k' n=>
  cases op<;>simp only at h
  case shl=>obtain⟨h1,h2⟩:=h;refine⟨_,h2,?_⟩;simp[eqGuard,binOp,Op.shift,aD_.2 h1]
  case shr=>obtain⟨h1,h2⟩:=h;refine⟨_,h2,?_⟩;simp[eqGuard,binOp,Op.shift,aD_.2 h1]
  case quo=>obtain⟨rfl,h1,h2⟩:=h;refine⟨_,h2,?_⟩;simp[eqGuard,binOp,Op.intDiv,h1]
  case rem=>obtain⟨rfl,h1,h2⟩:=h;refine⟨_,h2,?_⟩;simp[eqGuard,binOp,Op.intDiv,h1]
  all_goals (obtain⟨rfl,h⟩:=h;refine⟨_,h,?_⟩;simp[eqGuard,binOp,Op.intArith,Op.intBits,Op.intCmp,fb])
 case string.string s r=>
  cases op<;>simp only at h
  case add=>
   obtain⟨h1,h2⟩:=h
   refine⟨_,h2,?_⟩
   have h3:IntKind.i64.max=9223372036854775807:=rfl
   simp[h3,eqGuard,binOp,Op.stringOp]
   omega
  all_goals first|exact h.elim|(refine⟨_,h,?_⟩;simp[eqGuard,binOp,Op.stringOp])
theorem VL{P:Program}{w:World}{t:TypeId}{x y:Operand}{a b:Bool}(ht:P.underlying t=some .bool)(neg:Bool):
 Sem.run P (do eqGuard (if neg then .neq else .eql) t x y (.bool a) (.bool b);binOp (if neg then .neq else .eql) t (.bool a) (.bool b)) w= .ok (.bool (neg ^^ (a==b))) w:=by
 have he:Sem.run P (Op.equal t (.bool a) (.bool b)) w= .ok (a==b) w:=by
  show Sem.run P (Op.equalIn (9999+1) t (.bool a) (.bool b)) w=_
  rw[Op.equalIn]
  simp[run_underlying ht]
 cases neg
 ·show Sem.run P (do eqGuard .eql t x y (.bool a) (.bool b);binOp .eql t (.bool a) (.bool b)) w=_
  have h1:binOp .eql t (.bool a) (.bool b)=(do pure (.bool (<-Op.equal t (.bool a) (.bool b)))):=rfl
  rw[h1]
  simp[eqGuard,he]
 ·show Sem.run P (do eqGuard .neq t x y (.bool a) (.bool b);binOp .neq t (.bool a) (.bool b)) w=_
  have h1:binOp .neq t (.bool a) (.bool b)=(do pure (.bool (!(<-Op.equal t (.bool a) (.bool b))))):=rfl
  rw[h1]
  simp[eqGuard,he]
theorem VM{P:Program}{w:World}{op:UnOp}{a:Value}{K:Value->Prop}(h:W7 op a K):∃v,K v/\Sem.run P (Op.unary op a) w= .ok v w:=by
 unfold W7 at h
 split at h
 ·exact⟨_,h,by simp[Op.unary]⟩
 ·exact⟨_,h,by simp[Op.unary,Op.intArith]⟩
 ·exact h.elim
section
variable {P:Program} {w:World}
theorem run_sizeOf{t:TypeId}{s:Nat}(h:b9 P t=some s):Sem.run P (sizeOf t) w= .ok s w:=by
 simp only[b9,f_]at h
 obtain⟨i,hi,rfl⟩:=h
 simp[sizeOf,typeInfo,hi]
theorem I3{t:TypeId}{d:TypeDesc}(h:P.underlying t=some d):Sem.run P (isAgg t) w= .ok (gJ P t) w:=by
 simp only[isAgg,gJ,Sem.run_bind,run_underlying h,Result.andThen_ok]
 cases d<;>simp[h]
theorem addr_add(b o i:Nat):(⟨b,o,none⟩:Addr).add i=⟨b,o+i,none⟩:=by
 unfold Addr.add;split<;>simp_all
def qw(ag:Bool)(vs:Array Value)(off sz:Nat):Value:=match ag with
 |true=>.agg (vs.extract off (off+sz))
 |false=>(vs[off]?).getD undef
def wV(ag:Bool)(cs:List Value):Value:=match ag with
 |true=>.agg cs.toArray
 |false=>cs.headD undef
theorem C9{t:TypeId}{d:TypeDesc}{s b o:Nat}(hd:P.underlying t=some d)(hs:b9 P t=some s)(cs:List Value)(hl:cs.length=s)(hag:gJ P t=false->s=1)
 (hc:∀(j:Nat) (v:Value),cs[j]? =some v->w.cell? ⟨b,o+j,none⟩=some v):
 Sem.run P (loadVar t ⟨b,o,none⟩) w= .ok (wV (gJ P t) cs) w:=by
 simp only[loadVar,Sem.run_bind,I3 hd,Result.andThen_ok]
 cases hb:gJ P t
 ·simp only[Bool.false_eq_true,if_false]
  have h1:=hag hb
  match cs,hl with
  |[v],_=>
   have:=hc 0 v rfl
   rw[run_load]
   simp at this
   simp[this,wV]
  |[],hl=>simp at hl;omega
  |_::_::_,hl=>simp at hl;omega
 ·simp only[if_true,Sem.run_bind,run_sizeOf hs,Result.andThen_ok]
  have:=run_loadCells_list (P:=P) (w:=w) ⟨b,o,none⟩ cs (λj v hj=>by rw[addr_add];exact hc j v hj)
  rw[hl]at this
  simp[this,wV]
theorem gm{α:Type} [Inhabited α]{n:Nat}{p:Nat->α->Prop}(h:∀j,j<n->∃u,p j u):∃l:List α,l.length=n/\∀(j:Nat) (u:α),l[j]? =some u->p j u:=by
 induction n with
 |zero=>exact⟨[],rfl,λj u h=>by simp at h⟩
 |succ n ih=>
  obtain⟨l,h1,h2⟩:=ih λj hj=>h j (by omega)
  obtain⟨u,hu⟩:=h n (by omega)
  refine⟨l++[u],by simp[h1],λj v hv=>?_⟩
  rcases G_ j l.length with h3|h3
  ·rw[h_ h3]at hv;exact h2 j v hv
  ·rw[i_ h3]at hv
   have:j - l.length=0:=by
    rcases N_ (j - l.length)with h4|h4
    ·exact h4
    ·rw[ah_ (show [u].length<=j - l.length from h4)]at hv;cases hv
   rw[this]at hv
   simp at hv
   subst hv
   have:j=n:=by omega
   subst this
   exact hu
theorem Kk{D:Nat->Prop}{cs:List Value}{ps:List PV}(hl:cs.length=ps.length)(h:∀(j:Nat) (u:Value) (y:PV),cs[j]? =some u->ps[j]? =some y->RelP D w u y):
 RelP D w (.agg cs.toArray) (.agg ps):=
 .agg _ _ (by simp[hl]) λi v x hv hx=>h i v x (by simpa using hv) hx
theorem vR{p:PV}:p.isAgg=true->p= .agg p.cells:=by
 cases p<;>simp[PV.isAgg,PV.cells]
theorem pt{p:PV}:p.isAgg=false->p.cells=[p]:=by
 cases p<;>simp[PV.isAgg,PV.cells]
theorem Ga{D:Nat->Prop}{cs:List Value}{p:PV}(hl:cs.length=p.cells.length)(h:∀(j:Nat) (u:Value) (y:PV),cs[j]? =some u->p.cells[j]? =some y->RelP D w u y):
 RelP D w (wV p.isAgg cs) p:=by
 cases hp:p.isAgg
 ·have h1:=pt hp
  rw[h1]at hl h
  match cs,hl,h with
  |[u],_,h=>exact h 0 u p rfl rfl
 ·have h1:=vR hp
  rw[h1]
  simp only[PV.cells]at hl h⊢
  exact Kk hl (λj u y hu hy=>h j u y hu hy)
theorem pG{α:Type}{l:List α}{i:Nat}{x d:α}(h:l[i]? =some x):l.getD i d=x:=by simp[B_,h]
theorem xv{p:PV}{off sz:Nat}{ag:Bool}(hag:ag=false->sz=1)(hle:off+sz<=p.cells.length):
 (ag=true->(p.sub off sz ag).cells=(p.cells.drop off).take sz)/\(ag=false->p.cells[off]? =some (p.sub off sz ag)):=by
 constructor
 ·rintro rfl;rfl
 ·rintro rfl
  have:=hag rfl
  have hlt:off<p.cells.length:=by omega
  simp[PV.sub,b_ hlt]
end
def Res(c:Ctx)(θ:List Loc)(st:St)(a:Act)(K:AV->Prop):Value->World->Prop:=λv w'=>∃x D',K x/\Inv c θ D' st a w'/\RelA θ D' w' v x
section
variable {P:Program} {o:Oper} {c:Ctx} {θ:List Loc} {D:Nat->Prop} {st:St} {a:Act} {w:World} {K:AV->Prop}
theorem Res.same(hI:Inv c θ D st a w){v:Value}{x:AV}(hk:K x)(hv:RelA θ D w v x):Res c θ st a K v w:=⟨x,D,hk,hI,hv⟩
theorem aF{v:Value}{x:AV}(hI:Inv c θ D st a w)(hr:(execOp a.eval o).run P w= .ok (.value v) w)(hk:K x)(hv:RelA θ D w v x):Yields P o a w (Res c θ st a K):=
 ⟨v,w,hr,Res.same hI hk hv⟩
theorem MV(hI:Inv c θ D st a w){x:Operand}(ho:o.op= .move x\/o.op= .assign x)(h:jp P st (.mv (.of x)) K):Yields P o a w (Res c θ st a K):=by
 obtain⟨av,hx,hk⟩:=h
 refine aF hI ?_ hk (hI.get hx)
 rcases ho with ho|ho<;>simp[execOp,ho]
theorem MR(hI:Inv c θ D st a w){v:Value}(hr:(execOp a.eval o).run P w= .ok (.value v) w)(h:jp P st (.mv (.c v)) K):Yields P o a w (Res c θ st a K):=by
 obtain⟨av,hx,hk⟩:=h
 simp[St.get]at hx
 subst hx
 exact aF hI hr hk (ui v)
theorem OU(hI:Inv c θ D st a w){x y z:Operand}(ho:o.op= .pick x y z)(h:jp P st (.pick (.of x) (.of y) (.of z)) K):Yields P o a w (Res c θ st a K):=by
 obtain⟨av,hx,hv⟩:=h
 obtain⟨b,hb,ht,hf⟩:=cN (hI.get hx) hv
 cases b
 ·obtain⟨az,hz,hk⟩:=hf rfl
  exact aF hI (by simp[execOp,ho,hb,asBool]) hk (hI.get hz)
 ·obtain⟨ay,hy,hk⟩:=ht rfl
  exact aF hI (by simp[execOp,ho,hb,asBool]) hk (hI.get hy)
theorem I8(hI:Inv c θ D st a w){op:BinOp}{t t':TypeId}{x y:Operand}(ho:o.op= .binOp op t x y t')(h:jp P st (.bin op (.of x) (.of y)) K):Yields P o a w (Res c θ st a K):=by
 obtain⟨ax,hx,ay,hy,hv⟩:=h
 have h1:=cN (hI.get hx) hv
 have h2:=cN (hI.get hy) h1
 obtain⟨v,hk,hr⟩:=Us (P:=P) (w:=w) (t:=t) (x:=x) (y:=y) h2
 refine aF hI ?_ hk (RelP.sc v)
 simp only[execOp,ho]
 rw[Sem.run_bind,hr]
 rfl
theorem I9(hI:Inv c θ D st a w){neg:Bool}{t t':TypeId}{x y:Operand}(ho:o.op= .binOp (if neg then .neq else .eql) t x y t')(ht:P.underlying t=some .bool)(h:jp P st (.eqB neg (.of x) (.of y)) K):Yields P o a w (Res c θ st a K):=by
 obtain⟨ax,hx,ay,hy,hv⟩:=h
 have h1:=cN (hI.get hx) hv
 have h2:=cN (hI.get hy) h1
 obtain⟨p,hp,q,hq,hk⟩:=h2
 refine aF hI ?_ hk (RelP.sc _)
 simp only[execOp,ho,hp,hq]
 rw[Sem.run_bind,VL ht neg]
 rfl
theorem UB(hI:Inv c θ D st a w){op:UnOp}{t:TypeId}{x:Operand}(ho:o.op= .unOp op t x)(h:jp P st (.un op (.of x)) K):Yields P o a w (Res c θ st a K):=by
 obtain⟨ax,hx,hv⟩:=h
 obtain⟨v,hk,hr⟩:=VM (P:=P) (w:=w) (cN (hI.get hx) hv)
 refine aF hI ?_ hk (RelP.sc v)
 simp only[execOp,ho]
 rw[Sem.run_bind,hr]
 rfl
theorem RS(hI:Inv c θ D st a w){x:Operand}{t e:TypeId}{cl:Call}(ho:o.op= .call cl)(hcl:cl.callee= .builtin .len)(hargs:cl.args= #[x])(htys:cl.argTypes= #[t])
 (ht:P.underlying t=some (.slice e)) (h:jp P st (.len false (.of x)) K):Yields P o a w (Res c θ st a K):=by
 obtain⟨ax,hx,hl⟩:=h
 obtain⟨n,b,cap,hk,hv⟩:=Uh hI.ok (hI.get hx) hl
 refine aF hI ?_ hk (RelP.sc _)
 simp[execOp,ho,resolve,hcl,hargs,htys,invoke,builtin,Builtin.len_,run_underlying ht,hv,goInt]
theorem OQ(hI:Inv c θ D st a w){x:Operand}{t:TypeId}{cl:Call}(ho:o.op= .call cl)(hcl:cl.callee= .builtin .len)(hargs:cl.args= #[x])(htys:cl.argTypes= #[t])
 (ht:P.underlying t=some .string) (h:jp P st (.len true (.of x)) K):Yields P o a w (Res c θ st a K):=by
 obtain⟨ax,hx,hl⟩:=h
 obtain⟨s,hs,hk⟩:=cN (hI.get hx) hl
 refine aF hI ?_ hk (RelP.sc _)
 simp[execOp,ho,resolve,hcl,hargs,htys,invoke,builtin,Builtin.len_,run_underlying ht,hs,goInt]
theorem ON(hI:Inv c θ D st a w){t:TypeId}{x i:Operand}(ho:o.op= .index t x i)(ht:P.underlying t=some .string)(h:jp P st (.idxS (.of x) (.of i)) K):Yields P o a w (Res c θ st a K):=by
 obtain⟨ax,hx,ai,hi,hv⟩:=h
 have h1:=cN (hI.get hx) hv
 have h2:=cN (hI.get hi) h1
 obtain⟨k,n,hn,s,hs,h0,hlt,hk⟩:=h2
 refine aF hI ?_ hk (RelP.sc _)
 have hlt':n.toNat<s.size:=by omega
 have hg:s[n.toNat]? =some (s[n.toNat]):=by
  rw[getElem?_pos s n.toNat hlt']
 have e1:s.toList.getD n.toNat 0=s[n.toNat]:=by
  have:s.toList=s.data.toList:=ByteArray.toList_eq s
  rw[this]
  simp only[B_,j_]
  have h4:n.toNat<s.data.size:=hlt'
  rw[d_ h4]
  rfl
 rw[e1]
 simp[execOp,ho,hn,hs,Instr.index,asIntOf,run_underlying ht,h0,hg]
end
section
variable {P:Program} {o:Oper} {c:Ctx} {θ:List Loc} {D:Nat->Prop} {st:St} {a:Act} {w:World} {K:AV->Prop}
theorem wN{v:Array Value}{p:PV}{off sz:Nat}{ag:Bool}(h:RelP D w (.agg v) p)(hp:p.isAgg=true)(hle:off+sz<=p.cells.length)(hag:ag=false->sz=1):
 v.size=p.cells.length/\RelP D w (qw ag v off sz) (p.sub off sz ag):=by
 have hp':=vR hp
 obtain⟨q,rfl⟩:∃q,p= .agg q:=⟨_,hp'⟩
 simp only[PV.cells]at hle
 cases h with
 |agg vs xs hs hh=>
  refine⟨hs,?_⟩
  cases ag
  ·have:=hag rfl
   subst this
   have h1:off<q.length:=by omega
   have h2:off<v.size:=by omega
   simp only[qw,PV.sub,PV.cells,B_,b_ h1,D_,d_ h2]
   exact hh off _ _ (d_ h2) (b_ h1)
  ·simp only[qw,PV.sub,PV.cells]
   refine .agg _ _ (by simp;omega) λi u x hu hx=>?_
   rw[l_]at hx
   split at hx
   ·rename_i hi
    rw[w_]at hx
    rw[s_]at hu
    split at hu
    ·exact hh (off+i) u x hu hx
    ·cases hu
   ·cases hx
theorem ti{t:TypeId}{d:TypeDesc}{s off:Nat}{cs:Array Value}(hd:P.underlying t=some d)(hs:b9 P t=some s)(hle:off+s<=cs.size)(hag:gJ P t=false->s=1):
 Sem.run P (part t cs off) w= .ok (qw (gJ P t) cs off s) w:=by
 simp only[part,Sem.run_bind,I3 hd,Result.andThen_ok]
 cases hb:gJ P t
 ·have:=hag hb
  have h2:off<cs.size:=by omega
  simp[qw,d_ h2]
 ·simp[qw,run_sizeOf hs]
theorem F7{v:Value}{x:AV}{p:PV}(h:RelA θ D w v x)(hx:x.toPV=some p)(hp:p.isAgg=true):∃vs:Array Value,v= .agg vs/\RelP D w (.agg vs) p:=by
 have h1:=cF h hx
 have hp':=vR hp
 rw[hp']at h1⊢
 cases h1 with
 |agg vs xs hs hh=>exact⟨vs,rfl,.agg vs _ hs hh⟩
theorem OO(hI:Inv c θ D st a w){n sz:Nat}{t e:TypeId}{d:TypeDesc}{x i:Operand}(ho:o.op= .index t x i)(ht:P.underlying t=some (.array n e))(hd:P.underlying e=some d)(hs:b9 P e=some sz)
 (h:jp P st (.idxV n sz (gJ P e) (.of x) (.of i)) K):Yields P o a w (Res c θ st a K):=by
 obtain⟨ax,hx,ai,hi,hv⟩:=h
 obtain⟨k,m,hm,p,hp,h0,hlt,hag,hlen,hpa,hk⟩:=cN (hI.get hi) hv
 obtain⟨vs,he,hrel⟩:=F7 (hI.get hx) hp hpa
 have hmul:m.toNat*sz+sz<=n*sz:=by
  have:m.toNat+1<=n:=by omega
  have:=g_ sz this
  rw[k_,r_]at this
  exact this
 obtain⟨hsz,hsub⟩:=wN hrel hpa (by rw[hlen];exact hmul) hag
 refine aF hI ?_ hk hsub
 have hpart:=ti (P:=P) (w:=w) (t:=e) (cs:=vs) (off:=m.toNat*sz) hd hs (by rw[hsz,hlen];exact hmul) hag
 have hlt':m<(n:Int):=hlt
 simp only[execOp,ho,hm,he,Instr.index,asIntOf,Sem.run_bind,Sem.run_pure,Result.andThen_ok,run_underlying ht]
 rw[if_pos ⟨h0,hlt'⟩]
 simp only[Sem.run_bind,run_sizeOf hs,Result.andThen_ok,hpart]
theorem OL(hI:Inv c θ D st a w){sz:Nat}{t e:TypeId}{x i:Operand}(ho:o.op= .indexAddr t x i)(ht:P.underlying t=some (.slice e))(hs:b9 P e=some sz)
 (h:jp P st (.idxA sz (.of x) (.of i)) K):Yields P o a w (Res c θ st a K):=by
 obtain⟨ax,hx,ai,hi,hv⟩:=h
 obtain⟨k,n,hn,hcase⟩:=cN (hI.get hi) hv
 have hX:=hI.get hx
 have run:∀(b o' len cap:Nat),a.eval x= .slice (some ⟨b,o',none⟩) len cap->0<=n->n<(len:Int)->(execOp a.eval o).run P w= .ok (.value (.pointer (some ⟨b,o'+n.toNat*sz,none⟩))) w:=by
  intro b o' len cap he h0 h1
  simp only[execOp,ho,hn,he,Instr.indexAt,asIntOf,Sem.run_bind,Sem.run_pure,Result.andThen_ok,run_underlying ht]
  rw[if_pos ⟨h0,h1⟩]
  simp[run_sizeOf hs,addr_add]
 rcases hcase with⟨L,rfl,h0,hlt,hk⟩|⟨id,rfl,ob,hob,⟨e',L,rfl,h0,hlt,hk⟩|⟨e',k',L,hole,rfl,h0,hlt,hk⟩⟩
 ·obtain⟨b,cap,he,hcap,hcells⟩:=qK (zo hX)
  obtain⟨g,o',rfl,hg,hsz,hc⟩:=hcells (by omega)
  have hlt':n.toNat<L.length:=by omega
  refine aF hI (run g o' L.length cap he h0 hlt) hk (r4 hg λj y hy=>?_)
  have hget:L[n.toNat]? =some (L.getD n.toNat .any):=by simp[B_,b_ hlt']
  exact hc n.toNat j _ y hget hy
 ·obtain⟨l,hl,hh⟩:=hX
  have hro:=hI.ok.objs id l _ hl hob
  cases l<;>simp only[RelO,Loc.head]at hro hh
  ·subst hro;simp at hlt;omega
  ·rename_i g m cap s O
   obtain⟨rfl,rfl,_⟩:=hro
   refine aF hI (run g 0 _ cap hh h0 hlt) hk ?_
   exact⟨g,_,cap,s,O,hl,by simp⟩
 ·obtain⟨l,hl,hh⟩:=hX
  have hro:=hI.ok.objs id l _ hl hob
  cases l<;>simp only[RelO,Loc.head]at hro hh
  ·rw[hro.1]at hlt;simp at hlt;omega
  ·rename_i g m cap s O
   obtain⟨rfl,rfl,_⟩:=hro
   refine aF hI (run g 0 _ cap hh h0 hlt) hk ?_
   exact⟨g,_,cap,s,O,hl,by simp⟩
theorem VO{b o' off sz:Nat}{ag:Bool}{p:PV}(hb:D b)(hc:∀(j:Nat) (y:PV),p.cells[j]? =some y->∃u,w.cell? ⟨b,o'+j,none⟩=some u/\RelP D w u y)(hle:off+sz<=p.cells.length)(hag:ag=false->sz=1)(hia:(p.sub off sz ag).isAgg=ag):
 RelP D w (.pointer (some ⟨b,o'+off,none⟩)) (.pto (p.sub off sz ag)):=by
 refine r4 hb λj y hy=>?_
 cases hag':ag
 ·subst hag'
  have:=hag rfl
  subst this
  rw[pt hia]at hy
  cases j with
  |zero=>
   simp at hy
   subst hy
   have:=hc off _ ((xv (p:=p) (off:=off) hag hle).2 rfl)
   simpa[H_]using this
  |succ j=>simp at hy
 ·subst hag'
  rw[(xv (p:=p) (off:=off) (sz:=sz) (ag:=true) (λh=>by cases h) hle).1 rfl,l_]at hy
  split at hy
  ·rw[w_]at hy
   have:=hc (off+j) y hy
   rwa [<-H_]at this
  ·cases hy
theorem OM(hI:Inv c θ D st a w){n sz:Nat}{ag:Bool}{t e:TypeId}{x i:Operand}(ho:o.op= .indexAddr t x i)(ht:P.underlying t=some (.array n e))(hs:b9 P e=some sz)
 (h:jp P st (.idxP n sz ag (.of x) (.of i)) K):Yields P o a w (Res c θ st a K):=by
 obtain⟨ax,hx,ai,hi,hv⟩:=h
 obtain⟨k,m,hm,h0,hlt,hcase⟩:=cN (hI.get hi) hv
 have run:∀(g off:Nat),a.eval x= .pointer (some ⟨g,off,none⟩)->(execOp a.eval o).run P w= .ok (.value (.pointer (some ⟨g,off+m.toNat*sz,none⟩))) w:=by
  intro g off he
  simp only[execOp,ho,hm,he,Instr.indexAt,asIntOf,Sem.run_bind,Sem.run_pure,Result.andThen_ok,run_underlying ht,Instr.sureAddr]
  rw[if_pos ⟨h0,hlt⟩]
  simp[run_sizeOf hs,addr_add]
 rcases hcase with⟨id,off,rfl,hk⟩|⟨p,rfl,hlen,hag,hia,hk⟩
 ·obtain⟨g,hg,he⟩:=hI.get hx
  exact aF hI (run g off he) hk ⟨g,hg,rfl⟩
 ·obtain⟨b,o',he,hb,hc⟩:=A6 (zo (hI.get hx))
  have hle:m.toNat*sz+sz<=p.cells.length:=by
   rw[hlen]
   have h1:(m.toNat+1)*sz<=n*sz:=g_ _ (by omega)
   rw[k_,r_]at h1
   exact h1
  exact aF hI (run b o' he) hk (VO hb hc hle hag hia)
theorem OK(hI:Inv c θ D st a w){s:TypeId}{f:Nat}{x:Operand}{fd:Field}{sz:Nat}(ho:o.op= .fieldAddr s x f)(hf:xl P s f=some fd)(hs:b9 P fd.type=some sz)(hsz:sz≠0)
 (h:jp P st (.fldA fd.offset sz (gJ P fd.type) (.of x)) K):Yields P o a w (Res c θ st a K):=by
 obtain⟨ax,hx,hcase⟩:=h
 have hX:=hI.get hx
 have run:∀(b o':Nat),a.eval x= .pointer (some ⟨b,o',none⟩)->(execOp a.eval o).run P w= .ok (.value (.pointer (some ⟨b,o'+fd.offset,none⟩))) w:=by
  intro b o' he
  unfold xl at hf
  split at hf
  ·rename_i fs hfs
   simp[execOp,ho,he,Instr.fieldAt,run_underlying hfs,hf,Instr.sureAddr,fieldPlace,run_sizeOf hs,hsz,addr_add]
  ·cases hf
 rcases hcase with⟨p,rfl,hle,hag,hia,hk⟩|⟨id,o',rfl,hk⟩|⟨id,i,o',rfl,hk⟩
 ·obtain⟨b,o',he,hb,hc⟩:=A6 (zo hX)
  refine aF hI (run b o' he) hk (r4 hb λj y hy=>?_)
  cases hag':gJ P fd.type
  ·rw[hag']at hy hag
   have:=hag rfl
   subst this
   rw[hag']at hia
   rw[pt hia]at hy
   cases j with
   |zero=>
    simp at hy
    subst hy
    have:=hc fd.offset _ ((xv (p:=p) (off:=fd.offset) hag hle).2 rfl)
    simpa[H_]using this
   |succ j=>simp at hy
  ·rw[hag']at hy
   rw[(xv (p:=p) (off:=fd.offset) (sz:=sz) (ag:=true) (λh=>by cases h) hle).1 rfl,l_]at hy
   split at hy
   ·rw[w_]at hy
    have:=hc (fd.offset+j) y hy
    rwa [<-H_]at this
   ·cases hy
 ·obtain⟨g,hg,he⟩:=hX
  exact aF hI (run g o' he) hk ⟨g,hg,rfl⟩
 ·obtain⟨g,n,cap,s',O,hg,he⟩:=hX
  refine aF hI (run g _ he) hk ⟨g,n,cap,s',O,hg,?_⟩
  rw[H_]
end
section
variable {P:Program} {o:Oper} {c:Ctx} {θ:List Loc} {D:Nat->Prop} {st:St} {a:Act} {w:World} {K:AV->Prop}
theorem pK{vs:Array Value}{cs:List BV}{off sz:Nat}{ag:Bool}(hl:vs.size=cs.length)(h:∀(i:Nat) (u:Value) (x:BV),vs[i]? =some u->cs[i]? =some x->RelB θ D w u x)(hle:off+sz<=cs.length)(hag:ag=false->sz=1):
 RelA θ D w (qw ag vs off sz) (ni ag ((cs.drop off).take sz)):=by
 cases ag
 ·have:=hag rfl
  subst this
  have h1:off<cs.length:=by omega
  have h2:off<vs.size:=by omega
  have e:(cs.drop off).take 1=[cs[off]]:=by
   rw[List.drop_eq_getElem_cons h1];rfl
  simp only[qw,ni,e,List.headD_cons,d_ h2,D_]
  exact h off _ _ (d_ h2) (b_ h1)
 ·refine⟨_,rfl,by simp;omega,λi u x hu hx=>?_⟩
  rw[l_]at hx
  split at hx
  ·rename_i hi
   rw[w_]at hx
   rw[s_]at hu
   split at hu
   ·exact h (off+i) u x hu hx
   ·cases hu
  ·cases hx
theorem RP(hI:Inv c θ D st a w){t:TypeId}{f:Nat}{x:Operand}{fd:Field}{d:TypeDesc}{sz:Nat}(ho:o.op= .field t x f)(hf:xl P t f=some fd)(hd:P.underlying fd.type=some d)(hs:b9 P fd.type=some sz)
 (h:jp P st (.fld fd.offset sz (gJ P fd.type) (.of x)) K):Yields P o a w (Res c θ st a K):=by
 obtain⟨ax,hx,hcase⟩:=h
 have hX:=hI.get hx
 unfold xl at hf
 split at hf
 ·rename_i fs hfs
  rcases hcase with⟨p,rfl,hpa,hle,hag,hk⟩|⟨cs,rfl,hle,hag,hk⟩
  ·obtain⟨vs,he,hrel⟩:=F7 (p:=p) hX rfl hpa
   obtain⟨hsz,hsub⟩:=wN hrel hpa hle hag
   refine aF hI ?_ hk hsub
   have hpart:=ti (P:=P) (w:=w) (t:=fd.type) (cs:=vs) (off:=fd.offset) hd hs (by rw[hsz];exact hle) hag
   simp[execOp,ho,he,Instr.field,run_underlying hfs,hf,asAgg,hpart]
  ·obtain⟨vs,he,h1,h2⟩:=hX
   refine aF hI ?_ hk (pK h1 h2 hle hag)
   have hpart:=ti (P:=P) (w:=w) (t:=fd.type) (cs:=vs) (off:=fd.offset) hd hs (by rw[h1];exact hle) hag
   simp[execOp,ho,he,Instr.field,run_underlying hfs,hf,asAgg,hpart]
 ·cases hf
theorem rP(ag:Bool)(c:Array Value)(off sz:Nat)(hag:ag=false->sz=1)(hle:off+sz<=c.size):wV ag (c.extract off (off+sz)).toList=qw ag c off sz:=by
 cases ag
 ·have:=hag rfl
  subst this
  have h2:off<c.size:=by omega
  simp only[wV,qw,List.headD_eq_head?_getD,List.head?_eq_getElem?,j_,s_]
  rw[if_pos (by omega)]
  rfl
 ·show Value.agg _=Value.agg _
  rw[Array.toArray_toList]
theorem Tt(hI:Inv c θ D st a w){x:Operand}{sz:Nat}{ag:Bool}{id i off:Nat}{e:TypeId}{s:Nat}{k:Av.K}{xs:List PV}{hole:Option (Nat×Nat×BV)}(hX:RelA θ D w (a.eval x) (.b (.elt id i off)))(hob:st.hp[id]? =some (.tree e s k xs hole))
 (hi:i<xs.length) (hle:off+sz<=s) (hag:ag=false->sz=1) (hcase:(k.flatB off sz=true/\K (.p ((xs.getD i .any).sub off sz ag)))\/(∃bv,hole=some (i,off,bv)/\sz=1/\ag=false/\K (.b bv)))
 (run:∀(b o':Nat) (cs:List Value),a.eval x= .pointer (some ⟨b,o',none⟩)->cs.length=sz->(ag=false->sz=1)->(∀(j:Nat) (v:Value),cs[j]? =some v->w.cell? ⟨b,o'+j,none⟩=some v)->
  (execOp a.eval o).run P w= .ok (.value (wV ag cs)) w):Yields P o a w (Res c θ st a K):=by
 obtain⟨g,n,cap,s',O,hg,he⟩:=hX
 obtain⟨rfl,rfl,h3,h4,h5,cv,Os,h6,h7,h8,h9,hho,h10⟩:=hI.ok.objs id _ _ hg hob
 obtain⟨p0,hx0⟩:∃p0,xs[i]? =some p0:=⟨_,b_ hi⟩
 have hgd:xs.getD i .any=p0:=pG hx0
 rw[hgd]at hcase
 have hxl:p0.cells.length=s':=h5 _ (c_ hx0)
 have hpos:i*s'+s'<=cv.size:=by
  rw[h7]
  have:i+1<=cap:=by omega
  have:=g_ s' this
  rw[k_,r_]at this
  exact this
 have hr:=run g (i*s'+off) (cv.extract (i*s'+off) (i*s'+off+sz)).toList he (by simp;omega) hag (λj v hj=>by
  rw[cell_of_row w g _ cv e (0,0) h6]
  simp only[j_,s_]at hj
  split at hj
  ·exact hj
  ·cases hj)
 rw[rP _ _ _ _ hag (by omega)]at hr
 rcases hcase with⟨hf,hk⟩|⟨bv,hhole,rfl,rfl,hk⟩
 ·have hcell:∀(j:Nat) (u:Value) (y:PV),j<sz->cv[i*s'+off+j]? =some u->p0.cells[off+j]? =some y->RelP D w u y:=λj u y hj hu hy=>by
   obtain⟨u',h11,h12⟩:=h10 i (off+j) _ y hx0 hy
   rw[<-H_,hu]at h11;cases h11
   exact R5 hho (LO hf hj) h12
  refine aF hI hr hk ?_
  show RelP D w _ _
  cases hb:ag
  ·have:=hag hb
   subst this
   have h9:off<p0.cells.length:=by omega
   have h10:i*s'+off<cv.size:=by omega
   simp only[qw,PV.sub,d_ h10,D_]
   refine hcell 0 _ _ (by omega) (d_ (by omega)) ?_
   rw[b_ (by omega)]
   simp[B_,b_ h9]
  ·simp only[qw,PV.sub]
   refine .agg _ _ (by simp only[aa_,ar_,ae_];omega) λk u y hu hy=>?_
   rw[l_]at hy
   split at hy
   ·rename_i hk'
    rw[w_]at hy
    rw[s_]at hu
    split at hu
    ·exact hcell k u y hk' hu hy
    ·cases hu
   ·cases hy
 ·have h11:i*s'+off<cv.size:=by omega
  have h12:off<p0.cells.length:=by omega
  obtain⟨u,h13,h14⟩:=h10 i off _ _ hx0 (b_ h12)
  rw[hhole]at h14
  simp only[dA,and_self,if_true]at h14
  refine aF hI hr hk ?_
  simp only[qw,h13,D_]
  exact h14
theorem OR(hI:Inv c θ D st a w){t:TypeId}{x:Operand}{d:TypeDesc}{sz:Nat}(ho:o.op= .load t x)(hd:P.underlying t=some d)(hs:b9 P t=some sz)
 (h:jp P st (.load sz (gJ P t) (.of x)) K):Yields P o a w (Res c θ st a K):=by
 obtain⟨ax,hx,hcase⟩:=h
 have hX:=hI.get hx
 have run:∀(b o':Nat) (cs:List Value),a.eval x= .pointer (some ⟨b,o',none⟩)->cs.length=sz->(gJ P t=false->sz=1)->(∀(j:Nat) (v:Value),cs[j]? =some v->w.cell? ⟨b,o'+j,none⟩=some v)->
  (execOp a.eval o).run P w= .ok (.value (wV (gJ P t) cs)) w:=by
  intro b o' cs he hl hag hc
  have:=C9 (P:=P) (w:=w) hd hs cs hl hag hc
  simp[execOp,ho,he,Instr.loadAt,Instr.sureAddr,this]
 unfold C2 at hcase
 split at hcase
 ·rename_i p
  obtain⟨hpa,hlen,hk⟩:=hcase
  obtain⟨b,o',he,hb,hc⟩:=A6 (zo hX)
  obtain⟨cs,hl,hcs⟩:=gm (n:=sz) (p:=λj u=>w.cell? ⟨b,o'+j,none⟩=some u/\∀y,p.cells[j]? =some y->RelP D w u y) (λj hj=>by
   obtain⟨u,h1,h2⟩:=hc j (p.cells[j]'(by omega)) (b_ (by omega))
   exact⟨u,h1,λy hy=>by rw[b_ (by omega:j<p.cells.length)]at hy;cases hy;exact h2⟩)
  have hag:gJ P t=false->sz=1:=λh=>by
   rw[<-hpa]at h
   rw[<-hlen,pt h];rfl
  refine aF hI (run b o' cs he hl hag λj v hj=>(hcs j v hj).1) hk ?_
  rw[<-hpa]
  exact Ga (by omega) λj u y hu hy=>(hcs j u hu).2 y hy
 ·rename_i id off
  obtain⟨ob,hob,t',cs,rfl,hle,hag,hk⟩:=hcase
  obtain⟨g,hg,he⟩:=hX
  obtain⟨cv,h1,h2,h3⟩:=hI.ok.objs id _ _ hg hob
  have hle':off+sz<=cv.size:=by omega
  have hr:=run g off (cv.extract off (off+sz)).toList he (by simp;omega) hag (λj v hj=>by
   rw[cell_of_row w g _ cv t' (0,0) h1]
   simp only[j_,s_]at hj
   split at hj
   ·exact hj
   ·cases hj)
  rw[rP _ _ _ _ hag hle']at hr
  rcases hk with hk|⟨q,hq,hk⟩
  ·exact aF hI hr hk (pK h2 h3 hle hag)
  ·exact aF hI hr hk (cF (pK h2 h3 hle hag) hq)
 ·rename_i id i off
  obtain⟨ob,hob,⟨e,s,xs,rfl,hi,hle,hag,hcase⟩|⟨e,s,k,xs,hole,rfl,hi,hle,hag,hcase⟩⟩:=hcase
  rotate_left
  ·exact Tt hI hX hob hi hle hag hcase run
  obtain⟨g,n,cap,s',O,hg,he⟩:=hX
  obtain⟨rfl,rfl,h3,h4,h5,cv,h6,h7,h8⟩:=hI.ok.objs id _ _ hg hob
  obtain⟨p0,hx0⟩:∃p0,xs[i]? =some p0:=⟨_,b_ hi⟩
  have hgd:xs.getD i .any=p0:=pG hx0
  rw[hgd]at hcase
  have hxl:p0.cells.length=s':=h5 _ (c_ hx0)
  have hpos:i*s'+s'<=cv.size:=by
   rw[h7]
   have:i+1<=cap:=by omega
   have:=g_ s' this
   rw[k_,r_]at this
   exact this
  have hr:=run g (i*s'+off) (cv.extract (i*s'+off) (i*s'+off+sz)).toList he (by simp;omega) hag (λj v hj=>by
   rw[cell_of_row w g _ cv e (0,0) h6]
   simp only[j_,s_]at hj
   split at hj
   ·exact hj
   ·cases hj)
  have hcell:∀(j:Nat) (u:Value) (y:PV),cv[i*s'+j]? =some u->p0.cells[j]? =some y->RelP D w u y:=λj u y hu hy=>by
   obtain⟨u',h9,h10⟩:=h8 i j _ y hx0 hy
   rw[hu]at h9;cases h9;exact h10
  rcases hcase with⟨rfl,rfl,hia,hk⟩|⟨hne,hk⟩
  ·refine aF hI hr hk ?_
   rw[<-hia]
   refine Ga (by simp only[v_,aa_];omega) λj u y hu hy=>hcell j u y ?_ hy
   simp only[j_,s_]at hu
   split at hu
   ·rw[S_]at hu;exact hu
   ·cases hu
  ·rw[rP _ _ _ _ hag (by omega)]at hr
   refine aF hI hr hk ?_
   show RelP D w _ _
   cases hb:gJ P t
   ·have:=hag hb
    subst this
    have h9:off<p0.cells.length:=by omega
    have h10:i*s'+off<cv.size:=by omega
    simp only[qw,PV.sub,d_ h10,D_]
    refine hcell off _ _ (d_ h10) ?_
    rw[b_ h9]
    simp[B_,b_ h9]
   ·simp only[qw,PV.sub]
    refine .agg _ _ (by simp only[aa_,ar_,ae_];omega) λk u y hu hy=>?_
    rw[l_]at hy
    split at hy
    ·rename_i hk'
     rw[w_]at hy
     rw[s_]at hu
     split at hu
     ·exact hcell (off+k) u y (by rw[<-H_];exact hu) hy
     ·cases hu
    ·cases hy
 ·exact hcase.elim
theorem OJ(hI:Inv c θ D st a w){s d:TypeId}{x:Operand}{k:IntKind}{ds:TypeDesc}(ho:o.op= .convert s d x)(hds:P.underlying s=some ds)(hd:P.underlying d=some (.int k))(h:jp P st (.cvtI k (.of x)) K):Yields P o a w (Res c θ st a K):=by
 obtain⟨ax,hx,hv⟩:=h
 obtain⟨k',n,hn,hk⟩:=cN (hI.get hx) hv
 refine aF hI ?_ hk (RelP.sc _)
 simp only[execOp,ho,hn,convert,Sem.run_bind,run_underlying hds,run_underlying hd,Result.andThen_ok]
 cases ds<;>simp[Conv.intToInt]
theorem RO(hI:Inv c θ D st a w){x:Operand}{i:Nat}(ho:o.op= .extract x i)(h:jp P st (.ext (.of x) i) K):Yields P o a w (Res c θ st a K):=by
 obtain⟨ax,hx,hcase⟩:=h
 rcases hcase with⟨xs,rfl,p,hp,hk⟩|⟨xs,rfl,p,hp,hk⟩
 ·have hX:RelP D w (a.eval x) (.tup xs):=hI.get hx
  generalize hv:a.eval x=v at hX
  cases hX with
  |tup vs xs hs hh=>
   have hlt:i<vs.size:=by rw[hs];exact(a_.1 hp).1
   refine aF hI (v:=vs[i]) ?_ hk (hh i _ p (d_ hlt) hp)
   simp[execOp,ho,hv,Instr.extract,d_ hlt]
 ·obtain⟨vs,hv,hs,hh⟩:=hI.get hx
  have hlt:i<vs.size:=by rw[hs];exact(a_.1 hp).1
  refine aF hI (v:=vs[i]) ?_ hk (hh i _ p (d_ hlt) hp)
  simp[execOp,ho,hv,Instr.extract,d_ hlt]
theorem OT(hI:Inv c θ D st a w){x:Operand}(ho:o.op= .nilCheck x)(h:jp P st (.nilc (.of x)) K):Yields P o a w (Res c θ st a K):=by
 obtain⟨ax,hx,hcase,hk⟩:=h
 have hX:=hI.get hx
 rcases hcase with⟨p,rfl⟩|⟨id,o',rfl⟩|⟨id,i,o',rfl⟩|⟨f,ps,rfl⟩|⟨f,ids,rfl⟩
 ·obtain⟨b,o',he,_⟩:=A6 (zo hX)
  refine aF hI (v:=a.eval x) ?_ hk hX
  simp[execOp,ho,he]
 ·obtain⟨g,_,he⟩:=hX
  refine aF hI (v:=a.eval x) ?_ hk (hI.get hx)
  simp[execOp,ho,he]
 ·obtain⟨g,_,_,_,_,he⟩:=hX
  refine aF hI (v:=a.eval x) ?_ hk (hI.get hx)
  simp[execOp,ho,he]
 ·have hX':RelP D w (a.eval x) (.fn (.func f) ps):=hX
  refine aF hI (v:=a.eval x) ?_ hk (hI.get hx)
  generalize hv:a.eval x=v at hX'
  cases hX' with
  |fn f' vs xs hs hh=>simp[execOp,ho,hv]
 ·obtain⟨gs,_,_,he⟩:=hX
  refine aF hI (v:=a.eval x) ?_ hk (hI.get hx)
  simp[execOp,ho,he]
end
theorem mL{α:Type}(xs:List α)(off:Nat)(ys:List α)(h:off+ys.length<=xs.length)(k:Nat):(splice xs off ys)[k]? =if off<=k/\k<off+ys.length then ys[k - off]? else xs[k]? :=by
 unfold splice
 have hl:(xs.take off).length=off:=by simp;omega
 by_cases h1:k<off
 ·rw[an_,h_ (by omega),if_neg (by omega),l_,if_pos h1]
 ·rw[an_,i_ (by omega),hl]
  by_cases h2:k<off+ys.length
  ·rw[h_ (by omega),if_pos ⟨by omega,h2⟩]
  ·rw[i_ (by omega),if_neg (by omega),w_]
   congr 1;omega
theorem jL{α:Type}(xs:List α)(off:Nat)(ys:List α)(h:off+ys.length<=xs.length):(splice xs off ys).length=xs.length:=by
 unfold splice;simp;omega
theorem foldl_set(off:Nat):∀(l:List (Value×Nat)) (j:Nat) (cells:Array Value),(∀(i:Nat) (x:Value×Nat),l[i]? =some x->x.2=j+i)->off+j+l.length<=cells.size->
 (l.foldl (λcs x=>cs.setIfInBounds (off+x.2) x.1) cells).size=cells.size/\
 ∀k,(l.foldl (λcs x=>cs.setIfInBounds (off+x.2) x.1) cells)[k]? =if off+j<=k/\k<off+j+l.length then(l[k - (off+j)]?).map (·.1)else cells[k]?
 |[],j,cells,_,_=>⟨rfl,λk=>by rw[if_neg (by simp)];rfl⟩
 |x::l,j,cells,hx,hl=>by
  have h0:x.2=j:=hx 0 x rfl
  simp only[List.foldl_cons,U_]at hl⊢
  obtain⟨h1,h2⟩:=foldl_set off l (j+1) (cells.setIfInBounds (off+x.2) x.1) (λi y hy=>by have:=hx (i+1) y (by simpa using hy);omega) (by simp;omega)
  refine⟨by rw[h1];simp,λk=>?_⟩
  rw[h2 k]
  by_cases hk:k=off+j
  ·subst hk
   rw[if_neg (by omega),if_pos ⟨by omega,by omega⟩,h0]
   have:off+j<cells.size:=by omega
   simp[this]
  ·by_cases h3:off+(j+1)<=k/\k<off+(j+1)+l.length
   ·rw[if_pos h3,if_pos ⟨by omega,by omega⟩]
    have:k - (off+j)=(k - (off+(j+1)))+1:=by omega
    rw[this];rfl
   ·rw[if_neg h3,if_neg (by omega),h0,T_ (by omega)]
theorem I5(off:Nat)(vs cells:Array Value)(h:off+vs.size<=cells.size):
 (vs.zipIdx.foldl (λcs (c,j)=>cs.setIfInBounds (off+j) c) cells).size=cells.size/\
 ∀k,(vs.zipIdx.foldl (λcs (c,j)=>cs.setIfInBounds (off+j) c) cells)[k]? =if off<=k/\k<off+vs.size then vs[k - off]? else cells[k]? :=by
 have e:vs.zipIdx.foldl (λcs (c,j)=>cs.setIfInBounds (off+j) c) cells=(vs.toList.zipIdx).foldl (λcs x=>cs.setIfInBounds (off+x.2) x.1) cells:=by
  rw[<-Array.foldl_toList]
  simp
 rw[e]
 obtain⟨h1,h2⟩:=foldl_set off vs.toList.zipIdx 0 cells (λi x hx=>by
  rw[ak_]at hx
  cases hv:vs.toList[i]? with
  |none=>rw[hv]at hx;cases hx
  |some y=>rw[hv]at hx;simp at hx;subst hx;simp) (by simpa using h)
 refine⟨h1,λk=>?_⟩
 rw[h2 k]
 simp only[S_,List.length_zipIdx,v_]
 split
 ·rw[ak_]
  simp[Option.map_map,Function.comp_def]
 ·rfl
section
variable {P:Program} {o:Oper} {c:Ctx} {θ:List Loc} {D:Nat->Prop} {st:St} {a:Act} {w:World} {K:AV->Prop}
theorem PF(place:Nat->Option (Nat×Nat)):∀(parts:List (Nat×Value)) (qs:List (Nat×Nat×AV)) (cells:Array Value) (bs:List BV),parts.length=qs.length->
 (∀(i:Nat) (x:Nat×Value) (q:Nat×Nat×AV),parts[i]? =some x->qs[i]? =some q->place x.1=some (q.1,q.2.1)/\RelA θ D w x.2 q.2.2)->
 (∀q∈qs,q.2.2.ok=true/\q.2.2.cells.length=q.2.1/\q.1+q.2.1<=bs.length)->cells.size=bs.length->(∀(i:Nat) (u:Value) (x:BV),cells[i]? =some u->bs[i]? =some x->RelB θ D w u x)->
 ∃out,Instr.fill place cells parts=some out/\out.size=(qs.foldl (λcs q=>splice cs q.1 q.2.2.cells) bs).length/\
  ∀(i:Nat) (u:Value) (x:BV),out[i]? =some u->(qs.foldl (λcs q=>splice cs q.1 q.2.2.cells) bs)[i]? =some x->RelB θ D w u x
 |[],[],cells,bs,_,_,_,hs,hr=>⟨cells,rfl,hs,hr⟩
 |(i,v)::parts,q::qs,cells,bs,hl,hp,hq,hs,hr=>by
  obtain⟨h1,h2⟩:=hp 0 _ _ rfl rfl
  obtain⟨h3,h4,h5⟩:=hq q (by simp)
  obtain⟨h6,h7⟩:=qI h2 h3
  have h6':v.cells.size=q.2.1:=by rw[<-h4];exact h6
  have hsp:=jL bs q.1 q.2.2.cells (by omega)
  obtain⟨s1,s2⟩:=I5 q.1 v.cells cells (by omega)
  obtain⟨out,e1,e2,e3⟩:=PF place parts qs (v.cells.zipIdx.foldl (λcs (c,j)=>cs.setIfInBounds (q.1+j) c) cells) (splice bs q.1 q.2.2.cells) (by simpa using hl)
   (λi x q' hx hq'=>hp (i+1) x q' (by simpa using hx) (by simpa using hq')) (λq' hq'=>by rw[hsp];exact hq q' (by simp[hq'])) (by rw[s1,hsp];exact hs)
   (λk u x hu hx=>by
    rw[s2 k]at hu
    rw[mL bs q.1 q.2.2.cells (by omega)]at hx
    split at hu
    ·rw[if_pos (by omega)]at hx;exact(h7 (k - q.1) u x hu hx).1
    ·rw[if_neg (by omega)]at hx;exact hr k u x hu hx)
  refine⟨out,?_,e2,e3⟩
  simp only[Instr.fill,h1]
  rw[if_neg (by simp[h6'];omega)]
  exact e1
theorem IW(z:Array Value):∀(i:Nat) (u:Value) (x:BV),z[i]? =some u->(z.toList.map λv=>bI v)[i]? =some x->RelB θ D w u x:=by
 intro i u x hu hx
 rw[e_,j_,hu]at hx
 simp at hx
 subst hx
 exact zp u
theorem MM(hI:Inv c θ D st a w){t:TypeId}{parts:Array (Nat×Operand)}{z:Value}{ps:List (Nat×Nat×SX)}(ho:o.op= .build t parts)(hz:dI P t=some z)(hps:partsOf P t parts.toList=some ps)
 (h:jp P st (.build z.cells.toList ps) K):Yields P o a w (Res c θ st a K):=by
 obtain⟨qs,hqs,hcond,hk⟩:=h
 obtain⟨q1,q2⟩:=mapM_some hqs
 have hz':=hz
 simp only[dI,o_]at hz'
 obtain⟨it,hit,hz1⟩:=hz'
 have hrel:∀(place:Nat->Option (Nat×Nat)),(∀(i:Nat) (x:Nat×Operand) (s:Nat×Nat×SX),parts.toList[i]? =some x->ps[i]? =some s->place x.1=some (s.1,s.2.1)/\s.2.2=SX.of x.2)->parts.toList.length=ps.length->
  ∃out,Instr.fill place z.cells (parts.map fun(i,x)=>(i,a.eval x)).toList=some out/\RelA θ D w (.agg out) (.agg (qs.foldl (λcs q=>splice cs q.1 q.2.2.cells) (z.cells.toList.map λv=>bI v))):=by
  intro place hpl hlen
  obtain⟨out,e1,e2,e3⟩:=PF (θ:=θ) (D:=D) (w:=w) place (parts.map fun(i,x)=>(i,a.eval x)).toList qs z.cells (z.cells.toList.map λv=>bI v) (by simp;rw[<-q1,<-hlen];simp)
   (λi x q hx hq=>by
    simp only[aq_,e_]at hx
    cases hpi:parts.toList[i]? with
    |none=>rw[hpi]at hx;simp at hx
    |some pr=>
     rw[hpi]at hx;simp at hx;subst hx
     obtain⟨s,hs⟩:=bw (l:=ps) (m:=qs) q1 hq
     have:=q2 i s q hs hq
     simp only[f_]at this
     obtain⟨av,hav,rfl⟩:=this
     obtain⟨p1,p2⟩:=hpl i pr s hpi hs
     refine⟨p1,?_⟩
     rw[p2]at hav
     exact hI.get hav) (λq hq=>by have:=hcond q hq;simpa using this) (by simp) (IW z.cells)
  exact⟨out,e1,out,rfl,e2,e3⟩
 have hbuilt:∃out,P.built t (parts.map fun(i,x)=>(i,a.eval x)).toList=some out/\RelA θ D w (.agg out) (.agg (qs.foldl (λcs q=>splice cs q.1 q.2.2.cells) (z.cells.toList.map λv=>bI v))):=by
  unfold partsOf at hps
  split at hps
  ·rename_i fs hfs
   simp only[o_]at hps
   obtain⟨places,hpl,hps⟩:=hps
   obtain⟨m1,m2⟩:=mapM_some hps
   obtain⟨out,e1,e2⟩:=hrel (places.toArray[·]?) (λi x s hx hs=>by
    have:=m2 i x s hx hs
    simp only[f_]at this
    obtain⟨pl,hpl',rfl⟩:=this
    exact⟨by simp[hpl'],rfl⟩) m1
   refine⟨out,?_,e2⟩
   simp only[Program.built,hit,hfs,hz1,hpl]
   exact e1
  ·rename_i n e hfs
   simp only[o_]at hps
   obtain⟨ie,hie,hps⟩:=hps
   obtain⟨m1,m2⟩:=mapM_some hps
   obtain⟨out,e1,e2⟩:=hrel (λi=>some (i*ie.size,ie.size)) (λi x s hx hs=>by
    have:=m2 i x s hx hs
    simp only[A_]at this
    subst this
    exact⟨rfl,rfl⟩) m1
   refine⟨out,?_,e2⟩
   simp only[Program.built,hit,hfs,hz1,hie]
   exact e1
  ·cases hps
 obtain⟨out,e1,e2⟩:=hbuilt
 refine aF hI ?_ hk e2
 simp[execOp,ho,run_build w t _ _ e1]
end
section
variable {c:Ctx} {θ:List Loc} {D:Nat->Prop} {st:St} {a:Act} {w:World}
theorem kA(w:World)(o:Obj):Below w.heap.size w (w.alloc o):=(Below.refl _ _).alloc (u_ _) o
theorem Inv.allocOwn(hI:Inv c θ D st a w){l:Loc}{o:AObj}{ob:Obj}(hl:∀g,l.has g->g=w.heap.size)(ho:∀θ',(∀(i:Nat) (l:Loc),θ[i]? =some l->θ'[i]? =some l)->RelO θ' D (w.alloc ob) l o):
 Inv c (θ++[l]) D {st with hp:=st.hp++[o]} a (w.alloc ob):=by
 have h1:Inv c θ D st a (w.alloc ob):=hI.below (kA w ob) hI.w0le (λ_ h=>h) (λ_ h=>.inl h)
 refine h1.push (ho _ λi l' hi=>get_append hi) λg hg=>?_
 cases hl g hg
 refine⟨hI.w0le,by simp,λhd=>by have:=hI.ok.dlt _ hd;omega,λi li hi he=>?_⟩
 have:=(hI.ok.olt i li _ hi he).1
 omega
theorem Inv.pushAt(hI:Inv c θ D st a w){pl:Option Nat}(hpl:AU st pl){l:Loc}{o:AObj}(ho:∀θ',(∀(i:Nat) (l:Loc),θ[i]? =some l->l≠.no->θ'[i]? =some l)->RelO θ' D w l o)
 (hl:∀g,l.has g->c.w0.heap.size<=g/\g<w.heap.size/\¬D g/\∀(i:Nat) (li:Loc),θ[i]? =some li->¬li.has g):∃θ',Inv c θ' D (st.new pl o) a w/\θ'[st.nid pl]? =some l:=by
 cases pl with
 |none=>exact⟨θ++[l],hI.push (ho _ λi l' hi _=>get_append hi) hl,by simp[St.nid,<-hI.ok.len]⟩
 |some s=>
  have hno:=hI.free_no hpl
  have hlt:s<θ.length:=(a_.1 hno).1
  refine⟨θ.set s l,hI.fill hpl (ho _ λi l' hi hn=>?_) hl,by simp[St.nid,hlt]⟩
  rw[m_ (λe=>hn (by subst e;rw[hno]at hi;exact(W_ hi).symm))];exact hi
theorem Inv.allocAt(hI:Inv c θ D st a w){pl:Option Nat}(hpl:AU st pl){l:Loc}{o:AObj}{ob:Obj}(hl:∀g,l.has g->g=w.heap.size)(ho:∀θ',(∀(i:Nat) (l:Loc),θ[i]? =some l->l≠.no->θ'[i]? =some l)->RelO θ' D (w.alloc ob) l o):
 ∃θ',Inv c θ' D (st.new pl o) a (w.alloc ob)/\θ'[st.nid pl]? =some l:=by
 have h1:Inv c θ D st a (w.alloc ob):=hI.below (kA w ob) hI.w0le (λ_ h=>h) (λ_ h=>.inl h)
 refine h1.pushAt hpl ho λg hg=>?_
 cases hl g hg
 refine⟨hI.w0le,by simp,λhd=>by have:=hI.ok.dlt _ hd;omega,λi li hi he=>?_⟩
 have:=(hI.ok.olt i li _ hi he).1
 omega
theorem Inv.store(hI:Inv c θ D st a w){id g:Nat}{l:Loc}{o':AObj}{w':World}(hid:θ[id]? =some l)(hl:l.has g)(hos:w'.os=w.os)(ht:w'.tape=w.tape)(hout:w'.output=w.output)(hsz:w'.heap.size=w.heap.size)
 (hother:∀k,k≠g->w'.heap[k]? =w.heap[k]?) (ho:RelO θ D w' l o'):Inv c θ D {st with hp:=st.hp.set id o'} a w':=by
 have hDw:∀b,D b->w'.heap[b]? =w.heap[b]? :=λb hb=>hother b λe=>(hI.ok.olt id l g hid hl).2 (e▸hb)
 refine⟨hI.size,hI.defers,⟨by simp[hI.ok.len],λb hb=>by rw[hsz];exact hI.ok.dlt b hb,hI.ok.inj,λi li gi hi hgi=>by rw[hsz];exact hI.ok.olt i li gi hi hgi,λi li oi hi hoi=>?_⟩,
  ⟨hos.trans hI.keep.os,ht.trans hI.keep.tape,hout.trans hI.keep.output,by rw[hsz];exact hI.keep.size,λk hk hn=>(hother k λe=>?_).trans (hI.keep.block k hk hn)⟩,hI.dsub,hI.dnew,hI.onew,λk x hk=>(hI.fr k x hk).mono (λ_ h=>h) hDw,hI.fix⟩
 ·by_cases hii:i=id
  ·subst hii
   rw[hid]at hi;cases hi
   have hlt:i<st.hp.length:=by rw[<-hI.ok.len];exact(a_.1 hid).1
   rw[t_ hlt]at hoi
   cases hoi
   exact ho
  ·rw[m_ (Ne.symm hii)]at hoi
   refine(hI.ok.objs i li oi hi hoi).mono (λ_ h=>h) hDw λgi hgi=>hother gi λe=>hii ?_
   subst e
   exact hI.ok.inj i id li l gi hi hid hgi hl
 ·subst e
  rcases hI.onew id l k hid hl with h1|h1
  ·exact hn h1
  ·omega
theorem nO(f:AV->AV):∀(fr:List (Nat×AV)) (k:Nat),look (fr.map λx=>(x.1,f x.2)) k=(look fr k).map f
 |[],_=>rfl
 |(j,x)::fr,k=>by
  simp only[List.map_cons,look]
  split
  ·rfl
  ·exact nO f fr k
theorem RelB.kill{θ:List Loc}{D:Nat->Prop}{w:World}{v:Value}{x:BV}{id:Nat}{l l':Loc}(hid:θ[id]? =some l)(hnb:∀g,l≠.blk g)(hnm:∀g,l≠.mp g)(h:RelB θ D w v x):RelB (θ.set id l') D w v (x.kill id):=by
 have hset:∀(k:Nat),k≠id->(θ.set id l')[k]? =θ[k]? :=λk hk=>m_ (Ne.symm hk)
 cases x with
 |pv p=>exact h
 |nils=>exact h
 |sl k=>
  simp only[BV.kill]
  split
  ·exact RelP.any v
  ·rename_i hk
   obtain⟨lk,h1,h2⟩:=h
   exact⟨lk,(hset k hk).trans h1,h2⟩
 |ptr k off=>
  obtain⟨g,h1,h2⟩:=h
  refine⟨g,(hset k λe=>?_).trans h1,h2⟩
  subst e
  rw[hid]at h1;cases h1
  exact hnb g rfl
 |elt k i off=>
  simp only[BV.kill]
  split
  ·exact RelP.any v
  ·rename_i hk
   obtain⟨g,n,cap,sz,O,h1,h2⟩:=h
   exact⟨g,n,cap,sz,O,(hset k hk).trans h1,h2⟩
 |clo f ids=>
  obtain⟨gs,h1,h2,h3⟩:=h
  refine⟨gs,h1,λj k g hj hg=>(hset k λe=>?_).trans (h2 j k g hj hg),h3⟩
  have:=h2 j k g hj hg
  subst e
  rw[hid]at this;cases this
  exact hnb g rfl
 |mp k=>
  obtain⟨g,h1,h2⟩:=h
  refine⟨g,(hset k λe=>?_).trans h1,h2⟩
  subst e
  rw[hid]at h1;cases h1
  exact hnm g rfl
 |full p=>exact h
 |ifc=>exact h
theorem RelA.kill{θ:List Loc}{D:Nat->Prop}{w:World}{v:Value}{x:AV}{id:Nat}{l l':Loc}(hid:θ[id]? =some l)(hnb:∀g,l≠.blk g)(hnm:∀g,l≠.mp g)(h:RelA θ D w v x):RelA (θ.set id l') D w v (x.kill id):=by
 cases x with
 |b x=>exact RelB.kill hid hnb hnm h
 |agg xs=>
  obtain⟨vs,rfl,h1,h2⟩:=h
  refine⟨vs,rfl,by simp[h1],λi u x hu hx=>?_⟩
  rw[e_]at hx
  cases hxi:xs[i]? with
  |none=>rw[hxi]at hx;cases hx
  |some y=>rw[hxi]at hx;cases hx;exact(h2 i u y hu hxi).kill hid hnb hnm
 |tup xs=>
  obtain⟨vs,rfl,h1,h2⟩:=h
  refine⟨vs,rfl,by simp[h1],λi u x hu hx=>?_⟩
  rw[e_]at hx
  cases hxi:xs[i]? with
  |none=>rw[hxi]at hx;cases hx
  |some y=>rw[hxi]at hx;cases hx;exact(h2 i u y hu hxi).kill hid hnb hnm
theorem pT{θ θ':List Loc}{D D':Nat->Prop}{w:World}{f:BV->BV}{hole:Option (Nat×Nat×BV)}(hf:∀u i j b,hole=some (i,j,b)->RelB θ D w u b->RelB θ' D' w u (f b))(hD:∀b,D b->D' b){g n cap s:Nat}{O:Nat->Prop}{e:TypeId}{sz:Nat}{k:Av.K}{xs:List PV}
 (h:RelO θ D w (.hdr g n cap s O) (.tree e sz k xs hole)):RelO θ' D' w (.hdr g n cap s O) (.tree e sz k xs (J8 f hole)):=by
 obtain⟨h1,h2,h3,h4,h5,c,Os,h6,h7,h8,h9,h11,h10⟩:=h
 refine⟨h1,h2,h3,h4,h5,c,Os,h6,h7,h8,h9,λi j b hb=>?_,λi j x y hx hy=>?_⟩
 ·cases hole with
  |none=>cases hb
  |some q=>obtain⟨i',j',b'⟩:=q;cases hb;exact h11 _ _ _ rfl
 ·obtain⟨u,e1,e2⟩:=h10 i j x y hx hy
  refine⟨u,e1,?_⟩
  have:dA (J8 f hole) i j=(dA hole i j).map f:=by
   cases hole with
   |none=>rfl
   |some q=>
    obtain⟨i',j',b'⟩:=q
    simp only[J8,dA]
    split<;>rfl
  rw[this]
  cases hq:dA hole i j with
  |none=>rw[hq]at e2;exact e2.mono hD (λ_ _=>rfl) λ_ _=>rfl
  |some b=>rw[hq]at e2;exact hf u i j b (rL hq) e2
theorem RelO.kill{θ:List Loc}{D:Nat->Prop}{w:World}{lo:Loc}{o:AObj}{id:Nat}{l l':Loc}(hid:θ[id]? =some l)(hnb:∀g,l≠.blk g)(hnm:∀g,l≠.mp g)(h:RelO θ D w lo o):RelO (θ.set id l') D w lo (o.kill id):=by
 cases lo<;>cases o<;>simp only[RelO,AObj.kill]at h⊢<;>try exact h
 case nil.tree=>exact⟨h.1,by rw[h.2];rfl⟩
 case hdr.tree g n cap s O e sz kk xs hole=>
  exact pT (λu i j b _ h=>h.kill hid hnb hnm) (λ_ h=>h) h
 obtain⟨cv,h1,h2,h3⟩:=h
 refine⟨cv,h1,by simp[h2],λi u x hu hx=>?_⟩
 rw[e_]at hx
 rename_i cs
 cases hxi:cs[i]? with
 |none=>rw[hxi]at hx;cases hx
 |some y=>rw[hxi]at hx;cases hx;exact(h3 i u y hu hxi).kill hid hnb hnm
theorem Inv.move(hI:Inv c θ D st a w){id:Nat}{l l':Loc}{o':AObj}{w':World}(hid:θ[id]? =some l)(hnb:∀g,l≠.blk g)(hnm:∀g,l≠.mp g)(hos:w'.os=w.os)(ht:w'.tape=w.tape)(hout:w'.output=w.output)(hsz:w.heap.size<=w'.heap.size)
 (hother:∀k,k<w.heap.size->¬l.has k->w'.heap[k]? =w.heap[k]?) (hl':∀g,l'.has g->g<w'.heap.size/\(l.has g\/w.heap.size<=g)) (ho:RelO (θ.set id l') D w' l' o'):
 Inv c (θ.set id l') D (st.moved id o') a w':=by
 show Inv c (θ.set id l') D {(st.kill id)with hp:=(st.kill id).hp.set id o'} a w'
 have hDw:∀b,D b->w'.heap[b]? =w.heap[b]? :=λb hb=>hother b (hI.ok.dlt b hb) λe=>(hI.ok.olt id l b hid e).2 hb
 have hlt:id<θ.length:=(a_.1 hid).1
 have hcase:∀(i:Nat) (li:Loc),(θ.set id l')[i]? =some li->(i=id/\li=l')\/(i≠id/\θ[i]? =some li):=λi li hi=>by
  by_cases hii:i=id
  ·subst hii
   rw[t_ hlt]at hi
   cases hi
   exact .inl ⟨rfl,rfl⟩
  ·rw[m_ (Ne.symm hii)]at hi
   exact .inr ⟨hii,hi⟩
 have hfresh:∀(i:Nat) (li:Loc) (g:Nat),i≠id->θ[i]? =some li->li.has g->¬l'.has g:=λi li g hii hi hg e=>by
  rcases(hl' g e).2 with h1|h1
  ·exact hii (hI.ok.inj i id li l g hi hid hg h1)
  ·have:=(hI.ok.olt i li g hi hg).1;omega
 refine⟨hI.size,hI.defers,⟨by simp[St.kill,hI.ok.len],λb hb=>q_ (hI.ok.dlt b hb) hsz,λi j li lj g hi hj hgi hgj=>?_,λi li g hi hg=>?_,λi li oi hi hoi=>?_⟩,
  ⟨hos.trans hI.keep.os,ht.trans hI.keep.tape,hout.trans hI.keep.output,L_ hI.keep.size hsz,λk hk hn=>(hother k (q_ hk hI.keep.size) λe=>?_).trans (hI.keep.block k hk hn)⟩,hI.dsub,hI.dnew,λi li g hi hg=>?_,λk x hk=>?_,λk lk hk hf=>?_⟩
 ·rcases hcase i li hi with⟨rfl,rfl⟩|⟨h1,h2⟩<;>rcases hcase j lj hj with⟨rfl,rfl⟩|⟨h3,h4⟩
  ·rfl
  ·exact absurd hgi (hfresh j lj g h3 h4 hgj)
  ·exact absurd hgj (hfresh i li g h1 h2 hgi)
  ·exact hI.ok.inj i j li lj g h2 h4 hgi hgj
 ·rcases hcase i li hi with⟨rfl,rfl⟩|⟨h1,h2⟩
  ·refine⟨(hl' g hg).1,λhd=>?_⟩
   rcases(hl' g hg).2 with h3|h3
   ·exact(hI.ok.olt i l g hid h3).2 hd
   ·have:=hI.ok.dlt g hd;omega
  ·exact⟨q_ (hI.ok.olt i li g h2 hg).1 hsz,(hI.ok.olt i li g h2 hg).2⟩
 ·rcases hcase i li hi with⟨rfl,rfl⟩|⟨h1,h2⟩
  ·have hlt':i<(st.kill i).hp.length:=by simp[St.kill,<-hI.ok.len];exact hlt
   rw[t_ hlt']at hoi
   cases hoi
   exact ho
  ·rw[m_ (Ne.symm h1)]at hoi
   simp only[St.kill,e_]at hoi
   cases hpi:st.hp[i]? with
   |none=>rw[hpi]at hoi;cases hoi
   |some ob=>
    rw[hpi]at hoi;cases hoi
    exact((hI.ok.objs i li ob h2 hpi).kill hid hnb hnm).mono (λ_ h=>h) hDw λg hg=>hother g (hI.ok.olt i li g h2 hg).1 λe=>h1 (hI.ok.inj i id li l g h2 hid hg e)
 ·rcases hI.onew id l k hid e with h1|h1
  ·exact hn h1
  ·omega
 ·rcases hcase i li hi with⟨rfl,rfl⟩|⟨h1,h2⟩
  ·rcases(hl' g hg).2 with h3|h3
   ·exact hI.onew i l g hid h3
   ·exact .inr (L_ hI.keep.size h3)
  ·exact hI.onew i li g h2 hg
 ·simp only[St.kill,nO]at hk
  cases hlk:look st.fr k with
  |none=>rw[hlk]at hk;cases hk
  |some y=>
   rw[hlk]at hk;cases hk
   exact((hI.fr k y hlk).kill hid hnb hnm).mono (λ_ h=>h) hDw
 ·have h1:=hI.fix k lk hk hf
  by_cases hki:k=id
  ·subst hki
   rw[hid]at h1;cases h1
   cases l<;>simp[Loc.fixed]at hf
   ·exact absurd rfl (hnb _)
   ·exact absurd rfl (hnm _)
  ·rw[m_ (Ne.symm hki)];exact h1
end
section
variable {D D':Nat->Prop} {w w':World}
theorem RelB.ren{θ θ2:List Loc}{ρ:Nat->Nat}{v:Value}{x:BV}(hθ:∀k l,k∈x.ids->θ[k]? =some l->θ2[ρ k]? =some l)(h:RelB θ D w v x):RelB θ2 D w v (x.ren ρ):=by
 cases x<;>simp only[RelB,BV.ren,BV.ids,List.mem_singleton]at h hθ⊢
 ·exact h
 ·exact h
 ·obtain⟨l,h1,h2⟩:=h;exact⟨l,hθ _ _ rfl h1,h2⟩
 ·obtain⟨g,h1,h2⟩:=h;exact⟨g,hθ _ _ rfl h1,h2⟩
 ·obtain⟨g,n,cap,sz,O,h1,h2⟩:=h;exact⟨g,n,cap,sz,O,hθ _ _ rfl h1,h2⟩
 ·rename_i f ids
  obtain⟨gs,h1,h2,h3⟩:=h
  refine⟨gs,by simp[h1],λk id g e1 e2=>?_,h3⟩
  rw[e_]at e1
  cases hk:ids[k]? with
  |none=>rw[hk]at e1;cases e1
  |some i=>rw[hk]at e1;cases e1;exact hθ _ _ (c_ hk) (h2 k i g hk e2)
 ·obtain⟨g,h1,h2⟩:=h;exact⟨g,hθ _ _ rfl h1,h2⟩
 ·exact h
 ·exact h
theorem wz{xs:List BV}{x:BV}{k:Nat}{i:Nat}(hx:xs[i]? =some x)(hk:k∈x.ids):k∈xs.flatMap BV.ids:=
 as_.2 ⟨x,c_ hx,hk⟩
theorem xu{θ θ2:List Loc}{D2:Nat->Prop}{w2:World}{vs:Array Value}{xs:List BV}{g:BV->BV}(h1:vs.size=xs.length)(h2:∀(i:Nat) (u:Value) (x:BV),vs[i]? =some u->xs[i]? =some x->RelB θ D w u x)
 (hg:∀(i:Nat) (u:Value) (x:BV),xs[i]? =some x->RelB θ D w u x->RelB θ2 D2 w2 u (g x)):vs.size=(xs.map g).length/\∀(i:Nat) (u:Value) (x:BV),vs[i]? =some u->(xs.map g)[i]? =some x->RelB θ2 D2 w2 u x:=by
 refine⟨by simp[h1],λi u x hu hx=>?_⟩
 rw[e_]at hx
 cases hxi:xs[i]? with
 |none=>rw[hxi]at hx;cases hx
 |some y=>rw[hxi]at hx;cases hx;exact hg i u y hxi (h2 i u y hu hxi)
theorem RelA.ren{θ θ2:List Loc}{ρ:Nat->Nat}{v:Value}{x:AV}(hθ:∀k l,k∈x.ids->θ[k]? =some l->θ2[ρ k]? =some l)(h:RelA θ D w v x):RelA θ2 D w v (x.ren ρ):=by
 cases x with
 |b x=>exact RelB.ren hθ h
 |agg xs=>
  obtain⟨vs,rfl,h1,h2⟩:=h
  obtain⟨h3,h4⟩:=xu (θ2:=θ2) (g:=BV.ren ρ) h1 h2 λi u x hx hr=>hr.ren λk l hk hl=>hθ k l (wz hx hk) hl
  exact⟨vs,rfl,h3,h4⟩
 |tup xs=>
  obtain⟨vs,rfl,h1,h2⟩:=h
  obtain⟨h3,h4⟩:=xu (θ2:=θ2) (g:=BV.ren ρ) h1 h2 λi u x hx hr=>hr.ren λk l hk hl=>hθ k l (wz hx hk) hl
  exact⟨vs,rfl,h3,h4⟩
theorem RelO.ren{θ θ2:List Loc}{ρ:Nat->Nat}{l:Loc}{o:AObj}(hθ:∀k l,k∈o.ids->θ[k]? =some l->θ2[ρ k]? =some l)(h:RelO θ D w l o):RelO θ2 D w l (o.ren ρ):=by
 cases l<;>cases o<;>simp only[RelO,AObj.ren]at h⊢<;>try exact h
 case nil.tree=>exact⟨h.1,by rw[h.2];rfl⟩
 case hdr.tree hole=>exact pT (λu i j b hb hr=>hr.ren λk l hk hl=>hθ k l (by rw[hb];exact hk) hl) (λ_ h=>h) h
 obtain⟨cv,h1,h2,h3⟩:=h
 obtain⟨h4,h5⟩:=xu (θ2:=θ2) (g:=BV.ren ρ) h2 h3 λi u x hx hr=>hr.ren λk l hk hl=>hθ k l (wz hx hk) hl
 exact⟨cv,h1,h4,h5⟩
theorem RelB.killB{θ θ2:List Loc}{B:List Nat}{v:Value}{x:BV}(h1:∀(k:Nat) (l:Loc),k∉B->θ[k]? =some l->θ2[k]? =some l)(h2:∀(k:Nat) (l:Loc),l.fixed=true->θ[k]? =some l->θ2[k]? =some l)
 (h:RelB θ D w v x):RelB θ2 D w v (x.killB B):=by
 cases x with
 |pv p=>exact h
 |nils=>exact h
 |sl k=>
  by_cases hk:k∈B
  ·have:(BV.sl k).killB B= .pv .any:=by simp[BV.killB,hk]
   rw[this];exact RelP.any v
  ·have:(BV.sl k).killB B= .sl k:=by simp[BV.killB,hk]
   rw[this]
   obtain⟨l,e1,e2⟩:=h
   exact⟨l,h1 _ _ hk e1,e2⟩
 |ptr k off=>obtain⟨g,e1,e2⟩:=h;exact⟨g,h2 _ _ rfl e1,e2⟩
 |elt k i off=>
  by_cases hk:k∈B
  ·have:(BV.elt k i off).killB B= .pv .any:=by simp[BV.killB,hk]
   rw[this];exact RelP.any v
  ·have:(BV.elt k i off).killB B= .elt k i off:=by simp[BV.killB,hk]
   rw[this]
   obtain⟨g,n,cap,sz,O,e1,e2⟩:=h
   exact⟨g,n,cap,sz,O,h1 _ _ hk e1,e2⟩
 |clo f ids=>obtain⟨gs,e1,e2,e3⟩:=h;exact⟨gs,e1,λk id g f1 f2=>h2 _ _ rfl (e2 k id g f1 f2),e3⟩
 |mp k=>obtain⟨g,e1,e2⟩:=h;exact⟨g,h2 _ _ rfl e1,e2⟩
 |full p=>exact h
 |ifc=>exact h
theorem RelA.killB{θ θ2:List Loc}{B:List Nat}{v:Value}{x:AV}(h1:∀(k:Nat) (l:Loc),k∉B->θ[k]? =some l->θ2[k]? =some l)(h2:∀(k:Nat) (l:Loc),l.fixed=true->θ[k]? =some l->θ2[k]? =some l)
 (h:RelA θ D w v x):RelA θ2 D w v (x.killB B):=by
 cases x with
 |b x=>exact RelB.killB h1 h2 h
 |agg xs=>
  obtain⟨vs,rfl,h3,h4⟩:=h
  obtain⟨h5,h6⟩:=xu (θ2:=θ2) (g:=BV.killB B) h3 h4 λi u x hx hr=>hr.killB h1 h2
  exact⟨vs,rfl,h5,h6⟩
 |tup xs=>
  obtain⟨vs,rfl,h3,h4⟩:=h
  obtain⟨h5,h6⟩:=xu (θ2:=θ2) (g:=BV.killB B) h3 h4 λi u x hx hr=>hr.killB h1 h2
  exact⟨vs,rfl,h5,h6⟩
theorem RelO.killB{θ θ2:List Loc}{B:List Nat}{l:Loc}{o:AObj}(h1:∀(k:Nat) (l:Loc),k∉B->θ[k]? =some l->θ2[k]? =some l)(h2:∀(k:Nat) (l:Loc),l.fixed=true->θ[k]? =some l->θ2[k]? =some l)
 (h:RelO θ D w l o):RelO θ2 D w l (o.killB B):=by
 cases l<;>cases o<;>simp only[RelO,AObj.killB]at h⊢<;>try exact h
 case nil.tree=>exact⟨h.1,by rw[h.2];rfl⟩
 case hdr.tree hole=>exact pT (λu i j b hb hr=>hr.killB h1 h2) (λ_ h=>h) h
 obtain⟨cv,e1,e2,e3⟩:=h
 obtain⟨h5,h6⟩:=xu (θ2:=θ2) (g:=BV.killB B) e2 e3 λi u x hx hr=>hr.killB h1 h2
 exact⟨cv,e1,h5,h6⟩
theorem RelB.flatB{θ:List Loc}{v:Value}{x:BV}(hf:x.FlatB)(h:RelB θ D w v x):RelB θ D' w' v x:=by
 cases x<;>simp only[RelB,BV.FlatB]at h hf⊢<;>first|exact h.flat hf|exact h|exact hf.elim
theorem RelA.flatA{θ:List Loc}{v:Value}{x:AV}(hf:x.FlatA)(h:RelA θ D w v x):RelA θ D' w' v x:=by
 cases x with
 |b x=>exact RelB.flatB hf h
 |agg xs=>obtain⟨vs,hv,h1,h2⟩:=h;exact⟨vs,hv,h1,λi u x hu hx=>(h2 i u x hu hx).flatB (hf x (c_ hx))⟩
 |tup xs=>obtain⟨vs,hv,h1,h2⟩:=h;exact⟨vs,hv,h1,λi u x hu hx=>(h2 i u x hu hx).flatB (hf x (c_ hx))⟩
theorem RelT.flatT{q:Option (TypeId×Nat×Av.K)}{O:Nat->Prop}{v:Value}{p:PV}(h:RelT D w q O v p):FlatT q p->RelT D' w q O v p:=by
 induction h with
 |flat O v p h=>intro hf;cases hf with|flat _ hp=>exact .flat O v p (h.flat hp)
 |nil q O a=>intro _;exact .nil q O a
 |hdr e sz k O g cap xs p cs val Os hp hcap hmax hsz hg hcs hOg hOs hdj hc _ ih=>
  intro hf
  cases hf with
  |sl _ _ _ _ xs' hp' hf=>
   have:xs'=xs:=PS (hp'.symm.trans hp)
   subst this
   exact .hdr e sz k O g cap xs' p cs val Os hp hcap hmax hsz hg hcs hOg hOs hdj hc λi j x y hx hy=>ih i j x y hx hy (hf i j x y hx hy)
theorem RelO.flatO{θ:List Loc}{l:Loc}{o:AObj}(hf:o.FlatO)(h:RelO θ D w l o):RelO θ D' w l o:=by
 cases l<;>cases o<;>simp only[RelO,AObj.FlatO]at h hf⊢<;>try exact h
 ·obtain⟨cv,h1,h2,h3⟩:=h
  exact⟨cv,h1,h2,λi u x hu hx=>(h3 i u x hu hx).flatB (hf x (c_ hx))⟩
 ·obtain⟨h1,h2,h3,h4,h5,c,h6,h7,h8⟩:=h
  exact⟨h1,h2,h3,h4,h5,c,h6,h7,λi j x y hx hy=>let⟨u,e1,e2⟩:=h8 i j x y hx hy;⟨u,e1,e2.flat (hf x (c_ hx) y (c_ hy))⟩⟩
 ·obtain⟨h1,h2,h3,h4,h5,c,Os,h6,h7,h8,h9,h11,h10⟩:=h
  refine⟨h1,h2,h3,h4,h5,c,Os,h6,h7,h8,h9,h11,λi j x y hx hy=>?_⟩
  obtain⟨u,e1,e2⟩:=h10 i j x y hx hy
  refine⟨u,e1,?_⟩
  rename_i hole
  cases hq:dA hole i j with
  |none=>rw[hq]at e2;exact e2.flatT (hf.2 i j x y hx hy)
  |some b=>rw[hq]at e2;exact e2.flatB (hf.1 i j b (rL hq))
 ·obtain⟨es,ck,h1,h2,h3⟩:=h
  exact⟨es,ck,h1,h2,λi en kv he hk=>⟨(h3 i en kv he hk).1.flat (hf kv (c_ hk)).1,(h3 i en kv he hk).2.flat (hf kv (c_ hk)).2⟩⟩
end
section
variable {P:Program} {o:Oper} {c:Ctx} {θ:List Loc} {D:Nat->Prop} {st:St} {a:Act} {w:World}
theorem ez(w:World)(o:Obj)(k:Nat)(h:k<w.heap.size):(w.alloc o).heap[k]? =w.heap[k]? :=Below.heap_alloc w o k h
theorem eV(w:World)(o:Obj):(w.alloc o).heap[w.heap.size]? =some o:=by
 show(w.heap.push o)[w.heap.size]? =_
 simp
def Leaves(P:Program)(o:Oper)(c:Ctx)(K KP:St->Prop)(a:Act)(w:World):Prop:=
 ∀(next:Act->World->Prop) (Q:Exit->Act->World->Prop),(∀a' w',(∃st',K st'/\Rel c st' a' w')->next a' w')->(∀ch w',(tH ch/\∃st',KP st'/\Rel c st' a w')->Q (.panic ch) a w')->o.wp P a w next Q
theorem B8{K KP:St->Prop}{K':AV->Prop}(hd:∀k,o.dst=some k->k<c.n)(h:Yields P o a w (Res c θ st a K'))(hk:∀x,K' x->K (st.putO o.dst x)):Leaves P o c K KP a w:=
 λ_ _ hn _=>h.wp λ_ _ ⟨x,D',hx,hI,hv⟩=>hn _ _ ⟨_,hk x hx,θ,D',hI.put hd hv⟩
theorem EO{hp:List AObj}{x:BV}{p:PV}(h:Dr hp false x=some p):x.toPV=some p:=by
 unfold Dr at h
 split at h
 ·cases h
 ·exact h
theorem La{hp:List AObj}{x:AV}{p:PV}(h:nv hp false x=some p):x.toPV=some p:=by
 cases x with
 |b x=>exact EO h
 |agg xs=>
  simp only[nv,AV.toPV,f_]at h⊢
  obtain⟨ps,h1,rfl⟩:=h
  refine⟨ps,?_,rfl⟩
  have:∀(l:List BV) (ps:List PV),l.mapM (Dr hp false)=some ps->l.mapM BV.toPV=some ps:=by
   intro l
   induction l with
   |nil=>intro ps h;exact h
   |cons x l ih=>
    intro ps h
    rw[ay_]at h⊢
    simp only[al_,ax_,o_,A_]at h⊢
    obtain⟨a,h1,m,h2,rfl⟩:=h
    exact⟨a,EO h1,m,ih _ h2,rfl⟩
  exact this xs ps h1
 |tup xs=>exact h
theorem MA(hI:Inv c θ D st a w){D':Nat->Prop}(hD:∀b,D b->D' b){bor:Bool}{v:Value}{x:BV}{p:PV}(hO:bor=true->∀id l,id∈x.ids->θ[id]? =some l->∀b,l.has b->D' b)(hv:RelB θ D w v x)(h:Dr st.hp bor x=some p):RelP D' w v p:=by
 unfold Dr at h
 split at h
 ·rename_i id
  cases bor
  ·cases h
  ·obtain⟨l,h1,h2⟩:=Qs hI.ok hv h
   exact h2 D' hD (hO rfl id l (by simp[BV.ids]) h1)
 ·exact(mI hv h).mono hD (λ_ _=>rfl)
theorem IX(hI:Inv c θ D st a w){D':Nat->Prop}(hD:∀b,D b->D' b){bor:Bool}{v:Value}{x:AV}{p:PV}(hO:bor=true->∀id l,id∈x.ids->θ[id]? =some l->∀b,l.has b->D' b)(hv:RelA θ D w v x)(h:nv st.hp bor x=some p):RelP D' w v p:=by
 cases x with
 |b x=>exact MA hI hD hO hv h
 |agg xs=>
  simp only[nv,f_]at h
  obtain⟨ps,h1,rfl⟩:=h
  obtain⟨vs,rfl,h2,h3⟩:=hv
  obtain⟨h4,h5⟩:=mapM_some h1
  refine RelP.agg _ _ (by rw[h2,h4]) λi u p hu hp=>?_
  obtain⟨x,hx⟩:=bw h4 hp
  exact MA hI hD (λhb id l hi=>hO hb id l (as_.2 ⟨x,c_ hx,hi⟩)) (h3 i u x hu hx) (h5 i x p hx hp)
 |tup xs=>exact(cF hv h).mono hD (λ_ _=>rfl)
theorem Qk(hI:Inv c θ D st a w){bor:Bool}{v:Value}{x:AV}{p:PV}(hv:RelA θ D w v x)(h:nv st.hp bor x=some p):RelP (if bor then λb=>b<w.heap.size else D) w v p:=by
 cases bor
 ·exact cF hv (La h)
 ·exact IX hI (λb hb=>hI.ok.dlt b hb) (λ_ id l _ hl b hb=>(hI.ok.olt id l b hl hb).1) hv h
theorem A8{f:FuncId}(hf:eu P f=true)(args:Array Value):(callFunc f args).run P w= .ok (.enter f args) w:=by
 unfold eu at hf
 cases hfn:P.funcs[f]? with
 |none=>rw[hfn]at hf;cases hf
 |some fn=>
  rw[hfn]at hf
  simp only[Bool.and_eq_true,bne_iff_ne,ne_eq]at hf
  obtain⟨h1,h2⟩:=hf
  cases hb:fn.body with
  |none=>rw[hb]at h1;cases h1
  |some b=>simp[callFunc,hfn,h2,hb]
theorem MF{f:FuncId}{cl:Call}(ho:o.op= .call cl)(hcl:cl.callee= .value (.func f))(hf:eu P f=true):(execOp a.eval o).run P w= .ok (.enter f (cl.args.toList.map a.eval).toArray) w:=by
 have hargs:(cl.args.map a.eval)=(cl.args.toList.map a.eval).toArray:=by
  apply aC_
  simp
 rw[<-hargs]
 simp[execOp,ho,resolve,hcl,Act.eval,Deferred.ofValue,invoke,A8 hf]
theorem I2{f:FuncId}{cl:Call}{t:Tmp}{cs:Array Value}(ho:o.op= .call cl)(hcl:cl.callee= .value (.tmp t))(hv:a.eval (.tmp t)= .func (.func f) #[] cs)(hf:eu P f=true):
 (execOp a.eval o).run P w= .ok (.enter f (cl.args.toList.map a.eval++cs.toList).toArray) w:=by
 have hargs:(cl.args.map a.eval)++cs=(cl.args.toList.map a.eval++cs.toList).toArray:=by
  apply aC_
  simp
 rw[<-hargs]
 simp[execOp,ho,resolve,hcl,hv,Deferred.ofValue,invoke,A8 hf]
theorem EY(hI:Inv c θ D st a w)(hd:∀k,o.dst=some k->k<c.n){K KP:St->Prop}{bor:Bool}{f:FuncId}{vs:List Value}{ps:List PV}(hrun:(execOp a.eval o).run P w= .ok (.enter f vs.toArray) w)(m1:vs.length=ps.length)
 (hrel:∀(i:Nat) (v:Value) (x:AV),vs[i]? =some v->(ps.map AV.p)[i]? =some x->RelA [] (if bor then λb=>b<w.heap.size else D) w v x)
 (hc:ACalls P f (ps.map .p) [] λo'=>∃r os',o'=some (r,os')/\r.ids=[]/\(bor=true->r.FlatA)/\K (st.putO o.dst r)):Leaves P o c K KP a w:=by
 intro next Q hn _
 unfold Oper.wp
 rw[hrun]
 simp only[Oper.upon]
 have hDlt:∀b,(if bor then λb=>b<w.heap.size else D) b->b<w.heap.size:=λb hb=>by
  cases bor
  ·exact hI.ok.dlt b hb
  ·exact hb
 have hno:∀b,¬owns [] b:=λb ⟨i,l,hi,_⟩=>by simp at hi
 refine(hc w [] (if bor then λb=>b<w.heap.size else D) vs ((c.gk w hI.keep).mono (Keep.refl (λ_=>False) w) (λ_ _ h=>h) (λb hb=>by
  cases bor
  ·exact hI.dsub b hb
  ·exact hI.ok.dlt b (hI.dsub b hb))) ⟨rfl,hDlt,λi j li lj g hi=>by simp at hi,λi l g hi=>by simp at hi,λi l o hi=>by simp at hi⟩ (by simpa using m1) hrel).mono λe w' hb=>?_
 rcases hb with⟨v,r,os',θ',D',rfl,⟨r',os'',hr,hids,hflat,hk⟩,hv,hok,hkeep,hD,hD',_,_,_⟩|⟨ch,_,rfl,⟨p,os',hr,_⟩,_⟩
 ·cases hr
  have hbel:Below w.heap.size w w':=⟨hkeep.os,hkeep.tape,hkeep.output,hkeep.size,λk hk'=>hkeep.block k hk' (hno k)⟩
  have hI':=hI.below (D':=λb=>D b\/(D' b/\w.heap.size<=b)) hbel hI.w0le (λb hb=>.inl hb) (λb hb=>hb.imp id λh=>⟨h.2,hok.dlt b h.1⟩)
  refine hn _ _ ⟨_,hk,θ,_,hI'.put hd ?_⟩
  have hv2:=hv.ren (θ2:=θ) (ρ:=id) λk l hk'=>by rw[hids]at hk';cases hk'
  have hrid:r.ren id=r:=by
   have hb:∀x:BV,x.ren id=x:=λx=>by cases x<;>simp[BV.ren]
   have hm:∀xs:List BV,xs.map (BV.ren id)=xs:=λxs=>by
    rw[List.map_congr_left (g:=λx=>x) λx _=>hb x];simp
   cases r<;>simp[AV.ren,hb,hm]
  rw[hrid]at hv2
  cases bor
  ·refine hv2.mono (λb hb=>?_) (λ_ _=>rfl)
   rcases hD' b hb with h1|h1|h1
   ·exact .inl h1
   ·exact(hno b h1).elim
   ·exact .inr ⟨hb,h1⟩
  ·exact hv2.flatA (hflat rfl)
 ·cases hr
theorem OH(hI:Inv c θ D st a w)(hd:∀k,o.dst=some k->k<c.n){K KP:St->Prop}{bor:Bool}{f:FuncId}{cl:Call}(ho:o.op= .call cl)(hcl:cl.callee= .value (.func f))(hf:eu P f=true)
 (h:jp P st (.call bor f (cl.args.toList.map SX.of)) λx=>K (st.putO o.dst x)):Leaves P o c K KP a w:=by
 obtain⟨ps,hps,hc⟩:=h
 obtain⟨m1,m2⟩:=mapM_some hps
 refine EY (bor:=bor) hI hd (MF ho hcl hf) (by simpa using m1) (λi v x hv hp=>?_) hc
 rw[e_]at hp hv
 cases hpi:ps[i]? with
 |none=>rw[hpi]at hp;cases hp
 |some p=>
  rw[hpi]at hp;cases hp
  cases hx:cl.args.toList[i]? with
  |none=>rw[hx]at hv;cases hv
  |some x=>
   rw[hx]at hv;cases hv
   have:=m2 i (SX.of x) p (by rw[e_,hx];rfl) hpi
   simp only[o_]at this
   obtain⟨av,h1,h2⟩:=this
   exact Qk hI (hI.get h1) h2
theorem MO(hI:Inv c θ D st a w)(hd:∀k,o.dst=some k->k<c.n){K KP:St->Prop}{bor:Bool}{t:Tmp}{cl:Call}(ho:o.op= .call cl)(hcl:cl.callee= .value (.tmp t))
 (h:jp P st (.callp bor (.tm t) (cl.args.toList.map SX.of)) λx=>K (st.putO o.dst x)):Leaves P o c K KP a w:=by
 obtain⟨ax,hx,f,cs,rfl,hf,ps,hps,hc⟩:=h
 obtain⟨m1,m2⟩:=mapM_some hps
 have hX:RelP D w (a.eval (.tmp t)) (.fn (.func f) cs):=hI.get (x:=.tmp t) hx
 have key:∃us:Array Value,a.eval (.tmp t)= .func (.func f) #[] us/\us.toList.length=cs.length/\∀(i:Nat) (v:Value) (x:PV),us.toList[i]? =some v->cs[i]? =some x->RelP D w v x:=by
  generalize a.eval (.tmp t)=v at hX
  cases hX with
  |fn _ us _ hs hh=>exact⟨us,rfl,by simpa using hs,λi v x hv hx=>hh i v x (by simpa using hv) hx⟩
 obtain⟨us,hv,hl,hr⟩:=key
 have hD:∀b,D b->(if bor then λb=>b<w.heap.size else D) b:=λb hb=>by
  cases bor
  ·exact hb
  ·exact hI.ok.dlt b hb
 have hm:(cl.args.toList.map a.eval).length=ps.length:=by simpa using m1
 refine EY (bor:=bor) hI hd (I2 ho hcl hv hf) (by simp only[ab_,hm,hl]) (λi v x hv' hp=>?_) hc
 rw[e_]at hp
 obtain⟨p,hp',rfl⟩:=f_.1 hp
 clear hp
 have hp:=hp'
 clear hp'
 rcases G_ i ps.length with hi|hi
 ·rw[h_ (by rw[hm];exact hi)]at hv'
  rw[h_ hi]at hp
  rw[e_]at hv'
  obtain⟨y,hy,rfl⟩:=f_.1 hv'
  have:=m2 i (SX.of y) p (by rw[e_,hy];rfl) hp
  simp only[o_]at this
  obtain⟨av,h1,h2⟩:=this
  exact Qk hI (hI.get h1) h2
 ·rw[i_ (by rw[hm];exact hi)]at hv'
  rw[i_ hi]at hp
  rw[hm]at hv'
  exact(hr _ v p hv' hp).mono hD (λ_ _=>rfl)
theorem CM:∀{L:List PV} {l:List Int},bytesOf L=some l->L.length=l.length/\∀(i:Nat) (n:Int),l[i]? =some n->L[i]? =some (.sc (.int .u8 n))
 |[],l,h=>by simp[bytesOf]at h;subst h;exact⟨rfl,λi b hb=>by simp at hb⟩
 |p::L,l,h=>by
  unfold bytesOf at h
  split at h
  ·rename_i h0;cases h0
  ·rename_i n L' h0
   cases h0
   simp only[f_]at h
   obtain⟨l',h1,rfl⟩:=h
   obtain⟨h2,h3⟩:=CM h1
   refine⟨by simp[h2],λi b hb=>?_⟩
   cases i with
   |zero=>simp at hb;subst hb;rfl
   |succ i=>exact h3 i b (by simpa using hb)
  ·cases h
theorem RL(hI:Inv c θ D st a w){K:AV->Prop}{s d e:TypeId}{x:Operand}(ho:o.op= .convert s d x)(hs:P.underlying s=some (.slice e))(hd:P.underlying d=some .string)(he:P.underlying e=some (.int .u8))(h:jp P st (.b2s (.of x)) K):Yields P o a w (Res c θ st a K):=by
 obtain⟨ax,hx,hl⟩:=h
 obtain⟨L,ad,cap,⟨l,hb,hk⟩,hv,hcap,hnil,hcells⟩:=mH hI.ok (hI.get hx) hl
 obtain⟨hlen,hget⟩:=CM hb
 refine aF hI (v:=.string (strOfNums l)) ?_ hk (RelP.sc _)
 have hrun:(convert s d (a.eval x)).run P w= .ok (.string (strOfNums l)) w:=by
  rw[hv]
  by_cases hpos:0<L.length
  ·obtain⟨g,og,rfl,hg,hsz,hc⟩:=hcells hpos
   refine run_convert_bytes_arg w s e hs he g og L.length cap l hlen.symm (λi hi=>?_) d hd
   have hil:i<l.length:=by omega
   have h1:=hget i _ (b_ hil)
   obtain⟨u,e1,e2⟩:=hc i 0 _ _ h1 rfl
   cases e2
   rw[Nat.mul_one,S_]at e1
   rw[e1]
   simp[B_,b_ hil]
  ·have h0:L=[]:=n_ (by omega)
   subst h0
   simp[bytesOf]at hb
   subst hb
   cases ad with
   |none=>exact run_convert_bytes_nil w s e hs he 0 cap d hd
   |some ad=>
    rw[run_convert_bytes_string w s d e _ _ cap hs he hd]
    exact run_bytesToString w ad 0 cap [] rfl
 simp[execOp,ho,hrun]
theorem Mb(hI:Inv c θ D st a w)(hd:∀k,o.dst=some k->k<c.n){K KP:St->Prop}{pl:Option Nat}{t:TypeId}{z:Value}(ho:o.op= .alloc t)(hz:dI P t=some z)
 (h:Hy st (.alloc t z.cells.toList) λob mk=>AU st pl/\K ((st.new pl ob).putO o.dst (.b (mk (st.nid pl))))):Leaves P o c K KP a w:=by
 intro next Q hn _
 obtain⟨hpl,h⟩:=h
 obtain⟨θ',hI',hid⟩:=hI.allocAt hpl (l:=.blk w.heap.size) (o:=.box t (z.cells.toList.map λv=>bI v)) (ob:=.cells z.cells t) (λ_ h=>h) λθ' hθ=>
  ⟨z.cells,eV w _,by simp,IW z.cells⟩
 simp only[dI,o_]at hz
 obtain⟨it,hit,hz1⟩:=hz
 have hrun:(execOp a.eval o).run P w= .ok (.value (.pointer (some ⟨w.heap.size,0,none⟩))) (w.alloc (.cells z.cells t)):=by
  simp[execOp,ho,Instr.alloc,zeroValue,typeInfo,hit,hz1,newVar,newRow]
 unfold Oper.wp
 rw[hrun]
 exact hn _ _ ⟨_,h,_,_,hI'.put hd ⟨w.heap.size,hid,rfl⟩⟩
theorem ML(hI:Inv c θ D st a w)(hd:∀k,o.dst=some k->k<c.n){K KP:St->Prop}{t:TypeId}{z:Value}(ho:o.op= .alloc t)(hz:dI P t=some z)(h:sexec P o.dst (.alloc t z.cells.toList) st K KP):Leaves P o c K KP a w:=
 Mb hI hd (pl:=none) ho hz ⟨trivial,h⟩
theorem Tz(hI:Inv c θ D st a w)(hd:∀k,o.dst=some k->k<c.n){K KP:St->Prop}{pl:Option Nat}{t:TypeId}{x:Operand}(ho:o.op= .box t x)
 (h:Hy st (.box t (.of x)) λob mk=>AU st pl/\K ((st.new pl ob).putO o.dst (.b (mk (st.nid pl))))):Leaves P o c K KP a w:=by
 intro next Q hn _
 obtain⟨ax,hx,hok,hpl,hk⟩:=h
 have hX:=hI.get hx
 obtain⟨h1,h2⟩:=qI hX hok
 obtain⟨θ',hI',hid⟩:=hI.allocAt hpl (l:=.blk w.heap.size) (o:=.box t ax.cells) (ob:=.cells (a.eval x).cells t) (λ_ h=>h) λθ' hθ=>
  ⟨(a.eval x).cells,eV w _,h1,λi u y hu hy=>((h2 i u y hu hy).1.mono (λ_ h=>h) (λb hb=>ez w _ b (hI.ok.dlt b hb))).extN hθ⟩
 have hrun:(execOp a.eval o).run P w= .ok (.value (.pointer (some ⟨w.heap.size,0,none⟩))) (w.alloc (.cells (a.eval x).cells t)):=by
  simp[execOp,ho,Instr.box,newVar,newRow]
 unfold Oper.wp
 rw[hrun]
 exact hn _ _ ⟨_,hk,_,_,hI'.put hd ⟨w.heap.size,hid,rfl⟩⟩
theorem RN(hI:Inv c θ D st a w)(hd:∀k,o.dst=some k->k<c.n){K KP:St->Prop}{t:TypeId}{x:Operand}(ho:o.op= .box t x)(h:sexec P o.dst (.box t (.of x)) st K KP):Leaves P o c K KP a w:=by
 obtain⟨ax,hx,hok,hk⟩:=h
 exact Tz hI hd (pl:=none) ho ⟨ax,hx,hok,trivial,hk⟩
theorem LN{sz:Nat}:∀(parts:List (Nat×Value)) (ps:List PV) (s:Nat) (cells:Array Value),parts.length=ps.length->
 (∀(i:Nat) (x:Nat×Value) (p:PV),parts[i]? =some x->ps[i]? =some p->x.1=s+i/\RelP D w x.2 p/\p.ok=true/\p.cells.length=sz)->(s+parts.length)*sz<=cells.size->
 ∃out,Instr.fill (λi=>some (i*sz,sz)) cells parts=some out/\out.size=cells.size/\(∀k,k<s*sz->out[k]? =cells[k]?)/\
  ∀(i j:Nat) (p y:PV),ps[i]? =some p->p.cells[j]? =some y->∃u,out[(s+i)*sz+j]? =some u/\RelP D w u y
 |[],[],s,cells,_,_,_=>⟨cells,rfl,rfl,λ_ _=>rfl,λi j p y hp=>by simp at hp⟩
 |(k,v)::parts,p::ps,s,cells,hl,hp,hs=>by
  obtain⟨h1,h2,h3,h4⟩:=hp 0 _ _ rfl rfl
  obtain rfl:k=s:=h1
  obtain⟨h6,h7⟩:=qJ h2 h3
  have hvs:v.cells.size=sz:=by rw[<-h4];exact h6
  have hs':(k+1+parts.length)*sz<=cells.size:=by simp only[U_]at hs;rw[show k+1+parts.length=k+(parts.length+1) by omega];exact hs
  have hks:k*sz+sz<=cells.size:=by
   have:(k+1)*sz<=(k+1+parts.length)*sz:=g_ _ (by omega)
   rw[k_,r_]at this
   omega
  obtain⟨s1,s2⟩:=I5 (k*sz) v.cells cells (by omega)
  obtain⟨out,e1,e2,e3,e4⟩:=LN parts ps (k+1) (v.cells.zipIdx.foldl (λcs (c,j)=>cs.setIfInBounds (k*sz+j) c) cells) (by simpa using hl)
   (λi x q hx hq=>by have:=hp (i+1) x q (by simpa using hx) (by simpa using hq);exact⟨by omega,this.2⟩) (by rw[s1];exact hs')
  refine⟨out,?_,by rw[e2,s1],λj hj=>?_,λi j q y hq hy=>?_⟩
  ·simp only[Instr.fill]
   rw[if_neg (by rw[hvs];simp;exact hks)]
   exact e1
  ·rw[e3 j (by rw[k_,r_];omega),s2 j,if_neg (by omega)]
  ·cases i with
   |zero=>
    simp only[ad_,A_]at hq
    subst hq
    have hj:j<sz:=by rw[<-h4];exact(a_.1 hy).1
    have hjv:j<v.cells.size:=by omega
    refine⟨v.cells[j],?_,(h7 j _ y (d_ hjv) hy).1⟩
    rw[S_,e3 _ (by rw[k_,r_];omega),s2,if_pos ⟨by omega,by omega⟩]
    rw[show k*sz+j - k*sz=j by omega]
    exact d_ hjv
   |succ i=>
    have:=e4 i j q y (by simpa using hq) hy
    rwa [show k+1+i=k+(i+1) by omega]at this
theorem zr(hI:Inv c θ D st a w){f:AV->Option PV}(hf:∀v x p,RelA θ D w v x->f x=some p->RelP D w v p){t e:TypeId}{len sz:Nat}{parts:Array (Nat×Operand)}{z:Value}{ps:List PV}(ho:o.op= .buildSlice t len parts)(he:fA P t=some e)(hs:b9 P e=some sz)(hz:dI P e=some z)
 (hord:rN parts.toList=true) (hzs:z.cells.size=sz) (hps:(parts.toList.map λq=>SX.of q.2).mapM (λx=>(st.get x).bind f)=some ps) (hlen:ps.length=len) (h0:0<sz) (hmax:len*sz<=16777216) (hok:∀p∈ps,p.cells.length=sz/\p.ok=true):
 ∃out:Array Value,(execOp a.eval o).run P w= .ok (.value (.slice (some ⟨w.heap.size,0,none⟩) len len)) (w.alloc (.cells out e))/\out.size=len*sz/\
  ∀(i j:Nat) (p y:PV),ps[i]? =some p->p.cells[j]? =some y->∃u,out[i*sz+j]? =some u/\RelP D w u y:=by
 obtain⟨m1,m2⟩:=mapM_some hps
 have hpl:parts.size=ps.length:=by simpa using m1
 have hu:P.underlying t=some (.slice e):=by
  unfold fA at he
  split at he
  ·cases he;assumption
  ·cases he
 simp only[b9,f_]at hs
 obtain⟨it,hit,rfl⟩:=hs
 have hz1:it.zero=some z:=by simpa[dI,hit]using hz
 have hidx:∀(i:Nat) (x:Nat×Operand),parts.toList[i]? =some x->x.1=i:=by
  intro i x hx
  simp only[rN,beq_iff_eq]at hord
  have h1:(parts.toList.map (·.1))[i]? =some x.1:=by rw[e_,hx];rfl
  rw[hord]at h1
  have hlt:i<parts.toList.length:=(a_.1 hx).1
  rw[List.getElem?_range hlt]at h1
  exact(W_ h1).symm
 obtain⟨out,e1,e2,e3,e4⟩:=LN (D:=D) (w:=w) (sz:=it.size) (parts.map fun(i,x)=>(i,a.eval x)).toList ps 0 ((Array.range (len*it.size)).map (z.cells[·%z.cells.size]!)) (by simp[hpl])
  (λi x p hx hp=>by
   simp only[aq_,e_]at hx
   cases hpi:parts.toList[i]? with
   |none=>rw[hpi]at hx;cases hx
   |some pr=>
    rw[hpi]at hx;cases hx
    have:=m2 i (SX.of pr.2) p (by rw[e_,hpi];rfl) hp
    simp only[o_]at this
    obtain⟨av,h1,h2⟩:=this
    obtain⟨h3,h4⟩:=hok p (c_ hp)
    exact⟨by simp[hidx i pr hpi],hf _ _ _ (hI.get h1) h2,h4,h3⟩) (by simp[hpl,hlen])
 refine⟨out,?_,by rw[e2];simp,λi j p y hp hy=>by have:=e4 i j p y hp hy;rwa [x_]at this⟩
 have hnm:¬(16777216<len*it.size):=by omega
 by_cases hl0:len*it.size=0
 ·have:len=0:=by
   rcases Nat.mul_eq_zero.1 hl0 with h|h
   ·exact h
   ·omega
  subst this
  have hp0:parts.toList=[]:=n_ (by simp[hpl,hlen])
  have hp1:parts= #[]:=by simpa using hp0
  subst hp1
  have:out= #[]:=by
   have:=e2
   simp only[Array.size_map,Array.size_range,Nat.zero_mul]at this
   exact Array.eq_empty_of_size_eq_zero this
  subst this
  simp[execOp,ho,Instr.buildSlice,run_underlying hu,sizeOf,typeInfo,hit,Instr.fill,newRow,Array.range_zero']
 ·simp[execOp,ho,Instr.buildSlice,run_underlying hu,sizeOf,typeInfo,hit,hnm,hl0,zeroValue,hz1,newRow]
  simp at e1
  rw[e1]
  simp
theorem Kr(hI:Inv c θ D st a w)(hd:∀k,o.dst=some k->k<c.n){K KP:St->Prop}{t e:TypeId}{len sz:Nat}{parts:Array (Nat×Operand)}{z:Value}(ho:o.op= .buildSlice t len parts)(he:fA P t=some e)(hs:b9 P e=some sz)(hz:dI P e=some z)
 (hord:rN parts.toList=true) (hzs:z.cells.size=sz) (h:jp P st (.bslice false e sz len (parts.toList.map λq=>SX.of q.2)) λx=>K (st.putO o.dst x)):Leaves P o c K KP a w:=by
 intro next Q hn _
 obtain⟨ps,hps,hlen,h0,hmax,hok,hk⟩:=h
 obtain⟨out,hrun,h1,h2⟩:=zr hI (λ_ _ _=>cF) ho he hs hz hord hzs hps hlen h0 hmax hok
 have hI':=hI.below (D':=λb=>D b\/(w.heap.size<=b/\b<(w.alloc (.cells out e)).heap.size)) (kA w (.cells out e)) hI.w0le (λb hb=>.inl hb) (λb hb=>hb)
 unfold Oper.wp
 rw[hrun]
 have hrel:RelP (λb=>D b\/(w.heap.size<=b/\b<(w.alloc (.cells out e)).heap.size)) (w.alloc (.cells out e)) (.slice (some ⟨w.heap.size,0,none⟩) len len) (mF sz ps):=by
  subst hlen
  refine gy (u_ _) λhl=>⟨w.heap.size,0,rfl,.inr ⟨u_ _,by simp⟩,λp hp=>(hok p hp).1,λi j x y hx hy=>?_⟩
  obtain⟨u,e1,e2⟩:=h2 i j x y hx hy
  refine⟨u,?_,e2.mono (λb hb=>.inl hb) (λb hb=>ez w _ b (hI.ok.dlt b hb))⟩
  rw[x_,cell_of_row _ _ _ out e (0,0) (eV w _)]
  exact e1
 rcases hk with hk|hk
 ·exact hn _ _ ⟨_,hk,θ,_,hI'.put hd hrel⟩
 ·exact hn _ _ ⟨_,hk,θ,_,hI'.put hd ⟨hrel,_,_,rfl⟩⟩
theorem Hz(hI:Inv c θ D st a w)(hd:∀k,o.dst=some k->k<c.n){K KP:St->Prop}{t e:TypeId}{len sz:Nat}{parts:Array (Nat×Operand)}{z:Value}(ho:o.op= .buildSlice t len parts)(he:fA P t=some e)(hs:b9 P e=some sz)(hz:dI P e=some z)
 (hord:rN parts.toList=true) (hzs:z.cells.size=sz) (h:jp P st (.bsliceN e sz len (parts.toList.map λq=>SX.of q.2)) λx=>K (st.putO o.dst x)):Leaves P o c K KP a w:=by
 intro next Q hn _
 obtain⟨ps,hps,hlen,h0,hmax,hok,hk⟩:=h
 obtain⟨out,hrun,h1,h2⟩:=zr hI (λ_ _ _=>F8) ho he hs hz hord hzs hps hlen h0 hmax hok
 have hI':=hI.below (D':=λb=>D b\/(w.heap.size<=b/\b<(w.alloc (.cells out e)).heap.size)) (kA w (.cells out e)) hI.w0le (λb hb=>.inl hb) (λb hb=>hb)
 unfold Oper.wp
 rw[hrun]
 have hrel:RelP (λb=>D b\/(w.heap.size<=b/\b<(w.alloc (.cells out e)).heap.size)) (w.alloc (.cells out e)) (.slice (some ⟨w.heap.size,0,none⟩) len len) (mF sz ps):=by
  subst hlen
  refine gy (u_ _) λhl=>⟨w.heap.size,0,rfl,.inr ⟨u_ _,by simp⟩,λp hp=>(hok p hp).1,λi j x y hx hy=>?_⟩
  obtain⟨u,e1,e2⟩:=h2 i j x y hx hy
  refine⟨u,?_,e2.mono (λb hb=>.inl hb) (λb hb=>ez w _ b (hI.ok.dlt b hb))⟩
  rw[x_,cell_of_row _ _ _ out e (0,0) (eV w _)]
  exact e1
 exact hn _ _ ⟨_,hk,θ,_,hI'.put hd hrel⟩
theorem IK(hI:Inv c θ D st a w)(hd:∀k,o.dst=some k->k<c.n){K KP:St->Prop}{t e:TypeId}{len sz:Nat}{parts:Array (Nat×Operand)}{z:Value}(ho:o.op= .buildSlice t len parts)(he:fA P t=some e)(hs:b9 P e=some sz)(hz:dI P e=some z)
 (hord:rN parts.toList=true) (hzs:z.cells.size=sz) {pl:Option Nat} (h:Hy st (.bslice true e sz len (parts.toList.map λq=>SX.of q.2)) λob mk=>AU st pl/\K ((st.new pl ob).putO o.dst (.b (mk (st.nid pl))))):Leaves P o c K KP a w:=by
 intro next Q hn _
 obtain⟨ps,hps,hlen,h0,hmax,hok,hpl,hk⟩:=h
 obtain⟨out,hrun,h1,h2⟩:=zr hI (λ_ _ _=>cF) ho he hs hz hord hzs hps hlen h0 hmax hok
 subst hlen
 have hle:ps.length<=maxLen:=by
  have:ps.length<=ps.length*sz:=O_ _ h0
  simp only[maxLen];omega
 obtain⟨θ',hI',hid⟩:=hI.allocAt hpl (l:=.hdr w.heap.size ps.length ps.length sz none') (o:=.vec e sz ps) (ob:=.cells out e) (λ_ h=>h.elim id False.elim) λθ' hθ=>
  ⟨rfl,rfl,u_ _,hle,λp hp=>(hok p hp).1,out,eV w _,h1,λi j x y hx hy=>let⟨u,e1,e2⟩:=h2 i j x y hx hy;⟨u,e1,e2.mono (λ_ h=>h) (λb hb=>ez w _ b (hI.ok.dlt b hb))⟩⟩
 unfold Oper.wp
 rw[hrun]
 exact hn _ _ ⟨_,hk,_,_,hI'.put hd ⟨_,hid,rfl⟩⟩
theorem HA(hI:Inv c θ D st a w)(hd:∀k,o.dst=some k->k<c.n){K KP:St->Prop}{t e:TypeId}{len sz:Nat}{parts:Array (Nat×Operand)}{z:Value}(ho:o.op= .buildSlice t len parts)(he:fA P t=some e)(hs:b9 P e=some sz)(hz:dI P e=some z)
 (hord:rN parts.toList=true) (hzs:z.cells.size=sz) (h:sexec P o.dst (.bslice true e sz len (parts.toList.map λq=>SX.of q.2)) st K KP):Leaves P o c K KP a w:=by
 obtain⟨ps,hps,hlen,h0,hmax,hok,hk⟩:=h
 exact IK hI hd ho he hs hz hord hzs (pl:=none) ⟨ps,hps,hlen,h0,hmax,hok,trivial,hk⟩
end
section
variable {P:Program} {o:Oper} {c:Ctx} {θ:List Loc} {D:Nat->Prop} {st:St} {a:Act} {w:World}
def dv(θ:List Loc)(B:List Nat):List Loc:=B.map λi=>θ.getD i .no
def nM(bor:Bool)(θ:List Loc)(B:List Nat)(D:Nat->Prop)(w:World):Nat->Prop:=if bor then λb=>b<w.heap.size/\¬owns (dv θ B) b else D
def gK(θ:List Loc)(B:List Nat)(θ':List Loc):List Loc:=(θ.mapIdx λi l=>if B.contains i then θ'.getD (B.idxOf i) .no else l)++θ'.drop B.length
theorem qu{B:List Nat}(hB:∀i∈B,i<θ.length){k:Nat}{l:Loc}(h:(dv θ B)[k]? =some l):∃i,B[k]? =some i/\θ[i]? =some l:=by
 unfold dv at h
 rw[e_]at h
 cases hk:B[k]? with
 |none=>rw[hk]at h;cases h
 |some i=>
  rw[hk]at h
  simp only[C_,A_]at h
  have:=hB i (c_ hk)
  exact⟨i,rfl,by rw[<-h];simp[B_,b_ this]⟩
theorem rM{B:List Nat}{i:Nat}(h:i∈B):B[B.idxOf i]? =some i:=by
 have hlt:=F_ h
 rw[b_ hlt,List.getElem_idxOf]
theorem FJ{B:List Nat}{i:Nat}{l:Loc}(hi:i∈B)(h:θ[i]? =some l):(dv θ B)[B.idxOf i]? =some l:=by
 unfold dv
 rw[e_,rM hi]
 simp[B_,h]
theorem Ei(hI:Inv c θ D st a w){bor:Bool}{B:List Nat}{os:List AObj}(hnd:B.Nodup)(hos:B.mapM (st.hp[·]?)=some os)(hcl:∀o∈os,∀i∈o.ids,i∈B):
 Ok (dv θ B) (nM bor θ B D w) (os.map (AObj.ren (B.idxOf ·))) w/\(∀b,D b->nM bor θ B D w b)/\∀i∈B,i<θ.length:=by
 obtain⟨m1,m2⟩:=mapM_some hos
 have hB:∀i∈B,i<θ.length:=λi hi=>by
  obtain⟨k,hk⟩:=E_ hi
  obtain⟨ob,hob⟩:=bw (l:=os) (m:=B) m1.symm hk
  have:=m2 k i ob hk hob
  rw[hI.ok.len]
  exact(a_.1 this).1
 have hDsub:∀b,D b->nM bor θ B D w b:=λb hb=>by
  unfold nM
  cases bor
  ·exact hb
  ·refine⟨hI.ok.dlt b hb,fun⟨k,l,hk,hl⟩=>?_⟩
   obtain⟨i,_,hi⟩:=qu hB hk
   exact(hI.ok.olt i l b hi hl).2 hb
 refine⟨⟨by simp[dv,m1],λb hb=>?_,λi j li lj g hi hj hgi hgj=>?_,λk l g hk hg=>?_,λk l ob hk hob=>?_⟩,hDsub,hB⟩
 ·unfold nM at hb
  cases bor
  ·exact hI.ok.dlt b hb
  ·exact hb.1
 ·obtain⟨i',hi1,hi2⟩:=qu hB hi
  obtain⟨j',hj1,hj2⟩:=qu hB hj
  have:=hI.ok.inj i' j' li lj g hi2 hj2 hgi hgj
  subst this
  exact((ap_ (a_.1 hi1).1 hnd).1 (hi1.trans hj1.symm))
 ·obtain⟨i,hi1,hi2⟩:=qu hB hk
  obtain⟨h1,h2⟩:=hI.ok.olt i l g hi2 hg
  refine⟨h1,λhd=>?_⟩
  unfold nM at hd
  cases bor
  ·exact h2 hd
  ·exact hd.2 ⟨k,l,hk,hg⟩
 ·obtain⟨i,hi1,hi2⟩:=qu hB hk
  rw[e_]at hob
  cases hok:os[k]? with
  |none=>rw[hok]at hob;cases hob
  |some o0=>
   rw[hok]at hob;cases hob
   have h1:=m2 k i o0 hi1 hok
   refine((hI.ok.objs i l o0 hi2 h1).ren λk' l' hk' hl'=>FJ (hcl o0 (c_ hok) k' hk') hl').mono hDsub (λ_ _=>rfl) (λ_ _=>rfl)
theorem vN{B:List Nat}{θ':List Loc}(hB:∀i∈B,i<θ.length)(hlen:B.length<=θ'.length){i:Nat}{l:Loc}(h:(gK θ B θ')[i]? =some l):
 (i<θ.length/\i∉B/\θ[i]? =some l)\/(∃k,θ'[k]? =some l/\i=ic B θ.length k/\((k<B.length/\B[k]? =some i)\/(B.length<=k/\θ.length<=i))):=by
 unfold gK at h
 rcases G_ i θ.length with hi|hi
 ·rw[h_ (by simpa using hi),K_,b_ hi]at h
  simp only[C_,A_]at h
  by_cases hb:i∈B
  ·rw[if_pos (by simpa using hb)]at h
   have hlt:=F_ hb
   refine .inr ⟨B.idxOf i,?_,?_,.inl ⟨hlt,rM hb⟩⟩
   ·rw[<-h]
    have:B.idxOf i<θ'.length:=by omega
    simp[B_,b_ this]
   ·simp only[ic,if_pos hlt,B_,rM hb,D_]
  ·rw[if_neg (by simpa using hb)]at h
   exact .inl ⟨hi,hb,by rw[b_ hi,h]⟩
 ·rw[i_ (by simpa using hi)]at h
  simp only[M_,w_]at h
  refine .inr ⟨B.length+(i - θ.length),h,?_,.inr ⟨by omega,hi⟩⟩
  simp only[ic]
  rw[if_neg (by omega)]
  omega
theorem EQ{B:List Nat}{θ':List Loc}(hB:∀i∈B,i<θ.length)(hnd:B.Nodup){k:Nat}{l:Loc}(h:θ'[k]? =some l):(gK θ B θ')[ic B θ.length k]? =some l:=by
 unfold gK ic
 split
 ·rename_i hk
  have hm:B.getD k 0=B[k]:=by simp[B_,b_ hk]
  have hlt:B[k]<θ.length:=hB _ (List.getElem_mem hk)
  rw[hm,h_ (by simpa using hlt),K_,b_ hlt]
  simp only[C_]
  rw[if_pos (by simp),hnd.idxOf_getElem k hk]
  simp[B_,h]
 ·rename_i hk
  rw[i_ (by simp)]
  simp only[M_,w_]
  rw[<-h];congr 1;omega
theorem QH{B:List Nat}{θ':List Loc}{k:Nat}{l:Loc}(hk:k∉B)(h:θ[k]? =some l):(gK θ B θ')[k]? =some l:=by
 unfold gK
 have hlt:k<θ.length:=(a_.1 h).1
 rw[h_ (by simpa using hlt),K_,h]
 simp only[C_]
 rw[if_neg (by simpa using hk)]
theorem Nz{B:List Nat}{hp os:List AObj}(hB:∀i∈B,i<hp.length){i:Nat}{o:AObj}(h:(vM B hp os)[i]? =some o):
 (i<hp.length/\i∉B/\∃o0,hp[i]? =some o0/\o=o0.killB B)\/(∃k,o=(os.getD k .gone).ren (ic B hp.length)/\((k<B.length/\B[k]? =some i)\/(B.length<=k/\i=hp.length+(k - B.length)/\k<os.length))):=by
 unfold vM at h
 rcases G_ i hp.length with hi|hi
 ·rw[h_ (by simpa using hi),K_,b_ hi]at h
  simp only[C_,A_]at h
  by_cases hb:i∈B
  ·rw[if_pos (by simpa using hb)]at h
   exact .inr ⟨B.idxOf i,h.symm,.inl ⟨F_ hb,rM hb⟩⟩
  ·rw[if_neg (by simpa using hb)]at h
   exact .inl ⟨hi,hb,_,b_ hi,h.symm⟩
 ·rw[i_ (by simpa using hi)]at h
  simp only[M_,e_,w_]at h
  cases hk:os[B.length+(i - hp.length)]? with
  |none=>rw[hk]at h;cases h
  |some o0=>
   rw[hk]at h
   simp only[C_,A_]at h
   have hlt:=(a_.1 hk).1
   exact .inr ⟨B.length+(i - hp.length),by rw[<-h];simp[B_,hk],.inr ⟨by omega,by omega,hlt⟩⟩
theorem Lh(hI:Inv c θ D st a w){bor:Bool}{B:List Nat}{os:List AObj}(hnd:B.Nodup)(hos:B.mapM (st.hp[·]?)=some os)(hcl:∀o∈os,∀i∈o.ids,i∈B)
 {θ':List Loc} {D':Nat->Prop} {os':List AObj} {w':World} (hok:Ok θ' D' os' w') (hkeep:Keep (owns (dv θ B)) w w') (hD:∀b,nM bor θ B D w b->D' b)
 (hD':∀b,D' b->nM bor θ B D w b\/owns (dv θ B) b\/w.heap.size<=b) (hon:∀(i:Nat) (l:Loc) (g:Nat),θ'[i]? =some l->l.has g->owns (dv θ B) g\/w.heap.size<=g)
 (hfix:∀(k:Nat) (l:Loc),(dv θ B)[k]? =some l->l.fixed=true->θ'[k]? =some l) (hlen:(dv θ B).length<=θ'.length) (hflat:bor=true->∀o∈os',o.FlatO):
 Inv c (gK θ B θ') (λb=>D b\/(D' b/\(owns (dv θ B) b\/w.heap.size<=b))) (st.back B os') a w':=by
 obtain⟨hok0,hDs,hB⟩:=Ei (bor:=bor) hI hnd hos hcl
 have hl':B.length<=θ'.length:=by simpa[dv]using hlen
 have hown:∀g,owns (dv θ B) g->∃(i:Nat) (l:Loc),i∈B/\θ[i]? =some l/\l.has g:=λg ⟨k,l,hk,hg⟩=>by
  obtain⟨i,hi1,hi2⟩:=qu hB hk
  exact⟨i,l,c_ hi1,hi2,hg⟩
 have hnown:∀(i:Nat) (l:Loc) (g:Nat),i∉B->θ[i]? =some l->l.has g->¬owns (dv θ B) g:=λi l g hi hl hg ho=>by
  obtain⟨j,lj,hj,hj2,hj3⟩:=hown g ho
  exact hi (hI.ok.inj i j l lj g hl hj2 hg hj3▸hj)
 have hDw:∀b,D b->w'.heap[b]? =w.heap[b]? :=λb hb=>hkeep.block b (hI.ok.dlt b hb) λho=>by
  obtain⟨i,l,_,h1,h2⟩:=hown b ho
  exact(hI.ok.olt i l b h1 h2).2 hb
 have k1:∀(k:Nat) (l:Loc),k∉B->θ[k]? =some l->(gK θ B θ')[k]? =some l:=λk l hk h=>QH hk h
 have k2:∀(k:Nat) (l:Loc),l.fixed=true->θ[k]? =some l->(gK θ B θ')[k]? =some l:=λk l hf h=>by
  by_cases hk:k∈B
  ·have h3:=hfix _ l (FJ hk h) hf
   have h4:=EQ (θ:=θ) hB hnd h3
   have:ic B θ.length (B.idxOf k)=k:=by
    simp only[ic,if_pos (F_ hk),B_,rM hk,D_]
   rw[this]at h4
   exact h4
  ·exact k1 k l hk h
 have newD:∀{v:Value} {x:AObj} {l:Loc},True->True:=λ_=>trivial
 have hmono:bor=false->∀b,D' b->D b\/(D' b/\(owns (dv θ B) b\/w.heap.size<=b)):=λhb b h=>by
  rcases hD' b h with h1|h1|h1
  ·subst hb;exact .inl h1
  ·exact .inr ⟨h,.inl h1⟩
  ·exact .inr ⟨h,.inr h1⟩
 have hlenθ:θ.length=st.hp.length:=hI.ok.len
 refine⟨hI.size,hI.defers,⟨?_,λb hb=>?_,λi j li lj g hi hj hgi hgj=>?_,λi l g hi hg=>?_,λi l ob hi hob=>?_⟩,?_,λb hb=>.inl (hI.dsub b hb),λb hb=>?_,λi l g hi hg=>?_,λk x hk=>?_,λk l hk hf=>k2 k l hf (hI.fix k l hk hf)⟩
 ·have:=hok.len
  simp only[gK,St.back,vM,ab_,M_,ae_,av_]
  omega
 ·rcases hb with hb|⟨hb,_⟩
  ·exact q_ (hI.ok.dlt b hb) hkeep.size
  ·exact hok.dlt b hb
 ·rcases vN hB hl' hi with⟨a1,a2,a3⟩|⟨k,a1,a2,_⟩<;>rcases vN hB hl' hj with⟨b1,b2,b3⟩|⟨m,b1,b2,_⟩
  ·exact hI.ok.inj i j li lj g a3 b3 hgi hgj
  ·rcases hon m lj g b1 hgj with h1|h1
   ·exact(hnown i li g a2 a3 hgi h1).elim
   ·have:=(hI.ok.olt i li g a3 hgi).1;omega
  ·rcases hon k li g a1 hgi with h1|h1
   ·exact(hnown j lj g b2 b3 hgj h1).elim
   ·have:=(hI.ok.olt j lj g b3 hgj).1;omega
  ·rw[a2,b2,hok.inj k m li lj g a1 b1 hgi hgj]
 ·rcases vN hB hl' hi with⟨a1,a2,a3⟩|⟨k,a1,_,_⟩
  ·obtain⟨h1,h2⟩:=hI.ok.olt i l g a3 hg
   refine⟨q_ h1 hkeep.size,λhd=>?_⟩
   rcases hd with hd|⟨_,hd|hd⟩
   ·exact h2 hd
   ·exact hnown i l g a2 a3 hg hd
   ·omega
  ·obtain⟨h1,h2⟩:=hok.olt k l g a1 hg
   refine⟨h1,λhd=>?_⟩
   rcases hd with hd|⟨hd,_⟩
   ·exact h2 (hD g (hDs g hd))
   ·exact h2 hd
 ·have hB':∀i∈B,i<st.hp.length:=λi hi=>by rw[<-hlenθ];exact hB i hi
  rcases vN hB hl' hi with⟨a1,a2,a3⟩|⟨k,a1,a2,a4⟩<;>rcases Nz hB' hob with⟨b1,b2,o0,b3,rfl⟩|⟨m,rfl,b4⟩
  ·exact((hI.ok.objs i l o0 a3 b3).killB k1 k2).mono (λb hb=>.inl hb) hDw λg hg=>hkeep.block g (hI.ok.olt i l g a3 hg).1 (hnown i l g a2 a3 hg)
  ·rcases b4 with⟨_,h⟩|⟨_,h,_⟩
   ·exact(a2 (c_ h)).elim
   ·omega
  ·rcases a4 with⟨_,h⟩|⟨_,h⟩
   ·exact(b2 (c_ h)).elim
   ·omega
  ·have hkm:k=m:=by
    rcases a4 with⟨c1,c2⟩|⟨c1,c2⟩<;>rcases b4 with⟨d1,d2⟩|⟨d1,d2,d3⟩
    ·exact(ap_ c1 hnd).1 (c2.trans d2.symm)
    ·have:=hB' i (c_ c2);omega
    ·have:=hB' i (c_ d2);omega
    ·rw[a2]at d2
     simp only[ic]at d2
     rw[if_neg (by omega)]at d2
     omega
   subst hkm
   have hlt:k<os'.length:=by rw[<-hok.len];exact(a_.1 a1).1
   have ho':os'[k]? =some (os'.getD k .gone):=by simp[B_,b_ hlt]
   rw[<-hlenθ]
   have hr:=(hok.objs k l _ a1 ho').ren (θ2:=gK θ B θ') (ρ:=ic B θ.length) λk' l' _ h=>EQ hB hnd h
   cases bor
   ·exact hr.mono (hmono rfl) (λ_ _=>rfl) (λ_ _=>rfl)
   ·have hf:=hflat rfl _ (c_ ho')
    refine RelO.flatO ?_ hr
    cases ho'':os'.getD k .gone with
    |box t cs=>
     rw[ho'']at hf
     intro x hx
     simp only[Y_]at hx
     obtain⟨y,hy,rfl⟩:=hx
     have:=hf y hy
     cases y<;>exact this
    |gone=>trivial
    |free=>trivial
    |vec e sz xs=>rw[ho'']at hf;exact hf
    |tree e sz k xs hole=>
     rw[ho'']at hf
     refine⟨λi j b hb=>?_,hf.2⟩
     cases hole with
     |none=>cases hb
     |some q=>
      obtain⟨i',j',b'⟩:=q
      cases hb
      have:=hf.1 _ _ _ rfl
      cases b'<;>exact this
    |map k e kvs=>rw[ho'']at hf;exact hf
 ·refine⟨hkeep.os.trans hI.keep.os,hkeep.tape.trans hI.keep.tape,hkeep.output.trans hI.keep.output,L_ hI.keep.size hkeep.size,λk hk hn=>(hkeep.block k (q_ hk hI.keep.size) λho=>?_).trans (hI.keep.block k hk hn)⟩
  obtain⟨i,l,_,h1,h2⟩:=hown k ho
  rcases hI.onew i l k h1 h2 with h3|h3
  ·exact hn h3
  ·omega
 ·have h0:=hI.w0le
  rcases hb with hb|⟨_,hb|hb⟩
  ·exact hI.dnew b hb
  ·obtain⟨i,l,_,h1,h2⟩:=hown b hb
   exact .inr (hI.onew i l b h1 h2)
  ·exact .inr (.inr (by omega))
 ·have h0:=hI.w0le
  rcases vN hB hl' hi with⟨a1,a2,a3⟩|⟨k,a1,_,_⟩
  ·exact hI.onew i l g a3 hg
  ·rcases hon k l g a1 hg with h1|h1
   ·obtain⟨j,lj,_,h2,h3⟩:=hown g h1
    exact hI.onew j lj g h2 h3
   ·exact .inr (by omega)
 ·simp only[St.back,nO]at hk
  cases hlk:look st.fr k with
  |none=>rw[hlk]at hk;cases hk
  |some y=>
   rw[hlk]at hk;cases hk
   exact((hI.fr k y hlk).killB k1 k2).mono (λb hb=>.inl hb) hDw
theorem On(hI:Inv c θ D st a w){bor:Bool}{B:List Nat}{v:Value}{x y:AV}(hv:RelA θ D w v x)(h:uL st.hp bor B x=some y)(hno:∀b,b<w.heap.size->bor=true->(∃(id:Nat) (l:Loc),id∉B/\θ[id]? =some l/\l.has b)->nM bor θ B D w b)(hDs:∀b,D b->nM bor θ B D w b):
 RelA θ (nM bor θ B D w) w v y:=by
 have hmono:RelA θ (nM bor θ B D w) w v x:=hv.mono hDs (λ_ _=>rfl)
 unfold uL at h
 split at h
 ·rename_i id
  split at h
  ·cases h;exact hmono
  ·rename_i hnb
   simp only[f_]at h
   obtain⟨p,hp,rfl⟩:=h
   exact IX hI hDs (λhb id' l hi hl b hg=>hno b (hI.ok.olt id' l b hl hg).1 hb ⟨id',l,by
    have:id'=id:=by simpa[AV.ids,BV.ids]using hi
    rw[this];simpa using hnb,hl,hg⟩) hv hp
 ·rename_i xs
  split at h
  ·simp only[f_]at h
   obtain⟨p,hp,rfl⟩:=h
   exact cF hmono hp
  ·cases h;exact hmono
 ·cases h;exact hmono.1
 ·cases h;cases hmono;exact RelP.nil none 0
 ·cases h;exact hmono
theorem CN(hI:Inv c θ D st a w)(hd:∀k,o.dst=some k->k<c.n){K KP:St->Prop}{bor:Bool}{B:List Nat}{f:FuncId}{ars:List AV}{os:List AObj}{vs:List Value}
 (hrun:(execOp a.eval o).run P w= .ok (.enter f vs.toArray) w) (hvl:vs.length=ars.length) (hvs:∀(i:Nat) (v:Value) (x:AV),vs[i]? =some v->ars[i]? =some x->RelA θ (nM bor θ B D w) w v x)
 (hos:B.mapM (st.hp[·]?)=some os) (h:sexec.callK P st o.dst bor B f ars os K KP):Leaves P o c K KP a w:=by
 intro next Q hn hp
 obtain⟨hnd,hca,hco,hcall⟩:=h
 obtain⟨hok0,hDs,hB⟩:=Ei (bor:=bor) hI hnd hos hco
 unfold Oper.wp
 rw[hrun]
 simp only[Oper.upon]
 have hlenθ:=hI.ok.len
 refine(hcall w (dv θ B) (nM bor θ B D w) vs ((c.gk w hI.keep).mono (Keep.refl (λ_=>False) w) (λ_ _ h=>h) (λb hb=>hDs b (hI.dsub b hb))) hok0 (by simpa using hvl) λi v x hv hx=>?_).mono λe w' hb=>?_
 ·rw[e_]at hx
  cases hxi:ars[i]? with
  |none=>rw[hxi]at hx;cases hx
  |some y=>
   rw[hxi]at hx;cases hx
   exact(hvs i v y hv hxi).ren λk l hk hl=>FJ (hca y (c_ hxi) k hk) hl
 ·rcases hb with⟨v,r,os',θ',D',rfl,⟨hflat,hk⟩,hv,hok,hkeep,hD,hD',hon,hfix,hlen⟩|⟨ch,hch,rfl,hk,hkeep⟩
  ·have hI':=Lh (bor:=bor) hI hnd hos hco hok hkeep hD hD' hon hfix hlen (λhb=>(hflat hb).2)
   refine hn _ _ ⟨_,hk,_,_,hI'.put hd ?_⟩
   have hr:=hv.ren (θ2:=gK θ B θ') (ρ:=ic B θ.length) λk' l' _ h=>EQ hB hnd h
   rw[<-hlenθ]
   cases bor
   ·refine hr.mono (λb h=>?_) (λ_ _=>rfl)
    rcases hD' b h with h1|h1|h1
    ·exact .inl h1
    ·exact .inr ⟨h,.inl h1⟩
    ·exact .inr ⟨h,.inr h1⟩
   ·have hf:=(hflat rfl).1
    refine RelA.flatA ?_ hr
    have hfr:∀(ρ:Nat->Nat) (x:BV),x.FlatB->(x.ren ρ).FlatB:=λρ x hx=>by cases x<;>exact hx
    cases r with
    |b x=>exact hfr _ x hf
    |agg xs=>intro x hx;simp only[Y_]at hx;obtain⟨y,hy,rfl⟩:=hx;exact hfr _ y (hf y hy)
    |tup xs=>intro x hx;simp only[Y_]at hx;obtain⟨y,hy,rfl⟩:=hx;exact hfr _ y (hf y hy)
  ·have hokg:Ok (dv θ B) (nM bor θ B D w) (os.map λ_=>AObj.gone) w':=by
    refine⟨by have:=hok0.len;simpa using this,λb hb=>q_ (hok0.dlt b hb) hkeep.size,hok0.inj,λi l g hi hg=>⟨q_ (hok0.olt i l g hi hg).1 hkeep.size,(hok0.olt i l g hi hg).2⟩,λi l ob hi hob=>?_⟩
    rw[e_]at hob
    cases hoi:os[i]? with
    |none=>rw[hoi]at hob;cases hob
    |some o0=>rw[hoi]at hob;cases hob;cases l<;>trivial
   have hI':=Lh (bor:=bor) hI hnd hos hco hokg hkeep (λb h=>h) (λb h=>.inl h) (λi l g hi hg=>.inl ⟨i,l,hi,hg⟩) (λk l h _=>h) (u_ _) (λ_ o ho=>by
    simp only[Y_]at ho
    obtain⟨_,_,rfl⟩:=ho
    trivial)
   exact hp ch w' ⟨hch,_,hk,_,_,hI'⟩
theorem Ld(hI:Inv c θ D st a w){bor:Bool}{B:List Nat}{os:List AObj}(hnd:B.Nodup)(hos:B.mapM (st.hp[·]?)=some os)(hco:∀o∈os,∀i∈o.ids,i∈B){xs:List Operand}{ars:List AV}
 (has:(xs.map SX.of).mapM (λx=>(st.get x).bind (uL st.hp bor B))=some ars):(xs.map a.eval).length=ars.length/\∀(i:Nat) (v:Value) (x:AV),(xs.map a.eval)[i]? =some v->ars[i]? =some x->RelA θ (nM bor θ B D w) w v x:=by
 obtain⟨hok0,hDs,hB⟩:=Ei (bor:=bor) hI hnd hos hco
 obtain⟨m1,m2⟩:=mapM_some has
 refine⟨by simpa using m1,λi v x hv hx=>?_⟩
 rw[e_]at hv
 cases hxi:xs[i]? with
 |none=>rw[hxi]at hv;cases hv
 |some y=>
  rw[hxi]at hv;cases hv
  have:=m2 i (SX.of y) x (by rw[e_,hxi];rfl) hx
  simp only[o_]at this
  obtain⟨av,h1,h2⟩:=this
  refine On hI (hI.get h1) h2 (λb hb hbor ⟨id,l,h3,h4,h5⟩=>?_) hDs
  subst hbor
  refine⟨hb,fun⟨k,lk,hk,hl⟩=>?_⟩
  obtain⟨j,hj1,hj2⟩:=qu hB hk
  exact h3 (hI.ok.inj id j l lk b h4 hj2 h5 hl▸c_ hj1)
theorem MN(hI:Inv c θ D st a w)(hd:∀k,o.dst=some k->k<c.n){K KP:St->Prop}{bor:Bool}{B:List Nat}{f:FuncId}{cl:Call}(ho:o.op= .call cl)(hcl:cl.callee= .value (.func f))(hf:eu P f=true)
 (h:sexec P o.dst (.callA bor B f (cl.args.toList.map SX.of)) st K KP):Leaves P o c K KP a w:=by
 obtain⟨ars,has,os,hos,hk⟩:=h
 obtain⟨h1,h2⟩:=Ld hI hk.1 hos hk.2.2.1 has
 exact CN hI hd (MF ho hcl hf) h1 h2 hos hk
theorem MP(hI:Inv c θ D st a w)(hd:∀k,o.dst=some k->k<c.n){K KP:St->Prop}{bor:Bool}{B:List Nat}{t:Tmp}{cl:Call}(ho:o.op= .call cl)(hcl:cl.callee= .value (.tmp t))
 (h:sexec P o.dst (.callv bor B (.tm t) (cl.args.toList.map SX.of)) st K KP):Leaves P o c K KP a w:=by
 obtain⟨ax,hx,f,caps,hcase,hf,ars,has,os,hos,hk⟩:=h
 obtain⟨h1,h2⟩:=Ld hI hk.1 hos hk.2.2.1 has
 obtain⟨hok0,hDs,hB⟩:=Ei (bor:=bor) hI hk.1 hos hk.2.2.1
 have hX:=hI.get (x:=.tmp t) hx
 have key:∃cs:Array Value,a.eval (.tmp t)= .func (.func f) #[] cs/\cs.toList.length=caps.length/\∀(i:Nat) (v:Value) (x:AV),cs.toList[i]? =some v->caps[i]? =some x->RelA θ (nM bor θ B D w) w v x:=by
  rcases hcase with⟨ids,rfl,rfl⟩|⟨ps,rfl,rfl⟩
  ·obtain⟨gs,e1,e2,e3⟩:=hX
   refine⟨_,e3,by simp[e1],λi v x hv hx'=>?_⟩
   simp only[e_]at hv hx'
   cases hi:ids[i]? with
   |none=>rw[hi]at hx';cases hx'
   |some id=>
    rw[hi]at hx';cases hx'
    cases hg:gs[i]? with
    |none=>rw[hg]at hv;cases hv
    |some g=>rw[hg]at hv;cases hv;exact⟨g,e2 i id g hi hg,rfl⟩
  ·have hX':RelP D w (a.eval (.tmp t)) (.fn (.func f) ps):=hX
   generalize a.eval (.tmp t)=v at hX'
   cases hX' with
   |fn _ vs _ hs hh=>
    refine⟨vs,rfl,by simpa using hs,λi v x hv hx'=>?_⟩
    rw[e_]at hx'
    cases hp:ps[i]? with
    |none=>rw[hp]at hx';cases hx'
    |some p=>
     rw[hp]at hx';cases hx'
     exact(hh i v p (by simpa using hv) hp).mono hDs (λ_ _=>rfl)
 obtain⟨cs,hv,hl,hr⟩:=key
 refine CN hI hd (I2 ho hcl hv hf) (by simp only[ab_,h1,hl]) (λi v x hv' hx'=>?_) hos hk
 rcases G_ i (cl.args.toList.map a.eval).length with hi|hi
 ·rw[h_ hi]at hv'
  rw[h_ (by rw[<-h1];exact hi)]at hx'
  exact h2 i v x hv' hx'
 ·rw[i_ hi]at hv'
  rw[i_ (by rw[<-h1];exact hi)]at hx'
  rw[h1]at hv'
  exact hr _ v x hv' hx'
end
section
variable {P:Program} {o:Oper} {c:Ctx} {θ:List Loc} {D:Nat->Prop} {st:St} {a:Act} {w:World}
theorem kd(cur:Array Value)(off:Nat)(vs:List Value)(h:off+vs.length<=cur.size):((cur.toList.take off++vs++cur.toList.drop (off+vs.length)).toArray).size=cur.size/\
 ∀k,((cur.toList.take off++vs++cur.toList.drop (off+vs.length)).toArray)[k]? =if off<=k/\k<off+vs.length then vs[k - off]? else cur[k]? :=by
 have h1:=jL cur.toList off vs (by simpa using h)
 refine⟨by have:=h1;unfold splice at this;simpa using this,λk=>?_⟩
 have:=mL cur.toList off vs (by simpa using h) k
 unfold splice at this
 rw[List.getElem?_toArray,this]
 split
 ·rfl
 ·exact j_
theorem r6{t:TypeId}{sz g off:Nat}{e:TypeId}{cur:Array Value}{v:Value}(hs:b9 P t=some sz)(hv:v.cells.size=sz)(hg:w.heap[g]? =some (.cells cur e (0,0)))(hle:off+sz<=cur.size)(h1:∀u∈v.cells.toList,u.oneCell'=true):
 (Instr.storeAt t (.pointer (some ⟨g,off,none⟩)) v).run P w= .ok () (w.setRow g (cur.toList.take off++v.cells.toList++cur.toList.drop (off+v.cells.toList.length)).toArray):=by
 have:=run_storeCells_at P g off e v.cells.toList 0 cur w hg (by simpa[hv]using hle) h1
 simp only[S_]at this
 simp[Instr.storeAt,Instr.sureAddr,storeVar,run_sizeOf hs,hv,this]
theorem Na(hI:Inv c θ D st a w){id g n cap s':Nat}{O:Nat->Prop}{e:TypeId}{s:Nat}{k:Av.K}{xs xs':List PV}{hole hole':Option (Nat×Nat×BV)}(hg:θ[id]? =some (.hdr g n cap s' O))(hob:st.hp[id]? =some (.tree e s k xs hole))
 {cur c':Array Value} (hcur:w.heap[g]? =some (.cells cur e (0,0))) (hsz:c'.size=cur.size) (hlen:xs'.length=xs.length) (hel:∀x∈xs',x.cells.length=s) (hho:∀i j b,hole'=some (i,j,b)->i<xs'.length/\(k.at j).isSome=true)
 (hnew:∀(i j:Nat) (x y:PV),xs'[i]? =some x->x.cells[j]? =some y->(∃u,c'[i*s+j]? =some u/\(match dA hole' i j with|some b=>RelB θ D w u b|none=>k.at j=none/\RelP D w u y))\/
  (c'[i*s+j]? =cur[i*s+j]?/\∃x0,xs[i]? =some x0/\x0.cells[j]? =some y/\dA hole' i j=dA hole i j)):
 Inv c θ D {st with hp:=st.hp.set id (.tree e s k xs' hole')} a (w.setRow g c'):=by
 obtain⟨rfl,rfl,h3,h4,h5,cv,Os,h6,h7,h8,h9,h11,h10⟩:=hI.ok.objs id _ _ hg hob
 rw[hcur]at h6;cases h6
 have hDw:∀b,D b->(w.setRow g c').heap[b]? =w.heap[b]? :=λb hb=>setRow_other _ _ _ _ λe=>(hI.ok.olt id _ g hg (.inl rfl)).2 (e▸hb)
 refine hI.store hg (.inl rfl) (by simp) (by simp) (by simp) (by simp) (λk hk=>setRow_other _ _ _ _ hk) ⟨rfl,hlen.symm,h3,h4,hel,c',Os,setRow_heap _ _ _ _ _ _ hcur,hsz.trans h7,h8,h9,hho,λi j x y hx hy=>?_⟩
 rcases hnew i j x y hx hy with⟨u,e1,e2⟩|⟨e1,x0,e2,e3,e4⟩
 ·refine⟨u,e1,?_⟩
  cases hq:dA hole' i j with
  |some b=>rw[hq]at e2;exact e2.mono (λ_ h=>h) hDw
  |none=>rw[hq]at e2;rw[e2.1];exact .flat _ _ _ (e2.2.mono (λ_ h=>h) hDw)
 ·obtain⟨u,e5,e6⟩:=h10 i j x0 y e2 e3
  refine⟨u,e1.trans e5,?_⟩
  rw[e4]
  cases hq:dA hole i j with
  |some b=>rw[hq]at e6;exact e6.mono (λ_ h=>h) hDw
  |none=>rw[hq]at e6;exact e6.mono (λ_ h=>h) hDw λb hb=>setRow_other _ _ _ _ (h8 i j b hb).2
theorem Ur{i i' s j off sz:Nat}(h:i'≠i)(hj:j<s)(hle:off+sz<=s):¬(i*s+off<=i'*s+j/\i'*s+j<i*s+off+sz):=by
 intro⟨h9,h10⟩
 rcases G_ i' i with h11|h11
 ·have:(i'+1)*s<=i*s:=g_ _ h11
  rw[k_,r_]at this
  omega
 ·have:(i+1)*s<=i'*s:=g_ _ (by omega)
  rw[k_,r_]at this
  omega
theorem R2(hI:Inv c θ D st a w){K:St->Prop}{t:TypeId}{y:Operand}{sz:Nat}{vx:Value}{ay:AV}(hs:b9 P t=some sz)(hY:RelA θ D w (a.eval y) ay){id i off:Nat}{e:TypeId}{s:Nat}{k:Av.K}{xs:List PV}{hole:Option (Nat×Nat×BV)}(hX:RelA θ D w vx (.b (.elt id i off)))
 (hob:st.hp[id]? =some (.tree e s k xs hole)) (hi:i<xs.length) (hle:off+sz<=s)
 (hcase:(k.flatB off sz=true/\(xs.getD i .any).isAgg=true/\aI ay.toPV λp=>p.cells.length=sz/\p.ok=true/\K {st with hp:=st.hp.set id (.tree e s k (xs.set i (.agg (splice (xs.getD i .any).cells off p.cells))) hole)})\/
  (∃bv bv',hole=some (i,off,bv)/\sz=1/\ay= .b bv'/\bv'.cellOk=true/\K {st with hp:=st.hp.set id (.tree e s k xs (some (i,off,bv')))})):
 ∃w' st',(Instr.storeAt t vx (a.eval y)).run P w= .ok () w'/\K st'/\Rel c st' a w':=by
 obtain⟨g,n,cap,s',O,hg,he⟩:=hX
 obtain⟨rfl,rfl,h3,h4,h5,cur,Os,h6,h7,h8,h9,h11,h10⟩:=hI.ok.objs id _ _ hg hob
 obtain⟨p0,hx0⟩:∃p0,xs[i]? =some p0:=⟨_,b_ hi⟩
 have hgd:xs.getD i .any=p0:=pG hx0
 have hp0:p0.cells.length=s':=h5 _ (c_ hx0)
 have hrow:i*s'+s'<=cur.size:=by
  rw[h7]
  have:i+1<=cap:=by omega
  have:=g_ s' this
  rw[k_,r_]at this
  exact this
 rcases hcase with⟨hf,hia,p,hp,hlen,hok,hk⟩|⟨bv,bv',rfl,rfl,rfl,hok,hk⟩
 ·obtain⟨q1,q2⟩:=qJ (cF hY hp) hok
  have hv:(a.eval y).cells.size=sz:=by omega
  have hr:=r6 (P:=P) (w:=w) (off:=i*s'+off) hs hv h6 (by omega) (λu hu=>by
   obtain⟨j,hj⟩:=E_ hu
   have hlt:j<p.cells.length:=by rw[<-q1];simpa using(a_.1 hj).1
   exact(q2 j u _ (by simpa using hj) (b_ hlt)).2)
  rw[<-he]at hr
  obtain⟨s1,s2⟩:=kd cur (i*s'+off) (a.eval y).cells.toList (by simp only[v_,hv];omega)
  rw[hgd]at hk hia
  refine⟨_,_,hr,hk,θ,D,Na hI hg hob h6 s1 (by simp) (λx hx=>?_) (λi' j b hb=>by rw[List.length_set];exact h11 i' j b hb) λi' j x z hx hz=>?_⟩
  ·rcases ac_ hx with h|h
   ·exact h5 x h
   ·subst h;show(splice _ _ _).length=_;rw[jL _ _ _ (by omega),hp0]
  ·by_cases hii:i'=i
   ·subst hii
    rw[t_ hi]at hx
    cases hx
    rw[show(PV.agg (splice p0.cells off p.cells)).cells=splice p0.cells off p.cells from rfl,mL _ _ _ (by omega)]at hz
    split at hz
    ·rename_i hj
     have hjv:j - off<(a.eval y).cells.size:=by omega
     have hkj:k.at j=none:=by
      have:=LO hf (j:=j - off) (by omega)
      rwa [show off+(j - off)=j by omega]at this
     refine .inl ⟨(a.eval y).cells[j - off],?_,?_⟩
     ·rw[s2,if_pos ⟨by omega,by simp;omega⟩,show i'*s'+j - (i'*s'+off)=j - off by omega]
      rw[j_]
      exact d_ hjv
     ·cases hq:dA hole i' j with
      |some b=>have:=(h11 _ _ _ (rL hq)).2;rw[hkj]at this;cases this
      |none=>exact⟨hkj,(q2 (j - off) _ z (d_ hjv) hz).1⟩
    ·rename_i hj
     refine .inr ⟨?_,p0,hx0,hz,rfl⟩
     rw[s2,if_neg (by simp only[v_];omega)]
   ·rw[m_ (Ne.symm hii)]at hx
    refine .inr ⟨?_,x,hx,hz,rfl⟩
    have hjs:j<s':=by rw[<-h5 x (c_ hx)];exact(a_.1 hz).1
    rw[s2,if_neg (by simp only[v_,hv];exact Ur hii hjs hle)]
 ·have hvo:(a.eval y).oneCell'=true:=wM hY hok
  have hvc:(a.eval y).cells= #[a.eval y]:=cells_one hvo
  have hr:=r6 (P:=P) (w:=w) (v:=a.eval y) (off:=i*s'+off) hs (by rw[hvc];rfl) h6 (by omega) (λu hu=>by
   rw[hvc]at hu;simp at hu;subst hu;exact hvo)
  rw[<-he]at hr
  obtain⟨s1,s2⟩:=kd cur (i*s'+off) (a.eval y).cells.toList (by rw[hvc];simp only[U_,y_];omega)
  refine⟨_,_,hr,hk,θ,D,Na hI hg hob h6 s1 rfl h5 (λi' j b hb=>by cases hb;exact h11 _ _ _ rfl) λi' j x z hx hz=>?_⟩
  have hjs:j<s':=by rw[<-h5 x (c_ hx)];exact(a_.1 hz).1
  by_cases hii:i'=i/\j=off
  ·obtain⟨rfl,rfl⟩:=hii
   refine .inl ⟨a.eval y,?_,?_⟩
   ·rw[s2,if_pos ⟨by omega,by rw[hvc];simp⟩,hvc];simp
   ·simp only[dA,and_self,if_true];exact hY
  ·refine .inr ⟨?_,x,hx,hz,?_⟩
   ·rw[s2,if_neg ?_]
    rw[hvc]
    simp only[U_,y_]
    by_cases h:i'=i
    ·subst h;omega
    ·exact Ur h hjs hle
   ·simp only[dA]
    rw[if_neg (by omega),if_neg (by omega)]
theorem MX(hI:Inv c θ D st a w)(hd:o.dst=none){K KP:St->Prop}{t:TypeId}{x y:Operand}{sz:Nat}(ho:o.op= .store t x y)(hs:b9 P t=some sz)(h:sexec P o.dst (.store sz (.of x) (.of y)) st K KP):Leaves P o c K KP a w:=by
 intro next Q hn _
 obtain⟨ax,hx,ay,hy,_,hst⟩:=h
 have hX:=hI.get hx
 have hY:=hI.get hy
 have fin:∀(w':World) (st':St),(Instr.storeAt t (a.eval x) (a.eval y)).run P w= .ok () w'->K st'->Rel c st' a w'->o.wp P a w next Q:=by
  intro w' st' hr hk hrel
  unfold Oper.wp
  have:(execOp a.eval o).run P w= .ok .skip w':=by simp[execOp,ho,hr]
  rw[this]
  simp only[Oper.upon,Act.put,hd]
  exact hn _ _ ⟨st',hk,hrel⟩
 unfold Cn at hst
 split at hst
 ·rename_i id off
  obtain⟨ob,hob,e,cs,rfl,hlen,hle,hok,hk⟩:=hst
  obtain⟨g,hg,he⟩:=hX
  obtain⟨cur,h1,h2,h3⟩:=hI.ok.objs id _ _ hg hob
  obtain⟨h4,h5⟩:=qI hY hok
  have hv:(a.eval y).cells.size=sz:=by omega
  have hr:=r6 (P:=P) (w:=w) (off:=off) hs hv h1 (by omega) (λu hu=>by
   obtain⟨i,hi⟩:=E_ hu
   have hlt:i<ay.cells.length:=by rw[<-h4];simpa using(a_.1 hi).1
   exact(h5 i u _ (by simpa using hi) (b_ hlt)).2)
  rw[<-he]at hr
  obtain⟨s1,s2⟩:=kd cur off (a.eval y).cells.toList (by simp only[v_,hv];omega)
  refine fin _ _ hr hk ⟨θ,D,hI.store (l:=.blk g) (g:=g) hg rfl (by simp) (by simp) (by simp) (by simp) (λk hk=>setRow_other _ _ _ _ hk) ⟨_,setRow_heap _ _ _ _ _ _ h1,?_,?_⟩⟩
  ·rw[s1,h2,jL cs off ay.cells (by omega)]
  ·intro i u z hu hz
   rw[s2 i]at hu
   rw[mL cs off ay.cells (by omega)]at hz
   simp only[v_]at hu
   have hDw:∀b,D b->(w.setRow g (cur.toList.take off++(a.eval y).cells.toList++cur.toList.drop (off+(a.eval y).cells.toList.length)).toArray).heap[b]? =w.heap[b]? :=λb hb=>setRow_other _ _ _ _ λe=>(hI.ok.olt id _ g hg (by first|exact rfl|exact .inl rfl)).2 (e▸hb)
   split at hu
   ·rw[if_pos (by omega)]at hz
    exact((h5 _ u z (by simpa using hu) hz).1).mono (λ_ h=>h) hDw
   ·rw[if_neg (by omega)]at hz
    exact(h3 i u z hu hz).mono (λ_ h=>h) hDw
 ·rename_i id i off
  obtain⟨ob,hob,⟨e,s,xs,rfl,hi,p,hp,hlen,hok,hcase⟩|⟨e,s,k,xs,hole,rfl,hi,hle,hcase⟩⟩:=hst
  rotate_left
  ·obtain⟨w',st',h1,h2,h3⟩:=R2 (K:=K) hI hs hY hX hob hi hle hcase
   exact fin w' st' h1 h2 h3
  obtain⟨g,n,cap,s',O,hg,he⟩:=hX
  obtain⟨rfl,rfl,h3,h4,h5,cur,h6,h7,h8⟩:=hI.ok.objs id _ _ hg hob
  obtain⟨q1,q2⟩:=qJ (cF hY hp) hok
  have hv:(a.eval y).cells.size=sz:=by omega
  obtain⟨p0,hx0⟩:∃p0,xs[i]? =some p0:=⟨_,b_ hi⟩
  have hgd:xs.getD i .any=p0:=pG hx0
  have hp0:p0.cells.length=s':=h5 _ (c_ hx0)
  have hoff:off+sz<=s':=by rcases hcase with⟨h,h',_⟩|⟨_,h,_⟩<;>omega
  have hrow:i*s'+s'<=cur.size:=by
   rw[h7]
   have:i+1<=cap:=by omega
   have:=g_ s' this
   rw[k_,r_]at this
   exact this
  have hr:=r6 (P:=P) (w:=w) (off:=i*s'+off) hs hv h6 (by omega) (λu hu=>by
   obtain⟨j,hj⟩:=E_ hu
   have hlt:j<p.cells.length:=by rw[<-q1];simpa using(a_.1 hj).1
   exact(q2 j u _ (by simpa using hj) (b_ hlt)).2)
  rw[<-he]at hr
  obtain⟨s1,s2⟩:=kd cur (i*s'+off) (a.eval y).cells.toList (by simp only[v_,hv];omega)
  have hDw:∀b,D b->(w.setRow g (cur.toList.take (i*s'+off)++(a.eval y).cells.toList++cur.toList.drop (i*s'+off+(a.eval y).cells.toList.length)).toArray).heap[b]? =w.heap[b]? :=λb hb=>setRow_other _ _ _ _ λe=>(hI.ok.olt id _ g hg (by first|exact rfl|exact .inl rfl)).2 (e▸hb)
  have main:∀(p':PV),p'.cells=splice p0.cells off p.cells->Inv c θ D {st with hp:=st.hp.set id (.vec e s' (xs.set i p'))} a (w.setRow g (cur.toList.take (i*s'+off)++(a.eval y).cells.toList++cur.toList.drop (i*s'+off+(a.eval y).cells.toList.length)).toArray):=by
   intro p' hp'
   refine hI.store hg (.inl rfl) (by simp) (by simp) (by simp) (by simp) (λk hk=>setRow_other _ _ _ _ hk) ⟨rfl,by simp,h3,h4,λq hq=>?_,_,setRow_heap _ _ _ _ _ _ h6,by rw[s1,h7],λk j q y' hq hy'=>?_⟩
   ·rcases ac_ hq with h|h
    ·exact h5 q h
    ·subst h;rw[hp',jL _ _ _ (by omega),hp0]
   ·by_cases hki:k=i
    ·subst hki
     rw[t_ hi]at hq
     cases hq
     rw[hp',mL _ _ _ (by omega)]at hy'
     split at hy'
     ·rename_i hj
      have hjv:j - off<(a.eval y).cells.size:=by omega
      refine⟨(a.eval y).cells[j - off],?_,((q2 (j - off) _ y' (d_ hjv) hy').1).mono (λ_ h=>h) hDw⟩
      rw[s2,if_pos ⟨by omega,by simp;omega⟩,show k*s'+j - (k*s'+off)=j - off by omega]
      rw[j_]
      exact d_ hjv
     ·rename_i hj
      obtain⟨u,e1,e2⟩:=h8 k j p0 y' hx0 hy'
      have hjs:j<s':=by rw[<-hp0];exact(a_.1 hy').1
      refine⟨u,?_,e2.mono (λ_ h=>h) hDw⟩
      rw[s2,if_neg (by simp only[v_];omega)]
      exact e1
    ·rw[m_ (Ne.symm hki)]at hq
     obtain⟨u,e1,e2⟩:=h8 k j q y' hq hy'
     have hjs:j<s':=by rw[<-h5 q (c_ hq)];exact(a_.1 hy').1
     refine⟨u,?_,e2.mono (λ_ h=>h) hDw⟩
     rw[s2,if_neg ?_]
     ·exact e1
     ·simp only[v_,hv]
      intro⟨h9,h10⟩
      rcases G_ k i with h11|h11
      ·have:(k+1)*s'<=i*s':=g_ _ h11
       rw[k_,r_]at this
       omega
      ·have:(i+1)*s'<=k*s':=g_ _ (by omega)
       rw[k_,r_]at this
       omega
  rcases hcase with⟨rfl,rfl,hk⟩|⟨hne,hle,hk⟩
  ·refine fin _ _ hr hk ⟨θ,D,main p ?_⟩
   unfold splice
   rw[List.take_zero,List.drop_eq_nil_of_le (by omega)]
   simp
  ·rw[hgd]at hk
   exact fin _ _ hr hk ⟨θ,D,main _ rfl⟩
 ·exact hst.elim
theorem R6(k:Av.K)(p:PV)(j:Nat):(k.unnil p).cells[j]? =(p.cells[j]?).map λx=>if(k.at j).isSome then PV.list 0 []else x:=by
 have one:∀p:PV,p.cells=[p]->(if(k.at 0).isSome then PV.list 0 []else p).cells[j]? =(p.cells[j]?).map λx=>if(k.at j).isSome then PV.list 0 []else x:=by
  intro p hp
  rw[hp]
  cases j with
  |zero=>
   simp only[ad_,C_]
   split
   ·rfl
   ·rw[hp];rfl
  |succ j=>
   simp only[List.getElem?_cons_succ,List.getElem?_nil,Option.map_none]
   split
   ·rfl
   ·rw[hp];rfl
 cases p with
 |agg cs=>simp[Av.K.unnil,PV.cells]
 |_=>exact one _ rfl
theorem Cq(k:Av.K)(p:PV):(k.unnil p).cells.length=p.cells.length:=by
 cases p with
 |agg cs=>simp[Av.K.unnil,PV.cells]
 |_=>simp only[Av.K.unnil];split<;>rfl
theorem Me{k:Av.K}{p:PV}(hn:k.nilsB p.cells=true){O:Nat->Prop}{j:Nat}{y':PV}(hy:(k.unnil p).cells[j]? =some y'):∃y,p.cells[j]? =some y/\∀(D:Nat->Prop) (w:World) (u:Value),RelP D w u y->RelT D w (k.at j) O u y':=by
 rw[R6]at hy
 obtain⟨y,h1,rfl⟩:=f_.1 hy
 refine⟨y,h1,λD w u hu=>?_⟩
 simp only[Av.K.nilsB,J_,az_]at hn
 have:=hn j (a_.1 h1).1
 cases hk:k.at j with
 |none=>exact .flat _ _ _ hu
 |some q=>
  rw[hk]at this
  simp only[B_,h1,D_]at this
  split at this
  ·cases hu;exact .nil _ _ _
  ·cases this
theorem IL(hI:Inv c θ D st a w)(hd:∀k,o.dst=some k->k<c.n){K KP:St->Prop}{t e:TypeId}{sz bytes:Nat}{z:Value}{l m:Operand}(ho:o.op= .makeSlice t l m)(he:fA P t=some e)(hs:b9 P e=some sz)(hb:iJ P e=some bytes)(hz:dI P e=some z)
 {pl:Option Nat} (h:Hy st (.mslice e sz bytes z (.of l) (.of m)) λob mk=>AU st pl/\K ((st.new pl ob).putO o.dst (.b (mk (st.nid pl))))):Leaves P o c K KP a w:=by
 intro next Q hn _
 obtain⟨al,hl,am,hm,hv⟩:=h
 have h1:=cN (hI.get hl) hv
 have h2:=cN (hI.get hm) h1
 obtain⟨kl,nl,hnl,kc,nc,hnc,h0,hlc,h63,hby,hzl,hsz,pz,hpz,hok,hpl0,hk⟩:=h2
 have hu:P.underlying t=some (.slice e):=by
  unfold fA at he
  split at he
  ·cases he;assumption
  ·cases he
 simp only[b9,f_]at hs
 obtain⟨it,hit,rfl⟩:=hs
 have hz1:it.zero=some z:=by simpa[dI,hit]using hz
 have hb1:it.bytes=bytes:=by simpa[iJ,hit]using hb
 have hrun:=run_make (P:=P) w t e it z hu hit hz1 kl kc nl nc h0 hlc (by rw[hb1];exact hby) h63
 have hzr:RelP D w z pz:=cF (ui (θ:=θ) z) hpz
 obtain⟨c1,c2⟩:=qJ hzr hok
 have hzc:z.cells.size=it.size:=by
  rw[c1,<-hzl]
  cases hq:fU z with
  |b x=>
   rw[hq]at hpz
   cases x<;>simp[AV.toPV,BV.toPV]at hpz
   ·subst hpz;simp[AV.cells]
   ·subst hpz;rfl
   ·exfalso
    unfold fU at hq
    split at hq
    ·cases hq
    ·unfold bI at hq
     split at hq<;>cases hq
  |tup xs=>
   exfalso
   unfold fU at hq
   split at hq<;>cases hq
  |agg xs=>
   rw[hq]at hpz
   simp only[AV.toPV,f_]at hpz
   obtain⟨ps,hps,rfl⟩:=hpz
   exact(mapM_some hps).1.symm
 have hpl:pz.cells.length=it.size:=by omega
 have hcap:nc.toNat<=maxLen:=by simp only[maxLen];omega
 obtain⟨θ',hI',hid⟩:=hI.allocAt hpl0 (l:=.hdr w.heap.size nl.toNat nc.toNat it.size none') (o:=.vec e it.size (Q_ nl.toNat pz)) (ob:=.cells (madeCells z.cells (nc.toNat*it.size)) e) (λ_ h=>h.elim id False.elim) λθ' hθ=>
  ⟨rfl,by simp,by omega,hcap,λp hp=>by rw[I_ hp];exact hpl,_,eV w _,size_madeCells _ _,λi j x y hx hy=>by
   have hxe:=I_ (c_ hx)
   have hi:i<nl.toNat:=by simpa using(a_.1 hx).1
   subst hxe
   have hj:j<it.size:=by rw[<-hpl];exact(a_.1 hy).1
   have hjz:j<z.cells.size:=by omega
   refine⟨z.cells[j],?_,((c2 j _ y (d_ hjz) hy).1).mono (λ_ h=>h) (λb hb=>ez w _ b (hI.ok.dlt b hb))⟩
   have hlt:i*it.size+j<nc.toNat*it.size:=by
    have:(i+1)*it.size<=nc.toNat*it.size:=g_ _ (by omega)
    rw[k_,r_]at this
    omega
   have hmod:(i*it.size+j)%z.cells.size=j:=by rw[hzc,Z_,ag_];exact af_ hj
   simp only[madeCells,am_,aj_,if_pos hlt,C_,hmod]
   simp[hjz]⟩
 have hrun':(execOp a.eval o).run P w= .ok (.value (.slice (some ⟨w.heap.size,0,none⟩) nl.toNat nc.toNat)) (w.alloc (.cells (madeCells z.cells (nc.toNat*it.size)) e)):=by
  simp[execOp,ho,hnl,hnc,hrun]
 unfold Oper.wp
 rw[hrun']
 exact hn _ _ ⟨_,hk,_,_,hI'.put hd ⟨_,hid,rfl⟩⟩
theorem HB(hI:Inv c θ D st a w)(hd:∀k,o.dst=some k->k<c.n){K KP:St->Prop}{t e:TypeId}{sz bytes:Nat}{z:Value}{l m:Operand}(ho:o.op= .makeSlice t l m)(he:fA P t=some e)(hs:b9 P e=some sz)(hb:iJ P e=some bytes)(hz:dI P e=some z)
 {k:Av.K} (h:sexec P o.dst (.msliceT k e sz bytes z (.of l) (.of m)) st K KP):Leaves P o c K KP a w:=by
 intro next Q hn _
 obtain⟨al,hl,am,hm,hv⟩:=h
 have h1:=cN (hI.get hl) hv
 have h2:=cN (hI.get hm) h1
 obtain⟨kl,nl,hnl,kc,nc,hnc,h0,hlc,h63,hby,hzl,hsz,pz,hpz,hok,hnl2,hk⟩:=h2
 have hu:P.underlying t=some (.slice e):=by
  unfold fA at he
  split at he
  ·cases he;assumption
  ·cases he
 simp only[b9,f_]at hs
 obtain⟨it,hit,rfl⟩:=hs
 have hz1:it.zero=some z:=by simpa[dI,hit]using hz
 have hb1:it.bytes=bytes:=by simpa[iJ,hit]using hb
 have hrun:=run_make (P:=P) w t e it z hu hit hz1 kl kc nl nc h0 hlc (by rw[hb1];exact hby) h63
 have hzr:RelP D w z pz:=F8 (ui (θ:=θ) z) hpz
 obtain⟨c1,c2⟩:=qJ hzr hok
 have hzc:z.cells.size=it.size:=by
  rw[c1,<-hzl]
  cases hq:fU z with
  |b x=>
   rw[hq]at hpz
   simp only[AV.toPVn]at hpz
   cases x<;>simp[BV.toPVn,BV.toPV]at hpz
   ·subst hpz;simp[AV.cells]
   ·subst hpz;rfl
   ·exfalso
    unfold fU at hq
    split at hq
    ·cases hq
    ·unfold bI at hq
     split at hq<;>cases hq
  |tup xs=>
   exfalso
   unfold fU at hq
   split at hq<;>cases hq
  |agg xs=>
   rw[hq]at hpz
   simp only[AV.toPVn,f_]at hpz
   obtain⟨ps,hps,rfl⟩:=hpz
   exact(mapM_some hps).1.symm
 have hpl:pz.cells.length=it.size:=by omega
 have hcap:nc.toNat<=maxLen:=by simp only[maxLen];omega
 obtain⟨θ',hI',hid⟩:=hI.allocAt (pl:=none) trivial (l:=.hdr w.heap.size nl.toNat nc.toNat it.size none') (o:=.tree e it.size k (Q_ nl.toNat (k.unnil pz)) none) (ob:=.cells (madeCells z.cells (nc.toNat*it.size)) e) (λ_ h=>h.elim id False.elim) λθ' hθ=>
  ⟨rfl,by simp,by omega,hcap,λp hp=>by rw[I_ hp,Cq];exact hpl,_,λ_ _ _=>False,eV w _,size_madeCells _ _,λ_ _ _ h=>h.elim,λ_ _ _ _ _ h _=>h.elim,λ_ _ _ h=>(nomatch h),λi j x y hx hy=>by
   have hxe:=I_ (c_ hx)
   have hi:i<nl.toNat:=by simpa using(a_.1 hx).1
   subst hxe
   have hj:j<it.size:=by rw[<-hpl,<-Cq k];exact(a_.1 hy).1
   have hjz:j<z.cells.size:=by omega
   obtain⟨y0,hy0,hyr⟩:=Me hnl2 (O:=λ_=>False) hy
   refine⟨z.cells[j],?_,hyr _ _ _ (((c2 j _ y0 (d_ hjz) hy0).1).mono (λ_ h=>h) (λb hb=>ez w _ b (hI.ok.dlt b hb)))⟩
   have hlt:i*it.size+j<nc.toNat*it.size:=by
    have:(i+1)*it.size<=nc.toNat*it.size:=g_ _ (by omega)
    rw[k_,r_]at this
    omega
   have hmod:(i*it.size+j)%z.cells.size=j:=by rw[hzc,Z_,ag_];exact af_ hj
   simp only[madeCells,am_,aj_,if_pos hlt,C_,hmod]
   simp[hjz]⟩
 have hrun':(execOp a.eval o).run P w= .ok (.value (.slice (some ⟨w.heap.size,0,none⟩) nl.toNat nc.toNat)) (w.alloc (.cells (madeCells z.cells (nc.toNat*it.size)) e)):=by
  simp[execOp,ho,hnl,hnc,hrun]
 unfold Oper.wp
 rw[hrun']
 exact hn _ _ ⟨_,hk,_,_,hI'.put hd ⟨_,hid,rfl⟩⟩
theorem Kt(hI:Inv c θ D st a w)(hd:∀k,o.dst=some k->k<c.n){K KP:St->Prop}{t e:TypeId}{sz bytes:Nat}{z:Value}{l m:Operand}(ho:o.op= .makeSlice t l m)(he:fA P t=some e)(hs:b9 P e=some sz)(hb:iJ P e=some bytes)(hz:dI P e=some z)
 (h:sexec P o.dst (.mslice e sz bytes z (.of l) (.of m)) st K KP):Leaves P o c K KP a w:=by
 obtain⟨al,hl,am,hm,l1,h1,m1,h2,k1,n1,h3,k2,n2,h4,h5,h6,h7,h8,h9,h10,pz,h11,h12,hk⟩:=h
 exact IL hI hd ho he hs hb hz (pl:=none) ⟨al,hl,am,hm,l1,h1,m1,h2,k1,n1,h3,k2,n2,h4,h5,h6,h7,h8,h9,h10,pz,h11,h12,trivial,hk⟩
end
section
variable {P:Program} {o:Oper} {c:Ctx} {θ:List Loc} {D:Nat->Prop} {st:St} {a:Act} {w:World}
theorem dz{t ty e:TypeId}{i:TypeInfo}(ht:P.underlying t=some (.slice e))(hi:P.info? e=some i)(base:Option Addr)(n cap:Nat)(hle:n<=cap)(b:Option Addr)(m:Nat):
 (Builtin.append_ #[t,t] ty #[.slice base n cap,.slice b 0 m]).run P w= .ok (.slice base n cap) w:=by
 have h1:(Builtin.firstCells i.size 0 (.slice b 0 m)).run P w= .ok #[] w:=by
  cases b<;>simp[Builtin.firstCells,loadCells,loadCellsFrom]
 cases base<;>simp[Builtin.append_,run_underlying ht,sizeOf,typeInfo,hi,Builtin.lenOf,hle,h1,storeCells]
theorem gj(z:Array Value)(n:Nat):(Builtin.zeroCells z n).size=n*z.size:=by simp[Builtin.zeroCells]
theorem flat_get{sz i j:Nat}(hj:j<sz):(i*sz+j)/sz=i/\(i*sz+j)%sz=j:=by
 have h0:0<sz:=by omega
 rw[Z_]
 refine⟨?_,?_⟩
 ·rw[Nat.mul_add_div h0,Nat.div_eq_of_lt hj,S_]
 ·rw[ag_];exact af_ hj
theorem eR{t ty e:TypeId}{i:TypeInfo}{z:Value}(ht:P.underlying t=some (.slice e))(hi:P.info? e=some i)(hz:i.zero=some z)(base:Option Addr)
 (ab:Addr) (n c:Nat) (news:List Value) (hl:news.length=n*i.size) (hnews:∀j v,news[j]? =some v->w.cell? (ab.add j)=some v)
 (h0:0<n) (h63:(n:Int)<=9223372036854775807) (h48:n*i.bytes<=140737488355328):
 (Builtin.append_ #[t,t] ty #[.slice base 0 0,.slice (some ab) n c]).run P w=
  .ok (.slice (some ⟨w.heap.size,0,none⟩) n (grownCap w n 0 e)) (w.drew.alloc (.cells (news.toArray++Builtin.zeroCells z.cells (grownCap w n 0 e - n)) e)):=by
 cases base with
 |none=>exact run_append_nil (P:=P) w t ty e i z ht hi hz ab n c news hl hnews h0 h63 (by omega)
 |some b0=>
  have hr:=run_append_grow (P:=P) w t ty e i z ht hi hz b0 0 0 [] (by simp) (λj u hj=>by simp at hj) ab n c news hl hnews (by omega) (by omega) (growslice_fits (by omega) (by rw[x_];exact h48))
  simpa using hr
theorem Kq(hI:Inv c θ D st a w)(hd:∀k,o.dst=some k->k<c.n){K KP:St->Prop}{t e:TypeId}{sz bytes:Nat}{z:Value}{x y:Operand}{cl:Call}(ho:o.op= .call cl)(hcl:cl.callee= .builtin .append)(hargs:cl.args= #[x,y])(htys:cl.argTypes= #[t,t])
 (he:fA P t=some e) (hs:b9 P e=some sz) (hb:iJ P e=some bytes) (hz:dI P e=some z) (hzs:z.cells.size=sz) (h0:0<sz) (hb0:0<bytes)
 (h:sexec P o.dst (.append e sz bytes (.of x) (.of y)) st K KP):Leaves P o c K KP a w:=by
 intro next Q hn _
 obtain⟨ax,hx,ay,hy,hL⟩:=h
 have hX:=hI.get hx
 obtain⟨L,ad,m,⟨hok,hcase⟩,hye,hlm,hnil,hcells⟩:=mH hI.ok (hI.get hy) hL
 have hu:P.underlying t=some (.slice e):=by
  unfold fA at he
  split at he
  ·cases he;assumption
  ·cases he
 simp only[b9,f_]at hs
 obtain⟨it,hit,rfl⟩:=hs
 have hz1:it.zero=some z:=by simpa[dI,hit]using hz
 have hb1:it.bytes=bytes:=by simpa[iJ,hit]using hb
 subst hb1
 have fin:∀(v:Value) (w':World) (st':St),(Builtin.append_ #[t,t] o.type #[a.eval x,a.eval y]).run P w= .ok v w'->K st'->Rel c st' (a.put o.dst v) w'->o.wp P a w next Q:=by
  intro v w' st' hr hk hrel
  unfold Oper.wp
  have:(execOp a.eval o).run P w= .ok (.value v) w':=by simp[execOp,ho,resolve,hcl,hargs,htys,invoke,builtin,hr]
  rw[this]
  exact hn _ _ ⟨st',hk,hrel⟩
 have hnews:0<L.length->∃(ab:Addr) (news:List Value),ad=some ab/\news.length=L.length*it.size/\(∀(j:Nat) (u:Value),news[j]? =some u->w.cell? (ab.add j)=some u)/\(∀u∈news,u.oneCell'=true)/\
  (∀p∈L,p.cells.length=it.size)/\∀(i j:Nat) (p q:PV),L[i]? =some p->p.cells[j]? =some q->∃u,news[i*it.size+j]? =some u/\RelP D w u q:=by
  intro hl
  obtain⟨g,og,rfl,hg,hsz,hc⟩:=hcells hl
  obtain⟨news,n1,n2⟩:=gm (n:=L.length*it.size) (p:=λk u=>w.cell? ⟨g,og+k,none⟩=some u/\u.oneCell'=true/\∀(p q:PV),L[k/it.size]? =some p->p.cells[k%it.size]? =some q->RelP D w u q) (λk hk=>by
   have hi:k/it.size<L.length:=(ai_ h0).2 hk
   have hj:k%it.size<it.size:=aE_ _ h0
   have hp:=b_ hi
   have hpl:=hsz _ (c_ hp)
   have hq:=b_ (l:=(L[k/it.size]).cells) (i:=k%it.size) (by omega)
   obtain⟨u,e1,e2⟩:=hc _ _ _ _ hp hq
   refine⟨u,?_,?_,λp q hp' hq'=>?_⟩
   ·rw[<-e1,H_,Z_,aw_]
   ·have hok1:=hok _ (c_ hp)
    simp only[PV.ok,J_]at hok1
    exact iU e2 (hok1 _ (c_ hq))
   ·rw[hp]at hp';cases hp'
    rw[hq]at hq';cases hq'
    exact e2)
  refine⟨_,news,rfl,n1,λj u hj=>by rw[addr_add];exact(n2 j u hj).1,λu hu=>?_,hsz,λi j p q hp hq=>?_⟩
  ·obtain⟨j,hj⟩:=E_ hu
   exact(n2 j u hj).2.1
  ·have hj:j<it.size:=by rw[<-hsz p (c_ hp)];exact(a_.1 hq).1
   have hi:i<L.length:=(a_.1 hp).1
   have hlt:i*it.size+j<news.length:=by
    rw[n1]
    have:(i+1)*it.size<=L.length*it.size:=g_ _ hi
    rw[k_,r_]at this
    omega
   refine⟨news[i*it.size+j],b_ hlt,?_⟩
   obtain⟨f1,f2⟩:=flat_get (i:=i) hj
   exact(n2 _ _ (b_ hlt)).2.2 p q (by rw[f1];exact hp) (by rw[f2];exact hq)
 have rowRel:∀(w':World) (olds news:List Value) (xs:List PV) (cv:Array Value) (k:Nat),(∀b,D b->w'.heap[b]? =w.heap[b]?)->olds.length=xs.length*it.size->cv.size=k*it.size->
  (∀j,j<olds.length->cv[j]? =olds[j]?)->(∀j,j<news.length->cv[olds.length+j]? =news[j]?)->(∀p∈xs,p.cells.length=it.size)->(∀p∈L,p.cells.length=it.size)->news.length=L.length*it.size->
  (∀(i j:Nat) (p q:PV),xs[i]? =some p->p.cells[j]? =some q->∃u,olds[i*it.size+j]? =some u/\RelP D w u q)->(∀(i j:Nat) (p q:PV),L[i]? =some p->p.cells[j]? =some q->∃u,news[i*it.size+j]? =some u/\RelP D w u q)->
  ∀(i j:Nat) (p q:PV),(xs++L)[i]? =some p->p.cells[j]? =some q->∃u,cv[i*it.size+j]? =some u/\RelP D w' u q:=by
  intro w' olds news xs cv k hDw hol hcv hco hcn hxs hLs hnl ro rn i j p q hp hq
  rcases G_ i xs.length with hi|hi
  ·rw[h_ hi]at hp
   obtain⟨u,e1,e2⟩:=ro i j p q hp hq
   exact⟨u,by rw[hco _ (a_.1 e1).1];exact e1,e2.mono (λ_ h=>h) hDw⟩
  ·rw[i_ hi]at hp
   obtain⟨u,e1,e2⟩:=rn _ j p q hp hq
   refine⟨u,?_,e2.mono (λ_ h=>h) hDw⟩
   have:=hcn _ (a_.1 e1).1
   rw[e1]at this
   rw[<-this,hol]
   congr 1
   have:i*it.size=xs.length*it.size+(i - xs.length)*it.size:=by rw[<-k_];congr 1;omega
   omega
 have len_of:∀(xs:List PV) (k:Nat),(xs.length+L.length)*it.bytes<=k->xs.length+L.length<=k:=λxs k h=>L_ (O_ _ hb0) h
 rcases hcase with⟨id,rfl,ob,hob,xs,rfl,hbd,hk⟩|⟨hxx,hbd,hk⟩
 ·obtain⟨l,hl,hh⟩:=hX
  have hro:=hI.ok.objs id l _ hl hob
  have h63:=len_of xs _ hbd
  have hlt:id<θ.length:=(a_.1 hl).1
  have hget:∀(l':Loc),(θ.set id l')[id]? =some l':=λl'=>t_ hlt
  by_cases hL0:L.length=0
  ·have hLe:L=[]:=n_ hL0
   subst hLe
   have hmv:Inv c (θ.set id l) D (st.moved id (.vec e it.size (xs++[]))) a w:=by
    refine hI.move hl (λg hg=>?_) (λg hg=>?_) rfl rfl rfl (u_ _) (λ_ _ _=>rfl) (λg hg=>⟨(hI.ok.olt id l g hl hg).1,.inl hg⟩) ?_
    ·subst hg;exact hro.elim
    ·subst hg;exact hro.elim
    ·rw[au_]
     have hse:θ.set id l=θ:=by
      apply ao_
      intro i
      by_cases hii:i=id
      ·subst hii;rw[hget];exact hl.symm
      ·rw[m_ (Ne.symm hii)]
     rw[hse]
     exact hro
   cases l<;>simp only[RelO,Loc.head]at hro hh
   ·rename_i ad0
    refine fin (.slice ad0 0 0) w _ ?_ hk ⟨_,D,hmv.put hd ⟨.nil ad0,hget _,rfl⟩⟩
    rw[hh,hye]
    exact dz hu hit ad0 0 0 (u_ _) ad m
   ·rename_i g n cap s O
    obtain⟨rfl,rfl,h3,_⟩:=hro
    refine fin _ w _ ?_ hk ⟨_,D,hmv.put hd ⟨_,hget _,rfl⟩⟩
    rw[hh,hye]
    exact dz hu hit _ _ cap h3 ad m
  ·obtain⟨ab,news,rfl,n1,n2,n3,n4,n5⟩:=hnews (z_ hL0)
   have grow:∀(old:Nat) (olds:List Value) (v:Value),olds.length=xs.length*it.size->(∀p∈xs,p.cells.length=it.size)->(∀(i j:Nat) (p q:PV),xs[i]? =some p->p.cells[j]? =some q->∃u,olds[i*it.size+j]? =some u/\RelP D w u q)->
    (Builtin.append_ #[t,t] o.type #[v,.slice (some ab) L.length m]).run P w= .ok (.slice (some ⟨w.heap.size,0,none⟩) (xs.length+L.length) (grownCap w (xs.length+L.length) old e)) (w.drew.alloc (.cells (olds.toArray++news.toArray++Builtin.zeroCells z.cells (grownCap w (xs.length+L.length) old e - (xs.length+L.length))) e))->
    a.eval x=v->o.wp P a w next Q:=by
    intro old olds v hol hxs ro hrun hv
    have hge:=grownCap_ge w (xs.length+L.length) old e
    have hcm:grownCap w (xs.length+L.length) old e<=maxLen:=grownCap_le_maxLen w _ old e (by simp only[maxLen];omega)
    have hcs:(olds.toArray++news.toArray++Builtin.zeroCells z.cells (grownCap w (xs.length+L.length) old e - (xs.length+L.length))).size=grownCap w (xs.length+L.length) old e*it.size:=by
     simp only[P_,R_,gj,hzs,hol,n1,<-k_]
     congr 1;omega
    have hDw:∀b,D b->(w.drew.alloc (.cells (olds.toArray++news.toArray++Builtin.zeroCells z.cells (grownCap w (xs.length+L.length) old e - (xs.length+L.length))) e)).heap[b]? =w.heap[b]? :=λb hb=>ez w.drew _ b (hI.ok.dlt b hb)
    have hmv:=hI.move (l':=.hdr w.heap.size (xs.length+L.length) (grownCap w (xs.length+L.length) old e) it.size none') (o':=.vec e it.size (xs++L)) (w':=w.drew.alloc (.cells (olds.toArray++news.toArray++Builtin.zeroCells z.cells (grownCap w (xs.length+L.length) old e - (xs.length+L.length))) e)) hl (λg hg=>by subst hg;exact hro.elim) (λg hg=>by subst hg;exact hro.elim) rfl rfl rfl (by simp) (λk hk _=>ez w.drew _ k hk)
     (λg hg=>by rcases hg with rfl|hg;exact⟨by simp,.inr (u_ _)⟩;exact hg.elim)
     ⟨rfl,by simp,hge,hcm,λp hp=>(V_.1 hp).elim (hxs p) (n4 p),_,eV w.drew _,hcs,
      rowRel _ olds news xs _ _ hDw hol hcs (λj hj=>by rw[p_ (by simp;omega),p_ (by simpa using hj)];simp) (λj hj=>by
       rw[p_ (by simp;omega),X_ (by simp)];simp) hxs n4 n1 ro n5⟩
    refine fin _ _ _ ?_ hk ⟨_,D,hmv.put hd ⟨_,hget _,rfl⟩⟩
    rw[hv,hye]
    exact hrun
   cases l<;>simp only[RelO,Loc.head]at hro hh
   ·rename_i ad0
    subst hro
    have hr:=eR (P:=P) (w:=w) (ty:=o.type) hu hit hz1 ad0 ab L.length m news n1 n2 (z_ hL0) (by simp only[y_]at h63;omega) (by simp only[y_,x_]at hbd;omega)
    refine grow 0 [] (.slice ad0 0 0) (by simp) (λp hp=>by cases hp) (λi j p q hp=>by simp at hp) ?_ hh
    simpa using hr
   ·rename_i g n cap s O
    obtain⟨rfl,rfl,h3,h4,h5,cur,h6,h7,h8⟩:=hro
    by_cases hroom:xs.length+L.length<=cap
    ·have hle:xs.length*it.size+news.length<=cur.size:=by rw[n1,h7,<-k_];exact g_ _ hroom
     have hr:=run_append_room (P:=P) w t o.type e it hu hit g xs.length cap cur h6 ab L.length m news n1 n2 n3 hroom hle
     obtain⟨s1,s2⟩:=kd cur (xs.length*it.size) news hle
     have hDw:∀b,D b->(w.setRow g (cur.toList.take (xs.length*it.size)++news++cur.toList.drop (xs.length*it.size+news.length)).toArray).heap[b]? =w.heap[b]? :=λb hb=>setRow_other _ _ _ _ λe=>(hI.ok.olt id _ g hl (.inl rfl)).2 (e▸hb)
     have hcl':(cur.toList.take (xs.length*it.size)).length=xs.length*it.size:=by simp;omega
     have hmv:=hI.move (l':=.hdr g (xs.length+L.length) cap it.size O) (o':=.vec e it.size (xs++L)) (w':=w.setRow g (cur.toList.take (xs.length*it.size)++news++cur.toList.drop (xs.length*it.size+news.length)).toArray) hl (λg hg=>by cases hg) (λg hg=>by cases hg) rfl rfl rfl (by simp) (λk _ hk=>setRow_other _ _ _ _ λe=>hk (by rw[e];exact .inl rfl))
      (λg' hg'=>⟨by simp;exact(hI.ok.olt id _ g' hl hg').1,.inl hg'⟩)
      ⟨rfl,by simp,hroom,h4,λp hp=>(V_.1 hp).elim (h5 p) (n4 p),_,setRow_heap _ _ _ _ _ _ h6,by rw[s1,h7],
       rowRel _ (cur.toList.take (xs.length*it.size)) news xs _ cap hDw hcl' (by rw[s1,h7]) (λj hj=>by
        rw[hcl']at hj
        rw[s2,if_neg (by omega),l_,if_pos hj,j_]) (λj hj=>by
        rw[s2,hcl',if_pos ⟨by omega,by omega⟩];congr 1;omega) h5 n4 n1 (λi j p q hp hq=>by
        obtain⟨u,e1,e2⟩:=h8 i j p q hp hq
        refine⟨u,?_,e2⟩
        have hj:j<it.size:=by rw[<-h5 p (c_ hp)];exact(a_.1 hq).1
        have hi:i<xs.length:=(a_.1 hp).1
        have:(i+1)*it.size<=xs.length*it.size:=g_ _ hi
        rw[k_,r_]at this
        rw[l_,if_pos (by omega),j_]
        exact e1) n5⟩
     refine fin _ _ _ ?_ hk ⟨_,D,hmv.put hd ⟨_,hget _,rfl⟩⟩
     rw[hh,hye]
     exact hr
    ·have hle0:xs.length*it.size<=cur.size:=by rw[h7];exact g_ _ h3
     have hol:(cur.toList.take (xs.length*it.size)).length=xs.length*it.size:=by simp;omega
     have hr:=run_append_grow (P:=P) w t o.type e it z hu hit hz1 ⟨g,0,none⟩ xs.length cap (cur.toList.take (xs.length*it.size)) hol (λj u hj=>by
      rw[addr_add,x_,cell_of_row w g j cur e (0,0) h6]
      rw[l_]at hj
      split at hj
      ·simpa using hj
      ·cases hj) ab L.length m news n1 n2 (by omega) (by omega) (growslice_fits (by omega) hbd)
     refine grow cap _ _ hol h5 (λi j p q hp hq=>?_) hr hh
     obtain⟨u,e1,e2⟩:=h8 i j p q hp hq
     refine⟨u,?_,e2⟩
     have hj:j<it.size:=by rw[<-h5 p (c_ hp)];exact(a_.1 hq).1
     have hi:i<xs.length:=(a_.1 hp).1
     have:(i+1)*it.size<=xs.length*it.size:=g_ _ hi
     rw[k_,r_]at this
     rw[l_,if_pos (by omega),j_]
     exact e1
 ·obtain⟨ad0,hxe⟩:∃ad0,a.eval x= .slice ad0 0 0:=by
   rcases hxx with rfl|rfl
   ·exact⟨none,hX⟩
   ·obtain⟨h1,a0,n0,h2⟩:=hX
    refine⟨a0,?_⟩
    rw[h2]at h1⊢
    cases h1
    rfl
  have h63:=len_of [] _ (by simpa using hbd)
  simp only[y_,x_]at h63
  by_cases hL0:L.length=0
  ·have hLe:L=[]:=n_ hL0
   subst hLe
   have hp:Inv c (θ++[.nil ad0]) D {st with hp:=st.hp++[.vec e it.size []]} a w:=hI.push rfl (λg hg=>by cases hg)
   refine fin (.slice ad0 0 0) w _ ?_ hk ⟨_,D,hp.put hd ⟨.nil ad0,by rw[<-hI.ok.len];simp,rfl⟩⟩
   rw[hxe,hye]
   exact dz hu hit ad0 0 0 (u_ _) ad m
  ·obtain⟨ab,news,rfl,n1,n2,n3,n4,n5⟩:=hnews (z_ hL0)
   have hr:=eR (P:=P) (w:=w) (ty:=o.type) hu hit hz1 ad0 ab L.length m news n1 n2 (z_ hL0) (by omega) (by omega)
   have hge:=grownCap_ge w L.length 0 e
   have hcm:grownCap w L.length 0 e<=maxLen:=grownCap_le_maxLen w _ 0 e (by simp only[maxLen];omega)
   have hcs:(news.toArray++Builtin.zeroCells z.cells (grownCap w L.length 0 e - L.length)).size=grownCap w L.length 0 e*it.size:=by
    simp only[P_,R_,gj,hzs,n1,<-k_]
    congr 1;omega
   have hDw:∀b,D b->(w.drew.alloc (.cells (news.toArray++Builtin.zeroCells z.cells (grownCap w L.length 0 e - L.length)) e)).heap[b]? =w.heap[b]? :=λb hb=>ez w.drew _ b (hI.ok.dlt b hb)
   have hI':=hI.drew.allocOwn (l:=.hdr w.heap.size L.length (grownCap w L.length 0 e) it.size none') (o:=.vec e it.size L) (ob:=.cells (news.toArray++Builtin.zeroCells z.cells (grownCap w L.length 0 e - L.length)) e) (λ_ h=>h.elim (λh=>h) False.elim) λθ' hθ=>
    ⟨rfl,rfl,hge,hcm,n4,_,eV w.drew _,hcs,λi j p q hp hq=>by
     have:=rowRel _ [] news [] _ _ hDw (by simp) hcs (λj hj=>by simp at hj) (λj hj=>by simp only[y_,x_];rw[p_ (by simpa using hj)];simp) (λp hp=>by cases hp) n4 n1 (λi j p q hp=>by simp at hp) n5 i j p q (by simpa using hp) hq
     exact this⟩
   refine fin _ _ _ ?_ hk ⟨_,D,hI'.put hd ⟨.hdr w.heap.size L.length (grownCap w L.length 0 e) it.size none',by rw[<-hI.ok.len];simp,rfl⟩⟩
   rw[hxe,hye]
   exact hr
theorem OF(hI:Inv c θ D st a w)(hd:∀k,o.dst=some k->k<c.n){K KP:St->Prop}{t e:TypeId}{sz bytes:Nat}{z:Value}{x y:Operand}{cl:Call}(ho:o.op= .call cl)(hcl:cl.callee= .builtin .append)(hargs:cl.args= #[x,y])(htys:cl.argTypes= #[t,t])
 (he:fA P t=some e) (hs:b9 P e=some sz) (hb:iJ P e=some bytes) (hz:dI P e=some z) (hzs:z.cells.size=sz) (h0:0<sz) (hb0:0<bytes)
 {k:Av.K} (h:sexec P o.dst (.appT k e sz bytes (.of x) (.of y)) st K KP):Leaves P o c K KP a w:=by
 intro next Q hn _
 obtain⟨ax,hx,ay,hy,hL⟩:=h
 have hX:=hI.get hx
 obtain⟨L,ad,m,⟨hok2,hcase⟩,hye,hlm,hnil,hcells⟩:=mH hI.ok (hI.get hy) hL
 have hok:∀p∈L,p.ok=true:=λp hp=>(hok2 p hp).1
 have hu:P.underlying t=some (.slice e):=by
  unfold fA at he
  split at he
  ·cases he;assumption
  ·cases he
 simp only[b9,f_]at hs
 obtain⟨it,hit,rfl⟩:=hs
 have hz1:it.zero=some z:=by simpa[dI,hit]using hz
 have hb1:it.bytes=bytes:=by simpa[iJ,hit]using hb
 subst hb1
 have fin:∀(v:Value) (w':World) (st':St),(Builtin.append_ #[t,t] o.type #[a.eval x,a.eval y]).run P w= .ok v w'->K st'->Rel c st' (a.put o.dst v) w'->o.wp P a w next Q:=by
  intro v w' st' hr hk hrel
  unfold Oper.wp
  have:(execOp a.eval o).run P w= .ok (.value v) w':=by simp[execOp,ho,resolve,hcl,hargs,htys,invoke,builtin,hr]
  rw[this]
  exact hn _ _ ⟨st',hk,hrel⟩
 have hnews:0<L.length->∃(ab:Addr) (news:List Value),ad=some ab/\news.length=L.length*it.size/\(∀(j:Nat) (u:Value),news[j]? =some u->w.cell? (ab.add j)=some u)/\(∀u∈news,u.oneCell'=true)/\
  (∀p∈L,p.cells.length=it.size)/\∀(i j:Nat) (p q:PV),L[i]? =some p->p.cells[j]? =some q->∃u,news[i*it.size+j]? =some u/\RelP D w u q:=by
  intro hl
  obtain⟨g,og,rfl,hg,hsz,hc⟩:=hcells hl
  obtain⟨news,n1,n2⟩:=gm (n:=L.length*it.size) (p:=λk u=>w.cell? ⟨g,og+k,none⟩=some u/\u.oneCell'=true/\∀(p q:PV),L[k/it.size]? =some p->p.cells[k%it.size]? =some q->RelP D w u q) (λk hk=>by
   have hi:k/it.size<L.length:=(ai_ h0).2 hk
   have hj:k%it.size<it.size:=aE_ _ h0
   have hp:=b_ hi
   have hpl:=hsz _ (c_ hp)
   have hq:=b_ (l:=(L[k/it.size]).cells) (i:=k%it.size) (by omega)
   obtain⟨u,e1,e2⟩:=hc _ _ _ _ hp hq
   refine⟨u,?_,?_,λp q hp' hq'=>?_⟩
   ·rw[<-e1,H_,Z_,aw_]
   ·have hok1:=hok _ (c_ hp)
    simp only[PV.ok,J_]at hok1
    exact iU e2 (hok1 _ (c_ hq))
   ·rw[hp]at hp';cases hp'
    rw[hq]at hq';cases hq'
    exact e2)
  refine⟨_,news,rfl,n1,λj u hj=>by rw[addr_add];exact(n2 j u hj).1,λu hu=>?_,hsz,λi j p q hp hq=>?_⟩
  ·obtain⟨j,hj⟩:=E_ hu
   exact(n2 j u hj).2.1
  ·have hj:j<it.size:=by rw[<-hsz p (c_ hp)];exact(a_.1 hq).1
   have hi:i<L.length:=(a_.1 hp).1
   have hlt:i*it.size+j<news.length:=by
    rw[n1]
    have:(i+1)*it.size<=L.length*it.size:=g_ _ hi
    rw[k_,r_]at this
    omega
   refine⟨news[i*it.size+j],b_ hlt,?_⟩
   obtain⟨f1,f2⟩:=flat_get (i:=i) hj
   exact(n2 _ _ (b_ hlt)).2.2 p q (by rw[f1];exact hp) (by rw[f2];exact hq)
 have hLl:(L.map k.unnil).length=L.length:=by simp
 have hLs:(∀p∈L,p.cells.length=it.size)->∀p∈L.map k.unnil,p.cells.length=it.size:=λh p hp=>by
  obtain⟨q,hq,rfl⟩:=Y_.1 hp
  rw[Cq];exact h q hq
 have rowRel:∀(w':World) (olds news:List Value) (xs:List PV) (cv:Array Value) (cap:Nat) (Os:Nat->Nat->Nat->Prop),(∀b,D b->w'.heap[b]? =w.heap[b]?)->(∀i j b,Os i j b->w'.heap[b]? =w.heap[b]?)->olds.length=xs.length*it.size->cv.size=cap*it.size->
  (∀j,j<olds.length->cv[j]? =olds[j]?)->(∀j,j<news.length->cv[olds.length+j]? =news[j]?)->news.length=L.length*it.size->
  (∀(i j:Nat) (p q:PV),xs[i]? =some p->p.cells[j]? =some q->∃u,olds[i*it.size+j]? =some u/\RelT D w (k.at j) (Os i j) u q)->(∀(i j:Nat) (p q:PV),L[i]? =some p->p.cells[j]? =some q->∃u,news[i*it.size+j]? =some u/\RelP D w u q)->
  ∀(i j:Nat) (p q:PV),(xs++L.map k.unnil)[i]? =some p->p.cells[j]? =some q->∃u,cv[i*it.size+j]? =some u/\RelT D w' (k.at j) (Os i j) u q:=by
  intro w' olds news xs cv cap Os hDw hOw hol hcv hco hcn hnl ro rn i j p q hp hq
  rcases G_ i xs.length with hi|hi
  ·rw[h_ hi]at hp
   obtain⟨u,e1,e2⟩:=ro i j p q hp hq
   exact⟨u,by rw[hco _ (a_.1 e1).1];exact e1,e2.mono (λ_ h=>h) hDw λb hb=>hOw i j b hb⟩
  ·rw[i_ hi,e_]at hp
   obtain⟨p0,hp0,rfl⟩:=f_.1 hp
   obtain⟨q0,hq0,hqr⟩:=Me (hok2 p0 (c_ hp0)).2 (O:=Os i j) hq
   obtain⟨u,e1,e2⟩:=rn _ j p0 q0 hp0 hq0
   refine⟨u,?_,hqr _ _ _ (e2.mono (λ_ h=>h) hDw)⟩
   have:=hcn _ (a_.1 e1).1
   rw[e1]at this
   rw[<-this,hol]
   congr 1
   have:i*it.size=xs.length*it.size+(i - xs.length)*it.size:=by rw[<-k_];congr 1;omega
   omega
 have len_of:∀(xs:List PV) (k:Nat),(xs.length+L.length)*it.bytes<=k->xs.length+L.length<=k:=λxs k h=>L_ (O_ _ hb0) h
 rcases hcase with⟨id,rfl,ob,hob,xs,rfl,hbd,hk⟩|⟨hxx,hbd,hk⟩
 ·obtain⟨l,hl,hh⟩:=hX
  have hro:=hI.ok.objs id l _ hl hob
  have h63:=len_of xs _ hbd
  have hlt:id<θ.length:=(a_.1 hl).1
  have hget:∀(l':Loc),(θ.set id l')[id]? =some l':=λl'=>t_ hlt
  by_cases hL0:L.length=0
  ·have hLe:L=[]:=n_ hL0
   subst hLe
   have hmv:Inv c (θ.set id l) D (st.moved id (.tree e it.size k (xs++([]:List PV).map k.unnil) none)) a w:=by
    refine hI.move hl (λg hg=>?_) (λg hg=>?_) rfl rfl rfl (u_ _) (λ_ _ _=>rfl) (λg hg=>⟨(hI.ok.olt id l g hl hg).1,.inl hg⟩) ?_
    ·subst hg;exact hro.elim
    ·subst hg;exact hro.elim
    ·rw[List.map_nil,au_]
     have hse:θ.set id l=θ:=by
      apply ao_
      intro i
      by_cases hii:i=id
      ·subst hii;rw[hget];exact hl.symm
      ·rw[m_ (Ne.symm hii)]
     rw[hse]
     exact hro
   cases l<;>simp only[RelO,Loc.head]at hro hh
   ·rename_i ad0
    refine fin (.slice ad0 0 0) w _ ?_ hk ⟨_,D,hmv.put hd ⟨.nil ad0,hget _,rfl⟩⟩
    rw[hh,hye]
    exact dz hu hit ad0 0 0 (u_ _) ad m
   ·rename_i g n cap s O
    obtain⟨rfl,rfl,h3,_⟩:=hro
    refine fin _ w _ ?_ hk ⟨_,D,hmv.put hd ⟨_,hget _,rfl⟩⟩
    rw[hh,hye]
    exact dz hu hit _ _ cap h3 ad m
  ·obtain⟨ab,news,rfl,n1,n2,n3,n4,n5⟩:=hnews (z_ hL0)
   have grow:∀(old:Nat) (olds:List Value) (v:Value) (O:Nat->Prop) (Os:Nat->Nat->Nat->Prop),(∀b,O b->l.has b)->(∀i j b,Os i j b->O b)->(∀i j i' j' b,Os i j b->Os i' j' b->i=i'/\j=j')->olds.length=xs.length*it.size->(∀p∈xs,p.cells.length=it.size)->(∀(i j:Nat) (p q:PV),xs[i]? =some p->p.cells[j]? =some q->∃u,olds[i*it.size+j]? =some u/\RelT D w (k.at j) (Os i j) u q)->
    (Builtin.append_ #[t,t] o.type #[v,.slice (some ab) L.length m]).run P w= .ok (.slice (some ⟨w.heap.size,0,none⟩) (xs.length+L.length) (grownCap w (xs.length+L.length) old e)) (w.drew.alloc (.cells (olds.toArray++news.toArray++Builtin.zeroCells z.cells (grownCap w (xs.length+L.length) old e - (xs.length+L.length))) e))->
    a.eval x=v->o.wp P a w next Q:=by
    intro old olds v O Os hOl hOs hdj hol hxs ro hrun hv
    have hOlt:∀b,O b->b<w.heap.size:=λb hb=>(hI.ok.olt id l b hl (hOl b hb)).1
    have hge:=grownCap_ge w (xs.length+L.length) old e
    have hcm:grownCap w (xs.length+L.length) old e<=maxLen:=grownCap_le_maxLen w _ old e (by simp only[maxLen];omega)
    have hcs:(olds.toArray++news.toArray++Builtin.zeroCells z.cells (grownCap w (xs.length+L.length) old e - (xs.length+L.length))).size=grownCap w (xs.length+L.length) old e*it.size:=by
     simp only[P_,R_,gj,hzs,hol,n1,<-k_]
     congr 1;omega
    have hDw:∀b,D b->(w.drew.alloc (.cells (olds.toArray++news.toArray++Builtin.zeroCells z.cells (grownCap w (xs.length+L.length) old e - (xs.length+L.length))) e)).heap[b]? =w.heap[b]? :=λb hb=>ez w.drew _ b (hI.ok.dlt b hb)
    have hmv:=hI.move (l':=.hdr w.heap.size (xs.length+L.length) (grownCap w (xs.length+L.length) old e) it.size O) (o':=.tree e it.size k (xs++L.map k.unnil) none) (w':=w.drew.alloc (.cells (olds.toArray++news.toArray++Builtin.zeroCells z.cells (grownCap w (xs.length+L.length) old e - (xs.length+L.length))) e)) hl (λg hg=>by subst hg;exact hro.elim) (λg hg=>by subst hg;exact hro.elim) rfl rfl rfl (by simp) (λk hk _=>ez w.drew _ k hk)
     (λg hg=>by rcases hg with rfl|hg;exact⟨by simp,.inr (u_ _)⟩;exact⟨by simp;have:=hOlt g hg;omega,.inl (hOl g hg)⟩)
     ⟨rfl,by simp,hge,hcm,λp hp=>(V_.1 hp).elim (hxs p) (hLs n4 p),_,Os,eV w.drew _,hcs,λi j b hb=>⟨hOs i j b hb,by have:=hOlt b (hOs i j b hb);simp;omega⟩,hdj,λ_ _ _ h=>(nomatch h),
      rowRel _ olds news xs _ _ Os hDw (λi j b hb=>ez w.drew _ b (hOlt b (hOs i j b hb))) hol hcs (λj hj=>by rw[p_ (by simp;omega),p_ (by simpa using hj)];simp) (λj hj=>by
       rw[p_ (by simp;omega),X_ (by simp)];simp) n1 ro n5⟩
    refine fin _ _ _ ?_ hk ⟨_,D,hmv.put hd ⟨_,hget _,rfl⟩⟩
    rw[hv,hye]
    exact hrun
   cases l<;>simp only[RelO,Loc.head]at hro hh
   ·rename_i ad0
    obtain⟨rfl,-⟩:=hro
    have hr:=eR (P:=P) (w:=w) (ty:=o.type) hu hit hz1 ad0 ab L.length m news n1 n2 (z_ hL0) (by simp only[y_]at h63;omega) (by simp only[y_,x_]at hbd;omega)
    refine grow 0 [] (.slice ad0 0 0) none' (λ_ _ _=>False) (λ_ h=>h.elim) (λ_ _ _ h=>h.elim) (λ_ _ _ _ _ h _=>h.elim) (by simp) (λp hp=>by cases hp) (λi j p q hp=>by simp at hp) ?_ hh
    simpa using hr
   ·rename_i g n cap s O
    obtain⟨rfl,rfl,h3,h4,h5,cur,Os,h6,h7,hOs,hdj,-,h8⟩:=hro
    by_cases hroom:xs.length+L.length<=cap
    ·have hle:xs.length*it.size+news.length<=cur.size:=by rw[n1,h7,<-k_];exact g_ _ hroom
     have hr:=run_append_room (P:=P) w t o.type e it hu hit g xs.length cap cur h6 ab L.length m news n1 n2 n3 hroom hle
     obtain⟨s1,s2⟩:=kd cur (xs.length*it.size) news hle
     have hDw:∀b,D b->(w.setRow g (cur.toList.take (xs.length*it.size)++news++cur.toList.drop (xs.length*it.size+news.length)).toArray).heap[b]? =w.heap[b]? :=λb hb=>setRow_other _ _ _ _ λe=>(hI.ok.olt id _ g hl (.inl rfl)).2 (e▸hb)
     have hcl':(cur.toList.take (xs.length*it.size)).length=xs.length*it.size:=by simp;omega
     have hmv:=hI.move (l':=.hdr g (xs.length+L.length) cap it.size O) (o':=.tree e it.size k (xs++L.map k.unnil) none) (w':=w.setRow g (cur.toList.take (xs.length*it.size)++news++cur.toList.drop (xs.length*it.size+news.length)).toArray) hl (λg hg=>by cases hg) (λg hg=>by cases hg) rfl rfl rfl (by simp) (λk _ hk=>setRow_other _ _ _ _ λe=>hk (by rw[e];exact .inl rfl))
      (λg' hg'=>⟨by simp;exact(hI.ok.olt id _ g' hl hg').1,.inl hg'⟩)
      ⟨rfl,by simp,hroom,h4,λp hp=>(V_.1 hp).elim (h5 p) (hLs n4 p),_,Os,setRow_heap _ _ _ _ _ _ h6,by rw[s1,h7],hOs,hdj,λ_ _ _ h=>(nomatch h),
       rowRel _ (cur.toList.take (xs.length*it.size)) news xs _ cap Os hDw (λi j b hb=>setRow_other _ _ _ _ (hOs i j b hb).2) hcl' (by rw[s1,h7]) (λj hj=>by
        rw[hcl']at hj
        rw[s2,if_neg (by omega),l_,if_pos hj,j_]) (λj hj=>by
        rw[s2,hcl',if_pos ⟨by omega,by omega⟩];congr 1;omega) n1 (λi j p q hp hq=>by
        obtain⟨u,e1,e2⟩:=h8 i j p q hp hq
        refine⟨u,?_,e2⟩
        have hj:j<it.size:=by rw[<-h5 p (c_ hp)];exact(a_.1 hq).1
        have hi:i<xs.length:=(a_.1 hp).1
        have:(i+1)*it.size<=xs.length*it.size:=g_ _ hi
        rw[k_,r_]at this
        rw[l_,if_pos (by omega),j_]
        exact e1) n5⟩
     refine fin _ _ _ ?_ hk ⟨_,D,hmv.put hd ⟨_,hget _,rfl⟩⟩
     rw[hh,hye]
     exact hr
    ·have hle0:xs.length*it.size<=cur.size:=by rw[h7];exact g_ _ h3
     have hol:(cur.toList.take (xs.length*it.size)).length=xs.length*it.size:=by simp;omega
     have hr:=run_append_grow (P:=P) w t o.type e it z hu hit hz1 ⟨g,0,none⟩ xs.length cap (cur.toList.take (xs.length*it.size)) hol (λj u hj=>by
      rw[addr_add,x_,cell_of_row w g j cur e (0,0) h6]
      rw[l_]at hj
      split at hj
      ·simpa using hj
      ·cases hj) ab L.length m news n1 n2 (by omega) (by omega) (growslice_fits (by omega) hbd)
     refine grow cap _ _ O Os (λ_ h=>.inr h) (λi j b h=>(hOs i j b h).1) hdj hol h5 (λi j p q hp hq=>?_) hr hh
     obtain⟨u,e1,e2⟩:=h8 i j p q hp hq
     refine⟨u,?_,e2⟩
     have hj:j<it.size:=by rw[<-h5 p (c_ hp)];exact(a_.1 hq).1
     have hi:i<xs.length:=(a_.1 hp).1
     have:(i+1)*it.size<=xs.length*it.size:=g_ _ hi
     rw[k_,r_]at this
     rw[l_,if_pos (by omega),j_]
     exact e1
 ·obtain⟨ad0,hxe⟩:∃ad0,a.eval x= .slice ad0 0 0:=by
   subst hxx
   exact⟨none,hX⟩
  have h63:=len_of [] _ (by simpa using hbd)
  simp only[y_,x_]at h63
  by_cases hL0:L.length=0
  ·have hLe:L=[]:=n_ hL0
   subst hLe
   have hp:Inv c (θ++[.nil ad0]) D {st with hp:=st.hp++[.tree e it.size k (([]:List PV).map k.unnil) none]} a w:=hI.push ⟨rfl,rfl⟩ (λg hg=>by cases hg)
   refine fin (.slice ad0 0 0) w _ ?_ hk ⟨_,D,hp.put hd ⟨.nil ad0,by rw[<-hI.ok.len];simp,rfl⟩⟩
   rw[hxe,hye]
   exact dz hu hit ad0 0 0 (u_ _) ad m
  ·obtain⟨ab,news,rfl,n1,n2,n3,n4,n5⟩:=hnews (z_ hL0)
   have hr:=eR (P:=P) (w:=w) (ty:=o.type) hu hit hz1 ad0 ab L.length m news n1 n2 (z_ hL0) (by omega) (by omega)
   have hge:=grownCap_ge w L.length 0 e
   have hcm:grownCap w L.length 0 e<=maxLen:=grownCap_le_maxLen w _ 0 e (by simp only[maxLen];omega)
   have hcs:(news.toArray++Builtin.zeroCells z.cells (grownCap w L.length 0 e - L.length)).size=grownCap w L.length 0 e*it.size:=by
    simp only[P_,R_,gj,hzs,n1,<-k_]
    congr 1;omega
   have hDw:∀b,D b->(w.drew.alloc (.cells (news.toArray++Builtin.zeroCells z.cells (grownCap w L.length 0 e - L.length)) e)).heap[b]? =w.heap[b]? :=λb hb=>ez w.drew _ b (hI.ok.dlt b hb)
   have hI':=hI.drew.allocOwn (l:=.hdr w.heap.size L.length (grownCap w L.length 0 e) it.size none') (o:=.tree e it.size k (L.map k.unnil) none) (ob:=.cells (news.toArray++Builtin.zeroCells z.cells (grownCap w L.length 0 e - L.length)) e) (λ_ h=>h.elim (λh=>h) False.elim) λθ' hθ=>
    ⟨rfl,hLl.symm,hge,hcm,hLs n4,_,λ_ _ _=>False,eV w.drew _,hcs,λ_ _ _ h=>h.elim,λ_ _ _ _ _ h _=>h.elim,λ_ _ _ h=>(nomatch h),λi j p q hp hq=>by
     have:=rowRel _ [] news [] _ _ (λ_ _ _=>False) hDw (λ_ _ _ h=>h.elim) (by simp) hcs (λj hj=>by simp at hj) (λj hj=>by simp only[y_,x_];rw[p_ (by simpa using hj)];simp) n1 (λi j p q hp=>by simp at hp) n5 i j p q (by simpa using hp) hq
     exact this⟩
   refine fin _ _ _ ?_ hk ⟨_,D,hI'.put hd ⟨.hdr w.heap.size L.length (grownCap w L.length 0 e) it.size none',by rw[<-hI.ok.len];simp,rfl⟩⟩
   rw[hxe,hye]
   exact hr
end
end Go.Av
