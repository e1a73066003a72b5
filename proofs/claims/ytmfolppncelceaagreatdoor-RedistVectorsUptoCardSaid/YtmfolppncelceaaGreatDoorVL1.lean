import Derived.WalkKit
import Derived.KernelRfl
import Derived.Deep.Quiet
import Derived.Test.YtmfolppncelceaaGreatDoorGw
set_option linter.unusedVariables false
set_option linter.unusedSimpArgs false
open Array renaming getElem?_eq_getElem->e_,getElem?_append_left->i_,getElem?_toList->k_,length_toList->r_,size_append->E_,getElem?_append_right->L_,getElem?_range->T_,getElem?_map->W_,toList_map->ab_
open Classical renaming byContradiction->al_
open Int renaming not_lt->an_
open List renaming getElem?_eq_some_iff->a_,mem_of_getElem?->b_,getElem?_eq_getElem->d_,getElem?_map->g_,eq_nil_of_length_eq_zero->m_,getElem?_append_right->p_,getElem?_append_left->q_,length_nil->s_,getElem?_take->t_,getElem?_set_ne->v_,getElem?_of_mem->x_,eq_of_mem_replicate->z_,all_eq_true->A_,getElem?_set_self->B_,replicate->F_,size_toArray->G_,length_cons->I_,mem_append->J_,idxOf_lt_length_of_mem->M_,mem_map->N_,mem_or_eq_of_mem_set->O_,getD->Q_,length_mapIdx->X_,ext_getElem?->Z_,getElem?_inj->aa_,append_nil->ad_,length_map->ae_,mapM_cons->ai_,mem_range->aj_,range->ak_
open Nat renaming mul_le_mul_right->f_,lt_of_lt_of_le->j_,le_refl->l_,add_mul->n_,zero_add->o_,pos_of_ne_zero->u_,one_mul->y_,le_trans->C_,le_mul_of_pos_right->D_,lt_or_ge->H_,mul_comm->R_,div_lt_iff_lt_mul->S_,add_assoc->V_,eq_zero_or_pos->Y_,mod_eq_of_lt->ac_,div_add_mod->af_,mul_add_mod->ag_,add_zero->am_,mod_lt->ao_
open Option renaming map_eq_some_iff->c_,bind_eq_some_iff->h_,getD_some->w_,map_some->K_,bind_eq_bind->U_,pure_def->ah_
open Option.some renaming injEq->P_
namespace Go.Av
open Go Go.RowKit
inductive PV where
 |sc (v:Value)
 |list (sz:Nat) (xs:List PV)
 |agg (xs:List PV)
 |tup (xs:List PV)
 |pto (x:PV)
 |fn (f:Fn) (caps:List PV)
 |any
 deriving Inhabited
def PV.cells:PV->List PV
 | .agg xs=>xs
 |x=>[x]
def p5(sz:Nat):List PV->PV
 |[]=>.list 0 []
 |x::xs=>.list sz (x::xs)
inductive RelP(D:Nat->Prop)(w:World):Value->PV->Prop
 |sc (v:Value):RelP D w v (.sc v)
 |any (v:Value):RelP D w v .any
 |agg (vs:Array Value) (xs:List PV) (hs:vs.size=xs.length) (h:∀(i:Nat) (v:Value) (x:PV),vs[i]? =some v->xs[i]? =some x->RelP D w v x):RelP D w (.agg vs) (.agg xs)
 |tup (vs:Array Value) (xs:List PV) (hs:vs.size=xs.length) (h:∀(i:Nat) (v:Value) (x:PV),vs[i]? =some v->xs[i]? =some x->RelP D w v x):RelP D w (.tuple vs) (.tup xs)
 |nil (a:Option Addr) (cap:Nat):RelP D w (.slice a 0 cap) (.list 0 [])
 |list (b o cap sz:Nat) (x0:PV) (xs:List PV) (val:Nat->Nat->Value) (hcap:(x0::xs).length<=cap) (hD:D b) (hsz:∀x∈x0::xs,x.cells.length=sz)
  (hc:∀(i j:Nat) (x y:PV),(x0::xs)[i]? =some x->x.cells[j]? =some y->w.cell? ⟨b,o+i*sz+j,none⟩=some (val i j))
  (hr:∀(i j:Nat) (x y:PV),(x0::xs)[i]? =some x->x.cells[j]? =some y->RelP D w (val i j) y):
  RelP D w (.slice (some ⟨b,o,none⟩) (x0::xs).length cap) (.list sz (x0::xs))
 |pto (b o:Nat) (x:PV) (val:Nat->Value) (hD:D b) (hc:∀(j:Nat) (y:PV),x.cells[j]? =some y->w.cell? ⟨b,o+j,none⟩=some (val j))
  (hr:∀(j:Nat) (y:PV),x.cells[j]? =some y->RelP D w (val j) y):RelP D w (.pointer (some ⟨b,o,none⟩)) (.pto x)
 |fn (f:Fn) (vs:Array Value) (xs:List PV) (hs:vs.size=xs.length) (h:∀(i:Nat) (v:Value) (x:PV),vs[i]? =some v->xs[i]? =some x->RelP D w v x):RelP D w (.func f #[] vs) (.fn f xs)
theorem Rm{w w':World}{a:Addr}(h:w'.heap[a.block]? =w.heap[a.block]?):w'.cell? a=w.cell? a:=World.cell?_of_block h
theorem RelP.mono{D D':Nat->Prop}{w w':World}(hD:∀b,D b->D' b)(H:∀b,D b->w'.heap[b]? =w.heap[b]?){v:Value}{p:PV}(h:RelP D w v p):RelP D' w' v p:=by induction h with|sc v=>exact .sc v|any v=>exact .any v|agg vs xs hs _ z=>exact .agg vs xs hs z|tup vs xs hs _ z=>exact .tup vs xs hs z|nil a cap=>exact .nil a cap|list b o cap sz x0 xs val hcap E hsz hc _ z=>exact .list b o cap sz x0 xs val hcap (hD b E) hsz (λi j x y J I=>by rw[Rm (H b E)];grind) z|pto b o x val E hc _ z=>exact .pto b o x val (hD b E) (λj y I=>by rw[Rm (H b E)];grind) z|fn f vs xs hs _ z=>exact .fn f vs xs hs z
inductive PV.Flat:PV->Prop
 |sc (v:Value):Flat (.sc v)
 |any:Flat .any
 |agg (xs:List PV) (h:∀(i:Nat) (x:PV),xs[i]? =some x->Flat x):Flat (.agg xs)
 |tup (xs:List PV) (h:∀(i:Nat) (x:PV),xs[i]? =some x->Flat x):Flat (.tup xs)
theorem RelP.flat{D D':Nat->Prop}{w w':World}{v:Value}{p:PV}(h:RelP D w v p)(z:p.Flat):RelP D' w' v p:=by
 induction h with
 |sc v=>exact .sc v|any v=>exact .any v|agg vs xs hs _ J=>cases z with|agg _ H=>exact .agg vs xs hs λi v x I E=>J i v x I E (H i x E)
 |tup vs xs hs _ J=>cases z with|tup _ H=>exact .tup vs xs hs λi v x I E=>J i v x I E (H i x E)
 |nil a cap=>exact .nil a cap|list=>cases z|pto=>cases z|fn=>cases z
theorem rM{D:Nat->Prop}{w:World}{v:Value}{sz:Nat}{xs:List PV}(h:RelP D w v (p5 sz xs)): ∃a cap,v= .slice a xs.length cap/\xs.length<=cap/\(0<xs.length->∃b o,a=some ⟨b,o,none⟩/\D b/\(∀x∈xs,x.cells.length=sz)/\∀(i j:Nat) (x y:PV),xs[i]? =some x->x.cells[j]? =some y->∃u,w.cell? ⟨b,o+i*sz+j,none⟩=some u/\RelP D w u y):=by
 cases xs with
 |nil=>cases h with|nil a cap=>simp
 |cons x0 xs=>cases h with|list b o cap _ _ _ val hcap c hsz hc hr=>grind
theorem gG{D:Nat->Prop}{w:World}{sz:Nat}{xs:List PV}{a:Option Addr}{cap:Nat}(hcap:xs.length<=cap) (h:0<xs.length->∃b o,a=some ⟨b,o,none⟩/\D b/\(∀x∈xs,x.cells.length=sz)/\∀(i j:Nat) (x y:PV),xs[i]? =some x->x.cells[j]? =some y->∃u,w.cell? ⟨b,o+i*sz+j,none⟩=some u/\RelP D w u y): RelP D w (.slice a xs.length cap) (p5 sz xs):=by
 cases xs with
 |nil=>exact .nil a cap|cons x0 xs=>
  obtain⟨b,o,rfl,g,hsz,hc⟩:=h (by simp);have key:∀i j,∃u,∀x y,(x0::xs)[i]? =some x->x.cells[j]? =some y->w.cell? ⟨b,o+i*sz+j,none⟩=some u/\RelP D w u y:=by
   intro i j;by_cases c:∃x y,(x0::xs)[i]? =some x/\x.cells[j]? =some y;·obtain⟨x,y,c,d⟩:=c;obtain⟨u,e,f⟩:=hc i j x y c d;refine⟨u,λn p k l=>?_⟩;grind
   ·exact⟨undef,λx y e f=>absurd ⟨x,y,e,f⟩ c⟩
  exact .list b o cap sz x0 xs (λi j=>(key i j).choose) hcap g hsz (λi j x y c d=>((key i j).choose_spec x y c d).1) (λi j x y c d=>((key i j).choose_spec x y c d).2)
theorem I2{D:Nat->Prop}{w:World}{v:Value}{x:PV}(h:RelP D w v (.pto x)): ∃b o,v= .pointer (some ⟨b,o,none⟩)/\D b/\∀(j:Nat) (y:PV),x.cells[j]? =some y->∃u,w.cell? ⟨b,o+j,none⟩=some u/\RelP D w u y:=by cases h with|pto b o _ val a hc hr=>grind
theorem yo{D:Nat->Prop}{w:World}{b o:Nat}{x:PV}(c:D b) (h:∀(j:Nat) (y:PV),x.cells[j]? =some y->∃u,w.cell? ⟨b,o+j,none⟩=some u/\RelP D w u y):RelP D w (.pointer (some ⟨b,o,none⟩)) (.pto x):=by
 have key:∀j,∃u,∀y,x.cells[j]? =some y->w.cell? ⟨b,o+j,none⟩=some u/\RelP D w u y:=by intro j;cases d:x.cells[j]? with|none=>simp|some y=>obtain⟨u,f,g⟩:=h j y d;exact⟨u,λk e=>by grind⟩
 exact .pto b o x (λj=>(key j).choose) c (λj y a=>((key j).choose_spec y a).1) (λj y a=>((key j).choose_spec y a).2)
inductive BV where
 |pv (p:PV)
 |nils
 |sl (id:Nat)
 |ptr (id off:Nat)
 |elt (id i off:Nat)
 |clo (f:Fn) (ids:List Nat)
 |mp (id:Nat)
 |full (p:PV)
 |ifc
 deriving Inhabited
inductive AV where
 |b (x:BV)
 |agg (xs:List BV)
 |tup (xs:List BV)
 deriving Inhabited
abbrev AV.p(x:PV):AV:=.b (.pv x)
abbrev AV.v(x:Value):AV:=.b (.pv (.sc x))
def AV.cells:AV->List BV
 | .agg xs=>xs
 | .b (.pv p)=>p.cells.map .pv
 | .b x=>[x]
 | .tup _=>[.pv .any]
inductive K where
 |e
 |f (r:K)
 |s (t:TypeId) (sz:Nat) (sub r:K)
 deriving Inhabited,DecidableEq
def K.at:K->Nat->Option (TypeId×Nat×K)
 | .e,_=>none
 | .f _,0=>none
 | .s t sz sub _,0=>some (t,sz,sub)
 | .f r,n+1=>r.at n
 | .s _ _ _ r,n+1=>r.at n
def K.allF:K->Bool
 | .e=>true
 | .f r=>r.allF
 | .s _ _ _ _=>false
def K.flatB(k:K)(off n:Nat):Bool:=(ak_ n).all λj=>(k.at (off+j)).isNone
inductive AObj where
 |gone
 |free
 |box (t:TypeId) (cs:List BV)
 |vec (e:TypeId) (sz:Nat) (xs:List PV)
 |map (k e:TypeId) (kvs:List (PV×PV))
 |tree (e:TypeId) (sz:Nat) (k:K) (xs:List PV) (hole:Option (Nat×Nat×BV))
 deriving Inhabited
structure St where
 fr:List (Nat×AV)
 hp:List AObj
def look:List (Nat×AV)->Nat->Option AV
 |[],_=>none
 |(k,a)::l,t=>if t=k then some a else look l t
def St.put(st:St)(d:Nat)(a:AV):St:={st with fr:=(d,a)::st.fr}
inductive SX where
 |tm (k:Nat)
 |c (v:Value)
 |g (n:Nat)
 |f (n:Nat)
 deriving Inhabited
def SX.of:Operand->SX
 | .tmp k=>.tm k
 | .const v=>.c v
 | .global n=>.g n
 | .func n=>.f n
inductive SOp where
 |mv (x:SX)
 |pick (c a b:SX)
 |bin (op:BinOp) (x y:SX)
 |eqB (neg:Bool) (x y:SX)
 |un (op:UnOp) (x:SX)
 |len (str:Bool) (x:SX)
 |idxS (x i:SX)
 |idxV (n sz:Nat) (ag:Bool) (x i:SX)
 |idxA (sz:Nat) (x i:SX)
 |idxP (n sz:Nat) (ag:Bool) (x i:SX)
 |fldA (off sz:Nat) (ag:Bool) (x:SX)
 |fld (off sz:Nat) (ag:Bool) (x:SX)
 |load (sz:Nat) (ag:Bool) (x:SX)
 |store (sz:Nat) (x v:SX)
 |alloc (t:TypeId) (zero:List Value)
 |box (t:TypeId) (x:SX)
 |boxD (t:TypeId) (x:SX)
 |build (zero:List Value) (parts:List (Nat×Nat×SX))
 |bslice (own:Bool) (e:TypeId) (sz len:Nat) (parts:List SX)
 |mslice (e:TypeId) (sz bytes:Nat) (zero:Value) (l c:SX)
 |append (e:TypeId) (sz bytes:Nat) (x y:SX)
 |cvtI (k:IntKind) (x:SX)
 |slc (sz:Nat) (x:SX) (lo hi mx:Option SX)
 |slcS (x:SX) (lo hi:Option SX)
 |ext (x:SX) (i:Nat)
 |nilc (x:SX)
 |call (bor:Bool) (f:FuncId) (args:List SX)
 |callA (bor:Bool) (B:List Nat) (f:FuncId) (args:List SX)
 |callv (bor:Bool) (B:List Nat) (x:SX) (args:List SX)
 |lenM (k e:TypeId) (x:SX)
 |b2s (x:SX)
 |mkfn (f:FuncId) (caps:List SX)
 |mkmap (k e:TypeId)
 |lookup (k e:TypeId) (ok:Bool) (zero:Value) (m x:SX)
 |mapset (k e:TypeId) (m x v:SX)
 |eqT (neg:Bool) (t:TypeId) (x y:SX)
 |copy (e:TypeId) (sz:Nat) (x y:SX)
 |mnmx (mx:Bool) (k:IntKind) (x:SX) (ys:List SX)
 |panic (x:SX)
 |iface (t:TypeId) (x:SX)
 |appD (e:TypeId) (sz bytes:Nat) (x y:SX)
 |bsliceN (e:TypeId) (sz len:Nat) (parts:List SX)
 |msliceT (k:K) (e:TypeId) (sz bytes:Nat) (zero:Value) (l c:SX)
 |appT (k:K) (e:TypeId) (sz bytes:Nat) (x y:SX)
 |callp (bor:Bool) (x:SX) (args:List SX)
 |atq(s:Nat) (op:SOp)
 deriving Inhabited
structure SOper where
 dst:Option Nat
 op:SOp
 gd:Option (Nat×Bool)
 deriving Inhabited
inductive SCode where
 |skip
 |region (ops:List SOper)
 |draw (ops:List SOper) (after:List (List Nat))
 |seq (a b:SCode)
 |cond (c:SX) (thn els:SCode)
 |block (id:Nat) (body:SCode)
 |loop (body:SCode)
 |exit (id:Nat)
 |scope (body:SCode)
 |ret
 deriving Inhabited
def bJ:Value->BV
 | .slice none 0 0=>.nils
 |v=>.pv (.sc v)
def jF:Value->AV
 | .agg cs=>.agg (cs.toList.map bJ)
 |v=>.b (bJ v)
def St.get(st:St):SX->Option AV
 | .tm k=>look st.fr k
 | .c v=>some (jF v)
 | .g n=>some (.v (.pointer (some ⟨n,0,none⟩)))
 | .f n=>some (.p (.fn (.func n) []))
def aU{α:Type}(o:Option α)(K:α->Prop):Prop:=∃a,o=some a/\K a
def Ju(a:AV)(K:Value->Prop):Prop:=∃v,a= .v v/\K v
def isInt(v:Value)(K:IntKind->Int->Prop):Prop:=∃k n,v= .int k n/\K k n
def isBool(v:Value)(K:Bool->Prop):Prop:=∃b,v= .bool b/\K b
def V6(v:Value)(K:ByteArray->Prop):Prop:=∃s,v= .string s/\K s
def vl(hp:List AObj)(sz:Nat)(a:AV)(K:List PV->Prop):Prop:=
 (a= .b .nils/\K [])\/(∃L,a= .p (p5 sz L)/\K L)\/(∃id e L,a= .b (.sl id)/\hp[id]? =some (.vec e sz L)/\K L)\/(∃L,a= .b (.full (p5 sz L))/\K L)
theorem zbj{sz:Nat}{L a:List PV}(h:p5 sz L=p5 sz a):L=a:=by cases L<;>cases a<;>simp_all[p5]
def isLen(hp:List AObj)(a:AV)(K:Nat->Prop):Prop:=
 (a= .b .nils/\K 0)\/(∃sz L,a= .p (p5 sz L)/\K L.length)\/(∃id e sz L,a= .b (.sl id)/\hp[id]? =some (.vec e sz L)/\K L.length)\/(∃sz L,a= .b (.full (p5 sz L))/\K L.length)\/
  (∃id e sz k L hole,a= .b (.sl id)/\hp[id]? =some (.tree e sz k L hole)/\K L.length)
def isMap(hp:List AObj)(k e:TypeId)(a:AV)(K:Nat->List (PV×PV)->Prop):Prop:=∃id kvs,a= .b (.mp id)/\hp[id]? =some (.map k e kvs)/\K id kvs
def r6(k:IntKind)(op:BinOp)(x y:Int):Int:=
 match op with
 | .and=>k.wrap (BitVec.ofInt k.bits x&&&BitVec.ofInt k.bits y).toNat
 | .or=>k.wrap (BitVec.ofInt k.bits x|||BitVec.ofInt k.bits y).toNat
 | .xor=>k.wrap (BitVec.ofInt k.bits x ^^^ BitVec.ofInt k.bits y).toNat
 |_=>k.wrap (BitVec.ofInt k.bits x&&& ~~~ BitVec.ofInt k.bits y).toNat
def SI(op:BinOp)(x y:Value)(K:Value->Prop):Prop:=
 match x,y with
 | .int k a,.int c b=>
  match op with
  | .add=>k=c/\K (.int k (k.wrap (a+b)))
  | .sub=>k=c/\K (.int k (k.wrap (a - b)))
  | .mul=>k=c/\K (.int k (k.wrap (a*b)))
  | .quo=>k=c/\b≠0/\K (.int k (k.wrap (a.tdiv b)))
  | .rem=>k=c/\b≠0/\K (.int k (a.tmod b))
  | .and=>k=c/\K (.int k (r6 k .and a b))
  | .or=>k=c/\K (.int k (r6 k .or a b))
  | .xor=>k=c/\K (.int k (r6 k .xor a b))
  | .andNot=>k=c/\K (.int k (r6 k .andNot a b))
  | .shl=>0<=b/\K (.int k (k.wrap (a*2^(min b.toNat k.bits))))
  | .shr=>0<=b/\K (.int k (a.fdiv (2^(min b.toNat k.bits))))
  | .eql=>k=c/\K (.bool (a==b))
  | .neq=>k=c/\K (.bool (a != b))
  | .lss=>k=c/\K (.bool (decide (a<b)))
  | .leq=>k=c/\K (.bool (decide (a<=b)))
  | .gtr=>k=c/\K (.bool (decide (a>b)))
  | .geq=>k=c/\K (.bool (decide (a>=b)))
 | .string a,.string b=>
  match op with
  | .add=>a.size+b.size<=9223372036854775807/\K (.string (a++b))
  | .eql=>K (.bool (a.toList==b.toList))
  | .neq=>K (.bool !(a.toList==b.toList))
  | .lss=>K (.bool (Op.bytesLess a.toList b.toList))
  | .leq=>K (.bool (Op.bytesLess a.toList b.toList||a.toList==b.toList))
  | .gtr=>K (.bool !(Op.bytesLess a.toList b.toList||a.toList==b.toList))
  | .geq=>K (.bool !(Op.bytesLess a.toList b.toList))
  |_=>False
 |_,_=>False
def unV(op:UnOp)(x:Value)(K:Value->Prop):Prop:=
 match op,x with
 | .not,.bool b=>K (.bool !b)
 | .neg,.int k n=>K (.int k (k.wrap (0 - n)))
 |_,_=>False
def PV.isAgg:PV->Bool
 | .agg _=>true
 |_=>false
def PV.sub(x:PV)(off sz:Nat)(ag:Bool):PV:=match ag with
 |true=>.agg ((x.cells.drop off).take sz)
 |false=>x.cells.getD off .any
def BV.toPV:BV->Option PV
 | .pv p=>some p
 | .nils=>some (.list 0 [])
 | .full p=>some p
 |_=>none
def AV.toPV:AV->Option PV
 | .b x=>x.toPV
 | .agg xs=>(xs.mapM BV.toPV).map .agg
 | .tup xs=>(xs.mapM BV.toPV).map .tup
def nilP:PV:=.sc (.slice none 0 0)
def BV.toPVn:BV->Option PV
 | .nils=>some nilP
 |x=>x.toPV
def AV.toPVn:AV->Option PV
 | .b x=>x.toPVn
 | .agg xs=>(xs.mapM BV.toPVn).map .agg
 | .tup _=>none
def K.nilsB(k:K)(cs:List PV):Bool:=(ak_ cs.length).all λj=>match k.at j with
 |some _=>(match cs.getD j .any with| .sc (.slice none 0 0)=>true|_=>false)
 |none=>true
def K.unnil(k:K)(p:PV):PV:=match p with
 | .agg cs=>.agg (cs.mapIdx λj x=>if(k.at j).isSome then .list 0 []else x)
 |x=>if(k.at 0).isSome then .list 0 []else x
def PV.cellOk:PV->Bool
 | .sc v=>v.oneCell'
 | .list .. | .pto _| .fn .. =>true
 |_=>false
def PV.ok(p:PV):Bool:=p.cells.all PV.cellOk
def BV.cellOk:BV->Bool
 | .pv p=>p.cellOk
 |_=>true
def AV.ok(x:AV):Bool:=x.cells.all BV.cellOk
def splice{α:Type}(xs:List α)(off:Nat)(ys:List α):List α:=xs.take off++ys++xs.drop (off+ys.length)
def tG(ag:Bool)(cs:List BV):AV:=match ag with
 |true=>.agg cs
 |false=>.b (cs.headD (.pv .any))
def Le(hp:List AObj)(sz:Nat)(ag:Bool)(a:AV)(K:AV->Prop):Prop:=
 match a with
 | .b (.pv (.pto x))=>x.isAgg=ag/\x.cells.length=sz/\K (.p x)
 | .b (.ptr id off)=>aU hp[id]? λo=>∃t cs,o= .box t cs/\off+sz<=cs.length/\(ag=false->sz=1)/\(K (tG ag ((cs.drop off).take sz))\/aU (tG ag ((cs.drop off).take sz)).toPV λp=>K (.p p))
 | .b (.elt id i off)=>aU hp[id]? λo=>(∃e s xs,o= .vec e s xs/\i<xs.length/\off+sz<=s/\(ag=false->sz=1)/\
  ((off=0/\sz=s/\(xs.getD i .any).isAgg=ag/\K (.p (xs.getD i .any)))\/(sz≠s/\K (.p ((xs.getD i .any).sub off sz ag)))))\/
  (∃e s k xs hole,o= .tree e s k xs hole/\i<xs.length/\off+sz<=s/\(ag=false->sz=1)/\
   ((k.flatB off sz=true/\K (.p ((xs.getD i .any).sub off sz ag)))\/(∃b,hole=some (i,off,b)/\sz=1/\ag=false/\K (.b b))))
 |_=>False
def Kp(hp:List AObj)(sz:Nat)(a v:AV)(K:List AObj->Prop):Prop:=
 match a with
 | .b (.ptr id off)=>aU hp[id]? λo=>∃t cs,o= .box t cs/\v.cells.length=sz/\off+sz<=cs.length/\v.ok=true/\K (hp.set id (.box t (splice cs off v.cells)))
 | .b (.elt id i off)=>aU hp[id]? λo=>(∃e s xs,o= .vec e s xs/\i<xs.length/\aU v.toPV λp=>p.cells.length=sz/\p.ok=true/\
  ((off=0/\sz=s/\K (hp.set id (.vec e s (xs.set i p))))\/(sz≠s/\off+sz<=s/\K (hp.set id (.vec e s (xs.set i (.agg (splice (xs.getD i .any).cells off p.cells))))))))\/
  (∃e s k xs hole,o= .tree e s k xs hole/\i<xs.length/\off+sz<=s/\
   ((k.flatB off sz=true/\(xs.getD i .any).isAgg=true/\aU v.toPV λp=>p.cells.length=sz/\p.ok=true/\K (hp.set id (.tree e s k (xs.set i (.agg (splice (xs.getD i .any).cells off p.cells))) hole)))\/
    (∃c b,hole=some (i,off,c)/\sz=1/\v= .b b/\b.cellOk=true/\K (hp.set id (.tree e s k xs (some (i,off,b)))))))
 |_=>False
def BV.kill(id:Nat):BV->BV
 | .sl k=>if k=id then .pv .any else .sl k
 | .elt k i o=>if k=id then .pv .any else .elt k i o
 |x=>x
def AV.kill(id:Nat):AV->AV
 | .b x=>.b (x.kill id)
 | .agg xs=>.agg (xs.map (BV.kill id))
 | .tup xs=>.tup (xs.map (BV.kill id))
def Tw(g:BV->BV):Option (Nat×Nat×BV)->Option (Nat×Nat×BV)
 |some (i,j,b)=>some (i,j,g b)
 |none=>none
def AObj.kill(id:Nat):AObj->AObj
 | .box t cs=>.box t (cs.map (BV.kill id))
 | .tree e sz k xs h=>.tree e sz k xs (Tw (BV.kill id) h)
 |o=>o
def St.kill(st:St)(id:Nat):St:={st with fr:=st.fr.map λx=>(x.1,x.2.kill id),hp:=st.hp.map (AObj.kill id)}
def St.moved(st:St)(id:Nat)(o:AObj):St:=⟨st.fr.map λx=>(x.1,x.2.kill id),(st.hp.map (AObj.kill id)).set id o⟩
def TL(hp:List AObj)(id:Nat):Option PV:=match hp[id]? with
 |some (.vec _ sz xs)=>some (p5 sz xs)
 |some (.tree _ sz _ xs none)=>some (p5 sz xs)
 |_=>none
def A9(hp:List AObj)(bor:Bool):BV->Option PV
 | .sl id=>if bor then TL hp id else none
 |x=>x.toPV
def oM(hp:List AObj)(bor:Bool):AV->Option PV
 | .b x=>A9 hp bor x
 | .agg xs=>(xs.mapM (A9 hp bor)).map .agg
 |a=>a.toPV
def wE(hp:List AObj)(bor:Bool)(B:List Nat):AV->Option AV
 | .b (.sl id)=>if B.contains id then some (.b (.sl id))else(oM hp bor (.b (.sl id))).map .p
 | .agg xs=>if(xs.mapM BV.toPV).isSome then(AV.agg xs).toPV.map .p else some (.agg xs)
 | .b (.full p)=>some (.p p)
 | .b .nils=>some (.p (.list 0 []))
 |a=>some a
def PV.plain:PV->Bool
 | .sc (.int _ _)=>true
 | .sc (.bool _)=>true
 | .sc (.string _)=>true
 | .agg xs=>xs.all λx=>match x with
  | .sc (.int _ _)=>true
  | .sc (.bool _)=>true
  | .sc (.string _)=>true
  |_=>false
 |_=>false
def bnd(st:St)(x:Option SX)(b:Nat)(K:Nat->Prop):Prop:=match x with
 |none=>K b
 |some x=>aU (st.get x) λa=>Ju a λv=>isInt v λ_ n=>0<=n/\K n.toNat
def bytesOf:List PV->Option (List Int)
 |[]=>some []
 | .sc (.int .u8 n)::l=>(bytesOf l).map (n::·)
 |_=>none
def St.putO(st:St)(d:Option Nat)(a:AV):St:=match d with
 |some d=>st.put d a
 |none=>st
def yv:Value->Option Bool
 | .bool b=>some b
 |_=>none
def BV.ren(ρ:Nat->Nat):BV->BV
 | .sl id=>.sl (ρ id)
 | .ptr id off=>.ptr (ρ id) off
 | .elt id i off=>.elt (ρ id) i off
 | .clo f ids=>.clo f (ids.map ρ)
 | .mp id=>.mp (ρ id)
 |x=>x
def AV.ren(ρ:Nat->Nat):AV->AV
 | .b x=>.b (x.ren ρ)
 | .agg xs=>.agg (xs.map (BV.ren ρ))
 | .tup xs=>.tup (xs.map (BV.ren ρ))
def AObj.ren(ρ:Nat->Nat):AObj->AObj
 | .box t cs=>.box t (cs.map (BV.ren ρ))
 | .tree e sz k xs h=>.tree e sz k xs (Tw (BV.ren ρ) h)
 |o=>o
def BV.ids:BV->List Nat
 | .sl id=>[id]
 | .ptr id _=>[id]
 | .elt id _ _=>[id]
 | .clo _ ids=>ids
 | .mp id=>[id]
 |_=>[]
def AV.ids:AV->List Nat
 | .b x=>x.ids
 | .agg xs=>xs.flatMap BV.ids
 | .tup xs=>xs.flatMap BV.ids
def AObj.ids:AObj->List Nat
 | .box _ cs=>cs.flatMap BV.ids
 | .tree _ _ _ _ (some (_,_,b))=>b.ids
 |_=>[]
def BV.killB(B:List Nat):BV->BV
 | .sl k=>if B.contains k then .pv .any else .sl k
 | .elt k i o=>if B.contains k then .pv .any else .elt k i o
 |x=>x
def AV.killB(B:List Nat):AV->AV
 | .b x=>.b (x.killB B)
 | .agg xs=>.agg (xs.map (BV.killB B))
 | .tup xs=>.tup (xs.map (BV.killB B))
def AObj.killB(B:List Nat):AObj->AObj
 | .box t cs=>.box t (cs.map (BV.killB B))
 | .tree e sz k xs h=>.tree e sz k xs (Tw (BV.killB B) h)
 |o=>o
def lG(B:List Nat)(n k:Nat):Nat:=if k<B.length then B.getD k 0 else n+(k - B.length)
def q8(B:List Nat)(hp os:List AObj):List AObj:=
 (hp.mapIdx λi o=>if B.contains i then((os.getD (B.idxOf i) .gone).ren (lG B hp.length))else o.killB B)++(os.drop B.length).map (AObj.ren (lG B hp.length))
def St.back(st:St)(B:List Nat)(os:List AObj):St:=⟨st.fr.map λx=>(x.1,x.2.killB B),q8 B st.hp os⟩
structure Rec where
 i:Nat
 d:Option Nat
 rd:List Nat
 s:Option Nat
 F:List Nat
 G:List Nat
inductive Loc where
 |no
 |blk (g:Nat)
 |nil (a:Option Addr)
 |hdr (g n cap sz:Nat) (O:Nat->Prop)
 |mp (g:Nat)
def Loc.has:Loc->Nat->Prop
 | .blk g,b=>b=g
 | .hdr g _ _ _ O,b=>b=g\/O b
 | .mp g,b=>b=g
 |_,_=>False
def none':Nat->Prop:=λ_=>False
def Loc.fixed:Loc->Bool
 | .blk _=>true
 | .mp _=>true
 |_=>false
def Loc.head(l:Loc)(v:Value):Prop:=match l with
 | .nil a=>v= .slice a 0 0
 | .hdr g n cap _ _=>v= .slice (some ⟨g,0,none⟩) n cap
 |_=>False
def RelB(θ:List Loc)(D:Nat->Prop)(w:World)(v:Value):BV->Prop
 | .pv p=>RelP D w v p
 | .nils=>v= .slice none 0 0
 | .sl id=>∃l,θ[id]? =some l/\l.head v
 | .ptr id off=>∃g,θ[id]? =some (.blk g)/\v= .pointer (some ⟨g,off,none⟩)
 | .elt id i off=>∃g n cap sz O,θ[id]? =some (.hdr g n cap sz O)/\v= .pointer (some ⟨g,i*sz+off,none⟩)
 | .clo f ids=>∃b:List Nat,b.length=ids.length/\(∀(k id g:Nat),ids[k]? =some id->b[k]? =some g->θ[id]? =some (.blk g))/\v= .func f #[] (b.map λg=>Value.pointer (some ⟨g,0,none⟩)).toArray
 | .mp id=>∃g,θ[id]? =some (.mp g)/\v= .map (some g)
 | .full p=>RelP D w v p/\∃a n,v= .slice a n n
 | .ifc=>∃t u,v= .iface t u
def RelA(θ:List Loc)(D:Nat->Prop)(w:World)(v:Value):AV->Prop
 | .b x=>RelB θ D w v x
 | .agg xs=>∃vs:Array Value,v= .agg vs/\vs.size=xs.length/\∀(i:Nat) (u:Value) (x:BV),vs[i]? =some u->xs[i]? =some x->RelB θ D w u x
 | .tup xs=>∃vs:Array Value,v= .tuple vs/\vs.size=xs.length/\∀(i:Nat) (u:Value) (x:BV),vs[i]? =some u->xs[i]? =some x->RelB θ D w u x
inductive RelT(D:Nat->Prop)(w:World):Option (TypeId×Nat×K)->(Nat->Prop)->Value->PV->Prop
 |flat (O:Nat->Prop) (v:Value) (p:PV) (h:RelP D w v p):RelT D w none O v p
 |nil (q:TypeId×Nat×K) (O:Nat->Prop) (a:Option Addr):RelT D w (some q) O (.slice a 0 0) (.list 0 [])
 |hdr (e:TypeId) (sz:Nat) (k:K) (O:Nat->Prop) (g cap:Nat) (xs:List PV) (p:PV) (cs:Array Value) (val:Nat->Nat->Value) (Os:Nat->Nat->Nat->Prop)
  (hp:p=p5 sz xs) (hcap:xs.length<=cap) (hmax:cap<=maxLen) (hsz:∀x∈xs,x.cells.length=sz) (hg:w.heap[g]? =some (.cells cs e (0,0))) (hcs:cs.size=cap*sz)
  (hO:O g) (hOs:∀i j b,Os i j b->O b/\b≠g) (hdj:∀i j i' j' b,Os i j b->Os i' j' b->i=i'/\j=j')
  (hc:∀(i j:Nat) (x y:PV),xs[i]? =some x->x.cells[j]? =some y->cs[i*sz+j]? =some (val i j))
  (hr:∀(i j:Nat) (x y:PV),xs[i]? =some x->x.cells[j]? =some y->RelT D w (k.at j) (Os i j) (val i j) y):
  RelT D w (some (e,sz,k)) O (.slice (some ⟨g,0,none⟩) xs.length cap) p
theorem RelT.mono{D D':Nat->Prop}{w w':World}(hD:∀b,D b->D' b)(H:∀b,D b->w'.heap[b]? =w.heap[b]?){q:Option (TypeId×Nat×K)}{O:Nat->Prop}{v:Value}{p:PV}(hO:∀b,O b->w'.heap[b]? =w.heap[b]?)(h:RelT D w q O v p):RelT D' w' q O v p:=by induction h with|flat O v p h=>exact .flat O v p (h.mono hD H)|nil q O a=>exact .nil q O a|hdr e sz k O g cap xs p cs val Os hp hcap hmax hsz hg hcs z hOs hdj hc _ N=>exact .hdr e sz k O g cap xs p cs val Os hp hcap hmax hsz ((hO g z).trans hg) hcs z hOs hdj hc λi j x y I J=>N i j x y I J λb E=>hO b (hOs i j b E).1
theorem RelT.wide{D:Nat->Prop}{w:World}{q:Option (TypeId×Nat×K)}{O z:Nat->Prop}{v:Value}{p:PV}(hO:∀b,O b->z b)(h:RelT D w q O v p):RelT D w q z v p:=by cases h with|flat O v p h=>exact .flat z v p h|nil q O a=>exact .nil q z a|hdr e sz k O g cap xs p cs val Os hp hcap hmax hsz hg hcs E hOs hdj hc hr=>exact .hdr e sz k z g cap xs p cs val Os hp hcap hmax hsz hg hcs (hO g E) (λi j b H=>⟨hO b (hOs i j b H).1,(hOs i j b H).2⟩) hdj hc hr
theorem RelT.toP{D D':Nat->Prop}{w:World}{q:Option (TypeId×Nat×K)}{O:Nat->Prop}{v:Value}{p:PV}(hD:∀b,D b->D' b)(hO:∀b,O b->D' b)(h:RelT D w q O v p):RelP D' w v p:=by induction h with|flat O v p h=>exact h.mono hD λ_ _=>rfl|nil q O a=>exact .nil a 0|hdr e sz k O g cap xs p cs val Os hp hcap hmax hsz hg hcs z hOs hdj hc _ J=>subst hp;refine gG hcap λ_=>⟨g,0,rfl,hO g z,hsz,λi j x y H I=>⟨val i j,?_,J i j x y H I λb E=>hO b (hOs i j b E).1⟩⟩;rw[o_,cell_of_row w g _ cs e (0,0) hg];grind
def ei(h:Option (Nat×Nat×BV))(i j:Nat):Option BV:=match h with
 |some (a,b,x)=>if a=i/\b=j then some x else none
 |none=>none
def RelO(θ:List Loc)(D:Nat->Prop)(w:World):Loc->AObj->Prop
 | .blk g,.box t cs=>∃c:Array Value,w.heap[g]? =some (.cells c t (0,0))/\c.size=cs.length/\∀(i:Nat) (u:Value) (x:BV),c[i]? =some u->cs[i]? =some x->RelB θ D w u x
 | .nil _,.vec _ _ xs=>xs=[]
 | .nil _,.tree _ _ _ xs h=>xs=[]/\h=none
 | .hdr g n cap s O,.tree e sz k xs hole=>s=sz/\n=xs.length/\n<=cap/\cap<=maxLen/\(∀x∈xs,x.cells.length=sz)/\∃(c:Array Value) (Os:Nat->Nat->Nat->Prop),w.heap[g]? =some (.cells c e (0,0))/\c.size=cap*sz/\
  (∀i j b,Os i j b->O b/\b≠g)/\(∀i j i' p b,Os i j b->Os i' p b->i=i'/\j=p)/\(∀i j b,hole=some (i,j,b)->i<xs.length/\(k.at j).isSome=true)/\
  ∀(i j:Nat) (x y:PV),xs[i]? =some x->x.cells[j]? =some y->∃u,c[i*sz+j]? =some u/\(match ei hole i j with|some b=>RelB θ D w u b|none=>RelT D w (k.at j) (Os i j) u y)
 | .hdr g n cap s _,.vec e sz xs=>s=sz/\n=xs.length/\n<=cap/\cap<=maxLen/\(∀x∈xs,x.cells.length=sz)/\∃c:Array Value,w.heap[g]? =some (.cells c e (0,0))/\c.size=cap*sz/\
  ∀(i j:Nat) (x y:PV),xs[i]? =some x->x.cells[j]? =some y->∃u,c[i*sz+j]? =some u/\RelP D w u y
 | .mp g,.map _ _ kvs=>∃(f:Array MapEntry) (a:Nat),w.heap[g]? =some (.map f a)/\f.size=kvs.length/\∀(i:Nat) (d:MapEntry) (l:PV×PV),f[i]? =some d->kvs[i]? =some l->RelP D w d.key l.1/\RelP D w d.val l.2
 | .no,.free=>True
 |_,.gone=>True
 |_,_=>False
structure Ok(θ:List Loc)(D:Nat->Prop)(hp:List AObj)(w:World):Prop where
 len:θ.length=hp.length
 dlt:∀b,D b->b<w.heap.size
 inj:∀(i j:Nat) (li lj:Loc) (g:Nat),θ[i]? =some li->θ[j]? =some lj->li.has g->lj.has g->i=j
 olt:∀(i:Nat) (l:Loc) (g:Nat),θ[i]? =some l->l.has g->g<w.heap.size/\¬D g
 objs:∀(i:Nat) (l:Loc) (o:AObj),θ[i]? =some l->hp[i]? =some o->RelO θ D w l o
structure Keep(O:Nat->Prop)(w w':World):Prop where
 os:w'.os=w.os
 tape:w'.tape=w.tape
 output:w'.output=w.output
 size:w.heap.size<=w'.heap.size
 block:∀k,k<w.heap.size->¬O k->w'.heap[k]? =w.heap[k]?
theorem Keep.refl(O:Nat->Prop)(w:World):Keep O w w:=⟨rfl,rfl,rfl,l_ _,λ_ _ _=>rfl⟩
theorem Keep.trans{O:Nat->Prop}{a b c:World}(h:Keep O a b)(k:Keep O b c):Keep O a c:=⟨k.os.trans h.os,k.tape.trans h.tape,k.output.trans h.output,C_ h.size k.size,λi z E=>(k.block i (j_ z h.size) E).trans (h.block i z E)⟩
theorem Keep.of_below{O:Nat->Prop}{w w':World}(h:Below w.heap.size w w'):Keep O w w':=⟨h.os,h.tape,h.output,h.size,λk z _=>h.block k z⟩
theorem Keep.below{w w':World}(h:Keep (λ_=>False) w w'):Below w.heap.size w w':=⟨h.os,h.tape,h.output,h.size,λk z=>h.block k z id⟩
def GW(D:Nat->Prop)(w:World):Prop:=∀w',Keep (λb=>¬D b) w w'->GT w'
theorem GW.mono{D D':Nat->Prop}{w w':World}{O:Nat->Prop}(h:GW D w)(z:Keep O w w')(hO:∀b,D b->¬O b)(hD:∀b,D b->D' b):GW D' w':=λJ E=>
 h J ⟨E.os.trans z.os,E.tape.trans z.tape,E.output.trans z.output,C_ z.size E.size,λk H I=>
  have hd:D k:=al_ I
  (E.block k (j_ H z.size) (λh=>h (hD k hd))).trans (z.block k H (hO k hd))⟩
theorem GW.of{w:World}(h:GT w):GW (λb=>b<w.heap.size) w:=λ_ z=>h.below ⟨z.os,z.tape,z.output,z.size,λk E=>z.block k E (λh=>h E)⟩
structure Ctx where
 n:Nat
 w0:World
 D0:Nat->Prop
 O0:Nat->Prop
 dfs:List Deferred
 th:List Loc
 gk:∀w,Keep O0 w0 w->GW D0 w
structure Inv(c:Ctx)(θ:List Loc)(D:Nat->Prop)(st:St)(a:Act)(w:World):Prop where
 size:a.tmps.size=c.n
 defers:a.defers=c.dfs
 ok:Ok θ D st.hp w
 keep:Keep c.O0 c.w0 w
 dsub:∀b,c.D0 b->D b
 dnew:∀b,D b->c.D0 b\/c.O0 b\/c.w0.heap.size<=b
 onew:∀(i:Nat) (l:Loc) (g:Nat),θ[i]? =some l->l.has g->c.O0 g\/c.w0.heap.size<=g
 fr:∀k x,look st.fr k=some x->RelA θ D w (a.tmps.getD k undef) x
 fix:∀(k:Nat) (l:Loc),c.th[k]? =some l->l.fixed=true->θ[k]? =some l
def Rel(c:Ctx)(st:St)(a:Act)(w:World):Prop:=∃θ D,Inv c θ D st a w
section
variable {θ:List Loc} {D D':Nat->Prop} {w w':World}
theorem RelB.mono(hD:∀b,D b->D' b)(z:∀b,D b->w'.heap[b]? =w.heap[b]?){v:Value}{x:BV}(h:RelB θ D w v x):RelB θ D' w' v x:=by
 cases x<;>simp only[RelB]at h⊢;case pv p=>exact h.mono hD z
 case full p=>exact⟨h.1.mono hD z,h.2⟩
 all_goals omega
theorem RelA.mono(hD:∀b,D b->D' b)(I:∀b,D b->w'.heap[b]? =w.heap[b]?){v:Value}{x:AV}(h:RelA θ D w v x):RelA θ D' w' v x:=by
 cases x with
 |b x=>exact RelB.mono hD I h|agg xs=>obtain⟨vs,H,hs,z⟩:=h;exact⟨vs,H,hs,λi u x E J=>(z i u x E J).mono hD I⟩
 |tup xs=>obtain⟨vs,H,hs,z⟩:=h;exact⟨vs,H,hs,λi u x E J=>(z i u x E J).mono hD I⟩
theorem RelO.mono(hD:∀b,D b->D' b)(N:∀b,D b->w'.heap[b]? =w.heap[b]?){l:Loc}{o:AObj}(hl:∀g,l.has g->w'.heap[g]? =w.heap[g]?)(h:RelO θ D w l o):RelO θ D' w' l o:=by
 cases l<;>cases o<;>simp only[RelO]at h⊢<;>try exact h
 case blk.box g t cs=>obtain⟨c,H,I,z⟩:=h;exact⟨c,(hl g rfl).trans H,I,λi u x hu U=>(z i u x hu U).mono hD N⟩
 case hdr.tree g n cap s O e sz k xs hole=>
  obtain⟨H,I,z,h4,h5,c,Os,h6,h7,Y,h9,gc,el⟩:=h;refine⟨H,I,z,h4,h5,c,Os,(hl g (.inl rfl)).trans h6,h7,Y,h9,gc,λi j x y U hy=>?_⟩;obtain⟨u,e1,J⟩:=el i j x y U hy;refine⟨u,e1,?_⟩;split;·rename_i b R;rw[R]at J;exact J.mono hD N
  ·rename_i R;rw[R]at J;exact J.mono hD N λb R=>hl b (.inr (Y i j b R).1)
 case hdr.vec g n cap s O e sz xs=>obtain⟨H,I,z,h4,h5,c,h6,h7,Y⟩:=h;exact⟨H,I,z,h4,h5,c,(hl g (.inl rfl)).trans h6,h7,λi j x y U hy=>let⟨u,e1,J⟩:=Y i j x y U hy;⟨u,e1,J.mono hD N⟩⟩
 case mp.map g k e kvs=>obtain⟨es,E,H,I,z⟩:=h;exact⟨es,E,(hl g rfl).trans H,I,λi en kv he hk=>⟨(z i en kv he hk).1.mono hD N,(z i en kv he hk).2.mono hD N⟩⟩
theorem RelB.extN{θ':List Loc}(z:∀(i:Nat) (l:Loc),θ[i]? =some l->l≠.no->θ'[i]? =some l){v:Value}{x:BV}(h:RelB θ D w v x):RelB θ' D w v x:=by
 cases x<;>simp only[RelB]at h⊢;·omega
 ·omega
 ·obtain⟨l,H,E⟩:=h;exact⟨l,z _ _ H (λe=>by subst e;exact E),E⟩
 ·grind
 ·grind
 ·grind
 all_goals grind
theorem RelA.extN{θ':List Loc}(z:∀(i:Nat) (l:Loc),θ[i]? =some l->l≠.no->θ'[i]? =some l){v:Value}{x:AV}(h:RelA θ D w v x):RelA θ' D w v x:=by
 cases x with
 |b x=>exact RelB.extN z h|agg xs=>obtain⟨vs,I,hs,E⟩:=h;exact⟨vs,I,hs,λi u x H J=>(E i u x H J).extN z⟩
 |tup xs=>obtain⟨vs,I,hs,E⟩:=h;exact⟨vs,I,hs,λi u x H J=>(E i u x H J).extN z⟩
theorem RelO.extN{θ':List Loc}(z:∀(i:Nat) (l:Loc),θ[i]? =some l->l≠.no->θ'[i]? =some l){l:Loc}{o:AObj}(h:RelO θ D w l o):RelO θ' D w l o:=by
 cases l<;>cases o<;>simp only[RelO]at h⊢<;>try exact h
 case blk.box g t cs=>obtain⟨c,E,J,N⟩:=h;exact⟨c,E,J,λi u x hu R=>(N i u x hu R).extN z⟩
 case hdr.tree g n cap s O e sz k xs hole=>
  obtain⟨E,J,N,h4,h5,c,Os,h6,h7,h8,h9,I,H⟩:=h;refine⟨E,J,N,h4,h5,c,Os,h6,h7,h8,h9,I,λi j x y R hy=>?_⟩;obtain⟨u,Y,U⟩:=H i j x y R hy;refine⟨u,Y,?_⟩;split;·rename_i b hb;rw[hb]at U;exact U.extN z
  grind
theorem RelB.ext{θ':List Loc}(z:∀(i:Nat) (l:Loc),θ[i]? =some l->θ'[i]? =some l){v:Value}{x:BV}(h:RelB θ D w v x):RelB θ' D w v x:=h.extN λi l E _=>z i l E
theorem RelA.ext{θ':List Loc}(z:∀(i:Nat) (l:Loc),θ[i]? =some l->θ'[i]? =some l){v:Value}{x:AV}(h:RelA θ D w v x):RelA θ' D w v x:=h.extN λi l E _=>z i l E
theorem RelO.ext{θ':List Loc}(z:∀(i:Nat) (l:Loc),θ[i]? =some l->θ'[i]? =some l){l:Loc}{o:AObj}(h:RelO θ D w l o):RelO θ' D w l o:=h.extN λi l E _=>z i l E
end
theorem get_append{α:Type}{l m:List α}{i:Nat}{x:α}(h:l[i]? =some x):(l++m)[i]? =some x:=by grind
theorem Inv.below{c:Ctx}{θ:List Loc}{D:Nat->Prop}{st:St}{a:Act}{w w':World}(h:Inv c θ D st a w)(J:Below w.heap.size w w')(Y:c.w0.heap.size<=w.heap.size){D':Nat->Prop}(hD:∀b,D b->D' b) (H:∀b,D' b->D b\/(w.heap.size<=b/\b<w'.heap.size)):Inv c θ D' st a w':=by
 have I:∀b,D b->w'.heap[b]? =w.heap[b]? :=λb z=>J.block b (h.ok.dlt b z);refine⟨h.size,h.defers,⟨h.ok.len,λb z=>?_,h.ok.inj,λi l g N hg=>?_,λi l o N U=>?_⟩,h.keep.trans (.of_below J),λb z=>hD b (h.dsub b z),λb z=>?_,h.onew,λk x R=>(h.fr k x R).mono hD I,h.fix⟩
 ·rcases H b z with E|E;·exact j_ (h.ok.dlt b E) J.size
  omega
 ·obtain⟨E,h2⟩:=h.ok.olt i l g N hg;refine⟨j_ E J.size,λhd=>?_⟩;grind
 ·exact(h.ok.objs i l o N U).mono hD I λg hg=>J.block g (h.ok.olt i l g N hg).1
 ·rcases H b z with E|E;·exact h.dnew b E
  omega
theorem Inv.w0le{c:Ctx}{θ:List Loc}{D:Nat->Prop}{st:St}{a:Act}{w:World}(h:Inv c θ D st a w):c.w0.heap.size<=w.heap.size:=h.keep.size
theorem Inv.drew{c:Ctx}{θ:List Loc}{D:Nat->Prop}{st:St}{a:Act}{w:World}(h:Inv c θ D st a w):Inv c θ D st a w.drew:=h.below ((Below.refl _ _).drew) h.w0le (λ_ z=>z) (λ_ z=>.inl z)
theorem Inv.put{c:Ctx}{θ:List Loc}{D:Nat->Prop}{st:St}{a:Act}{w:World}(h:Inv c θ D st a w){d:Option Nat}{v:Value}{x:AV}(hd:∀k,d=some k->k<c.n)(I:RelA θ D w v x):Inv c θ D (st.putO d x) (a.put d v) w:=by
 cases d with
 |none=>exact h|some k=>
  have H:=hd k rfl;refine⟨by simpa[Act.put,St.putO,St.put]using h.size,h.defers,h.ok,h.keep,h.dsub,h.dnew,h.onew,λj y E=>?_,h.fix⟩;simp only[St.putO,St.put,look]at E;have hs:k<a.tmps.size:=by rw[h.size];omega
  by_cases z:j=k;·subst z;simp only[if_true]at E;cases E;simp[Act.put,hs];omega
  ·simp only[z,if_false]at E;have:=h.fr j y E;simp[Act.put,Array.getElem?_setIfInBounds_ne (Ne.symm z)]at this⊢;omega
theorem Inv.push{c:Ctx}{θ:List Loc}{D:Nat->Prop}{st:St}{a:Act}{w:World}(h:Inv c θ D st a w){l:Loc}{o:AObj}(ho:RelO (θ++[l]) D w l o) (hl:∀g,l.has g->c.w0.heap.size<=g/\g<w.heap.size/\¬D g/\∀(i:Nat) (li:Loc),θ[i]? =some li->¬li.has g):Inv c (θ++[l]) D {st with hp:=st.hp++[o]} a w:=by
 have E:∀(i:Nat) (l':Loc),θ[i]? =some l'->(θ++[l])[i]? =some l':=λi l' H=>get_append H;have z:∀(i:Nat) (l':Loc),(θ++[l])[i]? =some l'->θ[i]? =some l'\/(i=θ.length/\l'=l):=by grind
 refine⟨h.size,h.defers,⟨by simp[h.ok.len],h.ok.dlt,λi j li lj g H hj N R=>?_,λi l' g H hg=>?_,λi l' o' H J=>?_⟩,h.keep,h.dsub,h.dnew,λi l' g H hg=>?_,λk x U=>(h.fr k x U).ext E,λk l U hf=>E k l (h.fix k l U hf)⟩
 ·rcases z i li H with I|⟨rfl,rfl⟩<;>rcases z j lj hj with h2|⟨rfl,rfl⟩;·exact h.ok.inj i j li lj g I h2 N R
  all_goals grind
 ·rcases z i l' H with I|⟨rfl,rfl⟩;·exact h.ok.olt i l' g I hg
  grind
 ·rcases z i l' H with I|⟨rfl,rfl⟩
  ·have Y:i<st.hp.length:=by rw[<-h.ok.len];grind
   rw[q_ Y]at J;exact(h.ok.objs i l' o' I J).ext E
  ·rw[h.ok.len,p_ (l_ _)]at J;grind
 ·rcases z i l' H with I|⟨rfl,rfl⟩;·exact h.onew i l' g I hg
  grind
theorem Inv.free_no{c:Ctx}{θ:List Loc}{D:Nat->Prop}{st:St}{a:Act}{w:World}(h:Inv c θ D st a w){s:Nat}(hs:st.hp[s]? =some .free):θ[s]? =some .no:=by
 have H:s<st.hp.length:=(a_.1 hs).1;have z:s<θ.length:=by rw[h.ok.len];omega
 have E:=d_ z;have:=h.ok.objs s _ _ E hs;rw[E];cases I:θ[s]<;>rw[I]at this<;>simp only[RelO]at this
theorem Inv.fill{c:Ctx}{θ:List Loc}{D:Nat->Prop}{st:St}{a:Act}{w:World}(h:Inv c θ D st a w){s:Nat}(hs:st.hp[s]? =some .free){l:Loc}{o:AObj}(ho:RelO (θ.set s l) D w l o) (hl:∀g,l.has g->c.w0.heap.size<=g/\g<w.heap.size/\¬D g/\∀(i:Nat) (li:Loc),θ[i]? =some li->¬li.has g):Inv c (θ.set s l) D {st with hp:=st.hp.set s o} a w:=by
 have gc:s<st.hp.length:=(a_.1 hs).1;have el:s<θ.length:=by rw[h.ok.len];omega
 have ph:=h.free_no hs;have H:∀(i:Nat) (l':Loc),θ[i]? =some l'->l'≠.no->(θ.set s l)[i]? =some l':=λi l' I hn=>by grind
 have z:∀(i:Nat) (l':Loc),(θ.set s l)[i]? =some l'->(i=s/\l'=l)\/(i≠s/\θ[i]? =some l'):=λi l' I=>by grind
 refine⟨h.size,h.defers,⟨by simp[h.ok.len],h.ok.dlt,λi j li lj g I hj U Y=>?_,λi l' g I hg=>?_,λi l' o' I J=>?_⟩,h.keep,h.dsub,h.dnew,λi l' g I hg=>?_,λk x hk=>(h.fr k x hk).extN H,λk l hk hf=>H k l (h.fix k l hk hf) (λe=>by subst e;cases hf)⟩
 ·rcases z i li I with⟨rfl,rfl⟩|⟨N,E⟩<;>rcases z j lj hj with⟨rfl,rfl⟩|⟨h2,R⟩;·rfl
  ·grind
  ·grind
  ·exact h.ok.inj i j li lj g E R U Y
 ·rcases z i l' I with⟨rfl,rfl⟩|⟨N,E⟩;·grind
  ·exact h.ok.olt i l' g E hg
 ·rcases z i l' I with⟨rfl,rfl⟩|⟨N,E⟩;·grind
  ·rw[v_ (Ne.symm N)]at J;exact(h.ok.objs i l' o' E J).extN H
 ·rcases z i l' I with⟨rfl,rfl⟩|⟨N,E⟩;·grind
  ·exact h.onew i l' g E hg
def owns(θ:List Loc)(b:Nat):Prop:=∃(i:Nat) (l:Loc),θ[i]? =some l/\l.has b
abbrev MV:=Option (AV×List AObj)
def A5(a:List PanicEntry):Prop:=∃t v,a=[{v:=.iface t v,recovered:=false}]
def Back(θ:List Loc)(D:Nat->Prop)(w:World)(K:MV->Prop)(e:Ending)(w':World):Prop:=
 (∃v r a θ' D',e= .returned v/\K (some (r,a))/\RelA θ' D' w' v r/\Ok θ' D' a w'/\Keep (owns θ) w w'/\(∀b,D b->D' b)/\(∀b,D' b->D b\/owns θ b\/w.heap.size<=b)/\
  (∀(i:Nat) (l:Loc) (g:Nat),θ'[i]? =some l->l.has g->owns θ g\/w.heap.size<=g)/\(∀(k:Nat) (l:Loc),θ[k]? =some l->l.fixed=true->θ'[k]? =some l)/\θ.length<=θ'.length)\/
 (∃c,A5 c/\e= .panicked c/\K none/\Keep (owns θ) w w')
def ACalls(P:Program)(f:FuncId)(ars:List AV)(os:List AObj)(K:MV->Prop):Prop:=
 ∀(w:World) (θ:List Loc) (D:Nat->Prop) (vs:List Value),GW D w->Ok θ D os w->vs.length=ars.length->(∀(i:Nat) (v:Value) (x:AV),vs[i]? =some v->ars[i]? =some x->RelA θ D w v x)->
  Calls P f vs.toArray w (Back θ D w K)
theorem Back.mono{θ:List Loc}{D:Nat->Prop}{w w':World}{K J:MV->Prop}{e:Ending}(h:Back θ D w K e w')(N:∀o,K o->J o):Back θ D w J e w':=by
 rcases h with⟨v,r,I,θ',D',z,E,H⟩|⟨R,U,z,E,H⟩;·exact .inl ⟨v,r,I,θ',D',z,N _ E,H⟩
 ·exact .inr ⟨R,U,z,N _ E,H⟩
theorem ACalls.mono{P:Program}{f:FuncId}{ars:List AV}{os:List AObj}{K z:MV->Prop}(h:ACalls P f ars os K)(R:∀o,K o->z o):ACalls P f ars os z:=λw θ D vs E H I J=>(h w θ D vs E H I J).mono λ_ _ N=>N.mono R
def BV.FlatB:BV->Prop
 | .pv p=>p.Flat
 | .full _=>False
 |_=>True
def AV.FlatA:AV->Prop
 | .b x=>x.FlatB
 | .agg xs=>∀x∈xs,x.FlatB
 | .tup xs=>∀x∈xs,x.FlatB
inductive FlatT:Option (TypeId×Nat×K)->PV->Prop
 |flat (p:PV) (h:p.Flat):FlatT none p
 |sl (e:TypeId) (sz:Nat) (k:K) (p:PV) (xs:List PV) (hp:p=p5 sz xs) (h:∀(i j:Nat) (x y:PV),xs[i]? =some x->x.cells[j]? =some y->FlatT (k.at j) y):FlatT (some (e,sz,k)) p
def flatT(k:K)(xs:List PV):Prop:=∀(i j:Nat) (x y:PV),xs[i]? =some x->x.cells[j]? =some y->FlatT (k.at j) y
def AObj.FlatO:AObj->Prop
 | .gone=>True
 | .free=>True
 | .box _ cs=>∀x∈cs,x.FlatB
 | .vec _ _ xs=>∀x∈xs,∀y∈x.cells,y.Flat
 | .map _ _ kvs=>∀z∈kvs,z.1.Flat/\z.2.Flat
 | .tree _ _ k xs h=>(∀i j b,h=some (i,j,b)->b.FlatB)/\flatT k xs
def mh(P:Program)(t:TypeId):Bool:=match P.underlying t with
 |some (.struct _)=>true
 |some (.array _ _)=>true
 |_=>false
def eqP(P:Program):Nat->TypeId->PV->PV->Option Bool
 |0,_,_,_=>none
 |d+1,t,x,y=>match P.underlying t,x,y with
  |some .bool,.sc (.bool a),.sc (.bool b)=>some (a==b)
  |some (.int _),.sc (.int k a),.sc (.int e b)=>if k=e then some (a==b)else none
  |some .string,.sc (.string a),.sc (.string b)=>some (a==b)
  |some (.struct c),.agg xs,.agg ys=>if P.stoodInHeld t then none else eqFs d c.toList xs ys
  |_,_,_=>none
where eqFs (d:Nat):List Field->List PV->List PV->Option Bool
 |[],_,_=>some true
 |f::l,xs,ys=>if f.name= "_" then none else(P.info? f.type).bind λi=>if(P.underlying f.type).isNone\/xs.length<f.offset+i.size\/ys.length<f.offset+i.size\/(mh P f.type=false/\i.size≠1)then none else
  (eqP P d f.type ((PV.agg xs).sub f.offset i.size (mh P f.type)) ((PV.agg ys).sub f.offset i.size (mh P f.type))).bind λb=>if b then eqFs d l xs ys else some false
def Ka(P:Program):Nat->TypeId->PV->Bool
 |0,_,_=>false
 |d+1,t,p=>match P.underlying t,p with
  |some .bool,.sc (.bool _)=>true
  |some (.int _),.sc (.int _ _)=>true
  |some .string,.sc (.string _)=>true
  |some (.struct a),.agg xs=>a.toList.all λf=>f.name != "_" &&(match P.info? f.type with
   |some i=>(P.underlying f.type).isSome&&decide (f.offset+i.size<=xs.length)&&(mh P f.type||decide (i.size=1))&&Ka P d f.type ((PV.agg xs).sub f.offset i.size (mh P f.type))
   |none=>false)
  |_,_=>false
def CN(P:Program)(k:TypeId)(x:PV):List (PV×PV)->Nat->Option (Option (Nat×PV))
 |[],_=>some none
 |a::l,i=>(eqP P 64 k x a.1).bind λb=>if b then some (some (i,a.2))else CN P k x l (i+1)
def fU(P:Program)(f:FuncId):Bool:=match P.funcs[f]? with
 |some fn=>fn.body.isSome&&fn.name != "runtime.NumGoroutine"
 |none=>false
def ou(P:Program)(st:St)(op:SOp)(K:AV->Prop):Prop:=
 match op with
 | .mv x=>aU (st.get x) K
 | .pick c a b=>aU (st.get c) λc=>Ju c λt=>isBool t λt=>(t=true->aU (st.get a) K)/\(t=false->aU (st.get b) K)
 | .bin op x y=>aU (st.get x) λx=>aU (st.get y) λy=>Ju x λx=>Ju y λy=>SI op x y λv=>K (.v v)
 | .eqB neg x y=>aU (st.get x) λx=>aU (st.get y) λy=>Ju x λx=>Ju y λy=>isBool x λa=>isBool y λb=>K (.v (.bool (neg ^^ (a==b))))
 | .un op x=>aU (st.get x) λx=>Ju x λx=>unV op x λv=>K (.v v)
 | .len str x=>aU (st.get x) λx=>match str with
  |false=>isLen st.hp x λn=>K (.v (.int .i64 n))
  |true=>Ju x λx=>V6 x λs=>K (.v (.int .i64 s.size))
 | .lenM k e x=>aU (st.get x) λx=>isMap st.hp k e x λ_ kvs=>K (.v (.int .i64 kvs.length))
 | .idxS x i=>aU (st.get x) λx=>aU (st.get i) λi=>Ju x λx=>Ju i λi=>isInt i λ_ n=>V6 x λs=>0<=n/\n<s.size/\K (.v (.int .u8 (s.toList.getD n.toNat 0).toNat))
 | .idxV n sz ag x i=>aU (st.get x) λx=>aU (st.get i) λi=>Ju i λi=>isInt i λ_ m=>aU x.toPV λp=>0<=m/\m<n/\(ag=false->sz=1)/\p.cells.length=n*sz/\p.isAgg=true/\K (.p (p.sub (m.toNat*sz) sz ag))
 | .idxA sz x i=>aU (st.get x) λx=>aU (st.get i) λi=>Ju i λi=>isInt i λ_ n=>
  ((∃L,x= .p (p5 sz L)/\0<=n/\n<L.length/\K (.p (.pto (L.getD n.toNat .any))))\/(∃id,x= .b (.sl id)/\aU st.hp[id]? λo=>(∃e L,o= .vec e sz L/\0<=n/\n<L.length/\K (.b (.elt id n.toNat 0)))\/(∃e k L h,o= .tree e sz k L h/\0<=n/\n<L.length/\K (.b (.elt id n.toNat 0)))))
 | .idxP n sz ag x i=>aU (st.get x) λx=>aU (st.get i) λi=>Ju i λi=>isInt i λ_ m=>0<=m/\m<n/\((∃id off,x= .b (.ptr id off)/\K (.b (.ptr id (off+m.toNat*sz))))\/
  (∃p,x= .p (.pto p)/\p.cells.length=n*sz/\(ag=false->sz=1)/\(p.sub (m.toNat*sz) sz ag).isAgg=ag/\K (.p (.pto (p.sub (m.toNat*sz) sz ag)))))
 | .fldA off sz ag x=>aU (st.get x) λx=>(∃p,x= .p (.pto p)/\off+sz<=p.cells.length/\(ag=false->sz=1)/\(p.sub off sz ag).isAgg=ag/\K (.p (.pto (p.sub off sz ag))))\/(∃id o,x= .b (.ptr id o)/\K (.b (.ptr id (o+off))))\/(∃id i o,x= .b (.elt id i o)/\K (.b (.elt id i (o+off))))
 | .fld off sz ag x=>aU (st.get x) λx=>(∃p,x= .p p/\p.isAgg=true/\off+sz<=p.cells.length/\(ag=false->sz=1)/\K (.p (p.sub off sz ag)))\/(∃cs,x= .agg cs/\off+sz<=cs.length/\(ag=false->sz=1)/\K (tG ag ((cs.drop off).take sz)))
 | .load sz ag x=>aU (st.get x) λx=>Le st.hp sz ag x K
 | .cvtI k x=>aU (st.get x) λx=>Ju x λx=>isInt x λ_ n=>K (.v (.int k (k.wrap n)))
 | .slc sz x lo u mx=>aU (st.get x) λx=>(aU x.toPV λq=>∃L,q=p5 sz L/\bnd st lo 0 λl=>bnd st u L.length λh=>bnd st mx L.length λm=>
  (mx.isSome=true->u.isSome=true)/\l<=h/\h<=m/\m<=L.length/\
   (K (.p (p5 sz ((L.take h).drop l)))\/(mx.isSome=true/\h=m/\K (.b (.full (p5 sz ((L.take h).drop l)))))))\/
  ∃id,x= .b (.sl id)/\aU st.hp[id]? λo=>∃e k L g,o= .tree e sz k L g/\bnd st lo 0 λl=>bnd st u L.length λh=>bnd st mx L.length λm=>
   (mx.isSome=true->u.isSome=true)/\l<=h/\h<=m/\m<=L.length/\h=l/\K (.p (.list 0 []))
 | .slcS x lo u=>aU (st.get x) λx=>Ju x λx=>V6 x λs=>bnd st lo 0 λl=>bnd st u s.size λh=>
  l<=h/\h<=s.size/\K (.v (.string (s.extract l h)))
 | .ext x i=>aU (st.get x) λx=>(∃xs,x= .p (.tup xs)/\aU xs[i]? λp=>K (.p p))\/(∃xs,x= .tup xs/\aU xs[i]? λp=>K (.b p))
 | .nilc x=>aU (st.get x) λx=>((∃p,x= .p (.pto p))\/(∃id o,x= .b (.ptr id o))\/(∃id i o,x= .b (.elt id i o))\/(∃f d,x= .p (.fn (.func f) d))\/(∃f ids,x= .b (.clo (.func f) ids)))/\K x
 | .build zero parts=>aU (parts.mapM λq=>(st.get q.2.2).map λa=>(q.1,q.2.1,a)) λd=>
  (∀q∈d,q.2.2.ok=true/\q.2.2.cells.length=q.2.1/\q.1+q.2.1<=zero.length)/\K (.agg (d.foldl (λcs q=>splice cs q.1 q.2.2.cells) (zero.map λv=>bJ v)))
 | .call bor f args=>aU (args.mapM λx=>(st.get x).bind (oM st.hp bor)) λd=>ACalls P f (d.map .p) [] λo=>∃r j,o=some (r,j)/\r.ids=[]/\(bor=true->r.FlatA)/\K r
 | .callp bor x args=>aU (st.get x) λx=>∃f cs,x= .p (.fn (.func f) cs)/\fU P f=true/\aU (args.mapM λx=>(st.get x).bind (oM st.hp bor)) λd=>ACalls P f ((d++cs).map .p) [] λo=>∃r j,o=some (r,j)/\r.ids=[]/\(bor=true->r.FlatA)/\K r
 | .boxD _ x=>aU (st.get x) λx=>aU x.toPV λp=>x.ok=true/\(∀q,x≠.b (.full q))/\K (.p (.pto p))
 | .b2s x=>aU (st.get x) λx=>vl st.hp 1 x λL=>aU (bytesOf L) λl=>K (.v (.string (strOfNums l)))
 | .bslice false _ sz len parts=>aU (parts.mapM λx=>(st.get x).bind AV.toPV) λd=>d.length=len/\0<sz/\len*sz<=16777216/\(∀p∈d,p.cells.length=sz/\p.ok=true)/\(K (.p (p5 sz d))\/K (.b (.full (p5 sz d))))
 | .mkfn f caps=>aU (caps.mapM st.get) λars=>(∃ids:List Nat,ars=ids.map (λi=>.b (.ptr i 0))/\K (.b (.clo (.func f) ids)))\/(∃d:List PV,ars=d.map .p/\K (.p (.fn (.func f) d)))
 | .lookup k e ok zero m x=>aU (st.get m) λm=>aU (st.get x) λx=>isMap st.hp k e m λ_ kvs=>aU x.toPV λp=>Ka P 64 k p=true/\(P.underlying k).isSome=true/\(∀B∈kvs,(eqP P 64 k p B.1).isSome=true)/\aU (CN P k p kvs 0) λr=>
  K (match ok with
   |true=>.tup [.pv (match r with|some (_,v)=>v|none=>.sc zero),.pv (.sc (.bool r.isSome))]
   |false=>.p (match r with|some (_,v)=>v|none=>.sc zero))
 | .eqT neg t x y=>aU (st.get x) λx=>aU (st.get y) λy=>aU x.toPV λp=>aU y.toPV λq=>aU (eqP P 64 t p q) λb=>K (.v (.bool (neg ^^ b)))
 | .mnmx mx k x ys=>aU (st.get x) λx=>Ju x λv=>isInt v λA n=>aU (ys.mapM st.get) λars=>∃z:List Int,A=k/\ars=z.map (λn=>.v (.int k n))/\
  K (.v (.int k (z.foldl (λa b=>if mx then max a b else min a b) n)))
 | .iface _ x=>aU (st.get x) λ_=>K (.b .ifc)
 | .appD _ sz bytes x y=>aU (st.get x) λx=>aU (st.get y) λy=>vl st.hp sz y λL=>(∀p∈L,p.ok=true)/\
  ∃w,((x= .b .nils/\w=[])\/x= .b (.full (p5 sz w)))/\(w.length+L.length)*bytes<=140737488355328/\K (.p (p5 sz (w++L)))
 | .bsliceN _ sz len parts=>aU (parts.mapM λx=>(st.get x).bind AV.toPVn) λd=>d.length=len/\0<sz/\len*sz<=16777216/\(∀p∈d,p.cells.length=sz/\p.ok=true)/\K (.p (p5 sz d))
 |_=>False
def St.new(st:St)(pl:Option Nat)(o:AObj):St:=match pl with
 |none=>{st with hp:=st.hp++[o]}
 |some s=>{st with hp:=st.hp.set s o}
def St.nid(st:St)(pl:Option Nat):Nat:=pl.getD st.hp.length
def IX(st:St):Option Nat->Prop
 |none=>True
 |some s=>st.hp[s]? =some .free
def Ou(st:St)(op:SOp)(R:AObj->(Nat->BV)->Prop):Prop:=
 match op with
 | .alloc t zero=>R (.box t (zero.map λv=>bJ v)) λn=>.ptr n 0
 | .box t x=>aU (st.get x) λx=>x.ok=true/\R (.box t x.cells) λn=>.ptr n 0
 | .bslice true e sz len parts=>aU (parts.mapM λx=>(st.get x).bind AV.toPV) λa=>a.length=len/\0<sz/\len*sz<=16777216/\(∀p∈a,p.cells.length=sz/\p.ok=true)/\R (.vec e sz a) .sl
 | .mslice e sz bytes zero l c=>aU (st.get l) λl=>aU (st.get c) λc=>Ju l λl=>Ju c λc=>isInt l λ_ l=>isInt c λ_ c=>
  0<=l/\l<=c/\c<=9223372036854775807/\bytes*c<=281474976710656/\(jF zero).cells.length=sz/\0<sz/\aU (jF zero).toPV λz=>z.ok=true/\R (.vec e sz (F_ l.toNat z)) .sl
 | .append e sz bytes x y=>aU (st.get x) λx=>aU (st.get y) λy=>vl st.hp sz y λL=>(∀p∈L,p.ok=true)/\
  (x= .b .nils\/x= .b (.full (.list 0 [])))/\L.length*bytes<=140737488355328/\R (.vec e sz L) .sl
 | .mkmap k e=>R (.map k e []) .mp
 |_=>False
def sexec(P:Program)(d:Option Nat)(op:SOp)(st:St)(K KP:St->Prop):Prop:=
 match op with
 | .store sz x v=>aU (st.get x) λx=>aU (st.get v) λv=>d=none/\Kp st.hp sz x v λhp=>K {st with hp:=hp}
 | .alloc t zero=>K ({st with hp:=st.hp++[AObj.box t (zero.map λv=>bJ v)]}.putO d (.b (.ptr st.hp.length 0)))
 | .box t x=>aU (st.get x) λx=>x.ok=true/\K ({st with hp:=st.hp++[AObj.box t x.cells]}.putO d (.b (.ptr st.hp.length 0)))
 | .bslice true e sz len parts=>aU (parts.mapM λx=>(st.get x).bind AV.toPV) λb=>b.length=len/\0<sz/\len*sz<=16777216/\(∀p∈b,p.cells.length=sz/\p.ok=true)/\
  K ({st with hp:=st.hp++[AObj.vec e sz b]}.putO d (.b (.sl st.hp.length)))
 | .mslice e sz bytes zero l c=>aU (st.get l) λl=>aU (st.get c) λc=>Ju l λl=>Ju c λc=>isInt l λ_ l=>isInt c λ_ c=>
  0<=l/\l<=c/\c<=9223372036854775807/\bytes*c<=281474976710656/\(jF zero).cells.length=sz/\0<sz/\aU (jF zero).toPV λz=>z.ok=true/\K ({st with hp:=st.hp++[AObj.vec e sz (F_ l.toNat z)]}.putO d (.b (.sl st.hp.length)))
 | .append e sz bytes x y=>aU (st.get x) λx=>aU (st.get y) λy=>vl st.hp sz y λL=>(∀p∈L,p.ok=true)/\
  ((∃id,x= .b (.sl id)/\aU st.hp[id]? λo=>∃xs,o= .vec e sz xs/\(xs.length+L.length)*bytes<=140737488355328/\
   K ((st.moved id (.vec e sz (xs++L))).putO d (.b (.sl id))))\/
   ((x= .b .nils\/x= .b (.full (.list 0 [])))/\L.length*bytes<=140737488355328/\K ({st with hp:=st.hp++[AObj.vec e sz L]}.putO d (.b (.sl st.hp.length)))))
 | .callA bor B f args=>aU (args.mapM λx=>(st.get x).bind (wE st.hp bor B)) λars=>aU (B.mapM (st.hp[·]?)) λos=>
  callK P st d bor B f ars os K KP
 | .callv bor B x args=>aU (st.get x) λx=>∃f caps,((∃ids:List Nat,x= .b (.clo (.func f) ids)/\caps=ids.map λi=>.b (.ptr i 0))\/(∃b:List PV,x= .p (.fn (.func f) b)/\caps=b.map AV.p))/\fU P f=true/\
  aU (args.mapM λx=>(st.get x).bind (wE st.hp bor B)) λars=>aU (B.mapM (st.hp[·]?)) λos=>callK P st d bor B f (ars++caps) os K KP
 | .msliceT k e sz bytes zero l c=>aU (st.get l) λl=>aU (st.get c) λc=>Ju l λl=>Ju c λc=>isInt l λ_ l=>isInt c λ_ c=>
  0<=l/\l<=c/\c<=9223372036854775807/\bytes*c<=281474976710656/\(jF zero).cells.length=sz/\0<sz/\aU (jF zero).toPVn λz=>z.ok=true/\k.nilsB z.cells=true/\K ({st with hp:=st.hp++[AObj.tree e sz k (F_ l.toNat (k.unnil z)) none]}.putO d (.b (.sl st.hp.length)))
 | .appT k e sz bytes x y=>aU (st.get x) λx=>aU (st.get y) λy=>vl st.hp sz y λL=>(∀p∈L,p.ok=true/\k.nilsB p.cells=true)/\
  ((∃id,x= .b (.sl id)/\aU st.hp[id]? λo=>∃xs,o= .tree e sz k xs none/\(xs.length+L.length)*bytes<=140737488355328/\
   K ((st.moved id (.tree e sz k (xs++L.map k.unnil) none)).putO d (.b (.sl id))))\/
   (x= .b .nils/\L.length*bytes<=140737488355328/\K ({st with hp:=st.hp++[AObj.tree e sz k (L.map k.unnil) none]}.putO d (.b (.sl st.hp.length)))))
 | .mkmap k e=>K ({st with hp:=st.hp++[AObj.map k e []]}.putO d (.b (.mp st.hp.length)))
 | .mapset k e m x v=>aU (st.get m) λm=>aU (st.get x) λx=>aU (st.get v) λv=>isMap st.hp k e m λid kvs=>aU x.toPV λp=>aU v.toPV λq=>d=none/\p.plain=true/\
  Ka P 64 k p=true/\(P.underlying k).isSome=true/\(∀h∈kvs,(eqP P 64 k p h.1).isSome=true)/\aU (CN P k p kvs 0) λr=>(∀i u,r=some (i,u)->∃j,kvs[i]? =some (p,j))/\K {st with hp:=st.hp.set id (.map k e (match r with|some (i,_)=>kvs.set i (p,q)|none=>kvs++[(p,q)]))}
 | .copy e sz x y=>aU (st.get x) λx=>aU (st.get y) λy=>vl st.hp sz y λL=>(∀p∈L,p.ok=true)/\∃id,x= .b (.sl id)/\y≠x/\aU st.hp[id]? λo=>∃xs,o= .vec e sz xs/\
  K ({st with hp:=st.hp.set id (.vec e sz (L.take xs.length++xs.drop L.length))}.putO d (.v (.int .i64 ((min xs.length L.length:Nat):Int))))
 | .panic x=>aU (st.get x) λa=>a= .b .ifc/\KP st
 | .atq s op=>Ou st op λo mk=>IX st (some s)/\K ((st.new (some s) o).putO d (.b (mk s)))
 |op=>ou P st op λa=>K (st.putO d a)
where
 callK (P:Program) (st:St) (d:Option Nat) (bor:Bool) (B:List Nat) (f:FuncId) (ars:List AV) (os:List AObj) (K KP:St->Prop):Prop:=
  B.Nodup/\(∀a∈ars,∀i∈a.ids,i∈B)/\(∀o∈os,∀i∈o.ids,i∈B)/\
  ACalls P f (ars.map (AV.ren (B.idxOf ·))) (os.map (AObj.ren (B.idxOf ·))) λo=>match o with
   |some (r,g)=>(bor=true->r.FlatA/\∀o∈g,o.FlatO)/\K ((st.back B g).putO d (r.ren (lG B st.hp.length)))
   |none=>KP (st.back B (os.map λ_=>.gone))
def m5(P:Program)(o:SOper)(st:St)(K KP:St->Prop):Prop:=
 match o.gd with
 |none=>sexec P o.dst o.op st K KP
 |some (t,want)=>aU (look st.fr t) λg=>Ju g λv=>(yv v=some want->sexec P o.dst o.op st K KP)/\(yv v≠some want->K (st.putO o.dst (.v undef)))
def Weak(m:Nat)(s s':St):Prop:=∀(c:Ctx) (a:Act) (w:World),c.th.length<=m->Rel c s a w->Rel c s' a w
def W(m:Nat)(f:St->Prop)(s:St):Prop:=∃s',Weak m s s'/\f s'
theorem W.mk{m:Nat}{f:St->Prop}{s:St}(h:f s):W m f s:=⟨s,λ_ _ _ _ h=>h,h⟩
theorem W.to{m:Nat}{f:St->Prop}{s:St}(s':St)(z:Weak m s s')(h:f s'):W m f s:=⟨s',z,h⟩
theorem Weak.refl(m:Nat)(s:St):Weak m s s:=λ_ _ _ _ h=>h
theorem Weak.trans{m:Nat}{a b c:St}(h:Weak m a b)(k:Weak m b c):Weak m a c:=λ_ _ _ z hr=>k _ _ _ z (h _ _ _ z hr)
theorem W.from{m:Nat}{f:St->Prop}{s s':St}(h:Weak m s s')(k:W m f s'):W m f s:=let⟨H,z,E⟩:=k;⟨H,h.trans z,E⟩
theorem W.mono{m:Nat}{f g:St->Prop}{s:St}(h:W m f s)(H:∀x,f x->g x):W m g s:=let⟨s',z,E⟩:=h;⟨s',z,H s' E⟩
def sops(P:Program)(m:Nat):List SOper->St->(St->Prop)->(St->Prop)->Prop
 |[],st,K,_=>W m K st
 |o::l,st,K,KP=>W m (λst=>m5 P o st (λa=>sops P m l a K KP) KP) st
def bZ(P:Program)(t:TypeId):Option Nat:=(P.info? t).map (·.size)
def mC(P:Program)(t:TypeId):Option Nat:=(P.info? t).map (·.bytes)
def eP(P:Program)(t:TypeId):Option Value:=(P.info? t).bind (·.zero)
def iP(P:Program)(t:TypeId):Option TypeId:=match P.underlying t with
 |some (.slice e)=>some e
 |_=>none
def E7(P:Program)(s:TypeId)(f:Nat):Option Field:=match P.underlying s with
 |some (.struct a)=>a[f]?
 |_=>none
def partsOf(P:Program)(t:TypeId)(parts:List (Nat×Operand)):Option (List (Nat×Nat×SX)):=
 match P.underlying t with
 |some (.struct c)=>(c.toList.mapM λf=>(P.info? f.type).map λi=>(f.offset,i.size)).bind λa=>parts.mapM λq=>(a[q.1]?).map λpl=>(pl.1,pl.2,SX.of q.2)
 |some (.array _ e)=>(P.info? e).bind λb=>parts.mapM λq=>some (q.1*b.size,b.size,SX.of q.2)
 |_=>none
def yk(parts:List (Nat×Operand)):Bool:=(parts.map (·.1))==ak_ parts.length
def lH(P:Program)(o:Oper):Option SOp:=
 match o.op with
 | .move x| .assign x=>some (.mv (.of x))
 | .pick c a b=>some (.pick (.of c) (.of a) (.of b))
 | .binOp op t x y _=>match P.underlying t with
  |some (.int _)=>some (.bin op (.of x) (.of y))
  |some .string=>some (.bin op (.of x) (.of y))
  |some .bool=>match op with
   | .eql=>some (.eqB false (.of x) (.of y))
   | .neq=>some (.eqB true (.of x) (.of y))
   |_=>none
  |some (.struct _)=>match op with
   | .eql=>some (.eqT false t (.of x) (.of y))
   | .neq=>some (.eqT true t (.of x) (.of y))
   |_=>none
  |_=>none
 | .unOp op _ x=>some (.un op (.of x))
 | .call c=>match c.callee with
  | .builtin .len=>match c.args.toList,c.argTypes.toList with
   |[x],[t]=>match P.underlying t with
    |some (.slice _)=>some (.len false (.of x))
    |some .string=>some (.len true (.of x))
    |some (.array n _)=>some (.mv (.c (.int .i64 n)))
    |some (.map k e)=>some (.lenM k e (.of x))
    |_=>none
   |_,_=>none
  | .builtin .append=>match c.args.toList,c.argTypes.toList with
   |[x,y],[t,u]=>if t=u then(iP P t).bind λe=>(bZ P e).bind λs=>(mC P e).bind λb=>(eP P e).bind λz=>if z.cells.size=s/\0<s/\0<b then some (.append e s b (.of x) (.of y))else none else none
   |_,_=>none
  | .builtin .copy=>match c.args.toList,c.argTypes.toList with
   |[x,y],[t,u]=>(iP P t).bind λe=>(iP P u).bind λp=>(bZ P e).bind λs=>if e=p/\0<s then some (.copy e s (.of x) (.of y))else none
   |_,_=>none
  | .builtin .min=>match c.args.toList,c.argTypes.toList with
   |x::ys,t::_=>match P.underlying t with
    |some (.int k)=>some (.mnmx false k (.of x) (ys.map SX.of))
    |_=>none
   |_,_=>none
  | .builtin .max=>match c.args.toList,c.argTypes.toList with
   |x::ys,t::_=>match P.underlying t with
    |some (.int k)=>some (.mnmx true k (.of x) (ys.map SX.of))
    |_=>none
   |_,_=>none
  | .value (.func f)=>if fU P f then some (.call false f (c.args.toList.map SX.of))else none
  | .value (.tmp t)=>some (.callv false [] (.tm t) (c.args.toList.map SX.of))
  |_=>none
 | .index t x i=>match P.underlying t with
  |some .string=>some (.idxS (.of x) (.of i))
  |some (.array n e)=>if(P.underlying e).isSome then(bZ P e).map λs=>.idxV n s (mh P e) (.of x) (.of i)else none
  |_=>none
 | .indexAddr t x i=>match P.underlying t with
  |some (.slice e)=>(bZ P e).map λs=>.idxA s (.of x) (.of i)
  |some (.array n e)=>(bZ P e).map λs=>.idxP n s (mh P e) (.of x) (.of i)
  |_=>none
 | .fieldAddr s x f=>(E7 P s f).bind λh=>(bZ P h.type).bind λsz=>if sz=0 then none else some (.fldA h.offset sz (mh P h.type) (.of x))
 | .field s x f=>(E7 P s f).bind λh=>if(P.underlying h.type).isSome then(bZ P h.type).map λsz=>.fld h.offset sz (mh P h.type) (.of x)else none
 | .load t x=>(bZ P t).bind λsz=>if(P.underlying t).isSome then some (.load sz (mh P t) (.of x))else none
 | .store t x v=>(bZ P t).map λsz=>.store sz (.of x) (.of v)
 | .alloc e=>(eP P e).map λz=>.alloc e z.cells.toList
 | .box e x=>some (.box e (.of x))
 | .build t parts=>(eP P t).bind λz=>(partsOf P t parts.toList).map λr=>.build z.cells.toList r
 | .buildSlice t len parts=>(iP P t).bind λe=>(bZ P e).bind λs=>(eP P e).bind λz=>if yk parts.toList/\z.cells.size=s then some (.bslice false e s len (parts.toList.map λq=>SX.of q.2))else none
 | .makeSlice t l c=>(iP P t).bind λe=>(bZ P e).bind λs=>(mC P e).bind λb=>(eP P e).map λz=>.mslice e s b z (.of l) (.of c)
 | .convert w d x=>match P.underlying w,P.underlying d with
  |some _,some (.int k)=>some (.cvtI k (.of x))
  |some (.slice e),some .string=>match P.underlying e with
   |some (.int .u8)=>some (.b2s (.of x))
   |_=>none
  |_,_=>none
 | .slice t x lo j mx=>match P.underlying t with
  |some (.slice e)=>(bZ P e).map λs=>.slc s (.of x) (lo.map .of) (j.map .of) (mx.map .of)
  |some .string=>match mx with
   |none=>some (.slcS (.of x) (lo.map .of) (j.map .of))
   |some _=>none
  |_=>none
 | .extract x i=>some (.ext (.of x) i)
 | .nilCheck x=>some (.nilc (.of x))
 | .makeFunc (.func f) first g=>if first.isEmpty&&fU P f then some (.mkfn f (g.toList.map SX.of))else none
 | .makeMap t none=>match P.underlying t with
  |some (.map k e)=>some (.mkmap k e)
  |_=>none
 | .lookup t m x ok=>match P.underlying t with
  |some (.map k e)=>(eP P e).map λz=>.lookup k e ok z (.of m) (.of x)
  |_=>none
 | .mapUpdate t m x v| .insert t m x v=>match P.underlying t with
  |some (.map k e)=>some (.mapset k e (.of m) (.of x) (.of v))
  |_=>none
 | .panic x=>some (.panic (.of x))
 | .makeInterface t x=>some (.iface t (.of x))
 |_=>none
def SOp.canon:SOp->SOp
 | .bslice _ e s l E=>.bslice false e s l E
 | .call _ f xs=>.call false f xs
 | .callA _ _ f xs=>.call false f xs
 | .boxD t x=>.box t x
 | .callv _ _ x xs=>.callv false [] x xs
 | .callp _ x xs=>.callv false [] x xs
 | .appD e s b x y=>.append e s b x y
 | .bsliceN e s l E=>.bslice false e s l E
 | .msliceT _ e s b z x y=>.mslice e s b z x y
 | .appT _ e s b x y=>.append e s b x y
 | .atq _ op=>op.canon
 |x=>x
theorem Hp{θ:List Loc}{D:Nat->Prop}{w:World}(v:Value):RelB θ D w v (bJ v):=by
 unfold bJ;split;·rfl
 ·exact RelP.sc v
theorem B1{θ:List Loc}{D:Nat->Prop}{w:World}(v:Value):RelA θ D w v (jF v):=by
 unfold jF;split;·rename_i cs;refine⟨cs,rfl,by simp,λi u x b a=>?_⟩;simp only[g_]at a;rw[k_,b]at a;simp at a;subst a;exact Hp u
 ·exact Hp _
theorem Inv.get{c:Ctx}{θ:List Loc}{D:Nat->Prop}{st:St}{a:Act}{w:World}(h:Inv c θ D st a w){x:Operand}{E:AV}(z:st.get (.of x)=some E):RelA θ D w (a.eval x) E:=by cases x with|tmp t=>exact h.fr t E z|const v=>simp[SX.of,St.get]at z;subst z;exact B1 v|global g=>simp[SX.of,St.get]at z;subst z;exact RelP.sc _|func f=>simp[SX.of,St.get]at z;subst z;exact RelP.fn (.func f) #[] [] rfl λi v x H _=>by grind
section
variable {θ:List Loc} {D:Nat->Prop} {w:World}
theorem Z9{v u:Value}(h:RelA θ D w v (.v u)):v=u:=by cases h;rfl
theorem Ho{v:Value}{p:PV}(h:RelA θ D w v (.p p)):RelP D w v p:=h
theorem dq{v:Value}{a:AV}{K:Value->Prop}(h:RelA θ D w v a)(b:Ju a K):K v:=by obtain⟨u,rfl,b⟩:=b;rw[Z9 h];exact b
theorem mapM_some{α β:Type}{f:α->Option β}:∀{l:List α} {m:List β},l.mapM f=some m->l.length=m.length/\∀(i:Nat) (x:α) (y:β),l[i]? =some x->m[i]? =some y->f x=some y
 |[],m,h=>by grind
 |x::l,m,h=>by simp only[ai_,U_,ah_,h_,P_]at h;obtain⟨y,d,e,a,rfl⟩:=h;obtain⟨b,c⟩:=mapM_some a;grind
theorem bA{α β:Type}{l:List α}{m:List β}(h:l.length=m.length){i:Nat}{y:β}(a:m[i]? =some y):∃x,l[i]? =some x:=by
 have:i<l.length:=by grind
 exact⟨l[i],d_ this⟩
theorem m4{v:Value}{p:PV}(h:RelP D w v p)(a:p.cellOk=true):v.oneCell'=true:=by cases h<;>simp[PV.cellOk]at a<;>first|exact a|rfl
theorem EF{v:Value}{x:BV}(h:RelB θ D w v x)(b:x.cellOk=true):v.oneCell'=true:=by
 cases x with
 |pv p=>exact m4 h b|nils=>cases h;rfl|sl id=>obtain⟨l,_,c⟩:=h;cases l<;>simp only[Loc.head]at c<;>(subst c;rfl)
 |ptr id off=>obtain⟨g,_,rfl⟩:=h;rfl
 |elt id i off=>obtain⟨g,n,cap,sz,_,_,rfl⟩:=h;rfl
 |clo f ids=>obtain⟨d,_,_,rfl⟩:=h;rfl
 |mp id=>obtain⟨g,_,rfl⟩:=h;rfl
 |full p=>obtain⟨_,a,n,rfl⟩:=h;rfl
 |ifc=>obtain⟨t,u,rfl⟩:=h;rfl
theorem cells_one{v:Value}(h:v.oneCell'=true):v.cells= #[v]:=by cases v<;>simp[Value.oneCell']at h<;>rfl
theorem xn{v:Value}{x:AV}(h:RelA θ D w v x)(j:x.ok=true):v.cells.size=x.cells.length/\∀(i:Nat) (u:Value) (y:BV),v.cells[i]? =some u->x.cells[i]? =some y->RelB θ D w u y/\u.oneCell'=true:=by
 have one:∀(v:Value) (y:BV),y.cellOk=true->RelB θ D w v y->v.cells.size=[y].length/\∀(i:Nat) (u:Value) (z:BV),v.cells[i]? =some u->[y][i]? =some z->RelB θ D w u z/\u.oneCell'=true:=by intro v y a hr;have r:=EF hr a;rw[cells_one r];grind
 have all:∀y∈x.cells,y.cellOk=true:=by simpa[AV.ok]using j
 cases x with
 |tup xs=>have:=all (.pv .any) (by simp[AV.cells]);simp[BV.cellOk,PV.cellOk]at this|agg xs=>obtain⟨vs,rfl,l,k⟩:=h;exact⟨l,λi u y f a=>⟨k i u y f a,EF (k i u y f a) (all y (b_ a))⟩⟩
 |b x=>
  by_cases g:∃xs,x= .pv (.agg xs);·obtain⟨xs,rfl⟩:=g;have h':RelP D w v (.agg xs):=h;cases h' with|agg vs _ s n=>refine⟨by simp[AV.cells,PV.cells,Value.cells,s],λi u y f a=>?_⟩;have c:=all y (b_ a);simp only[AV.cells,PV.cells,g_]at a;cases d:xs[i]? with|none=>grind|some z=>rw[d]at a;simp at a;subst a;have:=n i u z f d;exact⟨this,m4 this c⟩
  ·have e:(AV.b x).cells=[x]:=by
    cases x with
    |pv p=>cases p<;>first|rfl|grind
    |_=>rfl
   rw[e]at all⊢;exact one v x (all x (by simp)) h
theorem xo{v:Value}{p:PV}(h:RelP D w v p)(a:p.ok=true):v.cells.size=p.cells.length/\∀(i:Nat) (u:Value) (y:PV),v.cells[i]? =some u->p.cells[i]? =some y->RelP D w u y/\u.oneCell'=true:=by
 have b:(AV.p p).ok=true:=by simp only[PV.ok,A_]at a;simp only[AV.ok,AV.cells,List.all_map,A_];exact a
 obtain⟨c,d⟩:=xn (θ:=[]) (x:=.p p) h b;simp only[AV.cells,ae_,g_]at c d;exact⟨c,λi u y e f=>d i u (.pv y) e (by grind)⟩
theorem sX{v:Value}{x:BV}{p:PV}(h:RelB θ D w v x)(a:x.toPV=some p):RelP D w v p:=by
 cases x<;>simp[BV.toPV]at a;·subst a;exact h
 ·subst a;cases h;exact .nil none 0
 ·subst a;exact h.1
theorem db{v:Value}{x:AV}{p:PV}(h:RelA θ D w v x)(a:x.toPV=some p):RelP D w v p:=by
 cases x with
 |b x=>exact sX h a|agg xs=>obtain⟨vs,rfl,j,d⟩:=h;simp only[AV.toPV,c_]at a;obtain⟨k,c,rfl⟩:=a;obtain⟨e,f⟩:=mapM_some c;refine RelP.agg _ _ (by omega) λi u p g hp=>?_;obtain⟨x,a⟩:=bA e hp;exact sX (d i u x g a) (f i x p a hp)
 |tup xs=>obtain⟨vs,rfl,j,d⟩:=h;simp only[AV.toPV,c_]at a;obtain⟨k,c,rfl⟩:=a;obtain⟨e,f⟩:=mapM_some c;refine RelP.tup _ _ (by omega) λi u p g hp=>?_;obtain⟨x,a⟩:=bA e hp;exact sX (d i u x g a) (f i x p a hp)
theorem Oh{v:Value}{x:BV}{p:PV}(h:RelB θ D w v x)(a:x.toPVn=some p):RelP D w v p:=by cases x with|nils=>cases a;cases h;exact .sc _|_=>exact sX h a
theorem Og{v:Value}{x:AV}{p:PV}(h:RelA θ D w v x)(a:x.toPVn=some p):RelP D w v p:=by
 cases x with
 |b x=>exact Oh h a|agg xs=>obtain⟨vs,rfl,j,d⟩:=h;simp only[AV.toPVn,c_]at a;obtain⟨k,c,rfl⟩:=a;obtain⟨e,f⟩:=mapM_some c;refine RelP.agg _ _ (by omega) λi u p g hp=>?_;obtain⟨x,a⟩:=bA e hp;exact Oh (d i u x g a) (f i x p a hp)
 |tup xs=>cases a
theorem sW{hp:List AObj}(f:Ok θ D hp w){v:Value}{x:AV}{sz:Nat}{K:List PV->Prop}(h:RelA θ D w v x)(d:vl hp sz x K): ∃L a cap,K L/\v= .slice a L.length cap/\L.length<=cap/\(a=none->cap=0\/L=[])/\(0<L.length->∃b o,a=some ⟨b,o,none⟩/\b<w.heap.size/\(∀x∈L,x.cells.length=sz)/\∀(i j:Nat) (x y:PV),L[i]? =some x->x.cells[j]? =some y->∃u,w.cell? ⟨b,o+i*sz+j,none⟩=some u/\RelP D w u y):=by
 rcases d with⟨rfl,d⟩|⟨L,rfl,d⟩|⟨id,e,L,rfl,N,d⟩|⟨L,rfl,d⟩
 rotate_left 3
 ·obtain⟨a,cap,rfl,A,C⟩:=rM h.1;refine⟨L,a,cap,d,rfl,A,λM=>?_,λhl=>?_⟩;·rcases Y_ L.length with z|z;all_goals grind
  ·obtain⟨b,o,e,E,p,r⟩:=C hl;exact⟨b,o,e,f.dlt b E,p,r⟩
 ·cases h;exact⟨[],none,0,d,rfl,l_ _,λ_=>.inl rfl,λh=>absurd h (by simp)⟩
 ·obtain⟨a,cap,rfl,A,C⟩:=rM (Ho h);refine⟨L,a,cap,d,rfl,A,λM=>?_,λhl=>?_⟩;·rcases Y_ L.length with z|z;all_goals grind
  ·obtain⟨b,o,e,E,p,r⟩:=C hl;exact⟨b,o,e,f.dlt b E,p,r⟩
 ·obtain⟨l,hl,F⟩:=h;have k:=f.objs id l _ hl N;cases l<;>simp only[RelO,Loc.head]at k F;·subst F;subst k;exact⟨[],_,0,d,rfl,l_ _,λ_=>.inl rfl,λh=>absurd h (by simp)⟩
  ·rename_i g n cap s O;obtain⟨rfl,rfl,p,r,H,c,I,R,J⟩:=k;subst F;refine⟨L,_,cap,d,rfl,p,λe=>by grind,λ_=>⟨g,0,rfl,(f.olt id _ g hl (.inl rfl)).1,H,λi j x y P Q=>?_⟩⟩;obtain⟨u,T,B⟩:=J i j x y P Q;refine⟨u,?_,B⟩;rw[o_,cell_of_row w g _ c e (0,0) I];omega
theorem zbS{hp:List AObj}(g:Ok θ D hp w){v:Value}{id:Nat}{p:PV}(h:RelB θ D w v (.sl id))(d:TL hp id=some p): ∃l,θ[id]? =some l/\∀D':Nat->Prop,(∀b,D b->D' b)->(∀b,l.has b->D' b)->RelP D' w v p:=by
 obtain⟨l,hl,f⟩:=h;refine⟨l,hl,λD' hD hO=>?_⟩;unfold TL at d;split at d
 ·rename_i e sz xs C;cases d;have a:=g.objs id l _ hl C;cases l<;>simp only[RelO,Loc.head]at a f;·subst f;subst a;exact .nil _ 0
  ·obtain⟨rfl,rfl,s,J,z,c,A,L,B⟩:=a;subst f;refine gG s λ_=>⟨_,0,rfl,hO _ (.inl rfl),z,λi j x y E F=>?_⟩;obtain⟨u,H,n⟩:=B i j x y E F;refine⟨u,?_,n.mono hD (λ_ _=>rfl)⟩;rw[o_,cell_of_row w _ _ c e (0,0) A];omega
 ·rename_i e sz k xs C;cases d;have a:=g.objs id l _ hl C;cases l<;>simp only[RelO,Loc.head]at a f;·subst f;rw[a.1];exact .nil _ 0
  ·obtain⟨rfl,rfl,s,J,z,c,Os,A,L,B,N,I,r⟩:=a;subst f;refine gG s λ_=>⟨_,0,rfl,hO _ (.inl rfl),z,λi j x y E F=>?_⟩;obtain⟨u,H,n⟩:=r i j x y E F;refine⟨u,?_,RelT.toP hD (λb M=>hO b (.inr (B i j b M).1)) n⟩;rw[o_,cell_of_row w _ _ c e (0,0) A];omega
 grind
theorem VT{k:Av.K}{off n j:Nat}(h:k.flatB off n=true)(a:j<n):k.at (off+j)=none:=by simp only[Av.K.flatB,A_,aj_]at h;simpa using h j a
theorem yi{h:Option (Nat×Nat×BV)}{i j:Nat}{b:BV}(e:ei h i j=some b):h=some (i,j,b):=by unfold ei at e;grind
theorem zc3{hole:Option (Nat×Nat×BV)}{k:Av.K}{n i j:Nat}{u:Value}{y:PV}{O:Nat->Prop}(d:∀i j b,hole=some (i,j,b)->i<n/\(k.at j).isSome=true)(c:k.at j=none) (h:match ei hole i j with|some b=>RelB θ D w u b|none=>RelT D w (k.at j) O u y):RelP D w u y:=by cases a:ei hole i j with|some b=>have:=(d i j b (yi a)).2;grind|none=>rw[a,c]at h;cases h with|flat _ _ _ h=>omega
theorem ze0{hp:List AObj}(c:Ok θ D hp w){v:Value}{x:AV}{K:Nat->Prop}(h:RelA θ D w v x)(b:isLen hp x K): ∃n a cap,K n/\v= .slice a n cap:=by
 rcases b with⟨rfl,b⟩|⟨sz,L,rfl,b⟩|⟨id,e,sz,L,rfl,d,b⟩|⟨sz,L,rfl,b⟩|⟨id,e,sz,k,L,hole,rfl,d,b⟩
 rotate_left 3
 ·obtain⟨a,cap,rfl,_⟩:=rM h.1;grind
 ·obtain⟨l,hl,j⟩:=h;have f:=c.objs id l _ hl d;cases l<;>simp only[RelO,Loc.head]at f j;all_goals grind
 ·cases h;grind
 ·obtain⟨a,cap,rfl,_⟩:=rM (Ho h);grind
 ·obtain⟨g,a,cap,rfl,rfl,_⟩:=sW (K:=λg=>g=L) c h (.inr (.inr (.inl ⟨id,e,L,rfl,d,rfl⟩)));grind
end
def Yields(P:Program)(o:Oper)(a:Act)(w:World)(R:Value->World->Prop):Prop:=
 ∃v w',(execOp a.eval o).run P w= .ok (.value v) w'/\R v w'
theorem Yields.wp{P:Program}{o:Oper}{a:Act}{w:World}{R:Value->World->Prop}{next:Act->World->Prop}{Q:Exit->Act->World->Prop}(h:Yields P o a w R)(hn:∀v w',R v w'->next (a.put o.dst v) w'):o.wp P a w next Q:=by obtain⟨v,w',z,E⟩:=h;unfold Oper.wp;rw[z];exact hn v w' E
theorem ze6{P:Program}{w:World}{op:BinOp}{t:TypeId}{x y:Operand}{a b:Value}{K:Value->Prop}(h:SI op a b K): ∃v,K v/\Sem.run P (do eqGuard op t x y a b;binOp op t a b) w= .ok v w:=by
 cases a<;>cases b<;>simp only[SI]at h;case int.int k m f n=>
  cases op<;>simp only at h;case shl=>obtain⟨d,c⟩:=h;refine⟨_,c,?_⟩;simp[eqGuard,binOp,Op.shift,an_.2 d]
  case shr=>obtain⟨d,c⟩:=h;refine⟨_,c,?_⟩;simp[eqGuard,binOp,Op.shift,an_.2 d]
  case quo=>obtain⟨rfl,d,c⟩:=h;refine⟨_,c,?_⟩;simp[eqGuard,binOp,Op.intDiv,d]
  case rem=>obtain⟨rfl,d,c⟩:=h;refine⟨_,c,?_⟩;simp[eqGuard,binOp,Op.intDiv,d]
  all_goals (obtain⟨rfl,h⟩:=h;refine⟨_,h,?_⟩;simp[eqGuard,binOp,Op.intArith,Op.intBits,Op.intCmp,r6])
 case string.string s r=>
  cases op<;>simp only at h;case add=>obtain⟨d,c⟩:=h;refine⟨_,c,?_⟩;have e:IntKind.i64.max=9223372036854775807:=rfl;simp[e,eqGuard,binOp,Op.stringOp];omega
  all_goals first|exact h.elim|(refine⟨_,h,?_⟩;simp[eqGuard,binOp,Op.stringOp])
theorem zgF{P:Program}{w:World}{t:TypeId}{x y:Operand}{a b:Bool}(e:P.underlying t=some .bool)(neg:Bool): Sem.run P (do eqGuard (if neg then .neq else .eql) t x y (.bool a) (.bool b);binOp (if neg then .neq else .eql) t (.bool a) (.bool b)) w= .ok (.bool (neg ^^ (a==b))) w:=by
 have d:Sem.run P (Op.equal t (.bool a) (.bool b)) w= .ok (a==b) w:=by show Sem.run P (Op.equalIn (9999+1) t (.bool a) (.bool b)) w=_;rw[Op.equalIn];simp[run_underlying e]
 cases neg;·show Sem.run P (do eqGuard .eql t x y (.bool a) (.bool b);binOp .eql t (.bool a) (.bool b)) w=_;have c:binOp .eql t (.bool a) (.bool b)=(do pure (.bool (<-Op.equal t (.bool a) (.bool b)))):=rfl;rw[c];simp[eqGuard,d]
 ·show Sem.run P (do eqGuard .neq t x y (.bool a) (.bool b);binOp .neq t (.bool a) (.bool b)) w=_;have c:binOp .neq t (.bool a) (.bool b)=(do pure (.bool (!(<-Op.equal t (.bool a) (.bool b))))):=rfl;rw[c];simp[eqGuard,d]
theorem zgG{P:Program}{w:World}{op:UnOp}{a:Value}{K:Value->Prop}(h:unV op a K):∃v,K v/\Sem.run P (Op.unary op a) w= .ok v w:=by
 unfold unV at h;split at h;·exact⟨_,h,by simp[Op.unary]⟩
 ·exact⟨_,h,by simp[Op.unary,Op.intArith]⟩
 grind
section
variable {P:Program} {w:World}
theorem run_sizeOf{t:TypeId}{s:Nat}(h:bZ P t=some s):Sem.run P (sizeOf t) w= .ok s w:=by simp only[bZ,c_]at h;obtain⟨i,a,rfl⟩:=h;simp[sizeOf,typeInfo,a]
theorem Sa{t:TypeId}{d:TypeDesc}(h:P.underlying t=some d):Sem.run P (isAgg t) w= .ok (mh P t) w:=by simp only[isAgg,mh,Sem.run_bind,run_underlying h,Result.andThen_ok];cases d<;>simp[h]
theorem addr_add(b o i:Nat):(⟨b,o,none⟩:Addr).add i=⟨b,o+i,none⟩:=by unfold Addr.add;split<;>simp_all
def xk(ag:Bool)(vs:Array Value)(off sz:Nat):Value:=match ag with
 |true=>.agg (vs.extract off (off+sz))
 |false=>(vs[off]?).getD undef
def ET(ag:Bool)(cs:List Value):Value:=match ag with
 |true=>.agg cs.toArray
 |false=>cs.headD undef
theorem Lh{t:TypeId}{d:TypeDesc}{s b o:Nat}(hd:P.underlying t=some d)(hs:bZ P t=some s)(cs:List Value)(hl:cs.length=s)(a:mh P t=false->s=1) (hc:∀(j:Nat) (v:Value),cs[j]? =some v->w.cell? ⟨b,o+j,none⟩=some v): Sem.run P (loadVar t ⟨b,o,none⟩) w= .ok (ET (mh P t) cs) w:=by
 simp only[loadVar,Sem.run_bind,Sa hd,Result.andThen_ok];cases c:mh P t
 ·simp only[Bool.false_eq_true,if_false];have e:=a c
  match cs,hl with|[v],_=>have:=hc 0 v rfl;rw[run_load];simp at this;simp[this,ET]|[],hl=>grind|_::_::_,hl=>grind
 ·simp only[if_true,Sem.run_bind,run_sizeOf hs,Result.andThen_ok];have:=run_loadCells_list (P:=P) (w:=w) ⟨b,o,none⟩ cs (λj v f=>by rw[addr_add];grind);rw[hl]at this;simp[this,ET]
theorem jT{α:Type} [Inhabited α]{n:Nat}{p:Nat->α->Prop}(h:∀j,j<n->∃u,p j u):∃l:List α,l.length=n/\∀(j:Nat) (u:α),l[j]? =some u->p j u:=by induction n with|zero=>simp|succ n a=>obtain⟨l,b,c⟩:=a λj d=>h j (by omega);obtain⟨u,e⟩:=h n (by simp);refine⟨l++[u],by grind,λj v f=>?_⟩;grind
theorem TJ{D:Nat->Prop}{cs:List Value}{a:List PV}(hl:cs.length=a.length)(h:∀(j:Nat) (u:Value) (y:PV),cs[j]? =some u->a[j]? =some y->RelP D w u y): RelP D w (.agg cs.toArray) (.agg a):= .agg _ _ (by omega) λi v x c b=>h i v x (by grind) b
theorem DV{p:PV}:p.isAgg=true->p= .agg p.cells:=by cases p<;>simp[PV.isAgg,PV.cells]
theorem vX{p:PV}:p.isAgg=false->p.cells=[p]:=by cases p<;>simp[PV.isAgg,PV.cells]
theorem Oi{D:Nat->Prop}{cs:List Value}{p:PV}(hl:cs.length=p.cells.length)(h:∀(j:Nat) (u:Value) (y:PV),cs[j]? =some u->p.cells[j]? =some y->RelP D w u y): RelP D w (ET p.isAgg cs) p:=by
 cases hp:p.isAgg
 ·have a:=vX hp;rw[a]at hl h
  match cs,hl,h with|[u],_,h=>exact h 0 u p rfl rfl
 ·have a:=DV hp;rw[a];simp only[PV.cells]at hl h⊢;exact TJ hl (λj u y b c=>h j u y b c)
theorem vY{α:Type}{l:List α}{i:Nat}{x d:α}(h:l[i]? =some x):l.getD i d=x:=by simp[Q_,h]
theorem Fh{p:PV}{off sz:Nat}{ag:Bool}(a:ag=false->sz=1)(c:off+sz<=p.cells.length):(ag=true->(p.sub off sz ag).cells=(p.cells.drop off).take sz)/\(ag=false->p.cells[off]? =some (p.sub off sz ag)):=by
 constructor;·rintro rfl;rfl
 ·rintro rfl;have:=a rfl;have b:off<p.cells.length:=by omega
  simp[PV.sub,d_ b]
end
def Res(c:Ctx)(θ:List Loc)(st:St)(a:Act)(K:AV->Prop):Value->World->Prop:=λv w'=>∃x D',K x/\Inv c θ D' st a w'/\RelA θ D' w' v x
section
variable {P:Program} {o:Oper} {c:Ctx} {θ:List Loc} {D:Nat->Prop} {st:St} {a:Act} {w:World} {K:AV->Prop}
theorem Res.same(z:Inv c θ D st a w){v:Value}{x:AV}(E:K x)(H:RelA θ D w v x):Res c θ st a K v w:=⟨x,D,E,z,H⟩
theorem aN{v:Value}{x:AV}(b:Inv c θ D st a w)(hr:(execOp a.eval o).run P w= .ok (.value v) w)(d:K x)(e:RelA θ D w v x):Yields P o a w (Res c θ st a K):=⟨v,w,hr,Res.same b d e⟩
theorem Xb(d:Inv c θ D st a w){x:Operand}(b:o.op= .move x\/o.op= .assign x)(h:ou P st (.mv (.of x)) K):Yields P o a w (Res c θ st a K):=by obtain⟨g,f,e⟩:=h;refine aN d ?_ e (d.get f);rcases b with b|b<;>simp[execOp,b]
theorem W8(d:Inv c θ D st a w){v:Value}(hr:(execOp a.eval o).run P w= .ok (.value v) w)(h:ou P st (.mv (.c v)) K):Yields P o a w (Res c θ st a K):=by obtain⟨f,b,e⟩:=h;simp[St.get]at b;subst b;exact aN d hr e (B1 v)
theorem zaB(d:Inv c θ D st a w){x y z:Operand}(g:o.op= .pick x y z)(h:ou P st (.pick (.of x) (.of y) (.of z)) K):Yields P o a w (Res c θ st a K):=by
 obtain⟨s,n,l⟩:=h;obtain⟨b,f,k,j⟩:=dq (d.get n) l;cases b;·obtain⟨v,r,e⟩:=j rfl;exact aN d (by simp[execOp,g,f,asBool]) e (d.get r)
 ·obtain⟨u,p,e⟩:=k rfl;exact aN d (by simp[execOp,g,f,asBool]) e (d.get p)
theorem Sf(b:Inv c θ D st a w){op:BinOp}{t n:TypeId}{x y:Operand}(g:o.op= .binOp op t x y n)(h:ou P st (.bin op (.of x) (.of y)) K):Yields P o a w (Res c θ st a K):=by obtain⟨p,k,r,l,j⟩:=h;have d:=dq (b.get k) j;have e:=dq (b.get l) d;obtain⟨v,f,hr⟩:=ze6 (P:=P) (w:=w) (t:=t) (x:=x) (y:=y) e;refine aN b ?_ f (RelP.sc v);simp only[execOp,g];rw[Sem.run_bind,hr];rfl
theorem Sg(b:Inv c θ D st a w){neg:Bool}{t s:TypeId}{x y:Operand}(g:o.op= .binOp (if neg then .neq else .eql) t x y s)(k:P.underlying t=some .bool)(h:ou P st (.eqB neg (.of x) (.of y)) K):Yields P o a w (Res c θ st a K):=by obtain⟨u,n,v,r,l⟩:=h;have d:=dq (b.get n) l;have e:=dq (b.get r) d;obtain⟨p,hp,q,j,f⟩:=e;refine aN b ?_ f (RelP.sc _);simp only[execOp,g,hp,j];rw[Sem.run_bind,zgF k neg];rfl
theorem zfi(b:Inv c θ D st a w){op:UnOp}{t:TypeId}{x:Operand}(e:o.op= .unOp op t x)(h:ou P st (.un op (.of x)) K):Yields P o a w (Res c θ st a K):=by obtain⟨j,g,f⟩:=h;obtain⟨v,d,hr⟩:=zgG (P:=P) (w:=w) (dq (b.get g) f);refine aN b ?_ d (RelP.sc v);simp only[execOp,e];rw[Sem.run_bind,hr];rfl
theorem zcX(j:Inv c θ D st a w){x:Operand}{t e:TypeId}{g:Call}(p:o.op= .call g)(k:g.callee= .builtin .len)(d:g.args= #[x])(f:g.argTypes= #[t]) (r:P.underlying t=some (.slice e)) (h:ou P st (.len false (.of x)) K):Yields P o a w (Res c θ st a K):=by obtain⟨v,u,hl⟩:=h;obtain⟨n,b,cap,l,s⟩:=ze0 j.ok (j.get u) hl;refine aN j ?_ l (RelP.sc _);simp[execOp,p,resolve,k,d,f,invoke,builtin,Builtin.len_,run_underlying r,s,goInt]
theorem zax(g:Inv c θ D st a w){x:Operand}{t:TypeId}{e:Call}(k:o.op= .call e)(f:e.callee= .builtin .len)(b:e.args= #[x])(d:e.argTypes= #[t]) (l:P.underlying t=some .string) (h:ou P st (.len true (.of x)) K):Yields P o a w (Res c θ st a K):=by obtain⟨p,n,hl⟩:=h;obtain⟨s,hs,j⟩:=dq (g.get n) hl;refine aN g ?_ j (RelP.sc _);simp[execOp,k,resolve,f,b,d,invoke,builtin,Builtin.len_,run_underlying l,hs,goInt]
theorem zau(d:Inv c θ D st a w){t:TypeId}{x i:Operand}(v:o.op= .index t x i)(y:P.underlying t=some .string)(h:ou P st (.idxS (.of x) (.of i)) K):Yields P o a w (Res c θ st a K):=by
 obtain⟨C,A,B,p,z⟩:=h;have g:=dq (d.get A) z;have j:=dq (d.get p) g;obtain⟨k,n,hn,s,hs,f,u,r⟩:=j;refine aN d ?_ r (RelP.sc _);have b:n.toNat<s.size:=by omega
 have hg:s[n.toNat]? =some (s[n.toNat]):=by simp
 have e:s.toList.getD n.toNat 0=s[n.toNat]:=by have:s.toList=s.data.toList:=ByteArray.toList_eq s;rw[this];simp only[Q_,k_];have l:n.toNat<s.data.size:=b;rw[e_ l];rfl
 rw[e];simp[execOp,v,hn,hs,Instr.index,asIntOf,run_underlying y,f,hg]
end
section
variable {P:Program} {o:Oper} {c:Ctx} {θ:List Loc} {D:Nat->Prop} {st:St} {a:Act} {w:World} {K:AV->Prop}
theorem EG{v:Array Value}{p:PV}{off sz:Nat}{ag:Bool}(h:RelP D w (.agg v) p)(hp:p.isAgg=true)(b:off+sz<=p.cells.length)(a:ag=false->sz=1): v.size=p.cells.length/\RelP D w (xk ag v off sz) (p.sub off sz ag):=by
 have c:=DV hp;obtain⟨q,rfl⟩:∃q,p= .agg q:=⟨_,c⟩;simp only[PV.cells]at b;cases h with
 |agg vs xs hs f=>
  refine⟨hs,?_⟩;cases ag
  ·have:=a rfl;subst this;have d:off<q.length:=by omega
   have e:off<v.size:=by omega
   simp only[xk,PV.sub,PV.cells,Q_,d_ d,w_,e_ e];exact f off _ _ (e_ e) (d_ d)
  ·simp only[xk,PV.sub,PV.cells];refine .agg _ _ (by grind) λi u x g j=>?_;grind
theorem AJ{t:TypeId}{d:TypeDesc}{s off:Nat}{cs:Array Value}(hd:P.underlying t=some d)(hs:bZ P t=some s)(e:off+s<=cs.size)(a:mh P t=false->s=1): Sem.run P (part t cs off) w= .ok (xk (mh P t) cs off s) w:=by
 simp only[part,Sem.run_bind,Sa hd,Result.andThen_ok];cases c:mh P t
 ·have:=a c;have b:off<cs.size:=by omega
  simp[xk,e_ b]
 ·simp[xk,run_sizeOf hs]
theorem Of{v:Value}{x:AV}{p:PV}(h:RelA θ D w v x)(d:x.toPV=some p)(hp:p.isAgg=true):∃vs:Array Value,v= .agg vs/\RelP D w (.agg vs) p:=by have b:=db h d;have a:=DV hp;rw[a]at b⊢;cases b with|agg vs xs hs c=>exact⟨vs,rfl,.agg vs _ hs c⟩
theorem zav(u:Inv c θ D st a w){n sz:Nat}{t e:TypeId}{d:TypeDesc}{x i:Operand}(F:o.op= .index t x i)(H:P.underlying t=some (.array n e))(hd:P.underlying e=some d)(hs:bZ P e=some sz) (h:ou P st (.idxV n sz (mh P e) (.of x) (.of i)) K):Yields P o a w (Res c θ st a K):=by
 obtain⟨M,J,L,B,I⟩:=h;obtain⟨k,m,E,p,hp,z,v,f,g,l,C⟩:=dq (u.get B) I;obtain⟨vs,A,r⟩:=Of (u.get J) hp l;have y:m.toNat*sz+sz<=n*sz:=by
  have:m.toNat+1<=n:=by omega
  have:=f_ sz this;grind
 obtain⟨hsz,s⟩:=EG r l (by rw[g];omega) f;refine aN u ?_ C s;have b:=AJ (P:=P) (w:=w) (t:=e) (cs:=vs) (off:=m.toNat*sz) hd hs (by omega) f;have j:m<(n:Int):=v;simp only[execOp,F,E,A,Instr.index,asIntOf,Sem.run_bind,Sem.run_pure,Result.andThen_ok,run_underlying H];rw[if_pos ⟨z,j⟩];simp only[Sem.run_bind,run_sizeOf hs,Result.andThen_ok,b]
theorem zar(u:Inv c θ D st a w){sz:Nat}{t e:TypeId}{x i:Operand}(N:o.op= .indexAddr t x i)(Q:P.underlying t=some (.slice e))(hs:bZ P e=some sz) (h:ou P st (.idxA sz (.of x) (.of i)) K):Yields P o a w (Res c θ st a K):=by
 obtain⟨Y,T,U,M,R⟩:=h;obtain⟨k,n,hn,v⟩:=dq (u.get M) R;have E:=u.get T;have z:∀(b o' len cap:Nat),a.eval x= .slice (some ⟨b,o',none⟩) len cap->0<=n->n<(len:Int)->(execOp a.eval o).run P w= .ok (.value (.pointer (some ⟨b,o'+n.toNat*sz,none⟩))) w:=by intro b o' len cap F r J;simp only[execOp,N,hn,F,Instr.indexAt,asIntOf,Sem.run_bind,Sem.run_pure,Result.andThen_ok,run_underlying Q];rw[if_pos ⟨r,J⟩];simp[run_sizeOf hs,addr_add]
 rcases v with⟨L,rfl,r,d,B⟩|⟨id,rfl,ob,C,⟨I,L,rfl,r,d,B⟩|⟨I,k',L,hole,rfl,r,d,B⟩⟩
 ·obtain⟨b,cap,F,hcap,p⟩:=rM (Ho E);obtain⟨g,o',rfl,hg,hsz,hc⟩:=p (by omega);have H:n.toNat<L.length:=by omega
  refine aN u (z g o' L.length cap F r d) B (yo hg λj y hy=>?_);grind
 ·obtain⟨l,hl,A⟩:=E;have f:=u.ok.objs id l _ hl C;cases l<;>simp only[RelO,Loc.head]at f A;·grind
  ·rename_i g m cap s O;obtain⟨rfl,rfl,_⟩:=f;refine aN u (z g 0 _ cap A r d) B ?_;exact⟨g,_,cap,s,O,hl,by simp⟩
 ·obtain⟨l,hl,A⟩:=E;have f:=u.ok.objs id l _ hl C;cases l<;>simp only[RelO,Loc.head]at f A;·grind
  ·rename_i g m cap s O;obtain⟨rfl,rfl,_⟩:=f;refine aN u (z g 0 _ cap A r d) B ?_;exact⟨g,_,cap,s,O,hl,by simp⟩
theorem zgK{b o' off sz:Nat}{ag:Bool}{p:PV}(g:D b)(hc:∀(j:Nat) (y:PV),p.cells[j]? =some y->∃u,w.cell? ⟨b,o'+j,none⟩=some u/\RelP D w u y)(d:off+sz<=p.cells.length)(c:ag=false->sz=1)(f:(p.sub off sz ag).isAgg=ag): RelP D w (.pointer (some ⟨b,o'+off,none⟩)) (.pto (p.sub off sz ag)):=by
 refine yo g λj y e=>?_;cases a:ag;·subst a;have:=c rfl;subst this;rw[vX f]at e;cases j with|zero=>simp at e;subst e;have:=hc off _ ((Fh (p:=p) (off:=off) c d).2 rfl);omega|succ j=>grind
 ·subst a;rw[(Fh (p:=p) (off:=off) (sz:=sz) (ag:=true) (λh=>by grind) d).1 rfl,t_]at e;grind
theorem zat(f:Inv c θ D st a w){n sz:Nat}{ag:Bool}{t e:TypeId}{x i:Operand}(H:o.op= .indexAddr t x i)(I:P.underlying t=some (.array n e))(hs:bZ P e=some sz) (h:ou P st (.idxP n sz ag (.of x) (.of i)) K):Yields P o a w (Res c θ st a K):=by
 obtain⟨M,A,L,E,J⟩:=h;obtain⟨k,m,F,B,z,d⟩:=dq (f.get E) J;have r:∀(g off:Nat),a.eval x= .pointer (some ⟨g,off,none⟩)->(execOp a.eval o).run P w= .ok (.value (.pointer (some ⟨g,off+m.toNat*sz,none⟩))) w:=by intro g off j;simp only[execOp,H,F,j,Instr.indexAt,asIntOf,Sem.run_bind,Sem.run_pure,Result.andThen_ok,run_underlying I,Instr.sureAddr];rw[if_pos ⟨B,z⟩];simp[run_sizeOf hs,addr_add]
 rcases d with⟨id,off,rfl,v⟩|⟨p,rfl,l,s,u,v⟩;·obtain⟨g,hg,j⟩:=f.get A;exact aN f (r g off j) v ⟨g,hg,rfl⟩
 ·obtain⟨b,o',j,C,hc⟩:=I2 (Ho (f.get A));have y:m.toNat*sz+sz<=p.cells.length:=by rw[l];have N:(m.toNat+1)*sz<=n*sz:=f_ _ (by omega);grind
  exact aN f (r b o' j) v (zgK C hc y s u)
theorem zaq(C:Inv c θ D st a w){s:TypeId}{f:Nat}{x:Operand}{e:Field}{sz:Nat}(J:o.op= .fieldAddr s x f)(F:E7 P s f=some e)(hs:bZ P e.type=some sz)(hsz:sz≠0) (h:ou P st (.fldA e.offset sz (mh P e.type) (.of x)) K):Yields P o a w (Res c θ st a K):=by
 obtain⟨M,L,l⟩:=h;have E:=C.get L;have u:∀(b o':Nat),a.eval x= .pointer (some ⟨b,o',none⟩)->(execOp a.eval o).run P w= .ok (.value (.pointer (some ⟨b,o'+e.offset,none⟩))) w:=by
  intro b o' r;unfold E7 at F;split at F;·rename_i N H;simp[execOp,J,r,Instr.fieldAt,run_underlying H,F,Instr.sureAddr,fieldPlace,run_sizeOf hs,hsz,addr_add]
  grind
 rcases l with⟨p,rfl,B,k,z,A⟩|⟨id,o',rfl,A⟩|⟨id,i,o',rfl,A⟩
 ·obtain⟨b,o',r,I,hc⟩:=I2 (Ho E);refine aN C (u b o' r) A (yo I λj y v=>?_);cases d:mh P e.type;·rw[d]at v k;have:=k rfl;subst this;rw[d]at z;rw[vX z]at v;cases j with|zero=>simp at v;subst v;have:=hc e.offset _ ((Fh (p:=p) (off:=e.offset) k B).2 rfl);omega|succ j=>grind
  ·rw[d]at v;rw[(Fh (p:=p) (off:=e.offset) (sz:=sz) (ag:=true) (λh=>by grind) B).1 rfl,t_]at v;grind
 ·obtain⟨g,hg,r⟩:=E;exact aN C (u g o' r) A ⟨g,hg,rfl⟩
 ·obtain⟨g,n,cap,s',O,hg,r⟩:=E;refine aN C (u g _ r) A ⟨g,n,cap,s',O,hg,?_⟩;simp
end
section
variable {P:Program} {o:Oper} {c:Ctx} {θ:List Loc} {D:Nat->Prop} {st:St} {a:Act} {w:World} {K:AV->Prop}
theorem wc{vs:Array Value}{cs:List BV}{off sz:Nat}{ag:Bool}(hl:vs.size=cs.length)(h:∀(i:Nat) (u:Value) (x:BV),vs[i]? =some u->cs[i]? =some x->RelB θ D w u x)(d:off+sz<=cs.length)(a:ag=false->sz=1): RelA θ D w (xk ag vs off sz) (tG ag ((cs.drop off).take sz)):=by
 cases ag
 ·have:=a rfl;subst this;have b:off<cs.length:=by omega
  have c:off<vs.size:=by omega
  have e:(cs.drop off).take 1=[cs[off]]:=by rw[List.drop_eq_getElem_cons b];rfl
  simp only[xk,tG,e,List.headD_cons,e_ c,w_];exact h off _ _ (e_ c) (d_ b)
 ·refine⟨_,rfl,by grind,λi u x f g=>?_⟩;grind
theorem zcW(v:Inv c θ D st a w){t:TypeId}{f:Nat}{x:Operand}{g:Field}{d:TypeDesc}{sz:Nat}(B:o.op= .field t x f)(u:E7 P t f=some g)(hd:P.underlying g.type=some d)(hs:bZ P g.type=some sz) (h:ou P st (.fld g.offset sz (mh P g.type) (.of x)) K):Yields P o a w (Res c θ st a K):=by
 obtain⟨H,F,j⟩:=h;have A:=v.get F;unfold E7 at u;split at u
 ·rename_i I l;rcases j with⟨p,rfl,n,k,e,z⟩|⟨cs,rfl,k,e,z⟩;·obtain⟨vs,y,r⟩:=Of (p:=p) A rfl n;obtain⟨hsz,s⟩:=EG r n k e;refine aN v ?_ z s;have b:=AJ (P:=P) (w:=w) (t:=g.type) (cs:=vs) (off:=g.offset) hd hs (by omega) e;simp[execOp,B,y,Instr.field,run_underlying l,u,asAgg,b]
  ·obtain⟨vs,y,C,E⟩:=A;refine aN v ?_ z (wc C E k e);have b:=AJ (P:=P) (w:=w) (t:=g.type) (cs:=vs) (off:=g.offset) hd hs (by omega) e;simp[execOp,B,y,Instr.field,run_underlying l,u,asAgg,b]
 grind
theorem yn(ag:Bool)(c:Array Value)(off sz:Nat)(a:ag=false->sz=1)(b:off+sz<=c.size):ET ag (c.extract off (off+sz)).toList=xk ag c off sz:=by
 cases ag
 ·have:=a rfl;subst this;have d:off<c.size:=by omega
  simp only[ET,xk,List.headD_eq_head?_getD,List.head?_eq_getElem?,k_,Array.getElem?_extract];grind
 ·show Value.agg _=Value.agg _;grind
theorem zeh(H:Inv c θ D st a w){x:Operand}{sz:Nat}{ag:Bool}{id i off:Nat}{e:TypeId}{s:Nat}{k:Av.K}{xs:List PV}{hole:Option (Nat×Nat×BV)}(hX:RelA θ D w (a.eval x) (.b (.elt id i off)))(N:st.hp[id]? =some (.tree e s k xs hole)) (hi:i<xs.length) (el:off+sz<=s) (z:ag=false->sz=1) (d:(k.flatB off sz=true/\K (.p ((xs.getD i .any).sub off sz ag)))\/(∃E,hole=some (i,off,E)/\sz=1/\ag=false/\K (.b E))) (Q:∀(b o':Nat) (cs:List Value),a.eval x= .pointer (some ⟨b,o',none⟩)->cs.length=sz->(ag=false->sz=1)->(∀(j:Nat) (v:Value),cs[j]? =some v->w.cell? ⟨b,o'+j,none⟩=some v)->(execOp a.eval o).run P w= .ok (.value (ET ag cs)) w):Yields P o a w (Res c θ st a K):=by
 obtain⟨g,n,cap,s',O,hg,he⟩:=hX;obtain⟨rfl,rfl,h3,h4,h5,C,Os,h6,h7,h8,h9,L,f⟩:=H.ok.objs id _ _ hg N;obtain⟨B,h⟩:∃B,xs[i]? =some B:=⟨_,d_ hi⟩;have J:xs.getD i .any=B:=vY h;rw[J]at d;have gc:B.cells.length=s':=h5 _ (b_ h);have T:i*s'+s'<=C.size:=by
  rw[h7];have:i+1<=cap:=by omega
  have:=f_ s' this;grind
 have hr:=Q g (i*s'+off) (C.extract (i*s'+off) (i*s'+off+sz)).toList he (by grind) z (λj v R=>by rw[cell_of_row w g _ C e (0,0) h6];grind)
 rw[yn _ _ _ _ z (by omega)]at hr;rcases d with⟨hf,M⟩|⟨E,A,rfl,rfl,M⟩
 ·have I:∀(j:Nat) (u:Value) (y:PV),j<sz->C[i*s'+off+j]? =some u->B.cells[off+j]? =some y->RelP D w u y:=λj u y R U Y=>by obtain⟨u',l,p⟩:=f i (off+j) _ y h Y;rw[<-V_,U]at l;cases l;exact zc3 L (VT hf R) p
  refine aN H hr M ?_;show RelP D w _ _;cases hb:ag
  ·have:=z hb;subst this;have h9:off<B.cells.length:=by omega
   have f:i*s'+off<C.size:=by omega
   simp only[xk,PV.sub,e_ f,w_];grind
  ·simp only[xk,PV.sub];refine .agg _ _ (by grind) λk u y U Y=>?_;grind
 ·have l:i*s'+off<C.size:=by omega
  have p:off<B.cells.length:=by omega
  obtain⟨u,F,r⟩:=f i off _ _ h (d_ p);rw[A]at r;simp only[ei,and_self,if_true]at r;refine aN H hr M ?_;simp only[xk,F,w_];exact r
theorem zay(B:Inv c θ D st a w){t:TypeId}{x:Operand}{d:TypeDesc}{sz:Nat}(ho:o.op= .load t x)(hd:P.underlying t=some d)(hs:bZ P t=some sz) (h:ou P st (.load sz (mh P t) (.of x)) K):Yields P o a w (Res c θ st a K):=by
 obtain⟨ax,hx,f⟩:=h;have R:=B.get hx;have E:∀(b o':Nat) (cs:List Value),a.eval x= .pointer (some ⟨b,o',none⟩)->cs.length=sz->(mh P t=false->sz=1)->(∀(j:Nat) (v:Value),cs[j]? =some v->w.cell? ⟨b,o'+j,none⟩=some v)->(execOp a.eval o).run P w= .ok (.value (ET (mh P t) cs)) w:=by
  intro b o' cs H hl l hc
  have:=Lh (P:=P) (w:=w) hd hs cs hl l hc
  simp[execOp,ho,H,Instr.loadAt,Instr.sureAddr,this]
 unfold Le at f;split at f
 ·rename_i p;obtain⟨M,L,r⟩:=f;obtain⟨b,o',H,hb,hc⟩:=I2 (Ho R);obtain⟨cs,hl,hcs⟩:=jT (n:=sz) (p:=λj u=>w.cell? ⟨b,o'+j,none⟩=some u/\∀y,p.cells[j]? =some y->RelP D w u y) (λj T=>by obtain⟨u,h1,h2⟩:=hc j (p.cells[j]'(by omega)) (d_ (by omega));grind)
  have l:mh P t=false->sz=1:=λh=>by rw[<-M]at h;rw[<-L,vX h];rfl
  refine aN B (E b o' cs H hl l λj v T=>(hcs j v T).1) r ?_;rw[<-M];exact Oi (by omega) λj u y U Q=>(hcs j u U).2 y Q
 ·rename_i id off;obtain⟨ob,C,t',cs,rfl,z,l,r⟩:=f;obtain⟨g,hg,H⟩:=R;obtain⟨A,h1,h2,h3⟩:=B.ok.objs id _ _ hg C;have J:off+sz<=A.size:=by omega
  have hr:=E g off (A.extract off (off+sz)).toList H (by grind) l (λj v T=>by rw[cell_of_row w g _ A t' (0,0) h1];grind)
  rw[yn _ _ _ _ l J]at hr;rcases r with r|⟨q,hq,r⟩;·exact aN B hr r (wc h2 h3 z l)
  ·exact aN B hr r (db (wc h2 h3 z l) hq)
 ·rename_i id i off;obtain⟨ob,C,⟨e,s,xs,rfl,hi,z,l,f⟩|⟨e,s,k,xs,hole,rfl,hi,z,l,f⟩⟩:=f
  rotate_left
  ·exact zeh B R C hi z l f E
  obtain⟨g,n,cap,s',O,hg,H⟩:=R;obtain⟨rfl,rfl,h3,h4,h5,A,h6,h7,h8⟩:=B.ok.objs id _ _ hg C;obtain⟨I,N⟩:∃I,xs[i]? =some I:=⟨_,d_ hi⟩;have el:xs.getD i .any=I:=vY N;rw[el]at f;have rg:I.cells.length=s':=h5 _ (b_ N);have ph:i*s'+s'<=A.size:=by
   rw[h7];have:i+1<=cap:=by omega
   have:=f_ s' this;grind
  have hr:=E g (i*s'+off) (A.extract (i*s'+off) (i*s'+off+sz)).toList H (by grind) l (λj v T=>by rw[cell_of_row w g _ A e (0,0) h6];grind)
  have F:∀(j:Nat) (u:Value) (y:PV),A[i*s'+j]? =some u->I.cells[j]? =some y->RelP D w u y:=λj u y U Q=>by grind
  rcases f with⟨rfl,rfl,gc,r⟩|⟨qr,r⟩;·refine aN B hr r ?_;rw[<-gc];refine Oi (by grind) λj u y U Q=>F j u y ?_ Q;grind
  ·rw[yn _ _ _ _ l (by omega)]at hr;refine aN B hr r ?_;show RelP D w _ _;cases hb:mh P t
   ·have:=l hb;subst this;have h9:off<I.cells.length:=by omega
    have Y:i*s'+off<A.size:=by omega
    simp only[xk,PV.sub,e_ Y,w_];grind
   ·simp only[xk,PV.sub];refine .agg _ _ (by grind) λk u y U Q=>?_;grind
 grind
theorem zap(e:Inv c θ D st a w){s d:TypeId}{x:Operand}{k:IntKind}{ds:TypeDesc}(g:o.op= .convert s d x)(b:P.underlying s=some ds)(hd:P.underlying d=some (.int k))(h:ou P st (.cvtI k (.of x)) K):Yields P o a w (Res c θ st a K):=by obtain⟨p,l,j⟩:=h;obtain⟨r,n,hn,f⟩:=dq (e.get l) j;refine aN e ?_ f (RelP.sc _);simp only[execOp,g,hn,convert,Sem.run_bind,run_underlying b,run_underlying hd,Result.andThen_ok];cases ds<;>simp[Conv.intToInt]
theorem zcV(e:Inv c θ D st a w){x:Operand}{i:Nat}(l:o.op= .extract x i)(h:ou P st (.ext (.of x) i) K):Yields P o a w (Res c θ st a K):=by
 obtain⟨r,n,d⟩:=h;rcases d with⟨xs,rfl,p,hp,g⟩|⟨xs,rfl,p,hp,g⟩
 ·have k:RelP D w (a.eval x) (.tup xs):=e.get n;generalize j:a.eval x=v at k;cases k with
  |tup vs xs hs f=>
   have b:i<vs.size:=by grind
   refine aN e (v:=vs[i]) ?_ g (f i _ p (e_ b) hp);simp[execOp,l,j,Instr.extract,e_ b]
 ·obtain⟨vs,j,hs,f⟩:=e.get n;have b:i<vs.size:=by grind
  refine aN e (v:=vs[i]) ?_ g (f i _ p (e_ b) hp);simp[execOp,l,j,Instr.extract,e_ b]
theorem zaA(d:Inv c θ D st a w){x:Operand}(r:o.op= .nilCheck x)(h:ou P st (.nilc (.of x)) K):Yields P o a w (Res c θ st a K):=by
 obtain⟨z,s,e,n⟩:=h;have k:=d.get s;rcases e with⟨p,rfl⟩|⟨id,o',rfl⟩|⟨id,i,o',rfl⟩|⟨f,y,rfl⟩|⟨f,ids,rfl⟩;·obtain⟨b,o',j,_⟩:=I2 (Ho k);refine aN d (v:=a.eval x) ?_ n k;simp[execOp,r,j]
 ·obtain⟨g,_,j⟩:=k;refine aN d (v:=a.eval x) ?_ n (d.get s);simp[execOp,r,j]
 ·obtain⟨g,_,_,_,_,j⟩:=k;refine aN d (v:=a.eval x) ?_ n (d.get s);simp[execOp,r,j]
 ·have l:RelP D w (a.eval x) (.fn (.func f) y):=k;refine aN d (v:=a.eval x) ?_ n (d.get s);generalize u:a.eval x=v at l;cases l with|fn A vs xs hs C=>simp[execOp,r,u]
 ·obtain⟨B,_,_,j⟩:=k;refine aN d (v:=a.eval x) ?_ n (d.get s);simp[execOp,r,j]
end
theorem xu{α:Type}(xs:List α)(off:Nat)(ys:List α)(h:off+ys.length<=xs.length)(k:Nat):(splice xs off ys)[k]? =if off<=k/\k<off+ys.length then ys[k - off]? else xs[k]? :=by
 unfold splice;have hl:(xs.take off).length=off:=by grind
 grind
theorem pd{α:Type}(xs:List α)(off:Nat)(ys:List α)(h:off+ys.length<=xs.length):(splice xs off ys).length=xs.length:=by unfold splice;grind
theorem foldl_set(off:Nat):∀(l:List (Value×Nat)) (j:Nat) (a:Array Value),(∀(i:Nat) (x:Value×Nat),l[i]? =some x->x.2=j+i)->off+j+l.length<=a.size->
 (l.foldl (λcs x=>cs.setIfInBounds (off+x.2) x.1) a).size=a.size/\
 ∀k,(l.foldl (λcs x=>cs.setIfInBounds (off+x.2) x.1) a)[k]? =if off+j<=k/\k<off+j+l.length then(l[k - (off+j)]?).map (·.1)else a[k]?
 |[],j,a,_,_=>⟨rfl,λk=>by grind⟩
 |x::l,j,a,b,hl=>by have c:x.2=j:=b 0 x rfl;simp only[List.foldl_cons,I_]at hl⊢;obtain⟨d,e⟩:=foldl_set off l (j+1) (a.setIfInBounds (off+x.2) x.1) (λi y f=>by have:=b (i+1) y (by grind);omega) (by grind);grind
theorem Sc(off:Nat)(vs a:Array Value)(h:off+vs.size<=a.size):(vs.zipIdx.foldl (λcs (c,j)=>cs.setIfInBounds (off+j) c) a).size=a.size/\∀k,(vs.zipIdx.foldl (λcs (c,j)=>cs.setIfInBounds (off+j) c) a)[k]? =if off<=k/\k<off+vs.size then vs[k - off]? else a[k]? :=by
 have e:vs.zipIdx.foldl (λcs (c,j)=>cs.setIfInBounds (off+j) c) a=(vs.toList.zipIdx).foldl (λcs x=>cs.setIfInBounds (off+x.2) x.1) a:=by rw[<-Array.foldl_toList];simp
 rw[e];obtain⟨b,d⟩:=foldl_set off vs.toList.zipIdx 0 a (λi x f=>by grind) (by simpa using h)
 refine⟨b,λk=>?_⟩;rw[d k];simp only[am_,List.length_zipIdx,r_];grind
section
variable {P:Program} {o:Oper} {c:Ctx} {θ:List Loc} {D:Nat->Prop} {st:St} {a:Act} {w:World} {K:AV->Prop}
theorem za8(b:Nat->Option (Nat×Nat)):∀(parts:List (Nat×Value)) (f:List (Nat×Nat×AV)) (a:Array Value) (e:List BV),parts.length=f.length->
 (∀(i:Nat) (x:Nat×Value) (q:Nat×Nat×AV),parts[i]? =some x->f[i]? =some q->b x.1=some (q.1,q.2.1)/\RelA θ D w x.2 q.2.2)->
 (∀q∈f,q.2.2.ok=true/\q.2.2.cells.length=q.2.1/\q.1+q.2.1<=e.length)->a.size=e.length->(∀(i:Nat) (u:Value) (x:BV),a[i]? =some u->e[i]? =some x->RelB θ D w u x)->
 ∃d,Instr.fill b a parts=some d/\d.size=(f.foldl (λcs q=>splice cs q.1 q.2.2.cells) e).length/\∀(i:Nat) (u:Value) (x:BV),d[i]? =some u->(f.foldl (λcs q=>splice cs q.1 q.2.2.cells) e)[i]? =some x->RelB θ D w u x
 |[],[],a,e,_,_,_,hs,hr=>⟨a,rfl,hs,hr⟩
 |(i,v)::parts,q::f,a,e,hl,hp,A,hs,hr=>by
  obtain⟨r,s⟩:=hp 0 _ _ rfl rfl;obtain⟨y,H,I⟩:=A q (by simp);obtain⟨J,L⟩:=xn s y;have z:v.cells.size=q.2.1:=by grind
  have B:=pd e q.1 q.2.2.cells (by omega);obtain⟨M,E⟩:=Sc q.1 v.cells a (by omega);obtain⟨d,F,n,p⟩:=za8 b parts f (v.cells.zipIdx.foldl (λcs (c,j)=>cs.setIfInBounds (q.1+j) c) a) (splice e q.1 q.2.2.cells) (by grind) (λi x l h g=>hp (i+1) x l (by grind) (by grind)) (λl g=>by grind) (by omega) (λk u x C h=>by rw[E k]at C;rw[xu e q.1 q.2.2.cells (by omega)]at h;grind);refine⟨d,?_,n,p⟩;simp only[Instr.fill,r];grind
theorem R4(z:Array Value):∀(i:Nat) (u:Value) (x:BV),z[i]? =some u->(z.toList.map λv=>bJ v)[i]? =some x->RelB θ D w u x:=by intro i u x b a;rw[g_,k_,b]at a;simp at a;subst a;exact Hp u
theorem WX(R:Inv c θ D st a w){t:TypeId}{parts:Array (Nat×Operand)}{z:Value}{I:List (Nat×Nat×SX)}(ho:o.op= .build t parts)(hz:eP P t=some z)(d:partsOf P t parts.toList=some I) (h:ou P st (.build z.cells.toList I) K):Yields P o a w (Res c θ st a K):=by
 obtain⟨J,O,L,hk⟩:=h;obtain⟨q1,q2⟩:=mapM_some O;have F:=hz;simp only[eP,h_]at F;obtain⟨it,C,H⟩:=F;have k:∀(f:Nat->Option (Nat×Nat)),(∀(i:Nat) (x:Nat×Operand) (s:Nat×Nat×SX),parts.toList[i]? =some x->I[i]? =some s->f x.1=some (s.1,s.2.1)/\s.2.2=SX.of x.2)->parts.toList.length=I.length->∃b,Instr.fill f z.cells (parts.map fun(i,x)=>(i,a.eval x)).toList=some b/\RelA θ D w (.agg b) (.agg (J.foldl (λcs q=>splice cs q.1 q.2.2.cells) (z.cells.toList.map λv=>bJ v))):=by
  intro f u T
  obtain⟨b,A,p,Y⟩:=za8 (θ:=θ) (D:=D) (w:=w) f (parts.map fun(i,x)=>(i,a.eval x)).toList J z.cells (z.cells.toList.map λv=>bJ v) (by grind) (λi x q y N=>by simp only[ab_,g_]at y;cases E:parts.toList[i]? with|none=>grind|some pr=>rw[E]at y;simp at y;subst y;obtain⟨s,hs⟩:=bA (l:=I) (m:=J) q1 N;have:=q2 i s q hs N;simp only[c_]at this;obtain⟨av,B,rfl⟩:=this;obtain⟨p1,p2⟩:=u i pr s E hs;refine⟨p1,?_⟩;rw[p2]at B;exact R.get B) (λq N=>by grind) (by simp) (R4 z.cells)
  exact⟨b,A,b,rfl,p,Y⟩
 have g:∃b,P.built t (parts.map fun(i,x)=>(i,a.eval x)).toList=some b/\RelA θ D w (.agg b) (.agg (J.foldl (λcs q=>splice cs q.1 q.2.2.cells) (z.cells.toList.map λv=>bJ v))):=by
  unfold partsOf at d;split at d
  ·rename_i fs r;simp only[h_]at d;obtain⟨j,u,d⟩:=d;obtain⟨Q,m2⟩:=mapM_some d;obtain⟨b,A,p⟩:=k (j.toArray[·]?) (λi x s y hs=>by grind) Q
   refine⟨b,?_,p⟩;simp only[Program.built,C,r,H,u];omega
  ·rename_i n e r;simp only[h_]at d;obtain⟨U,M,d⟩:=d;obtain⟨Q,m2⟩:=mapM_some d;obtain⟨b,A,p⟩:=k (λi=>some (i*U.size,U.size)) (λi x s y hs=>by grind) Q
   refine⟨b,?_,p⟩;simp only[Program.built,C,r,H,M];omega
  grind
 obtain⟨b,A,p⟩:=g;refine aN R ?_ hk p;simp[execOp,ho,run_build w t _ _ A]
end
section
variable {c:Ctx} {θ:List Loc} {D:Nat->Prop} {st:St} {a:Act} {w:World}
theorem qg(w:World)(o:Obj):Below w.heap.size w (w.alloc o):=(Below.refl _ _).alloc (l_ _) o
theorem Inv.allocOwn(z:Inv c θ D st a w){l:Loc}{o:AObj}{ob:Obj}(hl:∀g,l.has g->g=w.heap.size)(J:∀θ',(∀(i:Nat) (l:Loc),θ[i]? =some l->θ'[i]? =some l)->RelO θ' D (w.alloc ob) l o): Inv c (θ++[l]) D {st with hp:=st.hp++[o]} a (w.alloc ob):=by have H:Inv c θ D st a (w.alloc ob):=z.below (qg w ob) z.w0le (λ_ h=>h) (λ_ h=>.inl h);refine H.push (J _ λi l' E=>get_append E) λg hg=>?_;cases hl g hg;refine⟨z.w0le,by simp,λhd=>by have:=z.ok.dlt _ hd;omega,λi li E I=>?_⟩;have:=(z.ok.olt i li _ E I).1;omega
theorem Inv.pushAt(E:Inv c θ D st a w){pl:Option Nat}(z:IX st pl){l:Loc}{o:AObj}(N:∀θ',(∀(i:Nat) (l:Loc),θ[i]? =some l->l≠.no->θ'[i]? =some l)->RelO θ' D w l o) (hl:∀g,l.has g->c.w0.heap.size<=g/\g<w.heap.size/\¬D g/\∀(i:Nat) (li:Loc),θ[i]? =some li->¬li.has g):∃θ',Inv c θ' D (st.new pl o) a w/\θ'[st.nid pl]? =some l:=by cases pl with|none=>exact⟨θ++[l],E.push (N _ λi l' J _=>get_append J) hl,by simp[St.nid,<-E.ok.len]⟩|some s=>have I:=E.free_no z;have H:s<θ.length:=(a_.1 I).1;refine⟨θ.set s l,E.fill z (N _ λi l' J hn=>?_) hl,by simp[St.nid,H]⟩;grind
theorem Inv.allocAt(z:Inv c θ D st a w){pl:Option Nat}(E:IX st pl){l:Loc}{o:AObj}{ob:Obj}(hl:∀g,l.has g->g=w.heap.size)(N:∀θ',(∀(i:Nat) (l:Loc),θ[i]? =some l->l≠.no->θ'[i]? =some l)->RelO θ' D (w.alloc ob) l o): ∃θ',Inv c θ' D (st.new pl o) a (w.alloc ob)/\θ'[st.nid pl]? =some l:=by have H:Inv c θ D st a (w.alloc ob):=z.below (qg w ob) z.w0le (λ_ h=>h) (λ_ h=>.inl h);refine H.pushAt E N λg hg=>?_;cases hl g hg;refine⟨z.w0le,by simp,λhd=>by have:=z.ok.dlt _ hd;omega,λi li J I=>?_⟩;have:=(z.ok.olt i li _ J I).1;omega
theorem Inv.store(z:Inv c θ D st a w){id g:Nat}{l:Loc}{o':AObj}{w':World}(hid:θ[id]? =some l)(hl:l.has g)(el:w'.os=w.os)(ht:w'.tape=w.tape)(R:w'.output=w.output)(hsz:w'.heap.size=w.heap.size) (E:∀k,k≠g->w'.heap[k]? =w.heap[k]?) (ho:RelO θ D w' l o'):Inv c θ D {st with hp:=st.hp.set id o'} a w':=by
 have I:∀b,D b->w'.heap[b]? =w.heap[b]? :=λb hb=>E b λe=>(z.ok.olt id l g hid hl).2 (e▸hb);refine⟨z.size,z.defers,⟨by simp[z.ok.len],λb hb=>by rw[hsz];exact z.ok.dlt b hb,z.ok.inj,λi li U Y H=>by rw[hsz];exact z.ok.olt i li U Y H,λi li oi Y N=>?_⟩,⟨el.trans z.keep.os,ht.trans z.keep.tape,R.trans z.keep.output,by rw[hsz];exact z.keep.size,λk hk hn=>(E k λe=>?_).trans (z.keep.block k hk hn)⟩,z.dsub,z.dnew,z.onew,λk x hk=>(z.fr k x hk).mono (λ_ h=>h) I,z.fix⟩
 ·by_cases J:i=id;·grind
  ·rw[v_ (Ne.symm J)]at N;refine(z.ok.objs i li oi Y N).mono (λ_ h=>h) I λU H=>E U λe=>J ?_;subst e;exact z.ok.inj i id li l U Y hid H hl
 ·subst e;rcases z.onew id l k hid hl with h1|h1;all_goals grind
theorem uf(f:AV->AV):∀(fr:List (Nat×AV)) (k:Nat),look (fr.map λx=>(x.1,f x.2)) k=(look fr k).map f
 |[],_=>rfl
 |(j,x)::fr,k=>by
  simp only[List.map_cons,look];split;·rfl
  ·exact uf f fr k
theorem RelB.kill{θ:List Loc}{D:Nat->Prop}{w:World}{v:Value}{x:BV}{id:Nat}{l l':Loc}(hid:θ[id]? =some l)(U:∀g,l≠.blk g)(Y:∀g,l≠.mp g)(h:RelB θ D w v x):RelB (θ.set id l') D w v (x.kill id):=by
 have z:∀(k:Nat),k≠id->(θ.set id l')[k]? =θ[k]? :=λk I=>v_ (Ne.symm I);cases x with
 |pv p=>exact h|nils=>exact h|sl k=>
  simp only[BV.kill];split;·exact RelP.any v
  ·rename_i I;obtain⟨lk,E,H⟩:=h;exact⟨lk,(z k I).trans E,H⟩
 |ptr k off=>obtain⟨g,E,H⟩:=h;refine⟨g,(z k λe=>?_).trans E,H⟩;grind
 |elt k i off=>
  simp only[BV.kill];split;·exact RelP.any v
  ·rename_i I;obtain⟨g,n,cap,sz,O,E,H⟩:=h;exact⟨g,n,cap,sz,O,(z k I).trans E,H⟩
 |clo f ids=>obtain⟨J,E,H,N⟩:=h;refine⟨J,E,λj k g R hg=>(z k λe=>?_).trans (H j k g R hg),N⟩;grind
 |mp k=>obtain⟨g,E,H⟩:=h;refine⟨g,(z k λe=>?_).trans E,H⟩;grind
 |full p=>exact h|ifc=>exact h
theorem RelA.kill{θ:List Loc}{D:Nat->Prop}{w:World}{v:Value}{x:AV}{id:Nat}{l l':Loc}(hid:θ[id]? =some l)(E:∀g,l≠.blk g)(H:∀g,l≠.mp g)(h:RelA θ D w v x):RelA (θ.set id l') D w v (x.kill id):=by
 cases x with
 |b x=>exact RelB.kill hid E H h|agg xs=>obtain⟨vs,rfl,R,J⟩:=h;refine⟨vs,rfl,by grind,λi u x N I=>?_⟩;rw[g_]at I;cases z:xs[i]? with|none=>grind|some y=>rw[z]at I;cases I;exact(J i u y N z).kill hid E H
 |tup xs=>obtain⟨vs,rfl,R,J⟩:=h;refine⟨vs,rfl,by grind,λi u x N I=>?_⟩;rw[g_]at I;cases z:xs[i]? with|none=>grind|some y=>rw[z]at I;cases I;exact(J i u y N z).kill hid E H
theorem wm{θ θ':List Loc}{D D':Nat->Prop}{w:World}{f:BV->BV}{hole:Option (Nat×Nat×BV)}(M:∀u i j b,hole=some (i,j,b)->RelB θ D w u b->RelB θ' D' w u (f b))(hD:∀b,D b->D' b){g n cap s:Nat}{O:Nat->Prop}{e:TypeId}{sz:Nat}{k:Av.K}{xs:List PV} (h:RelO θ D w (.hdr g n cap s O) (.tree e sz k xs hole)):RelO θ' D' w (.hdr g n cap s O) (.tree e sz k xs (Tw f hole)):=by
 obtain⟨z,B,C,E,F,c,Os,H,I,J,L,A,d⟩:=h;refine⟨z,B,C,E,F,c,Os,H,I,J,L,λi j b p=>?_,λi j x y N P=>?_⟩;·cases hole with|none=>cases p|some q=>obtain⟨i',Q,r⟩:=q;cases p;grind
 ·obtain⟨u,v,a⟩:=d i j x y N P;refine⟨u,v,?_⟩;have:ei (Tw f hole) i j=(ei hole i j).map f:=by cases hole with|none=>rfl|some q=>obtain⟨i',Q,r⟩:=q;simp only[Tw,ei];simp
  rw[this];cases l:ei hole i j with|none=>rw[l]at a;exact a.mono hD (λ_ _=>rfl) λ_ _=>rfl|some b=>rw[l]at a;exact M u i j b (yi l) a
theorem RelO.kill{θ:List Loc}{D:Nat->Prop}{w:World}{lo:Loc}{o:AObj}{id:Nat}{l l':Loc}(hid:θ[id]? =some l)(z:∀g,l≠.blk g)(E:∀g,l≠.mp g)(h:RelO θ D w lo o):RelO (θ.set id l') D w lo (o.kill id):=by
 cases lo<;>cases o<;>simp only[RelO,AObj.kill]at h⊢<;>try exact h
 case nil.tree=>exact⟨h.1,by rw[h.2];rfl⟩
 case hdr.tree g n cap s O e sz kk xs hole=>exact wm (λu i j b _ h=>h.kill hid z E) (λ_ h=>h) h
 obtain⟨J,N,Y,R⟩:=h;refine⟨J,N,by grind,λi u x U I=>?_⟩;rw[g_]at I;rename_i cs;cases H:cs[i]? with|none=>grind|some y=>rw[H]at I;cases I;exact(R i u y U H).kill hid z E
theorem Inv.move(z:Inv c θ D st a w){id:Nat}{l l':Loc}{o':AObj}{w':World}(hid:θ[id]? =some l)(ph:∀g,l≠.blk g)(qr:∀g,l≠.mp g)(CD:w'.os=w.os)(ht:w'.tape=w.tape)(rg:w'.output=w.output)(hsz:w.heap.size<=w'.heap.size) (H:∀k,k<w.heap.size->¬l.has k->w'.heap[k]? =w.heap[k]?) (R:∀g,l'.has g->g<w'.heap.size/\(l.has g\/w.heap.size<=g)) (ho:RelO (θ.set id l') D w' l' o'): Inv c (θ.set id l') D (st.moved id o') a w':=by
 show Inv c (θ.set id l') D {(st.kill id)with hp:=(st.kill id).hp.set id o'} a w';have el:∀b,D b->w'.heap[b]? =w.heap[b]? :=λb hb=>H b (z.ok.dlt b hb) λe=>(z.ok.olt id l b hid e).2 hb;have CT:id<θ.length:=(a_.1 hid).1;have E:∀(i:Nat) (li:Loc),(θ.set id l')[i]? =some li->(i=id/\li=l')\/(i≠id/\θ[i]? =some li):=λi li J=>by grind
 have wr:∀(i:Nat) (li:Loc) (g:Nat),i≠id->θ[i]? =some li->li.has g->¬l'.has g:=λi li g Bx J hg e=>by
  rcases(R g e).2 with I|I;·exact Bx (z.ok.inj i id li l g J hid hg I)
  ·have:=(z.ok.olt i li g J hg).1;omega
 refine⟨z.size,z.defers,⟨by simp[St.kill,z.ok.len],λb hb=>j_ (z.ok.dlt b hb) hsz,λi j li lj g J hj At Bk=>?_,λi li g J hg=>?_,λi li oi J U=>?_⟩,⟨CD.trans z.keep.os,ht.trans z.keep.tape,rg.trans z.keep.output,C_ z.keep.size hsz,λk Y hn=>(H k (j_ Y z.keep.size) λe=>?_).trans (z.keep.block k Y hn)⟩,z.dsub,z.dnew,λi li g J hg=>?_,λk x Y=>?_,λk lk Y hf=>?_⟩
 ·rcases E i li J with⟨rfl,rfl⟩|⟨I,N⟩<;>rcases E j lj hj with⟨rfl,rfl⟩|⟨h3,h4⟩;·rfl
  ·grind
  ·grind
  ·exact z.ok.inj i j li lj g N h4 At Bk
 ·rcases E i li J with⟨rfl,rfl⟩|⟨I,N⟩
  ·refine⟨(R g hg).1,λhd=>?_⟩;rcases(R g hg).2 with h3|h3;·exact(z.ok.olt i l g hid h3).2 hd
   grind
  ·exact⟨j_ (z.ok.olt i li g N hg).1 hsz,(z.ok.olt i li g N hg).2⟩
 ·rcases E i li J with⟨rfl,rfl⟩|⟨I,N⟩;·grind
  ·rw[v_ (Ne.symm I)]at U;simp only[St.kill,g_]at U;cases ur:st.hp[i]? with|none=>grind|some ob=>rw[ur]at U;cases U;exact((z.ok.objs i li ob N ur).kill hid ph qr).mono (λ_ h=>h) el λg hg=>H g (z.ok.olt i li g N hg).1 λe=>I (z.ok.inj i id li l g N hid hg e)
 ·rcases z.onew id l k hid e with I|I;all_goals grind
 ·rcases E i li J with⟨rfl,rfl⟩|⟨I,N⟩
  ·rcases(R g hg).2 with h3|h3;·exact z.onew i l g hid h3
   ·exact .inr (C_ z.keep.size h3)
  ·exact z.onew i li g N hg
 ·simp only[St.kill,uf]at Y;cases gc:look st.fr k with|none=>grind|some y=>rw[gc]at Y;cases Y;exact((z.fr k y gc).kill hid ph qr).mono (λ_ h=>h) el
 ·have I:=z.fix k lk Y hf;by_cases BT:k=id;·subst BT;rw[hid]at I;cases I;cases l<;>simp[Loc.fixed]at hf;all_goals grind
  grind
end
section
variable {D D':Nat->Prop} {w w':World}
theorem RelB.ren{θ θ2:List Loc}{ρ:Nat->Nat}{v:Value}{x:BV}(z:∀k l,k∈x.ids->θ[k]? =some l->θ2[ρ k]? =some l)(h:RelB θ D w v x):RelB θ2 D w v (x.ren ρ):=by
 cases x<;>simp only[RelB,BV.ren,BV.ids,List.mem_singleton]at h z⊢;·omega
 ·omega
 ·grind
 ·grind
 ·grind
 ·grind
 all_goals grind
theorem Ez{xs:List BV}{x:BV}{k:Nat}{i:Nat}(b:xs[i]? =some x)(a:k∈x.ids):k∈xs.flatMap BV.ids:=by grind
theorem Fg{θ θ2:List Loc}{D2:Nat->Prop}{a:World}{vs:Array Value}{xs:List BV}{g:BV->BV}(b:vs.size=xs.length)(c:∀(i:Nat) (u:Value) (x:BV),vs[i]? =some u->xs[i]? =some x->RelB θ D w u x) (hg:∀(i:Nat) (u:Value) (x:BV),xs[i]? =some x->RelB θ D w u x->RelB θ2 D2 a u (g x)):vs.size=(xs.map g).length/\∀(i:Nat) (u:Value) (x:BV),vs[i]? =some u->(xs.map g)[i]? =some x->RelB θ2 D2 a u x:=by grind
theorem RelA.ren{θ θ2:List Loc}{ρ:Nat->Nat}{v:Value}{x:AV}(z:∀k l,k∈x.ids->θ[k]? =some l->θ2[ρ k]? =some l)(h:RelA θ D w v x):RelA θ2 D w v (x.ren ρ):=by
 cases x with
 |b x=>exact RelB.ren z h|agg xs=>obtain⟨vs,rfl,E,H⟩:=h;obtain⟨I,J⟩:=Fg (θ2:=θ2) (g:=BV.ren ρ) E H λi u x R hr=>hr.ren λk l N hl=>z k l (Ez R N) hl;exact⟨vs,rfl,I,J⟩
 |tup xs=>obtain⟨vs,rfl,E,H⟩:=h;obtain⟨I,J⟩:=Fg (θ2:=θ2) (g:=BV.ren ρ) E H λi u x R hr=>hr.ren λk l N hl=>z k l (Ez R N) hl;exact⟨vs,rfl,I,J⟩
theorem RelO.ren{θ θ2:List Loc}{ρ:Nat->Nat}{l:Loc}{o:AObj}(z:∀k l,k∈o.ids->θ[k]? =some l->θ2[ρ k]? =some l)(h:RelO θ D w l o):RelO θ2 D w l (o.ren ρ):=by
 cases l<;>cases o<;>simp only[RelO,AObj.ren]at h⊢<;>try exact h
 case nil.tree=>exact⟨h.1,by rw[h.2];rfl⟩
 case hdr.tree hole=>exact wm (λu i j b J hr=>hr.ren λk l E hl=>z k l (by rw[J];exact E) hl) (λ_ h=>h) h
 obtain⟨R,U,H,I⟩:=h;obtain⟨Y,h5⟩:=Fg (θ2:=θ2) (g:=BV.ren ρ) H I λi u x N hr=>hr.ren λk l E hl=>z k l (Ez N E) hl;grind
theorem RelB.killB{θ θ2:List Loc}{B:List Nat}{v:Value}{x:BV}(J:∀(k:Nat) (l:Loc),k∉B->θ[k]? =some l->θ2[k]? =some l)(I:∀(k:Nat) (l:Loc),l.fixed=true->θ[k]? =some l->θ2[k]? =some l) (h:RelB θ D w v x):RelB θ2 D w v (x.killB B):=by
 cases x with
 |pv p=>exact h|nils=>exact h|sl k=>
  by_cases H:k∈B
  ·have:(BV.sl k).killB B= .pv .any:=by simp[BV.killB,H]
   rw[this];exact RelP.any v
  ·have:(BV.sl k).killB B= .sl k:=by simp[BV.killB,H]
   rw[this];obtain⟨l,z,E⟩:=h;exact⟨l,J _ _ H z,E⟩
 |ptr k off=>obtain⟨g,z,E⟩:=h;exact⟨g,I _ _ rfl z,E⟩
 |elt k i off=>
  by_cases H:k∈B
  ·have:(BV.elt k i off).killB B= .pv .any:=by simp[BV.killB,H]
   rw[this];exact RelP.any v
  ·have:(BV.elt k i off).killB B= .elt k i off:=by simp[BV.killB,H]
   rw[this];obtain⟨g,n,cap,sz,O,z,E⟩:=h;exact⟨g,n,cap,sz,O,J _ _ H z,E⟩
 |clo f ids=>obtain⟨U,z,E,N⟩:=h;exact⟨U,z,λk id g R f2=>I _ _ rfl (E k id g R f2),N⟩
 |mp k=>obtain⟨g,z,E⟩:=h;exact⟨g,I _ _ rfl z,E⟩
 |full p=>exact h|ifc=>exact h
theorem RelA.killB{θ θ2:List Loc}{B:List Nat}{v:Value}{x:AV}(z:∀(k:Nat) (l:Loc),k∉B->θ[k]? =some l->θ2[k]? =some l)(E:∀(k:Nat) (l:Loc),l.fixed=true->θ[k]? =some l->θ2[k]? =some l) (h:RelA θ D w v x):RelA θ2 D w v (x.killB B):=by
 cases x with
 |b x=>exact RelB.killB z E h|agg xs=>obtain⟨vs,rfl,H,I⟩:=h;obtain⟨J,N⟩:=Fg (θ2:=θ2) (g:=BV.killB B) H I λi u x R hr=>hr.killB z E;exact⟨vs,rfl,J,N⟩
 |tup xs=>obtain⟨vs,rfl,H,I⟩:=h;obtain⟨J,N⟩:=Fg (θ2:=θ2) (g:=BV.killB B) H I λi u x R hr=>hr.killB z E;exact⟨vs,rfl,J,N⟩
theorem RelO.killB{θ θ2:List Loc}{B:List Nat}{l:Loc}{o:AObj}(z:∀(k:Nat) (l:Loc),k∉B->θ[k]? =some l->θ2[k]? =some l)(E:∀(k:Nat) (l:Loc),l.fixed=true->θ[k]? =some l->θ2[k]? =some l) (h:RelO θ D w l o):RelO θ2 D w l (o.killB B):=by
 cases l<;>cases o<;>simp only[RelO,AObj.killB]at h⊢<;>try exact h
 case nil.tree=>exact⟨h.1,by rw[h.2];rfl⟩
 case hdr.tree hole=>exact wm (λu i j b Y hr=>hr.killB z E) (λ_ h=>h) h
 obtain⟨J,N,H,I⟩:=h;obtain⟨R,U⟩:=Fg (θ2:=θ2) (g:=BV.killB B) H I λi u x hx hr=>hr.killB z E;grind
theorem RelB.flatB{θ:List Loc}{v:Value}{x:BV}(z:x.FlatB)(h:RelB θ D w v x):RelB θ D' w' v x:=by cases x<;>simp only[RelB,BV.FlatB]at h z⊢<;>first|exact h.flat z|omega|exact z.elim
theorem RelA.flatA{θ:List Loc}{v:Value}{x:AV}(I:x.FlatA)(h:RelA θ D w v x):RelA θ D' w' v x:=by
 cases x with
 |b x=>exact RelB.flatB I h|agg xs=>obtain⟨vs,N,E,H⟩:=h;exact⟨vs,N,E,λi u x J z=>(H i u x J z).flatB (I x (b_ z))⟩
 |tup xs=>obtain⟨vs,N,E,H⟩:=h;exact⟨vs,N,E,λi u x J z=>(H i u x J z).flatB (I x (b_ z))⟩
theorem RelT.flatT{q:Option (TypeId×Nat×Av.K)}{O:Nat->Prop}{v:Value}{p:PV}(h:RelT D w q O v p):FlatT q p->RelT D' w q O v p:=by
 induction h with
 |flat O v p h=>intro z;cases z with|flat _ hp=>exact .flat O v p (h.flat hp)
 |nil q O a=>intro _;exact .nil q O a|hdr e sz k O g cap xs p cs val Os hp hcap hmax hsz hg hcs H hOs hdj hc _ R=>intro z;cases z with|sl _ _ _ _ E I z=>have:E=xs:=zbj (I.symm.trans hp);subst this;exact .hdr e sz k O g cap E p cs val Os hp hcap hmax hsz hg hcs H hOs hdj hc λi j x y J N=>R i j x y J N (z i j x y J N)
theorem RelO.flatO{θ:List Loc}{l:Loc}{o:AObj}(J:o.FlatO)(h:RelO θ D w l o):RelO θ D' w l o:=by
 cases l<;>cases o<;>simp only[RelO,AObj.FlatO]at h J⊢<;>try exact h
 ·obtain⟨cv,H,I,z⟩:=h;exact⟨cv,H,I,λi u x hu E=>(z i u x hu E).flatB (J x (b_ E))⟩
 ·obtain⟨H,I,z,h4,h5,c,h6,h7,h8⟩:=h;exact⟨H,I,z,h4,h5,c,h6,h7,λi j x y E R=>let⟨u,e1,N⟩:=h8 i j x y E R;⟨u,e1,N.flat (J x (b_ E) y (b_ R))⟩⟩
 ·obtain⟨H,I,z,h4,h5,c,Os,h6,h7,h8,h9,gc,el⟩:=h;refine⟨H,I,z,h4,h5,c,Os,h6,h7,h8,h9,gc,λi j x y E R=>?_⟩;obtain⟨u,e1,N⟩:=el i j x y E R;refine⟨u,e1,?_⟩;rename_i hole;cases hq:ei hole i j with|none=>rw[hq]at N;exact N.flatT (J.2 i j x y E R)|some b=>rw[hq]at N;exact N.flatB (J.1 i j b (yi hq))
 ·obtain⟨es,ck,H,I,z⟩:=h;exact⟨es,ck,H,I,λi en Y he U=>⟨(z i en Y he U).1.flat (J Y (b_ U)).1,(z i en Y he U).2.flat (J Y (b_ U)).2⟩⟩
end
section
variable {P:Program} {o:Oper} {c:Ctx} {θ:List Loc} {D:Nat->Prop} {st:St} {a:Act} {w:World}
theorem fX(w:World)(o:Obj)(k:Nat)(h:k<w.heap.size):(w.alloc o).heap[k]? =w.heap[k]? :=Below.heap_alloc w o k h
theorem gV(w:World)(o:Obj):(w.alloc o).heap[w.heap.size]? =some o:=by show(w.heap.push o)[w.heap.size]? =_;simp
def Leaves(P:Program)(o:Oper)(c:Ctx)(K KP:St->Prop)(a:Act)(w:World):Prop:=
 ∀(next:Act->World->Prop) (Q:Exit->Act->World->Prop),(∀d w',(∃b,K b/\Rel c b d w')->next d w')->(∀e w',(A5 e/\∃b,KP b/\Rel c b a w')->Q (.panic e) a w')->o.wp P a w next Q
theorem Kb{K KP:St->Prop}{b:AV->Prop}(hd:∀k,o.dst=some k->k<c.n)(h:Yields P o a w (Res c θ st a b))(e:∀x,b x->K (st.putO o.dst x)):Leaves P o c K KP a w:=λ_ _ hn _=>h.wp λ_ _ ⟨x,D',g,d,f⟩=>hn _ _ ⟨_,e x g,θ,D',d.put hd f⟩
theorem M0{hp:List AObj}{x:BV}{p:PV}(h:A9 hp false x=some p):x.toPV=some p:=by
 unfold A9 at h;split at h;·cases h
 ·exact h
theorem Va{hp:List AObj}{x:AV}{p:PV}(h:oM hp false x=some p):x.toPV=some p:=by
 cases x with
 |b x=>exact M0 h|agg xs=>
  simp only[oM,AV.toPV,c_]at h⊢;obtain⟨c,d,rfl⟩:=h;refine⟨c,?_,rfl⟩;have:∀(l:List BV) (c:List PV),l.mapM (A9 hp false)=some c->l.mapM BV.toPV=some c:=by intro l;induction l with|nil=>simp|cons x l f=>intro c h;rw[ai_]at h⊢;simp only[U_,ah_,h_,P_]at h⊢;obtain⟨a,d,m,e,rfl⟩:=h;exact⟨a,M0 d,m,f _ e,rfl⟩
  grind
 |tup xs=>exact h
theorem WP(g:Inv c θ D st a w){D':Nat->Prop}(hD:∀b,D b->D' b){bor:Bool}{v:Value}{x:BV}{p:PV}(hO:bor=true->∀id l,id∈x.ids->θ[id]? =some l->∀b,l.has b->D' b)(d:RelB θ D w v x)(h:A9 st.hp bor x=some p):RelP D' w v p:=by
 unfold A9 at h;split at h
 ·rename_i id;cases bor;·grind
  ·obtain⟨l,e,f⟩:=zbS g.ok d h;exact f D' hD (hO rfl id l (by simp[BV.ids]) e)
 ·exact(sX d h).mono hD (λ_ _=>rfl)
theorem R5(f:Inv c θ D st a w){D':Nat->Prop}(hD:∀b,D b->D' b){bor:Bool}{v:Value}{x:AV}{p:PV}(hO:bor=true->∀id l,id∈x.ids->θ[id]? =some l->∀b,l.has b->D' b)(d:RelA θ D w v x)(h:oM st.hp bor x=some p):RelP D' w v p:=by
 cases x with
 |b x=>exact WP f hD hO d h|agg xs=>simp only[oM,c_]at h;obtain⟨A,g,rfl⟩:=h;obtain⟨vs,rfl,z,j⟩:=d;obtain⟨k,n⟩:=mapM_some g;refine RelP.agg _ _ (by omega) λi u p y hp=>?_;obtain⟨x,e⟩:=bA k hp;exact WP f hD (λr id l s=>hO r id l (List.mem_flatMap.2 ⟨x,b_ e,s⟩)) (j i u x y e) (n i x p e hp)
 |tup xs=>exact(db d h).mono hD (λ_ _=>rfl)
theorem zbO(d:Inv c θ D st a w){bor:Bool}{v:Value}{x:AV}{p:PV}(f:RelA θ D w v x)(h:oM st.hp bor x=some p):RelP (if bor then λb=>b<w.heap.size else D) w v p:=by
 cases bor;·exact db f (Va h)
 ·exact R5 d (λb e=>d.ok.dlt b e) (λ_ id l _ hl b e=>(d.ok.olt id l b hl e).1) f h
theorem I4{f:FuncId}(c:fU P f=true)(args:Array Value):(callFunc f args).run P w= .ok (.enter f args) w:=by unfold fU at c;cases a:P.funcs[f]? with|none=>grind|some fn=>rw[a]at c;simp only[Bool.and_eq_true,bne_iff_ne,ne_eq]at c;obtain⟨g,d⟩:=c;cases e:fn.body with|none=>grind|some b=>simp[callFunc,a,d,e]
theorem WS{f:FuncId}{c:Call}(g:o.op= .call c)(d:c.callee= .value (.func f))(e:fU P f=true):(execOp a.eval o).run P w= .ok (.enter f (c.args.toList.map a.eval).toArray) w:=by
 have b:(c.args.map a.eval)=(c.args.toList.map a.eval).toArray:=by grind
 rw[<-b];simp[execOp,g,resolve,d,Act.eval,Deferred.ofValue,invoke,I4 e]
theorem R9{f:FuncId}{c:Call}{t:Tmp}{cs:Array Value}(g:o.op= .call c)(d:c.callee= .value (.tmp t))(h:a.eval (.tmp t)= .func (.func f) #[] cs)(e:fU P f=true):(execOp a.eval o).run P w= .ok (.enter f (c.args.toList.map a.eval++cs.toList).toArray) w:=by
 have b:(c.args.map a.eval)++cs=(c.args.toList.map a.eval++cs.toList).toArray:=by simp
 rw[<-b];simp[execOp,g,resolve,d,h,Deferred.ofValue,invoke,I4 e]
theorem M8(s:Inv c θ D st a w)(hd:∀k,o.dst=some k->k<c.n){K KP:St->Prop}{bor:Bool}{f:FuncId}{vs:List Value}{N:List PV}(H:(execOp a.eval o).run P w= .ok (.enter f vs.toArray) w)(m1:vs.length=N.length) (E:∀(i:Nat) (v:Value) (x:AV),vs[i]? =some v->(N.map AV.p)[i]? =some x->RelA [] (if bor then λb=>b<w.heap.size else D) w v x) (hc:ACalls P f (N.map .p) [] λo'=>∃r z,o'=some (r,z)/\r.ids=[]/\(bor=true->r.FlatA)/\K (st.putO o.dst r)):Leaves P o c K KP a w:=by
 intro next Q hn _;unfold Oper.wp;rw[H];simp only[Oper.upon];have A:∀b,(if bor then λb=>b<w.heap.size else D) b->b<w.heap.size:=λb n=>by
  cases bor;·exact s.ok.dlt b n
  grind
 have L:∀b,¬owns [] b:=λb ⟨i,l,J,_⟩=>by grind
 refine(hc w [] (if bor then λb=>b<w.heap.size else D) vs ((c.gk w s.keep).mono (Keep.refl (λ_=>False) w) (λ_ _ h=>h) (λb n=>by
  cases bor;·exact s.dsub b n
  ·exact s.ok.dlt b (s.dsub b n))) ⟨rfl,A,λi j li lj g J=>by simp,λi l g J=>by grind,λi l o J=>by simp⟩ (by grind) E).mono λe w' n=>?_
 rcases n with⟨v,r,z,θ',D',rfl,⟨r',R,hr,O,u,U⟩,hv,M,d,hD,T,_,_,_⟩|⟨ch,_,rfl,⟨p,z,hr,_⟩,_⟩
 ·cases hr;have B:Below w.heap.size w w':=⟨d.os,d.tape,d.output,d.size,λk C=>d.block k C (L k)⟩;have I:=s.below (D':=λb=>D b\/(D' b/\w.heap.size<=b)) B s.w0le (λb n=>.inl n) (λb n=>n.imp id λh=>⟨h.2,M.dlt b h.1⟩);refine hn _ _ ⟨_,U,θ,_,I.put hd ?_⟩;have y:=hv.ren (θ2:=θ) (ρ:=id) λk l C=>by grind
  have F:r.ren id=r:=by
   have n:∀x:BV,x.ren id=x:=λx=>by cases x<;>simp[BV.ren]
   have Y:∀xs:List BV,xs.map (BV.ren id)=xs:=λxs=>by rw[List.map_congr_left (g:=λx=>x) λx _=>n x];simp
   cases r<;>simp[AV.ren,n,Y]
  rw[F]at y;cases bor;·refine y.mono (λb n=>?_) (λ_ _=>rfl);grind
  ·exact y.flatA (u rfl)
 grind
theorem zan(e:Inv c θ D st a w)(hd:∀k,o.dst=some k->k<c.n){K KP:St->Prop}{bor:Bool}{f:FuncId}{d:Call}(u:o.op= .call d)(g:d.callee= .value (.func f))(s:fU P f=true) (h:ou P st (.call bor f (d.args.toList.map SX.of)) λx=>K (st.putO o.dst x)):Leaves P o c K KP a w:=by obtain⟨A,j,hc⟩:=h;obtain⟨C,z⟩:=mapM_some j;refine M8 (bor:=bor) e hd (WS u g s) (by grind) (λi v x l hp=>?_) hc;rw[g_]at hp l;cases b:A[i]? with|none=>grind|some p=>rw[b]at hp;cases hp;cases y:d.args.toList[i]? with|none=>grind|some x=>rw[y]at l;cases l;have:=z i (SX.of x) p (by grind) b;simp only[h_]at this;obtain⟨B,n,r⟩:=this;exact zbO e (e.get n) r
theorem WZ(e:Inv c θ D st a w)(hd:∀k,o.dst=some k->k<c.n){K KP:St->Prop}{bor:Bool}{t:Tmp}{j:Call}(F:o.op= .call j)(l:j.callee= .value (.tmp t)) (h:ou P st (.callp bor (.tm t) (j.args.toList.map SX.of)) λx=>K (st.putO o.dst x)):Leaves P o c K KP a w:=by
 obtain⟨M,I,f,cs,rfl,C,u,r,hc⟩:=h;obtain⟨Q,J⟩:=mapM_some r;have s:RelP D w (a.eval (.tmp t)) (.fn (.func f) cs):=e.get (x:=.tmp t) I;have key:∃us:Array Value,a.eval (.tmp t)= .func (.func f) #[] us/\us.toList.length=cs.length/\∀(i:Nat) (v:Value) (x:PV),us.toList[i]? =some v->cs[i]? =some x->RelP D w v x:=by generalize a.eval (.tmp t)=v at s;cases s with|fn _ us _ hs N=>grind
 obtain⟨us,H,hl,hr⟩:=key;have hD:∀b,D b->(if bor then λb=>b<w.heap.size else D) b:=λb B=>by
  cases bor;·grind
  ·exact e.ok.dlt b B
 have E:(j.args.toList.map a.eval).length=u.length:=by grind
 refine M8 (bor:=bor) e hd (R9 F l H C) (by grind) (λi v x d hp=>?_) hc;rw[g_]at hp;obtain⟨p,g,rfl⟩:=c_.1 hp;clear hp;have hp:=g;clear g;rcases H_ i u.length with n|n;·rw[q_ (by omega)]at d;rw[q_ n]at hp;rw[g_]at d;obtain⟨y,O,rfl⟩:=c_.1 d;have:=J i (SX.of y) p (by grind) hp;simp only[h_]at this;obtain⟨L,z,A⟩:=this;exact zbO e (e.get z) A
 ·rw[p_ (by omega)]at d;rw[p_ n]at hp;rw[E]at d;exact(hr _ v p d hp).mono hD (λ_ _=>rfl)
theorem K3:∀{L:List PV} {l:List Int},bytesOf L=some l->L.length=l.length/\∀(i:Nat) (n:Int),l[i]? =some n->L[i]? =some (.sc (.int .u8 n))
 |[],l,h=>by simp[bytesOf]at h;grind
 |p::L,l,h=>by
  unfold bytesOf at h;split at h;·grind
  ·rename_i n c a;cases a;simp only[c_]at h;obtain⟨l',b,rfl⟩:=h;obtain⟨d,e⟩:=K3 b;grind
  grind
theorem zcT(p:Inv c θ D st a w){K:AV->Prop}{s d e:TypeId}{x:Operand}(I:o.op= .convert s d x)(hs:P.underlying s=some (.slice e))(hd:P.underlying d=some .string)(y:P.underlying e=some (.int .u8))(h:ou P st (.b2s (.of x)) K):Yields P o a w (Res c θ st a K):=by
 obtain⟨O,M,hl⟩:=h;obtain⟨L,A,cap,⟨l,r,H⟩,J,hcap,B,b⟩:=sW p.ok (p.get M) hl;obtain⟨j,f⟩:=K3 r;refine aN p (v:=.string (strOfNums l)) ?_ H (RelP.sc _);have n:(convert s d (a.eval x)).run P w= .ok (.string (strOfNums l)) w:=by
  rw[J];by_cases k:0<L.length
  ·obtain⟨g,N,rfl,hg,hsz,hc⟩:=b k;refine run_convert_bytes_arg w s e hs y g N L.length cap l j.symm (λi R=>?_) d hd;have z:i<l.length:=by omega
   have F:=f i _ (d_ z);obtain⟨u,Q,C⟩:=hc i 0 _ _ F rfl;cases C;grind
  ·have E:L=[]:=m_ (by omega);subst E;simp[bytesOf]at r;subst r;cases A with|none=>exact run_convert_bytes_nil w s e hs y 0 cap d hd|some A=>rw[run_convert_bytes_string w s d e _ _ cap hs y hd];rfl
 simp[execOp,I,n]
theorem Wo(n:Inv c θ D st a w)(hd:∀k,o.dst=some k->k<c.n){K KP:St->Prop}{pl:Option Nat}{t:TypeId}{z:Value}(p:o.op= .alloc t)(j:eP P t=some z) (h:Ou st (.alloc t z.cells.toList) λob mk=>IX st pl/\K ((st.new pl ob).putO o.dst (.b (mk (st.nid pl))))):Leaves P o c K KP a w:=by
 intro next Q hn _;obtain⟨f,h⟩:=h;obtain⟨θ',d,hid⟩:=n.allocAt f (l:=.blk w.heap.size) (o:=.box t (z.cells.toList.map λv=>bJ v)) (ob:=.cells z.cells t) (λ_ h=>h) λθ' r=>⟨z.cells,gV w _,by simp,R4 z.cells⟩;simp only[eP,h_]at j;obtain⟨s,e,g⟩:=j;have b:(execOp a.eval o).run P w= .ok (.value (.pointer (some ⟨w.heap.size,0,none⟩))) (w.alloc (.cells z.cells t)):=by simp[execOp,p,Instr.alloc,zeroValue,typeInfo,e,g,newVar,newRow]
 unfold Oper.wp;rw[b];exact hn _ _ ⟨_,h,_,_,d.put hd ⟨w.heap.size,hid,rfl⟩⟩
theorem WW(b:Inv c θ D st a w)(hd:∀k,o.dst=some k->k<c.n){K KP:St->Prop}{t:TypeId}{z:Value}(d:o.op= .alloc t)(e:eP P t=some z)(h:sexec P o.dst (.alloc t z.cells.toList) st K KP):Leaves P o c K KP a w:=Wo b hd (pl:=none) d e ⟨trivial,h⟩
theorem zel(e:Inv c θ D st a w)(hd:∀k,o.dst=some k->k<c.n){K KP:St->Prop}{pl:Option Nat}{t:TypeId}{x:Operand}(B:o.op= .box t x) (h:Ou st (.box t (.of x)) λob mk=>IX st pl/\K ((st.new pl ob).putO o.dst (.b (mk (st.nid pl))))):Leaves P o c K KP a w:=by
 intro next Q hn _;obtain⟨p,E,g,j,A⟩:=h;have v:=e.get E;obtain⟨r,s⟩:=xn v g;obtain⟨θ',f,hid⟩:=e.allocAt j (l:=.blk w.heap.size) (o:=.box t p.cells) (ob:=.cells (a.eval x).cells t) (λ_ h=>h) λθ' n=>⟨(a.eval x).cells,gV w _,r,λi u y C F=>((s i u y C F).1.mono (λ_ h=>h) (λb z=>fX w _ b (e.ok.dlt b z))).extN n⟩;have d:(execOp a.eval o).run P w= .ok (.value (.pointer (some ⟨w.heap.size,0,none⟩))) (w.alloc (.cells (a.eval x).cells t)):=by simp[execOp,B,Instr.box,newVar,newRow]
 unfold Oper.wp;rw[d];exact hn _ _ ⟨_,A,_,_,f.put hd ⟨w.heap.size,hid,rfl⟩⟩
theorem zcU(e:Inv c θ D st a w)(hd:∀k,o.dst=some k->k<c.n){K KP:St->Prop}{t:TypeId}{x:Operand}(g:o.op= .box t x)(h:sexec P o.dst (.box t (.of x)) st K KP):Leaves P o c K KP a w:=by obtain⟨d,j,b,f⟩:=h;exact zel e hd (pl:=none) g ⟨d,j,b,trivial,f⟩
theorem VR{sz:Nat}:∀(parts:List (Nat×Value)) (d:List PV) (s:Nat) (a:Array Value),parts.length=d.length->
 (∀(i:Nat) (x:Nat×Value) (p:PV),parts[i]? =some x->d[i]? =some p->x.1=s+i/\RelP D w x.2 p/\p.ok=true/\p.cells.length=sz)->(s+parts.length)*sz<=a.size->
 ∃b,Instr.fill (λi=>some (i*sz,sz)) a parts=some b/\b.size=a.size/\(∀k,k<s*sz->b[k]? =a[k]?)/\∀(i j:Nat) (p y:PV),d[i]? =some p->p.cells[j]? =some y->∃u,b[(s+i)*sz+j]? =some u/\RelP D w u y
 |[],[],s,a,_,_,_=>⟨a,rfl,rfl,λ_ _=>rfl,λi j p y hp=>by grind⟩
 |(k,v)::parts,p::d,s,a,hl,hp,hs=>by
  obtain⟨e,f,g,E⟩:=hp 0 _ _ rfl rfl;obtain rfl:k=s:=e;obtain⟨F,H⟩:=xo f g;have r:v.cells.size=sz:=by grind
  have n:(k+1+parts.length)*sz<=a.size:=by simp only[I_]at hs;grind
  have h:k*sz+sz<=a.size:=by grind
  obtain⟨M,N⟩:=Sc (k*sz) v.cells a (by omega);obtain⟨b,z,A,B,C⟩:=VR parts d (k+1) (v.cells.zipIdx.foldl (λcs (c,j)=>cs.setIfInBounds (k*sz+j) c) a) (by grind) (λi x q J l=>by have:=hp (i+1) x q (by grind) (by grind);exact⟨by omega,this.2⟩) (by grind);refine⟨b,?_,by grind,λj I=>?_,λi j q y l L=>?_⟩;·simp only[Instr.fill];grind
  ·grind
  ·cases i with|zero=>grind|succ i=>grind
theorem Ht(hI:Inv c θ D st a w){f:AV->Option PV}(hf:∀v x p,RelA θ D w v x->f x=some p->RelP D w v p){t e:TypeId}{len sz:Nat}{parts:Array (Nat×Operand)}{z:Value}{r:List PV}(O:o.op= .buildSlice t len parts)(he:iP P t=some e)(hs:bZ P e=some sz)(hz:eP P e=some z) (B:yk parts.toList=true) (el:z.cells.size=sz) (J:(parts.toList.map λq=>SX.of q.2).mapM (λx=>(st.get x).bind f)=some r) (g:r.length=len) (h0:0<sz) (hmax:len*sz<=16777216) (F:∀p∈r,p.cells.length=sz/\p.ok=true): ∃b:Array Value,(execOp a.eval o).run P w= .ok (.value (.slice (some ⟨w.heap.size,0,none⟩) len len)) (w.alloc (.cells b e))/\b.size=len*sz/\∀(i j:Nat) (p y:PV),r[i]? =some p->p.cells[j]? =some y->∃u,b[i*sz+j]? =some u/\RelP D w u y:=by
 obtain⟨m1,m2⟩:=mapM_some J;have l:parts.size=r.length:=by simpa using m1
 have Q:P.underlying t=some (.slice e):=by unfold iP at he;grind
 simp only[bZ,c_]at hs;obtain⟨C,k,rfl⟩:=hs;have L:C.zero=some z:=by simpa[eP,k]using hz
 have s:∀(i:Nat) (x:Nat×Operand),parts.toList[i]? =some x->x.1=i:=by
  intro i x n;simp only[yk,beq_iff_eq]at B;have N:(parts.toList.map (·.1))[i]? =some x.1:=by rw[g_,n];rfl
  grind
 obtain⟨b,M,R,e3,T⟩:=VR (D:=D) (w:=w) (sz:=C.size) (parts.map fun(i,x)=>(i,a.eval x)).toList r 0 ((Array.range (len*C.size)).map (z.cells[·%z.cells.size]!)) (by simp[l]) (λi x p n hp=>by simp only[ab_,g_]at n;cases d:parts.toList[i]? with|none=>rw[d]at n;cases n|some pr=>rw[d]at n;cases n;have:=m2 i (SX.of pr.2) p (by rw[g_,d];rfl) hp;simp only[h_]at this;obtain⟨av,N,U⟩:=this;obtain⟨Y,h4⟩:=F p (b_ hp);exact⟨by simp[s i pr d],hf _ _ _ (hI.get N) U,h4,Y⟩) (by simp[l,g])
 refine⟨b,?_,by rw[R];simp,λi j p y hp hy=>by have:=T i j p y hp hy;rwa [o_]at this⟩;have E:¬(16777216<len*C.size):=by omega
 by_cases A:len*C.size=0
 ·have:len=0:=by
   rcases Nat.mul_eq_zero.1 A with h|h;·exact h
   ·omega
  subst this;have H:parts.toList=[]:=m_ (by simp[l,g]);have I:parts= #[]:=by simpa using H
  subst I;have:b= #[]:=by grind
  subst this;simp[execOp,O,Instr.buildSlice,run_underlying Q,sizeOf,typeInfo,k,Instr.fill,newRow,Array.range_zero']
 ·simp[execOp,O,Instr.buildSlice,run_underlying Q,sizeOf,typeInfo,k,E,A,zeroValue,L,newRow];simp at M;rw[M];simp
theorem TP(B:Inv c θ D st a w)(hd:∀k,o.dst=some k->k<c.n){K KP:St->Prop}{t e:TypeId}{len sz:Nat}{parts:Array (Nat×Operand)}{z:Value}(L:o.op= .buildSlice t len parts)(J:iP P t=some e)(hs:bZ P e=some sz)(O:eP P e=some z) (v:yk parts.toList=true) (E:z.cells.size=sz) (h:ou P st (.bslice false e sz len (parts.toList.map λq=>SX.of q.2)) λx=>K (st.putO o.dst x)):Leaves P o c K KP a w:=by
 intro next Q hn _;obtain⟨R,C,f,H,hmax,s,r⟩:=h;obtain⟨d,A,U,I⟩:=Ht B (λ_ _ _=>db) L J hs O v E C f H hmax s;have n:=B.below (D':=λb=>D b\/(w.heap.size<=b/\b<(w.alloc (.cells d e)).heap.size)) (qg w (.cells d e)) B.w0le (λb l=>.inl l) (λb l=>l);unfold Oper.wp;rw[A];have g:RelP (λb=>D b\/(w.heap.size<=b/\b<(w.alloc (.cells d e)).heap.size)) (w.alloc (.cells d e)) (.slice (some ⟨w.heap.size,0,none⟩) len len) (p5 sz R):=by subst f;refine gG (l_ _) λhl=>⟨w.heap.size,0,rfl,.inr ⟨l_ _,by simp⟩,λp hp=>(s p hp).1,λi j x y M N=>?_⟩;obtain⟨u,T,F⟩:=I i j x y M N;refine⟨u,?_,F.mono (λb l=>.inl l) (λb l=>fX w _ b (B.ok.dlt b l))⟩;rw[o_,cell_of_row _ _ _ d e (0,0) (gV w _)];omega
 rcases r with r|r;·exact hn _ _ ⟨_,r,θ,_,n.put hd g⟩
 ·exact hn _ _ ⟨_,r,θ,_,n.put hd ⟨g,_,_,rfl⟩⟩
theorem Qs(v:Inv c θ D st a w)(hd:∀k,o.dst=some k->k<c.n){K KP:St->Prop}{t e:TypeId}{len sz:Nat}{parts:Array (Nat×Operand)}{z:Value}(L:o.op= .buildSlice t len parts)(I:iP P t=some e)(hs:bZ P e=some sz)(O:eP P e=some z) (n:yk parts.toList=true) (C:z.cells.size=sz) (h:ou P st (.bsliceN e sz len (parts.toList.map λq=>SX.of q.2)) λx=>K (st.putO o.dst x)):Leaves P o c K KP a w:=by
 intro next Q hn _;obtain⟨R,B,f,F,hmax,l,J⟩:=h;obtain⟨d,s,U,H⟩:=Ht v (λ_ _ _=>Og) L I hs O n C B f F hmax l;have A:=v.below (D':=λb=>D b\/(w.heap.size<=b/\b<(w.alloc (.cells d e)).heap.size)) (qg w (.cells d e)) v.w0le (λb g=>.inl g) (λb g=>g);unfold Oper.wp;rw[s];have r:RelP (λb=>D b\/(w.heap.size<=b/\b<(w.alloc (.cells d e)).heap.size)) (w.alloc (.cells d e)) (.slice (some ⟨w.heap.size,0,none⟩) len len) (p5 sz R):=by subst f;refine gG (l_ _) λhl=>⟨w.heap.size,0,rfl,.inr ⟨l_ _,by simp⟩,λp hp=>(l p hp).1,λi j x y M N=>?_⟩;obtain⟨u,T,E⟩:=H i j x y M N;refine⟨u,?_,E.mono (λb g=>.inl g) (λb g=>fX w _ b (v.ok.dlt b g))⟩;rw[o_,cell_of_row _ _ _ d e (0,0) (gV w _)];omega
 exact hn _ _ ⟨_,J,θ,_,A.put hd r⟩
theorem RO(v:Inv c θ D st a w)(hd:∀k,o.dst=some k->k<c.n){K KP:St->Prop}{t e:TypeId}{len sz:Nat}{parts:Array (Nat×Operand)}{z:Value}(T:o.op= .buildSlice t len parts)(O:iP P t=some e)(hs:bZ P e=some sz)(hz:eP P e=some z) (n:yk parts.toList=true) (F:z.cells.size=sz) {pl:Option Nat} (h:Ou st (.bslice true e sz len (parts.toList.map λq=>SX.of q.2)) λob mk=>IX st pl/\K ((st.new pl ob).putO o.dst (.b (mk (st.nid pl))))):Leaves P o c K KP a w:=by
 intro next Q hn _;obtain⟨f,E,d,H,hmax,g,C,R⟩:=h;obtain⟨s,r,L,M⟩:=Ht v (λ_ _ _=>db) T O hs hz n F E d H hmax g;subst d;have B:f.length<=maxLen:=by have:f.length<=f.length*sz:=D_ _ H;simp only[maxLen];omega
 obtain⟨θ',A,hid⟩:=v.allocAt C (l:=.hdr w.heap.size f.length f.length sz none') (o:=.vec e sz f) (ob:=.cells s e) (λ_ h=>h.elim id False.elim) λθ' el=>⟨rfl,rfl,l_ _,B,λp hp=>(g p hp).1,s,gV w _,L,λi j x y U Y=>let⟨u,I,J⟩:=M i j x y U Y;⟨u,I,J.mono (λ_ h=>h) (λb N=>fX w _ b (v.ok.dlt b N))⟩⟩;unfold Oper.wp;rw[r];exact hn _ _ ⟨_,R,_,_,A.put hd ⟨_,hid,rfl⟩⟩
theorem Qt(n:Inv c θ D st a w)(hd:∀k,o.dst=some k->k<c.n){K KP:St->Prop}{t e:TypeId}{len sz:Nat}{parts:Array (Nat×Operand)}{z:Value}(s:o.op= .buildSlice t len parts)(p:iP P t=some e)(hs:bZ P e=some sz)(u:eP P e=some z) (d:yk parts.toList=true) (j:z.cells.size=sz) (h:sexec P o.dst (.bslice true e sz len (parts.toList.map λq=>SX.of q.2)) st K KP):Leaves P o c K KP a w:=by obtain⟨v,g,b,l,hmax,f,r⟩:=h;exact RO n hd s p hs u d j (pl:=none) ⟨v,g,b,l,hmax,f,trivial,r⟩
end
section
variable {P:Program} {o:Oper} {c:Ctx} {θ:List Loc} {D:Nat->Prop} {st:St} {a:Act} {w:World}
def dP(θ:List Loc)(B:List Nat):List Loc:=B.map λi=>θ.getD i .no
def ud(bor:Bool)(θ:List Loc)(B:List Nat)(D:Nat->Prop)(w:World):Nat->Prop:=if bor then λb=>b<w.heap.size/\¬owns (dP θ B) b else D
def kM(θ:List Loc)(B:List Nat)(θ':List Loc):List Loc:=(θ.mapIdx λi l=>if B.contains i then θ'.getD (B.idxOf i) .no else l)++θ'.drop B.length
theorem xf{B:List Nat}(a:∀i∈B,i<θ.length){k:Nat}{l:Loc}(h:(dP θ B)[k]? =some l):∃i,B[k]? =some i/\θ[i]? =some l:=by unfold dP at h;grind
theorem II{B:List Nat}{i:Nat}(h:i∈B):B[B.idxOf i]? =some i:=by grind
theorem NQ{B:List Nat}{i:Nat}{l:Loc}(a:i∈B)(h:θ[i]? =some l):(dP θ B)[B.idxOf i]? =some l:=by unfold dP;grind
theorem Mv(p:Inv c θ D st a w){bor:Bool}{B:List Nat}{os:List AObj}(I:B.Nodup)(J:B.mapM (st.hp[·]?)=some os)(y:∀o∈os,∀i∈o.ids,i∈B): Ok (dP θ B) (ud bor θ B D w) (os.map (AObj.ren (B.idxOf ·))) w/\(∀b,D b->ud bor θ B D w b)/\∀i∈B,i<θ.length:=by
 obtain⟨M,N⟩:=mapM_some J;have s:∀i∈B,i<θ.length:=λi v=>by obtain⟨k,n⟩:=x_ v;obtain⟨ob,h⟩:=bA (l:=os) (m:=B) M.symm n;have:=N k i ob n h;rw[p.ok.len];grind
 have d:∀b,D b->ud bor θ B D w b:=λb u=>by
  unfold ud;cases bor;·grind
  ·refine⟨p.ok.dlt b u,fun⟨k,l,n,hl⟩=>?_⟩;obtain⟨i,_,v⟩:=xf s n;exact(p.ok.olt i l b v hl).2 u
 refine⟨⟨by simp[dP,M],λb u=>?_,λi j li R g v O z A=>?_,λk l g n hg=>?_,λk l ob n h=>?_⟩,d,s⟩
 ·unfold ud at u;cases bor;·exact p.ok.dlt b u
  grind
 ·obtain⟨i',e,f⟩:=xf s v;obtain⟨P,C,E⟩:=xf s O;have:=p.ok.inj i' P li R g f E z A;subst this;exact((aa_ (a_.1 e).1 I).1 (e.trans C.symm))
 ·obtain⟨i,e,f⟩:=xf s n;obtain⟨x,T⟩:=p.ok.olt i l g f hg;refine⟨x,λhd=>?_⟩;unfold ud at hd;cases bor;·grind
  ·exact hd.2 ⟨k,l,n,hg⟩
 ·obtain⟨i,e,f⟩:=xf s n;rw[g_]at h;cases r:os[k]? with|none=>grind|some L=>rw[r]at h;cases h;have x:=N k i L e r;refine((p.ok.objs i l L f x).ren λQ l' F H=>NQ (y L (b_ r) Q F) H).mono d (λ_ _=>rfl) (λ_ _=>rfl)
theorem DO{B:List Nat}{θ':List Loc}(e:∀i∈B,i<θ.length)(d:B.length<=θ'.length){i:Nat}{l:Loc}(h:(kM θ B θ')[i]? =some l):(i<θ.length/\i∉B/\θ[i]? =some l)\/(∃k,θ'[k]? =some l/\i=lG B θ.length k/\((k<B.length/\B[k]? =some i)\/(B.length<=k/\θ.length<=i))):=by
 unfold kM at h;rcases H_ i θ.length with c|c
 ·rw[q_ (by grind),List.getElem?_mapIdx,d_ c]at h;simp only[K_,P_]at h;by_cases b:i∈B
  ·rw[if_pos (by grind)]at h;have a:=M_ b;refine .inr ⟨B.idxOf i,?_,?_,.inl ⟨a,II b⟩⟩;·grind
   ·simp only[lG,if_pos a,Q_,II b,w_]
  grind
 ·rw[p_ (by grind)]at h;simp only[X_,List.getElem?_drop]at h;refine .inr ⟨B.length+(i - θ.length),h,?_,.inr ⟨by simp,c⟩⟩;simp only[lG];grind
theorem M3{B:List Nat}{θ':List Loc}(b:∀i∈B,i<θ.length)(a:B.Nodup){k:Nat}{l:Loc}(h:θ'[k]? =some l):(kM θ B θ')[lG B θ.length k]? =some l:=by unfold kM lG;grind
theorem zb4{B:List Nat}{θ':List Loc}{k:Nat}{l:Loc}(a:k∉B)(h:θ[k]? =some l):(kM θ B θ')[k]? =some l:=by unfold kM;grind
theorem XX{B:List Nat}{hp os:List AObj}(b:∀i∈B,i<hp.length){i:Nat}{o:AObj}(h:(q8 B hp os)[i]? =some o):(i<hp.length/\i∉B/\∃a,hp[i]? =some a/\o=a.killB B)\/(∃k,o=(os.getD k .gone).ren (lG B hp.length)/\((k<B.length/\B[k]? =some i)\/(B.length<=k/\i=hp.length+(k - B.length)/\k<os.length))):=by unfold q8 at h;grind
theorem Vi(f:Inv c θ D st a w){bor:Bool}{B:List Nat}{os:List AObj}(O:B.Nodup)(Dg:B.mapM (st.hp[·]?)=some os)(Bk:∀o∈os,∀i∈o.ids,i∈B) {θ':List Loc} {D':Nat->Prop} {u:List AObj} {w':World} (C:Ok θ' D' u w') (d:Keep (owns (dP θ B)) w w') (hD:∀b,ud bor θ B D w b->D' b) (At:∀b,D' b->ud bor θ B D w b\/owns (dP θ B) b\/w.heap.size<=b) (el:∀(i:Nat) (l:Loc) (g:Nat),θ'[i]? =some l->l.has g->owns (dP θ B) g\/w.heap.size<=g) (ph:∀(k:Nat) (l:Loc),(dP θ B)[k]? =some l->l.fixed=true->θ'[k]? =some l) (qr:(dP θ B).length<=θ'.length) (T:bor=true->∀o∈u,o.FlatO): Inv c (kM θ B θ') (λb=>D b\/(D' b/\(owns (dP θ B) b\/w.heap.size<=b))) (st.back B u) a w':=by
 obtain⟨DA,DE,Q⟩:=Mv (bor:=bor) f O Dg Bk;have F:B.length<=θ'.length:=by simpa[dP]using qr
 have r:∀g,owns (dP θ B) g->∃(i:Nat) (l:Loc),i∈B/\θ[i]? =some l/\l.has g:=λg ⟨k,l,s,hg⟩=>by obtain⟨i,DH,DM⟩:=xf Q s;grind
 have Y:∀(i:Nat) (l:Loc) (g:Nat),i∉B->θ[i]? =some l->l.has g->¬owns (dP θ B) g:=λi l g I hl hg ho=>by obtain⟨j,R,hj,Bx,BT⟩:=r g ho;exact I (f.ok.inj i j l R g hl Bx hg BT▸hj)
 have gc:∀b,D b->w'.heap[b]? =w.heap[b]? :=λb n=>d.block b (f.ok.dlt b n) λho=>by obtain⟨i,l,_,p,J⟩:=r b ho;exact(f.ok.olt i l b p J).2 n
 have k1:∀(k:Nat) (l:Loc),k∉B->θ[k]? =some l->(kM θ B θ')[k]? =some l:=λk l s h=>zb4 s h;have k2:∀(k:Nat) (l:Loc),l.fixed=true->θ[k]? =some l->(kM θ B θ')[k]? =some l:=λk l z h=>by
  by_cases s:k∈B
  ·have h3:=ph _ l (NQ s h) z;have h4:=M3 (θ:=θ) Q O h3;have:lG B θ.length (B.idxOf k)=k:=by simp only[lG,if_pos (M_ s),Q_,II s,w_]
   grind
  grind
 have DB:∀{v:Value} {x:AObj} {l:Loc},True->True:=λ_=>trivial;have U:bor=false->∀b,D' b->D b\/(D' b/\(owns (dP θ B) b\/w.heap.size<=b)):=λn b h=>by
  rcases At b h with p|p|p;·subst n;exact .inl p
  all_goals grind
 have N:θ.length=st.hp.length:=f.ok.len;refine⟨f.size,f.defers,⟨?_,λb n=>?_,λi j li R g I hj L M=>?_,λi l g I hg=>?_,λi l ob I CT=>?_⟩,?_,λb n=>.inl (f.dsub b n),λb n=>?_,λi l g I hg=>?_,λk x s=>?_,λk l s z=>k2 k l z (f.fix k l s z)⟩;·have:=C.len;simp only[kM,St.back,q8,List.length_append,X_,List.length_drop,ae_];omega
 ·rcases n with n|⟨n,_⟩;·exact j_ (f.ok.dlt b n) d.size
  ·exact C.dlt b n
 ·rcases DO Q F I with⟨E,P,H⟩|⟨k,E,P,_⟩<;>rcases DO Q F hj with⟨b1,b2,b3⟩|⟨m,b1,b2,_⟩;·exact f.ok.inj i j li R g H b3 L M
  ·rcases el m R g b1 M with p|p;·grind
   ·have:=(f.ok.olt i li g H L).1;omega
  ·rcases el k li g E L with p|p;·grind
   ·have:=(f.ok.olt j R g b3 M).1;omega
  ·rw[P,b2,C.inj k m li R g E b1 L M]
 ·rcases DO Q F I with⟨E,P,H⟩|⟨k,E,_,_⟩;·obtain⟨p,J⟩:=f.ok.olt i l g H hg;refine⟨j_ p d.size,λhd=>?_⟩;grind
  ·obtain⟨p,J⟩:=C.olt k l g E hg;grind
 ·have wr:∀i∈B,i<st.hp.length:=λi I=>by grind
  rcases DO Q F I with⟨E,P,H⟩|⟨k,E,P,a4⟩<;>rcases XX wr CT with⟨b1,b2,o0,b3,rfl⟩|⟨m,rfl,b4⟩;·exact((f.ok.objs i l o0 H b3).killB k1 k2).mono (λb n=>.inl n) gc λg hg=>d.block g (f.ok.olt i l g H hg).1 (Y i l g P H hg)
  ·grind
  ·grind
  ·have CD:k=m:=by
    rcases a4 with⟨c1,c2⟩|⟨c1,c2⟩<;>rcases b4 with⟨d1,d2⟩|⟨d1,d2,d3⟩;·exact(aa_ c1 O).1 (c2.trans d2.symm)
    ·grind
    ·grind
    ·rw[P]at d2;simp only[lG]at d2;grind
   subst CD;have DP:k<u.length:=by rw[<-C.len];grind
   have ur:u[k]? =some (u.getD k .gone):=by grind
   rw[<-N];have hr:=(C.objs k l _ E ur).ren (θ2:=kM θ B θ') (ρ:=lG B θ.length) λk' l' _ h=>M3 Q O h;cases bor;·exact hr.mono (U rfl) (λ_ _=>rfl) (λ_ _=>rfl)
   ·have z:=T rfl _ (b_ ur);refine RelO.flatO ?_ hr;cases A:u.getD k .gone with
    |box t cs=>rw[A]at z;intro x hx;simp only[N_]at hx;obtain⟨y,hy,rfl⟩:=hx;have:=z y hy;cases y<;>exact this
    |gone=>trivial|free=>trivial|vec e sz xs=>rw[A]at z;exact z|tree e sz k xs hole=>rw[A]at z;refine⟨λi j b n=>?_,z.2⟩;cases hole with|none=>cases n|some q=>obtain⟨i',j',b'⟩:=q;cases n;have:=z.1 _ _ _ rfl;cases b'<;>exact this
    |map k e kvs=>rw[A]at z;exact z
 ·refine⟨d.os.trans f.keep.os,d.tape.trans f.keep.tape,d.output.trans f.keep.output,C_ f.keep.size d.size,λk s hn=>(d.block k (j_ s f.keep.size) λho=>?_).trans (f.keep.block k s hn)⟩;obtain⟨i,l,_,p,J⟩:=r k ho;rcases f.onew i l k p J with h3|h3;all_goals grind
 ·have h0:=f.w0le;rcases n with n|⟨_,n|n⟩;·exact f.dnew b n
  ·obtain⟨i,l,_,p,J⟩:=r b n;exact .inr (f.onew i l b p J)
  omega
 ·have h0:=f.w0le;rcases DO Q F I with⟨E,P,H⟩|⟨k,E,_,_⟩;·exact f.onew i l g H hg
  ·rcases el k l g E hg with p|p;·obtain⟨j,R,_,J,h3⟩:=r g p;exact f.onew j R g J h3
   omega
 ·simp only[St.back,uf]at s;cases rg:look st.fr k with|none=>grind|some y=>rw[rg]at s;cases s;exact((f.fr k y rg).killB k1 k2).mono (λb n=>.inl n) gc
theorem Z8(j:Inv c θ D st a w){bor:Bool}{B:List Nat}{v:Value}{x y:AV}(k:RelA θ D w v x)(h:wE st.hp bor B x=some y)(g:∀b,b<w.heap.size->bor=true->(∃(id:Nat) (l:Loc),id∉B/\θ[id]? =some l/\l.has b)->ud bor θ B D w b)(f:∀b,D b->ud bor θ B D w b): RelA θ (ud bor θ B D w) w v y:=by
 have d:RelA θ (ud bor θ B D w) w v x:=k.mono f (λ_ _=>rfl);unfold wE at h;split at h
 ·rename_i id;split at h;·grind
  ·rename_i s;simp only[c_]at h;obtain⟨p,hp,rfl⟩:=h;exact R5 j f (λn e l r hl b hg=>g b (j.ok.olt e l b hl hg).1 n ⟨e,l,by
    have:e=id:=by simpa[AV.ids,BV.ids]using r
    grind,hl,hg⟩) k hp
 ·rename_i xs;split at h;·simp only[c_]at h;obtain⟨p,hp,rfl⟩:=h;exact db d hp
  grind
 ·cases h;exact d.1
 ·cases h;cases d;exact RelP.nil none 0
 grind
theorem K4(L:Inv c θ D st a w)(hd:∀k,o.dst=some k->k<c.n){K KP:St->Prop}{bor:Bool}{B:List Nat}{f:FuncId}{ars:List AV}{os:List AObj}{vs:List Value} (Y:(execOp a.eval o).run P w= .ok (.enter f vs.toArray) w) (At:vs.length=ars.length) (wr:∀(i:Nat) (v:Value) (x:AV),vs[i]? =some v->ars[i]? =some x->RelA θ (ud bor θ B D w) w v x) (I:B.mapM (st.hp[·]?)=some os) (h:sexec.callK P st o.dst bor B f ars os K KP):Leaves P o c K KP a w:=by
 intro next Q hn hp;obtain⟨u,gc,E,C⟩:=h;obtain⟨j,el,hB⟩:=Mv (bor:=bor) L u I E;unfold Oper.wp;rw[Y];simp only[Oper.upon];have s:=L.ok.len;refine(C w (dP θ B) (ud bor θ B D w) vs ((c.gk w L.keep).mono (Keep.refl (λ_=>False) w) (λ_ _ h=>h) (λb A=>el b (L.dsub b A))) j (by grind) λi v x hv p=>?_).mono λe w' A=>?_;·rw[g_]at p;cases J:ars[i]? with|none=>grind|some y=>rw[J]at p;cases p;exact(wr i v y hv J).ren λk l R hl=>NQ (gc y (b_ J) k R) hl
 ·rcases A with⟨v,r,Bk,θ',D',rfl,⟨n,R⟩,hv,rg,d,hD,M,ur,N,T⟩|⟨ch,ph,rfl,R,d⟩
  ·have z:=Vi (bor:=bor) L u I E rg d hD M ur N T (λA=>(n A).2);refine hn _ _ ⟨_,R,_,_,z.put hd ?_⟩;have hr:=hv.ren (θ2:=kM θ B θ') (ρ:=lG B θ.length) λk' l' _ h=>M3 hB u h;rw[<-s];cases bor
   ·refine hr.mono (λb h=>?_) (λ_ _=>rfl);rcases M b h with h1|h1|h1;·exact .inl h1
    all_goals grind
   ·have hf:=(n rfl).1;refine RelA.flatA ?_ hr;have F:∀(ρ:Nat->Nat) (x:BV),x.FlatB->(x.ren ρ).FlatB:=λρ x p=>by cases x<;>exact p
    cases r with
    |b x=>exact F _ x hf|agg xs=>intro x p;simp only[N_]at p;obtain⟨y,hy,rfl⟩:=p;exact F _ y (hf y hy)
    |tup xs=>intro x p;simp only[N_]at p;obtain⟨y,hy,rfl⟩:=p;exact F _ y (hf y hy)
  ·have U:Ok (dP θ B) (ud bor θ B D w) (os.map λ_=>AObj.gone) w':=by refine⟨by have:=j.len;grind,λb A=>j_ (j.dlt b A) d.size,j.inj,λi l g O hg=>⟨j_ (j.olt i l g O hg).1 d.size,(j.olt i l g O hg).2⟩,λi l ob O H=>?_⟩;rw[g_]at H;cases qr:os[i]? with|none=>grind|some o0=>rw[qr]at H;cases H;cases l<;>trivial
   have z:=Vi (bor:=bor) L u I E U d (λb h=>h) (λb h=>.inl h) (λi l g O hg=>.inl ⟨i,l,O,hg⟩) (λk l h _=>h) (l_ _) (λ_ o ho=>by simp only[N_]at ho;obtain⟨_,_,rfl⟩:=ho;trivial)
   exact hp ch w' ⟨ph,_,R,_,_,z⟩
theorem Vg(e:Inv c θ D st a w){bor:Bool}{B:List Nat}{os:List AObj}(r:B.Nodup)(s:B.mapM (st.hp[·]?)=some os)(h:∀o∈os,∀i∈o.ids,i∈B){xs:List Operand}{ars:List AV} (g:(xs.map SX.of).mapM (λx=>(st.get x).bind (wE st.hp bor B))=some ars):(xs.map a.eval).length=ars.length/\∀(i:Nat) (v:Value) (x:AV),(xs.map a.eval)[i]? =some v->ars[i]? =some x->RelA θ (ud bor θ B D w) w v x:=by obtain⟨A,f,J⟩:=Mv (bor:=bor) e r s h;obtain⟨Q,O⟩:=mapM_some g;refine⟨by grind,λi v x u N=>?_⟩;rw[g_]at u;cases z:xs[i]? with|none=>grind|some y=>rw[z]at u;cases u;have:=O i (SX.of y) x (by grind) N;simp only[h_]at this;obtain⟨P,C,E⟩:=this;refine Z8 e (e.get C) E (λb L d ⟨id,l,F,H,I⟩=>?_) f;subst d;refine⟨L,fun⟨k,lk,M,hl⟩=>?_⟩;obtain⟨j,n,p⟩:=xf J M;exact F (e.ok.inj id j l lk b H p I hl▸b_ n)
theorem WY(l:Inv c θ D st a w)(hd:∀k,o.dst=some k->k<c.n){K KP:St->Prop}{bor:Bool}{B:List Nat}{f:FuncId}{d:Call}(s:o.op= .call d)(g:d.callee= .value (.func f))(r:fU P f=true) (h:sexec P o.dst (.callA bor B f (d.args.toList.map SX.of)) st K KP):Leaves P o c K KP a w:=by obtain⟨ars,e,os,b,j⟩:=h;obtain⟨n,p⟩:=Vg l j.1 b j.2.2.1 e;exact K4 l hd (WS s g r) n p b j
theorem W7(r:Inv c θ D st a w)(hd:∀k,o.dst=some k->k<c.n){K KP:St->Prop}{bor:Bool}{B:List Nat}{t:Tmp}{s:Call}(N:o.op= .call s)(z:s.callee= .value (.tmp t)) (h:sexec P o.dst (.callv bor B (.tm t) (s.args.toList.map SX.of)) st K KP):Leaves P o c K KP a w:=by
 obtain⟨R,Q,f,caps,d,L,ars,y,os,e,n⟩:=h;obtain⟨U,Y⟩:=Vg r n.1 e n.2.2.1 y;obtain⟨E,u,hB⟩:=Mv (bor:=bor) r n.1 e n.2.2.1;have A:=r.get (x:=.tmp t) Q;have key:∃cs:Array Value,a.eval (.tmp t)= .func (.func f) #[] cs/\cs.toList.length=caps.length/\∀(i:Nat) (v:Value) (x:AV),cs.toList[i]? =some v->caps[i]? =some x->RelA θ (ud bor θ B D w) w v x:=by
  rcases d with⟨ids,rfl,rfl⟩|⟨F,rfl,rfl⟩;·obtain⟨J,T,H,I⟩:=A;refine⟨_,I,by grind,λi v x j b=>?_⟩;simp only[g_]at j b;cases C:ids[i]? with|none=>grind|some id=>rw[C]at b;cases b;cases hg:J[i]? with|none=>grind|some g=>rw[hg]at j;cases j;exact⟨g,H i id g C hg,rfl⟩
  ·have l:RelP D w (a.eval (.tmp t)) (.fn (.func f) F):=A;generalize a.eval (.tmp t)=v at l;cases l with|fn _ vs _ hs M=>refine⟨vs,rfl,by grind,λi v x j b=>?_⟩;rw[g_]at b;cases hp:F[i]? with|none=>grind|some p=>rw[hp]at b;cases b;exact(M i v p (by grind) hp).mono u (λ_ _=>rfl)
 obtain⟨cs,j,hl,hr⟩:=key;refine K4 r hd (R9 N z j L) (by grind) (λi v x O b=>?_) e n;grind
end
section
variable {P:Program} {o:Oper} {c:Ctx} {θ:List Loc} {D:Nat->Prop} {st:St} {a:Act} {w:World}
theorem p6(a:Array Value)(off:Nat)(vs:List Value)(h:off+vs.length<=a.size):((a.toList.take off++vs++a.toList.drop (off+vs.length)).toArray).size=a.size/\∀k,((a.toList.take off++vs++a.toList.drop (off+vs.length)).toArray)[k]? =if off<=k/\k<off+vs.length then vs[k - off]? else a[k]? :=by have b:=pd a.toList off vs (by omega);refine⟨by grind,λk=>?_⟩;grind
theorem yq{t:TypeId}{sz g off:Nat}{e:TypeId}{a:Array Value}{v:Value}(hs:bZ P t=some sz)(d:v.cells.size=sz)(hg:w.heap[g]? =some (.cells a e (0,0)))(c:off+sz<=a.size)(b:∀u∈v.cells.toList,u.oneCell'=true):(Instr.storeAt t (.pointer (some ⟨g,off,none⟩)) v).run P w= .ok () (w.setRow g (a.toList.take off++v.cells.toList++a.toList.drop (off+v.cells.toList.length)).toArray):=by have:=run_storeCells_at P g off e v.cells.toList 0 a w hg (by grind) b;simp only[am_]at this;simp[Instr.storeAt,Instr.sureAddr,storeVar,run_sizeOf hs,d,this]
theorem Xx(I:Inv c θ D st a w){id g n cap s':Nat}{O:Nat->Prop}{e:TypeId}{s:Nat}{k:Av.K}{xs f:List PV}{hole d:Option (Nat×Nat×BV)}(hg:θ[id]? =some (.hdr g n cap s' O))(N:st.hp[id]? =some (.tree e s k xs hole)) {r z:Array Value} (p:w.heap[g]? =some (.cells r e (0,0))) (hsz:z.size=r.size) (A:f.length=xs.length) (L:∀x∈f,x.cells.length=s) (M:∀i j b,d=some (i,j,b)->i<f.length/\(k.at j).isSome=true) (B:∀(i j:Nat) (x y:PV),f[i]? =some x->x.cells[j]? =some y->(∃u,z[i*s+j]? =some u/\(match ei d i j with|some b=>RelB θ D w u b|none=>k.at j=none/\RelP D w u y))\/(z[i*s+j]? =r[i*s+j]?/\∃x0,xs[i]? =some x0/\x0.cells[j]? =some y/\ei d i j=ei hole i j)): Inv c θ D {st with hp:=st.hp.set id (.tree e s k f d)} a (w.setRow g z):=by
 obtain⟨rfl,rfl,h3,h4,h5,cv,Os,P,h7,Q,h9,Y,H⟩:=I.ok.objs id _ _ hg N;rw[p]at P;cases P;have l:∀b,D b->(w.setRow g z).heap[b]? =w.heap[b]? :=λb J=>setRow_other _ _ _ _ λe=>(I.ok.olt id _ g hg (.inl rfl)).2 (e▸J);refine I.store hg (.inl rfl) (by simp) (by simp) (by simp) (by simp) (λk hk=>setRow_other _ _ _ _ hk) ⟨rfl,A.symm,h3,h4,L,z,Os,setRow_heap _ _ _ _ _ _ p,hsz.trans h7,Q,h9,M,λi j x y hx hy=>?_⟩;rcases B i j x y hx hy with⟨u,F,v⟩|⟨F,x0,v,R,T⟩;·refine⟨u,F,?_⟩;cases C:ei d i j with|some b=>rw[C]at v;exact v.mono (λ_ h=>h) l|none=>rw[C]at v;rw[v.1];exact .flat _ _ _ (v.2.mono (λ_ h=>h) l)
 ·obtain⟨u,U,E⟩:=H i j x0 y v R;refine⟨u,F.trans U,?_⟩;rw[T];cases C:ei hole i j with|some b=>rw[C]at E;exact E.mono (λ_ h=>h) l|none=>rw[C]at E;exact E.mono (λ_ h=>h) l λb J=>setRow_other _ _ _ _ (Q i j b J).2
theorem ze5{i i' s j off sz:Nat}(h:i'≠i)(e:j<s)(c:off+sz<=s):¬(i*s+off<=i'*s+j/\i'*s+j<i*s+off+sz):=by
 intro⟨d,b⟩;rcases H_ i' i with a|a;·have:(i'+1)*s<=i*s:=f_ _ a;grind
 ·have:(i+1)*s<=i'*s:=f_ _ (by omega);grind
theorem zc1(hI:Inv c θ D st a w){K:St->Prop}{t:TypeId}{y:Operand}{sz:Nat}{vx:Value}{ay:AV}(hs:bZ P t=some sz)(hY:RelA θ D w (a.eval y) ay){id i off:Nat}{e:TypeId}{s:Nat}{k:Av.K}{xs:List PV}{hole:Option (Nat×Nat×BV)}(hX:RelA θ D w vx (.b (.elt id i off))) (H:st.hp[id]? =some (.tree e s k xs hole)) (hi:i<xs.length) (Q:off+sz<=s) (E:(k.flatB off sz=true/\(xs.getD i .any).isAgg=true/\aU ay.toPV λp=>p.cells.length=sz/\p.ok=true/\K {st with hp:=st.hp.set id (.tree e s k (xs.set i (.agg (splice (xs.getD i .any).cells off p.cells))) hole)})\/(∃bv r,hole=some (i,off,bv)/\sz=1/\ay= .b r/\r.cellOk=true/\K {st with hp:=st.hp.set id (.tree e s k xs (some (i,off,r)))})): ∃w' el,(Instr.storeAt t vx (a.eval y)).run P w= .ok () w'/\K el/\Rel c el a w':=by
 obtain⟨g,n,cap,s',O,hg,he⟩:=hX;obtain⟨rfl,rfl,h3,h4,L,B,Os,h6,h7,h8,h9,C,wr⟩:=hI.ok.objs id _ _ hg H;obtain⟨J,U⟩:∃J,xs[i]? =some J:=⟨_,d_ hi⟩;have gc:xs.getD i .any=J:=vY U;have qr:J.cells.length=s':=L _ (b_ U);have ur:i*s'+s'<=B.size:=by
  rw[h7];have:i+1<=cap:=by omega
  have:=f_ s' this;rw[n_,y_]at this;exact this
 rcases E with⟨hf,ph,p,hp,rg,I,hk⟩|⟨bv,r,rfl,rfl,rfl,I,hk⟩
 ·obtain⟨q1,q2⟩:=xo (db hY hp) I;have hv:(a.eval y).cells.size=sz:=by omega
  have hr:=yq (P:=P) (w:=w) (off:=i*s'+off) hs hv h6 (by omega) (λu R=>by obtain⟨j,hj⟩:=x_ R;grind)
  rw[<-he]at hr;obtain⟨s1,Y⟩:=p6 B (i*s'+off) (a.eval y).cells.toList (by simp only[r_,hv];omega);rw[gc]at hk ph;refine⟨_,_,hr,hk,θ,D,Xx hI hg H h6 s1 (by simp) (λx l=>?_) (λi' j b hb=>by rw[List.length_set];exact C i' j b hb) λi' j x z l A=>?_⟩
  ·rcases O_ l with h|h;·exact L x h
   ·subst h;show(splice _ _ _).length=_;rw[pd _ _ _ (by omega),qr]
  ·by_cases f:i'=i
   ·subst f;rw[B_ hi]at l;cases l;rw[show(PV.agg (splice J.cells off p.cells)).cells=splice J.cells off p.cells from rfl,xu _ _ _ (by omega)]at A;split at A
    ·rename_i hj;have M:j - off<(a.eval y).cells.size:=by omega
     have N:k.at j=none:=by have:=VT hf (j:=j - off) (by omega);rwa [show off+(j - off)=j by omega]at this
     refine .inl ⟨(a.eval y).cells[j - off],?_,?_⟩;·rw[Y,if_pos ⟨by omega,by simp;omega⟩,show i'*s'+j - (i'*s'+off)=j - off by omega];rw[k_];exact e_ M
     ·cases hq:ei hole i' j with|some b=>have:=(C _ _ _ (yi hq)).2;rw[N]at this;cases this|none=>exact⟨N,(q2 (j - off) _ z (e_ M) A).1⟩
    grind
   ·rw[v_ (Ne.symm f)]at l;refine .inr ⟨?_,x,l,A,rfl⟩;have F:j<s':=by rw[<-L x (b_ l)];exact(a_.1 A).1
    rw[Y,if_neg (by simp only[r_,hv];exact ze5 f F Q)]
 ·have T:(a.eval y).oneCell'=true:=EF hY I;have d:(a.eval y).cells= #[a.eval y]:=cells_one T;have hr:=yq (P:=P) (w:=w) (v:=a.eval y) (off:=i*s'+off) hs (by rw[d];rfl) h6 (by omega) (λu R=>by rw[d]at R;simp at R;subst R;exact T)
  rw[<-he]at hr;obtain⟨s1,Y⟩:=p6 B (i*s'+off) (a.eval y).cells.toList (by rw[d];simp only[I_,s_];omega);refine⟨_,_,hr,hk,θ,D,Xx hI hg H h6 s1 rfl L (λi' j b hb=>by cases hb;exact C _ _ _ rfl) λi' j x z l A=>?_⟩;have F:j<s':=by rw[<-L x (b_ l)];exact(a_.1 A).1
  by_cases f:i'=i/\j=off
  ·obtain⟨rfl,rfl⟩:=f;refine .inl ⟨a.eval y,?_,?_⟩;·rw[Y,if_pos ⟨by omega,by rw[d];simp⟩,d];simp
   ·simp only[ei,and_self,if_true];exact hY
  ·refine .inr ⟨?_,x,l,A,?_⟩
   ·rw[Y,if_neg ?_];rw[d];simp only[I_,s_];by_cases h:i'=i;·subst h;omega
    ·exact ze5 h F Q
   ·simp only[ei];rw[if_neg (by omega),if_neg (by omega)]
theorem Xd(F:Inv c θ D st a w)(hd:o.dst=none){K KP:St->Prop}{t:TypeId}{x y:Operand}{sz:Nat}(ho:o.op= .store t x y)(hs:bZ P t=some sz)(h:sexec P o.dst (.store sz (.of x) (.of y)) st K KP):Leaves P o c K KP a w:=by
 intro next Q hn _;obtain⟨ax,hx,ay,hy,_,C⟩:=h;have hX:=F.get hx;have hY:=F.get hy;have E:∀(w':World) (A:St),(Instr.storeAt t (a.eval x) (a.eval y)).run P w= .ok () w'->K A->Rel c A a w'->o.wp P a w next Q:=by
  intro w' A hr B wr;unfold Oper.wp;have:(execOp a.eval o).run P w= .ok .skip w':=by simp[execOp,ho,hr]
  rw[this];simp only[Oper.upon,Act.put,hd];exact hn _ _ ⟨A,B,wr⟩
 unfold Kp at C;split at C
 ·rename_i id off;obtain⟨ob,H,e,cs,rfl,qr,M,N,B⟩:=C;obtain⟨g,hg,he⟩:=hX;obtain⟨d,h1,h2,h3⟩:=F.ok.objs id _ _ hg H;obtain⟨h4,h5⟩:=xn hY N;have U:(a.eval y).cells.size=sz:=by omega
  have hr:=yq (P:=P) (w:=w) (off:=off) hs U h1 (by omega) (λu I=>by
   obtain⟨i,L⟩:=x_ I;have Bx:i<ay.cells.length:=by rw[<-h4];simpa using(a_.1 L).1
   exact(h5 i u _ (by simpa using L) (d_ Bx)).2)
  rw[<-he]at hr;obtain⟨s1,s2⟩:=p6 d off (a.eval y).cells.toList (by simp only[r_,U];omega);refine E _ _ hr B ⟨θ,D,F.store (l:=.blk g) (g:=g) hg rfl (by simp) (by simp) (by simp) (by simp) (λk B=>setRow_other _ _ _ _ B) ⟨_,setRow_heap _ _ _ _ _ _ h1,?_,?_⟩⟩;·rw[s1,h2,pd cs off ay.cells (by omega)]
  ·intro i u z I hz;rw[s2 i]at I;rw[xu cs off ay.cells (by omega)]at hz;simp only[r_]at I;have r:∀b,D b->(w.setRow g (d.toList.take off++(a.eval y).cells.toList++d.toList.drop (off+(a.eval y).cells.toList.length)).toArray).heap[b]? =w.heap[b]? :=λb hb=>setRow_other _ _ _ _ λe=>(F.ok.olt id _ g hg (by first|exact rfl|exact .inl rfl)).2 (e▸hb)
   split at I;·rw[if_pos (by omega)]at hz;exact((h5 _ u z (by simpa using I) hz).1).mono (λ_ h=>h) r
   ·rw[if_neg (by omega)]at hz;exact(h3 i u z I hz).mono (λ_ h=>h) r
 ·rename_i id i off;obtain⟨ob,H,⟨e,s,xs,rfl,L,p,hp,qr,N,f⟩|⟨e,s,k,xs,hole,rfl,L,M,f⟩⟩:=C
  rotate_left
  ·obtain⟨w',A,h1,h2,h3⟩:=zc1 (K:=K) F hs hY hX H L M f;exact E w' A h1 h2 h3
  obtain⟨g,n,cap,s',O,hg,he⟩:=hX;obtain⟨rfl,rfl,h3,h4,h5,d,h6,h7,h8⟩:=F.ok.objs id _ _ hg H;obtain⟨q1,q2⟩:=xo (db hY hp) N;have U:(a.eval y).cells.size=sz:=by omega
  obtain⟨Y,R⟩:∃Y,xs[i]? =some Y:=⟨_,d_ L⟩;have At:xs.getD i .any=Y:=vY R;have ur:Y.cells.length=s':=h5 _ (b_ R);have BT:off+sz<=s':=by rcases f with⟨h,h',_⟩|⟨_,h,_⟩<;>omega
  have CD:i*s'+s'<=d.size:=by
   rw[h7];have:i+1<=cap:=by omega
   have:=f_ s' this;rw[n_,y_]at this;exact this
  have hr:=yq (P:=P) (w:=w) (off:=i*s'+off) hs U h6 (by omega) (λu I=>by obtain⟨j,hj⟩:=x_ I;grind)
  rw[<-he]at hr;obtain⟨s1,s2⟩:=p6 d (i*s'+off) (a.eval y).cells.toList (by simp only[r_,U];omega);have r:∀b,D b->(w.setRow g (d.toList.take (i*s'+off)++(a.eval y).cells.toList++d.toList.drop (i*s'+off+(a.eval y).cells.toList.length)).toArray).heap[b]? =w.heap[b]? :=λb hb=>setRow_other _ _ _ _ λe=>(F.ok.olt id _ g hg (by first|exact rfl|exact .inl rfl)).2 (e▸hb)
  have J:∀(p':PV),p'.cells=splice Y.cells off p.cells->Inv c θ D {st with hp:=st.hp.set id (.vec e s' (xs.set i p'))} a (w.setRow g (d.toList.take (i*s'+off)++(a.eval y).cells.toList++d.toList.drop (i*s'+off+(a.eval y).cells.toList.length)).toArray):=by
   intro p' rg;refine F.store hg (.inl rfl) (by simp) (by simp) (by simp) (by simp) (λk B=>setRow_other _ _ _ _ B) ⟨rfl,by simp,h3,h4,λq T=>?_,_,setRow_heap _ _ _ _ _ _ h6,by rw[s1,h7],λk j q y' T v=>?_⟩
   ·rcases O_ T with h|h;·exact h5 q h
    ·subst h;rw[rg,pd _ _ _ (by omega),ur]
   ·by_cases ph:k=i
    ·subst ph;rw[B_ L]at T;cases T;rw[rg,xu _ _ _ (by omega)]at v;split at v
     ·rename_i hj;have gc:j - off<(a.eval y).cells.size:=by omega
      refine⟨(a.eval y).cells[j - off],?_,((q2 (j - off) _ y' (e_ gc) v).1).mono (λ_ h=>h) r⟩;rw[s2,if_pos ⟨by omega,by simp;omega⟩,show k*s'+j - (k*s'+off)=j - off by omega];rw[k_];exact e_ gc
     ·rename_i hj;obtain⟨u,e1,e2⟩:=h8 k j Y y' R v;have Bk:j<s':=by rw[<-ur];exact(a_.1 v).1
      refine⟨u,?_,e2.mono (λ_ h=>h) r⟩;rw[s2,if_neg (by simp only[r_];omega)];exact e1
    ·rw[v_ (Ne.symm ph)]at T;obtain⟨u,e1,e2⟩:=h8 k j q y' T v;have Bk:j<s':=by grind
     refine⟨u,?_,e2.mono (λ_ h=>h) r⟩;rw[s2,if_neg ?_];·exact e1
     ·simp only[r_,U];intro⟨h9,CT⟩;rcases H_ k i with el|el;·have:(k+1)*s'<=i*s':=f_ _ el;rw[n_,y_]at this;omega
      ·have:(i+1)*s'<=k*s':=f_ _ (by omega);rw[n_,y_]at this;omega
  rcases f with⟨rfl,rfl,B⟩|⟨Dg,M,B⟩;·refine E _ _ hr B ⟨θ,D,J p ?_⟩;unfold splice;rw[List.take_zero,List.drop_eq_nil_of_le (by omega)];simp
  ·rw[At]at B;exact E _ _ hr B ⟨θ,D,J _ rfl⟩
 ·exact C.elim
theorem zc4(k:Av.K)(p:PV)(j:Nat):(k.unnil p).cells[j]? =(p.cells[j]?).map λx=>if(k.at j).isSome then PV.list 0 []else x:=by
 have one:∀p:PV,p.cells=[p]->(if(k.at 0).isSome then PV.list 0 []else p).cells[j]? =(p.cells[j]?).map λx=>if(k.at j).isSome then PV.list 0 []else x:=by
  intro p hp;rw[hp];cases j with
  |zero=>
   simp only[List.getElem?_cons_zero,K_];split;·rfl
   grind
  |succ j=>
   simp only[List.getElem?_cons_succ,List.getElem?_nil,Option.map_none];split;·rfl
   grind
 cases p with|agg cs=>simp[Av.K.unnil,PV.cells]|_=>exact one _ rfl
theorem KF(k:Av.K)(p:PV):(k.unnil p).cells.length=p.cells.length:=by cases p with|agg cs=>simp[Av.K.unnil,PV.cells]|_=>simp only[Av.K.unnil];split<;>rfl
theorem Wr{k:Av.K}{p:PV}(hn:k.nilsB p.cells=true){O:Nat->Prop}{j:Nat}{d:PV}(c:(k.unnil p).cells[j]? =some d):∃y,p.cells[j]? =some y/\∀(D:Nat->Prop) (w:World) (u:Value),RelP D w u y->RelT D w (k.at j) O u d:=by
 rw[zc4]at c;obtain⟨y,a,rfl⟩:=c_.1 c;refine⟨y,a,λD w u b=>?_⟩;simp only[Av.K.nilsB,A_,aj_]at hn;have:=hn j (a_.1 a).1;cases e:k.at j with
 |none=>exact .flat _ _ _ b|some q=>
  rw[e]at this;simp only[Q_,a,w_]at this;split at this;·cases b;exact .nil _ _ _
  grind
theorem RP(E:Inv c θ D st a w)(hd:∀k,o.dst=some k->k<c.n){K KP:St->Prop}{t e:TypeId}{sz bytes:Nat}{z:Value}{l m:Operand}(ho:o.op= .makeSlice t l m)(he:iP P t=some e)(hs:bZ P e=some sz)(I:mC P e=some bytes)(hz:eP P e=some z) {pl:Option Nat} (h:Ou st (.mslice e sz bytes z (.of l) (.of m)) λob mk=>IX st pl/\K ((st.new pl ob).putO o.dst (.b (mk (st.nid pl))))):Leaves P o c K KP a w:=by
 intro next Q hn _;obtain⟨al,hl,am,hm,hv⟩:=h;have h1:=dq (E.get hl) hv;have h2:=dq (E.get hm) h1;obtain⟨kl,C,R,kc,n,O,h0,M,F,L,qr,hsz,pz,d,T,A,hk⟩:=h2;have hu:P.underlying t=some (.slice e):=by unfold iP at he;grind
 simp only[bZ,c_]at hs;obtain⟨f,r,rfl⟩:=hs;have gc:f.zero=some z:=by simpa[eP,r]using hz
 have J:f.bytes=bytes:=by simpa[mC,r]using I
 have B:=run_make (P:=P) w t e f z hu r gc kl kc C n h0 M (by rw[J];exact L) F;have rg:RelP D w z pz:=db (B1 (θ:=θ) z) d;obtain⟨c1,c2⟩:=xo rg T;have ph:z.cells.size=f.size:=by
  rw[c1,<-qr];cases g:jF z with
  |b x=>
   rw[g]at d;cases x<;>simp[AV.toPV,BV.toPV]at d;·subst d;simp[AV.cells]
   ·subst d;rfl
   ·exfalso;unfold jF at g;split at g;·cases g
    ·unfold bJ at g;split at g<;>cases g
  |tup xs=>exfalso;unfold jF at g;split at g<;>cases g|agg xs=>rw[g]at d;simp only[AV.toPV,c_]at d;obtain⟨ps,Y,rfl⟩:=d;exact(mapM_some Y).1.symm
 have U:pz.cells.length=f.size:=by omega
 have hcap:n.toNat<=maxLen:=by simp only[maxLen];omega
 obtain⟨θ',H,hid⟩:=E.allocAt A (l:=.hdr w.heap.size C.toNat n.toNat f.size none') (o:=.vec e f.size (F_ C.toNat pz)) (ob:=.cells (madeCells z.cells (n.toNat*f.size)) e) (λ_ h=>h.elim id False.elim) λθ' ur=>
  ⟨rfl,by simp,by omega,hcap,λp hp=>by rw[z_ hp];exact U,_,gV w _,size_madeCells _ _,λi j x y hx hy=>by
   have el:=z_ (b_ hx);have hi:i<C.toNat:=by simpa using(a_.1 hx).1
   subst el;have hj:j<f.size:=by grind
   have u:j<z.cells.size:=by omega
   refine⟨z.cells[j],?_,((c2 j _ y (e_ u) hy).1).mono (λ_ h=>h) (λb I=>fX w _ b (E.ok.dlt b I))⟩;have N:i*f.size+j<n.toNat*f.size:=by have:(i+1)*f.size<=n.toNat*f.size:=f_ _ (by omega);rw[n_,y_]at this;omega
   have v:(i*f.size+j)%z.cells.size=j:=by rw[ph,R_,ag_];exact ac_ hj
   simp only[madeCells,W_,T_,if_pos N,K_,v];simp[u]⟩
 have s:(execOp a.eval o).run P w= .ok (.value (.slice (some ⟨w.heap.size,0,none⟩) C.toNat n.toNat)) (w.alloc (.cells (madeCells z.cells (n.toNat*f.size)) e)):=by simp[execOp,ho,R,O,B]
 unfold Oper.wp;rw[s];exact hn _ _ ⟨_,hk,_,_,H.put hd ⟨_,hid,rfl⟩⟩
theorem Qu(F:Inv c θ D st a w)(hd:∀k,o.dst=some k->k<c.n){K KP:St->Prop}{t e:TypeId}{sz bytes:Nat}{z:Value}{l m:Operand}(ho:o.op= .makeSlice t l m)(he:iP P t=some e)(hs:bZ P e=some sz)(J:mC P e=some bytes)(hz:eP P e=some z) {k:Av.K} (h:sexec P o.dst (.msliceT k e sz bytes z (.of l) (.of m)) st K KP):Leaves P o c K KP a w:=by
 intro next Q hn _;obtain⟨al,hl,am,hm,hv⟩:=h;have h1:=dq (F.get hl) hv;have h2:=dq (F.get hm) h1;obtain⟨kl,E,U,kc,n,T,h0,N,H,M,wr,hsz,pz,d,Y,A,hk⟩:=h2;have hu:P.underlying t=some (.slice e):=by unfold iP at he;grind
 simp only[bZ,c_]at hs;obtain⟨f,r,rfl⟩:=hs;have rg:f.zero=some z:=by simpa[eP,r]using hz
 have L:f.bytes=bytes:=by simpa[mC,r]using J
 have C:=run_make (P:=P) w t e f z hu r rg kl kc E n h0 N (by rw[L];exact M) H;have At:RelP D w z pz:=Og (B1 (θ:=θ) z) d;obtain⟨c1,c2⟩:=xo At Y;have ur:z.cells.size=f.size:=by
  rw[c1,<-wr];cases g:jF z with
  |b x=>
   rw[g]at d;simp only[AV.toPVn]at d;cases x<;>simp[BV.toPVn,BV.toPV]at d;·subst d;simp[AV.cells]
   ·subst d;rfl
   ·exfalso;unfold jF at g;split at g;·cases g
    ·unfold bJ at g;split at g<;>cases g
  |tup xs=>exfalso;unfold jF at g;split at g<;>cases g|agg xs=>rw[g]at d;simp only[AV.toPVn,c_]at d;obtain⟨ps,el,rfl⟩:=d;exact(mapM_some el).1.symm
 have B:pz.cells.length=f.size:=by omega
 have hcap:n.toNat<=maxLen:=by simp only[maxLen];omega
 obtain⟨θ',I,hid⟩:=F.allocAt (pl:=none) trivial (l:=.hdr w.heap.size E.toNat n.toNat f.size none') (o:=.tree e f.size k (F_ E.toNat (k.unnil pz)) none) (ob:=.cells (madeCells z.cells (n.toNat*f.size)) e) (λ_ h=>h.elim id False.elim) λθ' Bk=>
  ⟨rfl,by simp,by omega,hcap,λp hp=>by rw[z_ hp,KF];exact B,_,λ_ _ _=>False,gV w _,size_madeCells _ _,λ_ _ _ h=>h.elim,λ_ _ _ _ _ h _=>h.elim,λ_ _ _ h=>(nomatch h),λi j x y hx hy=>by
   have gc:=z_ (b_ hx);have hi:i<E.toNat:=by grind
   subst gc;have hj:j<f.size:=by rw[<-B,<-KF k];exact(a_.1 hy).1
   have u:j<z.cells.size:=by omega
   obtain⟨y0,ph,qr⟩:=Wr A (O:=λ_=>False) hy;refine⟨z.cells[j],?_,qr _ _ _ (((c2 j _ y0 (e_ u) ph).1).mono (λ_ h=>h) (λb J=>fX w _ b (F.ok.dlt b J)))⟩;have R:i*f.size+j<n.toNat*f.size:=by have:(i+1)*f.size<=n.toNat*f.size:=f_ _ (by omega);rw[n_,y_]at this;omega
   have v:(i*f.size+j)%z.cells.size=j:=by rw[ur,R_,ag_];exact ac_ hj
   simp only[madeCells,W_,T_,if_pos R,K_,v];simp[u]⟩
 have s:(execOp a.eval o).run P w= .ok (.value (.slice (some ⟨w.heap.size,0,none⟩) E.toNat n.toNat)) (w.alloc (.cells (madeCells z.cells (n.toNat*f.size)) e)):=by simp[execOp,ho,U,T,C]
 unfold Oper.wp;rw[s];exact hn _ _ ⟨_,hk,_,_,I.put hd ⟨_,hid,rfl⟩⟩
theorem TR(A:Inv c θ D st a w)(hd:∀k,o.dst=some k->k<c.n){K KP:St->Prop}{t e:TypeId}{sz bytes:Nat}{z:Value}{l m:Operand}(H:o.op= .makeSlice t l m)(C:iP P t=some e)(hs:bZ P e=some sz)(B:mC P e=some bytes)(I:eP P e=some z) (h:sexec P o.dst (.mslice e sz bytes z (.of l) (.of m)) st K KP):Leaves P o c K KP a w:=by obtain⟨al,hl,g,F,l1,j,M,n,J,N,p,L,O,r,s,u,v,x,y,b,Q,d,f,E⟩:=h;exact RP A hd H C hs B I (pl:=none) ⟨al,hl,g,F,l1,j,M,n,J,N,p,L,O,r,s,u,v,x,y,b,Q,d,f,trivial,E⟩
end
section
variable {P:Program} {o:Oper} {c:Ctx} {θ:List Loc} {D:Nat->Prop} {st:St} {a:Act} {w:World}
theorem eb{t ty e:TypeId}{i:TypeInfo}(g:P.underlying t=some (.slice e))(f:P.info? e=some i)(a:Option Addr)(n cap:Nat)(c:n<=cap)(b:Option Addr)(m:Nat):(Builtin.append_ #[t,t] ty #[.slice a n cap,.slice b 0 m]).run P w= .ok (.slice a n cap) w:=by
 have d:(Builtin.firstCells i.size 0 (.slice b 0 m)).run P w= .ok #[] w:=by cases b<;>simp[Builtin.firstCells,loadCells,loadCellsFrom]
 cases a<;>simp[Builtin.append_,run_underlying g,sizeOf,typeInfo,f,Builtin.lenOf,c,d,storeCells]
theorem jQ(z:Array Value)(n:Nat):(Builtin.zeroCells z n).size=n*z.size:=by simp[Builtin.zeroCells]
theorem gL{t ty e:TypeId}{i:TypeInfo}{z:Value}(k:P.underlying t=some (.slice e))(h:P.info? e=some i)(l:i.zero=some z)(d:Option Addr) (f:Addr) (n c:Nat) (a:List Value) (hl:a.length=n*i.size) (b:∀j v,a[j]? =some v->w.cell? (f.add j)=some v) (r:0<n) (g:(n:Int)<=9223372036854775807) (s:n*i.bytes<=140737488355328):(Builtin.append_ #[t,t] ty #[.slice d 0 0,.slice (some f) n c]).run P w= .ok (.slice (some ⟨w.heap.size,0,none⟩) n (grownCap w n 0 e)) (w.drew.alloc (.cells (a.toArray++Builtin.zeroCells z.cells (grownCap w n 0 e - n)) e)):=by cases d with|none=>exact run_append_nil (P:=P) w t ty e i z k h l f n c a hl b r g (by omega)|some p=>have hr:=run_append_grow (P:=P) w t ty e i z k h l p 0 0 [] (by simp) (λj u x=>by grind) f n c a hl b (by omega) (by omega) (growslice_fits (by omega) (by grind));grind
theorem TO(N:Inv c θ D st a w)(hd:∀k,o.dst=some k->k<c.n){K KP:St->Prop}{t e:TypeId}{sz bytes:Nat}{z:Value}{x y:Operand}{cl:Call}(ho:o.op= .call cl)(Pb:cl.callee= .builtin .append)(Dg:cl.args= #[x,y])(In:cl.argTypes= #[t,t]) (he:iP P t=some e) (hs:bZ P e=some sz) (hb:mC P e=some bytes) (hz:eP P e=some z) (KK:z.cells.size=sz) (h0:0<sz) (Nd:0<bytes) (h:sexec P o.dst (.append e sz bytes (.of x) (.of y)) st K KP):Leaves P o c K KP a w:=by
 intro next Q hn _;obtain⟨ax,hx,ay,hy,hL⟩:=h;have hX:=N.get hx;obtain⟨L,ad,m,⟨PJ,DA⟩,rg,SM,RT,Bk⟩:=sW N.ok (N.get hy) hL;have hu:P.underlying t=some (.slice e):=by
  unfold iP at he;split at he;·cases he;assumption
  ·cases he
 simp only[bZ,c_]at hs;obtain⟨f,H,rfl⟩:=hs;have DM:f.zero=some z:=by simpa[eP,H]using hz
 have Pa:f.bytes=bytes:=by simpa[mC,H]using hb
 subst Pa;have ph:∀(v:Value) (w':World) (Bx:St),(Builtin.append_ #[t,t] o.type #[a.eval x,a.eval y]).run P w= .ok v w'->K Bx->Rel c Bx (a.put o.dst v) w'->o.wp P a w next Q:=by
  intro v w' Bx hr U GS;unfold Oper.wp;have:(execOp a.eval o).run P w= .ok (.value v) w':=by simp[execOp,ho,resolve,Pb,Dg,In,invoke,builtin,hr]
  rw[this];exact hn _ _ ⟨Bx,U,GS⟩
 have At:0<L.length->∃(ab:Addr) (d:List Value),ad=some ab/\d.length=L.length*f.size/\(∀(j:Nat) (u:Value),d[j]? =some u->w.cell? (ab.add j)=some u)/\(∀u∈d,u.oneCell'=true)/\(∀p∈L,p.cells.length=f.size)/\∀(i j:Nat) (p q:PV),L[i]? =some p->p.cells[j]? =some q->∃u,d[i*f.size+j]? =some u/\RelP D w u q:=by
  intro hl
  obtain⟨g,og,rfl,hg,hsz,hc⟩:=Bk hl
  obtain⟨d,n1,n2⟩:=jT (n:=L.length*f.size) (p:=λk u=>w.cell? ⟨g,og+k,none⟩=some u/\u.oneCell'=true/\∀(p q:PV),L[k/f.size]? =some p->p.cells[k%f.size]? =some q->RelP D w u q) (λk U=>by
   have hi:k/f.size<L.length:=(S_ h0).2 U;have C:k%f.size<f.size:=ao_ _ h0;have hp:=d_ hi;have Th:=hsz _ (b_ hp);have R:=d_ (l:=(L[k/f.size]).cells) (i:=k%f.size) (by omega);obtain⟨u,e1,e2⟩:=hc _ _ _ _ hp R;refine⟨u,?_,?_,λp q Fm Fr=>?_⟩;·rw[<-e1,V_,R_,af_]
   ·have BT:=PJ _ (b_ hp);simp only[PV.ok,A_]at BT;exact m4 e2 (BT _ (b_ R))
   ·rw[hp]at Fm;cases Fm;rw[R]at Fr;cases Fr;exact e2)
  refine⟨_,d,rfl,n1,λj u C=>by rw[addr_add];exact(n2 j u C).1,λu hu=>?_,hsz,λi j p q hp R=>?_⟩
  ·obtain⟨j,C⟩:=x_ hu;exact(n2 j u C).2.1
  ·have C:j<f.size:=by rw[<-hsz p (b_ hp)];exact(a_.1 R).1
   have hi:i<L.length:=(a_.1 hp).1;have Fk:i*f.size+j<d.length:=by rw[n1];have:(i+1)*f.size<=L.length*f.size:=f_ _ hi;rw[n_,y_]at this;omega
   grind
 have I:∀(w':World) (r d:List Value) (xs:List PV) (cv:Array Value) (k:Nat),(∀b,D b->w'.heap[b]? =w.heap[b]?)->r.length=xs.length*f.size->cv.size=k*f.size->(∀j,j<r.length->cv[j]? =r[j]?)->(∀j,j<d.length->cv[r.length+j]? =d[j]?)->(∀p∈xs,p.cells.length=f.size)->(∀p∈L,p.cells.length=f.size)->d.length=L.length*f.size->(∀(i j:Nat) (p q:PV),xs[i]? =some p->p.cells[j]? =some q->∃u,r[i*f.size+j]? =some u/\RelP D w u q)->(∀(i j:Nat) (p q:PV),L[i]? =some p->p.cells[j]? =some q->∃u,d[i*f.size+j]? =some u/\RelP D w u q)->∀(i j:Nat) (p q:PV),(xs++L)[i]? =some p->p.cells[j]? =some q->∃u,cv[i*f.size+j]? =some u/\RelP D w' u q:=by
  intro w' r d xs cv k J Y So PA Pc DH RW SW ro rn i j p q hp R
  rcases H_ i xs.length with hi|hi
  ·rw[q_ hi]at hp;obtain⟨u,e1,e2⟩:=ro i j p q hp R;exact⟨u,by rw[PA _ (a_.1 e1).1];exact e1,e2.mono (λ_ h=>h) J⟩
  ·rw[p_ hi]at hp;obtain⟨u,e1,e2⟩:=rn _ j p q hp R;refine⟨u,?_,e2.mono (λ_ h=>h) J⟩;have:=Pc _ (a_.1 e1).1;rw[e1]at this;rw[<-this,Y];congr 1;have:i*f.size=xs.length*f.size+(i - xs.length)*f.size:=by rw[<-n_];congr 1;omega
   omega
 have gc:∀(xs:List PV) (k:Nat),(xs.length+L.length)*f.bytes<=k->xs.length+L.length<=k:=λxs k h=>C_ (D_ _ Nd) h;rcases DA with⟨id,rfl,ob,PB,xs,rfl,ur,U⟩|⟨RK,ur,U⟩
 ·obtain⟨l,hl,hh⟩:=hX;have F:=N.ok.objs id l _ hl PB;have CD:=gc xs _ ur;have Fk:id<θ.length:=(a_.1 hl).1;have M:∀(l':Loc),(θ.set id l')[id]? =some l':=λl'=>B_ Fk;by_cases T:L.length=0
  ·have CT:L=[]:=m_ T;subst CT;have qr:Inv c (θ.set id l) D (st.moved id (.vec e f.size (xs++[]))) a w:=by
    refine N.move hl (λg hg=>?_) (λg hg=>?_) rfl rfl rfl (l_ _) (λ_ _ _=>rfl) (λg hg=>⟨(N.ok.olt id l g hl hg).1,.inl hg⟩) ?_;·subst hg;exact F.elim
    ·subst hg;exact F.elim
    ·rw[ad_];have Rg:θ.set id l=θ:=by
      apply Z_;intro i;by_cases DQ:i=id;·subst DQ;rw[M];exact hl.symm
      ·rw[v_ (Ne.symm DQ)]
     rw[Rg];exact F
   cases l<;>simp only[RelO,Loc.head]at F hh;·rename_i A;refine ph (.slice A 0 0) w _ ?_ U ⟨_,D,qr.put hd ⟨.nil A,M _,rfl⟩⟩;rw[hh,rg];exact eb hu H A 0 0 (l_ _) ad m
   ·rename_i g n cap s O;obtain⟨rfl,rfl,h3,_⟩:=F;refine ph _ w _ ?_ U ⟨_,D,qr.put hd ⟨_,M _,rfl⟩⟩;rw[hh,rg];exact eb hu H _ _ cap h3 ad m
  ·obtain⟨ab,d,rfl,n1,n2,n3,n4,n5⟩:=At (u_ T);have grow:∀(E:Nat) (r:List Value) (v:Value),r.length=xs.length*f.size->(∀p∈xs,p.cells.length=f.size)->(∀(i j:Nat) (p q:PV),xs[i]? =some p->p.cells[j]? =some q->∃u,r[i*f.size+j]? =some u/\RelP D w u q)->(Builtin.append_ #[t,t] o.type #[v,.slice (some ab) L.length m]).run P w= .ok (.slice (some ⟨w.heap.size,0,none⟩) (xs.length+L.length) (grownCap w (xs.length+L.length) E e)) (w.drew.alloc (.cells (r.toArray++d.toArray++Builtin.zeroCells z.cells (grownCap w (xs.length+L.length) E e - (xs.length+L.length))) e))->a.eval x=v->o.wp P a w next Q:=by
    intro E r v Y DH ro Hx hv
    have DE:=grownCap_ge w (xs.length+L.length) E e
    have DB:grownCap w (xs.length+L.length) E e<=maxLen:=grownCap_le_maxLen w _ E e (by simp only[maxLen];omega)
    have hcs:(r.toArray++d.toArray++Builtin.zeroCells z.cells (grownCap w (xs.length+L.length) E e - (xs.length+L.length))).size=grownCap w (xs.length+L.length) E e*f.size:=by simp only[E_,G_,jQ,KK,Y,n1,<-n_];congr 1;omega
    have J:∀b,D b->(w.drew.alloc (.cells (r.toArray++d.toArray++Builtin.zeroCells z.cells (grownCap w (xs.length+L.length) E e - (xs.length+L.length))) e)).heap[b]? =w.heap[b]? :=λb hb=>fX w.drew _ b (N.ok.dlt b hb)
    have qr:=N.move (l':=.hdr w.heap.size (xs.length+L.length) (grownCap w (xs.length+L.length) E e) f.size none') (o':=.vec e f.size (xs++L)) (w':=w.drew.alloc (.cells (r.toArray++d.toArray++Builtin.zeroCells z.cells (grownCap w (xs.length+L.length) E e - (xs.length+L.length))) e)) hl (λg hg=>by subst hg;exact F.elim) (λg hg=>by subst hg;exact F.elim) rfl rfl rfl (by simp) (λk U _=>fX w.drew _ k U) (λg hg=>by rcases hg with rfl|hg;exact⟨by simp,.inr (l_ _)⟩;exact hg.elim) ⟨rfl,by simp,DE,DB,λp hp=>(J_.1 hp).elim (DH p) (n4 p),_,gV w.drew _,hcs,I _ r d xs _ _ J Y hcs (λj C=>by rw[i_ (by simp;omega),i_ (by simpa using C)];simp) (λj C=>by rw[i_ (by simp;omega),L_ (by simp)];simp) DH n4 n1 ro n5⟩
    refine ph _ _ _ ?_ U ⟨_,D,qr.put hd ⟨_,M _,rfl⟩⟩
    rw[hv,rg]
    exact Hx
   cases l<;>simp only[RelO,Loc.head]at F hh;·rename_i A;subst F;have hr:=gL (P:=P) (w:=w) (ty:=o.type) hu H DM A ab L.length m d n1 n2 (u_ T) (by simp only[s_]at CD;omega) (by simp only[s_,o_]at ur;omega);grind
   ·rename_i g n cap s O;obtain⟨rfl,rfl,h3,h4,h5,B,h6,h7,h8⟩:=F;by_cases el:xs.length+L.length<=cap
    ·have DS:xs.length*f.size+d.length<=B.size:=by rw[n1,h7,<-n_];exact f_ _ el
     have hr:=run_append_room (P:=P) w t o.type e f hu H g xs.length cap B h6 ab L.length m d n1 n2 n3 el DS;obtain⟨s1,s2⟩:=p6 B (xs.length*f.size) d DS;have J:∀b,D b->(w.setRow g (B.toList.take (xs.length*f.size)++d++B.toList.drop (xs.length*f.size+d.length)).toArray).heap[b]? =w.heap[b]? :=λb hb=>setRow_other _ _ _ _ λe=>(N.ok.olt id _ g hl (.inl rfl)).2 (e▸hb);have wr:(B.toList.take (xs.length*f.size)).length=xs.length*f.size:=by simp;omega
     have qr:=N.move (l':=.hdr g (xs.length+L.length) cap f.size O) (o':=.vec e f.size (xs++L)) (w':=w.setRow g (B.toList.take (xs.length*f.size)++d++B.toList.drop (xs.length*f.size+d.length)).toArray) hl (λg hg=>by cases hg) (λg hg=>by cases hg) rfl rfl rfl (by simp) (λk _ U=>setRow_other _ _ _ _ λe=>U (by rw[e];exact .inl rfl)) (λg' DP=>⟨by simp;exact(N.ok.olt id _ g' hl DP).1,.inl DP⟩)
      ⟨rfl,by simp,el,h4,λp hp=>(J_.1 hp).elim (h5 p) (n4 p),_,setRow_heap _ _ _ _ _ _ h6,by rw[s1,h7],
       I _ (B.toList.take (xs.length*f.size)) d xs _ cap J wr (by rw[s1,h7]) (λj C=>by
        rw[wr]at C;rw[s2,if_neg (by omega),t_,if_pos C,k_]) (λj C=>by
        rw[s2,wr,if_pos ⟨by omega,by omega⟩];congr 1;omega) h5 n4 n1 (λi j p q hp R=>by
        obtain⟨u,e1,e2⟩:=h8 i j p q hp R;refine⟨u,?_,e2⟩;have C:j<f.size:=by rw[<-h5 p (b_ hp)];exact(a_.1 R).1
        have hi:i<xs.length:=(a_.1 hp).1;have:(i+1)*f.size<=xs.length*f.size:=f_ _ hi;grind) n5⟩
     refine ph _ _ _ ?_ U ⟨_,D,qr.put hd ⟨_,M _,rfl⟩⟩;rw[hh,rg];exact hr
    ·have RM:xs.length*f.size<=B.size:=by rw[h7];exact f_ _ h3
     have Y:(B.toList.take (xs.length*f.size)).length=xs.length*f.size:=by simp;omega
     have hr:=run_append_grow (P:=P) w t o.type e f z hu H DM ⟨g,0,none⟩ xs.length cap (B.toList.take (xs.length*f.size)) Y (λj u C=>by
      rw[addr_add,o_,cell_of_row w g j B e (0,0) h6];rw[t_]at C;split at C;·simpa using C
      ·cases C) ab L.length m d n1 n2 (by omega) (by omega) (growslice_fits (by omega) ur)
     refine grow cap _ _ Y h5 (λi j p q hp R=>?_) hr hh;obtain⟨u,e1,e2⟩:=h8 i j p q hp R;refine⟨u,?_,e2⟩;have C:j<f.size:=by rw[<-h5 p (b_ hp)];exact(a_.1 R).1
     have hi:i<xs.length:=(a_.1 hp).1;have:(i+1)*f.size<=xs.length*f.size:=f_ _ hi;rw[n_,y_]at this;rw[t_,if_pos (by omega),k_];exact e1
 ·obtain⟨A,JT⟩:∃A,a.eval x= .slice A 0 0:=by
   rcases RK with rfl|rfl;·exact⟨none,hX⟩
   ·obtain⟨h1,a0,n0,h2⟩:=hX;refine⟨a0,?_⟩;rw[h2]at h1⊢;cases h1;rfl
  have CD:=gc [] _ (by simpa using ur);simp only[s_,o_]at CD;by_cases T:L.length=0;·have CT:L=[]:=m_ T;subst CT;have hp:Inv c (θ++[.nil A]) D {st with hp:=st.hp++[.vec e f.size []]} a w:=N.push rfl (λg hg=>by cases hg);refine ph (.slice A 0 0) w _ ?_ U ⟨_,D,hp.put hd ⟨.nil A,by rw[<-N.ok.len];simp,rfl⟩⟩;rw[JT,rg];exact eb hu H A 0 0 (l_ _) ad m
  ·obtain⟨ab,d,rfl,n1,n2,n3,n4,n5⟩:=At (u_ T);have hr:=gL (P:=P) (w:=w) (ty:=o.type) hu H DM A ab L.length m d n1 n2 (u_ T) (by omega) (by omega);have DE:=grownCap_ge w L.length 0 e;have DB:grownCap w L.length 0 e<=maxLen:=grownCap_le_maxLen w _ 0 e (by simp only[maxLen];omega);have hcs:(d.toArray++Builtin.zeroCells z.cells (grownCap w L.length 0 e - L.length)).size=grownCap w L.length 0 e*f.size:=by simp only[E_,G_,jQ,KK,n1,<-n_];congr 1;omega
   have J:∀b,D b->(w.drew.alloc (.cells (d.toArray++Builtin.zeroCells z.cells (grownCap w L.length 0 e - L.length)) e)).heap[b]? =w.heap[b]? :=λb hb=>fX w.drew _ b (N.ok.dlt b hb);have MT:=N.drew.allocOwn (l:=.hdr w.heap.size L.length (grownCap w L.length 0 e) f.size none') (o:=.vec e f.size L) (ob:=.cells (d.toArray++Builtin.zeroCells z.cells (grownCap w L.length 0 e - L.length)) e) (λ_ h=>h.elim (λh=>h) False.elim) λθ' Vc=>⟨rfl,rfl,DE,DB,n4,_,gV w.drew _,hcs,λi j p q hp R=>by have:=I _ [] d [] _ _ J (by simp) hcs (λj C=>by simp at C) (λj C=>by simp only[s_,o_];rw[i_ (by simpa using C)];simp) (λp hp=>by cases hp) n4 n1 (λi j p q hp=>by simp at hp) n5 i j p q (by simpa using hp) R;exact this⟩
   refine ph _ _ _ ?_ U ⟨_,D,MT.put hd ⟨.hdr w.heap.size L.length (grownCap w L.length 0 e) f.size none',by rw[<-N.ok.len];simp,rfl⟩⟩;rw[JT,rg];exact hr
theorem zal(R:Inv c θ D st a w)(hd:∀k,o.dst=some k->k<c.n){K KP:St->Prop}{t e:TypeId}{sz bytes:Nat}{z:Value}{x y:Operand}{cl:Call}(ho:o.op= .call cl)(RK:cl.callee= .builtin .append)(DH:cl.args= #[x,y])(Nd:cl.argTypes= #[t,t]) (he:iP P t=some e) (hs:bZ P e=some sz) (J:mC P e=some bytes) (hz:eP P e=some z) (Pb:z.cells.size=sz) (h0:0<sz) (PJ:0<bytes) {k:Av.K} (h:sexec P o.dst (.appT k e sz bytes (.of x) (.of y)) st K KP):Leaves P o c K KP a w:=by
 intro next Q hn _;obtain⟨ax,hx,ay,hy,hL⟩:=h;have hX:=R.get hx;obtain⟨L,ad,m,⟨Dg,DM⟩,ur,n8,n6,BT⟩:=sW R.ok (R.get hy) hL;have So:∀p∈L,p.ok=true:=λp hp=>(Dg p hp).1;have hu:P.underlying t=some (.slice e):=by
  unfold iP at he;split at he;·cases he;assumption
  ·cases he
 simp only[bZ,c_]at hs;obtain⟨f,H,rfl⟩:=hs;have DS:f.zero=some z:=by simpa[eP,H]using hz
 have Rg:f.bytes=bytes:=by simpa[mC,H]using J
 subst Rg;have qr:∀(v:Value) (w':World) (CD:St),(Builtin.append_ #[t,t] o.type #[a.eval x,a.eval y]).run P w= .ok v w'->K CD->Rel c CD (a.put o.dst v) w'->o.wp P a w next Q:=by
  intro v w' CD hr U KK;unfold Oper.wp;have:(execOp a.eval o).run P w= .ok (.value v) w':=by simp[execOp,ho,resolve,RK,DH,Nd,invoke,builtin,hr]
  rw[this];exact hn _ _ ⟨CD,U,KK⟩
 have Bx:0<L.length->∃(ab:Addr) (d:List Value),ad=some ab/\d.length=L.length*f.size/\(∀(j:Nat) (u:Value),d[j]? =some u->w.cell? (ab.add j)=some u)/\(∀u∈d,u.oneCell'=true)/\(∀p∈L,p.cells.length=f.size)/\∀(i j:Nat) (p q:PV),L[i]? =some p->p.cells[j]? =some q->∃u,d[i*f.size+j]? =some u/\RelP D w u q:=by
  intro hl
  obtain⟨g,og,rfl,hg,hsz,hc⟩:=BT hl
  obtain⟨d,n1,n2⟩:=jT (n:=L.length*f.size) (p:=λk u=>w.cell? ⟨g,og+k,none⟩=some u/\u.oneCell'=true/\∀(p q:PV),L[k/f.size]? =some p->p.cells[k%f.size]? =some q->RelP D w u q) (λk U=>by
   have hi:k/f.size<L.length:=(S_ h0).2 U;have C:k%f.size<f.size:=ao_ _ h0;have hp:=d_ hi;have L7:=hsz _ (b_ hp);have M:=d_ (l:=(L[k/f.size]).cells) (i:=k%f.size) (by omega);obtain⟨u,e1,e2⟩:=hc _ _ _ _ hp M;refine⟨u,?_,?_,λp q Hx JT=>?_⟩;·rw[<-e1,V_,R_,af_]
   ·have CT:=So _ (b_ hp);simp only[PV.ok,A_]at CT;exact m4 e2 (CT _ (b_ M))
   ·rw[hp]at Hx;cases Hx;rw[M]at JT;cases JT;exact e2)
  refine⟨_,d,rfl,n1,λj u C=>by rw[addr_add];exact(n2 j u C).1,λu hu=>?_,hsz,λi j p q hp M=>?_⟩
  ·obtain⟨j,C⟩:=x_ hu;exact(n2 j u C).2.1
  ·have C:j<f.size:=by rw[<-hsz p (b_ hp)];exact(a_.1 M).1
   have hi:i<L.length:=(a_.1 hp).1;have GS:i*f.size+j<d.length:=by rw[n1];have:(i+1)*f.size<=L.length*f.size:=f_ _ hi;rw[n_,y_]at this;omega
   grind
 have PA:(L.map k.unnil).length=L.length:=by simp
 have DE:(∀p∈L,p.cells.length=f.size)->∀p∈L.map k.unnil,p.cells.length=f.size:=λh p hp=>by obtain⟨q,M,rfl⟩:=N_.1 hp;rw[KF];exact h q M
 have I:∀(w':World) (r d:List Value) (xs:List PV) (cv:Array Value) (cap:Nat) (Os:Nat->Nat->Nat->Prop),(∀b,D b->w'.heap[b]? =w.heap[b]?)->(∀i j b,Os i j b->w'.heap[b]? =w.heap[b]?)->r.length=xs.length*f.size->cv.size=cap*f.size->(∀j,j<r.length->cv[j]? =r[j]?)->(∀j,j<d.length->cv[r.length+j]? =d[j]?)->d.length=L.length*f.size->(∀(i j:Nat) (p q:PV),xs[i]? =some p->p.cells[j]? =some q->∃u,r[i*f.size+j]? =some u/\RelT D w (k.at j) (Os i j) u q)->(∀(i j:Nat) (p q:PV),L[i]? =some p->p.cells[j]? =some q->∃u,d[i*f.size+j]? =some u/\RelP D w u q)->∀(i j:Nat) (p q:PV),(xs++L.map k.unnil)[i]? =some p->p.cells[j]? =some q->∃u,cv[i*f.size+j]? =some u/\RelT D w' (k.at j) (Os i j) u q:=by
  intro w' r d xs cv cap Os N PB Y n7 RT RM n9 ro rn i j p q hp M
  rcases H_ i xs.length with hi|hi
  ·rw[q_ hi]at hp;obtain⟨u,e1,e2⟩:=ro i j p q hp M;exact⟨u,by rw[RT _ (a_.1 e1).1];exact e1,e2.mono (λ_ h=>h) N λb J=>PB i j b J⟩
  ·rw[p_ hi,g_]at hp;obtain⟨p0,In,rfl⟩:=c_.1 hp;obtain⟨q0,SM,SW⟩:=Wr (Dg p0 (b_ In)).2 (O:=Os i j) M;obtain⟨u,e1,e2⟩:=rn _ j p0 q0 In SM;refine⟨u,?_,SW _ _ _ (e2.mono (λ_ h=>h) N)⟩;have:=RM _ (a_.1 e1).1;rw[e1]at this;rw[<-this,Y];congr 1;have:i*f.size=xs.length*f.size+(i - xs.length)*f.size:=by rw[<-n_];congr 1;omega
   omega
 have ph:∀(xs:List PV) (k:Nat),(xs.length+L.length)*f.bytes<=k->xs.length+L.length<=k:=λxs k h=>C_ (D_ _ PJ) h;rcases DM with⟨id,rfl,ob,RW,xs,rfl,At,U⟩|⟨Wf,At,U⟩
 ·obtain⟨l,hl,hh⟩:=hX;have F:=R.ok.objs id l _ hl RW;have DA:=ph xs _ At;have GS:id<θ.length:=(a_.1 hl).1;have gc:∀(l':Loc),(θ.set id l')[id]? =some l':=λl'=>B_ GS;by_cases T:L.length=0
  ·have DB:L=[]:=m_ T;subst DB;have rg:Inv c (θ.set id l) D (st.moved id (.tree e f.size k (xs++([]:List PV).map k.unnil) none)) a w:=by
    refine R.move hl (λg hg=>?_) (λg hg=>?_) rfl rfl rfl (l_ _) (λ_ _ _=>rfl) (λg hg=>⟨(R.ok.olt id l g hl hg).1,.inl hg⟩) ?_;·subst hg;exact F.elim
    ·subst hg;exact F.elim
    ·rw[List.map_nil,ad_];have Th:θ.set id l=θ:=by apply Z_;grind
     rw[Th];exact F
   cases l<;>simp only[RelO,Loc.head]at F hh;·rename_i A;refine qr (.slice A 0 0) w _ ?_ U ⟨_,D,rg.put hd ⟨.nil A,gc _,rfl⟩⟩;rw[hh,ur];exact eb hu H A 0 0 (l_ _) ad m
   ·rename_i g n cap s O;obtain⟨rfl,rfl,h3,_⟩:=F;refine qr _ w _ ?_ U ⟨_,D,rg.put hd ⟨_,gc _,rfl⟩⟩;rw[hh,ur];exact eb hu H _ _ cap h3 ad m
  ·obtain⟨ab,d,rfl,n1,n2,n3,n4,n5⟩:=Bx (u_ T);have grow:∀(E:Nat) (r:List Value) (v:Value) (O:Nat->Prop) (Os:Nat->Nat->Nat->Prop),(∀b,O b->l.has b)->(∀i j b,Os i j b->O b)->(∀i j i' j' b,Os i j b->Os i' j' b->i=i'/\j=j')->r.length=xs.length*f.size->(∀p∈xs,p.cells.length=f.size)->(∀(i j:Nat) (p q:PV),xs[i]? =some p->p.cells[j]? =some q->∃u,r[i*f.size+j]? =some u/\RelT D w (k.at j) (Os i j) u q)->(Builtin.append_ #[t,t] o.type #[v,.slice (some ab) L.length m]).run P w= .ok (.slice (some ⟨w.heap.size,0,none⟩) (xs.length+L.length) (grownCap w (xs.length+L.length) E e)) (w.drew.alloc (.cells (r.toArray++d.toArray++Builtin.zeroCells z.cells (grownCap w (xs.length+L.length) E e - (xs.length+L.length))) e))->a.eval x=v->o.wp P a w next Q:=by
    intro E r v O Os Fk hOs hdj Y Vc ro MT hv
    have wr:∀b,O b->b<w.heap.size:=λb J=>(R.ok.olt id l b hl (Fk b J)).1
    have DQ:=grownCap_ge w (xs.length+L.length) E e
    have DP:grownCap w (xs.length+L.length) E e<=maxLen:=grownCap_le_maxLen w _ E e (by simp only[maxLen];omega)
    have hcs:(r.toArray++d.toArray++Builtin.zeroCells z.cells (grownCap w (xs.length+L.length) E e - (xs.length+L.length))).size=grownCap w (xs.length+L.length) E e*f.size:=by simp only[E_,G_,jQ,Pb,Y,n1,<-n_];congr 1;omega
    have N:∀b,D b->(w.drew.alloc (.cells (r.toArray++d.toArray++Builtin.zeroCells z.cells (grownCap w (xs.length+L.length) E e - (xs.length+L.length))) e)).heap[b]? =w.heap[b]? :=λb J=>fX w.drew _ b (R.ok.dlt b J)
    have rg:=R.move (l':=.hdr w.heap.size (xs.length+L.length) (grownCap w (xs.length+L.length) E e) f.size O) (o':=.tree e f.size k (xs++L.map k.unnil) none) (w':=w.drew.alloc (.cells (r.toArray++d.toArray++Builtin.zeroCells z.cells (grownCap w (xs.length+L.length) E e - (xs.length+L.length))) e)) hl (λg hg=>by subst hg;exact F.elim) (λg hg=>by subst hg;exact F.elim) rfl rfl rfl (by simp) (λk U _=>fX w.drew _ k U) (λg hg=>by rcases hg with rfl|hg;exact⟨by simp,.inr (l_ _)⟩;exact⟨by simp;have:=wr g hg;omega,.inl (Fk g hg)⟩) ⟨rfl,by simp,DQ,DP,λp hp=>(J_.1 hp).elim (Vc p) (DE n4 p),_,Os,gV w.drew _,hcs,λi j b J=>⟨hOs i j b J,by have:=wr b (hOs i j b J);simp;omega⟩,hdj,λ_ _ _ h=>(nomatch h),I _ r d xs _ _ Os N (λi j b J=>fX w.drew _ b (wr b (hOs i j b J))) Y hcs (λj C=>by rw[i_ (by simp;omega),i_ (by simpa using C)];simp) (λj C=>by rw[i_ (by simp;omega),L_ (by simp)];simp) n1 ro n5⟩
    refine qr _ _ _ ?_ U ⟨_,D,rg.put hd ⟨_,gc _,rfl⟩⟩
    rw[hv,ur]
    exact MT
   cases l<;>simp only[RelO,Loc.head]at F hh;·rename_i A;obtain⟨rfl,-⟩:=F;have hr:=gL (P:=P) (w:=w) (ty:=o.type) hu H DS A ab L.length m d n1 n2 (u_ T) (by simp only[s_]at DA;omega) (by simp only[s_,o_]at At;omega);refine grow 0 [] (.slice A 0 0) none' (λ_ _ _=>False) (λ_ h=>h.elim) (λ_ _ _ h=>h.elim) (λ_ _ _ _ _ h _=>h.elim) (by simp) (λp hp=>by cases hp) (λi j p q hp=>by simp at hp) ?_ hh;simpa using hr
   ·rename_i g n cap s O;obtain⟨rfl,rfl,h3,h4,h5,B,Os,h6,h7,hOs,hdj,-,h8⟩:=F;by_cases el:xs.length+L.length<=cap
    ·have Fr:xs.length*f.size+d.length<=B.size:=by rw[n1,h7,<-n_];exact f_ _ el
     have hr:=run_append_room (P:=P) w t o.type e f hu H g xs.length cap B h6 ab L.length m d n1 n2 n3 el Fr;obtain⟨s1,s2⟩:=p6 B (xs.length*f.size) d Fr;have N:∀b,D b->(w.setRow g (B.toList.take (xs.length*f.size)++d++B.toList.drop (xs.length*f.size+d.length)).toArray).heap[b]? =w.heap[b]? :=λb J=>setRow_other _ _ _ _ λe=>(R.ok.olt id _ g hl (.inl rfl)).2 (e▸J);have Bk:(B.toList.take (xs.length*f.size)).length=xs.length*f.size:=by simp;omega
     have rg:=R.move (l':=.hdr g (xs.length+L.length) cap f.size O) (o':=.tree e f.size k (xs++L.map k.unnil) none) (w':=w.setRow g (B.toList.take (xs.length*f.size)++d++B.toList.drop (xs.length*f.size+d.length)).toArray) hl (λg hg=>by cases hg) (λg hg=>by cases hg) rfl rfl rfl (by simp) (λk _ U=>setRow_other _ _ _ _ λe=>U (by rw[e];exact .inl rfl)) (λg' Fm=>⟨by simp;exact(R.ok.olt id _ g' hl Fm).1,.inl Fm⟩)
      ⟨rfl,by simp,el,h4,λp hp=>(J_.1 hp).elim (h5 p) (DE n4 p),_,Os,setRow_heap _ _ _ _ _ _ h6,by rw[s1,h7],hOs,hdj,λ_ _ _ h=>(nomatch h),
       I _ (B.toList.take (xs.length*f.size)) d xs _ cap Os N (λi j b J=>setRow_other _ _ _ _ (hOs i j b J).2) Bk (by rw[s1,h7]) (λj C=>by
        rw[Bk]at C;rw[s2,if_neg (by omega),t_,if_pos C,k_]) (λj C=>by
        rw[s2,Bk,if_pos ⟨by omega,by omega⟩];congr 1;omega) n1 (λi j p q hp M=>by
        obtain⟨u,e1,e2⟩:=h8 i j p q hp M;refine⟨u,?_,e2⟩;have C:j<f.size:=by rw[<-h5 p (b_ hp)];exact(a_.1 M).1
        have hi:i<xs.length:=(a_.1 hp).1;have:(i+1)*f.size<=xs.length*f.size:=f_ _ hi;grind) n5⟩
     refine qr _ _ _ ?_ U ⟨_,D,rg.put hd ⟨_,gc _,rfl⟩⟩;rw[hh,ur];exact hr
    ·have WD:xs.length*f.size<=B.size:=by rw[h7];exact f_ _ h3
     have Y:(B.toList.take (xs.length*f.size)).length=xs.length*f.size:=by simp;omega
     have hr:=run_append_grow (P:=P) w t o.type e f z hu H DS ⟨g,0,none⟩ xs.length cap (B.toList.take (xs.length*f.size)) Y (λj u C=>by
      rw[addr_add,o_,cell_of_row w g j B e (0,0) h6];rw[t_]at C;split at C;·simpa using C
      ·cases C) ab L.length m d n1 n2 (by omega) (by omega) (growslice_fits (by omega) At)
     refine grow cap _ _ O Os (λ_ h=>.inr h) (λi j b h=>(hOs i j b h).1) hdj Y h5 (λi j p q hp M=>?_) hr hh;obtain⟨u,e1,e2⟩:=h8 i j p q hp M;refine⟨u,?_,e2⟩;have C:j<f.size:=by rw[<-h5 p (b_ hp)];exact(a_.1 M).1
     have hi:i<xs.length:=(a_.1 hp).1;have:(i+1)*f.size<=xs.length*f.size:=f_ _ hi;rw[n_,y_]at this;rw[t_,if_pos (by omega),k_];exact e1
 ·obtain⟨A,Pa⟩:∃A,a.eval x= .slice A 0 0:=by subst Wf;exact⟨none,hX⟩
  have DA:=ph [] _ (by simpa using At);simp only[s_,o_]at DA;by_cases T:L.length=0;·have DB:L=[]:=m_ T;subst DB;have hp:Inv c (θ++[.nil A]) D {st with hp:=st.hp++[.tree e f.size k (([]:List PV).map k.unnil) none]} a w:=R.push ⟨rfl,rfl⟩ (λg hg=>by cases hg);refine qr (.slice A 0 0) w _ ?_ U ⟨_,D,hp.put hd ⟨.nil A,by rw[<-R.ok.len];simp,rfl⟩⟩;rw[Pa,ur];exact eb hu H A 0 0 (l_ _) ad m
  ·obtain⟨ab,d,rfl,n1,n2,n3,n4,n5⟩:=Bx (u_ T);have hr:=gL (P:=P) (w:=w) (ty:=o.type) hu H DS A ab L.length m d n1 n2 (u_ T) (by omega) (by omega);have DQ:=grownCap_ge w L.length 0 e;have DP:grownCap w L.length 0 e<=maxLen:=grownCap_le_maxLen w _ 0 e (by simp only[maxLen];omega);have hcs:(d.toArray++Builtin.zeroCells z.cells (grownCap w L.length 0 e - L.length)).size=grownCap w L.length 0 e*f.size:=by simp only[E_,G_,jQ,Pb,n1,<-n_];congr 1;omega
   have N:∀b,D b->(w.drew.alloc (.cells (d.toArray++Builtin.zeroCells z.cells (grownCap w L.length 0 e - L.length)) e)).heap[b]? =w.heap[b]? :=λb J=>fX w.drew _ b (R.ok.dlt b J);have Pc:=R.drew.allocOwn (l:=.hdr w.heap.size L.length (grownCap w L.length 0 e) f.size none') (o:=.tree e f.size k (L.map k.unnil) none) (ob:=.cells (d.toArray++Builtin.zeroCells z.cells (grownCap w L.length 0 e - L.length)) e) (λ_ h=>h.elim (λh=>h) False.elim) λθ' hθ=>⟨rfl,PA.symm,DQ,DP,DE n4,_,λ_ _ _=>False,gV w.drew _,hcs,λ_ _ _ h=>h.elim,λ_ _ _ _ _ h _=>h.elim,λ_ _ _ h=>(nomatch h),λi j p q hp M=>by have:=I _ [] d [] _ _ (λ_ _ _=>False) N (λ_ _ _ h=>h.elim) (by simp) hcs (λj C=>by simp at C) (λj C=>by simp only[s_,o_];rw[i_ (by simpa using C)];simp) n1 (λi j p q hp=>by simp at hp) n5 i j p q (by simpa using hp) M;exact this⟩
   refine qr _ _ _ ?_ U ⟨_,D,Pc.put hd ⟨.hdr w.heap.size L.length (grownCap w L.length 0 e) f.size none',by rw[<-R.ok.len];simp,rfl⟩⟩;rw[Pa,ur];exact hr
end
end Go.Av
