import Derived.WalkKit
import Derived.KernelRfl
import Derived.Deep.Quiet
import Derived.Test.YthjnceggmnicmaaGreatDoorGw
set_option linter.unusedVariables false
set_option linter.unusedSimpArgs false
open Array renaming getElem?_eq_getElem->d_,getElem?_toList->j_,getElem?_append_left->p_,getElem?_extract->s_,length_toList->v_,size_append->P_,getElem?_setIfInBounds_ne->T_,getElem?_append_right->X_,size_extract->aa_,getElem?_range->aj_,getElem?_map->am_,toList_map->aq_,ext'->aC_
open Classical renaming byContradiction->aB_
open Int renaming not_lt->aD_
open List renaming getElem?_eq_some_iff->a_,getElem?_eq_getElem->b_,mem_of_getElem?->c_,getElem?_map->e_,getElem?_append_left->h_,getElem?_append_right->i_,getElem?_take->l_,getElem?_set_ne->m_,eq_nil_of_length_eq_zero->n_,getElem?_set_self->t_,getElem?_drop->w_,length_nil->y_,getD->B_,getElem?_of_mem->E_,idxOf_lt_length_of_mem->F_,eq_of_mem_replicate->I_,all_eq_true->J_,getElem?_mapIdx->K_,length_mapIdx->M_,replicate->Q_,size_toArray->R_,length_cons->U_,mem_append->V_,mem_map->Y_,length_append->ab_,mem_or_eq_of_mem_set->ac_,getElem?_cons_zero->ad_,length_drop->ae_,getElem?_eq_none->ah_,getElem?_zipIdx->ak_,append_assoc->an_,ext_getElem?->ao_,getElem?_inj->ap_,length_take->ar_,mem_flatMap->as_,append_nil->au_,length_map->av_,mapM_cons->ay_,mem_range->az_,range->aA_
open Nat renaming mul_le_mul_right->g_,add_mul->k_,lt_of_lt_of_le->q_,one_mul->r_,le_refl->u_,zero_add->x_,pos_of_ne_zero->z_,lt_or_ge->G_,add_assoc->H_,le_trans->L_,eq_zero_or_pos->N_,le_mul_of_pos_right->O_,add_zero->S_,mul_comm->Z_,mod_eq_of_lt->af_,mul_add_mod->ag_,div_lt_iff_lt_mul->ai_,div_add_mod->aw_,mod_lt->aE_
open Option renaming map_eq_some_iff->f_,bind_eq_some_iff->o_,map_some->C_,getD_some->D_,bind_eq_bind->al_,pure_def->ax_
open Option.some renaming injEq->A_,inj->W_
namespace Go.Av
open Go Go.RowKit
inductive PV where
 |sc (v:Value)
 |list (sz:Nat) (xs:List PV)
 |agg (xs:List PV)
 |tup (xs:List PV)
 |pto (x:PV)
 |fn (f:Fn) (caps:List PV)
 |any
 deriving Inhabited
def PV.cells:PV->List PV
 | .agg xs=>xs
 |x=>[x]
def mb(sz:Nat):List PV->PV
 |[]=>.list 0 []
 |x::xs=>.list sz (x::xs)
inductive RelP(D:Nat->Prop)(w:World):Value->PV->Prop
 |sc (v:Value):RelP D w v (.sc v)
 |any (v:Value):RelP D w v .any
 |agg (vs:Array Value) (xs:List PV) (hs:vs.size=xs.length) (h:∀(i:Nat) (v:Value) (x:PV),vs[i]? =some v->xs[i]? =some x->RelP D w v x):RelP D w (.agg vs) (.agg xs)
 |tup (vs:Array Value) (xs:List PV) (hs:vs.size=xs.length) (h:∀(i:Nat) (v:Value) (x:PV),vs[i]? =some v->xs[i]? =some x->RelP D w v x):RelP D w (.tuple vs) (.tup xs)
 |nil (a:Option Addr) (cap:Nat):RelP D w (.slice a 0 cap) (.list 0 [])
 |list (b o cap sz:Nat) (x0:PV) (xs:List PV) (val:Nat->Nat->Value) (hcap:(x0::xs).length<=cap) (hD:D b) (hsz:∀x∈x0::xs,x.cells.length=sz)
  (hc:∀(i j:Nat) (x y:PV),(x0::xs)[i]? =some x->x.cells[j]? =some y->w.cell? ⟨b,o+i*sz+j,none⟩=some (val i j))
  (hr:∀(i j:Nat) (x y:PV),(x0::xs)[i]? =some x->x.cells[j]? =some y->RelP D w (val i j) y):
  RelP D w (.slice (some ⟨b,o,none⟩) (x0::xs).length cap) (.list sz (x0::xs))
 |pto (b o:Nat) (x:PV) (val:Nat->Value) (hD:D b) (hc:∀(j:Nat) (y:PV),x.cells[j]? =some y->w.cell? ⟨b,o+j,none⟩=some (val j))
  (hr:∀(j:Nat) (y:PV),x.cells[j]? =some y->RelP D w (val j) y):RelP D w (.pointer (some ⟨b,o,none⟩)) (.pto x)
 |fn (f:Fn) (vs:Array Value) (xs:List PV) (hs:vs.size=xs.length) (h:∀(i:Nat) (v:Value) (x:PV),vs[i]? =some v->xs[i]? =some x->RelP D w v x):RelP D w (.func f #[] vs) (.fn f xs)
theorem Ho{w w':World}{a:Addr}(h:w'.heap[a.block]? =w.heap[a.block]?):w'.cell? a=w.cell? a:=World.cell?_of_block h
theorem RelP.mono{D D':Nat->Prop}{w w':World}(hD:∀b,D b->D' b)(I:∀b,D b->w'.heap[b]? =w.heap[b]?){v:Value}{p:PV}(h:RelP D w v p):RelP D' w' v p:=by induction h with|sc v=>exact .sc v|any v=>exact .any v|agg vs xs hs _ z=>exact .agg vs xs hs z|tup vs xs hs _ z=>exact .tup vs xs hs z|nil a cap=>exact .nil a cap|list b o cap sz x0 xs val hcap E hsz hc _ z=>exact .list b o cap sz x0 xs val hcap (hD b E) hsz (λi j x y J H=>by rw[Ho (I b E)];exact hc i j x y J H) z|pto b o x val E hc _ z=>exact .pto b o x val (hD b E) (λj y H=>by rw[Ho (I b E)];exact hc j y H) z|fn f vs xs hs _ z=>exact .fn f vs xs hs z
inductive PV.Flat:PV->Prop
 |sc (v:Value):Flat (.sc v)
 |any:Flat .any
 |agg (xs:List PV) (h:∀(i:Nat) (x:PV),xs[i]? =some x->Flat x):Flat (.agg xs)
 |tup (xs:List PV) (h:∀(i:Nat) (x:PV),xs[i]? =some x->Flat x):Flat (.tup xs)
theorem RelP.flat{D D':Nat->Prop}{w w':World}{v:Value}{p:PV}(h:RelP D w v p)(z:p.Flat):RelP D' w' v p:=by
 induction h with
 |sc v=>exact .sc v|any v=>exact .any v|agg vs xs hs _ J=>cases z with|agg _ H=>exact .agg vs xs hs λi v x I E=>J i v x I E (H i x E)
 |tup vs xs hs _ J=>cases z with|tup _ H=>exact .tup vs xs hs λi v x I E=>J i v x I E (H i x E)
 |nil a cap=>exact .nil a cap|list=>cases z|pto=>cases z|fn=>cases z
theorem pm{D:Nat->Prop}{w:World}{v:Value}{sz:Nat}{xs:List PV}(h:RelP D w v (mb sz xs)): ∃a cap,v= .slice a xs.length cap/\xs.length<=cap/\(0<xs.length->∃b o,a=some ⟨b,o,none⟩/\D b/\(∀x∈xs,x.cells.length=sz)/\∀(i j:Nat) (x y:PV),xs[i]? =some x->x.cells[j]? =some y->∃u,w.cell? ⟨b,o+i*sz+j,none⟩=some u/\RelP D w u y):=by
 cases xs with
 |nil=>cases h with|nil a cap=>exact⟨a,cap,rfl,Nat.zero_le _,λh=>absurd h (by simp)⟩
 |cons x0 xs=>cases h with|list b o cap _ _ _ val hcap e hsz hc hr=>exact⟨_,cap,rfl,hcap,λ_=>⟨b,o,rfl,e,hsz,λi j x y c d=>⟨val i j,hc i j x y c d,hr i j x y c d⟩⟩⟩
theorem f7{D:Nat->Prop}{w:World}{sz:Nat}{xs:List PV}{a:Option Addr}{cap:Nat}(hcap:xs.length<=cap) (h:0<xs.length->∃b o,a=some ⟨b,o,none⟩/\D b/\(∀x∈xs,x.cells.length=sz)/\∀(i j:Nat) (x y:PV),xs[i]? =some x->x.cells[j]? =some y->∃u,w.cell? ⟨b,o+i*sz+j,none⟩=some u/\RelP D w u y): RelP D w (.slice a xs.length cap) (mb sz xs):=by
 cases xs with
 |nil=>exact .nil a cap|cons x0 xs=>
  obtain⟨b,o,rfl,l,hsz,hc⟩:=h (by simp);have key:∀i j,∃u,∀x y,(x0::xs)[i]? =some x->x.cells[j]? =some y->w.cell? ⟨b,o+i*sz+j,none⟩=some u/\RelP D w u y:=by
   intro i j;by_cases c:∃x y,(x0::xs)[i]? =some x/\x.cells[j]? =some y;·obtain⟨x,y,c,d⟩:=c;obtain⟨u,g,k⟩:=hc i j x y c d;refine⟨u,λn p e f=>?_⟩;rw[c]at e;cases e;rw[d]at f;cases f;exact⟨g,k⟩
   ·exact⟨undef,λx y g k=>absurd ⟨x,y,g,k⟩ c⟩
  exact .list b o cap sz x0 xs (λi j=>(key i j).choose) hcap l hsz (λi j x y c d=>((key i j).choose_spec x y c d).1) (λi j x y c d=>((key i j).choose_spec x y c d).2)
theorem Ax{D:Nat->Prop}{w:World}{v:Value}{x:PV}(h:RelP D w v (.pto x)): ∃b o,v= .pointer (some ⟨b,o,none⟩)/\D b/\∀(j:Nat) (y:PV),x.cells[j]? =some y->∃u,w.cell? ⟨b,o+j,none⟩=some u/\RelP D w u y:=by cases h with|pto b o _ val c hc hr=>exact⟨b,o,rfl,c,λj y a=>⟨val j,hc j y a,hr j y a⟩⟩
theorem qw{D:Nat->Prop}{w:World}{b o:Nat}{x:PV}(f:D b) (h:∀(j:Nat) (y:PV),x.cells[j]? =some y->∃u,w.cell? ⟨b,o+j,none⟩=some u/\RelP D w u y):RelP D w (.pointer (some ⟨b,o,none⟩)) (.pto x):=by
 have key:∀j,∃u,∀y,x.cells[j]? =some y->w.cell? ⟨b,o+j,none⟩=some u/\RelP D w u y:=by intro j;cases g:x.cells[j]? with|none=>exact⟨undef,λy h=>by cases h⟩|some y=>obtain⟨u,d,e⟩:=h j y g;exact⟨u,λk c=>by cases c;exact⟨d,e⟩⟩
 exact .pto b o x (λj=>(key j).choose) f (λj y a=>((key j).choose_spec y a).1) (λj y a=>((key j).choose_spec y a).2)
inductive BV where
 |pv (p:PV)
 |nils
 |sl (id:Nat)
 |ptr (id off:Nat)
 |elt (id i off:Nat)
 |clo (f:Fn) (ids:List Nat)
 |mp (id:Nat)
 |full (p:PV)
 |ifc
 deriving Inhabited
inductive AV where
 |b (x:BV)
 |agg (xs:List BV)
 |tup (xs:List BV)
 deriving Inhabited
abbrev AV.p(x:PV):AV:=.b (.pv x)
abbrev AV.v(x:Value):AV:=.b (.pv (.sc x))
def AV.cells:AV->List BV
 | .agg xs=>xs
 | .b (.pv p)=>p.cells.map .pv
 | .b x=>[x]
 | .tup _=>[.pv .any]
inductive K where
 |e
 |f (r:K)
 |s (t:TypeId) (sz:Nat) (sub r:K)
 deriving Inhabited,DecidableEq
def K.at:K->Nat->Option (TypeId×Nat×K)
 | .e,_=>none
 | .f _,0=>none
 | .s t sz sub _,0=>some (t,sz,sub)
 | .f r,n+1=>r.at n
 | .s _ _ _ r,n+1=>r.at n
def K.allF:K->Bool
 | .e=>true
 | .f r=>r.allF
 | .s _ _ _ _=>false
def K.flatB(k:K)(off n:Nat):Bool:=(aA_ n).all λj=>(k.at (off+j)).isNone
inductive AObj where
 |gone
 |free
 |box (t:TypeId) (cs:List BV)
 |vec (e:TypeId) (sz:Nat) (xs:List PV)
 |map (k e:TypeId) (kvs:List (PV×PV))
 |tree (e:TypeId) (sz:Nat) (k:K) (xs:List PV) (hole:Option (Nat×Nat×BV))
 deriving Inhabited
structure St where
 fr:List (Nat×AV)
 hp:List AObj
def look:List (Nat×AV)->Nat->Option AV
 |[],_=>none
 |(k,a)::l,t=>if t=k then some a else look l t
def St.put(st:St)(d:Nat)(a:AV):St:={st with fr:=(d,a)::st.fr}
inductive SX where
 |tm (k:Nat)
 |c (v:Value)
 |g (n:Nat)
 |f (n:Nat)
 deriving Inhabited
def SX.of:Operand->SX
 | .tmp k=>.tm k
 | .const v=>.c v
 | .global n=>.g n
 | .func n=>.f n
inductive SOp where
 |mv (x:SX)
 |pick (c a b:SX)
 |bin (op:BinOp) (x y:SX)
 |eqB (neg:Bool) (x y:SX)
 |un (op:UnOp) (x:SX)
 |len (str:Bool) (x:SX)
 |idxS (x i:SX)
 |idxV (n sz:Nat) (ag:Bool) (x i:SX)
 |idxA (sz:Nat) (x i:SX)
 |idxP (n sz:Nat) (ag:Bool) (x i:SX)
 |fldA (off sz:Nat) (ag:Bool) (x:SX)
 |fld (off sz:Nat) (ag:Bool) (x:SX)
 |load (sz:Nat) (ag:Bool) (x:SX)
 |store (sz:Nat) (x v:SX)
 |alloc (t:TypeId) (zero:List Value)
 |box (t:TypeId) (x:SX)
 |boxD (t:TypeId) (x:SX)
 |build (zero:List Value) (parts:List (Nat×Nat×SX))
 |bslice (own:Bool) (e:TypeId) (sz len:Nat) (parts:List SX)
 |mslice (e:TypeId) (sz bytes:Nat) (zero:Value) (l c:SX)
 |append (e:TypeId) (sz bytes:Nat) (x y:SX)
 |cvtI (k:IntKind) (x:SX)
 |slc (sz:Nat) (x:SX) (lo hi mx:Option SX)
 |slcS (x:SX) (lo hi:Option SX)
 |ext (x:SX) (i:Nat)
 |nilc (x:SX)
 |call (bor:Bool) (f:FuncId) (args:List SX)
 |callA (bor:Bool) (B:List Nat) (f:FuncId) (args:List SX)
 |callv (bor:Bool) (B:List Nat) (x:SX) (args:List SX)
 |lenM (k e:TypeId) (x:SX)
 |b2s (x:SX)
 |mkfn (f:FuncId) (caps:List SX)
 |mkmap (k e:TypeId)
 |lookup (k e:TypeId) (ok:Bool) (zero:Value) (m x:SX)
 |mapset (k e:TypeId) (m x v:SX)
 |eqT (neg:Bool) (t:TypeId) (x y:SX)
 |copy (e:TypeId) (sz:Nat) (x y:SX)
 |mnmx (mx:Bool) (k:IntKind) (x:SX) (ys:List SX)
 |panic (x:SX)
 |iface (t:TypeId) (x:SX)
 |appD (e:TypeId) (sz bytes:Nat) (x y:SX)
 |bsliceN (e:TypeId) (sz len:Nat) (parts:List SX)
 |msliceT (k:K) (e:TypeId) (sz bytes:Nat) (zero:Value) (l c:SX)
 |appT (k:K) (e:TypeId) (sz bytes:Nat) (x y:SX)
 |callp (bor:Bool) (x:SX) (args:List SX)
 |atq(s:Nat) (op:SOp)
 deriving Inhabited
structure SOper where
 dst:Option Nat
 op:SOp
 gd:Option (Nat×Bool)
 deriving Inhabited
inductive SCode where
 |skip
 |region (ops:List SOper)
 |draw (ops:List SOper) (after:List (List Nat))
 |seq (a b:SCode)
 |cond (c:SX) (thn els:SCode)
 |block (id:Nat) (body:SCode)
 |loop (body:SCode)
 |exit (id:Nat)
 |scope (body:SCode)
 |ret
 deriving Inhabited
def bn:Value->BV
 | .slice none 0 0=>.nils
 |v=>.pv (.sc v)
def fM:Value->AV
 | .agg cs=>.agg (cs.toList.map bn)
 |v=>.b (bn v)
def St.get(st:St):SX->Option AV
 | .tm k=>look st.fr k
 | .c v=>some (fM v)
 | .g n=>some (.v (.pointer (some ⟨n,0,none⟩)))
 | .f n=>some (.p (.fn (.func n) []))
def aM{α:Type}(o:Option α)(K:α->Prop):Prop:=∃a,o=some a/\K a
def Be(a:AV)(K:Value->Prop):Prop:=∃v,a= .v v/\K v
def isInt(v:Value)(K:IntKind->Int->Prop):Prop:=∃k n,v= .int k n/\K k n
def isBool(v:Value)(K:Bool->Prop):Prop:=∃b,v= .bool b/\K b
def Lk(v:Value)(K:ByteArray->Prop):Prop:=∃s,v= .string s/\K s
def nC(hp:List AObj)(sz:Nat)(a:AV)(K:List PV->Prop):Prop:=
 (a= .b .nils/\K [])\/(∃L,a= .p (mb sz L)/\K L)\/(∃id e L,a= .b (.sl id)/\hp[id]? =some (.vec e sz L)/\K L)\/(∃L,a= .b (.full (mb sz L))/\K L)
theorem Oh{sz:Nat}{L a:List PV}(h:mb sz L=mb sz a):L=a:=by cases L<;>cases a<;>simp_all[mb]
def isLen(hp:List AObj)(a:AV)(K:Nat->Prop):Prop:=
 (a= .b .nils/\K 0)\/(∃sz L,a= .p (mb sz L)/\K L.length)\/(∃id e sz L,a= .b (.sl id)/\hp[id]? =some (.vec e sz L)/\K L.length)\/(∃sz L,a= .b (.full (mb sz L))/\K L.length)\/
  (∃id e sz k L hole,a= .b (.sl id)/\hp[id]? =some (.tree e sz k L hole)/\K L.length)
def isMap(hp:List AObj)(k e:TypeId)(a:AV)(K:Nat->List (PV×PV)->Prop):Prop:=∃id kvs,a= .b (.mp id)/\hp[id]? =some (.map k e kvs)/\K id kvs
def oN(k:IntKind)(op:BinOp)(x y:Int):Int:=
 match op with
 | .and=>k.wrap (BitVec.ofInt k.bits x&&&BitVec.ofInt k.bits y).toNat
 | .or=>k.wrap (BitVec.ofInt k.bits x|||BitVec.ofInt k.bits y).toNat
 | .xor=>k.wrap (BitVec.ofInt k.bits x ^^^ BitVec.ofInt k.bits y).toNat
 |_=>k.wrap (BitVec.ofInt k.bits x&&& ~~~ BitVec.ofInt k.bits y).toNat
def IG(op:BinOp)(x y:Value)(K:Value->Prop):Prop:=
 match x,y with
 | .int k a,.int c b=>
  match op with
  | .add=>k=c/\K (.int k (k.wrap (a+b)))
  | .sub=>k=c/\K (.int k (k.wrap (a - b)))
  | .mul=>k=c/\K (.int k (k.wrap (a*b)))
  | .quo=>k=c/\b≠0/\K (.int k (k.wrap (a.tdiv b)))
  | .rem=>k=c/\b≠0/\K (.int k (a.tmod b))
  | .and=>k=c/\K (.int k (oN k .and a b))
  | .or=>k=c/\K (.int k (oN k .or a b))
  | .xor=>k=c/\K (.int k (oN k .xor a b))
  | .andNot=>k=c/\K (.int k (oN k .andNot a b))
  | .shl=>0<=b/\K (.int k (k.wrap (a*2^(min b.toNat k.bits))))
  | .shr=>0<=b/\K (.int k (a.fdiv (2^(min b.toNat k.bits))))
  | .eql=>k=c/\K (.bool (a==b))
  | .neq=>k=c/\K (.bool (a != b))
  | .lss=>k=c/\K (.bool (decide (a<b)))
  | .leq=>k=c/\K (.bool (decide (a<=b)))
  | .gtr=>k=c/\K (.bool (decide (a>b)))
  | .geq=>k=c/\K (.bool (decide (a>=b)))
 | .string a,.string b=>
  match op with
  | .add=>a.size+b.size<=9223372036854775807/\K (.string (a++b))
  | .eql=>K (.bool (a.toList==b.toList))
  | .neq=>K (.bool !(a.toList==b.toList))
  | .lss=>K (.bool (Op.bytesLess a.toList b.toList))
  | .leq=>K (.bool (Op.bytesLess a.toList b.toList||a.toList==b.toList))
  | .gtr=>K (.bool !(Op.bytesLess a.toList b.toList||a.toList==b.toList))
  | .geq=>K (.bool !(Op.bytesLess a.toList b.toList))
  |_=>False
 |_,_=>False
def Vl(op:UnOp)(x:Value)(K:Value->Prop):Prop:=
 match op,x with
 | .not,.bool b=>K (.bool !b)
 | .neg,.int k n=>K (.int k (k.wrap (0 - n)))
 |_,_=>False
def PV.isAgg:PV->Bool
 | .agg _=>true
 |_=>false
def PV.sub(x:PV)(off sz:Nat)(ag:Bool):PV:=match ag with
 |true=>.agg ((x.cells.drop off).take sz)
 |false=>x.cells.getD off .any
def BV.toPV:BV->Option PV
 | .pv p=>some p
 | .nils=>some (.list 0 [])
 | .full p=>some p
 |_=>none
def AV.toPV:AV->Option PV
 | .b x=>x.toPV
 | .agg xs=>(xs.mapM BV.toPV).map .agg
 | .tup xs=>(xs.mapM BV.toPV).map .tup
def nilP:PV:=.sc (.slice none 0 0)
def BV.toPVn:BV->Option PV
 | .nils=>some nilP
 |x=>x.toPV
def AV.toPVn:AV->Option PV
 | .b x=>x.toPVn
 | .agg xs=>(xs.mapM BV.toPVn).map .agg
 | .tup _=>none
def K.nilsB(k:K)(cs:List PV):Bool:=(aA_ cs.length).all λj=>match k.at j with
 |some _=>(match cs.getD j .any with| .sc (.slice none 0 0)=>true|_=>false)
 |none=>true
def K.unnil(k:K)(p:PV):PV:=match p with
 | .agg cs=>.agg (cs.mapIdx λj x=>if(k.at j).isSome then .list 0 []else x)
 |x=>if(k.at 0).isSome then .list 0 []else x
def PV.cellOk:PV->Bool
 | .sc v=>v.oneCell'
 | .list .. | .pto _| .fn .. =>true
 |_=>false
def PV.ok(p:PV):Bool:=p.cells.all PV.cellOk
def BV.cellOk:BV->Bool
 | .pv p=>p.cellOk
 |_=>true
def AV.ok(x:AV):Bool:=x.cells.all BV.cellOk
def splice{α:Type}(xs:List α)(off:Nat)(ys:List α):List α:=xs.take off++ys++xs.drop (off+ys.length)
def mR(ag:Bool)(cs:List BV):AV:=match ag with
 |true=>.agg cs
 |false=>.b (cs.headD (.pv .any))
def Cj(hp:List AObj)(sz:Nat)(ag:Bool)(a:AV)(K:AV->Prop):Prop:=
 match a with
 | .b (.pv (.pto x))=>x.isAgg=ag/\x.cells.length=sz/\K (.p x)
 | .b (.ptr id off)=>aM hp[id]? λo=>∃t cs,o= .box t cs/\off+sz<=cs.length/\(ag=false->sz=1)/\(K (mR ag ((cs.drop off).take sz))\/aM (mR ag ((cs.drop off).take sz)).toPV λp=>K (.p p))
 | .b (.elt id i off)=>aM hp[id]? λo=>(∃e s xs,o= .vec e s xs/\i<xs.length/\off+sz<=s/\(ag=false->sz=1)/\
  ((off=0/\sz=s/\(xs.getD i .any).isAgg=ag/\K (.p (xs.getD i .any)))\/(sz≠s/\K (.p ((xs.getD i .any).sub off sz ag)))))\/
  (∃e s k xs hole,o= .tree e s k xs hole/\i<xs.length/\off+sz<=s/\(ag=false->sz=1)/\
   ((k.flatB off sz=true/\K (.p ((xs.getD i .any).sub off sz ag)))\/(∃b,hole=some (i,off,b)/\sz=1/\ag=false/\K (.b b))))
 |_=>False
def BS(hp:List AObj)(sz:Nat)(a v:AV)(K:List AObj->Prop):Prop:=
 match a with
 | .b (.ptr id off)=>aM hp[id]? λo=>∃t cs,o= .box t cs/\v.cells.length=sz/\off+sz<=cs.length/\v.ok=true/\K (hp.set id (.box t (splice cs off v.cells)))
 | .b (.elt id i off)=>aM hp[id]? λo=>(∃e s xs,o= .vec e s xs/\i<xs.length/\aM v.toPV λp=>p.cells.length=sz/\p.ok=true/\
  ((off=0/\sz=s/\K (hp.set id (.vec e s (xs.set i p))))\/(sz≠s/\off+sz<=s/\K (hp.set id (.vec e s (xs.set i (.agg (splice (xs.getD i .any).cells off p.cells))))))))\/
  (∃e s k xs hole,o= .tree e s k xs hole/\i<xs.length/\off+sz<=s/\
   ((k.flatB off sz=true/\(xs.getD i .any).isAgg=true/\aM v.toPV λp=>p.cells.length=sz/\p.ok=true/\K (hp.set id (.tree e s k (xs.set i (.agg (splice (xs.getD i .any).cells off p.cells))) hole)))\/
    (∃c b,hole=some (i,off,c)/\sz=1/\v= .b b/\b.cellOk=true/\K (hp.set id (.tree e s k xs (some (i,off,b)))))))
 |_=>False
def BV.kill(id:Nat):BV->BV
 | .sl k=>if k=id then .pv .any else .sl k
 | .elt k i o=>if k=id then .pv .any else .elt k i o
 |x=>x
def AV.kill(id:Nat):AV->AV
 | .b x=>.b (x.kill id)
 | .agg xs=>.agg (xs.map (BV.kill id))
 | .tup xs=>.tup (xs.map (BV.kill id))
def Jo(g:BV->BV):Option (Nat×Nat×BV)->Option (Nat×Nat×BV)
 |some (i,j,b)=>some (i,j,g b)
 |none=>none
def AObj.kill(id:Nat):AObj->AObj
 | .box t cs=>.box t (cs.map (BV.kill id))
 | .tree e sz k xs h=>.tree e sz k xs (Jo (BV.kill id) h)
 |o=>o
def St.kill(st:St)(id:Nat):St:={st with fr:=st.fr.map λx=>(x.1,x.2.kill id),hp:=st.hp.map (AObj.kill id)}
def St.moved(st:St)(id:Nat)(o:AObj):St:=⟨st.fr.map λx=>(x.1,x.2.kill id),(st.hp.map (AObj.kill id)).set id o⟩
def J5(hp:List AObj)(id:Nat):Option PV:=match hp[id]? with
 |some (.vec _ sz xs)=>some (mb sz xs)
 |some (.tree _ sz _ xs none)=>some (mb sz xs)
 |_=>none
def za(hp:List AObj)(bor:Bool):BV->Option PV
 | .sl id=>if bor then J5 hp id else none
 |x=>x.toPV
def kF(hp:List AObj)(bor:Bool):AV->Option PV
 | .b x=>za hp bor x
 | .agg xs=>(xs.mapM (za hp bor)).map .agg
 |a=>a.toPV
def s8(hp:List AObj)(bor:Bool)(B:List Nat):AV->Option AV
 | .b (.sl id)=>if B.contains id then some (.b (.sl id))else(kF hp bor (.b (.sl id))).map .p
 | .agg xs=>if(xs.mapM BV.toPV).isSome then(AV.agg xs).toPV.map .p else some (.agg xs)
 | .b (.full p)=>some (.p p)
 | .b .nils=>some (.p (.list 0 []))
 |a=>some a
def PV.plain:PV->Bool
 | .sc (.int _ _)=>true
 | .sc (.bool _)=>true
 | .sc (.string _)=>true
 | .agg xs=>xs.all λx=>match x with
  | .sc (.int _ _)=>true
  | .sc (.bool _)=>true
  | .sc (.string _)=>true
  |_=>false
 |_=>false
def bnd(st:St)(x:Option SX)(b:Nat)(K:Nat->Prop):Prop:=match x with
 |none=>K b
 |some x=>aM (st.get x) λa=>Be a λv=>isInt v λ_ n=>0<=n/\K n.toNat
def bytesOf:List PV->Option (List Int)
 |[]=>some []
 | .sc (.int .u8 n)::l=>(bytesOf l).map (n::·)
 |_=>none
def St.putO(st:St)(d:Option Nat)(a:AV):St:=match d with
 |some d=>st.put d a
 |none=>st
def yv:Value->Option Bool
 | .bool b=>some b
 |_=>none
def BV.ren(ρ:Nat->Nat):BV->BV
 | .sl id=>.sl (ρ id)
 | .ptr id off=>.ptr (ρ id) off
 | .elt id i off=>.elt (ρ id) i off
 | .clo f ids=>.clo f (ids.map ρ)
 | .mp id=>.mp (ρ id)
 |x=>x
def AV.ren(ρ:Nat->Nat):AV->AV
 | .b x=>.b (x.ren ρ)
 | .agg xs=>.agg (xs.map (BV.ren ρ))
 | .tup xs=>.tup (xs.map (BV.ren ρ))
def AObj.ren(ρ:Nat->Nat):AObj->AObj
 | .box t cs=>.box t (cs.map (BV.ren ρ))
 | .tree e sz k xs h=>.tree e sz k xs (Jo (BV.ren ρ) h)
 |o=>o
def BV.ids:BV->List Nat
 | .sl id=>[id]
 | .ptr id _=>[id]
 | .elt id _ _=>[id]
 | .clo _ ids=>ids
 | .mp id=>[id]
 |_=>[]
def AV.ids:AV->List Nat
 | .b x=>x.ids
 | .agg xs=>xs.flatMap BV.ids
 | .tup xs=>xs.flatMap BV.ids
def AObj.ids:AObj->List Nat
 | .box _ cs=>cs.flatMap BV.ids
 | .tree _ _ _ _ (some (_,_,b))=>b.ids
 |_=>[]
def BV.killB(B:List Nat):BV->BV
 | .sl k=>if B.contains k then .pv .any else .sl k
 | .elt k i o=>if B.contains k then .pv .any else .elt k i o
 |x=>x
def AV.killB(B:List Nat):AV->AV
 | .b x=>.b (x.killB B)
 | .agg xs=>.agg (xs.map (BV.killB B))
 | .tup xs=>.tup (xs.map (BV.killB B))
def AObj.killB(B:List Nat):AObj->AObj
 | .box t cs=>.box t (cs.map (BV.killB B))
 | .tree e sz k xs h=>.tree e sz k xs (Jo (BV.killB B) h)
 |o=>o
def gN(B:List Nat)(n k:Nat):Nat:=if k<B.length then B.getD k 0 else n+(k - B.length)
def uk(B:List Nat)(hp os:List AObj):List AObj:=
 (hp.mapIdx λi o=>if B.contains i then((os.getD (B.idxOf i) .gone).ren (gN B hp.length))else o.killB B)++(os.drop B.length).map (AObj.ren (gN B hp.length))
def St.back(st:St)(B:List Nat)(os:List AObj):St:=⟨st.fr.map λx=>(x.1,x.2.killB B),uk B st.hp os⟩
structure Rec where
 i:Nat
 d:Option Nat
 rd:List Nat
 s:Option Nat
 F:List Nat
 G:List Nat
inductive Loc where
 |no
 |blk (g:Nat)
 |nil (a:Option Addr)
 |hdr (g n cap sz:Nat) (O:Nat->Prop)
 |mp (g:Nat)
def Loc.has:Loc->Nat->Prop
 | .blk g,b=>b=g
 | .hdr g _ _ _ O,b=>b=g\/O b
 | .mp g,b=>b=g
 |_,_=>False
def none':Nat->Prop:=λ_=>False
def Loc.fixed:Loc->Bool
 | .blk _=>true
 | .mp _=>true
 |_=>false
def Loc.head(l:Loc)(v:Value):Prop:=match l with
 | .nil a=>v= .slice a 0 0
 | .hdr g n cap _ _=>v= .slice (some ⟨g,0,none⟩) n cap
 |_=>False
def RelB(θ:List Loc)(D:Nat->Prop)(w:World)(v:Value):BV->Prop
 | .pv p=>RelP D w v p
 | .nils=>v= .slice none 0 0
 | .sl id=>∃l,θ[id]? =some l/\l.head v
 | .ptr id off=>∃g,θ[id]? =some (.blk g)/\v= .pointer (some ⟨g,off,none⟩)
 | .elt id i off=>∃g n cap sz O,θ[id]? =some (.hdr g n cap sz O)/\v= .pointer (some ⟨g,i*sz+off,none⟩)
 | .clo f ids=>∃b:List Nat,b.length=ids.length/\(∀(k id g:Nat),ids[k]? =some id->b[k]? =some g->θ[id]? =some (.blk g))/\v= .func f #[] (b.map λg=>Value.pointer (some ⟨g,0,none⟩)).toArray
 | .mp id=>∃g,θ[id]? =some (.mp g)/\v= .map (some g)
 | .full p=>RelP D w v p/\∃a n,v= .slice a n n
 | .ifc=>∃t u,v= .iface t u
def RelA(θ:List Loc)(D:Nat->Prop)(w:World)(v:Value):AV->Prop
 | .b x=>RelB θ D w v x
 | .agg xs=>∃vs:Array Value,v= .agg vs/\vs.size=xs.length/\∀(i:Nat) (u:Value) (x:BV),vs[i]? =some u->xs[i]? =some x->RelB θ D w u x
 | .tup xs=>∃vs:Array Value,v= .tuple vs/\vs.size=xs.length/\∀(i:Nat) (u:Value) (x:BV),vs[i]? =some u->xs[i]? =some x->RelB θ D w u x
inductive RelT(D:Nat->Prop)(w:World):Option (TypeId×Nat×K)->(Nat->Prop)->Value->PV->Prop
 |flat (O:Nat->Prop) (v:Value) (p:PV) (h:RelP D w v p):RelT D w none O v p
 |nil (q:TypeId×Nat×K) (O:Nat->Prop) (a:Option Addr):RelT D w (some q) O (.slice a 0 0) (.list 0 [])
 |hdr (e:TypeId) (sz:Nat) (k:K) (O:Nat->Prop) (g cap:Nat) (xs:List PV) (p:PV) (cs:Array Value) (val:Nat->Nat->Value) (Os:Nat->Nat->Nat->Prop)
  (hp:p=mb sz xs) (hcap:xs.length<=cap) (hmax:cap<=maxLen) (hsz:∀x∈xs,x.cells.length=sz) (hg:w.heap[g]? =some (.cells cs e (0,0))) (hcs:cs.size=cap*sz)
  (hO:O g) (hOs:∀i j b,Os i j b->O b/\b≠g) (hdj:∀i j i' j' b,Os i j b->Os i' j' b->i=i'/\j=j')
  (hc:∀(i j:Nat) (x y:PV),xs[i]? =some x->x.cells[j]? =some y->cs[i*sz+j]? =some (val i j))
  (hr:∀(i j:Nat) (x y:PV),xs[i]? =some x->x.cells[j]? =some y->RelT D w (k.at j) (Os i j) (val i j) y):
  RelT D w (some (e,sz,k)) O (.slice (some ⟨g,0,none⟩) xs.length cap) p
theorem RelT.mono{D D':Nat->Prop}{w w':World}(hD:∀b,D b->D' b)(H:∀b,D b->w'.heap[b]? =w.heap[b]?){q:Option (TypeId×Nat×K)}{O:Nat->Prop}{v:Value}{p:PV}(hO:∀b,O b->w'.heap[b]? =w.heap[b]?)(h:RelT D w q O v p):RelT D' w' q O v p:=by induction h with|flat O v p h=>exact .flat O v p (h.mono hD H)|nil q O a=>exact .nil q O a|hdr e sz k O g cap xs p cs val Os hp hcap hmax hsz hg hcs z hOs hdj hc _ N=>exact .hdr e sz k O g cap xs p cs val Os hp hcap hmax hsz ((hO g z).trans hg) hcs z hOs hdj hc λi j x y I J=>N i j x y I J λb E=>hO b (hOs i j b E).1
theorem RelT.wide{D:Nat->Prop}{w:World}{q:Option (TypeId×Nat×K)}{O z:Nat->Prop}{v:Value}{p:PV}(hO:∀b,O b->z b)(h:RelT D w q O v p):RelT D w q z v p:=by cases h with|flat O v p h=>exact .flat z v p h|nil q O a=>exact .nil q z a|hdr e sz k O g cap xs p cs val Os hp hcap hmax hsz hg hcs E hOs hdj hc hr=>exact .hdr e sz k z g cap xs p cs val Os hp hcap hmax hsz hg hcs (hO g E) (λi j b H=>⟨hO b (hOs i j b H).1,(hOs i j b H).2⟩) hdj hc hr
theorem RelT.toP{D D':Nat->Prop}{w:World}{q:Option (TypeId×Nat×K)}{O:Nat->Prop}{v:Value}{p:PV}(hD:∀b,D b->D' b)(hO:∀b,O b->D' b)(h:RelT D w q O v p):RelP D' w v p:=by induction h with|flat O v p h=>exact h.mono hD λ_ _=>rfl|nil q O a=>exact .nil a 0|hdr e sz k O g cap xs p cs val Os hp hcap hmax hsz hg hcs z hOs hdj hc _ J=>subst hp;refine f7 hcap λ_=>⟨g,0,rfl,hO g z,hsz,λi j x y E H=>⟨val i j,?_,J i j x y E H λb I=>hO b (hOs i j b I).1⟩⟩;rw[x_,cell_of_row w g _ cs e (0,0) hg];exact hc i j x y E H
def cJ(h:Option (Nat×Nat×BV))(i j:Nat):Option BV:=match h with
 |some (a,b,x)=>if a=i/\b=j then some x else none
 |none=>none
def RelO(θ:List Loc)(D:Nat->Prop)(w:World):Loc->AObj->Prop
 | .blk g,.box t cs=>∃c:Array Value,w.heap[g]? =some (.cells c t (0,0))/\c.size=cs.length/\∀(i:Nat) (u:Value) (x:BV),c[i]? =some u->cs[i]? =some x->RelB θ D w u x
 | .nil _,.vec _ _ xs=>xs=[]
 | .nil _,.tree _ _ _ xs h=>xs=[]/\h=none
 | .hdr g n cap s O,.tree e sz k xs hole=>s=sz/\n=xs.length/\n<=cap/\cap<=maxLen/\(∀x∈xs,x.cells.length=sz)/\∃(c:Array Value) (Os:Nat->Nat->Nat->Prop),w.heap[g]? =some (.cells c e (0,0))/\c.size=cap*sz/\
  (∀i j b,Os i j b->O b/\b≠g)/\(∀i j i' p b,Os i j b->Os i' p b->i=i'/\j=p)/\(∀i j b,hole=some (i,j,b)->i<xs.length/\(k.at j).isSome=true)/\
  ∀(i j:Nat) (x y:PV),xs[i]? =some x->x.cells[j]? =some y->∃u,c[i*sz+j]? =some u/\(match cJ hole i j with|some b=>RelB θ D w u b|none=>RelT D w (k.at j) (Os i j) u y)
 | .hdr g n cap s _,.vec e sz xs=>s=sz/\n=xs.length/\n<=cap/\cap<=maxLen/\(∀x∈xs,x.cells.length=sz)/\∃c:Array Value,w.heap[g]? =some (.cells c e (0,0))/\c.size=cap*sz/\
  ∀(i j:Nat) (x y:PV),xs[i]? =some x->x.cells[j]? =some y->∃u,c[i*sz+j]? =some u/\RelP D w u y
 | .mp g,.map _ _ kvs=>∃(f:Array MapEntry) (a:Nat),w.heap[g]? =some (.map f a)/\f.size=kvs.length/\∀(i:Nat) (d:MapEntry) (l:PV×PV),f[i]? =some d->kvs[i]? =some l->RelP D w d.key l.1/\RelP D w d.val l.2
 | .no,.free=>True
 |_,.gone=>True
 |_,_=>False
structure Ok(θ:List Loc)(D:Nat->Prop)(hp:List AObj)(w:World):Prop where
 len:θ.length=hp.length
 dlt:∀b,D b->b<w.heap.size
 inj:∀(i j:Nat) (li lj:Loc) (g:Nat),θ[i]? =some li->θ[j]? =some lj->li.has g->lj.has g->i=j
 olt:∀(i:Nat) (l:Loc) (g:Nat),θ[i]? =some l->l.has g->g<w.heap.size/\¬D g
 objs:∀(i:Nat) (l:Loc) (o:AObj),θ[i]? =some l->hp[i]? =some o->RelO θ D w l o
structure Keep(O:Nat->Prop)(w w':World):Prop where
 os:w'.os=w.os
 tape:w'.tape=w.tape
 output:w'.output=w.output
 size:w.heap.size<=w'.heap.size
 block:∀k,k<w.heap.size->¬O k->w'.heap[k]? =w.heap[k]?
theorem Keep.refl(O:Nat->Prop)(w:World):Keep O w w:=⟨rfl,rfl,rfl,u_ _,λ_ _ _=>rfl⟩
theorem Keep.trans{O:Nat->Prop}{a b c:World}(h:Keep O a b)(k:Keep O b c):Keep O a c:=⟨k.os.trans h.os,k.tape.trans h.tape,k.output.trans h.output,L_ h.size k.size,λi z E=>(k.block i (q_ z h.size) E).trans (h.block i z E)⟩
theorem Keep.of_below{O:Nat->Prop}{w w':World}(h:Below w.heap.size w w'):Keep O w w':=⟨h.os,h.tape,h.output,h.size,λk z _=>h.block k z⟩
theorem Keep.below{w w':World}(h:Keep (λ_=>False) w w'):Below w.heap.size w w':=⟨h.os,h.tape,h.output,h.size,λk z=>h.block k z id⟩
def GW(D:Nat->Prop)(w:World):Prop:=∀w',Keep (λb=>¬D b) w w'->GT w'
theorem GW.mono{D D':Nat->Prop}{w w':World}{O:Nat->Prop}(h:GW D w)(z:Keep O w w')(hO:∀b,D b->¬O b)(hD:∀b,D b->D' b):GW D' w':=λJ E=>
 h J ⟨E.os.trans z.os,E.tape.trans z.tape,E.output.trans z.output,L_ z.size E.size,λk H I=>
  have hd:D k:=aB_ I
  (E.block k (q_ H z.size) (λh=>h (hD k hd))).trans (z.block k H (hO k hd))⟩
theorem GW.of{w:World}(h:GT w):GW (λb=>b<w.heap.size) w:=λ_ z=>h.below ⟨z.os,z.tape,z.output,z.size,λk E=>z.block k E (λh=>h E)⟩
structure Ctx where
 n:Nat
 w0:World
 D0:Nat->Prop
 O0:Nat->Prop
 dfs:List Deferred
 th:List Loc
 gk:∀w,Keep O0 w0 w->GW D0 w
structure Inv(c:Ctx)(θ:List Loc)(D:Nat->Prop)(st:St)(a:Act)(w:World):Prop where
 size:a.tmps.size=c.n
 defers:a.defers=c.dfs
 ok:Ok θ D st.hp w
 keep:Keep c.O0 c.w0 w
 dsub:∀b,c.D0 b->D b
 dnew:∀b,D b->c.D0 b\/c.O0 b\/c.w0.heap.size<=b
 onew:∀(i:Nat) (l:Loc) (g:Nat),θ[i]? =some l->l.has g->c.O0 g\/c.w0.heap.size<=g
 fr:∀k x,look st.fr k=some x->RelA θ D w (a.tmps.getD k undef) x
 fix:∀(k:Nat) (l:Loc),c.th[k]? =some l->l.fixed=true->θ[k]? =some l
def Rel(c:Ctx)(st:St)(a:Act)(w:World):Prop:=∃θ D,Inv c θ D st a w
section
variable {θ:List Loc} {D D':Nat->Prop} {w w':World}
theorem RelB.mono(hD:∀b,D b->D' b)(z:∀b,D b->w'.heap[b]? =w.heap[b]?){v:Value}{x:BV}(h:RelB θ D w v x):RelB θ D' w' v x:=by
 cases x<;>simp only[RelB]at h⊢;case pv p=>exact h.mono hD z
 case full p=>exact⟨h.1.mono hD z,h.2⟩
 all_goals exact h
theorem RelA.mono(hD:∀b,D b->D' b)(I:∀b,D b->w'.heap[b]? =w.heap[b]?){v:Value}{x:AV}(h:RelA θ D w v x):RelA θ D' w' v x:=by
 cases x with
 |b x=>exact RelB.mono hD I h|agg xs=>obtain⟨vs,H,hs,z⟩:=h;exact⟨vs,H,hs,λi u x E J=>(z i u x E J).mono hD I⟩
 |tup xs=>obtain⟨vs,H,hs,z⟩:=h;exact⟨vs,H,hs,λi u x E J=>(z i u x E J).mono hD I⟩
theorem RelO.mono(hD:∀b,D b->D' b)(N:∀b,D b->w'.heap[b]? =w.heap[b]?){l:Loc}{o:AObj}(hl:∀g,l.has g->w'.heap[g]? =w.heap[g]?)(h:RelO θ D w l o):RelO θ D' w' l o:=by
 cases l<;>cases o<;>simp only[RelO]at h⊢<;>try exact h
 case blk.box g t cs=>obtain⟨c,H,I,z⟩:=h;exact⟨c,(hl g rfl).trans H,I,λi u x hu U=>(z i u x hu U).mono hD N⟩
 case hdr.tree g n cap s O e sz k xs hole=>
  obtain⟨H,I,z,h4,h5,c,Os,h6,h7,Y,h9,gc,el⟩:=h;refine⟨H,I,z,h4,h5,c,Os,(hl g (.inl rfl)).trans h6,h7,Y,h9,gc,λi j x y U hy=>?_⟩;obtain⟨u,e1,J⟩:=el i j x y U hy;refine⟨u,e1,?_⟩;split;·rename_i b R;rw[R]at J;exact J.mono hD N
  ·rename_i R;rw[R]at J;exact J.mono hD N λb R=>hl b (.inr (Y i j b R).1)
 case hdr.vec g n cap s O e sz xs=>obtain⟨H,I,z,h4,h5,c,h6,h7,Y⟩:=h;exact⟨H,I,z,h4,h5,c,(hl g (.inl rfl)).trans h6,h7,λi j x y U hy=>let⟨u,e1,J⟩:=Y i j x y U hy;⟨u,e1,J.mono hD N⟩⟩
 case mp.map g k e kvs=>obtain⟨es,E,H,I,z⟩:=h;exact⟨es,E,(hl g rfl).trans H,I,λi en kv he hk=>⟨(z i en kv he hk).1.mono hD N,(z i en kv he hk).2.mono hD N⟩⟩
theorem RelB.extN{θ':List Loc}(z:∀(i:Nat) (l:Loc),θ[i]? =some l->l≠.no->θ'[i]? =some l){v:Value}{x:BV}(h:RelB θ D w v x):RelB θ' D w v x:=by
 cases x<;>simp only[RelB]at h⊢;·exact h
 ·exact h
 ·obtain⟨l,H,E⟩:=h;exact⟨l,z _ _ H (λe=>by subst e;exact E),E⟩
 ·obtain⟨g,H,E⟩:=h;exact⟨g,z _ _ H (λe=>by cases e),E⟩
 ·obtain⟨g,n,cap,sz,O,H,E⟩:=h;exact⟨g,n,cap,sz,O,z _ _ H (λe=>by cases e),E⟩
 ·obtain⟨N,H,E,R⟩:=h;exact⟨N,H,λk id g I J=>z _ _ (E k id g I J) (λe=>by cases e),R⟩
 ·obtain⟨g,H,E⟩:=h;exact⟨g,z _ _ H (λe=>by cases e),E⟩
 ·exact h
 ·exact h
theorem RelA.extN{θ':List Loc}(z:∀(i:Nat) (l:Loc),θ[i]? =some l->l≠.no->θ'[i]? =some l){v:Value}{x:AV}(h:RelA θ D w v x):RelA θ' D w v x:=by
 cases x with
 |b x=>exact RelB.extN z h|agg xs=>obtain⟨vs,I,hs,E⟩:=h;exact⟨vs,I,hs,λi u x H J=>(E i u x H J).extN z⟩
 |tup xs=>obtain⟨vs,I,hs,E⟩:=h;exact⟨vs,I,hs,λi u x H J=>(E i u x H J).extN z⟩
theorem RelO.extN{θ':List Loc}(z:∀(i:Nat) (l:Loc),θ[i]? =some l->l≠.no->θ'[i]? =some l){l:Loc}{o:AObj}(h:RelO θ D w l o):RelO θ' D w l o:=by
 cases l<;>cases o<;>simp only[RelO]at h⊢<;>try exact h
 case blk.box g t cs=>obtain⟨c,H,N,R⟩:=h;exact⟨c,H,N,λi u x hu Y=>(R i u x hu Y).extN z⟩
 case hdr.tree g n cap s O e sz k xs hole=>
  obtain⟨H,N,R,h4,h5,c,Os,h6,h7,h8,h9,J,I⟩:=h;refine⟨H,N,R,h4,h5,c,Os,h6,h7,h8,h9,J,λi j x y Y hy=>?_⟩;obtain⟨u,e1,E⟩:=I i j x y Y hy;refine⟨u,e1,?_⟩;split;·rename_i b U;rw[U]at E;exact E.extN z
  ·rename_i U;rw[U]at E;exact E
theorem RelB.ext{θ':List Loc}(z:∀(i:Nat) (l:Loc),θ[i]? =some l->θ'[i]? =some l){v:Value}{x:BV}(h:RelB θ D w v x):RelB θ' D w v x:=h.extN λi l E _=>z i l E
theorem RelA.ext{θ':List Loc}(z:∀(i:Nat) (l:Loc),θ[i]? =some l->θ'[i]? =some l){v:Value}{x:AV}(h:RelA θ D w v x):RelA θ' D w v x:=h.extN λi l E _=>z i l E
theorem RelO.ext{θ':List Loc}(z:∀(i:Nat) (l:Loc),θ[i]? =some l->θ'[i]? =some l){l:Loc}{o:AObj}(h:RelO θ D w l o):RelO θ' D w l o:=h.extN λi l E _=>z i l E
end
theorem get_append{α:Type}{l m:List α}{i:Nat}{x:α}(h:l[i]? =some x):(l++m)[i]? =some x:=by rw[h_ (a_.1 h).1];exact h
theorem Inv.below{c:Ctx}{θ:List Loc}{D:Nat->Prop}{st:St}{a:Act}{w w':World}(h:Inv c θ D st a w)(J:Below w.heap.size w w')(el:c.w0.heap.size<=w.heap.size){D':Nat->Prop}(hD:∀b,D b->D' b) (H:∀b,D' b->D b\/(w.heap.size<=b/\b<w'.heap.size)):Inv c θ D' st a w':=by
 have I:∀b,D b->w'.heap[b]? =w.heap[b]? :=λb z=>J.block b (h.ok.dlt b z);refine⟨h.size,h.defers,⟨h.ok.len,λb z=>?_,h.ok.inj,λi l g N hg=>?_,λi l o N ho=>?_⟩,h.keep.trans (.of_below J),λb z=>hD b (h.dsub b z),λb z=>?_,h.onew,λk x Y=>(h.fr k x Y).mono hD I,h.fix⟩
 ·rcases H b z with E|E;·exact q_ (h.ok.dlt b E) J.size
  ·exact E.2
 ·obtain⟨E,U⟩:=h.ok.olt i l g N hg;refine⟨q_ E J.size,λhd=>?_⟩;rcases H g hd with R|R;·exact U R
  ·omega
 ·exact(h.ok.objs i l o N ho).mono hD I λg hg=>J.block g (h.ok.olt i l g N hg).1
 ·rcases H b z with E|E;·exact h.dnew b E
  ·exact .inr (.inr (by omega))
theorem Inv.w0le{c:Ctx}{θ:List Loc}{D:Nat->Prop}{st:St}{a:Act}{w:World}(h:Inv c θ D st a w):c.w0.heap.size<=w.heap.size:=h.keep.size
theorem Inv.drew{c:Ctx}{θ:List Loc}{D:Nat->Prop}{st:St}{a:Act}{w:World}(h:Inv c θ D st a w):Inv c θ D st a w.drew:=h.below ((Below.refl _ _).drew) h.w0le (λ_ z=>z) (λ_ z=>.inl z)
theorem Inv.put{c:Ctx}{θ:List Loc}{D:Nat->Prop}{st:St}{a:Act}{w:World}(h:Inv c θ D st a w){d:Option Nat}{v:Value}{x:AV}(hd:∀k,d=some k->k<c.n)(I:RelA θ D w v x):Inv c θ D (st.putO d x) (a.put d v) w:=by
 cases d with
 |none=>exact h|some k=>
  have H:=hd k rfl;refine⟨by simpa[Act.put,St.putO,St.put]using h.size,h.defers,h.ok,h.keep,h.dsub,h.dnew,h.onew,λj y E=>?_,h.fix⟩;simp only[St.putO,St.put,look]at E;have hs:k<a.tmps.size:=by rw[h.size];exact H
  by_cases z:j=k;·subst z;simp only[if_true]at E;cases E;simp[Act.put,hs];exact I
  ·simp only[z,if_false]at E;have:=h.fr j y E;simp[Act.put,T_ (Ne.symm z)]at this⊢;exact this
theorem Inv.push{c:Ctx}{θ:List Loc}{D:Nat->Prop}{st:St}{a:Act}{w:World}(h:Inv c θ D st a w){l:Loc}{o:AObj}(ho:RelO (θ++[l]) D w l o) (hl:∀g,l.has g->c.w0.heap.size<=g/\g<w.heap.size/\¬D g/\∀(i:Nat) (li:Loc),θ[i]? =some li->¬li.has g):Inv c (θ++[l]) D {st with hp:=st.hp++[o]} a w:=by
 have I:∀(i:Nat) (l':Loc),θ[i]? =some l'->(θ++[l])[i]? =some l':=λi l' E=>get_append E;have z:∀(i:Nat) (l':Loc),(θ++[l])[i]? =some l'->θ[i]? =some l'\/(i=θ.length/\l'=l):=by
  intro i l' E;rcases G_ i θ.length with H|H;·rw[h_ H]at E;exact .inl E
  ·rw[i_ H]at E;have:i - θ.length=0:=by
    rcases N_ (i - θ.length)with U|U;·exact U
    ·rw[ah_ (show [l].length<=i - θ.length from U)]at E;cases E
   rw[this]at E;simp at E;exact .inr ⟨by omega,E.symm⟩
 refine⟨h.size,h.defers,⟨by simp[h.ok.len],h.ok.dlt,λi j li lj g E hj N R=>?_,λi l' g E hg=>?_,λi l' o' E J=>?_⟩,h.keep,h.dsub,h.dnew,λi l' g E hg=>?_,λk x Y=>(h.fr k x Y).ext I,λk l Y hf=>I k l (h.fix k l Y hf)⟩
 ·rcases z i li E with H|⟨rfl,rfl⟩<;>rcases z j lj hj with U|⟨rfl,rfl⟩;·exact h.ok.inj i j li lj g H U N R
  ·exact absurd N ((hl g R).2.2.2 i li H)
  ·exact absurd R ((hl g N).2.2.2 j lj U)
  ·rfl
 ·rcases z i l' E with H|⟨rfl,rfl⟩;·exact h.ok.olt i l' g H hg
  ·exact⟨(hl g hg).2.1,(hl g hg).2.2.1⟩
 ·rcases z i l' E with H|⟨rfl,rfl⟩
  ·have el:i<st.hp.length:=by rw[<-h.ok.len];exact(a_.1 H).1
   rw[h_ el]at J;exact(h.ok.objs i l' o' H J).ext I
  ·rw[h.ok.len,i_ (u_ _)]at J;simp at J;subst J;exact ho
 ·rcases z i l' E with H|⟨rfl,rfl⟩;·exact h.onew i l' g H hg
  ·exact .inr (hl g hg).1
theorem Inv.free_no{c:Ctx}{θ:List Loc}{D:Nat->Prop}{st:St}{a:Act}{w:World}(h:Inv c θ D st a w){s:Nat}(hs:st.hp[s]? =some .free):θ[s]? =some .no:=by
 have E:s<st.hp.length:=(a_.1 hs).1;have z:s<θ.length:=by rw[h.ok.len];exact E
 have H:=b_ z;have:=h.ok.objs s _ _ H hs;rw[H];cases I:θ[s]<;>rw[I]at this<;>simp only[RelO]at this
theorem Inv.fill{c:Ctx}{θ:List Loc}{D:Nat->Prop}{st:St}{a:Act}{w:World}(h:Inv c θ D st a w){s:Nat}(hs:st.hp[s]? =some .free){l:Loc}{o:AObj}(ho:RelO (θ.set s l) D w l o) (hl:∀g,l.has g->c.w0.heap.size<=g/\g<w.heap.size/\¬D g/\∀(i:Nat) (li:Loc),θ[i]? =some li->¬li.has g):Inv c (θ.set s l) D {st with hp:=st.hp.set s o} a w:=by
 have el:s<st.hp.length:=(a_.1 hs).1;have gc:s<θ.length:=by rw[h.ok.len];exact el
 have ph:=h.free_no hs;have I:∀(i:Nat) (l':Loc),θ[i]? =some l'->l'≠.no->(θ.set s l)[i]? =some l':=λi l' H hn=>by rw[m_ (λe=>hn (by subst e;rw[ph]at H;exact(W_ H).symm))];exact H
 have z:∀(i:Nat) (l':Loc),(θ.set s l)[i]? =some l'->(i=s/\l'=l)\/(i≠s/\θ[i]? =some l'):=λi l' H=>by
  by_cases U:i=s;·subst U;rw[t_ gc]at H;exact .inl ⟨rfl,(W_ H).symm⟩
  ·rw[m_ (Ne.symm U)]at H;exact .inr ⟨U,H⟩
 refine⟨h.size,h.defers,⟨by simp[h.ok.len],h.ok.dlt,λi j li lj g H hj N R=>?_,λi l' g H hg=>?_,λi l' o' H J=>?_⟩,h.keep,h.dsub,h.dnew,λi l' g H hg=>?_,λk x hk=>(h.fr k x hk).extN I,λk l hk hf=>I k l (h.fix k l hk hf) (λe=>by subst e;cases hf)⟩
 ·rcases z i li H with⟨rfl,rfl⟩|⟨h1,E⟩<;>rcases z j lj hj with⟨rfl,rfl⟩|⟨h2,Y⟩;·rfl
  ·exact absurd R ((hl g N).2.2.2 j lj Y)
  ·exact absurd N ((hl g R).2.2.2 i li E)
  ·exact h.ok.inj i j li lj g E Y N R
 ·rcases z i l' H with⟨rfl,rfl⟩|⟨h1,E⟩;·exact⟨(hl g hg).2.1,(hl g hg).2.2.1⟩
  ·exact h.ok.olt i l' g E hg
 ·rcases z i l' H with⟨rfl,rfl⟩|⟨h1,E⟩;·rw[t_ el]at J;cases J;exact ho
  ·rw[m_ (Ne.symm h1)]at J;exact(h.ok.objs i l' o' E J).extN I
 ·rcases z i l' H with⟨rfl,rfl⟩|⟨h1,E⟩;·exact .inr (hl g hg).1
  ·exact h.onew i l' g E hg
def owns(θ:List Loc)(b:Nat):Prop:=∃(i:Nat) (l:Loc),θ[i]? =some l/\l.has b
abbrev Dz:=Option (AV×List AObj)
def rU(a:List PanicEntry):Prop:=∃t v,a=[{v:=.iface t v,recovered:=false}]
def Back(θ:List Loc)(D:Nat->Prop)(w:World)(K:Dz->Prop)(e:Ending)(w':World):Prop:=
 (∃v r a θ' D',e= .returned v/\K (some (r,a))/\RelA θ' D' w' v r/\Ok θ' D' a w'/\Keep (owns θ) w w'/\(∀b,D b->D' b)/\(∀b,D' b->D b\/owns θ b\/w.heap.size<=b)/\
  (∀(i:Nat) (l:Loc) (g:Nat),θ'[i]? =some l->l.has g->owns θ g\/w.heap.size<=g)/\(∀(k:Nat) (l:Loc),θ[k]? =some l->l.fixed=true->θ'[k]? =some l)/\θ.length<=θ'.length)\/
 (∃c,rU c/\e= .panicked c/\K none/\Keep (owns θ) w w')
def ACalls(P:Program)(f:FuncId)(ars:List AV)(os:List AObj)(K:Dz->Prop):Prop:=
 ∀(w:World) (θ:List Loc) (D:Nat->Prop) (vs:List Value),GW D w->Ok θ D os w->vs.length=ars.length->(∀(i:Nat) (v:Value) (x:AV),vs[i]? =some v->ars[i]? =some x->RelA θ D w v x)->
  Calls P f vs.toArray w (Back θ D w K)
theorem Back.mono{θ:List Loc}{D:Nat->Prop}{w w':World}{K J:Dz->Prop}{e:Ending}(h:Back θ D w K e w')(N:∀o,K o->J o):Back θ D w J e w':=by
 rcases h with⟨v,r,I,θ',D',z,E,H⟩|⟨R,U,z,E,H⟩;·exact .inl ⟨v,r,I,θ',D',z,N _ E,H⟩
 ·exact .inr ⟨R,U,z,N _ E,H⟩
theorem ACalls.mono{P:Program}{f:FuncId}{ars:List AV}{os:List AObj}{K z:Dz->Prop}(h:ACalls P f ars os K)(R:∀o,K o->z o):ACalls P f ars os z:=λw θ D vs E H I J=>(h w θ D vs E H I J).mono λ_ _ N=>N.mono R
def BV.FlatB:BV->Prop
 | .pv p=>p.Flat
 | .full _=>False
 |_=>True
def AV.FlatA:AV->Prop
 | .b x=>x.FlatB
 | .agg xs=>∀x∈xs,x.FlatB
 | .tup xs=>∀x∈xs,x.FlatB
inductive FlatT:Option (TypeId×Nat×K)->PV->Prop
 |flat (p:PV) (h:p.Flat):FlatT none p
 |sl (e:TypeId) (sz:Nat) (k:K) (p:PV) (xs:List PV) (hp:p=mb sz xs) (h:∀(i j:Nat) (x y:PV),xs[i]? =some x->x.cells[j]? =some y->FlatT (k.at j) y):FlatT (some (e,sz,k)) p
def flatT(k:K)(xs:List PV):Prop:=∀(i j:Nat) (x y:PV),xs[i]? =some x->x.cells[j]? =some y->FlatT (k.at j) y
def AObj.FlatO:AObj->Prop
 | .gone=>True
 | .free=>True
 | .box _ cs=>∀x∈cs,x.FlatB
 | .vec _ _ xs=>∀x∈xs,∀y∈x.cells,y.Flat
 | .map _ _ kvs=>∀z∈kvs,z.1.Flat/\z.2.Flat
 | .tree _ _ k xs h=>(∀i j b,h=some (i,j,b)->b.FlatB)/\flatT k xs
def gE(P:Program)(t:TypeId):Bool:=match P.underlying t with
 |some (.struct _)=>true
 |some (.array _ _)=>true
 |_=>false
def eqP(P:Program):Nat->TypeId->PV->PV->Option Bool
 |0,_,_,_=>none
 |d+1,t,x,y=>match P.underlying t,x,y with
  |some .bool,.sc (.bool a),.sc (.bool b)=>some (a==b)
  |some (.int _),.sc (.int k a),.sc (.int e b)=>if k=e then some (a==b)else none
  |some .string,.sc (.string a),.sc (.string b)=>some (a==b)
  |some (.struct c),.agg xs,.agg ys=>if P.stoodInHeld t then none else eqFs d c.toList xs ys
  |_,_,_=>none
where eqFs (d:Nat):List Field->List PV->List PV->Option Bool
 |[],_,_=>some true
 |f::l,xs,ys=>if f.name= "_" then none else(P.info? f.type).bind λi=>if(P.underlying f.type).isNone\/xs.length<f.offset+i.size\/ys.length<f.offset+i.size\/(gE P f.type=false/\i.size≠1)then none else
  (eqP P d f.type ((PV.agg xs).sub f.offset i.size (gE P f.type)) ((PV.agg ys).sub f.offset i.size (gE P f.type))).bind λb=>if b then eqFs d l xs ys else some false
def BC(P:Program):Nat->TypeId->PV->Bool
 |0,_,_=>false
 |d+1,t,p=>match P.underlying t,p with
  |some .bool,.sc (.bool _)=>true
  |some (.int _),.sc (.int _ _)=>true
  |some .string,.sc (.string _)=>true
  |some (.struct a),.agg xs=>a.toList.all λf=>f.name != "_" &&(match P.info? f.type with
   |some i=>(P.underlying f.type).isSome&&decide (f.offset+i.size<=xs.length)&&(gE P f.type||decide (i.size=1))&&BC P d f.type ((PV.agg xs).sub f.offset i.size (gE P f.type))
   |none=>false)
  |_,_=>false
def tn(P:Program)(k:TypeId)(x:PV):List (PV×PV)->Nat->Option (Option (Nat×PV))
 |[],_=>some none
 |a::l,i=>(eqP P 64 k x a.1).bind λb=>if b then some (some (i,a.2))else tn P k x l (i+1)
def dG(P:Program)(f:FuncId):Bool:=match P.funcs[f]? with
 |some fn=>fn.body.isSome&&fn.name != "runtime.NumGoroutine"
 |none=>false
def jp(P:Program)(st:St)(op:SOp)(K:AV->Prop):Prop:=
 match op with
 | .mv x=>aM (st.get x) K
 | .pick c a b=>aM (st.get c) λc=>Be c λt=>isBool t λt=>(t=true->aM (st.get a) K)/\(t=false->aM (st.get b) K)
 | .bin op x y=>aM (st.get x) λx=>aM (st.get y) λy=>Be x λx=>Be y λy=>IG op x y λv=>K (.v v)
 | .eqB neg x y=>aM (st.get x) λx=>aM (st.get y) λy=>Be x λx=>Be y λy=>isBool x λa=>isBool y λb=>K (.v (.bool (neg ^^ (a==b))))
 | .un op x=>aM (st.get x) λx=>Be x λx=>Vl op x λv=>K (.v v)
 | .len str x=>aM (st.get x) λx=>match str with
  |false=>isLen st.hp x λn=>K (.v (.int .i64 n))
  |true=>Be x λx=>Lk x λs=>K (.v (.int .i64 s.size))
 | .lenM k e x=>aM (st.get x) λx=>isMap st.hp k e x λ_ kvs=>K (.v (.int .i64 kvs.length))
 | .idxS x i=>aM (st.get x) λx=>aM (st.get i) λi=>Be x λx=>Be i λi=>isInt i λ_ n=>Lk x λs=>0<=n/\n<s.size/\K (.v (.int .u8 (s.toList.getD n.toNat 0).toNat))
 | .idxV n sz ag x i=>aM (st.get x) λx=>aM (st.get i) λi=>Be i λi=>isInt i λ_ m=>aM x.toPV λp=>0<=m/\m<n/\(ag=false->sz=1)/\p.cells.length=n*sz/\p.isAgg=true/\K (.p (p.sub (m.toNat*sz) sz ag))
 | .idxA sz x i=>aM (st.get x) λx=>aM (st.get i) λi=>Be i λi=>isInt i λ_ n=>
  ((∃L,x= .p (mb sz L)/\0<=n/\n<L.length/\K (.p (.pto (L.getD n.toNat .any))))\/(∃id,x= .b (.sl id)/\aM st.hp[id]? λo=>(∃e L,o= .vec e sz L/\0<=n/\n<L.length/\K (.b (.elt id n.toNat 0)))\/(∃e k L h,o= .tree e sz k L h/\0<=n/\n<L.length/\K (.b (.elt id n.toNat 0)))))
 | .idxP n sz ag x i=>aM (st.get x) λx=>aM (st.get i) λi=>Be i λi=>isInt i λ_ m=>0<=m/\m<n/\((∃id off,x= .b (.ptr id off)/\K (.b (.ptr id (off+m.toNat*sz))))\/
  (∃p,x= .p (.pto p)/\p.cells.length=n*sz/\(ag=false->sz=1)/\(p.sub (m.toNat*sz) sz ag).isAgg=ag/\K (.p (.pto (p.sub (m.toNat*sz) sz ag)))))
 | .fldA off sz ag x=>aM (st.get x) λx=>(∃p,x= .p (.pto p)/\off+sz<=p.cells.length/\(ag=false->sz=1)/\(p.sub off sz ag).isAgg=ag/\K (.p (.pto (p.sub off sz ag))))\/(∃id o,x= .b (.ptr id o)/\K (.b (.ptr id (o+off))))\/(∃id i o,x= .b (.elt id i o)/\K (.b (.elt id i (o+off))))
 | .fld off sz ag x=>aM (st.get x) λx=>(∃p,x= .p p/\p.isAgg=true/\off+sz<=p.cells.length/\(ag=false->sz=1)/\K (.p (p.sub off sz ag)))\/(∃cs,x= .agg cs/\off+sz<=cs.length/\(ag=false->sz=1)/\K (mR ag ((cs.drop off).take sz)))
 | .load sz ag x=>aM (st.get x) λx=>Cj st.hp sz ag x K
 | .cvtI k x=>aM (st.get x) λx=>Be x λx=>isInt x λ_ n=>K (.v (.int k (k.wrap n)))
 | .slc sz x lo u mx=>aM (st.get x) λx=>(aM x.toPV λq=>∃L,q=mb sz L/\bnd st lo 0 λl=>bnd st u L.length λh=>bnd st mx L.length λm=>
  (mx.isSome=true->u.isSome=true)/\l<=h/\h<=m/\m<=L.length/\
   (K (.p (mb sz ((L.take h).drop l)))\/(mx.isSome=true/\h=m/\K (.b (.full (mb sz ((L.take h).drop l)))))))\/
  ∃id,x= .b (.sl id)/\aM st.hp[id]? λo=>∃e k L g,o= .tree e sz k L g/\bnd st lo 0 λl=>bnd st u L.length λh=>bnd st mx L.length λm=>
   (mx.isSome=true->u.isSome=true)/\l<=h/\h<=m/\m<=L.length/\h=l/\K (.p (.list 0 []))
 | .slcS x lo u=>aM (st.get x) λx=>Be x λx=>Lk x λs=>bnd st lo 0 λl=>bnd st u s.size λh=>
  l<=h/\h<=s.size/\K (.v (.string (s.extract l h)))
 | .ext x i=>aM (st.get x) λx=>(∃xs,x= .p (.tup xs)/\aM xs[i]? λp=>K (.p p))\/(∃xs,x= .tup xs/\aM xs[i]? λp=>K (.b p))
 | .nilc x=>aM (st.get x) λx=>((∃p,x= .p (.pto p))\/(∃id o,x= .b (.ptr id o))\/(∃id i o,x= .b (.elt id i o))\/(∃f d,x= .p (.fn (.func f) d))\/(∃f ids,x= .b (.clo (.func f) ids)))/\K x
 | .build zero parts=>aM (parts.mapM λq=>(st.get q.2.2).map λa=>(q.1,q.2.1,a)) λd=>
  (∀q∈d,q.2.2.ok=true/\q.2.2.cells.length=q.2.1/\q.1+q.2.1<=zero.length)/\K (.agg (d.foldl (λcs q=>splice cs q.1 q.2.2.cells) (zero.map λv=>bn v)))
 | .call bor f args=>aM (args.mapM λx=>(st.get x).bind (kF st.hp bor)) λd=>ACalls P f (d.map .p) [] λo=>∃r j,o=some (r,j)/\r.ids=[]/\(bor=true->r.FlatA)/\K r
 | .callp bor x args=>aM (st.get x) λx=>∃f cs,x= .p (.fn (.func f) cs)/\dG P f=true/\aM (args.mapM λx=>(st.get x).bind (kF st.hp bor)) λd=>ACalls P f ((d++cs).map .p) [] λo=>∃r j,o=some (r,j)/\r.ids=[]/\(bor=true->r.FlatA)/\K r
 | .boxD _ x=>aM (st.get x) λx=>aM x.toPV λp=>x.ok=true/\(∀q,x≠.b (.full q))/\K (.p (.pto p))
 | .b2s x=>aM (st.get x) λx=>nC st.hp 1 x λL=>aM (bytesOf L) λl=>K (.v (.string (strOfNums l)))
 | .bslice false _ sz len parts=>aM (parts.mapM λx=>(st.get x).bind AV.toPV) λd=>d.length=len/\0<sz/\len*sz<=16777216/\(∀p∈d,p.cells.length=sz/\p.ok=true)/\(K (.p (mb sz d))\/K (.b (.full (mb sz d))))
 | .mkfn f caps=>aM (caps.mapM st.get) λars=>(∃ids:List Nat,ars=ids.map (λi=>.b (.ptr i 0))/\K (.b (.clo (.func f) ids)))\/(∃d:List PV,ars=d.map .p/\K (.p (.fn (.func f) d)))
 | .lookup k e ok zero m x=>aM (st.get m) λm=>aM (st.get x) λx=>isMap st.hp k e m λ_ kvs=>aM x.toPV λp=>BC P 64 k p=true/\(P.underlying k).isSome=true/\(∀B∈kvs,(eqP P 64 k p B.1).isSome=true)/\aM (tn P k p kvs 0) λr=>
  K (match ok with
   |true=>.tup [.pv (match r with|some (_,v)=>v|none=>.sc zero),.pv (.sc (.bool r.isSome))]
   |false=>.p (match r with|some (_,v)=>v|none=>.sc zero))
 | .eqT neg t x y=>aM (st.get x) λx=>aM (st.get y) λy=>aM x.toPV λp=>aM y.toPV λq=>aM (eqP P 64 t p q) λb=>K (.v (.bool (neg ^^ b)))
 | .mnmx mx k x ys=>aM (st.get x) λx=>Be x λv=>isInt v λA n=>aM (ys.mapM st.get) λars=>∃z:List Int,A=k/\ars=z.map (λn=>.v (.int k n))/\
  K (.v (.int k (z.foldl (λa b=>if mx then max a b else min a b) n)))
 | .iface _ x=>aM (st.get x) λ_=>K (.b .ifc)
 | .appD _ sz bytes x y=>aM (st.get x) λx=>aM (st.get y) λy=>nC st.hp sz y λL=>(∀p∈L,p.ok=true)/\
  ∃w,((x= .b .nils/\w=[])\/x= .b (.full (mb sz w)))/\(w.length+L.length)*bytes<=140737488355328/\K (.p (mb sz (w++L)))
 | .bsliceN _ sz len parts=>aM (parts.mapM λx=>(st.get x).bind AV.toPVn) λd=>d.length=len/\0<sz/\len*sz<=16777216/\(∀p∈d,p.cells.length=sz/\p.ok=true)/\K (.p (mb sz d))
 |_=>False
def St.new(st:St)(pl:Option Nat)(o:AObj):St:=match pl with
 |none=>{st with hp:=st.hp++[o]}
 |some s=>{st with hp:=st.hp.set s o}
def St.nid(st:St)(pl:Option Nat):Nat:=pl.getD st.hp.length
def Ai(st:St):Option Nat->Prop
 |none=>True
 |some s=>st.hp[s]? =some .free
def GG(st:St)(op:SOp)(R:AObj->(Nat->BV)->Prop):Prop:=
 match op with
 | .alloc t zero=>R (.box t (zero.map λv=>bn v)) λn=>.ptr n 0
 | .box t x=>aM (st.get x) λx=>x.ok=true/\R (.box t x.cells) λn=>.ptr n 0
 | .bslice true e sz len parts=>aM (parts.mapM λx=>(st.get x).bind AV.toPV) λa=>a.length=len/\0<sz/\len*sz<=16777216/\(∀p∈a,p.cells.length=sz/\p.ok=true)/\R (.vec e sz a) .sl
 | .mslice e sz bytes zero l c=>aM (st.get l) λl=>aM (st.get c) λc=>Be l λl=>Be c λc=>isInt l λ_ l=>isInt c λ_ c=>
  0<=l/\l<=c/\c<=9223372036854775807/\bytes*c<=281474976710656/\(fM zero).cells.length=sz/\0<sz/\aM (fM zero).toPV λz=>z.ok=true/\R (.vec e sz (Q_ l.toNat z)) .sl
 | .append e sz bytes x y=>aM (st.get x) λx=>aM (st.get y) λy=>nC st.hp sz y λL=>(∀p∈L,p.ok=true)/\
  (x= .b .nils\/x= .b (.full (.list 0 [])))/\L.length*bytes<=140737488355328/\R (.vec e sz L) .sl
 | .mkmap k e=>R (.map k e []) .mp
 |_=>False
def sexec(P:Program)(d:Option Nat)(op:SOp)(st:St)(K KP:St->Prop):Prop:=
 match op with
 | .store sz x v=>aM (st.get x) λx=>aM (st.get v) λv=>d=none/\BS st.hp sz x v λhp=>K {st with hp:=hp}
 | .alloc t zero=>K ({st with hp:=st.hp++[AObj.box t (zero.map λv=>bn v)]}.putO d (.b (.ptr st.hp.length 0)))
 | .box t x=>aM (st.get x) λx=>x.ok=true/\K ({st with hp:=st.hp++[AObj.box t x.cells]}.putO d (.b (.ptr st.hp.length 0)))
 | .bslice true e sz len parts=>aM (parts.mapM λx=>(st.get x).bind AV.toPV) λb=>b.length=len/\0<sz/\len*sz<=16777216/\(∀p∈b,p.cells.length=sz/\p.ok=true)/\
  K ({st with hp:=st.hp++[AObj.vec e sz b]}.putO d (.b (.sl st.hp.length)))
 | .mslice e sz bytes zero l c=>aM (st.get l) λl=>aM (st.get c) λc=>Be l λl=>Be c λc=>isInt l λ_ l=>isInt c λ_ c=>
  0<=l/\l<=c/\c<=9223372036854775807/\bytes*c<=281474976710656/\(fM zero).cells.length=sz/\0<sz/\aM (fM zero).toPV λz=>z.ok=true/\K ({st with hp:=st.hp++[AObj.vec e sz (Q_ l.toNat z)]}.putO d (.b (.sl st.hp.length)))
 | .append e sz bytes x y=>aM (st.get x) λx=>aM (st.get y) λy=>nC st.hp sz y λL=>(∀p∈L,p.ok=true)/\
  ((∃id,x= .b (.sl id)/\aM st.hp[id]? λo=>∃xs,o= .vec e sz xs/\(xs.length+L.length)*bytes<=140737488355328/\
   K ((st.moved id (.vec e sz (xs++L))).putO d (.b (.sl id))))\/
   ((x= .b .nils\/x= .b (.full (.list 0 [])))/\L.length*bytes<=140737488355328/\K ({st with hp:=st.hp++[AObj.vec e sz L]}.putO d (.b (.sl st.hp.length)))))
 | .callA bor B f args=>aM (args.mapM λx=>(st.get x).bind (s8 st.hp bor B)) λars=>aM (B.mapM (st.hp[·]?)) λos=>
  callK P st d bor B f ars os K KP
 | .callv bor B x args=>aM (st.get x) λx=>∃f caps,((∃ids:List Nat,x= .b (.clo (.func f) ids)/\caps=ids.map λi=>.b (.ptr i 0))\/(∃b:List PV,x= .p (.fn (.func f) b)/\caps=b.map AV.p))/\dG P f=true/\
  aM (args.mapM λx=>(st.get x).bind (s8 st.hp bor B)) λars=>aM (B.mapM (st.hp[·]?)) λos=>callK P st d bor B f (ars++caps) os K KP
 | .msliceT k e sz bytes zero l c=>aM (st.get l) λl=>aM (st.get c) λc=>Be l λl=>Be c λc=>isInt l λ_ l=>isInt c λ_ c=>
  0<=l/\l<=c/\c<=9223372036854775807/\bytes*c<=281474976710656/\(fM zero).cells.length=sz/\0<sz/\aM (fM zero).toPVn λz=>z.ok=true/\k.nilsB z.cells=true/\K ({st with hp:=st.hp++[AObj.tree e sz k (Q_ l.toNat (k.unnil z)) none]}.putO d (.b (.sl st.hp.length)))
 | .appT k e sz bytes x y=>aM (st.get x) λx=>aM (st.get y) λy=>nC st.hp sz y λL=>(∀p∈L,p.ok=true/\k.nilsB p.cells=true)/\
  ((∃id,x= .b (.sl id)/\aM st.hp[id]? λo=>∃xs,o= .tree e sz k xs none/\(xs.length+L.length)*bytes<=140737488355328/\
   K ((st.moved id (.tree e sz k (xs++L.map k.unnil) none)).putO d (.b (.sl id))))\/
   (x= .b .nils/\L.length*bytes<=140737488355328/\K ({st with hp:=st.hp++[AObj.tree e sz k (L.map k.unnil) none]}.putO d (.b (.sl st.hp.length)))))
 | .mkmap k e=>K ({st with hp:=st.hp++[AObj.map k e []]}.putO d (.b (.mp st.hp.length)))
 | .mapset k e m x v=>aM (st.get m) λm=>aM (st.get x) λx=>aM (st.get v) λv=>isMap st.hp k e m λid kvs=>aM x.toPV λp=>aM v.toPV λq=>d=none/\p.plain=true/\
  BC P 64 k p=true/\(P.underlying k).isSome=true/\(∀h∈kvs,(eqP P 64 k p h.1).isSome=true)/\aM (tn P k p kvs 0) λr=>(∀i u,r=some (i,u)->∃j,kvs[i]? =some (p,j))/\K {st with hp:=st.hp.set id (.map k e (match r with|some (i,_)=>kvs.set i (p,q)|none=>kvs++[(p,q)]))}
 | .copy e sz x y=>aM (st.get x) λx=>aM (st.get y) λy=>nC st.hp sz y λL=>(∀p∈L,p.ok=true)/\∃id,x= .b (.sl id)/\y≠x/\aM st.hp[id]? λo=>∃xs,o= .vec e sz xs/\
  K ({st with hp:=st.hp.set id (.vec e sz (L.take xs.length++xs.drop L.length))}.putO d (.v (.int .i64 ((min xs.length L.length:Nat):Int))))
 | .panic x=>aM (st.get x) λa=>a= .b .ifc/\KP st
 | .atq s op=>GG st op λo mk=>Ai st (some s)/\K ((st.new (some s) o).putO d (.b (mk s)))
 |op=>jp P st op λa=>K (st.putO d a)
where
 callK (P:Program) (st:St) (d:Option Nat) (bor:Bool) (B:List Nat) (f:FuncId) (ars:List AV) (os:List AObj) (K KP:St->Prop):Prop:=
  B.Nodup/\(∀a∈ars,∀i∈a.ids,i∈B)/\(∀o∈os,∀i∈o.ids,i∈B)/\
  ACalls P f (ars.map (AV.ren (B.idxOf ·))) (os.map (AObj.ren (B.idxOf ·))) λo=>match o with
   |some (r,g)=>(bor=true->r.FlatA/\∀o∈g,o.FlatO)/\K ((st.back B g).putO d (r.ren (gN B st.hp.length)))
   |none=>KP (st.back B (os.map λ_=>.gone))
def iF(P:Program)(o:SOper)(st:St)(K KP:St->Prop):Prop:=
 match o.gd with
 |none=>sexec P o.dst o.op st K KP
 |some (t,want)=>aM (look st.fr t) λg=>Be g λv=>(yv v=some want->sexec P o.dst o.op st K KP)/\(yv v≠some want->K (st.putO o.dst (.v undef)))
def Weak(m:Nat)(s s':St):Prop:=∀(c:Ctx) (a:Act) (w:World),c.th.length<=m->Rel c s a w->Rel c s' a w
def W(m:Nat)(f:St->Prop)(s:St):Prop:=∃s',Weak m s s'/\f s'
theorem W.mk{m:Nat}{f:St->Prop}{s:St}(h:f s):W m f s:=⟨s,λ_ _ _ _ h=>h,h⟩
theorem W.to{m:Nat}{f:St->Prop}{s:St}(s':St)(z:Weak m s s')(h:f s'):W m f s:=⟨s',z,h⟩
theorem Weak.refl(m:Nat)(s:St):Weak m s s:=λ_ _ _ _ h=>h
theorem Weak.trans{m:Nat}{a b c:St}(h:Weak m a b)(k:Weak m b c):Weak m a c:=λ_ _ _ z hr=>k _ _ _ z (h _ _ _ z hr)
theorem W.from{m:Nat}{f:St->Prop}{s s':St}(h:Weak m s s')(k:W m f s'):W m f s:=let⟨H,z,E⟩:=k;⟨H,h.trans z,E⟩
theorem W.mono{m:Nat}{f g:St->Prop}{s:St}(h:W m f s)(H:∀x,f x->g x):W m g s:=let⟨s',z,E⟩:=h;⟨s',z,H s' E⟩
def sops(P:Program)(m:Nat):List SOper->St->(St->Prop)->(St->Prop)->Prop
 |[],st,K,_=>W m K st
 |o::l,st,K,KP=>W m (λst=>iF P o st (λa=>sops P m l a K KP) KP) st
def bJ(P:Program)(t:TypeId):Option Nat:=(P.info? t).map (·.size)
def iw(P:Program)(t:TypeId):Option Nat:=(P.info? t).map (·.bytes)
def cX(P:Program)(t:TypeId):Option Value:=(P.info? t).bind (·.zero)
def eQ(P:Program)(t:TypeId):Option TypeId:=match P.underlying t with
 |some (.slice e)=>some e
 |_=>none
def vQ(P:Program)(s:TypeId)(f:Nat):Option Field:=match P.underlying s with
 |some (.struct a)=>a[f]?
 |_=>none
def partsOf(P:Program)(t:TypeId)(parts:List (Nat×Operand)):Option (List (Nat×Nat×SX)):=
 match P.underlying t with
 |some (.struct c)=>(c.toList.mapM λf=>(P.info? f.type).map λi=>(f.offset,i.size)).bind λa=>parts.mapM λq=>(a[q.1]?).map λpl=>(pl.1,pl.2,SX.of q.2)
 |some (.array _ e)=>(P.info? e).bind λb=>parts.mapM λq=>some (q.1*b.size,b.size,SX.of q.2)
 |_=>none
def qm(parts:List (Nat×Operand)):Bool:=(parts.map (·.1))==aA_ parts.length
def gO(P:Program)(o:Oper):Option SOp:=
 match o.op with
 | .move x| .assign x=>some (.mv (.of x))
 | .pick c a b=>some (.pick (.of c) (.of a) (.of b))
 | .binOp op t x y _=>match P.underlying t with
  |some (.int _)=>some (.bin op (.of x) (.of y))
  |some .string=>some (.bin op (.of x) (.of y))
  |some .bool=>match op with
   | .eql=>some (.eqB false (.of x) (.of y))
   | .neq=>some (.eqB true (.of x) (.of y))
   |_=>none
  |some (.struct _)=>match op with
   | .eql=>some (.eqT false t (.of x) (.of y))
   | .neq=>some (.eqT true t (.of x) (.of y))
   |_=>none
  |_=>none
 | .unOp op _ x=>some (.un op (.of x))
 | .call c=>match c.callee with
  | .builtin .len=>match c.args.toList,c.argTypes.toList with
   |[x],[t]=>match P.underlying t with
    |some (.slice _)=>some (.len false (.of x))
    |some .string=>some (.len true (.of x))
    |some (.array n _)=>some (.mv (.c (.int .i64 n)))
    |some (.map k e)=>some (.lenM k e (.of x))
    |_=>none
   |_,_=>none
  | .builtin .append=>match c.args.toList,c.argTypes.toList with
   |[x,y],[t,u]=>if t=u then(eQ P t).bind λe=>(bJ P e).bind λs=>(iw P e).bind λb=>(cX P e).bind λz=>if z.cells.size=s/\0<s/\0<b then some (.append e s b (.of x) (.of y))else none else none
   |_,_=>none
  | .builtin .copy=>match c.args.toList,c.argTypes.toList with
   |[x,y],[t,u]=>(eQ P t).bind λe=>(eQ P u).bind λp=>(bJ P e).bind λs=>if e=p/\0<s then some (.copy e s (.of x) (.of y))else none
   |_,_=>none
  | .builtin .min=>match c.args.toList,c.argTypes.toList with
   |x::ys,t::_=>match P.underlying t with
    |some (.int k)=>some (.mnmx false k (.of x) (ys.map SX.of))
    |_=>none
   |_,_=>none
  | .builtin .max=>match c.args.toList,c.argTypes.toList with
   |x::ys,t::_=>match P.underlying t with
    |some (.int k)=>some (.mnmx true k (.of x) (ys.map SX.of))
    |_=>none
   |_,_=>none
  | .value (.func f)=>if dG P f then some (.call false f (c.args.toList.map SX.of))else none
  | .value (.tmp t)=>some (.callv false [] (.tm t) (c.args.toList.map SX.of))
  |_=>none
 | .index t x i=>match P.underlying t with
  |some .string=>some (.idxS (.of x) (.of i))
  |some (.array n e)=>if(P.underlying e).isSome then(bJ P e).map λs=>.idxV n s (gE P e) (.of x) (.of i)else none
  |_=>none
 | .indexAddr t x i=>match P.underlying t with
  |some (.slice e)=>(bJ P e).map λs=>.idxA s (.of x) (.of i)
  |some (.array n e)=>(bJ P e).map λs=>.idxP n s (gE P e) (.of x) (.of i)
  |_=>none
 | .fieldAddr s x f=>(vQ P s f).bind λh=>(bJ P h.type).bind λsz=>if sz=0 then none else some (.fldA h.offset sz (gE P h.type) (.of x))
 | .field s x f=>(vQ P s f).bind λh=>if(P.underlying h.type).isSome then(bJ P h.type).map λsz=>.fld h.offset sz (gE P h.type) (.of x)else none
 | .load t x=>(bJ P t).bind λsz=>if(P.underlying t).isSome then some (.load sz (gE P t) (.of x))else none
 | .store t x v=>(bJ P t).map λsz=>.store sz (.of x) (.of v)
 | .alloc e=>(cX P e).map λz=>.alloc e z.cells.toList
 | .box e x=>some (.box e (.of x))
 | .build t parts=>(cX P t).bind λz=>(partsOf P t parts.toList).map λr=>.build z.cells.toList r
 | .buildSlice t len parts=>(eQ P t).bind λe=>(bJ P e).bind λs=>(cX P e).bind λz=>if qm parts.toList/\z.cells.size=s then some (.bslice false e s len (parts.toList.map λq=>SX.of q.2))else none
 | .makeSlice t l c=>(eQ P t).bind λe=>(bJ P e).bind λs=>(iw P e).bind λb=>(cX P e).map λz=>.mslice e s b z (.of l) (.of c)
 | .convert w d x=>match P.underlying w,P.underlying d with
  |some _,some (.int k)=>some (.cvtI k (.of x))
  |some (.slice e),some .string=>match P.underlying e with
   |some (.int .u8)=>some (.b2s (.of x))
   |_=>none
  |_,_=>none
 | .slice t x lo j mx=>match P.underlying t with
  |some (.slice e)=>(bJ P e).map λs=>.slc s (.of x) (lo.map .of) (j.map .of) (mx.map .of)
  |some .string=>match mx with
   |none=>some (.slcS (.of x) (lo.map .of) (j.map .of))
   |some _=>none
  |_=>none
 | .extract x i=>some (.ext (.of x) i)
 | .nilCheck x=>some (.nilc (.of x))
 | .makeFunc (.func f) first g=>if first.isEmpty&&dG P f then some (.mkfn f (g.toList.map SX.of))else none
 | .makeMap t none=>match P.underlying t with
  |some (.map k e)=>some (.mkmap k e)
  |_=>none
 | .lookup t m x ok=>match P.underlying t with
  |some (.map k e)=>(cX P e).map λz=>.lookup k e ok z (.of m) (.of x)
  |_=>none
 | .mapUpdate t m x v| .insert t m x v=>match P.underlying t with
  |some (.map k e)=>some (.mapset k e (.of m) (.of x) (.of v))
  |_=>none
 | .panic x=>some (.panic (.of x))
 | .makeInterface t x=>some (.iface t (.of x))
 |_=>none
def SOp.canon:SOp->SOp
 | .bslice _ e s l E=>.bslice false e s l E
 | .call _ f xs=>.call false f xs
 | .callA _ _ f xs=>.call false f xs
 | .boxD t x=>.box t x
 | .callv _ _ x xs=>.callv false [] x xs
 | .callp _ x xs=>.callv false [] x xs
 | .appD e s b x y=>.append e s b x y
 | .bsliceN e s l E=>.bslice false e s l E
 | .msliceT _ e s b z x y=>.mslice e s b z x y
 | .appT _ e s b x y=>.append e s b x y
 | .atq _ op=>op.canon
 |x=>x
theorem yf{θ:List Loc}{D:Nat->Prop}{w:World}(v:Value):RelB θ D w v (bn v):=by
 unfold bn;split;·rfl
 ·exact RelP.sc v
theorem sE{θ:List Loc}{D:Nat->Prop}{w:World}(v:Value):RelA θ D w v (fM v):=by
 unfold fM;split;·rename_i cs;refine⟨cs,rfl,by simp,λi u x b a=>?_⟩;simp only[e_]at a;rw[j_,b]at a;simp at a;subst a;exact yf u
 ·exact yf _
theorem Inv.get{c:Ctx}{θ:List Loc}{D:Nat->Prop}{st:St}{a:Act}{w:World}(h:Inv c θ D st a w){x:Operand}{E:AV}(z:st.get (.of x)=some E):RelA θ D w (a.eval x) E:=by cases x with|tmp t=>exact h.fr t E z|const v=>simp[SX.of,St.get]at z;subst z;exact sE v|global g=>simp[SX.of,St.get]at z;subst z;exact RelP.sc _|func f=>simp[SX.of,St.get]at z;subst z;exact RelP.fn (.func f) #[] [] rfl λi v x H _=>by simp at H
section
variable {θ:List Loc} {D:Nat->Prop} {w:World}
theorem Ni{v u:Value}(h:RelA θ D w v (.v u)):v=u:=by cases h;rfl
theorem ye{v:Value}{p:PV}(h:RelA θ D w v (.p p)):RelP D w v p:=h
theorem ci{v:Value}{a:AV}{K:Value->Prop}(h:RelA θ D w v a)(b:Be a K):K v:=by obtain⟨u,rfl,b⟩:=b;rw[Ni h];exact b
theorem mapM_some{α β:Type}{f:α->Option β}:∀{l:List α} {m:List β},l.mapM f=some m->l.length=m.length/\∀(i:Nat) (x:α) (y:β),l[i]? =some x->m[i]? =some y->f x=some y
 |[],m,h=>by simp at h;subst h;exact⟨rfl,λi x y g=>by simp at g⟩
 |x::l,m,h=>by simp only[ay_,al_,ax_,o_,A_]at h;obtain⟨y,j,k,e,rfl⟩:=h;obtain⟨c,d⟩:=mapM_some e;refine⟨by simp[c],λi u v a b=>?_⟩;cases i with|zero=>simp at a b;subst a;subst b;exact j|succ i=>exact d i u v (by simpa using a) (by simpa using b)
theorem bb{α β:Type}{l:List α}{m:List β}(h:l.length=m.length){i:Nat}{y:β}(a:m[i]? =some y):∃x,l[i]? =some x:=by
 have:i<l.length:=by rw[h];exact(a_.1 a).1
 exact⟨l[i],b_ this⟩
theorem iE{v:Value}{p:PV}(h:RelP D w v p)(a:p.cellOk=true):v.oneCell'=true:=by cases h<;>simp[PV.cellOk]at a<;>first|exact a|rfl
theorem vf{v:Value}{x:BV}(h:RelB θ D w v x)(b:x.cellOk=true):v.oneCell'=true:=by
 cases x with
 |pv p=>exact iE h b|nils=>cases h;rfl|sl id=>obtain⟨l,_,c⟩:=h;cases l<;>simp only[Loc.head]at c<;>(subst c;rfl)
 |ptr id off=>obtain⟨g,_,rfl⟩:=h;rfl
 |elt id i off=>obtain⟨g,n,cap,sz,_,_,rfl⟩:=h;rfl
 |clo f ids=>obtain⟨d,_,_,rfl⟩:=h;rfl
 |mp id=>obtain⟨g,_,rfl⟩:=h;rfl
 |full p=>obtain⟨_,a,n,rfl⟩:=h;rfl
 |ifc=>obtain⟨t,u,rfl⟩:=h;rfl
theorem cells_one{v:Value}(h:v.oneCell'=true):v.cells= #[v]:=by cases v<;>simp[Value.oneCell']at h<;>rfl
theorem pi{v:Value}{x:AV}(h:RelA θ D w v x)(j:x.ok=true):v.cells.size=x.cells.length/\∀(i:Nat) (u:Value) (y:BV),v.cells[i]? =some u->x.cells[i]? =some y->RelB θ D w u y/\u.oneCell'=true:=by
 have one:∀(v:Value) (y:BV),y.cellOk=true->RelB θ D w v y->v.cells.size=[y].length/\∀(i:Nat) (u:Value) (z:BV),v.cells[i]? =some u->[y][i]? =some z->RelB θ D w u z/\u.oneCell'=true:=by intro v y a hr;have n:=vf hr a;rw[cells_one n];refine⟨rfl,λi u z c k=>?_⟩;cases i with|zero=>simp at c k;subst c;subst k;exact⟨hr,n⟩|succ i=>simp at k
 have all:∀y∈x.cells,y.cellOk=true:=by simpa[AV.ok]using j
 cases x with
 |tup xs=>have:=all (.pv .any) (by simp[AV.cells]);simp[BV.cellOk,PV.cellOk]at this|agg xs=>obtain⟨vs,rfl,r,l⟩:=h;exact⟨r,λi u y c a=>⟨l i u y c a,vf (l i u y c a) (all y (c_ a))⟩⟩
 |b x=>
  by_cases f:∃xs,x= .pv (.agg xs);·obtain⟨xs,rfl⟩:=f;have h':RelP D w v (.agg xs):=h;cases h' with|agg vs _ A s=>refine⟨by simp[AV.cells,PV.cells,Value.cells,A],λi u y c a=>?_⟩;have g:=all y (c_ a);simp only[AV.cells,PV.cells,e_]at a;cases d:xs[i]? with|none=>rw[d]at a;simp at a|some z=>rw[d]at a;simp at a;subst a;have:=s i u z c d;exact⟨this,iE this g⟩
  ·have e:(AV.b x).cells=[x]:=by
    cases x with
    |pv p=>cases p<;>first|rfl|exact absurd ⟨_,rfl⟩ f
    |_=>rfl
   rw[e]at all⊢;exact one v x (all x (by simp)) h
theorem pj{v:Value}{p:PV}(h:RelP D w v p)(a:p.ok=true):v.cells.size=p.cells.length/\∀(i:Nat) (u:Value) (y:PV),v.cells[i]? =some u->p.cells[i]? =some y->RelP D w u y/\u.oneCell'=true:=by
 have b:(AV.p p).ok=true:=by simp only[PV.ok,J_]at a;simp only[AV.ok,AV.cells,List.all_map,J_];exact a
 obtain⟨c,d⟩:=pi (θ:=[]) (x:=.p p) h b;simp only[AV.cells,av_,e_]at c d;exact⟨c,λi u y e f=>d i u (.pv y) e (by rw[f];rfl)⟩
theorem mg{v:Value}{x:BV}{p:PV}(h:RelB θ D w v x)(a:x.toPV=some p):RelP D w v p:=by
 cases x<;>simp[BV.toPV]at a;·subst a;exact h
 ·subst a;cases h;exact .nil none 0
 ·subst a;exact h.1
theorem cd{v:Value}{x:AV}{p:PV}(h:RelA θ D w v x)(a:x.toPV=some p):RelP D w v p:=by
 cases x with
 |b x=>exact mg h a|agg xs=>obtain⟨vs,rfl,e,f⟩:=h;simp only[AV.toPV,f_]at a;obtain⟨k,c,rfl⟩:=a;obtain⟨d,g⟩:=mapM_some c;refine RelP.agg _ _ (by rw[e,d]) λi u p j hp=>?_;obtain⟨x,a⟩:=bb d hp;exact mg (f i u x j a) (g i x p a hp)
 |tup xs=>obtain⟨vs,rfl,e,f⟩:=h;simp only[AV.toPV,f_]at a;obtain⟨k,c,rfl⟩:=a;obtain⟨d,g⟩:=mapM_some c;refine RelP.tup _ _ (by rw[e,d]) λi u p j hp=>?_;obtain⟨x,a⟩:=bb d hp;exact mg (f i u x j a) (g i x p a hp)
theorem EQ{v:Value}{x:BV}{p:PV}(h:RelB θ D w v x)(a:x.toPVn=some p):RelP D w v p:=by cases x with|nils=>cases a;cases h;exact .sc _|_=>exact mg h a
theorem EP{v:Value}{x:AV}{p:PV}(h:RelA θ D w v x)(a:x.toPVn=some p):RelP D w v p:=by
 cases x with
 |b x=>exact EQ h a|agg xs=>obtain⟨vs,rfl,e,f⟩:=h;simp only[AV.toPVn,f_]at a;obtain⟨k,c,rfl⟩:=a;obtain⟨d,g⟩:=mapM_some c;refine RelP.agg _ _ (by rw[e,d]) λi u p j hp=>?_;obtain⟨x,a⟩:=bb d hp;exact EQ (f i u x j a) (g i x p a hp)
 |tup xs=>cases a
theorem mf{hp:List AObj}(f:Ok θ D hp w){v:Value}{x:AV}{sz:Nat}{K:List PV->Prop}(h:RelA θ D w v x)(d:nC hp sz x K): ∃L a cap,K L/\v= .slice a L.length cap/\L.length<=cap/\(a=none->cap=0\/L=[])/\(0<L.length->∃b o,a=some ⟨b,o,none⟩/\b<w.heap.size/\(∀x∈L,x.cells.length=sz)/\∀(i j:Nat) (x y:PV),L[i]? =some x->x.cells[j]? =some y->∃u,w.cell? ⟨b,o+i*sz+j,none⟩=some u/\RelP D w u y):=by
 rcases d with⟨rfl,d⟩|⟨L,rfl,d⟩|⟨id,e,L,rfl,P,d⟩|⟨L,rfl,d⟩
 rotate_left 3
 ·obtain⟨a,cap,rfl,B,r⟩:=pm h.1;refine⟨L,a,cap,d,rfl,B,λE=>?_,λhl=>?_⟩
  ·rcases N_ L.length with k|k;·exact .inr (n_ k)
   ·obtain⟨b,o,e,_⟩:=r k;rw[E]at e;cases e
  ·obtain⟨b,o,e,F,z,A⟩:=r hl;exact⟨b,o,e,f.dlt b F,z,A⟩
 ·cases h;exact⟨[],none,0,d,rfl,u_ _,λ_=>.inl rfl,λh=>absurd h (by simp)⟩
 ·obtain⟨a,cap,rfl,B,r⟩:=pm (ye h);refine⟨L,a,cap,d,rfl,B,λE=>?_,λhl=>?_⟩
  ·rcases N_ L.length with k|k;·exact .inr (n_ k)
   ·obtain⟨b,o,e,_⟩:=r k;rw[E]at e;cases e
  ·obtain⟨b,o,e,F,z,A⟩:=r hl;exact⟨b,o,e,f.dlt b F,z,A⟩
 ·obtain⟨l,hl,H⟩:=h;have p:=f.objs id l _ hl P;cases l<;>simp only[RelO,Loc.head]at p H;·subst H;subst p;exact⟨[],_,0,d,rfl,u_ _,λ_=>.inl rfl,λh=>absurd h (by simp)⟩
  ·rename_i g n cap s O;obtain⟨rfl,rfl,z,A,I,c,J,T,M⟩:=p;subst H;refine⟨L,_,cap,d,rfl,z,λe=>by simp at e,λ_=>⟨g,0,rfl,(f.olt id _ g hl (.inl rfl)).1,I,λi j x y Q R=>?_⟩⟩;obtain⟨u,N,C⟩:=M i j x y Q R;refine⟨u,?_,C⟩;rw[x_,cell_of_row w g _ c e (0,0) J];exact N
theorem OS{hp:List AObj}(g:Ok θ D hp w){v:Value}{id:Nat}{p:PV}(h:RelB θ D w v (.sl id))(d:J5 hp id=some p): ∃l,θ[id]? =some l/\∀D':Nat->Prop,(∀b,D b->D' b)->(∀b,l.has b->D' b)->RelP D' w v p:=by
 obtain⟨l,hl,f⟩:=h;refine⟨l,hl,λD' hD hO=>?_⟩;unfold J5 at d;split at d
 ·rename_i e sz xs E;cases d;have a:=g.objs id l _ hl E;cases l<;>simp only[RelO,Loc.head]at a f;·subst f;subst a;exact .nil _ 0
  ·obtain⟨rfl,rfl,z,J,A,c,B,L,C⟩:=a;subst f;refine f7 z λ_=>⟨_,0,rfl,hO _ (.inl rfl),A,λi j x y F H=>?_⟩;obtain⟨u,n,r⟩:=C i j x y F H;refine⟨u,?_,r.mono hD (λ_ _=>rfl)⟩;rw[x_,cell_of_row w _ _ c e (0,0) B];exact n
 ·rename_i e sz k xs E;cases d;have a:=g.objs id l _ hl E;cases l<;>simp only[RelO,Loc.head]at a f;·subst f;rw[a.1];exact .nil _ 0
  ·obtain⟨rfl,rfl,z,J,A,c,Os,B,L,C,N,I,s⟩:=a;subst f;refine f7 z λ_=>⟨_,0,rfl,hO _ (.inl rfl),A,λi j x y F H=>?_⟩;obtain⟨u,n,r⟩:=s i j x y F H;refine⟨u,?_,RelT.toP hD (λb M=>hO b (.inr (C i j b M).1)) r⟩;rw[x_,cell_of_row w _ _ c e (0,0) B];exact n
 ·cases d
theorem La{k:Av.K}{off n j:Nat}(h:k.flatB off n=true)(a:j<n):k.at (off+j)=none:=by simp only[Av.K.flatB,J_,az_]at h;simpa using h j a
theorem qk{h:Option (Nat×Nat×BV)}{i j:Nat}{b:BV}(e:cJ h i j=some b):h=some (i,j,b):=by
 unfold cJ at e;split at e
 ·split at e;·rename_i a;obtain⟨rfl,rfl⟩:=a;cases e;rfl
  ·cases e
 ·cases e
theorem P8{hole:Option (Nat×Nat×BV)}{k:Av.K}{n i j:Nat}{u:Value}{y:PV}{O:Nat->Prop}(d:∀i j b,hole=some (i,j,b)->i<n/\(k.at j).isSome=true)(a:k.at j=none) (h:match cJ hole i j with|some b=>RelB θ D w u b|none=>RelT D w (k.at j) O u y):RelP D w u y:=by cases c:cJ hole i j with|some b=>have:=(d i j b (qk c)).2;rw[a]at this;cases this|none=>rw[c,a]at h;cases h with|flat _ _ _ h=>exact h
theorem Sc{hp:List AObj}(d:Ok θ D hp w){v:Value}{x:AV}{K:Nat->Prop}(h:RelA θ D w v x)(b:isLen hp x K): ∃n a cap,K n/\v= .slice a n cap:=by
 rcases b with⟨rfl,b⟩|⟨sz,L,rfl,b⟩|⟨id,e,sz,L,rfl,g,b⟩|⟨sz,L,rfl,b⟩|⟨id,e,sz,k,L,hole,rfl,g,b⟩
 rotate_left 3
 ·obtain⟨a,cap,rfl,_⟩:=pm h.1;exact⟨_,a,cap,b,rfl⟩
 ·obtain⟨l,hl,f⟩:=h;have c:=d.objs id l _ hl g;cases l<;>simp only[RelO,Loc.head]at c f;·obtain⟨rfl,rfl⟩:=c;exact⟨0,_,0,b,f⟩
  ·obtain⟨_,rfl,_⟩:=c;exact⟨_,_,_,b,f⟩
 ·cases h;exact⟨_,_,_,b,rfl⟩
 ·obtain⟨a,cap,rfl,_⟩:=pm (ye h);exact⟨_,a,cap,b,rfl⟩
 ·obtain⟨j,a,cap,rfl,rfl,_⟩:=mf (K:=λj=>j=L) d h (.inr (.inr (.inl ⟨id,e,L,rfl,g,rfl⟩)));exact⟨_,a,cap,b,rfl⟩
end
def Yields(P:Program)(o:Oper)(a:Act)(w:World)(R:Value->World->Prop):Prop:=
 ∃v w',(execOp a.eval o).run P w= .ok (.value v) w'/\R v w'
theorem Yields.wp{P:Program}{o:Oper}{a:Act}{w:World}{R:Value->World->Prop}{next:Act->World->Prop}{Q:Exit->Act->World->Prop}(h:Yields P o a w R)(hn:∀v w',R v w'->next (a.put o.dst v) w'):o.wp P a w next Q:=by obtain⟨v,w',z,E⟩:=h;unfold Oper.wp;rw[z];exact hn v w' E
theorem Sj{P:Program}{w:World}{op:BinOp}{t:TypeId}{x y:Operand}{a b:Value}{K:Value->Prop}(h:IG op a b K): ∃v,K v/\Sem.run P (do eqGuard op t x y a b;binOp op t a b) w= .ok v w:=by
 cases a<;>cases b<;>simp only[IG]at h;case int.int k m f n=>
  cases op<;>simp only at h;case shl=>obtain⟨d,c⟩:=h;refine⟨_,c,?_⟩;simp[eqGuard,binOp,Op.shift,aD_.2 d]
  case shr=>obtain⟨d,c⟩:=h;refine⟨_,c,?_⟩;simp[eqGuard,binOp,Op.shift,aD_.2 d]
  case quo=>obtain⟨rfl,d,c⟩:=h;refine⟨_,c,?_⟩;simp[eqGuard,binOp,Op.intDiv,d]
  case rem=>obtain⟨rfl,d,c⟩:=h;refine⟨_,c,?_⟩;simp[eqGuard,binOp,Op.intDiv,d]
  all_goals (obtain⟨rfl,h⟩:=h;refine⟨_,h,?_⟩;simp[eqGuard,binOp,Op.intArith,Op.intBits,Op.intCmp,oN])
 case string.string s r=>
  cases op<;>simp only at h;case add=>obtain⟨d,c⟩:=h;refine⟨_,c,?_⟩;have e:IntKind.i64.max=9223372036854775807:=rfl;simp[e,eqGuard,binOp,Op.stringOp];omega
  all_goals first|exact h.elim|(refine⟨_,h,?_⟩;simp[eqGuard,binOp,Op.stringOp])
theorem TK{P:Program}{w:World}{t:TypeId}{x y:Operand}{a b:Bool}(e:P.underlying t=some .bool)(neg:Bool): Sem.run P (do eqGuard (if neg then .neq else .eql) t x y (.bool a) (.bool b);binOp (if neg then .neq else .eql) t (.bool a) (.bool b)) w= .ok (.bool (neg ^^ (a==b))) w:=by
 have d:Sem.run P (Op.equal t (.bool a) (.bool b)) w= .ok (a==b) w:=by show Sem.run P (Op.equalIn (9999+1) t (.bool a) (.bool b)) w=_;rw[Op.equalIn];simp[run_underlying e]
 cases neg;·show Sem.run P (do eqGuard .eql t x y (.bool a) (.bool b);binOp .eql t (.bool a) (.bool b)) w=_;have c:binOp .eql t (.bool a) (.bool b)=(do pure (.bool (<-Op.equal t (.bool a) (.bool b)))):=rfl;rw[c];simp[eqGuard,d]
 ·show Sem.run P (do eqGuard .neq t x y (.bool a) (.bool b);binOp .neq t (.bool a) (.bool b)) w=_;have c:binOp .neq t (.bool a) (.bool b)=(do pure (.bool (!(<-Op.equal t (.bool a) (.bool b))))):=rfl;rw[c];simp[eqGuard,d]
theorem TL{P:Program}{w:World}{op:UnOp}{a:Value}{K:Value->Prop}(h:Vl op a K):∃v,K v/\Sem.run P (Op.unary op a) w= .ok v w:=by
 unfold Vl at h;split at h;·exact⟨_,h,by simp[Op.unary]⟩
 ·exact⟨_,h,by simp[Op.unary,Op.intArith]⟩
 ·exact h.elim
section
variable {P:Program} {w:World}
theorem run_sizeOf{t:TypeId}{s:Nat}(h:bJ P t=some s):Sem.run P (sizeOf t) w= .ok s w:=by simp only[bJ,f_]at h;obtain⟨i,a,rfl⟩:=h;simp[sizeOf,typeInfo,a]
theorem H5{t:TypeId}{d:TypeDesc}(h:P.underlying t=some d):Sem.run P (isAgg t) w= .ok (gE P t) w:=by simp only[isAgg,gE,Sem.run_bind,run_underlying h,Result.andThen_ok];cases d<;>simp[h]
theorem addr_add(b o i:Nat):(⟨b,o,none⟩:Addr).add i=⟨b,o+i,none⟩:=by unfold Addr.add;split<;>simp_all
def o8(ag:Bool)(vs:Array Value)(off sz:Nat):Value:=match ag with
 |true=>.agg (vs.extract off (off+sz))
 |false=>(vs[off]?).getD undef
def vu(ag:Bool)(cs:List Value):Value:=match ag with
 |true=>.agg cs.toArray
 |false=>cs.headD undef
theorem Co{t:TypeId}{d:TypeDesc}{s b o:Nat}(hd:P.underlying t=some d)(hs:bJ P t=some s)(cs:List Value)(hl:cs.length=s)(a:gE P t=false->s=1) (hc:∀(j:Nat) (v:Value),cs[j]? =some v->w.cell? ⟨b,o+j,none⟩=some v): Sem.run P (loadVar t ⟨b,o,none⟩) w= .ok (vu (gE P t) cs) w:=by
 simp only[loadVar,Sem.run_bind,H5 hd,Result.andThen_ok];cases c:gE P t
 ·simp only[Bool.false_eq_true,if_false];have f:=a c
  match cs,hl with|[v],_=>have:=hc 0 v rfl;rw[run_load];simp at this;simp[this,vu]|[],hl=>simp at hl;omega|_::_::_,hl=>simp at hl;omega
 ·simp only[if_true,Sem.run_bind,run_sizeOf hs,Result.andThen_ok];have:=run_loadCells_list (P:=P) (w:=w) ⟨b,o,none⟩ cs (λj v e=>by rw[addr_add];exact hc j v e);rw[hl]at this;simp[this,vu]
theorem fW{α:Type} [Inhabited α]{n:Nat}{p:Nat->α->Prop}(h:∀j,j<n->∃u,p j u):∃l:List α,l.length=n/\∀(j:Nat) (u:α),l[j]? =some u->p j u:=by
 induction n with
 |zero=>exact⟨[],rfl,λj u h=>by simp at h⟩|succ n g=>
  obtain⟨l,d,e⟩:=g λj k=>h j (by omega);obtain⟨u,f⟩:=h n (by omega);refine⟨l++[u],by simp[d],λj v a=>?_⟩;rcases G_ j l.length with b|b;·rw[h_ b]at a;exact e j v a
  ·rw[i_ b]at a;have:j - l.length=0:=by
    rcases N_ (j - l.length)with c|c;·exact c
    ·rw[ah_ (show [u].length<=j - l.length from c)]at a;cases a
   rw[this]at a;simp at a;subst a;have:j=n:=by omega
   subst this;exact f
theorem Jw{D:Nat->Prop}{cs:List Value}{a:List PV}(hl:cs.length=a.length)(h:∀(j:Nat) (u:Value) (y:PV),cs[j]? =some u->a[j]? =some y->RelP D w u y): RelP D w (.agg cs.toArray) (.agg a):= .agg _ _ (by simp[hl]) λi v x b c=>h i v x (by simpa using b) c
theorem ut{p:PV}:p.isAgg=true->p= .agg p.cells:=by cases p<;>simp[PV.isAgg,PV.cells]
theorem nZ{p:PV}:p.isAgg=false->p.cells=[p]:=by cases p<;>simp[PV.isAgg,PV.cells]
theorem ER{D:Nat->Prop}{cs:List Value}{p:PV}(hl:cs.length=p.cells.length)(h:∀(j:Nat) (u:Value) (y:PV),cs[j]? =some u->p.cells[j]? =some y->RelP D w u y): RelP D w (vu p.isAgg cs) p:=by
 cases hp:p.isAgg
 ·have a:=nZ hp;rw[a]at hl h
  match cs,hl,h with|[u],_,h=>exact h 0 u p rfl rfl
 ·have a:=ut hp;rw[a];simp only[PV.cells]at hl h⊢;exact Jw hl (λj u y b c=>h j u y b c)
theorem ou{α:Type}{l:List α}{i:Nat}{x d:α}(h:l[i]? =some x):l.getD i d=x:=by simp[B_,h]
theorem vZ{p:PV}{off sz:Nat}{ag:Bool}(a:ag=false->sz=1)(c:off+sz<=p.cells.length):(ag=true->(p.sub off sz ag).cells=(p.cells.drop off).take sz)/\(ag=false->p.cells[off]? =some (p.sub off sz ag)):=by
 constructor;·rintro rfl;rfl
 ·rintro rfl;have:=a rfl;have b:off<p.cells.length:=by omega
  simp[PV.sub,b_ b]
end
def Res(c:Ctx)(θ:List Loc)(st:St)(a:Act)(K:AV->Prop):Value->World->Prop:=λv w'=>∃x D',K x/\Inv c θ D' st a w'/\RelA θ D' w' v x
section
variable {P:Program} {o:Oper} {c:Ctx} {θ:List Loc} {D:Nat->Prop} {st:St} {a:Act} {w:World} {K:AV->Prop}
theorem Res.same(z:Inv c θ D st a w){v:Value}{x:AV}(E:K x)(H:RelA θ D w v x):Res c θ st a K v w:=⟨x,D,E,z,H⟩
theorem aF{v:Value}{x:AV}(b:Inv c θ D st a w)(hr:(execOp a.eval o).run P w= .ok (.value v) w)(d:K x)(e:RelA θ D w v x):Yields P o a w (Res c θ st a K):=⟨v,w,hr,Res.same b d e⟩
theorem LZ(d:Inv c θ D st a w){x:Operand}(b:o.op= .move x\/o.op= .assign x)(h:jp P st (.mv (.of x)) K):Yields P o a w (Res c θ st a K):=by obtain⟨g,f,e⟩:=h;refine aF d ?_ e (d.get f);rcases b with b|b<;>simp[execOp,b]
theorem LW(d:Inv c θ D st a w){v:Value}(hr:(execOp a.eval o).run P w= .ok (.value v) w)(h:jp P st (.mv (.c v)) K):Yields P o a w (Res c θ st a K):=by obtain⟨f,b,e⟩:=h;simp[St.get]at b;subst b;exact aF d hr e (sE v)
theorem NH(d:Inv c θ D st a w){x y z:Operand}(g:o.op= .pick x y z)(h:jp P st (.pick (.of x) (.of y) (.of z)) K):Yields P o a w (Res c θ st a K):=by
 obtain⟨s,n,l⟩:=h;obtain⟨b,f,k,j⟩:=ci (d.get n) l;cases b;·obtain⟨v,r,e⟩:=j rfl;exact aF d (by simp[execOp,g,f,asBool]) e (d.get r)
 ·obtain⟨u,p,e⟩:=k rfl;exact aF d (by simp[execOp,g,f,asBool]) e (d.get p)
theorem Ic(b:Inv c θ D st a w){op:BinOp}{t n:TypeId}{x y:Operand}(g:o.op= .binOp op t x y n)(h:jp P st (.bin op (.of x) (.of y)) K):Yields P o a w (Res c θ st a K):=by obtain⟨p,k,r,l,j⟩:=h;have d:=ci (b.get k) j;have e:=ci (b.get l) d;obtain⟨v,f,hr⟩:=Sj (P:=P) (w:=w) (t:=t) (x:=x) (y:=y) e;refine aF b ?_ f (RelP.sc v);simp only[execOp,g];rw[Sem.run_bind,hr];rfl
theorem Ie(b:Inv c θ D st a w){neg:Bool}{t s:TypeId}{x y:Operand}(g:o.op= .binOp (if neg then .neq else .eql) t x y s)(k:P.underlying t=some .bool)(h:jp P st (.eqB neg (.of x) (.of y)) K):Yields P o a w (Res c θ st a K):=by obtain⟨u,n,v,r,l⟩:=h;have d:=ci (b.get n) l;have e:=ci (b.get r) d;obtain⟨p,hp,q,j,f⟩:=e;refine aF b ?_ f (RelP.sc _);simp only[execOp,g,hp,j];rw[Sem.run_bind,TK k neg];rfl
theorem Su(b:Inv c θ D st a w){op:UnOp}{t:TypeId}{x:Operand}(e:o.op= .unOp op t x)(h:jp P st (.un op (.of x)) K):Yields P o a w (Res c θ st a K):=by obtain⟨j,g,f⟩:=h;obtain⟨v,d,hr⟩:=TL (P:=P) (w:=w) (ci (b.get g) f);refine aF b ?_ d (RelP.sc v);simp only[execOp,e];rw[Sem.run_bind,hr];rfl
theorem P2(j:Inv c θ D st a w){x:Operand}{t e:TypeId}{g:Call}(p:o.op= .call g)(k:g.callee= .builtin .len)(d:g.args= #[x])(f:g.argTypes= #[t]) (r:P.underlying t=some (.slice e)) (h:jp P st (.len false (.of x)) K):Yields P o a w (Res c θ st a K):=by obtain⟨v,u,hl⟩:=h;obtain⟨n,b,cap,l,s⟩:=Sc j.ok (j.get u) hl;refine aF j ?_ l (RelP.sc _);simp[execOp,p,resolve,k,d,f,invoke,builtin,Builtin.len_,run_underlying r,s,goInt]
theorem ND(g:Inv c θ D st a w){x:Operand}{t:TypeId}{e:Call}(k:o.op= .call e)(f:e.callee= .builtin .len)(b:e.args= #[x])(d:e.argTypes= #[t]) (l:P.underlying t=some .string) (h:jp P st (.len true (.of x)) K):Yields P o a w (Res c θ st a K):=by obtain⟨p,n,hl⟩:=h;obtain⟨s,hs,j⟩:=ci (g.get n) hl;refine aF g ?_ j (RelP.sc _);simp[execOp,k,resolve,f,b,d,invoke,builtin,Builtin.len_,run_underlying l,hs,goInt]
theorem NA(d:Inv c θ D st a w){t:TypeId}{x i:Operand}(v:o.op= .index t x i)(y:P.underlying t=some .string)(h:jp P st (.idxS (.of x) (.of i)) K):Yields P o a w (Res c θ st a K):=by
 obtain⟨C,A,B,p,z⟩:=h;have g:=ci (d.get A) z;have j:=ci (d.get p) g;obtain⟨k,n,hn,s,hs,f,u,r⟩:=j;refine aF d ?_ r (RelP.sc _);have b:n.toNat<s.size:=by omega
 have hg:s[n.toNat]? =some (s[n.toNat]):=by rw[getElem?_pos s n.toNat b]
 have e:s.toList.getD n.toNat 0=s[n.toNat]:=by have:s.toList=s.data.toList:=ByteArray.toList_eq s;rw[this];simp only[B_,j_];have l:n.toNat<s.data.size:=b;rw[d_ l];rfl
 rw[e];simp[execOp,v,hn,hs,Instr.index,asIntOf,run_underlying y,f,hg]
end
section
variable {P:Program} {o:Oper} {c:Ctx} {θ:List Loc} {D:Nat->Prop} {st:St} {a:Act} {w:World} {K:AV->Prop}
theorem vg{v:Array Value}{p:PV}{off sz:Nat}{ag:Bool}(h:RelP D w (.agg v) p)(hp:p.isAgg=true)(d:off+sz<=p.cells.length)(c:ag=false->sz=1): v.size=p.cells.length/\RelP D w (o8 ag v off sz) (p.sub off sz ag):=by
 have e:=ut hp;obtain⟨q,rfl⟩:∃q,p= .agg q:=⟨_,e⟩;simp only[PV.cells]at d;cases h with
 |agg vs xs hs j=>
  refine⟨hs,?_⟩;cases ag
  ·have:=c rfl;subst this;have f:off<q.length:=by omega
   have g:off<v.size:=by omega
   simp only[o8,PV.sub,PV.cells,B_,b_ f,D_,d_ g];exact j off _ _ (d_ g) (b_ f)
  ·simp only[o8,PV.sub,PV.cells];refine .agg _ _ (by simp;omega) λi u x b a=>?_;rw[l_]at a;split at a
   ·rename_i k;rw[w_]at a;rw[s_]at b;split at b;·exact j (off+i) u x b a
    ·cases b
   ·cases a
theorem rz{t:TypeId}{d:TypeDesc}{s off:Nat}{cs:Array Value}(hd:P.underlying t=some d)(hs:bJ P t=some s)(e:off+s<=cs.size)(a:gE P t=false->s=1): Sem.run P (part t cs off) w= .ok (o8 (gE P t) cs off s) w:=by
 simp only[part,Sem.run_bind,H5 hd,Result.andThen_ok];cases c:gE P t
 ·have:=a c;have b:off<cs.size:=by omega
  simp[o8,d_ b]
 ·simp[o8,run_sizeOf hs]
theorem EO{v:Value}{x:AV}{p:PV}(h:RelA θ D w v x)(d:x.toPV=some p)(hp:p.isAgg=true):∃vs:Array Value,v= .agg vs/\RelP D w (.agg vs) p:=by have b:=cd h d;have a:=ut hp;rw[a]at b⊢;cases b with|agg vs xs hs c=>exact⟨vs,rfl,.agg vs _ hs c⟩
theorem NB(v:Inv c θ D st a w){n sz:Nat}{t e:TypeId}{d:TypeDesc}{x i:Operand}(F:o.op= .index t x i)(H:P.underlying t=some (.array n e))(hd:P.underlying e=some d)(hs:bJ P e=some sz) (h:jp P st (.idxV n sz (gE P e) (.of x) (.of i)) K):Yields P o a w (Res c θ st a K):=by
 obtain⟨M,J,L,B,I⟩:=h;obtain⟨k,m,E,p,hp,z,y,j,b,r,C⟩:=ci (v.get B) I;obtain⟨vs,A,s⟩:=EO (v.get J) hp r;have f:m.toNat*sz+sz<=n*sz:=by
  have:m.toNat+1<=n:=by omega
  have:=g_ sz this;rw[k_,r_]at this;exact this
 obtain⟨hsz,u⟩:=vg s r (by rw[b];exact f) j;refine aF v ?_ C u;have g:=rz (P:=P) (w:=w) (t:=e) (cs:=vs) (off:=m.toNat*sz) hd hs (by rw[hsz,b];exact f) j;have l:m<(n:Int):=y;simp only[execOp,F,E,A,Instr.index,asIntOf,Sem.run_bind,Sem.run_pure,Result.andThen_ok,run_underlying H];rw[if_pos ⟨z,l⟩];simp only[Sem.run_bind,run_sizeOf hs,Result.andThen_ok,g]
theorem Ny(u:Inv c θ D st a w){sz:Nat}{t e:TypeId}{x i:Operand}(Q:o.op= .indexAddr t x i)(R:P.underlying t=some (.slice e))(hs:bJ P e=some sz) (h:jp P st (.idxA sz (.of x) (.of i)) K):Yields P o a w (Res c θ st a K):=by
 obtain⟨ax,U,ai,N,T⟩:=h;obtain⟨k,n,hn,v⟩:=ci (u.get N) T;have H:=u.get U;have z:∀(b o' len cap:Nat),a.eval x= .slice (some ⟨b,o',none⟩) len cap->0<=n->n<(len:Int)->(execOp a.eval o).run P w= .ok (.value (.pointer (some ⟨b,o'+n.toNat*sz,none⟩))) w:=by intro b o' len cap I r M;simp only[execOp,Q,hn,I,Instr.indexAt,asIntOf,Sem.run_bind,Sem.run_pure,Result.andThen_ok,run_underlying R];rw[if_pos ⟨r,M⟩];simp[run_sizeOf hs,addr_add]
 rcases v with⟨L,rfl,r,d,C⟩|⟨id,rfl,ob,F,⟨J,L,rfl,r,d,C⟩|⟨J,k',L,hole,rfl,r,d,C⟩⟩
 ·obtain⟨b,cap,I,hcap,p⟩:=pm (ye H);obtain⟨g,o',rfl,hg,hsz,hc⟩:=p (by omega);have E:n.toNat<L.length:=by omega
  refine aF u (z g o' L.length cap I r d) C (qw hg λj y Y=>?_);have A:L[n.toNat]? =some (L.getD n.toNat .any):=by simp[B_,b_ E]
  exact hc n.toNat j _ y A Y
 ·obtain⟨l,hl,B⟩:=H;have f:=u.ok.objs id l _ hl F;cases l<;>simp only[RelO,Loc.head]at f B;·subst f;simp at d;omega
  ·rename_i g m cap s O;obtain⟨rfl,rfl,_⟩:=f;refine aF u (z g 0 _ cap B r d) C ?_;exact⟨g,_,cap,s,O,hl,by simp⟩
 ·obtain⟨l,hl,B⟩:=H;have f:=u.ok.objs id l _ hl F;cases l<;>simp only[RelO,Loc.head]at f B;·rw[f.1]at d;simp at d;omega
  ·rename_i g m cap s O;obtain⟨rfl,rfl,_⟩:=f;refine aF u (z g 0 _ cap B r d) C ?_;exact⟨g,_,cap,s,O,hl,by simp⟩
theorem TN{b o' off sz:Nat}{ag:Bool}{p:PV}(g:D b)(hc:∀(j:Nat) (y:PV),p.cells[j]? =some y->∃u,w.cell? ⟨b,o'+j,none⟩=some u/\RelP D w u y)(e:off+sz<=p.cells.length)(d:ag=false->sz=1)(f:(p.sub off sz ag).isAgg=ag): RelP D w (.pointer (some ⟨b,o'+off,none⟩)) (.pto (p.sub off sz ag)):=by
 refine qw g λj y a=>?_;cases c:ag;·subst c;have:=d rfl;subst this;rw[nZ f]at a;cases j with|zero=>simp at a;subst a;have:=hc off _ ((vZ (p:=p) (off:=off) d e).2 rfl);simpa[H_]using this|succ j=>simp at a
 ·subst c;rw[(vZ (p:=p) (off:=off) (sz:=sz) (ag:=true) (λh=>by cases h) e).1 rfl,l_]at a;split at a;·rw[w_]at a;have:=hc (off+j) y a;rwa [<-H_]at this
  ·cases a
theorem Nz(f:Inv c θ D st a w){n sz:Nat}{ag:Bool}{t e:TypeId}{x i:Operand}(I:o.op= .indexAddr t x i)(J:P.underlying t=some (.array n e))(hs:bJ P e=some sz) (h:jp P st (.idxP n sz ag (.of x) (.of i)) K):Yields P o a w (Res c θ st a K):=by
 obtain⟨N,B,M,F,L⟩:=h;obtain⟨k,m,H,C,z,d⟩:=ci (f.get F) L;have r:∀(g off:Nat),a.eval x= .pointer (some ⟨g,off,none⟩)->(execOp a.eval o).run P w= .ok (.value (.pointer (some ⟨g,off+m.toNat*sz,none⟩))) w:=by intro g off j;simp only[execOp,I,H,j,Instr.indexAt,asIntOf,Sem.run_bind,Sem.run_pure,Result.andThen_ok,run_underlying J,Instr.sureAddr];rw[if_pos ⟨C,z⟩];simp[run_sizeOf hs,addr_add]
 rcases d with⟨id,off,rfl,v⟩|⟨p,rfl,l,s,u,v⟩;·obtain⟨g,hg,j⟩:=f.get B;exact aF f (r g off j) v ⟨g,hg,rfl⟩
 ·obtain⟨b,o',j,E,hc⟩:=Ax (ye (f.get B));have y:m.toNat*sz+sz<=p.cells.length:=by rw[l];have A:(m.toNat+1)*sz<=n*sz:=g_ _ (by omega);rw[k_,r_]at A;exact A
  exact aF f (r b o' j) v (TN E hc y s u)
theorem Nx(C:Inv c θ D st a w){s:TypeId}{f:Nat}{x:Operand}{k:Field}{sz:Nat}(J:o.op= .fieldAddr s x f)(E:vQ P s f=some k)(hs:bJ P k.type=some sz)(hsz:sz≠0) (h:jp P st (.fldA k.offset sz (gE P k.type) (.of x)) K):Yields P o a w (Res c θ st a K):=by
 obtain⟨M,L,r⟩:=h;have F:=C.get L;have v:∀(b o':Nat),a.eval x= .pointer (some ⟨b,o',none⟩)->(execOp a.eval o).run P w= .ok (.value (.pointer (some ⟨b,o'+k.offset,none⟩))) w:=by
  intro b o' u;unfold vQ at E;split at E;·rename_i N H;simp[execOp,J,u,Instr.fieldAt,run_underlying H,E,Instr.sureAddr,fieldPlace,run_sizeOf hs,hsz,addr_add]
  ·cases E
 rcases r with⟨p,rfl,B,l,z,A⟩|⟨id,o',rfl,A⟩|⟨id,i,o',rfl,A⟩
 ·obtain⟨b,o',u,I,hc⟩:=Ax (ye F);refine aF C (v b o' u) A (qw I λj y e=>?_);cases d:gE P k.type;·rw[d]at e l;have:=l rfl;subst this;rw[d]at z;rw[nZ z]at e;cases j with|zero=>simp at e;subst e;have:=hc k.offset _ ((vZ (p:=p) (off:=k.offset) l B).2 rfl);simpa[H_]using this|succ j=>simp at e
  ·rw[d]at e;rw[(vZ (p:=p) (off:=k.offset) (sz:=sz) (ag:=true) (λh=>by cases h) B).1 rfl,l_]at e;split at e;·rw[w_]at e;have:=hc (k.offset+j) y e;rwa [<-H_]at this
   ·cases e
 ·obtain⟨g,hg,u⟩:=F;exact aF C (v g o' u) A ⟨g,hg,rfl⟩
 ·obtain⟨g,n,cap,s',O,hg,u⟩:=F;refine aF C (v g _ u) A ⟨g,n,cap,s',O,hg,?_⟩;rw[H_]
end
section
variable {P:Program} {o:Oper} {c:Ctx} {θ:List Loc} {D:Nat->Prop} {st:St} {a:Act} {w:World} {K:AV->Prop}
theorem oy{vs:Array Value}{cs:List BV}{off sz:Nat}{ag:Bool}(hl:vs.size=cs.length)(h:∀(i:Nat) (u:Value) (x:BV),vs[i]? =some u->cs[i]? =some x->RelB θ D w u x)(g:off+sz<=cs.length)(c:ag=false->sz=1): RelA θ D w (o8 ag vs off sz) (mR ag ((cs.drop off).take sz)):=by
 cases ag
 ·have:=c rfl;subst this;have d:off<cs.length:=by omega
  have f:off<vs.size:=by omega
  have e:(cs.drop off).take 1=[cs[off]]:=by rw[List.drop_eq_getElem_cons d];rfl
  simp only[o8,mR,e,List.headD_cons,d_ f,D_];exact h off _ _ (d_ f) (b_ d)
 ·refine⟨_,rfl,by simp;omega,λi u x b a=>?_⟩;rw[l_]at a;split at a
  ·rename_i j;rw[w_]at a;rw[s_]at b;split at b;·exact h (off+i) u x b a
   ·cases b
  ·cases a
theorem P1(v:Inv c θ D st a w){t:TypeId}{f:Nat}{x:Operand}{j:Field}{d:TypeDesc}{sz:Nat}(C:o.op= .field t x f)(l:vQ P t f=some j)(hd:P.underlying j.type=some d)(hs:bJ P j.type=some sz) (h:jp P st (.fld j.offset sz (gE P j.type) (.of x)) K):Yields P o a w (Res c θ st a K):=by
 obtain⟨H,F,k⟩:=h;have B:=v.get F;unfold vQ at l;split at l
 ·rename_i I n;rcases k with⟨p,rfl,r,g,e,z⟩|⟨cs,rfl,g,e,z⟩;·obtain⟨vs,y,s⟩:=EO (p:=p) B rfl r;obtain⟨hsz,u⟩:=vg s r g e;refine aF v ?_ z u;have b:=rz (P:=P) (w:=w) (t:=j.type) (cs:=vs) (off:=j.offset) hd hs (by rw[hsz];exact g) e;simp[execOp,C,y,Instr.field,run_underlying n,l,asAgg,b]
  ·obtain⟨vs,y,A,E⟩:=B;refine aF v ?_ z (oy A E g e);have b:=rz (P:=P) (w:=w) (t:=j.type) (cs:=vs) (off:=j.offset) hd hs (by rw[A];exact g) e;simp[execOp,C,y,Instr.field,run_underlying n,l,asAgg,b]
 ·cases l
theorem qo(ag:Bool)(c:Array Value)(off sz:Nat)(a:ag=false->sz=1)(b:off+sz<=c.size):vu ag (c.extract off (off+sz)).toList=o8 ag c off sz:=by
 cases ag
 ·have:=a rfl;subst this;have d:off<c.size:=by omega
  simp only[vu,o8,List.headD_eq_head?_getD,List.head?_eq_getElem?,j_,s_];rw[if_pos (by omega)];rfl
 ·show Value.agg _=Value.agg _;rw[Array.toArray_toList]
theorem Rh(M:Inv c θ D st a w){x:Operand}{sz:Nat}{ag:Bool}{id i off:Nat}{e:TypeId}{s:Nat}{k:Av.K}{xs:List PV}{hole:Option (Nat×Nat×BV)}(hX:RelA θ D w (a.eval x) (.b (.elt id i off)))(U:st.hp[id]? =some (.tree e s k xs hole)) (hi:i<xs.length) (gc:off+sz<=s) (A:ag=false->sz=1) (d:(k.flatB off sz=true/\K (.p ((xs.getD i .any).sub off sz ag)))\/(∃J,hole=some (i,off,J)/\sz=1/\ag=false/\K (.b J))) (Y:∀(b o':Nat) (cs:List Value),a.eval x= .pointer (some ⟨b,o',none⟩)->cs.length=sz->(ag=false->sz=1)->(∀(j:Nat) (v:Value),cs[j]? =some v->w.cell? ⟨b,o'+j,none⟩=some v)->(execOp a.eval o).run P w= .ok (.value (vu ag cs)) w):Yields P o a w (Res c θ st a K):=by
 obtain⟨g,n,cap,s',O,hg,he⟩:=hX;obtain⟨rfl,rfl,h3,h4,h5,F,Os,h6,h7,h8,h9,Q,h⟩:=M.ok.objs id _ _ hg U;obtain⟨E,l⟩:∃E,xs[i]? =some E:=⟨_,b_ hi⟩;have N:xs.getD i .any=E:=ou l;rw[N]at d;have ph:E.cells.length=s':=h5 _ (c_ l);have el:i*s'+s'<=F.size:=by
  rw[h7];have:i+1<=cap:=by omega
  have:=g_ s' this;rw[k_,r_]at this;exact this
 have hr:=Y g (i*s'+off) (F.extract (i*s'+off) (i*s'+off+sz)).toList he (by simp;omega) A (λj v H=>by
  rw[cell_of_row w g _ F e (0,0) h6];simp only[j_,s_]at H;split at H;·exact H
  ·cases H)
 rw[qo _ _ _ _ A (by omega)]at hr;rcases d with⟨hf,R⟩|⟨J,B,rfl,rfl,R⟩
 ·have f:∀(j:Nat) (u:Value) (y:PV),j<sz->F[i*s'+off+j]? =some u->E.cells[off+j]? =some y->RelP D w u y:=λj u y H I C=>by obtain⟨u',p,r⟩:=h i (off+j) _ y l C;rw[<-H_,I]at p;cases p;exact P8 Q (La hf H) r
  refine aF M hr R ?_;show RelP D w _ _;cases hb:ag
  ·have:=A hb;subst this;have h9:off<E.cells.length:=by omega
   have h:i*s'+off<F.size:=by omega
   simp only[o8,PV.sub,d_ h,D_];refine f 0 _ _ (by omega) (d_ (by omega)) ?_;rw[b_ (by omega)];simp[B_,b_ h9]
  ·simp only[o8,PV.sub];refine .agg _ _ (by simp only[aa_,ar_,ae_];omega) λk u y I C=>?_;rw[l_]at C;split at C
   ·rename_i T;rw[w_]at C;rw[s_]at I;split at I;·exact f k u y T I C
    ·cases I
   ·cases C
 ·have p:i*s'+off<F.size:=by omega
  have r:off<E.cells.length:=by omega
  obtain⟨u,L,z⟩:=h i off _ _ l (b_ r);rw[B]at z;simp only[cJ,and_self,if_true]at z;refine aF M hr R ?_;simp only[o8,L,D_];exact z
theorem NE(I:Inv c θ D st a w){t:TypeId}{x:Operand}{d:TypeDesc}{sz:Nat}(ho:o.op= .load t x)(hd:P.underlying t=some d)(hs:bJ P t=some sz) (h:jp P st (.load sz (gE P t) (.of x)) K):Yields P o a w (Res c θ st a K):=by
 obtain⟨ax,hx,f⟩:=h;have hX:=I.get hx;have L:∀(b o':Nat) (cs:List Value),a.eval x= .pointer (some ⟨b,o',none⟩)->cs.length=sz->(gE P t=false->sz=1)->(∀(j:Nat) (v:Value),cs[j]? =some v->w.cell? ⟨b,o'+j,none⟩=some v)->(execOp a.eval o).run P w= .ok (.value (vu (gE P t) cs)) w:=by
  intro b o' cs M hl l hc
  have:=Co (P:=P) (w:=w) hd hs cs hl l hc
  simp[execOp,ho,M,Instr.loadAt,Instr.sureAddr,this]
 unfold Cj at f;split at f
 ·rename_i p;obtain⟨Y,U,C⟩:=f;obtain⟨b,o',M,hb,hc⟩:=Ax (ye hX);obtain⟨cs,hl,hcs⟩:=fW (n:=sz) (p:=λj u=>w.cell? ⟨b,o'+j,none⟩=some u/\∀y,p.cells[j]? =some y->RelP D w u y) (λj B=>by obtain⟨u,h1,h2⟩:=hc j (p.cells[j]'(by omega)) (b_ (by omega));exact⟨u,h1,λy A=>by rw[b_ (by omega:j<p.cells.length)]at A;cases A;exact h2⟩)
  have l:gE P t=false->sz=1:=λh=>by rw[<-Y]at h;rw[<-U,nZ h];rfl
  refine aF I (L b o' cs M hl l λj v B=>(hcs j v B).1) C ?_;rw[<-Y];exact ER (by omega) λj u y z A=>(hcs j u z).2 y A
 ·rename_i id off;obtain⟨ob,J,t',cs,rfl,E,l,C⟩:=f;obtain⟨g,hg,M⟩:=hX;obtain⟨F,h1,h2,h3⟩:=I.ok.objs id _ _ hg J;have T:off+sz<=F.size:=by omega
  have hr:=L g off (F.extract off (off+sz)).toList M (by simp;omega) l (λj v B=>by
   rw[cell_of_row w g _ F t' (0,0) h1];simp only[j_,s_]at B;split at B;·exact B
   ·cases B)
  rw[qo _ _ _ _ l T]at hr;rcases C with C|⟨q,hq,C⟩;·exact aF I hr C (oy h2 h3 E l)
  ·exact aF I hr C (cd (oy h2 h3 E l) hq)
 ·rename_i id i off;obtain⟨ob,J,⟨e,s,xs,rfl,hi,E,l,f⟩|⟨e,s,k,xs,hole,rfl,hi,E,l,f⟩⟩:=f
  rotate_left
  ·exact Rh I hX J hi E l f L
  obtain⟨g,n,cap,s',O,hg,M⟩:=hX;obtain⟨rfl,rfl,h3,h4,h5,F,h6,h7,h8⟩:=I.ok.objs id _ _ hg J;obtain⟨Q,N⟩:∃Q,xs[i]? =some Q:=⟨_,b_ hi⟩;have el:xs.getD i .any=Q:=ou N;rw[el]at f;have ur:Q.cells.length=s':=h5 _ (c_ N);have ph:i*s'+s'<=F.size:=by
   rw[h7];have:i+1<=cap:=by omega
   have:=g_ s' this;rw[k_,r_]at this;exact this
  have hr:=L g (i*s'+off) (F.extract (i*s'+off) (i*s'+off+sz)).toList M (by simp;omega) l (λj v B=>by
   rw[cell_of_row w g _ F e (0,0) h6];simp only[j_,s_]at B;split at B;·exact B
   ·cases B)
  have r:∀(j:Nat) (u:Value) (y:PV),F[i*s'+j]? =some u->Q.cells[j]? =some y->RelP D w u y:=λj u y z A=>by obtain⟨u',R,H⟩:=h8 i j _ y N A;rw[z]at R;cases R;exact H
  rcases f with⟨rfl,rfl,gc,C⟩|⟨rg,C⟩
  ·refine aF I hr C ?_;rw[<-gc];refine ER (by simp only[v_,aa_];omega) λj u y z A=>r j u y ?_ A;simp only[j_,s_]at z;split at z;·rw[S_]at z;exact z
   ·cases z
  ·rw[qo _ _ _ _ l (by omega)]at hr;refine aF I hr C ?_;show RelP D w _ _;cases hb:gE P t
   ·have:=l hb;subst this;have R:off<Q.cells.length:=by omega
    have H:i*s'+off<F.size:=by omega
    simp only[o8,PV.sub,d_ H,D_];refine r off _ _ (d_ H) ?_;rw[b_ R];simp[B_,b_ R]
   ·simp only[o8,PV.sub];refine .agg _ _ (by simp only[aa_,ar_,ae_];omega) λk u y z A=>?_;rw[l_]at A;split at A
    ·rename_i qr;rw[w_]at A;rw[s_]at z;split at z;·exact r (off+k) u y (by rw[<-H_];exact z) A
     ·cases z
    ·cases A
 ·exact f.elim
theorem Nw(e:Inv c θ D st a w){s d:TypeId}{x:Operand}{k:IntKind}{ds:TypeDesc}(g:o.op= .convert s d x)(b:P.underlying s=some ds)(hd:P.underlying d=some (.int k))(h:jp P st (.cvtI k (.of x)) K):Yields P o a w (Res c θ st a K):=by obtain⟨p,l,j⟩:=h;obtain⟨r,n,hn,f⟩:=ci (e.get l) j;refine aF e ?_ f (RelP.sc _);simp only[execOp,g,hn,convert,Sem.run_bind,run_underlying b,run_underlying hd,Result.andThen_ok];cases ds<;>simp[Conv.intToInt]
theorem P0(e:Inv c θ D st a w){x:Operand}{i:Nat}(l:o.op= .extract x i)(h:jp P st (.ext (.of x) i) K):Yields P o a w (Res c θ st a K):=by
 obtain⟨r,n,d⟩:=h;rcases d with⟨xs,rfl,p,hp,g⟩|⟨xs,rfl,p,hp,g⟩
 ·have k:RelP D w (a.eval x) (.tup xs):=e.get n;generalize j:a.eval x=v at k;cases k with
  |tup vs xs hs f=>
   have b:i<vs.size:=by rw[hs];exact(a_.1 hp).1
   refine aF e (v:=vs[i]) ?_ g (f i _ p (d_ b) hp);simp[execOp,l,j,Instr.extract,d_ b]
 ·obtain⟨vs,j,hs,f⟩:=e.get n;have b:i<vs.size:=by rw[hs];exact(a_.1 hp).1
  refine aF e (v:=vs[i]) ?_ g (f i _ p (d_ b) hp);simp[execOp,l,j,Instr.extract,d_ b]
theorem NG(d:Inv c θ D st a w){x:Operand}(r:o.op= .nilCheck x)(h:jp P st (.nilc (.of x)) K):Yields P o a w (Res c θ st a K):=by
 obtain⟨z,s,e,n⟩:=h;have k:=d.get s;rcases e with⟨p,rfl⟩|⟨id,o',rfl⟩|⟨id,i,o',rfl⟩|⟨f,y,rfl⟩|⟨f,ids,rfl⟩;·obtain⟨b,o',j,_⟩:=Ax (ye k);refine aF d (v:=a.eval x) ?_ n k;simp[execOp,r,j]
 ·obtain⟨g,_,j⟩:=k;refine aF d (v:=a.eval x) ?_ n (d.get s);simp[execOp,r,j]
 ·obtain⟨g,_,_,_,_,j⟩:=k;refine aF d (v:=a.eval x) ?_ n (d.get s);simp[execOp,r,j]
 ·have l:RelP D w (a.eval x) (.fn (.func f) y):=k;refine aF d (v:=a.eval x) ?_ n (d.get s);generalize u:a.eval x=v at l;cases l with|fn A vs xs hs C=>simp[execOp,r,u]
 ·obtain⟨B,_,_,j⟩:=k;refine aF d (v:=a.eval x) ?_ n (d.get s);simp[execOp,r,j]
end
theorem mi{α:Type}(xs:List α)(off:Nat)(ys:List α)(h:off+ys.length<=xs.length)(k:Nat):(splice xs off ys)[k]? =if off<=k/\k<off+ys.length then ys[k - off]? else xs[k]? :=by
 unfold splice;have hl:(xs.take off).length=off:=by simp;omega
 by_cases a:k<off;·rw[an_,h_ (by omega),if_neg (by omega),l_,if_pos a]
 ·rw[an_,i_ (by omega),hl];by_cases b:k<off+ys.length;·rw[h_ (by omega),if_pos ⟨by omega,b⟩]
  ·rw[i_ (by omega),if_neg (by omega),w_];congr 1;omega
theorem jH{α:Type}(xs:List α)(off:Nat)(ys:List α)(h:off+ys.length<=xs.length):(splice xs off ys).length=xs.length:=by unfold splice;simp;omega
theorem foldl_set(off:Nat):∀(l:List (Value×Nat)) (j:Nat) (a:Array Value),(∀(i:Nat) (x:Value×Nat),l[i]? =some x->x.2=j+i)->off+j+l.length<=a.size->
 (l.foldl (λcs x=>cs.setIfInBounds (off+x.2) x.1) a).size=a.size/\
 ∀k,(l.foldl (λcs x=>cs.setIfInBounds (off+x.2) x.1) a)[k]? =if off+j<=k/\k<off+j+l.length then(l[k - (off+j)]?).map (·.1)else a[k]?
 |[],j,a,_,_=>⟨rfl,λk=>by rw[if_neg (by simp)];rfl⟩
 |x::l,j,a,d,hl=>by
  have b:x.2=j:=d 0 x rfl;simp only[List.foldl_cons,U_]at hl⊢;obtain⟨e,f⟩:=foldl_set off l (j+1) (a.setIfInBounds (off+x.2) x.1) (λi y h=>by have:=d (i+1) y (by simpa using h);omega) (by simp;omega);refine⟨by rw[e];simp,λk=>?_⟩;rw[f k];by_cases g:k=off+j
  ·subst g;rw[if_neg (by omega),if_pos ⟨by omega,by omega⟩,b];have:off+j<a.size:=by omega
   simp[this]
  ·by_cases c:off+(j+1)<=k/\k<off+(j+1)+l.length
   ·rw[if_pos c,if_pos ⟨by omega,by omega⟩];have:k - (off+j)=(k - (off+(j+1)))+1:=by omega
    rw[this];rfl
   ·rw[if_neg c,if_neg (by omega),b,T_ (by omega)]
theorem H9(off:Nat)(vs a:Array Value)(h:off+vs.size<=a.size):(vs.zipIdx.foldl (λcs (c,j)=>cs.setIfInBounds (off+j) c) a).size=a.size/\∀k,(vs.zipIdx.foldl (λcs (c,j)=>cs.setIfInBounds (off+j) c) a)[k]? =if off<=k/\k<off+vs.size then vs[k - off]? else a[k]? :=by
 have e:vs.zipIdx.foldl (λcs (c,j)=>cs.setIfInBounds (off+j) c) a=(vs.toList.zipIdx).foldl (λcs x=>cs.setIfInBounds (off+x.2) x.1) a:=by rw[<-Array.foldl_toList];simp
 rw[e];obtain⟨f,g⟩:=foldl_set off vs.toList.zipIdx 0 a (λi x b=>by rw[ak_]at b;cases d:vs.toList[i]? with|none=>rw[d]at b;cases b|some y=>rw[d]at b;simp at b;subst b;simp) (by simpa using h)
 refine⟨f,λk=>?_⟩;rw[g k];simp only[S_,List.length_zipIdx,v_];split;·rw[ak_];simp[Option.map_map,Function.comp_def]
 ·rfl
section
variable {P:Program} {o:Oper} {c:Ctx} {θ:List Loc} {D:Nat->Prop} {st:St} {a:Act} {w:World} {K:AV->Prop}
theorem N9(b:Nat->Option (Nat×Nat)):∀(parts:List (Nat×Value)) (h:List (Nat×Nat×AV)) (a:Array Value) (e:List BV),parts.length=h.length->
 (∀(i:Nat) (x:Nat×Value) (q:Nat×Nat×AV),parts[i]? =some x->h[i]? =some q->b x.1=some (q.1,q.2.1)/\RelA θ D w x.2 q.2.2)->
 (∀q∈h,q.2.2.ok=true/\q.2.2.cells.length=q.2.1/\q.1+q.2.1<=e.length)->a.size=e.length->(∀(i:Nat) (u:Value) (x:BV),a[i]? =some u->e[i]? =some x->RelB θ D w u x)->
 ∃d,Instr.fill b a parts=some d/\d.size=(h.foldl (λcs q=>splice cs q.1 q.2.2.cells) e).length/\∀(i:Nat) (u:Value) (x:BV),d[i]? =some u->(h.foldl (λcs q=>splice cs q.1 q.2.2.cells) e)[i]? =some x->RelB θ D w u x
 |[],[],a,e,_,_,_,hs,hr=>⟨a,rfl,hs,hr⟩
 |(i,v)::parts,q::h,a,e,hl,hp,s,hs,hr=>by
  obtain⟨B,C⟩:=hp 0 _ _ rfl rfl;obtain⟨E,F,M⟩:=s q (by simp);obtain⟨H,I⟩:=pi C E;have p:v.cells.size=q.2.1:=by rw[<-F];exact H
  have l:=jH e q.1 q.2.2.cells (by omega);obtain⟨J,L⟩:=H9 q.1 v.cells a (by omega);obtain⟨d,y,z,A⟩:=N9 b parts h (v.cells.zipIdx.foldl (λcs (c,j)=>cs.setIfInBounds (q.1+j) c) a) (splice e q.1 q.2.2.cells) (by simpa using hl) (λi x r g f=>hp (i+1) x r (by simpa using g) (by simpa using f)) (λr f=>by rw[l];exact s r (by simp[f])) (by rw[J,l];exact hs)
   (λk u x n g=>by
    rw[L k]at n;rw[mi e q.1 q.2.2.cells (by omega)]at g;split at n;·rw[if_pos (by omega)]at g;exact(I (k - q.1) u x n g).1
    ·rw[if_neg (by omega)]at g;exact hr k u x n g)
  refine⟨d,?_,z,A⟩;simp only[Instr.fill,B];rw[if_neg (by simp[p];omega)];exact y
theorem HZ(z:Array Value):∀(i:Nat) (u:Value) (x:BV),z[i]? =some u->(z.toList.map λv=>bn v)[i]? =some x->RelB θ D w u x:=by intro i u x b a;rw[e_,j_,b]at a;simp at a;subst a;exact yf u
theorem LR(Y:Inv c θ D st a w){t:TypeId}{parts:Array (Nat×Operand)}{z:Value}{M:List (Nat×Nat×SX)}(ho:o.op= .build t parts)(hz:cX P t=some z)(d:partsOf P t parts.toList=some M) (h:jp P st (.build z.cells.toList M) K):Yields P o a w (Res c θ st a K):=by
 obtain⟨O,R,y,hk⟩:=h;obtain⟨q1,q2⟩:=mapM_some R;have J:=hz;simp only[cX,o_]at J;obtain⟨it,F,L⟩:=J;have p:∀(f:Nat->Option (Nat×Nat)),(∀(i:Nat) (x:Nat×Operand) (s:Nat×Nat×SX),parts.toList[i]? =some x->M[i]? =some s->f x.1=some (s.1,s.2.1)/\s.2.2=SX.of x.2)->parts.toList.length=M.length->∃b,Instr.fill f z.cells (parts.map fun(i,x)=>(i,a.eval x)).toList=some b/\RelA θ D w (.agg b) (.agg (O.foldl (λcs q=>splice cs q.1 q.2.2.cells) (z.cells.toList.map λv=>bn v))):=by
  intro f C H
  obtain⟨b,r,u,e3⟩:=N9 (θ:=θ) (D:=D) (w:=w) f (parts.map fun(i,x)=>(i,a.eval x)).toList O z.cells (z.cells.toList.map λv=>bn v) (by simp;rw[<-q1,<-H];simp) (λi x q g N=>by simp only[aq_,e_]at g;cases B:parts.toList[i]? with|none=>rw[B]at g;simp at g|some pr=>rw[B]at g;simp at g;subst g;obtain⟨s,hs⟩:=bb (l:=M) (m:=O) q1 N;have:=q2 i s q hs N;simp only[f_]at this;obtain⟨av,E,rfl⟩:=this;obtain⟨p1,p2⟩:=C i pr s B hs;refine⟨p1,?_⟩;rw[p2]at E;exact Y.get E) (λq N=>by have:=y q N;simpa using this) (by simp) (HZ z.cells)
  exact⟨b,r,b,rfl,u,e3⟩
 have j:∃b,P.built t (parts.map fun(i,x)=>(i,a.eval x)).toList=some b/\RelA θ D w (.agg b) (.agg (O.foldl (λcs q=>splice cs q.1 q.2.2.cells) (z.cells.toList.map λv=>bn v))):=by
  unfold partsOf at d;split at d
  ·rename_i fs A;simp only[o_]at d;obtain⟨k,C,d⟩:=d;obtain⟨T,U⟩:=mapM_some d;obtain⟨b,r,u⟩:=p (k.toArray[·]?) (λi x s g hs=>by have:=U i x s g hs;simp only[f_]at this;obtain⟨pl,I,rfl⟩:=this;exact⟨by simp[I],rfl⟩) T
   refine⟨b,?_,u⟩;simp only[Program.built,F,A,L,C];exact r
  ·rename_i n e A;simp only[o_]at d;obtain⟨ie,Q,d⟩:=d;obtain⟨T,U⟩:=mapM_some d;obtain⟨b,r,u⟩:=p (λi=>some (i*ie.size,ie.size)) (λi x s g hs=>by have:=U i x s g hs;simp only[A_]at this;subst this;exact⟨rfl,rfl⟩) T
   refine⟨b,?_,u⟩;simp only[Program.built,F,A,L,Q];exact r
  ·cases d
 obtain⟨b,r,u⟩:=j;refine aF Y ?_ hk u;simp[execOp,ho,run_build w t _ _ r]
end
section
variable {c:Ctx} {θ:List Loc} {D:Nat->Prop} {st:St} {a:Act} {w:World}
theorem j3(w:World)(o:Obj):Below w.heap.size w (w.alloc o):=(Below.refl _ _).alloc (u_ _) o
theorem Inv.allocOwn(z:Inv c θ D st a w){l:Loc}{o:AObj}{ob:Obj}(hl:∀g,l.has g->g=w.heap.size)(J:∀θ',(∀(i:Nat) (l:Loc),θ[i]? =some l->θ'[i]? =some l)->RelO θ' D (w.alloc ob) l o): Inv c (θ++[l]) D {st with hp:=st.hp++[o]} a (w.alloc ob):=by have H:Inv c θ D st a (w.alloc ob):=z.below (j3 w ob) z.w0le (λ_ h=>h) (λ_ h=>.inl h);refine H.push (J _ λi l' E=>get_append E) λg hg=>?_;cases hl g hg;refine⟨z.w0le,by simp,λhd=>by have:=z.ok.dlt _ hd;omega,λi li E I=>?_⟩;have:=(z.ok.olt i li _ E I).1;omega
theorem Inv.pushAt(I:Inv c θ D st a w){pl:Option Nat}(H:Ai st pl){l:Loc}{o:AObj}(N:∀θ',(∀(i:Nat) (l:Loc),θ[i]? =some l->l≠.no->θ'[i]? =some l)->RelO θ' D w l o) (hl:∀g,l.has g->c.w0.heap.size<=g/\g<w.heap.size/\¬D g/\∀(i:Nat) (li:Loc),θ[i]? =some li->¬li.has g):∃θ',Inv c θ' D (st.new pl o) a w/\θ'[st.nid pl]? =some l:=by cases pl with|none=>exact⟨θ++[l],I.push (N _ λi l' z _=>get_append z) hl,by simp[St.nid,<-I.ok.len]⟩|some s=>have E:=I.free_no H;have J:s<θ.length:=(a_.1 E).1;refine⟨θ.set s l,I.fill H (N _ λi l' z hn=>?_) hl,by simp[St.nid,J]⟩;rw[m_ (λe=>hn (by subst e;rw[E]at z;exact(W_ z).symm))];exact z
theorem Inv.allocAt(z:Inv c θ D st a w){pl:Option Nat}(E:Ai st pl){l:Loc}{o:AObj}{ob:Obj}(hl:∀g,l.has g->g=w.heap.size)(N:∀θ',(∀(i:Nat) (l:Loc),θ[i]? =some l->l≠.no->θ'[i]? =some l)->RelO θ' D (w.alloc ob) l o): ∃θ',Inv c θ' D (st.new pl o) a (w.alloc ob)/\θ'[st.nid pl]? =some l:=by have H:Inv c θ D st a (w.alloc ob):=z.below (j3 w ob) z.w0le (λ_ h=>h) (λ_ h=>.inl h);refine H.pushAt E N λg hg=>?_;cases hl g hg;refine⟨z.w0le,by simp,λhd=>by have:=z.ok.dlt _ hd;omega,λi li J I=>?_⟩;have:=(z.ok.olt i li _ J I).1;omega
theorem Inv.store(z:Inv c θ D st a w){id g:Nat}{l:Loc}{o':AObj}{w':World}(hid:θ[id]? =some l)(hl:l.has g)(gc:w'.os=w.os)(ht:w'.tape=w.tape)(U:w'.output=w.output)(hsz:w'.heap.size=w.heap.size) (E:∀k,k≠g->w'.heap[k]? =w.heap[k]?) (ho:RelO θ D w' l o'):Inv c θ D {st with hp:=st.hp.set id o'} a w':=by
 have R:∀b,D b->w'.heap[b]? =w.heap[b]? :=λb hb=>E b λe=>(z.ok.olt id l g hid hl).2 (e▸hb);refine⟨z.size,z.defers,⟨by simp[z.ok.len],λb hb=>by rw[hsz];exact z.ok.dlt b hb,z.ok.inj,λi li Y N I=>by rw[hsz];exact z.ok.olt i li Y N I,λi li oi N H=>?_⟩,⟨gc.trans z.keep.os,ht.trans z.keep.tape,U.trans z.keep.output,by rw[hsz];exact z.keep.size,λk hk hn=>(E k λe=>?_).trans (z.keep.block k hk hn)⟩,z.dsub,z.dnew,z.onew,λk x hk=>(z.fr k x hk).mono (λ_ h=>h) R,z.fix⟩
 ·by_cases J:i=id
  ·subst J;rw[hid]at N;cases N;have el:i<st.hp.length:=by rw[<-z.ok.len];exact(a_.1 hid).1
   rw[t_ el]at H;cases H;exact ho
  ·rw[m_ (Ne.symm J)]at H;refine(z.ok.objs i li oi N H).mono (λ_ h=>h) R λY I=>E Y λe=>J ?_;subst e;exact z.ok.inj i id li l Y N hid I hl
 ·subst e;rcases z.onew id l k hid hl with h1|h1;·exact hn h1
  ·omega
theorem ni(f:AV->AV):∀(fr:List (Nat×AV)) (k:Nat),look (fr.map λx=>(x.1,f x.2)) k=(look fr k).map f
 |[],_=>rfl
 |(j,x)::fr,k=>by
  simp only[List.map_cons,look];split;·rfl
  ·exact ni f fr k
theorem RelB.kill{θ:List Loc}{D:Nat->Prop}{w:World}{v:Value}{x:BV}{id:Nat}{l l':Loc}(hid:θ[id]? =some l)(J:∀g,l≠.blk g)(N:∀g,l≠.mp g)(h:RelB θ D w v x):RelB (θ.set id l') D w v (x.kill id):=by
 have z:∀(k:Nat),k≠id->(θ.set id l')[k]? =θ[k]? :=λk I=>m_ (Ne.symm I);cases x with
 |pv p=>exact h|nils=>exact h|sl k=>
  simp only[BV.kill];split;·exact RelP.any v
  ·rename_i I;obtain⟨lk,E,H⟩:=h;exact⟨lk,(z k I).trans E,H⟩
 |ptr k off=>obtain⟨g,E,H⟩:=h;refine⟨g,(z k λe=>?_).trans E,H⟩;subst e;rw[hid]at E;cases E;exact J g rfl
 |elt k i off=>
  simp only[BV.kill];split;·exact RelP.any v
  ·rename_i I;obtain⟨g,n,cap,sz,O,E,H⟩:=h;exact⟨g,n,cap,sz,O,(z k I).trans E,H⟩
 |clo f ids=>obtain⟨U,E,H,Y⟩:=h;refine⟨U,E,λj k g R hg=>(z k λe=>?_).trans (H j k g R hg),Y⟩;have:=H j k g R hg;subst e;rw[hid]at this;cases this;exact J g rfl
 |mp k=>obtain⟨g,E,H⟩:=h;refine⟨g,(z k λe=>?_).trans E,H⟩;subst e;rw[hid]at E;cases E;exact N g rfl
 |full p=>exact h|ifc=>exact h
theorem RelA.kill{θ:List Loc}{D:Nat->Prop}{w:World}{v:Value}{x:AV}{id:Nat}{l l':Loc}(hid:θ[id]? =some l)(H:∀g,l≠.blk g)(I:∀g,l≠.mp g)(h:RelA θ D w v x):RelA (θ.set id l') D w v (x.kill id):=by
 cases x with
 |b x=>exact RelB.kill hid H I h|agg xs=>obtain⟨vs,rfl,J,N⟩:=h;refine⟨vs,rfl,by simp[J],λi u x R E=>?_⟩;rw[e_]at E;cases z:xs[i]? with|none=>rw[z]at E;cases E|some y=>rw[z]at E;cases E;exact(N i u y R z).kill hid H I
 |tup xs=>obtain⟨vs,rfl,J,N⟩:=h;refine⟨vs,rfl,by simp[J],λi u x R E=>?_⟩;rw[e_]at E;cases z:xs[i]? with|none=>rw[z]at E;cases E|some y=>rw[z]at E;cases E;exact(N i u y R z).kill hid H I
theorem oF{θ θ':List Loc}{D D':Nat->Prop}{w:World}{f:BV->BV}{hole:Option (Nat×Nat×BV)}(M:∀u i j b,hole=some (i,j,b)->RelB θ D w u b->RelB θ' D' w u (f b))(hD:∀b,D b->D' b){g n cap s:Nat}{O:Nat->Prop}{e:TypeId}{sz:Nat}{k:Av.K}{xs:List PV} (h:RelO θ D w (.hdr g n cap s O) (.tree e sz k xs hole)):RelO θ' D' w (.hdr g n cap s O) (.tree e sz k xs (Jo f hole)):=by
 obtain⟨A,B,C,E,F,c,Os,H,I,J,L,l,d⟩:=h;refine⟨A,B,C,E,F,c,Os,H,I,J,L,λi j b r=>?_,λi j x y N P=>?_⟩;·cases hole with|none=>cases r|some q=>obtain⟨i',Q,v⟩:=q;cases r;exact l _ _ _ rfl
 ·obtain⟨u,z,a⟩:=d i j x y N P;refine⟨u,z,?_⟩;have:cJ (Jo f hole) i j=(cJ hole i j).map f:=by cases hole with|none=>rfl|some q=>obtain⟨i',Q,v⟩:=q;simp only[Jo,cJ];split<;>rfl
  rw[this];cases p:cJ hole i j with|none=>rw[p]at a;exact a.mono hD (λ_ _=>rfl) λ_ _=>rfl|some b=>rw[p]at a;exact M u i j b (qk p) a
theorem RelO.kill{θ:List Loc}{D:Nat->Prop}{w:World}{lo:Loc}{o:AObj}{id:Nat}{l l':Loc}(hid:θ[id]? =some l)(E:∀g,l≠.blk g)(H:∀g,l≠.mp g)(h:RelO θ D w lo o):RelO (θ.set id l') D w lo (o.kill id):=by
 cases lo<;>cases o<;>simp only[RelO,AObj.kill]at h⊢<;>try exact h
 case nil.tree=>exact⟨h.1,by rw[h.2];rfl⟩
 case hdr.tree g n cap s O e sz kk xs hole=>exact oF (λu i j b _ h=>h.kill hid E H) (λ_ h=>h) h
 obtain⟨J,N,R,U⟩:=h;refine⟨J,N,by simp[R],λi u x Y I=>?_⟩;rw[e_]at I;rename_i cs;cases z:cs[i]? with|none=>rw[z]at I;cases I|some y=>rw[z]at I;cases I;exact(U i u y Y z).kill hid E H
theorem Inv.move(z:Inv c θ D st a w){id:Nat}{l l':Loc}{o':AObj}{w':World}(hid:θ[id]? =some l)(rg:∀g,l≠.blk g)(ur:∀g,l≠.mp g)(CT:w'.os=w.os)(ht:w'.tape=w.tape)(CD:w'.output=w.output)(hsz:w.heap.size<=w'.heap.size) (H:∀k,k<w.heap.size->¬l.has k->w'.heap[k]? =w.heap[k]?) (el:∀g,l'.has g->g<w'.heap.size/\(l.has g\/w.heap.size<=g)) (ho:RelO (θ.set id l') D w' l' o'): Inv c (θ.set id l') D (st.moved id o') a w':=by
 show Inv c (θ.set id l') D {(st.kill id)with hp:=(st.kill id).hp.set id o'} a w';have At:∀b,D b->w'.heap[b]? =w.heap[b]? :=λb hb=>H b (z.ok.dlt b hb) λe=>(z.ok.olt id l b hid e).2 hb;have Bx:id<θ.length:=(a_.1 hid).1;have E:∀(i:Nat) (li:Loc),(θ.set id l')[i]? =some li->(i=id/\li=l')\/(i≠id/\θ[i]? =some li):=λi li N=>by
  by_cases Y:i=id;·subst Y;rw[t_ Bx]at N;cases N;exact .inl ⟨rfl,rfl⟩
  ·rw[m_ (Ne.symm Y)]at N;exact .inr ⟨Y,N⟩
 have R:∀(i:Nat) (li:Loc) (g:Nat),i≠id->θ[i]? =some li->li.has g->¬l'.has g:=λi li g Y N hg e=>by
  rcases(el g e).2 with J|J;·exact Y (z.ok.inj i id li l g N hid hg J)
  ·have:=(z.ok.olt i li g N hg).1;omega
 refine⟨z.size,z.defers,⟨by simp[St.kill,z.ok.len],λb hb=>q_ (z.ok.dlt b hb) hsz,λi j li lj g N hj gc ph=>?_,λi li g N hg=>?_,λi li oi N I=>?_⟩,⟨CT.trans z.keep.os,ht.trans z.keep.tape,CD.trans z.keep.output,L_ z.keep.size hsz,λk hk hn=>(H k (q_ hk z.keep.size) λe=>?_).trans (z.keep.block k hk hn)⟩,z.dsub,z.dnew,λi li g N hg=>?_,λk x hk=>?_,λk lk hk hf=>?_⟩
 ·rcases E i li N with⟨rfl,rfl⟩|⟨J,U⟩<;>rcases E j lj hj with⟨rfl,rfl⟩|⟨h3,h4⟩;·rfl
  ·exact absurd gc (R j lj g h3 h4 ph)
  ·exact absurd ph (R i li g J U gc)
  ·exact z.ok.inj i j li lj g U h4 gc ph
 ·rcases E i li N with⟨rfl,rfl⟩|⟨J,U⟩
  ·refine⟨(el g hg).1,λhd=>?_⟩;rcases(el g hg).2 with h3|h3;·exact(z.ok.olt i l g hid h3).2 hd
   ·have:=z.ok.dlt g hd;omega
  ·exact⟨q_ (z.ok.olt i li g U hg).1 hsz,(z.ok.olt i li g U hg).2⟩
 ·rcases E i li N with⟨rfl,rfl⟩|⟨J,U⟩
  ·have BT:i<(st.kill i).hp.length:=by simp[St.kill,<-z.ok.len];exact Bx
   rw[t_ BT]at I;cases I;exact ho
  ·rw[m_ (Ne.symm J)]at I;simp only[St.kill,e_]at I;cases wr:st.hp[i]? with|none=>rw[wr]at I;cases I|some ob=>rw[wr]at I;cases I;exact((z.ok.objs i li ob U wr).kill hid rg ur).mono (λ_ h=>h) At λg hg=>H g (z.ok.olt i li g U hg).1 λe=>J (z.ok.inj i id li l g U hid hg e)
 ·rcases z.onew id l k hid e with J|J;·exact hn J
  ·omega
 ·rcases E i li N with⟨rfl,rfl⟩|⟨J,U⟩
  ·rcases(el g hg).2 with h3|h3;·exact z.onew i l g hid h3
   ·exact .inr (L_ z.keep.size h3)
  ·exact z.onew i li g U hg
 ·simp only[St.kill,ni]at hk;cases qr:look st.fr k with|none=>rw[qr]at hk;cases hk|some y=>rw[qr]at hk;cases hk;exact((z.fr k y qr).kill hid rg ur).mono (λ_ h=>h) At
 ·have J:=z.fix k lk hk hf;by_cases Bk:k=id
  ·subst Bk;rw[hid]at J;cases J;cases l<;>simp[Loc.fixed]at hf;·exact absurd rfl (rg _)
   ·exact absurd rfl (ur _)
  ·rw[m_ (Ne.symm Bk)];exact J
end
section
variable {D D':Nat->Prop} {w w':World}
theorem RelB.ren{θ θ2:List Loc}{ρ:Nat->Nat}{v:Value}{x:BV}(z:∀k l,k∈x.ids->θ[k]? =some l->θ2[ρ k]? =some l)(h:RelB θ D w v x):RelB θ2 D w v (x.ren ρ):=by
 cases x<;>simp only[RelB,BV.ren,BV.ids,List.mem_singleton]at h z⊢;·exact h
 ·exact h
 ·obtain⟨l,E,H⟩:=h;exact⟨l,z _ _ rfl E,H⟩
 ·obtain⟨g,E,H⟩:=h;exact⟨g,z _ _ rfl E,H⟩
 ·obtain⟨g,n,cap,sz,O,E,H⟩:=h;exact⟨g,n,cap,sz,O,z _ _ rfl E,H⟩
 ·rename_i f ids;obtain⟨R,E,H,U⟩:=h;refine⟨R,by simp[E],λk id g I N=>?_,U⟩;rw[e_]at I;cases J:ids[k]? with|none=>rw[J]at I;cases I|some i=>rw[J]at I;cases I;exact z _ _ (c_ J) (H k i g J N)
 ·obtain⟨g,E,H⟩:=h;exact⟨g,z _ _ rfl E,H⟩
 ·exact h
 ·exact h
theorem uV{xs:List BV}{x:BV}{k:Nat}{i:Nat}(b:xs[i]? =some x)(a:k∈x.ids):k∈xs.flatMap BV.ids:=as_.2 ⟨x,c_ b,a⟩
theorem vY{θ θ2:List Loc}{D2:Nat->Prop}{c:World}{vs:Array Value}{xs:List BV}{g:BV->BV}(d:vs.size=xs.length)(e:∀(i:Nat) (u:Value) (x:BV),vs[i]? =some u->xs[i]? =some x->RelB θ D w u x) (hg:∀(i:Nat) (u:Value) (x:BV),xs[i]? =some x->RelB θ D w u x->RelB θ2 D2 c u (g x)):vs.size=(xs.map g).length/\∀(i:Nat) (u:Value) (x:BV),vs[i]? =some u->(xs.map g)[i]? =some x->RelB θ2 D2 c u x:=by refine⟨by simp[d],λi u x f b=>?_⟩;rw[e_]at b;cases a:xs[i]? with|none=>rw[a]at b;cases b|some y=>rw[a]at b;cases b;exact hg i u y a (e i u y f a)
theorem RelA.ren{θ θ2:List Loc}{ρ:Nat->Nat}{v:Value}{x:AV}(z:∀k l,k∈x.ids->θ[k]? =some l->θ2[ρ k]? =some l)(h:RelA θ D w v x):RelA θ2 D w v (x.ren ρ):=by
 cases x with
 |b x=>exact RelB.ren z h|agg xs=>obtain⟨vs,rfl,E,H⟩:=h;obtain⟨I,J⟩:=vY (θ2:=θ2) (g:=BV.ren ρ) E H λi u x R hr=>hr.ren λk l N hl=>z k l (uV R N) hl;exact⟨vs,rfl,I,J⟩
 |tup xs=>obtain⟨vs,rfl,E,H⟩:=h;obtain⟨I,J⟩:=vY (θ2:=θ2) (g:=BV.ren ρ) E H λi u x R hr=>hr.ren λk l N hl=>z k l (uV R N) hl;exact⟨vs,rfl,I,J⟩
theorem RelO.ren{θ θ2:List Loc}{ρ:Nat->Nat}{l:Loc}{o:AObj}(z:∀k l,k∈o.ids->θ[k]? =some l->θ2[ρ k]? =some l)(h:RelO θ D w l o):RelO θ2 D w l (o.ren ρ):=by
 cases l<;>cases o<;>simp only[RelO,AObj.ren]at h⊢<;>try exact h
 case nil.tree=>exact⟨h.1,by rw[h.2];rfl⟩
 case hdr.tree hole=>exact oF (λu i j b Y hr=>hr.ren λk l E hl=>z k l (by rw[Y];exact E) hl) (λ_ h=>h) h
 obtain⟨H,I,J,N⟩:=h;obtain⟨R,U⟩:=vY (θ2:=θ2) (g:=BV.ren ρ) J N λi u x hx hr=>hr.ren λk l E hl=>z k l (uV hx E) hl;exact⟨H,I,R,U⟩
theorem RelB.killB{θ θ2:List Loc}{B:List Nat}{v:Value}{x:BV}(J:∀(k:Nat) (l:Loc),k∉B->θ[k]? =some l->θ2[k]? =some l)(I:∀(k:Nat) (l:Loc),l.fixed=true->θ[k]? =some l->θ2[k]? =some l) (h:RelB θ D w v x):RelB θ2 D w v (x.killB B):=by
 cases x with
 |pv p=>exact h|nils=>exact h|sl k=>
  by_cases H:k∈B
  ·have:(BV.sl k).killB B= .pv .any:=by simp[BV.killB,H]
   rw[this];exact RelP.any v
  ·have:(BV.sl k).killB B= .sl k:=by simp[BV.killB,H]
   rw[this];obtain⟨l,z,E⟩:=h;exact⟨l,J _ _ H z,E⟩
 |ptr k off=>obtain⟨g,z,E⟩:=h;exact⟨g,I _ _ rfl z,E⟩
 |elt k i off=>
  by_cases H:k∈B
  ·have:(BV.elt k i off).killB B= .pv .any:=by simp[BV.killB,H]
   rw[this];exact RelP.any v
  ·have:(BV.elt k i off).killB B= .elt k i off:=by simp[BV.killB,H]
   rw[this];obtain⟨g,n,cap,sz,O,z,E⟩:=h;exact⟨g,n,cap,sz,O,J _ _ H z,E⟩
 |clo f ids=>obtain⟨U,z,E,N⟩:=h;exact⟨U,z,λk id g R f2=>I _ _ rfl (E k id g R f2),N⟩
 |mp k=>obtain⟨g,z,E⟩:=h;exact⟨g,I _ _ rfl z,E⟩
 |full p=>exact h|ifc=>exact h
theorem RelA.killB{θ θ2:List Loc}{B:List Nat}{v:Value}{x:AV}(z:∀(k:Nat) (l:Loc),k∉B->θ[k]? =some l->θ2[k]? =some l)(E:∀(k:Nat) (l:Loc),l.fixed=true->θ[k]? =some l->θ2[k]? =some l) (h:RelA θ D w v x):RelA θ2 D w v (x.killB B):=by
 cases x with
 |b x=>exact RelB.killB z E h|agg xs=>obtain⟨vs,rfl,H,I⟩:=h;obtain⟨J,N⟩:=vY (θ2:=θ2) (g:=BV.killB B) H I λi u x R hr=>hr.killB z E;exact⟨vs,rfl,J,N⟩
 |tup xs=>obtain⟨vs,rfl,H,I⟩:=h;obtain⟨J,N⟩:=vY (θ2:=θ2) (g:=BV.killB B) H I λi u x R hr=>hr.killB z E;exact⟨vs,rfl,J,N⟩
theorem RelO.killB{θ θ2:List Loc}{B:List Nat}{l:Loc}{o:AObj}(z:∀(k:Nat) (l:Loc),k∉B->θ[k]? =some l->θ2[k]? =some l)(E:∀(k:Nat) (l:Loc),l.fixed=true->θ[k]? =some l->θ2[k]? =some l) (h:RelO θ D w l o):RelO θ2 D w l (o.killB B):=by
 cases l<;>cases o<;>simp only[RelO,AObj.killB]at h⊢<;>try exact h
 case nil.tree=>exact⟨h.1,by rw[h.2];rfl⟩
 case hdr.tree hole=>exact oF (λu i j b Y hr=>hr.killB z E) (λ_ h=>h) h
 obtain⟨H,I,J,N⟩:=h;obtain⟨R,U⟩:=vY (θ2:=θ2) (g:=BV.killB B) J N λi u x hx hr=>hr.killB z E;exact⟨H,I,R,U⟩
theorem RelB.flatB{θ:List Loc}{v:Value}{x:BV}(z:x.FlatB)(h:RelB θ D w v x):RelB θ D' w' v x:=by cases x<;>simp only[RelB,BV.FlatB]at h z⊢<;>first|exact h.flat z|exact h|exact z.elim
theorem RelA.flatA{θ:List Loc}{v:Value}{x:AV}(I:x.FlatA)(h:RelA θ D w v x):RelA θ D' w' v x:=by
 cases x with
 |b x=>exact RelB.flatB I h|agg xs=>obtain⟨vs,N,E,H⟩:=h;exact⟨vs,N,E,λi u x J z=>(H i u x J z).flatB (I x (c_ z))⟩
 |tup xs=>obtain⟨vs,N,E,H⟩:=h;exact⟨vs,N,E,λi u x J z=>(H i u x J z).flatB (I x (c_ z))⟩
theorem RelT.flatT{q:Option (TypeId×Nat×Av.K)}{O:Nat->Prop}{v:Value}{p:PV}(h:RelT D w q O v p):FlatT q p->RelT D' w q O v p:=by
 induction h with
 |flat O v p h=>intro z;cases z with|flat _ hp=>exact .flat O v p (h.flat hp)
 |nil q O a=>intro _;exact .nil q O a|hdr e sz k O g cap xs p cs val Os hp hcap hmax hsz hg hcs H hOs hdj hc _ R=>intro z;cases z with|sl _ _ _ _ E I z=>have:E=xs:=Oh (I.symm.trans hp);subst this;exact .hdr e sz k O g cap E p cs val Os hp hcap hmax hsz hg hcs H hOs hdj hc λi j x y J N=>R i j x y J N (z i j x y J N)
theorem RelO.flatO{θ:List Loc}{l:Loc}{o:AObj}(J:o.FlatO)(h:RelO θ D w l o):RelO θ D' w l o:=by
 cases l<;>cases o<;>simp only[RelO,AObj.FlatO]at h J⊢<;>try exact h
 ·obtain⟨cv,H,I,z⟩:=h;exact⟨cv,H,I,λi u x hu E=>(z i u x hu E).flatB (J x (c_ E))⟩
 ·obtain⟨H,I,z,h4,h5,c,h6,h7,h8⟩:=h;exact⟨H,I,z,h4,h5,c,h6,h7,λi j x y E R=>let⟨u,e1,N⟩:=h8 i j x y E R;⟨u,e1,N.flat (J x (c_ E) y (c_ R))⟩⟩
 ·obtain⟨H,I,z,h4,h5,c,Os,h6,h7,h8,h9,gc,el⟩:=h;refine⟨H,I,z,h4,h5,c,Os,h6,h7,h8,h9,gc,λi j x y E R=>?_⟩;obtain⟨u,e1,N⟩:=el i j x y E R;refine⟨u,e1,?_⟩;rename_i hole;cases hq:cJ hole i j with|none=>rw[hq]at N;exact N.flatT (J.2 i j x y E R)|some b=>rw[hq]at N;exact N.flatB (J.1 i j b (qk hq))
 ·obtain⟨es,ck,H,I,z⟩:=h;exact⟨es,ck,H,I,λi en Y he U=>⟨(z i en Y he U).1.flat (J Y (c_ U)).1,(z i en Y he U).2.flat (J Y (c_ U)).2⟩⟩
end
section
variable {P:Program} {o:Oper} {c:Ctx} {θ:List Loc} {D:Nat->Prop} {st:St} {a:Act} {w:World}
theorem dJ(w:World)(o:Obj)(k:Nat)(h:k<w.heap.size):(w.alloc o).heap[k]? =w.heap[k]? :=Below.heap_alloc w o k h
theorem ek(w:World)(o:Obj):(w.alloc o).heap[w.heap.size]? =some o:=by show(w.heap.push o)[w.heap.size]? =_;simp
def Leaves(P:Program)(o:Oper)(c:Ctx)(K KP:St->Prop)(a:Act)(w:World):Prop:=
 ∀(next:Act->World->Prop) (Q:Exit->Act->World->Prop),(∀d w',(∃b,K b/\Rel c b d w')->next d w')->(∀e w',(rU e/\∃b,KP b/\Rel c b a w')->Q (.panic e) a w')->o.wp P a w next Q
theorem BE{K KP:St->Prop}{b:AV->Prop}(hd:∀k,o.dst=some k->k<c.n)(h:Yields P o a w (Res c θ st a b))(e:∀x,b x->K (st.putO o.dst x)):Leaves P o c K KP a w:=λ_ _ hn _=>h.wp λ_ _ ⟨x,D',g,d,f⟩=>hn _ _ ⟨_,e x g,θ,D',d.put hd f⟩
theorem DG{hp:List AObj}{x:BV}{p:PV}(h:za hp false x=some p):x.toPV=some p:=by
 unfold za at h;split at h;·cases h
 ·exact h
theorem Kt{hp:List AObj}{x:AV}{p:PV}(h:kF hp false x=some p):x.toPV=some p:=by
 cases x with
 |b x=>exact DG h|agg xs=>
  simp only[kF,AV.toPV,f_]at h⊢;obtain⟨c,d,rfl⟩:=h;refine⟨c,?_,rfl⟩;have:∀(l:List BV) (c:List PV),l.mapM (za hp false)=some c->l.mapM BV.toPV=some c:=by intro l;induction l with|nil=>intro c h;exact h|cons x l f=>intro c h;rw[ay_]at h⊢;simp only[al_,ax_,o_,A_]at h⊢;obtain⟨a,d,m,e,rfl⟩:=h;exact⟨a,DG d,m,f _ e,rfl⟩
  exact this xs c d
 |tup xs=>exact h
theorem LK(g:Inv c θ D st a w){D':Nat->Prop}(hD:∀b,D b->D' b){bor:Bool}{v:Value}{x:BV}{p:PV}(hO:bor=true->∀id l,id∈x.ids->θ[id]? =some l->∀b,l.has b->D' b)(d:RelB θ D w v x)(h:za st.hp bor x=some p):RelP D' w v p:=by
 unfold za at h;split at h
 ·rename_i id;cases bor;·cases h
  ·obtain⟨l,e,f⟩:=OS g.ok d h;exact f D' hD (hO rfl id l (by simp[BV.ids]) e)
 ·exact(mg d h).mono hD (λ_ _=>rfl)
theorem H0(g:Inv c θ D st a w){D':Nat->Prop}(hD:∀b,D b->D' b){bor:Bool}{v:Value}{x:AV}{p:PV}(hO:bor=true->∀id l,id∈x.ids->θ[id]? =some l->∀b,l.has b->D' b)(d:RelA θ D w v x)(h:kF st.hp bor x=some p):RelP D' w v p:=by
 cases x with
 |b x=>exact LK g hD hO d h|agg xs=>simp only[kF,f_]at h;obtain⟨A,j,rfl⟩:=h;obtain⟨vs,rfl,k,n⟩:=d;obtain⟨f,r⟩:=mapM_some j;refine RelP.agg _ _ (by rw[k,f]) λi u p z hp=>?_;obtain⟨x,e⟩:=bb f hp;exact LK g hD (λs id l y=>hO s id l (as_.2 ⟨x,c_ e,y⟩)) (n i u x z e) (r i x p e hp)
 |tup xs=>exact(cd d h).mono hD (λ_ _=>rfl)
theorem OO(d:Inv c θ D st a w){bor:Bool}{v:Value}{x:AV}{p:PV}(f:RelA θ D w v x)(h:kF st.hp bor x=some p):RelP (if bor then λb=>b<w.heap.size else D) w v p:=by
 cases bor;·exact cd f (Kt h)
 ·exact H0 d (λb e=>d.ok.dlt b e) (λ_ id l _ hl b e=>(d.ok.olt id l b hl e).1) f h
theorem Ay{f:FuncId}(c:dG P f=true)(args:Array Value):(callFunc f args).run P w= .ok (.enter f args) w:=by unfold dG at c;cases a:P.funcs[f]? with|none=>rw[a]at c;cases c|some fn=>rw[a]at c;simp only[Bool.and_eq_true,bne_iff_ne,ne_eq]at c;obtain⟨d,g⟩:=c;cases e:fn.body with|none=>rw[e]at d;cases d|some b=>simp[callFunc,a,g,e]
theorem LM{f:FuncId}{c:Call}(g:o.op= .call c)(d:c.callee= .value (.func f))(e:dG P f=true):(execOp a.eval o).run P w= .ok (.enter f (c.args.toList.map a.eval).toArray) w:=by
 have b:(c.args.map a.eval)=(c.args.toList.map a.eval).toArray:=by apply aC_;simp
 rw[<-b];simp[execOp,g,resolve,d,Act.eval,Deferred.ofValue,invoke,Ay e]
theorem H4{f:FuncId}{c:Call}{t:Tmp}{cs:Array Value}(g:o.op= .call c)(d:c.callee= .value (.tmp t))(h:a.eval (.tmp t)= .func (.func f) #[] cs)(e:dG P f=true):(execOp a.eval o).run P w= .ok (.enter f (c.args.toList.map a.eval++cs.toList).toArray) w:=by
 have b:(c.args.map a.eval)++cs=(c.args.toList.map a.eval++cs.toList).toArray:=by apply aC_;simp
 rw[<-b];simp[execOp,g,resolve,d,h,Deferred.ofValue,invoke,Ay e]
theorem DR(u:Inv c θ D st a w)(hd:∀k,o.dst=some k->k<c.n){K KP:St->Prop}{bor:Bool}{f:FuncId}{vs:List Value}{T:List PV}(M:(execOp a.eval o).run P w= .ok (.enter f vs.toArray) w)(m1:vs.length=T.length) (J:∀(i:Nat) (v:Value) (x:AV),vs[i]? =some v->(T.map AV.p)[i]? =some x->RelA [] (if bor then λb=>b<w.heap.size else D) w v x) (hc:ACalls P f (T.map .p) [] λo'=>∃r B,o'=some (r,B)/\r.ids=[]/\(bor=true->r.FlatA)/\K (st.putO o.dst r)):Leaves P o c K KP a w:=by
 intro next Q hn _;unfold Oper.wp;rw[M];simp only[Oper.upon];have E:∀b,(if bor then λb=>b<w.heap.size else D) b->b<w.heap.size:=λb n=>by
  cases bor;·exact u.ok.dlt b n
  ·exact n
 have I:∀b,¬owns [] b:=λb ⟨i,l,z,_⟩=>by simp at z
 refine(hc w [] (if bor then λb=>b<w.heap.size else D) vs ((c.gk w u.keep).mono (Keep.refl (λ_=>False) w) (λ_ _ h=>h) (λb n=>by
  cases bor;·exact u.dsub b n
  ·exact u.ok.dlt b (u.dsub b n))) ⟨rfl,E,λi j li lj g z=>by simp at z,λi l g z=>by simp at z,λi l o z=>by simp at z⟩ (by simpa using m1) J).mono λe w' n=>?_
 rcases n with⟨v,r,B,θ',D',rfl,⟨r',U,hr,H,y,Y⟩,hv,R,d,hD,N,_,_,_⟩|⟨ch,_,rfl,⟨p,B,hr,_⟩,_⟩
 ·cases hr;have F:Below w.heap.size w w':=⟨d.os,d.tape,d.output,d.size,λk s=>d.block k s (I k)⟩;have O:=u.below (D':=λb=>D b\/(D' b/\w.heap.size<=b)) F u.w0le (λb n=>.inl n) (λb n=>n.imp id λh=>⟨h.2,R.dlt b h.1⟩);refine hn _ _ ⟨_,Y,θ,_,O.put hd ?_⟩;have A:=hv.ren (θ2:=θ) (ρ:=id) λk l s=>by rw[H]at s;cases s
  have L:r.ren id=r:=by
   have n:∀x:BV,x.ren id=x:=λx=>by cases x<;>simp[BV.ren]
   have hm:∀xs:List BV,xs.map (BV.ren id)=xs:=λxs=>by rw[List.map_congr_left (g:=λx=>x) λx _=>n x];simp
   cases r<;>simp[AV.ren,n,hm]
  rw[L]at A;cases bor
  ·refine A.mono (λb n=>?_) (λ_ _=>rfl);rcases N b n with C|C|C;·exact .inl C
   ·exact(I b C).elim
   ·exact .inr ⟨n,C⟩
  ·exact A.flatA (y rfl)
 ·cases hr
theorem Nu(g:Inv c θ D st a w)(hd:∀k,o.dst=some k->k<c.n){K KP:St->Prop}{bor:Bool}{f:FuncId}{e:Call}(y:o.op= .call e)(j:e.callee= .value (.func f))(u:dG P f=true) (h:jp P st (.call bor f (e.args.toList.map SX.of)) λx=>K (st.putO o.dst x)):Leaves P o c K KP a w:=by obtain⟨B,l,hc⟩:=h;obtain⟨z,A⟩:=mapM_some l;refine DR (bor:=bor) g hd (LM y j u) (by simpa using z) (λi v x d hp=>?_) hc;rw[e_]at hp d;cases b:B[i]? with|none=>rw[b]at hp;cases hp|some p=>rw[b]at hp;cases hp;cases n:e.args.toList[i]? with|none=>rw[n]at d;cases d|some x=>rw[n]at d;cases d;have:=A i (SX.of x) p (by rw[e_,n];rfl) b;simp only[o_]at this;obtain⟨C,r,s⟩:=this;exact OO g (g.get r) s
theorem LU(e:Inv c θ D st a w)(hd:∀k,o.dst=some k->k<c.n){K KP:St->Prop}{bor:Bool}{t:Tmp}{l:Call}(J:o.op= .call l)(r:l.callee= .value (.tmp t)) (h:jp P st (.callp bor (.tm t) (l.args.toList.map SX.of)) λx=>K (st.putO o.dst x)):Leaves P o c K KP a w:=by
 obtain⟨Q,z,f,cs,rfl,H,C,s,hc⟩:=h;obtain⟨M,N⟩:=mapM_some s;have A:RelP D w (a.eval (.tmp t)) (.fn (.func f) cs):=e.get (x:=.tmp t) z;have key:∃us:Array Value,a.eval (.tmp t)= .func (.func f) #[] us/\us.toList.length=cs.length/\∀(i:Nat) (v:Value) (x:PV),us.toList[i]? =some v->cs[i]? =some x->RelP D w v x:=by generalize a.eval (.tmp t)=v at A;cases A with|fn _ us _ hs I=>exact⟨us,rfl,by simpa using hs,λi v x u z=>I i v x (by simpa using u) z⟩
 obtain⟨us,u,hl,hr⟩:=key;have hD:∀b,D b->(if bor then λb=>b<w.heap.size else D) b:=λb B=>by
  cases bor;·exact B
  ·exact e.ok.dlt b B
 have n:(l.args.toList.map a.eval).length=C.length:=by simpa using M
 refine DR (bor:=bor) e hd (H4 J r u H) (by simp only[ab_,n,hl]) (λi v x d hp=>?_) hc;rw[e_]at hp;obtain⟨p,j,rfl⟩:=f_.1 hp;clear hp;have hp:=j;clear j;rcases G_ i C.length with g|g;·rw[h_ (by rw[n];exact g)]at d;rw[h_ g]at hp;rw[e_]at d;obtain⟨y,L,rfl⟩:=f_.1 d;have:=N i (SX.of y) p (by rw[e_,L];rfl) hp;simp only[o_]at this;obtain⟨O,E,F⟩:=this;exact OO e (e.get E) F
 ·rw[i_ (by rw[n];exact g)]at d;rw[i_ g]at hp;rw[n]at d;exact(hr _ v p d hp).mono hD (λ_ _=>rfl)
theorem Cb:∀{L:List PV} {l:List Int},bytesOf L=some l->L.length=l.length/\∀(i:Nat) (n:Int),l[i]? =some n->L[i]? =some (.sc (.int .u8 n))
 |[],l,h=>by simp[bytesOf]at h;subst h;exact⟨rfl,λi b a=>by simp at a⟩
 |p::L,l,h=>by
  unfold bytesOf at h;split at h;·rename_i c;cases c
  ·rename_i n g c;cases c;simp only[f_]at h;obtain⟨l',d,rfl⟩:=h;obtain⟨e,f⟩:=Cb d;refine⟨by simp[e],λi b a=>?_⟩;cases i with|zero=>simp at a;subst a;rfl|succ i=>exact f i b (by simpa using a)
  ·cases h
theorem PY(y:Inv c θ D st a w){K:AV->Prop}{s d e:TypeId}{x:Operand}(J:o.op= .convert s d x)(hs:P.underlying s=some (.slice e))(hd:P.underlying d=some .string)(A:P.underlying e=some (.int .u8))(h:jp P st (.b2s (.of x)) K):Yields P o a w (Res c θ st a K):=by
 obtain⟨Q,N,hl⟩:=h;obtain⟨L,r,cap,⟨l,z,I⟩,M,hcap,C,b⟩:=mf y.ok (y.get N) hl;obtain⟨k,f⟩:=Cb z;refine aF y (v:=.string (strOfNums l)) ?_ I (RelP.sc _);have p:(convert s d (a.eval x)).run P w= .ok (.string (strOfNums l)) w:=by
  rw[M];by_cases n:0<L.length
  ·obtain⟨g,O,rfl,hg,hsz,hc⟩:=b n;refine run_convert_bytes_arg w s e hs A g O L.length cap l k.symm (λi R=>?_) d hd;have j:i<l.length:=by omega
   have H:=f i _ (b_ j);obtain⟨u,B,E⟩:=hc i 0 _ _ H rfl;cases E;rw[Nat.mul_one,S_]at B;rw[B];simp[B_,b_ j]
  ·have F:L=[]:=n_ (by omega);subst F;simp[bytesOf]at z;subst z;cases r with|none=>exact run_convert_bytes_nil w s e hs A 0 cap d hd|some r=>rw[run_convert_bytes_string w s d e _ _ cap hs A hd];exact run_bytesToString w r 0 cap [] rfl
 simp[execOp,J,p]
theorem Lu(n:Inv c θ D st a w)(hd:∀k,o.dst=some k->k<c.n){K KP:St->Prop}{pl:Option Nat}{t:TypeId}{z:Value}(p:o.op= .alloc t)(j:cX P t=some z) (h:GG st (.alloc t z.cells.toList) λob mk=>Ai st pl/\K ((st.new pl ob).putO o.dst (.b (mk (st.nid pl))))):Leaves P o c K KP a w:=by
 intro next Q hn _;obtain⟨f,h⟩:=h;obtain⟨θ',d,hid⟩:=n.allocAt f (l:=.blk w.heap.size) (o:=.box t (z.cells.toList.map λv=>bn v)) (ob:=.cells z.cells t) (λ_ h=>h) λθ' r=>⟨z.cells,ek w _,by simp,HZ z.cells⟩;simp only[cX,o_]at j;obtain⟨s,e,g⟩:=j;have b:(execOp a.eval o).run P w= .ok (.value (.pointer (some ⟨w.heap.size,0,none⟩))) (w.alloc (.cells z.cells t)):=by simp[execOp,p,Instr.alloc,zeroValue,typeInfo,e,g,newVar,newRow]
 unfold Oper.wp;rw[b];exact hn _ _ ⟨_,h,_,_,d.put hd ⟨w.heap.size,hid,rfl⟩⟩
theorem LQ(b:Inv c θ D st a w)(hd:∀k,o.dst=some k->k<c.n){K KP:St->Prop}{t:TypeId}{z:Value}(d:o.op= .alloc t)(e:cX P t=some z)(h:sexec P o.dst (.alloc t z.cells.toList) st K KP):Leaves P o c K KP a w:=Lu b hd (pl:=none) d e ⟨trivial,h⟩
theorem Rn(e:Inv c θ D st a w)(hd:∀k,o.dst=some k->k<c.n){K KP:St->Prop}{pl:Option Nat}{t:TypeId}{x:Operand}(B:o.op= .box t x) (h:GG st (.box t (.of x)) λob mk=>Ai st pl/\K ((st.new pl ob).putO o.dst (.b (mk (st.nid pl))))):Leaves P o c K KP a w:=by
 intro next Q hn _;obtain⟨p,E,g,j,A⟩:=h;have v:=e.get E;obtain⟨r,s⟩:=pi v g;obtain⟨θ',f,hid⟩:=e.allocAt j (l:=.blk w.heap.size) (o:=.box t p.cells) (ob:=.cells (a.eval x).cells t) (λ_ h=>h) λθ' n=>⟨(a.eval x).cells,ek w _,r,λi u y C F=>((s i u y C F).1.mono (λ_ h=>h) (λb z=>dJ w _ b (e.ok.dlt b z))).extN n⟩;have d:(execOp a.eval o).run P w= .ok (.value (.pointer (some ⟨w.heap.size,0,none⟩))) (w.alloc (.cells (a.eval x).cells t)):=by simp[execOp,B,Instr.box,newVar,newRow]
 unfold Oper.wp;rw[d];exact hn _ _ ⟨_,A,_,_,f.put hd ⟨w.heap.size,hid,rfl⟩⟩
theorem PZ(e:Inv c θ D st a w)(hd:∀k,o.dst=some k->k<c.n){K KP:St->Prop}{t:TypeId}{x:Operand}(g:o.op= .box t x)(h:sexec P o.dst (.box t (.of x)) st K KP):Leaves P o c K KP a w:=by obtain⟨d,j,b,f⟩:=h;exact Rn e hd (pl:=none) g ⟨d,j,b,trivial,f⟩
theorem K9{sz:Nat}:∀(parts:List (Nat×Value)) (f:List PV) (s:Nat) (a:Array Value),parts.length=f.length->
 (∀(i:Nat) (x:Nat×Value) (p:PV),parts[i]? =some x->f[i]? =some p->x.1=s+i/\RelP D w x.2 p/\p.ok=true/\p.cells.length=sz)->(s+parts.length)*sz<=a.size->
 ∃b,Instr.fill (λi=>some (i*sz,sz)) a parts=some b/\b.size=a.size/\(∀k,k<s*sz->b[k]? =a[k]?)/\∀(i j:Nat) (p y:PV),f[i]? =some p->p.cells[j]? =some y->∃u,b[(s+i)*sz+j]? =some u/\RelP D w u y
 |[],[],s,a,_,_,_=>⟨a,rfl,rfl,λ_ _=>rfl,λi j p y hp=>by simp at hp⟩
 |(k,v)::parts,p::f,s,a,hl,hp,hs=>by
  obtain⟨H,I,J,z⟩:=hp 0 _ _ rfl rfl;obtain rfl:k=s:=H;obtain⟨L,M⟩:=pj I J;have l:v.cells.size=sz:=by rw[<-z];exact L
  have h:(k+1+parts.length)*sz<=a.size:=by simp only[U_]at hs;rw[show k+1+parts.length=k+(parts.length+1) by omega];exact hs
  have g:k*sz+sz<=a.size:=by have:(k+1)*sz<=(k+1+parts.length)*sz:=g_ _ (by omega);rw[k_,r_]at this;omega
  obtain⟨A,B⟩:=H9 (k*sz) v.cells a (by omega);obtain⟨b,C,E,r,F⟩:=K9 parts f (k+1) (v.cells.zipIdx.foldl (λcs (c,j)=>cs.setIfInBounds (k*sz+j) c) a) (by simpa using hl) (λi x q O e=>by have:=hp (i+1) x q (by simpa using O) (by simpa using e);exact⟨by omega,this.2⟩) (by rw[A];exact h);refine⟨b,?_,by rw[E,A],λj N=>?_,λi j q y e n=>?_⟩;·simp only[Instr.fill];rw[if_neg (by rw[l];simp;exact g)];exact C
  ·rw[r j (by rw[k_,r_];omega),B j,if_neg (by omega)]
  ·cases i with
   |zero=>
    simp only[ad_,A_]at e;subst e;have N:j<sz:=by rw[<-z];exact(a_.1 n).1
    have d:j<v.cells.size:=by omega
    refine⟨v.cells[j],?_,(M j _ y (d_ d) n).1⟩;rw[S_,r _ (by rw[k_,r_];omega),B,if_pos ⟨by omega,by omega⟩];rw[show k*sz+j - k*sz=j by omega];exact d_ d
   |succ i=>have:=F i j q y (by simpa using e) n;rwa [show k+1+i=k+(i+1) by omega]at this
theorem yi(hI:Inv c θ D st a w){f:AV->Option PV}(hf:∀v x p,RelA θ D w v x->f x=some p->RelP D w v p){t e:TypeId}{len sz:Nat}{parts:Array (Nat×Operand)}{z:Value}{s:List PV}(T:o.op= .buildSlice t len parts)(F:eQ P t=some e)(hs:bJ P e=some sz)(hz:cX P e=some z) (k:qm parts.toList=true) (el:z.cells.size=sz) (N:(parts.toList.map λq=>SX.of q.2).mapM (λx=>(st.get x).bind f)=some s) (g:s.length=len) (h0:0<sz) (hmax:len*sz<=16777216) (J:∀p∈s,p.cells.length=sz/\p.ok=true): ∃b:Array Value,(execOp a.eval o).run P w= .ok (.value (.slice (some ⟨w.heap.size,0,none⟩) len len)) (w.alloc (.cells b e))/\b.size=len*sz/\∀(i j:Nat) (p y:PV),s[i]? =some p->p.cells[j]? =some y->∃u,b[i*sz+j]? =some u/\RelP D w u y:=by
 obtain⟨m1,m2⟩:=mapM_some N;have r:parts.size=s.length:=by simpa using m1
 have U:P.underlying t=some (.slice e):=by
  unfold eQ at F;split at F;·cases F;assumption
  ·cases F
 simp only[bJ,f_]at hs;obtain⟨E,n,rfl⟩:=hs;have O:E.zero=some z:=by simpa[cX,n]using hz
 have B:∀(i:Nat) (x:Nat×Operand),parts.toList[i]? =some x->x.1=i:=by
  intro i x l;simp only[qm,beq_iff_eq]at k;have A:(parts.toList.map (·.1))[i]? =some x.1:=by rw[e_,l];rfl
  rw[k]at A;have H:i<parts.toList.length:=(a_.1 l).1;rw[List.getElem?_range H]at A;exact(W_ A).symm
 obtain⟨b,Q,R,e3,Y⟩:=K9 (D:=D) (w:=w) (sz:=E.size) (parts.map fun(i,x)=>(i,a.eval x)).toList s 0 ((Array.range (len*E.size)).map (z.cells[·%z.cells.size]!)) (by simp[r]) (λi x p l hp=>by simp only[aq_,e_]at l;cases d:parts.toList[i]? with|none=>rw[d]at l;cases l|some pr=>rw[d]at l;cases l;have:=m2 i (SX.of pr.2) p (by rw[e_,d];rfl) hp;simp only[o_]at this;obtain⟨av,A,h2⟩:=this;obtain⟨h3,h4⟩:=J p (c_ hp);exact⟨by simp[B i pr d],hf _ _ _ (hI.get A) h2,h4,h3⟩) (by simp[r,g])
 refine⟨b,?_,by rw[R];simp,λi j p y hp hy=>by have:=Y i j p y hp hy;rwa [x_]at this⟩;have I:¬(16777216<len*E.size):=by omega
 by_cases C:len*E.size=0
 ·have:len=0:=by
   rcases Nat.mul_eq_zero.1 C with h|h;·exact h
   ·omega
  subst this;have L:parts.toList=[]:=n_ (by simp[r,g]);have M:parts= #[]:=by simpa using L
  subst M;have:b= #[]:=by have:=R;simp only[Array.size_map,Array.size_range,Nat.zero_mul]at this;exact Array.eq_empty_of_size_eq_zero this
  subst this;simp[execOp,T,Instr.buildSlice,run_underlying U,sizeOf,typeInfo,n,Instr.fill,newRow,Array.range_zero']
 ·simp[execOp,T,Instr.buildSlice,run_underlying U,sizeOf,typeInfo,n,I,C,zeroValue,O,newRow];simp at Q;rw[Q];simp
theorem JA(B:Inv c θ D st a w)(hd:∀k,o.dst=some k->k<c.n){K KP:St->Prop}{t e:TypeId}{len sz:Nat}{parts:Array (Nat×Operand)}{z:Value}(M:o.op= .buildSlice t len parts)(L:eQ P t=some e)(hs:bJ P e=some sz)(R:cX P e=some z) (v:qm parts.toList=true) (E:z.cells.size=sz) (h:jp P st (.bslice false e sz len (parts.toList.map λq=>SX.of q.2)) λx=>K (st.putO o.dst x)):Leaves P o c K KP a w:=by
 intro next Q hn _;obtain⟨T,C,f,I,hmax,s,r⟩:=h;obtain⟨d,A,U,J⟩:=yi B (λ_ _ _=>cd) M L hs R v E C f I hmax s;have n:=B.below (D':=λb=>D b\/(w.heap.size<=b/\b<(w.alloc (.cells d e)).heap.size)) (j3 w (.cells d e)) B.w0le (λb l=>.inl l) (λb l=>l);unfold Oper.wp;rw[A];have g:RelP (λb=>D b\/(w.heap.size<=b/\b<(w.alloc (.cells d e)).heap.size)) (w.alloc (.cells d e)) (.slice (some ⟨w.heap.size,0,none⟩) len len) (mb sz T):=by subst f;refine f7 (u_ _) λhl=>⟨w.heap.size,0,rfl,.inr ⟨u_ _,by simp⟩,λp hp=>(s p hp).1,λi j x y N O=>?_⟩;obtain⟨u,F,H⟩:=J i j x y N O;refine⟨u,?_,H.mono (λb l=>.inl l) (λb l=>dJ w _ b (B.ok.dlt b l))⟩;rw[x_,cell_of_row _ _ _ d e (0,0) (ek w _)];exact F
 rcases r with r|r;·exact hn _ _ ⟨_,r,θ,_,n.put hd g⟩
 ·exact hn _ _ ⟨_,r,θ,_,n.put hd ⟨g,_,_,rfl⟩⟩
theorem GH(v:Inv c θ D st a w)(hd:∀k,o.dst=some k->k<c.n){K KP:St->Prop}{t e:TypeId}{len sz:Nat}{parts:Array (Nat×Operand)}{z:Value}(M:o.op= .buildSlice t len parts)(J:eQ P t=some e)(hs:bJ P e=some sz)(R:cX P e=some z) (n:qm parts.toList=true) (C:z.cells.size=sz) (h:jp P st (.bsliceN e sz len (parts.toList.map λq=>SX.of q.2)) λx=>K (st.putO o.dst x)):Leaves P o c K KP a w:=by
 intro next Q hn _;obtain⟨T,B,f,H,hmax,l,L⟩:=h;obtain⟨d,s,U,I⟩:=yi v (λ_ _ _=>EP) M J hs R n C B f H hmax l;have A:=v.below (D':=λb=>D b\/(w.heap.size<=b/\b<(w.alloc (.cells d e)).heap.size)) (j3 w (.cells d e)) v.w0le (λb g=>.inl g) (λb g=>g);unfold Oper.wp;rw[s];have r:RelP (λb=>D b\/(w.heap.size<=b/\b<(w.alloc (.cells d e)).heap.size)) (w.alloc (.cells d e)) (.slice (some ⟨w.heap.size,0,none⟩) len len) (mb sz T):=by subst f;refine f7 (u_ _) λhl=>⟨w.heap.size,0,rfl,.inr ⟨u_ _,by simp⟩,λp hp=>(l p hp).1,λi j x y N O=>?_⟩;obtain⟨u,E,F⟩:=I i j x y N O;refine⟨u,?_,F.mono (λb g=>.inl g) (λb g=>dJ w _ b (v.ok.dlt b g))⟩;rw[x_,cell_of_row _ _ _ d e (0,0) (ek w _)];exact E
 exact hn _ _ ⟨_,L,θ,_,A.put hd r⟩
theorem HO(v:Inv c θ D st a w)(hd:∀k,o.dst=some k->k<c.n){K KP:St->Prop}{t e:TypeId}{len sz:Nat}{parts:Array (Nat×Operand)}{z:Value}(T:o.op= .buildSlice t len parts)(O:eQ P t=some e)(hs:bJ P e=some sz)(hz:cX P e=some z) (n:qm parts.toList=true) (F:z.cells.size=sz) {pl:Option Nat} (h:GG st (.bslice true e sz len (parts.toList.map λq=>SX.of q.2)) λob mk=>Ai st pl/\K ((st.new pl ob).putO o.dst (.b (mk (st.nid pl))))):Leaves P o c K KP a w:=by
 intro next Q hn _;obtain⟨f,E,d,H,hmax,g,C,R⟩:=h;obtain⟨s,r,L,M⟩:=yi v (λ_ _ _=>cd) T O hs hz n F E d H hmax g;subst d;have B:f.length<=maxLen:=by have:f.length<=f.length*sz:=O_ _ H;simp only[maxLen];omega
 obtain⟨θ',A,hid⟩:=v.allocAt C (l:=.hdr w.heap.size f.length f.length sz none') (o:=.vec e sz f) (ob:=.cells s e) (λ_ h=>h.elim id False.elim) λθ' el=>⟨rfl,rfl,u_ _,B,λp hp=>(g p hp).1,s,ek w _,L,λi j x y U Y=>let⟨u,I,J⟩:=M i j x y U Y;⟨u,I,J.mono (λ_ h=>h) (λb N=>dJ w _ b (v.ok.dlt b N))⟩⟩;unfold Oper.wp;rw[r];exact hn _ _ ⟨_,R,_,_,A.put hd ⟨_,hid,rfl⟩⟩
theorem GI(n:Inv c θ D st a w)(hd:∀k,o.dst=some k->k<c.n){K KP:St->Prop}{t e:TypeId}{len sz:Nat}{parts:Array (Nat×Operand)}{z:Value}(s:o.op= .buildSlice t len parts)(p:eQ P t=some e)(hs:bJ P e=some sz)(u:cX P e=some z) (d:qm parts.toList=true) (j:z.cells.size=sz) (h:sexec P o.dst (.bslice true e sz len (parts.toList.map λq=>SX.of q.2)) st K KP):Leaves P o c K KP a w:=by obtain⟨v,g,b,l,hmax,f,r⟩:=h;exact HO n hd s p hs u d j (pl:=none) ⟨v,g,b,l,hmax,f,trivial,r⟩
end
section
variable {P:Program} {o:Oper} {c:Ctx} {θ:List Loc} {D:Nat->Prop} {st:St} {a:Act} {w:World}
def cz(θ:List Loc)(B:List Nat):List Loc:=B.map λi=>θ.getD i .no
def nf(bor:Bool)(θ:List Loc)(B:List Nat)(D:Nat->Prop)(w:World):Nat->Prop:=if bor then λb=>b<w.heap.size/\¬owns (cz θ B) b else D
def gF(θ:List Loc)(B:List Nat)(θ':List Loc):List Loc:=(θ.mapIdx λi l=>if B.contains i then θ'.getD (B.idxOf i) .no else l)++θ'.drop B.length
theorem oY{B:List Nat}(b:∀i∈B,i<θ.length){k:Nat}{l:Loc}(h:(cz θ B)[k]? =some l):∃i,B[k]? =some i/\θ[i]? =some l:=by unfold cz at h;rw[e_]at h;cases a:B[k]? with|none=>rw[a]at h;cases h|some i=>rw[a]at h;simp only[C_,A_]at h;have:=b i (c_ a);exact⟨i,rfl,by rw[<-h];simp[B_,b_ this]⟩
theorem ql{B:List Nat}{i:Nat}(h:i∈B):B[B.idxOf i]? =some i:=by have a:=F_ h;rw[b_ a,List.getElem_idxOf]
theorem Ey{B:List Nat}{i:Nat}{l:Loc}(a:i∈B)(h:θ[i]? =some l):(cz θ B)[B.idxOf i]? =some l:=by unfold cz;rw[e_,ql a];simp[B_,h]
theorem Dc(r:Inv c θ D st a w){bor:Bool}{B:List Nat}{os:List AObj}(I:B.Nodup)(J:B.mapM (st.hp[·]?)=some os)(y:∀o∈os,∀i∈o.ids,i∈B): Ok (cz θ B) (nf bor θ B D w) (os.map (AObj.ren (B.idxOf ·))) w/\(∀b,D b->nf bor θ B D w b)/\∀i∈B,i<θ.length:=by
 obtain⟨M,N⟩:=mapM_some J;have u:∀i∈B,i<θ.length:=λi v=>by obtain⟨k,n⟩:=E_ v;obtain⟨ob,d⟩:=bb (l:=os) (m:=B) M.symm n;have:=N k i ob n d;rw[r.ok.len];exact(a_.1 this).1
 have e:∀b,D b->nf bor θ B D w b:=λb s=>by
  unfold nf;cases bor;·exact s
  ·refine⟨r.ok.dlt b s,fun⟨k,l,n,hl⟩=>?_⟩;obtain⟨i,_,v⟩:=oY u n;exact(r.ok.olt i l b v hl).2 s
 refine⟨⟨by simp[cz,M],λb s=>?_,λi j li T g v P z A=>?_,λk l g n hg=>?_,λk l ob n d=>?_⟩,e,u⟩
 ·unfold nf at s;cases bor;·exact r.ok.dlt b s
  ·exact s.1
 ·obtain⟨i',f,h⟩:=oY u v;obtain⟨Q,C,E⟩:=oY u P;have:=r.ok.inj i' Q li T g h E z A;subst this;exact((ap_ (a_.1 f).1 I).1 (f.trans C.symm))
 ·obtain⟨i,f,h⟩:=oY u n;obtain⟨x,O⟩:=r.ok.olt i l g h hg;refine⟨x,λhd=>?_⟩;unfold nf at hd;cases bor;·exact O hd
  ·exact hd.2 ⟨k,l,n,hg⟩
 ·obtain⟨i,f,h⟩:=oY u n;rw[e_]at d;cases p:os[k]? with|none=>rw[p]at d;cases d|some L=>rw[p]at d;cases d;have x:=N k i L f p;refine((r.ok.objs i l L h x).ren λR l' F H=>Ey (y L (c_ p) R F) H).mono e (λ_ _=>rfl) (λ_ _=>rfl)
theorem um{B:List Nat}{θ':List Loc}(e:∀i∈B,i<θ.length)(d:B.length<=θ'.length){i:Nat}{l:Loc}(h:(gF θ B θ')[i]? =some l):(i<θ.length/\i∉B/\θ[i]? =some l)\/(∃k,θ'[k]? =some l/\i=gN B θ.length k/\((k<B.length/\B[k]? =some i)\/(B.length<=k/\θ.length<=i))):=by
 unfold gF at h;rcases G_ i θ.length with a|a
 ·rw[h_ (by simpa using a),K_,b_ a]at h;simp only[C_,A_]at h;by_cases b:i∈B
  ·rw[if_pos (by simpa using b)]at h;have c:=F_ b;refine .inr ⟨B.idxOf i,?_,?_,.inl ⟨c,ql b⟩⟩
   ·rw[<-h];have:B.idxOf i<θ'.length:=by omega
    simp[B_,b_ this]
   ·simp only[gN,if_pos c,B_,ql b,D_]
  ·rw[if_neg (by simpa using b)]at h;exact .inl ⟨a,b,by rw[b_ a,h]⟩
 ·rw[i_ (by simpa using a)]at h;simp only[M_,w_]at h;refine .inr ⟨B.length+(i - θ.length),h,?_,.inr ⟨by omega,a⟩⟩;simp only[gN];rw[if_neg (by omega)];omega
theorem DJ{B:List Nat}{θ':List Loc}(d:∀i∈B,i<θ.length)(c:B.Nodup){k:Nat}{l:Loc}(h:θ'[k]? =some l):(gF θ B θ')[gN B θ.length k]? =some l:=by
 unfold gF gN;split
 ·rename_i b;have e:B.getD k 0=B[k]:=by simp[B_,b_ b]
  have a:B[k]<θ.length:=d _ (List.getElem_mem b);rw[e,h_ (by simpa using a),K_,b_ a];simp only[C_];rw[if_pos (by simp),c.idxOf_getElem k b];simp[B_,h]
 ·rename_i b;rw[i_ (by simp)];simp only[M_,w_];rw[<-h];congr 1;omega
theorem O7{B:List Nat}{θ':List Loc}{k:Nat}{l:Loc}(b:k∉B)(h:θ[k]? =some l):(gF θ B θ')[k]? =some l:=by unfold gF;have a:k<θ.length:=(a_.1 h).1;rw[h_ (by simpa using a),K_,h];simp only[C_];rw[if_neg (by simpa using b)]
theorem Mz{B:List Nat}{hp os:List AObj}(f:∀i∈B,i<hp.length){i:Nat}{o:AObj}(h:(uk B hp os)[i]? =some o):(i<hp.length/\i∉B/\∃e,hp[i]? =some e/\o=e.killB B)\/(∃k,o=(os.getD k .gone).ren (gN B hp.length)/\((k<B.length/\B[k]? =some i)\/(B.length<=k/\i=hp.length+(k - B.length)/\k<os.length))):=by
 unfold uk at h;rcases G_ i hp.length with a|a
 ·rw[h_ (by simpa using a),K_,b_ a]at h;simp only[C_,A_]at h;by_cases b:i∈B;·rw[if_pos (by simpa using b)]at h;exact .inr ⟨B.idxOf i,h.symm,.inl ⟨F_ b,ql b⟩⟩
  ·rw[if_neg (by simpa using b)]at h;exact .inl ⟨a,b,_,b_ a,h.symm⟩
 ·rw[i_ (by simpa using a)]at h;simp only[M_,e_,w_]at h;cases c:os[B.length+(i - hp.length)]? with|none=>rw[c]at h;cases h|some e=>rw[c]at h;simp only[C_,A_]at h;have d:=(a_.1 c).1;exact .inr ⟨B.length+(i - hp.length),by rw[<-h];simp[B_,c],.inr ⟨by omega,by omega,d⟩⟩
theorem KA(f:Inv c θ D st a w){bor:Bool}{B:List Nat}{os:List AObj}(R:B.Nodup)(DH:B.mapM (st.hp[·]?)=some os)(Bx:∀o∈os,∀i∈o.ids,i∈B) {θ':List Loc} {D':Nat->Prop} {z:List AObj} {w':World} (H:Ok θ' D' z w') (d:Keep (owns (cz θ B)) w w') (hD:∀b,nf bor θ B D w b->D' b) (At:∀b,D' b->nf bor θ B D w b\/owns (cz θ B) b\/w.heap.size<=b) (ph:∀(i:Nat) (l:Loc) (g:Nat),θ'[i]? =some l->l.has g->owns (cz θ B) g\/w.heap.size<=g) (rg:∀(k:Nat) (l:Loc),(cz θ B)[k]? =some l->l.fixed=true->θ'[k]? =some l) (ur:(cz θ B).length<=θ'.length) (Y:bor=true->∀o∈z,o.FlatO): Inv c (gF θ B θ') (λb=>D b\/(D' b/\(owns (cz θ B) b\/w.heap.size<=b))) (st.back B z) a w':=by
 obtain⟨DM,Bk,Q⟩:=Dc (bor:=bor) f R DH Bx;have P:B.length<=θ'.length:=by simpa[cz]using ur
 have u:∀g,owns (cz θ B) g->∃(i:Nat) (l:Loc),i∈B/\θ[i]? =some l/\l.has g:=λg ⟨k,l,r,hg⟩=>by obtain⟨i,BT,CD⟩:=oY Q r;exact⟨i,l,c_ BT,CD,hg⟩
 have s:∀(i:Nat) (l:Loc) (g:Nat),i∉B->θ[i]? =some l->l.has g->¬owns (cz θ B) g:=λi l g O hl hg ho=>by obtain⟨j,T,hj,CT,Dg⟩:=u g ho;exact O (f.ok.inj i j l T g hl CT hg Dg▸hj)
 have qr:∀b,D b->w'.heap[b]? =w.heap[b]? :=λb n=>d.block b (f.ok.dlt b n) λho=>by obtain⟨i,l,_,p,J⟩:=u b ho;exact(f.ok.olt i l b p J).2 n
 have k1:∀(k:Nat) (l:Loc),k∉B->θ[k]? =some l->(gF θ B θ')[k]? =some l:=λk l r h=>O7 r h;have k2:∀(k:Nat) (l:Loc),l.fixed=true->θ[k]? =some l->(gF θ B θ')[k]? =some l:=λk l A h=>by
  by_cases r:k∈B
  ·have h3:=rg _ l (Ey r h) A;have h4:=DJ (θ:=θ) Q R h3;have:gN B θ.length (B.idxOf k)=k:=by simp only[gN,if_pos (F_ r),B_,ql r,D_]
   rw[this]at h4;exact h4
  ·exact k1 k l r h
 have DP:∀{v:Value} {x:AObj} {l:Loc},True->True:=λ_=>trivial;have gc:bor=false->∀b,D' b->D b\/(D' b/\(owns (cz θ B) b\/w.heap.size<=b)):=λn b h=>by
  rcases At b h with p|p|p;·subst n;exact .inl p
  ·exact .inr ⟨h,.inl p⟩
  ·exact .inr ⟨h,.inr p⟩
 have C:θ.length=st.hp.length:=f.ok.len;refine⟨f.size,f.defers,⟨?_,λb n=>?_,λi j li T g O hj M N=>?_,λi l g O hg=>?_,λi l ob O DE=>?_⟩,?_,λb n=>.inl (f.dsub b n),λb n=>?_,λi l g O hg=>?_,λk x r=>?_,λk l r A=>k2 k l A (f.fix k l r A)⟩;·have:=H.len;simp only[gF,St.back,uk,ab_,M_,ae_,av_];omega
 ·rcases n with n|⟨n,_⟩;·exact q_ (f.ok.dlt b n) d.size
  ·exact H.dlt b n
 ·rcases um Q P O with⟨F,L,I⟩|⟨k,F,L,_⟩<;>rcases um Q P hj with⟨b1,b2,b3⟩|⟨m,b1,b2,_⟩;·exact f.ok.inj i j li T g I b3 M N
  ·rcases ph m T g b1 N with p|p;·exact(s i li g L I M p).elim
   ·have:=(f.ok.olt i li g I M).1;omega
  ·rcases ph k li g F M with p|p;·exact(s j T g b2 b3 N p).elim
   ·have:=(f.ok.olt j T g b3 N).1;omega
  ·rw[L,b2,H.inj k m li T g F b1 M N]
 ·rcases um Q P O with⟨F,L,I⟩|⟨k,F,_,_⟩
  ·obtain⟨p,J⟩:=f.ok.olt i l g I hg;refine⟨q_ p d.size,λhd=>?_⟩;rcases hd with hd|⟨_,hd|hd⟩;·exact J hd
   ·exact s i l g L I hg hd
   ·omega
  ·obtain⟨p,J⟩:=H.olt k l g F hg;refine⟨p,λhd=>?_⟩;rcases hd with hd|⟨hd,_⟩;·exact J (hD g (Bk g hd))
   ·exact J hd
 ·have U:∀i∈B,i<st.hp.length:=λi O=>by rw[<-C];exact Q i O
  rcases um Q P O with⟨F,L,I⟩|⟨k,F,L,a4⟩<;>rcases Mz U DE with⟨b1,b2,o0,b3,rfl⟩|⟨m,rfl,b4⟩;·exact((f.ok.objs i l o0 I b3).killB k1 k2).mono (λb n=>.inl n) qr λg hg=>d.block g (f.ok.olt i l g I hg).1 (s i l g L I hg)
  ·rcases b4 with⟨_,h⟩|⟨_,h,_⟩;·exact(L (c_ h)).elim
   ·omega
  ·rcases a4 with⟨_,h⟩|⟨_,h⟩;·exact(b2 (c_ h)).elim
   ·omega
  ·have DA:k=m:=by
    rcases a4 with⟨c1,c2⟩|⟨c1,c2⟩<;>rcases b4 with⟨d1,d2⟩|⟨d1,d2,d3⟩;·exact(ap_ c1 R).1 (c2.trans d2.symm)
    ·have:=U i (c_ c2);omega
    ·have:=U i (c_ d2);omega
    ·rw[L]at d2;simp only[gN]at d2;rw[if_neg (by omega)]at d2;omega
   subst DA;have DB:k<z.length:=by rw[<-H.len];exact(a_.1 F).1
   have wr:z[k]? =some (z.getD k .gone):=by simp[B_,b_ DB]
   rw[<-C];have hr:=(H.objs k l _ F wr).ren (θ2:=gF θ B θ') (ρ:=gN B θ.length) λk' l' _ h=>DJ Q R h;cases bor;·exact hr.mono (gc rfl) (λ_ _=>rfl) (λ_ _=>rfl)
   ·have A:=Y rfl _ (c_ wr);refine RelO.flatO ?_ hr;cases E:z.getD k .gone with
    |box t cs=>rw[E]at A;intro x hx;simp only[Y_]at hx;obtain⟨y,hy,rfl⟩:=hx;have:=A y hy;cases y<;>exact this
    |gone=>trivial|free=>trivial|vec e sz xs=>rw[E]at A;exact A|tree e sz k xs hole=>rw[E]at A;refine⟨λi j b n=>?_,A.2⟩;cases hole with|none=>cases n|some q=>obtain⟨i',j',b'⟩:=q;cases n;have:=A.1 _ _ _ rfl;cases b'<;>exact this
    |map k e kvs=>rw[E]at A;exact A
 ·refine⟨d.os.trans f.keep.os,d.tape.trans f.keep.tape,d.output.trans f.keep.output,L_ f.keep.size d.size,λk r hn=>(d.block k (q_ r f.keep.size) λho=>?_).trans (f.keep.block k r hn)⟩;obtain⟨i,l,_,p,J⟩:=u k ho;rcases f.onew i l k p J with h3|h3;·exact hn h3
  ·omega
 ·have h0:=f.w0le;rcases n with n|⟨_,n|n⟩;·exact f.dnew b n
  ·obtain⟨i,l,_,p,J⟩:=u b n;exact .inr (f.onew i l b p J)
  ·exact .inr (.inr (by omega))
 ·have h0:=f.w0le;rcases um Q P O with⟨F,L,I⟩|⟨k,F,_,_⟩;·exact f.onew i l g I hg
  ·rcases ph k l g F hg with p|p;·obtain⟨j,T,_,J,h3⟩:=u g p;exact f.onew j T g J h3
   ·exact .inr (by omega)
 ·simp only[St.back,ni]at r;cases el:look st.fr k with|none=>rw[el]at r;cases r|some y=>rw[el]at r;cases r;exact((f.fr k y el).killB k1 k2).mono (λb n=>.inl n) qr
theorem Nh(k:Inv c θ D st a w){bor:Bool}{B:List Nat}{v:Value}{x y:AV}(n:RelA θ D w v x)(h:s8 st.hp bor B x=some y)(j:∀b,b<w.heap.size->bor=true->(∃(id:Nat) (l:Loc),id∉B/\θ[id]? =some l/\l.has b)->nf bor θ B D w b)(f:∀b,D b->nf bor θ B D w b): RelA θ (nf bor θ B D w) w v y:=by
 have d:RelA θ (nf bor θ B D w) w v x:=n.mono f (λ_ _=>rfl);unfold s8 at h;split at h
 ·rename_i id;split at h;·cases h;exact d
  ·rename_i g;simp only[f_]at h;obtain⟨p,hp,rfl⟩:=h;exact H0 k f (λr e l s hl b hg=>j b (k.ok.olt e l b hl hg).1 r ⟨e,l,by
    have:e=id:=by simpa[AV.ids,BV.ids]using s
    rw[this];simpa using g,hl,hg⟩) n hp
 ·rename_i xs;split at h;·simp only[f_]at h;obtain⟨p,hp,rfl⟩:=h;exact cd d hp
  ·cases h;exact d
 ·cases h;exact d.1
 ·cases h;cases d;exact RelP.nil none 0
 ·cases h;exact d
theorem Cc(L:Inv c θ D st a w)(hd:∀k,o.dst=some k->k<c.n){K KP:St->Prop}{bor:Bool}{B:List Nat}{f:FuncId}{ars:List AV}{os:List AObj}{vs:List Value} (gc:(execOp a.eval o).run P w= .ok (.enter f vs.toArray) w) (At:vs.length=ars.length) (Bk:∀(i:Nat) (v:Value) (x:AV),vs[i]? =some v->ars[i]? =some x->RelA θ (nf bor θ B D w) w v x) (J:B.mapM (st.hp[·]?)=some os) (h:sexec.callK P st o.dst bor B f ars os K KP):Leaves P o c K KP a w:=by
 intro next Q hn hp;obtain⟨z,qr,H,F⟩:=h;obtain⟨j,ph,hB⟩:=Dc (bor:=bor) L z J H;unfold Oper.wp;rw[gc];simp only[Oper.upon];have u:=L.ok.len;refine(F w (cz θ B) (nf bor θ B D w) vs ((c.gk w L.keep).mono (Keep.refl (λ_=>False) w) (λ_ _ h=>h) (λb E=>ph b (L.dsub b E))) j (by simpa using At) λi v x hv n=>?_).mono λe w' E=>?_;·rw[e_]at n;cases A:ars[i]? with|none=>rw[A]at n;cases n|some y=>rw[A]at n;cases n;exact(Bk i v y hv A).ren λk l T hl=>Ey (qr y (c_ A) k T) hl
 ·rcases E with⟨v,r,Bx,θ',D',rfl,⟨p,T⟩,hv,ur,d,hD,N,wr,O,U⟩|⟨ch,rg,rfl,T,d⟩
  ·have C:=KA (bor:=bor) L z J H ur d hD N wr O U (λE=>(p E).2);refine hn _ _ ⟨_,T,_,_,C.put hd ?_⟩;have hr:=hv.ren (θ2:=gF θ B θ') (ρ:=gN B θ.length) λk' l' _ h=>DJ hB z h;rw[<-u];cases bor
   ·refine hr.mono (λb h=>?_) (λ_ _=>rfl);rcases N b h with M|M|M;·exact .inl M
    ·exact .inr ⟨h,.inl M⟩
    ·exact .inr ⟨h,.inr M⟩
   ·have hf:=(p rfl).1;refine RelA.flatA ?_ hr;have I:∀(ρ:Nat->Nat) (x:BV),x.FlatB->(x.ren ρ).FlatB:=λρ x n=>by cases x<;>exact n
    cases r with
    |b x=>exact I _ x hf|agg xs=>intro x n;simp only[Y_]at n;obtain⟨y,hy,rfl⟩:=n;exact I _ y (hf y hy)
    |tup xs=>intro x n;simp only[Y_]at n;obtain⟨y,hy,rfl⟩:=n;exact I _ y (hf y hy)
  ·have el:Ok (cz θ B) (nf bor θ B D w) (os.map λ_=>AObj.gone) w':=by refine⟨by have:=j.len;simpa using this,λb E=>q_ (j.dlt b E) d.size,j.inj,λi l g R hg=>⟨q_ (j.olt i l g R hg).1 d.size,(j.olt i l g R hg).2⟩,λi l ob R s=>?_⟩;rw[e_]at s;cases Y:os[i]? with|none=>rw[Y]at s;cases s|some o0=>rw[Y]at s;cases s;cases l<;>trivial
   have C:=KA (bor:=bor) L z J H el d (λb h=>h) (λb h=>.inl h) (λi l g R hg=>.inl ⟨i,l,R,hg⟩) (λk l h _=>h) (u_ _) (λ_ o ho=>by simp only[Y_]at ho;obtain⟨_,_,rfl⟩:=ho;trivial)
   exact hp ch w' ⟨rg,_,T,_,_,C⟩
theorem Ky(g:Inv c θ D st a w){bor:Bool}{B:List Nat}{os:List AObj}(u:B.Nodup)(z:B.mapM (st.hp[·]?)=some os)(p:∀o∈os,∀i∈o.ids,i∈B){xs:List Operand}{ars:List AV} (n:(xs.map SX.of).mapM (λx=>(st.get x).bind (s8 st.hp bor B))=some ars):(xs.map a.eval).length=ars.length/\∀(i:Nat) (v:Value) (x:AV),(xs.map a.eval)[i]? =some v->ars[i]? =some x->RelA θ (nf bor θ B D w) w v x:=by obtain⟨A,h,J⟩:=Dc (bor:=bor) g u z p;obtain⟨O,P⟩:=mapM_some n;refine⟨by simpa using O,λi v x f N=>?_⟩;rw[e_]at f;cases d:xs[i]? with|none=>rw[d]at f;cases f|some y=>rw[d]at f;cases f;have:=P i (SX.of y) x (by rw[e_,d];rfl) N;simp only[o_]at this;obtain⟨Q,C,E⟩:=this;refine Nh g (g.get C) E (λb L e ⟨id,l,F,H,I⟩=>?_) h;subst e;refine⟨L,fun⟨k,lk,M,hl⟩=>?_⟩;obtain⟨j,r,s⟩:=oY J M;exact F (g.ok.inj id j l lk b H s I hl▸c_ r)
theorem LS(l:Inv c θ D st a w)(hd:∀k,o.dst=some k->k<c.n){K KP:St->Prop}{bor:Bool}{B:List Nat}{f:FuncId}{d:Call}(s:o.op= .call d)(g:d.callee= .value (.func f))(r:dG P f=true) (h:sexec P o.dst (.callA bor B f (d.args.toList.map SX.of)) st K KP):Leaves P o c K KP a w:=by obtain⟨ars,e,os,b,j⟩:=h;obtain⟨n,p⟩:=Ky l j.1 b j.2.2.1 e;exact Cc l hd (LM s g r) n p b j
theorem LV(z:Inv c θ D st a w)(hd:∀k,o.dst=some k->k<c.n){K KP:St->Prop}{bor:Bool}{B:List Nat}{t:Tmp}{u:Call}(T:o.op= .call u)(E:u.callee= .value (.tmp t)) (h:sexec P o.dst (.callv bor B (.tm t) (u.args.toList.map SX.of)) st K KP):Leaves P o c K KP a w:=by
 obtain⟨Y,U,f,caps,l,Q,ars,C,os,n,s⟩:=h;obtain⟨y,O⟩:=Ky z s.1 n s.2.2.1 C;obtain⟨H,A,hB⟩:=Dc (bor:=bor) z s.1 n s.2.2.1;have F:=z.get (x:=.tmp t) U;have key:∃cs:Array Value,a.eval (.tmp t)= .func (.func f) #[] cs/\cs.toList.length=caps.length/\∀(i:Nat) (v:Value) (x:AV),cs.toList[i]? =some v->caps[i]? =some x->RelA θ (nf bor θ B D w) w v x:=by
  rcases l with⟨ids,rfl,rfl⟩|⟨I,rfl,rfl⟩;·obtain⟨N,J,L,M⟩:=F;refine⟨_,M,by simp[J],λi v x j b=>?_⟩;simp only[e_]at j b;cases e:ids[i]? with|none=>rw[e]at b;cases b|some id=>rw[e]at b;cases b;cases hg:N[i]? with|none=>rw[hg]at j;cases j|some g=>rw[hg]at j;cases j;exact⟨g,L i id g e hg,rfl⟩
  ·have r:RelP D w (a.eval (.tmp t)) (.fn (.func f) I):=F;generalize a.eval (.tmp t)=v at r;cases r with|fn _ vs _ hs R=>refine⟨vs,rfl,by simpa using hs,λi v x j b=>?_⟩;rw[e_]at b;cases hp:I[i]? with|none=>rw[hp]at b;cases b|some p=>rw[hp]at b;cases b;exact(R i v p (by simpa using j) hp).mono A (λ_ _=>rfl)
 obtain⟨cs,j,hl,hr⟩:=key;refine Cc z hd (H4 T E j Q) (by simp only[ab_,y,hl]) (λi v x d b=>?_) n s;rcases G_ i (u.args.toList.map a.eval).length with e|e;·rw[h_ e]at d;rw[h_ (by rw[<-y];exact e)]at b;exact O i v x d b
 ·rw[i_ e]at d;rw[i_ (by rw[<-y];exact e)]at b;rw[y]at d;exact hr _ v x d b
end
section
variable {P:Program} {o:Oper} {c:Ctx} {θ:List Loc} {D:Nat->Prop} {st:St} {a:Act} {w:World}
theorem jV(a:Array Value)(off:Nat)(vs:List Value)(h:off+vs.length<=a.size):((a.toList.take off++vs++a.toList.drop (off+vs.length)).toArray).size=a.size/\∀k,((a.toList.take off++vs++a.toList.drop (off+vs.length)).toArray)[k]? =if off<=k/\k<off+vs.length then vs[k - off]? else a[k]? :=by
 have b:=jH a.toList off vs (by simpa using h);refine⟨by have:=b;unfold splice at this;simpa using this,λk=>?_⟩;have:=mi a.toList off vs (by simpa using h) k;unfold splice at this;rw[List.getElem?_toArray,this];split;·rfl
 ·exact j_
theorem qx{t:TypeId}{sz g off:Nat}{e:TypeId}{a:Array Value}{v:Value}(hs:bJ P t=some sz)(c:v.cells.size=sz)(hg:w.heap[g]? =some (.cells a e (0,0)))(b:off+sz<=a.size)(d:∀u∈v.cells.toList,u.oneCell'=true):(Instr.storeAt t (.pointer (some ⟨g,off,none⟩)) v).run P w= .ok () (w.setRow g (a.toList.take off++v.cells.toList++a.toList.drop (off+v.cells.toList.length)).toArray):=by have:=run_storeCells_at P g off e v.cells.toList 0 a w hg (by simpa[c]using b) d;simp only[S_]at this;simp[Instr.storeAt,Instr.sureAddr,storeVar,run_sizeOf hs,c,this]
theorem Mf(I:Inv c θ D st a w){id g n cap s':Nat}{O:Nat->Prop}{e:TypeId}{s:Nat}{k:Av.K}{xs f:List PV}{hole d:Option (Nat×Nat×BV)}(hg:θ[id]? =some (.hdr g n cap s' O))(N:st.hp[id]? =some (.tree e s k xs hole)) {r z:Array Value} (p:w.heap[g]? =some (.cells r e (0,0))) (hsz:z.size=r.size) (A:f.length=xs.length) (L:∀x∈f,x.cells.length=s) (M:∀i j b,d=some (i,j,b)->i<f.length/\(k.at j).isSome=true) (B:∀(i j:Nat) (x y:PV),f[i]? =some x->x.cells[j]? =some y->(∃u,z[i*s+j]? =some u/\(match cJ d i j with|some b=>RelB θ D w u b|none=>k.at j=none/\RelP D w u y))\/(z[i*s+j]? =r[i*s+j]?/\∃x0,xs[i]? =some x0/\x0.cells[j]? =some y/\cJ d i j=cJ hole i j)): Inv c θ D {st with hp:=st.hp.set id (.tree e s k f d)} a (w.setRow g z):=by
 obtain⟨rfl,rfl,h3,h4,h5,cv,Os,P,h7,Q,h9,Y,H⟩:=I.ok.objs id _ _ hg N;rw[p]at P;cases P;have l:∀b,D b->(w.setRow g z).heap[b]? =w.heap[b]? :=λb J=>setRow_other _ _ _ _ λe=>(I.ok.olt id _ g hg (.inl rfl)).2 (e▸J);refine I.store hg (.inl rfl) (by simp) (by simp) (by simp) (by simp) (λk hk=>setRow_other _ _ _ _ hk) ⟨rfl,A.symm,h3,h4,L,z,Os,setRow_heap _ _ _ _ _ _ p,hsz.trans h7,Q,h9,M,λi j x y hx hy=>?_⟩;rcases B i j x y hx hy with⟨u,F,v⟩|⟨F,x0,v,R,T⟩;·refine⟨u,F,?_⟩;cases C:cJ d i j with|some b=>rw[C]at v;exact v.mono (λ_ h=>h) l|none=>rw[C]at v;rw[v.1];exact .flat _ _ _ (v.2.mono (λ_ h=>h) l)
 ·obtain⟨u,U,E⟩:=H i j x0 y v R;refine⟨u,F.trans U,?_⟩;rw[T];cases C:cJ hole i j with|some b=>rw[C]at E;exact E.mono (λ_ h=>h) l|none=>rw[C]at E;exact E.mono (λ_ h=>h) l λb J=>setRow_other _ _ _ _ (Q i j b J).2
theorem Si{i i' s j off sz:Nat}(h:i'≠i)(e:j<s)(c:off+sz<=s):¬(i*s+off<=i'*s+j/\i'*s+j<i*s+off+sz):=by
 intro⟨d,b⟩;rcases G_ i' i with a|a;·have:(i'+1)*s<=i*s:=g_ _ a;rw[k_,r_]at this;omega
 ·have:(i+1)*s<=i'*s:=g_ _ (by omega);rw[k_,r_]at this;omega
theorem P6(hI:Inv c θ D st a w){K:St->Prop}{t:TypeId}{y:Operand}{sz:Nat}{vx:Value}{ay:AV}(hs:bJ P t=some sz)(hY:RelA θ D w (a.eval y) ay){id i off:Nat}{e:TypeId}{s:Nat}{k:Av.K}{xs:List PV}{hole:Option (Nat×Nat×BV)}(hX:RelA θ D w vx (.b (.elt id i off))) (H:st.hp[id]? =some (.tree e s k xs hole)) (hi:i<xs.length) (T:off+sz<=s) (E:(k.flatB off sz=true/\(xs.getD i .any).isAgg=true/\aM ay.toPV λp=>p.cells.length=sz/\p.ok=true/\K {st with hp:=st.hp.set id (.tree e s k (xs.set i (.agg (splice (xs.getD i .any).cells off p.cells))) hole)})\/(∃bv r,hole=some (i,off,bv)/\sz=1/\ay= .b r/\r.cellOk=true/\K {st with hp:=st.hp.set id (.tree e s k xs (some (i,off,r)))})): ∃w' el,(Instr.storeAt t vx (a.eval y)).run P w= .ok () w'/\K el/\Rel c el a w':=by
 obtain⟨g,n,cap,s',O,hg,he⟩:=hX;obtain⟨rfl,rfl,h3,h4,N,B,Os,h6,h7,h8,h9,C,At⟩:=hI.ok.objs id _ _ hg H;obtain⟨L,J⟩:∃L,xs[i]? =some L:=⟨_,b_ hi⟩;have gc:xs.getD i .any=L:=ou J;have rg:L.cells.length=s':=N _ (c_ J);have wr:i*s'+s'<=B.size:=by
  rw[h7];have:i+1<=cap:=by omega
  have:=g_ s' this;rw[k_,r_]at this;exact this
 rcases E with⟨hf,ph,p,hp,ur,I,hk⟩|⟨bv,r,rfl,rfl,rfl,I,hk⟩
 ·obtain⟨q1,q2⟩:=pj (cd hY hp) I;have hv:(a.eval y).cells.size=sz:=by omega
  have hr:=qx (P:=P) (w:=w) (off:=i*s'+off) hs hv h6 (by omega) (λu U=>by
   obtain⟨j,hj⟩:=E_ U;have qr:j<p.cells.length:=by rw[<-q1];simpa using(a_.1 hj).1
   exact(q2 j u _ (by simpa using hj) (b_ qr)).2)
  rw[<-he]at hr;obtain⟨s1,M⟩:=jV B (i*s'+off) (a.eval y).cells.toList (by simp only[v_,hv];omega);rw[gc]at hk ph;refine⟨_,_,hr,hk,θ,D,Mf hI hg H h6 s1 (by simp) (λx l=>?_) (λi' j b hb=>by rw[List.length_set];exact C i' j b hb) λi' j x z l A=>?_⟩
  ·rcases ac_ l with h|h;·exact N x h
   ·subst h;show(splice _ _ _).length=_;rw[jH _ _ _ (by omega),rg]
  ·by_cases f:i'=i
   ·subst f;rw[t_ hi]at l;cases l;rw[show(PV.agg (splice L.cells off p.cells)).cells=splice L.cells off p.cells from rfl,mi _ _ _ (by omega)]at A;split at A
    ·rename_i hj;have Q:j - off<(a.eval y).cells.size:=by omega
     have R:k.at j=none:=by have:=La hf (j:=j - off) (by omega);rwa [show off+(j - off)=j by omega]at this
     refine .inl ⟨(a.eval y).cells[j - off],?_,?_⟩;·rw[M,if_pos ⟨by omega,by simp;omega⟩,show i'*s'+j - (i'*s'+off)=j - off by omega];rw[j_];exact d_ Q
     ·cases hq:cJ hole i' j with|some b=>have:=(C _ _ _ (qk hq)).2;rw[R]at this;cases this|none=>exact⟨R,(q2 (j - off) _ z (d_ Q) A).1⟩
    ·rename_i hj;refine .inr ⟨?_,L,J,A,rfl⟩;rw[M,if_neg (by simp only[v_];omega)]
   ·rw[m_ (Ne.symm f)]at l;refine .inr ⟨?_,x,l,A,rfl⟩;have F:j<s':=by rw[<-N x (c_ l)];exact(a_.1 A).1
    rw[M,if_neg (by simp only[v_,hv];exact Si f F T)]
 ·have Y:(a.eval y).oneCell'=true:=vf hY I;have d:(a.eval y).cells= #[a.eval y]:=cells_one Y;have hr:=qx (P:=P) (w:=w) (v:=a.eval y) (off:=i*s'+off) hs (by rw[d];rfl) h6 (by omega) (λu U=>by rw[d]at U;simp at U;subst U;exact Y)
  rw[<-he]at hr;obtain⟨s1,M⟩:=jV B (i*s'+off) (a.eval y).cells.toList (by rw[d];simp only[U_,y_];omega);refine⟨_,_,hr,hk,θ,D,Mf hI hg H h6 s1 rfl N (λi' j b hb=>by cases hb;exact C _ _ _ rfl) λi' j x z l A=>?_⟩;have F:j<s':=by rw[<-N x (c_ l)];exact(a_.1 A).1
  by_cases f:i'=i/\j=off
  ·obtain⟨rfl,rfl⟩:=f;refine .inl ⟨a.eval y,?_,?_⟩;·rw[M,if_pos ⟨by omega,by rw[d];simp⟩,d];simp
   ·simp only[cJ,and_self,if_true];exact hY
  ·refine .inr ⟨?_,x,l,A,?_⟩
   ·rw[M,if_neg ?_];rw[d];simp only[U_,y_];by_cases h:i'=i;·subst h;omega
    ·exact Si h F T
   ·simp only[cJ];rw[if_neg (by omega),if_neg (by omega)]
theorem L2(F:Inv c θ D st a w)(hd:o.dst=none){K KP:St->Prop}{t:TypeId}{x y:Operand}{sz:Nat}(ho:o.op= .store t x y)(hs:bJ P t=some sz)(h:sexec P o.dst (.store sz (.of x) (.of y)) st K KP):Leaves P o c K KP a w:=by
 intro next Q hn _;obtain⟨ax,hx,ay,hy,_,C⟩:=h;have hX:=F.get hx;have hY:=F.get hy;have E:∀(w':World) (A:St),(Instr.storeAt t (a.eval x) (a.eval y)).run P w= .ok () w'->K A->Rel c A a w'->o.wp P a w next Q:=by
  intro w' A hr B wr;unfold Oper.wp;have:(execOp a.eval o).run P w= .ok .skip w':=by simp[execOp,ho,hr]
  rw[this];simp only[Oper.upon,Act.put,hd];exact hn _ _ ⟨A,B,wr⟩
 unfold BS at C;split at C
 ·rename_i id off;obtain⟨ob,H,e,cs,rfl,qr,M,R,B⟩:=C;obtain⟨g,hg,he⟩:=hX;obtain⟨d,h1,h2,h3⟩:=F.ok.objs id _ _ hg H;obtain⟨h4,Y⟩:=pi hY R;have hv:(a.eval y).cells.size=sz:=by omega
  have hr:=qx (P:=P) (w:=w) (off:=off) hs hv h1 (by omega) (λu I=>by
   obtain⟨i,L⟩:=E_ I;have N:i<ay.cells.length:=by rw[<-h4];simpa using(a_.1 L).1
   exact(Y i u _ (by simpa using L) (b_ N)).2)
  rw[<-he]at hr;obtain⟨s1,s2⟩:=jV d off (a.eval y).cells.toList (by simp only[v_,hv];omega);refine E _ _ hr B ⟨θ,D,F.store (l:=.blk g) (g:=g) hg rfl (by simp) (by simp) (by simp) (by simp) (λk B=>setRow_other _ _ _ _ B) ⟨_,setRow_heap _ _ _ _ _ _ h1,?_,?_⟩⟩;·rw[s1,h2,jH cs off ay.cells (by omega)]
  ·intro i u z I hz;rw[s2 i]at I;rw[mi cs off ay.cells (by omega)]at hz;simp only[v_]at I;have v:∀b,D b->(w.setRow g (d.toList.take off++(a.eval y).cells.toList++d.toList.drop (off+(a.eval y).cells.toList.length)).toArray).heap[b]? =w.heap[b]? :=λb hb=>setRow_other _ _ _ _ λe=>(F.ok.olt id _ g hg (by first|exact rfl|exact .inl rfl)).2 (e▸hb)
   split at I;·rw[if_pos (by omega)]at hz;exact((Y _ u z (by simpa using I) hz).1).mono (λ_ h=>h) v
   ·rw[if_neg (by omega)]at hz;exact(h3 i u z I hz).mono (λ_ h=>h) v
 ·rename_i id i off;obtain⟨ob,H,⟨e,s,xs,rfl,L,p,hp,qr,R,f⟩|⟨e,s,k,xs,hole,rfl,L,M,f⟩⟩:=C
  rotate_left
  ·obtain⟨w',A,h1,h2,h3⟩:=P6 (K:=K) F hs hY hX H L M f;exact E w' A h1 h2 h3
  obtain⟨g,n,cap,s',O,hg,he⟩:=hX;obtain⟨rfl,rfl,h3,h4,Y,d,h6,h7,h8⟩:=F.ok.objs id _ _ hg H;obtain⟨q1,q2⟩:=pj (cd hY hp) R;have hv:(a.eval y).cells.size=sz:=by omega
  obtain⟨p0,U⟩:∃p0,xs[i]? =some p0:=⟨_,b_ L⟩;have At:xs.getD i .any=p0:=ou U;have ur:p0.cells.length=s':=Y _ (c_ U);have Bx:off+sz<=s':=by rcases f with⟨h,h',_⟩|⟨_,h,_⟩<;>omega
  have BT:i*s'+s'<=d.size:=by
   rw[h7];have:i+1<=cap:=by omega
   have:=g_ s' this;rw[k_,r_]at this;exact this
  have hr:=qx (P:=P) (w:=w) (off:=i*s'+off) hs hv h6 (by omega) (λu I=>by
   obtain⟨j,hj⟩:=E_ I;have N:j<p.cells.length:=by rw[<-q1];simpa using(a_.1 hj).1
   exact(q2 j u _ (by simpa using hj) (b_ N)).2)
  rw[<-he]at hr;obtain⟨s1,s2⟩:=jV d (i*s'+off) (a.eval y).cells.toList (by simp only[v_,hv];omega);have v:∀b,D b->(w.setRow g (d.toList.take (i*s'+off)++(a.eval y).cells.toList++d.toList.drop (i*s'+off+(a.eval y).cells.toList.length)).toArray).heap[b]? =w.heap[b]? :=λb hb=>setRow_other _ _ _ _ λe=>(F.ok.olt id _ g hg (by first|exact rfl|exact .inl rfl)).2 (e▸hb)
  have J:∀(p':PV),p'.cells=splice p0.cells off p.cells->Inv c θ D {st with hp:=st.hp.set id (.vec e s' (xs.set i p'))} a (w.setRow g (d.toList.take (i*s'+off)++(a.eval y).cells.toList++d.toList.drop (i*s'+off+(a.eval y).cells.toList.length)).toArray):=by
   intro p' rg;refine F.store hg (.inl rfl) (by simp) (by simp) (by simp) (by simp) (λk B=>setRow_other _ _ _ _ B) ⟨rfl,by simp,h3,h4,λq T=>?_,_,setRow_heap _ _ _ _ _ _ h6,by rw[s1,h7],λk j q y' T r=>?_⟩
   ·rcases ac_ T with h|h;·exact Y q h
    ·subst h;rw[rg,jH _ _ _ (by omega),ur]
   ·by_cases ph:k=i
    ·subst ph;rw[t_ L]at T;cases T;rw[rg,mi _ _ _ (by omega)]at r;split at r
     ·rename_i hj;have gc:j - off<(a.eval y).cells.size:=by omega
      refine⟨(a.eval y).cells[j - off],?_,((q2 (j - off) _ y' (d_ gc) r).1).mono (λ_ h=>h) v⟩;rw[s2,if_pos ⟨by omega,by simp;omega⟩,show k*s'+j - (k*s'+off)=j - off by omega];rw[j_];exact d_ gc
     ·rename_i hj;obtain⟨u,e1,e2⟩:=h8 k j p0 y' U r;have Bk:j<s':=by rw[<-ur];exact(a_.1 r).1
      refine⟨u,?_,e2.mono (λ_ h=>h) v⟩;rw[s2,if_neg (by simp only[v_];omega)];exact e1
    ·rw[m_ (Ne.symm ph)]at T;obtain⟨u,e1,e2⟩:=h8 k j q y' T r;have Bk:j<s':=by rw[<-Y q (c_ T)];exact(a_.1 r).1
     refine⟨u,?_,e2.mono (λ_ h=>h) v⟩;rw[s2,if_neg ?_];·exact e1
     ·simp only[v_,hv];intro⟨h9,CD⟩;rcases G_ k i with el|el;·have:(k+1)*s'<=i*s':=g_ _ el;rw[k_,r_]at this;omega
      ·have:(i+1)*s'<=k*s':=g_ _ (by omega);rw[k_,r_]at this;omega
  rcases f with⟨rfl,rfl,B⟩|⟨CT,M,B⟩;·refine E _ _ hr B ⟨θ,D,J p ?_⟩;unfold splice;rw[List.take_zero,List.drop_eq_nil_of_le (by omega)];simp
  ·rw[At]at B;exact E _ _ hr B ⟨θ,D,J _ rfl⟩
 ·exact C.elim
theorem Qa(k:Av.K)(p:PV)(j:Nat):(k.unnil p).cells[j]? =(p.cells[j]?).map λx=>if(k.at j).isSome then PV.list 0 []else x:=by
 have one:∀p:PV,p.cells=[p]->(if(k.at 0).isSome then PV.list 0 []else p).cells[j]? =(p.cells[j]?).map λx=>if(k.at j).isSome then PV.list 0 []else x:=by
  intro p hp;rw[hp];cases j with
  |zero=>
   simp only[ad_,C_];split;·rfl
   ·rw[hp];rfl
  |succ j=>
   simp only[List.getElem?_cons_succ,List.getElem?_nil,Option.map_none];split;·rfl
   ·rw[hp];rfl
 cases p with|agg cs=>simp[Av.K.unnil,PV.cells]|_=>exact one _ rfl
theorem BY(k:Av.K)(p:PV):(k.unnil p).cells.length=p.cells.length:=by cases p with|agg cs=>simp[Av.K.unnil,PV.cells]|_=>simp only[Av.K.unnil];split<;>rfl
theorem Lw{k:Av.K}{p:PV}(hn:k.nilsB p.cells=true){O:Nat->Prop}{j:Nat}{d:PV}(c:(k.unnil p).cells[j]? =some d):∃y,p.cells[j]? =some y/\∀(D:Nat->Prop) (w:World) (u:Value),RelP D w u y->RelT D w (k.at j) O u d:=by
 rw[Qa]at c;obtain⟨y,a,rfl⟩:=f_.1 c;refine⟨y,a,λD w u b=>?_⟩;simp only[Av.K.nilsB,J_,az_]at hn;have:=hn j (a_.1 a).1;cases e:k.at j with
 |none=>exact .flat _ _ _ b|some q=>
  rw[e]at this;simp only[B_,a,D_]at this;split at this;·cases b;exact .nil _ _ _
  ·cases this
theorem HP(F:Inv c θ D st a w)(hd:∀k,o.dst=some k->k<c.n){K KP:St->Prop}{t e:TypeId}{sz bytes:Nat}{z:Value}{l m:Operand}(ho:o.op= .makeSlice t l m)(H:eQ P t=some e)(hs:bJ P e=some sz)(L:iw P e=some bytes)(hz:cX P e=some z) {pl:Option Nat} (h:GG st (.mslice e sz bytes z (.of l) (.of m)) λob mk=>Ai st pl/\K ((st.new pl ob).putO o.dst (.b (mk (st.nid pl))))):Leaves P o c K KP a w:=by
 intro next Q hn _;obtain⟨al,hl,am,hm,hv⟩:=h;have h1:=ci (F.get hl) hv;have h2:=ci (F.get hm) h1;obtain⟨kl,E,U,kc,n,T,h0,O,I,N,rg,hsz,pz,d,Y,B,hk⟩:=h2;have hu:P.underlying t=some (.slice e):=by
  unfold eQ at H;split at H;·cases H;assumption
  ·cases H
 simp only[bJ,f_]at hs;obtain⟨f,r,rfl⟩:=hs;have ph:f.zero=some z:=by simpa[cX,r]using hz
 have M:f.bytes=bytes:=by simpa[iw,r]using L
 have C:=run_make (P:=P) w t e f z hu r ph kl kc E n h0 O (by rw[M];exact N) I;have ur:RelP D w z pz:=cd (sE (θ:=θ) z) d;obtain⟨c1,c2⟩:=pj ur Y;have qr:z.cells.size=f.size:=by
  rw[c1,<-rg];cases g:fM z with
  |b x=>
   rw[g]at d;cases x<;>simp[AV.toPV,BV.toPV]at d;·subst d;simp[AV.cells]
   ·subst d;rfl
   ·exfalso;unfold fM at g;split at g;·cases g
    ·unfold bn at g;split at g<;>cases g
  |tup xs=>exfalso;unfold fM at g;split at g<;>cases g|agg xs=>rw[g]at d;simp only[AV.toPV,f_]at d;obtain⟨ps,el,rfl⟩:=d;exact(mapM_some el).1.symm
 have A:pz.cells.length=f.size:=by omega
 have hcap:n.toNat<=maxLen:=by simp only[maxLen];omega
 obtain⟨θ',J,hid⟩:=F.allocAt B (l:=.hdr w.heap.size E.toNat n.toNat f.size none') (o:=.vec e f.size (Q_ E.toNat pz)) (ob:=.cells (madeCells z.cells (n.toNat*f.size)) e) (λ_ h=>h.elim id False.elim) λθ' wr=>
  ⟨rfl,by simp,by omega,hcap,λp hp=>by rw[I_ hp];exact A,_,ek w _,size_madeCells _ _,λi j x y hx hy=>by
   have gc:=I_ (c_ hx);have hi:i<E.toNat:=by simpa using(a_.1 hx).1
   subst gc;have hj:j<f.size:=by rw[<-A];exact(a_.1 hy).1
   have u:j<z.cells.size:=by omega
   refine⟨z.cells[j],?_,((c2 j _ y (d_ u) hy).1).mono (λ_ h=>h) (λb L=>dJ w _ b (F.ok.dlt b L))⟩;have R:i*f.size+j<n.toNat*f.size:=by have:(i+1)*f.size<=n.toNat*f.size:=g_ _ (by omega);rw[k_,r_]at this;omega
   have v:(i*f.size+j)%z.cells.size=j:=by rw[qr,Z_,ag_];exact af_ hj
   simp only[madeCells,am_,aj_,if_pos R,C_,v];simp[u]⟩
 have s:(execOp a.eval o).run P w= .ok (.value (.slice (some ⟨w.heap.size,0,none⟩) E.toNat n.toNat)) (w.alloc (.cells (madeCells z.cells (n.toNat*f.size)) e)):=by simp[execOp,ho,U,T,C]
 unfold Oper.wp;rw[s];exact hn _ _ ⟨_,hk,_,_,J.put hd ⟨_,hid,rfl⟩⟩
theorem GJ(F:Inv c θ D st a w)(hd:∀k,o.dst=some k->k<c.n){K KP:St->Prop}{t e:TypeId}{sz bytes:Nat}{z:Value}{l m:Operand}(ho:o.op= .makeSlice t l m)(H:eQ P t=some e)(hs:bJ P e=some sz)(L:iw P e=some bytes)(hz:cX P e=some z) {k:Av.K} (h:sexec P o.dst (.msliceT k e sz bytes z (.of l) (.of m)) st K KP):Leaves P o c K KP a w:=by
 intro next Q hn _;obtain⟨al,hl,am,hm,hv⟩:=h;have h1:=ci (F.get hl) hv;have h2:=ci (F.get hm) h1;obtain⟨kl,E,Y,kc,n,U,h0,R,I,N,At,hsz,pz,d,el,A,hk⟩:=h2;have hu:P.underlying t=some (.slice e):=by
  unfold eQ at H;split at H;·cases H;assumption
  ·cases H
 simp only[bJ,f_]at hs;obtain⟨f,r,rfl⟩:=hs;have ur:f.zero=some z:=by simpa[cX,r]using hz
 have M:f.bytes=bytes:=by simpa[iw,r]using L
 have C:=run_make (P:=P) w t e f z hu r ur kl kc E n h0 R (by rw[M];exact N) I;have Bk:RelP D w z pz:=EP (sE (θ:=θ) z) d;obtain⟨c1,c2⟩:=pj Bk el;have wr:z.cells.size=f.size:=by
  rw[c1,<-At];cases g:fM z with
  |b x=>
   rw[g]at d;simp only[AV.toPVn]at d;cases x<;>simp[BV.toPVn,BV.toPV]at d;·subst d;simp[AV.cells]
   ·subst d;rfl
   ·exfalso;unfold fM at g;split at g;·cases g
    ·unfold bn at g;split at g<;>cases g
  |tup xs=>exfalso;unfold fM at g;split at g<;>cases g|agg xs=>rw[g]at d;simp only[AV.toPVn,f_]at d;obtain⟨ps,gc,rfl⟩:=d;exact(mapM_some gc).1.symm
 have B:pz.cells.length=f.size:=by omega
 have hcap:n.toNat<=maxLen:=by simp only[maxLen];omega
 obtain⟨θ',J,hid⟩:=F.allocAt (pl:=none) trivial (l:=.hdr w.heap.size E.toNat n.toNat f.size none') (o:=.tree e f.size k (Q_ E.toNat (k.unnil pz)) none) (ob:=.cells (madeCells z.cells (n.toNat*f.size)) e) (λ_ h=>h.elim id False.elim) λθ' Bx=>
  ⟨rfl,by simp,by omega,hcap,λp hp=>by rw[I_ hp,BY];exact B,_,λ_ _ _=>False,ek w _,size_madeCells _ _,λ_ _ _ h=>h.elim,λ_ _ _ _ _ h _=>h.elim,λ_ _ _ h=>(nomatch h),λi j x y hx hy=>by
   have ph:=I_ (c_ hx);have hi:i<E.toNat:=by simpa using(a_.1 hx).1
   subst ph;have hj:j<f.size:=by rw[<-B,<-BY k];exact(a_.1 hy).1
   have u:j<z.cells.size:=by omega
   obtain⟨y0,qr,rg⟩:=Lw A (O:=λ_=>False) hy;refine⟨z.cells[j],?_,rg _ _ _ (((c2 j _ y0 (d_ u) qr).1).mono (λ_ h=>h) (λb L=>dJ w _ b (F.ok.dlt b L)))⟩;have T:i*f.size+j<n.toNat*f.size:=by have:(i+1)*f.size<=n.toNat*f.size:=g_ _ (by omega);rw[k_,r_]at this;omega
   have v:(i*f.size+j)%z.cells.size=j:=by rw[wr,Z_,ag_];exact af_ hj
   simp only[madeCells,am_,aj_,if_pos T,C_,v];simp[u]⟩
 have s:(execOp a.eval o).run P w= .ok (.value (.slice (some ⟨w.heap.size,0,none⟩) E.toNat n.toNat)) (w.alloc (.cells (madeCells z.cells (n.toNat*f.size)) e)):=by simp[execOp,ho,Y,U,C]
 unfold Oper.wp;rw[s];exact hn _ _ ⟨_,hk,_,_,J.put hd ⟨_,hid,rfl⟩⟩
theorem JC(A:Inv c θ D st a w)(hd:∀k,o.dst=some k->k<c.n){K KP:St->Prop}{t e:TypeId}{sz bytes:Nat}{z:Value}{l m:Operand}(H:o.op= .makeSlice t l m)(C:eQ P t=some e)(hs:bJ P e=some sz)(B:iw P e=some bytes)(I:cX P e=some z) (h:sexec P o.dst (.mslice e sz bytes z (.of l) (.of m)) st K KP):Leaves P o c K KP a w:=by obtain⟨al,hl,g,F,l1,j,M,n,J,N,p,L,O,r,s,u,v,x,y,b,Q,d,f,E⟩:=h;exact HP A hd H C hs B I (pl:=none) ⟨al,hl,g,F,l1,j,M,n,J,N,p,L,O,r,s,u,v,x,y,b,Q,d,f,trivial,E⟩
end
section
variable {P:Program} {o:Oper} {c:Ctx} {θ:List Loc} {D:Nat->Prop} {st:St} {a:Act} {w:World}
theorem cH{t ty e:TypeId}{i:TypeInfo}(g:P.underlying t=some (.slice e))(f:P.info? e=some i)(a:Option Addr)(n cap:Nat)(c:n<=cap)(b:Option Addr)(m:Nat):(Builtin.append_ #[t,t] ty #[.slice a n cap,.slice b 0 m]).run P w= .ok (.slice a n cap) w:=by
 have d:(Builtin.firstCells i.size 0 (.slice b 0 m)).run P w= .ok #[] w:=by cases b<;>simp[Builtin.firstCells,loadCells,loadCellsFrom]
 cases a<;>simp[Builtin.append_,run_underlying g,sizeOf,typeInfo,f,Builtin.lenOf,c,d,storeCells]
theorem fU(z:Array Value)(n:Nat):(Builtin.zeroCells z n).size=n*z.size:=by simp[Builtin.zeroCells]
theorem flat_get{sz i j:Nat}(a:j<sz):(i*sz+j)/sz=i/\(i*sz+j)%sz=j:=by
 have b:0<sz:=by omega
 rw[Z_];refine⟨?_,?_⟩;·rw[Nat.mul_add_div b,Nat.div_eq_of_lt a,S_]
 ·rw[ag_];exact af_ a
theorem eg{t ty e:TypeId}{i:TypeInfo}{z:Value}(l:P.underlying t=some (.slice e))(k:P.info? e=some i)(p:i.zero=some z)(d:Option Addr) (f:Addr) (n c:Nat) (a:List Value) (hl:a.length=n*i.size) (b:∀j v,a[j]? =some v->w.cell? (f.add j)=some v) (s:0<n) (h:(n:Int)<=9223372036854775807) (g:n*i.bytes<=140737488355328):(Builtin.append_ #[t,t] ty #[.slice d 0 0,.slice (some f) n c]).run P w= .ok (.slice (some ⟨w.heap.size,0,none⟩) n (grownCap w n 0 e)) (w.drew.alloc (.cells (a.toArray++Builtin.zeroCells z.cells (grownCap w n 0 e - n)) e)):=by cases d with|none=>exact run_append_nil (P:=P) w t ty e i z l k p f n c a hl b s h (by omega)|some r=>have hr:=run_append_grow (P:=P) w t ty e i z l k p r 0 0 [] (by simp) (λj u x=>by simp at x) f n c a hl b (by omega) (by omega) (growslice_fits (by omega) (by rw[x_];exact g));simpa using hr
theorem Jz(R:Inv c θ D st a w)(hd:∀k,o.dst=some k->k<c.n){K KP:St->Prop}{t e:TypeId}{sz bytes:Nat}{z:Value}{x y:Operand}{cl:Call}(ho:o.op= .call cl)(Pb:cl.callee= .builtin .append)(DA:cl.args= #[x,y])(In:cl.argTypes= #[t,t]) (he:eQ P t=some e) (hs:bJ P e=some sz) (hb:iw P e=some bytes) (hz:cX P e=some z) (KK:z.cells.size=sz) (h0:0<sz) (Nd:0<bytes) (h:sexec P o.dst (.append e sz bytes (.of x) (.of y)) st K KP):Leaves P o c K KP a w:=by
 intro next Q hn _;obtain⟨ax,hx,ay,hy,hL⟩:=h;have hX:=R.get hx;obtain⟨L,ad,m,⟨PJ,DB⟩,rg,SM,RT,Bk⟩:=mf R.ok (R.get hy) hL;have hu:P.underlying t=some (.slice e):=by
  unfold eQ at he;split at he;·cases he;assumption
  ·cases he
 simp only[bJ,f_]at hs;obtain⟨f,H,rfl⟩:=hs;have DP:f.zero=some z:=by simpa[cX,H]using hz
 have Pa:f.bytes=bytes:=by simpa[iw,H]using hb
 subst Pa;have ph:∀(v:Value) (w':World) (BT:St),(Builtin.append_ #[t,t] o.type #[a.eval x,a.eval y]).run P w= .ok v w'->K BT->Rel c BT (a.put o.dst v) w'->o.wp P a w next Q:=by
  intro v w' BT hr U GS;unfold Oper.wp;have:(execOp a.eval o).run P w= .ok (.value v) w':=by simp[execOp,ho,resolve,Pb,DA,In,invoke,builtin,hr]
  rw[this];exact hn _ _ ⟨BT,U,GS⟩
 have At:0<L.length->∃(ab:Addr) (d:List Value),ad=some ab/\d.length=L.length*f.size/\(∀(j:Nat) (u:Value),d[j]? =some u->w.cell? (ab.add j)=some u)/\(∀u∈d,u.oneCell'=true)/\(∀p∈L,p.cells.length=f.size)/\∀(i j:Nat) (p q:PV),L[i]? =some p->p.cells[j]? =some q->∃u,d[i*f.size+j]? =some u/\RelP D w u q:=by
  intro hl
  obtain⟨g,og,rfl,hg,hsz,hc⟩:=Bk hl
  obtain⟨d,n1,n2⟩:=fW (n:=L.length*f.size) (p:=λk u=>w.cell? ⟨g,og+k,none⟩=some u/\u.oneCell'=true/\∀(p q:PV),L[k/f.size]? =some p->p.cells[k%f.size]? =some q->RelP D w u q) (λk U=>by
   have hi:k/f.size<L.length:=(ai_ h0).2 U;have C:k%f.size<f.size:=aE_ _ h0;have hp:=b_ hi;have Th:=hsz _ (c_ hp);have N:=b_ (l:=(L[k/f.size]).cells) (i:=k%f.size) (by omega);obtain⟨u,e1,e2⟩:=hc _ _ _ _ hp N;refine⟨u,?_,?_,λp q Fm Fr=>?_⟩;·rw[<-e1,H_,Z_,aw_]
   ·have CD:=PJ _ (c_ hp);simp only[PV.ok,J_]at CD;exact iE e2 (CD _ (c_ N))
   ·rw[hp]at Fm;cases Fm;rw[N]at Fr;cases Fr;exact e2)
  refine⟨_,d,rfl,n1,λj u C=>by rw[addr_add];exact(n2 j u C).1,λu hu=>?_,hsz,λi j p q hp N=>?_⟩
  ·obtain⟨j,C⟩:=E_ hu;exact(n2 j u C).2.1
  ·have C:j<f.size:=by rw[<-hsz p (c_ hp)];exact(a_.1 N).1
   have hi:i<L.length:=(a_.1 hp).1;have Bx:i*f.size+j<d.length:=by rw[n1];have:(i+1)*f.size<=L.length*f.size:=g_ _ hi;rw[k_,r_]at this;omega
   refine⟨d[i*f.size+j],b_ Bx,?_⟩;obtain⟨f1,f2⟩:=flat_get (i:=i) C;exact(n2 _ _ (b_ Bx)).2.2 p q (by rw[f1];exact hp) (by rw[f2];exact N)
 have I:∀(w':World) (r d:List Value) (xs:List PV) (cv:Array Value) (k:Nat),(∀b,D b->w'.heap[b]? =w.heap[b]?)->r.length=xs.length*f.size->cv.size=k*f.size->(∀j,j<r.length->cv[j]? =r[j]?)->(∀j,j<d.length->cv[r.length+j]? =d[j]?)->(∀p∈xs,p.cells.length=f.size)->(∀p∈L,p.cells.length=f.size)->d.length=L.length*f.size->(∀(i j:Nat) (p q:PV),xs[i]? =some p->p.cells[j]? =some q->∃u,r[i*f.size+j]? =some u/\RelP D w u q)->(∀(i j:Nat) (p q:PV),L[i]? =some p->p.cells[j]? =some q->∃u,d[i*f.size+j]? =some u/\RelP D w u q)->∀(i j:Nat) (p q:PV),(xs++L)[i]? =some p->p.cells[j]? =some q->∃u,cv[i*f.size+j]? =some u/\RelP D w' u q:=by
  intro w' r d xs cv k J Y So PA Pc DM RW SW ro rn i j p q hp N
  rcases G_ i xs.length with hi|hi
  ·rw[h_ hi]at hp;obtain⟨u,e1,e2⟩:=ro i j p q hp N;exact⟨u,by rw[PA _ (a_.1 e1).1];exact e1,e2.mono (λ_ h=>h) J⟩
  ·rw[i_ hi]at hp;obtain⟨u,e1,e2⟩:=rn _ j p q hp N;refine⟨u,?_,e2.mono (λ_ h=>h) J⟩;have:=Pc _ (a_.1 e1).1;rw[e1]at this;rw[<-this,Y];congr 1;have:i*f.size=xs.length*f.size+(i - xs.length)*f.size:=by rw[<-k_];congr 1;omega
   omega
 have gc:∀(xs:List PV) (k:Nat),(xs.length+L.length)*f.bytes<=k->xs.length+L.length<=k:=λxs k h=>L_ (O_ _ Nd) h;rcases DB with⟨id,rfl,ob,PB,xs,rfl,ur,U⟩|⟨RK,ur,U⟩
 ·obtain⟨l,hl,hh⟩:=hX;have F:=R.ok.objs id l _ hl PB;have CT:=gc xs _ ur;have Bx:id<θ.length:=(a_.1 hl).1;have M:∀(l':Loc),(θ.set id l')[id]? =some l':=λl'=>t_ Bx;by_cases T:L.length=0
  ·have Dg:L=[]:=n_ T;subst Dg;have qr:Inv c (θ.set id l) D (st.moved id (.vec e f.size (xs++[]))) a w:=by
    refine R.move hl (λg hg=>?_) (λg hg=>?_) rfl rfl rfl (u_ _) (λ_ _ _=>rfl) (λg hg=>⟨(R.ok.olt id l g hl hg).1,.inl hg⟩) ?_;·subst hg;exact F.elim
    ·subst hg;exact F.elim
    ·rw[au_];have Rg:θ.set id l=θ:=by
      apply ao_;intro i;by_cases DS:i=id;·subst DS;rw[M];exact hl.symm
      ·rw[m_ (Ne.symm DS)]
     rw[Rg];exact F
   cases l<;>simp only[RelO,Loc.head]at F hh;·rename_i A;refine ph (.slice A 0 0) w _ ?_ U ⟨_,D,qr.put hd ⟨.nil A,M _,rfl⟩⟩;rw[hh,rg];exact cH hu H A 0 0 (u_ _) ad m
   ·rename_i g n cap s O;obtain⟨rfl,rfl,h3,_⟩:=F;refine ph _ w _ ?_ U ⟨_,D,qr.put hd ⟨_,M _,rfl⟩⟩;rw[hh,rg];exact cH hu H _ _ cap h3 ad m
  ·obtain⟨ab,d,rfl,n1,n2,n3,n4,n5⟩:=At (z_ T);have grow:∀(E:Nat) (r:List Value) (v:Value),r.length=xs.length*f.size->(∀p∈xs,p.cells.length=f.size)->(∀(i j:Nat) (p q:PV),xs[i]? =some p->p.cells[j]? =some q->∃u,r[i*f.size+j]? =some u/\RelP D w u q)->(Builtin.append_ #[t,t] o.type #[v,.slice (some ab) L.length m]).run P w= .ok (.slice (some ⟨w.heap.size,0,none⟩) (xs.length+L.length) (grownCap w (xs.length+L.length) E e)) (w.drew.alloc (.cells (r.toArray++d.toArray++Builtin.zeroCells z.cells (grownCap w (xs.length+L.length) E e - (xs.length+L.length))) e))->a.eval x=v->o.wp P a w next Q:=by
    intro E r v Y DM ro Hx hv
    have DH:=grownCap_ge w (xs.length+L.length) E e
    have DE:grownCap w (xs.length+L.length) E e<=maxLen:=grownCap_le_maxLen w _ E e (by simp only[maxLen];omega)
    have hcs:(r.toArray++d.toArray++Builtin.zeroCells z.cells (grownCap w (xs.length+L.length) E e - (xs.length+L.length))).size=grownCap w (xs.length+L.length) E e*f.size:=by simp only[P_,R_,fU,KK,Y,n1,<-k_];congr 1;omega
    have J:∀b,D b->(w.drew.alloc (.cells (r.toArray++d.toArray++Builtin.zeroCells z.cells (grownCap w (xs.length+L.length) E e - (xs.length+L.length))) e)).heap[b]? =w.heap[b]? :=λb hb=>dJ w.drew _ b (R.ok.dlt b hb)
    have qr:=R.move (l':=.hdr w.heap.size (xs.length+L.length) (grownCap w (xs.length+L.length) E e) f.size none') (o':=.vec e f.size (xs++L)) (w':=w.drew.alloc (.cells (r.toArray++d.toArray++Builtin.zeroCells z.cells (grownCap w (xs.length+L.length) E e - (xs.length+L.length))) e)) hl (λg hg=>by subst hg;exact F.elim) (λg hg=>by subst hg;exact F.elim) rfl rfl rfl (by simp) (λk U _=>dJ w.drew _ k U) (λg hg=>by rcases hg with rfl|hg;exact⟨by simp,.inr (u_ _)⟩;exact hg.elim) ⟨rfl,by simp,DH,DE,λp hp=>(V_.1 hp).elim (DM p) (n4 p),_,ek w.drew _,hcs,I _ r d xs _ _ J Y hcs (λj C=>by rw[p_ (by simp;omega),p_ (by simpa using C)];simp) (λj C=>by rw[p_ (by simp;omega),X_ (by simp)];simp) DM n4 n1 ro n5⟩
    refine ph _ _ _ ?_ U ⟨_,D,qr.put hd ⟨_,M _,rfl⟩⟩
    rw[hv,rg]
    exact Hx
   cases l<;>simp only[RelO,Loc.head]at F hh;·rename_i A;subst F;have hr:=eg (P:=P) (w:=w) (ty:=o.type) hu H DP A ab L.length m d n1 n2 (z_ T) (by simp only[y_]at CT;omega) (by simp only[y_,x_]at ur;omega);refine grow 0 [] (.slice A 0 0) (by simp) (λp hp=>by cases hp) (λi j p q hp=>by simp at hp) ?_ hh;simpa using hr
   ·rename_i g n cap s O;obtain⟨rfl,rfl,h3,h4,h5,B,h6,h7,h8⟩:=F;by_cases el:xs.length+L.length<=cap
    ·have Fk:xs.length*f.size+d.length<=B.size:=by rw[n1,h7,<-k_];exact g_ _ el
     have hr:=run_append_room (P:=P) w t o.type e f hu H g xs.length cap B h6 ab L.length m d n1 n2 n3 el Fk;obtain⟨s1,s2⟩:=jV B (xs.length*f.size) d Fk;have J:∀b,D b->(w.setRow g (B.toList.take (xs.length*f.size)++d++B.toList.drop (xs.length*f.size+d.length)).toArray).heap[b]? =w.heap[b]? :=λb hb=>setRow_other _ _ _ _ λe=>(R.ok.olt id _ g hl (.inl rfl)).2 (e▸hb);have wr:(B.toList.take (xs.length*f.size)).length=xs.length*f.size:=by simp;omega
     have qr:=R.move (l':=.hdr g (xs.length+L.length) cap f.size O) (o':=.vec e f.size (xs++L)) (w':=w.setRow g (B.toList.take (xs.length*f.size)++d++B.toList.drop (xs.length*f.size+d.length)).toArray) hl (λg hg=>by cases hg) (λg hg=>by cases hg) rfl rfl rfl (by simp) (λk _ U=>setRow_other _ _ _ _ λe=>U (by rw[e];exact .inl rfl)) (λg' DQ=>⟨by simp;exact(R.ok.olt id _ g' hl DQ).1,.inl DQ⟩)
      ⟨rfl,by simp,el,h4,λp hp=>(V_.1 hp).elim (h5 p) (n4 p),_,setRow_heap _ _ _ _ _ _ h6,by rw[s1,h7],
       I _ (B.toList.take (xs.length*f.size)) d xs _ cap J wr (by rw[s1,h7]) (λj C=>by
        rw[wr]at C;rw[s2,if_neg (by omega),l_,if_pos C,j_]) (λj C=>by
        rw[s2,wr,if_pos ⟨by omega,by omega⟩];congr 1;omega) h5 n4 n1 (λi j p q hp N=>by
        obtain⟨u,e1,e2⟩:=h8 i j p q hp N;refine⟨u,?_,e2⟩;have C:j<f.size:=by rw[<-h5 p (c_ hp)];exact(a_.1 N).1
        have hi:i<xs.length:=(a_.1 hp).1;have:(i+1)*f.size<=xs.length*f.size:=g_ _ hi;rw[k_,r_]at this;rw[l_,if_pos (by omega),j_];exact e1) n5⟩
     refine ph _ _ _ ?_ U ⟨_,D,qr.put hd ⟨_,M _,rfl⟩⟩;rw[hh,rg];exact hr
    ·have RM:xs.length*f.size<=B.size:=by rw[h7];exact g_ _ h3
     have Y:(B.toList.take (xs.length*f.size)).length=xs.length*f.size:=by simp;omega
     have hr:=run_append_grow (P:=P) w t o.type e f z hu H DP ⟨g,0,none⟩ xs.length cap (B.toList.take (xs.length*f.size)) Y (λj u C=>by
      rw[addr_add,x_,cell_of_row w g j B e (0,0) h6];rw[l_]at C;split at C;·simpa using C
      ·cases C) ab L.length m d n1 n2 (by omega) (by omega) (growslice_fits (by omega) ur)
     refine grow cap _ _ Y h5 (λi j p q hp N=>?_) hr hh;obtain⟨u,e1,e2⟩:=h8 i j p q hp N;refine⟨u,?_,e2⟩;have C:j<f.size:=by rw[<-h5 p (c_ hp)];exact(a_.1 N).1
     have hi:i<xs.length:=(a_.1 hp).1;have:(i+1)*f.size<=xs.length*f.size:=g_ _ hi;rw[k_,r_]at this;rw[l_,if_pos (by omega),j_];exact e1
 ·obtain⟨A,JT⟩:∃A,a.eval x= .slice A 0 0:=by
   rcases RK with rfl|rfl;·exact⟨none,hX⟩
   ·obtain⟨h1,a0,n0,h2⟩:=hX;refine⟨a0,?_⟩;rw[h2]at h1⊢;cases h1;rfl
  have CT:=gc [] _ (by simpa using ur);simp only[y_,x_]at CT;by_cases T:L.length=0;·have Dg:L=[]:=n_ T;subst Dg;have hp:Inv c (θ++[.nil A]) D {st with hp:=st.hp++[.vec e f.size []]} a w:=R.push rfl (λg hg=>by cases hg);refine ph (.slice A 0 0) w _ ?_ U ⟨_,D,hp.put hd ⟨.nil A,by rw[<-R.ok.len];simp,rfl⟩⟩;rw[JT,rg];exact cH hu H A 0 0 (u_ _) ad m
  ·obtain⟨ab,d,rfl,n1,n2,n3,n4,n5⟩:=At (z_ T);have hr:=eg (P:=P) (w:=w) (ty:=o.type) hu H DP A ab L.length m d n1 n2 (z_ T) (by omega) (by omega);have DH:=grownCap_ge w L.length 0 e;have DE:grownCap w L.length 0 e<=maxLen:=grownCap_le_maxLen w _ 0 e (by simp only[maxLen];omega);have hcs:(d.toArray++Builtin.zeroCells z.cells (grownCap w L.length 0 e - L.length)).size=grownCap w L.length 0 e*f.size:=by simp only[P_,R_,fU,KK,n1,<-k_];congr 1;omega
   have J:∀b,D b->(w.drew.alloc (.cells (d.toArray++Builtin.zeroCells z.cells (grownCap w L.length 0 e - L.length)) e)).heap[b]? =w.heap[b]? :=λb hb=>dJ w.drew _ b (R.ok.dlt b hb);have MT:=R.drew.allocOwn (l:=.hdr w.heap.size L.length (grownCap w L.length 0 e) f.size none') (o:=.vec e f.size L) (ob:=.cells (d.toArray++Builtin.zeroCells z.cells (grownCap w L.length 0 e - L.length)) e) (λ_ h=>h.elim (λh=>h) False.elim) λθ' Vc=>⟨rfl,rfl,DH,DE,n4,_,ek w.drew _,hcs,λi j p q hp N=>by have:=I _ [] d [] _ _ J (by simp) hcs (λj C=>by simp at C) (λj C=>by simp only[y_,x_];rw[p_ (by simpa using C)];simp) (λp hp=>by cases hp) n4 n1 (λi j p q hp=>by simp at hp) n5 i j p q (by simpa using hp) N;exact this⟩
   refine ph _ _ _ ?_ U ⟨_,D,MT.put hd ⟨.hdr w.heap.size L.length (grownCap w L.length 0 e) f.size none',by rw[<-R.ok.len];simp,rfl⟩⟩;rw[JT,rg];exact hr
theorem Ns(R:Inv c θ D st a w)(hd:∀k,o.dst=some k->k<c.n){K KP:St->Prop}{t e:TypeId}{sz bytes:Nat}{z:Value}{x y:Operand}{cl:Call}(ho:o.op= .call cl)(RM:cl.callee= .builtin .append)(DM:cl.args= #[x,y])(Pa:cl.argTypes= #[t,t]) (he:eQ P t=some e) (hs:bJ P e=some sz) (M:iw P e=some bytes) (hz:cX P e=some z) (Pc:z.cells.size=sz) (h0:0<sz) (Rg:0<bytes) {k:Av.K} (h:sexec P o.dst (.appT k e sz bytes (.of x) (.of y)) st K KP):Leaves P o c K KP a w:=by
 intro next Q hn _;obtain⟨ax,hx,ay,hy,hL⟩:=h;have hX:=R.get hx;obtain⟨L,ad,m,⟨DA,DP⟩,ur,Xd,Xb,BT⟩:=mf R.ok (R.get hy) hL;have SM:∀p∈L,p.ok=true:=λp hp=>(DA p hp).1;have hu:P.underlying t=some (.slice e):=by
  unfold eQ at he;split at he;·cases he;assumption
  ·cases he
 simp only[bJ,f_]at hs;obtain⟨f,H,rfl⟩:=hs;have Fk:f.zero=some z:=by simpa[cX,H]using hz
 have RK:f.bytes=bytes:=by simpa[iw,H]using M
 subst RK;have qr:∀(v:Value) (w':World) (CT:St),(Builtin.append_ #[t,t] o.type #[a.eval x,a.eval y]).run P w= .ok v w'->K CT->Rel c CT (a.put o.dst v) w'->o.wp P a w next Q:=by
  intro v w' CT hr Y MT;unfold Oper.wp;have:(execOp a.eval o).run P w= .ok (.value v) w':=by simp[execOp,ho,resolve,RM,DM,Pa,invoke,builtin,hr]
  rw[this];exact hn _ _ ⟨CT,Y,MT⟩
 have Bx:0<L.length->∃(ab:Addr) (d:List Value),ad=some ab/\d.length=L.length*f.size/\(∀(j:Nat) (u:Value),d[j]? =some u->w.cell? (ab.add j)=some u)/\(∀u∈d,u.oneCell'=true)/\(∀p∈L,p.cells.length=f.size)/\∀(i j:Nat) (p q:PV),L[i]? =some p->p.cells[j]? =some q->∃u,d[i*f.size+j]? =some u/\RelP D w u q:=by
  intro hl
  obtain⟨g,og,rfl,hg,hsz,hc⟩:=BT hl
  obtain⟨d,n1,n2⟩:=fW (n:=L.length*f.size) (p:=λk u=>w.cell? ⟨g,og+k,none⟩=some u/\u.oneCell'=true/\∀(p q:PV),L[k/f.size]? =some p->p.cells[k%f.size]? =some q->RelP D w u q) (λk Y=>by
   have hi:k/f.size<L.length:=(ai_ h0).2 Y;have C:k%f.size<f.size:=aE_ _ h0;have hp:=b_ hi;have Xf:=hsz _ (c_ hp);have I:=b_ (l:=(L[k/f.size]).cells) (i:=k%f.size) (by omega);obtain⟨u,e1,e2⟩:=hc _ _ _ _ hp I;refine⟨u,?_,?_,λp q In KK=>?_⟩;·rw[<-e1,H_,Z_,aw_]
   ·have Dg:=SM _ (c_ hp);simp only[PV.ok,J_]at Dg;exact iE e2 (Dg _ (c_ I))
   ·rw[hp]at In;cases In;rw[I]at KK;cases KK;exact e2)
  refine⟨_,d,rfl,n1,λj u C=>by rw[addr_add];exact(n2 j u C).1,λu hu=>?_,hsz,λi j p q hp I=>?_⟩
  ·obtain⟨j,C⟩:=E_ hu;exact(n2 j u C).2.1
  ·have C:j<f.size:=by rw[<-hsz p (c_ hp)];exact(a_.1 I).1
   have hi:i<L.length:=(a_.1 hp).1;have CD:i*f.size+j<d.length:=by rw[n1];have:(i+1)*f.size<=L.length*f.size:=g_ _ hi;rw[k_,r_]at this;omega
   refine⟨d[i*f.size+j],b_ CD,?_⟩;obtain⟨f1,f2⟩:=flat_get (i:=i) C;exact(n2 _ _ (b_ CD)).2.2 p q (by rw[f1];exact hp) (by rw[f2];exact I)
 have PB:(L.map k.unnil).length=L.length:=by simp
 have DH:(∀p∈L,p.cells.length=f.size)->∀p∈L.map k.unnil,p.cells.length=f.size:=λh p hp=>by obtain⟨q,I,rfl⟩:=Y_.1 hp;rw[BY];exact h q I
 have J:∀(w':World) (r d:List Value) (xs:List PV) (cv:Array Value) (cap:Nat) (Os:Nat->Nat->Nat->Prop),(∀b,D b->w'.heap[b]? =w.heap[b]?)->(∀i j b,Os i j b->w'.heap[b]? =w.heap[b]?)->r.length=xs.length*f.size->cv.size=cap*f.size->(∀j,j<r.length->cv[j]? =r[j]?)->(∀j,j<d.length->cv[r.length+j]? =d[j]?)->d.length=L.length*f.size->(∀(i j:Nat) (p q:PV),xs[i]? =some p->p.cells[j]? =some q->∃u,r[i*f.size+j]? =some u/\RelT D w (k.at j) (Os i j) u q)->(∀(i j:Nat) (p q:PV),L[i]? =some p->p.cells[j]? =some q->∃u,d[i*f.size+j]? =some u/\RelP D w u q)->∀(i j:Nat) (p q:PV),(xs++L.map k.unnil)[i]? =some p->p.cells[j]? =some q->∃u,cv[i*f.size+j]? =some u/\RelT D w' (k.at j) (Os i j) u q:=by
  intro w' r d xs cv cap Os N PJ el Xc RW RT Xe ro rn i j p q hp I
  rcases G_ i xs.length with hi|hi
  ·rw[h_ hi]at hp;obtain⟨u,e1,e2⟩:=ro i j p q hp I;exact⟨u,by rw[RW _ (a_.1 e1).1];exact e1,e2.mono (λ_ h=>h) N λb M=>PJ i j b M⟩
  ·rw[i_ hi,e_]at hp;obtain⟨p0,JT,rfl⟩:=f_.1 hp;obtain⟨q0,SW,Th⟩:=Lw (DA p0 (c_ JT)).2 (O:=Os i j) I;obtain⟨u,e1,e2⟩:=rn _ j p0 q0 JT SW;refine⟨u,?_,Th _ _ _ (e2.mono (λ_ h=>h) N)⟩;have:=RT _ (a_.1 e1).1;rw[e1]at this;rw[<-this,el];congr 1;have:i*f.size=xs.length*f.size+(i - xs.length)*f.size:=by rw[<-k_];congr 1;omega
   omega
 have ph:∀(xs:List PV) (k:Nat),(xs.length+L.length)*f.bytes<=k->xs.length+L.length<=k:=λxs k h=>L_ (O_ _ Rg) h;rcases DP with⟨id,rfl,ob,So,xs,rfl,At,Y⟩|⟨WD,At,Y⟩
 ·obtain⟨l,hl,hh⟩:=hX;have F:=R.ok.objs id l _ hl So;have DB:=ph xs _ At;have CD:id<θ.length:=(a_.1 hl).1;have T:∀(l':Loc),(θ.set id l')[id]? =some l':=λl'=>t_ CD;by_cases U:L.length=0
  ·have DE:L=[]:=n_ U;subst DE;have rg:Inv c (θ.set id l) D (st.moved id (.tree e f.size k (xs++([]:List PV).map k.unnil) none)) a w:=by
    refine R.move hl (λg hg=>?_) (λg hg=>?_) rfl rfl rfl (u_ _) (λ_ _ _=>rfl) (λg hg=>⟨(R.ok.olt id l g hl hg).1,.inl hg⟩) ?_;·subst hg;exact F.elim
    ·subst hg;exact F.elim
    ·rw[List.map_nil,au_];have Vc:θ.set id l=θ:=by
      apply ao_;intro i;by_cases GS:i=id;·subst GS;rw[T];exact hl.symm
      ·rw[m_ (Ne.symm GS)]
     rw[Vc];exact F
   cases l<;>simp only[RelO,Loc.head]at F hh;·rename_i A;refine qr (.slice A 0 0) w _ ?_ Y ⟨_,D,rg.put hd ⟨.nil A,T _,rfl⟩⟩;rw[hh,ur];exact cH hu H A 0 0 (u_ _) ad m
   ·rename_i g n cap s O;obtain⟨rfl,rfl,h3,_⟩:=F;refine qr _ w _ ?_ Y ⟨_,D,rg.put hd ⟨_,T _,rfl⟩⟩;rw[hh,ur];exact cH hu H _ _ cap h3 ad m
  ·obtain⟨ab,d,rfl,n1,n2,n3,n4,n5⟩:=Bx (z_ U);have grow:∀(E:Nat) (r:List Value) (v:Value) (O:Nat->Prop) (Os:Nat->Nat->Nat->Prop),(∀b,O b->l.has b)->(∀i j b,Os i j b->O b)->(∀i j i' j' b,Os i j b->Os i' j' b->i=i'/\j=j')->r.length=xs.length*f.size->(∀p∈xs,p.cells.length=f.size)->(∀(i j:Nat) (p q:PV),xs[i]? =some p->p.cells[j]? =some q->∃u,r[i*f.size+j]? =some u/\RelT D w (k.at j) (Os i j) u q)->(Builtin.append_ #[t,t] o.type #[v,.slice (some ab) L.length m]).run P w= .ok (.slice (some ⟨w.heap.size,0,none⟩) (xs.length+L.length) (grownCap w (xs.length+L.length) E e)) (w.drew.alloc (.cells (r.toArray++d.toArray++Builtin.zeroCells z.cells (grownCap w (xs.length+L.length) E e - (xs.length+L.length))) e))->a.eval x=v->o.wp P a w next Q:=by
    intro E r v O Os Fm hOs hdj el Wf ro Nd hv
    have wr:∀b,O b->b<w.heap.size:=λb M=>(R.ok.olt id l b hl (Fm b M)).1
    have DS:=grownCap_ge w (xs.length+L.length) E e
    have DQ:grownCap w (xs.length+L.length) E e<=maxLen:=grownCap_le_maxLen w _ E e (by simp only[maxLen];omega)
    have hcs:(r.toArray++d.toArray++Builtin.zeroCells z.cells (grownCap w (xs.length+L.length) E e - (xs.length+L.length))).size=grownCap w (xs.length+L.length) E e*f.size:=by simp only[P_,R_,fU,Pc,el,n1,<-k_];congr 1;omega
    have N:∀b,D b->(w.drew.alloc (.cells (r.toArray++d.toArray++Builtin.zeroCells z.cells (grownCap w (xs.length+L.length) E e - (xs.length+L.length))) e)).heap[b]? =w.heap[b]? :=λb M=>dJ w.drew _ b (R.ok.dlt b M)
    have rg:=R.move (l':=.hdr w.heap.size (xs.length+L.length) (grownCap w (xs.length+L.length) E e) f.size O) (o':=.tree e f.size k (xs++L.map k.unnil) none) (w':=w.drew.alloc (.cells (r.toArray++d.toArray++Builtin.zeroCells z.cells (grownCap w (xs.length+L.length) E e - (xs.length+L.length))) e)) hl (λg hg=>by subst hg;exact F.elim) (λg hg=>by subst hg;exact F.elim) rfl rfl rfl (by simp) (λk Y _=>dJ w.drew _ k Y) (λg hg=>by rcases hg with rfl|hg;exact⟨by simp,.inr (u_ _)⟩;exact⟨by simp;have:=wr g hg;omega,.inl (Fm g hg)⟩) ⟨rfl,by simp,DS,DQ,λp hp=>(V_.1 hp).elim (Wf p) (DH n4 p),_,Os,ek w.drew _,hcs,λi j b M=>⟨hOs i j b M,by have:=wr b (hOs i j b M);simp;omega⟩,hdj,λ_ _ _ h=>(nomatch h),J _ r d xs _ _ Os N (λi j b M=>dJ w.drew _ b (wr b (hOs i j b M))) el hcs (λj C=>by rw[p_ (by simp;omega),p_ (by simpa using C)];simp) (λj C=>by rw[p_ (by simp;omega),X_ (by simp)];simp) n1 ro n5⟩
    refine qr _ _ _ ?_ Y ⟨_,D,rg.put hd ⟨_,T _,rfl⟩⟩
    rw[hv,ur]
    exact Nd
   cases l<;>simp only[RelO,Loc.head]at F hh;·rename_i A;obtain⟨rfl,-⟩:=F;have hr:=eg (P:=P) (w:=w) (ty:=o.type) hu H Fk A ab L.length m d n1 n2 (z_ U) (by simp only[y_]at DB;omega) (by simp only[y_,x_]at At;omega);refine grow 0 [] (.slice A 0 0) none' (λ_ _ _=>False) (λ_ h=>h.elim) (λ_ _ _ h=>h.elim) (λ_ _ _ _ _ h _=>h.elim) (by simp) (λp hp=>by cases hp) (λi j p q hp=>by simp at hp) ?_ hh;simpa using hr
   ·rename_i g n cap s O;obtain⟨rfl,rfl,h3,h4,h5,B,Os,h6,h7,hOs,hdj,-,h8⟩:=F;by_cases gc:xs.length+L.length<=cap
    ·have Hx:xs.length*f.size+d.length<=B.size:=by rw[n1,h7,<-k_];exact g_ _ gc
     have hr:=run_append_room (P:=P) w t o.type e f hu H g xs.length cap B h6 ab L.length m d n1 n2 n3 gc Hx;obtain⟨s1,s2⟩:=jV B (xs.length*f.size) d Hx;have N:∀b,D b->(w.setRow g (B.toList.take (xs.length*f.size)++d++B.toList.drop (xs.length*f.size+d.length)).toArray).heap[b]? =w.heap[b]? :=λb M=>setRow_other _ _ _ _ λe=>(R.ok.olt id _ g hl (.inl rfl)).2 (e▸M);have Bk:(B.toList.take (xs.length*f.size)).length=xs.length*f.size:=by simp;omega
     have rg:=R.move (l':=.hdr g (xs.length+L.length) cap f.size O) (o':=.tree e f.size k (xs++L.map k.unnil) none) (w':=w.setRow g (B.toList.take (xs.length*f.size)++d++B.toList.drop (xs.length*f.size+d.length)).toArray) hl (λg hg=>by cases hg) (λg hg=>by cases hg) rfl rfl rfl (by simp) (λk _ Y=>setRow_other _ _ _ _ λe=>Y (by rw[e];exact .inl rfl)) (λg' Fr=>⟨by simp;exact(R.ok.olt id _ g' hl Fr).1,.inl Fr⟩)
      ⟨rfl,by simp,gc,h4,λp hp=>(V_.1 hp).elim (h5 p) (DH n4 p),_,Os,setRow_heap _ _ _ _ _ _ h6,by rw[s1,h7],hOs,hdj,λ_ _ _ h=>(nomatch h),
       J _ (B.toList.take (xs.length*f.size)) d xs _ cap Os N (λi j b M=>setRow_other _ _ _ _ (hOs i j b M).2) Bk (by rw[s1,h7]) (λj C=>by
        rw[Bk]at C;rw[s2,if_neg (by omega),l_,if_pos C,j_]) (λj C=>by
        rw[s2,Bk,if_pos ⟨by omega,by omega⟩];congr 1;omega) n1 (λi j p q hp I=>by
        obtain⟨u,e1,e2⟩:=h8 i j p q hp I;refine⟨u,?_,e2⟩;have C:j<f.size:=by rw[<-h5 p (c_ hp)];exact(a_.1 I).1
        have hi:i<xs.length:=(a_.1 hp).1;have:(i+1)*f.size<=xs.length*f.size:=g_ _ hi;rw[k_,r_]at this;rw[l_,if_pos (by omega),j_];exact e1) n5⟩
     refine qr _ _ _ ?_ Y ⟨_,D,rg.put hd ⟨_,T _,rfl⟩⟩;rw[hh,ur];exact hr
    ·have Xa:xs.length*f.size<=B.size:=by rw[h7];exact g_ _ h3
     have el:(B.toList.take (xs.length*f.size)).length=xs.length*f.size:=by simp;omega
     have hr:=run_append_grow (P:=P) w t o.type e f z hu H Fk ⟨g,0,none⟩ xs.length cap (B.toList.take (xs.length*f.size)) el (λj u C=>by
      rw[addr_add,x_,cell_of_row w g j B e (0,0) h6];rw[l_]at C;split at C;·simpa using C
      ·cases C) ab L.length m d n1 n2 (by omega) (by omega) (growslice_fits (by omega) At)
     refine grow cap _ _ O Os (λ_ h=>.inr h) (λi j b h=>(hOs i j b h).1) hdj el h5 (λi j p q hp I=>?_) hr hh;obtain⟨u,e1,e2⟩:=h8 i j p q hp I;refine⟨u,?_,e2⟩;have C:j<f.size:=by rw[<-h5 p (c_ hp)];exact(a_.1 I).1
     have hi:i<xs.length:=(a_.1 hp).1;have:(i+1)*f.size<=xs.length*f.size:=g_ _ hi;rw[k_,r_]at this;rw[l_,if_pos (by omega),j_];exact e1
 ·obtain⟨A,Pb⟩:∃A,a.eval x= .slice A 0 0:=by subst WD;exact⟨none,hX⟩
  have DB:=ph [] _ (by simpa using At);simp only[y_,x_]at DB;by_cases U:L.length=0;·have DE:L=[]:=n_ U;subst DE;have hp:Inv c (θ++[.nil A]) D {st with hp:=st.hp++[.tree e f.size k (([]:List PV).map k.unnil) none]} a w:=R.push ⟨rfl,rfl⟩ (λg hg=>by cases hg);refine qr (.slice A 0 0) w _ ?_ Y ⟨_,D,hp.put hd ⟨.nil A,by rw[<-R.ok.len];simp,rfl⟩⟩;rw[Pb,ur];exact cH hu H A 0 0 (u_ _) ad m
  ·obtain⟨ab,d,rfl,n1,n2,n3,n4,n5⟩:=Bx (z_ U);have hr:=eg (P:=P) (w:=w) (ty:=o.type) hu H Fk A ab L.length m d n1 n2 (z_ U) (by omega) (by omega);have DS:=grownCap_ge w L.length 0 e;have DQ:grownCap w L.length 0 e<=maxLen:=grownCap_le_maxLen w _ 0 e (by simp only[maxLen];omega);have hcs:(d.toArray++Builtin.zeroCells z.cells (grownCap w L.length 0 e - L.length)).size=grownCap w L.length 0 e*f.size:=by simp only[P_,R_,fU,Pc,n1,<-k_];congr 1;omega
   have N:∀b,D b->(w.drew.alloc (.cells (d.toArray++Builtin.zeroCells z.cells (grownCap w L.length 0 e - L.length)) e)).heap[b]? =w.heap[b]? :=λb M=>dJ w.drew _ b (R.ok.dlt b M);have PA:=R.drew.allocOwn (l:=.hdr w.heap.size L.length (grownCap w L.length 0 e) f.size none') (o:=.tree e f.size k (L.map k.unnil) none) (ob:=.cells (d.toArray++Builtin.zeroCells z.cells (grownCap w L.length 0 e - L.length)) e) (λ_ h=>h.elim (λh=>h) False.elim) λθ' Xg=>⟨rfl,PB.symm,DS,DQ,DH n4,_,λ_ _ _=>False,ek w.drew _,hcs,λ_ _ _ h=>h.elim,λ_ _ _ _ _ h _=>h.elim,λ_ _ _ h=>(nomatch h),λi j p q hp I=>by have:=J _ [] d [] _ _ (λ_ _ _=>False) N (λ_ _ _ h=>h.elim) (by simp) hcs (λj C=>by simp at C) (λj C=>by simp only[y_,x_];rw[p_ (by simpa using C)];simp) n1 (λi j p q hp=>by simp at hp) n5 i j p q (by simpa using hp) I;exact this⟩
   refine qr _ _ _ ?_ Y ⟨_,D,PA.put hd ⟨.hdr w.heap.size L.length (grownCap w L.length 0 e) f.size none',by rw[<-R.ok.len];simp,rfl⟩⟩;rw[Pb,ur];exact hr
end
end Go.Av
