import Derived.WalkKit
import Derived.KernelRfl
import Derived.Deep.Quiet
import Derived.Test.YtdgiglmmpbndmaaGreatDoorGw
import Derived.Laws.StructEq
import Derived.Laws.CopyRow
import Derived.MapKept
set_option linter.all false
open Array renaming getElem?_eq_getElem->g_,getElem?_append_left->l_,getElem?_toList->t_,size_append->L_,getElem?_setIfInBounds_ne->N_,getElem?_append_right->R_,replicate->aa_,length_toList->ac_,getElem?_map->ae_,getElem?_range->aq_,all_eq_true'->av_,toList_map->az_,ext'->aJ_,getD->aR_
open Bool renaming false_eq_true->u_,and_eq_true->F_,not_false->ar_,or_assoc->au_,or_eq_true->aC_,not_true->aN_
open Classical renaming byContradiction->J_
open Int renaming not_lt->aS_
open List renaming mem_of_getElem?->a_,getElem?_eq_getElem->b_,getElem?_eq_some_iff->c_,getElem?_map->i_,getElem?_append_left->j_,eq_nil_of_length_eq_zero->k_,all_eq_true->n_,getElem?_of_mem->p_,getElem?_append_right->r_,length_nil->x_,getElem?_take->z_,getElem?_set_ne->A_,length_cons->G_,mem_range->H_,range->I_,mem_append->K_,size_toArray->M_,getElem?_set_self->O_,getD->Q_,ext_getElem?->S_,length_append->W_,mem_map->X_,replicate->Y_,mem_flatMap->Z_,idxOf_lt_length_of_mem->ad_,mapM_cons->af_,drop_eq_getElem_cons->ai_,mem_or_eq_of_mem_set->aj_,eq_of_mem_replicate->al_,filter_cons->am_,append_nil->an_,foldl_cons->ao_,length_singleton->ap_,getElem?_drop->aw_,length_mapIdx->ax_,getElem?_inj->ay_,zipIdx_cons->aA_,find?_cons->aD_,length_map->aE_,mem_filter->aF_,nil_append->aG_,take_zero->aK_,map_cons->aO_,range'->aQ_
open Nat renaming mul_le_mul_right->f_,le_refl->m_,pos_of_ne_zero->o_,zero_add->q_,lt_of_lt_of_le->s_,add_mul->w_,lt_or_ge->y_,div_lt_iff_lt_mul->C_,le_mul_of_pos_right->D_,le_trans->E_,div_add_mod->P_,mul_comm->T_,add_assoc->V_,eq_zero_or_pos->ag_,mod_lt->ah_,one_mul->ak_,mod_eq_of_lt->aB_,mul_add_mod->aH_,not_lt->aL_,testBit_or->aM_,add_zero->aP_
open Option renaming map_eq_some_iff->d_,bind_eq_some_iff->e_,isSome_iff_exists->v_,getD_some->U_,map_some->ab_,bind_eq_bind->as_,pure_def->aI_
open Option.some renaming inj->h_,injEq->B_
namespace Go.Av
open Go Go.RowKit
inductive PV where
 |sc (v:Value)
 |list (sz:Nat) (xs:List PV)
 |agg (xs:List PV)
 |dC (xs:List PV)
 |BS (x:PV)
 |fn (f:Fn) (caps:List PV)
 |any
 deriving Inhabited
def PV.cells:PV->List PV
 | .agg xs=>xs
 |x=>[x]
def lB(sz:Nat):List PV->PV
 |[]=>.list 0 []
 |x::xs=>.list sz (x::xs)
inductive aX(D:Nat->Prop)(w:World):Value->PV->Prop
 |sc (v:Value):aX D w v (.sc v)
 |any (v:Value):aX D w v .any
 |agg (vs:Array Value) (xs:List PV) (hs:vs.size=xs.length) (h:∀(i:Nat) (v:Value) (x:PV),vs[i]? =some v->xs[i]? =some x->aX D w v x):aX D w (.agg vs) (.agg xs)
 |dC (vs:Array Value) (xs:List PV) (hs:vs.size=xs.length) (h:∀(i:Nat) (v:Value) (x:PV),vs[i]? =some v->xs[i]? =some x->aX D w v x):aX D w (.tuple vs) (.dC xs)
 |nil (a:Option Addr) (cap:Nat):aX D w (.slice a 0 cap) (.list 0 [])
 |list (b o cap sz:Nat) (x0:PV) (xs:List PV) (val:Nat->Nat->Value) (hcap:(x0::xs).length<=cap) (hD:D b) (hsz:∀x∈x0::xs,x.cells.length=sz)
  (hc:∀(i j:Nat) (x y:PV),(x0::xs)[i]? =some x->x.cells[j]? =some y->w.cell? ⟨b,o+i*sz+j,none⟩=some (val i j))
  (hr:∀(i j:Nat) (x y:PV),(x0::xs)[i]? =some x->x.cells[j]? =some y->aX D w (val i j) y):
  aX D w (.slice (some ⟨b,o,none⟩) (x0::xs).length cap) (.list sz (x0::xs))
 |BS (b o:Nat) (x:PV) (val:Nat->Value) (hD:D b) (hc:∀(j:Nat) (y:PV),x.cells[j]? =some y->w.cell? ⟨b,o+j,none⟩=some (val j))
  (hr:∀(j:Nat) (y:PV),x.cells[j]? =some y->aX D w (val j) y):aX D w (.pointer (some ⟨b,o,none⟩)) (.BS x)
 |fn (f:Fn) (vs:Array Value) (xs:List PV) (hs:vs.size=xs.length) (h:∀(i:Nat) (v:Value) (x:PV),vs[i]? =some v->xs[i]? =some x->aX D w v x):aX D w (.func f #[] vs) (.fn f xs)
def Il{w w':World}{a:Addr}(h:w'.heap[a.block]? =w.heap[a.block]?):w'.cell? a=w.cell? a:=World.cell?_of_block h
theorem aX.mono{D D':Nat->Prop}{w w':World}(hD:∀b,D b->D' b)(I:∀b,D b->w'.heap[b]? =w.heap[b]?){v:Value}{p:PV}(h:aX D w v p):aX D' w' v p:=by induction h with|sc v=>exact .sc v|any v=>exact .any v|agg vs xs hs _ E=>exact .agg vs xs hs E|dC vs xs hs _ E=>exact .dC vs xs hs E|nil a cap=>exact .nil a cap|list b o cap sz x0 xs val hcap H hsz hc _ E=>exact .list b o cap sz x0 xs val hcap (hD b H) hsz (λi j x y N J=>by rw[Il (I b H)];grind) E|BS b o x val H hc _ E=>exact .BS b o x val (hD b H) (λj y J=>by rw[Il (I b H)];grind) E|fn f vs xs hs _ E=>exact .fn f vs xs hs E
inductive PV.Flat:PV->Prop
 |sc (v:Value):Flat (.sc v)
 |any:Flat .any
 |agg (xs:List PV) (h:∀(i:Nat) (x:PV),xs[i]? =some x->Flat x):Flat (.agg xs)
 |dC (xs:List PV) (h:∀(i:Nat) (x:PV),xs[i]? =some x->Flat x):Flat (.dC xs)
def aX.flat{D D':Nat->Prop}{w w':World}{v:Value}{p:PV}(h:aX D w v p)(E:p.Flat):aX D' w' v p:=by
 induction h with
 |sc v=>exact .sc v|any v=>exact .any v|agg vs xs hs _ N=>cases E with|agg _ I=>exact .agg vs xs hs λi v x J H=>N i v x J H (I i x H)
 |dC vs xs hs _ N=>cases E with|dC _ I=>exact .dC vs xs hs λi v x J H=>N i v x J H (I i x H)
 |nil a cap=>exact .nil a cap|list=>cases E|BS=>cases E|fn=>cases E
def oj{D:Nat->Prop}{w:World}{v:Value}{sz:Nat}{xs:List PV}(h:aX D w v (lB sz xs)): ∃a cap,v= .slice a xs.length cap/\xs.length<=cap/\(0<xs.length->∃b o,a=some ⟨b,o,none⟩/\D b/\(∀x∈xs,x.cells.length=sz)/\∀(i j:Nat) (x y:PV),xs[i]? =some x->x.cells[j]? =some y->∃u,w.cell? ⟨b,o+i*sz+j,none⟩=some u/\aX D w u y):=by
 cases xs with
 |nil=>cases h with|nil a cap=>simp
 |cons x0 xs=>cases h with|list b o cap _ _ _ val hcap c hsz hc hr=>grind
def gA{D:Nat->Prop}{w:World}{sz:Nat}{xs:List PV}{a:Option Addr}{cap:Nat}(hcap:xs.length<=cap) (h:0<xs.length->∃b o,a=some ⟨b,o,none⟩/\D b/\(∀x∈xs,x.cells.length=sz)/\∀(i j:Nat) (x y:PV),xs[i]? =some x->x.cells[j]? =some y->∃u,w.cell? ⟨b,o+i*sz+j,none⟩=some u/\aX D w u y): aX D w (.slice a xs.length cap) (lB sz xs):=by
 cases xs with
 |nil=>exact .nil a cap|cons x0 xs=>
  obtain⟨b,o,rfl,e,hsz,hc⟩:=h (by simp);have key:∀i j,∃u,∀x y,(x0::xs)[i]? =some x->x.cells[j]? =some y->w.cell? ⟨b,o+i*sz+j,none⟩=some u/\aX D w u y:=by
   intro i j;by_cases c:∃x y,(x0::xs)[i]? =some x/\x.cells[j]? =some y;.obtain⟨x,y,c,d⟩:=c;obtain⟨u,h1,h2⟩:=hc i j x y c d;refine⟨u,λk l f g=>?_⟩;grind
   .exact⟨undef,λx y h1 h2=>absurd ⟨x,y,h1,h2⟩ c⟩
  exact .list b o cap sz x0 xs (λi j=>(key i j).choose) hcap e hsz (λi j x y c d=>((key i j).choose_spec x y c d).1) (λi j x y c d=>((key i j).choose_spec x y c d).2)
def y9{D:Nat->Prop}{w:World}{v:Value}{x:PV}(h:aX D w v (.BS x)): ∃b o,v= .pointer (some ⟨b,o,none⟩)/\D b/\∀(j:Nat) (y:PV),x.cells[j]? =some y->∃u,w.cell? ⟨b,o+j,none⟩=some u/\aX D w u y:=by cases h with|BS b o _ val a hc hr=>grind
def pD{D:Nat->Prop}{w:World}{b o:Nat}{x:PV}(c:D b) (h:∀(j:Nat) (y:PV),x.cells[j]? =some y->∃u,w.cell? ⟨b,o+j,none⟩=some u/\aX D w u y):aX D w (.pointer (some ⟨b,o,none⟩)) (.BS x):=by
 have key:∀j,∃u,∀y,x.cells[j]? =some y->w.cell? ⟨b,o+j,none⟩=some u/\aX D w u y:=by intro j;cases d:x.cells[j]? with|none=>simp|some y=>obtain⟨u,h1,h2⟩:=h j y d;exact⟨u,λf e=>by grind⟩
 exact .BS b o x (λj=>(key j).choose) c (λj y a=>((key j).choose_spec y a).1) (λj y a=>((key j).choose_spec y a).2)
inductive BV where
 |pv (p:PV)
 |oZ
 |sl (id:Nat)
 |ptr (id off:Nat)
 |jb (id i off:Nat)
 |kj (f:Fn) (ids:List Nat)
 |mp (id:Nat)
 |full (p:PV)
 |LD
 deriving Inhabited
inductive AV where
 |b (x:BV)
 |agg (xs:List BV)
 |dC (xs:List BV)
 deriving Inhabited
abbrev AV.p(x:PV):AV:=.b (.pv x)
abbrev AV.v(x:Value):AV:=.b (.pv (.sc x))
def AV.cells:AV->List BV
 | .agg xs=>xs
 | .b (.pv p)=>p.cells.map .pv
 | .b x=>[x]
 | .dC _=>[.pv .any]
inductive K where
 |e
 |f (r:K)
 |s (t:TypeId) (sz:Nat) (sub r:K)
 deriving Inhabited,DecidableEq
def K.at:K->Nat->Option (TypeId×Nat×K)
 | .e,_=>none
 | .f _,0=>none
 | .s t sz sub _,0=>some (t,sz,sub)
 | .f r,n+1=>r.at n
 | .s _ _ _ r,n+1=>r.at n
def K.PD:K->Bool
 | .e=>true
 | .f r=>r.PD
 | .s _ _ _ _=>false
def K.mJ(k:K)(off n:Nat):Bool:=(I_ n).all λj=>(k.at (off+j)).isNone
inductive aL where
 |gone
 |free
 |box (t:TypeId) (cs:List BV)
 |vec (e:TypeId) (sz:Nat) (xs:List PV)
 |map (k e:TypeId) (kvs:List (PV×PV))
 |tree (e:TypeId) (sz:Nat) (k:K) (xs:List PV) (hole:Option (Nat×Nat×BV))
 deriving Inhabited
structure St where
 fr:List (Nat×AV)
 hp:List aL
def look:List (Nat×AV)->Nat->Option AV
 |[],_=>none
 |(k,a)::l,t=>if t=k then some a else look l t
def St.put(st:St)(d:Nat)(a:AV):St:={st with fr:=(d,a)::st.fr}
inductive SX where
 |tm (k:Nat)
 |c (v:Value)
 |g (n:Nat)
 |f (n:Nat)
 deriving Inhabited
def SX.of:Operand->SX
 | .tmp k=>.tm k
 | .const v=>.c v
 | .global n=>.g n
 | .func n=>.f n
inductive fh where
 |mv (x:SX)
 |pick (c a b:SX)
 |bin (op:BinOp) (x y:SX)
 |G8 (neg:Bool) (x y:SX)
 |un (op:UnOp) (x:SX)
 |len (str:Bool) (x:SX)
 |qC (x i:SX)
 |pX (n sz:Nat) (ag:Bool) (x i:SX)
 |qA (sz:Nat) (x i:SX)
 |qB (n sz:Nat) (ag:Bool) (x i:SX)
 |oW (off sz:Nat) (ag:Bool) (x:SX)
 |Iy (off sz:Nat) (ag:Bool) (x:SX)
 |load (sz:Nat) (ag:Bool) (x:SX)
 |store (sz:Nat) (x v:SX)
 |alloc (t:TypeId) (zero:List Value)
 |box (t:TypeId) (x:SX)
 |qj (t:TypeId) (x:SX)
 |build (zero:List Value) (parts:List (Nat×Nat×SX))
 |bI (own:Bool) (e:TypeId) (sz len:Nat) (parts:List SX)
 |cO (e:TypeId) (sz bytes:Nat) (zero:Value) (l c:SX)
 |append (e:TypeId) (sz bytes:Nat) (x y:SX)
 |qm (k:IntKind) (x:SX)
 |Je (sz:Nat) (x:SX) (lo hi mx:Option SX)
 |qJ (x:SX) (lo hi:Option SX)
 |ext (x:SX) (i:Nat)
 |rR (x:SX)
 |call (bor:Bool) (f:FuncId) (args:List SX)
 |gP (bor:Bool) (B:List Nat) (f:FuncId) (args:List SX)
 |fw (bor:Bool) (B:List Nat) (x:SX) (args:List SX)
 |oY (k e:TypeId) (x:SX)
 |G3 (x:SX)
 |rQ (f:FuncId) (caps:List SX)
 |ir (k e:TypeId)
 |lookup (k e:TypeId) (ok:Bool) (zero:Value) (m x:SX)
 |ic (k e:TypeId) (m x v:SX)
 |sL (neg:Bool) (t:TypeId) (x y:SX)
 |copy (e:TypeId) (sz:Nat) (x y:SX)
 |mX (mx:Bool) (k:IntKind) (x:SX) (ys:List SX)
 |panic (x:SX)
 |iface (t:TypeId) (x:SX)
 |pM (e:TypeId) (sz bytes:Nat) (x y:SX)
 |eo (e:TypeId) (sz len:Nat) (parts:List SX)
 |dE (k:K) (e:TypeId) (sz bytes:Nat) (zero:Value) (l c:SX)
 |pN (k:K) (e:TypeId) (sz bytes:Nat) (x y:SX)
 |im (bor:Bool) (x:SX) (args:List SX)
 |uq (s:Nat) (op:fh)
 deriving Inhabited
structure be where
 dst:Option Nat
 op:fh
 gd:Option (Nat×Bool)
 deriving Inhabited
def bG:Value->BV
 | .slice none 0 0=>.oZ
 |v=>.pv (.sc v)
def fV:Value->AV
 | .agg cs=>.agg (cs.toList.map bG)
 |v=>.b (bG v)
def St.get(st:St):SX->Option AV
 | .tm k=>look st.fr k
 | .c v=>some (fV v)
 | .g n=>some (.v (.pointer (some ⟨n,0,none⟩)))
 | .f n=>some (.p (.fn (.func n) []))
def aR{b:Type}(o:Option b)(K:b->Prop):Prop:=∃a,o=some a/\K a
def zz(a:AV)(K:Value->Prop):Prop:=∃v,a= .v v/\K v
def isInt(v:Value)(K:IntKind->Int->Prop):Prop:=∃k n,v= .int k n/\K k n
def isBool(v:Value)(K:Bool->Prop):Prop:=∃b,v= .bool b/\K b
def Nw(v:Value)(K:ByteArray->Prop):Prop:=∃s,v= .string s/\K s
def mC(hp:List aL)(sz:Nat)(a:AV)(K:List PV->Prop):Prop:=
 (a= .b .oZ/\K [])\/(∃L,a= .p (lB sz L)/\K L)\/(∃id e L,a= .b (.sl id)/\hp[id]? =some (.vec e sz L)/\K L)\/(∃L,a= .b (.full (lB sz L))/\K L)
def Sz{sz:Nat}{L L':List PV}(h:lB sz L=lB sz L'):L=L':=by cases L<;>cases L'<;>simp_all[lB]
def isLen(hp:List aL)(a:AV)(K:Nat->Prop):Prop:=
 (a= .b .oZ/\K 0)\/(∃sz L,a= .p (lB sz L)/\K L.length)\/(∃id e sz L,a= .b (.sl id)/\hp[id]? =some (.vec e sz L)/\K L.length)\/(∃sz L,a= .b (.full (lB sz L))/\K L.length)\/
  (∃id e sz k L hole,a= .b (.sl id)/\hp[id]? =some (.tree e sz k L hole)/\K L.length)
def isMap(hp:List aL)(k e:TypeId)(a:AV)(K:Nat->List (PV×PV)->Prop):Prop:=∃id kvs,a= .b (.mp id)/\hp[id]? =some (.map k e kvs)/\K id kvs
def kh(k:IntKind)(op:BinOp)(x y:Int):Int:=
 match op with
 | .and=>k.wrap (BitVec.ofInt k.bits x&&&BitVec.ofInt k.bits y).toNat
 | .or=>k.wrap (BitVec.ofInt k.bits x|||BitVec.ofInt k.bits y).toNat
 | .xor=>k.wrap (BitVec.ofInt k.bits x ^^^ BitVec.ofInt k.bits y).toNat
 |_=>k.wrap (BitVec.ofInt k.bits x&&& ~~~ BitVec.ofInt k.bits y).toNat
def JQ(op:BinOp)(x y:Value)(K:Value->Prop):Prop:=
 match x,y with
 | .int k a,.int c b=>
  match op with
  | .add=>k=c/\K (.int k (k.wrap (a+b)))
  | .sub=>k=c/\K (.int k (k.wrap (a - b)))
  | .mul=>k=c/\K (.int k (k.wrap (a*b)))
  | .quo=>k=c/\b≠0/\K (.int k (k.wrap (a.tdiv b)))
  | .rem=>k=c/\b≠0/\K (.int k (a.tmod b))
  | .and=>k=c/\K (.int k (kh k .and a b))
  | .or=>k=c/\K (.int k (kh k .or a b))
  | .xor=>k=c/\K (.int k (kh k .xor a b))
  | .andNot=>k=c/\K (.int k (kh k .andNot a b))
  | .shl=>0<=b/\K (.int k (k.wrap (a*2^(min b.toNat k.bits))))
  | .shr=>0<=b/\K (.int k (a.fdiv (2^(min b.toNat k.bits))))
  | .eql=>k=c/\K (.bool (a==b))
  | .neq=>k=c/\K (.bool (a != b))
  | .lss=>k=c/\K (.bool (decide (a<b)))
  | .leq=>k=c/\K (.bool (decide (a<=b)))
  | .gtr=>k=c/\K (.bool (decide (a>b)))
  | .geq=>k=c/\K (.bool (decide (a>=b)))
 | .string a,.string b=>
  match op with
  | .add=>a.size+b.size<=9223372036854775807/\K (.string (a++b))
  | .eql=>K (.bool (a.toList==b.toList))
  | .neq=>K (.bool !(a.toList==b.toList))
  | .lss=>K (.bool (Op.bytesLess a.toList b.toList))
  | .leq=>K (.bool (Op.bytesLess a.toList b.toList||a.toList==b.toList))
  | .gtr=>K (.bool !(Op.bytesLess a.toList b.toList||a.toList==b.toList))
  | .geq=>K (.bool !(Op.bytesLess a.toList b.toList))
  |_=>False
 |_,_=>False
def unV(op:UnOp)(x:Value)(K:Value->Prop):Prop:=
 match op,x with
 | .not,.bool b=>K (.bool !b)
 | .neg,.int k n=>K (.int k (k.wrap (0 - n)))
 |_,_=>False
def PV.isAgg:PV->Bool
 | .agg _=>true
 |_=>false
def PV.sub(x:PV)(off sz:Nat)(ag:Bool):PV:=match ag with
 |true=>.agg ((x.cells.drop off).take sz)
 |false=>x.cells.getD off .any
def BV.bF:BV->Option PV
 | .pv p=>some p
 | .oZ=>some (.list 0 [])
 | .full p=>some p
 |_=>none
def AV.bF:AV->Option PV
 | .b x=>x.bF
 | .agg xs=>(xs.mapM BV.bF).map .agg
 | .dC xs=>(xs.mapM BV.bF).map .dC
def vu:PV:=.sc (.slice none 0 0)
def BV.mr:BV->Option PV
 | .oZ=>some vu
 |x=>x.bF
def AV.mr:AV->Option PV
 | .b x=>x.mr
 | .agg xs=>(xs.mapM BV.mr).map .agg
 | .dC _=>none
def K.yJ(k:K)(cs:List PV):Bool:=(I_ cs.length).all λj=>match k.at j with
 |some _=>(match cs.getD j .any with| .sc (.slice none 0 0)=>true|_=>false)
 |none=>true
def K.gZ(k:K)(p:PV):PV:=match p with
 | .agg cs=>.agg (cs.mapIdx λj x=>if(k.at j).isSome then .list 0 []else x)
 |x=>if(k.at 0).isSome then .list 0 []else x
def PV.cX:PV->Bool
 | .sc v=>v.oneCell'
 | .list .. | .BS _| .fn .. =>true
 |_=>false
def PV.ok(p:PV):Bool:=p.cells.all PV.cX
def BV.cX:BV->Bool
 | .pv p=>p.cX
 |_=>true
def AV.ok(x:AV):Bool:=x.cells.all BV.cX
def splice{a:Type}(xs:List a)(off:Nat)(ys:List a):List a:=xs.take off++ys++xs.drop (off+ys.length)
def mY(ag:Bool)(cs:List BV):AV:=match ag with
 |true=>.agg cs
 |false=>.b (cs.headD (.pv .any))
def BQ(hp:List aL)(sz:Nat)(ag:Bool)(a:AV)(K:AV->Prop):Prop:=
 match a with
 | .b (.pv (.BS x))=>x.isAgg=ag/\x.cells.length=sz/\K (.p x)
 | .b (.ptr id off)=>aR hp[id]? λo=>∃t cs,o= .box t cs/\off+sz<=cs.length/\(ag=false->sz=1)/\(K (mY ag ((cs.drop off).take sz))\/aR (mY ag ((cs.drop off).take sz)).bF λp=>K (.p p))
 | .b (.jb id i off)=>aR hp[id]? λo=>(∃e s xs,o= .vec e s xs/\i<xs.length/\off+sz<=s/\(ag=false->sz=1)/\
  ((off=0/\sz=s/\(xs.getD i .any).isAgg=ag/\K (.p (xs.getD i .any)))\/(sz≠s/\K (.p ((xs.getD i .any).sub off sz ag)))))\/
  (∃e s k xs hole,o= .tree e s k xs hole/\i<xs.length/\off+sz<=s/\(ag=false->sz=1)/\
   ((k.mJ off sz=true/\K (.p ((xs.getD i .any).sub off sz ag)))\/(∃bv,hole=some (i,off,bv)/\sz=1/\ag=false/\K (.b bv))))
 |_=>False
def Bj(hp:List aL)(sz:Nat)(a v:AV)(K:List aL->Prop):Prop:=
 match a with
 | .b (.ptr id off)=>aR hp[id]? λo=>∃t cs,o= .box t cs/\v.cells.length=sz/\off+sz<=cs.length/\v.ok=true/\K (hp.set id (.box t (splice cs off v.cells)))
 | .b (.jb id i off)=>aR hp[id]? λo=>(∃e s xs,o= .vec e s xs/\i<xs.length/\aR v.bF λp=>p.cells.length=sz/\p.ok=true/\
  ((off=0/\sz=s/\K (hp.set id (.vec e s (xs.set i p))))\/(sz≠s/\off+sz<=s/\K (hp.set id (.vec e s (xs.set i (.agg (splice (xs.getD i .any).cells off p.cells))))))))\/
  (∃e s k xs hole,o= .tree e s k xs hole/\i<xs.length/\off+sz<=s/\
   ((k.mJ off sz=true/\(xs.getD i .any).isAgg=true/\aR v.bF λp=>p.cells.length=sz/\p.ok=true/\K (hp.set id (.tree e s k (xs.set i (.agg (splice (xs.getD i .any).cells off p.cells))) hole)))\/
    (∃bv b,hole=some (i,off,bv)/\sz=1/\v= .b b/\b.cX=true/\K (hp.set id (.tree e s k xs (some (i,off,b)))))))
 |_=>False
def BV.kill(id:Nat):BV->BV
 | .sl k=>if k=id then .pv .any else .sl k
 | .jb k i o=>if k=id then .pv .any else .jb k i o
 |x=>x
def AV.kill(id:Nat):AV->AV
 | .b x=>.b (x.kill id)
 | .agg xs=>.agg (xs.map (BV.kill id))
 | .dC xs=>.dC (xs.map (BV.kill id))
def KX(g:BV->BV):Option (Nat×Nat×BV)->Option (Nat×Nat×BV)
 |some (i,j,b)=>some (i,j,g b)
 |none=>none
def aL.kill(id:Nat):aL->aL
 | .box t cs=>.box t (cs.map (BV.kill id))
 | .tree e sz k xs h=>.tree e sz k xs (KX (BV.kill id) h)
 |o=>o
def St.kill(st:St)(id:Nat):St:={st with fr:=st.fr.map λx=>(x.1,x.2.kill id),hp:=st.hp.map (aL.kill id)}
def St.fC(st:St)(id:Nat)(o:aL):St:=⟨st.fr.map λx=>(x.1,x.2.kill id),(st.hp.map (aL.kill id)).set id o⟩
def Lg(hp:List aL)(id:Nat):Option PV:=match hp[id]? with
 |some (.vec _ sz xs)=>some (lB sz xs)
 |some (.tree _ sz _ xs none)=>some (lB sz xs)
 |_=>none
def su(hp:List aL)(bor:Bool):BV->Option PV
 | .sl id=>if bor then Lg hp id else none
 |x=>x.bF
def je(hp:List aL)(bor:Bool):AV->Option PV
 | .b x=>su hp bor x
 | .agg xs=>(xs.mapM (su hp bor)).map .agg
 |a=>a.bF
def ny(hp:List aL)(bor:Bool)(B:List Nat):AV->Option AV
 | .b (.sl id)=>if B.contains id then some (.b (.sl id))else(je hp bor (.b (.sl id))).map .p
 | .agg xs=>if(xs.mapM BV.bF).isSome then(AV.agg xs).bF.map .p else some (.agg xs)
 | .b (.full p)=>some (.p p)
 | .b .oZ=>some (.p (.list 0 []))
 |a=>some a
def PV.plain:PV->Bool
 | .sc (.int _ _)=>true
 | .sc (.bool _)=>true
 | .sc (.string _)=>true
 | .agg xs=>xs.all λx=>match x with
  | .sc (.int _ _)=>true
  | .sc (.bool _)=>true
  | .sc (.string _)=>true
  |_=>false
 |_=>false
def qd(st:St)(x:Option SX)(b:Nat)(K:Nat->Prop):Prop:=match x with
 |none=>K b
 |some x=>aR (st.get x) λa=>zz a λv=>isInt v λ_ n=>0<=n/\K n.toNat
def bytesOf:List PV->Option (List Int)
 |[]=>some []
 | .sc (.int .u8 n)::l=>(bytesOf l).map (n::·)
 |_=>none
def St.aE(st:St)(d:Option Nat)(a:AV):St:=match d with
 |some d=>st.put d a
 |none=>st
def yv:Value->Option Bool
 | .bool b=>some b
 |_=>none
def BV.eM(ρ:Nat->Nat):BV->BV
 | .sl id=>.sl (ρ id)
 | .ptr id off=>.ptr (ρ id) off
 | .jb id i off=>.jb (ρ id) i off
 | .kj f ids=>.kj f (ids.map ρ)
 | .mp id=>.mp (ρ id)
 |x=>x
def AV.eM(ρ:Nat->Nat):AV->AV
 | .b x=>.b (x.eM ρ)
 | .agg xs=>.agg (xs.map (BV.eM ρ))
 | .dC xs=>.dC (xs.map (BV.eM ρ))
def aL.eM(ρ:Nat->Nat):aL->aL
 | .box t cs=>.box t (cs.map (BV.eM ρ))
 | .tree e sz k xs h=>.tree e sz k xs (KX (BV.eM ρ) h)
 |o=>o
def BV.ids:BV->List Nat
 | .sl id=>[id]
 | .ptr id _=>[id]
 | .jb id _ _=>[id]
 | .kj _ ids=>ids
 | .mp id=>[id]
 |_=>[]
def AV.ids:AV->List Nat
 | .b x=>x.ids
 | .agg xs=>xs.flatMap BV.ids
 | .dC xs=>xs.flatMap BV.ids
def aL.ids:aL->List Nat
 | .box _ cs=>cs.flatMap BV.ids
 | .tree _ _ _ _ (some (_,_,b))=>b.ids
 |_=>[]
def BV.cA(B:List Nat):BV->BV
 | .sl k=>if B.contains k then .pv .any else .sl k
 | .jb k i o=>if B.contains k then .pv .any else .jb k i o
 |x=>x
def AV.cA(B:List Nat):AV->AV
 | .b x=>.b (x.cA B)
 | .agg xs=>.agg (xs.map (BV.cA B))
 | .dC xs=>.dC (xs.map (BV.cA B))
def aL.cA(B:List Nat):aL->aL
 | .box t cs=>.box t (cs.map (BV.cA B))
 | .tree e sz k xs h=>.tree e sz k xs (KX (BV.cA B) h)
 |o=>o
def g9(B:List Nat)(n k:Nat):Nat:=if k<B.length then B.getD k 0 else n+(k - B.length)
def kg(B:List Nat)(hp os:List aL):List aL:=
 (hp.mapIdx λi o=>if B.contains i then((os.getD (B.idxOf i) .gone).eM (g9 B hp.length))else o.cA B)++(os.drop B.length).map (aL.eM (g9 B hp.length))
def St.back(st:St)(B:List Nat)(os:List aL):St:=⟨st.fr.map λx=>(x.1,x.2.cA B),kg B st.hp os⟩
structure Rec where
 i:Nat
 d:Option Nat
 rd:List Nat
 s:Option Nat
 F:List Nat
 G:List Nat
inductive Loc where
 |no
 |ek (g:Nat)
 |nil (a:Option Addr)
 |nP (g n cap sz:Nat) (O:Nat->Prop)
 |mp (g:Nat)
def Loc.has:Loc->Nat->Prop
 | .ek g,b=>b=g
 | .nP g _ _ _ O,b=>b=g\/O b
 | .mp g,b=>b=g
 |_,_=>False
def none':Nat->Prop:=λ_=>False
def Loc.fixed:Loc->Bool
 | .ek _=>true
 | .mp _=>true
 |_=>false
def Loc.head(l:Loc)(v:Value):Prop:=match l with
 | .nil a=>v= .slice a 0 0
 | .nP g n cap _ _=>v= .slice (some ⟨g,0,none⟩) n cap
 |_=>False
def RelB(θ:List Loc)(D:Nat->Prop)(w:World)(v:Value):BV->Prop
 | .pv p=>aX D w v p
 | .oZ=>v= .slice none 0 0
 | .sl id=>∃l,θ[id]? =some l/\l.head v
 | .ptr id off=>∃g,θ[id]? =some (.ek g)/\v= .pointer (some ⟨g,off,none⟩)
 | .jb id i off=>∃g n cap sz O,θ[id]? =some (.nP g n cap sz O)/\v= .pointer (some ⟨g,i*sz+off,none⟩)
 | .kj f ids=>∃b:List Nat,b.length=ids.length/\(∀(k id g:Nat),ids[k]? =some id->b[k]? =some g->θ[id]? =some (.ek g))/\v= .func f #[] (b.map λg=>Value.pointer (some ⟨g,0,none⟩)).toArray
 | .mp id=>∃g,θ[id]? =some (.mp g)/\v= .map (some g)
 | .full p=>aX D w v p/\∃a n,v= .slice a n n
 | .LD=>∃t u,v= .iface t u
def RelA(θ:List Loc)(D:Nat->Prop)(w:World)(v:Value):AV->Prop
 | .b x=>RelB θ D w v x
 | .agg xs=>∃vs:Array Value,v= .agg vs/\vs.size=xs.length/\∀(i:Nat) (u:Value) (x:BV),vs[i]? =some u->xs[i]? =some x->RelB θ D w u x
 | .dC xs=>∃vs:Array Value,v= .tuple vs/\vs.size=xs.length/\∀(i:Nat) (u:Value) (x:BV),vs[i]? =some u->xs[i]? =some x->RelB θ D w u x
inductive kN(D:Nat->Prop)(w:World):Option (TypeId×Nat×K)->(Nat->Prop)->Value->PV->Prop
 |flat (O:Nat->Prop) (v:Value) (p:PV) (h:aX D w v p):kN D w none O v p
 |nil (q:TypeId×Nat×K) (O:Nat->Prop) (a:Option Addr):kN D w (some q) O (.slice a 0 0) (.list 0 [])
 |nP (e:TypeId) (sz:Nat) (k:K) (O:Nat->Prop) (g cap:Nat) (xs:List PV) (p:PV) (cs:Array Value) (val:Nat->Nat->Value) (Os:Nat->Nat->Nat->Prop)
  (hp:p=lB sz xs) (hcap:xs.length<=cap) (hmax:cap<=maxLen) (hsz:∀x∈xs,x.cells.length=sz) (hg:w.heap[g]? =some (.cells cs e (0,0))) (hcs:cs.size=cap*sz)
  (hO:O g) (hOs:∀i j b,Os i j b->O b/\b≠g) (hdj:∀i j i' j' b,Os i j b->Os i' j' b->i=i'/\j=j')
  (hc:∀(i j:Nat) (x y:PV),xs[i]? =some x->x.cells[j]? =some y->cs[i*sz+j]? =some (val i j))
  (hr:∀(i j:Nat) (x y:PV),xs[i]? =some x->x.cells[j]? =some y->kN D w (k.at j) (Os i j) (val i j) y):
  kN D w (some (e,sz,k)) O (.slice (some ⟨g,0,none⟩) xs.length cap) p
theorem kN.mono{D D':Nat->Prop}{w w':World}(hD:∀b,D b->D' b)(I:∀b,D b->w'.heap[b]? =w.heap[b]?){q:Option (TypeId×Nat×K)}{O:Nat->Prop}{v:Value}{p:PV}(hO:∀b,O b->w'.heap[b]? =w.heap[b]?)(h:kN D w q O v p):kN D' w' q O v p:=by induction h with|flat O v p h=>exact .flat O v p (h.mono hD I)|nil q O a=>exact .nil q O a|nP e sz k O g cap xs p cs val Os hp hcap hmax hsz hg hcs E hOs hdj hc _ U=>exact .nP e sz k O g cap xs p cs val Os hp hcap hmax hsz ((hO g E).trans hg) hcs E hOs hdj hc λi j x y J N=>U i j x y J N λb H=>hO b (hOs i j b H).1
def kN.wide{D:Nat->Prop}{w:World}{q:Option (TypeId×Nat×K)}{O E:Nat->Prop}{v:Value}{p:PV}(hO:∀b,O b->E b)(h:kN D w q O v p):kN D w q E v p:=by cases h with|flat O v p h=>exact .flat E v p h|nil q O a=>exact .nil q E a|nP e sz k O g cap xs p cs val Os hp hcap hmax hsz hg hcs H hOs hdj hc hr=>exact .nP e sz k E g cap xs p cs val Os hp hcap hmax hsz hg hcs (hO g H) (λi j b I=>⟨hO b (hOs i j b I).1,(hOs i j b I).2⟩) hdj hc hr
def kN.toP{D D':Nat->Prop}{w:World}{q:Option (TypeId×Nat×K)}{O:Nat->Prop}{v:Value}{p:PV}(hD:∀b,D b->D' b)(hO:∀b,O b->D' b)(h:kN D w q O v p):aX D' w v p:=by induction h with|flat O v p h=>exact h.mono hD λ_ _=>rfl|nil q O a=>exact .nil a 0|nP e sz k O g cap xs p cs val Os hp hcap hmax hsz hg hcs E hOs hdj hc _ N=>subst hp;refine gA hcap λ_=>⟨g,0,rfl,hO g E,hsz,λi j x y I J=>⟨val i j,?_,N i j x y I J λb H=>hO b (hOs i j b H).1⟩⟩;rw[cell_of_row w g _ cs e (0,0) hg];grind
def dA(h:Option (Nat×Nat×BV))(i j:Nat):Option BV:=match h with
 |some (a,b,x)=>if a=i/\b=j then some x else none
 |none=>none
def cG(θ:List Loc)(D:Nat->Prop)(w:World):Loc->aL->Prop
 | .ek g,.box t cs=>∃c:Array Value,w.heap[g]? =some (.cells c t (0,0))/\c.size=cs.length/\∀(i:Nat) (u:Value) (x:BV),c[i]? =some u->cs[i]? =some x->RelB θ D w u x
 | .nil _,.vec _ _ xs=>xs=[]
 | .nil _,.tree _ _ _ xs h=>xs=[]/\h=none
 | .nP g n cap s O,.tree e sz k xs hole=>s=sz/\n=xs.length/\n<=cap/\cap<=maxLen/\(∀x∈xs,x.cells.length=sz)/\∃(c:Array Value) (Os:Nat->Nat->Nat->Prop),w.heap[g]? =some (.cells c e (0,0))/\c.size=cap*sz/\
  (∀i j b,Os i j b->O b/\b≠g)/\(∀i j i' p b,Os i j b->Os i' p b->i=i'/\j=p)/\(∀i j b,hole=some (i,j,b)->i<xs.length/\(k.at j).isSome=true)/\
  ∀(i j:Nat) (x y:PV),xs[i]? =some x->x.cells[j]? =some y->∃u,c[i*sz+j]? =some u/\(match dA hole i j with|some b=>RelB θ D w u b|none=>kN D w (k.at j) (Os i j) u y)
 | .nP g n cap s _,.vec e sz xs=>s=sz/\n=xs.length/\n<=cap/\cap<=maxLen/\(∀x∈xs,x.cells.length=sz)/\∃c:Array Value,w.heap[g]? =some (.cells c e (0,0))/\c.size=cap*sz/\
  ∀(i j:Nat) (x y:PV),xs[i]? =some x->x.cells[j]? =some y->∃u,c[i*sz+j]? =some u/\aX D w u y
 | .mp g,.map _ _ kvs=>∃(f:Array MapEntry) (a:Nat),w.heap[g]? =some (.map f a)/\f.size=kvs.length/\∀(i:Nat) (d:MapEntry) (l:PV×PV),f[i]? =some d->kvs[i]? =some l->aX D w d.key l.1/\aX D w d.val l.2
 | .no,.free=>True
 |_,.gone=>True
 |_,_=>False
structure Ok(θ:List Loc)(D:Nat->Prop)(hp:List aL)(w:World):Prop where
 len:θ.length=hp.length
 pO:∀b,D b->b<w.heap.size
 inj:∀(i j:Nat) (li lj:Loc) (g:Nat),θ[i]? =some li->θ[j]? =some lj->li.has g->lj.has g->i=j
 nj:∀(i:Nat) (l:Loc) (g:Nat),θ[i]? =some l->l.has g->g<w.heap.size/\¬D g
 fQ:∀(i:Nat) (l:Loc) (o:aL),θ[i]? =some l->hp[i]? =some o->cG θ D w l o
structure nv(O:Nat->Prop)(w w':World):Prop where
 os:w'.os=w.os
 tape:w'.tape=w.tape
 output:w'.output=w.output
 size:w.heap.size<=w'.heap.size
 block:∀k,k<w.heap.size->¬O k->w'.heap[k]? =w.heap[k]?
def nv.refl(O:Nat->Prop)(w:World):nv O w w:=⟨rfl,rfl,rfl,m_ _,λ_ _ _=>rfl⟩
def nv.trans{O:Nat->Prop}{a b c:World}(h:nv O a b)(k:nv O b c):nv O a c:=⟨k.os.trans h.os,k.tape.trans h.tape,k.output.trans h.output,E_ h.size k.size,λi E H=>(k.block i (s_ E h.size) H).trans (h.block i E H)⟩
def nv.of_below{O:Nat->Prop}{w w':World}(h:Below w.heap.size w w'):nv O w w':=⟨h.os,h.tape,h.output,h.size,λk E _=>h.block k E⟩
def nv.below{w w':World}(h:nv (λ_=>False) w w'):Below w.heap.size w w':=⟨h.os,h.tape,h.output,h.size,λk E=>h.block k E id⟩
def GW(D:Nat->Prop)(w:World):Prop:=∀w',nv (λb=>¬D b) w w'->GT w'
theorem GW.mono{D D':Nat->Prop}{w w':World}{O:Nat->Prop}(h:GW D w)(E:nv O w w')(hO:∀b,D b->¬O b)(hD:∀b,D b->D' b):GW D' w':=λw2 h2=>
 h w2 ⟨h2.os.trans E.os,h2.tape.trans E.tape,h2.output.trans E.output,E_ E.size h2.size,λk H I=>
  have hd:D k:=J_ I
  (h2.block k (s_ H E.size) (λh=>h (hD k hd))).trans (E.block k H (hO k hd))⟩
def GW.of{w:World}(h:GT w):GW (λb=>b<w.heap.size) w:=λ_ h2=>h.below ⟨h2.os,h2.tape,h2.output,h2.size,λk E=>h2.block k E (λh=>h E)⟩
structure Ctx where
 n:Nat
 w0:World
 D0:Nat->Prop
 O0:Nat->Prop
 dfs:List Deferred
 th:List Loc
 gk:∀w,nv O0 w0 w->GW D0 w
structure Inv(c:Ctx)(θ:List Loc)(D:Nat->Prop)(st:St)(a:Act)(w:World):Prop where
 size:a.tmps.size=c.n
 defers:a.defers=c.dfs
 ok:Ok θ D st.hp w
 keep:nv c.O0 c.w0 w
 lW:∀b,c.D0 b->D b
 nD:∀b,D b->c.D0 b\/c.O0 b\/c.w0.heap.size<=b
 j4:∀(i:Nat) (l:Loc) (g:Nat),θ[i]? =some l->l.has g->c.O0 g\/c.w0.heap.size<=g
 fr:∀k x,look st.fr k=some x->RelA θ D w (a.tmps.getD k undef) x
 fix:∀(k:Nat) (l:Loc),c.th[k]? =some l->l.fixed=true->θ[k]? =some l
def oK(c:Ctx)(st:St)(a:Act)(w:World):Prop:=∃θ D,Inv c θ D st a w
section
variable {θ:List Loc} {D D':Nat->Prop} {w w':World}
theorem RelB.mono(hD:∀b,D b->D' b)(E:∀b,D b->w'.heap[b]? =w.heap[b]?){v:Value}{x:BV}(h:RelB θ D w v x):RelB θ D' w' v x:=by
 cases x<;>simp only[RelB]at h⊢;case pv p=>exact h.mono hD E
 case full p=>exact⟨h.1.mono hD E,h.2⟩
 all_goals omega
theorem RelA.mono(hD:∀b,D b->D' b)(J:∀b,D b->w'.heap[b]? =w.heap[b]?){v:Value}{x:AV}(h:RelA θ D w v x):RelA θ D' w' v x:=by
 cases x with
 |b x=>exact RelB.mono hD J h|agg xs=>obtain⟨vs,I,hs,E⟩:=h;exact⟨vs,I,hs,λi u x H N=>(E i u x H N).mono hD J⟩
 |dC xs=>obtain⟨vs,I,hs,E⟩:=h;exact⟨vs,I,hs,λi u x H N=>(E i u x H N).mono hD J⟩
theorem cG.mono(hD:∀b,D b->D' b)(J:∀b,D b->w'.heap[b]? =w.heap[b]?){l:Loc}{o:aL}(hl:∀g,l.has g->w'.heap[g]? =w.heap[g]?)(h:cG θ D w l o):cG θ D' w' l o:=by
 cases l<;>cases o<;>simp only[cG]at h⊢<;>try exact h
 case ek.box g t cs=>obtain⟨c,h1,h2,E⟩:=h;exact⟨c,(hl g rfl).trans h1,h2,λi u x hu U=>(E i u x hu U).mono hD J⟩
 case nP.tree g n cap s O e sz k xs hole=>
  obtain⟨h1,h2,E,h4,h5,c,Os,h6,h7,Y,h9,gc,el⟩:=h;refine⟨h1,h2,E,h4,h5,c,Os,(hl g (.inl rfl)).trans h6,h7,Y,h9,gc,λi j x y U hy=>?_⟩;obtain⟨u,e1,I⟩:=el i j x y U hy;refine⟨u,e1,?_⟩;split;.rename_i b N;rw[N]at I;exact I.mono hD J
  .rename_i N;rw[N]at I;exact I.mono hD J λb N=>hl b (.inr (Y i j b N).1)
 case nP.vec g n cap s O e sz xs=>obtain⟨h1,h2,E,h4,h5,c,h6,h7,Y⟩:=h;exact⟨h1,h2,E,h4,h5,c,(hl g (.inl rfl)).trans h6,h7,λi j x y U hy=>let⟨u,e1,I⟩:=Y i j x y U hy;⟨u,e1,I.mono hD J⟩⟩
 case mp.map g k e kvs=>obtain⟨es,H,h1,h2,E⟩:=h;exact⟨es,H,(hl g rfl).trans h1,h2,λi en kv he hk=>⟨(E i en kv he hk).1.mono hD J,(E i en kv he hk).2.mono hD J⟩⟩
theorem RelB.Am{θ':List Loc}(E:∀(i:Nat) (l:Loc),θ[i]? =some l->l≠.no->θ'[i]? =some l){v:Value}{x:BV}(h:RelB θ D w v x):RelB θ' D w v x:=by
 cases x<;>simp only[RelB]at h⊢;.omega
 .omega
 .obtain⟨l,h1,h2⟩:=h;exact⟨l,E _ _ h1 (λe=>by subst e;exact h2),h2⟩
 .grind
 .grind
 .grind
 all_goals grind
theorem RelA.Am{θ':List Loc}(E:∀(i:Nat) (l:Loc),θ[i]? =some l->l≠.no->θ'[i]? =some l){v:Value}{x:AV}(h:RelA θ D w v x):RelA θ' D w v x:=by
 cases x with
 |b x=>exact RelB.Am E h|agg xs=>obtain⟨vs,J,hs,H⟩:=h;exact⟨vs,J,hs,λi u x I N=>(H i u x I N).Am E⟩
 |dC xs=>obtain⟨vs,J,hs,H⟩:=h;exact⟨vs,J,hs,λi u x I N=>(H i u x I N).Am E⟩
theorem cG.Am{θ':List Loc}(E:∀(i:Nat) (l:Loc),θ[i]? =some l->l≠.no->θ'[i]? =some l){l:Loc}{o:aL}(h:cG θ D w l o):cG θ' D w l o:=by
 cases l<;>cases o<;>simp only[cG]at h⊢<;>try exact h
 case ek.box g t cs=>obtain⟨c,h1,h2,J⟩:=h;exact⟨c,h1,h2,λi u x hu N=>(J i u x hu N).Am E⟩
 case nP.tree g n cap s O e sz k xs hole=>
  obtain⟨h1,h2,J,h4,h5,c,Os,h6,h7,h8,h9,I,H⟩:=h;refine⟨h1,h2,J,h4,h5,c,Os,h6,h7,h8,h9,I,λi j x y N hy=>?_⟩;obtain⟨u,Y,U⟩:=H i j x y N hy;refine⟨u,Y,?_⟩;split;.rename_i b hb;rw[hb]at U;exact U.Am E
  grind
theorem RelB.ext{θ':List Loc}(E:∀(i:Nat) (l:Loc),θ[i]? =some l->θ'[i]? =some l){v:Value}{x:BV}(h:RelB θ D w v x):RelB θ' D w v x:=h.Am λi l H _=>E i l H
theorem RelA.ext{θ':List Loc}(E:∀(i:Nat) (l:Loc),θ[i]? =some l->θ'[i]? =some l){v:Value}{x:AV}(h:RelA θ D w v x):RelA θ' D w v x:=h.Am λi l H _=>E i l H
theorem cG.ext{θ':List Loc}(E:∀(i:Nat) (l:Loc),θ[i]? =some l->θ'[i]? =some l){l:Loc}{o:aL}(h:cG θ D w l o):cG θ' D w l o:=h.Am λi l H _=>E i l H
end
def get_append{a:Type}{l m:List a}{i:Nat}{x:a}(h:l[i]? =some x):(l++m)[i]? =some x:=by grind
def Inv.below{c:Ctx}{θ:List Loc}{D:Nat->Prop}{st:St}{a:Act}{w w':World}(h:Inv c θ D st a w)(J:Below w.heap.size w w')(el:c.w0.heap.size<=w.heap.size){D':Nat->Prop}(hD:∀b,D b->D' b) (H:∀b,D' b->D b\/(w.heap.size<=b/\b<w'.heap.size)):Inv c θ D' st a w':=by
 have I:∀b,D b->w'.heap[b]? =w.heap[b]? :=λb E=>J.block b (h.ok.pO b E);refine⟨h.size,h.defers,⟨h.ok.len,λb E=>?_,h.ok.inj,λi l g N hg=>?_,λi l o N Y=>?_⟩,h.keep.trans (.of_below J),λb E=>hD b (h.lW b E),λb E=>?_,h.j4,λk x U=>(h.fr k x U).mono hD I,h.fix⟩
 .rcases H b E with h1|h1;.exact s_ (h.ok.pO b h1) J.size
  omega
 .obtain⟨h1,h2⟩:=h.ok.nj i l g N hg;refine⟨s_ h1 J.size,λhd=>?_⟩;grind
 .exact(h.ok.fQ i l o N Y).mono hD I λg hg=>J.block g (h.ok.nj i l g N hg).1
 .rcases H b E with h1|h1;.exact h.nD b h1
  omega
def Inv.CU{c:Ctx}{θ:List Loc}{D:Nat->Prop}{st:St}{a:Act}{w:World}(h:Inv c θ D st a w):c.w0.heap.size<=w.heap.size:=h.keep.size
def Inv.drew{c:Ctx}{θ:List Loc}{D:Nat->Prop}{st:St}{a:Act}{w:World}(h:Inv c θ D st a w):Inv c θ D st a w.drew:=h.below ((Below.refl _ _).drew) h.CU (λ_ E=>E) (λ_ E=>.inl E)
theorem Inv.put{c:Ctx}{θ:List Loc}{D:Nat->Prop}{st:St}{a:Act}{w:World}(h:Inv c θ D st a w){d:Option Nat}{v:Value}{x:AV}(hd:∀k,d=some k->k<c.n)(J:RelA θ D w v x):Inv c θ D (st.aE d x) (a.put d v) w:=by
 cases d with
 |none=>exact h|some k=>
  have I:=hd k rfl;refine⟨by simpa[Act.put,St.aE,St.put]using h.size,h.defers,h.ok,h.keep,h.lW,h.nD,h.j4,λj y H=>?_,h.fix⟩;simp only[St.aE,St.put,look]at H;have hs:k<a.tmps.size:=by rw[h.size];omega
  by_cases E:j=k;.subst E;simp only[if_true]at H;cases H;simp[Act.put,hs];omega
  .simp only[E]at H;have:=h.fr j y H;simp[Act.put,N_ (Ne.symm E)]at this⊢;omega
def Inv.push{c:Ctx}{θ:List Loc}{D:Nat->Prop}{st:St}{a:Act}{w:World}(h:Inv c θ D st a w){l:Loc}{o:aL}(ho:cG (θ++[l]) D w l o) (hl:∀g,l.has g->c.w0.heap.size<=g/\g<w.heap.size/\¬D g/\∀(i:Nat) (li:Loc),θ[i]? =some li->¬li.has g):Inv c (θ++[l]) D {st with hp:=st.hp++[o]} a w:=by
 have H:∀(i:Nat) (l':Loc),θ[i]? =some l'->(θ++[l])[i]? =some l':=λi l' I=>get_append I;have E:∀(i:Nat) (l':Loc),(θ++[l])[i]? =some l'->θ[i]? =some l'\/(i=θ.length/\l'=l):=by grind
 refine⟨h.size,h.defers,⟨by simp[h.ok.len],h.ok.pO,λi j li lj g I hj N U=>?_,λi l' g I hg=>?_,λi l' o' I J=>?_⟩,h.keep,h.lW,h.nD,λi l' g I hg=>?_,λk x Y=>(h.fr k x Y).ext H,λk l Y hf=>H k l (h.fix k l Y hf)⟩
 .rcases E i li I with h1|⟨rfl,rfl⟩<;>rcases E j lj hj with h2|⟨rfl,rfl⟩;.exact h.ok.inj i j li lj g h1 h2 N U
  all_goals grind
 .rcases E i l' I with h1|⟨rfl,rfl⟩;.exact h.ok.nj i l' g h1 hg
  grind
 .rcases E i l' I with h1|⟨rfl,rfl⟩
  .have el:i<st.hp.length:=by rw[<-h.ok.len];grind
   rw[j_ el]at J;exact(h.ok.fQ i l' o' h1 J).ext H
  .rw[h.ok.len]at J;grind
 .rcases E i l' I with h1|⟨rfl,rfl⟩;.exact h.j4 i l' g h1 hg
  grind
def Inv.Sg{c:Ctx}{θ:List Loc}{D:Nat->Prop}{st:St}{a:Act}{w:World}(h:Inv c θ D st a w){s:Nat}(hs:st.hp[s]? =some .free):θ[s]? =some .no:=by
 have H:s<st.hp.length:=(c_.1 hs).1;have E:s<θ.length:=by rw[h.ok.len];omega
 have:=h.ok.fQ s _ _ (b_ E) hs;grind[cG]
theorem Inv.fill{c:Ctx}{θ:List Loc}{D:Nat->Prop}{st:St}{a:Act}{w:World}(h:Inv c θ D st a w){s:Nat}(hs:st.hp[s]? =some .free){l:Loc}{o:aL}(ho:cG (θ.set s l) D w l o) (hl:∀g,l.has g->c.w0.heap.size<=g/\g<w.heap.size/\¬D g/\∀(i:Nat) (li:Loc),θ[i]? =some li->¬li.has g):Inv c (θ.set s l) D {st with hp:=st.hp.set s o} a w:=by
 have gc:=h.Sg hs;have I:∀(i:Nat) (l':Loc),θ[i]? =some l'->l'≠.no->(θ.set s l)[i]? =some l':=λi l' J hn=>by grind
 have E:∀(i:Nat) (l':Loc),(θ.set s l)[i]? =some l'->(i=s/\l'=l)\/(i≠s/\θ[i]? =some l'):=λi l' J=>by grind
 refine⟨h.size,h.defers,⟨by simp[h.ok.len],h.ok.pO,λi j li lj g J hj Y el=>?_,λi l' g J hg=>?_,λi l' o' J N=>?_⟩,h.keep,h.lW,h.nD,λi l' g J hg=>?_,λk x hk=>(h.fr k x hk).Am I,λk l hk hf=>I k l (h.fix k l hk hf) (λe=>by subst e;cases hf)⟩
 .rcases E i li J with⟨rfl,rfl⟩|⟨h1,H⟩<;>rcases E j lj hj with⟨rfl,rfl⟩|⟨h2,U⟩;.rfl
  .grind
  .grind
  .exact h.ok.inj i j li lj g H U Y el
 .rcases E i l' J with⟨rfl,rfl⟩|⟨h1,H⟩;.grind
  .exact h.ok.nj i l' g H hg
 .rcases E i l' J with⟨rfl,rfl⟩|⟨h1,H⟩;.grind
  .rw[A_ (Ne.symm h1)]at N;exact(h.ok.fQ i l' o' H N).Am I
 .rcases E i l' J with⟨rfl,rfl⟩|⟨h1,H⟩;.grind
  .exact h.j4 i l' g H hg
def owns(θ:List Loc)(b:Nat):Prop:=∃(i:Nat) (l:Loc),θ[i]? =some l/\l.has b
abbrev Dy:=Option (AV×List aL)
def qU(a:List PanicEntry):Prop:=∃t v,a=[{v:=.iface t v,recovered:=false}]
def Jo(θ:List Loc)(D:Nat->Prop)(w:World)(K:Dy->Prop)(e:Ending)(w':World):Prop:=
 (∃v r a θ' D',e= .returned v/\K (some (r,a))/\RelA θ' D' w' v r/\Ok θ' D' a w'/\nv (owns θ) w w'/\(∀b,D b->D' b)/\(∀b,D' b->D b\/owns θ b\/w.heap.size<=b)/\
  (∀(i:Nat) (l:Loc) (g:Nat),θ'[i]? =some l->l.has g->owns θ g\/w.heap.size<=g)/\(∀(k:Nat) (l:Loc),θ[k]? =some l->l.fixed=true->θ'[k]? =some l)/\θ.length<=θ'.length)\/
 (∃c,qU c/\e= .panicked c/\K none/\nv (owns θ) w w')
def eG(P:Program)(f:FuncId)(ars:List AV)(os:List aL)(K:Dy->Prop):Prop:=
 ∀(w:World) (θ:List Loc) (D:Nat->Prop) (vs:List Value),GW D w->Ok θ D os w->vs.length=ars.length->(∀(i:Nat) (v:Value) (x:AV),vs[i]? =some v->ars[i]? =some x->RelA θ D w v x)->
  Calls P f vs.toArray w (Jo θ D w K)
theorem Jo.mono{θ:List Loc}{D:Nat->Prop}{w w':World}{K I:Dy->Prop}{e:Ending}(h:Jo θ D w K e w')(J:∀o,K o->I o):Jo θ D w I e w':=by
 rcases h with⟨v,r,H,θ',D',h1,h2,E⟩|⟨N,U,h1,h2,E⟩;.exact .inl ⟨v,r,H,θ',D',h1,J _ h2,E⟩
 .exact .inr ⟨N,U,h1,J _ h2,E⟩
theorem eG.mono{P:Program}{f:FuncId}{ars:List AV}{os:List aL}{K E:Dy->Prop}(h:eG P f ars os K)(N:∀o,K o->E o):eG P f ars os E:=λw θ D vs H h1 h2 I=>(h w θ D vs H h1 h2 I).mono λ_ _ J=>J.mono N
def BV.s6:BV->Prop
 | .pv p=>p.Flat
 | .full _=>False
 |_=>True
def AV.s5:AV->Prop
 | .b x=>x.s6
 | .agg xs=>∀x∈xs,x.s6
 | .dC xs=>∀x∈xs,x.s6
inductive H9:Option (TypeId×Nat×K)->PV->Prop
 |flat (p:PV) (h:p.Flat):H9 none p
 |sl (e:TypeId) (sz:Nat) (k:K) (p:PV) (xs:List PV) (hp:p=lB sz xs) (h:∀(i j:Nat) (x y:PV),xs[i]? =some x->x.cells[j]? =some y->H9 (k.at j) y):H9 (some (e,sz,k)) p
def WW(k:K)(xs:List PV):Prop:=∀(i j:Nat) (x y:PV),xs[i]? =some x->x.cells[j]? =some y->H9 (k.at j) y
def aL.se:aL->Prop
 | .gone=>True
 | .free=>True
 | .box _ cs=>∀x∈cs,x.s6
 | .vec _ _ xs=>∀x∈xs,∀y∈x.cells,y.Flat
 | .map _ _ kvs=>∀E∈kvs,E.1.Flat/\E.2.Flat
 | .tree _ _ k xs h=>(∀i j b,h=some (i,j,b)->b.s6)/\WW k xs
def iv(P:Program)(t:TypeId):Bool:=match P.underlying t with
 |some (.struct _)=>true
 |some (.array _ _)=>true
 |_=>false
def wm(P:Program):Nat->TypeId->PV->PV->Option Bool
 |0,_,_,_=>none
 |d+1,t,x,y=>match P.underlying t,x,y with
  |some .bool,.sc (.bool a),.sc (.bool b)=>some (a==b)
  |some (.int _),.sc (.int k a),.sc (.int e b)=>if k=e then some (a==b)else none
  |some .string,.sc (.string a),.sc (.string b)=>some (a==b)
  |some (.struct c),.agg xs,.agg ys=>if P.stoodInHeld t then none else eqFs d c.toList xs ys
  |_,_,_=>none
where eqFs (d:Nat):List Field->List PV->List PV->Option Bool
 |[],_,_=>some true
 |f::l,xs,ys=>if f.name= "_" then none else(P.info? f.type).bind λi=>if(P.underlying f.type).isNone\/xs.length<f.offset+i.size\/ys.length<f.offset+i.size\/(iv P f.type=false/\i.size≠1)then none else
  (wm P d f.type ((PV.agg xs).sub f.offset i.size (iv P f.type)) ((PV.agg ys).sub f.offset i.size (iv P f.type))).bind λb=>if b then eqFs d l xs ys else some false
def AI(P:Program):Nat->TypeId->PV->Bool
 |0,_,_=>false
 |d+1,t,p=>match P.underlying t,p with
  |some .bool,.sc (.bool _)=>true
  |some (.int _),.sc (.int _ _)=>true
  |some .string,.sc (.string _)=>true
  |some (.struct a),.agg xs=>a.toList.all λf=>f.name != "_" &&(match P.info? f.type with
   |some i=>(P.underlying f.type).isSome&&decide (f.offset+i.size<=xs.length)&&(iv P f.type||decide (i.size=1))&&AI P d f.type ((PV.agg xs).sub f.offset i.size (iv P f.type))
   |none=>false)
  |_,_=>false
def sj(P:Program)(k:TypeId)(x:PV):List (PV×PV)->Nat->Option (Option (Nat×PV))
 |[],_=>some none
 |a::l,i=>(wm P 64 k x a.1).bind λb=>if b then some (some (i,a.2))else sj P k x l (i+1)
def ez(P:Program)(f:FuncId):Bool:=match P.funcs[f]? with
 |some fn=>fn.body.isSome&&fn.name != "runtime.NumGoroutine"
 |none=>false
def jp(P:Program)(st:St)(op:fh)(K:AV->Prop):Prop:=
 match op with
 | .mv x=>aR (st.get x) K
 | .pick c a b=>aR (st.get c) λc=>zz c λt=>isBool t λt=>(t=true->aR (st.get a) K)/\(t=false->aR (st.get b) K)
 | .bin op x y=>aR (st.get x) λx=>aR (st.get y) λy=>zz x λx=>zz y λy=>JQ op x y λv=>K (.v v)
 | .G8 neg x y=>aR (st.get x) λx=>aR (st.get y) λy=>zz x λx=>zz y λy=>isBool x λa=>isBool y λb=>K (.v (.bool (neg ^^ (a==b))))
 | .un op x=>aR (st.get x) λx=>zz x λx=>unV op x λv=>K (.v v)
 | .len str x=>aR (st.get x) λx=>match str with
  |false=>isLen st.hp x λn=>K (.v (.int .i64 n))
  |true=>zz x λx=>Nw x λs=>K (.v (.int .i64 s.size))
 | .oY k e x=>aR (st.get x) λx=>isMap st.hp k e x λ_ kvs=>K (.v (.int .i64 kvs.length))
 | .qC x i=>aR (st.get x) λx=>aR (st.get i) λi=>zz x λx=>zz i λi=>isInt i λ_ n=>Nw x λs=>0<=n/\n<s.size/\K (.v (.int .u8 (s.toList.getD n.toNat 0).toNat))
 | .pX n sz ag x i=>aR (st.get x) λx=>aR (st.get i) λi=>zz i λi=>isInt i λ_ m=>aR x.bF λp=>0<=m/\m<n/\(ag=false->sz=1)/\p.cells.length=n*sz/\p.isAgg=true/\K (.p (p.sub (m.toNat*sz) sz ag))
 | .qA sz x i=>aR (st.get x) λx=>aR (st.get i) λi=>zz i λi=>isInt i λ_ n=>
  ((∃L,x= .p (lB sz L)/\0<=n/\n<L.length/\K (.p (.BS (L.getD n.toNat .any))))\/(∃id,x= .b (.sl id)/\aR st.hp[id]? λo=>(∃e L,o= .vec e sz L/\0<=n/\n<L.length/\K (.b (.jb id n.toNat 0)))\/(∃e k L h,o= .tree e sz k L h/\0<=n/\n<L.length/\K (.b (.jb id n.toNat 0)))))
 | .qB n sz ag x i=>aR (st.get x) λx=>aR (st.get i) λi=>zz i λi=>isInt i λ_ m=>0<=m/\m<n/\((∃id off,x= .b (.ptr id off)/\K (.b (.ptr id (off+m.toNat*sz))))\/
  (∃p,x= .p (.BS p)/\p.cells.length=n*sz/\(ag=false->sz=1)/\(p.sub (m.toNat*sz) sz ag).isAgg=ag/\K (.p (.BS (p.sub (m.toNat*sz) sz ag)))))
 | .oW off sz ag x=>aR (st.get x) λx=>(∃p,x= .p (.BS p)/\off+sz<=p.cells.length/\(ag=false->sz=1)/\(p.sub off sz ag).isAgg=ag/\K (.p (.BS (p.sub off sz ag))))\/(∃id o,x= .b (.ptr id o)/\K (.b (.ptr id (o+off))))\/(∃id i o,x= .b (.jb id i o)/\K (.b (.jb id i (o+off))))
 | .Iy off sz ag x=>aR (st.get x) λx=>(∃p,x= .p p/\p.isAgg=true/\off+sz<=p.cells.length/\(ag=false->sz=1)/\K (.p (p.sub off sz ag)))\/(∃cs,x= .agg cs/\off+sz<=cs.length/\(ag=false->sz=1)/\K (mY ag ((cs.drop off).take sz)))
 | .load sz ag x=>aR (st.get x) λx=>BQ st.hp sz ag x K
 | .qm k x=>aR (st.get x) λx=>zz x λx=>isInt x λ_ n=>K (.v (.int k (k.wrap n)))
 | .Je sz x lo u mx=>aR (st.get x) λx=>(aR x.bF λq=>∃L,q=lB sz L/\qd st lo 0 λl=>qd st u L.length λh=>qd st mx L.length λm=>
  (mx.isSome=true->u.isSome=true)/\l<=h/\h<=m/\m<=L.length/\
   (K (.p (lB sz ((L.take h).drop l)))\/(mx.isSome=true/\h=m/\K (.b (.full (lB sz ((L.take h).drop l)))))))\/
  ∃id,x= .b (.sl id)/\aR st.hp[id]? λo=>∃e k L g,o= .tree e sz k L g/\qd st lo 0 λl=>qd st u L.length λh=>qd st mx L.length λm=>
   (mx.isSome=true->u.isSome=true)/\l<=h/\h<=m/\m<=L.length/\h=l/\K (.p (.list 0 []))
 | .qJ x lo u=>aR (st.get x) λx=>zz x λx=>Nw x λs=>qd st lo 0 λl=>qd st u s.size λh=>
  l<=h/\h<=s.size/\K (.v (.string (s.extract l h)))
 | .ext x i=>aR (st.get x) λx=>(∃xs,x= .p (.dC xs)/\aR xs[i]? λp=>K (.p p))\/(∃xs,x= .dC xs/\aR xs[i]? λp=>K (.b p))
 | .rR x=>aR (st.get x) λx=>((∃p,x= .p (.BS p))\/(∃id o,x= .b (.ptr id o))\/(∃id i o,x= .b (.jb id i o))\/(∃f d,x= .p (.fn (.func f) d))\/(∃f ids,x= .b (.kj (.func f) ids)))/\K x
 | .build zero parts=>aR (parts.mapM λq=>(st.get q.2.2).map λa=>(q.1,q.2.1,a)) λd=>
  (∀q∈d,q.2.2.ok=true/\q.2.2.cells.length=q.2.1/\q.1+q.2.1<=zero.length)/\K (.agg (d.foldl (λcs q=>splice cs q.1 q.2.2.cells) (zero.map λv=>bG v)))
 | .call bor f args=>aR (args.mapM λx=>(st.get x).bind (je st.hp bor)) λd=>eG P f (d.map .p) [] λo=>∃r j,o=some (r,j)/\r.ids=[]/\(bor=true->r.s5)/\K r
 | .im bor x args=>aR (st.get x) λx=>∃f cs,x= .p (.fn (.func f) cs)/\ez P f=true/\aR (args.mapM λx=>(st.get x).bind (je st.hp bor)) λd=>eG P f ((d++cs).map .p) [] λo=>∃r j,o=some (r,j)/\r.ids=[]/\(bor=true->r.s5)/\K r
 | .qj _ x=>aR (st.get x) λx=>aR x.bF λp=>x.ok=true/\(∀q,x≠.b (.full q))/\K (.p (.BS p))
 | .G3 x=>aR (st.get x) λx=>mC st.hp 1 x λL=>aR (bytesOf L) λl=>K (.v (.string (strOfNums l)))
 | .bI false _ sz len parts=>aR (parts.mapM λx=>(st.get x).bind AV.bF) λd=>d.length=len/\0<sz/\len*sz<=16777216/\(∀p∈d,p.cells.length=sz/\p.ok=true)/\(K (.p (lB sz d))\/K (.b (.full (lB sz d))))
 | .rQ f caps=>aR (caps.mapM st.get) λars=>(∃ids:List Nat,ars=ids.map (λi=>.b (.ptr i 0))/\K (.b (.kj (.func f) ids)))\/(∃d:List PV,ars=d.map .p/\K (.p (.fn (.func f) d)))
 | .lookup k e ok zero m x=>aR (st.get m) λm=>aR (st.get x) λx=>isMap st.hp k e m λ_ kvs=>aR x.bF λp=>AI P 64 k p=true/\(P.underlying k).isSome=true/\(∀B∈kvs,(wm P 64 k p B.1).isSome=true)/\aR (sj P k p kvs 0) λr=>
  K (match ok with
   |true=>.dC [.pv (match r with|some (_,v)=>v|none=>.sc zero),.pv (.sc (.bool r.isSome))]
   |false=>.p (match r with|some (_,v)=>v|none=>.sc zero))
 | .sL neg t x y=>aR (st.get x) λx=>aR (st.get y) λy=>aR x.bF λp=>aR y.bF λq=>aR (wm P 64 t p q) λb=>K (.v (.bool (neg ^^ b)))
 | .mX mx k x ys=>aR (st.get x) λx=>zz x λv=>isInt v λA n=>aR (ys.mapM st.get) λars=>∃z:List Int,A=k/\ars=z.map (λn=>.v (.int k n))/\
  K (.v (.int k (z.foldl (λa b=>if mx then max a b else min a b) n)))
 | .iface _ x=>aR (st.get x) λ_=>K (.b .LD)
 | .pM _ sz bytes x y=>aR (st.get x) λx=>aR (st.get y) λy=>mC st.hp sz y λL=>(∀p∈L,p.ok=true)/\
  ∃w,((x= .b .oZ/\w=[])\/x= .b (.full (lB sz w)))/\(w.length+L.length)*bytes<=140737488355328/\K (.p (lB sz (w++L)))
 | .eo _ sz len parts=>aR (parts.mapM λx=>(st.get x).bind AV.mr) λd=>d.length=len/\0<sz/\len*sz<=16777216/\(∀p∈d,p.cells.length=sz/\p.ok=true)/\K (.p (lB sz d))
 |_=>False
def St.new(st:St)(pl:Option Nat)(o:aL):St:=match pl with
 |none=>{st with hp:=st.hp++[o]}
 |some s=>{st with hp:=st.hp.set s o}
def St.Zq(st:St)(pl:Option Nat):Nat:=pl.getD st.hp.length
def yY(st:St):Option Nat->Prop
 |none=>True
 |some s=>st.hp[s]? =some .free
def Gd(st:St)(op:fh)(R:aL->(Nat->BV)->Prop):Prop:=
 match op with
 | .alloc t zero=>R (.box t (zero.map λv=>bG v)) λn=>.ptr n 0
 | .box t x=>aR (st.get x) λx=>x.ok=true/\R (.box t x.cells) λn=>.ptr n 0
 | .bI true e sz len parts=>aR (parts.mapM λx=>(st.get x).bind AV.bF) λa=>a.length=len/\0<sz/\len*sz<=16777216/\(∀p∈a,p.cells.length=sz/\p.ok=true)/\R (.vec e sz a) .sl
 | .cO e sz bytes zero l c=>aR (st.get l) λl=>aR (st.get c) λc=>zz l λl=>zz c λc=>isInt l λ_ l=>isInt c λ_ c=>
  0<=l/\l<=c/\c<=9223372036854775807/\bytes*c<=281474976710656/\(fV zero).cells.length=sz/\0<sz/\aR (fV zero).bF λz=>z.ok=true/\R (.vec e sz (Y_ l.toNat z)) .sl
 | .append e sz bytes x y=>aR (st.get x) λx=>aR (st.get y) λy=>mC st.hp sz y λL=>(∀p∈L,p.ok=true)/\
  (x= .b .oZ\/x= .b (.full (.list 0 [])))/\L.length*bytes<=140737488355328/\R (.vec e sz L) .sl
 | .ir k e=>R (.map k e []) .mp
 |_=>False
def cH(P:Program)(d:Option Nat)(op:fh)(st:St)(K KP:St->Prop):Prop:=
 match op with
 | .store sz x v=>aR (st.get x) λx=>aR (st.get v) λv=>d=none/\Bj st.hp sz x v λhp=>K {st with hp:=hp}
 | .alloc t zero=>K ({st with hp:=st.hp++[aL.box t (zero.map λv=>bG v)]}.aE d (.b (.ptr st.hp.length 0)))
 | .box t x=>aR (st.get x) λx=>x.ok=true/\K ({st with hp:=st.hp++[aL.box t x.cells]}.aE d (.b (.ptr st.hp.length 0)))
 | .bI true e sz len parts=>aR (parts.mapM λx=>(st.get x).bind AV.bF) λb=>b.length=len/\0<sz/\len*sz<=16777216/\(∀p∈b,p.cells.length=sz/\p.ok=true)/\
  K ({st with hp:=st.hp++[aL.vec e sz b]}.aE d (.b (.sl st.hp.length)))
 | .cO e sz bytes zero l c=>aR (st.get l) λl=>aR (st.get c) λc=>zz l λl=>zz c λc=>isInt l λ_ l=>isInt c λ_ c=>
  0<=l/\l<=c/\c<=9223372036854775807/\bytes*c<=281474976710656/\(fV zero).cells.length=sz/\0<sz/\aR (fV zero).bF λz=>z.ok=true/\K ({st with hp:=st.hp++[aL.vec e sz (Y_ l.toNat z)]}.aE d (.b (.sl st.hp.length)))
 | .append e sz bytes x y=>aR (st.get x) λx=>aR (st.get y) λy=>mC st.hp sz y λL=>(∀p∈L,p.ok=true)/\
  ((∃id,x= .b (.sl id)/\aR st.hp[id]? λo=>∃xs,o= .vec e sz xs/\(xs.length+L.length)*bytes<=140737488355328/\
   K ((st.fC id (.vec e sz (xs++L))).aE d (.b (.sl id))))\/
   ((x= .b .oZ\/x= .b (.full (.list 0 [])))/\L.length*bytes<=140737488355328/\K ({st with hp:=st.hp++[aL.vec e sz L]}.aE d (.b (.sl st.hp.length)))))
 | .gP bor B f args=>aR (args.mapM λx=>(st.get x).bind (ny st.hp bor B)) λars=>aR (B.mapM (st.hp[·]?)) λos=>
  callK P st d bor B f ars os K KP
 | .fw bor B x args=>aR (st.get x) λx=>∃f caps,((∃ids:List Nat,x= .b (.kj (.func f) ids)/\caps=ids.map λi=>.b (.ptr i 0))\/(∃b:List PV,x= .p (.fn (.func f) b)/\caps=b.map AV.p))/\ez P f=true/\
  aR (args.mapM λx=>(st.get x).bind (ny st.hp bor B)) λars=>aR (B.mapM (st.hp[·]?)) λos=>callK P st d bor B f (ars++caps) os K KP
 | .dE k e sz bytes zero l c=>aR (st.get l) λl=>aR (st.get c) λc=>zz l λl=>zz c λc=>isInt l λ_ l=>isInt c λ_ c=>
  0<=l/\l<=c/\c<=9223372036854775807/\bytes*c<=281474976710656/\(fV zero).cells.length=sz/\0<sz/\aR (fV zero).mr λz=>z.ok=true/\k.yJ z.cells=true/\K ({st with hp:=st.hp++[aL.tree e sz k (Y_ l.toNat (k.gZ z)) none]}.aE d (.b (.sl st.hp.length)))
 | .pN k e sz bytes x y=>aR (st.get x) λx=>aR (st.get y) λy=>mC st.hp sz y λL=>(∀p∈L,p.ok=true/\k.yJ p.cells=true)/\
  ((∃id,x= .b (.sl id)/\aR st.hp[id]? λo=>∃xs,o= .tree e sz k xs none/\(xs.length+L.length)*bytes<=140737488355328/\
   K ((st.fC id (.tree e sz k (xs++L.map k.gZ) none)).aE d (.b (.sl id))))\/
   (x= .b .oZ/\L.length*bytes<=140737488355328/\K ({st with hp:=st.hp++[aL.tree e sz k (L.map k.gZ) none]}.aE d (.b (.sl st.hp.length)))))
 | .ir k e=>K ({st with hp:=st.hp++[aL.map k e []]}.aE d (.b (.mp st.hp.length)))
 | .ic k e m x v=>aR (st.get m) λm=>aR (st.get x) λx=>aR (st.get v) λv=>isMap st.hp k e m λid kvs=>aR x.bF λp=>aR v.bF λq=>d=none/\p.plain=true/\
  AI P 64 k p=true/\(P.underlying k).isSome=true/\(∀h∈kvs,(wm P 64 k p h.1).isSome=true)/\aR (sj P k p kvs 0) λr=>(∀i u,r=some (i,u)->∃j,kvs[i]? =some (p,j))/\K {st with hp:=st.hp.set id (.map k e (match r with|some (i,_)=>kvs.set i (p,q)|none=>kvs++[(p,q)]))}
 | .copy e sz x y=>aR (st.get x) λx=>aR (st.get y) λy=>mC st.hp sz y λL=>(∀p∈L,p.ok=true)/\∃id,x= .b (.sl id)/\y≠x/\aR st.hp[id]? λo=>∃xs,o= .vec e sz xs/\
  K ({st with hp:=st.hp.set id (.vec e sz (L.take xs.length++xs.drop L.length))}.aE d (.v (.int .i64 ((min xs.length L.length:Nat):Int))))
 | .panic x=>aR (st.get x) λa=>a= .b .LD/\KP st
 | .uq s op=>Gd st op λo mk=>yY st (some s)/\K ((st.new (some s) o).aE d (.b (mk s)))
 |op=>jp P st op λa=>K (st.aE d a)
where
 callK (P:Program) (st:St) (d:Option Nat) (bor:Bool) (B:List Nat) (f:FuncId) (ars:List AV) (os:List aL) (K KP:St->Prop):Prop:=
  B.Nodup/\(∀a∈ars,∀i∈a.ids,i∈B)/\(∀o∈os,∀i∈o.ids,i∈B)/\
  eG P f (ars.map (AV.eM (B.idxOf ·))) (os.map (aL.eM (B.idxOf ·))) λo=>match o with
   |some (r,g)=>(bor=true->r.s5/\∀o∈g,o.se)/\K ((st.back B g).aE d (r.eM (g9 B st.hp.length)))
   |none=>KP (st.back B (os.map λ_=>.gone))
def iL(P:Program)(o:be)(st:St)(K KP:St->Prop):Prop:=
 match o.gd with
 |none=>cH P o.dst o.op st K KP
 |some (t,want)=>aR (look st.fr t) λg=>zz g λv=>(yv v=some want->cH P o.dst o.op st K KP)/\(yv v≠some want->K (st.aE o.dst (.v undef)))
def gN(m:Nat)(s s':St):Prop:=∀(c:Ctx) (a:Act) (w:World),c.th.length<=m->oK c s a w->oK c s' a w
def W(m:Nat)(f:St->Prop)(s:St):Prop:=∃s',gN m s s'/\f s'
def W.mk{m:Nat}{f:St->Prop}{s:St}(h:f s):W m f s:=⟨s,λ_ _ _ _ h=>h,h⟩
def W.to{m:Nat}{f:St->Prop}{s:St}(s':St)(E:gN m s s')(h:f s'):W m f s:=⟨s',E,h⟩
def gN.refl(m:Nat)(s:St):gN m s s:=λ_ _ _ _ h=>h
def gN.trans{m:Nat}{a b c:St}(h:gN m a b)(k:gN m b c):gN m a c:=λ_ _ _ E hr=>k _ _ _ E (h _ _ _ E hr)
def W.from{m:Nat}{f:St->Prop}{s s':St}(h:gN m s s')(k:W m f s'):W m f s:=let⟨H,h2,E⟩:=k;⟨H,h.trans h2,E⟩
theorem W.mono{m:Nat}{f g:St->Prop}{s:St}(h:W m f s)(E:∀x,f x->g x):W m g s:=let⟨s',h1,h2⟩:=h;⟨s',h1,E s' h2⟩
def j6(P:Program)(m:Nat):List be->St->(St->Prop)->(St->Prop)->Prop
 |[],st,K,_=>W m K st
 |o::l,st,K,KP=>W m (λst=>iL P o st (λa=>j6 P m l a K KP) KP) st
def bY(P:Program)(t:TypeId):Option Nat:=(P.info? t).map (·.size)
def iA(P:Program)(t:TypeId):Option Nat:=(P.info? t).map (·.bytes)
def dR(P:Program)(t:TypeId):Option Value:=(P.info? t).bind (·.zero)
def fx(P:Program)(t:TypeId):Option TypeId:=match P.underlying t with
 |some (.slice e)=>some e
 |_=>none
def uD(P:Program)(s:TypeId)(f:Nat):Option Field:=match P.underlying s with
 |some (.struct a)=>a[f]?
 |_=>none
def partsOf(P:Program)(t:TypeId)(parts:List (Nat×Operand)):Option (List (Nat×Nat×SX)):=
 match P.underlying t with
 |some (.struct c)=>(c.toList.mapM λf=>(P.info? f.type).map λi=>(f.offset,i.size)).bind λa=>parts.mapM λq=>(a[q.1]?).map λpl=>(pl.1,pl.2,SX.of q.2)
 |some (.array _ e)=>(P.info? e).bind λb=>parts.mapM λq=>some (q.1*b.size,b.size,SX.of q.2)
 |_=>none
def pu(parts:List (Nat×Operand)):Bool:=(parts.map (·.1))==I_ parts.length
def hU(P:Program)(o:Oper):Option fh:=
 match o.op with
 | .move x| .assign x=>some (.mv (.of x))
 | .pick c a b=>some (.pick (.of c) (.of a) (.of b))
 | .binOp op t x y _=>match P.underlying t with
  |some (.int _)=>some (.bin op (.of x) (.of y))
  |some .string=>some (.bin op (.of x) (.of y))
  |some .bool=>match op with
   | .eql=>some (.G8 false (.of x) (.of y))
   | .neq=>some (.G8 true (.of x) (.of y))
   |_=>none
  |some (.struct _)=>match op with
   | .eql=>some (.sL false t (.of x) (.of y))
   | .neq=>some (.sL true t (.of x) (.of y))
   |_=>none
  |_=>none
 | .unOp op _ x=>some (.un op (.of x))
 | .call c=>match c.callee with
  | .builtin .len=>match c.args.toList,c.argTypes.toList with
   |[x],[t]=>match P.underlying t with
    |some (.slice _)=>some (.len false (.of x))
    |some .string=>some (.len true (.of x))
    |some (.array n _)=>some (.mv (.c (.int .i64 n)))
    |some (.map k e)=>some (.oY k e (.of x))
    |_=>none
   |_,_=>none
  | .builtin .append=>match c.args.toList,c.argTypes.toList with
   |[x,y],[t,u]=>if t=u then(fx P t).bind λe=>(bY P e).bind λs=>(iA P e).bind λb=>(dR P e).bind λz=>if z.cells.size=s/\0<s/\0<b then some (.append e s b (.of x) (.of y))else none else none
   |_,_=>none
  | .builtin .copy=>match c.args.toList,c.argTypes.toList with
   |[x,y],[t,u]=>(fx P t).bind λe=>(fx P u).bind λp=>(bY P e).bind λs=>if e=p/\0<s then some (.copy e s (.of x) (.of y))else none
   |_,_=>none
  | .builtin .min=>match c.args.toList,c.argTypes.toList with
   |x::ys,t::_=>match P.underlying t with
    |some (.int k)=>some (.mX false k (.of x) (ys.map SX.of))
    |_=>none
   |_,_=>none
  | .builtin .max=>match c.args.toList,c.argTypes.toList with
   |x::ys,t::_=>match P.underlying t with
    |some (.int k)=>some (.mX true k (.of x) (ys.map SX.of))
    |_=>none
   |_,_=>none
  | .value (.func f)=>if ez P f then some (.call false f (c.args.toList.map SX.of))else none
  | .value (.tmp t)=>some (.fw false [] (.tm t) (c.args.toList.map SX.of))
  |_=>none
 | .index t x i=>match P.underlying t with
  |some .string=>some (.qC (.of x) (.of i))
  |some (.array n e)=>if(P.underlying e).isSome then(bY P e).map λs=>.pX n s (iv P e) (.of x) (.of i)else none
  |_=>none
 | .indexAddr t x i=>match P.underlying t with
  |some (.slice e)=>(bY P e).map λs=>.qA s (.of x) (.of i)
  |some (.array n e)=>(bY P e).map λs=>.qB n s (iv P e) (.of x) (.of i)
  |_=>none
 | .fieldAddr s x f=>(uD P s f).bind λh=>(bY P h.type).bind λsz=>if sz=0 then none else some (.oW h.offset sz (iv P h.type) (.of x))
 | .field s x f=>(uD P s f).bind λh=>if(P.underlying h.type).isSome then(bY P h.type).map λsz=>.Iy h.offset sz (iv P h.type) (.of x)else none
 | .load t x=>(bY P t).bind λsz=>if(P.underlying t).isSome then some (.load sz (iv P t) (.of x))else none
 | .store t x v=>(bY P t).map λsz=>.store sz (.of x) (.of v)
 | .alloc e=>(dR P e).map λz=>.alloc e z.cells.toList
 | .box e x=>some (.box e (.of x))
 | .build t parts=>(dR P t).bind λz=>(partsOf P t parts.toList).map λr=>.build z.cells.toList r
 | .buildSlice t len parts=>(fx P t).bind λe=>(bY P e).bind λs=>(dR P e).bind λz=>if pu parts.toList/\z.cells.size=s then some (.bI false e s len (parts.toList.map λq=>SX.of q.2))else none
 | .makeSlice t l c=>(fx P t).bind λe=>(bY P e).bind λs=>(iA P e).bind λb=>(dR P e).map λz=>.cO e s b z (.of l) (.of c)
 | .convert w d x=>match P.underlying w,P.underlying d with
  |some _,some (.int k)=>some (.qm k (.of x))
  |some (.slice e),some .string=>match P.underlying e with
   |some (.int .u8)=>some (.G3 (.of x))
   |_=>none
  |_,_=>none
 | .slice t x lo j mx=>match P.underlying t with
  |some (.slice e)=>(bY P e).map λs=>.Je s (.of x) (lo.map .of) (j.map .of) (mx.map .of)
  |some .string=>match mx with
   |none=>some (.qJ (.of x) (lo.map .of) (j.map .of))
   |some _=>none
  |_=>none
 | .extract x i=>some (.ext (.of x) i)
 | .nilCheck x=>some (.rR (.of x))
 | .makeFunc (.func f) first g=>if first.isEmpty&&ez P f then some (.rQ f (g.toList.map SX.of))else none
 | .makeMap t none=>match P.underlying t with
  |some (.map k e)=>some (.ir k e)
  |_=>none
 | .lookup t m x ok=>match P.underlying t with
  |some (.map k e)=>(dR P e).map λz=>.lookup k e ok z (.of m) (.of x)
  |_=>none
 | .mapUpdate t m x v| .insert t m x v=>match P.underlying t with
  |some (.map k e)=>some (.ic k e (.of m) (.of x) (.of v))
  |_=>none
 | .panic x=>some (.panic (.of x))
 | .makeInterface t x=>some (.iface t (.of x))
 |_=>none
def fh.canon:fh->fh
 | .bI _ e s l E=>.bI false e s l E
 | .call _ f xs=>.call false f xs
 | .gP _ _ f xs=>.call false f xs
 | .qj t x=>.box t x
 | .fw _ _ x xs=>.fw false [] x xs
 | .im _ x xs=>.fw false [] x xs
 | .pM e s b x y=>.append e s b x y
 | .eo e s l E=>.bI false e s l E
 | .dE _ e s b z x y=>.cO e s b z x y
 | .pN _ e s b x y=>.append e s b x y
 | .uq _ op=>op.canon
 |x=>x
theorem xc{θ:List Loc}{D:Nat->Prop}{w:World}(v:Value):RelB θ D w v (bG v):=by
 unfold bG;split;.rfl
 .exact aX.sc v
def rV{θ:List Loc}{D:Nat->Prop}{w:World}(v:Value):RelA θ D w v (fV v):=by
 unfold fV;split;.rename_i cs;refine⟨cs,rfl,by simp,λi u x a b=>?_⟩;grind[xc]
 .exact xc _
theorem Inv.get{c:Ctx}{θ:List Loc}{D:Nat->Prop}{st:St}{a:Act}{w:World}(h:Inv c θ D st a w){x:Operand}{H:AV}(E:st.get (.of x)=some H):RelA θ D w (a.eval x) H:=by cases x with|tmp t=>exact h.fr t H E|const v=>simp[SX.of,St.get]at E;subst E;exact rV v|global g=>simp[SX.of,St.get]at E;subst E;exact aX.sc _|func f=>simp[SX.of,St.get]at E;subst E;exact aX.fn (.func f) #[] [] rfl λi v x I _=>by grind
section
variable {θ:List Loc} {D:Nat->Prop} {w:World}
theorem QK{v u:Value}(h:RelA θ D w v (.v u)):v=u:=by cases h;rfl
theorem w9{v:Value}{p:PV}(h:RelA θ D w v (.p p)):aX D w v p:=h
theorem cU{v:Value}{a:AV}{K:Value->Prop}(h:RelA θ D w v a)(b:zz a K):K v:=by obtain⟨u,rfl,b⟩:=b;rw[QK h];exact b
theorem mapM_some{a β:Type}{f:a->Option β}:∀{l:List a} {m:List β},l.mapM f=some m->l.length=m.length/\∀(i:Nat) (x:a) (y:β),l[i]? =some x->m[i]? =some y->f x=some y
 |[],m,h=>by grind
 |x::l,m,h=>by simp only[af_,as_,aI_,e_,B_]at h;obtain⟨y,c,m',b,rfl⟩:=h;obtain⟨h1,h2⟩:=mapM_some b;grind
theorem bw{a β:Type}{l:List a}{m:List β}(h:l.length=m.length){i:Nat}{y:β}(b:m[i]? =some y):∃x,l[i]? =some x:=by
 have:i<l.length:=by grind
 exact⟨l[i],b_ this⟩
theorem iK{v:Value}{p:PV}(h:aX D w v p)(a:p.cX=true):v.oneCell'=true:=by cases h<;>simp[PV.cX]at a<;>first|omega|rfl
theorem tX{v:Value}{x:BV}(h:RelB θ D w v x)(b:x.cX=true):v.oneCell'=true:=by
 cases x with
 |pv p=>exact iK h b|oZ=>cases h;rfl|sl id=>obtain⟨l,_,h2⟩:=h;cases l<;>simp only[Loc.head]at h2<;>(subst h2;rfl)
 |ptr id off=>obtain⟨g,_,rfl⟩:=h;rfl
 |jb id i off=>obtain⟨g,n,cap,sz,_,_,rfl⟩:=h;rfl
 |kj f ids=>obtain⟨c,_,_,rfl⟩:=h;rfl
 |mp id=>obtain⟨g,_,rfl⟩:=h;rfl
 |full p=>obtain⟨_,a,n,rfl⟩:=h;rfl
 |LD=>obtain⟨t,u,rfl⟩:=h;rfl
theorem cells_one{v:Value}(h:v.oneCell'=true):v.cells= #[v]:=by cases v<;>simp[Value.oneCell']at h<;>rfl
theorem oe{v:Value}{x:AV}(h:RelA θ D w v x)(k:x.ok=true):v.cells.size=x.cells.length/\∀(i:Nat) (u:Value) (y:BV),v.cells[i]? =some u->x.cells[i]? =some y->RelB θ D w u y/\u.oneCell'=true:=by
 have one:∀(v:Value) (y:BV),y.cX=true->RelB θ D w v y->v.cells.size=[y].length/\∀(i:Nat) (u:Value) (z:BV),v.cells[i]? =some u->[y][i]? =some z->RelB θ D w u z/\u.oneCell'=true:=by grind[tX,cells_one]
 have all:∀y∈x.cells,y.cX=true:=by grind[AV.ok]
 cases x with
 |dC xs=>grind[AV.cells,BV.cX,PV.cX]|agg xs=>obtain⟨vs,rfl,h1,h2⟩:=h;exact⟨h1,λi u y f a=>⟨h2 i u y f a,tX (h2 i u y f a) (all y (a_ a))⟩⟩
 |b x=>
  by_cases g:∃xs,x= .pv (.agg xs);.obtain⟨xs,rfl⟩:=g;have h':aX D w v (.agg xs):=h;cases h' with|agg vs _ l j=>refine⟨by grind[AV.cells,PV.cells,Value.cells],λi u y f a=>?_⟩;have c:=all y (a_ a);simp only[AV.cells,PV.cells,i_]at a;cases d:xs[i]? with|none=>grind|some z=>rw[d]at a;simp at a;subst a;have:=j i u z f d;exact⟨this,iK this c⟩
  .have e:(AV.b x).cells=[x]:=by
    cases x with
    |pv p=>cases p<;>first|rfl|grind
    |_=>rfl
   rw[e]at all⊢;exact one v x (all x (by simp)) h
theorem oh{v:Value}{p:PV}(h:aX D w v p)(a:p.ok=true):v.cells.size=p.cells.length/\∀(i:Nat) (u:Value) (y:PV),v.cells[i]? =some u->p.cells[i]? =some y->aX D w u y/\u.oneCell'=true:=by
 have b:(AV.p p).ok=true:=by simp only[PV.ok,n_]at a;simp only[AV.ok,AV.cells,List.all_map,n_];exact a
 obtain⟨h1,h2⟩:=oe (θ:=[]) (x:=.p p) h b;simp only[AV.cells,aE_]at h1 h2;exact⟨h1,λi u y c d=>h2 i u (.pv y) c (by grind)⟩
theorem lH{v:Value}{x:BV}{p:PV}(h:RelB θ D w v x)(a:x.bF=some p):aX D w v p:=by
 cases x<;>simp[BV.bF]at a;.subst a;exact h
 .subst a;cases h;exact .nil none 0
 .subst a;exact h.1
theorem cQ{v:Value}{x:AV}{p:PV}(h:RelA θ D w v x)(c:x.bF=some p):aX D w v p:=by
 cases x with
 |b x=>exact lH h c|agg xs=>obtain⟨vs,rfl,h1,h2⟩:=h;simp only[AV.bF,d_]at c;obtain⟨g,a,rfl⟩:=c;obtain⟨d,e⟩:=mapM_some a;refine aX.agg _ _ (by omega) λi u p f hp=>?_;obtain⟨x,c⟩:=bw d hp;grind[lH]
 |dC xs=>obtain⟨vs,rfl,h1,h2⟩:=h;simp only[AV.bF,d_]at c;obtain⟨g,a,rfl⟩:=c;obtain⟨d,e⟩:=mapM_some a;refine aX.dC _ _ (by omega) λi u p f hp=>?_;obtain⟨x,c⟩:=bw d hp;grind[lH]
theorem FW{v:Value}{x:BV}{p:PV}(h:RelB θ D w v x)(a:x.mr=some p):aX D w v p:=by cases x with|oZ=>cases a;cases h;exact .sc _|_=>exact lH h a
theorem FV{v:Value}{x:AV}{p:PV}(h:RelA θ D w v x)(a:x.mr=some p):aX D w v p:=by
 cases x with
 |b x=>exact FW h a|agg xs=>obtain⟨vs,rfl,h1,h2⟩:=h;simp only[AV.mr,d_]at a;obtain⟨g,c,rfl⟩:=a;obtain⟨d,e⟩:=mapM_some c;refine aX.agg _ _ (by omega) λi u p f hp=>?_;obtain⟨x,a⟩:=bw d hp;grind[FW]
 |dC xs=>cases a
theorem lG{hp:List aL}(f:Ok θ D hp w){v:Value}{x:AV}{sz:Nat}{K:List PV->Prop}(h:RelA θ D w v x)(d:mC hp sz x K): ∃L a cap,K L/\v= .slice a L.length cap/\L.length<=cap/\(a=none->cap=0\/L=[])/\(0<L.length->∃b o,a=some ⟨b,o,none⟩/\b<w.heap.size/\(∀x∈L,x.cells.length=sz)/\∀(i j:Nat) (x y:PV),L[i]? =some x->x.cells[j]? =some y->∃u,w.cell? ⟨b,o+i*sz+j,none⟩=some u/\aX D w u y):=by
 rcases d with⟨rfl,d⟩|⟨L,rfl,d⟩|⟨id,e,L,rfl,I,d⟩|⟨L,rfl,d⟩
 rotate_left 3
 .obtain⟨a,cap,rfl,h1,h2⟩:=oj h.1;refine⟨L,a,cap,d,rfl,h1,λH=>?_,λhl=>?_⟩;.grind[ag_]
  .obtain⟨b,o,e,A,p,r⟩:=h2 hl;exact⟨b,o,e,f.pO b A,p,r⟩
 .cases h;exact⟨[],none,0,d,rfl,m_ _,λ_=>.inl rfl,λh=>absurd h (by simp)⟩
 .obtain⟨a,cap,rfl,h1,h2⟩:=oj (w9 h);refine⟨L,a,cap,d,rfl,h1,λH=>?_,λhl=>?_⟩;.grind[ag_]
  .obtain⟨b,o,e,A,p,r⟩:=h2 hl;exact⟨b,o,e,f.pO b A,p,r⟩
 .obtain⟨l,hl,B⟩:=h;have k:=f.fQ id l _ hl I;cases l<;>simp only[cG]at k B;.subst B;subst k;exact⟨[],_,0,d,rfl,m_ _,λ_=>.inl rfl,λh=>absurd h (by simp)⟩
  .rename_i g n cap s O;obtain⟨rfl,rfl,p,r,C,c,E,N,F⟩:=k;subst B;refine⟨L,_,cap,d,rfl,p,λe=>by grind,λ_=>⟨g,0,rfl,(f.nj id _ g hl (.inl rfl)).1,C,λi j x y J M=>?_⟩⟩;obtain⟨u,P,z⟩:=F i j x y J M;refine⟨u,?_,z⟩;rw[q_,cell_of_row w g _ c e (0,0) E];omega
theorem Tl{hp:List aL}(g:Ok θ D hp w){v:Value}{id:Nat}{p:PV}(h:RelB θ D w v (.sl id))(d:Lg hp id=some p): ∃l,θ[id]? =some l/\∀D':Nat->Prop,(∀b,D b->D' b)->(∀b,l.has b->D' b)->aX D' w v p:=by
 obtain⟨l,hl,f⟩:=h;refine⟨l,hl,λD' hD hO=>?_⟩;unfold Lg at d;split at d
 .rename_i e sz xs C;cases d;have a:=g.fQ id l _ hl C;cases l<;>simp only[cG]at a f;.subst f;subst a;exact .nil _ 0
  .obtain⟨rfl,rfl,s,J,z,c,A,L,B⟩:=a;subst f;refine gA s λ_=>⟨_,0,rfl,hO _ (.inl rfl),z,λi j x y E F=>?_⟩;obtain⟨u,H,n⟩:=B i j x y E F;refine⟨u,?_,n.mono hD (λ_ _=>rfl)⟩;rw[q_,cell_of_row w _ _ c e (0,0) A];omega
 .rename_i e sz k xs C;cases d;have a:=g.fQ id l _ hl C;cases l<;>simp only[cG]at a f;.subst f;rw[a.1];exact .nil _ 0
  .obtain⟨rfl,rfl,s,J,z,c,Os,A,L,B,N,I,r⟩:=a;subst f;refine gA s λ_=>⟨_,0,rfl,hO _ (.inl rfl),z,λi j x y E F=>?_⟩;obtain⟨u,H,n⟩:=r i j x y E F;refine⟨u,?_,kN.toP hD (λb M=>hO b (.inr (B i j b M).1)) n⟩;rw[q_,cell_of_row w _ _ c e (0,0) A];omega
 grind
theorem Ni{k:Av.K}{off n j:Nat}(h:k.mJ off n=true)(a:j<n):k.at (off+j)=none:=by simp only[Av.K.mJ,n_,H_]at h;simpa using h j a
theorem pq{h:Option (Nat×Nat×BV)}{i j:Nat}{b:BV}(e:dA h i j=some b):h=some (i,j,b):=by unfold dA at e;grind
theorem Vw{hole:Option (Nat×Nat×BV)}{k:Av.K}{n i j:Nat}{u:Value}{y:PV}{O:Nat->Prop}(d:∀i j b,hole=some (i,j,b)->i<n/\(k.at j).isSome=true)(c:k.at j=none) (h:match dA hole i j with|some b=>RelB θ D w u b|none=>kN D w (k.at j) O u y):aX D w u y:=by cases a:dA hole i j with|some b=>have:=(d i j b (pq a)).2;grind|none=>rw[a,c]at h;cases h with|flat _ _ _ h=>omega
theorem Yu{hp:List aL}(c:Ok θ D hp w){v:Value}{x:AV}{K:Nat->Prop}(h:RelA θ D w v x)(b:isLen hp x K): ∃n a cap,K n/\v= .slice a n cap:=by
 rcases b with⟨rfl,b⟩|⟨sz,L,rfl,b⟩|⟨id,e,sz,L,rfl,d,b⟩|⟨sz,L,rfl,b⟩|⟨id,e,sz,k,L,hole,rfl,d,b⟩
 rotate_left 3
 .obtain⟨a,cap,rfl,_⟩:=oj h.1;grind
 .obtain⟨l,hl,g⟩:=h;have f:=c.fQ id l _ hl d;cases l<;>simp only[cG,Loc.head]at f g;all_goals grind
 .cases h;grind
 .obtain⟨a,cap,rfl,_⟩:=oj (w9 h);grind
 .obtain⟨L',a,cap,rfl,rfl,_⟩:=lG c h (.inr (.inr (.inl ⟨id,e,L,rfl,d,rfl⟩)));grind
end
def Yields(P:Program)(o:Oper)(a:Act)(w:World)(R:Value->World->Prop):Prop:=
 ∃v w',(execOp a.eval o).run P w= .ok (.value v) w'/\R v w'
def Yields.wp{P:Program}{o:Oper}{a:Act}{w:World}{R:Value->World->Prop}{next:Act->World->Prop}{Q:Exit->Act->World->Prop}(h:Yields P o a w R)(hn:∀v w',R v w'->next (a.put o.dst v) w'):o.wp P a w next Q:=by obtain⟨v,w',h1,h2⟩:=h;unfold Oper.wp;rw[h1];exact hn v w' h2
def YF{P:Program}{w:World}{op:BinOp}{t:TypeId}{x y:Operand}{a b:Value}{K:Value->Prop}(h:JQ op a b K): ∃v,K v/\Sem.run P (do eqGuard op t x y a b;binOp op t a b) w= .ok v w:=by
 cases a<;>cases b<;>simp only[JQ]at h;case int.int k m d n=>
  cases op<;>simp only at h;case shl=>obtain⟨h1,h2⟩:=h;refine⟨_,h2,?_⟩;simp[eqGuard,binOp,Op.shift,aS_.2 h1]
  case shr=>obtain⟨h1,h2⟩:=h;refine⟨_,h2,?_⟩;simp[eqGuard,binOp,Op.shift,aS_.2 h1]
  case quo=>obtain⟨rfl,h1,h2⟩:=h;refine⟨_,h2,?_⟩;simp[eqGuard,binOp,Op.intDiv,h1]
  case rem=>obtain⟨rfl,h1,h2⟩:=h;refine⟨_,h2,?_⟩;simp[eqGuard,binOp,Op.intDiv,h1]
  all_goals (obtain⟨rfl,h⟩:=h;refine⟨_,h,?_⟩;simp[eqGuard,binOp,Op.intArith,Op.intBits,Op.intCmp,kh])
 case string.string s r=>
  cases op<;>simp only at h;case add=>obtain⟨h1,h2⟩:=h;refine⟨_,h2,?_⟩;have c:IntKind.i64.max=9223372036854775807:=rfl;simp[c,eqGuard,binOp,Op.stringOp];omega
  all_goals first|exact h.elim|(refine⟨_,h,?_⟩;simp[eqGuard,binOp,Op.stringOp])
def zbe{P:Program}{w:World}{t:TypeId}{x y:Operand}{a b:Bool}(ht:P.underlying t=some .bool)(neg:Bool): Sem.run P (do eqGuard (if neg then .neq else .eql) t x y (.bool a) (.bool b);binOp (if neg then .neq else .eql) t (.bool a) (.bool b)) w= .ok (.bool (neg ^^ (a==b))) w:=by
 have c:Sem.run P (Op.equal t (.bool a) (.bool b)) w= .ok (a==b) w:=by show Sem.run P (Op.equalIn (9999+1) t (.bool a) (.bool b)) w=_;rw[Op.equalIn];simp[run_underlying ht]
 cases neg;.show Sem.run P (do eqGuard .eql t x y (.bool a) (.bool b);binOp .eql t (.bool a) (.bool b)) w=_;have h1:binOp .eql t (.bool a) (.bool b)=(do pure (.bool (<-Op.equal t (.bool a) (.bool b)))):=rfl;rw[h1];simp[eqGuard,c]
 .show Sem.run P (do eqGuard .neq t x y (.bool a) (.bool b);binOp .neq t (.bool a) (.bool b)) w=_;have h1:binOp .neq t (.bool a) (.bool b)=(do pure (.bool (!(<-Op.equal t (.bool a) (.bool b))))):=rfl;rw[h1];simp[eqGuard,c]
def zbf{P:Program}{w:World}{op:UnOp}{a:Value}{K:Value->Prop}(h:unV op a K):∃v,K v/\Sem.run P (Op.unary op a) w= .ok v w:=by
 unfold unV at h;split at h;.exact⟨_,h,by simp[Op.unary]⟩
 .exact⟨_,h,by simp[Op.unary,Op.intArith]⟩
 grind
section
variable {P:Program} {w:World}
theorem run_sizeOf{t:TypeId}{s:Nat}(h:bY P t=some s):Sem.run P (sizeOf t) w= .ok s w:=by simp only[bY,d_]at h;obtain⟨i,a,rfl⟩:=h;simp[sizeOf,typeInfo,a]
theorem I9{t:TypeId}{d:TypeDesc}(h:P.underlying t=some d):Sem.run P (isAgg t) w= .ok (iv P t) w:=by simp only[isAgg,iv,Sem.run_bind,run_underlying h,Result.andThen_ok];cases d<;>simp[h]
theorem addr_add(b o i:Nat):(⟨b,o,none⟩:Addr).add i=⟨b,o+i,none⟩:=by unfold Addr.add;split<;>simp_all
def sq(ag:Bool)(vs:Array Value)(off sz:Nat):Value:=match ag with
 |true=>.agg (vs.extract off (off+sz))
 |false=>(vs[off]?).getD undef
def uh(ag:Bool)(cs:List Value):Value:=match ag with
 |true=>.agg cs.toArray
 |false=>cs.headD undef
theorem BU{t:TypeId}{d:TypeDesc}{s b o:Nat}(hd:P.underlying t=some d)(hs:bY P t=some s)(cs:List Value)(hl:cs.length=s)(a:iv P t=false->s=1) (hc:∀(j:Nat) (v:Value),cs[j]? =some v->w.cell? ⟨b,o+j,none⟩=some v): Sem.run P (loadVar t ⟨b,o,none⟩) w= .ok (uh (iv P t) cs) w:=by
 simp only[loadVar,Sem.run_bind,I9 hd,Result.andThen_ok];cases c:iv P t
 .simp only[u_,if_false];have h1:=a c
  match cs,hl with|[v],_=>have:=hc 0 v rfl;rw[run_load];simp at this;simp[this,uh]|[],hl=>grind|_::_::_,hl=>grind
 .simp only[if_true,Sem.run_bind,run_sizeOf hs,Result.andThen_ok];have:=run_loadCells_list (P:=P) (w:=w) ⟨b,o,none⟩ cs (λj v e=>by rw[addr_add];grind);rw[hl]at this;simp[this,uh]
theorem gx{a:Type} [Inhabited a]{n:Nat}{p:Nat->a->Prop}(h:∀j,j<n->∃u,p j u):∃l:List a,l.length=n/\∀(j:Nat) (u:a),l[j]? =some u->p j u:=by induction n with|zero=>simp|succ n b=>obtain⟨l,h1,h2⟩:=b λj c=>h j (by omega);obtain⟨u,d⟩:=h n (by simp);refine⟨l++[u],by grind,λj v e=>?_⟩;grind
theorem La{D:Nat->Prop}{cs:List Value}{a:List PV}(hl:cs.length=a.length)(h:∀(j:Nat) (u:Value) (y:PV),cs[j]? =some u->a[j]? =some y->aX D w u y): aX D w (.agg cs.toArray) (.agg a):= .agg _ _ (by omega) λi v x c b=>h i v x (by grind) b
theorem tj{p:PV}:p.isAgg=true->p= .agg p.cells:=by cases p<;>simp[PV.isAgg,PV.cells]
theorem mO{p:PV}:p.isAgg=false->p.cells=[p]:=by cases p<;>simp[PV.isAgg,PV.cells]
theorem FX{D:Nat->Prop}{cs:List Value}{p:PV}(hl:cs.length=p.cells.length)(h:∀(j:Nat) (u:Value) (y:PV),cs[j]? =some u->p.cells[j]? =some y->aX D w u y): aX D w (uh p.isAgg cs) p:=by
 cases hp:p.isAgg
 .have h1:=mO hp;rw[h1]at hl h
  match cs,hl,h with|[u],_,h=>exact h 0 u p rfl rfl
 .have h1:=tj hp;rw[h1];simp only[PV.cells]at hl h⊢;exact La hl (λj u y a b=>h j u y a b)
theorem mT{a:Type}{l:List a}{i:Nat}{x d:a}(h:l[i]? =some x):l.getD i d=x:=by simp[Q_,h]
theorem uP{p:PV}{off sz:Nat}{ag:Bool}(a:ag=false->sz=1)(c:off+sz<=p.cells.length):(ag=true->(p.sub off sz ag).cells=(p.cells.drop off).take sz)/\(ag=false->p.cells[off]? =some (p.sub off sz ag)):=by
 constructor;.rintro rfl;rfl
 .rintro rfl;have:=a rfl;have b:off<p.cells.length:=by omega
  simp[PV.sub,b_ b]
end
def sK(c:Ctx)(θ:List Loc)(st:St)(a:Act)(K:AV->Prop):Value->World->Prop:=λv w'=>∃x D',K x/\Inv c θ D' st a w'/\RelA θ D' w' v x
section
variable {P:Program} {o:Oper} {c:Ctx} {θ:List Loc} {D:Nat->Prop} {st:St} {a:Act} {w:World} {K:AV->Prop}
theorem sK.same(E:Inv c θ D st a w){v:Value}{x:AV}(H:K x)(I:RelA θ D w v x):sK c θ st a K v w:=⟨x,D,H,E,I⟩
theorem aK{v:Value}{x:AV}(b:Inv c θ D st a w)(hr:(execOp a.eval o).run P w= .ok (.value v) w)(d:K x)(e:RelA θ D w v x):Yields P o a w (sK c θ st a K):=⟨v,w,hr,sK.same b d e⟩
theorem ON(d:Inv c θ D st a w){x:Operand}(b:o.op= .move x\/o.op= .assign x)(h:jp P st (.mv (.of x)) K):Yields P o a w (sK c θ st a K):=by obtain⟨g,f,e⟩:=h;refine aK d ?_ e (d.get f);rcases b with b|b<;>simp[execOp,b]
theorem OK(d:Inv c θ D st a w){v:Value}(hr:(execOp a.eval o).run P w= .ok (.value v) w)(h:jp P st (.mv (.c v)) K):Yields P o a w (sK c θ st a K):=by obtain⟨f,b,e⟩:=h;simp[St.get]at b;subst b;exact aK d hr e (rV v)
theorem Rb(d:Inv c θ D st a w){x y z:Operand}(g:o.op= .pick x y z)(h:jp P st (.pick (.of x) (.of y) (.of z)) K):Yields P o a w (sK c θ st a K):=by
 obtain⟨r,l,k⟩:=h;obtain⟨b,f,ht,j⟩:=cU (d.get l) k;cases b;.obtain⟨u,p,e⟩:=j rfl;exact aK d (by simp[execOp,g,f,asBool]) e (d.get p)
 .obtain⟨s,n,e⟩:=ht rfl;exact aK d (by simp[execOp,g,f,asBool]) e (d.get n)
theorem Jg(b:Inv c θ D st a w){op:BinOp}{t k:TypeId}{x y:Operand}(e:o.op= .binOp op t x y k)(h:jp P st (.bin op (.of x) (.of y)) K):Yields P o a w (sK c θ st a K):=by obtain⟨l,g,n,j,f⟩:=h;have h1:=cU (b.get g) f;have h2:=cU (b.get j) h1;obtain⟨v,d,hr⟩:=YF (P:=P) (w:=w) (t:=t) (x:=x) (y:=y) h2;refine aK b ?_ d (aX.sc v);simp only[execOp,e];rw[Sem.run_bind,hr];rfl
theorem Jh(b:Inv c θ D st a w){neg:Bool}{t l:TypeId}{x y:Operand}(e:o.op= .binOp (if neg then .neq else .eql) t x y l)(ht:P.underlying t=some .bool)(h:jp P st (.G8 neg (.of x) (.of y)) K):Yields P o a w (sK c θ st a K):=by obtain⟨n,j,r,k,g⟩:=h;have h1:=cU (b.get j) g;have h2:=cU (b.get k) h1;obtain⟨p,hp,q,f,d⟩:=h2;refine aK b ?_ d (aX.sc _);simp only[execOp,e,hp,f];rw[Sem.run_bind,zbe ht neg];rfl
theorem YW(b:Inv c θ D st a w){op:UnOp}{t:TypeId}{x:Operand}(e:o.op= .unOp op t x)(h:jp P st (.un op (.of x)) K):Yields P o a w (sK c θ st a K):=by obtain⟨j,g,f⟩:=h;obtain⟨v,d,hr⟩:=zbf (P:=P) (w:=w) (cU (b.get g) f);refine aK b ?_ d (aX.sc v);simp only[execOp,e];rw[Sem.run_bind,hr];rfl
theorem Vp(g:Inv c θ D st a w){x:Operand}{t e:TypeId}{cl:Call}(l:o.op= .call cl)(j:cl.callee= .builtin .len)(d:cl.args= #[x])(f:cl.argTypes= #[t]) (ht:P.underlying t=some (.slice e)) (h:jp P st (.len false (.of x)) K):Yields P o a w (sK c θ st a K):=by obtain⟨s,r,hl⟩:=h;obtain⟨n,b,cap,k,p⟩:=Yu g.ok (g.get r) hl;refine aK g ?_ k (aX.sc _);simp[execOp,l,resolve,j,d,f,invoke,builtin,Builtin.len_,run_underlying ht,p,goInt]
theorem Q7(f:Inv c θ D st a w){x:Operand}{t:TypeId}{cl:Call}(j:o.op= .call cl)(e:cl.callee= .builtin .len)(b:cl.args= #[x])(d:cl.argTypes= #[t]) (ht:P.underlying t=some .string) (h:jp P st (.len true (.of x)) K):Yields P o a w (sK c θ st a K):=by obtain⟨l,k,hl⟩:=h;obtain⟨s,hs,g⟩:=cU (f.get k) hl;refine aK f ?_ g (aX.sc _);simp[execOp,j,resolve,e,b,d,invoke,builtin,Builtin.len_,run_underlying ht,hs,goInt]
theorem Q4(d:Inv c θ D st a w){t:TypeId}{x i:Operand}(r:o.op= .index t x i)(ht:P.underlying t=some .string)(h:jp P st (.qC (.of x) (.of i)) K):Yields P o a w (sK c θ st a K):=by
 obtain⟨z,v,y,j,u⟩:=h;have h1:=cU (d.get v) u;have h2:=cU (d.get j) h1;obtain⟨k,n,hn,s,hs,f,p,l⟩:=h2;refine aK d ?_ l (aX.sc _);have b:n.toNat<s.size:=by omega
 have hg:s[n.toNat]? =some (s[n.toNat]):=by simp
 have e:s.toList.getD n.toNat 0=s[n.toNat]:=by have:s.toList=s.data.toList:=ByteArray.toList_eq s;rw[this];simp only[Q_,t_];have g:n.toNat<s.data.size:=b;rw[g_ g];rfl
 rw[e];simp[execOp,r,hn,hs,Instr.index,asIntOf,run_underlying ht,f,hg]
end
section
variable {P:Program} {o:Oper} {c:Ctx} {θ:List Loc} {D:Nat->Prop} {st:St} {a:Act} {w:World} {K:AV->Prop}
theorem tZ{v:Array Value}{p:PV}{off sz:Nat}{ag:Bool}(h:aX D w (.agg v) p)(hp:p.isAgg=true)(c:off+sz<=p.cells.length)(b:ag=false->sz=1): v.size=p.cells.length/\aX D w (sq ag v off sz) (p.sub off sz ag):=by
 have a:=tj hp;obtain⟨q,rfl⟩:∃q,p= .agg q:=⟨_,a⟩;cases h with
 |agg vs xs hs d=>
  refine⟨hs,?_⟩;cases ag;.grind[sq,PV.sub,PV.cells,Q_,b_,g_]
  .refine .agg _ _ (by grind) λi u x e f=>?_;grind
theorem qH{t:TypeId}{d:TypeDesc}{s off:Nat}{cs:Array Value}(hd:P.underlying t=some d)(hs:bY P t=some s)(c:off+s<=cs.size)(a:iv P t=false->s=1): Sem.run P (part t cs off) w= .ok (sq (iv P t) cs off s) w:=by
 simp only[part,Sem.run_bind,I9 hd];cases b:iv P t
 .have:=a b;have h2:off<cs.size:=by omega
  simp[sq,g_ h2]
 .simp[sq,run_sizeOf hs]
theorem FU{v:Value}{x:AV}{p:PV}(h:RelA θ D w v x)(c:x.bF=some p)(hp:p.isAgg=true):∃vs:Array Value,v= .agg vs/\aX D w (.agg vs) p:=by have h1:=cQ h c;have a:=tj hp;rw[a]at h1⊢;cases h1 with|agg vs xs hs b=>exact⟨vs,rfl,.agg vs _ hs b⟩
theorem Q5(s:Inv c θ D st a w){n sz:Nat}{t e:TypeId}{d:TypeDesc}{x i:Operand}(E:o.op= .index t x i)(ht:P.underlying t=some (.array n e))(hd:P.underlying e=some d)(hs:bY P e=some sz) (h:jp P st (.pX n sz (iv P e) (.of x) (.of i)) K):Yields P o a w (sK c θ st a K):=by
 obtain⟨J,H,I,A,F⟩:=h;obtain⟨k,m,C,p,hp,y,u,b,f,j,B⟩:=cU (s.get A) F;obtain⟨vs,z,l⟩:=FU (s.get H) hp j;have v:m.toNat*sz+sz<=n*sz:=by
  have:m.toNat+1<=n:=by omega
  have:=f_ sz this;grind
 obtain⟨hsz,r⟩:=tZ l j (by rw[f];omega) b;refine aK s ?_ B r;have g:m<(n:Int):=u;simp only[execOp,E,C,z,Instr.index,asIntOf,Sem.run_bind,Sem.run_pure,Result.andThen_ok,run_underlying ht];rw[if_pos ⟨y,g⟩];simp only[Sem.run_bind,run_sizeOf hs,Result.andThen_ok,(qH (cs:=vs) (off:=m.toNat*sz) hd hs (by omega) b)]
theorem Q2(u:Inv c θ D st a w){sz:Nat}{t e:TypeId}{x i:Operand}(J:o.op= .indexAddr t x i)(ht:P.underlying t=some (.slice e))(hs:bY P e=some sz) (h:jp P st (.qA sz (.of x) (.of i)) K):Yields P o a w (sK c θ st a K):=by
 obtain⟨R,N,Q,I,M⟩:=h;obtain⟨k,n,hn,v⟩:=cU (u.get I) M;have E:=u.get N;have z:∀(b o' len cap:Nat),a.eval x= .slice (some ⟨b,o',none⟩) len cap->0<=n->n<(len:Int)->(execOp a.eval o).run P w= .ok (.value (.pointer (some ⟨b,o'+n.toNat*sz,none⟩))) w:=by intro b o' len cap F r h1;simp only[execOp,J,hn,F,Instr.indexAt,asIntOf,Sem.run_bind,Sem.run_pure,Result.andThen_ok,run_underlying ht];rw[if_pos ⟨r,h1⟩];simp[run_sizeOf hs,addr_add]
 rcases v with⟨L,rfl,r,d,B⟩|⟨id,rfl,ob,C,⟨H,L,rfl,r,d,B⟩|⟨H,U,L,hole,rfl,r,d,B⟩⟩;.obtain⟨b,cap,F,hcap,p⟩:=oj (w9 E);obtain⟨g,o',rfl,hg,hsz,hc⟩:=p (by omega);refine aK u (z g o' L.length cap F r d) B (pD hg λj y T=>?_);grind
 .obtain⟨l,hl,A⟩:=E;have f:=u.ok.fQ id l _ hl C;cases l<;>simp only[cG]at f A;.grind
  .rename_i g m cap s O;obtain⟨rfl,rfl,_⟩:=f;exact aK u (z g 0 _ cap A r d) B ⟨g,_,cap,s,O,hl,by simp⟩
 .obtain⟨l,hl,A⟩:=E;have f:=u.ok.fQ id l _ hl C;cases l<;>simp only[cG]at f A;.grind
  .rename_i g m cap s O;obtain⟨rfl,rfl,_⟩:=f;exact aK u (z g 0 _ cap A r d) B ⟨g,_,cap,s,O,hl,by simp⟩
theorem zbl{b o' off sz:Nat}{ag:Bool}{p:PV}(g:D b)(hc:∀(j:Nat) (y:PV),p.cells[j]? =some y->∃u,w.cell? ⟨b,o'+j,none⟩=some u/\aX D w u y)(c:off+sz<=p.cells.length)(e:ag=false->sz=1)(f:(p.sub off sz ag).isAgg=ag): aX D w (.pointer (some ⟨b,o'+off,none⟩)) (.BS (p.sub off sz ag)):=by
 refine pD g λj y d=>?_;cases a:ag;.subst a;rw[mO f]at d;cases j with|zero=>simp at d;subst d;have:=hc off _ ((uP e c).2 rfl);omega|succ j=>grind
 .subst a;rw[(uP (λh=>by grind) c).1 rfl]at d;grind
theorem Q3(f:Inv c θ D st a w){n sz:Nat}{ag:Bool}{t e:TypeId}{x i:Operand}(H:o.op= .indexAddr t x i)(ht:P.underlying t=some (.array n e))(hs:bY P e=some sz) (h:jp P st (.qB n sz ag (.of x) (.of i)) K):Yields P o a w (sK c θ st a K):=by
 obtain⟨L,A,J,E,I⟩:=h;obtain⟨k,m,F,B,y,d⟩:=cU (f.get E) I;have l:∀(g off:Nat),a.eval x= .pointer (some ⟨g,off,none⟩)->(execOp a.eval o).run P w= .ok (.value (.pointer (some ⟨g,off+m.toNat*sz,none⟩))) w:=by intro g off j;simp only[execOp,H,F,j,Instr.indexAt,asIntOf,Sem.run_bind,Sem.run_pure,Result.andThen_ok,run_underlying ht,Instr.sureAddr];rw[if_pos ⟨B,y⟩];simp[run_sizeOf hs,addr_add]
 rcases d with⟨id,off,rfl,u⟩|⟨p,rfl,z,r,s,u⟩;.obtain⟨g,hg,j⟩:=f.get A;exact aK f (l g off j) u ⟨g,hg,rfl⟩
 .obtain⟨b,o',j,C,hc⟩:=y9 (w9 (f.get A));have v:m.toNat*sz+sz<=p.cells.length:=by have h1:(m.toNat+1)*sz<=n*sz:=f_ _ (by omega);grind
  exact aK f (l b o' j) u (zbl C hc v r s)
theorem Q1(C:Inv c θ D st a w){s:TypeId}{f:Nat}{x:Operand}{e:Field}{sz:Nat}(J:o.op= .fieldAddr s x f)(F:uD P s f=some e)(hs:bY P e.type=some sz)(hsz:sz≠0) (h:jp P st (.oW e.offset sz (iv P e.type) (.of x)) K):Yields P o a w (sK c θ st a K):=by
 obtain⟨M,L,k⟩:=h;have E:=C.get L;have r:∀(b o':Nat),a.eval x= .pointer (some ⟨b,o',none⟩)->(execOp a.eval o).run P w= .ok (.value (.pointer (some ⟨b,o'+e.offset,none⟩))) w:=by
  intro b o' l;unfold uD at F;split at F;.rename_i N H;simp[execOp,J,l,Instr.fieldAt,run_underlying H,F,Instr.sureAddr,fieldPlace,run_sizeOf hs,hsz,addr_add]
  grind
 rcases k with⟨p,rfl,B,v,z,A⟩|⟨id,o',rfl,A⟩|⟨id,i,o',rfl,A⟩
 .obtain⟨b,o',l,I,hc⟩:=y9 (w9 E);refine aK C (r b o' l) A (pD I λj y u=>?_);cases d:iv P e.type;.rw[d]at u v;rw[d]at z;rw[mO z]at u;cases j with|zero=>simp at u;subst u;have:=hc e.offset _ ((uP v B).2 rfl);omega|succ j=>grind
  .rw[d]at u;rw[(uP (λh=>by grind) B).1 rfl]at u;grind
 .obtain⟨g,hg,l⟩:=E;exact aK C (r g o' l) A ⟨g,hg,rfl⟩
 .obtain⟨g,n,cap,s',O,hg,l⟩:=E;refine aK C (r g _ l) A ⟨g,n,cap,s',O,hg,?_⟩;simp
end
section
variable {P:Program} {o:Oper} {c:Ctx} {θ:List Loc} {D:Nat->Prop} {st:St} {a:Act} {w:World} {K:AV->Prop}
theorem m4{vs:Array Value}{cs:List BV}{off sz:Nat}{ag:Bool}(hl:vs.size=cs.length)(h:∀(i:Nat) (u:Value) (x:BV),vs[i]? =some u->cs[i]? =some x->RelB θ D w u x)(b:off+sz<=cs.length)(a:ag=false->sz=1): RelA θ D w (sq ag vs off sz) (mY ag ((cs.drop off).take sz)):=by
 cases ag
 .have:=a rfl;subst this;have h1:off<cs.length:=by omega
  have h2:off<vs.size:=by omega
  have e:(cs.drop off).take 1=[cs[off]]:=by grind[ai_]
  simp only[sq,e,g_ h2];exact h off _ _ (g_ h2) (b_ h1)
 .refine⟨_,rfl,by grind,λi u x c d=>?_⟩;grind
theorem Vo(v:Inv c θ D st a w){t:TypeId}{f:Nat}{x:Operand}{e:Field}{d:TypeDesc}{sz:Nat}(B:o.op= .field t x f)(u:uD P t f=some e)(hd:P.underlying e.type=some d)(hs:bY P e.type=some sz) (h:jp P st (.Iy e.offset sz (iv P e.type) (.of x)) K):Yields P o a w (sK c θ st a K):=by
 obtain⟨E,C,g⟩:=h;have A:=v.get C;unfold uD at u;split at u
 .rename_i F l;rcases g with⟨p,rfl,n,j,b,z⟩|⟨cs,rfl,j,b,z⟩;.obtain⟨vs,y,r⟩:=FU A rfl n;obtain⟨hsz,s⟩:=tZ r n j b;refine aK v ?_ z s;have k:=qH (w:=w) (cs:=vs) (off:=e.offset) hd hs (by omega) b;simp[execOp,B,y,Instr.field,run_underlying l,u,asAgg,k]
  .obtain⟨vs,y,h1,h2⟩:=A;refine aK v ?_ z (m4 h1 h2 j b);simp[execOp,B,y,Instr.field,run_underlying l,u,asAgg,(qH (cs:=vs) (off:=e.offset) hd hs (by omega) b)]
 grind
theorem pA(ag:Bool)(c:Array Value)(off sz:Nat)(a:ag=false->sz=1)(b:off+sz<=c.size):uh ag (c.extract off (off+sz)).toList=sq ag c off sz:=by
 cases ag;.grind[uh,sq,List.head?_eq_getElem?]
 .show Value.agg _=Value.agg _;grind
theorem Xn(F:Inv c θ D st a w){x:Operand}{sz:Nat}{ag:Bool}{id i off:Nat}{e:TypeId}{s:Nat}{k:Av.K}{xs:List PV}{hole:Option (Nat×Nat×BV)}(hX:RelA θ D w (a.eval x) (.b (.jb id i off)))(M:st.hp[id]? =some (.tree e s k xs hole)) (hi:i<xs.length) (el:off+sz<=s) (p:ag=false->sz=1) (d:(k.mJ off sz=true/\K (.p ((xs.getD i .any).sub off sz ag)))\/(∃bv,hole=some (i,off,bv)/\sz=1/\ag=false/\K (.b bv))) (N:∀(b o':Nat) (cs:List Value),a.eval x= .pointer (some ⟨b,o',none⟩)->cs.length=sz->(ag=false->sz=1)->(∀(j:Nat) (v:Value),cs[j]? =some v->w.cell? ⟨b,o'+j,none⟩=some v)->(execOp a.eval o).run P w= .ok (.value (uh ag cs)) w):Yields P o a w (sK c θ st a K):=by
 obtain⟨g,n,cap,s',O,hg,he⟩:=hX;obtain⟨rfl,rfl,h3,h4,Y,C,Os,h6,h7,h8,h9,J,A⟩:=F.ok.fQ id _ _ hg M;obtain⟨z,f⟩:∃z,xs[i]? =some z:=⟨_,b_ hi⟩;have I:xs.getD i .any=z:=mT f;rw[I]at d;have gc:z.cells.length=s':=Y _ (a_ f);have R:i*s'+s'<=C.size:=by
  rw[h7];have:i+1<=cap:=by omega
  have:=f_ s' this;grind
 have hr:=N g (i*s'+off) (C.extract (i*s'+off) (i*s'+off+sz)).toList he (by grind) p (λj v Q=>by rw[cell_of_row w g _ C e (0,0) h6];grind)
 rw[pA _ _ _ _ p (by omega)]at hr;rcases d with⟨hf,L⟩|⟨bv,r,rfl,rfl,L⟩
 .have H:∀(j:Nat) (u:Value) (y:PV),j<sz->C[i*s'+off+j]? =some u->z.cells[off+j]? =some y->aX D w u y:=λj u y Q T U=>by obtain⟨u',B,h⟩:=A i (off+j) _ y f U;rw[<-V_,T]at B;cases B;exact Vw J (Ni hf Q) h
  refine aK F hr L ?_;show aX D w _ _;cases hb:ag;.have:=p hb;subst this;grind[sq,PV.sub,g_]
  .refine .agg _ _ (by grind) λk u y T U=>?_;grind
 .have h:off<z.cells.length:=by omega
  obtain⟨u,E,l⟩:=A i off _ _ f (b_ h);rw[r]at l;simp only[dA,and_self,if_true]at l;refine aK F hr L ?_;simp only[sq,E,U_];exact l
theorem Q8(B:Inv c θ D st a w){t:TypeId}{x:Operand}{d:TypeDesc}{sz:Nat}(ho:o.op= .load t x)(hd:P.underlying t=some d)(hs:bY P t=some sz) (h:jp P st (.load sz (iv P t) (.of x)) K):Yields P o a w (sK c θ st a K):=by
 obtain⟨ax,hx,f⟩:=h;have T:=B.get hx;have H:∀(b o':Nat) (cs:List Value),a.eval x= .pointer (some ⟨b,o',none⟩)->cs.length=sz->(iv P t=false->sz=1)->(∀(j:Nat) (v:Value),cs[j]? =some v->w.cell? ⟨b,o'+j,none⟩=some v)->(execOp a.eval o).run P w= .ok (.value (uh (iv P t) cs)) w:=by
  intro b o' cs E hl l hc
  have:=BU (P:=P) (w:=w) hd hs cs hl l hc
  simp[execOp,ho,E,Instr.loadAt,Instr.sureAddr,this]
 unfold BQ at f;split at f
 .rename_i p;obtain⟨el,gc,r⟩:=f;obtain⟨b,o',E,hb,hc⟩:=y9 (w9 T);obtain⟨cs,hl,hcs⟩:=gx (n:=sz) (p:=λj u=>w.cell? ⟨b,o'+j,none⟩=some u/\∀y,p.cells[j]? =some y->aX D w u y) (λj N=>by obtain⟨u,h1,h2⟩:=hc j (p.cells[j]'(by omega)) (b_ (by omega));grind)
  have l:iv P t=false->sz=1:=λh=>by grind[mO]
  refine aK B (H b o' cs E hl l λj v N=>(hcs j v N).1) r ?_;rw[<-el];exact FX (by omega) λj u y Q L=>(hcs j u Q).2 y L
 .rename_i id off;obtain⟨ob,F,t',cs,rfl,z,l,r⟩:=f;obtain⟨g,hg,E⟩:=T;obtain⟨A,h1,h2,R⟩:=B.ok.fQ id _ _ hg F;have I:off+sz<=A.size:=by omega
  have hr:=H g off (A.extract off (off+sz)).toList E (by grind) l (λj v N=>by rw[cell_of_row w g _ A t' (0,0) h1];grind)
  rw[pA _ _ _ _ l I]at hr;rcases r with r|⟨q,hq,r⟩;.exact aK B hr r (m4 h2 R z l)
  .exact aK B hr r (cQ (m4 h2 R z l) hq)
 .rename_i id i off;obtain⟨ob,F,⟨e,s,xs,rfl,hi,z,l,f⟩|⟨e,s,k,xs,hole,rfl,hi,z,l,f⟩⟩:=f
  rotate_left
  .grind[Xn]
  obtain⟨g,n,cap,s',O,hg,E⟩:=T;obtain⟨rfl,rfl,R,h4,h5,A,h6,h7,h8⟩:=B.ok.fQ id _ _ hg F;obtain⟨M,J⟩:∃M,xs[i]? =some M:=⟨_,b_ hi⟩;have U:xs.getD i .any=M:=mT J;rw[U]at f;have ur:M.cells.length=s':=h5 _ (a_ J);have ph:i*s'+s'<=A.size:=by
   rw[h7];have:i+1<=cap:=by omega
   have:=f_ s' this;grind
  have hr:=H g (i*s'+off) (A.extract (i*s'+off) (i*s'+off+sz)).toList E (by grind) l (λj v N=>by rw[cell_of_row w g _ A e (0,0) h6];grind)
  have C:∀(j:Nat) (u:Value) (y:PV),A[i*s'+j]? =some u->M.cells[j]? =some y->aX D w u y:=λj u y Q L=>by grind
  rcases f with⟨rfl,rfl,Y,r⟩|⟨qr,r⟩;.refine aK B hr r ?_;rw[<-Y];refine FX (by grind) λj u y Q L=>C j u y ?_ L;grind
  .rw[pA _ _ _ _ l (by omega)]at hr;refine aK B hr r ?_;show aX D w _ _;cases hb:iv P t;.grind[sq,PV.sub,g_]
   .refine .agg _ _ (by grind) λk u y Q L=>?_;grind
 grind
theorem Q0(e:Inv c θ D st a w){s d:TypeId}{x:Operand}{k:IntKind}{ds:TypeDesc}(g:o.op= .convert s d x)(b:P.underlying s=some ds)(hd:P.underlying d=some (.int k))(h:jp P st (.qm k (.of x)) K):Yields P o a w (sK c θ st a K):=by obtain⟨p,l,j⟩:=h;obtain⟨r,n,hn,f⟩:=cU (e.get l) j;refine aK e ?_ f (aX.sc _);simp only[execOp,g,hn,convert,Sem.run_bind,run_underlying b,run_underlying hd];simp[Conv.intToInt]
theorem Vn(e:Inv c θ D st a w){x:Operand}{i:Nat}(l:o.op= .extract x i)(h:jp P st (.ext (.of x) i) K):Yields P o a w (sK c θ st a K):=by
 obtain⟨r,n,d⟩:=h;rcases d with⟨xs,rfl,p,hp,g⟩|⟨xs,rfl,p,hp,g⟩
 .have k:aX D w (a.eval x) (.dC xs):=e.get n;generalize j:a.eval x=v at k;cases k with
  |dC vs xs hs f=>
   have b:i<vs.size:=by grind
   refine aK e ?_ g (f i _ p (g_ b) hp);simp[execOp,l,j,Instr.extract,g_ b]
 .obtain⟨vs,j,hs,f⟩:=e.get n;have b:i<vs.size:=by grind
  refine aK e ?_ g (f i _ p (g_ b) hp);simp[execOp,l,j,Instr.extract,g_ b]
theorem Ra(d:Inv c θ D st a w){x:Operand}(r:o.op= .nilCheck x)(h:jp P st (.rR (.of x)) K):Yields P o a w (sK c θ st a K):=by
 obtain⟨z,s,e,n⟩:=h;have k:=d.get s;rcases e with⟨p,rfl⟩|⟨id,o',rfl⟩|⟨id,i,o',rfl⟩|⟨f,y,rfl⟩|⟨f,ids,rfl⟩;.obtain⟨b,o',j,_⟩:=y9 (w9 k);refine aK d ?_ n k;simp[execOp,r,j]
 .obtain⟨g,_,j⟩:=k;refine aK d ?_ n (d.get s);simp[execOp,r,j]
 .obtain⟨g,_,_,_,_,j⟩:=k;refine aK d ?_ n (d.get s);simp[execOp,r,j]
 .have l:aX D w (a.eval x) (.fn (.func f) y):=k;refine aK d ?_ n (d.get s);generalize u:a.eval x=v at l;cases l with|fn A vs xs hs C=>simp[execOp,r,u]
 .obtain⟨B,_,_,j⟩:=k;refine aK d ?_ n (d.get s);simp[execOp,r,j]
end
theorem ot{a:Type}(xs:List a)(off:Nat)(ys:List a)(h:off+ys.length<=xs.length)(k:Nat):(splice xs off ys)[k]? =if off<=k/\k<off+ys.length then ys[k - off]? else xs[k]? :=by
 unfold splice;have hl:(xs.take off).length=off:=by grind
 grind
theorem lS{a:Type}(xs:List a)(off:Nat)(ys:List a)(h:off+ys.length<=xs.length):(splice xs off ys).length=xs.length:=by unfold splice;grind
def foldl_set(off:Nat):∀(l:List (Value×Nat)) (j:Nat) (a:Array Value),(∀(i:Nat) (x:Value×Nat),l[i]? =some x->x.2=j+i)->off+j+l.length<=a.size->
 (l.foldl (λcs x=>cs.setIfInBounds (off+x.2) x.1) a).size=a.size/\
 ∀k,(l.foldl (λcs x=>cs.setIfInBounds (off+x.2) x.1) a)[k]? =if off+j<=k/\k<off+j+l.length then(l[k - (off+j)]?).map (·.1)else a[k]?
 |[],j,a,_,_=>⟨rfl,λk=>by grind⟩
 |x::l,j,a,b,hl=>by have c:x.2=j:=b 0 x rfl;simp only[ao_,G_]at hl⊢;obtain⟨h1,h2⟩:=foldl_set off l (j+1) (a.setIfInBounds (off+x.2) x.1) (λi y d=>by have:=b (i+1) y (by grind);omega) (by grind);grind
def Jc(off:Nat)(vs a:Array Value)(h:off+vs.size<=a.size):(vs.zipIdx.foldl (λcs (c,j)=>cs.setIfInBounds (off+j) c) a).size=a.size/\∀k,(vs.zipIdx.foldl (λcs (c,j)=>cs.setIfInBounds (off+j) c) a)[k]? =if off<=k/\k<off+vs.size then vs[k - off]? else a[k]? :=by
 have e:vs.zipIdx.foldl (λcs (c,j)=>cs.setIfInBounds (off+j) c) a=(vs.toList.zipIdx).foldl (λcs x=>cs.setIfInBounds (off+x.2) x.1) a:=by rw[<-Array.foldl_toList];simp
 rw[e];obtain⟨h1,h2⟩:=foldl_set off vs.toList.zipIdx 0 a (λi x b=>by grind) (by simpa using h)
 refine⟨h1,λk=>?_⟩;rw[h2 k];simp;grind
section
variable {P:Program} {o:Oper} {c:Ctx} {θ:List Loc} {D:Nat->Prop} {st:St} {a:Act} {w:World} {K:AV->Prop}
theorem Se(b:Nat->Option (Nat×Nat)):∀(parts:List (Nat×Value)) (f:List (Nat×Nat×AV)) (a:Array Value) (d:List BV),parts.length=f.length->
 (∀(i:Nat) (x:Nat×Value) (q:Nat×Nat×AV),parts[i]? =some x->f[i]? =some q->b x.1=some (q.1,q.2.1)/\RelA θ D w x.2 q.2.2)->
 (∀q∈f,q.2.2.ok=true/\q.2.2.cells.length=q.2.1/\q.1+q.2.1<=d.length)->a.size=d.length->(∀(i:Nat) (u:Value) (x:BV),a[i]? =some u->d[i]? =some x->RelB θ D w u x)->
 ∃e,Instr.fill b a parts=some e/\e.size=(f.foldl (λcs q=>splice cs q.1 q.2.2.cells) d).length/\∀(i:Nat) (u:Value) (x:BV),e[i]? =some u->(f.foldl (λcs q=>splice cs q.1 q.2.2.cells) d)[i]? =some x->RelB θ D w u x
 |[],[],a,d,_,_,_,hs,hr=>⟨a,rfl,hs,hr⟩
 |(i,v)::parts,q::f,a,d,hl,hp,p,hs,hr=>by
  obtain⟨h1,h2⟩:=hp 0 _ _ rfl rfl;obtain⟨l,B,C⟩:=p q (by simp);obtain⟨E,F⟩:=oe h2 l;have n:v.cells.size=q.2.1:=by grind
  have r:=lS d q.1 q.2.2.cells (by omega);obtain⟨I,J⟩:=Jc q.1 v.cells a (by omega);obtain⟨e,y,z,A⟩:=Se b parts f (v.cells.zipIdx.foldl (λcs (c,j)=>cs.setIfInBounds (q.1+j) c) a) (splice d q.1 q.2.2.cells) (by grind) (λi x h s g=>hp (i+1) x h (by grind) (by grind)) (λh g=>by grind) (by omega) (λk u x H s=>by grind[ot]);grind[Instr.fill]
theorem I3(z:Array Value):∀(i:Nat) (u:Value) (x:BV),z[i]? =some u->(z.toList.map λv=>bG v)[i]? =some x->RelB θ D w u x:=by grind[xc]
theorem OG(J:Inv c θ D st a w){t:TypeId}{parts:Array (Nat×Operand)}{z:Value}{A:List (Nat×Nat×SX)}(R:o.op= .build t parts)(T:dR P t=some z)(d:partsOf P t parts.toList=some A) (h:jp P st (.build z.cells.toList A) K):Yields P o a w (sK c θ st a K):=by
 obtain⟨B,F,C,Q⟩:=h;obtain⟨q1,q2⟩:=mapM_some F;have H:=T;simp only[dR,e_]at H;have j:∀(e:Nat->Option (Nat×Nat)),(∀(i:Nat) (x:Nat×Operand) (s:Nat×Nat×SX),parts.toList[i]? =some x->A[i]? =some s->e x.1=some (s.1,s.2.1)/\s.2.2=SX.of x.2)->parts.toList.length=A.length->∃b,Instr.fill e z.cells (parts.map fun(i,x)=>(i,a.eval x)).toList=some b/\RelA θ D w (.agg b) (.agg (B.foldl (λcs q=>splice cs q.1 q.2.2.cells) (z.cells.toList.map λv=>bG v))):=by
  intro e y L
  obtain⟨b,n,p,N⟩:=Se (θ:=θ) (D:=D) (w:=w) e (parts.map fun(i,x)=>(i,a.eval x)).toList B z.cells (z.cells.toList.map λv=>bG v) (by grind) (λi x q k E=>by simp only[az_,i_]at k;cases u:parts.toList[i]? with|none=>grind|some pr=>rw[u]at k;simp at k;subst k;obtain⟨s,hs⟩:=bw (l:=A) (m:=B) q1 E;have:=q2 i s q hs E;simp only[d_]at this;obtain⟨av,r,rfl⟩:=this;obtain⟨Y,p2⟩:=y i pr s u hs;refine⟨Y,?_⟩;rw[p2]at r;exact J.get r) (λq E=>by grind) (by simp) (I3 z.cells)
  exact⟨b,n,b,rfl,p,N⟩
 have f:∃b,P.built t (parts.map fun(i,x)=>(i,a.eval x)).toList=some b/\RelA θ D w (.agg b) (.agg (B.foldl (λcs q=>splice cs q.1 q.2.2.cells) (z.cells.toList.map λv=>bG v))):=by
  unfold partsOf at d;split at d
  .simp only[e_]at d;obtain⟨g,y,d⟩:=d;obtain⟨I,U⟩:=mapM_some d;obtain⟨b,n,p⟩:=j (g.toArray[·]?) (λi x s k hs=>by grind) I
   grind[Program.built]
  .simp only[e_]at d;obtain⟨M,O,d⟩:=d;obtain⟨I,U⟩:=mapM_some d;obtain⟨b,n,p⟩:=j (λi=>some (i*M.size,M.size)) (λi x s k hs=>by grind) I
   grind[Program.built]
  grind
 obtain⟨b,n,p⟩:=f;refine aK J ?_ Q p;simp[execOp,R,run_build w t _ _ n]
end
section
variable {c:Ctx} {θ:List Loc} {D:Nat->Prop} {st:St} {a:Act} {w:World}
theorem jT(w:World)(o:Obj):Below w.heap.size w (w.alloc o):=(Below.refl _ _).alloc (m_ _) o
theorem Inv.Mi(E:Inv c θ D st a w){l:Loc}{o:aL}{ob:Obj}(hl:∀g,l.has g->g=w.heap.size)(J:∀θ',(∀(i:Nat) (l:Loc),θ[i]? =some l->θ'[i]? =some l)->cG θ' D (w.alloc ob) l o): Inv c (θ++[l]) D {st with hp:=st.hp++[o]} a (w.alloc ob):=by refine(E.below (jT w ob) E.CU (λ_ h=>h) (λ_ h=>.inl h)).push (J _ λi l' H=>get_append H) λg hg=>?_;cases hl g hg;refine⟨E.CU,by simp,λhd=>by have:=E.ok.pO _ hd;omega,λi li H I=>?_⟩;have:=(E.ok.nj i li _ H I).1;omega
theorem Inv.Yg(H:Inv c θ D st a w){pl:Option Nat}(E:yY st pl){l:Loc}{o:aL}(J:∀θ',(∀(i:Nat) (l:Loc),θ[i]? =some l->l≠.no->θ'[i]? =some l)->cG θ' D w l o) (hl:∀g,l.has g->c.w0.heap.size<=g/\g<w.heap.size/\¬D g/\∀(i:Nat) (li:Loc),θ[i]? =some li->¬li.has g):∃θ',Inv c θ' D (st.new pl o) a w/\θ'[st.Zq pl]? =some l:=by cases pl with|none=>exact⟨θ++[l],H.push (J _ λi l' I _=>get_append I) hl,by simp[St.Zq,<-H.ok.len]⟩|some s=>have N:=H.Sg E;refine⟨θ.set s l,H.fill E (J _ λi l' I hn=>?_) hl,by grind[St.Zq]⟩;grind
theorem Inv.qZ(E:Inv c θ D st a w){pl:Option Nat}(H:yY st pl){l:Loc}{o:aL}{ob:Obj}(hl:∀g,l.has g->g=w.heap.size)(N:∀θ',(∀(i:Nat) (l:Loc),θ[i]? =some l->l≠.no->θ'[i]? =some l)->cG θ' D (w.alloc ob) l o): ∃θ',Inv c θ' D (st.new pl o) a (w.alloc ob)/\θ'[st.Zq pl]? =some l:=by refine(E.below (jT w ob) E.CU (λ_ h=>h) (λ_ h=>.inl h)).Yg H N λg hg=>?_;cases hl g hg;refine⟨E.CU,by simp,λhd=>by have:=E.ok.pO _ hd;omega,λi li J I=>?_⟩;have:=(E.ok.nj i li _ J I).1;omega
theorem Inv.store(E:Inv c θ D st a w){id g:Nat}{l:Loc}{o':aL}{w':World}(hid:θ[id]? =some l)(hl:l.has g)(el:w'.os=w.os)(ht:w'.tape=w.tape)(Y:w'.output=w.output)(hsz:w'.heap.size=w.heap.size) (H:∀k,k≠g->w'.heap[k]? =w.heap[k]?) (ho:cG θ D w' l o'):Inv c θ D {st with hp:=st.hp.set id o'} a w':=by
 have J:∀b,D b->w'.heap[b]? =w.heap[b]? :=λb hb=>H b λe=>(E.ok.nj id l g hid hl).2 (e▸hb);refine⟨E.size,E.defers,⟨by simp[E.ok.len],λb hb=>by rw[hsz];exact E.ok.pO b hb,E.ok.inj,λi li gi hi I=>by rw[hsz];exact E.ok.nj i li gi hi I,λi li oi hi U=>?_⟩,⟨el.trans E.keep.os,ht.trans E.keep.tape,Y.trans E.keep.output,by rw[hsz];exact E.keep.size,λk hk hn=>(H k λe=>?_).trans (E.keep.block k hk hn)⟩,E.lW,E.nD,E.j4,λk x hk=>(E.fr k x hk).mono (λ_ h=>h) J,E.fix⟩
 .by_cases N:i=id;.grind
  .rw[A_ (Ne.symm N)]at U;refine(E.ok.fQ i li oi hi U).mono (λ_ h=>h) J λgi I=>H gi λe=>N ?_;subst e;exact E.ok.inj i id li l gi hi hid I hl
 .subst e;rcases E.j4 id l k hid hl with h1|h1;all_goals grind
theorem mc(f:AV->AV):∀(fr:List (Nat×AV)) (k:Nat),look (fr.map λx=>(x.1,f x.2)) k=(look fr k).map f
 |[],_=>rfl
 |(j,x)::fr,k=>by
  simp only[aO_,look];split;.rfl
  .exact mc f fr k
theorem RelB.kill{θ:List Loc}{D:Nat->Prop}{w:World}{v:Value}{x:BV}{id:Nat}{l l':Loc}(hid:θ[id]? =some l)(U:∀g,l≠.ek g)(Y:∀g,l≠.mp g)(h:RelB θ D w v x):RelB (θ.set id l') D w v (x.kill id):=by
 have E:∀(k:Nat),k≠id->(θ.set id l')[k]? =θ[k]? :=λk H=>A_ (Ne.symm H);cases x with
 |pv p=>exact h|oZ=>exact h|sl k=>
  simp only[BV.kill];split;.exact aX.any v
  .rename_i H;obtain⟨lk,h1,h2⟩:=h;exact⟨lk,(E k H).trans h1,h2⟩
 |ptr k off=>obtain⟨g,h1,h2⟩:=h;refine⟨g,(E k λe=>?_).trans h1,h2⟩;grind
 |jb k i off=>
  simp only[BV.kill];split;.exact aX.any v
  .rename_i H;obtain⟨g,n,cap,sz,O,h1,h2⟩:=h;exact⟨g,n,cap,sz,O,(E k H).trans h1,h2⟩
 |kj f ids=>obtain⟨I,h1,h2,J⟩:=h;refine⟨I,h1,λj k g N hg=>(E k λe=>?_).trans (h2 j k g N hg),J⟩;grind
 |mp k=>obtain⟨g,h1,h2⟩:=h;refine⟨g,(E k λe=>?_).trans h1,h2⟩;grind
 |full p=>exact h|LD=>exact h
theorem RelA.kill{θ:List Loc}{D:Nat->Prop}{w:World}{v:Value}{x:AV}{id:Nat}{l l':Loc}(hid:θ[id]? =some l)(H:∀g,l≠.ek g)(I:∀g,l≠.mp g)(h:RelA θ D w v x):RelA (θ.set id l') D w v (x.kill id):=by
 cases x with
 |b x=>exact RelB.kill hid H I h|agg xs=>obtain⟨vs,rfl,h1,h2⟩:=h;refine⟨vs,rfl,by grind,λi u x N J=>?_⟩;rw[i_]at J;cases E:xs[i]? with|none=>grind|some y=>rw[E]at J;cases J;exact(h2 i u y N E).kill hid H I
 |dC xs=>obtain⟨vs,rfl,h1,h2⟩:=h;refine⟨vs,rfl,by grind,λi u x N J=>?_⟩;rw[i_]at J;cases E:xs[i]? with|none=>grind|some y=>rw[E]at J;cases J;exact(h2 i u y N E).kill hid H I
theorem nn{θ θ':List Loc}{D D':Nat->Prop}{w:World}{f:BV->BV}{hole:Option (Nat×Nat×BV)}(I:∀u i j b,hole=some (i,j,b)->RelB θ D w u b->RelB θ' D' w u (f b))(hD:∀b,D b->D' b){g n cap s:Nat}{O:Nat->Prop}{e:TypeId}{sz:Nat}{k:Av.K}{xs:List PV} (h:cG θ D w (.nP g n cap s O) (.tree e sz k xs hole)):cG θ' D' w (.nP g n cap s O) (.tree e sz k xs (KX f hole)):=by
 obtain⟨h1,h2,z,A,B,c,Os,C,E,F,H,v,d⟩:=h;refine⟨h1,h2,z,A,B,c,Os,C,E,F,H,λi j b p=>?_,λi j x y J L=>?_⟩;.cases hole with|none=>cases p|some q=>obtain⟨i',M,b'⟩:=q;cases p;grind
 .obtain⟨u,r,a⟩:=d i j x y J L;refine⟨u,r,?_⟩;have:dA (KX f hole) i j=(dA hole i j).map f:=by cases hole with|none=>rfl|some q=>simp[KX,dA]
  rw[this];cases l:dA hole i j with|none=>rw[l]at a;exact a.mono hD (λ_ _=>rfl) λ_ _=>rfl|some b=>rw[l]at a;exact I u i j b (pq l) a
theorem cG.kill{θ:List Loc}{D:Nat->Prop}{w:World}{lo:Loc}{o:aL}{id:Nat}{l l':Loc}(hid:θ[id]? =some l)(E:∀g,l≠.ek g)(H:∀g,l≠.mp g)(h:cG θ D w lo o):cG (θ.set id l') D w lo (o.kill id):=by
 cases lo<;>cases o<;>simp only[cG]at h⊢<;>try exact h
 case nil.tree=>exact⟨h.1,by rw[h.2];rfl⟩
 case nP.tree g n cap s O e sz kk xs hole=>exact nn (λu i j b _ h=>h.kill hid E H) (λ_ h=>h) h
 obtain⟨N,h1,h2,U⟩:=h;refine⟨N,h1,by grind,λi u x Y J=>?_⟩;rw[i_]at J;rename_i cs;cases I:cs[i]? with|none=>grind|some y=>rw[I]at J;cases J;exact(U i u y Y I).kill hid E H
theorem Inv.move(E:Inv c θ D st a w){id:Nat}{l l':Loc}{o':aL}{w':World}(hid:θ[id]? =some l)(ph:∀g,l≠.ek g)(qr:∀g,l≠.mp g)(CD:w'.os=w.os)(ht:w'.tape=w.tape)(ur:w'.output=w.output)(hsz:w.heap.size<=w'.heap.size) (I:∀k,k<w.heap.size->¬l.has k->w'.heap[k]? =w.heap[k]?) (N:∀g,l'.has g->g<w'.heap.size/\(l.has g\/w.heap.size<=g)) (ho:cG (θ.set id l') D w' l' o'): Inv c (θ.set id l') D (st.fC id o') a w':=by
 show Inv c (θ.set id l') D {(st.kill id)with hp:=(st.kill id).hp.set id o'} a w';have el:∀b,D b->w'.heap[b]? =w.heap[b]? :=λb hb=>I b (E.ok.pO b hb) λe=>(E.ok.nj id l b hid e).2 hb;have H:∀(i:Nat) (li:Loc),(θ.set id l')[i]? =some li->(i=id/\li=l')\/(i≠id/\θ[i]? =some li):=λi li J=>by grind
 have At:∀(i:Nat) (li:Loc) (g:Nat),i≠id->θ[i]? =some li->li.has g->¬l'.has g:=λi li g BT J hg e=>by
  rcases(N g e).2 with h1|h1;.exact BT (E.ok.inj i id li l g J hid hg h1)
  .have:=(E.ok.nj i li g J hg).1;omega
 refine⟨E.size,E.defers,⟨by simp[St.kill,E.ok.len],λb hb=>s_ (E.ok.pO b hb) hsz,λi j li lj g J hj Bk Bx=>?_,λi li g J hg=>?_,λi li oi J U=>?_⟩,⟨CD.trans E.keep.os,ht.trans E.keep.tape,ur.trans E.keep.output,E_ E.keep.size hsz,λk Y hn=>(I k (s_ Y E.keep.size) λe=>?_).trans (E.keep.block k Y hn)⟩,E.lW,E.nD,λi li g J hg=>?_,λk x Y=>?_,λk lk Y hf=>?_⟩
 .rcases H i li J with⟨rfl,rfl⟩|⟨h1,h2⟩<;>rcases H j lj hj with⟨rfl,rfl⟩|⟨h3,h4⟩;.rfl
  .grind
  .grind
  .exact E.ok.inj i j li lj g h2 h4 Bk Bx
 .rcases H i li J with⟨rfl,rfl⟩|⟨h1,h2⟩
  .refine⟨(N g hg).1,λhd=>?_⟩;rcases(N g hg).2 with h3|h3;.exact(E.ok.nj i l g hid h3).2 hd
   grind
  .exact⟨s_ (E.ok.nj i li g h2 hg).1 hsz,(E.ok.nj i li g h2 hg).2⟩
 .rcases H i li J with⟨rfl,rfl⟩|⟨h1,h2⟩;.grind
  .rw[A_ (Ne.symm h1)]at U;simp only[St.kill,i_]at U;cases wr:st.hp[i]? with|none=>grind|some ob=>rw[wr]at U;cases U;exact((E.ok.fQ i li ob h2 wr).kill hid ph qr).mono (λ_ h=>h) el λg hg=>I g (E.ok.nj i li g h2 hg).1 λe=>h1 (E.ok.inj i id li l g h2 hid hg e)
 .rcases E.j4 id l k hid e with h1|h1;all_goals grind
 .rcases H i li J with⟨rfl,rfl⟩|⟨h1,h2⟩
  .rcases(N g hg).2 with h3|h3;.exact E.j4 i l g hid h3
   .exact .inr (E_ E.keep.size h3)
  .exact E.j4 i li g h2 hg
 .simp only[St.kill,mc]at Y;cases gc:look st.fr k with|none=>grind|some y=>rw[gc]at Y;cases Y;exact((E.fr k y gc).kill hid ph qr).mono (λ_ h=>h) el
 .have h1:=E.fix k lk Y hf;by_cases CT:k=id;.cases l<;>simp[Loc.fixed]at hf;all_goals grind
  grind
end
section
variable {D D':Nat->Prop} {w w':World}
theorem RelB.eM{θ θ2:List Loc}{ρ:Nat->Nat}{v:Value}{x:BV}(E:∀k l,k∈x.ids->θ[k]? =some l->θ2[ρ k]? =some l)(h:RelB θ D w v x):RelB θ2 D w v (x.eM ρ):=by
 cases x<;>simp only[RelB,BV.eM,BV.ids]at h E⊢;.omega
 .omega
 .grind
 .grind
 .grind
 .grind
 all_goals grind
theorem tO{xs:List BV}{x:BV}{k:Nat}{i:Nat}(b:xs[i]? =some x)(a:k∈x.ids):k∈xs.flatMap BV.ids:=by grind
theorem uO{θ θ2:List Loc}{D2:Nat->Prop}{w2:World}{vs:Array Value}{xs:List BV}{g:BV->BV}(h1:vs.size=xs.length)(h2:∀(i:Nat) (u:Value) (x:BV),vs[i]? =some u->xs[i]? =some x->RelB θ D w u x) (hg:∀(i:Nat) (u:Value) (x:BV),xs[i]? =some x->RelB θ D w u x->RelB θ2 D2 w2 u (g x)):vs.size=(xs.map g).length/\∀(i:Nat) (u:Value) (x:BV),vs[i]? =some u->(xs.map g)[i]? =some x->RelB θ2 D2 w2 u x:=by grind
theorem RelA.eM{θ θ2:List Loc}{ρ:Nat->Nat}{v:Value}{x:AV}(E:∀k l,k∈x.ids->θ[k]? =some l->θ2[ρ k]? =some l)(h:RelA θ D w v x):RelA θ2 D w v (x.eM ρ):=by
 cases x with
 |b x=>exact RelB.eM E h|agg xs=>obtain⟨vs,rfl,h1,h2⟩:=h;obtain⟨H,I⟩:=uO h1 h2 λi u x N hr=>hr.eM λk l J hl=>E k l (tO N J) hl;exact⟨vs,rfl,H,I⟩
 |dC xs=>obtain⟨vs,rfl,h1,h2⟩:=h;obtain⟨H,I⟩:=uO h1 h2 λi u x N hr=>hr.eM λk l J hl=>E k l (tO N J) hl;exact⟨vs,rfl,H,I⟩
theorem cG.eM{θ θ2:List Loc}{ρ:Nat->Nat}{l:Loc}{o:aL}(E:∀k l,k∈o.ids->θ[k]? =some l->θ2[ρ k]? =some l)(h:cG θ D w l o):cG θ2 D w l (o.eM ρ):=by
 cases l<;>cases o<;>simp only[cG,aL.eM]at h⊢<;>try exact h
 case nil.tree=>exact⟨h.1,by rw[h.2];rfl⟩
 case nP.tree hole=>exact nn (λu i j b J hr=>hr.eM λk l H hl=>E k l (by rw[J];exact H) hl) (λ_ h=>h) h
 obtain⟨U,h1,h2,I⟩:=h;obtain⟨Y,h5⟩:=uO h2 I λi u x N hr=>hr.eM λk l H hl=>E k l (tO N H) hl;grind
theorem RelB.cA{θ θ2:List Loc}{B:List Nat}{v:Value}{x:BV}(h1:∀(k:Nat) (l:Loc),k∉B->θ[k]? =some l->θ2[k]? =some l)(h2:∀(k:Nat) (l:Loc),l.fixed=true->θ[k]? =some l->θ2[k]? =some l) (h:RelB θ D w v x):RelB θ2 D w v (x.cA B):=by
 cases x with
 |pv p=>exact h|oZ=>exact h|sl k=>
  by_cases I:k∈B
  .have:(BV.sl k).cA B= .pv .any:=by grind[BV.cA]
   rw[this];exact aX.any v
  .have:(BV.sl k).cA B= .sl k:=by grind[BV.cA]
   rw[this];obtain⟨l,E,H⟩:=h;exact⟨l,h1 _ _ I E,H⟩
 |ptr k off=>obtain⟨g,E,H⟩:=h;exact⟨g,h2 _ _ rfl E,H⟩
 |jb k i off=>
  by_cases I:k∈B
  .have:(BV.jb k i off).cA B= .pv .any:=by grind[BV.cA]
   rw[this];exact aX.any v
  .have:(BV.jb k i off).cA B= .jb k i off:=by grind[BV.cA]
   rw[this];obtain⟨g,n,cap,sz,O,E,H⟩:=h;exact⟨g,n,cap,sz,O,h1 _ _ I E,H⟩
 |kj f ids=>obtain⟨U,E,H,J⟩:=h;exact⟨U,E,λk id g N f2=>h2 _ _ rfl (H k id g N f2),J⟩
 |mp k=>obtain⟨g,E,H⟩:=h;exact⟨g,h2 _ _ rfl E,H⟩
 |full p=>exact h|LD=>exact h
theorem RelA.cA{θ θ2:List Loc}{B:List Nat}{v:Value}{x:AV}(h1:∀(k:Nat) (l:Loc),k∉B->θ[k]? =some l->θ2[k]? =some l)(h2:∀(k:Nat) (l:Loc),l.fixed=true->θ[k]? =some l->θ2[k]? =some l) (h:RelA θ D w v x):RelA θ2 D w v (x.cA B):=by
 cases x with
 |b x=>exact RelB.cA h1 h2 h|agg xs=>obtain⟨vs,rfl,E,H⟩:=h;obtain⟨I,J⟩:=uO E H λi u x N hr=>hr.cA h1 h2;exact⟨vs,rfl,I,J⟩
 |dC xs=>obtain⟨vs,rfl,E,H⟩:=h;obtain⟨I,J⟩:=uO E H λi u x N hr=>hr.cA h1 h2;exact⟨vs,rfl,I,J⟩
theorem cG.cA{θ θ2:List Loc}{B:List Nat}{l:Loc}{o:aL}(h1:∀(k:Nat) (l:Loc),k∉B->θ[k]? =some l->θ2[k]? =some l)(h2:∀(k:Nat) (l:Loc),l.fixed=true->θ[k]? =some l->θ2[k]? =some l) (h:cG θ D w l o):cG θ2 D w l (o.cA B):=by
 cases l<;>cases o<;>simp only[cG,aL.cA]at h⊢<;>try exact h
 case nil.tree=>exact⟨h.1,by rw[h.2];rfl⟩
 case nP.tree hole=>exact nn (λu i j b Y hr=>hr.cA h1 h2) (λ_ h=>h) h
 obtain⟨I,J,E,H⟩:=h;obtain⟨N,U⟩:=uO E H λi u x hx hr=>hr.cA h1 h2;grind
theorem RelB.mJ{θ:List Loc}{v:Value}{x:BV}(E:x.s6)(h:RelB θ D w v x):RelB θ D' w' v x:=by cases x<;>simp only[RelB]at h E⊢<;>first|exact h.flat E|omega|exact E.elim
theorem RelA.zbE{θ:List Loc}{v:Value}{x:AV}(H:x.s5)(h:RelA θ D w v x):RelA θ D' w' v x:=by
 cases x with
 |b x=>exact RelB.mJ H h|agg xs=>obtain⟨vs,J,h1,h2⟩:=h;exact⟨vs,J,h1,λi u x I E=>(h2 i u x I E).mJ (H x (a_ E))⟩
 |dC xs=>obtain⟨vs,J,h1,h2⟩:=h;exact⟨vs,J,h1,λi u x I E=>(h2 i u x I E).mJ (H x (a_ E))⟩
theorem kN.WW{q:Option (TypeId×Nat×Av.K)}{O:Nat->Prop}{v:Value}{p:PV}(h:kN D w q O v p):H9 q p->kN D' w q O v p:=by
 induction h with
 |flat O v p h=>intro E;cases E with|flat _ hp=>exact .flat O v p (h.flat hp)
 |nil q O a=>intro _;exact .nil q O a|nP e sz k O g cap xs p cs val Os hp hcap hmax hsz hg hcs I hOs hdj hc _ Y=>intro E;cases E with|sl _ _ _ _ H J E=>have:H=xs:=Sz (J.symm.trans hp);subst this;exact .nP e sz k O g cap H p cs val Os hp hcap hmax hsz hg hcs I hOs hdj hc λi j x y N U=>Y i j x y N U (E i j x y N U)
theorem cG.zdL{θ:List Loc}{l:Loc}{o:aL}(I:o.se)(h:cG θ D w l o):cG θ D' w l o:=by
 cases l<;>cases o<;>simp only[cG]at h I⊢<;>try exact h
 .obtain⟨cv,h1,h2,E⟩:=h;exact⟨cv,h1,h2,λi u x hu H=>(E i u x hu H).mJ (I x (a_ H))⟩
 .obtain⟨h1,h2,E,h4,h5,c,h6,h7,h8⟩:=h;exact⟨h1,h2,E,h4,h5,c,h6,h7,λi j x y H N=>let⟨u,e1,J⟩:=h8 i j x y H N;⟨u,e1,J.flat (I x (a_ H) y (a_ N))⟩⟩
 .obtain⟨h1,h2,E,h4,h5,c,Os,h6,h7,h8,h9,gc,el⟩:=h;refine⟨h1,h2,E,h4,h5,c,Os,h6,h7,h8,h9,gc,λi j x y H N=>?_⟩;obtain⟨u,e1,J⟩:=el i j x y H N;refine⟨u,e1,?_⟩;rename_i hole;cases hq:dA hole i j with|none=>rw[hq]at J;exact J.WW (I.2 i j x y H N)|some b=>rw[hq]at J;exact J.mJ (I.1 i j b (pq hq))
 .obtain⟨es,ck,h1,h2,E⟩:=h;exact⟨es,ck,h1,h2,λi en Y he U=>⟨(E i en Y he U).1.flat (I Y (a_ U)).1,(E i en Y he U).2.flat (I Y (a_ U)).2⟩⟩
end
section
variable {P:Program} {o:Oper} {c:Ctx} {θ:List Loc} {D:Nat->Prop} {st:St} {a:Act} {w:World}
theorem eD(w:World)(o:Obj)(k:Nat)(h:k<w.heap.size):(w.alloc o).heap[k]? =w.heap[k]? :=Below.heap_alloc w o k h
theorem eS(w:World)(o:Obj):(w.alloc o).heap[w.heap.size]? =some o:=by show(w.heap.push o)[w.heap.size]? =_;simp
def Leaves(P:Program)(o:Oper)(c:Ctx)(K KP:St->Prop)(a:Act)(w:World):Prop:=
 ∀(next:Act->World->Prop) (Q:Exit->Act->World->Prop),(∀d w',(∃b,K b/\oK c b d w')->next d w')->(∀e w',(qU e/\∃b,KP b/\oK c b a w')->Q (.panic e) a w')->o.wp P a w next Q
theorem AJ{K KP:St->Prop}{b:AV->Prop}(hd:∀k,o.dst=some k->k<c.n)(h:Yields P o a w (sK c θ st a b))(e:∀x,b x->K (st.aE o.dst x)):Leaves P o c K KP a w:=λ_ _ hn _=>h.wp λ_ _ ⟨x,D',g,d,f⟩=>hn _ _ ⟨_,e x g,θ,D',d.put hd f⟩
theorem DI{hp:List aL}{x:BV}{p:PV}(h:su hp false x=some p):x.bF=some p:=by unfold su at h;grind
theorem Mo{hp:List aL}{x:AV}{p:PV}(h:je hp false x=some p):x.bF=some p:=by
 cases x with
 |b x=>exact DI h|agg xs=>
  simp only[je,AV.bF,d_]at h⊢;have:∀(l:List BV) (c:List PV),l.mapM (su hp false)=some c->l.mapM BV.bF=some c:=by intro l;induction l with|nil=>simp|cons x l d=>intro c h;rw[af_]at h⊢;simp only[as_,aI_,e_,B_]at h⊢;obtain⟨a,h1,m,h2,rfl⟩:=h;exact⟨a,DI h1,m,d _ h2,rfl⟩
  grind
 |dC xs=>exact h
theorem Ot(e:Inv c θ D st a w){D':Nat->Prop}(hD:∀b,D b->D' b){bor:Bool}{v:Value}{x:BV}{p:PV}(hO:bor=true->∀id l,id∈x.ids->θ[id]? =some l->∀b,l.has b->D' b)(d:RelB θ D w v x)(h:su st.hp bor x=some p):aX D' w v p:=by
 unfold su at h;split at h
 .rename_i id;cases bor;.grind
  .obtain⟨l,h1,h2⟩:=Tl e.ok d h;exact h2 D' hD (hO rfl id l (by simp[BV.ids]) h1)
 .exact(lH d h).mono hD (λ_ _=>rfl)
theorem I4(f:Inv c θ D st a w){D':Nat->Prop}(hD:∀b,D b->D' b){bor:Bool}{v:Value}{x:AV}{p:PV}(hO:bor=true->∀id l,id∈x.ids->θ[id]? =some l->∀b,l.has b->D' b)(d:RelA θ D w v x)(h:je st.hp bor x=some p):aX D' w v p:=by
 cases x with
 |b x=>exact Ot f hD hO d h|agg xs=>simp only[je,d_]at h;obtain⟨y,h1,rfl⟩:=h;obtain⟨vs,rfl,h2,g⟩:=d;obtain⟨j,k⟩:=mapM_some h1;refine aX.agg _ _ (by omega) λi u p s hp=>?_;obtain⟨x,e⟩:=bw j hp;exact Ot f hD (λn id l r=>hO n id l (Z_.2 ⟨x,a_ e,r⟩)) (g i u x s e) (k i x p e hp)
 |dC xs=>exact(cQ d h).mono hD (λ_ _=>rfl)
theorem Tf(d:Inv c θ D st a w){bor:Bool}{v:Value}{x:AV}{p:PV}(f:RelA θ D w v x)(h:je st.hp bor x=some p):aX (if bor then λb=>b<w.heap.size else D) w v p:=by
 cases bor;.grind[cQ,Mo]
 .exact I4 d (λb e=>d.ok.pO b e) (λ_ id l _ hl b e=>(d.ok.nj id l b hl e).1) f h
theorem zc{f:FuncId}(c:ez P f=true)(args:Array Value):(callFunc f args).run P w= .ok (.enter f args) w:=by unfold ez at c;cases a:P.funcs[f]? with|none=>grind|some fn=>rw[a]at c;simp only[F_,bne_iff_ne]at c;obtain⟨h1,h2⟩:=c;cases d:fn.body with|none=>grind|some b=>simp[callFunc,a,h2,d]
theorem Oy{f:FuncId}{cl:Call}(e:o.op= .call cl)(c:cl.callee= .value (.func f))(d:ez P f=true):(execOp a.eval o).run P w= .ok (.enter f (cl.args.toList.map a.eval).toArray) w:=by
 have b:(cl.args.map a.eval)=(cl.args.toList.map a.eval).toArray:=by grind
 rw[<-b];simp[execOp,e,resolve,c,Act.eval,Deferred.ofValue,invoke,zc d]
theorem I8{f:FuncId}{cl:Call}{t:Tmp}{cs:Array Value}(e:o.op= .call cl)(c:cl.callee= .value (.tmp t))(g:a.eval (.tmp t)= .func (.func f) #[] cs)(d:ez P f=true):(execOp a.eval o).run P w= .ok (.enter f (cl.args.toList.map a.eval++cs.toList).toArray) w:=by
 have b:(cl.args.map a.eval)++cs=(cl.args.toList.map a.eval++cs.toList).toArray:=by simp
 grind[execOp,resolve,Deferred.ofValue,invoke,zc]
theorem DY(s:Inv c θ D st a w)(hd:∀k,o.dst=some k->k<c.n){K KP:St->Prop}{bor:Bool}{f:FuncId}{vs:List Value}{M:List PV}(F:(execOp a.eval o).run P w= .ok (.enter f vs.toArray) w)(m1:vs.length=M.length) (C:∀(i:Nat) (v:Value) (x:AV),vs[i]? =some v->(M.map AV.p)[i]? =some x->RelA [] (if bor then λb=>b<w.heap.size else D) w v x) (hc:eG P f (M.map .p) [] λo'=>∃r z,o'=some (r,z)/\r.ids=[]/\(bor=true->r.s5)/\K (st.aE o.dst r)):Leaves P o c K KP a w:=by
 intro next Q hn _;unfold Oper.wp;rw[F];have A:∀b,(if bor then λb=>b<w.heap.size else D) b->b<w.heap.size:=λb n=>by
  cases bor;.exact s.ok.pO b n
  grind
 have J:∀b,¬owns [] b:=λb ⟨i,l,I,_⟩=>by grind
 refine(hc w [] (if bor then λb=>b<w.heap.size else D) vs ((c.gk w s.keep).mono (nv.refl (λ_=>False) w) (λ_ _ h=>h) (λb n=>by
  cases bor;.exact s.lW b n
  .exact s.ok.pO b (s.lW b n))) ⟨rfl,A,λi j li lj g I=>by simp,λi l g I=>by grind,λi l o I=>by simp⟩ (by grind) C).mono λe w' n=>?_
 rcases n with⟨v,r,z,θ',D',rfl,⟨r',O,hr,N,u,T⟩,Y,L,d,hD,R,_,_,_⟩|⟨ch,_,rfl,⟨p,z,hr,_⟩,_⟩
 .cases hr;have H:=s.below (D':=λb=>D b\/(D' b/\w.heap.size<=b)) ⟨d.os,d.tape,d.output,d.size,λk B=>d.block k B (J k)⟩ s.CU (λb n=>.inl n) (λb n=>n.imp id λh=>⟨h.2,L.pO b h.1⟩);refine hn _ _ ⟨_,T,θ,_,H.put hd ?_⟩;have y:=Y.eM (θ2:=θ) (ρ:=id) λk l B=>by grind
  have E:r.eM id=r:=by
   have n:∀x:BV,x.eM id=x:=λx=>by cases x<;>simp[BV.eM]
   have U:∀xs:List BV,xs.map (BV.eM id)=xs:=λxs=>by rw[List.map_congr_left λx _=>n x];simp
   cases r<;>simp[AV.eM,n,U]
  rw[E]at y;cases bor;.refine y.mono (λb n=>?_) (λ_ _=>rfl);grind
  .exact y.zbE (u rfl)
 grind
theorem QY(d:Inv c θ D st a w)(hd:∀k,o.dst=some k->k<c.n){K KP:St->Prop}{bor:Bool}{f:FuncId}{cl:Call}(n:o.op= .call cl)(e:cl.callee= .value (.func f))(l:ez P f=true) (h:jp P st (.call bor f (cl.args.toList.map SX.of)) λx=>K (st.aE o.dst x)):Leaves P o c K KP a w:=by obtain⟨u,g,hc⟩:=h;obtain⟨z,s⟩:=mapM_some g;refine DY d hd (Oy n e l) (by grind) (λi v x j hp=>?_) hc;rw[i_]at hp j;cases b:u[i]? with|none=>grind|some p=>rw[b]at hp;cases hp;cases r:cl.args.toList[i]? with|none=>grind|some x=>rw[r]at j;cases j;have:=s i (SX.of x) p (by grind) b;simp only[e_]at this;obtain⟨y,h1,h2⟩:=this;exact Tf d (d.get h1) h2
theorem OI(e:Inv c θ D st a w)(hd:∀k,o.dst=some k->k<c.n){K KP:St->Prop}{bor:Bool}{t:Tmp}{cl:Call}(B:o.op= .call cl)(g:cl.callee= .value (.tmp t)) (h:jp P st (.im bor (.tm t) (cl.args.toList.map SX.of)) λx=>K (st.aE o.dst x)):Leaves P o c K KP a w:=by
 obtain⟨I,E,f,cs,rfl,z,s,n,hc⟩:=h;obtain⟨M,F⟩:=mapM_some n;have r:aX D w (a.eval (.tmp t)) (.fn (.func f) cs):=e.get (x:=.tmp t) E;have key:∃us:Array Value,a.eval (.tmp t)= .func (.func f) #[] us/\us.toList.length=cs.length/\∀(i:Nat) (v:Value) (x:PV),us.toList[i]? =some v->cs[i]? =some x->aX D w v x:=by generalize a.eval (.tmp t)=v at r;cases r with|fn _ us _ hs J=>grind
 obtain⟨us,C,hl,hr⟩:=key;have hD:∀b,D b->(if bor then λb=>b<w.heap.size else D) b:=λb u=>by
  cases bor;.grind
  .exact e.ok.pO b u
 have A:(cl.args.toList.map a.eval).length=s.length:=by grind
 refine DY e hd (I8 B g C z) (by grind) (λi v x d hp=>?_) hc;rw[i_]at hp;obtain⟨p,l,rfl⟩:=d_.1 hp;have hp:=l;rcases y_ i s.length with j|j;.rw[j_ (by omega)]at d;rw[j_ j]at hp;rw[i_]at d;obtain⟨y,L,rfl⟩:=d_.1 d;have:=F i (SX.of y) p (by grind) hp;simp only[e_]at this;obtain⟨H,h1,h2⟩:=this;exact Tf e (e.get h1) h2
 .rw[r_ (by omega)]at d;rw[r_ j]at hp;rw[A]at d;exact(hr _ v p d hp).mono hD (λ_ _=>rfl)
theorem Bz:∀{L:List PV} {l:List Int},bytesOf L=some l->L.length=l.length/\∀(i:Nat) (n:Int),l[i]? =some n->L[i]? =some (.sc (.int .u8 n))
 |[],l,h=>by grind[bytesOf]
 |p::L,l,h=>by
  unfold bytesOf at h;split at h;.grind
  .rename_i n L' a;cases a;simp only[d_]at h;obtain⟨l',h1,rfl⟩:=h;obtain⟨h2,b⟩:=Bz h1;grind
  grind
theorem Vl(p:Inv c θ D st a w){K:AV->Prop}{s d e:TypeId}{x:Operand}(F:o.op= .convert s d x)(hs:P.underlying s=some (.slice e))(hd:P.underlying d=some .string)(v:P.underlying e=some (.int .u8))(h:jp P st (.G3 (.of x)) K):Yields P o a w (sK c θ st a K):=by
 obtain⟨M,I,hl⟩:=h;obtain⟨L,z,cap,⟨l,r,E⟩,H,hcap,A,b⟩:=lG p.ok (p.get I) hl;obtain⟨j,f⟩:=Bz r;refine aK p ?_ E (aX.sc _);have n:(convert s d (a.eval x)).run P w= .ok (.string (strOfNums l)) w:=by
  rw[H];by_cases k:0<L.length
  .obtain⟨g,J,rfl,hg,hsz,hc⟩:=b k;refine run_convert_bytes_arg w s e hs v g J L.length cap l j.symm (λi O=>?_) d hd;have y:i<l.length:=by omega
   obtain⟨u,N,B⟩:=hc i 0 _ _ (f i _ (b_ y)) rfl;cases B;grind
  .have C:L=[]:=k_ (by omega);subst C;simp[bytesOf]at r;subst r;cases z with|none=>exact run_convert_bytes_nil w s e hs v 0 cap d hd|some z=>rw[run_convert_bytes_string w s d e _ _ cap hs v hd];rfl
 simp[execOp,F,n]
theorem NS(n:Inv c θ D st a w)(hd:∀k,o.dst=some k->k<c.n){K KP:St->Prop}{pl:Option Nat}{t:TypeId}{z:Value}(p:o.op= .alloc t)(j:dR P t=some z) (h:Gd st (.alloc t z.cells.toList) λob mk=>yY st pl/\K ((st.new pl ob).aE o.dst (.b (mk (st.Zq pl))))):Leaves P o c K KP a w:=by
 intro next Q hn _;obtain⟨f,h⟩:=h;obtain⟨θ',d,hid⟩:=n.qZ f (l:=.ek w.heap.size) (o:=.box t (z.cells.toList.map λv=>bG v)) (λ_ h=>h) λθ' r=>⟨z.cells,eS w _,by simp,I3 z.cells⟩;simp only[dR,e_]at j;obtain⟨s,e,g⟩:=j;have b:(execOp a.eval o).run P w= .ok (.value (.pointer (some ⟨w.heap.size,0,none⟩))) (w.alloc (.cells z.cells t)):=by simp[execOp,p,Instr.alloc,zeroValue,typeInfo,e,g,newVar,newRow]
 unfold Oper.wp;rw[b];exact hn _ _ ⟨_,h,_,_,d.put hd ⟨w.heap.size,hid,rfl⟩⟩
theorem OF(b:Inv c θ D st a w)(hd:∀k,o.dst=some k->k<c.n){K KP:St->Prop}{t:TypeId}{z:Value}(d:o.op= .alloc t)(e:dR P t=some z)(h:cH P o.dst (.alloc t z.cells.toList) st K KP):Leaves P o c K KP a w:=NS b hd (pl:=none) d e ⟨trivial,h⟩
theorem Xx(e:Inv c θ D st a w)(hd:∀k,o.dst=some k->k<c.n){K KP:St->Prop}{pl:Option Nat}{t:TypeId}{x:Operand}(v:o.op= .box t x) (h:Gd st (.box t (.of x)) λob mk=>yY st pl/\K ((st.new pl ob).aE o.dst (.b (mk (st.Zq pl))))):Leaves P o c K KP a w:=by
 intro next Q hn _;obtain⟨p,A,g,j,s⟩:=h;obtain⟨h1,h2⟩:=oe (e.get A) g;obtain⟨θ',f,hid⟩:=e.qZ j (l:=.ek w.heap.size) (o:=.box t p.cells) (λ_ h=>h) λθ' n=>⟨(a.eval x).cells,eS w _,h1,λi u y z B=>((h2 i u y z B).1.mono (λ_ h=>h) (λb r=>eD w _ b (e.ok.pO b r))).Am n⟩;have d:(execOp a.eval o).run P w= .ok (.value (.pointer (some ⟨w.heap.size,0,none⟩))) (w.alloc (.cells (a.eval x).cells t)):=by simp[execOp,v,Instr.box,newVar,newRow]
 unfold Oper.wp;rw[d];exact hn _ _ ⟨_,s,_,_,f.put hd ⟨w.heap.size,hid,rfl⟩⟩
theorem Vm(e:Inv c θ D st a w)(hd:∀k,o.dst=some k->k<c.n){K KP:St->Prop}{t:TypeId}{x:Operand}(g:o.op= .box t x)(h:cH P o.dst (.box t (.of x)) st K KP):Leaves P o c K KP a w:=by obtain⟨d,j,b,f⟩:=h;exact Xx e hd (pl:=none) g ⟨d,j,b,trivial,f⟩
theorem Nh{sz:Nat}:∀(parts:List (Nat×Value)) (d:List PV) (s:Nat) (a:Array Value),parts.length=d.length->
 (∀(i:Nat) (x:Nat×Value) (p:PV),parts[i]? =some x->d[i]? =some p->x.1=s+i/\aX D w x.2 p/\p.ok=true/\p.cells.length=sz)->(s+parts.length)*sz<=a.size->
 ∃b,Instr.fill (λi=>some (i*sz,sz)) a parts=some b/\b.size=a.size/\(∀k,k<s*sz->b[k]? =a[k]?)/\∀(i j:Nat) (p y:PV),d[i]? =some p->p.cells[j]? =some y->∃u,b[(s+i)*sz+j]? =some u/\aX D w u y
 |[],[],s,a,_,_,_=>⟨a,rfl,rfl,λ_ _=>rfl,λi j p y hp=>by grind⟩
 |(k,v)::parts,p::d,s,a,hl,hp,hs=>by
  obtain⟨h1,h2,e,B⟩:=hp 0 _ _ rfl rfl;obtain rfl:k=s:=h1;obtain⟨C,E⟩:=oh h2 e;have l:v.cells.size=sz:=by grind
  have h:(k+1+parts.length)*sz<=a.size:=by simp only[G_]at hs;grind
  have f:k*sz+sz<=a.size:=by grind
  obtain⟨J,L⟩:=Jc (k*sz) v.cells a (by omega);obtain⟨b,n,r,z,A⟩:=Nh parts d (k+1) (v.cells.zipIdx.foldl (λcs (c,j)=>cs.setIfInBounds (k*sz+j) c) a) (by grind) (λi x q H g=>by have:=hp (i+1) x q (by grind) (by grind);exact⟨by omega,this.2⟩) (by grind);refine⟨b,?_,by grind,λj F=>?_,λi j q y g I=>?_⟩;.grind[Instr.fill]
  .grind
  .cases i with|zero=>grind|succ i=>grind
theorem xf(O:Inv c θ D st a w){f:AV->Option PV}(Q:∀v x p,RelA θ D w v x->f x=some p->aX D w v p){t e:TypeId}{len sz:Nat}{parts:Array (Nat×Operand)}{z:Value}{d:List PV}(J:o.op= .buildSlice t len parts)(he:fx P t=some e)(hs:bY P e=some sz)(hz:dR P e=some z) (h:pu parts.toList=true) (T:z.cells.size=sz) (C:(parts.toList.map λq=>SX.of q.2).mapM (λx=>(st.get x).bind f)=some d) (I:d.length=len) (h0:0<sz) (hmax:len*sz<=16777216) (s:∀p∈d,p.cells.length=sz/\p.ok=true): ∃b:Array Value,(execOp a.eval o).run P w= .ok (.value (.slice (some ⟨w.heap.size,0,none⟩) len len)) (w.alloc (.cells b e))/\b.size=len*sz/\∀(i j:Nat) (p y:PV),d[i]? =some p->p.cells[j]? =some y->∃u,b[i*sz+j]? =some u/\aX D w u y:=by
 obtain⟨m1,U⟩:=mapM_some C;have R:parts.size=d.length:=by grind
 have L:P.underlying t=some (.slice e):=by grind[fx]
 simp only[bY,d_]at hs;obtain⟨l,g,rfl⟩:=hs;have E:l.zero=some z:=by grind[dR]
 have H:∀(i:Nat) (x:Nat×Operand),parts.toList[i]? =some x->x.1=i:=by
  intro i x k;simp only[pu,beq_iff_eq]at h;have h1:(parts.toList.map (·.1))[i]? =some x.1:=by rw[i_,k];rfl
  grind
 obtain⟨b,F,e2,e3,e4⟩:=Nh (D:=D) (w:=w) (sz:=l.size) (parts.map fun(i,x)=>(i,a.eval x)).toList d 0 ((Array.range (len*l.size)).map (z.cells[·%z.cells.size]!)) (by grind) (λi x p k hp=>by simp only[az_,i_]at k;cases B:parts.toList[i]? with|none=>grind|some pr=>rw[B]at k;cases k;have:=U i (SX.of pr.2) p (by grind) hp;simp only[e_]at this;obtain⟨Y,h1,h2⟩:=this;obtain⟨M,N⟩:=s p (a_ hp);exact⟨by grind,Q _ _ _ (O.get h1) h2,N,M⟩) (by grind)
 refine⟨b,?_,by grind,λi j p y hp hy=>by grind⟩;have r:¬(16777216<len*l.size):=by omega
 by_cases n:len*l.size=0
 .have:len=0:=by grind[Nat.mul_eq_zero]
  subst this;have A:parts= #[]:=by grind
  subst A;have:b= #[]:=by grind
  subst this;simp[execOp,J,Instr.buildSlice,run_underlying L,sizeOf,typeInfo,g,Instr.fill,newRow,Array.range_zero']
 .simp[execOp,J,Instr.buildSlice,run_underlying L,sizeOf,typeInfo,g,r,n,zeroValue,E,newRow];simp at F;rw[F];simp
theorem Ll(B:Inv c θ D st a w)(hd:∀k,o.dst=some k->k<c.n){K KP:St->Prop}{t e:TypeId}{len sz:Nat}{parts:Array (Nat×Operand)}{z:Value}(J:o.op= .buildSlice t len parts)(I:fx P t=some e)(hs:bY P e=some sz)(N:dR P e=some z) (v:pu parts.toList=true) (E:z.cells.size=sz) (h:jp P st (.bI false e sz len (parts.toList.map λq=>SX.of q.2)) λx=>K (st.aE o.dst x)):Leaves P o c K KP a w:=by
 intro next Q hn _;obtain⟨O,C,f,H,hmax,s,r⟩:=h;obtain⟨d,A,h1,h2⟩:=xf B (λ_ _ _=>cQ) J I hs N v E C f H hmax s;have n:=B.below (D':=λb=>D b\/(w.heap.size<=b/\b<(w.alloc (.cells d e)).heap.size)) (jT w (.cells d e)) B.CU (λb l=>.inl l) (λb l=>l);unfold Oper.wp;rw[A];have g:aX (λb=>D b\/(w.heap.size<=b/\b<(w.alloc (.cells d e)).heap.size)) (w.alloc (.cells d e)) (.slice (some ⟨w.heap.size,0,none⟩) len len) (lB sz O):=by subst f;refine gA (m_ _) λhl=>⟨w.heap.size,0,rfl,.inr ⟨m_ _,by simp⟩,λp hp=>(s p hp).1,λi j x y L M=>?_⟩;obtain⟨u,R,F⟩:=h2 i j x y L M;refine⟨u,?_,F.mono (λb l=>.inl l) (λb l=>eD w _ b (B.ok.pO b l))⟩;rw[q_,cell_of_row _ _ _ d e (0,0) (eS w _)];omega
 rcases r with r|r;.exact hn _ _ ⟨_,r,θ,_,n.put hd g⟩
 .exact hn _ _ ⟨_,r,θ,_,n.put hd ⟨g,_,_,rfl⟩⟩
theorem HX(v:Inv c θ D st a w)(hd:∀k,o.dst=some k->k<c.n){K KP:St->Prop}{t e:TypeId}{len sz:Nat}{parts:Array (Nat×Operand)}{z:Value}(J:o.op= .buildSlice t len parts)(H:fx P t=some e)(hs:bY P e=some sz)(N:dR P e=some z) (n:pu parts.toList=true) (C:z.cells.size=sz) (h:jp P st (.eo e sz len (parts.toList.map λq=>SX.of q.2)) λx=>K (st.aE o.dst x)):Leaves P o c K KP a w:=by
 intro next Q hn _;obtain⟨O,B,f,F,hmax,l,I⟩:=h;obtain⟨d,s,h1,h2⟩:=xf v (λ_ _ _=>FV) J H hs N n C B f F hmax l;have A:=v.below (D':=λb=>D b\/(w.heap.size<=b/\b<(w.alloc (.cells d e)).heap.size)) (jT w (.cells d e)) v.CU (λb g=>.inl g) (λb g=>g);unfold Oper.wp;rw[s];have r:aX (λb=>D b\/(w.heap.size<=b/\b<(w.alloc (.cells d e)).heap.size)) (w.alloc (.cells d e)) (.slice (some ⟨w.heap.size,0,none⟩) len len) (lB sz O):=by subst f;refine gA (m_ _) λhl=>⟨w.heap.size,0,rfl,.inr ⟨m_ _,by simp⟩,λp hp=>(l p hp).1,λi j x y L M=>?_⟩;obtain⟨u,R,E⟩:=h2 i j x y L M;refine⟨u,?_,E.mono (λb g=>.inl g) (λb g=>eD w _ b (v.ok.pO b g))⟩;rw[q_,cell_of_row _ _ _ d e (0,0) (eS w _)];omega
 exact hn _ _ ⟨_,I,θ,_,A.put hd r⟩
theorem IR(s:Inv c θ D st a w)(hd:∀k,o.dst=some k->k<c.n){K KP:St->Prop}{t e:TypeId}{len sz:Nat}{parts:Array (Nat×Operand)}{z:Value}(O:o.op= .buildSlice t len parts)(M:fx P t=some e)(hs:bY P e=some sz)(U:dR P e=some z) (n:pu parts.toList=true) (E:z.cells.size=sz) {pl:Option Nat} (h:Gd st (.bI true e sz len (parts.toList.map λq=>SX.of q.2)) λob mk=>yY st pl/\K ((st.new pl ob).aE o.dst (.b (mk (st.Zq pl))))):Leaves P o c K KP a w:=by
 intro next Q hn _;obtain⟨f,C,d,H,hmax,g,B,N⟩:=h;obtain⟨F,r,h1,h2⟩:=xf s (λ_ _ _=>cQ) O M hs U n E C d H hmax g;subst d;have A:f.length<=maxLen:=by have:f.length<=f.length*sz:=D_ _ H;grind[maxLen]
 obtain⟨θ',v,hid⟩:=s.qZ B (l:=.nP w.heap.size f.length f.length sz none') (o:=.vec e sz f) (λ_ h=>h.elim id False.elim) λθ' Y=>⟨rfl,rfl,m_ _,A,λp hp=>(g p hp).1,F,eS w _,h1,λi j x y R T=>let⟨u,I,J⟩:=h2 i j x y R T;⟨u,I,J.mono (λ_ h=>h) (λb L=>eD w _ b (s.ok.pO b L))⟩⟩;unfold Oper.wp;rw[r];exact hn _ _ ⟨_,N,_,_,v.put hd ⟨_,hid,rfl⟩⟩
theorem HY(n:Inv c θ D st a w)(hd:∀k,o.dst=some k->k<c.n){K KP:St->Prop}{t e:TypeId}{len sz:Nat}{parts:Array (Nat×Operand)}{z:Value}(s:o.op= .buildSlice t len parts)(p:fx P t=some e)(hs:bY P e=some sz)(u:dR P e=some z) (d:pu parts.toList=true) (j:z.cells.size=sz) (h:cH P o.dst (.bI true e sz len (parts.toList.map λq=>SX.of q.2)) st K KP):Leaves P o c K KP a w:=by obtain⟨v,g,b,l,hmax,f,r⟩:=h;exact IR n hd s p hs u d j (pl:=none) ⟨v,g,b,l,hmax,f,trivial,r⟩
end
section
variable {P:Program} {o:Oper} {c:Ctx} {θ:List Loc} {D:Nat->Prop} {st:St} {a:Act} {w:World}
def dj(θ:List Loc)(B:List Nat):List Loc:=B.map λi=>θ.getD i .no
def l9(bor:Bool)(θ:List Loc)(B:List Nat)(D:Nat->Prop)(w:World):Nat->Prop:=if bor then λb=>b<w.heap.size/\¬owns (dj θ B) b else D
def gO(θ:List Loc)(B:List Nat)(θ':List Loc):List Loc:=(θ.mapIdx λi l=>if B.contains i then θ'.getD (B.idxOf i) .no else l)++θ'.drop B.length
theorem nS{B:List Nat}(a:∀i∈B,i<θ.length){k:Nat}{l:Loc}(h:(dj θ B)[k]? =some l):∃i,B[k]? =some i/\θ[i]? =some l:=by unfold dj at h;grind
theorem yk{B:List Nat}{i:Nat}(h:i∈B):B[B.idxOf i]? =some i:=by grind
theorem Fe{B:List Nat}{i:Nat}{l:Loc}(a:i∈B)(h:θ[i]? =some l):(dj θ B)[B.idxOf i]? =some l:=by unfold dj;grind
theorem Da(p:Inv c θ D st a w){bor:Bool}{B:List Nat}{os:List aL}(H:B.Nodup)(I:B.mapM (st.hp[·]?)=some os)(x:∀o∈os,∀i∈o.ids,i∈B): Ok (dj θ B) (l9 bor θ B D w) (os.map (aL.eM (B.idxOf ·))) w/\(∀b,D b->l9 bor θ B D w b)/\∀i∈B,i<θ.length:=by
 obtain⟨L,M⟩:=mapM_some I;have s:∀i∈B,i<θ.length:=λi v=>by obtain⟨k,n⟩:=p_ v;obtain⟨ob,h⟩:=bw (l:=os) (m:=B) L.symm n;have:=M k i ob n h;rw[p.ok.len];grind
 have d:∀b,D b->l9 bor θ B D w b:=λb u=>by
  unfold l9;cases bor;.grind
  .refine⟨p.ok.pO b u,fun⟨k,l,n,hl⟩=>?_⟩;obtain⟨i,_,v⟩:=nS s n;exact(p.ok.nj i l b v hl).2 u
 refine⟨⟨by simp[dj,L],λb u=>?_,λi j li Q g v N y z=>?_,λk l g n hg=>?_,λk l ob n h=>?_⟩,d,s⟩
 .unfold l9 at u;cases bor;.exact p.ok.pO b u
  grind
 .obtain⟨i',e,f⟩:=nS s v;obtain⟨O,A,C⟩:=nS s N;have:=p.ok.inj i' O li Q g f C y z;subst this;exact((ay_ (c_.1 e).1 H).1 (e.trans A.symm))
 .obtain⟨i,e,f⟩:=nS s n;obtain⟨h1,h2⟩:=p.ok.nj i l g f hg;refine⟨h1,λhd=>?_⟩;unfold l9 at hd;cases bor;.grind
  .exact hd.2 ⟨k,l,n,hg⟩
 .obtain⟨i,e,f⟩:=nS s n;rw[i_]at h;cases r:os[k]? with|none=>grind|some J=>rw[r]at h;cases h;have h1:=M k i J e r;refine((p.ok.fQ i l J f h1).eM λP l' E F=>Fe (x J (a_ r) P E) F).mono d (λ_ _=>rfl) (λ_ _=>rfl)
theorem s8{B:List Nat}{θ':List Loc}(e:∀i∈B,i<θ.length)(d:B.length<=θ'.length){i:Nat}{l:Loc}(h:(gO θ B θ')[i]? =some l):(i<θ.length/\i∉B/\θ[i]? =some l)\/(∃k,θ'[k]? =some l/\i=g9 B θ.length k/\((k<B.length/\B[k]? =some i)\/(B.length<=k/\θ.length<=i))):=by
 unfold gO at h;rcases y_ i θ.length with c|c
 .rw[j_ (by grind),List.getElem?_mapIdx,b_ c]at h;simp only[ab_,B_]at h;by_cases b:i∈B
  .rw[if_pos (by grind)]at h;have a:=ad_ b;refine .inr ⟨B.idxOf i,?_,?_,.inl ⟨a,yk b⟩⟩;.grind
   .simp only[g9,if_pos a,Q_,yk b,U_]
  grind
 .rw[r_ (by grind)]at h;simp only[ax_,aw_]at h;refine .inr ⟨B.length+(i - θ.length),h,?_,.inr ⟨by simp,c⟩⟩;simp only[g9];grind
theorem DO{B:List Nat}{θ':List Loc}(b:∀i∈B,i<θ.length)(a:B.Nodup){k:Nat}{l:Loc}(h:θ'[k]? =some l):(gO θ B θ')[g9 B θ.length k]? =some l:=by unfold gO g9;grind
theorem TQ{B:List Nat}{θ':List Loc}{k:Nat}{l:Loc}(a:k∉B)(h:θ[k]? =some l):(gO θ B θ')[k]? =some l:=by unfold gO;grind
theorem PL{B:List Nat}{hp os:List aL}(b:∀i∈B,i<hp.length){i:Nat}{o:aL}(h:(kg B hp os)[i]? =some o):(i<hp.length/\i∉B/\∃a,hp[i]? =some a/\o=a.cA B)\/(∃k,o=(os.getD k .gone).eM (g9 B hp.length)/\((k<B.length/\B[k]? =some i)\/(B.length<=k/\i=hp.length+(k - B.length)/\k<os.length))):=by unfold kg at h;grind
theorem Mv(f:Inv c θ D st a w){bor:Bool}{B:List Nat}{os:List aL}(M:B.Nodup)(Dg:B.mapM (st.hp[·]?)=some os)(Bk:∀o∈os,∀i∈o.ids,i∈B) {θ':List Loc} {D':Nat->Prop} {s:List aL} {w':World} (A:Ok θ' D' s w') (d:nv (owns (dj θ B)) w w') (hD:∀b,l9 bor θ B D w b->D' b) (At:∀b,D' b->l9 bor θ B D w b\/owns (dj θ B) b\/w.heap.size<=b) (U:∀(i:Nat) (l:Loc) (g:Nat),θ'[i]? =some l->l.has g->owns (dj θ B) g\/w.heap.size<=g) (gc:∀(k:Nat) (l:Loc),(dj θ B)[k]? =some l->l.fixed=true->θ'[k]? =some l) (ph:(dj θ B).length<=θ'.length) (Q:bor=true->∀o∈s,o.se): Inv c (gO θ B θ') (λb=>D b\/(D' b/\(owns (dj θ B) b\/w.heap.size<=b))) (st.back B s) a w':=by
 obtain⟨DA,DE,O⟩:=Da (bor:=bor) f M Dg Bk;have E:B.length<=θ'.length:=by simpa[dj]using ph
 have p:∀g,owns (dj θ B) g->∃(i:Nat) (l:Loc),i∈B/\θ[i]? =some l/\l.has g:=λg ⟨k,l,r,hg⟩=>by obtain⟨i,DH,DM⟩:=nS O r;grind
 have T:∀(i:Nat) (l:Loc) (g:Nat),i∉B->θ[i]? =some l->l.has g->¬owns (dj θ B) g:=λi l g H hl hg ho=>by obtain⟨j,P,hj,Bx,BT⟩:=p g ho;exact H (f.ok.inj i j l P g hl Bx hg BT▸hj)
 have el:∀b,D b->w'.heap[b]? =w.heap[b]? :=λb n=>d.block b (f.ok.pO b n) λho=>by obtain⟨i,l,_,h1,h2⟩:=p b ho;exact(f.ok.nj i l b h1 h2).2 n
 have k1:∀(k:Nat) (l:Loc),k∉B->θ[k]? =some l->(gO θ B θ')[k]? =some l:=λk l r h=>TQ r h;have k2:∀(k:Nat) (l:Loc),l.fixed=true->θ[k]? =some l->(gO θ B θ')[k]? =some l:=λk l u h=>by
  by_cases r:k∈B
  .have Y:=gc _ l (Fe r h) u;have h4:=DO (θ:=θ) O M Y;have:g9 B θ.length (B.idxOf k)=k:=by simp only[g9,if_pos (ad_ r),Q_,yk r,U_]
   grind
  grind
 have DB:∀{v:Value} {x:aL} {l:Loc},True->True:=λ_=>trivial;have R:bor=false->∀b,D' b->D b\/(D' b/\(owns (dj θ B) b\/w.heap.size<=b)):=λn b h=>by
  rcases At b h with h1|h1|h1;.subst n;exact .inl h1
  all_goals grind
 have L:θ.length=st.hp.length:=f.ok.len;refine⟨f.size,f.defers,⟨?_,λb n=>?_,λi j li P g H hj I J=>?_,λi l g H hg=>?_,λi l ob H CT=>?_⟩,?_,λb n=>.inl (f.lW b n),λb n=>?_,λi l g H hg=>?_,λk x r=>?_,λk l r u=>k2 k l u (f.fix k l r u)⟩;.have:=A.len;simp only[gO,St.back,kg,W_,ax_,List.length_drop,aE_];omega
 .rcases n with n|⟨n,_⟩;.exact s_ (f.ok.pO b n) d.size
  .exact A.pO b n
 .rcases s8 O E H with⟨C,N,F⟩|⟨k,C,N,_⟩<;>rcases s8 O E hj with⟨b1,b2,b3⟩|⟨m,b1,b2,_⟩;.exact f.ok.inj i j li P g F b3 I J
  .rcases U m P g b1 J with h1|h1;.grind
   .have:=(f.ok.nj i li g F I).1;omega
  .rcases U k li g C I with h1|h1;.grind
   .have:=(f.ok.nj j P g b3 J).1;omega
  .rw[N,b2,A.inj k m li P g C b1 I J]
 .rcases s8 O E H with⟨C,N,F⟩|⟨k,C,_,_⟩;.obtain⟨h1,h2⟩:=f.ok.nj i l g F hg;refine⟨s_ h1 d.size,λhd=>?_⟩;grind
  .obtain⟨h1,h2⟩:=A.nj k l g C hg;grind
 .have wr:∀i∈B,i<st.hp.length:=λi H=>by grind
  rcases s8 O E H with⟨C,N,F⟩|⟨k,C,N,a4⟩<;>rcases PL wr CT with⟨b1,b2,o0,b3,rfl⟩|⟨m,rfl,b4⟩;.exact((f.ok.fQ i l o0 F b3).cA k1 k2).mono (λb n=>.inl n) el λg hg=>d.block g (f.ok.nj i l g F hg).1 (T i l g N F hg)
  .grind
  .grind
  .have CD:k=m:=by
    rcases a4 with⟨c1,c2⟩|⟨c1,c2⟩<;>rcases b4 with⟨d1,d2⟩|⟨d1,d2,d3⟩;.exact(ay_ c1 M).1 (c2.trans d2.symm)
    .grind
    .grind
    .rw[N]at d2;simp only[g9]at d2;grind
   subst CD;have DP:k<s.length:=by rw[<-A.len];grind
   have ur:s[k]? =some (s.getD k .gone):=by grind
   rw[<-L];have hr:=(A.fQ k l _ C ur).eM (θ2:=gO θ B θ') (ρ:=g9 B θ.length) λk' l' _ h=>DO O M h;cases bor;.exact hr.mono (R rfl) (λ_ _=>rfl) (λ_ _=>rfl)
   .have u:=Q rfl _ (a_ ur);refine cG.zdL ?_ hr;cases z:s.getD k .gone with
    |box t cs=>rw[z]at u;intro x hx;simp only[X_]at hx;obtain⟨y,hy,rfl⟩:=hx;have:=u y hy;cases y<;>exact this
    |gone=>trivial|free=>trivial|vec e sz xs=>rw[z]at u;exact u|tree e sz k xs hole=>rw[z]at u;refine⟨λi j b n=>?_,u.2⟩;cases hole with|none=>cases n|some q=>obtain⟨i',j',b'⟩:=q;cases n;have:=u.1 _ _ _ rfl;cases b'<;>exact this
    |map k e kvs=>rw[z]at u;exact u
 .refine⟨d.os.trans f.keep.os,d.tape.trans f.keep.tape,d.output.trans f.keep.output,E_ f.keep.size d.size,λk r hn=>(d.block k (s_ r f.keep.size) λho=>?_).trans (f.keep.block k r hn)⟩;obtain⟨i,l,_,h1,h2⟩:=p k ho;rcases f.j4 i l k h1 h2 with Y|Y;all_goals grind
 .have h0:=f.CU;rcases n with n|⟨_,n|n⟩;.exact f.nD b n
  .obtain⟨i,l,_,h1,h2⟩:=p b n;exact .inr (f.j4 i l b h1 h2)
  omega
 .have h0:=f.CU;rcases s8 O E H with⟨C,N,F⟩|⟨k,C,_,_⟩;.exact f.j4 i l g F hg
  .rcases U k l g C hg with h1|h1;.obtain⟨j,P,_,h2,Y⟩:=p g h1;exact f.j4 j P g h2 Y
   omega
 .simp only[St.back,mc]at r;cases qr:look st.fr k with|none=>grind|some y=>rw[qr]at r;cases r;exact((f.fr k y qr).cA k1 k2).mono (λb n=>.inl n) el
theorem QJ(j:Inv c θ D st a w){bor:Bool}{B:List Nat}{v:Value}{x y:AV}(k:RelA θ D w v x)(h:ny st.hp bor B x=some y)(g:∀b,b<w.heap.size->bor=true->(∃(id:Nat) (l:Loc),id∉B/\θ[id]? =some l/\l.has b)->l9 bor θ B D w b)(f:∀b,D b->l9 bor θ B D w b): RelA θ (l9 bor θ B D w) w v y:=by
 have d:RelA θ (l9 bor θ B D w) w v x:=k.mono f (λ_ _=>rfl);unfold ny at h;split at h
 .rename_i id;split at h;.grind
  .rename_i s;simp only[d_]at h;obtain⟨p,hp,rfl⟩:=h;exact I4 j f (λn e l r hl b hg=>g b (j.ok.nj e l b hl hg).1 n ⟨e,l,by
    have:e=id:=by simpa[AV.ids,BV.ids]using r
    grind,hl,hg⟩) k hp
 .rename_i xs;split at h;.simp only[d_]at h;obtain⟨p,hp,rfl⟩:=h;exact cQ d hp
  grind
 .cases h;exact d.1
 .cases h;cases d;exact aX.nil none 0
 grind
theorem BA(L:Inv c θ D st a w)(hd:∀k,o.dst=some k->k<c.n){K KP:St->Prop}{bor:Bool}{B:List Nat}{f:FuncId}{ars:List AV}{os:List aL}{vs:List Value} (Y:(execOp a.eval o).run P w= .ok (.enter f vs.toArray) w) (Bk:vs.length=ars.length) (At:∀(i:Nat) (v:Value) (x:AV),vs[i]? =some v->ars[i]? =some x->RelA θ (l9 bor θ B D w) w v x) (I:B.mapM (st.hp[·]?)=some os) (h:cH.callK P st o.dst bor B f ars os K KP):Leaves P o c K KP a w:=by
 intro next Q hn hp;obtain⟨u,gc,E,C⟩:=h;obtain⟨j,el,hB⟩:=Da (bor:=bor) L u I E;unfold Oper.wp;rw[Y];simp only[Oper.upon];have s:=L.ok.len;refine(C w (dj θ B) (l9 bor θ B D w) vs ((c.gk w L.keep).mono (nv.refl (λ_=>False) w) (λ_ _ h=>h) (λb A=>el b (L.lW b A))) j (by grind) λi v x hv p=>?_).mono λe w' A=>?_;.rw[i_]at p;cases J:ars[i]? with|none=>grind|some y=>rw[J]at p;cases p;exact(At i v y hv J).eM λk l R hl=>Fe (gc y (a_ J) k R) hl
 .rcases A with⟨v,r,Bx,θ',D',rfl,⟨n,R⟩,hv,ur,d,hD,M,wr,N,T⟩|⟨ch,ph,rfl,R,d⟩
  .have z:=Mv (bor:=bor) L u I E ur d hD M wr N T (λA=>(n A).2);refine hn _ _ ⟨_,R,_,_,z.put hd ?_⟩;have hr:=hv.eM (θ2:=gO θ B θ') (ρ:=g9 B θ.length) λk' l' _ h=>DO hB u h;rw[<-s];cases bor
   .refine hr.mono (λb h=>?_) (λ_ _=>rfl);rcases M b h with h1|h1|h1;.exact .inl h1
    all_goals grind
   .have hf:=(n rfl).1;refine RelA.zbE ?_ hr;have F:∀(ρ:Nat->Nat) (x:BV),x.s6->(x.eM ρ).s6:=λρ x p=>by cases x<;>exact p
    cases r with
    |b x=>exact F _ x hf|agg xs=>intro x p;simp only[X_]at p;obtain⟨y,hy,rfl⟩:=p;exact F _ y (hf y hy)
    |dC xs=>intro x p;simp only[X_]at p;obtain⟨y,hy,rfl⟩:=p;exact F _ y (hf y hy)
  .have U:Ok (dj θ B) (l9 bor θ B D w) (os.map λ_=>aL.gone) w':=by refine⟨by have:=j.len;grind,λb A=>s_ (j.pO b A) d.size,j.inj,λi l g O hg=>⟨s_ (j.nj i l g O hg).1 d.size,(j.nj i l g O hg).2⟩,λi l ob O H=>?_⟩;rw[i_]at H;cases qr:os[i]? with|none=>grind|some o0=>rw[qr]at H;cases H;cases l<;>trivial
   have z:=Mv (bor:=bor) L u I E U d (λb h=>h) (λb h=>.inl h) (λi l g O hg=>.inl ⟨i,l,O,hg⟩) (λk l h _=>h) (m_ _) (λ_ o ho=>by simp only[X_]at ho;obtain⟨_,_,rfl⟩:=ho;trivial)
   exact hp ch w' ⟨ph,_,R,_,_,z⟩
theorem Ms(e:Inv c θ D st a w){bor:Bool}{B:List Nat}{os:List aL}(r:B.Nodup)(s:B.mapM (st.hp[·]?)=some os)(h:∀o∈os,∀i∈o.ids,i∈B){xs:List Operand}{ars:List AV} (g:(xs.map SX.of).mapM (λx=>(st.get x).bind (ny st.hp bor B))=some ars):(xs.map a.eval).length=ars.length/\∀(i:Nat) (v:Value) (x:AV),(xs.map a.eval)[i]? =some v->ars[i]? =some x->RelA θ (l9 bor θ B D w) w v x:=by obtain⟨A,f,H⟩:=Da (bor:=bor) e r s h;obtain⟨O,M⟩:=mapM_some g;refine⟨by grind,λi v x u L=>?_⟩;rw[i_]at u;cases z:xs[i]? with|none=>grind|some y=>rw[z]at u;cases u;have:=M i (SX.of y) x (by grind) L;simp only[e_]at this;obtain⟨N,h1,h2⟩:=this;refine QJ e (e.get h1) h2 (λb I d ⟨id,l,C,E,F⟩=>?_) f;subst d;refine⟨I,fun⟨k,lk,J,hl⟩=>?_⟩;obtain⟨j,n,p⟩:=nS H J;exact C (e.ok.inj id j l lk b E p F hl▸a_ n)
theorem OH(j:Inv c θ D st a w)(hd:∀k,o.dst=some k->k<c.n){K KP:St->Prop}{bor:Bool}{B:List Nat}{f:FuncId}{cl:Call}(n:o.op= .call cl)(e:cl.callee= .value (.func f))(l:ez P f=true) (h:cH P o.dst (.gP bor B f (cl.args.toList.map SX.of)) st K KP):Leaves P o c K KP a w:=by obtain⟨ars,d,os,b,g⟩:=h;obtain⟨h1,h2⟩:=Ms j g.1 b g.2.2.1 d;exact BA j hd (Oy n e l) h1 h2 b g
theorem OJ(r:Inv c θ D st a w)(hd:∀k,o.dst=some k->k<c.n){K KP:St->Prop}{bor:Bool}{B:List Nat}{t:Tmp}{cl:Call}(M:o.op= .call cl)(y:cl.callee= .value (.tmp t)) (h:cH P o.dst (.fw bor B (.tm t) (cl.args.toList.map SX.of)) st K KP):Leaves P o c K KP a w:=by
 obtain⟨Q,O,f,caps,d,J,ars,u,os,e,n⟩:=h;obtain⟨h1,h2⟩:=Ms r n.1 e n.2.2.1 u;obtain⟨C,s,T⟩:=Da (bor:=bor) r n.1 e n.2.2.1;have z:=r.get (x:=.tmp t) O;have key:∃cs:Array Value,a.eval (.tmp t)= .func (.func f) #[] cs/\cs.toList.length=caps.length/\∀(i:Nat) (v:Value) (x:AV),cs.toList[i]? =some v->caps[i]? =some x->RelA θ (l9 bor θ B D w) w v x:=by
  rcases d with⟨ids,rfl,rfl⟩|⟨E,rfl,rfl⟩;.obtain⟨I,R,F,H⟩:=z;refine⟨_,H,by grind,λi v x j b=>?_⟩;simp only[i_]at j b;cases A:ids[i]? with|none=>grind|some id=>rw[A]at b;cases b;cases hg:I[i]? with|none=>grind|some g=>rw[hg]at j;cases j;exact⟨g,F i id g A hg,rfl⟩
  .have l:aX D w (a.eval (.tmp t)) (.fn (.func f) E):=z;generalize a.eval (.tmp t)=v at l;cases l with|fn _ vs _ hs L=>refine⟨vs,rfl,by grind,λi v x j b=>?_⟩;rw[i_]at b;cases hp:E[i]? with|none=>grind|some p=>rw[hp]at b;cases b;exact(L i v p (by grind) hp).mono s (λ_ _=>rfl)
 obtain⟨cs,j,hl,hr⟩:=key;refine BA r hd (I8 M y j J) (by grind) (λi v x N b=>?_) e n;grind
end
section
variable {P:Program} {o:Oper} {c:Ctx} {θ:List Loc} {D:Nat->Prop} {st:St} {a:Act} {w:World}
theorem jN(a:Array Value)(off:Nat)(vs:List Value)(h:off+vs.length<=a.size):((a.toList.take off++vs++a.toList.drop (off+vs.length)).toArray).size=a.size/\∀k,((a.toList.take off++vs++a.toList.drop (off+vs.length)).toArray)[k]? =if off<=k/\k<off+vs.length then vs[k - off]? else a[k]? :=by refine⟨by grind,λk=>?_⟩;grind
theorem pG{t:TypeId}{sz g off:Nat}{e:TypeId}{a:Array Value}{v:Value}(hs:bY P t=some sz)(c:v.cells.size=sz)(hg:w.heap[g]? =some (.cells a e (0,0)))(b:off+sz<=a.size)(h1:∀u∈v.cells.toList,u.oneCell'=true):(Instr.storeAt t (.pointer (some ⟨g,off,none⟩)) v).run P w= .ok () (w.setRow g (a.toList.take off++v.cells.toList++a.toList.drop (off+v.cells.toList.length)).toArray):=by have:=run_storeCells_at P g off e v.cells.toList 0 a w hg (by grind) h1;simp[Instr.storeAt,Instr.sureAddr,storeVar,run_sizeOf hs,c,this]
theorem OX(I:Inv c θ D st a w){id g n cap s':Nat}{O:Nat->Prop}{e:TypeId}{s:Nat}{k:Av.K}{xs f:List PV}{hole d:Option (Nat×Nat×BV)}(hg:θ[id]? =some (.nP g n cap s' O))(N:st.hp[id]? =some (.tree e s k xs hole)) {r z:Array Value} (p:w.heap[g]? =some (.cells r e (0,0))) (hsz:z.size=r.size) (A:f.length=xs.length) (L:∀x∈f,x.cells.length=s) (M:∀i j b,d=some (i,j,b)->i<f.length/\(k.at j).isSome=true) (B:∀(i j:Nat) (x y:PV),f[i]? =some x->x.cells[j]? =some y->(∃u,z[i*s+j]? =some u/\(match dA d i j with|some b=>RelB θ D w u b|none=>k.at j=none/\aX D w u y))\/(z[i*s+j]? =r[i*s+j]?/\∃x0,xs[i]? =some x0/\x0.cells[j]? =some y/\dA d i j=dA hole i j)): Inv c θ D {st with hp:=st.hp.set id (.tree e s k f d)} a (w.setRow g z):=by
 obtain⟨rfl,rfl,h3,h4,h5,cv,Os,P,h7,Q,h9,Y,H⟩:=I.ok.fQ id _ _ hg N;rw[p]at P;cases P;have l:∀b,D b->(w.setRow g z).heap[b]? =w.heap[b]? :=λb J=>setRow_other _ _ _ _ λe=>(I.ok.nj id _ g hg (.inl rfl)).2 (e▸J);refine I.store hg (.inl rfl) (by simp) (by simp) (by simp) (by simp) (λk hk=>setRow_other _ _ _ _ hk) ⟨rfl,A.symm,h3,h4,L,z,Os,setRow_heap _ _ _ _ _ _ p,hsz.trans h7,Q,h9,M,λi j x y hx hy=>?_⟩;rcases B i j x y hx hy with⟨u,F,v⟩|⟨F,x0,v,R,T⟩;.refine⟨u,F,?_⟩;cases C:dA d i j with|some b=>rw[C]at v;exact v.mono (λ_ h=>h) l|none=>rw[C]at v;rw[v.1];exact .flat _ _ _ (v.2.mono (λ_ h=>h) l)
 .obtain⟨u,U,E⟩:=H i j x0 y v R;refine⟨u,F.trans U,?_⟩;rw[T];cases C:dA hole i j with|some b=>rw[C]at E;exact E.mono (λ_ h=>h) l|none=>rw[C]at E;exact E.mono (λ_ h=>h) l λb J=>setRow_other _ _ _ _ (Q i j b J).2
theorem YC{i i' s j off sz:Nat}(h:i'≠i)(c:j<s)(b:off+sz<=s):¬(i*s+off<=i'*s+j/\i'*s+j<i*s+off+sz):=by
 rcases y_ i' i with a|a;.have:(i'+1)*s<=i*s:=f_ _ a;grind
 .have:(i+1)*s<=i'*s:=f_ _ (by omega);grind
theorem Vt(U:Inv c θ D st a w){K:St->Prop}{t:TypeId}{y:Operand}{sz:Nat}{vx:Value}{R:AV}(hs:bY P t=some sz)(Y:RelA θ D w (a.eval y) R){id i off:Nat}{e:TypeId}{s:Nat}{k:Av.K}{xs:List PV}{hole:Option (Nat×Nat×BV)}(hX:RelA θ D w vx (.b (.jb id i off))) (C:st.hp[id]? =some (.tree e s k xs hole)) (hi:i<xs.length) (H:off+sz<=s) (A:(k.mJ off sz=true/\(xs.getD i .any).isAgg=true/\aR R.bF λp=>p.cells.length=sz/\p.ok=true/\K {st with hp:=st.hp.set id (.tree e s k (xs.set i (.agg (splice (xs.getD i .any).cells off p.cells))) hole)})\/(∃bv f,hole=some (i,off,bv)/\sz=1/\R= .b f/\f.cX=true/\K {st with hp:=st.hp.set id (.tree e s k xs (some (i,off,f)))})): ∃w' L,(Instr.storeAt t vx (a.eval y)).run P w= .ok () w'/\K L/\oK c L a w':=by
 obtain⟨g,n,cap,s',O,hg,he⟩:=hX;obtain⟨rfl,rfl,h3,h4,h5,r,Os,M,h7,h8,h9,T,At⟩:=U.ok.fQ id _ _ hg C;obtain⟨F,I⟩:∃F,xs[i]? =some F:=⟨_,b_ hi⟩;have el:xs.getD i .any=F:=mT I;have BT:F.cells.length=s':=h5 _ (a_ I);have wr:i*s'+s'<=r.size:=by
  rw[h7];have:i+1<=cap:=by omega
  have:=f_ s' this;grind
 rcases A with⟨hf,gc,p,hp,ur,E,N⟩|⟨bv,f,rfl,rfl,rfl,E,N⟩
 .obtain⟨q1,q2⟩:=oh (cQ Y hp) E;have hv:(a.eval y).cells.size=sz:=by omega
  have hr:=pG (P:=P) (w:=w) (off:=i*s'+off) hs hv M (by omega) (λu hu=>by grind[p_])
  rw[<-he]at hr;obtain⟨s1,Q⟩:=jN r (i*s'+off) (a.eval y).cells.toList (by grind);rw[el]at N gc;refine⟨_,_,hr,N,θ,D,OX U hg C M s1 (by simp) (λx l=>?_) (λi' j b hb=>by grind) λi' j x z l J=>?_⟩
  .rcases aj_ l with h|h;.grind
   .subst h;show(splice _ _ _).length=_;grind[lS]
  .by_cases d:i'=i
   .subst d;rw[O_ hi]at l;cases l;rw[show(PV.agg (splice F.cells off p.cells)).cells=splice F.cells off p.cells from rfl,ot _ _ _ (by omega)]at J;split at J
    .rename_i hj;have Bk:j - off<(a.eval y).cells.size:=by omega
     have Bx:k.at j=none:=by have:=Ni hf (j:=j - off) (by omega);rwa [show off+(j - off)=j by omega]at this
     refine .inl ⟨(a.eval y).cells[j - off],?_,?_⟩;.rw[Q,if_pos ⟨by omega,by grind⟩,show i'*s'+j - (i'*s'+off)=j - off by omega];simp
     .cases hq:dA hole i' j with|some b=>have:=(T _ _ _ (pq hq)).2;grind|none=>grind
    grind
   .rw[A_ (Ne.symm d)]at l;refine .inr ⟨?_,x,l,J,rfl⟩;have B:j<s':=by grind
    rw[Q,if_neg (by simp only[ac_,hv];exact YC d B H)]
 .have qr:(a.eval y).oneCell'=true:=tX Y E;have ph:(a.eval y).cells= #[a.eval y]:=cells_one qr;have hr:=pG (P:=P) (w:=w) (v:=a.eval y) (off:=i*s'+off) hs (by grind) M (by omega) (λu hu=>by grind)
  rw[<-he]at hr;obtain⟨s1,Q⟩:=jN r (i*s'+off) (a.eval y).cells.toList (by grind);refine⟨_,_,hr,N,θ,D,OX U hg C M s1 rfl h5 (λi' j b hb=>by grind) λi' j x z l J=>?_⟩;have B:j<s':=by grind
  by_cases d:i'=i/\j=off
  .obtain⟨rfl,rfl⟩:=d;refine .inl ⟨a.eval y,?_,?_⟩;.grind
   .simp only[dA,and_self,if_true];exact Y
  .refine .inr ⟨?_,x,l,J,?_⟩
   .rw[Q,if_neg ?_];rw[ph];simp only[G_,x_];by_cases h:i'=i;.grind
    .exact YC h B H
   grind[dA]
theorem OP(B:Inv c θ D st a w)(hd:o.dst=none){K KP:St->Prop}{t:TypeId}{x y:Operand}{sz:Nat}(ho:o.op= .store t x y)(hs:bY P t=some sz)(h:cH P o.dst (.store sz (.of x) (.of y)) st K KP):Leaves P o c K KP a w:=by
 intro next Q hn _;obtain⟨ax,hx,ay,hy,_,E⟩:=h;have hX:=B.get hx;have hY:=B.get hy;have fin:∀(w':World) (F:St),(Instr.storeAt t (a.eval x) (a.eval y)).run P w= .ok () w'->K F->oK c F a w'->o.wp P a w next Q:=by
  intro w' F hr v At;unfold Oper.wp;have:(execOp a.eval o).run P w= .ok .skip w':=by simp[execOp,ho,hr]
  grind[Oper.upon,Act.put]
 unfold Bj at E;split at E
 .rename_i id off;obtain⟨ob,C,e,cs,rfl,Y,I,J,v⟩:=E;obtain⟨g,hg,he⟩:=hX;obtain⟨d,h1,h2,h3⟩:=B.ok.fQ id _ _ hg C;obtain⟨h4,h5⟩:=oe hY J;have hv:(a.eval y).cells.size=sz:=by omega
  have hr:=pG (P:=P) (w:=w) (off:=off) hs hv h1 (by omega) (λu L=>by
   obtain⟨i,T⟩:=p_ L;have qr:i<ay.cells.length:=by grind
   exact(h5 i u _ (by grind) (b_ qr)).2)
  rw[<-he]at hr;obtain⟨s1,s2⟩:=jN d off (a.eval y).cells.toList (by grind);refine fin _ _ hr v ⟨θ,D,B.store (l:=.ek g) (g:=g) hg rfl (by simp) (by simp) (by simp) (by simp) (λk v=>setRow_other _ _ _ _ v) ⟨_,setRow_heap _ _ _ _ _ _ h1,?_,?_⟩⟩;.grind[lS]
  .intro i u z L hz;rw[s2 i]at L;rw[ot cs off ay.cells (by omega)]at hz;simp only[ac_]at L;have r:∀b,D b->(w.setRow g (d.toList.take off++(a.eval y).cells.toList++d.toList.drop (off+(a.eval y).cells.toList.length)).toArray).heap[b]? =w.heap[b]? :=λb hb=>setRow_other _ _ _ _ λe=>(B.ok.nj id _ g hg (by first|exact rfl|exact .inl rfl)).2 (e▸hb)
   split at L;.rw[if_pos (by omega)]at hz;exact((h5 _ u z (by grind) hz).1).mono (λ_ h=>h) r
   .rw[if_neg (by omega)]at hz;exact(h3 i u z L hz).mono (λ_ h=>h) r
 .rename_i id i off;obtain⟨ob,C,⟨e,s,xs,rfl,T,p,hp,Y,J,f⟩|⟨e,s,k,xs,hole,rfl,T,I,f⟩⟩:=E
  rotate_left
  .obtain⟨w',F,h1,h2,h3⟩:=Vt (K:=K) B hs hY hX C T I f;grind
  obtain⟨g,n,cap,s',O,hg,he⟩:=hX;obtain⟨rfl,rfl,h3,h4,h5,d,h6,h7,h8⟩:=B.ok.fQ id _ _ hg C;obtain⟨q1,q2⟩:=oh (cQ hY hp) J;have hv:(a.eval y).cells.size=sz:=by omega
  obtain⟨N,M⟩:∃N,xs[i]? =some N:=⟨_,b_ T⟩;have el:xs.getD i .any=N:=mT M;have CD:N.cells.length=s':=h5 _ (a_ M);have wr:off+sz<=s':=by omega
  have Bk:i*s'+s'<=d.size:=by
   rw[h7];have:i+1<=cap:=by omega
   have:=f_ s' this;grind
  have hr:=pG (P:=P) (w:=w) (off:=i*s'+off) hs hv h6 (by omega) (λu L=>by grind[p_])
  rw[<-he]at hr;obtain⟨s1,s2⟩:=jN d (i*s'+off) (a.eval y).cells.toList (by grind);have r:∀b,D b->(w.setRow g (d.toList.take (i*s'+off)++(a.eval y).cells.toList++d.toList.drop (i*s'+off+(a.eval y).cells.toList.length)).toArray).heap[b]? =w.heap[b]? :=λb hb=>setRow_other _ _ _ _ λe=>(B.ok.nj id _ g hg (by first|exact rfl|exact .inl rfl)).2 (e▸hb)
  have H:∀(p':PV),p'.cells=splice N.cells off p.cells->Inv c θ D {st with hp:=st.hp.set id (.vec e s' (xs.set i p'))} a (w.setRow g (d.toList.take (i*s'+off)++(a.eval y).cells.toList++d.toList.drop (i*s'+off+(a.eval y).cells.toList.length)).toArray):=by
   intro p' ur;refine B.store hg (.inl rfl) (by simp) (by simp) (by simp) (by simp) (λk v=>setRow_other _ _ _ _ v) ⟨rfl,by simp,h3,h4,λq hq=>?_,_,setRow_heap _ _ _ _ _ _ h6,by omega,λk j q y' hq A=>?_⟩;.grind[aj_,lS]
   .by_cases U:k=i
    .subst U;rw[O_ T]at hq;cases hq;rw[ur,ot _ _ _ (by omega)]at A;split at A
     .rename_i hj;have ph:j - off<(a.eval y).cells.size:=by omega
      refine⟨(a.eval y).cells[j - off],?_,((q2 (j - off) _ y' (g_ ph) A).1).mono (λ_ h=>h) r⟩;rw[s2,if_pos ⟨by omega,by grind⟩,show k*s'+j - (k*s'+off)=j - off by omega];simp
     .rename_i hj;obtain⟨u,e1,e2⟩:=h8 k j N y' M A;have gc:j<s':=by grind
      refine⟨u,?_,e2.mono (λ_ h=>h) r⟩;grind
    .rw[A_ (Ne.symm U)]at hq;obtain⟨u,e1,e2⟩:=h8 k j q y' hq A;have gc:j<s':=by grind
     refine⟨u,?_,e2.mono (λ_ h=>h) r⟩;rw[s2,if_neg ?_];.omega
     .simp only[ac_,hv];intro⟨h9,Bx⟩;rcases y_ k i with R|R;.have:(k+1)*s'<=i*s':=f_ _ R;grind
      .have:(i+1)*s'<=k*s':=f_ _ (by omega);grind
  rcases f with⟨rfl,rfl,v⟩|⟨BT,I,v⟩;.refine fin _ _ hr v ⟨θ,D,H p ?_⟩;grind[splice,List.drop_eq_nil_of_le]
  .rw[el]at v;exact fin _ _ hr v ⟨θ,D,H _ rfl⟩
 grind
theorem Vx(k:Av.K)(p:PV)(j:Nat):(k.gZ p).cells[j]? =(p.cells[j]?).map λx=>if(k.at j).isSome then PV.list 0 []else x:=by
 have one:∀p:PV,p.cells=[p]->(if(k.at 0).isSome then PV.list 0 []else p).cells[j]? =(p.cells[j]?).map λx=>if(k.at j).isSome then PV.list 0 []else x:=by
  intro p hp;rw[hp];cases j with
  |zero=>
   split;.rfl
   grind
  |succ j=>
   split;.rfl
   grind
 cases p with|agg cs=>simp[Av.K.gZ,PV.cells]|_=>exact one _ rfl
theorem Bn(k:Av.K)(p:PV):(k.gZ p).cells.length=p.cells.length:=by cases p with|agg cs=>simp[Av.K.gZ,PV.cells]|_=>simp only[Av.K.gZ];split<;>rfl
theorem NU{k:Av.K}{p:PV}(hn:k.yJ p.cells=true){O:Nat->Prop}{j:Nat}{c:PV}(b:(k.gZ p).cells[j]? =some c):∃y,p.cells[j]? =some y/\∀(D:Nat->Prop) (w:World) (u:Value),aX D w u y->kN D w (k.at j) O u c:=by
 rw[Vx]at b;obtain⟨y,h1,rfl⟩:=d_.1 b;refine⟨y,h1,λD w u a=>?_⟩;simp only[Av.K.yJ,n_,H_]at hn;have:=hn j (c_.1 h1).1;cases d:k.at j with
 |none=>exact .flat _ _ _ a|some q=>
  rw[d]at this;simp only[Q_,h1,U_]at this;split at this;.cases a;exact .nil _ _ _
  grind
theorem IS(A:Inv c θ D st a w)(hd:∀k,o.dst=some k->k<c.n){K KP:St->Prop}{t e:TypeId}{sz bytes:Nat}{z:Value}{l m:Operand}(ho:o.op= .makeSlice t l m)(he:fx P t=some e)(hs:bY P e=some sz)(hb:iA P e=some bytes)(hz:dR P e=some z) {pl:Option Nat} (h:Gd st (.cO e sz bytes z (.of l) (.of m)) λob mk=>yY st pl/\K ((st.new pl ob).aE o.dst (.b (mk (st.Zq pl))))):Leaves P o c K KP a w:=by
 intro next Q hn _;obtain⟨al,hl,am,hm,hv⟩:=h;have h1:=cU (A.get hl) hv;have h2:=cU (A.get hm) h1;obtain⟨kl,v,M,kc,g,L,h0,I,C,gc,U,hsz,pz,d,N,s,hk⟩:=h2;have hu:P.underlying t=some (.slice e):=by grind[fx]
 simp only[bY,d_]at hs;obtain⟨f,F,rfl⟩:=hs;have T:f.zero=some z:=by grind[dR]
 have el:f.bytes=bytes:=by grind[iA]
 have u:=run_make (P:=P) w t e f z hu F T kl kc v g h0 I (by grind) C;have Y:aX D w z pz:=cQ (rV (θ:=θ) z) d;obtain⟨c1,c2⟩:=oh Y N;have qr:z.cells.size=f.size:=by
  rw[c1,<-U];cases B:fV z with
  |b x=>
   rw[B]at d;cases x<;>simp[AV.bF,BV.bF]at d;.grind[AV.cells]
   .subst d;rfl
   .exfalso;unfold fV at B;grind[bG]
  |dC xs=>exfalso;unfold fV at B;grind|agg xs=>rw[B]at d;simp only[AV.bF,d_]at d;obtain⟨ps,O,rfl⟩:=d;exact(mapM_some O).1.symm
 have ph:pz.cells.length=f.size:=by omega
 have hcap:g.toNat<=maxLen:=by grind[maxLen]
 obtain⟨θ',E,hid⟩:=A.qZ s (l:=.nP w.heap.size v.toNat g.toNat f.size none') (o:=.vec e f.size (Y_ v.toNat pz)) (ob:=.cells (madeCells z.cells (g.toNat*f.size)) e) (λ_ h=>h.elim id False.elim) λθ' ur=>
  ⟨rfl,by simp,by omega,hcap,λp hp=>by grind,_,eS w _,size_madeCells _ _,λi j x y hx hy=>by
   have R:=al_ (a_ hx);have hi:i<v.toNat:=by grind
   subst R;have hj:j<f.size:=by grind
   have H:j<z.cells.size:=by omega
   refine⟨z.cells[j],?_,((c2 j _ y (g_ H) hy).1).mono (λ_ h=>h) (λb hb=>eD w _ b (A.ok.pO b hb))⟩;have J:i*f.size+j<g.toNat*f.size:=by have:(i+1)*f.size<=g.toNat*f.size:=f_ _ (by omega);grind
   have r:(i*f.size+j)%z.cells.size=j:=by grind[T_,aH_,aB_]
   simp only[madeCells,ae_,aq_,if_pos J,ab_,r];grind⟩
 have n:(execOp a.eval o).run P w= .ok (.value (.slice (some ⟨w.heap.size,0,none⟩) v.toNat g.toNat)) (w.alloc (.cells (madeCells z.cells (g.toNat*f.size)) e)):=by simp[execOp,ho,M,L,u]
 unfold Oper.wp;rw[n];exact hn _ _ ⟨_,hk,_,_,E.put hd ⟨_,hid,rfl⟩⟩
theorem HZ(A:Inv c θ D st a w)(hd:∀k,o.dst=some k->k<c.n){K KP:St->Prop}{t e:TypeId}{sz bytes:Nat}{z:Value}{l m:Operand}(ho:o.op= .makeSlice t l m)(he:fx P t=some e)(hs:bY P e=some sz)(hb:iA P e=some bytes)(hz:dR P e=some z) {k:Av.K} (h:cH P o.dst (.dE k e sz bytes z (.of l) (.of m)) st K KP):Leaves P o c K KP a w:=by
 intro next Q hn _;obtain⟨al,hl,am,hm,hv⟩:=h;have h1:=cU (A.get hl) hv;have h2:=cU (A.get hm) h1;obtain⟨kl,v,M,kc,g,L,h0,I,C,ur,gc,hsz,pz,d,N,s,hk⟩:=h2;have hu:P.underlying t=some (.slice e):=by grind[fx]
 simp only[bY,d_]at hs;obtain⟨f,F,rfl⟩:=hs;have el:f.zero=some z:=by grind[dR]
 have qr:f.bytes=bytes:=by grind[iA]
 have u:=run_make (P:=P) w t e f z hu F el kl kc v g h0 I (by grind) C;have ph:aX D w z pz:=FV (rV (θ:=θ) z) d;obtain⟨c1,c2⟩:=oh ph N;have At:z.cells.size=f.size:=by
  rw[c1,<-gc];cases B:fV z with
  |b x=>
   rw[B]at d;simp only[AV.mr]at d;cases x<;>simp[BV.mr,BV.bF]at d;.grind[AV.cells]
   .subst d;rfl
   .exfalso;unfold fV at B;grind[bG]
  |dC xs=>exfalso;unfold fV at B;grind|agg xs=>rw[B]at d;simp only[AV.mr,d_]at d;obtain⟨ps,R,rfl⟩:=d;exact(mapM_some R).1.symm
 have wr:pz.cells.length=f.size:=by omega
 have hcap:g.toNat<=maxLen:=by grind[maxLen]
 obtain⟨θ',E,hid⟩:=A.qZ (pl:=none) trivial (l:=.nP w.heap.size v.toNat g.toNat f.size none') (o:=.tree e f.size k (Y_ v.toNat (k.gZ pz)) none) (ob:=.cells (madeCells z.cells (g.toNat*f.size)) e) (λ_ h=>h.elim id False.elim) λθ' Bk=>
  ⟨rfl,by simp,by omega,hcap,λp hp=>by grind[Bn],_,λ_ _ _=>False,eS w _,size_madeCells _ _,λ_ _ _ h=>h.elim,λ_ _ _ _ _ h _=>h.elim,λ_ _ _ h=>(nomatch h),λi j x y hx hy=>by
   have T:=al_ (a_ hx);have hi:i<v.toNat:=by grind
   subst T;have hj:j<f.size:=by grind[Bn,c_]
   have H:j<z.cells.size:=by omega
   obtain⟨y0,U,Y⟩:=NU s (O:=λ_=>False) hy;refine⟨z.cells[j],?_,Y _ _ _ (((c2 j _ y0 (g_ H) U).1).mono (λ_ h=>h) (λb hb=>eD w _ b (A.ok.pO b hb)))⟩;have J:i*f.size+j<g.toNat*f.size:=by have:(i+1)*f.size<=g.toNat*f.size:=f_ _ (by omega);grind
   have r:(i*f.size+j)%z.cells.size=j:=by grind[T_,aH_,aB_]
   simp only[madeCells,ae_,aq_,if_pos J,ab_,r];grind⟩
 have n:(execOp a.eval o).run P w= .ok (.value (.slice (some ⟨w.heap.size,0,none⟩) v.toNat g.toNat)) (w.alloc (.cells (madeCells z.cells (g.toNat*f.size)) e)):=by simp[execOp,ho,M,L,u]
 unfold Oper.wp;rw[n];exact hn _ _ ⟨_,hk,_,_,E.put hd ⟨_,hid,rfl⟩⟩
theorem Ln(x:Inv c θ D st a w)(hd:∀k,o.dst=some k->k<c.n){K KP:St->Prop}{t e:TypeId}{sz bytes:Nat}{z:Value}{l m:Operand}(E:o.op= .makeSlice t l m)(A:fx P t=some e)(hs:bY P e=some sz)(y:iA P e=some bytes)(F:dR P e=some z) (h:cH P o.dst (.cO e sz bytes z (.of l) (.of m)) st K KP):Leaves P o c K KP a w:=by obtain⟨al,hl,g,C,l1,h1,J,h2,H,L,j,I,M,n,p,r,s,u,v,b,N,d,f,B⟩:=h;exact IS x hd E A hs y F (pl:=none) ⟨al,hl,g,C,l1,h1,J,h2,H,L,j,I,M,n,p,r,s,u,v,b,N,d,f,trivial,B⟩
end
section
variable {P:Program} {o:Oper} {c:Ctx} {θ:List Loc} {D:Nat->Prop} {st:St} {a:Act} {w:World}
theorem dx{t ty e:TypeId}{i:TypeInfo}(ht:P.underlying t=some (.slice e))(d:P.info? e=some i)(a:Option Addr)(n cap:Nat)(c:n<=cap)(b:Option Addr)(m:Nat):(Builtin.append_ #[t,t] ty #[.slice a n cap,.slice b 0 m]).run P w= .ok (.slice a n cap) w:=by
 have h1:(Builtin.firstCells i.size 0 (.slice b 0 m)).run P w= .ok #[] w:=by cases b<;>simp[Builtin.firstCells,loadCells,loadCellsFrom]
 cases a<;>simp[Builtin.append_,run_underlying ht,sizeOf,typeInfo,d,Builtin.lenOf,c,h1,storeCells]
theorem gj(z:Array Value)(n:Nat):(Builtin.zeroCells z n).size=n*z.size:=by simp[Builtin.zeroCells]
theorem eO{t ty e:TypeId}{i:TypeInfo}{z:Value}(ht:P.underlying t=some (.slice e))(l:P.info? e=some i)(p:i.zero=some z)(b:Option Addr) (f:Addr) (n c:Nat) (a:List Value) (hl:a.length=n*i.size) (d:∀j v,a[j]? =some v->w.cell? (f.add j)=some v) (r:0<n) (k:(n:Int)<=9223372036854775807) (h:n*i.bytes<=140737488355328):(Builtin.append_ #[t,t] ty #[.slice b 0 0,.slice (some f) n c]).run P w= .ok (.slice (some ⟨w.heap.size,0,none⟩) n (grownCap w n 0 e)) (w.drew.alloc (.cells (a.toArray++Builtin.zeroCells z.cells (grownCap w n 0 e - n)) e)):=by cases b with|none=>grind[run_append_nil]|some g=>have hr:=run_append_grow w t ty e i z ht l p g 0 0 [] (by simp) (λj u s=>by grind) f n c a hl d (by omega) (by omega) (growslice_fits (by omega) (by grind));grind
theorem Lk(J:Inv c θ D st a w)(hd:∀k,o.dst=some k->k<c.n){K KP:St->Prop}{t e:TypeId}{sz bytes:Nat}{z:Value}{x y:Operand}{cl:Call}(ho:o.op= .call cl)(MT:cl.callee= .builtin .append)(CD:cl.args= #[x,y])(Fm:cl.argTypes= #[t,t]) (he:fx P t=some e) (hs:bY P e=some sz) (hb:iA P e=some bytes) (hz:dR P e=some z) (GS:z.cells.size=sz) (h0:0<sz) (JT:0<bytes) (h:cH P o.dst (.append e sz bytes (.of x) (.of y)) st K KP):Leaves P o c K KP a w:=by
 intro next Q hn _;obtain⟨ax,hx,ay,hy,hL⟩:=h;have hX:=J.get hx;obtain⟨L,ad,m,⟨Pc,CT⟩,ph,So,Rg,At⟩:=lG J.ok (J.get hy) hL;have hu:P.underlying t=some (.slice e):=by unfold fx at he;split at he;all_goals grind
 simp only[bY,d_]at hs;obtain⟨f,N,rfl⟩:=hs;have DE:f.zero=some z:=by grind[dR]
 have KK:f.bytes=bytes:=by grind[iA]
 subst KK;have fin:∀(v:Value) (w':World) (Bk:St),(Builtin.append_ #[t,t] o.type #[a.eval x,a.eval y]).run P w= .ok v w'->K Bk->oK c Bk (a.put o.dst v) w'->o.wp P a w next Q:=by
  intro v w' Bk hr R Fk;unfold Oper.wp;have:(execOp a.eval o).run P w= .ok (.value v) w':=by simp[execOp,ho,resolve,MT,CD,Fm,invoke,builtin,hr]
  rw[this];exact hn _ _ ⟨Bk,R,Fk⟩
 have wr:0<L.length->∃(ab:Addr) (d:List Value),ad=some ab/\d.length=L.length*f.size/\(∀(j:Nat) (u:Value),d[j]? =some u->w.cell? (ab.add j)=some u)/\(∀u∈d,u.oneCell'=true)/\(∀p∈L,p.cells.length=f.size)/\∀(i j:Nat) (p q:PV),L[i]? =some p->p.cells[j]? =some q->∃u,d[i*f.size+j]? =some u/\aX D w u q:=by
  intro hl
  obtain⟨g,og,rfl,hg,hsz,hc⟩:=At hl
  obtain⟨d,n1,n2⟩:=gx (n:=L.length*f.size) (p:=λk u=>w.cell? ⟨g,og+k,none⟩=some u/\u.oneCell'=true/\∀(p q:PV),L[k/f.size]? =some p->p.cells[k%f.size]? =some q->aX D w u q) (λk R=>by
   have hi:k/f.size<L.length:=(C_ h0).2 R;have C:k%f.size<f.size:=ah_ _ h0;have hp:=b_ hi;have Th:=hsz _ (a_ hp);have U:=b_ (l:=(L[k/f.size]).cells) (i:=k%f.size) (by omega);obtain⟨u,e1,e2⟩:=hc _ _ _ _ hp U;refine⟨u,?_,?_,λp q SW Vc=>?_⟩;.rw[<-e1,V_,T_,P_]
   .have Bx:=Pc _ (a_ hp);simp only[PV.ok,n_]at Bx;exact iK e2 (Bx _ (a_ U))
   grind)
  refine⟨_,d,rfl,n1,λj u C=>by rw[addr_add];exact(n2 j u C).1,λu hu=>?_,hsz,λi j p q hp U=>?_⟩
  .obtain⟨j,C⟩:=p_ hu;exact(n2 j u C).2.1
  .have C:j<f.size:=by rw[<-hsz p (a_ hp)];exact(c_.1 U).1
   have hi:i<L.length:=(c_.1 hp).1;have DS:i*f.size+j<d.length:=by rw[n1];have:(i+1)*f.size<=L.length*f.size:=f_ _ hi;rw[w_,ak_]at this;omega
   grind
 have F:∀(w':World) (r d:List Value) (xs:List PV) (cv:Array Value) (k:Nat),(∀b,D b->w'.heap[b]? =w.heap[b]?)->r.length=xs.length*f.size->cv.size=k*f.size->(∀j,j<r.length->cv[j]? =r[j]?)->(∀j,j<d.length->cv[r.length+j]? =d[j]?)->(∀p∈xs,p.cells.length=f.size)->(∀p∈L,p.cells.length=f.size)->d.length=L.length*f.size->(∀(i j:Nat) (p q:PV),xs[i]? =some p->p.cells[j]? =some q->∃u,r[i*f.size+j]? =some u/\aX D w u q)->(∀(i j:Nat) (p q:PV),L[i]? =some p->p.cells[j]? =some q->∃u,d[i*f.size+j]? =some u/\aX D w u q)->∀(i j:Nat) (p q:PV),(xs++L)[i]? =some p->p.cells[j]? =some q->∃u,cv[i*f.size+j]? =some u/\aX D w' u q:=by
  intro w' r d xs cv k H T RT Pa Nd DB RM SM ro rn i j p q hp U
  rcases y_ i xs.length with hi|hi
  .rw[j_ hi]at hp;obtain⟨u,e1,e2⟩:=ro i j p q hp U;exact⟨u,by rw[Pa _ (c_.1 e1).1];omega,e2.mono (λ_ h=>h) H⟩
  .rw[r_ hi]at hp;obtain⟨u,e1,e2⟩:=rn _ j p q hp U;refine⟨u,?_,e2.mono (λ_ h=>h) H⟩;have:=Nd _ (c_.1 e1).1;rw[e1]at this;rw[<-this,T];congr 1;have:i*f.size=xs.length*f.size+(i - xs.length)*f.size:=by rw[<-w_];congr 1;omega
   omega
 have el:∀(xs:List PV) (k:Nat),(xs.length+L.length)*f.bytes<=k->xs.length+L.length<=k:=λxs k h=>E_ (D_ _ JT) h;rcases CT with⟨id,rfl,ob,Pb,xs,rfl,qr,R⟩|⟨PB,qr,R⟩
 .obtain⟨l,hl,hh⟩:=hX;have E:=J.ok.fQ id l _ hl Pb;have DH:=el xs _ qr;have DS:id<θ.length:=(c_.1 hl).1;have I:∀(l':Loc),(θ.set id l')[id]? =some l':=λl'=>O_ DS;by_cases M:L.length=0
  .have BT:L=[]:=k_ M;subst BT;have gc:Inv c (θ.set id l) D (st.fC id (.vec e f.size (xs++[]))) a w:=by
    refine J.move hl (λg hg=>?_) (λg hg=>?_) rfl rfl rfl (m_ _) (λ_ _ _=>rfl) (λg hg=>⟨(J.ok.nj id l g hl hg).1,.inl hg⟩) ?_;.subst hg;exact E.elim
    .subst hg;exact E.elim
    .rw[an_];have PA:θ.set id l=θ:=by
      apply S_;intro i;by_cases DP:i=id;.subst DP;rw[I];exact hl.symm
      .rw[A_ (Ne.symm DP)]
     rw[PA];omega
   cases l<;>simp only[cG,Loc.head]at E hh;.rename_i A;refine fin (.slice A 0 0) w _ ?_ R ⟨_,D,gc.put hd ⟨.nil A,I _,rfl⟩⟩;rw[hh,ph];exact dx hu N A 0 0 (m_ _) ad m
   .rename_i g n cap s O;obtain⟨rfl,rfl,h3,_⟩:=E;refine fin _ w _ ?_ R ⟨_,D,gc.put hd ⟨_,I _,rfl⟩⟩;rw[hh,ph];exact dx hu N _ _ cap h3 ad m
  .obtain⟨ab,d,rfl,n1,n2,n3,n4,n5⟩:=wr (o_ M);have grow:∀(old:Nat) (r:List Value) (v:Value),r.length=xs.length*f.size->(∀p∈xs,p.cells.length=f.size)->(∀(i j:Nat) (p q:PV),xs[i]? =some p->p.cells[j]? =some q->∃u,r[i*f.size+j]? =some u/\aX D w u q)->(Builtin.append_ #[t,t] o.type #[v,.slice (some ab) L.length m]).run P w= .ok (.slice (some ⟨w.heap.size,0,none⟩) (xs.length+L.length) (grownCap w (xs.length+L.length) old e)) (w.drew.alloc (.cells (r.toArray++d.toArray++Builtin.zeroCells z.cells (grownCap w (xs.length+L.length) old e - (xs.length+L.length))) e))->a.eval x=v->o.wp P a w next Q:=by
    intro old r v T DB ro RK hv
    have DA:=grownCap_ge w (xs.length+L.length) old e
    have Dg:grownCap w (xs.length+L.length) old e<=maxLen:=grownCap_le_maxLen w _ old e (by simp only[maxLen];omega)
    have hcs:(r.toArray++d.toArray++Builtin.zeroCells z.cells (grownCap w (xs.length+L.length) old e - (xs.length+L.length))).size=grownCap w (xs.length+L.length) old e*f.size:=by simp only[L_,M_,gj,GS,T,n1,<-w_];congr 1;omega
    have H:∀b,D b->(w.drew.alloc (.cells (r.toArray++d.toArray++Builtin.zeroCells z.cells (grownCap w (xs.length+L.length) old e - (xs.length+L.length))) e)).heap[b]? =w.heap[b]? :=λb hb=>eD w.drew _ b (J.ok.pO b hb)
    have gc:=J.move (l':=.nP w.heap.size (xs.length+L.length) (grownCap w (xs.length+L.length) old e) f.size none') (o':=.vec e f.size (xs++L)) (w':=w.drew.alloc (.cells (r.toArray++d.toArray++Builtin.zeroCells z.cells (grownCap w (xs.length+L.length) old e - (xs.length+L.length))) e)) hl (λg hg=>by subst hg;exact E.elim) (λg hg=>by subst hg;exact E.elim) rfl rfl rfl (by simp) (λk R _=>eD w.drew _ k R) (λg hg=>by rcases hg with rfl|hg;exact⟨by simp,.inr (m_ _)⟩;exact hg.elim) ⟨rfl,by simp,DA,Dg,λp hp=>(K_.1 hp).elim (DB p) (n4 p),_,eS w.drew _,hcs,F _ r d xs _ _ H T hcs (λj C=>by rw[l_ (by simp;omega),l_ (by omega)];simp) (λj C=>by rw[l_ (by simp;omega),R_ (by simp)];simp) DB n4 n1 ro n5⟩
    refine fin _ _ _ ?_ R ⟨_,D,gc.put hd ⟨_,I _,rfl⟩⟩
    rw[hv,ph]
    omega
   cases l<;>simp only[cG,Loc.head]at E hh;.rename_i A;subst E;have hr:=eO (P:=P) (w:=w) (ty:=o.type) hu N DE A ab L.length m d n1 n2 (o_ M) (by omega) (by simp only[x_,q_]at qr;omega);grind
   .rename_i g n cap s O;obtain⟨rfl,rfl,h3,h4,h5,B,h6,h7,h8⟩:=E;by_cases Y:xs.length+L.length<=cap
    .have DQ:xs.length*f.size+d.length<=B.size:=by rw[n1,h7,<-w_];exact f_ _ Y
     have hr:=run_append_room (P:=P) w t o.type e f hu N g xs.length cap B h6 ab L.length m d n1 n2 n3 Y DQ;obtain⟨s1,s2⟩:=jN B (xs.length*f.size) d DQ;have H:∀b,D b->(w.setRow g (B.toList.take (xs.length*f.size)++d++B.toList.drop (xs.length*f.size+d.length)).toArray).heap[b]? =w.heap[b]? :=λb hb=>setRow_other _ _ _ _ λe=>(J.ok.nj id _ g hl (.inl rfl)).2 (e▸hb);have ur:(B.toList.take (xs.length*f.size)).length=xs.length*f.size:=by simp;omega
     have gc:=J.move (l':=.nP g (xs.length+L.length) cap f.size O) (o':=.vec e f.size (xs++L)) (w':=w.setRow g (B.toList.take (xs.length*f.size)++d++B.toList.drop (xs.length*f.size+d.length)).toArray) hl (λg hg=>by cases hg) (λg hg=>by cases hg) rfl rfl rfl (by simp) (λk _ R=>setRow_other _ _ _ _ λe=>R (by rw[e];exact .inl rfl)) (λg' DM=>⟨by simp;exact(J.ok.nj id _ g' hl DM).1,.inl DM⟩)
      ⟨rfl,by simp,Y,h4,λp hp=>(K_.1 hp).elim (h5 p) (n4 p),_,setRow_heap _ _ _ _ _ _ h6,by omega,
       F _ (B.toList.take (xs.length*f.size)) d xs _ cap H ur (by omega) (λj C=>by
        rw[ur]at C;rw[s2,if_neg (by omega),z_,if_pos C,t_]) (λj C=>by
        rw[s2,ur,if_pos ⟨by simp,by omega⟩];simp) h5 n4 n1 (λi j p q hp U=>by
        obtain⟨u,e1,e2⟩:=h8 i j p q hp U;refine⟨u,?_,e2⟩;have C:j<f.size:=by rw[<-h5 p (a_ hp)];exact(c_.1 U).1
        have hi:i<xs.length:=(c_.1 hp).1;have:(i+1)*f.size<=xs.length*f.size:=f_ _ hi;grind) n5⟩
     refine fin _ _ _ ?_ R ⟨_,D,gc.put hd ⟨_,I _,rfl⟩⟩;rw[hh,ph];omega
    .have PJ:xs.length*f.size<=B.size:=by rw[h7];exact f_ _ h3
     have T:(B.toList.take (xs.length*f.size)).length=xs.length*f.size:=by simp;omega
     have hr:=run_append_grow (P:=P) w t o.type e f z hu N DE ⟨g,0,none⟩ xs.length cap (B.toList.take (xs.length*f.size)) T (λj u C=>by
      rw[addr_add,q_,cell_of_row w g j B e (0,0) h6];rw[z_]at C;split at C;.simpa using C
      .cases C) ab L.length m d n1 n2 (by omega) (by omega) (growslice_fits (by omega) qr)
     refine grow cap _ _ T h5 (λi j p q hp U=>?_) hr hh;obtain⟨u,e1,e2⟩:=h8 i j p q hp U;refine⟨u,?_,e2⟩;have C:j<f.size:=by rw[<-h5 p (a_ hp)];exact(c_.1 U).1
     have hi:i<xs.length:=(c_.1 hp).1;have:(i+1)*f.size<=xs.length*f.size:=f_ _ hi;rw[w_,ak_]at this;rw[z_,if_pos (by omega),t_];omega
 .obtain⟨A,Fr⟩:∃A,a.eval x= .slice A 0 0:=by
   rcases PB with rfl|rfl;.exact⟨none,hX⟩
   .obtain⟨h1,a0,n0,h2⟩:=hX;refine⟨a0,?_⟩;rw[h2]at h1⊢;cases h1;rfl
  have DH:=el [] _ (by simpa using qr);simp only[x_,q_]at DH;by_cases M:L.length=0;.have BT:L=[]:=k_ M;subst BT;have hp:Inv c (θ++[.nil A]) D {st with hp:=st.hp++[.vec e f.size []]} a w:=J.push rfl (λg hg=>by cases hg);refine fin (.slice A 0 0) w _ ?_ R ⟨_,D,hp.put hd ⟨.nil A,by rw[<-J.ok.len];simp,rfl⟩⟩;rw[Fr,ph];exact dx hu N A 0 0 (m_ _) ad m
  .obtain⟨ab,d,rfl,n1,n2,n3,n4,n5⟩:=wr (o_ M);have hr:=eO (P:=P) (w:=w) (ty:=o.type) hu N DE A ab L.length m d n1 n2 (o_ M) (by omega) (by omega);have DA:=grownCap_ge w L.length 0 e;have Dg:grownCap w L.length 0 e<=maxLen:=grownCap_le_maxLen w _ 0 e (by simp only[maxLen];omega);have hcs:(d.toArray++Builtin.zeroCells z.cells (grownCap w L.length 0 e - L.length)).size=grownCap w L.length 0 e*f.size:=by simp only[L_,M_,gj,GS,n1,<-w_];congr 1;omega
   have H:∀b,D b->(w.drew.alloc (.cells (d.toArray++Builtin.zeroCells z.cells (grownCap w L.length 0 e - L.length)) e)).heap[b]? =w.heap[b]? :=λb hb=>eD w.drew _ b (J.ok.pO b hb);have Hx:=J.drew.Mi (l:=.nP w.heap.size L.length (grownCap w L.length 0 e) f.size none') (o:=.vec e f.size L) (ob:=.cells (d.toArray++Builtin.zeroCells z.cells (grownCap w L.length 0 e - L.length)) e) (λ_ h=>h.elim (λh=>h) False.elim) λθ' Wf=>⟨rfl,rfl,DA,Dg,n4,_,eS w.drew _,hcs,λi j p q hp U=>by have:=F _ [] d [] _ _ H (by simp) hcs (λj C=>by simp at C) (λj C=>by simp only[x_,q_];rw[l_ (by omega)];simp) (λp hp=>by cases hp) n4 n1 (λi j p q hp=>by simp at hp) n5 i j p q (by simpa using hp) U;omega⟩
   refine fin _ _ _ ?_ R ⟨_,D,Hx.put hd ⟨.nP w.heap.size L.length (grownCap w L.length 0 e) f.size none',by rw[<-J.ok.len];simp,rfl⟩⟩;rw[Fr,ph];omega
theorem QW(J:Inv c θ D st a w)(hd:∀k,o.dst=some k->k<c.n){K KP:St->Prop}{t e:TypeId}{sz bytes:Nat}{z:Value}{x y:Operand}{cl:Call}(ho:o.op= .call cl)(Rg:cl.callee= .builtin .append)(DB:cl.args= #[x,y])(MT:cl.argTypes= #[t,t]) (he:fx P t=some e) (hs:bY P e=some sz) (M:iA P e=some bytes) (hz:dR P e=some z) (Pa:z.cells.size=sz) (h0:0<sz) (PB:0<bytes) {k:Av.K} (h:cH P o.dst (.pN k e sz bytes (.of x) (.of y)) st K KP):Leaves P o c K KP a w:=by
 intro next Q hn _;obtain⟨ax,hx,ay,hy,hL⟩:=h;have hX:=J.get hx;obtain⟨L,ad,m,⟨CT,DE⟩,qr,n9,n6,Bx⟩:=lG J.ok (J.get hy) hL;have So:∀p∈L,p.ok=true:=λp hp=>(CT p hp).1;have hu:P.underlying t=some (.slice e):=by unfold fx at he;split at he;all_goals grind
 simp only[bY,d_]at hs;obtain⟨f,R,rfl⟩:=hs;have DP:f.zero=some z:=by grind[dR]
 have PJ:f.bytes=bytes:=by grind[iA]
 subst PJ;have fin:∀(v:Value) (w':World) (BT:St),(Builtin.append_ #[t,t] o.type #[a.eval x,a.eval y]).run P w= .ok v w'->K BT->oK c BT (a.put o.dst v) w'->o.wp P a w next Q:=by
  intro v w' BT hr T KK;unfold Oper.wp;have:(execOp a.eval o).run P w= .ok (.value v) w':=by simp[execOp,ho,resolve,Rg,DB,MT,invoke,builtin,hr]
  rw[this];exact hn _ _ ⟨BT,T,KK⟩
 have Bk:0<L.length->∃(ab:Addr) (d:List Value),ad=some ab/\d.length=L.length*f.size/\(∀(j:Nat) (u:Value),d[j]? =some u->w.cell? (ab.add j)=some u)/\(∀u∈d,u.oneCell'=true)/\(∀p∈L,p.cells.length=f.size)/\∀(i j:Nat) (p q:PV),L[i]? =some p->p.cells[j]? =some q->∃u,d[i*f.size+j]? =some u/\aX D w u q:=by
  intro hl
  obtain⟨g,og,rfl,hg,hsz,hc⟩:=Bx hl
  obtain⟨d,n1,n2⟩:=gx (n:=L.length*f.size) (p:=λk u=>w.cell? ⟨g,og+k,none⟩=some u/\u.oneCell'=true/\∀(p q:PV),L[k/f.size]? =some p->p.cells[k%f.size]? =some q->aX D w u q) (λk T=>by
   have hi:k/f.size<L.length:=(C_ h0).2 T;have C:k%f.size<f.size:=ah_ _ h0;have hp:=b_ hi;have hpl:=hsz _ (a_ hp);have H:=b_ (l:=(L[k/f.size]).cells) (i:=k%f.size) (by omega);obtain⟨u,e1,e2⟩:=hc _ _ _ _ hp H;refine⟨u,?_,?_,λp q GS JT=>?_⟩;.rw[<-e1,V_,T_,P_]
   .have CD:=So _ (a_ hp);simp only[PV.ok,n_]at CD;exact iK e2 (CD _ (a_ H))
   .rw[hp]at GS;cases GS;rw[H]at JT;cases JT;omega)
  refine⟨_,d,rfl,n1,λj u C=>by rw[addr_add];exact(n2 j u C).1,λu hu=>?_,hsz,λi j p q hp H=>?_⟩
  .obtain⟨j,C⟩:=p_ hu;exact(n2 j u C).2.1
  .have C:j<f.size:=by rw[<-hsz p (a_ hp)];exact(c_.1 H).1
   have hi:i<L.length:=(c_.1 hp).1;have Fr:i*f.size+j<d.length:=by rw[n1];have:(i+1)*f.size<=L.length*f.size:=f_ _ hi;rw[w_,ak_]at this;omega
   grind
 have Pc:(L.map k.gZ).length=L.length:=by simp
 have DA:(∀p∈L,p.cells.length=f.size)->∀p∈L.map k.gZ,p.cells.length=f.size:=λh p hp=>by obtain⟨q,H,rfl⟩:=X_.1 hp;rw[Bn];exact h q H
 have F:∀(w':World) (r d:List Value) (xs:List PV) (cv:Array Value) (cap:Nat) (Os:Nat->Nat->Nat->Prop),(∀b,D b->w'.heap[b]? =w.heap[b]?)->(∀i j b,Os i j b->w'.heap[b]? =w.heap[b]?)->r.length=xs.length*f.size->cv.size=cap*f.size->(∀j,j<r.length->cv[j]? =r[j]?)->(∀j,j<d.length->cv[r.length+j]? =d[j]?)->d.length=L.length*f.size->(∀(i j:Nat) (p q:PV),xs[i]? =some p->p.cells[j]? =some q->∃u,r[i*f.size+j]? =some u/\kN D w (k.at j) (Os i j) u q)->(∀(i j:Nat) (p q:PV),L[i]? =some p->p.cells[j]? =some q->∃u,d[i*f.size+j]? =some u/\aX D w u q)->∀(i j:Nat) (p q:PV),(xs++L.map k.gZ)[i]? =some p->p.cells[j]? =some q->∃u,cv[i*f.size+j]? =some u/\kN D w' (k.at j) (Os i j) u q:=by
  intro w' r d xs cv cap Os I PA U n8 RM RK L7 ro rn i j p q hp H
  rcases y_ i xs.length with hi|hi
  .rw[j_ hi]at hp;obtain⟨u,e1,e2⟩:=ro i j p q hp H;exact⟨u,by rw[RM _ (c_.1 e1).1];omega,e2.mono (λ_ h=>h) I λb M=>PA i j b M⟩
  .rw[r_ hi,i_]at hp;obtain⟨p0,Hx,rfl⟩:=d_.1 hp;obtain⟨q0,SM,SW⟩:=NU (CT p0 (a_ Hx)).2 (O:=Os i j) H;obtain⟨u,e1,e2⟩:=rn _ j p0 q0 Hx SM;refine⟨u,?_,SW _ _ _ (e2.mono (λ_ h=>h) I)⟩;have:=RK _ (c_.1 e1).1;rw[e1]at this;rw[<-this,U];congr 1;have:i*f.size=xs.length*f.size+(i - xs.length)*f.size:=by rw[<-w_];congr 1;omega
   omega
 have gc:∀(xs:List PV) (k:Nat),(xs.length+L.length)*f.bytes<=k->xs.length+L.length<=k:=λxs k h=>E_ (D_ _ PB) h;rcases DE with⟨id,rfl,ob,RT,xs,rfl,wr,T⟩|⟨Wf,wr,T⟩
 .obtain⟨l,hl,hh⟩:=hX;have E:=J.ok.fQ id l _ hl RT;have DQ:=gc xs _ wr;have Fr:id<θ.length:=(c_.1 hl).1;have el:∀(l':Loc),(θ.set id l')[id]? =some l':=λl'=>O_ Fr;by_cases N:L.length=0
  .have Dg:L=[]:=k_ N;subst Dg;have ph:Inv c (θ.set id l) D (st.fC id (.tree e f.size k (xs++([]:List PV).map k.gZ) none)) a w:=by
    refine J.move hl (λg hg=>?_) (λg hg=>?_) rfl rfl rfl (m_ _) (λ_ _ _=>rfl) (λg hg=>⟨(J.ok.nj id l g hl hg).1,.inl hg⟩) ?_;.subst hg;exact E.elim
    .subst hg;exact E.elim
    .rw[List.map_nil,an_];have Th:θ.set id l=θ:=by apply S_;grind
     rw[Th];omega
   cases l<;>simp only[cG,Loc.head]at E hh;.rename_i A;refine fin (.slice A 0 0) w _ ?_ T ⟨_,D,ph.put hd ⟨.nil A,el _,rfl⟩⟩;rw[hh,qr];exact dx hu R A 0 0 (m_ _) ad m
   .rename_i g n cap s O;obtain⟨rfl,rfl,h3,_⟩:=E;refine fin _ w _ ?_ T ⟨_,D,ph.put hd ⟨_,el _,rfl⟩⟩;rw[hh,qr];exact dx hu R _ _ cap h3 ad m
  .obtain⟨ab,d,rfl,n1,n2,n3,n4,n5⟩:=Bk (o_ N);have grow:∀(old:Nat) (r:List Value) (v:Value) (O:Nat->Prop) (Os:Nat->Nat->Nat->Prop),(∀b,O b->l.has b)->(∀i j b,Os i j b->O b)->(∀i j i' j' b,Os i j b->Os i' j' b->i=i'/\j=j')->r.length=xs.length*f.size->(∀p∈xs,p.cells.length=f.size)->(∀(i j:Nat) (p q:PV),xs[i]? =some p->p.cells[j]? =some q->∃u,r[i*f.size+j]? =some u/\kN D w (k.at j) (Os i j) u q)->(Builtin.append_ #[t,t] o.type #[v,.slice (some ab) L.length m]).run P w= .ok (.slice (some ⟨w.heap.size,0,none⟩) (xs.length+L.length) (grownCap w (xs.length+L.length) old e)) (w.drew.alloc (.cells (r.toArray++d.toArray++Builtin.zeroCells z.cells (grownCap w (xs.length+L.length) old e - (xs.length+L.length))) e))->a.eval x=v->o.wp P a w next Q:=by
    intro old r v O Os DS hOs hdj U Vc ro n7 hv
    have ur:∀b,O b->b<w.heap.size:=λb M=>(J.ok.nj id l b hl (DS b M)).1
    have DM:=grownCap_ge w (xs.length+L.length) old e
    have DH:grownCap w (xs.length+L.length) old e<=maxLen:=grownCap_le_maxLen w _ old e (by simp only[maxLen];omega)
    have hcs:(r.toArray++d.toArray++Builtin.zeroCells z.cells (grownCap w (xs.length+L.length) old e - (xs.length+L.length))).size=grownCap w (xs.length+L.length) old e*f.size:=by simp only[L_,M_,gj,Pa,U,n1,<-w_];congr 1;omega
    have I:∀b,D b->(w.drew.alloc (.cells (r.toArray++d.toArray++Builtin.zeroCells z.cells (grownCap w (xs.length+L.length) old e - (xs.length+L.length))) e)).heap[b]? =w.heap[b]? :=λb M=>eD w.drew _ b (J.ok.pO b M)
    have ph:=J.move (l':=.nP w.heap.size (xs.length+L.length) (grownCap w (xs.length+L.length) old e) f.size O) (o':=.tree e f.size k (xs++L.map k.gZ) none) (w':=w.drew.alloc (.cells (r.toArray++d.toArray++Builtin.zeroCells z.cells (grownCap w (xs.length+L.length) old e - (xs.length+L.length))) e)) hl (λg hg=>by subst hg;exact E.elim) (λg hg=>by subst hg;exact E.elim) rfl rfl rfl (by simp) (λk T _=>eD w.drew _ k T) (λg hg=>by rcases hg with rfl|hg;exact⟨by simp,.inr (m_ _)⟩;exact⟨by simp;have:=ur g hg;omega,.inl (DS g hg)⟩) ⟨rfl,by simp,DM,DH,λp hp=>(K_.1 hp).elim (Vc p) (DA n4 p),_,Os,eS w.drew _,hcs,λi j b M=>⟨hOs i j b M,by have:=ur b (hOs i j b M);omega⟩,hdj,λ_ _ _ h=>(nomatch h),F _ r d xs _ _ Os I (λi j b M=>eD w.drew _ b (ur b (hOs i j b M))) U hcs (λj C=>by rw[l_ (by simp;omega),l_ (by omega)];simp) (λj C=>by rw[l_ (by simp;omega),R_ (by simp)];simp) n1 ro n5⟩
    refine fin _ _ _ ?_ T ⟨_,D,ph.put hd ⟨_,el _,rfl⟩⟩
    rw[hv,qr]
    omega
   cases l<;>simp only[cG,Loc.head]at E hh;.rename_i A;obtain⟨rfl,-⟩:=E;have hr:=eO (P:=P) (w:=w) (ty:=o.type) hu R DP A ab L.length m d n1 n2 (o_ N) (by omega) (by simp only[x_,q_]at wr;omega);refine grow 0 [] (.slice A 0 0) none' (λ_ _ _=>False) (λ_ h=>h.elim) (λ_ _ _ h=>h.elim) (λ_ _ _ _ _ h _=>h.elim) (by simp) (λp hp=>by cases hp) (λi j p q hp=>by simp at hp) ?_ hh;simpa using hr
   .rename_i g n cap s O;obtain⟨rfl,rfl,h3,h4,h5,B,Os,h6,h7,hOs,hdj,-,h8⟩:=E;by_cases Y:xs.length+L.length<=cap
    .have Fm:xs.length*f.size+d.length<=B.size:=by rw[n1,h7,<-w_];exact f_ _ Y
     have hr:=run_append_room (P:=P) w t o.type e f hu R g xs.length cap B h6 ab L.length m d n1 n2 n3 Y Fm;obtain⟨s1,s2⟩:=jN B (xs.length*f.size) d Fm;have I:∀b,D b->(w.setRow g (B.toList.take (xs.length*f.size)++d++B.toList.drop (xs.length*f.size+d.length)).toArray).heap[b]? =w.heap[b]? :=λb M=>setRow_other _ _ _ _ λe=>(J.ok.nj id _ g hl (.inl rfl)).2 (e▸M);have At:(B.toList.take (xs.length*f.size)).length=xs.length*f.size:=by simp;omega
     have ph:=J.move (l':=.nP g (xs.length+L.length) cap f.size O) (o':=.tree e f.size k (xs++L.map k.gZ) none) (w':=w.setRow g (B.toList.take (xs.length*f.size)++d++B.toList.drop (xs.length*f.size+d.length)).toArray) hl (λg hg=>by cases hg) (λg hg=>by cases hg) rfl rfl rfl (by simp) (λk _ T=>setRow_other _ _ _ _ λe=>T (by rw[e];exact .inl rfl)) (λg' Fk=>⟨by simp;exact(J.ok.nj id _ g' hl Fk).1,.inl Fk⟩)
      ⟨rfl,by simp,Y,h4,λp hp=>(K_.1 hp).elim (h5 p) (DA n4 p),_,Os,setRow_heap _ _ _ _ _ _ h6,by omega,hOs,hdj,λ_ _ _ h=>(nomatch h),
       F _ (B.toList.take (xs.length*f.size)) d xs _ cap Os I (λi j b M=>setRow_other _ _ _ _ (hOs i j b M).2) At (by omega) (λj C=>by
        rw[At]at C;rw[s2,if_neg (by omega),z_,if_pos C,t_]) (λj C=>by
        rw[s2,At,if_pos ⟨by simp,by omega⟩];simp) n1 (λi j p q hp H=>by
        obtain⟨u,e1,e2⟩:=h8 i j p q hp H;refine⟨u,?_,e2⟩;have C:j<f.size:=by rw[<-h5 p (a_ hp)];exact(c_.1 H).1
        have hi:i<xs.length:=(c_.1 hp).1;have:(i+1)*f.size<=xs.length*f.size:=f_ _ hi;grind) n5⟩
     refine fin _ _ _ ?_ T ⟨_,D,ph.put hd ⟨_,el _,rfl⟩⟩;rw[hh,qr];omega
    .have WD:xs.length*f.size<=B.size:=by rw[h7];exact f_ _ h3
     have U:(B.toList.take (xs.length*f.size)).length=xs.length*f.size:=by simp;omega
     have hr:=run_append_grow (P:=P) w t o.type e f z hu R DP ⟨g,0,none⟩ xs.length cap (B.toList.take (xs.length*f.size)) U (λj u C=>by
      rw[addr_add,q_,cell_of_row w g j B e (0,0) h6];rw[z_]at C;split at C;.simpa using C
      .cases C) ab L.length m d n1 n2 (by omega) (by omega) (growslice_fits (by omega) wr)
     refine grow cap _ _ O Os (λ_ h=>.inr h) (λi j b h=>(hOs i j b h).1) hdj U h5 (λi j p q hp H=>?_) hr hh;obtain⟨u,e1,e2⟩:=h8 i j p q hp H;refine⟨u,?_,e2⟩;have C:j<f.size:=by rw[<-h5 p (a_ hp)];exact(c_.1 H).1
     have hi:i<xs.length:=(c_.1 hp).1;have:(i+1)*f.size<=xs.length*f.size:=f_ _ hi;rw[w_,ak_]at this;rw[z_,if_pos (by omega),t_];omega
 .obtain⟨A,Nd⟩:∃A,a.eval x= .slice A 0 0:=by subst Wf;exact⟨none,hX⟩
  have DQ:=gc [] _ (by simpa using wr);simp only[x_,q_]at DQ;by_cases N:L.length=0;.have Dg:L=[]:=k_ N;subst Dg;have hp:Inv c (θ++[.nil A]) D {st with hp:=st.hp++[.tree e f.size k (([]:List PV).map k.gZ) none]} a w:=J.push ⟨rfl,rfl⟩ (λg hg=>by cases hg);refine fin (.slice A 0 0) w _ ?_ T ⟨_,D,hp.put hd ⟨.nil A,by rw[<-J.ok.len];simp,rfl⟩⟩;rw[Nd,qr];exact dx hu R A 0 0 (m_ _) ad m
  .obtain⟨ab,d,rfl,n1,n2,n3,n4,n5⟩:=Bk (o_ N);have hr:=eO (P:=P) (w:=w) (ty:=o.type) hu R DP A ab L.length m d n1 n2 (o_ N) (by omega) (by omega);have DM:=grownCap_ge w L.length 0 e;have DH:grownCap w L.length 0 e<=maxLen:=grownCap_le_maxLen w _ 0 e (by simp only[maxLen];omega);have hcs:(d.toArray++Builtin.zeroCells z.cells (grownCap w L.length 0 e - L.length)).size=grownCap w L.length 0 e*f.size:=by simp only[L_,M_,gj,Pa,n1,<-w_];congr 1;omega
   have I:∀b,D b->(w.drew.alloc (.cells (d.toArray++Builtin.zeroCells z.cells (grownCap w L.length 0 e - L.length)) e)).heap[b]? =w.heap[b]? :=λb M=>eD w.drew _ b (J.ok.pO b M);have Pb:=J.drew.Mi (l:=.nP w.heap.size L.length (grownCap w L.length 0 e) f.size none') (o:=.tree e f.size k (L.map k.gZ) none) (ob:=.cells (d.toArray++Builtin.zeroCells z.cells (grownCap w L.length 0 e - L.length)) e) (λ_ h=>h.elim (λh=>h) False.elim) λθ' hθ=>⟨rfl,Pc.symm,DM,DH,DA n4,_,λ_ _ _=>False,eS w.drew _,hcs,λ_ _ _ h=>h.elim,λ_ _ _ _ _ h _=>h.elim,λ_ _ _ h=>(nomatch h),λi j p q hp H=>by have:=F _ [] d [] _ _ (λ_ _ _=>False) I (λ_ _ _ h=>h.elim) (by simp) hcs (λj C=>by simp at C) (λj C=>by simp only[x_,q_];rw[l_ (by omega)];simp) n1 (λi j p q hp=>by simp at hp) n5 i j p q (by simpa using hp) H;exact this⟩
   refine fin _ _ _ ?_ T ⟨_,D,Pb.put hd ⟨.nP w.heap.size L.length (grownCap w L.length 0 e) f.size none',by rw[<-J.ok.len];simp,rfl⟩⟩;rw[Nd,qr];omega
end
section
variable {P:Program} {o:Oper} {c:Ctx} {θ:List Loc} {D:Nat->Prop} {st:St} {a:Act} {w:World}
theorem m5{v u:Value}(h:aX D w v (.sc u)):v=u:=by cases h;rfl
def zbx(P:Program)(D:Nat->Prop)(w:World)(d:Nat):Prop:=∀(t:TypeId) (p q:PV) (b:Bool) (v u:Value) (n:Nat),wm P d t p q=some b->d<=n->aX D w v p->aX D w u q->(Op.equalIn n t v u).run P w= .ok b w
theorem WM{d:Nat}(v:zbx P D w d):∀(l:List Field) (xs ys:List PV) (b:Bool) (vs us:Array Value) (n:Nat),wm.eqFs P d l xs ys=some b->d<=n->aX D w (.agg vs) (.agg xs)->aX D w (.agg us) (.agg ys)->(Op.eqFields n vs us l).run P w= .ok b w:=by
 intro l;induction l with
 |nil=>intro xs ys b vs us n h _ _ _;simp only[wm.eqFs,B_]at h;subst h;rfl|cons f l x=>
  intro xs ys b vs us n h hn u s;simp only[wm.eqFs]at h;split at h;.grind
  .rename_i c;simp only[e_]at h;obtain⟨i,B,h⟩:=h;split at h;.grind
   .rename_i hc;simp only[not_or,aL_,not_and,Decidable.not_not,Option.isNone_iff_eq_none]at hc;obtain⟨h1,h2,p,r⟩:=hc;obtain⟨A,g⟩:=Option.ne_none_iff_exists'.1 h1;simp only[e_]at h;obtain⟨k,j,h⟩:=h;have hsz:bY P f.type=some i.size:=by grind[bY]
    have a:iv P f.type=false->i.size=1:=λe=>r e;obtain⟨y,r1⟩:=tZ u rfl h2 a;obtain⟨z,r2⟩:=tZ s rfl p a;simp only[Op.eqFields];rw[if_pos c];simp only[Sem.run_bind,(qH g hsz (by rw[y];exact h2) a),(qH g hsz (by rw[z];exact p) a),(v f.type _ _ k _ _ n j hn r1 r2),Result.andThen_ok];cases k;.simp only[u_,if_false,B_]at h;subst h;rfl
    grind
theorem J5:∀(d:Nat),zbx P D w d:=by
 intro d;induction d with
 |zero=>intro t p q b v u n h _ _ _;simp[wm]at h|succ d r=>
  intro t p q b v u n h hn l k;obtain⟨m,rfl⟩:∃m,n=m+1:=⟨n - 1,by omega⟩;unfold wm at h;split at h;.grind[m5,run_equalIn_bool']
  .grind[m5,run_equalIn_int]
  .grind[m5,beq_toListBytes,run_equalIn_string]
  .rename_i g xs ys ht;split at h;.grind
   .have j:P.fieldsOf t=g:=by grind[Program.fieldsOf]
    cases l with|agg vs _ e a=>cases k with|agg us _ f c=>rw[run_equalIn_struct w m t vs us (by grind) (by grind),j];exact WM r g.toList xs ys b vs us m h (by omega) (.agg vs xs e a) (.agg us ys f c)
  grind
theorem Ji(f:Inv c θ D st a w){K:AV->Prop}{op:BinOp}{neg:Bool}{t A:TypeId}{n:Array Field}{x y:Operand}(s:o.op= .binOp op t x y A)(j:op=if neg then .neq else .eql)(ht:P.underlying t=some (.struct n))(hg:P.eqGuardType P.depth t=false) (h:jp P st (.sL neg t (.of x) (.of y)) K):Yields P o a w (sK c θ st a K):=by
 obtain⟨B,v,C,z,p,hp,q,u,b,g,r⟩:=h;have r1:=cQ (f.get v) hp;have r2:=cQ (f.get z) u;refine aK f ?_ r (aX.sc _);have e:=J5 64 t p q b _ _ 10000 g (by simp) r1 r2;have d:∃xs ys,a.eval x= .agg xs/\a.eval y= .agg ys:=by
  unfold wm at g;generalize a.eval x=E at r1⊢;generalize a.eval y=F at r2⊢;split at g;.grind
  .grind
  .grind
  .cases r1;cases r2;simp
  grind
 obtain⟨xs,ys,k,l⟩:=d;rw[k,l]at e;simp only[execOp,s,k,l,Sem.run_bind,run_eqGuard_agg w op t x y xs ys hg];subst j;cases neg;.simp only[u_,if_false,run_eql_struct,e,Result.andThen_ok,Sem.run_pure,Bool.false_xor]
 .simp only[if_true,run_neq_struct,e,Result.andThen_ok,Sem.run_pure,Bool.true_xor]
theorem Iw{k:TypeId}{x:PV}:∀{l:List (PV×PV)} {i:Nat} {r:Option (Nat×PV)},sj P k x l i=some r->
 (r=none/\∀a∈l,wm P 64 k x a.1=some false)\/(∃j a,r=some (i+j,a.2)/\l[j]? =some a/\wm P 64 k x a.1=some true/\∀c∈l.take j,wm P 64 k x c.1=some false)
 |[],i,r,h=>by grind[sj,B_]
 |a::l,i,r,h=>by
  simp only[sj,e_]at h;obtain⟨b,e,h⟩:=h;cases b
  .simp only[u_,if_false]at h;rcases Iw h with⟨h1,h2⟩|⟨j,c,h1,h2,d,f⟩;.grind
   .refine .inr ⟨j+1,c,by grind,by grind,d,λy g=>?_⟩;grind
  .simp only[if_true,B_]at h;exact .inr ⟨0,a,by grind,rfl,e,by simp⟩
theorem tJ{k:TypeId}{v:Value}:∀(a:List MapEntry) (i:Nat) (f:MapEntry->Bool),(∀e∈a,(Op.equal k v e.key).run P w= .ok (f e) w)->
 (Instr.findAsking k v a i).run P w= .ok ((a.zipIdx i).find? (λe=>f e.1) |>.map λe=>(e.2,e.1.val)) w
 |[],i,f,_=>by rfl
 |e::a,i,f,h=>by
  simp only[Instr.findAsking,Sem.run_bind,h e (by simp),Result.andThen_ok,aA_,aD_];cases b:f e;.simp only[u_,if_false];exact tJ a (i+1) f λy c=>h y (by grind)
  rfl
theorem findNow_spec{d:TypeDesc}{v:Value}:∀(a:List MapEntry) (i:Nat) (f:MapEntry->Bool) {r:Option (Nat×Value)},(∀e∈a,∀b,Instr.sameNow d v e.key=some b->b=f e)->Instr.findNow d v a i=some r->
 r=((a.zipIdx i).find? (λe=>f e.1) |>.map λe=>(e.2,e.1.val))
 |[],i,f,r,_,h=>by grind[Instr.findNow,B_]
 |e::a,i,f,r,hs,h=>by
  simp only[Instr.findNow]at h;simp only[aA_,aD_];split at h;.grind
  .rename_i h1;rw[<-hs e (by simp) false h1];exact findNow_spec a (i+1) f (λy c=>hs y (by grind)) h
  grind
theorem zaq{a:List MapEntry}{l:List (PV×PV)}{k:TypeId}{x:PV}{i:Nat}{r:Option (Nat×PV)}{f:MapEntry->Bool}(hl:a.length=l.length)(y:∀(j:Nat) (e:MapEntry) (b:PV×PV),a[j]? =some e->l[j]? =some b->wm P 64 k x b.1=some (f e))(h:sj P k x l i=some r):(r=none/\(a.zipIdx i).find? (λe=>f e.1)=none)\/∃j b e,r=some (i+j,b.2)/\l[j]? =some b/\a[j]? =some e/\(a.zipIdx i).find? (λe=>f e.1)=some (e,i+j):=by
 rcases Iw h with⟨h1,h2⟩|⟨j,b,h1,h2,B,v⟩;.refine .inl ⟨h1,?_⟩;rw[List.find?_eq_none];rintro⟨e,n⟩ p;obtain⟨j,C⟩:=p_ p;cases s:a[j]? with|none=>grind|some e0=>obtain⟨b,z⟩:=bw hl.symm s;grind
 .obtain⟨e,p⟩:=bw hl h2;refine .inr ⟨j,b,e,h1,h2,p,?_⟩;have u:j<a.length:=(c_.1 p).1;rw[List.find?_eq_some_iff_getElem];refine⟨by grind,j,by simpa using u,?_,λm A=>?_⟩;.grind
  .have d:m<a.length:=by omega
   obtain⟨g,c⟩:=bw hl.symm (b_ d);have w:=y m _ g (b_ d) c;rw[v g (a_ (by rw[z_,if_pos A];omega))]at w;grind
theorem kI(em:Bool):∀(d n:Nat) (t:TypeId) (v:Value) (p:PV),AI P d t p=true->d<=n->aX D w v p->(Instr.checkKey em n t v).run P w= .ok () w
 |0,n,t,v,p,h,_,_=>by simp[AI]at h
 |d+1,n,t,v,p,h,hn,g=>by
  obtain⟨m,rfl⟩:∃m,n=m+1:=⟨n - 1,by omega⟩;unfold AI at h;rw[Instr.checkKey];split at h;.rename_i ht;rw[m5 g];simp[run_underlying ht]
  .rename_i ht;rw[m5 g];simp[run_underlying ht]
  .rename_i ht;rw[m5 g];simp[run_underlying ht]
  .rename_i x xs ht;cases g with
   |agg vs _ hs z=>
    have r:aX D w (.agg vs) (.agg xs):=.agg vs xs hs z;simp only[Sem.run_bind,run_underlying ht,Result.andThen_ok];rw[<-Array.forIn_toList];have a:=n_.1 h;revert a;generalize x.toList=l;intro a;induction l with
    |nil=>rfl|cons f l A=>
     have b:=a f (by simp);simp only[F_,bne_iff_ne,ne_eq]at b;obtain⟨k,b⟩:=b;split at b
     .rename_i i E;simp only[F_,decide_eq_true_eq,aC_]at b;obtain⟨⟨⟨h1,h2⟩,u⟩,y⟩:=b;obtain⟨C,j⟩:=v_.1 h1;have hsz:bY P f.type=some i.size:=by grind[bY]
      have c:iv P f.type=false->i.size=1:=λe=>u.elim (λu=>by grind) id;obtain⟨F,r1⟩:=tZ (off:=f.offset) (sz:=i.size) r rfl h2 c;have B:=qH (P:=P) (w:=w) (t:=f.type) (cs:=vs) (off:=f.offset) j hsz (by omega) c;have e:=kI em d m f.type _ _ y (by omega) r1;have s:=A λf b=>a f (by grind);simp only[List.forIn_cons,Sem.run_bind,Sem.run_ite,k,not_false_eq_true,ne_eq,if_true,B,Result.andThen_ok,e,Sem.run_pure];simpa using s
     grind
  grind
theorem Bg{k:TypeId}{v:Value}{a:Array MapEntry}{f:MapEntry->Bool}{d:TypeDesc}(hd:P.underlying k=some d)(h:∀e∈a.toList,(Op.equal k v e.key).run P w= .ok (f e) w)(hs:∀e∈a.toList,∀b,Instr.sameNow d v e.key=some b->b=f e):(Instr.findKey k v a.toList).run P w= .ok ((a.toList.zipIdx 0).find? (λe=>f e.1) |>.map λe=>(e.2,e.1.val)) w:=by simp only[Instr.findKey,Sem.run_bind,run_underlying hd,Result.andThen_ok];cases hn:Instr.findNow d v a.toList 0 with|none=>exact tJ a.toList 0 f h|some r=>rw[findNow_spec a.toList 0 f hs hn];rfl
theorem QQ{k:TypeId}{d:TypeDesc}{v u:Value}{b c:Bool}(hd:P.underlying k=some d)(h:Instr.sameNow d v u=some b)(e:(Op.equal k v u).run P w= .ok c w):b=c:=by have a:(Op.equal k v u)=Op.equalIn (9999+1) k v u:=rfl;unfold Instr.sameNow at h;grind[run_equalIn_int,run_equalIn_string,beq_toListBytes,run_equalIn_bool']
theorem NN(I:Inv c θ D st a w){k:TypeId}{kvs:List (PV×PV)}{n:Array MapEntry}{v:Value}{p:PV}{r:Option (Nat×PV)}(J:n.size=kvs.length) (u:∀(i:Nat) (e:MapEntry) (g:PV×PV),n[i]? =some e->kvs[i]? =some g->aX D w e.key g.1/\aX D w e.val g.2) (F:aX D w v p) (hr:sj P k p kvs 0=some r) (s:∀g∈kvs,(wm P 64 k p g.1).isSome=true) (hd:(P.underlying k).isSome=true): ∃res,(Instr.findKey k v n.toList).run P w= .ok res w/\((r=none/\res=none)\/∃j g e,r=some (j,g.2)/\kvs[j]? =some g/\n[j]? =some e/\res=some (j,e.val)/\wm P 64 k p g.1=some true):=by
 have _:=I;obtain⟨d,hd⟩:=v_.1 hd;have y:∀e∈n.toList,∃(i:Nat) (g:PV×PV) (b:Bool),n[i]? =some e/\kvs[i]? =some g/\wm P 64 k p g.1=some b/\(Op.equal k v e.key).run P w= .ok b w:=by
  intro e z;obtain⟨i,B⟩:=p_ z;rw[t_]at B;have C:i<kvs.length:=by grind
  have l:=b_ C;obtain⟨b,x⟩:=v_.1 (s _ (a_ l));exact⟨i,_,b,B,l,x,J5 (P:=P) (D:=D) (w:=w) 64 k p _ b v e.key 10000 x (by simp) F (u i e _ B l).1⟩
 classical
 let f:MapEntry->Bool:=λe=>if h:e∈n.toList then(y e h).choose_spec.choose_spec.choose else false;have E:∀e,(h:e∈n.toList)->(Op.equal k v e.key).run P w= .ok (f e) w:=λe h=>by grind
 refine⟨_,(Bg (f:=f) hd E λe h b x=>QQ hd x (E e h)),?_⟩;have A:∀(j:Nat) (e:MapEntry) (g:PV×PV),n.toList[j]? =some e->kvs[j]? =some g->wm P 64 k p g.1=some (f e):=by intro j e g M l;obtain⟨b,x⟩:=v_.1 (s _ (a_ l));have h1:=J5 (P:=P) (D:=D) (w:=w) 64 k p _ b v e.key 10000 x (by simp) F (u j e g (by grind) l).1;have H:(Op.equal k v e.key).run P w= .ok b w:=h1;grind
 rcases zaq (by omega) A hr with⟨h1,h2⟩|⟨j,g,e,h1,h2,H,L⟩;all_goals grind
theorem om{g:Nat}{b:Array MapEntry}{a:Nat}(h:w.heap[g]? =some (.map b a)):(getObj g).run P w= .ok (.map b a) w:=MapKept.run_getObj_map h
theorem Lm(B:Inv c θ D st a w){K:AV->Prop}{t k e:TypeId}{m x:Operand}{d:Bool}{z:Value}(T:o.op= .lookup t m x d)(ht:P.underlying t=some (.map k e))(Y:dR P e=some z) (h:jp P st (.lookup k e d z (.of m) (.of x)) K):Yields P o a w (sK c θ st a K):=by
 obtain⟨am,hm,ax,C,id,kvs,rfl,N,p,hp,H,hd,E,r,hr,M⟩:=h;obtain⟨g,hg,y⟩:=B.get hm;obtain⟨es,I,h1,h2,R⟩:=B.ok.fQ id _ _ hg N;have f:=cQ (B.get C) hp;obtain⟨res,l,s⟩:=NN B h2 R f hr E hd;have F:∀em,(Instr.checkKey em 10000 k (a.eval x)).run P w= .ok () w:=λem=>kI em 64 10000 k _ p H (by simp) f;simp only[dR,e_]at Y;obtain⟨it,L,O⟩:=Y;have A:(zeroValue e).run P w= .ok z w:=by simp[zeroValue,typeInfo,L,O]
 have fin:∀(u:Value) (q:PV) (b:Bool),aX D w u q->(execOp a.eval o).run P w= .ok (.value (if d then .tuple #[u,.bool b]else u)) w->K (match d with|true=>.dC [.pv q,.pv (.sc (.bool b))]|false=>.p q)->Yields P o a w (sK c θ st a K):=by
  intro u q b U n M;cases d;.exact aK B n M U
  .refine aK B n M ⟨#[u,.bool b],rfl,rfl,λi v x y C=>?_⟩
   match i with|0=>simp at y C;subst y;subst C;exact U|1=>simp at y C;subst y;subst C;exact aX.sc _|i+2=>grind
 rcases s with⟨rfl,rfl⟩|⟨j,kv,Q,rfl,hj,J,rfl,_⟩;.refine fin z (.sc z) false (aX.sc z) ?_ (by grind);simp[execOp,T,Instr.lookup,run_underlying ht,y,om h1,F,l,A]
 .refine fin Q.val kv.2 true (R j Q kv J hj).2 ?_ (by grind);simp[execOp,T,Instr.lookup,run_underlying ht,y,om h1,F,l]
theorem Q6(j:Inv c θ D st a w){K:AV->Prop}{x:Operand}{t k e:TypeId}{cl:Call}(r:o.op= .call cl)(l:cl.callee= .builtin .len)(b:cl.args= #[x])(d:cl.argTypes= #[t]) (ht:P.underlying t=some (.map k e)) (h:jp P st (.oY k e (.of x)) K):Yields P o a w (sK c θ st a K):=by obtain⟨v,u,id,kvs,rfl,n,p⟩:=h;obtain⟨g,hg,s⟩:=j.get u;obtain⟨y,f,h1,h2,z⟩:=j.ok.fQ id _ _ hg n;refine aK j ?_ p (aX.sc _);simp[execOp,r,resolve,l,b,d,invoke,builtin,Builtin.len_,run_underlying ht,s,goInt,om h1,h2]
theorem NT(g:Inv c θ D st a w)(hd:∀k,o.dst=some k->k<c.n){K KP:St->Prop}{t k e:TypeId}(j:o.op= .makeMap t none){pl:Option Nat} (h:Gd st (.ir k e) λob mk=>yY st pl/\K ((st.new pl ob).aE o.dst (.b (mk (st.Zq pl))))):Leaves P o c K KP a w:=by
 intro next Q hn _;obtain⟨f,h⟩:=h;obtain⟨θ',d,hid⟩:=g.qZ f (l:=.mp w.heap.size) (o:=.map k e []) (λ_ h=>h) λθ' n=>⟨#[],0,eS w _,rfl,λi p s r=>by simp⟩;have b:(execOp a.eval o).run P w= .ok (.value (.map (some w.heap.size))) (w.alloc (.map #[] 0)):=by simp[execOp,j,Instr.makeMap]
 unfold Oper.wp;rw[b];exact hn _ _ ⟨_,h,_,_,d.put hd ⟨w.heap.size,hid,rfl⟩⟩
theorem OM(b:Inv c θ D st a w)(hd:∀k,o.dst=some k->k<c.n){K KP:St->Prop}{t k e:TypeId}(d:o.op= .makeMap t none)(h:cH P o.dst (.ir k e) st K KP):Leaves P o c K KP a w:=NT b hd d (pl:=none) ⟨trivial,h⟩
theorem F9:∀{p q:PV} {v u:Value},p.plain=true->aX D w v p->aX D w u p->Instr.sameBits 10000 v u=true:=by
 intro p q v u hp d c;cases p with
 |sc s=>rw[m5 d,m5 c];cases s<;>simp[PV.plain]at hp<;>simp[Instr.sameBits,beq_toListBytes]|agg xs=>
  cases d with
  |agg vs _ h1 h2=>
   cases c with
   |agg us _ h j=>
    simp only[PV.plain,n_]at hp;show((vs.size==us.size)&&_)=true;simp only[F_,beq_iff_eq,n_];refine⟨by omega,λx g=>?_⟩;obtain⟨i,e⟩:=p_ g;rw[List.getElem?_zip_eq_some]at e;have a:i<xs.length:=by grind
    have b:=b_ a;have f:=hp _ (a_ b);grind[m5,Instr.sameBits,beq_toListBytes]
 |_=>grind[PV.plain]
theorem Jb{h:Array Obj}{g k:Nat}{ob:Obj}(a:k≠g):(h.setIfInBounds g ob)[k]? =h[k]? :=N_ (Ne.symm a)
theorem zj(J:Inv c θ D st a w)(gc:o.dst=none){K KP:St->Prop}{t k e:TypeId}{m x y:Operand}(F:o.op= .mapUpdate t m x y\/o.op= .insert t m x y)(ht:P.underlying t=some (.map k e)) (h:cH P o.dst (.ic k e (.of m) (.of x) (.of y)) st K KP):Leaves P o c K KP a w:=by
 intro next Q hn _;obtain⟨am,hm,ax,hx,ay,hy,id,kvs,rfl,wr,p,hp,q,hq,_,C,R,hd,N,r,hr,M,hk⟩:=h;obtain⟨g,hg,hv⟩:=J.get hm;obtain⟨es,n,h1,h2,h3⟩:=J.ok.fQ id _ _ hg wr;have u:=cQ (J.get hx) hp;have At:=cQ (J.get hy) hq;obtain⟨res,H,L⟩:=NN J h2 h3 u hr N hd;have O:∀em,(Instr.checkKey em 10000 k (a.eval x)).run P w= .ok () w:=λem=>kI em 64 10000 k _ p R (by simp) u;have fin:∀(ob:Obj) (l:List (PV×PV)),(execOp a.eval o).run P w= .ok .skip {w with heap:=w.heap.setIfInBounds g ob}->(∃(s:Array MapEntry) (f:Nat),ob= .map s f/\s.size=l.length/\∀(i:Nat) (A:MapEntry) (E:PV×PV),s[i]? =some A->l[i]? =some E->aX D w A.key E.1/\aX D w A.val E.2)->K {st with hp:=st.hp.set id (.map k e l)}->o.wp P a w next Q:=by
  rintro ob l T ⟨s,f,rfl,ur,z⟩ hk
  have hD:∀b,D b->({w with heap:=w.heap.setIfInBounds g (.map s f)}:World).heap[b]? =w.heap[b]? :=λb hb=>Jb λe=>(J.ok.nj id _ g hg rfl).2 (e▸hb)
  have el:=J.store (o':=.map k e l) (w':={w with heap:=w.heap.setIfInBounds g (.map s f)}) hg rfl rfl rfl rfl (by simp) (λk' qr=>Jb qr) ⟨s,f,by grind,ur,λi A E Y B=>⟨(z i A E Y B).1.mono (λ_ h=>h) hD,(z i A E Y B).2.mono (λ_ h=>h) hD⟩⟩
  unfold Oper.wp
  rw[T]
  refine hn _ _ ⟨_,hk,θ,D,?_⟩
  have:=el.put (d:=none) (v:=undef) (x:=.v undef) (λ_ h=>by grind) (aX.sc _)
  rw[gc]
  exact this
 have I:∀(ob:Obj),(setObj g ob).run P w= .ok () {w with heap:=w.heap.setIfInBounds g ob}:=λob=>MapKept.run_setObj_map ob h1;rcases L with⟨rfl,rfl⟩|⟨j,E,A,rfl,hj,ph,rfl,_⟩
 .refine fin (.map (es.push {key:=a.eval x,val:=a.eval y,born:=n}) (n+1)) (kvs++[(p,q)]) ?_ ⟨_,_,rfl,by grind,λi A E Y B=>?_⟩ hk;.rcases F with F|F<;>simp only[execOp,F,Instr.mapUpdate,Sem.run_bind,run_underlying ht,Result.andThen_ok,hv,om h1,O,H,I,Sem.run_pure]
  grind
 .obtain⟨u',U⟩:=M j E.2 rfl;rw[hj]at U;cases U;have hold:((es[j]?).map (·.key)).getD (a.eval x)=A.key:=by grind
  refine fin (.map (es.modify j λe=>{e with key:=a.eval x,val:=a.eval y}) n) (kvs.set j (p,q)) ?_ ⟨_,_,rfl,by grind,λi Bk Bx Y B=>?_⟩ hk;.rcases F with F|F<;>simp only[execOp,F,Instr.mapUpdate,Sem.run_bind,run_underlying ht,Result.andThen_ok,hv,om h1,O,H,hold,Instr.keyThatStays,(F9 (q:=p) C (h3 j A _ ph hj).1 u),if_true,Sem.run_pure,I]
  grind
theorem Q9(l:Inv c θ D st a w){K:AV->Prop}{f:FuncId}{first caps:Array Operand}(E:o.op= .makeFunc (.func f) first caps)(B:first= #[])(h:jp P st (.rQ f (caps.toList.map SX.of)) K):Yields P o a w (sK c θ st a K):=by
 obtain⟨ars,n,d⟩:=h;obtain⟨F,H⟩:=mapM_some n;subst B;have b:(execOp a.eval o).run P w= .ok (.value (.func (.func f) #[] (caps.map a.eval))) w:=by simp[execOp,E,Instr.makeFunc]
 have e:∀(i:Nat) (x:AV),ars[i]? =some x->∃y,caps.toList[i]? =some y/\RelA θ D w (a.eval y) x:=λi x u=>by obtain⟨s,hs⟩:=bw F u;have hg:=H i s x hs u;rw[i_]at hs;cases hc:caps.toList[i]? with|none=>grind|some y=>rw[hc]at hs;cases hs;exact⟨y,rfl,l.get hg⟩
 rcases d with⟨ids,rfl,p⟩|⟨N,rfl,p⟩
 .refine aK l b p ?_;have hg:∀(i:Nat),i<ids.length->∃g:Nat,∀id y,ids[i]? =some id->caps.toList[i]? =some y->θ[id]? =some (.ek g)/\a.eval y= .pointer (some ⟨g,0,none⟩):=λi M=>by obtain⟨y,j,hr⟩:=e i (.b (.ptr ids[i] 0)) (by simp);obtain⟨g,I,J⟩:=hr;exact⟨g,λid O h1 h2=>by grind⟩
  obtain⟨A,z,L⟩:=gx hg;refine⟨A,z,λk id g hid C=>?_,?_⟩;.obtain⟨y,j,_⟩:=e k (.b (.ptr id 0)) (by grind);grind
  .congr 1;apply aJ_;apply S_;grind
 .refine aK l b p (aX.fn _ _ _ (by grind) λi v x r u=>?_);obtain⟨y,j,hr⟩:=e i (.p x) (by grind);rw[ae_]at r;rw[t_]at j;rw[j]at r;cases r;exact hr
theorem QX(l:Inv c θ D st a w)(hd:∀k,o.dst=some k->k<c.n){K KP:St->Prop}{t:TypeId}{x:Operand}(J:o.op= .box t x)(h:jp P st (.qj t (.of x)) λx=>K (st.aE o.dst x)):Leaves P o c K KP a w:=by
 intro next Q hn _;obtain⟨B,L,p,hp,v,I,H⟩:=h;obtain⟨h1,h2⟩:=oe (l.get L) v;have g:(execOp a.eval o).run P w= .ok (.value (.pointer (some ⟨w.heap.size,0,none⟩))) (w.alloc (.cells (a.eval x).cells t)):=by simp[execOp,J,Instr.box,newVar,newRow]
 have s:=l.below (D':=λb=>D b\/(w.heap.size<=b/\b<(w.alloc (.cells (a.eval x).cells t)).heap.size)) (jT w _) l.CU (λb f=>.inl f) (λb f=>f);unfold Oper.wp;rw[g];refine hn _ _ ⟨_,H,θ,_,s.put hd ?_⟩;have n:∀(j:Nat) (y:PV),p.cells[j]? =some y->∃z,B.cells[j]? =some z/\z.bF=some y:=by
  intro j y e;cases B with
  |dC xs=>grind[AV.ok,AV.cells,BV.cX,PV.cX]|agg xs=>simp only[AV.bF,d_]at hp;obtain⟨O,A,rfl⟩:=hp;obtain⟨M,N⟩:=mapM_some A;obtain⟨z,n⟩:=bw M e;exact⟨z,n,N j z y n e⟩
  |b F=>
   cases F with
   |pv q=>cases hp;exact⟨.pv y,by grind[AV.cells],rfl⟩|oZ=>cases hp;simp only[PV.cells]at e;cases j with|zero=>simp at e;subst e;exact⟨.oZ,rfl,rfl⟩|succ j=>grind
   |full q=>grind|_=>cases hp
 have d:∀(j:Nat) (y:PV),p.cells[j]? =some y->∃u,(a.eval x).cells[j]? =some u/\aX D w u y:=by
  intro j y e;obtain⟨z,C,r⟩:=n j y e;have E:j<(a.eval x).cells.size:=by grind
  exact⟨_,g_ E,lH (h2 j _ z (g_ E) C).1 r⟩
 exact pD (.inr ⟨m_ _,by simp⟩) λj y e=>by obtain⟨u,C,r⟩:=d j y e;refine⟨u,?_,r.mono (λb f=>.inl f) (λb f=>eD w _ b (l.ok.pO b f))⟩;rw[q_,cell_of_row _ _ _ (a.eval x).cells t (0,0) (eS w _)];omega
theorem OL(b:Inv c θ D st a w){K:AV->Prop}{t:TypeId}{x:Operand}(f:o.op= .makeInterface t x)(ht:(match P.underlying t with|some (.interface _)=>false|some _=>true|none=>false)=true)(h:jp P st (.iface t (.of x)) K):Yields P o a w (sK c θ st a K):=by obtain⟨g,j,e⟩:=h;cases hd:P.underlying t with|none=>grind|some d=>refine aK b ?_ e ⟨t,a.eval x,rfl⟩;rw[hd]at ht;cases d<;>simp at ht<;>simp[execOp,f,Instr.makeInterface,run_underlying hd]
theorem NR{k:IntKind}(mx:Bool):∀(c:List Int) (n:Int),((c.map λn=>Value.int k n).foldlM (if mx then Builtin.max2 else Builtin.min2) (.int k n)).run P w= .ok (.int k (c.foldl (λa b=>if mx then max a b else min a b) n)) w
 |[],n=>by rfl
 |m::c,n=>by
  have d:=NR (k:=k) mx c (if mx then max n m else min n m);simp only[aO_,List.foldlM_cons,ao_,Sem.run_bind];cases mx
  .have:(Builtin.min2 (.int k n) (.int k m)).run P w= .ok (.int k (min n m)) w:=by grind[Builtin.min2,Sem.run_pure]
   simp only[u_,if_false,this,Result.andThen_ok]at d⊢;omega
  .have:(Builtin.max2 (.int k n) (.int k m)).run P w= .ok (.int k (max n m)) w:=by grind[Builtin.max2,Sem.run_pure]
   simp only[if_true,this,Result.andThen_ok]at d⊢;omega
theorem Ge(j:Inv c θ D st a w){K:AV->Prop}{mx:Bool}{k:IntKind}{x:Operand}{ys:List Operand}{cl:Call}(v:o.op= .call cl)(d:cl.callee= .builtin (if mx then .max else .min))(p:cl.args.toList=x::ys) (h:jp P st (.mX mx k (.of x) (ys.map SX.of)) K):Yields P o a w (sK c θ st a K):=by
 obtain⟨E,A,z⟩:=h;obtain⟨f,n,hn,ars,r,e,rfl,rfl,y⟩:=cU (j.get A) z;obtain⟨F,C⟩:=mapM_some r;have s:ys.map a.eval=e.map λn=>Value.int f n:=by
  apply S_;intro i;simp;have hl:ys.length=e.length:=by grind
  rcases y_ i e.length with u|u;.have B:=b_ (l:=ys) (i:=i) (by omega);rw[B,(b_ u)];have:=C i (SX.of ys[i]) (.v (.int f e[i])) (by grind) (by simp);simp;rw[QK (j.get this)]
  grind
 have b:cl.args.toList.map a.eval=Value.int f n::e.map λn=>Value.int f n:=by grind
 refine aK j ?_ y (aX.sc _);have g:=NR (P:=P) (w:=w) (k:=f) mx e n;cases mx;.simp only[u_,if_false]at d g;simp[execOp,v,resolve,d,invoke,builtin,Builtin.min_,b,g]
 .simp only[if_true]at d g;simp[execOp,v,resolve,d,invoke,builtin,Builtin.max_,b,g]
theorem OO(d:Inv c θ D st a w){K KP:St->Prop}{x:Operand}(f:o.op= .panic x)(h:cH P o.dst (.panic (.of x)) st K KP):Leaves P o c K KP a w:=by
 intro next Q _ hp;obtain⟨k,j,rfl,e⟩:=h;obtain⟨t,u,g⟩:=d.get j;have b:(execOp a.eval o).run P w= .halt (.panic (.iface t u)) w:=by simp[execOp,f,g,Instr.panic]
 unfold Oper.wp;rw[b];exact hp _ w ⟨⟨t,u,rfl⟩,st,e,θ,D,d⟩
theorem Vi{L:List PV}{r:Option Addr}{cap sz n:Nat}(O:Inv c θ D st a w)(s:0<sz)(H:∀p∈L,p.ok=true)(hn:n<=L.length) (e:0<L.length->∃b o,r=some ⟨b,o,none⟩/\b<w.heap.size/\(∀x∈L,x.cells.length=sz)/\∀(i j:Nat) (x y:PV),L[i]? =some x->x.cells[j]? =some y->∃u,w.cell? ⟨b,o+i*sz+j,none⟩=some u/\aX D w u y): ∃d:List Value,d.length=n*sz/\(Builtin.firstCells sz n (.slice r L.length cap)).run P w= .ok d.toArray w/\(∀u∈d,u.oneCell'=true)/\(0<n->∀x∈L,x.cells.length=sz)/\∀(i j:Nat) (p q:PV),i<n->L[i]? =some p->p.cells[j]? =some q->∃u,d[i*sz+j]? =some u/\aX D w u q:=by
 rcases ag_ n with rfl|z;.refine⟨[],by simp,?_,λu M=>by grind,λh=>absurd h (by simp),λi j p q f=>absurd f (by simp)⟩;cases r with|none=>rfl|some N=>simp[run_firstCells_some]
 .obtain⟨g,B,rfl,hg,hsz,hc⟩:=e (by omega);obtain⟨d,A,Q⟩:=gx (p:=λk u=>w.cell? ⟨g,B+k,none⟩=some u/\u.oneCell'=true/\∀(p q:PV),L[k/sz]? =some p->p.cells[k%sz]? =some q->aX D w u q) (λk E=>by have f:k/sz<n:=(C_ s).2 E;have C:k%sz<sz:=ah_ _ s;have hp:=b_ (l:=L) (i:=k/sz) (by omega);have I:=hsz _ (a_ hp);have J:=b_ (l:=(L[k/sz]'(by omega)).cells) (i:=k%sz) (by omega);grind[P_,PV.ok,iK])
  refine⟨d,A,run_firstCells_some w sz n ⟨g,B,none⟩ L.length cap d A (λj v C=>by grind[addr_add]),λu M=>?_,λ_=>hsz,λi j p q f hp J=>?_⟩;.grind[p_]
  .have F:i*sz+j<d.length:=by have:(i+1)*sz<=n*sz:=f_ _ f;grind
   grind
theorem QZ(C:Inv c θ D st a w)(hd:∀k,o.dst=some k->k<c.n){K KP:St->Prop}{t u e:TypeId}{sz:Nat}{x y:Operand}{cl:Call}(ho:o.op= .call cl)(Y:cl.callee= .builtin .copy)(E:cl.args= #[x,y])(N:cl.argTypes= #[t,u]) (he:fx P t=some e) (hs:bY P e=some sz) (h0:0<sz) (h:cH P o.dst (.copy e sz (.of x) (.of y)) st K KP):Leaves P o c K KP a w:=by
 intro next Q hn _;obtain⟨ax,hx,ay,hy,hl⟩:=h;obtain⟨L,ad,v,⟨qr,id,rfl,_,ob,ph,xs,rfl,hk⟩,R,_,_,B⟩:=lG C.ok (C.get hy) hl;obtain⟨l,A,hh⟩:=C.get hx;have F:=C.ok.fQ id l _ A ph;have hu:P.underlying t=some (.slice e):=by grind[fx]
 have hsz:(sizeOf e).run P w= .ok sz w:=run_sizeOf hs;obtain⟨d,n1,n2,n3,n4,n5⟩:=Vi (P:=P) (cap:=v) (n:=min L.length xs.length) C h0 qr (Nat.min_le_left _ _) B;have fin:∀(w':World) (At:St),(Builtin.copy_ #[t,u] o.type #[a.eval x,a.eval y]).run P w= .ok (goInt ((min L.length xs.length:Nat):Int)) w'->Inv c θ D {st with hp:=st.hp.set id (.vec e sz (L.take xs.length++xs.drop L.length))} a w'->o.wp P a w next Q:=by
  intro w' _ hr U;unfold Oper.wp;have:(execOp a.eval o).run P w= .ok (.value (goInt ((min L.length xs.length:Nat):Int))) w':=by simp[execOp,ho,resolve,Y,E,N,invoke,builtin,hr]
  rw[this];refine hn _ _ ⟨_,hk,θ,D,U.put hd ?_⟩;rw[Nat.min_comm];exact aX.sc _
 cases l<;>simp only[cG,Loc.head]at F hh
 .rename_i a0;subst F;have hm:min L.length ([]:List PV).length=0:=by simp
  have H:d=[]:=k_ (by grind);subst H;have el:((min L.length ([]:List PV).length:Nat):Int)=0:=by simp
  refine fin w st ?_ ?_;.rw[hh,R,el];rw[hm]at n2;have z:(Builtin.lenOf (.slice ad L.length v)).run P w= .ok L.length w:=rfl;cases a0<;>simp[Builtin.copy_,run_underlying hu,z,hsz,n2,storeCells]
  .have I:st.hp.set id (.vec e sz (L.take ([]:List PV).length++([]:List PV).drop L.length))=st.hp:=by apply S_;grind
   rw[I];omega
 .rename_i g m cap s O;obtain⟨rfl,rfl,h3,h4,h5,r,h6,h7,h8⟩:=F;have wr:min L.length xs.length*s<=r.size:=by rw[h7];exact f_ _ (by omega)
  have M:=run_storeCells_at P g 0 e d 0 r w h6 (by omega) n3;simp only[q_,aP_,aK_,aG_]at M;have J:=jN r 0 d (by omega);simp only[aK_,aG_,q_]at J;obtain⟨s1,s2⟩:=J;refine fin (w.setRow g (d++r.toList.drop d.length).toArray) st ?_ (C.store (w':=w.setRow g (d++r.toList.drop d.length).toArray) (l:=.nP g xs.length cap s O) A (.inl rfl) rfl rfl rfl (by simp) (λk hk=>setRow_other _ _ _ _ hk) ?_);.rw[hh,R];have z:(Builtin.lenOf (.slice ad L.length v)).run P w= .ok L.length w:=rfl;have gc:Nat.min L.length xs.length=min L.length xs.length:=rfl;simp[Builtin.copy_,run_underlying hu,z,hsz,gc,n2,M]
  .have hD:∀b,D b->(w.setRow g (d++r.toList.drop d.length).toArray).heap[b]? =w.heap[b]? :=λb hb=>setRow_other _ _ _ _ λe=>(C.ok.nj id _ g A (.inl rfl)).2 (e▸hb);refine⟨rfl,by grind,h3,h4,λp hp=>?_,_,setRow_heap _ _ _ _ _ _ h6,by omega,λi j p q hp hq=>?_⟩;.grind
   .by_cases hi:i<min L.length xs.length;.rw[j_ (by grind),z_,if_pos (by omega)]at hp;obtain⟨u,e1,T⟩:=n5 i j p q hi hp hq;refine⟨u,?_,T.mono (λ_ h=>h) hD⟩;grind
    .rw[r_ (by grind),aw_]at hp;have f:L.length+(i - (L.take xs.length).length)=i\/L.length+(i - (L.take xs.length).length)>=xs.length:=by grind
     rcases f with f|f;.rw[f]at hp;obtain⟨u,e1,T⟩:=h8 i j p q hp hq;refine⟨u,?_,T.mono (λ_ h=>h) hD⟩;have ur:min L.length xs.length*s<=i*s:=f_ _ (by omega);grind
     grind
end
section
variable {P:Program} {o:Oper} {c:Ctx} {θ:List Loc} {D:Nat->Prop} {st:St} {a:Act} {w:World}
theorem UP(O:Inv c θ D st a w)(hd:∀k,o.dst=some k->k<c.n){K KP:St->Prop}{t e:TypeId}{sz bytes:Nat}{z:Value}{x y:Operand}{cl:Call}(ho:o.op= .call cl)(Bx:cl.callee= .builtin .append)(I:cl.args= #[x,y])(ph:cl.argTypes= #[t,t]) (he:fx P t=some e) (hs:bY P e=some sz) (hb:iA P e=some bytes) (hz:dR P e=some z) (DM:z.cells.size=sz) (h0:0<sz) (wr:0<bytes) {pl:Option Nat} (h:Gd st (.append e sz bytes (.of x) (.of y)) λob mk=>yY st pl/\K ((st.new pl ob).aE o.dst (.b (mk (st.Zq pl))))):Leaves P o c K KP a w:=by
 intro next Q hn _;obtain⟨ax,hx,ay,hy,hL⟩:=h;have hX:=O.get hx;obtain⟨L,ad,m,⟨JT,DB,Bk,N,R⟩,DE,Fr,DP,C⟩:=lG O.ok (O.get hy) hL;have hu:P.underlying t=some (.slice e):=by grind[fx]
 simp only[bY,d_]at hs;obtain⟨f,el,rfl⟩:=hs;have DH:f.zero=some z:=by grind[dR]
 have At:f.bytes=bytes:=by grind[iA]
 subst At;have fin:∀(v:Value) (w':World) (F:St),(Builtin.append_ #[t,t] o.type #[a.eval x,a.eval y]).run P w= .ok v w'->K F->oK c F (a.put o.dst v) w'->o.wp P a w next Q:=by
  intro v w' F hr R gc;unfold Oper.wp;have:(execOp a.eval o).run P w= .ok (.value v) w':=by simp[execOp,ho,resolve,Bx,I,ph,invoke,builtin,hr]
  rw[this];exact hn _ _ ⟨F,R,gc⟩
 have M:0<L.length->∃(ab:Addr) (d:List Value),ad=some ab/\d.length=L.length*f.size/\(∀(j:Nat) (u:Value),d[j]? =some u->w.cell? (ab.add j)=some u)/\(∀u∈d,u.oneCell'=true)/\(∀p∈L,p.cells.length=f.size)/\∀(i j:Nat) (p q:PV),L[i]? =some p->p.cells[j]? =some q->∃u,d[i*f.size+j]? =some u/\aX D w u q:=by
  intro hl
  obtain⟨g,og,rfl,hg,hsz,hc⟩:=C hl
  obtain⟨d,U,n2⟩:=gx (n:=L.length*f.size) (p:=λk u=>w.cell? ⟨g,og+k,none⟩=some u/\u.oneCell'=true/\∀(p q:PV),L[k/f.size]? =some p->p.cells[k%f.size]? =some q->aX D w u q) (λk R=>by have J:k/f.size<L.length:=(C_ h0).2 R;have hj:k%f.size<f.size:=ah_ _ h0;have hp:=b_ J;have N:=hsz _ (a_ hp);have T:=b_ (l:=(L[k/f.size]).cells) (i:=k%f.size) (by omega);grind[V_,T_,P_,a_,PV.ok,n_,iK])
  refine⟨_,d,rfl,U,λj u hj=>by grind[addr_add],λu hu=>?_,hsz,λi j p q hp T=>?_⟩
  .grind[p_]
  .have hj:j<f.size:=by grind
   have J:i<L.length:=(c_.1 hp).1;have GS:i*f.size+j<d.length:=by rw[U];have:(i+1)*f.size<=L.length*f.size:=f_ _ J;grind
   grind
 have E:∀(w':World) (r d:List Value) (xs:List PV) (Y:Array Value) (k:Nat),(∀b,D b->w'.heap[b]? =w.heap[b]?)->r.length=xs.length*f.size->Y.size=k*f.size->(∀j,j<r.length->Y[j]? =r[j]?)->(∀j,j<d.length->Y[r.length+j]? =d[j]?)->(∀p∈xs,p.cells.length=f.size)->(∀p∈L,p.cells.length=f.size)->d.length=L.length*f.size->(∀(i j:Nat) (p q:PV),xs[i]? =some p->p.cells[j]? =some q->∃u,r[i*f.size+j]? =some u/\aX D w u q)->(∀(i j:Nat) (p q:PV),L[i]? =some p->p.cells[j]? =some q->∃u,d[i*f.size+j]? =some u/\aX D w u q)->∀(i j:Nat) (p q:PV),(xs++L)[i]? =some p->p.cells[j]? =some q->∃u,Y[i*f.size+j]? =some u/\aX D w' u q:=by
  intro w' r d xs Y k B Dg Fm Fk CD KK DS Hx ro rn i j p q hp T
  rcases y_ i xs.length with J|J
  .rw[j_ J]at hp;obtain⟨u,e1,e2⟩:=ro i j p q hp T;exact⟨u,by grind,e2.mono (λ_ h=>h) B⟩
  .rw[r_ J]at hp;obtain⟨u,e1,e2⟩:=rn _ j p q hp T;refine⟨u,?_,e2.mono (λ_ h=>h) B⟩;have:=CD _ (c_.1 e1).1;rw[e1]at this;rw[<-this,Dg];congr 1;have:i*f.size=xs.length*f.size+(i - xs.length)*f.size:=by rw[<-w_];grind
   omega
 have A:∀(k:Nat),L.length*f.bytes<=k->L.length<=k:=λk h=>E_ (D_ _ wr) h;obtain⟨s,DA⟩:∃s,a.eval x= .slice s 0 0:=by
  rcases DB with rfl|rfl;.exact⟨none,hX⟩
  .obtain⟨h1,a0,n0,h2⟩:=hX;refine⟨a0,?_⟩;rw[h2]at h1⊢;cases h1;rfl
 have DQ:L.length<=140737488355328:=A _ Bk;by_cases H:L.length=0;.have ur:L=[]:=k_ H;subst ur;obtain⟨θ',hp,hid⟩:=O.Yg N (l:=.nil s) (o:=.vec e f.size []) (λθ' _=>rfl) (λg hg=>by cases hg);refine fin (.slice s 0 0) w _ ?_ R ⟨_,D,hp.put hd ⟨.nil s,hid,rfl⟩⟩;rw[DA,DE];exact dx hu el s 0 0 (m_ _) ad m
 .obtain⟨ab,d,rfl,U,n2,n3,n4,n5⟩:=M (o_ H);have hr:=eO (P:=P) (w:=w) (ty:=o.type) hu el DH s ab L.length m d U n2 (o_ H) (by omega) (by omega);have CT:=grownCap_ge w L.length 0 e;have BT:grownCap w L.length 0 e<=maxLen:=grownCap_le_maxLen w _ 0 e (by grind[maxLen]);have hcs:(d.toArray++Builtin.zeroCells z.cells (grownCap w L.length 0 e - L.length)).size=grownCap w L.length 0 e*f.size:=by simp only[L_,M_,gj,DM,U,<-w_];grind
  have B:∀b,D b->(w.drew.alloc (.cells (d.toArray++Builtin.zeroCells z.cells (grownCap w L.length 0 e - L.length)) e)).heap[b]? =w.heap[b]? :=λb hb=>eD w.drew _ b (O.ok.pO b hb);obtain⟨θ',qr,hid⟩:=O.drew.qZ N (l:=.nP w.heap.size L.length (grownCap w L.length 0 e) f.size none') (o:=.vec e f.size L) (ob:=.cells (d.toArray++Builtin.zeroCells z.cells (grownCap w L.length 0 e - L.length)) e) (λ_ h=>h.elim (λh=>h) False.elim) λθ' MT=>⟨rfl,rfl,CT,BT,n4,_,eS w.drew _,hcs,λi j p q hp T=>by have:=E _ [] d [] _ _ B (by simp) hcs (λj hj=>by grind) (λj hj=>by simp only[x_,q_];grind) (λp hp=>by grind) n4 U (λi j p q hp=>by grind) n5 i j p q (by grind) T;omega⟩
  refine fin _ _ _ ?_ R ⟨_,D,qr.put hd ⟨_,hid,rfl⟩⟩;grind
theorem QV(hI:Inv c θ D st a w)(hd:∀k,o.dst=some k->k<c.n){K KP:St->Prop}{t e:TypeId}{sz bytes:Nat}{z:Value}{x y:Operand}{cl:Call}(ho:o.op= .call cl)(Fm:cl.callee= .builtin .append)(gc:cl.args= #[x,y])(DB:cl.argTypes= #[t,t]) (he:fx P t=some e) (hs:bY P e=some sz) (M:iA P e=some bytes) (hz:dR P e=some z) (KK:z.cells.size=sz) (h0:0<sz) (DS:0<bytes) (h:jp P st (.pM e sz bytes (.of x) (.of y)) λx=>K (st.aE o.dst x)):Leaves P o c K KP a w:=by
 intro next Q hn _;obtain⟨ax,hx,ay,hy,hL⟩:=h;have hX:=hI.get hx;obtain⟨L,ad,m,⟨PB,r,DE,ph,hk⟩,DH,Pc,MT,N⟩:=lG hI.ok (hI.get hy) hL;have hu:P.underlying t=some (.slice e):=by grind[fx]
 simp only[bY,d_]at hs;obtain⟨s,qr,rfl⟩:=hs;have DM:s.zero=some z:=by grind[dR]
 have Fk:s.bytes=bytes:=by grind[iA]
 subst Fk;have fin:∀(v:Value) (w':World) (U:St),(Builtin.append_ #[t,t] o.type #[a.eval x,a.eval y]).run P w= .ok v w'->K U->oK c U (a.put o.dst v) w'->o.wp P a w next Q:=by
  intro v w' U hr hk Dg;unfold Oper.wp;have:(execOp a.eval o).run P w= .ok (.value v) w':=by simp[execOp,ho,resolve,Fm,gc,DB,invoke,builtin,hr]
  rw[this];exact hn _ _ ⟨U,hk,Dg⟩
 have ur:0<L.length->∃(ab:Addr) (f:List Value),ad=some ab/\f.length=L.length*s.size/\(∀(j:Nat) (u:Value),f[j]? =some u->w.cell? (ab.add j)=some u)/\(∀u∈f,u.oneCell'=true)/\(∀p∈L,p.cells.length=s.size)/\∀(i j:Nat) (p q:PV),L[i]? =some p->p.cells[j]? =some q->∃u,f[i*s.size+j]? =some u/\aX D w u q:=by
  intro hl
  obtain⟨g,og,rfl,hg,hsz,hc⟩:=N hl
  obtain⟨f,F,n2⟩:=gx (n:=L.length*s.size) (p:=λk u=>w.cell? ⟨g,og+k,none⟩=some u/\u.oneCell'=true/\∀(p q:PV),L[k/s.size]? =some p->p.cells[k%s.size]? =some q->aX D w u q) (λk hk=>by
   have C:k/s.size<L.length:=(C_ h0).2 hk;have E:k%s.size<s.size:=ah_ _ h0;have hp:=b_ C;have JT:=hsz _ (a_ hp);have A:=b_ (l:=(L[k/s.size]).cells) (i:=k%s.size) (by omega);obtain⟨u,B,Y⟩:=hc _ _ _ _ hp A;refine⟨u,?_,?_,λp q wr At=>?_⟩;.rw[<-B,V_,T_,P_]
   all_goals grind[a_,PV.ok,n_,iK])
  refine⟨_,f,rfl,F,λj u E=>by grind[addr_add],λu hu=>?_,hsz,λi j p q hp A=>?_⟩
  .grind[p_]
  .have E:j<s.size:=by grind
   have C:i<L.length:=(c_.1 hp).1;have Hx:i*s.size+j<f.length:=by rw[F];have:(i+1)*s.size<=L.length*s.size:=f_ _ C;grind
   grind
 have T:∀(w':World) (d f:List Value) (xs:List PV) (cv:Array Value) (k:Nat),(∀b,D b->w'.heap[b]? =w.heap[b]?)->d.length=xs.length*s.size->cv.size=k*s.size->(∀j,j<d.length->cv[j]? =d[j]?)->(∀j,j<f.length->cv[d.length+j]? =f[j]?)->(∀p∈xs,p.cells.length=s.size)->(∀p∈L,p.cells.length=s.size)->f.length=L.length*s.size->(∀(i j:Nat) (p q:PV),xs[i]? =some p->p.cells[j]? =some q->∃u,d[i*s.size+j]? =some u/\aX D w u q)->(∀(i j:Nat) (p q:PV),L[i]? =some p->p.cells[j]? =some q->∃u,f[i*s.size+j]? =some u/\aX D w u q)->∀(i j:Nat) (p q:PV),(xs++L)[i]? =some p->p.cells[j]? =some q->∃u,cv[i*s.size+j]? =some u/\aX D w' u q:=by
  intro w' d f xs cv k I O Pb Pa Fr Bx Nd PA ro rn i j p q hp A
  rcases y_ i xs.length with C|C
  .rw[j_ C]at hp;obtain⟨u,B,Y⟩:=ro i j p q hp A;exact⟨u,by grind,Y.mono (λ_ h=>h) I⟩
  .rw[r_ C]at hp;obtain⟨u,B,Y⟩:=rn _ j p q hp A;refine⟨u,?_,Y.mono (λ_ h=>h) I⟩;have:=Fr _ (c_.1 B).1;rw[B]at this;rw[<-this,O];congr 1;have:i*s.size=xs.length*s.size+(i - xs.length)*s.size:=by rw[<-w_];grind
   omega
 have DP:r.length+L.length<=140737488355328:=E_ (D_ _ DS) ph;obtain⟨H,Bk,hold⟩:∃H:Option Addr,a.eval x= .slice H r.length r.length/\(0<r.length->∃b o',H=some ⟨b,o',none⟩/\(∀p∈r,p.cells.length=s.size)/\∃d:List Value,d.length=r.length*s.size/\(∀(j:Nat) (u:Value),d[j]? =some u->w.cell? ⟨b,o'+j,none⟩=some u)/\∀(i j:Nat) (p q:PV),r[i]? =some p->p.cells[j]? =some q->∃u,d[i*s.size+j]? =some u/\aX D w u q):=by
  rcases DE with⟨rfl,rfl⟩|rfl
  .exact⟨none,hX,λh=>absurd h (by simp)⟩
  .obtain⟨h1,H,n0,h2⟩:=hX;obtain⟨a1,cap,B,Y,e3⟩:=oj h1;rw[h2]at B;cases B;refine⟨H,h2,λhl=>?_⟩;obtain⟨b,o',rfl,M,hsz,hc⟩:=e3 hl;obtain⟨d,F,n2⟩:=gx (n:=r.length*s.size) (p:=λk u=>w.cell? ⟨b,o'+k,none⟩=some u/\∀(p q:PV),r[k/s.size]? =some p->p.cells[k%s.size]? =some q->aX D w u q) (λk hk=>by
    have C:k/s.size<r.length:=(C_ h0).2 hk;have E:k%s.size<s.size:=ah_ _ h0;have hp:=b_ C;have JT:=hsz _ (a_ hp);have A:=b_ (l:=(r[k/s.size]).cells) (i:=k%s.size) (by omega);obtain⟨u,B,Y⟩:=hc _ _ _ _ hp A;refine⟨u,?_,λp q wr At=>?_⟩;.rw[<-B,V_,T_,P_]
    .rw[hp]at wr;cases wr;rw[A]at At;cases At;omega)
   refine⟨b,o',rfl,hsz,d,F,λj u E=>(n2 j u E).1,λi j p q hp A=>?_⟩;have E:j<s.size:=by rw[<-hsz p (a_ hp)];exact(c_.1 A).1
   have C:i<r.length:=(c_.1 hp).1;have Hx:i*s.size+j<d.length:=by rw[F];have:(i+1)*s.size<=r.length*s.size:=f_ _ C;rw[w_,ak_]at this;omega
   grind
 by_cases J:L.length=0
 .have el:L=[]:=k_ J;subst el;refine fin (.slice H r.length r.length) w _ ?_ hk ⟨θ,D,hI.put hd ?_⟩;.rw[Bk,DH];exact dx hu qr H _ _ (m_ _) ad m
  .rw[an_];rcases DE with⟨rfl,rfl⟩|rfl;.exact .nil _ _
   .obtain⟨h1,_⟩:=hX;rw[Bk]at h1;exact h1
 .obtain⟨ab,f,rfl,F,n2,n3,n4,n5⟩:=ur (o_ J);have grow:∀(d:List Value),d.length=r.length*s.size->(∀p∈r,p.cells.length=s.size)->(∀(i j:Nat) (p q:PV),r[i]? =some p->p.cells[j]? =some q->∃u,d[i*s.size+j]? =some u/\aX D w u q)->(Builtin.append_ #[t,t] o.type #[.slice H r.length r.length,.slice (some ab) L.length m]).run P w= .ok (.slice (some ⟨w.heap.size,0,none⟩) (r.length+L.length) (grownCap w (r.length+L.length) r.length e)) (w.drew.alloc (.cells (d.toArray++f.toArray++Builtin.zeroCells z.cells (grownCap w (r.length+L.length) r.length e - (r.length+L.length))) e))->o.wp P a w next Q:=by
   intro d O Bx ro DA
   have GS:=grownCap_ge w (r.length+L.length) r.length e
   have hcs:(d.toArray++f.toArray++Builtin.zeroCells z.cells (grownCap w (r.length+L.length) r.length e - (r.length+L.length))).size=grownCap w (r.length+L.length) r.length e*s.size:=by simp only[L_,M_,gj,KK,O,F,<-w_];congr 1;omega
   generalize R:w.drew.alloc (.cells (d.toArray++f.toArray++Builtin.zeroCells z.cells (grownCap w (r.length+L.length) r.length e - (r.length+L.length))) e)=w' at DA
   have I:∀b,D b->w'.heap[b]? =w.heap[b]? :=λb M=>by rw[<-R];exact eD w.drew _ b (hI.ok.pO b M)
   have CT:w'.heap[w.heap.size]? =some (.cells (d.toArray++f.toArray++Builtin.zeroCells z.cells (grownCap w (r.length+L.length) r.length e - (r.length+L.length))) e):=by rw[<-R];exact eS w.drew _
   have CD:w.heap.size<w'.heap.size:=by rw[<-R];simp
   have DQ:=hI.drew.below (D':=λb=>D b\/(w.heap.size<=b/\b<w'.heap.size)) (w':=w') (by rw[<-R];exact jT w.drew _) hI.CU (λb M=>.inl M) (λb M=>M)
   refine fin (.slice (some ⟨w.heap.size,0,none⟩) (r.length+L.length) (grownCap w (r.length+L.length) r.length e)) w' _ ?_ hk ⟨θ,_,DQ.put hd ?_⟩
   .rw[Bk,DH];omega
   .have hh:aX (λb=>D b\/(w.heap.size<=b/\b<w'.heap.size)) w' (.slice (some ⟨w.heap.size,0,none⟩) (r++L).length (grownCap w (r.length+L.length) r.length e)) (lB s.size (r++L)):=by
     refine gA (by simpa using GS) λ_=>⟨w.heap.size,0,rfl,.inr ⟨m_ _,CD⟩,λp hp=>(K_.1 hp).elim (Bx p) (n4 p),λi j p q hp A=>?_⟩;obtain⟨u,B,Y⟩:=T w' d f r _ _ I O hcs (λj E=>by rw[l_ (by simp;omega),l_ (by omega)];simp) (λj E=>by rw[l_ (by simp;omega),R_ (by simp)];simp) Bx n4 F ro n5 i j p q hp A
     refine⟨u,?_,Y.mono (λb M=>.inl M) (λ_ _=>rfl)⟩;rw[q_,cell_of_row _ _ _ _ e (0,0) CT];omega
    rw[W_]at hh;exact hh
  by_cases BT:r.length=0;.have el:r=[]:=k_ BT;subst el;have hr:=eO (P:=P) (w:=w) (ty:=o.type) hu qr DM H ab L.length m f F n2 (o_ J) (by omega) (by simp only[x_,q_]at ph;omega);refine grow [] (by simp) (λp hp=>by cases hp) (λi j p q hp=>by simp at hp) ?_;simpa using hr
  .obtain⟨b,o',rfl,hsz,d,m1,m2,m3⟩:=hold (o_ BT);have q1:0<L.length:=o_ J;have q2:r.length<r.length+L.length:=Nat.lt_add_of_pos_right q1;have q3:0<r.length+L.length:=Nat.add_pos_right _ q1;have q4:r.length+L.length<=9223372036854775807:=E_ DP (by simp);have q5:((r.length+L.length:Nat):Int)<=9223372036854775807:=Int.ofNat_le.2 q4;have hr:=run_append_grow (P:=P) w t o.type e s z hu qr DM ⟨b,o',none⟩ r.length r.length d m1 (λj u E=>by rw[addr_add];exact m2 j u E) ab L.length m f F n2 (by omega) (by omega) (growslice_fits (by omega) ph);exact grow d m1 hsz m3 hr
end
section
variable {P:Program} {o:Oper} {c:Ctx} {θ:List Loc} {D:Nat->Prop} {st:St} {a:Act} {w:World}
end
section
variable {P:Program} {o:Oper} {c:Ctx} {θ:List Loc} {D:Nat->Prop} {st:St} {a:Act} {w:World}
theorem jQ{a:Type}{xs:Array a}{x:a}(h:xs.toList=[x]):xs= #[x]:=by apply aJ_;simpa using h
theorem jR{a:Type}{xs:Array a}{x y:a}(h:xs.toList=[x,y]):xs= #[x,y]:=by apply aJ_;simpa using h
theorem bm{s s':fh}(a:∀k q,s≠.uq k q)(h:s.canon=s')(h1:∀e z l c,s'≠.bI false e z l c)(h2:∀f xs,s'≠.call false f xs)(d:∀t x,s'≠.box t x)(g:∀x xs,s'≠.fw false [] x xs)(j:∀e z b x y,s'≠.append e z b x y)(n:∀e z b v x y,s'≠.cO e z b v x y:=by simp):s=s':=by cases s<;>simp only[fh.canon]at h<;>first|omega|grind|grind|grind|grind|grind|grind|grind
theorem pg(f:Inv c θ D st a w){q:Option Operand}{b:Nat}{e:Nat->Prop}(h:qd st (q.map SX.of) b e): ∃n,e n/\((q=none/\n=b)\/∃x k,∃m:Int,q=some x/\a.eval x= .int k m/\0<=m/\n=m.toNat):=by cases q with|none=>exact⟨b,h,.inl ⟨rfl,rfl⟩⟩|some x=>obtain⟨g,d,h⟩:=h;obtain⟨k,m,p,j,l⟩:=cU (f.get d) h;grind
theorem iU{k:IntKind}{m:Int}{y:Nat}{code:BoundsCode}(a:0<=m)(h1:m.toNat<=y):(Instr.sliceBound (.int k m) y code).run P w= .ok m.toNat w:=by
 have h2:m<=(y:Int):=by omega
 simp only[Instr.sliceBound,asIntOf,Sem.run_bind,Sem.run_pure,Result.andThen_ok];rw[if_pos ⟨a,h2⟩];rfl
theorem xe(z:Inv c θ D st a w){lo e mx:Option Operand}{isS:Bool}{len cap l h m:Nat} (hl:(lo=none/\l=0)\/∃x k,∃m:Int,lo=some x/\a.eval x= .int k m/\0<=m/\l=m.toNat) (p:(e=none/\h=len)\/∃x k,∃m:Int,e=some x/\a.eval x= .int k m/\0<=m/\h=m.toNat) (r:(mx=none/\m=len)\/∃x k,∃m':Int,mx=some x/\a.eval x= .int k m'/\0<=m'/\m=m'.toNat) (s:mx.isSome=true->e.isSome=true) (h1:l<=h) (h2:h<=m) (u:m<=len) (v:len<=cap):(Instr.sliceBounds isS len cap (lo.map a.eval) (e.map a.eval) (mx.map a.eval)).run P w= .ok (l,h,if mx.isSome then m else cap) w:=by
 rcases r with⟨rfl,rfl⟩|⟨L,C,H,rfl,j,n,rfl⟩<;>rcases p with⟨rfl,rfl⟩|⟨J,B,F,rfl,b,d,rfl⟩<;>rcases hl with⟨rfl,rfl⟩|⟨I,A,E,rfl,f,g,rfl⟩;.simp[Instr.sliceBounds]
 .simp[Instr.sliceBounds,f,iU g h1]
 .simp[Instr.sliceBounds,b,iU (y:=cap) d (by omega)]
 .simp[Instr.sliceBounds,b,f,iU (y:=cap) d (by omega),iU g h1]
 .grind
 .grind
 .simp[Instr.sliceBounds,j,b,iU (y:=cap) n (by omega),iU d h2]
 .simp[Instr.sliceBounds,j,b,f,iU (y:=cap) n (by omega),iU d h2,iU g h1]
theorem Vq(d:Inv c θ D st a w){K:AV->Prop}{t e:TypeId}{sz:Nat}{x:Operand}{lo E mx:Option Operand}(O:o.op= .slice t x lo E mx)(ht:P.underlying t=some (.slice e))(hs:bY P e=some sz) (h:jp P st (.Je sz (.of x) (lo.map .of) (E.map .of) (mx.map .of)) K):Yields P o a w (sK c θ st a K):=by
 obtain⟨ax,T,⟨q,R,L,rfl,f⟩|⟨id,rfl,o',I,e',k',L,g',rfl,f⟩⟩:=h
 rotate_left
 .obtain⟨n,b,cap,hn,hcap,M⟩:∃n b cap,n=L.length/\n<=cap/\a.eval x= .slice b n cap:=by obtain⟨l,hl,z⟩:=d.get T;have J:=d.ok.fQ id l _ hl I;cases l<;>simp only[cG,Loc.head]at J z;all_goals grind
  obtain⟨l,f,hl⟩:=pg d f;obtain⟨h,f,z⟩:=pg d f;obtain⟨m,⟨H,h1,h2,C,rfl,u⟩,F⟩:=pg d f;subst hn;have hr:=xe (P:=P) (isS:=true) d hl z F (by grind) h1 h2 C hcap;refine aK d (v:=.slice (if(if mx.isSome then m else cap)=h then b else b.map (·.add (h*sz))) 0 ((if mx.isSome then m else cap) - h)) ?_ u (.nil _ _);simp only[execOp,O,Instr.sliceAt,Sem.run_bind,run_underlying ht,Result.andThen_ok,Instr.slice,M,hr,run_sizeOf hs,Sem.run_pure,Nat.sub_self]
 obtain⟨b,cap,M,hcap,k⟩:=oj (cQ (d.get T) R);obtain⟨l,f,hl⟩:=pg d f;obtain⟨hn,f,z⟩:=pg d f;obtain⟨m,⟨H,h1,h2,C,u⟩,F⟩:=pg d f;have B:mx.isSome=true->E.isSome=true:=by grind
 have hr:=xe (P:=P) (isS:=true) d hl z F B h1 h2 C hcap;generalize Y:(if mx.isSome then m else cap)=y at hr;have N:hn<=y/\y<=cap:=by grind
 have s:(execOp a.eval o).run P w= .ok (.value (.slice (if y=l then b else b.map (·.add (l*sz))) (hn - l) (y - l))) w:=by simp only[execOp,O,Instr.sliceAt,Sem.run_bind,run_underlying ht,Result.andThen_ok,Instr.slice,M,hr,run_sizeOf hs,Sem.run_pure]
 have r:aX D w (.slice (if y=l then b else b.map (·.add (l*sz))) (hn - l) (y - l)) (lB sz ((L.take hn).drop l)):=by
  have A:((L.take hn).drop l).length=hn - l:=by grind
  rw[<-A];refine gA (by omega) λQ=>?_;obtain⟨g,og,rfl,hg,hsz,hc⟩:=k (by omega);rw[if_neg (by omega)];refine⟨g,og+l*sz,by simp[addr_add],hg,λp hp=>hsz p (List.mem_of_mem_take (List.mem_of_mem_drop hp)),λi j p q hp R=>?_⟩;all_goals grind
 rcases u with u|⟨el,U,u⟩;.exact aK d s u r
 .refine aK d (x:=.b (.full (lB sz ((L.take hn).drop l)))) s u ⟨r,(if y=l then b else b.map (·.add (l*sz))),hn - l,?_⟩;grind
theorem Rc(b:Inv c θ D st a w){K:AV->Prop}{t:TypeId}{x:Operand}{lo e:Option Operand}(j:o.op= .slice t x lo e none)(ht:P.underlying t=some .string) (h:jp P st (.qJ (.of x) (lo.map .of) (e.map .of)) K):Yields P o a w (sK c θ st a K):=by obtain⟨p,n,k⟩:=h;obtain⟨s,hs,d⟩:=cU (b.get n) k;obtain⟨l,d,hl⟩:=pg b d;obtain⟨hn,⟨h1,h2,g⟩,f⟩:=pg b d;have hr:=xe (P:=P) (isS:=false) b hl f (.inl ⟨rfl,rfl⟩) (by simp) h1 h2 (m_ _) (m_ _);refine aK b ?_ g (aX.sc _);simp only[Option.map_none]at hr;simp[execOp,j,Instr.sliceAt,run_underlying ht,Instr.slice,hs,hr]
end
section
variable {P:Program} {o:Oper} {c:Ctx} {θ:List Loc} {D:Nat->Prop} {st:St} {a:Act} {w:World}
theorem PX{s:fh}{f:FuncId}{xs:List SX}(a:∀k q,s≠.uq k q)(h:s.canon= .call false f xs):(∃b,s= .call b f xs)\/∃b B,s= .gP b B f xs:=by cases s<;>simp_all[fh.canon]
theorem ME{s:fh}{x:SX}{xs:List SX}(a:∀k q,s≠.uq k q)(h:s.canon= .fw false [] x xs):(∃b B,s= .fw b B x xs)\/∃b,s= .im b x xs:=by cases s<;>simp_all[fh.canon]
theorem TZ{s:fh}{e:TypeId}{x:SX}(a:∀k q,s≠.uq k q)(h:s.canon= .box e x):s= .box e x\/s= .qj e x:=by cases s<;>simp_all[fh.canon]
theorem JW{s:fh}{e:TypeId}{z l:Nat}{xs:List SX}(a:∀k q,s≠.uq k q)(h:s.canon= .bI false e z l xs):(∃b,s= .bI b e z l xs)\/s= .eo e z l xs:=by cases s<;>simp_all[fh.canon]
theorem JX{s:fh}{e:TypeId}{z b:Nat}{v:Value}{x y:SX}(a:∀k q,s≠.uq k q)(h:s.canon= .cO e z b v x y):s= .cO e z b v x y\/∃k,s= .dE k e z b v x y:=by cases s<;>simp_all[fh.canon]
theorem JV{s:fh}{e:TypeId}{z b:Nat}{x y:SX}(a:∀k q,s≠.uq k q)(h:s.canon= .append e z b x y):s= .append e z b x y\/s= .pM e z b x y\/∃k,s= .pN k e z b x y:=by cases s<;>simp_all[fh.canon]
def sOk(P:Program)(o:Oper):Bool:=match o.op with
 | .binOp _ t _ _ _=>match P.underlying t with
  |some (.struct _)=> !P.eqGuardType P.depth t
  |_=>true
 | .makeInterface t _=>match P.underlying t with
  |some (.interface _)=>false
  |some _=>true
  |none=>false
 | .panic x=>match x with
  | .tmp _=>true
  |_=>false
 |_=>true
theorem G5(r:Inv c θ D st a w)(hd:∀k,o.dst=some k->k<c.n){s:fh}{K KP:St->Prop}(g:∀k q,s≠.uq k q)(hc:hU P o=some s.canon)(Y:sOk P o=true)(h:cH P o.dst s st K KP):Leaves P o c K KP a w:=by
 have d:Yields P o a w (sK c θ st a λx=>K (st.aE o.dst x))->Leaves P o c K KP a w:=λhy=>AJ hd hy λ_ h=>h;unfold hU at hc;split at hc;.rename_i x j;cases bm g (h_ hc).symm (by simp) (by simp) (by simp) (by simp) (by simp);exact d (ON r (.inl j) h)
 .rename_i x j;cases bm g (h_ hc).symm (by simp) (by simp) (by simp) (by simp) (by simp);exact d (ON r (.inr j) h)
 .rename_i x y z j;cases bm g (h_ hc).symm (by simp) (by simp) (by simp) (by simp) (by simp);exact d (Rb r j h)
 .rename_i op t x y t' j;split at hc;.cases bm g (h_ hc).symm (by simp) (by simp) (by simp) (by simp) (by simp);exact d (Jg r j h)
  .cases bm g (h_ hc).symm (by simp) (by simp) (by simp) (by simp) (by simp);exact d (Jg r j h)
  .rename_i ht;split at hc;.cases bm g (h_ hc).symm (by simp) (by simp) (by simp) (by simp) (by simp);exact d (Jh (neg:=false) r j ht h)
   .cases bm g (h_ hc).symm (by simp) (by simp) (by simp) (by simp) (by simp);exact d (Jh (neg:=true) r j ht h)
   grind
  .rename_i fs ht;have hg:P.eqGuardType P.depth t=false:=by grind[sOk]
   split at hc;.cases bm g (h_ hc).symm (by simp) (by simp) (by simp) (by simp) (by simp);exact d (Ji (neg:=false) r j rfl ht hg h)
   .cases bm g (h_ hc).symm (by simp) (by simp) (by simp) (by simp) (by simp);exact d (Ji (neg:=true) r j rfl ht hg h)
   grind
  grind
 .rename_i op t x j;cases bm g (h_ hc).symm (by simp) (by simp) (by simp) (by simp) (by simp);exact d (YW r j h)
 .rename_i cl j;split at hc
  .rename_i A;split at hc
   .rename_i x t p C;split at hc;.rename_i e ht;cases bm g (h_ hc).symm (by simp) (by simp) (by simp) (by simp) (by simp);exact d (Vp r j A (jQ p) (jQ C) ht h)
    .rename_i ht;cases bm g (h_ hc).symm (by simp) (by simp) (by simp) (by simp) (by simp);exact d (Q7 r j A (jQ p) (jQ C) ht h)
    .rename_i n e ht;cases bm g (h_ hc).symm (by simp) (by simp) (by simp) (by simp) (by simp);refine d (OK r ?_ h);simp[execOp,j,resolve,A,jQ p,jQ C,invoke,builtin,Builtin.len_,run_underlying ht,goInt]
    .rename_i k e ht;cases bm g (h_ hc).symm (by simp) (by simp) (by simp) (by simp) (by simp);exact d (Q6 r j A (jQ p) (jQ C) ht h)
    grind
   grind
  .rename_i A;split at hc
   .rename_i x y t u p C;split at hc
    .rename_i R;subst R;simp only[e_]at hc;obtain⟨e,I,s',hs,b,N,z,H,hc⟩:=hc;split at hc
     .rename_i E;obtain⟨h1,h2,M⟩:=E;rcases JV g (h_ hc).symm with rfl|rfl|⟨k,rfl⟩;.exact Lk r hd j A (jR p) (jR C) I hs N H h1 h2 M h
      .exact QV r hd j A (jR p) (jR C) I hs N H h1 h2 M h
      grind[QW,jR]
     grind
    grind
   grind
  .rename_i A;split at hc
   .rename_i x y t u p C;simp only[e_]at hc;obtain⟨e,I,e',U,s',hs,hc⟩:=hc;split at hc;.rename_i E;obtain⟨rfl,h0⟩:=E;cases bm g (h_ hc).symm (by simp) (by simp) (by simp) (by simp) (by simp);grind[QZ,jR]
    grind
   grind
  .rename_i A;split at hc
   .rename_i x ys t l p C;split at hc;.cases bm g (h_ hc).symm (by simp) (by simp) (by simp) (by simp) (by simp);exact d (Ge (mx:=false) r j A p h)
    grind
   grind
  .rename_i A;split at hc
   .rename_i x ys t l p C;split at hc;.cases bm g (h_ hc).symm (by simp) (by simp) (by simp) (by simp) (by simp);exact d (Ge (mx:=true) r j A p h)
    grind
   grind
  .rename_i f A;split at hc
   .rename_i L;rcases PX g (h_ hc).symm with⟨bor,rfl⟩|⟨bor,B,rfl⟩;.exact QY r hd j A L h
    grind[OH]
   grind
  .rename_i t A;rcases ME g (h_ hc).symm with⟨bor,B,rfl⟩|⟨bor,rfl⟩;.grind[OJ]
   .exact OI r hd j A h
  grind
 .rename_i t x i j;split at hc;.rename_i ht;cases bm g (h_ hc).symm (by simp) (by simp) (by simp) (by simp) (by simp);exact d (Q4 r j ht h)
  .rename_i n e ht;split at hc;.rename_i F;obtain⟨O,F⟩:=v_.1 F;simp only[d_]at hc;obtain⟨sz,hs,hc⟩:=hc;cases bm g hc.symm (by simp) (by simp) (by simp) (by simp) (by simp);exact d (Q5 r j ht F hs h)
   grind
  grind
 .rename_i t x i j;split at hc;.rename_i e ht;simp only[d_]at hc;obtain⟨sz,hs,hc⟩:=hc;cases bm g hc.symm (by simp) (by simp) (by simp) (by simp) (by simp);exact d (Q2 r j ht hs h)
  .rename_i n e ht;simp only[d_]at hc;obtain⟨sz,hs,hc⟩:=hc;cases bm g hc.symm (by simp) (by simp) (by simp) (by simp) (by simp);exact d (Q3 r j ht hs h)
  grind
 .rename_i t x f j;simp only[e_]at hc;obtain⟨T,L,sz,hs,hc⟩:=hc;split at hc;.grind
  .rename_i hsz;cases bm g (h_ hc).symm (by simp) (by simp) (by simp) (by simp) (by simp);exact d (Q1 r j L hs hsz h)
 .rename_i t x f j;simp only[e_]at hc;obtain⟨T,L,hc⟩:=hc;split at hc;.rename_i F;obtain⟨O,F⟩:=v_.1 F;simp only[d_]at hc;obtain⟨sz,hs,hc⟩:=hc;cases bm g hc.symm (by simp) (by simp) (by simp) (by simp) (by simp);exact d (Vo r j L F hs h)
  grind
 .rename_i t x j;simp only[e_]at hc;obtain⟨sz,hs,hc⟩:=hc;split at hc;.rename_i F;obtain⟨O,F⟩:=v_.1 F;cases bm g (h_ hc).symm (by simp) (by simp) (by simp) (by simp) (by simp);exact d (Q8 r j F hs h)
  grind
 .rename_i t x v j;simp only[d_]at hc;obtain⟨sz,hs,hc⟩:=hc;cases bm g hc.symm (by simp) (by simp) (by simp) (by simp) (by simp);have J:o.dst=none:=by obtain⟨_,_,_,_,h1,_⟩:=h;omega
  grind[OP]
 .rename_i e j;simp only[d_]at hc;obtain⟨z,H,hc⟩:=hc;cases bm g hc.symm (by simp) (by simp) (by simp) (by simp) (by simp);grind[OF]
 .rename_i e x j;rcases TZ g (h_ hc).symm with rfl|rfl;.grind[Vm]
  .exact QX r hd j h
 .rename_i t parts j;simp only[e_,d_]at hc;obtain⟨z,H,ps,Q,hc⟩:=hc;cases bm g hc.symm (by simp) (by simp) (by simp) (by simp) (by simp);exact d (OG r j H Q h)
 .rename_i t len parts j;simp only[e_]at hc;obtain⟨e,I,sz,hs,z,H,hc⟩:=hc;split at hc
  .rename_i E;obtain⟨h1,h2⟩:=E;rcases JW g (h_ hc).symm with⟨own,rfl⟩|rfl
   rotate_left
   .exact HX r hd j I hs H h1 h2 h
   cases own;.exact Ll r hd j I hs H h1 h2 h
   grind[HY]
  grind
 .rename_i t l m j;simp only[e_,d_]at hc;obtain⟨e,I,sz,hs,b,N,z,H,hc⟩:=hc;rcases JX g hc.symm with rfl|⟨k,rfl⟩;.exact Ln r hd j I hs N H h
  grind[HZ]
 .rename_i s' O x j;split at hc;.rename_i ds k h1 h2;cases bm g (h_ hc).symm (by simp) (by simp) (by simp) (by simp) (by simp);exact d (Q0 r j h1 h2 h)
  .rename_i e h1 h2;split at hc;.rename_i M;cases bm g (h_ hc).symm (by simp) (by simp) (by simp) (by simp) (by simp);exact d (Vl r j h1 h2 M h)
   grind
  grind
 .rename_i t x lo hi mx j;split at hc;.rename_i e ht;simp only[d_]at hc;obtain⟨sz,hs,hc⟩:=hc;cases bm g hc.symm (by simp) (by simp) (by simp) (by simp) (by simp);exact d (Vq r j ht hs h)
  .rename_i ht;split at hc;.cases bm g (h_ hc).symm (by simp) (by simp) (by simp) (by simp) (by simp);exact d (Rc r j ht h)
   grind
  grind
 .rename_i x i j;cases bm g (h_ hc).symm (by simp) (by simp) (by simp) (by simp) (by simp);exact d (Vn r j h)
 .rename_i x j;cases bm g (h_ hc).symm (by simp) (by simp) (by simp) (by simp) (by simp);exact d (Ra r j h)
 .rename_i f first caps j
  split at hc;.rename_i E;simp only[F_]at E;cases bm g (h_ hc).symm (by simp) (by simp) (by simp) (by simp) (by simp);exact d (Q9 r j (by grind) h)
  grind
 .rename_i t j;split at hc;.cases bm g (h_ hc).symm (by simp) (by simp) (by simp) (by simp) (by simp);grind[OM]
  grind
 .rename_i t m x ok j;split at hc;.rename_i k e ht;simp only[d_]at hc;obtain⟨z,H,hc⟩:=hc;cases bm g hc.symm (by simp) (by simp) (by simp) (by simp) (by simp);exact d (Lm r j ht H h)
  grind
 .rename_i t m x v j;split at hc
  .rename_i k e ht;cases bm g (h_ hc).symm (by simp) (by simp) (by simp) (by simp) (by simp);have J:o.dst=none:=by obtain⟨_,_,_,_,_,_,_,_,_,_,_,_,_,_,h1,_⟩:=h;omega
   grind[zj]
  grind
 .rename_i t m x v j;split at hc
  .rename_i k e ht;cases bm g (h_ hc).symm (by simp) (by simp) (by simp) (by simp) (by simp);have J:o.dst=none:=by obtain⟨_,_,_,_,_,_,_,_,_,_,_,_,_,_,h1,_⟩:=h;omega
   exact zj r J (.inr j) ht h
  grind
 .rename_i x j;cases bm g (h_ hc).symm (by simp) (by simp) (by simp) (by simp) (by simp);grind[OO]
 .rename_i t x j;cases bm g (h_ hc).symm (by simp) (by simp) (by simp) (by simp) (by simp);refine d (OL r j ?_ h);grind[sOk]
 grind
theorem P0{t:TypeId}{zl:List Value}(hc:hU P o=some (.alloc t zl)):∃z,o.op= .alloc t/\dR P t=some z/\zl=z.cells.toList:=by
 unfold hU at hc
 (repeat' split at hc)<;>simp_all[e_]
 grind
theorem WC{t:TypeId}{x:SX}(hc:hU P o=some (.box t x)):∃y,o.op= .box t y/\x= .of y:=by
 unfold hU at hc
 (repeat' split at hc)<;>simp_all[e_]
theorem P1{k e:TypeId}(hc:hU P o=some (.ir k e)):∃t,o.op= .makeMap t none:=by
 unfold hU at hc
 (repeat' split at hc)<;>simp_all[e_]
theorem MJ{own:Bool}{e:TypeId}{sz len:Nat}{xs:List SX}(hc:hU P o=some (.bI own e sz len xs)):∃t parts z,o.op= .buildSlice t len parts/\fx P t=some e/\bY P e=some sz/\dR P e=some z/\pu parts.toList=true/\z.cells.size=sz/\xs=parts.toList.map λq=>SX.of q.2:=by
 unfold hU at hc
 (repeat' split at hc)<;>simp_all[e_]
 grind
theorem MK{e:TypeId}{sz b:Nat}{z:Value}{l m:SX}(hc:hU P o=some (.cO e sz b z l m)):∃t x y,o.op= .makeSlice t x y/\fx P t=some e/\bY P e=some sz/\iA P e=some b/\dR P e=some z/\l= .of x/\m= .of y:=by
 unfold hU at hc
 (repeat' split at hc)<;>simp_all[e_]
 grind
theorem MH{e:TypeId}{sz b:Nat}{l m:SX}(hc:hU P o=some (.append e sz b l m)):∃cl x y t z,o.op= .call cl/\cl.callee= .builtin .append/\cl.args= #[x,y]/\cl.argTypes= #[t,t]/\fx P t=some e/\bY P e=some sz/\iA P e=some b/\dR P e=some z/\z.cells.size=sz/\0<sz/\0<b/\l= .of x/\m= .of y:=by
 unfold hU at hc
 (repeat' split at hc)<;>simp_all[e_]
 rename_i cl _ k _ _ x y t u f g n;obtain⟨j,h1,s',h2,b',c,h,d,a,rfl,rfl,rfl,rfl,rfl⟩:=hc;exact⟨x,y,jR f,u,jR g,h1,h2,c,h,d,a.1,a.2.1,a.2.2,rfl,rfl⟩
theorem YV(n:Inv c θ D st a w)(hd:∀k,o.dst=some k->k<c.n){k:Nat}{q:fh}{K KP:St->Prop}(hc:hU P o=some q.canon)(h:cH P o.dst (.uq k q) st K KP):Leaves P o c K KP a w:=by
 cases q with
 |alloc t zl=>obtain⟨z,d,g,rfl⟩:=P0 hc;exact NS n hd d g h
 |box t x=>obtain⟨y,d,rfl⟩:=WC hc;exact Xx n hd d h
 |ir t e=>obtain⟨t,d⟩:=P1 hc;exact NT n hd d h
 |bI own e sz len xs=>cases own with|false=>exact h.elim|true=>obtain⟨t,parts,z,d,p,hs,g,r,j,rfl⟩:=MJ hc;exact IR n hd d p hs g r j h
 |cO e sz b z l m=>obtain⟨t,x,y,d,p,hs,u,g,rfl,rfl⟩:=MK hc;exact IS n hd d p hs u g h
 |append e sz b l m=>obtain⟨cl,x,y,t,z,d,A,f,s,p,hs,u,g,j,B,v,rfl,rfl⟩:=MH hc;exact UP n hd d A f s p hs u g j B v h
 |_=>exact h.elim
theorem xO(d:Inv c θ D st a w)(hd:∀k,o.dst=some k->k<c.n){s:fh}{K KP:St->Prop}(hc:hU P o=some s.canon)(f:sOk P o=true)(h:cH P o.dst s st K KP):Leaves P o c K KP a w:=by
 by_cases b:∀k q,s≠.uq k q;.grind[G5]
 .have:∃k q,s= .uq k q:=J_ λhn=>b λk q e=>hn ⟨k,q,e⟩;obtain⟨k,q,rfl⟩:=this;exact YV d hd (q:=q) hc h
def tq(P:Program)(n:Nat)(ops:Array Oper)(o:Oper)(s:be):Prop:=
 (hU P o=some s.op.canon/\sOk P o=true)/\s.dst=o.dst/\(∀k,o.dst=some k->k<n)/\
  match o.guard with
  |none=>s.gd=none
  |some (j,want)=>∃t,(ops[j]?).bind (·.dst)=some t/\s.gd=some (t,want)
theorem Rq{ops:Array Oper}{j t:Nat}(ht:(ops[j]?).bind (·.dst)=some t)(tmps:Array Value):yielded ops tmps j=yv (tmps.getD t undef):=by
 unfold yielded;rw[ht];simp;rcases y_ t tmps.size with h|h;.simp only[g_ h,aR_,h];show _=yv tmps[t];cases tmps[t]<;>rfl
 .simp only[Array.getElem?_eq_none h,aR_,aL_.2 h];rfl
theorem ou{n:Nat}{ops:Array Oper}{s:be}{K KP:St->Prop}(l:Inv c θ D st a w)(hn:c.n=n)(hc:tq P n ops o s)(h:iL P s st K KP)(next:Act->World->Prop)(Q:Exit->Act->World->Prop) (b:∀x w',(∃d,K d/\oK c d x w')->next x w') (hp:∀y w',(qU y/\∃d,KP d/\oK c d a w')->Q (.panic y) a w'):if Region.wanted o (yielded ops a.tmps)then o.wp P a w next Q else next (a.put o.dst undef) w:=by
 obtain⟨h1,h2,B,f⟩:=hc;have hd:∀k,o.dst=some k->k<c.n:=by grind
 unfold iL at h;unfold Region.wanted;cases hg:o.guard with
 |none=>rw[hg]at f;rw[f]at h;rw[h2]at h;exact xO l hd h1.1 h1.2 h next Q b hp
 |some A=>
  obtain⟨j,want⟩:=A;rw[hg]at f;obtain⟨t,ht,p⟩:=f;rw[p]at h;obtain⟨g,r,v,rfl,e,u⟩:=h;simp only[Rq ht,(QK (l.fr t _ r))];by_cases z:yv v=some want;.rw[if_pos (by grind)];have:=e z;rw[h2]at this;exact xO l hd h1.1 h1.2 this next Q b hp
  .rw[if_neg (by grind)];have:=u z;rw[h2]at this;exact b _ _ ⟨_,this,θ,D,l.put hd (aX.sc _)⟩
end
section
variable {P:Program} {c:Ctx} {st:St} {a:Act} {w:World}
def rb(P:Program)(n:Nat)(ops:Array Oper):List Oper->List be->Prop
 |[],[]=>True
 |o::l,s::m=>tq P n ops o s/\rb P n ops l m
 |_,_=>False
theorem tt{n:Nat}{ops:Array Oper}:∀{l:List Oper} {m:List be},rb P n ops l m->l.length=m.length/\∀(i:Nat) (o:Oper) (s:be),l[i]? =some o->m[i]? =some s->tq P n ops o s
 |[],[],_=>⟨rfl,λi o s h=>by simp⟩
 |o::l,s::m,h=>by obtain⟨h1,h2⟩:=h;obtain⟨a,b⟩:=tt h2;grind
theorem QU{n m:Nat}{ops:Array Oper}(hn:c.n=n)(u:c.th.length<=m){K KP:St->Prop}{Q:Exit->Act->World->Prop}(y:∀a w,(∃b,K b/\oK c b a w)->Q .normal a w)(x:∀g a w,(qU g/\∃b,KP b/\oK c b a w)->Q (.panic g) a w): ∀(d:List Oper) (e:List be) (k:Nat),(∀i,d[i]? =ops[k+i]?)->rb P n ops d e->∀(st:St) (a:Act) (w:World),j6 P m e st K KP->oK c st a w->wpOps P ops Q (aQ_ k d.length) a w:=by
 intro d;induction d with
 |nil=>intro e k _ hc st a w h hr;cases e with|cons s e=>exact hc.elim|nil=>obtain⟨b,r,j⟩:=h;exact y a w ⟨b,j,r _ _ _ u hr⟩
 |cons o d z=>
  intro e k j hc st a w h hr;cases e with
  |nil=>exact hc.elim|cons s e=>
   obtain⟨h1,h2⟩:=hc;obtain⟨st1,r,h⟩:=h;obtain⟨θ,D,v⟩:=r _ _ _ u hr;have A:ops[k]? =some o:=by simpa using(j 0).symm
   have:=ou v hn h1 h (λl w'=>wpOps P ops Q (aQ_ (k+1) d.length) l w') Q (λl w' ⟨b,p,f⟩=>z e (k+1) (λi=>by have:=j (i+1);grind) h2 b l w' p f) (λg w' hp=>x g a w' hp);grind[List.range'_succ,wpOps]
theorem K9{id n m:Nat}{ops:Array Oper}{d:List be}(hn:c.n=n)(j:c.th.length<=m)(hc:rb P n ops ops.toList d){K KP:St->Prop}{Q:Exit->Act->World->Prop}(h:j6 P m d st K KP)(hr:oK c st a w) (g:∀a w,(∃b,K b/\oK c b a w)->Q .normal a w) (f:∀e a w,(qU e/\∃b,KP b/\oK c b a w)->Q (.panic e) a w):(Code.region id ops false).wp P Q a w:=by refine wp_region ?_;have:=QU hn j g f ops.toList d 0 (λi=>by simp) hc st a w h hr;grind[List.range_eq_range']
def SX.rd:SX->List Nat
 | .tm k=>[k]
 |_=>[]
def fh.rd:fh->List Nat
 | .mv x| .un _ x| .len _ x| .oY _ _ x| .oW _ _ _ x| .Iy _ _ _ x| .load _ _ x| .box _ x| .qj _ x| .qm _ x| .ext x _| .rR x| .G3 x| .panic x| .iface _ x=>x.rd
 | .pick c a b=>c.rd++a.rd++b.rd
 | .bin _ x y| .G8 _ x y| .sL _ _ x y| .qC x y| .pX _ _ _ x y| .qA _ x y| .qB _ _ _ x y| .store _ x y| .cO _ _ _ _ x y| .append _ _ _ x y| .pM _ _ _ x y| .dE _ _ _ _ _ x y| .pN _ _ _ _ x y| .lookup _ _ _ _ x y| .copy _ _ x y=>x.rd++y.rd
 | .ic _ _ x y z=>x.rd++y.rd++z.rd
 | .alloc _ _| .ir _ _=>[]
 | .build _ E=>E.flatMap λq=>q.2.2.rd
 | .bI _ _ _ _ E=>E.flatMap SX.rd
 | .eo _ _ _ E=>E.flatMap SX.rd
 | .Je _ x lo H mx=>x.rd++(lo.map SX.rd).getD []++(H.map SX.rd).getD []++(mx.map SX.rd).getD []
 | .qJ x lo H=>x.rd++(lo.map SX.rd).getD []++(H.map SX.rd).getD []
 | .call _ _ xs| .gP _ _ _ xs| .rQ _ xs=>xs.flatMap SX.rd
 | .fw _ _ x xs| .mX _ _ x xs| .im _ x xs=>x.rd++xs.flatMap SX.rd
 | .uq _ op=>op.rd
def be.rd(o:be):List Nat:=o.op.rd++(o.gd.map λg=>[g.1]).getD []
theorem bg{st a:St}{x:SX}(h:∀t∈x.rd,look a.fr t=look st.fr t):a.get x=st.get x:=by cases x<;>simp only[St.get];grind[SX.rd]
theorem c9{a β:Type}{f g:a->Option β}:∀{l:List a},(∀x∈l,f x=g x)->l.mapM f=l.mapM g
 |[],_=>rfl
 |x::l,h=>by rw[af_,af_,h x (by simp),c9 (l:=l) λy b=>h y (by grind)]
theorem qi{st a:St}{x:Option SX}(h:∀t∈(x.map SX.rd).getD [],look a.fr t=look st.fr t)(d:Nat)(K:Nat->Prop):qd a x d K=qd st x d K:=by cases x with|none=>rfl|some x=>grind[qd,bg]
theorem Vk{st a:St}{s:fh}(j:a.hp=st.hp)(h:∀t∈s.rd,look a.fr t=look st.fr t)(K:AV->Prop):jp P a s K=jp P st s K:=by
 cases s<;>simp only[fh.rd,K_]at h<;>simp only[jp,j];case mv x=>rw[bg h]
 case pick x y z=>rw[bg (x:=x) λt ht=>h t (.inl (.inl ht)),bg (x:=y) λt ht=>h t (.inl (.inr ht)),bg (x:=z) λt ht=>h t (.inr ht)]
 case un op x=>rw[bg h]
 case len b x=>rw[bg h]
 case oW x=>rw[bg h]
 case Iy x=>rw[bg h]
 case load x=>rw[bg h]
 case qm x=>rw[bg h]
 case ext x i=>rw[bg h]
 case rR x=>rw[bg h]
 case G3 x=>rw[bg h]
 case oY k e x=>rw[bg h]
 case qj k x=>rw[bg h]
 case iface k x=>rw[bg h]
 case pM e sz n x y=>grind[bg]
 case sL op t x y=>grind[bg]
 case lookup k e ok z x y=>grind[bg]
 case rQ f xs=>grind[c9,bg]
 case mX mx k x xs=>rw[bg (x:=x) λt ht=>h t (.inl ht),c9 (l:=xs) λq d=>bg (x:=q) λt ht=>h t (.inr (Z_.2 ⟨q,d,ht⟩))]
 case bin op x y=>grind[bg]
 case G8 op x y=>grind[bg]
 case qC x y=>grind[bg]
 case pX x y=>grind[bg]
 case qA x y=>grind[bg]
 case qB x y=>grind[bg]
 case build z g=>grind[c9,bg]
 case bI b e sz l g=>cases b;all_goals grind[c9,bg]
 case eo e sz l g=>grind[c9,bg]
 case call b f xs=>grind[c9,bg]
 case im b x xs=>rw[bg (x:=x) λt ht=>h t (.inl ht),c9 (l:=xs) λq d=>by rw[bg (x:=q) λt ht=>h t (.inr (Z_.2 ⟨q,d,ht⟩))]]
 case Je sz x lo c mx=>simp only[bg (x:=x) λt ht=>h t (.inl (.inl (.inl ht))),qi (x:=lo) λt ht=>h t (.inl (.inl (.inr ht))),qi (x:=c) λt ht=>h t (.inl (.inr ht)),qi (x:=mx) λt ht=>h t (.inr ht)]
 case qJ x lo c=>simp only[bg (x:=x) λt ht=>h t (.inl (.inl ht)),qi (x:=lo) λt ht=>h t (.inl (.inr ht)),qi (x:=c) λt ht=>h t (.inr ht)]
def fM(P:Program)(o:be)(st:St)(x:AV):Prop:=
 match o.gd with
 |none=>jp P st o.op λy=>y=x
 |some (t,want)=>aR (look st.fr t) λg=>zz g λv=>(yv v=some want->jp P st o.op λy=>y=x)/\(yv v≠some want->x= .v undef)
theorem Ls{o:be}{st a:St}{x:AV}(c:a.hp=st.hp)(h:∀t∈o.rd,look a.fr t=look st.fr t)(b:fM P o st x):fM P o a x:=by simp only[be.rd,K_]at h;have h1:=Vk (P:=P) c λt ht=>h t (.inl ht);unfold fM at b⊢;split at b;all_goals grind
theorem aC{c:Type}{o:Option c}{K b:c->Prop}(h:aR o K)(d:∀x,K x->b x):aR o b:=let⟨a,h1,h2⟩:=h;⟨a,h1,d a h2⟩
theorem bq{a:AV}{K b:Value->Prop}(h:zz a K)(c:∀x,K x->b x):zz a b:=let⟨v,h1,h2⟩:=h;⟨v,h1,c v h2⟩
theorem bQ{v:Value}{K a:IntKind->Int->Prop}(h:isInt v K)(b:∀k n,K k n->a k n):isInt v a:=let⟨k,n,h1,h2⟩:=h;⟨k,n,h1,b k n h2⟩
theorem l7{v:Value}{K a:Bool->Prop}(h:isBool v K)(c:∀x,K x->a x):isBool v a:=let⟨b,h1,h2⟩:=h;⟨b,h1,c b h2⟩
theorem nQ{v:Value}{K a:ByteArray->Prop}(h:Nw v K)(c:∀x,K x->a x):Nw v a:=let⟨b,h1,h2⟩:=h;⟨b,h1,c b h2⟩
theorem Qq{hp:List aL}{a:AV}{K c:Nat->Prop}(h:isLen hp a K)(b:∀x,K x->c x):isLen hp a c:=by
 rcases h with⟨h,h1⟩|⟨sz,L,h,h1⟩|⟨id,e,sz,L,h,h2,h1⟩|⟨sz,L,h,h1⟩|⟨id,e,sz,k,L,d,h,h2,h1⟩;.exact .inl ⟨h,b _ h1⟩
 .exact .inr (.inl ⟨sz,L,h,b _ h1⟩)
 .exact .inr (.inr (.inl ⟨id,e,sz,L,h,h2,b _ h1⟩))
 .exact .inr (.inr (.inr (.inl ⟨sz,L,h,b _ h1⟩)))
 .exact .inr (.inr (.inr (.inr ⟨id,e,sz,k,L,d,h,h2,b _ h1⟩)))
theorem wM{hp:List aL}{k e:TypeId}{a:AV}{K b:Nat->List (PV×PV)->Prop}(h:isMap hp k e a K)(d:∀i x,K i x->b i x):isMap hp k e a b:=let⟨id,kvs,h1,h2,c⟩:=h;⟨id,kvs,h1,h2,d _ _ c⟩
theorem fU{st:St}{x:Option SX}{d:Nat}{K a:Nat->Prop}(h:qd st x d K)(b:∀n,K n->a n):qd st x d a:=by cases x with|none=>exact b _ h|some x=>exact aC h λ_ h=>bq h λ_ h=>bQ h λ_ _ h=>⟨h.1,b _ h.2⟩
theorem TR{op:BinOp}{x y:Value}{K a:Value->Prop}(h:JQ op x y K)(b:∀v,K v->a v):JQ op x y a:=by
 unfold JQ at h⊢;split at h;.cases op<;>simp only at h⊢<;>first|grind|grind
 .cases op<;>simp only at h⊢<;>first|grind|grind|exact h
 omega
theorem Y7{op:UnOp}{x:Value}{K a:Value->Prop}(h:unV op x K)(b:∀v,K v->a v):unV op x a:=by unfold unV at h⊢;grind
theorem Fh{hp:List aL}{sz:Nat}{ag:Bool}{a:AV}{K d:AV->Prop}(h:BQ hp sz ag a K)(g:∀v,K v->d v):BQ hp sz ag a d:=by
 unfold BQ at h⊢;split at h;.grind
 .grind[aC]
 .refine aC h λ_ h=>h.imp (fun⟨e,s,xs,h1,h2,b,c,f⟩=>⟨e,s,xs,h1,h2,b,c,?_⟩) fun⟨e,s,k,xs,r,h1,h2,b,c,f⟩=>⟨e,s,k,xs,r,h1,h2,b,c,f.imp (λh=>⟨h.1,g _ h.2⟩) fun⟨bv,j,l,n,p⟩=>⟨bv,j,l,n,g _ p⟩⟩;grind
 omega
theorem fB{hp:List aL}{sz:Nat}{a:AV}{K c:List PV->Prop}(h:mC hp sz a K)(b:∀x,K x->c x):mC hp sz a c:=by
 rcases h with⟨h,h1⟩|⟨L,h,h1⟩|⟨id,e,L,h,h2,h1⟩|⟨L,h,h1⟩;.exact .inl ⟨h,b _ h1⟩
 .exact .inr (.inl ⟨L,h,b _ h1⟩)
 .exact .inr (.inr (.inl ⟨id,e,L,h,h2,b _ h1⟩))
 .exact .inr (.inr (.inr ⟨L,h,b _ h1⟩))
theorem zi{st:St}{s:fh}{K n:AV->Prop}(h:jp P st s K)(c:∀x,K x->n x):jp P st s n:=by
 cases s<;>simp only[jp]at h⊢;case mv=>grind[aC]
 case pick=>grind[aC,bq,l7]
 case bin=>exact aC h λ_ h=>aC h λ_ h=>bq h λ_ h=>bq h λ_ h=>TR h λ_ h=>c _ h
 case G8=>exact aC h λ_ h=>aC h λ_ h=>bq h λ_ h=>bq h λ_ h=>l7 h λ_ h=>l7 h λ_ h=>c _ h
 case un=>grind[aC,bq,Y7]
 case len str x=>refine aC h λ_ h=>?_;grind[Qq,bq,nQ]
 case qC=>exact aC h λ_ h=>aC h λ_ h=>bq h λ_ h=>bq h λ_ h=>bQ h λ_ _ h=>nQ h λ_ h=>⟨h.1,h.2.1,c _ h.2.2⟩
 case pX=>exact aC h λ_ h=>aC h λ_ h=>bq h λ_ h=>bQ h λ_ _ h=>aC h λ_ ⟨h1,h2,a,b,d,j⟩=>⟨h1,h2,a,b,d,c _ j⟩
 case qA=>refine aC h λ_ h=>aC h λ_ h=>bq h λ_ h=>bQ h λ_ _ h=>?_;grind[id,aC]
 case qB=>refine aC h λ_ h=>aC h λ_ h=>bq h λ_ h=>bQ h λ_ _ ⟨h1,h2,h⟩=>⟨h1,h2,?_⟩;grind
 case oY=>grind[aC,wM]
 case qj=>grind[aC]
 case iface=>grind[aC]
 case sL=>exact aC h λ_ h=>aC h λ_ h=>aC h λ_ h=>aC h λ_ h=>aC h λ_ h=>c _ h
 case lookup=>exact aC h λ_ h=>aC h λ_ h=>wM h λ_ _ h=>aC h λ_ ⟨h1,h2,a,h⟩=>⟨h1,h2,a,aC h λ_ h=>c _ h⟩
 case rQ=>grind[aC]
 case mX=>exact aC h λ_ h=>bq h λ_ h=>bQ h λ_ _ h=>aC h λ_ ⟨v,h1,h2,a⟩=>⟨v,h1,h2,c _ a⟩
 case oW=>grind[aC]
 case Iy=>grind[aC]
 case load=>grind[aC,Fh]
 case qm=>grind[aC,bq,bQ]
 case Je=>
  refine aC h λ_ h=>?_;rcases h with h|⟨id,h1,h⟩;.refine .inl (aC h λ_ ⟨L,h1,h⟩=>⟨L,h1,fU h λ_ h=>fU h λ_ h=>fU h λ_ ⟨h2,a,b,d,j⟩=>⟨h2,a,b,d,?_⟩⟩);grind
  .exact .inr ⟨id,h1,aC h λ_ ⟨e,k,L,g,h2,h⟩=>⟨e,k,L,g,h2,fU h λ_ h=>fU h λ_ h=>fU h λ_ ⟨h2,a,b,d,j,u⟩=>⟨h2,a,b,d,j,c _ u⟩⟩⟩
 case qJ=>exact aC h λ_ h=>bq h λ_ h=>nQ h λ_ h=>fU h λ_ h=>fU h λ_ ⟨h2,a,b⟩=>⟨h2,a,c _ b⟩
 case ext=>grind[aC]
 case G3=>grind[aC,fB]
 case rR=>grind[aC]
 case build=>grind[aC]
 case call=>grind[aC,eG.mono]
 case im=>exact aC h λ_ ⟨f,cs,h1,h2,a⟩=>⟨f,cs,h1,h2,aC a λ_ h=>eG.mono h λ_ ⟨r,l,h1,h2,a,b⟩=>⟨r,l,h1,h2,a,c _ b⟩⟩
 case bI own e sz len w=>cases own;all_goals grind[aC]
 case eo=>grind[aC]
 case pM=>exact aC h λ_ h=>aC h λ_ h=>fB h λ_ ⟨h1,p,h2,a,b⟩=>⟨h1,p,h2,a,c _ b⟩
theorem mD{o:be}{st:St}{x:AV}{K KP:St->Prop}(h:fM P o st x)(a:K (st.aE o.dst x)):iL P o st K KP:=by
 have key:∀s,(jp P st s λy=>y=x)->cH P o.dst s st K KP:=by
  intro s hs;have h1:jp P st s λy=>K (st.aE o.dst y):=zi hs λy b=>by grind
  unfold cH;split<;>first|exact h1|exact hs.elim
 unfold fM at h;unfold iL;split at h;all_goals grind[aC,bq]
end
def ze(P:Program)(m:Nat):Nat->List be->St->(St->Prop)->(St->Prop)->Prop
 |0,l,st,K,KP=>j6 P m l st K KP
 |_+1,[],st,K,_=>K st
 |k+1,o::l,st,K,KP=>∃x,fM P o st x/\ze P m k l (st.aE o.dst x) K KP
def gD:List (List Nat)->List (List Nat)->List (List Nat)
 |acc,[]=>acc
 |acc,l::ls=>gD (acc++[l.flatMap λe=>e::acc.getD e []]) ls
def zZ(x y:be):Bool:=
 (match x.dst with|some d=> !y.rd.contains d&&y.dst != some d|none=>true)&&(match y.dst with|some d=> !x.rd.contains d|none=>true)
def Af(ops:List be)(a:List (List Nat))(k:Nat):Bool:=
 (I_ ops.length).all λj=>(I_ j).all λi=>(a.getD j []).contains i||(decide (j<k)&&(match ops[i]?,ops[j]? with|some x,some y=>zZ x y|_,_=>false))
def qY(ops:Array Oper):List (List Nat):=ops.toList.map λo=>(o.after.toList.filter (Region.binds .any)).map (·.on)
def AK(after:List (List Nat)):Bool:=(I_ after.length).all λi=>(after.getD i []).all λe=>decide (e<i)
section
variable {P:Program} {c:Ctx} {w:World} {a:Act}
def du(p:Nat->Bool):Nat->Option Nat
 |0=>none
 |k+1=>if p k then some k else du p k
theorem jz{p q:Nat->Bool}:∀{k:Nat},(∀j,j<k->p j=q j)->du p k=du q k
 |0,_=>rfl
 |k+1,h=>by have b:=jz (p:=p) (q:=q) (k:=k) λj a=>h j (by omega);grind[du]
theorem rL{p:Nat->Bool}:∀{k i:Nat},i<=k->(∀j,i<=j->j<k->p j=false)->du p k=du p i
 |0,i,h,_=>by grind
 |k+1,i,h,hp=>by
  rcases y_ i (k+1)with h1|h1;.simp only[du,hp k (by omega) (by simp),u_,if_false];exact rL (by omega) λj a b=>hp j a (by omega)
  grind
def H1(d:Nat->Option Nat)(X:Nat->AV)(st:St)(S:Nat->Bool):Nat->St
 |0=>st
 |k+1=>if S k then(H1 d X st S k).aE (d k) (X k)else H1 d X st S k
theorem Gh(d:Nat->Option Nat)(X:Nat->AV)(st:St)(S:Nat->Bool):∀k,(H1 d X st S k).hp=st.hp
 |0=>rfl
 |k+1=>by
  simp only[H1];split;.cases d k<;>simp[St.aE,St.put,Gh d X st S k]
  .exact Gh d X st S k
theorem fk(st:St)(d:Option Nat)(x:AV)(t:Nat):look (st.aE d x).fr t=if d=some t then some x else look st.fr t:=by cases d with|none=>simp[St.aE]|some k=>grind[St.aE,St.put,look]
theorem me(d:Nat->Option Nat)(X:Nat->AV)(st:St)(S:Nat->Bool)(t:Nat):∀k,look (H1 d X st S k).fr t=(match du (λj=>S j&&d j==some t) k with|some j=>some (X j)|none=>look st.fr t)
 |0=>rfl
 |k+1=>by
  simp only[H1,du];by_cases a:S k=true
  .rw[if_pos a,fk];by_cases hd:d k=some t;.grind
   .rw[if_neg hd,me d X st S t k];grind
  .rw[if_neg a,me d X st S t k];grind
theorem oK.congr{st H:St}(I:H.hp=st.hp)(h:∀t,look H.fr t=look st.fr t)(hr:oK c st a w):oK c H a w:=by obtain⟨θ,D,E⟩:=hr;exact⟨θ,D,E.size,E.defers,by rw[I];exact E.ok,E.keep,E.lW,E.nD,E.j4,λk x J=>E.fr k x (by grind),E.fix⟩
theorem Vj{m:Nat}:∀(k:Nat) (ops:List be) (st:St) (K KP:St->Prop),ze P m k ops st K KP->k<=ops.length->∃X:Nat->AV,(∀i s,i<k->ops[i]? =some s->fM P s (H1 (λj=>(ops[j]?).bind (·.dst)) X st (λ_=>true) i) (X i))/\j6 P m (ops.drop k) (H1 (λj=>(ops[j]?).bind (·.dst)) X st (λ_=>true) k) K KP:=by
 intro k;induction k with
 |zero=>intro ops st K KP h _;exact⟨λ_=>default,λi s b=>absurd b (by simp),h⟩|succ k c=>
  intro ops st K KP h hl;cases ops with|nil=>grind|cons o ops=>
  obtain⟨x,d,h⟩:=h;obtain⟨X,h1,h2⟩:=c ops _ K KP h (by grind);have a:∀i,H1 (λj=>((o::ops)[j]?).bind (·.dst)) (λj=>match j with|0=>x|j+1=>X j) st (λ_=>true) (i+1)=H1 (λj=>(ops[j]?).bind (·.dst)) X (st.aE o.dst x) (λ_=>true) i:=by intro i;induction i with|zero=>simp[H1]|succ i c=>grind[H1]
  refine⟨λj=>match j with|0=>x|j+1=>X j,λi s b hs=>?_,?_⟩
  .cases i with|zero=>simp at hs;subst hs;exact d|succ i=>grind
  grind
theorem Mk:∀(ls acc:List (List Nat)),(gD acc ls).length=acc.length+ls.length
 |[],acc=>rfl
 |l::ls,acc=>by rw[gD,Mk ls];grind
theorem DG:∀(ls acc:List (List Nat)) (i:Nat),i<acc.length->(gD acc ls)[i]? =acc[i]?
 |[],acc,i,_=>rfl
 |l::ls,acc,i,h=>by rw[gD,DG ls _ i (by grind),j_ h]
theorem xC:∀(ls acc:List (List Nat)) (j:Nat) (l:List Nat),ls[j]? =some l->(gD acc ls).getD (acc.length+j) []=l.flatMap λe=>e::(gD acc (ls.take j)).getD e []
 |[],acc,j,l,h=>by grind
 |m::ls,acc,0,l,h=>by simp at h;subst h;simp[gD,DG,aP_]
 |m::ls,acc,j+1,l,h=>by have:=xC ls (acc++[m.flatMap λe=>e::acc.getD e []]) j l (by grind);grind[W_,ap_,gD]
def WY{a:Type}(n:Nat)(k:Nat->a):a:=match n with
 |0=>k 0
 |p+1=>k (p+1)
theorem Uz{a:Type}(n:Nat)(k:Nat->a):WY n k=k n:=by cases n<;>rfl
def Qu(acc:List Nat)(l:List Nat):Nat:=l.foldl (λm e=>m|||2^e|||acc.getD e 0) 0
def ZX:List Nat->List (List Nat)->List Nat
 |acc,[]=>acc
 |acc,l::ls=>WY (Qu acc l) λm=>ZX (acc++[m]) ls
def bitsOf(m:Nat):List Nat:=(I_ (m.log2+1)).filter λi=>m.testBit i
def G2(after:List (List Nat)):List (List Nat):=(ZX [] after).map bitsOf
theorem zq(acc:List Nat)(i:Nat):∀(l:List Nat) (m:Nat),(l.foldl (λm e=>m|||2^e|||acc.getD e 0) m).testBit i=(m.testBit i||l.any λe=>decide (e=i)||(acc.getD e 0).testBit i)
 |[],m=>by simp
 |e::l,m=>by rw[ao_,zq acc i l,aM_,aM_,Nat.testBit_two_pow,List.any_cons,au_,au_,au_]
theorem Cd(m i:Nat):(bitsOf m).contains i=m.testBit i:=by grind[bitsOf,Nat.ge_two_pow_of_testBit,Nat.le_log2]
theorem RA(i:Nat):∀(ls acc:List (List Nat)) (a:List Nat),acc.length=a.length->(∀j,(acc.getD j []).contains i=(a.getD j 0).testBit i)->∀j,((gD acc ls).getD j []).contains i=((ZX a ls).getD j 0).testBit i
 |[],acc,a,_,h=>h
 |l::ls,acc,a,hl,h=>by
  unfold gD ZX;rw[Uz];refine RA i ls _ _ (by grind) λj=>?_;rcases Nat.lt_trichotomy j acc.length with b|b|b;.rw[Q_,Q_,j_ b,j_ (by omega)];exact h j
  .subst b;have e:(Qu a l).testBit i=l.any λe=>decide (e=i)||(a.getD e 0).testBit i:=by unfold Qu;rw[zq];simp
   grind
  grind
theorem C1(after:List (List Nat))(j i:Nat):((G2 after).getD j []).contains i=((gD [] after).getD j []).contains i:=by rw[RA i after [] [] rfl (λj=>by simp) j];grind[G2,Cd]
theorem MO(ops:List be)(after:List (List Nat))(k:Nat):Af ops (G2 after) k=Af ops (gD [] after) k:=by grind[Af,C1]
theorem TN(ls:List (List Nat))(j e:Nat)(c:e<j)(d:j<=ls.length):(gD [] (ls.take j)).getD e []=(gD [] ls).getD e []:=by
 have key:∀(a b acc:List (List Nat)),gD acc (a++b)=gD (gD acc a) b:=by intro a;induction a with|nil=>intro b acc;rfl|cons m a f=>grind[gD]
 grind[Mk,List.take_append_drop,DG]
theorem nB{after:List (List Nat)}(a:AK after=true){S:Nat->Prop}(f:∀i l,after[i]? =some l->S i->∀e∈l,S e):∀(n i j:Nat),i<=n->S i->(((gD [] after).getD i []).contains j)=true->i<after.length->S j:=by
 intro n;induction n with
 |zero=>
  intro i j d hs hc b;have c:i=0:=by omega
  subst c;have hl:=b_ b;have:=xC after [] 0 _ hl;simp only[x_,q_]at this;rw[this]at hc;simp only[List.contains_iff_mem,Z_]at hc;obtain⟨e,g,_⟩:=hc;simp only[AK,n_,H_,decide_eq_true_eq]at a;have:=a 0 b e (by grind);omega
 |succ n h=>intro i j d hs hc b;have hl:=b_ b;have hg:=xC after [] i _ hl;simp only[x_,q_]at hg;simp only[AK,n_]at a;all_goals grind[TN]
theorem dW{n:Nat}{a:Array Bool}(hn:a.size=n){i j:Nat}(b:i<n):(a.setIfInBounds i true).getD j false=(if j=i then true else a.getD j false):=by
 by_cases h:j=i;.subst h;simp[hn,b]
 .simp[h,N_ (Ne.symm h)]
theorem conflict{x y:be}{t:Nat}(h:zZ x y=true):(x.dst=some t->t∉y.rd/\y.dst≠some t)/\(y.dst=some t->t∉x.rd):=by unfold zZ at h;grind
theorem P7{id n k ml:Nat}{ops:Array Oper}{f:List be}{after:List (List Nat)}(hm:P.follows .mixedOrders=true)(hn:c.n=n)(GS:c.th.length<=ml)(hc:rb P n ops ops.toList f)(RT:after=qY ops)(z:AK after=true)(PA:Af f (gD [] after) k=true)(DS:k<=f.length) {st:St} {K KP:St->Prop} {Q:Exit->Act->World->Prop} (h:ze P ml k f st K KP) (hr:oK c st a w) (hQ:∀a w,(∃r,K r/\oK c r a w)->Q .normal a w) (hP:∀ch a w,(qU ch/\∃r,KP r/\oK c r a w)->Q (.panic ch) a w):(Code.region id ops true).wp P Q a w:=by
 obtain⟨RM,Dg⟩:=tt hc;have hsz:ops.size=f.length:=by omega
 obtain⟨X,hX,ph⟩:=Vj k f st K KP h DS;generalize hd:(λj:Nat=>(f[j]?).bind (λs:be=>s.dst))=d at hX ph;have hdj:∀(j:Nat) (s:be),f[j]? =some s->d j=s.dst:=λj s hs=>by grind
 have So:after.length=f.length:=by grind[qY]
 have DP:∀(i:Nat) (o:Oper),ops[i]? =some o->after[i]? =some ((o.after.toList.filter (Region.binds .any)).map (·.on)):=λi o ho=>by grind[qY]
 have v:∀(b:Array Bool) (i:Nat),b.size=f.length->(i∈Region.ready .any ops b↔i<f.length/\b.getD i true=false/\∀l:List Nat,after[i]? =some l->∀e∈l,b.getD e false=true):=by
  intro b i g;unfold Region.ready;simp only[aF_,H_,F_,Bool.not_eq_true',hsz];constructor;.grind[g_,av_]
  .rintro⟨h1,h2,h3⟩;refine⟨h1,h2,?_⟩;have ho:ops[i]? =some ops[i]:=g_ (by omega);rw[ho];simp only[ab_,U_,av_];intro ed SW;by_cases N:Region.binds .any ed=true;.have:=h3 _ (DP i _ ho) ed.on (X_.2 ⟨ed,aF_.2 ⟨by grind,N⟩,rfl⟩);grind
   grind
 have R:∀i j,i<j->j<f.length->((gD [] after).getD j []).contains i=true\/(j<k/\∃x y,f[i]? =some x/\f[j]? =some y/\zZ x y=true):=by intro i j DQ B;simp only[Af,n_,H_,aC_,F_,decide_eq_true_eq]at PA;grind
 have Bx:∀(m j:Nat) (b:Array Bool) (r:St) (a:Act) (w:World),j<=f.length->f.length<=j+m->k<=j->b.size=f.length->(∀i,i<f.length->b.getD i false=decide (i<j))->j6 P ml (f.drop j) r K KP->oK c r a w->wpAny P .any ops Q m b a w:=by
  have fin:∀(b:Array Bool) (r:St) (a:Act) (w:World),b.size=f.length->(∀i,i<f.length->b.getD i false=decide (i<f.length))->j6 P ml (f.drop f.length) r K KP->oK c r a w->Region.ready .any ops b=[]/\Q .normal a w:=by intro b r a w g F hs hr;rw[List.drop_length]at hs;simp only[j6]at hs;obtain⟨st1,DH,hs⟩:=hs;refine⟨?_,hQ a w ⟨st1,hs,DH _ _ _ GS hr⟩⟩;apply List.eq_nil_iff_forall_not_mem.2;grind
  intro m
  induction m with
  |zero=>
   intro j b r a w B hm _ g F hs hr;have DE:j=f.length:=by omega
   subst DE;exact fin b r a w g F hs hr
  |succ m ih=>
   intro j b r a w B hm Vc g F hs hr;rcases y_ j f.length with E|E;case inr=>
    have DE:j=f.length:=by omega
    subst DE;obtain⟨f1,f2⟩:=fin b r a w g F hs hr;exact⟨λ_=>f2,λi I=>by grind⟩
   have KK:∀i,i<f.length->b.getD i true=decide (i<j):=λi I=>by
    have h4:i<b.size:=by omega
    have:=F i I;simp[h4]at this⊢;omega
   have PB:∀i,i∈Region.ready .any ops b↔i=j:=by
    intro i;rw[v b i g];constructor
    .rintro⟨h1,h2,h3⟩;rw[KK i h1]at h2;simp only[decide_eq_false_iff_not,aL_]at h2;rcases y_ j i with h4|h4
     .rcases R j i h4 h1 with h5|⟨h5,_⟩
      .have el:=nB z (S:=λx=>x<j\/x=i) (λx l hl L e O=>by
        have u:=z;simp only[AK,n_,H_,decide_eq_true_eq]at u;have DM:=(c_.1 hl).1;have JT:=u x DM e (by simpa[Q_,hl]using O);rcases L with L|rfl;.omega
        .have:=h3 l hl e O;rw[F e (by omega)]at this;grind) i i j (m_ _) (.inr rfl) h5 (by omega)
       omega
      omega
     omega
    .rintro rfl;refine⟨E,by grind,λl hl e O=>?_⟩;have u:=z;simp only[AK,n_,H_,decide_eq_true_eq]at u;have DM:=(c_.1 hl).1;have JT:=u i DM e (by simpa[Q_,hl]using O);rw[F e (by omega)];grind
   refine⟨λh0=>?_,λi I=>?_⟩;.grind
   .have:=(PB i).1 I;subst this;have ho:ops[i]? =some ops[i]:=g_ (by omega);have H:=b_ E;have DB:=Dg i _ _ (by rw[t_];omega) H;rw[ai_ E]at hs;simp only[j6]at hs;obtain⟨st1,DH,hs⟩:=hs;obtain⟨θ,D,hI⟩:=DH _ _ _ GS hr;have:=ou hI hn DB hs (λa' w'=>wpAny P .any ops Q m (b.setIfInBounds i true) a' w') Q (λa' w' ⟨DA,h1,h2⟩=>
     ih (i+1) _ DA a' w' (by omega) (by omega) (by omega) (by simpa using g) (λx L=>by
      rw[dW g (by omega),F x L];by_cases M:x=i;.grind
      .rw[if_neg M];apply decide_eq_decide.2;omega) h1 h2) (λch w' hp=>hP ch a w' hp)
    unfold wpOp;rw[ho];simp only;split;all_goals grind
 have Bk:∀(m:Nat) (b:Array Bool) (a:Act) (w:World),b.size=f.length->(∀i,i<f.length->b.getD i false=true->i<k)->(∀(i:Nat) (l:List Nat),after[i]? =some l->b.getD i false=true->∀e∈l,b.getD e false=true)->((I_ f.length).filter λi=> !b.getD i false).length<=m->oK c (H1 d X st (λj=>b.getD j false) k) a w->wpAny P .any ops Q m b a w:=by
  have full:∀(m:Nat) (b:Array Bool) (a:Act) (w:World),b.size=f.length->(∀i,i<f.length->b.getD i false=true->i<k)->(∀i,i<k->b.getD i false=true)->f.length<=k+m->oK c (H1 d X st (λj=>b.getD j false) k) a w->wpAny P .any ops Q m b a w:=by
   intro m b a w g C U hm hr;refine Bx m k b (H1 d X st (λ_=>true) k) a w DS hm (m_ _) g (λi I=>?_) ph (oK.congr ?_ (λt=>?_) hr);.grind
   .simp[Gh]
   .rw[me,me,jz (p:=λj=>(λ_=>true) j&&d j==some t) (q:=λj=>b.getD j false&&d j==some t) (k:=k) λj B=>by grind]
  have BT:∀(b:Array Bool),(∀i,i<f.length->b.getD i false=true->i<k)->f.length<=k+((I_ f.length).filter λi=> !b.getD i false).length:=by
   intro b C;have:∀n,n<=f.length->n<=k+((I_ n).filter λi=> !b.getD i false).length:=by intro n;induction n with|zero=>simp|succ n ih=>intro hn;have:=ih (by omega);rw[List.range_succ,List.filter_append,W_];cases N:b.getD n false with|true=>have:=C n (by omega) N;omega|false=>simp only[am_,N,ar_,if_true,List.filter_nil,ap_];omega
   grind
  intro m
  induction m with
  |zero=>intro b a w g C el CT hr;refine full 0 b a w g C (λi I=>?_) (by have:=BT b C;omega) hr;have h0:=k_ (Nat.le_zero.1 CT);have:=List.filter_eq_nil_iff.1 h0 i (by simp;omega);simpa using this|succ m ih=>
   intro b a w g C el CT hr;by_cases U:∀i,i<k->b.getD i false=true;.exact full (m+1) b a w g C U (by have:=BT b C;omega) hr
   .obtain⟨J,Th,PJ,Fr⟩:∃J,J<k/\b.getD J false=false/\∀j,j<J->b.getD j false=true:=by
     have:∀n,(∃i,i<n/\b.getD i false=false)->∃J,J<n/\b.getD J false=false/\∀j,j<J->b.getD j false=true:=by
      intro n;induction n with
      |zero=>simp|succ n RK=>
       rintro⟨i,I,hu⟩;by_cases h1:∃i,i<n/\b.getD i false=false;.obtain⟨J,h2,h3⟩:=RK h1;exact⟨J,by omega,h3⟩
       .refine⟨n,by simp,?_,λj B=>?_⟩
        .have:i=n:=by
          rcases y_ i n with h2|h2;.exact absurd ⟨i,h2,hu⟩ h1
          omega
         subst this;omega
        .cases N:b.getD j false with|true=>rfl|false=>exact absurd ⟨j,B,N⟩ h1
     refine this k ?_;apply J_;intro Pc;refine U λi I=>?_;cases N:b.getD i false with|true=>rfl|false=>exact absurd ⟨i,I,N⟩ Pc
    have u:=z;simp only[AK,n_,H_,decide_eq_true_eq]at u;have Hx:∀i,i<f.length->b.getD i true=b.getD i false:=λi I=>by
     have h4:i<b.size:=by omega
     simp[h4]
    refine⟨λh0=>?_,λi I=>?_⟩;.have:J∈Region.ready .any ops b:=(v b J g).2 ⟨by omega,by rw[Hx J (by omega)];omega,λl hl e O=>Fr e (u J (by omega) e (by simpa[Q_,hl]using O))⟩;rw[h0]at this;cases this
    .obtain⟨r1,r2,r3⟩:=(v b i g).1 I;rw[Hx i r1]at r2;have CD:∀j,((gD [] after).getD i []).contains j=true->j=i\/b.getD j false=true:=λj B=>by
      have:=nB z (S:=λx=>x=i\/b.getD x false=true) (λx l hl L e O=>by
       rcases L with rfl|L;.exact .inr (r3 l hl e O)
       .exact .inr (el x l hl L e O)) i i j (m_ _) (.inl rfl) B (by omega)
      omega
     have MT:i<k:=by
      apply J_;intro Wf;rcases R J i (by omega) r1 with h1|⟨h1,_⟩
      .rcases CD J h1 with h2|h2;.omega
       .rw[PJ]at h2;cases h2
      omega
     have ho:ops[i]? =some ops[i]:=g_ (by omega);have H:f[i]? =some f[i]:=b_ r1;have DB:=Dg i _ _ (by rw[t_];omega) H;have qr:∀j,i<j->j<k->b.getD j false=true->∃y,f[j]? =some y/\zZ f[i] y=true:=λj DQ ur hl=>by
      rcases R i j DQ (by omega)with h1|⟨_,x,y,L,hy,h2⟩;.have:=nB z (S:=λx=>b.getD x false=true) (λx l hl L e O=>el x l hl L e O) j j i (m_ _) hl h1 (by omega);rw[r2]at this;cases this
      .rw[H]at L;cases L;exact⟨y,hy,h2⟩
     have T:∀j,j<i->b.getD j false=false->∃y,f[j]? =some y/\zZ y f[i]=true:=λj gc hl=>by
      rcases R j i gc r1 with h1|⟨_,x,y,L,hy,h2⟩
      .rcases CD j h1 with h3|h3;.omega
       .rw[hl]at h3;cases h3
      .rw[H]at hy;cases hy;exact⟨x,L,h2⟩
     have wr:∀t∈f[i].rd,look (H1 d X st (λj=>b.getD j false) k).fr t=look (H1 d X st (λ_=>true) i).fr t:=by
      intro t ht;rw[me,me];have e1:du (λj=>b.getD j false&&d j==some t) k=du (λj=>b.getD j false&&d j==some t) i:=rL (by omega) λj B ur=>by
       rcases Nat.eq_or_lt_of_le B with rfl|B;.rw[r2];rfl
       .cases N:b.getD j false with|false=>rfl|true=>obtain⟨y,hy,Y⟩:=qr j B ur N;rw[hdj j y hy];cases A:(y.dst==some t)with|false=>rfl|true=>exact absurd ht ((conflict Y).2 (by simpa using A))
      have e2:du (λj=>b.getD j false&&d j==some t) i=du (λj=>(λ_=>true) j&&d j==some t) i:=jz λj B=>by cases N:b.getD j false with|true=>rfl|false=>obtain⟨y,hy,Y⟩:=T j B N;rw[hdj j y hy];cases A:(y.dst==some t)with|false=>rfl|true=>exact absurd ht ((conflict Y).1 (by simpa using A)).1
      rw[e1,e2]
     have hy:fM P f[i] (H1 d X st (λj=>b.getD j false) k) (X i):=Ls (by simp[Gh]) wr (hX i _ MT H);obtain⟨θ,D,hI⟩:=hr;have:=ou (hp:=λ_ _ h=>h.2.elim λ_ h=>h.1.elim) hI hn DB (mD (KP:=λ_=>False) (K:=λr=>r=(H1 d X st (λj=>b.getD j false) k).aE f[i].dst (X i)) hy rfl) (λa' w'=>wpAny P .any ops Q m (b.setIfInBounds i true) a' w') Q (λa' w' ⟨DA,h1,h2⟩=>by
      subst h1;refine ih _ a' w' (by simpa using g) (λj B hl=>?_) (λj l hl E e O=>?_) ?_ (oK.congr ?_ (λt=>?_) h2)
      .rw[dW g r1]at hl;split at hl;.omega
       .exact C j B hl
      .rw[dW g r1]at E⊢;split at E
       .rename_i gc;subst gc;split;.rfl
        .exact r3 l hl e O
       .split;.rfl
        .exact el j l hl E e O
      .have Pa:∀(l:List Nat),i∈l->(l.filter λj=> !(b.setIfInBounds i true).getD j false).length<(l.filter λj=> !b.getD j false).length:=by
        intro l;have Nd:∀(l:List Nat),(l.filter λj=> !(b.setIfInBounds i true).getD j false).length<=(l.filter λj=> !b.getD j false).length:=by
         intro l;induction l with
         |nil=>simp|cons x l At=>
          simp only[am_,dW g r1]at At⊢;by_cases M:x=i;.subst M;simp only[if_true,aN_,u_,if_false,r2,ar_,G_];omega
          .simp only[M,if_false];split<;>(try simp only[G_])<;>omega
        induction l with
        |nil=>simp|cons x l At=>
         intro Fm;have Fk:=Nd l;simp only[am_,dW g r1]at At Fk⊢;by_cases M:x=i;.subst M;simp only[if_true,aN_,u_,if_false,r2,ar_,G_];omega
         .have Pb:i∈l:=by rcases List.mem_cons.1 Fm with h|h;all_goals omega
          have:=At Pb;simp only[M,if_false];split<;>(try simp only[G_])<;>omega
       have:=Pa (I_ f.length) (by simpa using r1);omega
      .cases SM:f[i].dst<;>simp[St.aE,St.put,Gh]
      .rw[fk,me,me];by_cases A:f[i].dst=some t
       .rw[if_pos A];have e1:du (λj=>(b.setIfInBounds i true).getD j false&&d j==some t) k=du (λj=>(b.setIfInBounds i true).getD j false&&d j==some t) (i+1):=rL (by omega) λj B ur=>by rw[dW g r1,if_neg (by omega)];cases N:b.getD j false with|false=>rfl|true=>obtain⟨y,Rg,Y⟩:=qr j (by omega) ur N;rw[hdj j y Rg];have:=((conflict Y).1 A).2;simpa using this
        rw[e1,du,dW g r1,if_pos rfl,hdj i _ H,A];simp
       .rw[if_neg A];rw[jz (p:=λj=>(b.setIfInBounds i true).getD j false&&d j==some t) (q:=λj=>b.getD j false&&d j==some t) λj B=>by
         rw[dW g r1];split;.rename_i gc;subst gc;rw[hdj j _ H,r2];simpa using A
         simp])
     unfold wpOp;rw[ho];simp only;split;.rename_i hw;rw[if_pos hw]at this;exact .inl this
     .rename_i hw;rw[if_neg hw]at this;omega
 refine wp_region_any hm ?_;have h0:=Bk ops.size (aa_ ops.size false) a {w with drawn:=w.drawn+1} (by grind) (λi I hl=>by simp[hsz,I]at hl) (λi l hl h2=>by
  have I:i<ops.size:=by have:=(c_.1 hl).1;omega
  simp[I]at h2) (by have:=List.length_filter_le (λi=> !(aa_ ops.size false).getD i false) (I_ f.length);grind) ?_
 .omega
 .have:∀j,H1 d X st (λj=>(aa_ ops.size false).getD j false) j=st:=by
   intro j;induction j with
   |zero=>rfl|succ j ih=>
    rw[H1,ih];have:(aa_ ops.size false).getD j false=false:=by by_cases B:j<ops.size<;>simp[B]
    grind
  rw[this];obtain⟨θ,D,hI⟩:=hr;exact⟨θ,D,hI.drew⟩
end
end Go.Av
