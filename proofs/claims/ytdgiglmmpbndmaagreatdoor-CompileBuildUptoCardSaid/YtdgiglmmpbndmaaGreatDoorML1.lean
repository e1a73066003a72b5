import Derived.WalkKit
import Derived.KernelRfl
import Derived.Deep.Quiet
import Derived.Test.YtdgiglmmpbndmaaGreatDoorGw
import Derived.Laws.StructEq
import Derived.Laws.CopyRow
import Derived.MapKept
set_option linter.all false
open Array renaming getElem?_eq_getElem->g_,getElem?_append_left->l_,getElem?_toList->t_,size_append->L_,getElem?_setIfInBounds_ne->N_,getElem?_append_right->R_,replicate->aa_,length_toList->ac_,getElem?_map->ae_,getElem?_range->aq_,all_eq_true'->av_,toList_map->az_,ext'->aJ_,getD->aR_
open Bool renaming false_eq_true->u_,and_eq_true->F_,not_false->ar_,or_assoc->au_,or_eq_true->aC_,not_true->aN_
open Classical renaming byContradiction->J_
open Int renaming not_lt->aS_
open List renaming mem_of_getElem?->a_,getElem?_eq_getElem->b_,getElem?_eq_some_iff->c_,getElem?_map->i_,getElem?_append_left->j_,eq_nil_of_length_eq_zero->k_,all_eq_true->n_,getElem?_of_mem->p_,getElem?_append_right->r_,length_nil->x_,getElem?_take->z_,getElem?_set_ne->A_,length_cons->G_,mem_range->H_,range->I_,mem_append->K_,size_toArray->M_,getElem?_set_self->O_,getD->Q_,ext_getElem?->S_,length_append->W_,mem_map->X_,replicate->Y_,mem_flatMap->Z_,idxOf_lt_length_of_mem->ad_,mapM_cons->af_,drop_eq_getElem_cons->ai_,mem_or_eq_of_mem_set->aj_,eq_of_mem_replicate->al_,filter_cons->am_,append_nil->an_,foldl_cons->ao_,length_singleton->ap_,getElem?_drop->aw_,length_mapIdx->ax_,getElem?_inj->ay_,zipIdx_cons->aA_,find?_cons->aD_,length_map->aE_,mem_filter->aF_,nil_append->aG_,take_zero->aK_,map_cons->aO_,range'->aQ_
open Nat renaming mul_le_mul_right->f_,le_refl->m_,pos_of_ne_zero->o_,zero_add->q_,lt_of_lt_of_le->s_,add_mul->w_,lt_or_ge->y_,div_lt_iff_lt_mul->C_,le_mul_of_pos_right->D_,le_trans->E_,div_add_mod->P_,mul_comm->T_,add_assoc->V_,eq_zero_or_pos->ag_,mod_lt->ah_,one_mul->ak_,mod_eq_of_lt->aB_,mul_add_mod->aH_,not_lt->aL_,testBit_or->aM_,add_zero->aP_
open Option renaming map_eq_some_iff->d_,bind_eq_some_iff->e_,isSome_iff_exists->v_,getD_some->U_,map_some->ab_,bind_eq_bind->as_,pure_def->aI_
open Option.some renaming inj->h_,injEq->B_
namespace Go.Av
open Go Go.RowKit
inductive PV where
 |sc (v:Value)
 |list (sz:Nat) (xs:List PV)
 |agg (xs:List PV)
 |dP (xs:List PV)
 |Bw (x:PV)
 |fn (f:Fn) (caps:List PV)
 |any
 deriving Inhabited
def PV.cells:PV->List PV
 | .agg xs=>xs
 |x=>[x]
def kZ(sz:Nat):List PV->PV
 |[]=>.list 0 []
 |x::xs=>.list sz (x::xs)
inductive aW(D:Nat->Prop)(w:World):Value->PV->Prop
 |sc (v:Value):aW D w v (.sc v)
 |any (v:Value):aW D w v .any
 |agg (vs:Array Value) (xs:List PV) (hs:vs.size=xs.length) (h:∀(i:Nat) (v:Value) (x:PV),vs[i]? =some v->xs[i]? =some x->aW D w v x):aW D w (.agg vs) (.agg xs)
 |dP (vs:Array Value) (xs:List PV) (hs:vs.size=xs.length) (h:∀(i:Nat) (v:Value) (x:PV),vs[i]? =some v->xs[i]? =some x->aW D w v x):aW D w (.tuple vs) (.dP xs)
 |nil (a:Option Addr) (cap:Nat):aW D w (.slice a 0 cap) (.list 0 [])
 |list (b o cap sz:Nat) (x0:PV) (xs:List PV) (val:Nat->Nat->Value) (hcap:(x0::xs).length<=cap) (hD:D b) (hsz:∀x∈x0::xs,x.cells.length=sz)
  (hc:∀(i j:Nat) (x y:PV),(x0::xs)[i]? =some x->x.cells[j]? =some y->w.cell? ⟨b,o+i*sz+j,none⟩=some (val i j))
  (hr:∀(i j:Nat) (x y:PV),(x0::xs)[i]? =some x->x.cells[j]? =some y->aW D w (val i j) y):
  aW D w (.slice (some ⟨b,o,none⟩) (x0::xs).length cap) (.list sz (x0::xs))
 |Bw (b o:Nat) (x:PV) (val:Nat->Value) (hD:D b) (hc:∀(j:Nat) (y:PV),x.cells[j]? =some y->w.cell? ⟨b,o+j,none⟩=some (val j))
  (hr:∀(j:Nat) (y:PV),x.cells[j]? =some y->aW D w (val j) y):aW D w (.pointer (some ⟨b,o,none⟩)) (.Bw x)
 |fn (f:Fn) (vs:Array Value) (xs:List PV) (hs:vs.size=xs.length) (h:∀(i:Nat) (v:Value) (x:PV),vs[i]? =some v->xs[i]? =some x->aW D w v x):aW D w (.func f #[] vs) (.fn f xs)
def Hz{w w':World}{a:Addr}(h:w'.heap[a.block]? =w.heap[a.block]?):w'.cell? a=w.cell? a:=World.cell?_of_block h
theorem aW.mono{D D':Nat->Prop}{w w':World}(hD:∀b,D b->D' b)(H:∀b,D b->w'.heap[b]? =w.heap[b]?){v:Value}{p:PV}(h:aW D w v p):aW D' w' v p:=by induction h with|sc v=>exact .sc v|any v=>exact .any v|agg vs xs hs _ C=>exact .agg vs xs hs C|dP vs xs hs _ C=>exact .dP vs xs hs C|nil a cap=>exact .nil a cap|list b o cap sz x0 xs val hcap E hsz hc _ C=>exact .list b o cap sz x0 xs val hcap (hD b E) hsz (λi j x y J I=>by rw[Hz (H b E)];grind) C|Bw b o x val E hc _ C=>exact .Bw b o x val (hD b E) (λj y I=>by rw[Hz (H b E)];grind) C|fn f vs xs hs _ C=>exact .fn f vs xs hs C
inductive PV.Flat:PV->Prop
 |sc (v:Value):Flat (.sc v)
 |any:Flat .any
 |agg (xs:List PV) (h:∀(i:Nat) (x:PV),xs[i]? =some x->Flat x):Flat (.agg xs)
 |dP (xs:List PV) (h:∀(i:Nat) (x:PV),xs[i]? =some x->Flat x):Flat (.dP xs)
def aW.flat{D D':Nat->Prop}{w w':World}{v:Value}{p:PV}(h:aW D w v p)(C:p.Flat):aW D' w' v p:=by
 induction h with
 |sc v=>exact .sc v|any v=>exact .any v|agg vs xs hs _ J=>cases C with|agg _ H=>exact .agg vs xs hs λi v x I E=>J i v x I E (H i x E)
 |dP vs xs hs _ J=>cases C with|dP _ H=>exact .dP vs xs hs λi v x I E=>J i v x I E (H i x E)
 |nil a cap=>exact .nil a cap|list=>cases C|Bw=>cases C|fn=>cases C
def nO{D:Nat->Prop}{w:World}{v:Value}{sz:Nat}{xs:List PV}(h:aW D w v (kZ sz xs)): ∃a cap,v= .slice a xs.length cap/\xs.length<=cap/\(0<xs.length->∃b o,a=some ⟨b,o,none⟩/\D b/\(∀x∈xs,x.cells.length=sz)/\∀(i j:Nat) (x y:PV),xs[i]? =some x->x.cells[j]? =some y->∃u,w.cell? ⟨b,o+i*sz+j,none⟩=some u/\aW D w u y):=by
 cases xs with
 |nil=>cases h with|nil a cap=>simp
 |cons x0 xs=>cases h with|list b o cap _ _ _ val hcap c hsz hc hr=>grind
def gu{D:Nat->Prop}{w:World}{sz:Nat}{xs:List PV}{a:Option Addr}{cap:Nat}(hcap:xs.length<=cap) (h:0<xs.length->∃b o,a=some ⟨b,o,none⟩/\D b/\(∀x∈xs,x.cells.length=sz)/\∀(i j:Nat) (x y:PV),xs[i]? =some x->x.cells[j]? =some y->∃u,w.cell? ⟨b,o+i*sz+j,none⟩=some u/\aW D w u y): aW D w (.slice a xs.length cap) (kZ sz xs):=by
 cases xs with
 |nil=>exact .nil a cap|cons x0 xs=>
  obtain⟨b,o,rfl,e,hsz,hc⟩:=h (by simp);have key:∀i j,∃u,∀x y,(x0::xs)[i]? =some x->x.cells[j]? =some y->w.cell? ⟨b,o+i*sz+j,none⟩=some u/\aW D w u y:=by
   intro i j;by_cases c:∃x y,(x0::xs)[i]? =some x/\x.cells[j]? =some y;.obtain⟨x,y,c,d⟩:=c;obtain⟨u,h1,h2⟩:=hc i j x y c d;refine⟨u,λk l f g=>?_⟩;grind
   .exact⟨undef,λx y h1 h2=>absurd ⟨x,y,h1,h2⟩ c⟩
  exact .list b o cap sz x0 xs (λi j=>(key i j).choose) hcap e hsz (λi j x y c d=>((key i j).choose_spec x y c d).1) (λi j x y c d=>((key i j).choose_spec x y c d).2)
def yW{D:Nat->Prop}{w:World}{v:Value}{x:PV}(h:aW D w v (.Bw x)): ∃b o,v= .pointer (some ⟨b,o,none⟩)/\D b/\∀(j:Nat) (y:PV),x.cells[j]? =some y->∃u,w.cell? ⟨b,o+j,none⟩=some u/\aW D w u y:=by cases h with|Bw b o _ val a hc hr=>grind
def oY{D:Nat->Prop}{w:World}{b o:Nat}{x:PV}(c:D b) (h:∀(j:Nat) (y:PV),x.cells[j]? =some y->∃u,w.cell? ⟨b,o+j,none⟩=some u/\aW D w u y):aW D w (.pointer (some ⟨b,o,none⟩)) (.Bw x):=by
 have key:∀j,∃u,∀y,x.cells[j]? =some y->w.cell? ⟨b,o+j,none⟩=some u/\aW D w u y:=by intro j;cases d:x.cells[j]? with|none=>simp|some y=>obtain⟨u,h1,h2⟩:=h j y d;exact⟨u,λf e=>by grind⟩
 exact .Bw b o x (λj=>(key j).choose) c (λj y a=>((key j).choose_spec y a).1) (λj y a=>((key j).choose_spec y a).2)
inductive BV where
 |pv (p:PV)
 |om
 |sl (id:Nat)
 |ptr (id off:Nat)
 |i6 (id i off:Nat)
 |kT (f:Fn) (ids:List Nat)
 |mp (id:Nat)
 |full (p:PV)
 |KF
 deriving Inhabited
inductive AV where
 |b (x:BV)
 |agg (xs:List BV)
 |dP (xs:List BV)
 deriving Inhabited
abbrev AV.p(x:PV):AV:=.b (.pv x)
abbrev AV.v(x:Value):AV:=.b (.pv (.sc x))
def AV.cells:AV->List BV
 | .agg xs=>xs
 | .b (.pv p)=>p.cells.map .pv
 | .b x=>[x]
 | .dP _=>[.pv .any]
inductive K where
 |e
 |f (r:K)
 |s (t:TypeId) (sz:Nat) (sub r:K)
 deriving Inhabited,DecidableEq
def K.at:K->Nat->Option (TypeId×Nat×K)
 | .e,_=>none
 | .f _,0=>none
 | .s t sz sub _,0=>some (t,sz,sub)
 | .f r,n+1=>r.at n
 | .s _ _ _ r,n+1=>r.at n
def K.Oa:K->Bool
 | .e=>true
 | .f r=>r.Oa
 | .s _ _ _ _=>false
def K.mh(k:K)(off n:Nat):Bool:=(I_ n).all λj=>(k.at (off+j)).isNone
inductive aM where
 |gone
 |free
 |box (t:TypeId) (cs:List BV)
 |vec (e:TypeId) (sz:Nat) (xs:List PV)
 |map (k e:TypeId) (kvs:List (PV×PV))
 |tree (e:TypeId) (sz:Nat) (k:K) (xs:List PV) (hole:Option (Nat×Nat×BV))
 deriving Inhabited
structure St where
 fr:List (Nat×AV)
 hp:List aM
def look:List (Nat×AV)->Nat->Option AV
 |[],_=>none
 |(k,a)::l,t=>if t=k then some a else look l t
def St.put(st:St)(d:Nat)(a:AV):St:={st with fr:=(d,a)::st.fr}
inductive SX where
 |tm (k:Nat)
 |c (v:Value)
 |g (n:Nat)
 |f (n:Nat)
 deriving Inhabited
def SX.of:Operand->SX
 | .tmp k=>.tm k
 | .const v=>.c v
 | .global n=>.g n
 | .func n=>.f n
inductive fv where
 |mv (x:SX)
 |pick (c a b:SX)
 |bin (op:BinOp) (x y:SX)
 |Gf (neg:Bool) (x y:SX)
 |un (op:UnOp) (x:SX)
 |len (str:Bool) (x:SX)
 |ql (x i:SX)
 |pB (n sz:Nat) (ag:Bool) (x i:SX)
 |qj (sz:Nat) (x i:SX)
 |qk (n sz:Nat) (ag:Bool) (x i:SX)
 |oj (off sz:Nat) (ag:Bool) (x:SX)
 |HJ (off sz:Nat) (ag:Bool) (x:SX)
 |load (sz:Nat) (ag:Bool) (x:SX)
 |store (sz:Nat) (x v:SX)
 |alloc (t:TypeId) (zero:List Value)
 |box (t:TypeId) (x:SX)
 |pW (t:TypeId) (x:SX)
 |build (zero:List Value) (parts:List (Nat×Nat×SX))
 |bQ (own:Bool) (e:TypeId) (sz len:Nat) (parts:List SX)
 |cU (e:TypeId) (sz bytes:Nat) (zero:Value) (l c:SX)
 |append (e:TypeId) (sz bytes:Nat) (x y:SX)
 |pY (k:IntKind) (x:SX)
 |Im (sz:Nat) (x:SX) (lo hi mx:Option SX)
 |qw (x:SX) (lo hi:Option SX)
 |ext (x:SX) (i:Nat)
 |rC (x:SX)
 |call (bor:Bool) (f:FuncId) (args:List SX)
 |gF (bor:Bool) (B:List Nat) (f:FuncId) (args:List SX)
 |fz (bor:Bool) (B:List Nat) (x:SX) (args:List SX)
 |ol (k e:TypeId) (x:SX)
 |Gb (x:SX)
 |rB (f:FuncId) (caps:List SX)
 |ik (k e:TypeId)
 |lookup (k e:TypeId) (ok:Bool) (zero:Value) (m x:SX)
 |gY (k e:TypeId) (m x v:SX)
 |sy (neg:Bool) (t:TypeId) (x y:SX)
 |copy (e:TypeId) (sz:Nat) (x y:SX)
 |mb (mx:Bool) (k:IntKind) (x:SX) (ys:List SX)
 |panic (x:SX)
 |iface (t:TypeId) (x:SX)
 |pi (e:TypeId) (sz bytes:Nat) (x y:SX)
 |eE (e:TypeId) (sz len:Nat) (parts:List SX)
 |d6 (k:K) (e:TypeId) (sz bytes:Nat) (zero:Value) (l c:SX)
 |pj (k:K) (e:TypeId) (sz bytes:Nat) (x y:SX)
 |hZ (bor:Bool) (x:SX) (args:List SX)
 |uj (s:Nat) (op:fv)
 deriving Inhabited
structure bc where
 dst:Option Nat
 op:fv
 gd:Option (Nat×Bool)
 deriving Inhabited
def bI:Value->BV
 | .slice none 0 0=>.om
 |v=>.pv (.sc v)
def fT:Value->AV
 | .agg cs=>.agg (cs.toList.map bI)
 |v=>.b (bI v)
def St.get(st:St):SX->Option AV
 | .tm k=>look st.fr k
 | .c v=>some (fT v)
 | .g n=>some (.v (.pointer (some ⟨n,0,none⟩)))
 | .f n=>some (.p (.fn (.func n) []))
def aS{b:Type}(o:Option b)(K:b->Prop):Prop:=∃a,o=some a/\K a
def zo(a:AV)(K:Value->Prop):Prop:=∃v,a= .v v/\K v
def isInt(v:Value)(K:IntKind->Int->Prop):Prop:=∃k n,v= .int k n/\K k n
def isBool(v:Value)(K:Bool->Prop):Prop:=∃b,v= .bool b/\K b
def Me(v:Value)(K:ByteArray->Prop):Prop:=∃s,v= .string s/\K s
def l9(hp:List aM)(sz:Nat)(a:AV)(K:List PV->Prop):Prop:=
 (a= .b .om/\K [])\/(∃L,a= .p (kZ sz L)/\K L)\/(∃id e L,a= .b (.sl id)/\hp[id]? =some (.vec e sz L)/\K L)\/(∃L,a= .b (.full (kZ sz L))/\K L)
def Rb{sz:Nat}{L L':List PV}(h:kZ sz L=kZ sz L'):L=L':=by cases L<;>cases L'<;>simp_all[kZ]
def isLen(hp:List aM)(a:AV)(K:Nat->Prop):Prop:=
 (a= .b .om/\K 0)\/(∃sz L,a= .p (kZ sz L)/\K L.length)\/(∃id e sz L,a= .b (.sl id)/\hp[id]? =some (.vec e sz L)/\K L.length)\/(∃sz L,a= .b (.full (kZ sz L))/\K L.length)\/
  (∃id e sz k L hole,a= .b (.sl id)/\hp[id]? =some (.tree e sz k L hole)/\K L.length)
def isMap(hp:List aM)(k e:TypeId)(a:AV)(K:Nat->List (PV×PV)->Prop):Prop:=∃id kvs,a= .b (.mp id)/\hp[id]? =some (.map k e kvs)/\K id kvs
def lE(k:IntKind)(op:BinOp)(x y:Int):Int:=
 match op with
 | .and=>k.wrap (BitVec.ofInt k.bits x&&&BitVec.ofInt k.bits y).toNat
 | .or=>k.wrap (BitVec.ofInt k.bits x|||BitVec.ofInt k.bits y).toNat
 | .xor=>k.wrap (BitVec.ofInt k.bits x ^^^ BitVec.ofInt k.bits y).toNat
 |_=>k.wrap (BitVec.ofInt k.bits x&&& ~~~ BitVec.ofInt k.bits y).toNat
def I3(op:BinOp)(x y:Value)(K:Value->Prop):Prop:=
 match x,y with
 | .int k a,.int c b=>
  match op with
  | .add=>k=c/\K (.int k (k.wrap (a+b)))
  | .sub=>k=c/\K (.int k (k.wrap (a - b)))
  | .mul=>k=c/\K (.int k (k.wrap (a*b)))
  | .quo=>k=c/\b≠0/\K (.int k (k.wrap (a.tdiv b)))
  | .rem=>k=c/\b≠0/\K (.int k (a.tmod b))
  | .and=>k=c/\K (.int k (lE k .and a b))
  | .or=>k=c/\K (.int k (lE k .or a b))
  | .xor=>k=c/\K (.int k (lE k .xor a b))
  | .andNot=>k=c/\K (.int k (lE k .andNot a b))
  | .shl=>0<=b/\K (.int k (k.wrap (a*2^(min b.toNat k.bits))))
  | .shr=>0<=b/\K (.int k (a.fdiv (2^(min b.toNat k.bits))))
  | .eql=>k=c/\K (.bool (a==b))
  | .neq=>k=c/\K (.bool (a != b))
  | .lss=>k=c/\K (.bool (decide (a<b)))
  | .leq=>k=c/\K (.bool (decide (a<=b)))
  | .gtr=>k=c/\K (.bool (decide (a>b)))
  | .geq=>k=c/\K (.bool (decide (a>=b)))
 | .string a,.string b=>
  match op with
  | .add=>a.size+b.size<=9223372036854775807/\K (.string (a++b))
  | .eql=>K (.bool (a.toList==b.toList))
  | .neq=>K (.bool !(a.toList==b.toList))
  | .lss=>K (.bool (Op.bytesLess a.toList b.toList))
  | .leq=>K (.bool (Op.bytesLess a.toList b.toList||a.toList==b.toList))
  | .gtr=>K (.bool !(Op.bytesLess a.toList b.toList||a.toList==b.toList))
  | .geq=>K (.bool !(Op.bytesLess a.toList b.toList))
  |_=>False
 |_,_=>False
def unV(op:UnOp)(x:Value)(K:Value->Prop):Prop:=
 match op,x with
 | .not,.bool b=>K (.bool !b)
 | .neg,.int k n=>K (.int k (k.wrap (0 - n)))
 |_,_=>False
def PV.isAgg:PV->Bool
 | .agg _=>true
 |_=>false
def PV.sub(x:PV)(off sz:Nat)(ag:Bool):PV:=match ag with
 |true=>.agg ((x.cells.drop off).take sz)
 |false=>x.cells.getD off .any
def BV.bG:BV->Option PV
 | .pv p=>some p
 | .om=>some (.list 0 [])
 | .full p=>some p
 |_=>none
def AV.bG:AV->Option PV
 | .b x=>x.bG
 | .agg xs=>(xs.mapM BV.bG).map .agg
 | .dP xs=>(xs.mapM BV.bG).map .dP
def vr:PV:=.sc (.slice none 0 0)
def BV.lW:BV->Option PV
 | .om=>some vr
 |x=>x.bG
def AV.lW:AV->Option PV
 | .b x=>x.lW
 | .agg xs=>(xs.mapM BV.lW).map .agg
 | .dP _=>none
def K.yt(k:K)(cs:List PV):Bool:=(I_ cs.length).all λj=>match k.at j with
 |some _=>(match cs.getD j .any with| .sc (.slice none 0 0)=>true|_=>false)
 |none=>true
def K.gO(k:K)(p:PV):PV:=match p with
 | .agg cs=>.agg (cs.mapIdx λj x=>if(k.at j).isSome then .list 0 []else x)
 |x=>if(k.at 0).isSome then .list 0 []else x
def PV.dh:PV->Bool
 | .sc v=>v.oneCell'
 | .list .. | .Bw _| .fn .. =>true
 |_=>false
def PV.ok(p:PV):Bool:=p.cells.all PV.dh
def BV.dh:BV->Bool
 | .pv p=>p.dh
 |_=>true
def AV.ok(x:AV):Bool:=x.cells.all BV.dh
def splice{a:Type}(xs:List a)(off:Nat)(ys:List a):List a:=xs.take off++ys++xs.drop (off+ys.length)
def mJ(ag:Bool)(cs:List BV):AV:=match ag with
 |true=>.agg cs
 |false=>.b (cs.headD (.pv .any))
def Bu(hp:List aM)(sz:Nat)(ag:Bool)(a:AV)(K:AV->Prop):Prop:=
 match a with
 | .b (.pv (.Bw x))=>x.isAgg=ag/\x.cells.length=sz/\K (.p x)
 | .b (.ptr id off)=>aS hp[id]? λo=>∃t cs,o= .box t cs/\off+sz<=cs.length/\(ag=false->sz=1)/\(K (mJ ag ((cs.drop off).take sz))\/aS (mJ ag ((cs.drop off).take sz)).bG λp=>K (.p p))
 | .b (.i6 id i off)=>aS hp[id]? λo=>(∃e s xs,o= .vec e s xs/\i<xs.length/\off+sz<=s/\(ag=false->sz=1)/\
  ((off=0/\sz=s/\(xs.getD i .any).isAgg=ag/\K (.p (xs.getD i .any)))\/(sz≠s/\K (.p ((xs.getD i .any).sub off sz ag)))))\/
  (∃e s k xs hole,o= .tree e s k xs hole/\i<xs.length/\off+sz<=s/\(ag=false->sz=1)/\
   ((k.mh off sz=true/\K (.p ((xs.getD i .any).sub off sz ag)))\/(∃bv,hole=some (i,off,bv)/\sz=1/\ag=false/\K (.b bv))))
 |_=>False
def AT(hp:List aM)(sz:Nat)(a v:AV)(K:List aM->Prop):Prop:=
 match a with
 | .b (.ptr id off)=>aS hp[id]? λo=>∃t cs,o= .box t cs/\v.cells.length=sz/\off+sz<=cs.length/\v.ok=true/\K (hp.set id (.box t (splice cs off v.cells)))
 | .b (.i6 id i off)=>aS hp[id]? λo=>(∃e s xs,o= .vec e s xs/\i<xs.length/\aS v.bG λp=>p.cells.length=sz/\p.ok=true/\
  ((off=0/\sz=s/\K (hp.set id (.vec e s (xs.set i p))))\/(sz≠s/\off+sz<=s/\K (hp.set id (.vec e s (xs.set i (.agg (splice (xs.getD i .any).cells off p.cells))))))))\/
  (∃e s k xs hole,o= .tree e s k xs hole/\i<xs.length/\off+sz<=s/\
   ((k.mh off sz=true/\(xs.getD i .any).isAgg=true/\aS v.bG λp=>p.cells.length=sz/\p.ok=true/\K (hp.set id (.tree e s k (xs.set i (.agg (splice (xs.getD i .any).cells off p.cells))) hole)))\/
    (∃bv b,hole=some (i,off,bv)/\sz=1/\v= .b b/\b.dh=true/\K (hp.set id (.tree e s k xs (some (i,off,b)))))))
 |_=>False
def BV.kill(id:Nat):BV->BV
 | .sl k=>if k=id then .pv .any else .sl k
 | .i6 k i o=>if k=id then .pv .any else .i6 k i o
 |x=>x
def AV.kill(id:Nat):AV->AV
 | .b x=>.b (x.kill id)
 | .agg xs=>.agg (xs.map (BV.kill id))
 | .dP xs=>.dP (xs.map (BV.kill id))
def JV(g:BV->BV):Option (Nat×Nat×BV)->Option (Nat×Nat×BV)
 |some (i,j,b)=>some (i,j,g b)
 |none=>none
def aM.kill(id:Nat):aM->aM
 | .box t cs=>.box t (cs.map (BV.kill id))
 | .tree e sz k xs h=>.tree e sz k xs (JV (BV.kill id) h)
 |o=>o
def St.kill(st:St)(id:Nat):St:={st with fr:=st.fr.map λx=>(x.1,x.2.kill id),hp:=st.hp.map (aM.kill id)}
def St.fD(st:St)(id:Nat)(o:aM):St:=⟨st.fr.map λx=>(x.1,x.2.kill id),(st.hp.map (aM.kill id)).set id o⟩
def Kf(hp:List aM)(id:Nat):Option PV:=match hp[id]? with
 |some (.vec _ sz xs)=>some (kZ sz xs)
 |some (.tree _ sz _ xs none)=>some (kZ sz xs)
 |_=>none
def sa(hp:List aM)(bor:Bool):BV->Option PV
 | .sl id=>if bor then Kf hp id else none
 |x=>x.bG
def ja(hp:List aM)(bor:Bool):AV->Option PV
 | .b x=>sa hp bor x
 | .agg xs=>(xs.mapM (sa hp bor)).map .agg
 |a=>a.bG
def m7(hp:List aM)(bor:Bool)(B:List Nat):AV->Option AV
 | .b (.sl id)=>if B.contains id then some (.b (.sl id))else(ja hp bor (.b (.sl id))).map .p
 | .agg xs=>if(xs.mapM BV.bG).isSome then(AV.agg xs).bG.map .p else some (.agg xs)
 | .b (.full p)=>some (.p p)
 | .b .om=>some (.p (.list 0 []))
 |a=>some a
def PV.plain:PV->Bool
 | .sc (.int _ _)=>true
 | .sc (.bool _)=>true
 | .sc (.string _)=>true
 | .agg xs=>xs.all λx=>match x with
  | .sc (.int _ _)=>true
  | .sc (.bool _)=>true
  | .sc (.string _)=>true
  |_=>false
 |_=>false
def pN(st:St)(x:Option SX)(b:Nat)(K:Nat->Prop):Prop:=match x with
 |none=>K b
 |some x=>aS (st.get x) λa=>zo a λv=>isInt v λ_ n=>0<=n/\K n.toNat
def bytesOf:List PV->Option (List Int)
 |[]=>some []
 | .sc (.int .u8 n)::l=>(bytesOf l).map (n::·)
 |_=>none
def St.aF(st:St)(d:Option Nat)(a:AV):St:=match d with
 |some d=>st.put d a
 |none=>st
def yv:Value->Option Bool
 | .bool b=>some b
 |_=>none
def BV.eV(ρ:Nat->Nat):BV->BV
 | .sl id=>.sl (ρ id)
 | .ptr id off=>.ptr (ρ id) off
 | .i6 id i off=>.i6 (ρ id) i off
 | .kT f ids=>.kT f (ids.map ρ)
 | .mp id=>.mp (ρ id)
 |x=>x
def AV.eV(ρ:Nat->Nat):AV->AV
 | .b x=>.b (x.eV ρ)
 | .agg xs=>.agg (xs.map (BV.eV ρ))
 | .dP xs=>.dP (xs.map (BV.eV ρ))
def aM.eV(ρ:Nat->Nat):aM->aM
 | .box t cs=>.box t (cs.map (BV.eV ρ))
 | .tree e sz k xs h=>.tree e sz k xs (JV (BV.eV ρ) h)
 |o=>o
def BV.ids:BV->List Nat
 | .sl id=>[id]
 | .ptr id _=>[id]
 | .i6 id _ _=>[id]
 | .kT _ ids=>ids
 | .mp id=>[id]
 |_=>[]
def AV.ids:AV->List Nat
 | .b x=>x.ids
 | .agg xs=>xs.flatMap BV.ids
 | .dP xs=>xs.flatMap BV.ids
def aM.ids:aM->List Nat
 | .box _ cs=>cs.flatMap BV.ids
 | .tree _ _ _ _ (some (_,_,b))=>b.ids
 |_=>[]
def BV.cE(B:List Nat):BV->BV
 | .sl k=>if B.contains k then .pv .any else .sl k
 | .i6 k i o=>if B.contains k then .pv .any else .i6 k i o
 |x=>x
def AV.cE(B:List Nat):AV->AV
 | .b x=>.b (x.cE B)
 | .agg xs=>.agg (xs.map (BV.cE B))
 | .dP xs=>.dP (xs.map (BV.cE B))
def aM.cE(B:List Nat):aM->aM
 | .box t cs=>.box t (cs.map (BV.cE B))
 | .tree e sz k xs h=>.tree e sz k xs (JV (BV.cE B) h)
 |o=>o
def gW(B:List Nat)(n k:Nat):Nat:=if k<B.length then B.getD k 0 else n+(k - B.length)
def j6(B:List Nat)(hp os:List aM):List aM:=
 (hp.mapIdx λi o=>if B.contains i then((os.getD (B.idxOf i) .gone).eV (gW B hp.length))else o.cE B)++(os.drop B.length).map (aM.eV (gW B hp.length))
def St.back(st:St)(B:List Nat)(os:List aM):St:=⟨st.fr.map λx=>(x.1,x.2.cE B),j6 B st.hp os⟩
structure Rec where
 i:Nat
 d:Option Nat
 rd:List Nat
 s:Option Nat
 F:List Nat
 G:List Nat
inductive Loc where
 |no
 |dX (g:Nat)
 |nil (a:Option Addr)
 |nw (g n cap sz:Nat) (O:Nat->Prop)
 |mp (g:Nat)
def Loc.has:Loc->Nat->Prop
 | .dX g,b=>b=g
 | .nw g _ _ _ O,b=>b=g\/O b
 | .mp g,b=>b=g
 |_,_=>False
def none':Nat->Prop:=λ_=>False
def Loc.fixed:Loc->Bool
 | .dX _=>true
 | .mp _=>true
 |_=>false
def Loc.head(l:Loc)(v:Value):Prop:=match l with
 | .nil a=>v= .slice a 0 0
 | .nw g n cap _ _=>v= .slice (some ⟨g,0,none⟩) n cap
 |_=>False
def RelB(θ:List Loc)(D:Nat->Prop)(w:World)(v:Value):BV->Prop
 | .pv p=>aW D w v p
 | .om=>v= .slice none 0 0
 | .sl id=>∃l,θ[id]? =some l/\l.head v
 | .ptr id off=>∃g,θ[id]? =some (.dX g)/\v= .pointer (some ⟨g,off,none⟩)
 | .i6 id i off=>∃g n cap sz O,θ[id]? =some (.nw g n cap sz O)/\v= .pointer (some ⟨g,i*sz+off,none⟩)
 | .kT f ids=>∃b:List Nat,b.length=ids.length/\(∀(k id g:Nat),ids[k]? =some id->b[k]? =some g->θ[id]? =some (.dX g))/\v= .func f #[] (b.map λg=>Value.pointer (some ⟨g,0,none⟩)).toArray
 | .mp id=>∃g,θ[id]? =some (.mp g)/\v= .map (some g)
 | .full p=>aW D w v p/\∃a n,v= .slice a n n
 | .KF=>∃t u,v= .iface t u
def RelA(θ:List Loc)(D:Nat->Prop)(w:World)(v:Value):AV->Prop
 | .b x=>RelB θ D w v x
 | .agg xs=>∃vs:Array Value,v= .agg vs/\vs.size=xs.length/\∀(i:Nat) (u:Value) (x:BV),vs[i]? =some u->xs[i]? =some x->RelB θ D w u x
 | .dP xs=>∃vs:Array Value,v= .tuple vs/\vs.size=xs.length/\∀(i:Nat) (u:Value) (x:BV),vs[i]? =some u->xs[i]? =some x->RelB θ D w u x
inductive kK(D:Nat->Prop)(w:World):Option (TypeId×Nat×K)->(Nat->Prop)->Value->PV->Prop
 |flat (O:Nat->Prop) (v:Value) (p:PV) (h:aW D w v p):kK D w none O v p
 |nil (q:TypeId×Nat×K) (O:Nat->Prop) (a:Option Addr):kK D w (some q) O (.slice a 0 0) (.list 0 [])
 |nw (e:TypeId) (sz:Nat) (k:K) (O:Nat->Prop) (g cap:Nat) (xs:List PV) (p:PV) (cs:Array Value) (val:Nat->Nat->Value) (Os:Nat->Nat->Nat->Prop)
  (hp:p=kZ sz xs) (hcap:xs.length<=cap) (hmax:cap<=maxLen) (hsz:∀x∈xs,x.cells.length=sz) (hg:w.heap[g]? =some (.cells cs e (0,0))) (hcs:cs.size=cap*sz)
  (hO:O g) (hOs:∀i j b,Os i j b->O b/\b≠g) (hdj:∀i j i' j' b,Os i j b->Os i' j' b->i=i'/\j=j')
  (hc:∀(i j:Nat) (x y:PV),xs[i]? =some x->x.cells[j]? =some y->cs[i*sz+j]? =some (val i j))
  (hr:∀(i j:Nat) (x y:PV),xs[i]? =some x->x.cells[j]? =some y->kK D w (k.at j) (Os i j) (val i j) y):
  kK D w (some (e,sz,k)) O (.slice (some ⟨g,0,none⟩) xs.length cap) p
theorem kK.mono{D D':Nat->Prop}{w w':World}(hD:∀b,D b->D' b)(H:∀b,D b->w'.heap[b]? =w.heap[b]?){q:Option (TypeId×Nat×K)}{O:Nat->Prop}{v:Value}{p:PV}(hO:∀b,O b->w'.heap[b]? =w.heap[b]?)(h:kK D w q O v p):kK D' w' q O v p:=by induction h with|flat O v p h=>exact .flat O v p (h.mono hD H)|nil q O a=>exact .nil q O a|nw e sz k O g cap xs p cs val Os hp hcap hmax hsz hg hcs C hOs hdj hc _ M=>exact .nw e sz k O g cap xs p cs val Os hp hcap hmax hsz ((hO g C).trans hg) hcs C hOs hdj hc λi j x y I J=>M i j x y I J λb E=>hO b (hOs i j b E).1
def kK.wide{D:Nat->Prop}{w:World}{q:Option (TypeId×Nat×K)}{O C:Nat->Prop}{v:Value}{p:PV}(hO:∀b,O b->C b)(h:kK D w q O v p):kK D w q C v p:=by cases h with|flat O v p h=>exact .flat C v p h|nil q O a=>exact .nil q C a|nw e sz k O g cap xs p cs val Os hp hcap hmax hsz hg hcs E hOs hdj hc hr=>exact .nw e sz k C g cap xs p cs val Os hp hcap hmax hsz hg hcs (hO g E) (λi j b H=>⟨hO b (hOs i j b H).1,(hOs i j b H).2⟩) hdj hc hr
def kK.toP{D D':Nat->Prop}{w:World}{q:Option (TypeId×Nat×K)}{O:Nat->Prop}{v:Value}{p:PV}(hD:∀b,D b->D' b)(hO:∀b,O b->D' b)(h:kK D w q O v p):aW D' w v p:=by induction h with|flat O v p h=>exact h.mono hD λ_ _=>rfl|nil q O a=>exact .nil a 0|nw e sz k O g cap xs p cs val Os hp hcap hmax hsz hg hcs C hOs hdj hc _ J=>subst hp;refine gu hcap λ_=>⟨g,0,rfl,hO g C,hsz,λi j x y H I=>⟨val i j,?_,J i j x y H I λb E=>hO b (hOs i j b E).1⟩⟩;rw[cell_of_row w g _ cs e (0,0) hg];grind
def dM(h:Option (Nat×Nat×BV))(i j:Nat):Option BV:=match h with
 |some (a,b,x)=>if a=i/\b=j then some x else none
 |none=>none
def cJ(θ:List Loc)(D:Nat->Prop)(w:World):Loc->aM->Prop
 | .dX g,.box t cs=>∃c:Array Value,w.heap[g]? =some (.cells c t (0,0))/\c.size=cs.length/\∀(i:Nat) (u:Value) (x:BV),c[i]? =some u->cs[i]? =some x->RelB θ D w u x
 | .nil _,.vec _ _ xs=>xs=[]
 | .nil _,.tree _ _ _ xs h=>xs=[]/\h=none
 | .nw g n cap s O,.tree e sz k xs hole=>s=sz/\n=xs.length/\n<=cap/\cap<=maxLen/\(∀x∈xs,x.cells.length=sz)/\∃(c:Array Value) (Os:Nat->Nat->Nat->Prop),w.heap[g]? =some (.cells c e (0,0))/\c.size=cap*sz/\
  (∀i j b,Os i j b->O b/\b≠g)/\(∀i j i' p b,Os i j b->Os i' p b->i=i'/\j=p)/\(∀i j b,hole=some (i,j,b)->i<xs.length/\(k.at j).isSome=true)/\
  ∀(i j:Nat) (x y:PV),xs[i]? =some x->x.cells[j]? =some y->∃u,c[i*sz+j]? =some u/\(match dM hole i j with|some b=>RelB θ D w u b|none=>kK D w (k.at j) (Os i j) u y)
 | .nw g n cap s _,.vec e sz xs=>s=sz/\n=xs.length/\n<=cap/\cap<=maxLen/\(∀x∈xs,x.cells.length=sz)/\∃c:Array Value,w.heap[g]? =some (.cells c e (0,0))/\c.size=cap*sz/\
  ∀(i j:Nat) (x y:PV),xs[i]? =some x->x.cells[j]? =some y->∃u,c[i*sz+j]? =some u/\aW D w u y
 | .mp g,.map _ _ kvs=>∃(f:Array MapEntry) (a:Nat),w.heap[g]? =some (.map f a)/\f.size=kvs.length/\∀(i:Nat) (d:MapEntry) (l:PV×PV),f[i]? =some d->kvs[i]? =some l->aW D w d.key l.1/\aW D w d.val l.2
 | .no,.free=>True
 |_,.gone=>True
 |_,_=>False
structure Ok(θ:List Loc)(D:Nat->Prop)(hp:List aM)(w:World):Prop where
 len:θ.length=hp.length
 pn:∀b,D b->b<w.heap.size
 inj:∀(i j:Nat) (li lj:Loc) (g:Nat),θ[i]? =some li->θ[j]? =some lj->li.has g->lj.has g->i=j
 mX:∀(i:Nat) (l:Loc) (g:Nat),θ[i]? =some l->l.has g->g<w.heap.size/\¬D g
 fO:∀(i:Nat) (l:Loc) (o:aM),θ[i]? =some l->hp[i]? =some o->cJ θ D w l o
structure m6(O:Nat->Prop)(w w':World):Prop where
 os:w'.os=w.os
 tape:w'.tape=w.tape
 output:w'.output=w.output
 size:w.heap.size<=w'.heap.size
 block:∀k,k<w.heap.size->¬O k->w'.heap[k]? =w.heap[k]?
def m6.refl(O:Nat->Prop)(w:World):m6 O w w:=⟨rfl,rfl,rfl,m_ _,λ_ _ _=>rfl⟩
def m6.trans{O:Nat->Prop}{a b c:World}(h:m6 O a b)(k:m6 O b c):m6 O a c:=⟨k.os.trans h.os,k.tape.trans h.tape,k.output.trans h.output,E_ h.size k.size,λi C E=>(k.block i (s_ C h.size) E).trans (h.block i C E)⟩
def m6.of_below{O:Nat->Prop}{w w':World}(h:Below w.heap.size w w'):m6 O w w':=⟨h.os,h.tape,h.output,h.size,λk C _=>h.block k C⟩
def m6.below{w w':World}(h:m6 (λ_=>False) w w'):Below w.heap.size w w':=⟨h.os,h.tape,h.output,h.size,λk C=>h.block k C id⟩
def GW(D:Nat->Prop)(w:World):Prop:=∀w',m6 (λb=>¬D b) w w'->GT w'
theorem GW.mono{D D':Nat->Prop}{w w':World}{O:Nat->Prop}(h:GW D w)(C:m6 O w w')(hO:∀b,D b->¬O b)(hD:∀b,D b->D' b):GW D' w':=λw2 h2=>
 h w2 ⟨h2.os.trans C.os,h2.tape.trans C.tape,h2.output.trans C.output,E_ C.size h2.size,λk E H=>
  have hd:D k:=J_ H
  (h2.block k (s_ E C.size) (λh=>h (hD k hd))).trans (C.block k E (hO k hd))⟩
def GW.of{w:World}(h:GT w):GW (λb=>b<w.heap.size) w:=λ_ h2=>h.below ⟨h2.os,h2.tape,h2.output,h2.size,λk C=>h2.block k C (λh=>h C)⟩
structure Ctx where
 n:Nat
 w0:World
 D0:Nat->Prop
 O0:Nat->Prop
 dfs:List Deferred
 th:List Loc
 gk:∀w,m6 O0 w0 w->GW D0 w
structure Inv(c:Ctx)(θ:List Loc)(D:Nat->Prop)(st:St)(a:Act)(w:World):Prop where
 size:a.tmps.size=c.n
 defers:a.defers=c.dfs
 ok:Ok θ D st.hp w
 keep:m6 c.O0 c.w0 w
 lG:∀b,c.D0 b->D b
 ng:∀b,D b->c.D0 b\/c.O0 b\/c.w0.heap.size<=b
 jY:∀(i:Nat) (l:Loc) (g:Nat),θ[i]? =some l->l.has g->c.O0 g\/c.w0.heap.size<=g
 fr:∀k x,look st.fr k=some x->RelA θ D w (a.tmps.getD k undef) x
 fix:∀(k:Nat) (l:Loc),c.th[k]? =some l->l.fixed=true->θ[k]? =some l
def i8(c:Ctx)(st:St)(a:Act)(w:World):Prop:=∃θ D,Inv c θ D st a w
section
variable {θ:List Loc} {D D':Nat->Prop} {w w':World}
theorem RelB.mono(hD:∀b,D b->D' b)(C:∀b,D b->w'.heap[b]? =w.heap[b]?){v:Value}{x:BV}(h:RelB θ D w v x):RelB θ D' w' v x:=by
 cases x<;>simp only[RelB]at h⊢;case pv p=>exact h.mono hD C
 case full p=>exact⟨h.1.mono hD C,h.2⟩
 all_goals omega
theorem RelA.mono(hD:∀b,D b->D' b)(I:∀b,D b->w'.heap[b]? =w.heap[b]?){v:Value}{x:AV}(h:RelA θ D w v x):RelA θ D' w' v x:=by
 cases x with
 |b x=>exact RelB.mono hD I h|agg xs=>obtain⟨vs,H,hs,C⟩:=h;exact⟨vs,H,hs,λi u x E J=>(C i u x E J).mono hD I⟩
 |dP xs=>obtain⟨vs,H,hs,C⟩:=h;exact⟨vs,H,hs,λi u x E J=>(C i u x E J).mono hD I⟩
theorem cJ.mono(hD:∀b,D b->D' b)(I:∀b,D b->w'.heap[b]? =w.heap[b]?){l:Loc}{o:aM}(hl:∀g,l.has g->w'.heap[g]? =w.heap[g]?)(h:cJ θ D w l o):cJ θ D' w' l o:=by
 cases l<;>cases o<;>simp only[cJ]at h⊢<;>try exact h
 case dX.box g t cs=>obtain⟨c,h1,h2,C⟩:=h;exact⟨c,(hl g rfl).trans h1,h2,λi u x hu M=>(C i u x hu M).mono hD I⟩
 case nw.tree g n cap s O e sz k xs hole=>
  obtain⟨h1,h2,C,h4,h5,c,Os,h6,h7,N,h9,el,Y⟩:=h;refine⟨h1,h2,C,h4,h5,c,Os,(hl g (.inl rfl)).trans h6,h7,N,h9,el,λi j x y M hy=>?_⟩;obtain⟨u,U,H⟩:=Y i j x y M hy;refine⟨u,U,?_⟩;split;.rename_i b J;rw[J]at H;exact H.mono hD I
  .rename_i J;rw[J]at H;exact H.mono hD I λb J=>hl b (.inr (N i j b J).1)
 case nw.vec g n cap s O e sz xs=>obtain⟨h1,h2,C,h4,h5,c,h6,h7,N⟩:=h;exact⟨h1,h2,C,h4,h5,c,(hl g (.inl rfl)).trans h6,h7,λi j x y M hy=>let⟨u,U,H⟩:=N i j x y M hy;⟨u,U,H.mono hD I⟩⟩
 case mp.map g k e kvs=>obtain⟨es,E,h1,h2,C⟩:=h;exact⟨es,E,(hl g rfl).trans h1,h2,λi en kv he hk=>⟨(C i en kv he hk).1.mono hD I,(C i en kv he hk).2.mono hD I⟩⟩
theorem RelB.Ad{θ':List Loc}(C:∀(i:Nat) (l:Loc),θ[i]? =some l->l≠.no->θ'[i]? =some l){v:Value}{x:BV}(h:RelB θ D w v x):RelB θ' D w v x:=by
 cases x<;>simp only[RelB]at h⊢;.omega
 .omega
 .obtain⟨l,h1,h2⟩:=h;exact⟨l,C _ _ h1 (λe=>by subst e;exact h2),h2⟩
 .grind
 .grind
 .grind
 all_goals grind
theorem RelA.Ad{θ':List Loc}(C:∀(i:Nat) (l:Loc),θ[i]? =some l->l≠.no->θ'[i]? =some l){v:Value}{x:AV}(h:RelA θ D w v x):RelA θ' D w v x:=by
 cases x with
 |b x=>exact RelB.Ad C h|agg xs=>obtain⟨vs,I,hs,E⟩:=h;exact⟨vs,I,hs,λi u x H J=>(E i u x H J).Ad C⟩
 |dP xs=>obtain⟨vs,I,hs,E⟩:=h;exact⟨vs,I,hs,λi u x H J=>(E i u x H J).Ad C⟩
theorem cJ.Ad{θ':List Loc}(C:∀(i:Nat) (l:Loc),θ[i]? =some l->l≠.no->θ'[i]? =some l){l:Loc}{o:aM}(h:cJ θ D w l o):cJ θ' D w l o:=by
 cases l<;>cases o<;>simp only[cJ]at h⊢<;>try exact h
 case dX.box g t cs=>obtain⟨c,h1,h2,I⟩:=h;exact⟨c,h1,h2,λi u x hu J=>(I i u x hu J).Ad C⟩
 case nw.tree g n cap s O e sz k xs hole=>
  obtain⟨h1,h2,I,U,Y,c,Os,h6,h7,h8,h9,H,E⟩:=h;refine⟨h1,h2,I,U,Y,c,Os,h6,h7,h8,h9,H,λi j x y J hy=>?_⟩;obtain⟨u,N,M⟩:=E i j x y J hy;refine⟨u,N,?_⟩;split;.rename_i b hb;rw[hb]at M;exact M.Ad C
  grind
theorem RelB.ext{θ':List Loc}(C:∀(i:Nat) (l:Loc),θ[i]? =some l->θ'[i]? =some l){v:Value}{x:BV}(h:RelB θ D w v x):RelB θ' D w v x:=h.Ad λi l E _=>C i l E
theorem RelA.ext{θ':List Loc}(C:∀(i:Nat) (l:Loc),θ[i]? =some l->θ'[i]? =some l){v:Value}{x:AV}(h:RelA θ D w v x):RelA θ' D w v x:=h.Ad λi l E _=>C i l E
theorem cJ.ext{θ':List Loc}(C:∀(i:Nat) (l:Loc),θ[i]? =some l->θ'[i]? =some l){l:Loc}{o:aM}(h:cJ θ D w l o):cJ θ' D w l o:=h.Ad λi l E _=>C i l E
end
def get_append{a:Type}{l m:List a}{i:Nat}{x:a}(h:l[i]? =some x):(l++m)[i]? =some x:=by grind
def Inv.below{c:Ctx}{θ:List Loc}{D:Nat->Prop}{st:St}{a:Act}{w w':World}(h:Inv c θ D st a w)(I:Below w.heap.size w w')(U:c.w0.heap.size<=w.heap.size){D':Nat->Prop}(hD:∀b,D b->D' b) (E:∀b,D' b->D b\/(w.heap.size<=b/\b<w'.heap.size)):Inv c θ D' st a w':=by
 have H:∀b,D b->w'.heap[b]? =w.heap[b]? :=λb C=>I.block b (h.ok.pn b C);refine⟨h.size,h.defers,⟨h.ok.len,λb C=>?_,h.ok.inj,λi l g J hg=>?_,λi l o J N=>?_⟩,h.keep.trans (.of_below I),λb C=>hD b (h.lG b C),λb C=>?_,h.jY,λk x M=>(h.fr k x M).mono hD H,h.fix⟩
 .rcases E b C with h1|h1;.exact s_ (h.ok.pn b h1) I.size
  omega
 .obtain⟨h1,h2⟩:=h.ok.mX i l g J hg;refine⟨s_ h1 I.size,λhd=>?_⟩;grind
 .exact(h.ok.fO i l o J N).mono hD H λg hg=>I.block g (h.ok.mX i l g J hg).1
 .rcases E b C with h1|h1;.exact h.ng b h1
  omega
def Inv.Ci{c:Ctx}{θ:List Loc}{D:Nat->Prop}{st:St}{a:Act}{w:World}(h:Inv c θ D st a w):c.w0.heap.size<=w.heap.size:=h.keep.size
def Inv.drew{c:Ctx}{θ:List Loc}{D:Nat->Prop}{st:St}{a:Act}{w:World}(h:Inv c θ D st a w):Inv c θ D st a w.drew:=h.below ((Below.refl _ _).drew) h.Ci (λ_ C=>C) (λ_ C=>.inl C)
theorem Inv.put{c:Ctx}{θ:List Loc}{D:Nat->Prop}{st:St}{a:Act}{w:World}(h:Inv c θ D st a w){d:Option Nat}{v:Value}{x:AV}(hd:∀k,d=some k->k<c.n)(I:RelA θ D w v x):Inv c θ D (st.aF d x) (a.put d v) w:=by
 cases d with
 |none=>exact h|some k=>
  have H:=hd k rfl;refine⟨by simpa[Act.put,St.aF,St.put]using h.size,h.defers,h.ok,h.keep,h.lG,h.ng,h.jY,λj y E=>?_,h.fix⟩;simp only[St.aF,St.put,look]at E;have hs:k<a.tmps.size:=by rw[h.size];omega
  by_cases C:j=k;.subst C;simp only[if_true]at E;cases E;simp[Act.put,hs];omega
  .simp only[C]at E;have:=h.fr j y E;simp[Act.put,N_ (Ne.symm C)]at this⊢;omega
def Inv.push{c:Ctx}{θ:List Loc}{D:Nat->Prop}{st:St}{a:Act}{w:World}(h:Inv c θ D st a w){l:Loc}{o:aM}(ho:cJ (θ++[l]) D w l o) (hl:∀g,l.has g->c.w0.heap.size<=g/\g<w.heap.size/\¬D g/\∀(i:Nat) (li:Loc),θ[i]? =some li->¬li.has g):Inv c (θ++[l]) D {st with hp:=st.hp++[o]} a w:=by
 have E:∀(i:Nat) (l':Loc),θ[i]? =some l'->(θ++[l])[i]? =some l':=λi l' H=>get_append H;have C:∀(i:Nat) (l':Loc),(θ++[l])[i]? =some l'->θ[i]? =some l'\/(i=θ.length/\l'=l):=by grind
 refine⟨h.size,h.defers,⟨by simp[h.ok.len],h.ok.pn,λi j li Y g H hj J M=>?_,λi l' g H hg=>?_,λi l' o' H I=>?_⟩,h.keep,h.lG,h.ng,λi l' g H hg=>?_,λk x N=>(h.fr k x N).ext E,λk l N hf=>E k l (h.fix k l N hf)⟩
 .rcases C i li H with h1|⟨rfl,rfl⟩<;>rcases C j Y hj with h2|⟨rfl,rfl⟩;.exact h.ok.inj i j li Y g h1 h2 J M
  all_goals grind
 .rcases C i l' H with h1|⟨rfl,rfl⟩;.exact h.ok.mX i l' g h1 hg
  grind
 .rcases C i l' H with h1|⟨rfl,rfl⟩
  .have U:i<st.hp.length:=by rw[<-h.ok.len];grind
   rw[j_ U]at I;exact(h.ok.fO i l' o' h1 I).ext E
  .rw[h.ok.len]at I;grind
 .rcases C i l' H with h1|⟨rfl,rfl⟩;.exact h.jY i l' g h1 hg
  grind
def Inv.QU{c:Ctx}{θ:List Loc}{D:Nat->Prop}{st:St}{a:Act}{w:World}(h:Inv c θ D st a w){s:Nat}(hs:st.hp[s]? =some .free):θ[s]? =some .no:=by
 have E:s<st.hp.length:=(c_.1 hs).1;have C:s<θ.length:=by rw[h.ok.len];omega
 have:=h.ok.fO s _ _ (b_ C) hs;grind[cJ]
theorem Inv.fill{c:Ctx}{θ:List Loc}{D:Nat->Prop}{st:St}{a:Act}{w:World}(h:Inv c θ D st a w){s:Nat}(hs:st.hp[s]? =some .free){l:Loc}{o:aM}(ho:cJ (θ.set s l) D w l o) (hl:∀g,l.has g->c.w0.heap.size<=g/\g<w.heap.size/\¬D g/\∀(i:Nat) (li:Loc),θ[i]? =some li->¬li.has g):Inv c (θ.set s l) D {st with hp:=st.hp.set s o} a w:=by
 have el:=h.QU hs;have H:∀(i:Nat) (l':Loc),θ[i]? =some l'->l'≠.no->(θ.set s l)[i]? =some l':=λi l' I hn=>by grind
 have C:∀(i:Nat) (l':Loc),(θ.set s l)[i]? =some l'->(i=s/\l'=l)\/(i≠s/\θ[i]? =some l'):=λi l' I=>by grind
 refine⟨h.size,h.defers,⟨by simp[h.ok.len],h.ok.pn,λi j li lj g I hj N U=>?_,λi l' g I hg=>?_,λi l' o' I J=>?_⟩,h.keep,h.lG,h.ng,λi l' g I hg=>?_,λk x Y=>(h.fr k x Y).Ad H,λk l Y hf=>H k l (h.fix k l Y hf) (λe=>by subst e;cases hf)⟩
 .rcases C i li I with⟨rfl,rfl⟩|⟨h1,E⟩<;>rcases C j lj hj with⟨rfl,rfl⟩|⟨h2,M⟩;.rfl
  .grind
  .grind
  .exact h.ok.inj i j li lj g E M N U
 .rcases C i l' I with⟨rfl,rfl⟩|⟨h1,E⟩;.grind
  .exact h.ok.mX i l' g E hg
 .rcases C i l' I with⟨rfl,rfl⟩|⟨h1,E⟩;.grind
  .rw[A_ (Ne.symm h1)]at J;exact(h.ok.fO i l' o' E J).Ad H
 .rcases C i l' I with⟨rfl,rfl⟩|⟨h1,E⟩;.grind
  .exact h.jY i l' g E hg
def owns(θ:List Loc)(b:Nat):Prop:=∃(i:Nat) (l:Loc),θ[i]? =some l/\l.has b
abbrev C3:=Option (AV×List aM)
def qH(a:List PanicEntry):Prop:=∃t v,a=[{v:=.iface t v,recovered:=false}]
def Iv(θ:List Loc)(D:Nat->Prop)(w:World)(K:C3->Prop)(e:Ending)(w':World):Prop:=
 (∃v r a θ' D',e= .returned v/\K (some (r,a))/\RelA θ' D' w' v r/\Ok θ' D' a w'/\m6 (owns θ) w w'/\(∀b,D b->D' b)/\(∀b,D' b->D b\/owns θ b\/w.heap.size<=b)/\
  (∀(i:Nat) (l:Loc) (g:Nat),θ'[i]? =some l->l.has g->owns θ g\/w.heap.size<=g)/\(∀(k:Nat) (l:Loc),θ[k]? =some l->l.fixed=true->θ'[k]? =some l)/\θ.length<=θ'.length)\/
 (∃c,qH c/\e= .panicked c/\K none/\m6 (owns θ) w w')
def eN(P:Program)(f:FuncId)(ars:List AV)(os:List aM)(K:C3->Prop):Prop:=
 ∀(w:World) (θ:List Loc) (D:Nat->Prop) (vs:List Value),GW D w->Ok θ D os w->vs.length=ars.length->(∀(i:Nat) (v:Value) (x:AV),vs[i]? =some v->ars[i]? =some x->RelA θ D w v x)->
  Calls P f vs.toArray w (Iv θ D w K)
theorem Iv.mono{θ:List Loc}{D:Nat->Prop}{w w':World}{K H:C3->Prop}{e:Ending}(h:Iv θ D w K e w')(I:∀o,K o->H o):Iv θ D w H e w':=by
 rcases h with⟨v,r,E,θ',D',h1,h2,C⟩|⟨J,M,h1,h2,C⟩;.exact .inl ⟨v,r,E,θ',D',h1,I _ h2,C⟩
 .exact .inr ⟨J,M,h1,I _ h2,C⟩
theorem eN.mono{P:Program}{f:FuncId}{ars:List AV}{os:List aM}{K C:C3->Prop}(h:eN P f ars os K)(J:∀o,K o->C o):eN P f ars os C:=λw θ D vs E h1 h2 H=>(h w θ D vs E h1 h2 H).mono λ_ _ I=>I.mono J
def BV.sR:BV->Prop
 | .pv p=>p.Flat
 | .full _=>False
 |_=>True
def AV.sQ:AV->Prop
 | .b x=>x.sR
 | .agg xs=>∀x∈xs,x.sR
 | .dP xs=>∀x∈xs,x.sR
inductive Hh:Option (TypeId×Nat×K)->PV->Prop
 |flat (p:PV) (h:p.Flat):Hh none p
 |sl (e:TypeId) (sz:Nat) (k:K) (p:PV) (xs:List PV) (hp:p=kZ sz xs) (h:∀(i j:Nat) (x y:PV),xs[i]? =some x->x.cells[j]? =some y->Hh (k.at j) y):Hh (some (e,sz,k)) p
def Vt(k:K)(xs:List PV):Prop:=∀(i j:Nat) (x y:PV),xs[i]? =some x->x.cells[j]? =some y->Hh (k.at j) y
def aM.rW:aM->Prop
 | .gone=>True
 | .free=>True
 | .box _ cs=>∀x∈cs,x.sR
 | .vec _ _ xs=>∀x∈xs,∀y∈x.cells,y.Flat
 | .map _ _ kvs=>∀C∈kvs,C.1.Flat/\C.2.Flat
 | .tree _ _ k xs h=>(∀i j b,h=some (i,j,b)->b.sR)/\Vt k xs
def ip(P:Program)(t:TypeId):Bool:=match P.underlying t with
 |some (.struct _)=>true
 |some (.array _ _)=>true
 |_=>false
def wu(P:Program):Nat->TypeId->PV->PV->Option Bool
 |0,_,_,_=>none
 |d+1,t,x,y=>match P.underlying t,x,y with
  |some .bool,.sc (.bool a),.sc (.bool b)=>some (a==b)
  |some (.int _),.sc (.int k a),.sc (.int e b)=>if k=e then some (a==b)else none
  |some .string,.sc (.string a),.sc (.string b)=>some (a==b)
  |some (.struct c),.agg xs,.agg ys=>if P.stoodInHeld t then none else eqFs d c.toList xs ys
  |_,_,_=>none
where eqFs (d:Nat):List Field->List PV->List PV->Option Bool
 |[],_,_=>some true
 |f::l,xs,ys=>if f.name= "_" then none else(P.info? f.type).bind λi=>if(P.underlying f.type).isNone\/xs.length<f.offset+i.size\/ys.length<f.offset+i.size\/(ip P f.type=false/\i.size≠1)then none else
  (wu P d f.type ((PV.agg xs).sub f.offset i.size (ip P f.type)) ((PV.agg ys).sub f.offset i.size (ip P f.type))).bind λb=>if b then eqFs d l xs ys else some false
def Au(P:Program):Nat->TypeId->PV->Bool
 |0,_,_=>false
 |d+1,t,p=>match P.underlying t,p with
  |some .bool,.sc (.bool _)=>true
  |some (.int _),.sc (.int _ _)=>true
  |some .string,.sc (.string _)=>true
  |some (.struct a),.agg xs=>a.toList.all λf=>f.name != "_" &&(match P.info? f.type with
   |some i=>(P.underlying f.type).isSome&&decide (f.offset+i.size<=xs.length)&&(ip P f.type||decide (i.size=1))&&Au P d f.type ((PV.agg xs).sub f.offset i.size (ip P f.type))
   |none=>false)
  |_,_=>false
def r5(P:Program)(k:TypeId)(x:PV):List (PV×PV)->Nat->Option (Option (Nat×PV))
 |[],_=>some none
 |a::l,i=>(wu P 64 k x a.1).bind λb=>if b then some (some (i,a.2))else r5 P k x l (i+1)
def eI(P:Program)(f:FuncId):Bool:=match P.funcs[f]? with
 |some fn=>fn.body.isSome&&fn.name != "runtime.NumGoroutine"
 |none=>false
def jh(P:Program)(st:St)(op:fv)(K:AV->Prop):Prop:=
 match op with
 | .mv x=>aS (st.get x) K
 | .pick c a b=>aS (st.get c) λc=>zo c λt=>isBool t λt=>(t=true->aS (st.get a) K)/\(t=false->aS (st.get b) K)
 | .bin op x y=>aS (st.get x) λx=>aS (st.get y) λy=>zo x λx=>zo y λy=>I3 op x y λv=>K (.v v)
 | .Gf neg x y=>aS (st.get x) λx=>aS (st.get y) λy=>zo x λx=>zo y λy=>isBool x λa=>isBool y λb=>K (.v (.bool (neg ^^ (a==b))))
 | .un op x=>aS (st.get x) λx=>zo x λx=>unV op x λv=>K (.v v)
 | .len str x=>aS (st.get x) λx=>match str with
  |false=>isLen st.hp x λn=>K (.v (.int .i64 n))
  |true=>zo x λx=>Me x λs=>K (.v (.int .i64 s.size))
 | .ol k e x=>aS (st.get x) λx=>isMap st.hp k e x λ_ kvs=>K (.v (.int .i64 kvs.length))
 | .ql x i=>aS (st.get x) λx=>aS (st.get i) λi=>zo x λx=>zo i λi=>isInt i λ_ n=>Me x λs=>0<=n/\n<s.size/\K (.v (.int .u8 (s.toList.getD n.toNat 0).toNat))
 | .pB n sz ag x i=>aS (st.get x) λx=>aS (st.get i) λi=>zo i λi=>isInt i λ_ m=>aS x.bG λp=>0<=m/\m<n/\(ag=false->sz=1)/\p.cells.length=n*sz/\p.isAgg=true/\K (.p (p.sub (m.toNat*sz) sz ag))
 | .qj sz x i=>aS (st.get x) λx=>aS (st.get i) λi=>zo i λi=>isInt i λ_ n=>
  ((∃L,x= .p (kZ sz L)/\0<=n/\n<L.length/\K (.p (.Bw (L.getD n.toNat .any))))\/(∃id,x= .b (.sl id)/\aS st.hp[id]? λo=>(∃e L,o= .vec e sz L/\0<=n/\n<L.length/\K (.b (.i6 id n.toNat 0)))\/(∃e k L h,o= .tree e sz k L h/\0<=n/\n<L.length/\K (.b (.i6 id n.toNat 0)))))
 | .qk n sz ag x i=>aS (st.get x) λx=>aS (st.get i) λi=>zo i λi=>isInt i λ_ m=>0<=m/\m<n/\((∃id off,x= .b (.ptr id off)/\K (.b (.ptr id (off+m.toNat*sz))))\/
  (∃p,x= .p (.Bw p)/\p.cells.length=n*sz/\(ag=false->sz=1)/\(p.sub (m.toNat*sz) sz ag).isAgg=ag/\K (.p (.Bw (p.sub (m.toNat*sz) sz ag)))))
 | .oj off sz ag x=>aS (st.get x) λx=>(∃p,x= .p (.Bw p)/\off+sz<=p.cells.length/\(ag=false->sz=1)/\(p.sub off sz ag).isAgg=ag/\K (.p (.Bw (p.sub off sz ag))))\/(∃id o,x= .b (.ptr id o)/\K (.b (.ptr id (o+off))))\/(∃id i o,x= .b (.i6 id i o)/\K (.b (.i6 id i (o+off))))
 | .HJ off sz ag x=>aS (st.get x) λx=>(∃p,x= .p p/\p.isAgg=true/\off+sz<=p.cells.length/\(ag=false->sz=1)/\K (.p (p.sub off sz ag)))\/(∃cs,x= .agg cs/\off+sz<=cs.length/\(ag=false->sz=1)/\K (mJ ag ((cs.drop off).take sz)))
 | .load sz ag x=>aS (st.get x) λx=>Bu st.hp sz ag x K
 | .pY k x=>aS (st.get x) λx=>zo x λx=>isInt x λ_ n=>K (.v (.int k (k.wrap n)))
 | .Im sz x lo u mx=>aS (st.get x) λx=>(aS x.bG λq=>∃L,q=kZ sz L/\pN st lo 0 λl=>pN st u L.length λh=>pN st mx L.length λm=>
  (mx.isSome=true->u.isSome=true)/\l<=h/\h<=m/\m<=L.length/\
   (K (.p (kZ sz ((L.take h).drop l)))\/(mx.isSome=true/\h=m/\K (.b (.full (kZ sz ((L.take h).drop l)))))))\/
  ∃id,x= .b (.sl id)/\aS st.hp[id]? λo=>∃e k L g,o= .tree e sz k L g/\pN st lo 0 λl=>pN st u L.length λh=>pN st mx L.length λm=>
   (mx.isSome=true->u.isSome=true)/\l<=h/\h<=m/\m<=L.length/\h=l/\K (.p (.list 0 []))
 | .qw x lo u=>aS (st.get x) λx=>zo x λx=>Me x λs=>pN st lo 0 λl=>pN st u s.size λh=>
  l<=h/\h<=s.size/\K (.v (.string (s.extract l h)))
 | .ext x i=>aS (st.get x) λx=>(∃xs,x= .p (.dP xs)/\aS xs[i]? λp=>K (.p p))\/(∃xs,x= .dP xs/\aS xs[i]? λp=>K (.b p))
 | .rC x=>aS (st.get x) λx=>((∃p,x= .p (.Bw p))\/(∃id o,x= .b (.ptr id o))\/(∃id i o,x= .b (.i6 id i o))\/(∃f d,x= .p (.fn (.func f) d))\/(∃f ids,x= .b (.kT (.func f) ids)))/\K x
 | .build zero parts=>aS (parts.mapM λq=>(st.get q.2.2).map λa=>(q.1,q.2.1,a)) λd=>
  (∀q∈d,q.2.2.ok=true/\q.2.2.cells.length=q.2.1/\q.1+q.2.1<=zero.length)/\K (.agg (d.foldl (λcs q=>splice cs q.1 q.2.2.cells) (zero.map λv=>bI v)))
 | .call bor f args=>aS (args.mapM λx=>(st.get x).bind (ja st.hp bor)) λd=>eN P f (d.map .p) [] λo=>∃r j,o=some (r,j)/\r.ids=[]/\(bor=true->r.sQ)/\K r
 | .hZ bor x args=>aS (st.get x) λx=>∃f cs,x= .p (.fn (.func f) cs)/\eI P f=true/\aS (args.mapM λx=>(st.get x).bind (ja st.hp bor)) λd=>eN P f ((d++cs).map .p) [] λo=>∃r j,o=some (r,j)/\r.ids=[]/\(bor=true->r.sQ)/\K r
 | .pW _ x=>aS (st.get x) λx=>aS x.bG λp=>x.ok=true/\(∀q,x≠.b (.full q))/\K (.p (.Bw p))
 | .Gb x=>aS (st.get x) λx=>l9 st.hp 1 x λL=>aS (bytesOf L) λl=>K (.v (.string (strOfNums l)))
 | .bQ false _ sz len parts=>aS (parts.mapM λx=>(st.get x).bind AV.bG) λd=>d.length=len/\0<sz/\len*sz<=16777216/\(∀p∈d,p.cells.length=sz/\p.ok=true)/\(K (.p (kZ sz d))\/K (.b (.full (kZ sz d))))
 | .rB f caps=>aS (caps.mapM st.get) λars=>(∃ids:List Nat,ars=ids.map (λi=>.b (.ptr i 0))/\K (.b (.kT (.func f) ids)))\/(∃d:List PV,ars=d.map .p/\K (.p (.fn (.func f) d)))
 | .lookup k e ok zero m x=>aS (st.get m) λm=>aS (st.get x) λx=>isMap st.hp k e m λ_ kvs=>aS x.bG λp=>Au P 64 k p=true/\(P.underlying k).isSome=true/\(∀B∈kvs,(wu P 64 k p B.1).isSome=true)/\aS (r5 P k p kvs 0) λr=>
  K (match ok with
   |true=>.dP [.pv (match r with|some (_,v)=>v|none=>.sc zero),.pv (.sc (.bool r.isSome))]
   |false=>.p (match r with|some (_,v)=>v|none=>.sc zero))
 | .sy neg t x y=>aS (st.get x) λx=>aS (st.get y) λy=>aS x.bG λp=>aS y.bG λq=>aS (wu P 64 t p q) λb=>K (.v (.bool (neg ^^ b)))
 | .mb mx k x ys=>aS (st.get x) λx=>zo x λv=>isInt v λA n=>aS (ys.mapM st.get) λars=>∃z:List Int,A=k/\ars=z.map (λn=>.v (.int k n))/\
  K (.v (.int k (z.foldl (λa b=>if mx then max a b else min a b) n)))
 | .iface _ x=>aS (st.get x) λ_=>K (.b .KF)
 | .pi _ sz bytes x y=>aS (st.get x) λx=>aS (st.get y) λy=>l9 st.hp sz y λL=>(∀p∈L,p.ok=true)/\
  ∃w,((x= .b .om/\w=[])\/x= .b (.full (kZ sz w)))/\(w.length+L.length)*bytes<=140737488355328/\K (.p (kZ sz (w++L)))
 | .eE _ sz len parts=>aS (parts.mapM λx=>(st.get x).bind AV.lW) λd=>d.length=len/\0<sz/\len*sz<=16777216/\(∀p∈d,p.cells.length=sz/\p.ok=true)/\K (.p (kZ sz d))
 |_=>False
def St.new(st:St)(pl:Option Nat)(o:aM):St:=match pl with
 |none=>{st with hp:=st.hp++[o]}
 |some s=>{st with hp:=st.hp.set s o}
def St.XG(st:St)(pl:Option Nat):Nat:=pl.getD st.hp.length
def yE(st:St):Option Nat->Prop
 |none=>True
 |some s=>st.hp[s]? =some .free
def Fv(st:St)(op:fv)(R:aM->(Nat->BV)->Prop):Prop:=
 match op with
 | .alloc t zero=>R (.box t (zero.map λv=>bI v)) λn=>.ptr n 0
 | .box t x=>aS (st.get x) λx=>x.ok=true/\R (.box t x.cells) λn=>.ptr n 0
 | .bQ true e sz len parts=>aS (parts.mapM λx=>(st.get x).bind AV.bG) λa=>a.length=len/\0<sz/\len*sz<=16777216/\(∀p∈a,p.cells.length=sz/\p.ok=true)/\R (.vec e sz a) .sl
 | .cU e sz bytes zero l c=>aS (st.get l) λl=>aS (st.get c) λc=>zo l λl=>zo c λc=>isInt l λ_ l=>isInt c λ_ c=>
  0<=l/\l<=c/\c<=9223372036854775807/\bytes*c<=281474976710656/\(fT zero).cells.length=sz/\0<sz/\aS (fT zero).bG λz=>z.ok=true/\R (.vec e sz (Y_ l.toNat z)) .sl
 | .append e sz bytes x y=>aS (st.get x) λx=>aS (st.get y) λy=>l9 st.hp sz y λL=>(∀p∈L,p.ok=true)/\
  (x= .b .om\/x= .b (.full (.list 0 [])))/\L.length*bytes<=140737488355328/\R (.vec e sz L) .sl
 | .ik k e=>R (.map k e []) .mp
 |_=>False
def cN(P:Program)(d:Option Nat)(op:fv)(st:St)(K KP:St->Prop):Prop:=
 match op with
 | .store sz x v=>aS (st.get x) λx=>aS (st.get v) λv=>d=none/\AT st.hp sz x v λhp=>K {st with hp:=hp}
 | .alloc t zero=>K ({st with hp:=st.hp++[aM.box t (zero.map λv=>bI v)]}.aF d (.b (.ptr st.hp.length 0)))
 | .box t x=>aS (st.get x) λx=>x.ok=true/\K ({st with hp:=st.hp++[aM.box t x.cells]}.aF d (.b (.ptr st.hp.length 0)))
 | .bQ true e sz len parts=>aS (parts.mapM λx=>(st.get x).bind AV.bG) λb=>b.length=len/\0<sz/\len*sz<=16777216/\(∀p∈b,p.cells.length=sz/\p.ok=true)/\
  K ({st with hp:=st.hp++[aM.vec e sz b]}.aF d (.b (.sl st.hp.length)))
 | .cU e sz bytes zero l c=>aS (st.get l) λl=>aS (st.get c) λc=>zo l λl=>zo c λc=>isInt l λ_ l=>isInt c λ_ c=>
  0<=l/\l<=c/\c<=9223372036854775807/\bytes*c<=281474976710656/\(fT zero).cells.length=sz/\0<sz/\aS (fT zero).bG λz=>z.ok=true/\K ({st with hp:=st.hp++[aM.vec e sz (Y_ l.toNat z)]}.aF d (.b (.sl st.hp.length)))
 | .append e sz bytes x y=>aS (st.get x) λx=>aS (st.get y) λy=>l9 st.hp sz y λL=>(∀p∈L,p.ok=true)/\
  ((∃id,x= .b (.sl id)/\aS st.hp[id]? λo=>∃xs,o= .vec e sz xs/\(xs.length+L.length)*bytes<=140737488355328/\
   K ((st.fD id (.vec e sz (xs++L))).aF d (.b (.sl id))))\/
   ((x= .b .om\/x= .b (.full (.list 0 [])))/\L.length*bytes<=140737488355328/\K ({st with hp:=st.hp++[aM.vec e sz L]}.aF d (.b (.sl st.hp.length)))))
 | .gF bor B f args=>aS (args.mapM λx=>(st.get x).bind (m7 st.hp bor B)) λars=>aS (B.mapM (st.hp[·]?)) λos=>
  callK P st d bor B f ars os K KP
 | .fz bor B x args=>aS (st.get x) λx=>∃f caps,((∃ids:List Nat,x= .b (.kT (.func f) ids)/\caps=ids.map λi=>.b (.ptr i 0))\/(∃b:List PV,x= .p (.fn (.func f) b)/\caps=b.map AV.p))/\eI P f=true/\
  aS (args.mapM λx=>(st.get x).bind (m7 st.hp bor B)) λars=>aS (B.mapM (st.hp[·]?)) λos=>callK P st d bor B f (ars++caps) os K KP
 | .d6 k e sz bytes zero l c=>aS (st.get l) λl=>aS (st.get c) λc=>zo l λl=>zo c λc=>isInt l λ_ l=>isInt c λ_ c=>
  0<=l/\l<=c/\c<=9223372036854775807/\bytes*c<=281474976710656/\(fT zero).cells.length=sz/\0<sz/\aS (fT zero).lW λz=>z.ok=true/\k.yt z.cells=true/\K ({st with hp:=st.hp++[aM.tree e sz k (Y_ l.toNat (k.gO z)) none]}.aF d (.b (.sl st.hp.length)))
 | .pj k e sz bytes x y=>aS (st.get x) λx=>aS (st.get y) λy=>l9 st.hp sz y λL=>(∀p∈L,p.ok=true/\k.yt p.cells=true)/\
  ((∃id,x= .b (.sl id)/\aS st.hp[id]? λo=>∃xs,o= .tree e sz k xs none/\(xs.length+L.length)*bytes<=140737488355328/\
   K ((st.fD id (.tree e sz k (xs++L.map k.gO) none)).aF d (.b (.sl id))))\/
   (x= .b .om/\L.length*bytes<=140737488355328/\K ({st with hp:=st.hp++[aM.tree e sz k (L.map k.gO) none]}.aF d (.b (.sl st.hp.length)))))
 | .ik k e=>K ({st with hp:=st.hp++[aM.map k e []]}.aF d (.b (.mp st.hp.length)))
 | .gY k e m x v=>aS (st.get m) λm=>aS (st.get x) λx=>aS (st.get v) λv=>isMap st.hp k e m λid kvs=>aS x.bG λp=>aS v.bG λq=>d=none/\p.plain=true/\
  Au P 64 k p=true/\(P.underlying k).isSome=true/\(∀h∈kvs,(wu P 64 k p h.1).isSome=true)/\aS (r5 P k p kvs 0) λr=>(∀i u,r=some (i,u)->∃j,kvs[i]? =some (p,j))/\K {st with hp:=st.hp.set id (.map k e (match r with|some (i,_)=>kvs.set i (p,q)|none=>kvs++[(p,q)]))}
 | .copy e sz x y=>aS (st.get x) λx=>aS (st.get y) λy=>l9 st.hp sz y λL=>(∀p∈L,p.ok=true)/\∃id,x= .b (.sl id)/\y≠x/\aS st.hp[id]? λo=>∃xs,o= .vec e sz xs/\
  K ({st with hp:=st.hp.set id (.vec e sz (L.take xs.length++xs.drop L.length))}.aF d (.v (.int .i64 ((min xs.length L.length:Nat):Int))))
 | .panic x=>aS (st.get x) λa=>a= .b .KF/\KP st
 | .uj s op=>Fv st op λo mk=>yE st (some s)/\K ((st.new (some s) o).aF d (.b (mk s)))
 |op=>jh P st op λa=>K (st.aF d a)
where
 callK (P:Program) (st:St) (d:Option Nat) (bor:Bool) (B:List Nat) (f:FuncId) (ars:List AV) (os:List aM) (K KP:St->Prop):Prop:=
  B.Nodup/\(∀a∈ars,∀i∈a.ids,i∈B)/\(∀o∈os,∀i∈o.ids,i∈B)/\
  eN P f (ars.map (AV.eV (B.idxOf ·))) (os.map (aM.eV (B.idxOf ·))) λo=>match o with
   |some (r,g)=>(bor=true->r.sQ/\∀o∈g,o.rW)/\K ((st.back B g).aF d (r.eV (gW B st.hp.length)))
   |none=>KP (st.back B (os.map λ_=>.gone))
def iD(P:Program)(o:bc)(st:St)(K KP:St->Prop):Prop:=
 match o.gd with
 |none=>cN P o.dst o.op st K KP
 |some (t,want)=>aS (look st.fr t) λg=>zo g λv=>(yv v=some want->cN P o.dst o.op st K KP)/\(yv v≠some want->K (st.aF o.dst (.v undef)))
def f8(m:Nat)(s s':St):Prop:=∀(c:Ctx) (a:Act) (w:World),c.th.length<=m->i8 c s a w->i8 c s' a w
def W(m:Nat)(f:St->Prop)(s:St):Prop:=∃s',f8 m s s'/\f s'
def W.mk{m:Nat}{f:St->Prop}{s:St}(h:f s):W m f s:=⟨s,λ_ _ _ _ h=>h,h⟩
def W.to{m:Nat}{f:St->Prop}{s:St}(s':St)(C:f8 m s s')(h:f s'):W m f s:=⟨s',C,h⟩
def f8.refl(m:Nat)(s:St):f8 m s s:=λ_ _ _ _ h=>h
def f8.trans{m:Nat}{a b c:St}(h:f8 m a b)(k:f8 m b c):f8 m a c:=λ_ _ _ C hr=>k _ _ _ C (h _ _ _ C hr)
def W.from{m:Nat}{f:St->Prop}{s s':St}(h:f8 m s s')(k:W m f s'):W m f s:=let⟨E,h2,C⟩:=k;⟨E,h.trans h2,C⟩
theorem W.mono{m:Nat}{f g:St->Prop}{s:St}(h:W m f s)(C:∀x,f x->g x):W m g s:=let⟨s',h1,h2⟩:=h;⟨s',h1,C s' h2⟩
def j0(P:Program)(m:Nat):List bc->St->(St->Prop)->(St->Prop)->Prop
 |[],st,K,_=>W m K st
 |o::l,st,K,KP=>W m (λst=>iD P o st (λa=>j0 P m l a K KP) KP) st
def ca(P:Program)(t:TypeId):Option Nat:=(P.info? t).map (·.size)
def iq(P:Program)(t:TypeId):Option Nat:=(P.info? t).map (·.bytes)
def d5(P:Program)(t:TypeId):Option Value:=(P.info? t).bind (·.zero)
def fA(P:Program)(t:TypeId):Option TypeId:=match P.underlying t with
 |some (.slice e)=>some e
 |_=>none
def uB(P:Program)(s:TypeId)(f:Nat):Option Field:=match P.underlying s with
 |some (.struct a)=>a[f]?
 |_=>none
def partsOf(P:Program)(t:TypeId)(parts:List (Nat×Operand)):Option (List (Nat×Nat×SX)):=
 match P.underlying t with
 |some (.struct c)=>(c.toList.mapM λf=>(P.info? f.type).map λi=>(f.offset,i.size)).bind λa=>parts.mapM λq=>(a[q.1]?).map λpl=>(pl.1,pl.2,SX.of q.2)
 |some (.array _ e)=>(P.info? e).bind λb=>parts.mapM λq=>some (q.1*b.size,b.size,SX.of q.2)
 |_=>none
def oM(parts:List (Nat×Operand)):Bool:=(parts.map (·.1))==I_ parts.length
def gX(P:Program)(o:Oper):Option fv:=
 match o.op with
 | .move x| .assign x=>some (.mv (.of x))
 | .pick c a b=>some (.pick (.of c) (.of a) (.of b))
 | .binOp op t x y _=>match P.underlying t with
  |some (.int _)=>some (.bin op (.of x) (.of y))
  |some .string=>some (.bin op (.of x) (.of y))
  |some .bool=>match op with
   | .eql=>some (.Gf false (.of x) (.of y))
   | .neq=>some (.Gf true (.of x) (.of y))
   |_=>none
  |some (.struct _)=>match op with
   | .eql=>some (.sy false t (.of x) (.of y))
   | .neq=>some (.sy true t (.of x) (.of y))
   |_=>none
  |_=>none
 | .unOp op _ x=>some (.un op (.of x))
 | .call c=>match c.callee with
  | .builtin .len=>match c.args.toList,c.argTypes.toList with
   |[x],[t]=>match P.underlying t with
    |some (.slice _)=>some (.len false (.of x))
    |some .string=>some (.len true (.of x))
    |some (.array n _)=>some (.mv (.c (.int .i64 n)))
    |some (.map k e)=>some (.ol k e (.of x))
    |_=>none
   |_,_=>none
  | .builtin .append=>match c.args.toList,c.argTypes.toList with
   |[x,y],[t,u]=>if t=u then(fA P t).bind λe=>(ca P e).bind λs=>(iq P e).bind λb=>(d5 P e).bind λz=>if z.cells.size=s/\0<s/\0<b then some (.append e s b (.of x) (.of y))else none else none
   |_,_=>none
  | .builtin .copy=>match c.args.toList,c.argTypes.toList with
   |[x,y],[t,u]=>(fA P t).bind λe=>(fA P u).bind λp=>(ca P e).bind λs=>if e=p/\0<s then some (.copy e s (.of x) (.of y))else none
   |_,_=>none
  | .builtin .min=>match c.args.toList,c.argTypes.toList with
   |x::ys,t::_=>match P.underlying t with
    |some (.int k)=>some (.mb false k (.of x) (ys.map SX.of))
    |_=>none
   |_,_=>none
  | .builtin .max=>match c.args.toList,c.argTypes.toList with
   |x::ys,t::_=>match P.underlying t with
    |some (.int k)=>some (.mb true k (.of x) (ys.map SX.of))
    |_=>none
   |_,_=>none
  | .value (.func f)=>if eI P f then some (.call false f (c.args.toList.map SX.of))else none
  | .value (.tmp t)=>some (.fz false [] (.tm t) (c.args.toList.map SX.of))
  |_=>none
 | .index t x i=>match P.underlying t with
  |some .string=>some (.ql (.of x) (.of i))
  |some (.array n e)=>if(P.underlying e).isSome then(ca P e).map λs=>.pB n s (ip P e) (.of x) (.of i)else none
  |_=>none
 | .indexAddr t x i=>match P.underlying t with
  |some (.slice e)=>(ca P e).map λs=>.qj s (.of x) (.of i)
  |some (.array n e)=>(ca P e).map λs=>.qk n s (ip P e) (.of x) (.of i)
  |_=>none
 | .fieldAddr s x f=>(uB P s f).bind λh=>(ca P h.type).bind λsz=>if sz=0 then none else some (.oj h.offset sz (ip P h.type) (.of x))
 | .field s x f=>(uB P s f).bind λh=>if(P.underlying h.type).isSome then(ca P h.type).map λsz=>.HJ h.offset sz (ip P h.type) (.of x)else none
 | .load t x=>(ca P t).bind λsz=>if(P.underlying t).isSome then some (.load sz (ip P t) (.of x))else none
 | .store t x v=>(ca P t).map λsz=>.store sz (.of x) (.of v)
 | .alloc e=>(d5 P e).map λz=>.alloc e z.cells.toList
 | .box e x=>some (.box e (.of x))
 | .build t parts=>(d5 P t).bind λz=>(partsOf P t parts.toList).map λr=>.build z.cells.toList r
 | .buildSlice t len parts=>(fA P t).bind λe=>(ca P e).bind λs=>(d5 P e).bind λz=>if oM parts.toList/\z.cells.size=s then some (.bQ false e s len (parts.toList.map λq=>SX.of q.2))else none
 | .makeSlice t l c=>(fA P t).bind λe=>(ca P e).bind λs=>(iq P e).bind λb=>(d5 P e).map λz=>.cU e s b z (.of l) (.of c)
 | .convert w d x=>match P.underlying w,P.underlying d with
  |some _,some (.int k)=>some (.pY k (.of x))
  |some (.slice e),some .string=>match P.underlying e with
   |some (.int .u8)=>some (.Gb (.of x))
   |_=>none
  |_,_=>none
 | .slice t x lo j mx=>match P.underlying t with
  |some (.slice e)=>(ca P e).map λs=>.Im s (.of x) (lo.map .of) (j.map .of) (mx.map .of)
  |some .string=>match mx with
   |none=>some (.qw (.of x) (lo.map .of) (j.map .of))
   |some _=>none
  |_=>none
 | .extract x i=>some (.ext (.of x) i)
 | .nilCheck x=>some (.rC (.of x))
 | .makeFunc (.func f) first g=>if first.isEmpty&&eI P f then some (.rB f (g.toList.map SX.of))else none
 | .makeMap t none=>match P.underlying t with
  |some (.map k e)=>some (.ik k e)
  |_=>none
 | .lookup t m x ok=>match P.underlying t with
  |some (.map k e)=>(d5 P e).map λz=>.lookup k e ok z (.of m) (.of x)
  |_=>none
 | .mapUpdate t m x v| .insert t m x v=>match P.underlying t with
  |some (.map k e)=>some (.gY k e (.of m) (.of x) (.of v))
  |_=>none
 | .panic x=>some (.panic (.of x))
 | .makeInterface t x=>some (.iface t (.of x))
 |_=>none
def fv.canon:fv->fv
 | .bQ _ e s l C=>.bQ false e s l C
 | .call _ f xs=>.call false f xs
 | .gF _ _ f xs=>.call false f xs
 | .pW t x=>.box t x
 | .fz _ _ x xs=>.fz false [] x xs
 | .hZ _ x xs=>.fz false [] x xs
 | .pi e s b x y=>.append e s b x y
 | .eE e s l C=>.bQ false e s l C
 | .d6 _ e s b z x y=>.cU e s b z x y
 | .pj _ e s b x y=>.append e s b x y
 | .uj _ op=>op.canon
 |x=>x
theorem xe{θ:List Loc}{D:Nat->Prop}{w:World}(v:Value):RelB θ D w v (bI v):=by
 unfold bI;split;.rfl
 .exact aW.sc v
def rJ{θ:List Loc}{D:Nat->Prop}{w:World}(v:Value):RelA θ D w v (fT v):=by
 unfold fT;split;.rename_i cs;refine⟨cs,rfl,by simp,λi u x a b=>?_⟩;grind[xe]
 .exact xe _
theorem Inv.get{c:Ctx}{θ:List Loc}{D:Nat->Prop}{st:St}{a:Act}{w:World}(h:Inv c θ D st a w){x:Operand}{E:AV}(C:st.get (.of x)=some E):RelA θ D w (a.eval x) E:=by cases x with|tmp t=>exact h.fr t E C|const v=>simp[SX.of,St.get]at C;subst C;exact rJ v|global g=>simp[SX.of,St.get]at C;subst C;exact aW.sc _|func f=>simp[SX.of,St.get]at C;subst C;exact aW.fn (.func f) #[] [] rfl λi v x H _=>by grind
section
variable {θ:List Loc} {D:Nat->Prop} {w:World}
theorem Pk{v u:Value}(h:RelA θ D w v (.v u)):v=u:=by cases h;rfl
theorem xd{v:Value}{p:PV}(h:RelA θ D w v (.p p)):aW D w v p:=h
theorem c9{v:Value}{a:AV}{K:Value->Prop}(h:RelA θ D w v a)(b:zo a K):K v:=by obtain⟨u,rfl,b⟩:=b;rw[Pk h];exact b
theorem mapM_some{a β:Type}{f:a->Option β}:∀{l:List a} {m:List β},l.mapM f=some m->l.length=m.length/\∀(i:Nat) (x:a) (y:β),l[i]? =some x->m[i]? =some y->f x=some y
 |[],m,h=>by grind
 |x::l,m,h=>by simp only[af_,as_,aI_,e_,B_]at h;obtain⟨y,c,m',b,rfl⟩:=h;obtain⟨h1,h2⟩:=mapM_some b;grind
theorem bC{a β:Type}{l:List a}{m:List β}(h:l.length=m.length){i:Nat}{y:β}(b:m[i]? =some y):∃x,l[i]? =some x:=by
 have:i<l.length:=by grind
 exact⟨l[i],b_ this⟩
theorem iC{v:Value}{p:PV}(h:aW D w v p)(a:p.dh=true):v.oneCell'=true:=by cases h<;>simp[PV.dh]at a<;>first|omega|rfl
theorem tV{v:Value}{x:BV}(h:RelB θ D w v x)(b:x.dh=true):v.oneCell'=true:=by
 cases x with
 |pv p=>exact iC h b|om=>cases h;rfl|sl id=>obtain⟨l,_,h2⟩:=h;cases l<;>simp only[Loc.head]at h2<;>(subst h2;rfl)
 |ptr id off=>obtain⟨g,_,rfl⟩:=h;rfl
 |i6 id i off=>obtain⟨g,n,cap,sz,_,_,rfl⟩:=h;rfl
 |kT f ids=>obtain⟨c,_,_,rfl⟩:=h;rfl
 |mp id=>obtain⟨g,_,rfl⟩:=h;rfl
 |full p=>obtain⟨_,a,n,rfl⟩:=h;rfl
 |KF=>obtain⟨t,u,rfl⟩:=h;rfl
theorem cells_one{v:Value}(h:v.oneCell'=true):v.cells= #[v]:=by cases v<;>simp[Value.oneCell']at h<;>rfl
theorem nM{v:Value}{x:AV}(h:RelA θ D w v x)(k:x.ok=true):v.cells.size=x.cells.length/\∀(i:Nat) (u:Value) (y:BV),v.cells[i]? =some u->x.cells[i]? =some y->RelB θ D w u y/\u.oneCell'=true:=by
 have one:∀(v:Value) (y:BV),y.dh=true->RelB θ D w v y->v.cells.size=[y].length/\∀(i:Nat) (u:Value) (z:BV),v.cells[i]? =some u->[y][i]? =some z->RelB θ D w u z/\u.oneCell'=true:=by grind[tV,cells_one]
 have all:∀y∈x.cells,y.dh=true:=by grind[AV.ok]
 cases x with
 |dP xs=>grind[AV.cells,BV.dh,PV.dh]|agg xs=>obtain⟨vs,rfl,h1,h2⟩:=h;exact⟨h1,λi u y f a=>⟨h2 i u y f a,tV (h2 i u y f a) (all y (a_ a))⟩⟩
 |b x=>
  by_cases g:∃xs,x= .pv (.agg xs);.obtain⟨xs,rfl⟩:=g;have h':aW D w v (.agg xs):=h;cases h' with|agg vs _ l j=>refine⟨by grind[AV.cells,PV.cells,Value.cells],λi u y f a=>?_⟩;have c:=all y (a_ a);simp only[AV.cells,PV.cells,i_]at a;cases d:xs[i]? with|none=>grind|some z=>rw[d]at a;simp at a;subst a;have:=j i u z f d;exact⟨this,iC this c⟩
  .have e:(AV.b x).cells=[x]:=by
    cases x with
    |pv p=>cases p<;>first|rfl|grind
    |_=>rfl
   rw[e]at all⊢;exact one v x (all x (by simp)) h
theorem nN{v:Value}{p:PV}(h:aW D w v p)(a:p.ok=true):v.cells.size=p.cells.length/\∀(i:Nat) (u:Value) (y:PV),v.cells[i]? =some u->p.cells[i]? =some y->aW D w u y/\u.oneCell'=true:=by
 have b:(AV.p p).ok=true:=by simp only[PV.ok,n_]at a;simp only[AV.ok,AV.cells,List.all_map,n_];exact a
 obtain⟨h1,h2⟩:=nM (θ:=[]) (x:=.p p) h b;simp only[AV.cells,aE_]at h1 h2;exact⟨h1,λi u y c d=>h2 i u (.pv y) c (by grind)⟩
theorem lm{v:Value}{x:BV}{p:PV}(h:RelB θ D w v x)(a:x.bG=some p):aW D w v p:=by
 cases x<;>simp[BV.bG]at a;.subst a;exact h
 .subst a;cases h;exact .nil none 0
 .subst a;exact h.1
theorem cX{v:Value}{x:AV}{p:PV}(h:RelA θ D w v x)(c:x.bG=some p):aW D w v p:=by
 cases x with
 |b x=>exact lm h c|agg xs=>obtain⟨vs,rfl,h1,h2⟩:=h;simp only[AV.bG,d_]at c;obtain⟨g,a,rfl⟩:=c;obtain⟨d,e⟩:=mapM_some a;refine aW.agg _ _ (by omega) λi u p f hp=>?_;obtain⟨x,c⟩:=bC d hp;grind[lm]
 |dP xs=>obtain⟨vs,rfl,h1,h2⟩:=h;simp only[AV.bG,d_]at c;obtain⟨g,a,rfl⟩:=c;obtain⟨d,e⟩:=mapM_some a;refine aW.dP _ _ (by omega) λi u p f hp=>?_;obtain⟨x,c⟩:=bC d hp;grind[lm]
theorem Fg{v:Value}{x:BV}{p:PV}(h:RelB θ D w v x)(a:x.lW=some p):aW D w v p:=by cases x with|om=>cases a;cases h;exact .sc _|_=>exact lm h a
theorem Ff{v:Value}{x:AV}{p:PV}(h:RelA θ D w v x)(a:x.lW=some p):aW D w v p:=by
 cases x with
 |b x=>exact Fg h a|agg xs=>obtain⟨vs,rfl,h1,h2⟩:=h;simp only[AV.lW,d_]at a;obtain⟨g,c,rfl⟩:=a;obtain⟨d,e⟩:=mapM_some c;refine aW.agg _ _ (by omega) λi u p f hp=>?_;obtain⟨x,a⟩:=bC d hp;grind[Fg]
 |dP xs=>cases a
theorem lh{hp:List aM}(f:Ok θ D hp w){v:Value}{x:AV}{sz:Nat}{K:List PV->Prop}(h:RelA θ D w v x)(d:l9 hp sz x K): ∃L a cap,K L/\v= .slice a L.length cap/\L.length<=cap/\(a=none->cap=0\/L=[])/\(0<L.length->∃b o,a=some ⟨b,o,none⟩/\b<w.heap.size/\(∀x∈L,x.cells.length=sz)/\∀(i j:Nat) (x y:PV),L[i]? =some x->x.cells[j]? =some y->∃u,w.cell? ⟨b,o+i*sz+j,none⟩=some u/\aW D w u y):=by
 rcases d with⟨rfl,d⟩|⟨L,rfl,d⟩|⟨id,e,L,rfl,I,d⟩|⟨L,rfl,d⟩
 rotate_left 3
 .obtain⟨a,cap,rfl,h1,h2⟩:=nO h.1;refine⟨L,a,cap,d,rfl,h1,λH=>?_,λhl=>?_⟩;.grind[ag_]
  .obtain⟨b,o,e,A,p,r⟩:=h2 hl;exact⟨b,o,e,f.pn b A,p,r⟩
 .cases h;exact⟨[],none,0,d,rfl,m_ _,λ_=>.inl rfl,λh=>absurd h (by simp)⟩
 .obtain⟨a,cap,rfl,h1,h2⟩:=nO (xd h);refine⟨L,a,cap,d,rfl,h1,λH=>?_,λhl=>?_⟩;.grind[ag_]
  .obtain⟨b,o,e,A,p,r⟩:=h2 hl;exact⟨b,o,e,f.pn b A,p,r⟩
 .obtain⟨l,hl,B⟩:=h;have k:=f.fO id l _ hl I;cases l<;>simp only[cJ]at k B;.subst B;subst k;exact⟨[],_,0,d,rfl,m_ _,λ_=>.inl rfl,λh=>absurd h (by simp)⟩
  .rename_i g n cap s O;obtain⟨rfl,rfl,p,r,C,c,E,N,F⟩:=k;subst B;refine⟨L,_,cap,d,rfl,p,λe=>by grind,λ_=>⟨g,0,rfl,(f.mX id _ g hl (.inl rfl)).1,C,λi j x y J M=>?_⟩⟩;obtain⟨u,P,z⟩:=F i j x y J M;refine⟨u,?_,z⟩;rw[q_,cell_of_row w g _ c e (0,0) E];omega
theorem RZ{hp:List aM}(g:Ok θ D hp w){v:Value}{id:Nat}{p:PV}(h:RelB θ D w v (.sl id))(d:Kf hp id=some p): ∃l,θ[id]? =some l/\∀D':Nat->Prop,(∀b,D b->D' b)->(∀b,l.has b->D' b)->aW D' w v p:=by
 obtain⟨l,hl,f⟩:=h;refine⟨l,hl,λD' hD hO=>?_⟩;unfold Kf at d;split at d
 .rename_i e sz xs C;cases d;have a:=g.fO id l _ hl C;cases l<;>simp only[cJ]at a f;.subst f;subst a;exact .nil _ 0
  .obtain⟨rfl,rfl,s,J,z,c,A,L,B⟩:=a;subst f;refine gu s λ_=>⟨_,0,rfl,hO _ (.inl rfl),z,λi j x y E F=>?_⟩;obtain⟨u,H,n⟩:=B i j x y E F;refine⟨u,?_,n.mono hD (λ_ _=>rfl)⟩;rw[q_,cell_of_row w _ _ c e (0,0) A];omega
 .rename_i e sz k xs C;cases d;have a:=g.fO id l _ hl C;cases l<;>simp only[cJ]at a f;.subst f;rw[a.1];exact .nil _ 0
  .obtain⟨rfl,rfl,s,J,z,c,Os,A,L,B,N,I,r⟩:=a;subst f;refine gu s λ_=>⟨_,0,rfl,hO _ (.inl rfl),z,λi j x y E F=>?_⟩;obtain⟨u,H,n⟩:=r i j x y E F;refine⟨u,?_,kK.toP hD (λb M=>hO b (.inr (B i j b M).1)) n⟩;rw[q_,cell_of_row w _ _ c e (0,0) A];omega
 grind
theorem LZ{k:Av.K}{off n j:Nat}(h:k.mh off n=true)(a:j<n):k.at (off+j)=none:=by simp only[Av.K.mh,n_,H_]at h;simpa using h j a
theorem oK{h:Option (Nat×Nat×BV)}{i j:Nat}{b:BV}(e:dM h i j=some b):h=some (i,j,b):=by unfold dM at e;grind
theorem TO{hole:Option (Nat×Nat×BV)}{k:Av.K}{n i j:Nat}{u:Value}{y:PV}{O:Nat->Prop}(d:∀i j b,hole=some (i,j,b)->i<n/\(k.at j).isSome=true)(c:k.at j=none) (h:match dM hole i j with|some b=>RelB θ D w u b|none=>kK D w (k.at j) O u y):aW D w u y:=by cases a:dM hole i j with|some b=>have:=(d i j b (oK a)).2;grind|none=>rw[a,c]at h;cases h with|flat _ _ _ h=>omega
theorem WX{hp:List aM}(c:Ok θ D hp w){v:Value}{x:AV}{K:Nat->Prop}(h:RelA θ D w v x)(b:isLen hp x K): ∃n a cap,K n/\v= .slice a n cap:=by
 rcases b with⟨rfl,b⟩|⟨sz,L,rfl,b⟩|⟨id,e,sz,L,rfl,d,b⟩|⟨sz,L,rfl,b⟩|⟨id,e,sz,k,L,hole,rfl,d,b⟩
 rotate_left 3
 .obtain⟨a,cap,rfl,_⟩:=nO h.1;grind
 .obtain⟨l,hl,g⟩:=h;have f:=c.fO id l _ hl d;cases l<;>simp only[cJ,Loc.head]at f g;all_goals grind
 .cases h;grind
 .obtain⟨a,cap,rfl,_⟩:=nO (xd h);grind
 .obtain⟨L',a,cap,rfl,rfl,_⟩:=lh c h (.inr (.inr (.inl ⟨id,e,L,rfl,d,rfl⟩)));grind
end
def Yields(P:Program)(o:Oper)(a:Act)(w:World)(R:Value->World->Prop):Prop:=
 ∃v w',(execOp a.eval o).run P w= .ok (.value v) w'/\R v w'
def Yields.wp{P:Program}{o:Oper}{a:Act}{w:World}{R:Value->World->Prop}{next:Act->World->Prop}{Q:Exit->Act->World->Prop}(h:Yields P o a w R)(hn:∀v w',R v w'->next (a.put o.dst v) w'):o.wp P a w next Q:=by obtain⟨v,w',h1,h2⟩:=h;unfold Oper.wp;rw[h1];exact hn v w' h2
def W7{P:Program}{w:World}{op:BinOp}{t:TypeId}{x y:Operand}{a b:Value}{K:Value->Prop}(h:I3 op a b K): ∃v,K v/\Sem.run P (do eqGuard op t x y a b;binOp op t a b) w= .ok v w:=by
 cases a<;>cases b<;>simp only[I3]at h;case int.int k m d n=>
  cases op<;>simp only at h;case shl=>obtain⟨h1,h2⟩:=h;refine⟨_,h2,?_⟩;simp[eqGuard,binOp,Op.shift,aS_.2 h1]
  case shr=>obtain⟨h1,h2⟩:=h;refine⟨_,h2,?_⟩;simp[eqGuard,binOp,Op.shift,aS_.2 h1]
  case quo=>obtain⟨rfl,h1,h2⟩:=h;refine⟨_,h2,?_⟩;simp[eqGuard,binOp,Op.intDiv,h1]
  case rem=>obtain⟨rfl,h1,h2⟩:=h;refine⟨_,h2,?_⟩;simp[eqGuard,binOp,Op.intDiv,h1]
  all_goals (obtain⟨rfl,h⟩:=h;refine⟨_,h,?_⟩;simp[eqGuard,binOp,Op.intArith,Op.intBits,Op.intCmp,lE])
 case string.string s r=>
  cases op<;>simp only at h;case add=>obtain⟨h1,h2⟩:=h;refine⟨_,h2,?_⟩;have c:IntKind.i64.max=9223372036854775807:=rfl;simp[c,eqGuard,binOp,Op.stringOp];omega
  all_goals first|exact h.elim|(refine⟨_,h,?_⟩;simp[eqGuard,binOp,Op.stringOp])
def Zd{P:Program}{w:World}{t:TypeId}{x y:Operand}{a b:Bool}(ht:P.underlying t=some .bool)(neg:Bool): Sem.run P (do eqGuard (if neg then .neq else .eql) t x y (.bool a) (.bool b);binOp (if neg then .neq else .eql) t (.bool a) (.bool b)) w= .ok (.bool (neg ^^ (a==b))) w:=by
 have c:Sem.run P (Op.equal t (.bool a) (.bool b)) w= .ok (a==b) w:=by show Sem.run P (Op.equalIn (9999+1) t (.bool a) (.bool b)) w=_;rw[Op.equalIn];simp[run_underlying ht]
 cases neg;.show Sem.run P (do eqGuard .eql t x y (.bool a) (.bool b);binOp .eql t (.bool a) (.bool b)) w=_;have h1:binOp .eql t (.bool a) (.bool b)=(do pure (.bool (<-Op.equal t (.bool a) (.bool b)))):=rfl;rw[h1];simp[eqGuard,c]
 .show Sem.run P (do eqGuard .neq t x y (.bool a) (.bool b);binOp .neq t (.bool a) (.bool b)) w=_;have h1:binOp .neq t (.bool a) (.bool b)=(do pure (.bool (!(<-Op.equal t (.bool a) (.bool b))))):=rfl;rw[h1];simp[eqGuard,c]
def Ze{P:Program}{w:World}{op:UnOp}{a:Value}{K:Value->Prop}(h:unV op a K):∃v,K v/\Sem.run P (Op.unary op a) w= .ok v w:=by
 unfold unV at h;split at h;.exact⟨_,h,by simp[Op.unary]⟩
 .exact⟨_,h,by simp[Op.unary,Op.intArith]⟩
 grind
section
variable {P:Program} {w:World}
theorem run_sizeOf{t:TypeId}{s:Nat}(h:ca P t=some s):Sem.run P (sizeOf t) w= .ok s w:=by simp only[ca,d_]at h;obtain⟨i,a,rfl⟩:=h;simp[sizeOf,typeInfo,a]
theorem Ii{t:TypeId}{d:TypeDesc}(h:P.underlying t=some d):Sem.run P (isAgg t) w= .ok (ip P t) w:=by simp only[isAgg,ip,Sem.run_bind,run_underlying h,Result.andThen_ok];cases d<;>simp[h]
theorem addr_add(b o i:Nat):(⟨b,o,none⟩:Addr).add i=⟨b,o+i,none⟩:=by unfold Addr.add;split<;>simp_all
def r7(ag:Bool)(vs:Array Value)(off sz:Nat):Value:=match ag with
 |true=>.agg (vs.extract off (off+sz))
 |false=>(vs[off]?).getD undef
def uc(ag:Bool)(cs:List Value):Value:=match ag with
 |true=>.agg cs.toArray
 |false=>cs.headD undef
theorem Bz{t:TypeId}{d:TypeDesc}{s b o:Nat}(hd:P.underlying t=some d)(hs:ca P t=some s)(cs:List Value)(hl:cs.length=s)(a:ip P t=false->s=1) (hc:∀(j:Nat) (v:Value),cs[j]? =some v->w.cell? ⟨b,o+j,none⟩=some v): Sem.run P (loadVar t ⟨b,o,none⟩) w= .ok (uc (ip P t) cs) w:=by
 simp only[loadVar,Sem.run_bind,Ii hd,Result.andThen_ok];cases c:ip P t
 .simp only[u_,if_false];have h1:=a c
  match cs,hl with|[v],_=>have:=hc 0 v rfl;rw[run_load];simp at this;simp[this,uc]|[],hl=>grind|_::_::_,hl=>grind
 .simp only[if_true,Sem.run_bind,run_sizeOf hs,Result.andThen_ok];have:=run_loadCells_list (P:=P) (w:=w) ⟨b,o,none⟩ cs (λj v e=>by rw[addr_add];grind);rw[hl]at this;simp[this,uc]
theorem gp{a:Type} [Inhabited a]{n:Nat}{p:Nat->a->Prop}(h:∀j,j<n->∃u,p j u):∃l:List a,l.length=n/\∀(j:Nat) (u:a),l[j]? =some u->p j u:=by induction n with|zero=>simp|succ n b=>obtain⟨l,h1,h2⟩:=b λj c=>h j (by omega);obtain⟨u,d⟩:=h n (by simp);refine⟨l++[u],by grind,λj v e=>?_⟩;grind
theorem Ka{D:Nat->Prop}{cs:List Value}{a:List PV}(hl:cs.length=a.length)(h:∀(j:Nat) (u:Value) (y:PV),cs[j]? =some u->a[j]? =some y->aW D w u y): aW D w (.agg cs.toArray) (.agg a):= .agg _ _ (by omega) λi v x c b=>h i v x (by grind) b
theorem s7{p:PV}:p.isAgg=true->p= .agg p.cells:=by cases p<;>simp[PV.isAgg,PV.cells]
theorem mA{p:PV}:p.isAgg=false->p.cells=[p]:=by cases p<;>simp[PV.isAgg,PV.cells]
theorem Fh{D:Nat->Prop}{cs:List Value}{p:PV}(hl:cs.length=p.cells.length)(h:∀(j:Nat) (u:Value) (y:PV),cs[j]? =some u->p.cells[j]? =some y->aW D w u y): aW D w (uc p.isAgg cs) p:=by
 cases hp:p.isAgg
 .have h1:=mA hp;rw[h1]at hl h
  match cs,hl,h with|[u],_,h=>exact h 0 u p rfl rfl
 .have h1:=s7 hp;rw[h1];simp only[PV.cells]at hl h⊢;exact Ka hl (λj u y a b=>h j u y a b)
theorem mE{a:Type}{l:List a}{i:Nat}{x d:a}(h:l[i]? =some x):l.getD i d=x:=by simp[Q_,h]
theorem uO{p:PV}{off sz:Nat}{ag:Bool}(a:ag=false->sz=1)(c:off+sz<=p.cells.length):(ag=true->(p.sub off sz ag).cells=(p.cells.drop off).take sz)/\(ag=false->p.cells[off]? =some (p.sub off sz ag)):=by
 constructor;.rintro rfl;rfl
 .rintro rfl;have:=a rfl;have b:off<p.cells.length:=by omega
  simp[PV.sub,b_ b]
end
def sx(c:Ctx)(θ:List Loc)(st:St)(a:Act)(K:AV->Prop):Value->World->Prop:=λv w'=>∃x D',K x/\Inv c θ D' st a w'/\RelA θ D' w' v x
section
variable {P:Program} {o:Oper} {c:Ctx} {θ:List Loc} {D:Nat->Prop} {st:St} {a:Act} {w:World} {K:AV->Prop}
theorem sx.same(C:Inv c θ D st a w){v:Value}{x:AV}(E:K x)(H:RelA θ D w v x):sx c θ st a K v w:=⟨x,D,E,C,H⟩
theorem aL{v:Value}{x:AV}(b:Inv c θ D st a w)(hr:(execOp a.eval o).run P w= .ok (.value v) w)(d:K x)(e:RelA θ D w v x):Yields P o a w (sx c θ st a K):=⟨v,w,hr,sx.same b d e⟩
theorem Ns(d:Inv c θ D st a w){x:Operand}(b:o.op= .move x\/o.op= .assign x)(h:jh P st (.mv (.of x)) K):Yields P o a w (sx c θ st a K):=by obtain⟨g,f,e⟩:=h;refine aL d ?_ e (d.get f);rcases b with b|b<;>simp[execOp,b]
theorem Np(d:Inv c θ D st a w){v:Value}(hr:(execOp a.eval o).run P w= .ok (.value v) w)(h:jh P st (.mv (.c v)) K):Yields P o a w (sx c θ st a K):=by obtain⟨f,b,e⟩:=h;simp[St.get]at b;subst b;exact aL d hr e (rJ v)
theorem PW(d:Inv c θ D st a w){x y z:Operand}(g:o.op= .pick x y z)(h:jh P st (.pick (.of x) (.of y) (.of z)) K):Yields P o a w (sx c θ st a K):=by
 obtain⟨r,l,k⟩:=h;obtain⟨b,f,ht,j⟩:=c9 (d.get l) k;cases b;.obtain⟨u,p,e⟩:=j rfl;exact aL d (by simp[execOp,g,f,asBool]) e (d.get p)
 .obtain⟨s,n,e⟩:=ht rfl;exact aL d (by simp[execOp,g,f,asBool]) e (d.get n)
theorem Ip(b:Inv c θ D st a w){op:BinOp}{t k:TypeId}{x y:Operand}(e:o.op= .binOp op t x y k)(h:jh P st (.bin op (.of x) (.of y)) K):Yields P o a w (sx c θ st a K):=by obtain⟨l,g,n,j,f⟩:=h;have h1:=c9 (b.get g) f;have h2:=c9 (b.get j) h1;obtain⟨v,d,hr⟩:=W7 (P:=P) (w:=w) (t:=t) (x:=x) (y:=y) h2;refine aL b ?_ d (aW.sc v);simp only[execOp,e];rw[Sem.run_bind,hr];rfl
theorem Iq(b:Inv c θ D st a w){neg:Bool}{t l:TypeId}{x y:Operand}(e:o.op= .binOp (if neg then .neq else .eql) t x y l)(ht:P.underlying t=some .bool)(h:jh P st (.Gf neg (.of x) (.of y)) K):Yields P o a w (sx c θ st a K):=by obtain⟨n,j,r,k,g⟩:=h;have h1:=c9 (b.get j) g;have h2:=c9 (b.get k) h1;obtain⟨p,hp,q,f,d⟩:=h2;refine aL b ?_ d (aW.sc _);simp only[execOp,e,hp,f];rw[Sem.run_bind,Zd ht neg];rfl
theorem Xi(b:Inv c θ D st a w){op:UnOp}{t:TypeId}{x:Operand}(e:o.op= .unOp op t x)(h:jh P st (.un op (.of x)) K):Yields P o a w (sx c θ st a K):=by obtain⟨j,g,f⟩:=h;obtain⟨v,d,hr⟩:=Ze (P:=P) (w:=w) (c9 (b.get g) f);refine aL b ?_ d (aW.sc v);simp only[execOp,e];rw[Sem.run_bind,hr];rfl
theorem TH(g:Inv c θ D st a w){x:Operand}{t e:TypeId}{cl:Call}(l:o.op= .call cl)(j:cl.callee= .builtin .len)(d:cl.args= #[x])(f:cl.argTypes= #[t]) (ht:P.underlying t=some (.slice e)) (h:jh P st (.len false (.of x)) K):Yields P o a w (sx c θ st a K):=by obtain⟨s,r,hl⟩:=h;obtain⟨n,b,cap,k,p⟩:=WX g.ok (g.get r) hl;refine aL g ?_ k (aW.sc _);simp[execOp,l,resolve,j,d,f,invoke,builtin,Builtin.len_,run_underlying ht,p,goInt]
theorem PP(f:Inv c θ D st a w){x:Operand}{t:TypeId}{cl:Call}(j:o.op= .call cl)(e:cl.callee= .builtin .len)(b:cl.args= #[x])(d:cl.argTypes= #[t]) (ht:P.underlying t=some .string) (h:jh P st (.len true (.of x)) K):Yields P o a w (sx c θ st a K):=by obtain⟨l,k,hl⟩:=h;obtain⟨s,hs,g⟩:=c9 (f.get k) hl;refine aL f ?_ g (aW.sc _);simp[execOp,j,resolve,e,b,d,invoke,builtin,Builtin.len_,run_underlying ht,hs,goInt]
theorem PL(d:Inv c θ D st a w){t:TypeId}{x i:Operand}(r:o.op= .index t x i)(ht:P.underlying t=some .string)(h:jh P st (.ql (.of x) (.of i)) K):Yields P o a w (sx c θ st a K):=by
 obtain⟨z,v,y,j,u⟩:=h;have h1:=c9 (d.get v) u;have h2:=c9 (d.get j) h1;obtain⟨k,n,hn,s,hs,f,p,l⟩:=h2;refine aL d ?_ l (aW.sc _);have b:n.toNat<s.size:=by omega
 have hg:s[n.toNat]? =some (s[n.toNat]):=by simp
 have e:s.toList.getD n.toNat 0=s[n.toNat]:=by have:s.toList=s.data.toList:=ByteArray.toList_eq s;rw[this];simp only[Q_,t_];have g:n.toNat<s.data.size:=b;rw[g_ g];rfl
 rw[e];simp[execOp,r,hn,hs,Instr.index,asIntOf,run_underlying ht,f,hg]
end
section
variable {P:Program} {o:Oper} {c:Ctx} {θ:List Loc} {D:Nat->Prop} {st:St} {a:Act} {w:World} {K:AV->Prop}
theorem tX{v:Array Value}{p:PV}{off sz:Nat}{ag:Bool}(h:aW D w (.agg v) p)(hp:p.isAgg=true)(c:off+sz<=p.cells.length)(b:ag=false->sz=1): v.size=p.cells.length/\aW D w (r7 ag v off sz) (p.sub off sz ag):=by
 have a:=s7 hp;obtain⟨q,rfl⟩:∃q,p= .agg q:=⟨_,a⟩;cases h with
 |agg vs xs hs d=>
  refine⟨hs,?_⟩;cases ag;.grind[r7,PV.sub,PV.cells,Q_,b_,g_]
  .refine .agg _ _ (by grind) λi u x e f=>?_;grind
theorem qu{t:TypeId}{d:TypeDesc}{s off:Nat}{cs:Array Value}(hd:P.underlying t=some d)(hs:ca P t=some s)(c:off+s<=cs.size)(a:ip P t=false->s=1): Sem.run P (part t cs off) w= .ok (r7 (ip P t) cs off s) w:=by
 simp only[part,Sem.run_bind,Ii hd];cases b:ip P t
 .have:=a b;have h2:off<cs.size:=by omega
  simp[r7,g_ h2]
 .simp[r7,run_sizeOf hs]
theorem Fe{v:Value}{x:AV}{p:PV}(h:RelA θ D w v x)(c:x.bG=some p)(hp:p.isAgg=true):∃vs:Array Value,v= .agg vs/\aW D w (.agg vs) p:=by have h1:=cX h c;have a:=s7 hp;rw[a]at h1⊢;cases h1 with|agg vs xs hs b=>exact⟨vs,rfl,.agg vs _ hs b⟩
theorem PM(s:Inv c θ D st a w){n sz:Nat}{t e:TypeId}{d:TypeDesc}{x i:Operand}(E:o.op= .index t x i)(ht:P.underlying t=some (.array n e))(hd:P.underlying e=some d)(hs:ca P e=some sz) (h:jh P st (.pB n sz (ip P e) (.of x) (.of i)) K):Yields P o a w (sx c θ st a K):=by
 obtain⟨J,H,I,A,F⟩:=h;obtain⟨k,m,C,p,hp,y,u,b,f,j,B⟩:=c9 (s.get A) F;obtain⟨vs,z,l⟩:=Fe (s.get H) hp j;have v:m.toNat*sz+sz<=n*sz:=by
  have:m.toNat+1<=n:=by omega
  have:=f_ sz this;grind
 obtain⟨hsz,r⟩:=tX l j (by rw[f];omega) b;refine aL s ?_ B r;have g:m<(n:Int):=u;simp only[execOp,E,C,z,Instr.index,asIntOf,Sem.run_bind,Sem.run_pure,Result.andThen_ok,run_underlying ht];rw[if_pos ⟨y,g⟩];simp only[Sem.run_bind,run_sizeOf hs,Result.andThen_ok,(qu (cs:=vs) (off:=m.toNat*sz) hd hs (by omega) b)]
theorem PH(u:Inv c θ D st a w){sz:Nat}{t e:TypeId}{x i:Operand}(J:o.op= .indexAddr t x i)(ht:P.underlying t=some (.slice e))(hs:ca P e=some sz) (h:jh P st (.qj sz (.of x) (.of i)) K):Yields P o a w (sx c θ st a K):=by
 obtain⟨R,N,Q,I,M⟩:=h;obtain⟨k,n,hn,v⟩:=c9 (u.get I) M;have E:=u.get N;have z:∀(b o' len cap:Nat),a.eval x= .slice (some ⟨b,o',none⟩) len cap->0<=n->n<(len:Int)->(execOp a.eval o).run P w= .ok (.value (.pointer (some ⟨b,o'+n.toNat*sz,none⟩))) w:=by intro b o' len cap F r h1;simp only[execOp,J,hn,F,Instr.indexAt,asIntOf,Sem.run_bind,Sem.run_pure,Result.andThen_ok,run_underlying ht];rw[if_pos ⟨r,h1⟩];simp[run_sizeOf hs,addr_add]
 rcases v with⟨L,rfl,r,d,B⟩|⟨id,rfl,ob,C,⟨H,L,rfl,r,d,B⟩|⟨H,U,L,hole,rfl,r,d,B⟩⟩;.obtain⟨b,cap,F,hcap,p⟩:=nO (xd E);obtain⟨g,o',rfl,hg,hsz,hc⟩:=p (by omega);refine aL u (z g o' L.length cap F r d) B (oY hg λj y T=>?_);grind
 .obtain⟨l,hl,A⟩:=E;have f:=u.ok.fO id l _ hl C;cases l<;>simp only[cJ]at f A;.grind
  .rename_i g m cap s O;obtain⟨rfl,rfl,_⟩:=f;exact aL u (z g 0 _ cap A r d) B ⟨g,_,cap,s,O,hl,by simp⟩
 .obtain⟨l,hl,A⟩:=E;have f:=u.ok.fO id l _ hl C;cases l<;>simp only[cJ]at f A;.grind
  .rename_i g m cap s O;obtain⟨rfl,rfl,_⟩:=f;exact aL u (z g 0 _ cap A r d) B ⟨g,_,cap,s,O,hl,by simp⟩
theorem Zh{b o' off sz:Nat}{ag:Bool}{p:PV}(g:D b)(hc:∀(j:Nat) (y:PV),p.cells[j]? =some y->∃u,w.cell? ⟨b,o'+j,none⟩=some u/\aW D w u y)(c:off+sz<=p.cells.length)(e:ag=false->sz=1)(f:(p.sub off sz ag).isAgg=ag): aW D w (.pointer (some ⟨b,o'+off,none⟩)) (.Bw (p.sub off sz ag)):=by
 refine oY g λj y d=>?_;cases a:ag;.subst a;rw[mA f]at d;cases j with|zero=>simp at d;subst d;have:=hc off _ ((uO e c).2 rfl);omega|succ j=>grind
 .subst a;rw[(uO (λh=>by grind) c).1 rfl]at d;grind
theorem PK(f:Inv c θ D st a w){n sz:Nat}{ag:Bool}{t e:TypeId}{x i:Operand}(H:o.op= .indexAddr t x i)(ht:P.underlying t=some (.array n e))(hs:ca P e=some sz) (h:jh P st (.qk n sz ag (.of x) (.of i)) K):Yields P o a w (sx c θ st a K):=by
 obtain⟨L,A,J,E,I⟩:=h;obtain⟨k,m,F,B,y,d⟩:=c9 (f.get E) I;have l:∀(g off:Nat),a.eval x= .pointer (some ⟨g,off,none⟩)->(execOp a.eval o).run P w= .ok (.value (.pointer (some ⟨g,off+m.toNat*sz,none⟩))) w:=by intro g off j;simp only[execOp,H,F,j,Instr.indexAt,asIntOf,Sem.run_bind,Sem.run_pure,Result.andThen_ok,run_underlying ht,Instr.sureAddr];rw[if_pos ⟨B,y⟩];simp[run_sizeOf hs,addr_add]
 rcases d with⟨id,off,rfl,u⟩|⟨p,rfl,z,r,s,u⟩;.obtain⟨g,hg,j⟩:=f.get A;exact aL f (l g off j) u ⟨g,hg,rfl⟩
 .obtain⟨b,o',j,C,hc⟩:=yW (xd (f.get A));have v:m.toNat*sz+sz<=p.cells.length:=by have h1:(m.toNat+1)*sz<=n*sz:=f_ _ (by omega);grind
  exact aL f (l b o' j) u (Zh C hc v r s)
theorem PG(C:Inv c θ D st a w){s:TypeId}{f:Nat}{x:Operand}{e:Field}{sz:Nat}(J:o.op= .fieldAddr s x f)(F:uB P s f=some e)(hs:ca P e.type=some sz)(hsz:sz≠0) (h:jh P st (.oj e.offset sz (ip P e.type) (.of x)) K):Yields P o a w (sx c θ st a K):=by
 obtain⟨M,L,k⟩:=h;have E:=C.get L;have r:∀(b o':Nat),a.eval x= .pointer (some ⟨b,o',none⟩)->(execOp a.eval o).run P w= .ok (.value (.pointer (some ⟨b,o'+e.offset,none⟩))) w:=by
  intro b o' l;unfold uB at F;split at F;.rename_i N H;simp[execOp,J,l,Instr.fieldAt,run_underlying H,F,Instr.sureAddr,fieldPlace,run_sizeOf hs,hsz,addr_add]
  grind
 rcases k with⟨p,rfl,B,v,z,A⟩|⟨id,o',rfl,A⟩|⟨id,i,o',rfl,A⟩
 .obtain⟨b,o',l,I,hc⟩:=yW (xd E);refine aL C (r b o' l) A (oY I λj y u=>?_);cases d:ip P e.type;.rw[d]at u v;rw[d]at z;rw[mA z]at u;cases j with|zero=>simp at u;subst u;have:=hc e.offset _ ((uO v B).2 rfl);omega|succ j=>grind
  .rw[d]at u;rw[(uO (λh=>by grind) B).1 rfl]at u;grind
 .obtain⟨g,hg,l⟩:=E;exact aL C (r g o' l) A ⟨g,hg,rfl⟩
 .obtain⟨g,n,cap,s',O,hg,l⟩:=E;refine aL C (r g _ l) A ⟨g,n,cap,s',O,hg,?_⟩;simp
end
section
variable {P:Program} {o:Oper} {c:Ctx} {θ:List Loc} {D:Nat->Prop} {st:St} {a:Act} {w:World} {K:AV->Prop}
theorem mL{vs:Array Value}{cs:List BV}{off sz:Nat}{ag:Bool}(hl:vs.size=cs.length)(h:∀(i:Nat) (u:Value) (x:BV),vs[i]? =some u->cs[i]? =some x->RelB θ D w u x)(b:off+sz<=cs.length)(a:ag=false->sz=1): RelA θ D w (r7 ag vs off sz) (mJ ag ((cs.drop off).take sz)):=by
 cases ag
 .have:=a rfl;subst this;have h1:off<cs.length:=by omega
  have h2:off<vs.size:=by omega
  have e:(cs.drop off).take 1=[cs[off]]:=by grind[ai_]
  simp only[r7,e,g_ h2];exact h off _ _ (g_ h2) (b_ h1)
 .refine⟨_,rfl,by grind,λi u x c d=>?_⟩;grind
theorem TG(v:Inv c θ D st a w){t:TypeId}{f:Nat}{x:Operand}{e:Field}{d:TypeDesc}{sz:Nat}(B:o.op= .field t x f)(u:uB P t f=some e)(hd:P.underlying e.type=some d)(hs:ca P e.type=some sz) (h:jh P st (.HJ e.offset sz (ip P e.type) (.of x)) K):Yields P o a w (sx c θ st a K):=by
 obtain⟨E,C,g⟩:=h;have A:=v.get C;unfold uB at u;split at u
 .rename_i F l;rcases g with⟨p,rfl,n,j,b,z⟩|⟨cs,rfl,j,b,z⟩;.obtain⟨vs,y,r⟩:=Fe A rfl n;obtain⟨hsz,s⟩:=tX r n j b;refine aL v ?_ z s;have k:=qu (w:=w) (cs:=vs) (off:=e.offset) hd hs (by omega) b;simp[execOp,B,y,Instr.field,run_underlying l,u,asAgg,k]
  .obtain⟨vs,y,h1,h2⟩:=A;refine aL v ?_ z (mL h1 h2 j b);simp[execOp,B,y,Instr.field,run_underlying l,u,asAgg,(qu (cs:=vs) (off:=e.offset) hd hs (by omega) b)]
 grind
theorem oW(ag:Bool)(c:Array Value)(off sz:Nat)(a:ag=false->sz=1)(b:off+sz<=c.size):uc ag (c.extract off (off+sz)).toList=r7 ag c off sz:=by
 cases ag;.grind[uc,r7,List.head?_eq_getElem?]
 .show Value.agg _=Value.agg _;grind
theorem VR(F:Inv c θ D st a w){x:Operand}{sz:Nat}{ag:Bool}{id i off:Nat}{e:TypeId}{s:Nat}{k:Av.K}{xs:List PV}{hole:Option (Nat×Nat×BV)}(hX:RelA θ D w (a.eval x) (.b (.i6 id i off)))(M:st.hp[id]? =some (.tree e s k xs hole)) (hi:i<xs.length) (el:off+sz<=s) (p:ag=false->sz=1) (d:(k.mh off sz=true/\K (.p ((xs.getD i .any).sub off sz ag)))\/(∃bv,hole=some (i,off,bv)/\sz=1/\ag=false/\K (.b bv))) (N:∀(b o':Nat) (cs:List Value),a.eval x= .pointer (some ⟨b,o',none⟩)->cs.length=sz->(ag=false->sz=1)->(∀(j:Nat) (v:Value),cs[j]? =some v->w.cell? ⟨b,o'+j,none⟩=some v)->(execOp a.eval o).run P w= .ok (.value (uc ag cs)) w):Yields P o a w (sx c θ st a K):=by
 obtain⟨g,n,cap,s',O,hg,he⟩:=hX;obtain⟨rfl,rfl,h3,h4,Y,C,Os,h6,h7,h8,h9,J,A⟩:=F.ok.fO id _ _ hg M;obtain⟨z,f⟩:∃z,xs[i]? =some z:=⟨_,b_ hi⟩;have I:xs.getD i .any=z:=mE f;rw[I]at d;have gc:z.cells.length=s':=Y _ (a_ f);have R:i*s'+s'<=C.size:=by
  rw[h7];have:i+1<=cap:=by omega
  have:=f_ s' this;grind
 have hr:=N g (i*s'+off) (C.extract (i*s'+off) (i*s'+off+sz)).toList he (by grind) p (λj v Q=>by rw[cell_of_row w g _ C e (0,0) h6];grind)
 rw[oW _ _ _ _ p (by omega)]at hr;rcases d with⟨hf,L⟩|⟨bv,r,rfl,rfl,L⟩
 .have H:∀(j:Nat) (u:Value) (y:PV),j<sz->C[i*s'+off+j]? =some u->z.cells[off+j]? =some y->aW D w u y:=λj u y Q T U=>by obtain⟨u',B,h⟩:=A i (off+j) _ y f U;rw[<-V_,T]at B;cases B;exact TO J (LZ hf Q) h
  refine aL F hr L ?_;show aW D w _ _;cases hb:ag;.have:=p hb;subst this;grind[r7,PV.sub,g_]
  .refine .agg _ _ (by grind) λk u y T U=>?_;grind
 .have h:off<z.cells.length:=by omega
  obtain⟨u,E,l⟩:=A i off _ _ f (b_ h);rw[r]at l;simp only[dM,and_self,if_true]at l;refine aL F hr L ?_;simp only[r7,E,U_];exact l
theorem PQ(B:Inv c θ D st a w){t:TypeId}{x:Operand}{d:TypeDesc}{sz:Nat}(ho:o.op= .load t x)(hd:P.underlying t=some d)(hs:ca P t=some sz) (h:jh P st (.load sz (ip P t) (.of x)) K):Yields P o a w (sx c θ st a K):=by
 obtain⟨ax,hx,f⟩:=h;have T:=B.get hx;have H:∀(b o':Nat) (cs:List Value),a.eval x= .pointer (some ⟨b,o',none⟩)->cs.length=sz->(ip P t=false->sz=1)->(∀(j:Nat) (v:Value),cs[j]? =some v->w.cell? ⟨b,o'+j,none⟩=some v)->(execOp a.eval o).run P w= .ok (.value (uc (ip P t) cs)) w:=by
  intro b o' cs E hl l hc
  have:=Bz (P:=P) (w:=w) hd hs cs hl l hc
  simp[execOp,ho,E,Instr.loadAt,Instr.sureAddr,this]
 unfold Bu at f;split at f
 .rename_i p;obtain⟨el,gc,r⟩:=f;obtain⟨b,o',E,hb,hc⟩:=yW (xd T);obtain⟨cs,hl,hcs⟩:=gp (n:=sz) (p:=λj u=>w.cell? ⟨b,o'+j,none⟩=some u/\∀y,p.cells[j]? =some y->aW D w u y) (λj N=>by obtain⟨u,h1,h2⟩:=hc j (p.cells[j]'(by omega)) (b_ (by omega));grind)
  have l:ip P t=false->sz=1:=λh=>by grind[mA]
  refine aL B (H b o' cs E hl l λj v N=>(hcs j v N).1) r ?_;rw[<-el];exact Fh (by omega) λj u y Q L=>(hcs j u Q).2 y L
 .rename_i id off;obtain⟨ob,F,t',cs,rfl,z,l,r⟩:=f;obtain⟨g,hg,E⟩:=T;obtain⟨A,h1,h2,R⟩:=B.ok.fO id _ _ hg F;have I:off+sz<=A.size:=by omega
  have hr:=H g off (A.extract off (off+sz)).toList E (by grind) l (λj v N=>by rw[cell_of_row w g _ A t' (0,0) h1];grind)
  rw[oW _ _ _ _ l I]at hr;rcases r with r|⟨q,hq,r⟩;.exact aL B hr r (mL h2 R z l)
  .exact aL B hr r (cX (mL h2 R z l) hq)
 .rename_i id i off;obtain⟨ob,F,⟨e,s,xs,rfl,hi,z,l,f⟩|⟨e,s,k,xs,hole,rfl,hi,z,l,f⟩⟩:=f
  rotate_left
  .grind[VR]
  obtain⟨g,n,cap,s',O,hg,E⟩:=T;obtain⟨rfl,rfl,R,h4,h5,A,h6,h7,h8⟩:=B.ok.fO id _ _ hg F;obtain⟨M,J⟩:∃M,xs[i]? =some M:=⟨_,b_ hi⟩;have U:xs.getD i .any=M:=mE J;rw[U]at f;have rg:M.cells.length=s':=h5 _ (a_ J);have ph:i*s'+s'<=A.size:=by
   rw[h7];have:i+1<=cap:=by omega
   have:=f_ s' this;grind
  have hr:=H g (i*s'+off) (A.extract (i*s'+off) (i*s'+off+sz)).toList E (by grind) l (λj v N=>by rw[cell_of_row w g _ A e (0,0) h6];grind)
  have C:∀(j:Nat) (u:Value) (y:PV),A[i*s'+j]? =some u->M.cells[j]? =some y->aW D w u y:=λj u y Q L=>by grind
  rcases f with⟨rfl,rfl,Y,r⟩|⟨qr,r⟩;.refine aL B hr r ?_;rw[<-Y];refine Fh (by grind) λj u y Q L=>C j u y ?_ L;grind
  .rw[oW _ _ _ _ l (by omega)]at hr;refine aL B hr r ?_;show aW D w _ _;cases hb:ip P t;.grind[r7,PV.sub,g_]
   .refine .agg _ _ (by grind) λk u y Q L=>?_;grind
 grind
theorem PF(e:Inv c θ D st a w){s d:TypeId}{x:Operand}{k:IntKind}{ds:TypeDesc}(g:o.op= .convert s d x)(b:P.underlying s=some ds)(hd:P.underlying d=some (.int k))(h:jh P st (.pY k (.of x)) K):Yields P o a w (sx c θ st a K):=by obtain⟨p,l,j⟩:=h;obtain⟨r,n,hn,f⟩:=c9 (e.get l) j;refine aL e ?_ f (aW.sc _);simp only[execOp,g,hn,convert,Sem.run_bind,run_underlying b,run_underlying hd];simp[Conv.intToInt]
theorem TE(e:Inv c θ D st a w){x:Operand}{i:Nat}(l:o.op= .extract x i)(h:jh P st (.ext (.of x) i) K):Yields P o a w (sx c θ st a K):=by
 obtain⟨r,n,d⟩:=h;rcases d with⟨xs,rfl,p,hp,g⟩|⟨xs,rfl,p,hp,g⟩
 .have k:aW D w (a.eval x) (.dP xs):=e.get n;generalize j:a.eval x=v at k;cases k with
  |dP vs xs hs f=>
   have b:i<vs.size:=by grind
   refine aL e ?_ g (f i _ p (g_ b) hp);simp[execOp,l,j,Instr.extract,g_ b]
 .obtain⟨vs,j,hs,f⟩:=e.get n;have b:i<vs.size:=by grind
  refine aL e ?_ g (f i _ p (g_ b) hp);simp[execOp,l,j,Instr.extract,g_ b]
theorem PU(d:Inv c θ D st a w){x:Operand}(r:o.op= .nilCheck x)(h:jh P st (.rC (.of x)) K):Yields P o a w (sx c θ st a K):=by
 obtain⟨z,s,e,n⟩:=h;have k:=d.get s;rcases e with⟨p,rfl⟩|⟨id,o',rfl⟩|⟨id,i,o',rfl⟩|⟨f,y,rfl⟩|⟨f,ids,rfl⟩;.obtain⟨b,o',j,_⟩:=yW (xd k);refine aL d ?_ n k;simp[execOp,r,j]
 .obtain⟨g,_,j⟩:=k;refine aL d ?_ n (d.get s);simp[execOp,r,j]
 .obtain⟨g,_,_,_,_,j⟩:=k;refine aL d ?_ n (d.get s);simp[execOp,r,j]
 .have l:aW D w (a.eval x) (.fn (.func f) y):=k;refine aL d ?_ n (d.get s);generalize u:a.eval x=v at l;cases l with|fn A vs xs hs C=>simp[execOp,r,u]
 .obtain⟨B,_,_,j⟩:=k;refine aL d ?_ n (d.get s);simp[execOp,r,j]
end
theorem nS{a:Type}(xs:List a)(off:Nat)(ys:List a)(h:off+ys.length<=xs.length)(k:Nat):(splice xs off ys)[k]? =if off<=k/\k<off+ys.length then ys[k - off]? else xs[k]? :=by
 unfold splice;have hl:(xs.take off).length=off:=by grind
 grind
theorem lB{a:Type}(xs:List a)(off:Nat)(ys:List a)(h:off+ys.length<=xs.length):(splice xs off ys).length=xs.length:=by unfold splice;grind
def foldl_set(off:Nat):∀(l:List (Value×Nat)) (j:Nat) (a:Array Value),(∀(i:Nat) (x:Value×Nat),l[i]? =some x->x.2=j+i)->off+j+l.length<=a.size->
 (l.foldl (λcs x=>cs.setIfInBounds (off+x.2) x.1) a).size=a.size/\
 ∀k,(l.foldl (λcs x=>cs.setIfInBounds (off+x.2) x.1) a)[k]? =if off+j<=k/\k<off+j+l.length then(l[k - (off+j)]?).map (·.1)else a[k]?
 |[],j,a,_,_=>⟨rfl,λk=>by grind⟩
 |x::l,j,a,b,hl=>by have c:x.2=j:=b 0 x rfl;simp only[ao_,G_]at hl⊢;obtain⟨h1,h2⟩:=foldl_set off l (j+1) (a.setIfInBounds (off+x.2) x.1) (λi y d=>by have:=b (i+1) y (by grind);omega) (by grind);grind
def Ik(off:Nat)(vs a:Array Value)(h:off+vs.size<=a.size):(vs.zipIdx.foldl (λcs (c,j)=>cs.setIfInBounds (off+j) c) a).size=a.size/\∀k,(vs.zipIdx.foldl (λcs (c,j)=>cs.setIfInBounds (off+j) c) a)[k]? =if off<=k/\k<off+vs.size then vs[k - off]? else a[k]? :=by
 have e:vs.zipIdx.foldl (λcs (c,j)=>cs.setIfInBounds (off+j) c) a=(vs.toList.zipIdx).foldl (λcs x=>cs.setIfInBounds (off+x.2) x.1) a:=by rw[<-Array.foldl_toList];simp
 rw[e];obtain⟨h1,h2⟩:=foldl_set off vs.toList.zipIdx 0 a (λi x b=>by grind) (by simpa using h)
 refine⟨h1,λk=>?_⟩;rw[h2 k];simp;grind
section
variable {P:Program} {o:Oper} {c:Ctx} {θ:List Loc} {D:Nat->Prop} {st:St} {a:Act} {w:World} {K:AV->Prop}
theorem QS(b:Nat->Option (Nat×Nat)):∀(parts:List (Nat×Value)) (f:List (Nat×Nat×AV)) (a:Array Value) (d:List BV),parts.length=f.length->
 (∀(i:Nat) (x:Nat×Value) (q:Nat×Nat×AV),parts[i]? =some x->f[i]? =some q->b x.1=some (q.1,q.2.1)/\RelA θ D w x.2 q.2.2)->
 (∀q∈f,q.2.2.ok=true/\q.2.2.cells.length=q.2.1/\q.1+q.2.1<=d.length)->a.size=d.length->(∀(i:Nat) (u:Value) (x:BV),a[i]? =some u->d[i]? =some x->RelB θ D w u x)->
 ∃e,Instr.fill b a parts=some e/\e.size=(f.foldl (λcs q=>splice cs q.1 q.2.2.cells) d).length/\∀(i:Nat) (u:Value) (x:BV),e[i]? =some u->(f.foldl (λcs q=>splice cs q.1 q.2.2.cells) d)[i]? =some x->RelB θ D w u x
 |[],[],a,d,_,_,_,hs,hr=>⟨a,rfl,hs,hr⟩
 |(i,v)::parts,q::f,a,d,hl,hp,p,hs,hr=>by
  obtain⟨h1,h2⟩:=hp 0 _ _ rfl rfl;obtain⟨l,B,C⟩:=p q (by simp);obtain⟨E,F⟩:=nM h2 l;have n:v.cells.size=q.2.1:=by grind
  have r:=lB d q.1 q.2.2.cells (by omega);obtain⟨I,J⟩:=Ik q.1 v.cells a (by omega);obtain⟨e,y,z,A⟩:=QS b parts f (v.cells.zipIdx.foldl (λcs (c,j)=>cs.setIfInBounds (q.1+j) c) a) (splice d q.1 q.2.2.cells) (by grind) (λi x h s g=>hp (i+1) x h (by grind) (by grind)) (λh g=>by grind) (by omega) (λk u x H s=>by grind[nS]);grind[Instr.fill]
theorem Ic(z:Array Value):∀(i:Nat) (u:Value) (x:BV),z[i]? =some u->(z.toList.map λv=>bI v)[i]? =some x->RelB θ D w u x:=by grind[xe]
theorem Nl(J:Inv c θ D st a w){t:TypeId}{parts:Array (Nat×Operand)}{z:Value}{A:List (Nat×Nat×SX)}(R:o.op= .build t parts)(T:d5 P t=some z)(d:partsOf P t parts.toList=some A) (h:jh P st (.build z.cells.toList A) K):Yields P o a w (sx c θ st a K):=by
 obtain⟨B,F,C,Q⟩:=h;obtain⟨q1,q2⟩:=mapM_some F;have H:=T;simp only[d5,e_]at H;have j:∀(e:Nat->Option (Nat×Nat)),(∀(i:Nat) (x:Nat×Operand) (s:Nat×Nat×SX),parts.toList[i]? =some x->A[i]? =some s->e x.1=some (s.1,s.2.1)/\s.2.2=SX.of x.2)->parts.toList.length=A.length->∃b,Instr.fill e z.cells (parts.map fun(i,x)=>(i,a.eval x)).toList=some b/\RelA θ D w (.agg b) (.agg (B.foldl (λcs q=>splice cs q.1 q.2.2.cells) (z.cells.toList.map λv=>bI v))):=by
  intro e y L
  obtain⟨b,n,p,N⟩:=QS (θ:=θ) (D:=D) (w:=w) e (parts.map fun(i,x)=>(i,a.eval x)).toList B z.cells (z.cells.toList.map λv=>bI v) (by grind) (λi x q k E=>by simp only[az_,i_]at k;cases u:parts.toList[i]? with|none=>grind|some pr=>rw[u]at k;simp at k;subst k;obtain⟨s,hs⟩:=bC (l:=A) (m:=B) q1 E;have:=q2 i s q hs E;simp only[d_]at this;obtain⟨av,r,rfl⟩:=this;obtain⟨Y,p2⟩:=y i pr s u hs;refine⟨Y,?_⟩;rw[p2]at r;exact J.get r) (λq E=>by grind) (by simp) (Ic z.cells)
  exact⟨b,n,b,rfl,p,N⟩
 have f:∃b,P.built t (parts.map fun(i,x)=>(i,a.eval x)).toList=some b/\RelA θ D w (.agg b) (.agg (B.foldl (λcs q=>splice cs q.1 q.2.2.cells) (z.cells.toList.map λv=>bI v))):=by
  unfold partsOf at d;split at d
  .simp only[e_]at d;obtain⟨g,y,d⟩:=d;obtain⟨I,U⟩:=mapM_some d;obtain⟨b,n,p⟩:=j (g.toArray[·]?) (λi x s k hs=>by grind) I
   grind[Program.built]
  .simp only[e_]at d;obtain⟨M,O,d⟩:=d;obtain⟨I,U⟩:=mapM_some d;obtain⟨b,n,p⟩:=j (λi=>some (i*M.size,M.size)) (λi x s k hs=>by grind) I
   grind[Program.built]
  grind
 obtain⟨b,n,p⟩:=f;refine aL J ?_ Q p;simp[execOp,R,run_build w t _ _ n]
end
section
variable {c:Ctx} {θ:List Loc} {D:Nat->Prop} {st:St} {a:Act} {w:World}
theorem jI(w:World)(o:Obj):Below w.heap.size w (w.alloc o):=(Below.refl _ _).alloc (m_ _) o
theorem Inv.K9(C:Inv c θ D st a w){l:Loc}{o:aM}{ob:Obj}(hl:∀g,l.has g->g=w.heap.size)(I:∀θ',(∀(i:Nat) (l:Loc),θ[i]? =some l->θ'[i]? =some l)->cJ θ' D (w.alloc ob) l o): Inv c (θ++[l]) D {st with hp:=st.hp++[o]} a (w.alloc ob):=by refine(C.below (jI w ob) C.Ci (λ_ h=>h) (λ_ h=>.inl h)).push (I _ λi l' E=>get_append E) λg hg=>?_;cases hl g hg;refine⟨C.Ci,by simp,λhd=>by have:=C.ok.pn _ hd;omega,λi li E H=>?_⟩;have:=(C.ok.mX i li _ E H).1;omega
theorem Inv.WL(E:Inv c θ D st a w){pl:Option Nat}(C:yE st pl){l:Loc}{o:aM}(I:∀θ',(∀(i:Nat) (l:Loc),θ[i]? =some l->l≠.no->θ'[i]? =some l)->cJ θ' D w l o) (hl:∀g,l.has g->c.w0.heap.size<=g/\g<w.heap.size/\¬D g/\∀(i:Nat) (li:Loc),θ[i]? =some li->¬li.has g):∃θ',Inv c θ' D (st.new pl o) a w/\θ'[st.XG pl]? =some l:=by cases pl with|none=>exact⟨θ++[l],E.push (I _ λi l' H _=>get_append H) hl,by simp[St.XG,<-E.ok.len]⟩|some s=>have J:=E.QU C;refine⟨θ.set s l,E.fill C (I _ λi l' H hn=>?_) hl,by grind[St.XG]⟩;grind
theorem Inv.qM(C:Inv c θ D st a w){pl:Option Nat}(E:yE st pl){l:Loc}{o:aM}{ob:Obj}(hl:∀g,l.has g->g=w.heap.size)(J:∀θ',(∀(i:Nat) (l:Loc),θ[i]? =some l->l≠.no->θ'[i]? =some l)->cJ θ' D (w.alloc ob) l o): ∃θ',Inv c θ' D (st.new pl o) a (w.alloc ob)/\θ'[st.XG pl]? =some l:=by refine(C.below (jI w ob) C.Ci (λ_ h=>h) (λ_ h=>.inl h)).WL E J λg hg=>?_;cases hl g hg;refine⟨C.Ci,by simp,λhd=>by have:=C.ok.pn _ hd;omega,λi li I H=>?_⟩;have:=(C.ok.mX i li _ I H).1;omega
theorem Inv.store(C:Inv c θ D st a w){id g:Nat}{l:Loc}{o':aM}{w':World}(hid:θ[id]? =some l)(hl:l.has g)(el:w'.os=w.os)(ht:w'.tape=w.tape)(N:w'.output=w.output)(hsz:w'.heap.size=w.heap.size) (E:∀k,k≠g->w'.heap[k]? =w.heap[k]?) (ho:cJ θ D w' l o'):Inv c θ D {st with hp:=st.hp.set id o'} a w':=by
 have I:∀b,D b->w'.heap[b]? =w.heap[b]? :=λb hb=>E b λe=>(C.ok.mX id l g hid hl).2 (e▸hb);refine⟨C.size,C.defers,⟨by simp[C.ok.len],λb hb=>by rw[hsz];exact C.ok.pn b hb,C.ok.inj,λi li U Y H=>by rw[hsz];exact C.ok.mX i li U Y H,λi li oi Y M=>?_⟩,⟨el.trans C.keep.os,ht.trans C.keep.tape,N.trans C.keep.output,by rw[hsz];exact C.keep.size,λk hk hn=>(E k λe=>?_).trans (C.keep.block k hk hn)⟩,C.lG,C.ng,C.jY,λk x hk=>(C.fr k x hk).mono (λ_ h=>h) I,C.fix⟩
 .by_cases J:i=id;.grind
  .rw[A_ (Ne.symm J)]at M;refine(C.ok.fO i li oi Y M).mono (λ_ h=>h) I λU H=>E U λe=>J ?_;subst e;exact C.ok.inj i id li l U Y hid H hl
 .subst e;rcases C.jY id l k hid hl with h1|h1;all_goals grind
theorem lQ(f:AV->AV):∀(fr:List (Nat×AV)) (k:Nat),look (fr.map λx=>(x.1,f x.2)) k=(look fr k).map f
 |[],_=>rfl
 |(j,x)::fr,k=>by
  simp only[aO_,look];split;.rfl
  .exact lQ f fr k
theorem RelB.kill{θ:List Loc}{D:Nat->Prop}{w:World}{v:Value}{x:BV}{id:Nat}{l l':Loc}(hid:θ[id]? =some l)(M:∀g,l≠.dX g)(N:∀g,l≠.mp g)(h:RelB θ D w v x):RelB (θ.set id l') D w v (x.kill id):=by
 have C:∀(k:Nat),k≠id->(θ.set id l')[k]? =θ[k]? :=λk E=>A_ (Ne.symm E);cases x with
 |pv p=>exact h|om=>exact h|sl k=>
  simp only[BV.kill];split;.exact aW.any v
  .rename_i E;obtain⟨lk,h1,h2⟩:=h;exact⟨lk,(C k E).trans h1,h2⟩
 |ptr k off=>obtain⟨g,h1,h2⟩:=h;refine⟨g,(C k λe=>?_).trans h1,h2⟩;grind
 |i6 k i off=>
  simp only[BV.kill];split;.exact aW.any v
  .rename_i E;obtain⟨g,n,cap,sz,O,h1,h2⟩:=h;exact⟨g,n,cap,sz,O,(C k E).trans h1,h2⟩
 |kT f ids=>obtain⟨H,h1,h2,I⟩:=h;refine⟨H,h1,λj k g J hg=>(C k λe=>?_).trans (h2 j k g J hg),I⟩;grind
 |mp k=>obtain⟨g,h1,h2⟩:=h;refine⟨g,(C k λe=>?_).trans h1,h2⟩;grind
 |full p=>exact h|KF=>exact h
theorem RelA.kill{θ:List Loc}{D:Nat->Prop}{w:World}{v:Value}{x:AV}{id:Nat}{l l':Loc}(hid:θ[id]? =some l)(E:∀g,l≠.dX g)(H:∀g,l≠.mp g)(h:RelA θ D w v x):RelA (θ.set id l') D w v (x.kill id):=by
 cases x with
 |b x=>exact RelB.kill hid E H h|agg xs=>obtain⟨vs,rfl,h1,h2⟩:=h;refine⟨vs,rfl,by grind,λi u x J I=>?_⟩;rw[i_]at I;cases C:xs[i]? with|none=>grind|some y=>rw[C]at I;cases I;exact(h2 i u y J C).kill hid E H
 |dP xs=>obtain⟨vs,rfl,h1,h2⟩:=h;refine⟨vs,rfl,by grind,λi u x J I=>?_⟩;rw[i_]at I;cases C:xs[i]? with|none=>grind|some y=>rw[C]at I;cases I;exact(h2 i u y J C).kill hid E H
theorem mZ{θ θ':List Loc}{D D':Nat->Prop}{w:World}{f:BV->BV}{hole:Option (Nat×Nat×BV)}(I:∀u i j b,hole=some (i,j,b)->RelB θ D w u b->RelB θ' D' w u (f b))(hD:∀b,D b->D' b){g n cap s:Nat}{O:Nat->Prop}{e:TypeId}{sz:Nat}{k:Av.K}{xs:List PV} (h:cJ θ D w (.nw g n cap s O) (.tree e sz k xs hole)):cJ θ' D' w (.nw g n cap s O) (.tree e sz k xs (JV f hole)):=by
 obtain⟨h1,h2,z,A,B,c,Os,C,E,F,H,v,d⟩:=h;refine⟨h1,h2,z,A,B,c,Os,C,E,F,H,λi j b p=>?_,λi j x y J L=>?_⟩;.cases hole with|none=>cases p|some q=>obtain⟨i',M,b'⟩:=q;cases p;grind
 .obtain⟨u,r,a⟩:=d i j x y J L;refine⟨u,r,?_⟩;have:dM (JV f hole) i j=(dM hole i j).map f:=by cases hole with|none=>rfl|some q=>simp[JV,dM]
  rw[this];cases l:dM hole i j with|none=>rw[l]at a;exact a.mono hD (λ_ _=>rfl) λ_ _=>rfl|some b=>rw[l]at a;exact I u i j b (oK l) a
theorem cJ.kill{θ:List Loc}{D:Nat->Prop}{w:World}{lo:Loc}{o:aM}{id:Nat}{l l':Loc}(hid:θ[id]? =some l)(C:∀g,l≠.dX g)(E:∀g,l≠.mp g)(h:cJ θ D w lo o):cJ (θ.set id l') D w lo (o.kill id):=by
 cases lo<;>cases o<;>simp only[cJ]at h⊢<;>try exact h
 case nil.tree=>exact⟨h.1,by rw[h.2];rfl⟩
 case nw.tree g n cap s O e sz kk xs hole=>exact mZ (λu i j b _ h=>h.kill hid C E) (λ_ h=>h) h
 obtain⟨J,h1,h2,M⟩:=h;refine⟨J,h1,by grind,λi u x N I=>?_⟩;rw[i_]at I;rename_i cs;cases H:cs[i]? with|none=>grind|some y=>rw[H]at I;cases I;exact(M i u y N H).kill hid C E
theorem Inv.move(C:Inv c θ D st a w){id:Nat}{l l':Loc}{o':aM}{w':World}(hid:θ[id]? =some l)(gc:∀g,l≠.dX g)(ph:∀g,l≠.mp g)(Bx:w'.os=w.os)(ht:w'.tape=w.tape)(qr:w'.output=w.output)(hsz:w.heap.size<=w'.heap.size) (H:∀k,k<w.heap.size->¬l.has k->w'.heap[k]? =w.heap[k]?) (J:∀g,l'.has g->g<w'.heap.size/\(l.has g\/w.heap.size<=g)) (ho:cJ (θ.set id l') D w' l' o'): Inv c (θ.set id l') D (st.fD id o') a w':=by
 show Inv c (θ.set id l') D {(st.kill id)with hp:=(st.kill id).hp.set id o'} a w';have Y:∀b,D b->w'.heap[b]? =w.heap[b]? :=λb hb=>H b (C.ok.pn b hb) λe=>(C.ok.mX id l b hid e).2 hb;have E:∀(i:Nat) (li:Loc),(θ.set id l')[i]? =some li->(i=id/\li=l')\/(i≠id/\θ[i]? =some li):=λi li I=>by grind
 have ur:∀(i:Nat) (li:Loc) (g:Nat),i≠id->θ[i]? =some li->li.has g->¬l'.has g:=λi li g Bk I hg e=>by
  rcases(J g e).2 with h1|h1;.exact Bk (C.ok.inj i id li l g I hid hg h1)
  .have:=(C.ok.mX i li g I hg).1;omega
 refine⟨C.size,C.defers,⟨by simp[St.kill,C.ok.len],λb hb=>s_ (C.ok.pn b hb) hsz,λi j li lj g I hj wr At=>?_,λi li g I hg=>?_,λi li oi I M=>?_⟩,⟨Bx.trans C.keep.os,ht.trans C.keep.tape,qr.trans C.keep.output,E_ C.keep.size hsz,λk N hn=>(H k (s_ N C.keep.size) λe=>?_).trans (C.keep.block k N hn)⟩,C.lG,C.ng,λi li g I hg=>?_,λk x N=>?_,λk lk N hf=>?_⟩
 .rcases E i li I with⟨rfl,rfl⟩|⟨h1,h2⟩<;>rcases E j lj hj with⟨rfl,rfl⟩|⟨U,h4⟩;.rfl
  .grind
  .grind
  .exact C.ok.inj i j li lj g h2 h4 wr At
 .rcases E i li I with⟨rfl,rfl⟩|⟨h1,h2⟩
  .refine⟨(J g hg).1,λhd=>?_⟩;rcases(J g hg).2 with U|U;.exact(C.ok.mX i l g hid U).2 hd
   grind
  .exact⟨s_ (C.ok.mX i li g h2 hg).1 hsz,(C.ok.mX i li g h2 hg).2⟩
 .rcases E i li I with⟨rfl,rfl⟩|⟨h1,h2⟩;.grind
  .rw[A_ (Ne.symm h1)]at M;simp only[St.kill,i_]at M;cases rg:st.hp[i]? with|none=>grind|some ob=>rw[rg]at M;cases M;exact((C.ok.fO i li ob h2 rg).kill hid gc ph).mono (λ_ h=>h) Y λg hg=>H g (C.ok.mX i li g h2 hg).1 λe=>h1 (C.ok.inj i id li l g h2 hid hg e)
 .rcases C.jY id l k hid e with h1|h1;all_goals grind
 .rcases E i li I with⟨rfl,rfl⟩|⟨h1,h2⟩
  .rcases(J g hg).2 with U|U;.exact C.jY i l g hid U
   .exact .inr (E_ C.keep.size U)
  .exact C.jY i li g h2 hg
 .simp only[St.kill,lQ]at N;cases el:look st.fr k with|none=>grind|some y=>rw[el]at N;cases N;exact((C.fr k y el).kill hid gc ph).mono (λ_ h=>h) Y
 .have h1:=C.fix k lk N hf;by_cases BT:k=id;.cases l<;>simp[Loc.fixed]at hf;all_goals grind
  grind
end
section
variable {D D':Nat->Prop} {w w':World}
theorem RelB.eV{θ θ2:List Loc}{ρ:Nat->Nat}{v:Value}{x:BV}(C:∀k l,k∈x.ids->θ[k]? =some l->θ2[ρ k]? =some l)(h:RelB θ D w v x):RelB θ2 D w v (x.eV ρ):=by
 cases x<;>simp only[RelB,BV.eV,BV.ids]at h C⊢;.omega
 .omega
 .grind
 .grind
 .grind
 .grind
 all_goals grind
theorem tM{xs:List BV}{x:BV}{k:Nat}{i:Nat}(b:xs[i]? =some x)(a:k∈x.ids):k∈xs.flatMap BV.ids:=by grind
theorem uM{θ θ2:List Loc}{D2:Nat->Prop}{w2:World}{vs:Array Value}{xs:List BV}{g:BV->BV}(h1:vs.size=xs.length)(h2:∀(i:Nat) (u:Value) (x:BV),vs[i]? =some u->xs[i]? =some x->RelB θ D w u x) (hg:∀(i:Nat) (u:Value) (x:BV),xs[i]? =some x->RelB θ D w u x->RelB θ2 D2 w2 u (g x)):vs.size=(xs.map g).length/\∀(i:Nat) (u:Value) (x:BV),vs[i]? =some u->(xs.map g)[i]? =some x->RelB θ2 D2 w2 u x:=by grind
theorem RelA.eV{θ θ2:List Loc}{ρ:Nat->Nat}{v:Value}{x:AV}(C:∀k l,k∈x.ids->θ[k]? =some l->θ2[ρ k]? =some l)(h:RelA θ D w v x):RelA θ2 D w v (x.eV ρ):=by
 cases x with
 |b x=>exact RelB.eV C h|agg xs=>obtain⟨vs,rfl,h1,h2⟩:=h;obtain⟨E,H⟩:=uM h1 h2 λi u x J hr=>hr.eV λk l I hl=>C k l (tM J I) hl;exact⟨vs,rfl,E,H⟩
 |dP xs=>obtain⟨vs,rfl,h1,h2⟩:=h;obtain⟨E,H⟩:=uM h1 h2 λi u x J hr=>hr.eV λk l I hl=>C k l (tM J I) hl;exact⟨vs,rfl,E,H⟩
theorem cJ.eV{θ θ2:List Loc}{ρ:Nat->Nat}{l:Loc}{o:aM}(C:∀k l,k∈o.ids->θ[k]? =some l->θ2[ρ k]? =some l)(h:cJ θ D w l o):cJ θ2 D w l (o.eV ρ):=by
 cases l<;>cases o<;>simp only[cJ,aM.eV]at h⊢<;>try exact h
 case nil.tree=>exact⟨h.1,by rw[h.2];rfl⟩
 case nw.tree hole=>exact mZ (λu i j b I hr=>hr.eV λk l E hl=>C k l (by rw[I];exact E) hl) (λ_ h=>h) h
 obtain⟨M,h1,h2,H⟩:=h;obtain⟨N,U⟩:=uM h2 H λi u x J hr=>hr.eV λk l E hl=>C k l (tM J E) hl;grind
theorem RelB.cE{θ θ2:List Loc}{B:List Nat}{v:Value}{x:BV}(h1:∀(k:Nat) (l:Loc),k∉B->θ[k]? =some l->θ2[k]? =some l)(h2:∀(k:Nat) (l:Loc),l.fixed=true->θ[k]? =some l->θ2[k]? =some l) (h:RelB θ D w v x):RelB θ2 D w v (x.cE B):=by
 cases x with
 |pv p=>exact h|om=>exact h|sl k=>
  by_cases H:k∈B
  .have:(BV.sl k).cE B= .pv .any:=by grind[BV.cE]
   rw[this];exact aW.any v
  .have:(BV.sl k).cE B= .sl k:=by grind[BV.cE]
   rw[this];obtain⟨l,C,E⟩:=h;exact⟨l,h1 _ _ H C,E⟩
 |ptr k off=>obtain⟨g,C,E⟩:=h;exact⟨g,h2 _ _ rfl C,E⟩
 |i6 k i off=>
  by_cases H:k∈B
  .have:(BV.i6 k i off).cE B= .pv .any:=by grind[BV.cE]
   rw[this];exact aW.any v
  .have:(BV.i6 k i off).cE B= .i6 k i off:=by grind[BV.cE]
   rw[this];obtain⟨g,n,cap,sz,O,C,E⟩:=h;exact⟨g,n,cap,sz,O,h1 _ _ H C,E⟩
 |kT f ids=>obtain⟨M,C,E,I⟩:=h;exact⟨M,C,λk id g J f2=>h2 _ _ rfl (E k id g J f2),I⟩
 |mp k=>obtain⟨g,C,E⟩:=h;exact⟨g,h2 _ _ rfl C,E⟩
 |full p=>exact h|KF=>exact h
theorem RelA.cE{θ θ2:List Loc}{B:List Nat}{v:Value}{x:AV}(h1:∀(k:Nat) (l:Loc),k∉B->θ[k]? =some l->θ2[k]? =some l)(h2:∀(k:Nat) (l:Loc),l.fixed=true->θ[k]? =some l->θ2[k]? =some l) (h:RelA θ D w v x):RelA θ2 D w v (x.cE B):=by
 cases x with
 |b x=>exact RelB.cE h1 h2 h|agg xs=>obtain⟨vs,rfl,C,E⟩:=h;obtain⟨H,I⟩:=uM C E λi u x J hr=>hr.cE h1 h2;exact⟨vs,rfl,H,I⟩
 |dP xs=>obtain⟨vs,rfl,C,E⟩:=h;obtain⟨H,I⟩:=uM C E λi u x J hr=>hr.cE h1 h2;exact⟨vs,rfl,H,I⟩
theorem cJ.cE{θ θ2:List Loc}{B:List Nat}{l:Loc}{o:aM}(h1:∀(k:Nat) (l:Loc),k∉B->θ[k]? =some l->θ2[k]? =some l)(h2:∀(k:Nat) (l:Loc),l.fixed=true->θ[k]? =some l->θ2[k]? =some l) (h:cJ θ D w l o):cJ θ2 D w l (o.cE B):=by
 cases l<;>cases o<;>simp only[cJ,aM.cE]at h⊢<;>try exact h
 case nil.tree=>exact⟨h.1,by rw[h.2];rfl⟩
 case nw.tree hole=>exact mZ (λu i j b N hr=>hr.cE h1 h2) (λ_ h=>h) h
 obtain⟨H,I,C,E⟩:=h;obtain⟨J,M⟩:=uM C E λi u x U hr=>hr.cE h1 h2;grind
theorem RelB.mh{θ:List Loc}{v:Value}{x:BV}(C:x.sR)(h:RelB θ D w v x):RelB θ D' w' v x:=by cases x<;>simp only[RelB]at h C⊢<;>first|exact h.flat C|omega|exact C.elim
theorem RelA.ZH{θ:List Loc}{v:Value}{x:AV}(E:x.sQ)(h:RelA θ D w v x):RelA θ D' w' v x:=by
 cases x with
 |b x=>exact RelB.mh E h|agg xs=>obtain⟨vs,I,h1,h2⟩:=h;exact⟨vs,I,h1,λi u x H C=>(h2 i u x H C).mh (E x (a_ C))⟩
 |dP xs=>obtain⟨vs,I,h1,h2⟩:=h;exact⟨vs,I,h1,λi u x H C=>(h2 i u x H C).mh (E x (a_ C))⟩
theorem kK.Vt{q:Option (TypeId×Nat×Av.K)}{O:Nat->Prop}{v:Value}{p:PV}(h:kK D w q O v p):Hh q p->kK D' w q O v p:=by
 induction h with
 |flat O v p h=>intro C;cases C with|flat _ hp=>exact .flat O v p (h.flat hp)
 |nil q O a=>intro _;exact .nil q O a|nw e sz k O g cap xs p cs val Os hp hcap hmax hsz hg hcs H hOs hdj hc _ N=>intro C;cases C with|sl _ _ _ _ E I C=>have:E=xs:=Rb (I.symm.trans hp);subst this;exact .nw e sz k O g cap E p cs val Os hp hcap hmax hsz hg hcs H hOs hdj hc λi j x y J M=>N i j x y J M (C i j x y J M)
theorem cJ.zbv{θ:List Loc}{l:Loc}{o:aM}(H:o.rW)(h:cJ θ D w l o):cJ θ D' w l o:=by
 cases l<;>cases o<;>simp only[cJ]at h H⊢<;>try exact h
 .obtain⟨cv,h1,h2,C⟩:=h;exact⟨cv,h1,h2,λi u x hu E=>(C i u x hu E).mh (H x (a_ E))⟩
 .obtain⟨h1,h2,C,h4,h5,c,h6,h7,h8⟩:=h;exact⟨h1,h2,C,h4,h5,c,h6,h7,λi j x y E J=>let⟨u,U,I⟩:=h8 i j x y E J;⟨u,U,I.flat (H x (a_ E) y (a_ J))⟩⟩
 .obtain⟨h1,h2,C,h4,h5,c,Os,h6,h7,h8,h9,el,Y⟩:=h;refine⟨h1,h2,C,h4,h5,c,Os,h6,h7,h8,h9,el,λi j x y E J=>?_⟩;obtain⟨u,U,I⟩:=Y i j x y E J;refine⟨u,U,?_⟩;rename_i hole;cases hq:dM hole i j with|none=>rw[hq]at I;exact I.Vt (H.2 i j x y E J)|some b=>rw[hq]at I;exact I.mh (H.1 i j b (oK hq))
 .obtain⟨es,ck,h1,h2,C⟩:=h;exact⟨es,ck,h1,h2,λi en N he M=>⟨(C i en N he M).1.flat (H N (a_ M)).1,(C i en N he M).2.flat (H N (a_ M)).2⟩⟩
end
section
variable {P:Program} {o:Oper} {c:Ctx} {θ:List Loc} {D:Nat->Prop} {st:St} {a:Act} {w:World}
theorem eK(w:World)(o:Obj)(k:Nat)(h:k<w.heap.size):(w.alloc o).heap[k]? =w.heap[k]? :=Below.heap_alloc w o k h
theorem fa(w:World)(o:Obj):(w.alloc o).heap[w.heap.size]? =some o:=by show(w.heap.push o)[w.heap.size]? =_;simp
def Leaves(P:Program)(o:Oper)(c:Ctx)(K KP:St->Prop)(a:Act)(w:World):Prop:=
 ∀(next:Act->World->Prop) (Q:Exit->Act->World->Prop),(∀d w',(∃b,K b/\i8 c b d w')->next d w')->(∀e w',(qH e/\∃b,KP b/\i8 c b a w')->Q (.panic e) a w')->o.wp P a w next Q
theorem Ax{K KP:St->Prop}{b:AV->Prop}(hd:∀k,o.dst=some k->k<c.n)(h:Yields P o a w (sx c θ st a b))(e:∀x,b x->K (st.aF o.dst x)):Leaves P o c K KP a w:=λ_ _ hn _=>h.wp λ_ _ ⟨x,D',g,d,f⟩=>hn _ _ ⟨_,e x g,θ,D',d.put hd f⟩
theorem C8{hp:List aM}{x:BV}{p:PV}(h:sa hp false x=some p):x.bG=some p:=by unfold sa at h;grind
theorem Lf{hp:List aM}{x:AV}{p:PV}(h:ja hp false x=some p):x.bG=some p:=by
 cases x with
 |b x=>exact C8 h|agg xs=>
  simp only[ja,AV.bG,d_]at h⊢;have:∀(l:List BV) (c:List PV),l.mapM (sa hp false)=some c->l.mapM BV.bG=some c:=by intro l;induction l with|nil=>simp|cons x l d=>intro c h;rw[af_]at h⊢;simp only[as_,aI_,e_,B_]at h⊢;obtain⟨a,h1,m,h2,rfl⟩:=h;exact⟨a,C8 h1,m,d _ h2,rfl⟩
  grind
 |dP xs=>exact h
theorem M9(e:Inv c θ D st a w){D':Nat->Prop}(hD:∀b,D b->D' b){bor:Bool}{v:Value}{x:BV}{p:PV}(hO:bor=true->∀id l,id∈x.ids->θ[id]? =some l->∀b,l.has b->D' b)(d:RelB θ D w v x)(h:sa st.hp bor x=some p):aW D' w v p:=by
 unfold sa at h;split at h
 .rename_i id;cases bor;.grind
  .obtain⟨l,h1,h2⟩:=RZ e.ok d h;exact h2 D' hD (hO rfl id l (by simp[BV.ids]) h1)
 .exact(lm d h).mono hD (λ_ _=>rfl)
theorem Ie(f:Inv c θ D st a w){D':Nat->Prop}(hD:∀b,D b->D' b){bor:Bool}{v:Value}{x:AV}{p:PV}(hO:bor=true->∀id l,id∈x.ids->θ[id]? =some l->∀b,l.has b->D' b)(d:RelA θ D w v x)(h:ja st.hp bor x=some p):aW D' w v p:=by
 cases x with
 |b x=>exact M9 f hD hO d h|agg xs=>simp only[ja,d_]at h;obtain⟨y,h1,rfl⟩:=h;obtain⟨vs,rfl,h2,g⟩:=d;obtain⟨j,k⟩:=mapM_some h1;refine aW.agg _ _ (by omega) λi u p s hp=>?_;obtain⟨x,e⟩:=bC j hp;exact M9 f hD (λn id l r=>hO n id l (Z_.2 ⟨x,a_ e,r⟩)) (g i u x s e) (k i x p e hp)
 |dP xs=>exact(cX d h).mono hD (λ_ _=>rfl)
theorem RJ(d:Inv c θ D st a w){bor:Bool}{v:Value}{x:AV}{p:PV}(f:RelA θ D w v x)(h:ja st.hp bor x=some p):aW (if bor then λb=>b<w.heap.size else D) w v p:=by
 cases bor;.grind[cX,Lf]
 .exact Ie d (λb e=>d.ok.pn b e) (λ_ id l _ hl b e=>(d.ok.mX id l b hl e).1) f h
theorem yZ{f:FuncId}(c:eI P f=true)(args:Array Value):(callFunc f args).run P w= .ok (.enter f args) w:=by unfold eI at c;cases a:P.funcs[f]? with|none=>grind|some fn=>rw[a]at c;simp only[F_,bne_iff_ne]at c;obtain⟨h1,h2⟩:=c;cases d:fn.body with|none=>grind|some b=>simp[callFunc,a,h2,d]
theorem Nf{f:FuncId}{cl:Call}(e:o.op= .call cl)(c:cl.callee= .value (.func f))(d:eI P f=true):(execOp a.eval o).run P w= .ok (.enter f (cl.args.toList.map a.eval).toArray) w:=by
 have b:(cl.args.map a.eval)=(cl.args.toList.map a.eval).toArray:=by grind
 rw[<-b];simp[execOp,e,resolve,c,Act.eval,Deferred.ofValue,invoke,yZ d]
theorem Ih{f:FuncId}{cl:Call}{t:Tmp}{cs:Array Value}(e:o.op= .call cl)(c:cl.callee= .value (.tmp t))(g:a.eval (.tmp t)= .func (.func f) #[] cs)(d:eI P f=true):(execOp a.eval o).run P w= .ok (.enter f (cl.args.toList.map a.eval++cs.toList).toArray) w:=by
 have b:(cl.args.map a.eval)++cs=(cl.args.toList.map a.eval++cs.toList).toArray:=by simp
 grind[execOp,resolve,Deferred.ofValue,invoke,yZ]
theorem Dj(s:Inv c θ D st a w)(hd:∀k,o.dst=some k->k<c.n){K KP:St->Prop}{bor:Bool}{f:FuncId}{vs:List Value}{M:List PV}(F:(execOp a.eval o).run P w= .ok (.enter f vs.toArray) w)(m1:vs.length=M.length) (C:∀(i:Nat) (v:Value) (x:AV),vs[i]? =some v->(M.map AV.p)[i]? =some x->RelA [] (if bor then λb=>b<w.heap.size else D) w v x) (hc:eN P f (M.map .p) [] λo'=>∃r z,o'=some (r,z)/\r.ids=[]/\(bor=true->r.sQ)/\K (st.aF o.dst r)):Leaves P o c K KP a w:=by
 intro next Q hn _;unfold Oper.wp;rw[F];have A:∀b,(if bor then λb=>b<w.heap.size else D) b->b<w.heap.size:=λb n=>by
  cases bor;.exact s.ok.pn b n
  grind
 have J:∀b,¬owns [] b:=λb ⟨i,l,I,_⟩=>by grind
 refine(hc w [] (if bor then λb=>b<w.heap.size else D) vs ((c.gk w s.keep).mono (m6.refl (λ_=>False) w) (λ_ _ h=>h) (λb n=>by
  cases bor;.exact s.lG b n
  .exact s.ok.pn b (s.lG b n))) ⟨rfl,A,λi j li lj g I=>by simp,λi l g I=>by grind,λi l o I=>by simp⟩ (by grind) C).mono λe w' n=>?_
 rcases n with⟨v,r,z,θ',D',rfl,⟨r',O,hr,N,u,T⟩,Y,L,d,hD,R,_,_,_⟩|⟨ch,_,rfl,⟨p,z,hr,_⟩,_⟩
 .cases hr;have H:=s.below (D':=λb=>D b\/(D' b/\w.heap.size<=b)) ⟨d.os,d.tape,d.output,d.size,λk B=>d.block k B (J k)⟩ s.Ci (λb n=>.inl n) (λb n=>n.imp id λh=>⟨h.2,L.pn b h.1⟩);refine hn _ _ ⟨_,T,θ,_,H.put hd ?_⟩;have y:=Y.eV (θ2:=θ) (ρ:=id) λk l B=>by grind
  have E:r.eV id=r:=by
   have n:∀x:BV,x.eV id=x:=λx=>by cases x<;>simp[BV.eV]
   have U:∀xs:List BV,xs.map (BV.eV id)=xs:=λxs=>by rw[List.map_congr_left λx _=>n x];simp
   cases r<;>simp[AV.eV,n,U]
  rw[E]at y;cases bor;.refine y.mono (λb n=>?_) (λ_ _=>rfl);grind
  .exact y.ZH (u rfl)
 grind
theorem PD(d:Inv c θ D st a w)(hd:∀k,o.dst=some k->k<c.n){K KP:St->Prop}{bor:Bool}{f:FuncId}{cl:Call}(n:o.op= .call cl)(e:cl.callee= .value (.func f))(l:eI P f=true) (h:jh P st (.call bor f (cl.args.toList.map SX.of)) λx=>K (st.aF o.dst x)):Leaves P o c K KP a w:=by obtain⟨u,g,hc⟩:=h;obtain⟨z,s⟩:=mapM_some g;refine Dj d hd (Nf n e l) (by grind) (λi v x j hp=>?_) hc;rw[i_]at hp j;cases b:u[i]? with|none=>grind|some p=>rw[b]at hp;cases hp;cases r:cl.args.toList[i]? with|none=>grind|some x=>rw[r]at j;cases j;have:=s i (SX.of x) p (by grind) b;simp only[e_]at this;obtain⟨y,h1,h2⟩:=this;exact RJ d (d.get h1) h2
theorem Nn(e:Inv c θ D st a w)(hd:∀k,o.dst=some k->k<c.n){K KP:St->Prop}{bor:Bool}{t:Tmp}{cl:Call}(B:o.op= .call cl)(g:cl.callee= .value (.tmp t)) (h:jh P st (.hZ bor (.tm t) (cl.args.toList.map SX.of)) λx=>K (st.aF o.dst x)):Leaves P o c K KP a w:=by
 obtain⟨I,E,f,cs,rfl,z,s,n,hc⟩:=h;obtain⟨M,F⟩:=mapM_some n;have r:aW D w (a.eval (.tmp t)) (.fn (.func f) cs):=e.get (x:=.tmp t) E;have key:∃us:Array Value,a.eval (.tmp t)= .func (.func f) #[] us/\us.toList.length=cs.length/\∀(i:Nat) (v:Value) (x:PV),us.toList[i]? =some v->cs[i]? =some x->aW D w v x:=by generalize a.eval (.tmp t)=v at r;cases r with|fn _ us _ hs J=>grind
 obtain⟨us,C,hl,hr⟩:=key;have hD:∀b,D b->(if bor then λb=>b<w.heap.size else D) b:=λb u=>by
  cases bor;.grind
  .exact e.ok.pn b u
 have A:(cl.args.toList.map a.eval).length=s.length:=by grind
 refine Dj e hd (Ih B g C z) (by grind) (λi v x d hp=>?_) hc;rw[i_]at hp;obtain⟨p,l,rfl⟩:=d_.1 hp;have hp:=l;rcases y_ i s.length with j|j;.rw[j_ (by omega)]at d;rw[j_ j]at hp;rw[i_]at d;obtain⟨y,L,rfl⟩:=d_.1 d;have:=F i (SX.of y) p (by grind) hp;simp only[e_]at this;obtain⟨H,h1,h2⟩:=this;exact RJ e (e.get h1) h2
 .rw[r_ (by omega)]at d;rw[r_ j]at hp;rw[A]at d;exact(hr _ v p d hp).mono hD (λ_ _=>rfl)
theorem Be:∀{L:List PV} {l:List Int},bytesOf L=some l->L.length=l.length/\∀(i:Nat) (n:Int),l[i]? =some n->L[i]? =some (.sc (.int .u8 n))
 |[],l,h=>by grind[bytesOf]
 |p::L,l,h=>by
  unfold bytesOf at h;split at h;.grind
  .rename_i n L' a;cases a;simp only[d_]at h;obtain⟨l',h1,rfl⟩:=h;obtain⟨h2,b⟩:=Be h1;grind
  grind
theorem TA(p:Inv c θ D st a w){K:AV->Prop}{s d e:TypeId}{x:Operand}(F:o.op= .convert s d x)(hs:P.underlying s=some (.slice e))(hd:P.underlying d=some .string)(v:P.underlying e=some (.int .u8))(h:jh P st (.Gb (.of x)) K):Yields P o a w (sx c θ st a K):=by
 obtain⟨M,I,hl⟩:=h;obtain⟨L,z,cap,⟨l,r,E⟩,H,hcap,A,b⟩:=lh p.ok (p.get I) hl;obtain⟨j,f⟩:=Be r;refine aL p ?_ E (aW.sc _);have n:(convert s d (a.eval x)).run P w= .ok (.string (strOfNums l)) w:=by
  rw[H];by_cases k:0<L.length
  .obtain⟨g,J,rfl,hg,hsz,hc⟩:=b k;refine run_convert_bytes_arg w s e hs v g J L.length cap l j.symm (λi O=>?_) d hd;have y:i<l.length:=by omega
   obtain⟨u,N,B⟩:=hc i 0 _ _ (f i _ (b_ y)) rfl;cases B;grind
  .have C:L=[]:=k_ (by omega);subst C;simp[bytesOf]at r;subst r;cases z with|none=>exact run_convert_bytes_nil w s e hs v 0 cap d hd|some z=>rw[run_convert_bytes_string w s d e _ _ cap hs v hd];rfl
 simp[execOp,F,n]
theorem MA(n:Inv c θ D st a w)(hd:∀k,o.dst=some k->k<c.n){K KP:St->Prop}{pl:Option Nat}{t:TypeId}{z:Value}(p:o.op= .alloc t)(j:d5 P t=some z) (h:Fv st (.alloc t z.cells.toList) λob mk=>yE st pl/\K ((st.new pl ob).aF o.dst (.b (mk (st.XG pl))))):Leaves P o c K KP a w:=by
 intro next Q hn _;obtain⟨f,h⟩:=h;obtain⟨θ',d,hid⟩:=n.qM f (l:=.dX w.heap.size) (o:=.box t (z.cells.toList.map λv=>bI v)) (λ_ h=>h) λθ' r=>⟨z.cells,fa w _,by simp,Ic z.cells⟩;simp only[d5,e_]at j;obtain⟨s,e,g⟩:=j;have b:(execOp a.eval o).run P w= .ok (.value (.pointer (some ⟨w.heap.size,0,none⟩))) (w.alloc (.cells z.cells t)):=by simp[execOp,p,Instr.alloc,zeroValue,typeInfo,e,g,newVar,newRow]
 unfold Oper.wp;rw[b];exact hn _ _ ⟨_,h,_,_,d.put hd ⟨w.heap.size,hid,rfl⟩⟩
theorem Nk(b:Inv c θ D st a w)(hd:∀k,o.dst=some k->k<c.n){K KP:St->Prop}{t:TypeId}{z:Value}(d:o.op= .alloc t)(e:d5 P t=some z)(h:cN P o.dst (.alloc t z.cells.toList) st K KP):Leaves P o c K KP a w:=MA b hd (pl:=none) d e ⟨trivial,h⟩
theorem V1(e:Inv c θ D st a w)(hd:∀k,o.dst=some k->k<c.n){K KP:St->Prop}{pl:Option Nat}{t:TypeId}{x:Operand}(v:o.op= .box t x) (h:Fv st (.box t (.of x)) λob mk=>yE st pl/\K ((st.new pl ob).aF o.dst (.b (mk (st.XG pl))))):Leaves P o c K KP a w:=by
 intro next Q hn _;obtain⟨p,A,g,j,s⟩:=h;obtain⟨h1,h2⟩:=nM (e.get A) g;obtain⟨θ',f,hid⟩:=e.qM j (l:=.dX w.heap.size) (o:=.box t p.cells) (λ_ h=>h) λθ' n=>⟨(a.eval x).cells,fa w _,h1,λi u y z B=>((h2 i u y z B).1.mono (λ_ h=>h) (λb r=>eK w _ b (e.ok.pn b r))).Ad n⟩;have d:(execOp a.eval o).run P w= .ok (.value (.pointer (some ⟨w.heap.size,0,none⟩))) (w.alloc (.cells (a.eval x).cells t)):=by simp[execOp,v,Instr.box,newVar,newRow]
 unfold Oper.wp;rw[d];exact hn _ _ ⟨_,s,_,_,f.put hd ⟨w.heap.size,hid,rfl⟩⟩
theorem TB(e:Inv c θ D st a w)(hd:∀k,o.dst=some k->k<c.n){K KP:St->Prop}{t:TypeId}{x:Operand}(g:o.op= .box t x)(h:cN P o.dst (.box t (.of x)) st K KP):Leaves P o c K KP a w:=by obtain⟨d,j,b,f⟩:=h;exact V1 e hd (pl:=none) g ⟨d,j,b,trivial,f⟩
theorem LY{sz:Nat}:∀(parts:List (Nat×Value)) (d:List PV) (s:Nat) (a:Array Value),parts.length=d.length->
 (∀(i:Nat) (x:Nat×Value) (p:PV),parts[i]? =some x->d[i]? =some p->x.1=s+i/\aW D w x.2 p/\p.ok=true/\p.cells.length=sz)->(s+parts.length)*sz<=a.size->
 ∃b,Instr.fill (λi=>some (i*sz,sz)) a parts=some b/\b.size=a.size/\(∀k,k<s*sz->b[k]? =a[k]?)/\∀(i j:Nat) (p y:PV),d[i]? =some p->p.cells[j]? =some y->∃u,b[(s+i)*sz+j]? =some u/\aW D w u y
 |[],[],s,a,_,_,_=>⟨a,rfl,rfl,λ_ _=>rfl,λi j p y hp=>by grind⟩
 |(k,v)::parts,p::d,s,a,hl,hp,hs=>by
  obtain⟨h1,h2,e,B⟩:=hp 0 _ _ rfl rfl;obtain rfl:k=s:=h1;obtain⟨C,E⟩:=nN h2 e;have l:v.cells.size=sz:=by grind
  have h:(k+1+parts.length)*sz<=a.size:=by simp only[G_]at hs;grind
  have f:k*sz+sz<=a.size:=by grind
  obtain⟨J,L⟩:=Ik (k*sz) v.cells a (by omega);obtain⟨b,n,r,z,A⟩:=LY parts d (k+1) (v.cells.zipIdx.foldl (λcs (c,j)=>cs.setIfInBounds (k*sz+j) c) a) (by grind) (λi x q H g=>by have:=hp (i+1) x q (by grind) (by grind);exact⟨by omega,this.2⟩) (by grind);refine⟨b,?_,by grind,λj F=>?_,λi j q y g I=>?_⟩;.grind[Instr.fill]
  .grind
  .cases i with|zero=>grind|succ i=>grind
theorem xi(O:Inv c θ D st a w){f:AV->Option PV}(Q:∀v x p,RelA θ D w v x->f x=some p->aW D w v p){t e:TypeId}{len sz:Nat}{parts:Array (Nat×Operand)}{z:Value}{d:List PV}(J:o.op= .buildSlice t len parts)(he:fA P t=some e)(hs:ca P e=some sz)(hz:d5 P e=some z) (h:oM parts.toList=true) (T:z.cells.size=sz) (C:(parts.toList.map λq=>SX.of q.2).mapM (λx=>(st.get x).bind f)=some d) (I:d.length=len) (h0:0<sz) (hmax:len*sz<=16777216) (s:∀p∈d,p.cells.length=sz/\p.ok=true): ∃b:Array Value,(execOp a.eval o).run P w= .ok (.value (.slice (some ⟨w.heap.size,0,none⟩) len len)) (w.alloc (.cells b e))/\b.size=len*sz/\∀(i j:Nat) (p y:PV),d[i]? =some p->p.cells[j]? =some y->∃u,b[i*sz+j]? =some u/\aW D w u y:=by
 obtain⟨m1,U⟩:=mapM_some C;have R:parts.size=d.length:=by grind
 have L:P.underlying t=some (.slice e):=by grind[fA]
 simp only[ca,d_]at hs;obtain⟨l,g,rfl⟩:=hs;have E:l.zero=some z:=by grind[d5]
 have H:∀(i:Nat) (x:Nat×Operand),parts.toList[i]? =some x->x.1=i:=by
  intro i x k;simp only[oM,beq_iff_eq]at h;have h1:(parts.toList.map (·.1))[i]? =some x.1:=by rw[i_,k];rfl
  grind
 obtain⟨b,F,e2,e3,e4⟩:=LY (D:=D) (w:=w) (sz:=l.size) (parts.map fun(i,x)=>(i,a.eval x)).toList d 0 ((Array.range (len*l.size)).map (z.cells[·%z.cells.size]!)) (by grind) (λi x p k hp=>by simp only[az_,i_]at k;cases B:parts.toList[i]? with|none=>grind|some pr=>rw[B]at k;cases k;have:=U i (SX.of pr.2) p (by grind) hp;simp only[e_]at this;obtain⟨Y,h1,h2⟩:=this;obtain⟨M,N⟩:=s p (a_ hp);exact⟨by grind,Q _ _ _ (O.get h1) h2,N,M⟩) (by grind)
 refine⟨b,?_,by grind,λi j p y hp hy=>by grind⟩;have r:¬(16777216<len*l.size):=by omega
 by_cases n:len*l.size=0
 .have:len=0:=by grind[Nat.mul_eq_zero]
  subst this;have A:parts= #[]:=by grind
  subst A;have:b= #[]:=by grind
  subst this;simp[execOp,J,Instr.buildSlice,run_underlying L,sizeOf,typeInfo,g,Instr.fill,newRow,Array.range_zero']
 .simp[execOp,J,Instr.buildSlice,run_underlying L,sizeOf,typeInfo,g,r,n,zeroValue,E,newRow];simp at F;rw[F];simp
theorem Kj(B:Inv c θ D st a w)(hd:∀k,o.dst=some k->k<c.n){K KP:St->Prop}{t e:TypeId}{len sz:Nat}{parts:Array (Nat×Operand)}{z:Value}(J:o.op= .buildSlice t len parts)(I:fA P t=some e)(hs:ca P e=some sz)(N:d5 P e=some z) (v:oM parts.toList=true) (E:z.cells.size=sz) (h:jh P st (.bQ false e sz len (parts.toList.map λq=>SX.of q.2)) λx=>K (st.aF o.dst x)):Leaves P o c K KP a w:=by
 intro next Q hn _;obtain⟨O,C,f,H,hmax,s,r⟩:=h;obtain⟨d,A,h1,h2⟩:=xi B (λ_ _ _=>cX) J I hs N v E C f H hmax s;have n:=B.below (D':=λb=>D b\/(w.heap.size<=b/\b<(w.alloc (.cells d e)).heap.size)) (jI w (.cells d e)) B.Ci (λb l=>.inl l) (λb l=>l);unfold Oper.wp;rw[A];have g:aW (λb=>D b\/(w.heap.size<=b/\b<(w.alloc (.cells d e)).heap.size)) (w.alloc (.cells d e)) (.slice (some ⟨w.heap.size,0,none⟩) len len) (kZ sz O):=by subst f;refine gu (m_ _) λhl=>⟨w.heap.size,0,rfl,.inr ⟨m_ _,by simp⟩,λp hp=>(s p hp).1,λi j x y L M=>?_⟩;obtain⟨u,R,F⟩:=h2 i j x y L M;refine⟨u,?_,F.mono (λb l=>.inl l) (λb l=>eK w _ b (B.ok.pn b l))⟩;rw[q_,cell_of_row _ _ _ d e (0,0) (fa w _)];omega
 rcases r with r|r;.exact hn _ _ ⟨_,r,θ,_,n.put hd g⟩
 .exact hn _ _ ⟨_,r,θ,_,n.put hd ⟨g,_,_,rfl⟩⟩
theorem G5(v:Inv c θ D st a w)(hd:∀k,o.dst=some k->k<c.n){K KP:St->Prop}{t e:TypeId}{len sz:Nat}{parts:Array (Nat×Operand)}{z:Value}(J:o.op= .buildSlice t len parts)(H:fA P t=some e)(hs:ca P e=some sz)(N:d5 P e=some z) (n:oM parts.toList=true) (C:z.cells.size=sz) (h:jh P st (.eE e sz len (parts.toList.map λq=>SX.of q.2)) λx=>K (st.aF o.dst x)):Leaves P o c K KP a w:=by
 intro next Q hn _;obtain⟨O,B,f,F,hmax,l,I⟩:=h;obtain⟨d,s,h1,h2⟩:=xi v (λ_ _ _=>Ff) J H hs N n C B f F hmax l;have A:=v.below (D':=λb=>D b\/(w.heap.size<=b/\b<(w.alloc (.cells d e)).heap.size)) (jI w (.cells d e)) v.Ci (λb g=>.inl g) (λb g=>g);unfold Oper.wp;rw[s];have r:aW (λb=>D b\/(w.heap.size<=b/\b<(w.alloc (.cells d e)).heap.size)) (w.alloc (.cells d e)) (.slice (some ⟨w.heap.size,0,none⟩) len len) (kZ sz O):=by subst f;refine gu (m_ _) λhl=>⟨w.heap.size,0,rfl,.inr ⟨m_ _,by simp⟩,λp hp=>(l p hp).1,λi j x y L M=>?_⟩;obtain⟨u,R,E⟩:=h2 i j x y L M;refine⟨u,?_,E.mono (λb g=>.inl g) (λb g=>eK w _ b (v.ok.pn b g))⟩;rw[q_,cell_of_row _ _ _ d e (0,0) (fa w _)];omega
 exact hn _ _ ⟨_,I,θ,_,A.put hd r⟩
theorem H2(s:Inv c θ D st a w)(hd:∀k,o.dst=some k->k<c.n){K KP:St->Prop}{t e:TypeId}{len sz:Nat}{parts:Array (Nat×Operand)}{z:Value}(O:o.op= .buildSlice t len parts)(M:fA P t=some e)(hs:ca P e=some sz)(U:d5 P e=some z) (n:oM parts.toList=true) (E:z.cells.size=sz) {pl:Option Nat} (h:Fv st (.bQ true e sz len (parts.toList.map λq=>SX.of q.2)) λob mk=>yE st pl/\K ((st.new pl ob).aF o.dst (.b (mk (st.XG pl))))):Leaves P o c K KP a w:=by
 intro next Q hn _;obtain⟨f,C,d,H,hmax,g,B,N⟩:=h;obtain⟨F,r,h1,h2⟩:=xi s (λ_ _ _=>cX) O M hs U n E C d H hmax g;subst d;have A:f.length<=maxLen:=by have:f.length<=f.length*sz:=D_ _ H;grind[maxLen]
 obtain⟨θ',v,hid⟩:=s.qM B (l:=.nw w.heap.size f.length f.length sz none') (o:=.vec e sz f) (λ_ h=>h.elim id False.elim) λθ' Y=>⟨rfl,rfl,m_ _,A,λp hp=>(g p hp).1,F,fa w _,h1,λi j x y R T=>let⟨u,I,J⟩:=h2 i j x y R T;⟨u,I,J.mono (λ_ h=>h) (λb L=>eK w _ b (s.ok.pn b L))⟩⟩;unfold Oper.wp;rw[r];exact hn _ _ ⟨_,N,_,_,v.put hd ⟨_,hid,rfl⟩⟩
theorem G6(n:Inv c θ D st a w)(hd:∀k,o.dst=some k->k<c.n){K KP:St->Prop}{t e:TypeId}{len sz:Nat}{parts:Array (Nat×Operand)}{z:Value}(s:o.op= .buildSlice t len parts)(p:fA P t=some e)(hs:ca P e=some sz)(u:d5 P e=some z) (d:oM parts.toList=true) (j:z.cells.size=sz) (h:cN P o.dst (.bQ true e sz len (parts.toList.map λq=>SX.of q.2)) st K KP):Leaves P o c K KP a w:=by obtain⟨v,g,b,l,hmax,f,r⟩:=h;exact H2 n hd s p hs u d j (pl:=none) ⟨v,g,b,l,hmax,f,trivial,r⟩
end
section
variable {P:Program} {o:Oper} {c:Ctx} {θ:List Loc} {D:Nat->Prop} {st:St} {a:Act} {w:World}
def dB(θ:List Loc)(B:List Nat):List Loc:=B.map λi=>θ.getD i .no
def lO(bor:Bool)(θ:List Loc)(B:List Nat)(D:Nat->Prop)(w:World):Nat->Prop:=if bor then λb=>b<w.heap.size/\¬owns (dB θ B) b else D
def gE(θ:List Loc)(B:List Nat)(θ':List Loc):List Loc:=(θ.mapIdx λi l=>if B.contains i then θ'.getD (B.idxOf i) .no else l)++θ'.drop B.length
theorem nA{B:List Nat}(a:∀i∈B,i<θ.length){k:Nat}{l:Loc}(h:(dB θ B)[k]? =some l):∃i,B[k]? =some i/\θ[i]? =some l:=by unfold dB at h;grind
theorem yf{B:List Nat}{i:Nat}(h:i∈B):B[B.idxOf i]? =some i:=by grind
theorem EF{B:List Nat}{i:Nat}{l:Loc}(a:i∈B)(h:θ[i]? =some l):(dB θ B)[B.idxOf i]? =some l:=by unfold dB;grind
theorem Cu(p:Inv c θ D st a w){bor:Bool}{B:List Nat}{os:List aM}(H:B.Nodup)(I:B.mapM (st.hp[·]?)=some os)(x:∀o∈os,∀i∈o.ids,i∈B): Ok (dB θ B) (lO bor θ B D w) (os.map (aM.eV (B.idxOf ·))) w/\(∀b,D b->lO bor θ B D w b)/\∀i∈B,i<θ.length:=by
 obtain⟨L,M⟩:=mapM_some I;have s:∀i∈B,i<θ.length:=λi v=>by obtain⟨k,n⟩:=p_ v;obtain⟨ob,h⟩:=bC (l:=os) (m:=B) L.symm n;have:=M k i ob n h;rw[p.ok.len];grind
 have d:∀b,D b->lO bor θ B D w b:=λb u=>by
  unfold lO;cases bor;.grind
  .refine⟨p.ok.pn b u,fun⟨k,l,n,hl⟩=>?_⟩;obtain⟨i,_,v⟩:=nA s n;exact(p.ok.mX i l b v hl).2 u
 refine⟨⟨by simp[dB,L],λb u=>?_,λi j li Q g v N y z=>?_,λk l g n hg=>?_,λk l ob n h=>?_⟩,d,s⟩
 .unfold lO at u;cases bor;.exact p.ok.pn b u
  grind
 .obtain⟨i',e,f⟩:=nA s v;obtain⟨O,A,C⟩:=nA s N;have:=p.ok.inj i' O li Q g f C y z;subst this;exact((ay_ (c_.1 e).1 H).1 (e.trans A.symm))
 .obtain⟨i,e,f⟩:=nA s n;obtain⟨h1,h2⟩:=p.ok.mX i l g f hg;refine⟨h1,λhd=>?_⟩;unfold lO at hd;cases bor;.grind
  .exact hd.2 ⟨k,l,n,hg⟩
 .obtain⟨i,e,f⟩:=nA s n;rw[i_]at h;cases r:os[k]? with|none=>grind|some J=>rw[r]at h;cases h;have h1:=M k i J e r;refine((p.ok.fO i l J f h1).eV λP l' E F=>EF (x J (a_ r) P E) F).mono d (λ_ _=>rfl) (λ_ _=>rfl)
theorem sV{B:List Nat}{θ':List Loc}(e:∀i∈B,i<θ.length)(d:B.length<=θ'.length){i:Nat}{l:Loc}(h:(gE θ B θ')[i]? =some l):(i<θ.length/\i∉B/\θ[i]? =some l)\/(∃k,θ'[k]? =some l/\i=gW B θ.length k/\((k<B.length/\B[k]? =some i)\/(B.length<=k/\θ.length<=i))):=by
 unfold gE at h;rcases y_ i θ.length with c|c
 .rw[j_ (by grind),List.getElem?_mapIdx,b_ c]at h;simp only[ab_,B_]at h;by_cases b:i∈B
  .rw[if_pos (by grind)]at h;have a:=ad_ b;refine .inr ⟨B.idxOf i,?_,?_,.inl ⟨a,yf b⟩⟩;.grind
   .simp only[gW,if_pos a,Q_,yf b,U_]
  grind
 .rw[r_ (by grind)]at h;simp only[ax_,aw_]at h;refine .inr ⟨B.length+(i - θ.length),h,?_,.inr ⟨by simp,c⟩⟩;simp only[gW];grind
theorem Db{B:List Nat}{θ':List Loc}(b:∀i∈B,i<θ.length)(a:B.Nodup){k:Nat}{l:Loc}(h:θ'[k]? =some l):(gE θ B θ')[gW B θ.length k]? =some l:=by unfold gE gW;grind
theorem Sp{B:List Nat}{θ':List Loc}{k:Nat}{l:Loc}(a:k∉B)(h:θ[k]? =some l):(gE θ B θ')[k]? =some l:=by unfold gE;grind
theorem Og{B:List Nat}{hp os:List aM}(b:∀i∈B,i<hp.length){i:Nat}{o:aM}(h:(j6 B hp os)[i]? =some o):(i<hp.length/\i∉B/\∃a,hp[i]? =some a/\o=a.cE B)\/(∃k,o=(os.getD k .gone).eV (gW B hp.length)/\((k<B.length/\B[k]? =some i)\/(B.length<=k/\i=hp.length+(k - B.length)/\k<os.length))):=by unfold j6 at h;grind
theorem Ln(f:Inv c θ D st a w){bor:Bool}{B:List Nat}{os:List aM}(M:B.Nodup)(CT:B.mapM (st.hp[·]?)=some os)(At:∀o∈os,∀i∈o.ids,i∈B) {θ':List Loc} {D':Nat->Prop} {s:List aM} {w':World} (A:Ok θ' D' s w') (d:m6 (owns (dB θ B)) w w') (hD:∀b,lO bor θ B D w b->D' b) (wr:∀b,D' b->lO bor θ B D w b\/owns (dB θ B) b\/w.heap.size<=b) (U:∀(i:Nat) (l:Loc) (g:Nat),θ'[i]? =some l->l.has g->owns (dB θ B) g\/w.heap.size<=g) (gc:∀(k:Nat) (l:Loc),(dB θ B)[k]? =some l->l.fixed=true->θ'[k]? =some l) (ph:(dB θ B).length<=θ'.length) (Q:bor=true->∀o∈s,o.rW): Inv c (gE θ B θ') (λb=>D b\/(D' b/\(owns (dB θ B) b\/w.heap.size<=b))) (st.back B s) a w':=by
 obtain⟨Dg,DB,O⟩:=Cu (bor:=bor) f M CT At;have E:B.length<=θ'.length:=by simpa[dB]using ph
 have p:∀g,owns (dB θ B) g->∃(i:Nat) (l:Loc),i∈B/\θ[i]? =some l/\l.has g:=λg ⟨k,l,r,hg⟩=>by obtain⟨i,DE,DH⟩:=nA O r;grind
 have T:∀(i:Nat) (l:Loc) (g:Nat),i∉B->θ[i]? =some l->l.has g->¬owns (dB θ B) g:=λi l g H hl hg ho=>by obtain⟨j,P,hj,Bk,Bx⟩:=p g ho;exact H (f.ok.inj i j l P g hl Bk hg Bx▸hj)
 have el:∀b,D b->w'.heap[b]? =w.heap[b]? :=λb n=>d.block b (f.ok.pn b n) λho=>by obtain⟨i,l,_,h1,h2⟩:=p b ho;exact(f.ok.mX i l b h1 h2).2 n
 have k1:∀(k:Nat) (l:Loc),k∉B->θ[k]? =some l->(gE θ B θ')[k]? =some l:=λk l r h=>Sp r h;have k2:∀(k:Nat) (l:Loc),l.fixed=true->θ[k]? =some l->(gE θ B θ')[k]? =some l:=λk l u h=>by
  by_cases r:k∈B
  .have Y:=gc _ l (EF r h) u;have h4:=Db (θ:=θ) O M Y;have:gW B θ.length (B.idxOf k)=k:=by simp only[gW,if_pos (ad_ r),Q_,yf r,U_]
   grind
  grind
 have DA:∀{v:Value} {x:aM} {l:Loc},True->True:=λ_=>trivial;have R:bor=false->∀b,D' b->D b\/(D' b/\(owns (dB θ B) b\/w.heap.size<=b)):=λn b h=>by
  rcases wr b h with h1|h1|h1;.subst n;exact .inl h1
  all_goals grind
 have L:θ.length=st.hp.length:=f.ok.len;refine⟨f.size,f.defers,⟨?_,λb n=>?_,λi j li P g H hj I J=>?_,λi l g H hg=>?_,λi l ob H CD=>?_⟩,?_,λb n=>.inl (f.lG b n),λb n=>?_,λi l g H hg=>?_,λk x r=>?_,λk l r u=>k2 k l u (f.fix k l r u)⟩;.have:=A.len;simp only[gE,St.back,j6,W_,ax_,List.length_drop,aE_];omega
 .rcases n with n|⟨n,_⟩;.exact s_ (f.ok.pn b n) d.size
  .exact A.pn b n
 .rcases sV O E H with⟨C,N,F⟩|⟨k,C,N,_⟩<;>rcases sV O E hj with⟨b1,b2,b3⟩|⟨m,b1,b2,_⟩;.exact f.ok.inj i j li P g F b3 I J
  .rcases U m P g b1 J with h1|h1;.grind
   .have:=(f.ok.mX i li g F I).1;omega
  .rcases U k li g C I with h1|h1;.grind
   .have:=(f.ok.mX j P g b3 J).1;omega
  .rw[N,b2,A.inj k m li P g C b1 I J]
 .rcases sV O E H with⟨C,N,F⟩|⟨k,C,_,_⟩;.obtain⟨h1,h2⟩:=f.ok.mX i l g F hg;refine⟨s_ h1 d.size,λhd=>?_⟩;grind
  .obtain⟨h1,h2⟩:=A.mX k l g C hg;grind
 .have ur:∀i∈B,i<st.hp.length:=λi H=>by grind
  rcases sV O E H with⟨C,N,F⟩|⟨k,C,N,a4⟩<;>rcases Og ur CD with⟨b1,b2,o0,b3,rfl⟩|⟨m,rfl,b4⟩;.exact((f.ok.fO i l o0 F b3).cE k1 k2).mono (λb n=>.inl n) el λg hg=>d.block g (f.ok.mX i l g F hg).1 (T i l g N F hg)
  .grind
  .grind
  .have BT:k=m:=by
    rcases a4 with⟨c1,c2⟩|⟨c1,c2⟩<;>rcases b4 with⟨d1,d2⟩|⟨d1,d2,d3⟩;.exact(ay_ c1 M).1 (c2.trans d2.symm)
    .grind
    .grind
    .rw[N]at d2;simp only[gW]at d2;grind
   subst BT;have DM:k<s.length:=by rw[<-A.len];grind
   have rg:s[k]? =some (s.getD k .gone):=by grind
   rw[<-L];have hr:=(A.fO k l _ C rg).eV (θ2:=gE θ B θ') (ρ:=gW B θ.length) λk' l' _ h=>Db O M h;cases bor;.exact hr.mono (R rfl) (λ_ _=>rfl) (λ_ _=>rfl)
   .have u:=Q rfl _ (a_ rg);refine cJ.zbv ?_ hr;cases z:s.getD k .gone with
    |box t cs=>rw[z]at u;intro x hx;simp only[X_]at hx;obtain⟨y,hy,rfl⟩:=hx;have:=u y hy;cases y<;>exact this
    |gone=>trivial|free=>trivial|vec e sz xs=>rw[z]at u;exact u|tree e sz k xs hole=>rw[z]at u;refine⟨λi j b n=>?_,u.2⟩;cases hole with|none=>cases n|some q=>obtain⟨i',j',b'⟩:=q;cases n;have:=u.1 _ _ _ rfl;cases b'<;>exact this
    |map k e kvs=>rw[z]at u;exact u
 .refine⟨d.os.trans f.keep.os,d.tape.trans f.keep.tape,d.output.trans f.keep.output,E_ f.keep.size d.size,λk r hn=>(d.block k (s_ r f.keep.size) λho=>?_).trans (f.keep.block k r hn)⟩;obtain⟨i,l,_,h1,h2⟩:=p k ho;rcases f.jY i l k h1 h2 with Y|Y;all_goals grind
 .have h0:=f.Ci;rcases n with n|⟨_,n|n⟩;.exact f.ng b n
  .obtain⟨i,l,_,h1,h2⟩:=p b n;exact .inr (f.jY i l b h1 h2)
  omega
 .have h0:=f.Ci;rcases sV O E H with⟨C,N,F⟩|⟨k,C,_,_⟩;.exact f.jY i l g F hg
  .rcases U k l g C hg with h1|h1;.obtain⟨j,P,_,h2,Y⟩:=p g h1;exact f.jY j P g h2 Y
   omega
 .simp only[St.back,lQ]at r;cases qr:look st.fr k with|none=>grind|some y=>rw[qr]at r;cases r;exact((f.fr k y qr).cE k1 k2).mono (λb n=>.inl n) el
theorem Pj(j:Inv c θ D st a w){bor:Bool}{B:List Nat}{v:Value}{x y:AV}(k:RelA θ D w v x)(h:m7 st.hp bor B x=some y)(g:∀b,b<w.heap.size->bor=true->(∃(id:Nat) (l:Loc),id∉B/\θ[id]? =some l/\l.has b)->lO bor θ B D w b)(f:∀b,D b->lO bor θ B D w b): RelA θ (lO bor θ B D w) w v y:=by
 have d:RelA θ (lO bor θ B D w) w v x:=k.mono f (λ_ _=>rfl);unfold m7 at h;split at h
 .rename_i id;split at h;.grind
  .rename_i s;simp only[d_]at h;obtain⟨p,hp,rfl⟩:=h;exact Ie j f (λn e l r hl b hg=>g b (j.ok.mX e l b hl hg).1 n ⟨e,l,by
    have:e=id:=by simpa[AV.ids,BV.ids]using r
    grind,hl,hg⟩) k hp
 .rename_i xs;split at h;.simp only[d_]at h;obtain⟨p,hp,rfl⟩:=h;exact cX d hp
  grind
 .cases h;exact d.1
 .cases h;cases d;exact aW.nil none 0
 grind
theorem Bf(L:Inv c θ D st a w)(hd:∀k,o.dst=some k->k<c.n){K KP:St->Prop}{bor:Bool}{B:List Nat}{f:FuncId}{ars:List AV}{os:List aM}{vs:List Value} (Y:(execOp a.eval o).run P w= .ok (.enter f vs.toArray) w) (At:vs.length=ars.length) (wr:∀(i:Nat) (v:Value) (x:AV),vs[i]? =some v->ars[i]? =some x->RelA θ (lO bor θ B D w) w v x) (I:B.mapM (st.hp[·]?)=some os) (h:cN.callK P st o.dst bor B f ars os K KP):Leaves P o c K KP a w:=by
 intro next Q hn hp;obtain⟨u,gc,E,C⟩:=h;obtain⟨j,el,hB⟩:=Cu (bor:=bor) L u I E;unfold Oper.wp;rw[Y];simp only[Oper.upon];have s:=L.ok.len;refine(C w (dB θ B) (lO bor θ B D w) vs ((c.gk w L.keep).mono (m6.refl (λ_=>False) w) (λ_ _ h=>h) (λb A=>el b (L.lG b A))) j (by grind) λi v x hv p=>?_).mono λe w' A=>?_;.rw[i_]at p;cases J:ars[i]? with|none=>grind|some y=>rw[J]at p;cases p;exact(wr i v y hv J).eV λk l R hl=>EF (gc y (a_ J) k R) hl
 .rcases A with⟨v,r,Bk,θ',D',rfl,⟨n,R⟩,hv,rg,d,hD,M,ur,N,T⟩|⟨ch,ph,rfl,R,d⟩
  .have z:=Ln (bor:=bor) L u I E rg d hD M ur N T (λA=>(n A).2);refine hn _ _ ⟨_,R,_,_,z.put hd ?_⟩;have hr:=hv.eV (θ2:=gE θ B θ') (ρ:=gW B θ.length) λk' l' _ h=>Db hB u h;rw[<-s];cases bor
   .refine hr.mono (λb h=>?_) (λ_ _=>rfl);rcases M b h with h1|h1|h1;.exact .inl h1
    all_goals grind
   .have hf:=(n rfl).1;refine RelA.ZH ?_ hr;have F:∀(ρ:Nat->Nat) (x:BV),x.sR->(x.eV ρ).sR:=λρ x p=>by cases x<;>exact p
    cases r with
    |b x=>exact F _ x hf|agg xs=>intro x p;simp only[X_]at p;obtain⟨y,hy,rfl⟩:=p;exact F _ y (hf y hy)
    |dP xs=>intro x p;simp only[X_]at p;obtain⟨y,hy,rfl⟩:=p;exact F _ y (hf y hy)
  .have U:Ok (dB θ B) (lO bor θ B D w) (os.map λ_=>aM.gone) w':=by refine⟨by have:=j.len;grind,λb A=>s_ (j.pn b A) d.size,j.inj,λi l g O hg=>⟨s_ (j.mX i l g O hg).1 d.size,(j.mX i l g O hg).2⟩,λi l ob O H=>?_⟩;rw[i_]at H;cases qr:os[i]? with|none=>grind|some o0=>rw[qr]at H;cases H;cases l<;>trivial
   have z:=Ln (bor:=bor) L u I E U d (λb h=>h) (λb h=>.inl h) (λi l g O hg=>.inl ⟨i,l,O,hg⟩) (λk l h _=>h) (m_ _) (λ_ o ho=>by simp only[X_]at ho;obtain⟨_,_,rfl⟩:=ho;trivial)
   exact hp ch w' ⟨ph,_,R,_,_,z⟩
theorem Lk(e:Inv c θ D st a w){bor:Bool}{B:List Nat}{os:List aM}(r:B.Nodup)(s:B.mapM (st.hp[·]?)=some os)(h:∀o∈os,∀i∈o.ids,i∈B){xs:List Operand}{ars:List AV} (g:(xs.map SX.of).mapM (λx=>(st.get x).bind (m7 st.hp bor B))=some ars):(xs.map a.eval).length=ars.length/\∀(i:Nat) (v:Value) (x:AV),(xs.map a.eval)[i]? =some v->ars[i]? =some x->RelA θ (lO bor θ B D w) w v x:=by obtain⟨A,f,H⟩:=Cu (bor:=bor) e r s h;obtain⟨O,M⟩:=mapM_some g;refine⟨by grind,λi v x u L=>?_⟩;rw[i_]at u;cases z:xs[i]? with|none=>grind|some y=>rw[z]at u;cases u;have:=M i (SX.of y) x (by grind) L;simp only[e_]at this;obtain⟨N,h1,h2⟩:=this;refine Pj e (e.get h1) h2 (λb I d ⟨id,l,C,E,F⟩=>?_) f;subst d;refine⟨I,fun⟨k,lk,J,hl⟩=>?_⟩;obtain⟨j,n,p⟩:=nA H J;exact C (e.ok.inj id j l lk b E p F hl▸a_ n)
theorem Nm(j:Inv c θ D st a w)(hd:∀k,o.dst=some k->k<c.n){K KP:St->Prop}{bor:Bool}{B:List Nat}{f:FuncId}{cl:Call}(n:o.op= .call cl)(e:cl.callee= .value (.func f))(l:eI P f=true) (h:cN P o.dst (.gF bor B f (cl.args.toList.map SX.of)) st K KP):Leaves P o c K KP a w:=by obtain⟨ars,d,os,b,g⟩:=h;obtain⟨h1,h2⟩:=Lk j g.1 b g.2.2.1 d;exact Bf j hd (Nf n e l) h1 h2 b g
theorem No(r:Inv c θ D st a w)(hd:∀k,o.dst=some k->k<c.n){K KP:St->Prop}{bor:Bool}{B:List Nat}{t:Tmp}{cl:Call}(M:o.op= .call cl)(y:cl.callee= .value (.tmp t)) (h:cN P o.dst (.fz bor B (.tm t) (cl.args.toList.map SX.of)) st K KP):Leaves P o c K KP a w:=by
 obtain⟨Q,O,f,caps,d,J,ars,u,os,e,n⟩:=h;obtain⟨h1,h2⟩:=Lk r n.1 e n.2.2.1 u;obtain⟨C,s,T⟩:=Cu (bor:=bor) r n.1 e n.2.2.1;have z:=r.get (x:=.tmp t) O;have key:∃cs:Array Value,a.eval (.tmp t)= .func (.func f) #[] cs/\cs.toList.length=caps.length/\∀(i:Nat) (v:Value) (x:AV),cs.toList[i]? =some v->caps[i]? =some x->RelA θ (lO bor θ B D w) w v x:=by
  rcases d with⟨ids,rfl,rfl⟩|⟨E,rfl,rfl⟩;.obtain⟨I,R,F,H⟩:=z;refine⟨_,H,by grind,λi v x j b=>?_⟩;simp only[i_]at j b;cases A:ids[i]? with|none=>grind|some id=>rw[A]at b;cases b;cases hg:I[i]? with|none=>grind|some g=>rw[hg]at j;cases j;exact⟨g,F i id g A hg,rfl⟩
  .have l:aW D w (a.eval (.tmp t)) (.fn (.func f) E):=z;generalize a.eval (.tmp t)=v at l;cases l with|fn _ vs _ hs L=>refine⟨vs,rfl,by grind,λi v x j b=>?_⟩;rw[i_]at b;cases hp:E[i]? with|none=>grind|some p=>rw[hp]at b;cases b;exact(L i v p (by grind) hp).mono s (λ_ _=>rfl)
 obtain⟨cs,j,hl,hr⟩:=key;refine Bf r hd (Ih M y j J) (by grind) (λi v x N b=>?_) e n;grind
end
section
variable {P:Program} {o:Oper} {c:Ctx} {θ:List Loc} {D:Nat->Prop} {st:St} {a:Act} {w:World}
theorem jC(a:Array Value)(off:Nat)(vs:List Value)(h:off+vs.length<=a.size):((a.toList.take off++vs++a.toList.drop (off+vs.length)).toArray).size=a.size/\∀k,((a.toList.take off++vs++a.toList.drop (off+vs.length)).toArray)[k]? =if off<=k/\k<off+vs.length then vs[k - off]? else a[k]? :=by refine⟨by grind,λk=>?_⟩;grind
theorem o7{t:TypeId}{sz g off:Nat}{e:TypeId}{a:Array Value}{v:Value}(hs:ca P t=some sz)(c:v.cells.size=sz)(hg:w.heap[g]? =some (.cells a e (0,0)))(b:off+sz<=a.size)(h1:∀u∈v.cells.toList,u.oneCell'=true):(Instr.storeAt t (.pointer (some ⟨g,off,none⟩)) v).run P w= .ok () (w.setRow g (a.toList.take off++v.cells.toList++a.toList.drop (off+v.cells.toList.length)).toArray):=by have:=run_storeCells_at P g off e v.cells.toList 0 a w hg (by grind) h1;simp[Instr.storeAt,Instr.sureAddr,storeVar,run_sizeOf hs,c,this]
theorem NC(I:Inv c θ D st a w){id g n cap s':Nat}{O:Nat->Prop}{e:TypeId}{s:Nat}{k:Av.K}{xs f:List PV}{hole d:Option (Nat×Nat×BV)}(hg:θ[id]? =some (.nw g n cap s' O))(N:st.hp[id]? =some (.tree e s k xs hole)) {r z:Array Value} (p:w.heap[g]? =some (.cells r e (0,0))) (hsz:z.size=r.size) (A:f.length=xs.length) (L:∀x∈f,x.cells.length=s) (M:∀i j b,d=some (i,j,b)->i<f.length/\(k.at j).isSome=true) (B:∀(i j:Nat) (x y:PV),f[i]? =some x->x.cells[j]? =some y->(∃u,z[i*s+j]? =some u/\(match dM d i j with|some b=>RelB θ D w u b|none=>k.at j=none/\aW D w u y))\/(z[i*s+j]? =r[i*s+j]?/\∃x0,xs[i]? =some x0/\x0.cells[j]? =some y/\dM d i j=dM hole i j)): Inv c θ D {st with hp:=st.hp.set id (.tree e s k f d)} a (w.setRow g z):=by
 obtain⟨rfl,rfl,h3,h4,h5,cv,Os,P,h7,Q,h9,Y,H⟩:=I.ok.fO id _ _ hg N;rw[p]at P;cases P;have l:∀b,D b->(w.setRow g z).heap[b]? =w.heap[b]? :=λb J=>setRow_other _ _ _ _ λe=>(I.ok.mX id _ g hg (.inl rfl)).2 (e▸J);refine I.store hg (.inl rfl) (by simp) (by simp) (by simp) (by simp) (λk hk=>setRow_other _ _ _ _ hk) ⟨rfl,A.symm,h3,h4,L,z,Os,setRow_heap _ _ _ _ _ _ p,hsz.trans h7,Q,h9,M,λi j x y hx hy=>?_⟩;rcases B i j x y hx hy with⟨u,F,v⟩|⟨F,x0,v,R,T⟩;.refine⟨u,F,?_⟩;cases C:dM d i j with|some b=>rw[C]at v;exact v.mono (λ_ h=>h) l|none=>rw[C]at v;rw[v.1];exact .flat _ _ _ (v.2.mono (λ_ h=>h) l)
 .obtain⟨u,U,E⟩:=H i j x0 y v R;refine⟨u,F.trans U,?_⟩;rw[T];cases C:dM hole i j with|some b=>rw[C]at E;exact E.mono (λ_ h=>h) l|none=>rw[C]at E;exact E.mono (λ_ h=>h) l λb J=>setRow_other _ _ _ _ (Q i j b J).2
theorem W6{i i' s j off sz:Nat}(h:i'≠i)(c:j<s)(b:off+sz<=s):¬(i*s+off<=i'*s+j/\i'*s+j<i*s+off+sz):=by
 rcases y_ i' i with a|a;.have:(i'+1)*s<=i*s:=f_ _ a;grind
 .have:(i+1)*s<=i'*s:=f_ _ (by omega);grind
theorem TM(U:Inv c θ D st a w){K:St->Prop}{t:TypeId}{y:Operand}{sz:Nat}{vx:Value}{R:AV}(hs:ca P t=some sz)(Y:RelA θ D w (a.eval y) R){id i off:Nat}{e:TypeId}{s:Nat}{k:Av.K}{xs:List PV}{hole:Option (Nat×Nat×BV)}(hX:RelA θ D w vx (.b (.i6 id i off))) (C:st.hp[id]? =some (.tree e s k xs hole)) (hi:i<xs.length) (H:off+sz<=s) (A:(k.mh off sz=true/\(xs.getD i .any).isAgg=true/\aS R.bG λp=>p.cells.length=sz/\p.ok=true/\K {st with hp:=st.hp.set id (.tree e s k (xs.set i (.agg (splice (xs.getD i .any).cells off p.cells))) hole)})\/(∃bv f,hole=some (i,off,bv)/\sz=1/\R= .b f/\f.dh=true/\K {st with hp:=st.hp.set id (.tree e s k xs (some (i,off,f)))})): ∃w' L,(Instr.storeAt t vx (a.eval y)).run P w= .ok () w'/\K L/\i8 c L a w':=by
 obtain⟨g,n,cap,s',O,hg,he⟩:=hX;obtain⟨rfl,rfl,h3,h4,h5,r,Os,M,h7,h8,h9,T,wr⟩:=U.ok.fO id _ _ hg C;obtain⟨F,I⟩:∃F,xs[i]? =some F:=⟨_,b_ hi⟩;have el:xs.getD i .any=F:=mE I;have Bx:F.cells.length=s':=h5 _ (a_ I);have ur:i*s'+s'<=r.size:=by
  rw[h7];have:i+1<=cap:=by omega
  have:=f_ s' this;grind
 rcases A with⟨hf,gc,p,hp,rg,E,N⟩|⟨bv,f,rfl,rfl,rfl,E,N⟩
 .obtain⟨q1,q2⟩:=nN (cX Y hp) E;have hv:(a.eval y).cells.size=sz:=by omega
  have hr:=o7 (P:=P) (w:=w) (off:=i*s'+off) hs hv M (by omega) (λu hu=>by grind[p_])
  rw[<-he]at hr;obtain⟨s1,Q⟩:=jC r (i*s'+off) (a.eval y).cells.toList (by grind);rw[el]at N gc;refine⟨_,_,hr,N,θ,D,NC U hg C M s1 (by simp) (λx l=>?_) (λi' j b hb=>by grind) λi' j x z l J=>?_⟩
  .rcases aj_ l with h|h;.grind
   .subst h;show(splice _ _ _).length=_;grind[lB]
  .by_cases d:i'=i
   .subst d;rw[O_ hi]at l;cases l;rw[show(PV.agg (splice F.cells off p.cells)).cells=splice F.cells off p.cells from rfl,nS _ _ _ (by omega)]at J;split at J
    .rename_i hj;have At:j - off<(a.eval y).cells.size:=by omega
     have Bk:k.at j=none:=by have:=LZ hf (j:=j - off) (by omega);rwa [show off+(j - off)=j by omega]at this
     refine .inl ⟨(a.eval y).cells[j - off],?_,?_⟩;.rw[Q,if_pos ⟨by omega,by grind⟩,show i'*s'+j - (i'*s'+off)=j - off by omega];simp
     .cases hq:dM hole i' j with|some b=>have:=(T _ _ _ (oK hq)).2;grind|none=>grind
    grind
   .rw[A_ (Ne.symm d)]at l;refine .inr ⟨?_,x,l,J,rfl⟩;have B:j<s':=by grind
    rw[Q,if_neg (by simp only[ac_,hv];exact W6 d B H)]
 .have qr:(a.eval y).oneCell'=true:=tV Y E;have ph:(a.eval y).cells= #[a.eval y]:=cells_one qr;have hr:=o7 (P:=P) (w:=w) (v:=a.eval y) (off:=i*s'+off) hs (by grind) M (by omega) (λu hu=>by grind)
  rw[<-he]at hr;obtain⟨s1,Q⟩:=jC r (i*s'+off) (a.eval y).cells.toList (by grind);refine⟨_,_,hr,N,θ,D,NC U hg C M s1 rfl h5 (λi' j b hb=>by grind) λi' j x z l J=>?_⟩;have B:j<s':=by grind
  by_cases d:i'=i/\j=off
  .obtain⟨rfl,rfl⟩:=d;refine .inl ⟨a.eval y,?_,?_⟩;.grind
   .simp only[dM,and_self,if_true];exact Y
  .refine .inr ⟨?_,x,l,J,?_⟩
   .rw[Q,if_neg ?_];rw[ph];simp only[G_,x_];by_cases h:i'=i;.grind
    .exact W6 h B H
   grind[dM]
theorem Nu(B:Inv c θ D st a w)(hd:o.dst=none){K KP:St->Prop}{t:TypeId}{x y:Operand}{sz:Nat}(ho:o.op= .store t x y)(hs:ca P t=some sz)(h:cN P o.dst (.store sz (.of x) (.of y)) st K KP):Leaves P o c K KP a w:=by
 intro next Q hn _;obtain⟨ax,hx,ay,hy,_,E⟩:=h;have hX:=B.get hx;have hY:=B.get hy;have fin:∀(w':World) (F:St),(Instr.storeAt t (a.eval x) (a.eval y)).run P w= .ok () w'->K F->i8 c F a w'->o.wp P a w next Q:=by
  intro w' F hr v wr;unfold Oper.wp;have:(execOp a.eval o).run P w= .ok .skip w':=by simp[execOp,ho,hr]
  grind[Oper.upon,Act.put]
 unfold AT at E;split at E
 .rename_i id off;obtain⟨ob,C,e,cs,rfl,Y,I,J,v⟩:=E;obtain⟨g,hg,he⟩:=hX;obtain⟨d,h1,h2,h3⟩:=B.ok.fO id _ _ hg C;obtain⟨h4,h5⟩:=nM hY J;have hv:(a.eval y).cells.size=sz:=by omega
  have hr:=o7 (P:=P) (w:=w) (off:=off) hs hv h1 (by omega) (λu L=>by
   obtain⟨i,T⟩:=p_ L;have qr:i<ay.cells.length:=by grind
   exact(h5 i u _ (by grind) (b_ qr)).2)
  rw[<-he]at hr;obtain⟨s1,s2⟩:=jC d off (a.eval y).cells.toList (by grind);refine fin _ _ hr v ⟨θ,D,B.store (l:=.dX g) (g:=g) hg rfl (by simp) (by simp) (by simp) (by simp) (λk v=>setRow_other _ _ _ _ v) ⟨_,setRow_heap _ _ _ _ _ _ h1,?_,?_⟩⟩;.grind[lB]
  .intro i u z L hz;rw[s2 i]at L;rw[nS cs off ay.cells (by omega)]at hz;simp only[ac_]at L;have r:∀b,D b->(w.setRow g (d.toList.take off++(a.eval y).cells.toList++d.toList.drop (off+(a.eval y).cells.toList.length)).toArray).heap[b]? =w.heap[b]? :=λb hb=>setRow_other _ _ _ _ λe=>(B.ok.mX id _ g hg (by first|exact rfl|exact .inl rfl)).2 (e▸hb)
   split at L;.rw[if_pos (by omega)]at hz;exact((h5 _ u z (by grind) hz).1).mono (λ_ h=>h) r
   .rw[if_neg (by omega)]at hz;exact(h3 i u z L hz).mono (λ_ h=>h) r
 .rename_i id i off;obtain⟨ob,C,⟨e,s,xs,rfl,T,p,hp,Y,J,f⟩|⟨e,s,k,xs,hole,rfl,T,I,f⟩⟩:=E
  rotate_left
  .obtain⟨w',F,h1,h2,h3⟩:=TM (K:=K) B hs hY hX C T I f;grind
  obtain⟨g,n,cap,s',O,hg,he⟩:=hX;obtain⟨rfl,rfl,h3,h4,h5,d,h6,h7,h8⟩:=B.ok.fO id _ _ hg C;obtain⟨q1,q2⟩:=nN (cX hY hp) J;have hv:(a.eval y).cells.size=sz:=by omega
  obtain⟨N,M⟩:∃N,xs[i]? =some N:=⟨_,b_ T⟩;have el:xs.getD i .any=N:=mE M;have BT:N.cells.length=s':=h5 _ (a_ M);have ur:off+sz<=s':=by omega
  have At:i*s'+s'<=d.size:=by
   rw[h7];have:i+1<=cap:=by omega
   have:=f_ s' this;grind
  have hr:=o7 (P:=P) (w:=w) (off:=i*s'+off) hs hv h6 (by omega) (λu L=>by grind[p_])
  rw[<-he]at hr;obtain⟨s1,s2⟩:=jC d (i*s'+off) (a.eval y).cells.toList (by grind);have r:∀b,D b->(w.setRow g (d.toList.take (i*s'+off)++(a.eval y).cells.toList++d.toList.drop (i*s'+off+(a.eval y).cells.toList.length)).toArray).heap[b]? =w.heap[b]? :=λb hb=>setRow_other _ _ _ _ λe=>(B.ok.mX id _ g hg (by first|exact rfl|exact .inl rfl)).2 (e▸hb)
  have H:∀(p':PV),p'.cells=splice N.cells off p.cells->Inv c θ D {st with hp:=st.hp.set id (.vec e s' (xs.set i p'))} a (w.setRow g (d.toList.take (i*s'+off)++(a.eval y).cells.toList++d.toList.drop (i*s'+off+(a.eval y).cells.toList.length)).toArray):=by
   intro p' rg;refine B.store hg (.inl rfl) (by simp) (by simp) (by simp) (by simp) (λk v=>setRow_other _ _ _ _ v) ⟨rfl,by simp,h3,h4,λq hq=>?_,_,setRow_heap _ _ _ _ _ _ h6,by omega,λk j q y' hq A=>?_⟩;.grind[aj_,lB]
   .by_cases U:k=i
    .subst U;rw[O_ T]at hq;cases hq;rw[rg,nS _ _ _ (by omega)]at A;split at A
     .rename_i hj;have ph:j - off<(a.eval y).cells.size:=by omega
      refine⟨(a.eval y).cells[j - off],?_,((q2 (j - off) _ y' (g_ ph) A).1).mono (λ_ h=>h) r⟩;rw[s2,if_pos ⟨by omega,by grind⟩,show k*s'+j - (k*s'+off)=j - off by omega];simp
     .rename_i hj;obtain⟨u,e1,e2⟩:=h8 k j N y' M A;have gc:j<s':=by grind
      refine⟨u,?_,e2.mono (λ_ h=>h) r⟩;grind
    .rw[A_ (Ne.symm U)]at hq;obtain⟨u,e1,e2⟩:=h8 k j q y' hq A;have gc:j<s':=by grind
     refine⟨u,?_,e2.mono (λ_ h=>h) r⟩;rw[s2,if_neg ?_];.omega
     .simp only[ac_,hv];intro⟨h9,Bk⟩;rcases y_ k i with R|R;.have:(k+1)*s'<=i*s':=f_ _ R;grind
      .have:(i+1)*s'<=k*s':=f_ _ (by omega);grind
  rcases f with⟨rfl,rfl,v⟩|⟨Bx,I,v⟩;.refine fin _ _ hr v ⟨θ,D,H p ?_⟩;grind[splice,List.drop_eq_nil_of_le]
  .rw[el]at v;exact fin _ _ hr v ⟨θ,D,H _ rfl⟩
 grind
theorem TP(k:Av.K)(p:PV)(j:Nat):(k.gO p).cells[j]? =(p.cells[j]?).map λx=>if(k.at j).isSome then PV.list 0 []else x:=by
 have one:∀p:PV,p.cells=[p]->(if(k.at 0).isSome then PV.list 0 []else p).cells[j]? =(p.cells[j]?).map λx=>if(k.at j).isSome then PV.list 0 []else x:=by
  intro p hp;rw[hp];cases j with
  |zero=>
   split;.rfl
   grind
  |succ j=>
   split;.rfl
   grind
 cases p with|agg cs=>simp[Av.K.gO,PV.cells]|_=>exact one _ rfl
theorem AX(k:Av.K)(p:PV):(k.gO p).cells.length=p.cells.length:=by cases p with|agg cs=>simp[Av.K.gO,PV.cells]|_=>simp only[Av.K.gO];split<;>rfl
theorem MC{k:Av.K}{p:PV}(hn:k.yt p.cells=true){O:Nat->Prop}{j:Nat}{c:PV}(b:(k.gO p).cells[j]? =some c):∃y,p.cells[j]? =some y/\∀(D:Nat->Prop) (w:World) (u:Value),aW D w u y->kK D w (k.at j) O u c:=by
 rw[TP]at b;obtain⟨y,h1,rfl⟩:=d_.1 b;refine⟨y,h1,λD w u a=>?_⟩;simp only[Av.K.yt,n_,H_]at hn;have:=hn j (c_.1 h1).1;cases d:k.at j with
 |none=>exact .flat _ _ _ a|some q=>
  rw[d]at this;simp only[Q_,h1,U_]at this;split at this;.cases a;exact .nil _ _ _
  grind
theorem H3(A:Inv c θ D st a w)(hd:∀k,o.dst=some k->k<c.n){K KP:St->Prop}{t e:TypeId}{sz bytes:Nat}{z:Value}{l m:Operand}(ho:o.op= .makeSlice t l m)(he:fA P t=some e)(hs:ca P e=some sz)(hb:iq P e=some bytes)(hz:d5 P e=some z) {pl:Option Nat} (h:Fv st (.cU e sz bytes z (.of l) (.of m)) λob mk=>yE st pl/\K ((st.new pl ob).aF o.dst (.b (mk (st.XG pl))))):Leaves P o c K KP a w:=by
 intro next Q hn _;obtain⟨al,hl,am,hm,hv⟩:=h;have h1:=c9 (A.get hl) hv;have h2:=c9 (A.get hm) h1;obtain⟨kl,v,M,kc,g,L,h0,I,C,gc,U,hsz,pz,d,N,s,hk⟩:=h2;have hu:P.underlying t=some (.slice e):=by grind[fA]
 simp only[ca,d_]at hs;obtain⟨f,F,rfl⟩:=hs;have T:f.zero=some z:=by grind[d5]
 have el:f.bytes=bytes:=by grind[iq]
 have u:=run_make (P:=P) w t e f z hu F T kl kc v g h0 I (by grind) C;have Y:aW D w z pz:=cX (rJ (θ:=θ) z) d;obtain⟨c1,c2⟩:=nN Y N;have qr:z.cells.size=f.size:=by
  rw[c1,<-U];cases B:fT z with
  |b x=>
   rw[B]at d;cases x<;>simp[AV.bG,BV.bG]at d;.grind[AV.cells]
   .subst d;rfl
   .exfalso;unfold fT at B;grind[bI]
  |dP xs=>exfalso;unfold fT at B;grind|agg xs=>rw[B]at d;simp only[AV.bG,d_]at d;obtain⟨ps,O,rfl⟩:=d;exact(mapM_some O).1.symm
 have ph:pz.cells.length=f.size:=by omega
 have hcap:g.toNat<=maxLen:=by grind[maxLen]
 obtain⟨θ',E,hid⟩:=A.qM s (l:=.nw w.heap.size v.toNat g.toNat f.size none') (o:=.vec e f.size (Y_ v.toNat pz)) (ob:=.cells (madeCells z.cells (g.toNat*f.size)) e) (λ_ h=>h.elim id False.elim) λθ' rg=>
  ⟨rfl,by simp,by omega,hcap,λp hp=>by grind,_,fa w _,size_madeCells _ _,λi j x y hx hy=>by
   have R:=al_ (a_ hx);have hi:i<v.toNat:=by grind
   subst R;have hj:j<f.size:=by grind
   have H:j<z.cells.size:=by omega
   refine⟨z.cells[j],?_,((c2 j _ y (g_ H) hy).1).mono (λ_ h=>h) (λb hb=>eK w _ b (A.ok.pn b hb))⟩;have J:i*f.size+j<g.toNat*f.size:=by have:(i+1)*f.size<=g.toNat*f.size:=f_ _ (by omega);grind
   have r:(i*f.size+j)%z.cells.size=j:=by grind[T_,aH_,aB_]
   simp only[madeCells,ae_,aq_,if_pos J,ab_,r];grind⟩
 have n:(execOp a.eval o).run P w= .ok (.value (.slice (some ⟨w.heap.size,0,none⟩) v.toNat g.toNat)) (w.alloc (.cells (madeCells z.cells (g.toNat*f.size)) e)):=by simp[execOp,ho,M,L,u]
 unfold Oper.wp;rw[n];exact hn _ _ ⟨_,hk,_,_,E.put hd ⟨_,hid,rfl⟩⟩
theorem G7(A:Inv c θ D st a w)(hd:∀k,o.dst=some k->k<c.n){K KP:St->Prop}{t e:TypeId}{sz bytes:Nat}{z:Value}{l m:Operand}(ho:o.op= .makeSlice t l m)(he:fA P t=some e)(hs:ca P e=some sz)(hb:iq P e=some bytes)(hz:d5 P e=some z) {k:Av.K} (h:cN P o.dst (.d6 k e sz bytes z (.of l) (.of m)) st K KP):Leaves P o c K KP a w:=by
 intro next Q hn _;obtain⟨al,hl,am,hm,hv⟩:=h;have h1:=c9 (A.get hl) hv;have h2:=c9 (A.get hm) h1;obtain⟨kl,v,M,kc,g,L,h0,I,C,rg,gc,hsz,pz,d,N,s,hk⟩:=h2;have hu:P.underlying t=some (.slice e):=by grind[fA]
 simp only[ca,d_]at hs;obtain⟨f,F,rfl⟩:=hs;have el:f.zero=some z:=by grind[d5]
 have qr:f.bytes=bytes:=by grind[iq]
 have u:=run_make (P:=P) w t e f z hu F el kl kc v g h0 I (by grind) C;have ph:aW D w z pz:=Ff (rJ (θ:=θ) z) d;obtain⟨c1,c2⟩:=nN ph N;have wr:z.cells.size=f.size:=by
  rw[c1,<-gc];cases B:fT z with
  |b x=>
   rw[B]at d;simp only[AV.lW]at d;cases x<;>simp[BV.lW,BV.bG]at d;.grind[AV.cells]
   .subst d;rfl
   .exfalso;unfold fT at B;grind[bI]
  |dP xs=>exfalso;unfold fT at B;grind|agg xs=>rw[B]at d;simp only[AV.lW,d_]at d;obtain⟨ps,R,rfl⟩:=d;exact(mapM_some R).1.symm
 have ur:pz.cells.length=f.size:=by omega
 have hcap:g.toNat<=maxLen:=by grind[maxLen]
 obtain⟨θ',E,hid⟩:=A.qM (pl:=none) trivial (l:=.nw w.heap.size v.toNat g.toNat f.size none') (o:=.tree e f.size k (Y_ v.toNat (k.gO pz)) none) (ob:=.cells (madeCells z.cells (g.toNat*f.size)) e) (λ_ h=>h.elim id False.elim) λθ' At=>
  ⟨rfl,by simp,by omega,hcap,λp hp=>by grind[AX],_,λ_ _ _=>False,fa w _,size_madeCells _ _,λ_ _ _ h=>h.elim,λ_ _ _ _ _ h _=>h.elim,λ_ _ _ h=>(nomatch h),λi j x y hx hy=>by
   have T:=al_ (a_ hx);have hi:i<v.toNat:=by grind
   subst T;have hj:j<f.size:=by grind[AX,c_]
   have H:j<z.cells.size:=by omega
   obtain⟨y0,U,Y⟩:=MC s (O:=λ_=>False) hy;refine⟨z.cells[j],?_,Y _ _ _ (((c2 j _ y0 (g_ H) U).1).mono (λ_ h=>h) (λb hb=>eK w _ b (A.ok.pn b hb)))⟩;have J:i*f.size+j<g.toNat*f.size:=by have:(i+1)*f.size<=g.toNat*f.size:=f_ _ (by omega);grind
   have r:(i*f.size+j)%z.cells.size=j:=by grind[T_,aH_,aB_]
   simp only[madeCells,ae_,aq_,if_pos J,ab_,r];grind⟩
 have n:(execOp a.eval o).run P w= .ok (.value (.slice (some ⟨w.heap.size,0,none⟩) v.toNat g.toNat)) (w.alloc (.cells (madeCells z.cells (g.toNat*f.size)) e)):=by simp[execOp,ho,M,L,u]
 unfold Oper.wp;rw[n];exact hn _ _ ⟨_,hk,_,_,E.put hd ⟨_,hid,rfl⟩⟩
theorem Kl(x:Inv c θ D st a w)(hd:∀k,o.dst=some k->k<c.n){K KP:St->Prop}{t e:TypeId}{sz bytes:Nat}{z:Value}{l m:Operand}(E:o.op= .makeSlice t l m)(A:fA P t=some e)(hs:ca P e=some sz)(y:iq P e=some bytes)(F:d5 P e=some z) (h:cN P o.dst (.cU e sz bytes z (.of l) (.of m)) st K KP):Leaves P o c K KP a w:=by obtain⟨al,hl,g,C,l1,h1,J,h2,H,L,j,I,M,n,p,r,s,u,v,b,N,d,f,B⟩:=h;exact H3 x hd E A hs y F (pl:=none) ⟨al,hl,g,C,l1,h1,J,h2,H,L,j,I,M,n,p,r,s,u,v,b,N,d,f,trivial,B⟩
end
section
variable {P:Program} {o:Oper} {c:Ctx} {θ:List Loc} {D:Nat->Prop} {st:St} {a:Act} {w:World}
theorem dK{t ty e:TypeId}{i:TypeInfo}(ht:P.underlying t=some (.slice e))(d:P.info? e=some i)(a:Option Addr)(n cap:Nat)(c:n<=cap)(b:Option Addr)(m:Nat):(Builtin.append_ #[t,t] ty #[.slice a n cap,.slice b 0 m]).run P w= .ok (.slice a n cap) w:=by
 have h1:(Builtin.firstCells i.size 0 (.slice b 0 m)).run P w= .ok #[] w:=by cases b<;>simp[Builtin.firstCells,loadCells,loadCellsFrom]
 cases a<;>simp[Builtin.append_,run_underlying ht,sizeOf,typeInfo,d,Builtin.lenOf,c,h1,storeCells]
theorem f7(z:Array Value)(n:Nat):(Builtin.zeroCells z n).size=n*z.size:=by simp[Builtin.zeroCells]
theorem eX{t ty e:TypeId}{i:TypeInfo}{z:Value}(ht:P.underlying t=some (.slice e))(l:P.info? e=some i)(p:i.zero=some z)(b:Option Addr) (f:Addr) (n c:Nat) (a:List Value) (hl:a.length=n*i.size) (d:∀j v,a[j]? =some v->w.cell? (f.add j)=some v) (r:0<n) (k:(n:Int)<=9223372036854775807) (h:n*i.bytes<=140737488355328):(Builtin.append_ #[t,t] ty #[.slice b 0 0,.slice (some f) n c]).run P w= .ok (.slice (some ⟨w.heap.size,0,none⟩) n (grownCap w n 0 e)) (w.drew.alloc (.cells (a.toArray++Builtin.zeroCells z.cells (grownCap w n 0 e - n)) e)):=by cases b with|none=>grind[run_append_nil]|some g=>have hr:=run_append_grow w t ty e i z ht l p g 0 0 [] (by simp) (λj u s=>by grind) f n c a hl d (by omega) (by omega) (growslice_fits (by omega) (by grind));grind
theorem Ki(J:Inv c θ D st a w)(hd:∀k,o.dst=some k->k<c.n){K KP:St->Prop}{t e:TypeId}{sz bytes:Nat}{z:Value}{x y:Operand}{cl:Call}(ho:o.op= .call cl)(KK:cl.callee= .builtin .append)(BT:cl.args= #[x,y])(Fk:cl.argTypes= #[t,t]) (he:fA P t=some e) (hs:ca P e=some sz) (hb:iq P e=some bytes) (hz:d5 P e=some z) (Fr:z.cells.size=sz) (h0:0<sz) (Hx:0<bytes) (h:cN P o.dst (.append e sz bytes (.of x) (.of y)) st K KP):Leaves P o c K KP a w:=by
 intro next Q hn _;obtain⟨ax,hx,ay,hy,hL⟩:=h;have hX:=J.get hx;obtain⟨L,ad,m,⟨Pb,CD⟩,ph,RT,PJ,wr⟩:=lh J.ok (J.get hy) hL;have hu:P.underlying t=some (.slice e):=by unfold fA at he;split at he;all_goals grind
 simp only[ca,d_]at hs;obtain⟨f,N,rfl⟩:=hs;have DB:f.zero=some z:=by grind[d5]
 have JT:f.bytes=bytes:=by grind[iq]
 subst JT;have fin:∀(v:Value) (w':World) (At:St),(Builtin.append_ #[t,t] o.type #[a.eval x,a.eval y]).run P w= .ok v w'->K At->i8 c At (a.put o.dst v) w'->o.wp P a w next Q:=by
  intro v w' At hr R DS;unfold Oper.wp;have:(execOp a.eval o).run P w= .ok (.value v) w':=by simp[execOp,ho,resolve,KK,BT,Fk,invoke,builtin,hr]
  rw[this];exact hn _ _ ⟨At,R,DS⟩
 have ur:0<L.length->∃(ab:Addr) (d:List Value),ad=some ab/\d.length=L.length*f.size/\(∀(j:Nat) (u:Value),d[j]? =some u->w.cell? (ab.add j)=some u)/\(∀u∈d,u.oneCell'=true)/\(∀p∈L,p.cells.length=f.size)/\∀(i j:Nat) (p q:PV),L[i]? =some p->p.cells[j]? =some q->∃u,d[i*f.size+j]? =some u/\aW D w u q:=by
  intro hl
  obtain⟨g,og,rfl,hg,hsz,hc⟩:=wr hl
  obtain⟨d,n1,n2⟩:=gp (n:=L.length*f.size) (p:=λk u=>w.cell? ⟨g,og+k,none⟩=some u/\u.oneCell'=true/\∀(p q:PV),L[k/f.size]? =some p->p.cells[k%f.size]? =some q->aW D w u q) (λk R=>by
   have hi:k/f.size<L.length:=(C_ h0).2 R;have C:k%f.size<f.size:=ah_ _ h0;have hp:=b_ hi;have SW:=hsz _ (a_ hp);have U:=b_ (l:=(L[k/f.size]).cells) (i:=k%f.size) (by omega);obtain⟨u,e1,e2⟩:=hc _ _ _ _ hp U;refine⟨u,?_,?_,λp q SM Th=>?_⟩;.rw[<-e1,V_,T_,P_]
   .have Bk:=Pb _ (a_ hp);simp only[PV.ok,n_]at Bk;exact iC e2 (Bk _ (a_ U))
   grind)
  refine⟨_,d,rfl,n1,λj u C=>by rw[addr_add];exact(n2 j u C).1,λu hu=>?_,hsz,λi j p q hp U=>?_⟩
  .obtain⟨j,C⟩:=p_ hu;exact(n2 j u C).2.1
  .have C:j<f.size:=by rw[<-hsz p (a_ hp)];exact(c_.1 U).1
   have hi:i<L.length:=(c_.1 hp).1;have DQ:i*f.size+j<d.length:=by rw[n1];have:(i+1)*f.size<=L.length*f.size:=f_ _ hi;rw[w_,ak_]at this;omega
   grind
 have F:∀(w':World) (r d:List Value) (xs:List PV) (cv:Array Value) (k:Nat),(∀b,D b->w'.heap[b]? =w.heap[b]?)->r.length=xs.length*f.size->cv.size=k*f.size->(∀j,j<r.length->cv[j]? =r[j]?)->(∀j,j<d.length->cv[r.length+j]? =d[j]?)->(∀p∈xs,p.cells.length=f.size)->(∀p∈L,p.cells.length=f.size)->d.length=L.length*f.size->(∀(i j:Nat) (p q:PV),xs[i]? =some p->p.cells[j]? =some q->∃u,r[i*f.size+j]? =some u/\aW D w u q)->(∀(i j:Nat) (p q:PV),L[i]? =some p->p.cells[j]? =some q->∃u,d[i*f.size+j]? =some u/\aW D w u q)->∀(i j:Nat) (p q:PV),(xs++L)[i]? =some p->p.cells[j]? =some q->∃u,cv[i*f.size+j]? =some u/\aW D w' u q:=by
  intro w' r d xs cv k H T RM Nd MT DA RK So ro rn i j p q hp U
  rcases y_ i xs.length with hi|hi
  .rw[j_ hi]at hp;obtain⟨u,e1,e2⟩:=ro i j p q hp U;exact⟨u,by rw[Nd _ (c_.1 e1).1];omega,e2.mono (λ_ h=>h) H⟩
  .rw[r_ hi]at hp;obtain⟨u,e1,e2⟩:=rn _ j p q hp U;refine⟨u,?_,e2.mono (λ_ h=>h) H⟩;have:=MT _ (c_.1 e1).1;rw[e1]at this;rw[<-this,T];congr 1;have:i*f.size=xs.length*f.size+(i - xs.length)*f.size:=by rw[<-w_];congr 1;omega
   omega
 have el:∀(xs:List PV) (k:Nat),(xs.length+L.length)*f.bytes<=k->xs.length+L.length<=k:=λxs k h=>E_ (D_ _ Hx) h;rcases CD with⟨id,rfl,ob,Pa,xs,rfl,qr,R⟩|⟨PA,qr,R⟩
 .obtain⟨l,hl,hh⟩:=hX;have E:=J.ok.fO id l _ hl Pa;have DE:=el xs _ qr;have DQ:id<θ.length:=(c_.1 hl).1;have I:∀(l':Loc),(θ.set id l')[id]? =some l':=λl'=>O_ DQ;by_cases M:L.length=0
  .have Bx:L=[]:=k_ M;subst Bx;have gc:Inv c (θ.set id l) D (st.fD id (.vec e f.size (xs++[]))) a w:=by
    refine J.move hl (λg hg=>?_) (λg hg=>?_) rfl rfl rfl (m_ _) (λ_ _ _=>rfl) (λg hg=>⟨(J.ok.mX id l g hl hg).1,.inl hg⟩) ?_;.subst hg;exact E.elim
    .subst hg;exact E.elim
    .rw[an_];have Pc:θ.set id l=θ:=by
      apply S_;intro i;by_cases DM:i=id;.subst DM;rw[I];exact hl.symm
      .rw[A_ (Ne.symm DM)]
     rw[Pc];omega
   cases l<;>simp only[cJ,Loc.head]at E hh;.rename_i A;refine fin (.slice A 0 0) w _ ?_ R ⟨_,D,gc.put hd ⟨.nil A,I _,rfl⟩⟩;rw[hh,ph];exact dK hu N A 0 0 (m_ _) ad m
   .rename_i g n cap s O;obtain⟨rfl,rfl,h3,_⟩:=E;refine fin _ w _ ?_ R ⟨_,D,gc.put hd ⟨_,I _,rfl⟩⟩;rw[hh,ph];exact dK hu N _ _ cap h3 ad m
  .obtain⟨ab,d,rfl,n1,n2,n3,n4,n5⟩:=ur (o_ M);have grow:∀(old:Nat) (r:List Value) (v:Value),r.length=xs.length*f.size->(∀p∈xs,p.cells.length=f.size)->(∀(i j:Nat) (p q:PV),xs[i]? =some p->p.cells[j]? =some q->∃u,r[i*f.size+j]? =some u/\aW D w u q)->(Builtin.append_ #[t,t] o.type #[v,.slice (some ab) L.length m]).run P w= .ok (.slice (some ⟨w.heap.size,0,none⟩) (xs.length+L.length) (grownCap w (xs.length+L.length) old e)) (w.drew.alloc (.cells (r.toArray++d.toArray++Builtin.zeroCells z.cells (grownCap w (xs.length+L.length) old e - (xs.length+L.length))) e))->a.eval x=v->o.wp P a w next Q:=by
    intro old r v T DA ro Rg hv
    have Dg:=grownCap_ge w (xs.length+L.length) old e
    have CT:grownCap w (xs.length+L.length) old e<=maxLen:=grownCap_le_maxLen w _ old e (by simp only[maxLen];omega)
    have hcs:(r.toArray++d.toArray++Builtin.zeroCells z.cells (grownCap w (xs.length+L.length) old e - (xs.length+L.length))).size=grownCap w (xs.length+L.length) old e*f.size:=by simp only[L_,M_,f7,Fr,T,n1,<-w_];congr 1;omega
    have H:∀b,D b->(w.drew.alloc (.cells (r.toArray++d.toArray++Builtin.zeroCells z.cells (grownCap w (xs.length+L.length) old e - (xs.length+L.length))) e)).heap[b]? =w.heap[b]? :=λb hb=>eK w.drew _ b (J.ok.pn b hb)
    have gc:=J.move (l':=.nw w.heap.size (xs.length+L.length) (grownCap w (xs.length+L.length) old e) f.size none') (o':=.vec e f.size (xs++L)) (w':=w.drew.alloc (.cells (r.toArray++d.toArray++Builtin.zeroCells z.cells (grownCap w (xs.length+L.length) old e - (xs.length+L.length))) e)) hl (λg hg=>by subst hg;exact E.elim) (λg hg=>by subst hg;exact E.elim) rfl rfl rfl (by simp) (λk R _=>eK w.drew _ k R) (λg hg=>by rcases hg with rfl|hg;exact⟨by simp,.inr (m_ _)⟩;exact hg.elim) ⟨rfl,by simp,Dg,CT,λp hp=>(K_.1 hp).elim (DA p) (n4 p),_,fa w.drew _,hcs,F _ r d xs _ _ H T hcs (λj C=>by rw[l_ (by simp;omega),l_ (by omega)];simp) (λj C=>by rw[l_ (by simp;omega),R_ (by simp)];simp) DA n4 n1 ro n5⟩
    refine fin _ _ _ ?_ R ⟨_,D,gc.put hd ⟨_,I _,rfl⟩⟩
    rw[hv,ph]
    omega
   cases l<;>simp only[cJ,Loc.head]at E hh;.rename_i A;subst E;have hr:=eX (P:=P) (w:=w) (ty:=o.type) hu N DB A ab L.length m d n1 n2 (o_ M) (by omega) (by simp only[x_,q_]at qr;omega);grind
   .rename_i g n cap s O;obtain⟨rfl,rfl,h3,h4,h5,B,h6,h7,h8⟩:=E;by_cases Y:xs.length+L.length<=cap
    .have DP:xs.length*f.size+d.length<=B.size:=by rw[n1,h7,<-w_];exact f_ _ Y
     have hr:=run_append_room (P:=P) w t o.type e f hu N g xs.length cap B h6 ab L.length m d n1 n2 n3 Y DP;obtain⟨s1,s2⟩:=jC B (xs.length*f.size) d DP;have H:∀b,D b->(w.setRow g (B.toList.take (xs.length*f.size)++d++B.toList.drop (xs.length*f.size+d.length)).toArray).heap[b]? =w.heap[b]? :=λb hb=>setRow_other _ _ _ _ λe=>(J.ok.mX id _ g hl (.inl rfl)).2 (e▸hb);have rg:(B.toList.take (xs.length*f.size)).length=xs.length*f.size:=by simp;omega
     have gc:=J.move (l':=.nw g (xs.length+L.length) cap f.size O) (o':=.vec e f.size (xs++L)) (w':=w.setRow g (B.toList.take (xs.length*f.size)++d++B.toList.drop (xs.length*f.size+d.length)).toArray) hl (λg hg=>by cases hg) (λg hg=>by cases hg) rfl rfl rfl (by simp) (λk _ R=>setRow_other _ _ _ _ λe=>R (by rw[e];exact .inl rfl)) (λg' DH=>⟨by simp;exact(J.ok.mX id _ g' hl DH).1,.inl DH⟩)
      ⟨rfl,by simp,Y,h4,λp hp=>(K_.1 hp).elim (h5 p) (n4 p),_,setRow_heap _ _ _ _ _ _ h6,by omega,
       F _ (B.toList.take (xs.length*f.size)) d xs _ cap H rg (by omega) (λj C=>by
        rw[rg]at C;rw[s2,if_neg (by omega),z_,if_pos C,t_]) (λj C=>by
        rw[s2,rg,if_pos ⟨by simp,by omega⟩];simp) h5 n4 n1 (λi j p q hp U=>by
        obtain⟨u,e1,e2⟩:=h8 i j p q hp U;refine⟨u,?_,e2⟩;have C:j<f.size:=by rw[<-h5 p (a_ hp)];exact(c_.1 U).1
        have hi:i<xs.length:=(c_.1 hp).1;have:(i+1)*f.size<=xs.length*f.size:=f_ _ hi;grind) n5⟩
     refine fin _ _ _ ?_ R ⟨_,D,gc.put hd ⟨_,I _,rfl⟩⟩;rw[hh,ph];omega
    .have PB:xs.length*f.size<=B.size:=by rw[h7];exact f_ _ h3
     have T:(B.toList.take (xs.length*f.size)).length=xs.length*f.size:=by simp;omega
     have hr:=run_append_grow (P:=P) w t o.type e f z hu N DB ⟨g,0,none⟩ xs.length cap (B.toList.take (xs.length*f.size)) T (λj u C=>by
      rw[addr_add,q_,cell_of_row w g j B e (0,0) h6];rw[z_]at C;split at C;.simpa using C
      .cases C) ab L.length m d n1 n2 (by omega) (by omega) (growslice_fits (by omega) qr)
     refine grow cap _ _ T h5 (λi j p q hp U=>?_) hr hh;obtain⟨u,e1,e2⟩:=h8 i j p q hp U;refine⟨u,?_,e2⟩;have C:j<f.size:=by rw[<-h5 p (a_ hp)];exact(c_.1 U).1
     have hi:i<xs.length:=(c_.1 hp).1;have:(i+1)*f.size<=xs.length*f.size:=f_ _ hi;rw[w_,ak_]at this;rw[z_,if_pos (by omega),t_];omega
 .obtain⟨A,Fm⟩:∃A,a.eval x= .slice A 0 0:=by
   rcases PA with rfl|rfl;.exact⟨none,hX⟩
   .obtain⟨h1,a0,n0,h2⟩:=hX;refine⟨a0,?_⟩;rw[h2]at h1⊢;cases h1;rfl
  have DE:=el [] _ (by simpa using qr);simp only[x_,q_]at DE;by_cases M:L.length=0;.have Bx:L=[]:=k_ M;subst Bx;have hp:Inv c (θ++[.nil A]) D {st with hp:=st.hp++[.vec e f.size []]} a w:=J.push rfl (λg hg=>by cases hg);refine fin (.slice A 0 0) w _ ?_ R ⟨_,D,hp.put hd ⟨.nil A,by rw[<-J.ok.len];simp,rfl⟩⟩;rw[Fm,ph];exact dK hu N A 0 0 (m_ _) ad m
  .obtain⟨ab,d,rfl,n1,n2,n3,n4,n5⟩:=ur (o_ M);have hr:=eX (P:=P) (w:=w) (ty:=o.type) hu N DB A ab L.length m d n1 n2 (o_ M) (by omega) (by omega);have Dg:=grownCap_ge w L.length 0 e;have CT:grownCap w L.length 0 e<=maxLen:=grownCap_le_maxLen w _ 0 e (by simp only[maxLen];omega);have hcs:(d.toArray++Builtin.zeroCells z.cells (grownCap w L.length 0 e - L.length)).size=grownCap w L.length 0 e*f.size:=by simp only[L_,M_,f7,Fr,n1,<-w_];congr 1;omega
   have H:∀b,D b->(w.drew.alloc (.cells (d.toArray++Builtin.zeroCells z.cells (grownCap w L.length 0 e - L.length)) e)).heap[b]? =w.heap[b]? :=λb hb=>eK w.drew _ b (J.ok.pn b hb);have GS:=J.drew.K9 (l:=.nw w.heap.size L.length (grownCap w L.length 0 e) f.size none') (o:=.vec e f.size L) (ob:=.cells (d.toArray++Builtin.zeroCells z.cells (grownCap w L.length 0 e - L.length)) e) (λ_ h=>h.elim (λh=>h) False.elim) λθ' Vc=>⟨rfl,rfl,Dg,CT,n4,_,fa w.drew _,hcs,λi j p q hp U=>by have:=F _ [] d [] _ _ H (by simp) hcs (λj C=>by simp at C) (λj C=>by simp only[x_,q_];rw[l_ (by omega)];simp) (λp hp=>by cases hp) n4 n1 (λi j p q hp=>by simp at hp) n5 i j p q (by simpa using hp) U;omega⟩
   refine fin _ _ _ ?_ R ⟨_,D,GS.put hd ⟨.nw w.heap.size L.length (grownCap w L.length 0 e) f.size none',by rw[<-J.ok.len];simp,rfl⟩⟩;rw[Fm,ph];omega
theorem Pz(J:Inv c θ D st a w)(hd:∀k,o.dst=some k->k<c.n){K KP:St->Prop}{t e:TypeId}{sz bytes:Nat}{z:Value}{x y:Operand}{cl:Call}(ho:o.op= .call cl)(PJ:cl.callee= .builtin .append)(DA:cl.args= #[x,y])(KK:cl.argTypes= #[t,t]) (he:fA P t=some e) (hs:ca P e=some sz) (M:iq P e=some bytes) (hz:d5 P e=some z) (Nd:z.cells.size=sz) (h0:0<sz) (PA:0<bytes) {k:Av.K} (h:cN P o.dst (.pj k e sz bytes (.of x) (.of y)) st K KP):Leaves P o c K KP a w:=by
 intro next Q hn _;obtain⟨ax,hx,ay,hy,hL⟩:=h;have hX:=J.get hx;obtain⟨L,ad,m,⟨CD,DB⟩,qr,n8,WD,Bk⟩:=lh J.ok (J.get hy) hL;have RT:∀p∈L,p.ok=true:=λp hp=>(CD p hp).1;have hu:P.underlying t=some (.slice e):=by unfold fA at he;split at he;all_goals grind
 simp only[ca,d_]at hs;obtain⟨f,R,rfl⟩:=hs;have DM:f.zero=some z:=by grind[d5]
 have PB:f.bytes=bytes:=by grind[iq]
 subst PB;have fin:∀(v:Value) (w':World) (Bx:St),(Builtin.append_ #[t,t] o.type #[a.eval x,a.eval y]).run P w= .ok v w'->K Bx->i8 c Bx (a.put o.dst v) w'->o.wp P a w next Q:=by
  intro v w' Bx hr T JT;unfold Oper.wp;have:(execOp a.eval o).run P w= .ok (.value v) w':=by simp[execOp,ho,resolve,PJ,DA,KK,invoke,builtin,hr]
  rw[this];exact hn _ _ ⟨Bx,T,JT⟩
 have At:0<L.length->∃(ab:Addr) (d:List Value),ad=some ab/\d.length=L.length*f.size/\(∀(j:Nat) (u:Value),d[j]? =some u->w.cell? (ab.add j)=some u)/\(∀u∈d,u.oneCell'=true)/\(∀p∈L,p.cells.length=f.size)/\∀(i j:Nat) (p q:PV),L[i]? =some p->p.cells[j]? =some q->∃u,d[i*f.size+j]? =some u/\aW D w u q:=by
  intro hl
  obtain⟨g,og,rfl,hg,hsz,hc⟩:=Bk hl
  obtain⟨d,n1,n2⟩:=gp (n:=L.length*f.size) (p:=λk u=>w.cell? ⟨g,og+k,none⟩=some u/\u.oneCell'=true/\∀(p q:PV),L[k/f.size]? =some p->p.cells[k%f.size]? =some q->aW D w u q) (λk T=>by
   have hi:k/f.size<L.length:=(C_ h0).2 T;have C:k%f.size<f.size:=ah_ _ h0;have hp:=b_ hi;have L7:=hsz _ (a_ hp);have H:=b_ (l:=(L[k/f.size]).cells) (i:=k%f.size) (by omega);obtain⟨u,e1,e2⟩:=hc _ _ _ _ hp H;refine⟨u,?_,?_,λp q Fr Hx=>?_⟩;.rw[<-e1,V_,T_,P_]
   .have BT:=RT _ (a_ hp);simp only[PV.ok,n_]at BT;exact iC e2 (BT _ (a_ H))
   .rw[hp]at Fr;cases Fr;rw[H]at Hx;cases Hx;omega)
  refine⟨_,d,rfl,n1,λj u C=>by rw[addr_add];exact(n2 j u C).1,λu hu=>?_,hsz,λi j p q hp H=>?_⟩
  .obtain⟨j,C⟩:=p_ hu;exact(n2 j u C).2.1
  .have C:j<f.size:=by rw[<-hsz p (a_ hp)];exact(c_.1 H).1
   have hi:i<L.length:=(c_.1 hp).1;have Fm:i*f.size+j<d.length:=by rw[n1];have:(i+1)*f.size<=L.length*f.size:=f_ _ hi;rw[w_,ak_]at this;omega
   grind
 have Pb:(L.map k.gO).length=L.length:=by simp
 have Dg:(∀p∈L,p.cells.length=f.size)->∀p∈L.map k.gO,p.cells.length=f.size:=λh p hp=>by obtain⟨q,H,rfl⟩:=X_.1 hp;rw[AX];exact h q H
 have F:∀(w':World) (r d:List Value) (xs:List PV) (cv:Array Value) (cap:Nat) (Os:Nat->Nat->Nat->Prop),(∀b,D b->w'.heap[b]? =w.heap[b]?)->(∀i j b,Os i j b->w'.heap[b]? =w.heap[b]?)->r.length=xs.length*f.size->cv.size=cap*f.size->(∀j,j<r.length->cv[j]? =r[j]?)->(∀j,j<d.length->cv[r.length+j]? =d[j]?)->d.length=L.length*f.size->(∀(i j:Nat) (p q:PV),xs[i]? =some p->p.cells[j]? =some q->∃u,r[i*f.size+j]? =some u/\kK D w (k.at j) (Os i j) u q)->(∀(i j:Nat) (p q:PV),L[i]? =some p->p.cells[j]? =some q->∃u,d[i*f.size+j]? =some u/\aW D w u q)->∀(i j:Nat) (p q:PV),(xs++L.map k.gO)[i]? =some p->p.cells[j]? =some q->∃u,cv[i*f.size+j]? =some u/\kK D w' (k.at j) (Os i j) u q:=by
  intro w' r d xs cv cap Os I Pc U n7 RK Rg n9 ro rn i j p q hp H
  rcases y_ i xs.length with hi|hi
  .rw[j_ hi]at hp;obtain⟨u,e1,e2⟩:=ro i j p q hp H;exact⟨u,by rw[RK _ (c_.1 e1).1];omega,e2.mono (λ_ h=>h) I λb M=>Pc i j b M⟩
  .rw[r_ hi,i_]at hp;obtain⟨p0,GS,rfl⟩:=d_.1 hp;obtain⟨q0,So,SM⟩:=MC (CD p0 (a_ GS)).2 (O:=Os i j) H;obtain⟨u,e1,e2⟩:=rn _ j p0 q0 GS So;refine⟨u,?_,SM _ _ _ (e2.mono (λ_ h=>h) I)⟩;have:=Rg _ (c_.1 e1).1;rw[e1]at this;rw[<-this,U];congr 1;have:i*f.size=xs.length*f.size+(i - xs.length)*f.size:=by rw[<-w_];congr 1;omega
   omega
 have gc:∀(xs:List PV) (k:Nat),(xs.length+L.length)*f.bytes<=k->xs.length+L.length<=k:=λxs k h=>E_ (D_ _ PA) h;rcases DB with⟨id,rfl,ob,RM,xs,rfl,ur,T⟩|⟨Vc,ur,T⟩
 .obtain⟨l,hl,hh⟩:=hX;have E:=J.ok.fO id l _ hl RM;have DP:=gc xs _ ur;have Fm:id<θ.length:=(c_.1 hl).1;have el:∀(l':Loc),(θ.set id l')[id]? =some l':=λl'=>O_ Fm;by_cases N:L.length=0
  .have CT:L=[]:=k_ N;subst CT;have ph:Inv c (θ.set id l) D (st.fD id (.tree e f.size k (xs++([]:List PV).map k.gO) none)) a w:=by
    refine J.move hl (λg hg=>?_) (λg hg=>?_) rfl rfl rfl (m_ _) (λ_ _ _=>rfl) (λg hg=>⟨(J.ok.mX id l g hl hg).1,.inl hg⟩) ?_;.subst hg;exact E.elim
    .subst hg;exact E.elim
    .rw[List.map_nil,an_];have SW:θ.set id l=θ:=by apply S_;grind
     rw[SW];omega
   cases l<;>simp only[cJ,Loc.head]at E hh;.rename_i A;refine fin (.slice A 0 0) w _ ?_ T ⟨_,D,ph.put hd ⟨.nil A,el _,rfl⟩⟩;rw[hh,qr];exact dK hu R A 0 0 (m_ _) ad m
   .rename_i g n cap s O;obtain⟨rfl,rfl,h3,_⟩:=E;refine fin _ w _ ?_ T ⟨_,D,ph.put hd ⟨_,el _,rfl⟩⟩;rw[hh,qr];exact dK hu R _ _ cap h3 ad m
  .obtain⟨ab,d,rfl,n1,n2,n3,n4,n5⟩:=At (o_ N);have grow:∀(old:Nat) (r:List Value) (v:Value) (O:Nat->Prop) (Os:Nat->Nat->Nat->Prop),(∀b,O b->l.has b)->(∀i j b,Os i j b->O b)->(∀i j i' j' b,Os i j b->Os i' j' b->i=i'/\j=j')->r.length=xs.length*f.size->(∀p∈xs,p.cells.length=f.size)->(∀(i j:Nat) (p q:PV),xs[i]? =some p->p.cells[j]? =some q->∃u,r[i*f.size+j]? =some u/\kK D w (k.at j) (Os i j) u q)->(Builtin.append_ #[t,t] o.type #[v,.slice (some ab) L.length m]).run P w= .ok (.slice (some ⟨w.heap.size,0,none⟩) (xs.length+L.length) (grownCap w (xs.length+L.length) old e)) (w.drew.alloc (.cells (r.toArray++d.toArray++Builtin.zeroCells z.cells (grownCap w (xs.length+L.length) old e - (xs.length+L.length))) e))->a.eval x=v->o.wp P a w next Q:=by
    intro old r v O Os DQ hOs hdj U Th ro n6 hv
    have rg:∀b,O b->b<w.heap.size:=λb M=>(J.ok.mX id l b hl (DQ b M)).1
    have DH:=grownCap_ge w (xs.length+L.length) old e
    have DE:grownCap w (xs.length+L.length) old e<=maxLen:=grownCap_le_maxLen w _ old e (by simp only[maxLen];omega)
    have hcs:(r.toArray++d.toArray++Builtin.zeroCells z.cells (grownCap w (xs.length+L.length) old e - (xs.length+L.length))).size=grownCap w (xs.length+L.length) old e*f.size:=by simp only[L_,M_,f7,Nd,U,n1,<-w_];congr 1;omega
    have I:∀b,D b->(w.drew.alloc (.cells (r.toArray++d.toArray++Builtin.zeroCells z.cells (grownCap w (xs.length+L.length) old e - (xs.length+L.length))) e)).heap[b]? =w.heap[b]? :=λb M=>eK w.drew _ b (J.ok.pn b M)
    have ph:=J.move (l':=.nw w.heap.size (xs.length+L.length) (grownCap w (xs.length+L.length) old e) f.size O) (o':=.tree e f.size k (xs++L.map k.gO) none) (w':=w.drew.alloc (.cells (r.toArray++d.toArray++Builtin.zeroCells z.cells (grownCap w (xs.length+L.length) old e - (xs.length+L.length))) e)) hl (λg hg=>by subst hg;exact E.elim) (λg hg=>by subst hg;exact E.elim) rfl rfl rfl (by simp) (λk T _=>eK w.drew _ k T) (λg hg=>by rcases hg with rfl|hg;exact⟨by simp,.inr (m_ _)⟩;exact⟨by simp;have:=rg g hg;omega,.inl (DQ g hg)⟩) ⟨rfl,by simp,DH,DE,λp hp=>(K_.1 hp).elim (Th p) (Dg n4 p),_,Os,fa w.drew _,hcs,λi j b M=>⟨hOs i j b M,by have:=rg b (hOs i j b M);omega⟩,hdj,λ_ _ _ h=>(nomatch h),F _ r d xs _ _ Os I (λi j b M=>eK w.drew _ b (rg b (hOs i j b M))) U hcs (λj C=>by rw[l_ (by simp;omega),l_ (by omega)];simp) (λj C=>by rw[l_ (by simp;omega),R_ (by simp)];simp) n1 ro n5⟩
    refine fin _ _ _ ?_ T ⟨_,D,ph.put hd ⟨_,el _,rfl⟩⟩
    rw[hv,qr]
    omega
   cases l<;>simp only[cJ,Loc.head]at E hh;.rename_i A;obtain⟨rfl,-⟩:=E;have hr:=eX (P:=P) (w:=w) (ty:=o.type) hu R DM A ab L.length m d n1 n2 (o_ N) (by omega) (by simp only[x_,q_]at ur;omega);refine grow 0 [] (.slice A 0 0) none' (λ_ _ _=>False) (λ_ h=>h.elim) (λ_ _ _ h=>h.elim) (λ_ _ _ _ _ h _=>h.elim) (by simp) (λp hp=>by cases hp) (λi j p q hp=>by simp at hp) ?_ hh;simpa using hr
   .rename_i g n cap s O;obtain⟨rfl,rfl,h3,h4,h5,B,Os,h6,h7,hOs,hdj,-,h8⟩:=E;by_cases Y:xs.length+L.length<=cap
    .have Fk:xs.length*f.size+d.length<=B.size:=by rw[n1,h7,<-w_];exact f_ _ Y
     have hr:=run_append_room (P:=P) w t o.type e f hu R g xs.length cap B h6 ab L.length m d n1 n2 n3 Y Fk;obtain⟨s1,s2⟩:=jC B (xs.length*f.size) d Fk;have I:∀b,D b->(w.setRow g (B.toList.take (xs.length*f.size)++d++B.toList.drop (xs.length*f.size+d.length)).toArray).heap[b]? =w.heap[b]? :=λb M=>setRow_other _ _ _ _ λe=>(J.ok.mX id _ g hl (.inl rfl)).2 (e▸M);have wr:(B.toList.take (xs.length*f.size)).length=xs.length*f.size:=by simp;omega
     have ph:=J.move (l':=.nw g (xs.length+L.length) cap f.size O) (o':=.tree e f.size k (xs++L.map k.gO) none) (w':=w.setRow g (B.toList.take (xs.length*f.size)++d++B.toList.drop (xs.length*f.size+d.length)).toArray) hl (λg hg=>by cases hg) (λg hg=>by cases hg) rfl rfl rfl (by simp) (λk _ T=>setRow_other _ _ _ _ λe=>T (by rw[e];exact .inl rfl)) (λg' DS=>⟨by simp;exact(J.ok.mX id _ g' hl DS).1,.inl DS⟩)
      ⟨rfl,by simp,Y,h4,λp hp=>(K_.1 hp).elim (h5 p) (Dg n4 p),_,Os,setRow_heap _ _ _ _ _ _ h6,by omega,hOs,hdj,λ_ _ _ h=>(nomatch h),
       F _ (B.toList.take (xs.length*f.size)) d xs _ cap Os I (λi j b M=>setRow_other _ _ _ _ (hOs i j b M).2) wr (by omega) (λj C=>by
        rw[wr]at C;rw[s2,if_neg (by omega),z_,if_pos C,t_]) (λj C=>by
        rw[s2,wr,if_pos ⟨by simp,by omega⟩];simp) n1 (λi j p q hp H=>by
        obtain⟨u,e1,e2⟩:=h8 i j p q hp H;refine⟨u,?_,e2⟩;have C:j<f.size:=by rw[<-h5 p (a_ hp)];exact(c_.1 H).1
        have hi:i<xs.length:=(c_.1 hp).1;have:(i+1)*f.size<=xs.length*f.size:=f_ _ hi;grind) n5⟩
     refine fin _ _ _ ?_ T ⟨_,D,ph.put hd ⟨_,el _,rfl⟩⟩;rw[hh,qr];omega
    .have Wf:xs.length*f.size<=B.size:=by rw[h7];exact f_ _ h3
     have U:(B.toList.take (xs.length*f.size)).length=xs.length*f.size:=by simp;omega
     have hr:=run_append_grow (P:=P) w t o.type e f z hu R DM ⟨g,0,none⟩ xs.length cap (B.toList.take (xs.length*f.size)) U (λj u C=>by
      rw[addr_add,q_,cell_of_row w g j B e (0,0) h6];rw[z_]at C;split at C;.simpa using C
      .cases C) ab L.length m d n1 n2 (by omega) (by omega) (growslice_fits (by omega) ur)
     refine grow cap _ _ O Os (λ_ h=>.inr h) (λi j b h=>(hOs i j b h).1) hdj U h5 (λi j p q hp H=>?_) hr hh;obtain⟨u,e1,e2⟩:=h8 i j p q hp H;refine⟨u,?_,e2⟩;have C:j<f.size:=by rw[<-h5 p (a_ hp)];exact(c_.1 H).1
     have hi:i<xs.length:=(c_.1 hp).1;have:(i+1)*f.size<=xs.length*f.size:=f_ _ hi;rw[w_,ak_]at this;rw[z_,if_pos (by omega),t_];omega
 .obtain⟨A,MT⟩:∃A,a.eval x= .slice A 0 0:=by subst Vc;exact⟨none,hX⟩
  have DP:=gc [] _ (by simpa using ur);simp only[x_,q_]at DP;by_cases N:L.length=0;.have CT:L=[]:=k_ N;subst CT;have hp:Inv c (θ++[.nil A]) D {st with hp:=st.hp++[.tree e f.size k (([]:List PV).map k.gO) none]} a w:=J.push ⟨rfl,rfl⟩ (λg hg=>by cases hg);refine fin (.slice A 0 0) w _ ?_ T ⟨_,D,hp.put hd ⟨.nil A,by rw[<-J.ok.len];simp,rfl⟩⟩;rw[MT,qr];exact dK hu R A 0 0 (m_ _) ad m
  .obtain⟨ab,d,rfl,n1,n2,n3,n4,n5⟩:=At (o_ N);have hr:=eX (P:=P) (w:=w) (ty:=o.type) hu R DM A ab L.length m d n1 n2 (o_ N) (by omega) (by omega);have DH:=grownCap_ge w L.length 0 e;have DE:grownCap w L.length 0 e<=maxLen:=grownCap_le_maxLen w _ 0 e (by simp only[maxLen];omega);have hcs:(d.toArray++Builtin.zeroCells z.cells (grownCap w L.length 0 e - L.length)).size=grownCap w L.length 0 e*f.size:=by simp only[L_,M_,f7,Nd,n1,<-w_];congr 1;omega
   have I:∀b,D b->(w.drew.alloc (.cells (d.toArray++Builtin.zeroCells z.cells (grownCap w L.length 0 e - L.length)) e)).heap[b]? =w.heap[b]? :=λb M=>eK w.drew _ b (J.ok.pn b M);have Pa:=J.drew.K9 (l:=.nw w.heap.size L.length (grownCap w L.length 0 e) f.size none') (o:=.tree e f.size k (L.map k.gO) none) (ob:=.cells (d.toArray++Builtin.zeroCells z.cells (grownCap w L.length 0 e - L.length)) e) (λ_ h=>h.elim (λh=>h) False.elim) λθ' hθ=>⟨rfl,Pb.symm,DH,DE,Dg n4,_,λ_ _ _=>False,fa w.drew _,hcs,λ_ _ _ h=>h.elim,λ_ _ _ _ _ h _=>h.elim,λ_ _ _ h=>(nomatch h),λi j p q hp H=>by have:=F _ [] d [] _ _ (λ_ _ _=>False) I (λ_ _ _ h=>h.elim) (by simp) hcs (λj C=>by simp at C) (λj C=>by simp only[x_,q_];rw[l_ (by omega)];simp) n1 (λi j p q hp=>by simp at hp) n5 i j p q (by simpa using hp) H;exact this⟩
   refine fin _ _ _ ?_ T ⟨_,D,Pa.put hd ⟨.nw w.heap.size L.length (grownCap w L.length 0 e) f.size none',by rw[<-J.ok.len];simp,rfl⟩⟩;rw[MT,qr];omega
end
section
variable {P:Program} {o:Oper} {c:Ctx} {θ:List Loc} {D:Nat->Prop} {st:St} {a:Act} {w:World}
theorem mM{v u:Value}(h:aW D w v (.sc u)):v=u:=by cases h;rfl
def Zs(P:Program)(D:Nat->Prop)(w:World)(d:Nat):Prop:=∀(t:TypeId) (p q:PV) (b:Bool) (v u:Value) (n:Nat),wu P d t p q=some b->d<=n->aW D w v p->aW D w u q->(Op.equalIn n t v u).run P w= .ok b w
theorem Vl{d:Nat}(v:Zs P D w d):∀(l:List Field) (xs ys:List PV) (b:Bool) (vs us:Array Value) (n:Nat),wu.eqFs P d l xs ys=some b->d<=n->aW D w (.agg vs) (.agg xs)->aW D w (.agg us) (.agg ys)->(Op.eqFields n vs us l).run P w= .ok b w:=by
 intro l;induction l with
 |nil=>intro xs ys b vs us n h _ _ _;simp only[wu.eqFs,B_]at h;subst h;rfl|cons f l x=>
  intro xs ys b vs us n h hn u s;simp only[wu.eqFs]at h;split at h;.grind
  .rename_i c;simp only[e_]at h;obtain⟨i,B,h⟩:=h;split at h;.grind
   .rename_i hc;simp only[not_or,aL_,not_and,Decidable.not_not,Option.isNone_iff_eq_none]at hc;obtain⟨h1,h2,p,r⟩:=hc;obtain⟨A,g⟩:=Option.ne_none_iff_exists'.1 h1;simp only[e_]at h;obtain⟨k,j,h⟩:=h;have hsz:ca P f.type=some i.size:=by grind[ca]
    have a:ip P f.type=false->i.size=1:=λe=>r e;obtain⟨y,r1⟩:=tX u rfl h2 a;obtain⟨z,r2⟩:=tX s rfl p a;simp only[Op.eqFields];rw[if_pos c];simp only[Sem.run_bind,(qu g hsz (by rw[y];exact h2) a),(qu g hsz (by rw[z];exact p) a),(v f.type _ _ k _ _ n j hn r1 r2),Result.andThen_ok];cases k;.simp only[u_,if_false,B_]at h;subst h;rfl
    grind
theorem Jh:∀(d:Nat),Zs P D w d:=by
 intro d;induction d with
 |zero=>intro t p q b v u n h _ _ _;simp[wu]at h|succ d r=>
  intro t p q b v u n h hn l k;obtain⟨m,rfl⟩:∃m,n=m+1:=⟨n - 1,by omega⟩;unfold wu at h;split at h;.grind[mM,run_equalIn_bool']
  .grind[mM,run_equalIn_int]
  .grind[mM,beq_toListBytes,run_equalIn_string]
  .rename_i g xs ys ht;split at h;.grind
   .have j:P.fieldsOf t=g:=by grind[Program.fieldsOf]
    cases l with|agg vs _ e a=>cases k with|agg us _ f c=>rw[run_equalIn_struct w m t vs us (by grind) (by grind),j];exact Vl r g.toList xs ys b vs us m h (by omega) (.agg vs xs e a) (.agg us ys f c)
  grind
theorem Ir(f:Inv c θ D st a w){K:AV->Prop}{op:BinOp}{neg:Bool}{t A:TypeId}{n:Array Field}{x y:Operand}(s:o.op= .binOp op t x y A)(j:op=if neg then .neq else .eql)(ht:P.underlying t=some (.struct n))(hg:P.eqGuardType P.depth t=false) (h:jh P st (.sy neg t (.of x) (.of y)) K):Yields P o a w (sx c θ st a K):=by
 obtain⟨B,v,C,z,p,hp,q,u,b,g,r⟩:=h;have r1:=cX (f.get v) hp;have r2:=cX (f.get z) u;refine aL f ?_ r (aW.sc _);have e:=Jh 64 t p q b _ _ 10000 g (by simp) r1 r2;have d:∃xs ys,a.eval x= .agg xs/\a.eval y= .agg ys:=by
  unfold wu at g;generalize a.eval x=E at r1⊢;generalize a.eval y=F at r2⊢;split at g;.grind
  .grind
  .grind
  .cases r1;cases r2;simp
  grind
 obtain⟨xs,ys,k,l⟩:=d;rw[k,l]at e;simp only[execOp,s,k,l,Sem.run_bind,run_eqGuard_agg w op t x y xs ys hg];subst j;cases neg;.simp only[u_,if_false,run_eql_struct,e,Result.andThen_ok,Sem.run_pure,Bool.false_xor]
 .simp only[if_true,run_neq_struct,e,Result.andThen_ok,Sem.run_pure,Bool.true_xor]
theorem HH{k:TypeId}{x:PV}:∀{l:List (PV×PV)} {i:Nat} {r:Option (Nat×PV)},r5 P k x l i=some r->
 (r=none/\∀a∈l,wu P 64 k x a.1=some false)\/(∃j a,r=some (i+j,a.2)/\l[j]? =some a/\wu P 64 k x a.1=some true/\∀c∈l.take j,wu P 64 k x c.1=some false)
 |[],i,r,h=>by grind[r5,B_]
 |a::l,i,r,h=>by
  simp only[r5,e_]at h;obtain⟨b,e,h⟩:=h;cases b
  .simp only[u_,if_false]at h;rcases HH h with⟨h1,h2⟩|⟨j,c,h1,h2,d,f⟩;.grind
   .refine .inr ⟨j+1,c,by grind,by grind,d,λy g=>?_⟩;grind
  .simp only[if_true,B_]at h;exact .inr ⟨0,a,by grind,rfl,e,by simp⟩
theorem tF{k:TypeId}{v:Value}:∀(a:List MapEntry) (i:Nat) (f:MapEntry->Bool),(∀e∈a,(Op.equal k v e.key).run P w= .ok (f e) w)->
 (Instr.findAsking k v a i).run P w= .ok ((a.zipIdx i).find? (λe=>f e.1) |>.map λe=>(e.2,e.1.val)) w
 |[],i,f,_=>by rfl
 |e::a,i,f,h=>by
  simp only[Instr.findAsking,Sem.run_bind,h e (by simp),Result.andThen_ok,aA_,aD_];cases b:f e;.simp only[u_,if_false];exact tF a (i+1) f λy c=>h y (by grind)
  rfl
theorem findNow_spec{d:TypeDesc}{v:Value}:∀(a:List MapEntry) (i:Nat) (f:MapEntry->Bool) {r:Option (Nat×Value)},(∀e∈a,∀b,Instr.sameNow d v e.key=some b->b=f e)->Instr.findNow d v a i=some r->
 r=((a.zipIdx i).find? (λe=>f e.1) |>.map λe=>(e.2,e.1.val))
 |[],i,f,r,_,h=>by grind[Instr.findNow,B_]
 |e::a,i,f,r,hs,h=>by
  simp only[Instr.findNow]at h;simp only[aA_,aD_];split at h;.grind
  .rename_i h1;rw[<-hs e (by simp) false h1];exact findNow_spec a (i+1) f (λy c=>hs y (by grind)) h
  grind
theorem Yy{a:List MapEntry}{l:List (PV×PV)}{k:TypeId}{x:PV}{i:Nat}{r:Option (Nat×PV)}{f:MapEntry->Bool}(hl:a.length=l.length)(y:∀(j:Nat) (e:MapEntry) (b:PV×PV),a[j]? =some e->l[j]? =some b->wu P 64 k x b.1=some (f e))(h:r5 P k x l i=some r):(r=none/\(a.zipIdx i).find? (λe=>f e.1)=none)\/∃j b e,r=some (i+j,b.2)/\l[j]? =some b/\a[j]? =some e/\(a.zipIdx i).find? (λe=>f e.1)=some (e,i+j):=by
 rcases HH h with⟨h1,h2⟩|⟨j,b,h1,h2,B,v⟩;.refine .inl ⟨h1,?_⟩;rw[List.find?_eq_none];rintro⟨e,n⟩ p;obtain⟨j,C⟩:=p_ p;cases s:a[j]? with|none=>grind|some e0=>obtain⟨b,z⟩:=bC hl.symm s;grind
 .obtain⟨e,p⟩:=bC hl h2;refine .inr ⟨j,b,e,h1,h2,p,?_⟩;have u:j<a.length:=(c_.1 p).1;rw[List.find?_eq_some_iff_getElem];refine⟨by grind,j,by simpa using u,?_,λm A=>?_⟩;.grind
  .have d:m<a.length:=by omega
   obtain⟨g,c⟩:=bC hl.symm (b_ d);have w:=y m _ g (b_ d) c;rw[v g (a_ (by rw[z_,if_pos A];omega))]at w;grind
theorem kE(em:Bool):∀(d n:Nat) (t:TypeId) (v:Value) (p:PV),Au P d t p=true->d<=n->aW D w v p->(Instr.checkKey em n t v).run P w= .ok () w
 |0,n,t,v,p,h,_,_=>by simp[Au]at h
 |d+1,n,t,v,p,h,hn,g=>by
  obtain⟨m,rfl⟩:∃m,n=m+1:=⟨n - 1,by omega⟩;unfold Au at h;rw[Instr.checkKey];split at h;.rename_i ht;rw[mM g];simp[run_underlying ht]
  .rename_i ht;rw[mM g];simp[run_underlying ht]
  .rename_i ht;rw[mM g];simp[run_underlying ht]
  .rename_i x xs ht;cases g with
   |agg vs _ hs z=>
    have r:aW D w (.agg vs) (.agg xs):=.agg vs xs hs z;simp only[Sem.run_bind,run_underlying ht,Result.andThen_ok];rw[<-Array.forIn_toList];have a:=n_.1 h;revert a;generalize x.toList=l;intro a;induction l with
    |nil=>rfl|cons f l A=>
     have b:=a f (by simp);simp only[F_,bne_iff_ne,ne_eq]at b;obtain⟨k,b⟩:=b;split at b
     .rename_i i E;simp only[F_,decide_eq_true_eq,aC_]at b;obtain⟨⟨⟨h1,h2⟩,u⟩,y⟩:=b;obtain⟨C,j⟩:=v_.1 h1;have hsz:ca P f.type=some i.size:=by grind[ca]
      have c:ip P f.type=false->i.size=1:=λe=>u.elim (λu=>by grind) id;obtain⟨F,r1⟩:=tX (off:=f.offset) (sz:=i.size) r rfl h2 c;have B:=qu (P:=P) (w:=w) (t:=f.type) (cs:=vs) (off:=f.offset) j hsz (by omega) c;have e:=kE em d m f.type _ _ y (by omega) r1;have s:=A λf b=>a f (by grind);simp only[List.forIn_cons,Sem.run_bind,Sem.run_ite,k,not_false_eq_true,ne_eq,if_true,B,Result.andThen_ok,e,Sem.run_pure];simpa using s
     grind
  grind
theorem AR{k:TypeId}{v:Value}{a:Array MapEntry}{f:MapEntry->Bool}{d:TypeDesc}(hd:P.underlying k=some d)(h:∀e∈a.toList,(Op.equal k v e.key).run P w= .ok (f e) w)(hs:∀e∈a.toList,∀b,Instr.sameNow d v e.key=some b->b=f e):(Instr.findKey k v a.toList).run P w= .ok ((a.toList.zipIdx 0).find? (λe=>f e.1) |>.map λe=>(e.2,e.1.val)) w:=by simp only[Instr.findKey,Sem.run_bind,run_underlying hd,Result.andThen_ok];cases hn:Instr.findNow d v a.toList 0 with|none=>exact tF a.toList 0 f h|some r=>rw[findNow_spec a.toList 0 f hs hn];rfl
theorem Pt{k:TypeId}{d:TypeDesc}{v u:Value}{b c:Bool}(hd:P.underlying k=some d)(h:Instr.sameNow d v u=some b)(e:(Op.equal k v u).run P w= .ok c w):b=c:=by have a:(Op.equal k v u)=Op.equalIn (9999+1) k v u:=rfl;unfold Instr.sameNow at h;grind[run_equalIn_int,run_equalIn_string,beq_toListBytes,run_equalIn_bool']
theorem Mt(I:Inv c θ D st a w){k:TypeId}{kvs:List (PV×PV)}{n:Array MapEntry}{v:Value}{p:PV}{r:Option (Nat×PV)}(J:n.size=kvs.length) (u:∀(i:Nat) (e:MapEntry) (g:PV×PV),n[i]? =some e->kvs[i]? =some g->aW D w e.key g.1/\aW D w e.val g.2) (F:aW D w v p) (hr:r5 P k p kvs 0=some r) (s:∀g∈kvs,(wu P 64 k p g.1).isSome=true) (hd:(P.underlying k).isSome=true): ∃res,(Instr.findKey k v n.toList).run P w= .ok res w/\((r=none/\res=none)\/∃j g e,r=some (j,g.2)/\kvs[j]? =some g/\n[j]? =some e/\res=some (j,e.val)/\wu P 64 k p g.1=some true):=by
 have _:=I;obtain⟨d,hd⟩:=v_.1 hd;have y:∀e∈n.toList,∃(i:Nat) (g:PV×PV) (b:Bool),n[i]? =some e/\kvs[i]? =some g/\wu P 64 k p g.1=some b/\(Op.equal k v e.key).run P w= .ok b w:=by
  intro e z;obtain⟨i,B⟩:=p_ z;rw[t_]at B;have C:i<kvs.length:=by grind
  have l:=b_ C;obtain⟨b,x⟩:=v_.1 (s _ (a_ l));exact⟨i,_,b,B,l,x,Jh (P:=P) (D:=D) (w:=w) 64 k p _ b v e.key 10000 x (by simp) F (u i e _ B l).1⟩
 classical
 let f:MapEntry->Bool:=λe=>if h:e∈n.toList then(y e h).choose_spec.choose_spec.choose else false;have E:∀e,(h:e∈n.toList)->(Op.equal k v e.key).run P w= .ok (f e) w:=λe h=>by grind
 refine⟨_,(AR (f:=f) hd E λe h b x=>Pt hd x (E e h)),?_⟩;have A:∀(j:Nat) (e:MapEntry) (g:PV×PV),n.toList[j]? =some e->kvs[j]? =some g->wu P 64 k p g.1=some (f e):=by intro j e g M l;obtain⟨b,x⟩:=v_.1 (s _ (a_ l));have h1:=Jh (P:=P) (D:=D) (w:=w) 64 k p _ b v e.key 10000 x (by simp) F (u j e g (by grind) l).1;have H:(Op.equal k v e.key).run P w= .ok b w:=h1;grind
 rcases Yy (by omega) A hr with⟨h1,h2⟩|⟨j,g,e,h1,h2,H,L⟩;all_goals grind
theorem nP{g:Nat}{b:Array MapEntry}{a:Nat}(h:w.heap[g]? =some (.map b a)):(getObj g).run P w= .ok (.map b a) w:=MapKept.run_getObj_map h
theorem Kk(B:Inv c θ D st a w){K:AV->Prop}{t k e:TypeId}{m x:Operand}{d:Bool}{z:Value}(T:o.op= .lookup t m x d)(ht:P.underlying t=some (.map k e))(Y:d5 P e=some z) (h:jh P st (.lookup k e d z (.of m) (.of x)) K):Yields P o a w (sx c θ st a K):=by
 obtain⟨am,hm,ax,C,id,kvs,rfl,N,p,hp,H,hd,E,r,hr,M⟩:=h;obtain⟨g,hg,y⟩:=B.get hm;obtain⟨es,I,h1,h2,R⟩:=B.ok.fO id _ _ hg N;have f:=cX (B.get C) hp;obtain⟨res,l,s⟩:=Mt B h2 R f hr E hd;have F:∀em,(Instr.checkKey em 10000 k (a.eval x)).run P w= .ok () w:=λem=>kE em 64 10000 k _ p H (by simp) f;simp only[d5,e_]at Y;obtain⟨it,L,O⟩:=Y;have A:(zeroValue e).run P w= .ok z w:=by simp[zeroValue,typeInfo,L,O]
 have fin:∀(u:Value) (q:PV) (b:Bool),aW D w u q->(execOp a.eval o).run P w= .ok (.value (if d then .tuple #[u,.bool b]else u)) w->K (match d with|true=>.dP [.pv q,.pv (.sc (.bool b))]|false=>.p q)->Yields P o a w (sx c θ st a K):=by
  intro u q b U n M;cases d;.exact aL B n M U
  .refine aL B n M ⟨#[u,.bool b],rfl,rfl,λi v x y C=>?_⟩
   match i with|0=>simp at y C;subst y;subst C;exact U|1=>simp at y C;subst y;subst C;exact aW.sc _|i+2=>grind
 rcases s with⟨rfl,rfl⟩|⟨j,kv,Q,rfl,hj,J,rfl,_⟩;.refine fin z (.sc z) false (aW.sc z) ?_ (by grind);simp[execOp,T,Instr.lookup,run_underlying ht,y,nP h1,F,l,A]
 .refine fin Q.val kv.2 true (R j Q kv J hj).2 ?_ (by grind);simp[execOp,T,Instr.lookup,run_underlying ht,y,nP h1,F,l]
theorem PN(j:Inv c θ D st a w){K:AV->Prop}{x:Operand}{t k e:TypeId}{cl:Call}(r:o.op= .call cl)(l:cl.callee= .builtin .len)(b:cl.args= #[x])(d:cl.argTypes= #[t]) (ht:P.underlying t=some (.map k e)) (h:jh P st (.ol k e (.of x)) K):Yields P o a w (sx c θ st a K):=by obtain⟨v,u,id,kvs,rfl,n,p⟩:=h;obtain⟨g,hg,s⟩:=j.get u;obtain⟨y,f,h1,h2,z⟩:=j.ok.fO id _ _ hg n;refine aL j ?_ p (aW.sc _);simp[execOp,r,resolve,l,b,d,invoke,builtin,Builtin.len_,run_underlying ht,s,goInt,nP h1,h2]
theorem MB(g:Inv c θ D st a w)(hd:∀k,o.dst=some k->k<c.n){K KP:St->Prop}{t k e:TypeId}(j:o.op= .makeMap t none){pl:Option Nat} (h:Fv st (.ik k e) λob mk=>yE st pl/\K ((st.new pl ob).aF o.dst (.b (mk (st.XG pl))))):Leaves P o c K KP a w:=by
 intro next Q hn _;obtain⟨f,h⟩:=h;obtain⟨θ',d,hid⟩:=g.qM f (l:=.mp w.heap.size) (o:=.map k e []) (λ_ h=>h) λθ' n=>⟨#[],0,fa w _,rfl,λi p s r=>by simp⟩;have b:(execOp a.eval o).run P w= .ok (.value (.map (some w.heap.size))) (w.alloc (.map #[] 0)):=by simp[execOp,j,Instr.makeMap]
 unfold Oper.wp;rw[b];exact hn _ _ ⟨_,h,_,_,d.put hd ⟨w.heap.size,hid,rfl⟩⟩
theorem Nr(b:Inv c θ D st a w)(hd:∀k,o.dst=some k->k<c.n){K KP:St->Prop}{t k e:TypeId}(d:o.op= .makeMap t none)(h:cN P o.dst (.ik k e) st K KP):Leaves P o c K KP a w:=MB b hd d (pl:=none) ⟨trivial,h⟩
theorem Fs:∀{p q:PV} {v u:Value},p.plain=true->aW D w v p->aW D w u p->Instr.sameBits 10000 v u=true:=by
 intro p q v u hp d c;cases p with
 |sc s=>rw[mM d,mM c];cases s<;>simp[PV.plain]at hp<;>simp[Instr.sameBits,beq_toListBytes]|agg xs=>
  cases d with
  |agg vs _ h1 h2=>
   cases c with
   |agg us _ h j=>
    simp only[PV.plain,n_]at hp;show((vs.size==us.size)&&_)=true;simp only[F_,beq_iff_eq,n_];refine⟨by omega,λx g=>?_⟩;obtain⟨i,e⟩:=p_ g;rw[List.getElem?_zip_eq_some]at e;have a:i<xs.length:=by grind
    have b:=b_ a;have f:=hp _ (a_ b);grind[mM,Instr.sameBits,beq_toListBytes]
 |_=>grind[PV.plain]
theorem Ij{h:Array Obj}{g k:Nat}{ob:Obj}(a:k≠g):(h.setIfInBounds g ob)[k]? =h[k]? :=N_ (Ne.symm a)
theorem y9(J:Inv c θ D st a w)(gc:o.dst=none){K KP:St->Prop}{t k e:TypeId}{m x y:Operand}(F:o.op= .mapUpdate t m x y\/o.op= .insert t m x y)(ht:P.underlying t=some (.map k e)) (h:cN P o.dst (.gY k e (.of m) (.of x) (.of y)) st K KP):Leaves P o c K KP a w:=by
 intro next Q hn _;obtain⟨am,hm,ax,hx,ay,hy,id,kvs,rfl,ur,p,hp,q,hq,_,C,R,hd,N,r,hr,M,hk⟩:=h;obtain⟨g,hg,hv⟩:=J.get hm;obtain⟨es,n,h1,h2,h3⟩:=J.ok.fO id _ _ hg ur;have u:=cX (J.get hx) hp;have wr:=cX (J.get hy) hq;obtain⟨res,H,L⟩:=Mt J h2 h3 u hr N hd;have O:∀em,(Instr.checkKey em 10000 k (a.eval x)).run P w= .ok () w:=λem=>kE em 64 10000 k _ p R (by simp) u;have fin:∀(ob:Obj) (l:List (PV×PV)),(execOp a.eval o).run P w= .ok .skip {w with heap:=w.heap.setIfInBounds g ob}->(∃(s:Array MapEntry) (f:Nat),ob= .map s f/\s.size=l.length/\∀(i:Nat) (A:MapEntry) (E:PV×PV),s[i]? =some A->l[i]? =some E->aW D w A.key E.1/\aW D w A.val E.2)->K {st with hp:=st.hp.set id (.map k e l)}->o.wp P a w next Q:=by
  rintro ob l U ⟨s,f,rfl,rg,z⟩ hk
  have hD:∀b,D b->({w with heap:=w.heap.setIfInBounds g (.map s f)}:World).heap[b]? =w.heap[b]? :=λb hb=>Ij λe=>(J.ok.mX id _ g hg rfl).2 (e▸hb)
  have el:=J.store (o':=.map k e l) (w':={w with heap:=w.heap.setIfInBounds g (.map s f)}) hg rfl rfl rfl rfl (by simp) (λk' qr=>Ij qr) ⟨s,f,by grind,rg,λi A E he B=>⟨(z i A E he B).1.mono (λ_ h=>h) hD,(z i A E he B).2.mono (λ_ h=>h) hD⟩⟩
  unfold Oper.wp
  rw[U]
  refine hn _ _ ⟨_,hk,θ,D,?_⟩
  have:=el.put (d:=none) (v:=undef) (x:=.v undef) (λ_ h=>by grind) (aW.sc _)
  rw[gc]
  exact this
 have I:∀(ob:Obj),(setObj g ob).run P w= .ok () {w with heap:=w.heap.setIfInBounds g ob}:=λob=>MapKept.run_setObj_map ob h1;rcases L with⟨rfl,rfl⟩|⟨j,E,A,rfl,hj,ph,rfl,_⟩
 .refine fin (.map (es.push {key:=a.eval x,val:=a.eval y,born:=n}) (n+1)) (kvs++[(p,q)]) ?_ ⟨_,_,rfl,by grind,λi A E he B=>?_⟩ hk;.rcases F with F|F<;>simp only[execOp,F,Instr.mapUpdate,Sem.run_bind,run_underlying ht,Result.andThen_ok,hv,nP h1,O,H,I,Sem.run_pure]
  grind
 .obtain⟨u',Y⟩:=M j E.2 rfl;rw[hj]at Y;cases Y;have T:((es[j]?).map (·.key)).getD (a.eval x)=A.key:=by grind
  refine fin (.map (es.modify j λe=>{e with key:=a.eval x,val:=a.eval y}) n) (kvs.set j (p,q)) ?_ ⟨_,_,rfl,by grind,λi At Bk he B=>?_⟩ hk;.rcases F with F|F<;>simp only[execOp,F,Instr.mapUpdate,Sem.run_bind,run_underlying ht,Result.andThen_ok,hv,nP h1,O,H,T,Instr.keyThatStays,(Fs (q:=p) C (h3 j A _ ph hj).1 u),if_true,Sem.run_pure,I]
  grind
theorem PT(l:Inv c θ D st a w){K:AV->Prop}{f:FuncId}{first caps:Array Operand}(E:o.op= .makeFunc (.func f) first caps)(B:first= #[])(h:jh P st (.rB f (caps.toList.map SX.of)) K):Yields P o a w (sx c θ st a K):=by
 obtain⟨ars,n,d⟩:=h;obtain⟨F,H⟩:=mapM_some n;subst B;have b:(execOp a.eval o).run P w= .ok (.value (.func (.func f) #[] (caps.map a.eval))) w:=by simp[execOp,E,Instr.makeFunc]
 have e:∀(i:Nat) (x:AV),ars[i]? =some x->∃y,caps.toList[i]? =some y/\RelA θ D w (a.eval y) x:=λi x u=>by obtain⟨s,hs⟩:=bC F u;have hg:=H i s x hs u;rw[i_]at hs;cases hc:caps.toList[i]? with|none=>grind|some y=>rw[hc]at hs;cases hs;exact⟨y,rfl,l.get hg⟩
 rcases d with⟨ids,rfl,p⟩|⟨N,rfl,p⟩
 .refine aL l b p ?_;have hg:∀(i:Nat),i<ids.length->∃g:Nat,∀id y,ids[i]? =some id->caps.toList[i]? =some y->θ[id]? =some (.dX g)/\a.eval y= .pointer (some ⟨g,0,none⟩):=λi M=>by obtain⟨y,j,hr⟩:=e i (.b (.ptr ids[i] 0)) (by simp);obtain⟨g,I,J⟩:=hr;exact⟨g,λid O h1 h2=>by grind⟩
  obtain⟨A,z,L⟩:=gp hg;refine⟨A,z,λk id g hid C=>?_,?_⟩;.obtain⟨y,j,_⟩:=e k (.b (.ptr id 0)) (by grind);grind
  .congr 1;apply aJ_;apply S_;grind
 .refine aL l b p (aW.fn _ _ _ (by grind) λi v x r u=>?_);obtain⟨y,j,hr⟩:=e i (.p x) (by grind);rw[ae_]at r;rw[t_]at j;rw[j]at r;cases r;exact hr
theorem PC(l:Inv c θ D st a w)(hd:∀k,o.dst=some k->k<c.n){K KP:St->Prop}{t:TypeId}{x:Operand}(J:o.op= .box t x)(h:jh P st (.pW t (.of x)) λx=>K (st.aF o.dst x)):Leaves P o c K KP a w:=by
 intro next Q hn _;obtain⟨B,L,p,hp,v,I,H⟩:=h;obtain⟨h1,h2⟩:=nM (l.get L) v;have g:(execOp a.eval o).run P w= .ok (.value (.pointer (some ⟨w.heap.size,0,none⟩))) (w.alloc (.cells (a.eval x).cells t)):=by simp[execOp,J,Instr.box,newVar,newRow]
 have s:=l.below (D':=λb=>D b\/(w.heap.size<=b/\b<(w.alloc (.cells (a.eval x).cells t)).heap.size)) (jI w _) l.Ci (λb f=>.inl f) (λb f=>f);unfold Oper.wp;rw[g];refine hn _ _ ⟨_,H,θ,_,s.put hd ?_⟩;have n:∀(j:Nat) (y:PV),p.cells[j]? =some y->∃z,B.cells[j]? =some z/\z.bG=some y:=by
  intro j y e;cases B with
  |dP xs=>grind[AV.ok,AV.cells,BV.dh,PV.dh]|agg xs=>simp only[AV.bG,d_]at hp;obtain⟨O,A,rfl⟩:=hp;obtain⟨M,N⟩:=mapM_some A;obtain⟨z,n⟩:=bC M e;exact⟨z,n,N j z y n e⟩
  |b F=>
   cases F with
   |pv q=>cases hp;exact⟨.pv y,by grind[AV.cells],rfl⟩|om=>cases hp;simp only[PV.cells]at e;cases j with|zero=>simp at e;subst e;exact⟨.om,rfl,rfl⟩|succ j=>grind
   |full q=>grind|_=>cases hp
 have d:∀(j:Nat) (y:PV),p.cells[j]? =some y->∃u,(a.eval x).cells[j]? =some u/\aW D w u y:=by
  intro j y e;obtain⟨z,C,r⟩:=n j y e;have E:j<(a.eval x).cells.size:=by grind
  exact⟨_,g_ E,lm (h2 j _ z (g_ E) C).1 r⟩
 exact oY (.inr ⟨m_ _,by simp⟩) λj y e=>by obtain⟨u,C,r⟩:=d j y e;refine⟨u,?_,r.mono (λb f=>.inl f) (λb f=>eK w _ b (l.ok.pn b f))⟩;rw[q_,cell_of_row _ _ _ (a.eval x).cells t (0,0) (fa w _)];omega
theorem Nq(b:Inv c θ D st a w){K:AV->Prop}{t:TypeId}{x:Operand}(f:o.op= .makeInterface t x)(ht:(match P.underlying t with|some (.interface _)=>false|some _=>true|none=>false)=true)(h:jh P st (.iface t (.of x)) K):Yields P o a w (sx c θ st a K):=by obtain⟨g,j,e⟩:=h;cases hd:P.underlying t with|none=>grind|some d=>refine aL b ?_ e ⟨t,a.eval x,rfl⟩;rw[hd]at ht;cases d<;>simp at ht<;>simp[execOp,f,Instr.makeInterface,run_underlying hd]
theorem Mz{k:IntKind}(mx:Bool):∀(c:List Int) (n:Int),((c.map λn=>Value.int k n).foldlM (if mx then Builtin.max2 else Builtin.min2) (.int k n)).run P w= .ok (.int k (c.foldl (λa b=>if mx then max a b else min a b) n)) w
 |[],n=>by rfl
 |m::c,n=>by
  have d:=Mz (k:=k) mx c (if mx then max n m else min n m);simp only[aO_,List.foldlM_cons,ao_,Sem.run_bind];cases mx
  .have:(Builtin.min2 (.int k n) (.int k m)).run P w= .ok (.int k (min n m)) w:=by grind[Builtin.min2,Sem.run_pure]
   simp only[u_,if_false,this,Result.andThen_ok]at d⊢;omega
  .have:(Builtin.max2 (.int k n) (.int k m)).run P w= .ok (.int k (max n m)) w:=by grind[Builtin.max2,Sem.run_pure]
   simp only[if_true,this,Result.andThen_ok]at d⊢;omega
theorem Fw(j:Inv c θ D st a w){K:AV->Prop}{mx:Bool}{k:IntKind}{x:Operand}{ys:List Operand}{cl:Call}(v:o.op= .call cl)(d:cl.callee= .builtin (if mx then .max else .min))(p:cl.args.toList=x::ys) (h:jh P st (.mb mx k (.of x) (ys.map SX.of)) K):Yields P o a w (sx c θ st a K):=by
 obtain⟨E,A,z⟩:=h;obtain⟨f,n,hn,ars,r,e,rfl,rfl,y⟩:=c9 (j.get A) z;obtain⟨F,C⟩:=mapM_some r;have s:ys.map a.eval=e.map λn=>Value.int f n:=by
  apply S_;intro i;simp;have hl:ys.length=e.length:=by grind
  rcases y_ i e.length with u|u;.have B:=b_ (l:=ys) (i:=i) (by omega);rw[B,(b_ u)];have:=C i (SX.of ys[i]) (.v (.int f e[i])) (by grind) (by simp);simp;rw[Pk (j.get this)]
  grind
 have b:cl.args.toList.map a.eval=Value.int f n::e.map λn=>Value.int f n:=by grind
 refine aL j ?_ y (aW.sc _);have g:=Mz (P:=P) (w:=w) (k:=f) mx e n;cases mx;.simp only[u_,if_false]at d g;simp[execOp,v,resolve,d,invoke,builtin,Builtin.min_,b,g]
 .simp only[if_true]at d g;simp[execOp,v,resolve,d,invoke,builtin,Builtin.max_,b,g]
theorem Nt(d:Inv c θ D st a w){K KP:St->Prop}{x:Operand}(f:o.op= .panic x)(h:cN P o.dst (.panic (.of x)) st K KP):Leaves P o c K KP a w:=by
 intro next Q _ hp;obtain⟨k,j,rfl,e⟩:=h;obtain⟨t,u,g⟩:=d.get j;have b:(execOp a.eval o).run P w= .halt (.panic (.iface t u)) w:=by simp[execOp,f,g,Instr.panic]
 unfold Oper.wp;rw[b];exact hp _ w ⟨⟨t,u,rfl⟩,st,e,θ,D,d⟩
theorem Tv{L:List PV}{r:Option Addr}{cap sz n:Nat}(O:Inv c θ D st a w)(s:0<sz)(H:∀p∈L,p.ok=true)(hn:n<=L.length) (e:0<L.length->∃b o,r=some ⟨b,o,none⟩/\b<w.heap.size/\(∀x∈L,x.cells.length=sz)/\∀(i j:Nat) (x y:PV),L[i]? =some x->x.cells[j]? =some y->∃u,w.cell? ⟨b,o+i*sz+j,none⟩=some u/\aW D w u y): ∃d:List Value,d.length=n*sz/\(Builtin.firstCells sz n (.slice r L.length cap)).run P w= .ok d.toArray w/\(∀u∈d,u.oneCell'=true)/\(0<n->∀x∈L,x.cells.length=sz)/\∀(i j:Nat) (p q:PV),i<n->L[i]? =some p->p.cells[j]? =some q->∃u,d[i*sz+j]? =some u/\aW D w u q:=by
 rcases ag_ n with rfl|z;.refine⟨[],by simp,?_,λu M=>by grind,λh=>absurd h (by simp),λi j p q f=>absurd f (by simp)⟩;cases r with|none=>rfl|some N=>simp[run_firstCells_some]
 .obtain⟨g,B,rfl,hg,hsz,hc⟩:=e (by omega);obtain⟨d,A,Q⟩:=gp (p:=λk u=>w.cell? ⟨g,B+k,none⟩=some u/\u.oneCell'=true/\∀(p q:PV),L[k/sz]? =some p->p.cells[k%sz]? =some q->aW D w u q) (λk E=>by have f:k/sz<n:=(C_ s).2 E;have C:k%sz<sz:=ah_ _ s;have hp:=b_ (l:=L) (i:=k/sz) (by omega);have I:=hsz _ (a_ hp);have J:=b_ (l:=(L[k/sz]'(by omega)).cells) (i:=k%sz) (by omega);grind[P_,PV.ok,iC])
  refine⟨d,A,run_firstCells_some w sz n ⟨g,B,none⟩ L.length cap d A (λj v C=>by grind[addr_add]),λu M=>?_,λ_=>hsz,λi j p q f hp J=>?_⟩;.grind[p_]
  .have F:i*sz+j<d.length:=by have:(i+1)*sz<=n*sz:=f_ _ f;grind
   grind
theorem PE(C:Inv c θ D st a w)(hd:∀k,o.dst=some k->k<c.n){K KP:St->Prop}{t u e:TypeId}{sz:Nat}{x y:Operand}{cl:Call}(ho:o.op= .call cl)(Y:cl.callee= .builtin .copy)(E:cl.args= #[x,y])(N:cl.argTypes= #[t,u]) (he:fA P t=some e) (hs:ca P e=some sz) (h0:0<sz) (h:cN P o.dst (.copy e sz (.of x) (.of y)) st K KP):Leaves P o c K KP a w:=by
 intro next Q hn _;obtain⟨ax,hx,ay,hy,hl⟩:=h;obtain⟨L,ad,v,⟨qr,id,rfl,_,ob,ph,xs,rfl,hk⟩,R,_,_,B⟩:=lh C.ok (C.get hy) hl;obtain⟨l,A,hh⟩:=C.get hx;have F:=C.ok.fO id l _ A ph;have hu:P.underlying t=some (.slice e):=by grind[fA]
 have hsz:(sizeOf e).run P w= .ok sz w:=run_sizeOf hs;obtain⟨d,n1,n2,n3,n4,n5⟩:=Tv (P:=P) (cap:=v) (n:=min L.length xs.length) C h0 qr (Nat.min_le_left _ _) B;have fin:∀(w':World) (wr:St),(Builtin.copy_ #[t,u] o.type #[a.eval x,a.eval y]).run P w= .ok (goInt ((min L.length xs.length:Nat):Int)) w'->Inv c θ D {st with hp:=st.hp.set id (.vec e sz (L.take xs.length++xs.drop L.length))} a w'->o.wp P a w next Q:=by
  intro w' _ hr U;unfold Oper.wp;have:(execOp a.eval o).run P w= .ok (.value (goInt ((min L.length xs.length:Nat):Int))) w':=by simp[execOp,ho,resolve,Y,E,N,invoke,builtin,hr]
  rw[this];refine hn _ _ ⟨_,hk,θ,D,U.put hd ?_⟩;rw[Nat.min_comm];exact aW.sc _
 cases l<;>simp only[cJ,Loc.head]at F hh
 .rename_i a0;subst F;have hm:min L.length ([]:List PV).length=0:=by simp
  have H:d=[]:=k_ (by grind);subst H;have el:((min L.length ([]:List PV).length:Nat):Int)=0:=by simp
  refine fin w st ?_ ?_;.rw[hh,R,el];rw[hm]at n2;have z:(Builtin.lenOf (.slice ad L.length v)).run P w= .ok L.length w:=rfl;cases a0<;>simp[Builtin.copy_,run_underlying hu,z,hsz,n2,storeCells]
  .have I:st.hp.set id (.vec e sz (L.take ([]:List PV).length++([]:List PV).drop L.length))=st.hp:=by apply S_;grind
   rw[I];omega
 .rename_i g m cap s O;obtain⟨rfl,rfl,h3,h4,h5,r,h6,h7,h8⟩:=F;have ur:min L.length xs.length*s<=r.size:=by rw[h7];exact f_ _ (by omega)
  have M:=run_storeCells_at P g 0 e d 0 r w h6 (by omega) n3;simp only[q_,aP_,aK_,aG_]at M;have J:=jC r 0 d (by omega);simp only[aK_,aG_,q_]at J;obtain⟨s1,s2⟩:=J;refine fin (w.setRow g (d++r.toList.drop d.length).toArray) st ?_ (C.store (w':=w.setRow g (d++r.toList.drop d.length).toArray) (l:=.nw g xs.length cap s O) A (.inl rfl) rfl rfl rfl (by simp) (λk hk=>setRow_other _ _ _ _ hk) ?_);.rw[hh,R];have z:(Builtin.lenOf (.slice ad L.length v)).run P w= .ok L.length w:=rfl;have gc:Nat.min L.length xs.length=min L.length xs.length:=rfl;simp[Builtin.copy_,run_underlying hu,z,hsz,gc,n2,M]
  .have hD:∀b,D b->(w.setRow g (d++r.toList.drop d.length).toArray).heap[b]? =w.heap[b]? :=λb hb=>setRow_other _ _ _ _ λe=>(C.ok.mX id _ g A (.inl rfl)).2 (e▸hb);refine⟨rfl,by grind,h3,h4,λp hp=>?_,_,setRow_heap _ _ _ _ _ _ h6,by omega,λi j p q hp hq=>?_⟩;.grind
   .by_cases hi:i<min L.length xs.length;.rw[j_ (by grind),z_,if_pos (by omega)]at hp;obtain⟨u,e1,T⟩:=n5 i j p q hi hp hq;refine⟨u,?_,T.mono (λ_ h=>h) hD⟩;grind
    .rw[r_ (by grind),aw_]at hp;have f:L.length+(i - (L.take xs.length).length)=i\/L.length+(i - (L.take xs.length).length)>=xs.length:=by grind
     rcases f with f|f;.rw[f]at hp;obtain⟨u,e1,T⟩:=h8 i j p q hp hq;refine⟨u,?_,T.mono (λ_ h=>h) hD⟩;have rg:min L.length xs.length*s<=i*s:=f_ _ (by omega);grind
     grind
end
section
variable {P:Program} {o:Oper} {c:Ctx} {θ:List Loc} {D:Nat->Prop} {st:St} {a:Act} {w:World}
theorem S3(O:Inv c θ D st a w)(hd:∀k,o.dst=some k->k<c.n){K KP:St->Prop}{t e:TypeId}{sz bytes:Nat}{z:Value}{x y:Operand}{cl:Call}(ho:o.op= .call cl)(Bk:cl.callee= .builtin .append)(I:cl.args= #[x,y])(ph:cl.argTypes= #[t,t]) (he:fA P t=some e) (hs:ca P e=some sz) (hb:iq P e=some bytes) (hz:d5 P e=some z) (DH:z.cells.size=sz) (h0:0<sz) (ur:0<bytes) {pl:Option Nat} (h:Fv st (.append e sz bytes (.of x) (.of y)) λob mk=>yE st pl/\K ((st.new pl ob).aF o.dst (.b (mk (st.XG pl))))):Leaves P o c K KP a w:=by
 intro next Q hn _;obtain⟨ax,hx,ay,hy,hL⟩:=h;have hX:=O.get hx;obtain⟨L,ad,m,⟨Hx,DA,At,N,R⟩,DB,Fm,DM,C⟩:=lh O.ok (O.get hy) hL;have hu:P.underlying t=some (.slice e):=by grind[fA]
 simp only[ca,d_]at hs;obtain⟨f,el,rfl⟩:=hs;have DE:f.zero=some z:=by grind[d5]
 have wr:f.bytes=bytes:=by grind[iq]
 subst wr;have fin:∀(v:Value) (w':World) (F:St),(Builtin.append_ #[t,t] o.type #[a.eval x,a.eval y]).run P w= .ok v w'->K F->i8 c F (a.put o.dst v) w'->o.wp P a w next Q:=by
  intro v w' F hr R gc;unfold Oper.wp;have:(execOp a.eval o).run P w= .ok (.value v) w':=by simp[execOp,ho,resolve,Bk,I,ph,invoke,builtin,hr]
  rw[this];exact hn _ _ ⟨F,R,gc⟩
 have M:0<L.length->∃(ab:Addr) (d:List Value),ad=some ab/\d.length=L.length*f.size/\(∀(j:Nat) (u:Value),d[j]? =some u->w.cell? (ab.add j)=some u)/\(∀u∈d,u.oneCell'=true)/\(∀p∈L,p.cells.length=f.size)/\∀(i j:Nat) (p q:PV),L[i]? =some p->p.cells[j]? =some q->∃u,d[i*f.size+j]? =some u/\aW D w u q:=by
  intro hl
  obtain⟨g,og,rfl,hg,hsz,hc⟩:=C hl
  obtain⟨d,U,n2⟩:=gp (n:=L.length*f.size) (p:=λk u=>w.cell? ⟨g,og+k,none⟩=some u/\u.oneCell'=true/\∀(p q:PV),L[k/f.size]? =some p->p.cells[k%f.size]? =some q->aW D w u q) (λk R=>by have J:k/f.size<L.length:=(C_ h0).2 R;have hj:k%f.size<f.size:=ah_ _ h0;have hp:=b_ J;have N:=hsz _ (a_ hp);have T:=b_ (l:=(L[k/f.size]).cells) (i:=k%f.size) (by omega);grind[V_,T_,P_,a_,PV.ok,n_,iC])
  refine⟨_,d,rfl,U,λj u hj=>by grind[addr_add],λu hu=>?_,hsz,λi j p q hp T=>?_⟩
  .grind[p_]
  .have hj:j<f.size:=by grind
   have J:i<L.length:=(c_.1 hp).1;have Fr:i*f.size+j<d.length:=by rw[U];have:(i+1)*f.size<=L.length*f.size:=f_ _ J;grind
   grind
 have E:∀(w':World) (r d:List Value) (xs:List PV) (Y:Array Value) (k:Nat),(∀b,D b->w'.heap[b]? =w.heap[b]?)->r.length=xs.length*f.size->Y.size=k*f.size->(∀j,j<r.length->Y[j]? =r[j]?)->(∀j,j<d.length->Y[r.length+j]? =d[j]?)->(∀p∈xs,p.cells.length=f.size)->(∀p∈L,p.cells.length=f.size)->d.length=L.length*f.size->(∀(i j:Nat) (p q:PV),xs[i]? =some p->p.cells[j]? =some q->∃u,r[i*f.size+j]? =some u/\aW D w u q)->(∀(i j:Nat) (p q:PV),L[i]? =some p->p.cells[j]? =some q->∃u,d[i*f.size+j]? =some u/\aW D w u q)->∀(i j:Nat) (p q:PV),(xs++L)[i]? =some p->p.cells[j]? =some q->∃u,Y[i*f.size+j]? =some u/\aW D w' u q:=by
  intro w' r d xs Y k B CT Fk DS BT JT DQ GS ro rn i j p q hp T
  rcases y_ i xs.length with J|J
  .rw[j_ J]at hp;obtain⟨u,e1,e2⟩:=ro i j p q hp T;exact⟨u,by grind,e2.mono (λ_ h=>h) B⟩
  .rw[r_ J]at hp;obtain⟨u,e1,e2⟩:=rn _ j p q hp T;refine⟨u,?_,e2.mono (λ_ h=>h) B⟩;have:=BT _ (c_.1 e1).1;rw[e1]at this;rw[<-this,CT];congr 1;have:i*f.size=xs.length*f.size+(i - xs.length)*f.size:=by rw[<-w_];grind
   omega
 have A:∀(k:Nat),L.length*f.bytes<=k->L.length<=k:=λk h=>E_ (D_ _ ur) h;obtain⟨s,Dg⟩:∃s,a.eval x= .slice s 0 0:=by
  rcases DA with rfl|rfl;.exact⟨none,hX⟩
  .obtain⟨h1,a0,n0,h2⟩:=hX;refine⟨a0,?_⟩;rw[h2]at h1⊢;cases h1;rfl
 have DP:L.length<=140737488355328:=A _ At;by_cases H:L.length=0;.have rg:L=[]:=k_ H;subst rg;obtain⟨θ',hp,hid⟩:=O.WL N (l:=.nil s) (o:=.vec e f.size []) (λθ' _=>rfl) (λg hg=>by cases hg);refine fin (.slice s 0 0) w _ ?_ R ⟨_,D,hp.put hd ⟨.nil s,hid,rfl⟩⟩;rw[Dg,DB];exact dK hu el s 0 0 (m_ _) ad m
 .obtain⟨ab,d,rfl,U,n2,n3,n4,n5⟩:=M (o_ H);have hr:=eX (P:=P) (w:=w) (ty:=o.type) hu el DE s ab L.length m d U n2 (o_ H) (by omega) (by omega);have CD:=grownCap_ge w L.length 0 e;have Bx:grownCap w L.length 0 e<=maxLen:=grownCap_le_maxLen w _ 0 e (by grind[maxLen]);have hcs:(d.toArray++Builtin.zeroCells z.cells (grownCap w L.length 0 e - L.length)).size=grownCap w L.length 0 e*f.size:=by simp only[L_,M_,f7,DH,U,<-w_];grind
  have B:∀b,D b->(w.drew.alloc (.cells (d.toArray++Builtin.zeroCells z.cells (grownCap w L.length 0 e - L.length)) e)).heap[b]? =w.heap[b]? :=λb hb=>eK w.drew _ b (O.ok.pn b hb);obtain⟨θ',qr,hid⟩:=O.drew.qM N (l:=.nw w.heap.size L.length (grownCap w L.length 0 e) f.size none') (o:=.vec e f.size L) (ob:=.cells (d.toArray++Builtin.zeroCells z.cells (grownCap w L.length 0 e - L.length)) e) (λ_ h=>h.elim (λh=>h) False.elim) λθ' KK=>⟨rfl,rfl,CD,Bx,n4,_,fa w.drew _,hcs,λi j p q hp T=>by have:=E _ [] d [] _ _ B (by simp) hcs (λj hj=>by grind) (λj hj=>by simp only[x_,q_];grind) (λp hp=>by grind) n4 U (λi j p q hp=>by grind) n5 i j p q (by grind) T;omega⟩
  refine fin _ _ _ ?_ R ⟨_,D,qr.put hd ⟨_,hid,rfl⟩⟩;grind
theorem Py(hI:Inv c θ D st a w)(hd:∀k,o.dst=some k->k<c.n){K KP:St->Prop}{t e:TypeId}{sz bytes:Nat}{z:Value}{x y:Operand}{cl:Call}(ho:o.op= .call cl)(Fm:cl.callee= .builtin .append)(gc:cl.args= #[x,y])(DB:cl.argTypes= #[t,t]) (he:fA P t=some e) (hs:ca P e=some sz) (M:iq P e=some bytes) (hz:d5 P e=some z) (KK:z.cells.size=sz) (h0:0<sz) (DS:0<bytes) (h:jh P st (.pi e sz bytes (.of x) (.of y)) λx=>K (st.aF o.dst x)):Leaves P o c K KP a w:=by
 intro next Q hn _;obtain⟨ax,hx,ay,hy,hL⟩:=h;have hX:=hI.get hx;obtain⟨L,ad,m,⟨PB,r,DE,ph,hk⟩,DH,Pc,MT,N⟩:=lh hI.ok (hI.get hy) hL;have hu:P.underlying t=some (.slice e):=by grind[fA]
 simp only[ca,d_]at hs;obtain⟨s,qr,rfl⟩:=hs;have DM:s.zero=some z:=by grind[d5]
 have Fk:s.bytes=bytes:=by grind[iq]
 subst Fk;have fin:∀(v:Value) (w':World) (U:St),(Builtin.append_ #[t,t] o.type #[a.eval x,a.eval y]).run P w= .ok v w'->K U->i8 c U (a.put o.dst v) w'->o.wp P a w next Q:=by
  intro v w' U hr hk Dg;unfold Oper.wp;have:(execOp a.eval o).run P w= .ok (.value v) w':=by simp[execOp,ho,resolve,Fm,gc,DB,invoke,builtin,hr]
  rw[this];exact hn _ _ ⟨U,hk,Dg⟩
 have rg:0<L.length->∃(ab:Addr) (f:List Value),ad=some ab/\f.length=L.length*s.size/\(∀(j:Nat) (u:Value),f[j]? =some u->w.cell? (ab.add j)=some u)/\(∀u∈f,u.oneCell'=true)/\(∀p∈L,p.cells.length=s.size)/\∀(i j:Nat) (p q:PV),L[i]? =some p->p.cells[j]? =some q->∃u,f[i*s.size+j]? =some u/\aW D w u q:=by
  intro hl
  obtain⟨g,og,rfl,hg,hsz,hc⟩:=N hl
  obtain⟨f,F,n2⟩:=gp (n:=L.length*s.size) (p:=λk u=>w.cell? ⟨g,og+k,none⟩=some u/\u.oneCell'=true/\∀(p q:PV),L[k/s.size]? =some p->p.cells[k%s.size]? =some q->aW D w u q) (λk hk=>by
   have C:k/s.size<L.length:=(C_ h0).2 hk;have E:k%s.size<s.size:=ah_ _ h0;have hp:=b_ C;have JT:=hsz _ (a_ hp);have A:=b_ (l:=(L[k/s.size]).cells) (i:=k%s.size) (by omega);obtain⟨u,B,Y⟩:=hc _ _ _ _ hp A;refine⟨u,?_,?_,λp q ur wr=>?_⟩;.rw[<-B,V_,T_,P_]
   all_goals grind[a_,PV.ok,n_,iC])
  refine⟨_,f,rfl,F,λj u E=>by grind[addr_add],λu hu=>?_,hsz,λi j p q hp A=>?_⟩
  .grind[p_]
  .have E:j<s.size:=by grind
   have C:i<L.length:=(c_.1 hp).1;have Hx:i*s.size+j<f.length:=by rw[F];have:(i+1)*s.size<=L.length*s.size:=f_ _ C;grind
   grind
 have T:∀(w':World) (d f:List Value) (xs:List PV) (cv:Array Value) (k:Nat),(∀b,D b->w'.heap[b]? =w.heap[b]?)->d.length=xs.length*s.size->cv.size=k*s.size->(∀j,j<d.length->cv[j]? =d[j]?)->(∀j,j<f.length->cv[d.length+j]? =f[j]?)->(∀p∈xs,p.cells.length=s.size)->(∀p∈L,p.cells.length=s.size)->f.length=L.length*s.size->(∀(i j:Nat) (p q:PV),xs[i]? =some p->p.cells[j]? =some q->∃u,d[i*s.size+j]? =some u/\aW D w u q)->(∀(i j:Nat) (p q:PV),L[i]? =some p->p.cells[j]? =some q->∃u,f[i*s.size+j]? =some u/\aW D w u q)->∀(i j:Nat) (p q:PV),(xs++L)[i]? =some p->p.cells[j]? =some q->∃u,cv[i*s.size+j]? =some u/\aW D w' u q:=by
  intro w' d f xs cv k I O Pb Pa Fr Bk Nd PA ro rn i j p q hp A
  rcases y_ i xs.length with C|C
  .rw[j_ C]at hp;obtain⟨u,B,Y⟩:=ro i j p q hp A;exact⟨u,by grind,Y.mono (λ_ h=>h) I⟩
  .rw[r_ C]at hp;obtain⟨u,B,Y⟩:=rn _ j p q hp A;refine⟨u,?_,Y.mono (λ_ h=>h) I⟩;have:=Fr _ (c_.1 B).1;rw[B]at this;rw[<-this,O];congr 1;have:i*s.size=xs.length*s.size+(i - xs.length)*s.size:=by rw[<-w_];grind
   omega
 have DP:r.length+L.length<=140737488355328:=E_ (D_ _ DS) ph;obtain⟨H,At,CT⟩:∃H:Option Addr,a.eval x= .slice H r.length r.length/\(0<r.length->∃b o',H=some ⟨b,o',none⟩/\(∀p∈r,p.cells.length=s.size)/\∃d:List Value,d.length=r.length*s.size/\(∀(j:Nat) (u:Value),d[j]? =some u->w.cell? ⟨b,o'+j,none⟩=some u)/\∀(i j:Nat) (p q:PV),r[i]? =some p->p.cells[j]? =some q->∃u,d[i*s.size+j]? =some u/\aW D w u q):=by
  rcases DE with⟨rfl,rfl⟩|rfl
  .exact⟨none,hX,λh=>absurd h (by simp)⟩
  .obtain⟨h1,H,n0,h2⟩:=hX;obtain⟨a1,cap,B,Y,e3⟩:=nO h1;rw[h2]at B;cases B;refine⟨H,h2,λhl=>?_⟩;obtain⟨b,o',rfl,M,hsz,hc⟩:=e3 hl;obtain⟨d,F,n2⟩:=gp (n:=r.length*s.size) (p:=λk u=>w.cell? ⟨b,o'+k,none⟩=some u/\∀(p q:PV),r[k/s.size]? =some p->p.cells[k%s.size]? =some q->aW D w u q) (λk hk=>by
    have C:k/s.size<r.length:=(C_ h0).2 hk;have E:k%s.size<s.size:=ah_ _ h0;have hp:=b_ C;have JT:=hsz _ (a_ hp);have A:=b_ (l:=(r[k/s.size]).cells) (i:=k%s.size) (by omega);obtain⟨u,B,Y⟩:=hc _ _ _ _ hp A;refine⟨u,?_,λp q ur wr=>?_⟩;.rw[<-B,V_,T_,P_]
    .rw[hp]at ur;cases ur;rw[A]at wr;cases wr;omega)
   refine⟨b,o',rfl,hsz,d,F,λj u E=>(n2 j u E).1,λi j p q hp A=>?_⟩;have E:j<s.size:=by rw[<-hsz p (a_ hp)];exact(c_.1 A).1
   have C:i<r.length:=(c_.1 hp).1;have Hx:i*s.size+j<d.length:=by rw[F];have:(i+1)*s.size<=r.length*s.size:=f_ _ C;rw[w_,ak_]at this;omega
   grind
 by_cases J:L.length=0
 .have el:L=[]:=k_ J;subst el;refine fin (.slice H r.length r.length) w _ ?_ hk ⟨θ,D,hI.put hd ?_⟩;.rw[At,DH];exact dK hu qr H _ _ (m_ _) ad m
  .rw[an_];rcases DE with⟨rfl,rfl⟩|rfl;.exact .nil _ _
   .obtain⟨h1,_⟩:=hX;rw[At]at h1;exact h1
 .obtain⟨ab,f,rfl,F,n2,n3,n4,n5⟩:=rg (o_ J);have grow:∀(d:List Value),d.length=r.length*s.size->(∀p∈r,p.cells.length=s.size)->(∀(i j:Nat) (p q:PV),r[i]? =some p->p.cells[j]? =some q->∃u,d[i*s.size+j]? =some u/\aW D w u q)->(Builtin.append_ #[t,t] o.type #[.slice H r.length r.length,.slice (some ab) L.length m]).run P w= .ok (.slice (some ⟨w.heap.size,0,none⟩) (r.length+L.length) (grownCap w (r.length+L.length) r.length e)) (w.drew.alloc (.cells (d.toArray++f.toArray++Builtin.zeroCells z.cells (grownCap w (r.length+L.length) r.length e - (r.length+L.length))) e))->o.wp P a w next Q:=by
   intro d O Bk ro DA
   have GS:=grownCap_ge w (r.length+L.length) r.length e
   have hcs:(d.toArray++f.toArray++Builtin.zeroCells z.cells (grownCap w (r.length+L.length) r.length e - (r.length+L.length))).size=grownCap w (r.length+L.length) r.length e*s.size:=by simp only[L_,M_,f7,KK,O,F,<-w_];congr 1;omega
   generalize R:w.drew.alloc (.cells (d.toArray++f.toArray++Builtin.zeroCells z.cells (grownCap w (r.length+L.length) r.length e - (r.length+L.length))) e)=w' at DA
   have I:∀b,D b->w'.heap[b]? =w.heap[b]? :=λb M=>by rw[<-R];exact eK w.drew _ b (hI.ok.pn b M)
   have CD:w'.heap[w.heap.size]? =some (.cells (d.toArray++f.toArray++Builtin.zeroCells z.cells (grownCap w (r.length+L.length) r.length e - (r.length+L.length))) e):=by rw[<-R];exact fa w.drew _
   have BT:w.heap.size<w'.heap.size:=by rw[<-R];simp
   have DQ:=hI.drew.below (D':=λb=>D b\/(w.heap.size<=b/\b<w'.heap.size)) (w':=w') (by rw[<-R];exact jI w.drew _) hI.Ci (λb M=>.inl M) (λb M=>M)
   refine fin (.slice (some ⟨w.heap.size,0,none⟩) (r.length+L.length) (grownCap w (r.length+L.length) r.length e)) w' _ ?_ hk ⟨θ,_,DQ.put hd ?_⟩
   .rw[At,DH];omega
   .have hh:aW (λb=>D b\/(w.heap.size<=b/\b<w'.heap.size)) w' (.slice (some ⟨w.heap.size,0,none⟩) (r++L).length (grownCap w (r.length+L.length) r.length e)) (kZ s.size (r++L)):=by
     refine gu (by simpa using GS) λ_=>⟨w.heap.size,0,rfl,.inr ⟨m_ _,BT⟩,λp hp=>(K_.1 hp).elim (Bk p) (n4 p),λi j p q hp A=>?_⟩;obtain⟨u,B,Y⟩:=T w' d f r _ _ I O hcs (λj E=>by rw[l_ (by simp;omega),l_ (by omega)];simp) (λj E=>by rw[l_ (by simp;omega),R_ (by simp)];simp) Bk n4 F ro n5 i j p q hp A
     refine⟨u,?_,Y.mono (λb M=>.inl M) (λ_ _=>rfl)⟩;rw[q_,cell_of_row _ _ _ _ e (0,0) CD];omega
    rw[W_]at hh;exact hh
  by_cases Bx:r.length=0;.have el:r=[]:=k_ Bx;subst el;have hr:=eX (P:=P) (w:=w) (ty:=o.type) hu qr DM H ab L.length m f F n2 (o_ J) (by omega) (by simp only[x_,q_]at ph;omega);refine grow [] (by simp) (λp hp=>by cases hp) (λi j p q hp=>by simp at hp) ?_;simpa using hr
  .obtain⟨b,o',rfl,hsz,d,m1,m2,m3⟩:=CT (o_ Bx);have q1:0<L.length:=o_ J;have q2:r.length<r.length+L.length:=Nat.lt_add_of_pos_right q1;have q3:0<r.length+L.length:=Nat.add_pos_right _ q1;have q4:r.length+L.length<=9223372036854775807:=E_ DP (by simp);have q5:((r.length+L.length:Nat):Int)<=9223372036854775807:=Int.ofNat_le.2 q4;have hr:=run_append_grow (P:=P) w t o.type e s z hu qr DM ⟨b,o',none⟩ r.length r.length d m1 (λj u E=>by rw[addr_add];exact m2 j u E) ab L.length m f F n2 (by omega) (by omega) (growslice_fits (by omega) ph);exact grow d m1 hsz m3 hr
end
section
variable {P:Program} {o:Oper} {c:Ctx} {θ:List Loc} {D:Nat->Prop} {st:St} {a:Act} {w:World}
end
section
variable {P:Program} {o:Oper} {c:Ctx} {θ:List Loc} {D:Nat->Prop} {st:St} {a:Act} {w:World}
theorem jG{a:Type}{xs:Array a}{x:a}(h:xs.toList=[x]):xs= #[x]:=by apply aJ_;simpa using h
theorem jH{a:Type}{xs:Array a}{x y:a}(h:xs.toList=[x,y]):xs= #[x,y]:=by apply aJ_;simpa using h
theorem bm{s s':fv}(a:∀k q,s≠.uj k q)(h:s.canon=s')(h1:∀e z l c,s'≠.bQ false e z l c)(h2:∀f xs,s'≠.call false f xs)(d:∀t x,s'≠.box t x)(g:∀x xs,s'≠.fz false [] x xs)(j:∀e z b x y,s'≠.append e z b x y)(n:∀e z b v x y,s'≠.cU e z b v x y:=by simp):s=s':=by cases s<;>simp only[fv.canon]at h<;>first|omega|grind|grind|grind|grind|grind|grind|grind
theorem ov(f:Inv c θ D st a w){q:Option Operand}{b:Nat}{e:Nat->Prop}(h:pN st (q.map SX.of) b e): ∃n,e n/\((q=none/\n=b)\/∃x k,∃m:Int,q=some x/\a.eval x= .int k m/\0<=m/\n=m.toNat):=by cases q with|none=>exact⟨b,h,.inl ⟨rfl,rfl⟩⟩|some x=>obtain⟨g,d,h⟩:=h;obtain⟨k,m,p,j,l⟩:=c9 (f.get d) h;grind
theorem iQ{k:IntKind}{m:Int}{y:Nat}{code:BoundsCode}(a:0<=m)(h1:m.toNat<=y):(Instr.sliceBound (.int k m) y code).run P w= .ok m.toNat w:=by
 have h2:m<=(y:Int):=by omega
 simp only[Instr.sliceBound,asIntOf,Sem.run_bind,Sem.run_pure,Result.andThen_ok];rw[if_pos ⟨a,h2⟩];rfl
theorem xg(z:Inv c θ D st a w){lo e mx:Option Operand}{isS:Bool}{len cap l h m:Nat} (hl:(lo=none/\l=0)\/∃x k,∃m:Int,lo=some x/\a.eval x= .int k m/\0<=m/\l=m.toNat) (p:(e=none/\h=len)\/∃x k,∃m:Int,e=some x/\a.eval x= .int k m/\0<=m/\h=m.toNat) (r:(mx=none/\m=len)\/∃x k,∃m':Int,mx=some x/\a.eval x= .int k m'/\0<=m'/\m=m'.toNat) (s:mx.isSome=true->e.isSome=true) (h1:l<=h) (h2:h<=m) (u:m<=len) (v:len<=cap):(Instr.sliceBounds isS len cap (lo.map a.eval) (e.map a.eval) (mx.map a.eval)).run P w= .ok (l,h,if mx.isSome then m else cap) w:=by
 rcases r with⟨rfl,rfl⟩|⟨L,C,H,rfl,j,n,rfl⟩<;>rcases p with⟨rfl,rfl⟩|⟨J,B,F,rfl,b,d,rfl⟩<;>rcases hl with⟨rfl,rfl⟩|⟨I,A,E,rfl,f,g,rfl⟩;.simp[Instr.sliceBounds]
 .simp[Instr.sliceBounds,f,iQ g h1]
 .simp[Instr.sliceBounds,b,iQ (y:=cap) d (by omega)]
 .simp[Instr.sliceBounds,b,f,iQ (y:=cap) d (by omega),iQ g h1]
 .grind
 .grind
 .simp[Instr.sliceBounds,j,b,iQ (y:=cap) n (by omega),iQ d h2]
 .simp[Instr.sliceBounds,j,b,f,iQ (y:=cap) n (by omega),iQ d h2,iQ g h1]
theorem TJ(d:Inv c θ D st a w){K:AV->Prop}{t e:TypeId}{sz:Nat}{x:Operand}{lo E mx:Option Operand}(O:o.op= .slice t x lo E mx)(ht:P.underlying t=some (.slice e))(hs:ca P e=some sz) (h:jh P st (.Im sz (.of x) (lo.map .of) (E.map .of) (mx.map .of)) K):Yields P o a w (sx c θ st a K):=by
 obtain⟨ax,T,⟨q,R,L,rfl,f⟩|⟨id,rfl,o',I,e',k',L,g',rfl,f⟩⟩:=h
 rotate_left
 .obtain⟨n,b,cap,hn,hcap,M⟩:∃n b cap,n=L.length/\n<=cap/\a.eval x= .slice b n cap:=by obtain⟨l,hl,z⟩:=d.get T;have J:=d.ok.fO id l _ hl I;cases l<;>simp only[cJ,Loc.head]at J z;all_goals grind
  obtain⟨l,f,hl⟩:=ov d f;obtain⟨h,f,z⟩:=ov d f;obtain⟨m,⟨H,h1,h2,C,rfl,u⟩,F⟩:=ov d f;subst hn;have hr:=xg (P:=P) (isS:=true) d hl z F (by grind) h1 h2 C hcap;refine aL d (v:=.slice (if(if mx.isSome then m else cap)=h then b else b.map (·.add (h*sz))) 0 ((if mx.isSome then m else cap) - h)) ?_ u (.nil _ _);simp only[execOp,O,Instr.sliceAt,Sem.run_bind,run_underlying ht,Result.andThen_ok,Instr.slice,M,hr,run_sizeOf hs,Sem.run_pure,Nat.sub_self]
 obtain⟨b,cap,M,hcap,k⟩:=nO (cX (d.get T) R);obtain⟨l,f,hl⟩:=ov d f;obtain⟨hn,f,z⟩:=ov d f;obtain⟨m,⟨H,h1,h2,C,u⟩,F⟩:=ov d f;have B:mx.isSome=true->E.isSome=true:=by grind
 have hr:=xg (P:=P) (isS:=true) d hl z F B h1 h2 C hcap;generalize Y:(if mx.isSome then m else cap)=y at hr;have N:hn<=y/\y<=cap:=by grind
 have s:(execOp a.eval o).run P w= .ok (.value (.slice (if y=l then b else b.map (·.add (l*sz))) (hn - l) (y - l))) w:=by simp only[execOp,O,Instr.sliceAt,Sem.run_bind,run_underlying ht,Result.andThen_ok,Instr.slice,M,hr,run_sizeOf hs,Sem.run_pure]
 have r:aW D w (.slice (if y=l then b else b.map (·.add (l*sz))) (hn - l) (y - l)) (kZ sz ((L.take hn).drop l)):=by
  have A:((L.take hn).drop l).length=hn - l:=by grind
  rw[<-A];refine gu (by omega) λQ=>?_;obtain⟨g,og,rfl,hg,hsz,hc⟩:=k (by omega);rw[if_neg (by omega)];refine⟨g,og+l*sz,by simp[addr_add],hg,λp hp=>hsz p (List.mem_of_mem_take (List.mem_of_mem_drop hp)),λi j p q hp R=>?_⟩;all_goals grind
 rcases u with u|⟨el,U,u⟩;.exact aL d s u r
 .refine aL d (x:=.b (.full (kZ sz ((L.take hn).drop l)))) s u ⟨r,(if y=l then b else b.map (·.add (l*sz))),hn - l,?_⟩;grind
theorem PX(b:Inv c θ D st a w){K:AV->Prop}{t:TypeId}{x:Operand}{lo e:Option Operand}(j:o.op= .slice t x lo e none)(ht:P.underlying t=some .string) (h:jh P st (.qw (.of x) (lo.map .of) (e.map .of)) K):Yields P o a w (sx c θ st a K):=by obtain⟨p,n,k⟩:=h;obtain⟨s,hs,d⟩:=c9 (b.get n) k;obtain⟨l,d,hl⟩:=ov b d;obtain⟨hn,⟨h1,h2,g⟩,f⟩:=ov b d;have hr:=xg (P:=P) (isS:=false) b hl f (.inl ⟨rfl,rfl⟩) (by simp) h1 h2 (m_ _) (m_ _);refine aL b ?_ g (aW.sc _);simp only[Option.map_none]at hr;simp[execOp,j,Instr.sliceAt,run_underlying ht,Instr.slice,hs,hr]
end
section
variable {P:Program} {o:Oper} {c:Ctx} {θ:List Loc} {D:Nat->Prop} {st:St} {a:Act} {w:World}
theorem Ot{s:fv}{f:FuncId}{xs:List SX}(a:∀k q,s≠.uj k q)(h:s.canon= .call false f xs):(∃b,s= .call b f xs)\/∃b B,s= .gF b B f xs:=by cases s<;>simp_all[fv.canon]
theorem Lv{s:fv}{x:SX}{xs:List SX}(a:∀k q,s≠.uj k q)(h:s.canon= .fz false [] x xs):(∃b B,s= .fz b B x xs)\/∃b,s= .hZ b x xs:=by cases s<;>simp_all[fv.canon]
theorem Sw{s:fv}{e:TypeId}{x:SX}(a:∀k q,s≠.uj k q)(h:s.canon= .box e x):s= .box e x\/s= .pW e x:=by cases s<;>simp_all[fv.canon]
theorem I7{s:fv}{e:TypeId}{z l:Nat}{xs:List SX}(a:∀k q,s≠.uj k q)(h:s.canon= .bQ false e z l xs):(∃b,s= .bQ b e z l xs)\/s= .eE e z l xs:=by cases s<;>simp_all[fv.canon]
theorem I8{s:fv}{e:TypeId}{z b:Nat}{v:Value}{x y:SX}(a:∀k q,s≠.uj k q)(h:s.canon= .cU e z b v x y):s= .cU e z b v x y\/∃k,s= .d6 k e z b v x y:=by cases s<;>simp_all[fv.canon]
theorem I6{s:fv}{e:TypeId}{z b:Nat}{x y:SX}(a:∀k q,s≠.uj k q)(h:s.canon= .append e z b x y):s= .append e z b x y\/s= .pi e z b x y\/∃k,s= .pj k e z b x y:=by cases s<;>simp_all[fv.canon]
def sOk(P:Program)(o:Oper):Bool:=match o.op with
 | .binOp _ t _ _ _=>match P.underlying t with
  |some (.struct _)=> !P.eqGuardType P.depth t
  |_=>true
 | .makeInterface t _=>match P.underlying t with
  |some (.interface _)=>false
  |some _=>true
  |none=>false
 | .panic x=>match x with
  | .tmp _=>true
  |_=>false
 |_=>true
theorem Gd(r:Inv c θ D st a w)(hd:∀k,o.dst=some k->k<c.n){s:fv}{K KP:St->Prop}(g:∀k q,s≠.uj k q)(hc:gX P o=some s.canon)(Y:sOk P o=true)(h:cN P o.dst s st K KP):Leaves P o c K KP a w:=by
 have d:Yields P o a w (sx c θ st a λx=>K (st.aF o.dst x))->Leaves P o c K KP a w:=λhy=>Ax hd hy λ_ h=>h;unfold gX at hc;split at hc;.rename_i x j;cases bm g (h_ hc).symm (by simp) (by simp) (by simp) (by simp) (by simp);exact d (Ns r (.inl j) h)
 .rename_i x j;cases bm g (h_ hc).symm (by simp) (by simp) (by simp) (by simp) (by simp);exact d (Ns r (.inr j) h)
 .rename_i x y z j;cases bm g (h_ hc).symm (by simp) (by simp) (by simp) (by simp) (by simp);exact d (PW r j h)
 .rename_i op t x y t' j;split at hc;.cases bm g (h_ hc).symm (by simp) (by simp) (by simp) (by simp) (by simp);exact d (Ip r j h)
  .cases bm g (h_ hc).symm (by simp) (by simp) (by simp) (by simp) (by simp);exact d (Ip r j h)
  .rename_i ht;split at hc;.cases bm g (h_ hc).symm (by simp) (by simp) (by simp) (by simp) (by simp);exact d (Iq (neg:=false) r j ht h)
   .cases bm g (h_ hc).symm (by simp) (by simp) (by simp) (by simp) (by simp);exact d (Iq (neg:=true) r j ht h)
   grind
  .rename_i fs ht;have hg:P.eqGuardType P.depth t=false:=by grind[sOk]
   split at hc;.cases bm g (h_ hc).symm (by simp) (by simp) (by simp) (by simp) (by simp);exact d (Ir (neg:=false) r j rfl ht hg h)
   .cases bm g (h_ hc).symm (by simp) (by simp) (by simp) (by simp) (by simp);exact d (Ir (neg:=true) r j rfl ht hg h)
   grind
  grind
 .rename_i op t x j;cases bm g (h_ hc).symm (by simp) (by simp) (by simp) (by simp) (by simp);exact d (Xi r j h)
 .rename_i cl j;split at hc
  .rename_i A;split at hc
   .rename_i x t p C;split at hc;.rename_i e ht;cases bm g (h_ hc).symm (by simp) (by simp) (by simp) (by simp) (by simp);exact d (TH r j A (jG p) (jG C) ht h)
    .rename_i ht;cases bm g (h_ hc).symm (by simp) (by simp) (by simp) (by simp) (by simp);exact d (PP r j A (jG p) (jG C) ht h)
    .rename_i n e ht;cases bm g (h_ hc).symm (by simp) (by simp) (by simp) (by simp) (by simp);refine d (Np r ?_ h);simp[execOp,j,resolve,A,jG p,jG C,invoke,builtin,Builtin.len_,run_underlying ht,goInt]
    .rename_i k e ht;cases bm g (h_ hc).symm (by simp) (by simp) (by simp) (by simp) (by simp);exact d (PN r j A (jG p) (jG C) ht h)
    grind
   grind
  .rename_i A;split at hc
   .rename_i x y t u p C;split at hc
    .rename_i R;subst R;simp only[e_]at hc;obtain⟨e,I,s',hs,b,N,z,H,hc⟩:=hc;split at hc
     .rename_i E;obtain⟨h1,h2,M⟩:=E;rcases I6 g (h_ hc).symm with rfl|rfl|⟨k,rfl⟩;.exact Ki r hd j A (jH p) (jH C) I hs N H h1 h2 M h
      .exact Py r hd j A (jH p) (jH C) I hs N H h1 h2 M h
      grind[Pz,jH]
     grind
    grind
   grind
  .rename_i A;split at hc
   .rename_i x y t u p C;simp only[e_]at hc;obtain⟨e,I,e',U,s',hs,hc⟩:=hc;split at hc;.rename_i E;obtain⟨rfl,h0⟩:=E;cases bm g (h_ hc).symm (by simp) (by simp) (by simp) (by simp) (by simp);grind[PE,jH]
    grind
   grind
  .rename_i A;split at hc
   .rename_i x ys t l p C;split at hc;.cases bm g (h_ hc).symm (by simp) (by simp) (by simp) (by simp) (by simp);exact d (Fw (mx:=false) r j A p h)
    grind
   grind
  .rename_i A;split at hc
   .rename_i x ys t l p C;split at hc;.cases bm g (h_ hc).symm (by simp) (by simp) (by simp) (by simp) (by simp);exact d (Fw (mx:=true) r j A p h)
    grind
   grind
  .rename_i f A;split at hc
   .rename_i L;rcases Ot g (h_ hc).symm with⟨bor,rfl⟩|⟨bor,B,rfl⟩;.exact PD r hd j A L h
    grind[Nm]
   grind
  .rename_i t A;rcases Lv g (h_ hc).symm with⟨bor,B,rfl⟩|⟨bor,rfl⟩;.grind[No]
   .exact Nn r hd j A h
  grind
 .rename_i t x i j;split at hc;.rename_i ht;cases bm g (h_ hc).symm (by simp) (by simp) (by simp) (by simp) (by simp);exact d (PL r j ht h)
  .rename_i n e ht;split at hc;.rename_i F;obtain⟨O,F⟩:=v_.1 F;simp only[d_]at hc;obtain⟨sz,hs,hc⟩:=hc;cases bm g hc.symm (by simp) (by simp) (by simp) (by simp) (by simp);exact d (PM r j ht F hs h)
   grind
  grind
 .rename_i t x i j;split at hc;.rename_i e ht;simp only[d_]at hc;obtain⟨sz,hs,hc⟩:=hc;cases bm g hc.symm (by simp) (by simp) (by simp) (by simp) (by simp);exact d (PH r j ht hs h)
  .rename_i n e ht;simp only[d_]at hc;obtain⟨sz,hs,hc⟩:=hc;cases bm g hc.symm (by simp) (by simp) (by simp) (by simp) (by simp);exact d (PK r j ht hs h)
  grind
 .rename_i t x f j;simp only[e_]at hc;obtain⟨T,L,sz,hs,hc⟩:=hc;split at hc;.grind
  .rename_i hsz;cases bm g (h_ hc).symm (by simp) (by simp) (by simp) (by simp) (by simp);exact d (PG r j L hs hsz h)
 .rename_i t x f j;simp only[e_]at hc;obtain⟨T,L,hc⟩:=hc;split at hc;.rename_i F;obtain⟨O,F⟩:=v_.1 F;simp only[d_]at hc;obtain⟨sz,hs,hc⟩:=hc;cases bm g hc.symm (by simp) (by simp) (by simp) (by simp) (by simp);exact d (TG r j L F hs h)
  grind
 .rename_i t x j;simp only[e_]at hc;obtain⟨sz,hs,hc⟩:=hc;split at hc;.rename_i F;obtain⟨O,F⟩:=v_.1 F;cases bm g (h_ hc).symm (by simp) (by simp) (by simp) (by simp) (by simp);exact d (PQ r j F hs h)
  grind
 .rename_i t x v j;simp only[d_]at hc;obtain⟨sz,hs,hc⟩:=hc;cases bm g hc.symm (by simp) (by simp) (by simp) (by simp) (by simp);have J:o.dst=none:=by obtain⟨_,_,_,_,h1,_⟩:=h;omega
  grind[Nu]
 .rename_i e j;simp only[d_]at hc;obtain⟨z,H,hc⟩:=hc;cases bm g hc.symm (by simp) (by simp) (by simp) (by simp) (by simp);grind[Nk]
 .rename_i e x j;rcases Sw g (h_ hc).symm with rfl|rfl;.grind[TB]
  .exact PC r hd j h
 .rename_i t parts j;simp only[e_,d_]at hc;obtain⟨z,H,ps,Q,hc⟩:=hc;cases bm g hc.symm (by simp) (by simp) (by simp) (by simp) (by simp);exact d (Nl r j H Q h)
 .rename_i t len parts j;simp only[e_]at hc;obtain⟨e,I,sz,hs,z,H,hc⟩:=hc;split at hc
  .rename_i E;obtain⟨h1,h2⟩:=E;rcases I7 g (h_ hc).symm with⟨own,rfl⟩|rfl
   rotate_left
   .exact G5 r hd j I hs H h1 h2 h
   cases own;.exact Kj r hd j I hs H h1 h2 h
   grind[G6]
  grind
 .rename_i t l m j;simp only[e_,d_]at hc;obtain⟨e,I,sz,hs,b,N,z,H,hc⟩:=hc;rcases I8 g hc.symm with rfl|⟨k,rfl⟩;.exact Kl r hd j I hs N H h
  grind[G7]
 .rename_i s' O x j;split at hc;.rename_i ds k h1 h2;cases bm g (h_ hc).symm (by simp) (by simp) (by simp) (by simp) (by simp);exact d (PF r j h1 h2 h)
  .rename_i e h1 h2;split at hc;.rename_i M;cases bm g (h_ hc).symm (by simp) (by simp) (by simp) (by simp) (by simp);exact d (TA r j h1 h2 M h)
   grind
  grind
 .rename_i t x lo hi mx j;split at hc;.rename_i e ht;simp only[d_]at hc;obtain⟨sz,hs,hc⟩:=hc;cases bm g hc.symm (by simp) (by simp) (by simp) (by simp) (by simp);exact d (TJ r j ht hs h)
  .rename_i ht;split at hc;.cases bm g (h_ hc).symm (by simp) (by simp) (by simp) (by simp) (by simp);exact d (PX r j ht h)
   grind
  grind
 .rename_i x i j;cases bm g (h_ hc).symm (by simp) (by simp) (by simp) (by simp) (by simp);exact d (TE r j h)
 .rename_i x j;cases bm g (h_ hc).symm (by simp) (by simp) (by simp) (by simp) (by simp);exact d (PU r j h)
 .rename_i f first caps j
  split at hc;.rename_i E;simp only[F_]at E;cases bm g (h_ hc).symm (by simp) (by simp) (by simp) (by simp) (by simp);exact d (PT r j (by grind) h)
  grind
 .rename_i t j;split at hc;.cases bm g (h_ hc).symm (by simp) (by simp) (by simp) (by simp) (by simp);grind[Nr]
  grind
 .rename_i t m x ok j;split at hc;.rename_i k e ht;simp only[d_]at hc;obtain⟨z,H,hc⟩:=hc;cases bm g hc.symm (by simp) (by simp) (by simp) (by simp) (by simp);exact d (Kk r j ht H h)
  grind
 .rename_i t m x v j;split at hc
  .rename_i k e ht;cases bm g (h_ hc).symm (by simp) (by simp) (by simp) (by simp) (by simp);have J:o.dst=none:=by obtain⟨_,_,_,_,_,_,_,_,_,_,_,_,_,_,h1,_⟩:=h;omega
   grind[y9]
  grind
 .rename_i t m x v j;split at hc
  .rename_i k e ht;cases bm g (h_ hc).symm (by simp) (by simp) (by simp) (by simp) (by simp);have J:o.dst=none:=by obtain⟨_,_,_,_,_,_,_,_,_,_,_,_,_,_,h1,_⟩:=h;omega
   exact y9 r J (.inr j) ht h
  grind
 .rename_i x j;cases bm g (h_ hc).symm (by simp) (by simp) (by simp) (by simp) (by simp);grind[Nt]
 .rename_i t x j;cases bm g (h_ hc).symm (by simp) (by simp) (by simp) (by simp) (by simp);refine d (Nq r j ?_ h);grind[sOk]
 grind
theorem Oy{t:TypeId}{zl:List Value}(hc:gX P o=some (.alloc t zl)):∃z,o.op= .alloc t/\d5 P t=some z/\zl=z.cells.toList:=by
 unfold gX at hc
 (repeat' split at hc)<;>simp_all[e_]
 grind
theorem Vd{t:TypeId}{x:SX}(hc:gX P o=some (.box t x)):∃y,o.op= .box t y/\x= .of y:=by
 unfold gX at hc
 (repeat' split at hc)<;>simp_all[e_]
theorem Oz{k e:TypeId}(hc:gX P o=some (.ik k e)):∃t,o.op= .makeMap t none:=by
 unfold gX at hc
 (repeat' split at hc)<;>simp_all[e_]
theorem LA{own:Bool}{e:TypeId}{sz len:Nat}{xs:List SX}(hc:gX P o=some (.bQ own e sz len xs)):∃t parts z,o.op= .buildSlice t len parts/\fA P t=some e/\ca P e=some sz/\d5 P e=some z/\oM parts.toList=true/\z.cells.size=sz/\xs=parts.toList.map λq=>SX.of q.2:=by
 unfold gX at hc
 (repeat' split at hc)<;>simp_all[e_]
 grind
theorem LB{e:TypeId}{sz b:Nat}{z:Value}{l m:SX}(hc:gX P o=some (.cU e sz b z l m)):∃t x y,o.op= .makeSlice t x y/\fA P t=some e/\ca P e=some sz/\iq P e=some b/\d5 P e=some z/\l= .of x/\m= .of y:=by
 unfold gX at hc
 (repeat' split at hc)<;>simp_all[e_]
 grind
theorem Lz{e:TypeId}{sz b:Nat}{l m:SX}(hc:gX P o=some (.append e sz b l m)):∃cl x y t z,o.op= .call cl/\cl.callee= .builtin .append/\cl.args= #[x,y]/\cl.argTypes= #[t,t]/\fA P t=some e/\ca P e=some sz/\iq P e=some b/\d5 P e=some z/\z.cells.size=sz/\0<sz/\0<b/\l= .of x/\m= .of y:=by
 unfold gX at hc
 (repeat' split at hc)<;>simp_all[e_]
 rename_i cl _ k _ _ x y t u f g n;obtain⟨j,h1,s',h2,b',c,h,d,a,rfl,rfl,rfl,rfl,rfl⟩:=hc;exact⟨x,y,jH f,u,jH g,h1,h2,c,h,d,a.1,a.2.1,a.2.2,rfl,rfl⟩
theorem Xh(n:Inv c θ D st a w)(hd:∀k,o.dst=some k->k<c.n){k:Nat}{q:fv}{K KP:St->Prop}(hc:gX P o=some q.canon)(h:cN P o.dst (.uj k q) st K KP):Leaves P o c K KP a w:=by
 cases q with
 |alloc t zl=>obtain⟨z,d,g,rfl⟩:=Oy hc;exact MA n hd d g h
 |box t x=>obtain⟨y,d,rfl⟩:=Vd hc;exact V1 n hd d h
 |ik t e=>obtain⟨t,d⟩:=Oz hc;exact MB n hd d h
 |bQ own e sz len xs=>cases own with|false=>exact h.elim|true=>obtain⟨t,parts,z,d,p,hs,g,r,j,rfl⟩:=LA hc;exact H2 n hd d p hs g r j h
 |cU e sz b z l m=>obtain⟨t,x,y,d,p,hs,u,g,rfl,rfl⟩:=LB hc;exact H3 n hd d p hs u g h
 |append e sz b l m=>obtain⟨cl,x,y,t,z,d,A,f,s,p,hs,u,g,j,B,v,rfl,rfl⟩:=Lz hc;exact S3 n hd d A f s p hs u g j B v h
 |_=>exact h.elim
theorem xJ(d:Inv c θ D st a w)(hd:∀k,o.dst=some k->k<c.n){s:fv}{K KP:St->Prop}(hc:gX P o=some s.canon)(f:sOk P o=true)(h:cN P o.dst s st K KP):Leaves P o c K KP a w:=by
 by_cases b:∀k q,s≠.uj k q;.grind[Gd]
 .have:∃k q,s= .uj k q:=J_ λhn=>b λk q e=>hn ⟨k,q,e⟩;obtain⟨k,q,rfl⟩:=this;exact Xh d hd (q:=q) hc h
def td(P:Program)(n:Nat)(ops:Array Oper)(o:Oper)(s:bc):Prop:=
 (gX P o=some s.op.canon/\sOk P o=true)/\s.dst=o.dst/\(∀k,o.dst=some k->k<n)/\
  match o.guard with
  |none=>s.gd=none
  |some (j,want)=>∃t,(ops[j]?).bind (·.dst)=some t/\s.gd=some (t,want)
theorem P9{ops:Array Oper}{j t:Nat}(ht:(ops[j]?).bind (·.dst)=some t)(tmps:Array Value):yielded ops tmps j=yv (tmps.getD t undef):=by
 unfold yielded;rw[ht];simp;rcases y_ t tmps.size with h|h;.simp only[g_ h,aR_,h];show _=yv tmps[t];cases tmps[t]<;>rfl
 .simp only[Array.getElem?_eq_none h,aR_,aL_.2 h];rfl
theorem nT{n:Nat}{ops:Array Oper}{s:bc}{K KP:St->Prop}(l:Inv c θ D st a w)(hn:c.n=n)(hc:td P n ops o s)(h:iD P s st K KP)(next:Act->World->Prop)(Q:Exit->Act->World->Prop) (b:∀x w',(∃d,K d/\i8 c d x w')->next x w') (hp:∀y w',(qH y/\∃d,KP d/\i8 c d a w')->Q (.panic y) a w'):if Region.wanted o (yielded ops a.tmps)then o.wp P a w next Q else next (a.put o.dst undef) w:=by
 obtain⟨h1,h2,B,f⟩:=hc;have hd:∀k,o.dst=some k->k<c.n:=by grind
 unfold iD at h;unfold Region.wanted;cases hg:o.guard with
 |none=>rw[hg]at f;rw[f]at h;rw[h2]at h;exact xJ l hd h1.1 h1.2 h next Q b hp
 |some A=>
  obtain⟨j,want⟩:=A;rw[hg]at f;obtain⟨t,ht,p⟩:=f;rw[p]at h;obtain⟨g,r,v,rfl,e,u⟩:=h;simp only[P9 ht,(Pk (l.fr t _ r))];by_cases z:yv v=some want;.rw[if_pos (by grind)];have:=e z;rw[h2]at this;exact xJ l hd h1.1 h1.2 this next Q b hp
  .rw[if_neg (by grind)];have:=u z;rw[h2]at this;exact b _ _ ⟨_,this,θ,D,l.put hd (aW.sc _)⟩
end
section
variable {P:Program} {c:Ctx} {st:St} {a:Act} {w:World}
def qQ(P:Program)(n:Nat)(ops:Array Oper):List Oper->List bc->Prop
 |[],[]=>True
 |o::l,s::m=>td P n ops o s/\qQ P n ops l m
 |_,_=>False
theorem te{n:Nat}{ops:Array Oper}:∀{l:List Oper} {m:List bc},qQ P n ops l m->l.length=m.length/\∀(i:Nat) (o:Oper) (s:bc),l[i]? =some o->m[i]? =some s->td P n ops o s
 |[],[],_=>⟨rfl,λi o s h=>by simp⟩
 |o::l,s::m,h=>by obtain⟨h1,h2⟩:=h;obtain⟨a,b⟩:=te h2;grind
theorem Px{n m:Nat}{ops:Array Oper}(hn:c.n=n)(u:c.th.length<=m){K KP:St->Prop}{Q:Exit->Act->World->Prop}(y:∀a w,(∃b,K b/\i8 c b a w)->Q .normal a w)(x:∀g a w,(qH g/\∃b,KP b/\i8 c b a w)->Q (.panic g) a w): ∀(d:List Oper) (e:List bc) (k:Nat),(∀i,d[i]? =ops[k+i]?)->qQ P n ops d e->∀(st:St) (a:Act) (w:World),j0 P m e st K KP->i8 c st a w->wpOps P ops Q (aQ_ k d.length) a w:=by
 intro d;induction d with
 |nil=>intro e k _ hc st a w h hr;cases e with|cons s e=>exact hc.elim|nil=>obtain⟨b,r,j⟩:=h;exact y a w ⟨b,j,r _ _ _ u hr⟩
 |cons o d z=>
  intro e k j hc st a w h hr;cases e with
  |nil=>exact hc.elim|cons s e=>
   obtain⟨h1,h2⟩:=hc;obtain⟨st1,r,h⟩:=h;obtain⟨θ,D,v⟩:=r _ _ _ u hr;have A:ops[k]? =some o:=by simpa using(j 0).symm
   have:=nT v hn h1 h (λl w'=>wpOps P ops Q (aQ_ (k+1) d.length) l w') Q (λl w' ⟨b,p,f⟩=>z e (k+1) (λi=>by have:=j (i+1);grind) h2 b l w' p f) (λg w' hp=>x g a w' hp);grind[List.range'_succ,wpOps]
theorem J9{id n m:Nat}{ops:Array Oper}{d:List bc}(hn:c.n=n)(j:c.th.length<=m)(hc:qQ P n ops ops.toList d){K KP:St->Prop}{Q:Exit->Act->World->Prop}(h:j0 P m d st K KP)(hr:i8 c st a w) (g:∀a w,(∃b,K b/\i8 c b a w)->Q .normal a w) (f:∀e a w,(qH e/\∃b,KP b/\i8 c b a w)->Q (.panic e) a w):(Code.region id ops false).wp P Q a w:=by refine wp_region ?_;have:=Px hn j g f ops.toList d 0 (λi=>by simp) hc st a w h hr;grind[List.range_eq_range']
def SX.rd:SX->List Nat
 | .tm k=>[k]
 |_=>[]
def fv.rd:fv->List Nat
 | .mv x| .un _ x| .len _ x| .ol _ _ x| .oj _ _ _ x| .HJ _ _ _ x| .load _ _ x| .box _ x| .pW _ x| .pY _ x| .ext x _| .rC x| .Gb x| .panic x| .iface _ x=>x.rd
 | .pick c a b=>c.rd++a.rd++b.rd
 | .bin _ x y| .Gf _ x y| .sy _ _ x y| .ql x y| .pB _ _ _ x y| .qj _ x y| .qk _ _ _ x y| .store _ x y| .cU _ _ _ _ x y| .append _ _ _ x y| .pi _ _ _ x y| .d6 _ _ _ _ _ x y| .pj _ _ _ _ x y| .lookup _ _ _ _ x y| .copy _ _ x y=>x.rd++y.rd
 | .gY _ _ x y z=>x.rd++y.rd++z.rd
 | .alloc _ _| .ik _ _=>[]
 | .build _ C=>C.flatMap λq=>q.2.2.rd
 | .bQ _ _ _ _ C=>C.flatMap SX.rd
 | .eE _ _ _ C=>C.flatMap SX.rd
 | .Im _ x lo E mx=>x.rd++(lo.map SX.rd).getD []++(E.map SX.rd).getD []++(mx.map SX.rd).getD []
 | .qw x lo E=>x.rd++(lo.map SX.rd).getD []++(E.map SX.rd).getD []
 | .call _ _ xs| .gF _ _ _ xs| .rB _ xs=>xs.flatMap SX.rd
 | .fz _ _ x xs| .mb _ _ x xs| .hZ _ x xs=>x.rd++xs.flatMap SX.rd
 | .uj _ op=>op.rd
def bc.rd(o:bc):List Nat:=o.op.rd++(o.gd.map λg=>[g.1]).getD []
theorem bf{st a:St}{x:SX}(h:∀t∈x.rd,look a.fr t=look st.fr t):a.get x=st.get x:=by cases x<;>simp only[St.get];grind[SX.rd]
theorem dj{a β:Type}{f g:a->Option β}:∀{l:List a},(∀x∈l,f x=g x)->l.mapM f=l.mapM g
 |[],_=>rfl
 |x::l,h=>by rw[af_,af_,h x (by simp),dj (l:=l) λy b=>h y (by grind)]
theorem pV{st a:St}{x:Option SX}(h:∀t∈(x.map SX.rd).getD [],look a.fr t=look st.fr t)(d:Nat)(K:Nat->Prop):pN a x d K=pN st x d K:=by cases x with|none=>rfl|some x=>grind[pN,bf]
theorem Tz{st a:St}{s:fv}(j:a.hp=st.hp)(h:∀t∈s.rd,look a.fr t=look st.fr t)(K:AV->Prop):jh P a s K=jh P st s K:=by
 cases s<;>simp only[fv.rd,K_]at h<;>simp only[jh,j];case mv x=>rw[bf h]
 case pick x y z=>rw[bf (x:=x) λt ht=>h t (.inl (.inl ht)),bf (x:=y) λt ht=>h t (.inl (.inr ht)),bf (x:=z) λt ht=>h t (.inr ht)]
 case un op x=>rw[bf h]
 case len b x=>rw[bf h]
 case oj x=>rw[bf h]
 case HJ x=>rw[bf h]
 case load x=>rw[bf h]
 case pY x=>rw[bf h]
 case ext x i=>rw[bf h]
 case rC x=>rw[bf h]
 case Gb x=>rw[bf h]
 case ol k e x=>rw[bf h]
 case pW k x=>rw[bf h]
 case iface k x=>rw[bf h]
 case pi e sz n x y=>grind[bf]
 case sy op t x y=>grind[bf]
 case lookup k e ok z x y=>grind[bf]
 case rB f xs=>grind[dj,bf]
 case mb mx k x xs=>rw[bf (x:=x) λt ht=>h t (.inl ht),dj (l:=xs) λq d=>bf (x:=q) λt ht=>h t (.inr (Z_.2 ⟨q,d,ht⟩))]
 case bin op x y=>grind[bf]
 case Gf op x y=>grind[bf]
 case ql x y=>grind[bf]
 case pB x y=>grind[bf]
 case qj x y=>grind[bf]
 case qk x y=>grind[bf]
 case build z g=>grind[dj,bf]
 case bQ b e sz l g=>cases b;all_goals grind[dj,bf]
 case eE e sz l g=>grind[dj,bf]
 case call b f xs=>grind[dj,bf]
 case hZ b x xs=>rw[bf (x:=x) λt ht=>h t (.inl ht),dj (l:=xs) λq d=>by rw[bf (x:=q) λt ht=>h t (.inr (Z_.2 ⟨q,d,ht⟩))]]
 case Im sz x lo c mx=>simp only[bf (x:=x) λt ht=>h t (.inl (.inl (.inl ht))),pV (x:=lo) λt ht=>h t (.inl (.inl (.inr ht))),pV (x:=c) λt ht=>h t (.inl (.inr ht)),pV (x:=mx) λt ht=>h t (.inr ht)]
 case qw x lo c=>simp only[bf (x:=x) λt ht=>h t (.inl (.inl ht)),pV (x:=lo) λt ht=>h t (.inl (.inr ht)),pV (x:=c) λt ht=>h t (.inr ht)]
def fK(P:Program)(o:bc)(st:St)(x:AV):Prop:=
 match o.gd with
 |none=>jh P st o.op λy=>y=x
 |some (t,want)=>aS (look st.fr t) λg=>zo g λv=>(yv v=some want->jh P st o.op λy=>y=x)/\(yv v≠some want->x= .v undef)
theorem Ks{o:bc}{st a:St}{x:AV}(c:a.hp=st.hp)(h:∀t∈o.rd,look a.fr t=look st.fr t)(b:fK P o st x):fK P o a x:=by simp only[bc.rd,K_]at h;have h1:=Tz (P:=P) c λt ht=>h t (.inl ht);unfold fK at b⊢;split at b;all_goals grind
theorem aC{c:Type}{o:Option c}{K b:c->Prop}(h:aS o K)(d:∀x,K x->b x):aS o b:=let⟨a,h1,h2⟩:=h;⟨a,h1,d a h2⟩
theorem bB{a:AV}{K b:Value->Prop}(h:zo a K)(c:∀x,K x->b x):zo a b:=let⟨v,h1,h2⟩:=h;⟨v,h1,c v h2⟩
theorem bW{v:Value}{K a:IntKind->Int->Prop}(h:isInt v K)(b:∀k n,K k n->a k n):isInt v a:=let⟨k,n,h1,h2⟩:=h;⟨k,n,h1,b k n h2⟩
theorem lM{v:Value}{K a:Bool->Prop}(h:isBool v K)(c:∀x,K x->a x):isBool v a:=let⟨b,h1,h2⟩:=h;⟨b,h1,c b h2⟩
theorem ny{v:Value}{K a:ByteArray->Prop}(h:Me v K)(c:∀x,K x->a x):Me v a:=let⟨b,h1,h2⟩:=h;⟨b,h1,c b h2⟩
theorem OW{hp:List aM}{a:AV}{K c:Nat->Prop}(h:isLen hp a K)(b:∀x,K x->c x):isLen hp a c:=by
 rcases h with⟨h,h1⟩|⟨sz,L,h,h1⟩|⟨id,e,sz,L,h,h2,h1⟩|⟨sz,L,h,h1⟩|⟨id,e,sz,k,L,d,h,h2,h1⟩;.exact .inl ⟨h,b _ h1⟩
 .exact .inr (.inl ⟨sz,L,h,b _ h1⟩)
 .exact .inr (.inr (.inl ⟨id,e,sz,L,h,h2,b _ h1⟩))
 .exact .inr (.inr (.inr (.inl ⟨sz,L,h,b _ h1⟩)))
 .exact .inr (.inr (.inr (.inr ⟨id,e,sz,k,L,d,h,h2,b _ h1⟩)))
theorem wN{hp:List aM}{k e:TypeId}{a:AV}{K b:Nat->List (PV×PV)->Prop}(h:isMap hp k e a K)(d:∀i x,K i x->b i x):isMap hp k e a b:=let⟨id,kvs,h1,h2,c⟩:=h;⟨id,kvs,h1,h2,d _ _ c⟩
theorem fS{st:St}{x:Option SX}{d:Nat}{K a:Nat->Prop}(h:pN st x d K)(b:∀n,K n->a n):pN st x d a:=by cases x with|none=>exact b _ h|some x=>exact aC h λ_ h=>bB h λ_ h=>bW h λ_ _ h=>⟨h.1,b _ h.2⟩
theorem Sq{op:BinOp}{x y:Value}{K a:Value->Prop}(h:I3 op x y K)(b:∀v,K v->a v):I3 op x y a:=by
 unfold I3 at h⊢;split at h;.cases op<;>simp only at h⊢<;>first|grind|grind
 .cases op<;>simp only at h⊢<;>first|grind|grind|exact h
 omega
theorem Xr{op:UnOp}{x:Value}{K a:Value->Prop}(h:unV op x K)(b:∀v,K v->a v):unV op x a:=by unfold unV at h⊢;grind
theorem EJ{hp:List aM}{sz:Nat}{ag:Bool}{a:AV}{K d:AV->Prop}(h:Bu hp sz ag a K)(g:∀v,K v->d v):Bu hp sz ag a d:=by
 unfold Bu at h⊢;split at h;.grind
 .grind[aC]
 .refine aC h λ_ h=>h.imp (fun⟨e,s,xs,h1,h2,b,c,f⟩=>⟨e,s,xs,h1,h2,b,c,?_⟩) fun⟨e,s,k,xs,r,h1,h2,b,c,f⟩=>⟨e,s,k,xs,r,h1,h2,b,c,f.imp (λh=>⟨h.1,g _ h.2⟩) fun⟨bv,j,l,n,p⟩=>⟨bv,j,l,n,g _ p⟩⟩;grind
 omega
theorem fC{hp:List aM}{sz:Nat}{a:AV}{K c:List PV->Prop}(h:l9 hp sz a K)(b:∀x,K x->c x):l9 hp sz a c:=by
 rcases h with⟨h,h1⟩|⟨L,h,h1⟩|⟨id,e,L,h,h2,h1⟩|⟨L,h,h1⟩;.exact .inl ⟨h,b _ h1⟩
 .exact .inr (.inl ⟨L,h,b _ h1⟩)
 .exact .inr (.inr (.inl ⟨id,e,L,h,h2,b _ h1⟩))
 .exact .inr (.inr (.inr ⟨L,h,b _ h1⟩))
theorem y8{st:St}{s:fv}{K n:AV->Prop}(h:jh P st s K)(c:∀x,K x->n x):jh P st s n:=by
 cases s<;>simp only[jh]at h⊢;case mv=>grind[aC]
 case pick=>grind[aC,bB,lM]
 case bin=>exact aC h λ_ h=>aC h λ_ h=>bB h λ_ h=>bB h λ_ h=>Sq h λ_ h=>c _ h
 case Gf=>exact aC h λ_ h=>aC h λ_ h=>bB h λ_ h=>bB h λ_ h=>lM h λ_ h=>lM h λ_ h=>c _ h
 case un=>grind[aC,bB,Xr]
 case len str x=>refine aC h λ_ h=>?_;grind[OW,bB,ny]
 case ql=>exact aC h λ_ h=>aC h λ_ h=>bB h λ_ h=>bB h λ_ h=>bW h λ_ _ h=>ny h λ_ h=>⟨h.1,h.2.1,c _ h.2.2⟩
 case pB=>exact aC h λ_ h=>aC h λ_ h=>bB h λ_ h=>bW h λ_ _ h=>aC h λ_ ⟨h1,h2,a,b,d,j⟩=>⟨h1,h2,a,b,d,c _ j⟩
 case qj=>refine aC h λ_ h=>aC h λ_ h=>bB h λ_ h=>bW h λ_ _ h=>?_;grind[id,aC]
 case qk=>refine aC h λ_ h=>aC h λ_ h=>bB h λ_ h=>bW h λ_ _ ⟨h1,h2,h⟩=>⟨h1,h2,?_⟩;grind
 case ol=>grind[aC,wN]
 case pW=>grind[aC]
 case iface=>grind[aC]
 case sy=>exact aC h λ_ h=>aC h λ_ h=>aC h λ_ h=>aC h λ_ h=>aC h λ_ h=>c _ h
 case lookup=>exact aC h λ_ h=>aC h λ_ h=>wN h λ_ _ h=>aC h λ_ ⟨h1,h2,a,h⟩=>⟨h1,h2,a,aC h λ_ h=>c _ h⟩
 case rB=>grind[aC]
 case mb=>exact aC h λ_ h=>bB h λ_ h=>bW h λ_ _ h=>aC h λ_ ⟨v,h1,h2,a⟩=>⟨v,h1,h2,c _ a⟩
 case oj=>grind[aC]
 case HJ=>grind[aC]
 case load=>grind[aC,EJ]
 case pY=>grind[aC,bB,bW]
 case Im=>
  refine aC h λ_ h=>?_;rcases h with h|⟨id,h1,h⟩;.refine .inl (aC h λ_ ⟨L,h1,h⟩=>⟨L,h1,fS h λ_ h=>fS h λ_ h=>fS h λ_ ⟨h2,a,b,d,j⟩=>⟨h2,a,b,d,?_⟩⟩);grind
  .exact .inr ⟨id,h1,aC h λ_ ⟨e,k,L,g,h2,h⟩=>⟨e,k,L,g,h2,fS h λ_ h=>fS h λ_ h=>fS h λ_ ⟨h2,a,b,d,j,u⟩=>⟨h2,a,b,d,j,c _ u⟩⟩⟩
 case qw=>exact aC h λ_ h=>bB h λ_ h=>ny h λ_ h=>fS h λ_ h=>fS h λ_ ⟨h2,a,b⟩=>⟨h2,a,c _ b⟩
 case ext=>grind[aC]
 case Gb=>grind[aC,fC]
 case rC=>grind[aC]
 case build=>grind[aC]
 case call=>grind[aC,eN.mono]
 case hZ=>exact aC h λ_ ⟨f,cs,h1,h2,a⟩=>⟨f,cs,h1,h2,aC a λ_ h=>eN.mono h λ_ ⟨r,l,h1,h2,a,b⟩=>⟨r,l,h1,h2,a,c _ b⟩⟩
 case bQ own e sz len w=>cases own;all_goals grind[aC]
 case eE=>grind[aC]
 case pi=>exact aC h λ_ h=>aC h λ_ h=>fC h λ_ ⟨h1,p,h2,a,b⟩=>⟨h1,p,h2,a,c _ b⟩
theorem md{o:bc}{st:St}{x:AV}{K KP:St->Prop}(h:fK P o st x)(a:K (st.aF o.dst x)):iD P o st K KP:=by
 have key:∀s,(jh P st s λy=>y=x)->cN P o.dst s st K KP:=by
  intro s hs;have h1:jh P st s λy=>K (st.aF o.dst y):=y8 hs λy b=>by grind
  unfold cN;split<;>first|exact h1|exact hs.elim
 unfold fK at h;unfold iD;split at h;all_goals grind[aC,bB]
end
def y5(P:Program)(m:Nat):Nat->List bc->St->(St->Prop)->(St->Prop)->Prop
 |0,l,st,K,KP=>j0 P m l st K KP
 |_+1,[],st,K,_=>K st
 |k+1,o::l,st,K,KP=>∃x,fK P o st x/\y5 P m k l (st.aF o.dst x) K KP
def gw:List (List Nat)->List (List Nat)->List (List Nat)
 |acc,[]=>acc
 |acc,l::ls=>gw (acc++[l.flatMap λe=>e::acc.getD e []]) ls
def zM(x y:bc):Bool:=
 (match x.dst with|some d=> !y.rd.contains d&&y.dst != some d|none=>true)&&(match y.dst with|some d=> !x.rd.contains d|none=>true)
def zZ(ops:List bc)(a:List (List Nat))(k:Nat):Bool:=
 (I_ ops.length).all λj=>(I_ j).all λi=>(a.getD j []).contains i||(decide (j<k)&&(match ops[i]?,ops[j]? with|some x,some y=>zM x y|_,_=>false))
def qL(ops:Array Oper):List (List Nat):=ops.toList.map λo=>(o.after.toList.filter (Region.binds .any)).map (·.on)
def Ay(after:List (List Nat)):Bool:=(I_ after.length).all λi=>(after.getD i []).all λe=>decide (e<i)
section
variable {P:Program} {c:Ctx} {w:World} {a:Act}
def dG(p:Nat->Bool):Nat->Option Nat
 |0=>none
 |k+1=>if p k then some k else dG p k
theorem jo{p q:Nat->Bool}:∀{k:Nat},(∀j,j<k->p j=q j)->dG p k=dG q k
 |0,_=>rfl
 |k+1,h=>by have b:=jo (p:=p) (q:=q) (k:=k) λj a=>h j (by omega);grind[dG]
theorem rm{p:Nat->Bool}:∀{k i:Nat},i<=k->(∀j,i<=j->j<k->p j=false)->dG p k=dG p i
 |0,i,h,_=>by grind
 |k+1,i,h,hp=>by
  rcases y_ i (k+1)with h1|h1;.simp only[dG,hp k (by omega) (by simp),u_,if_false];exact rm (by omega) λj a b=>hp j a (by omega)
  grind
def G9(d:Nat->Option Nat)(X:Nat->AV)(st:St)(S:Nat->Bool):Nat->St
 |0=>st
 |k+1=>if S k then(G9 d X st S k).aF (d k) (X k)else G9 d X st S k
theorem Fy(d:Nat->Option Nat)(X:Nat->AV)(st:St)(S:Nat->Bool):∀k,(G9 d X st S k).hp=st.hp
 |0=>rfl
 |k+1=>by
  simp only[G9];split;.cases d k<;>simp[St.aF,St.put,Fy d X st S k]
  .exact Fy d X st S k
theorem fw(st:St)(d:Option Nat)(x:AV)(t:Nat):look (st.aF d x).fr t=if d=some t then some x else look st.fr t:=by cases d with|none=>simp[St.aF]|some k=>grind[St.aF,St.put,look]
theorem lR(d:Nat->Option Nat)(X:Nat->AV)(st:St)(S:Nat->Bool)(t:Nat):∀k,look (G9 d X st S k).fr t=(match dG (λj=>S j&&d j==some t) k with|some j=>some (X j)|none=>look st.fr t)
 |0=>rfl
 |k+1=>by
  simp only[G9,dG];by_cases a:S k=true
  .rw[if_pos a,fw];by_cases hd:d k=some t;.grind
   .rw[if_neg hd,lR d X st S t k];grind
  .rw[if_neg a,lR d X st S t k];grind
theorem i8.congr{st E:St}(H:E.hp=st.hp)(h:∀t,look E.fr t=look st.fr t)(hr:i8 c st a w):i8 c E a w:=by obtain⟨θ,D,C⟩:=hr;exact⟨θ,D,C.size,C.defers,by rw[H];exact C.ok,C.keep,C.lG,C.ng,C.jY,λk x I=>C.fr k x (by grind),C.fix⟩
theorem Tw{m:Nat}:∀(k:Nat) (ops:List bc) (st:St) (K KP:St->Prop),y5 P m k ops st K KP->k<=ops.length->∃X:Nat->AV,(∀i s,i<k->ops[i]? =some s->fK P s (G9 (λj=>(ops[j]?).bind (·.dst)) X st (λ_=>true) i) (X i))/\j0 P m (ops.drop k) (G9 (λj=>(ops[j]?).bind (·.dst)) X st (λ_=>true) k) K KP:=by
 intro k;induction k with
 |zero=>intro ops st K KP h _;exact⟨λ_=>default,λi s b=>absurd b (by simp),h⟩|succ k c=>
  intro ops st K KP h hl;cases ops with|nil=>grind|cons o ops=>
  obtain⟨x,d,h⟩:=h;obtain⟨X,h1,h2⟩:=c ops _ K KP h (by grind);have a:∀i,G9 (λj=>((o::ops)[j]?).bind (·.dst)) (λj=>match j with|0=>x|j+1=>X j) st (λ_=>true) (i+1)=G9 (λj=>(ops[j]?).bind (·.dst)) X (st.aF o.dst x) (λ_=>true) i:=by intro i;induction i with|zero=>simp[G9]|succ i c=>grind[G9]
  refine⟨λj=>match j with|0=>x|j+1=>X j,λi s b hs=>?_,?_⟩
  .cases i with|zero=>simp at hs;subst hs;exact d|succ i=>grind
  grind
theorem Lb:∀(ls acc:List (List Nat)),(gw acc ls).length=acc.length+ls.length
 |[],acc=>rfl
 |l::ls,acc=>by rw[gw,Lb ls];grind
theorem C7:∀(ls acc:List (List Nat)) (i:Nat),i<acc.length->(gw acc ls)[i]? =acc[i]?
 |[],acc,i,_=>rfl
 |l::ls,acc,i,h=>by rw[gw,C7 ls _ i (by grind),j_ h]
theorem xw:∀(ls acc:List (List Nat)) (j:Nat) (l:List Nat),ls[j]? =some l->(gw acc ls).getD (acc.length+j) []=l.flatMap λe=>e::(gw acc (ls.take j)).getD e []
 |[],acc,j,l,h=>by grind
 |m::ls,acc,0,l,h=>by simp at h;subst h;simp[gw,C7,aP_]
 |m::ls,acc,j+1,l,h=>by have:=xw ls (acc++[m.flatMap λe=>e::acc.getD e []]) j l (by grind);grind[W_,ap_,gw]
def Vv{a:Type}(n:Nat)(k:Nat->a):a:=match n with
 |0=>k 0
 |p+1=>k (p+1)
theorem SG{a:Type}(n:Nat)(k:Nat->a):Vv n k=k n:=by cases n<;>rfl
def OZ(acc:List Nat)(l:List Nat):Nat:=l.foldl (λm e=>m|||2^e|||acc.getD e 0) 0
def Ya:List Nat->List (List Nat)->List Nat
 |acc,[]=>acc
 |acc,l::ls=>Vv (OZ acc l) λm=>Ya (acc++[m]) ls
def bitsOf(m:Nat):List Nat:=(I_ (m.log2+1)).filter λi=>m.testBit i
def Ga(after:List (List Nat)):List (List Nat):=(Ya [] after).map bitsOf
theorem zc(acc:List Nat)(i:Nat):∀(l:List Nat) (m:Nat),(l.foldl (λm e=>m|||2^e|||acc.getD e 0) m).testBit i=(m.testBit i||l.any λe=>decide (e=i)||(acc.getD e 0).testBit i)
 |[],m=>by simp
 |e::l,m=>by rw[ao_,zc acc i l,aM_,aM_,Nat.testBit_two_pow,List.any_cons,au_,au_,au_]
theorem BL(m i:Nat):(bitsOf m).contains i=m.testBit i:=by grind[bitsOf,Nat.ge_two_pow_of_testBit,Nat.le_log2]
theorem Qn(i:Nat):∀(ls acc:List (List Nat)) (a:List Nat),acc.length=a.length->(∀j,(acc.getD j []).contains i=(a.getD j 0).testBit i)->∀j,((gw acc ls).getD j []).contains i=((Ya a ls).getD j 0).testBit i
 |[],acc,a,_,h=>h
 |l::ls,acc,a,hl,h=>by
  unfold gw Ya;rw[SG];refine Qn i ls _ _ (by grind) λj=>?_;rcases Nat.lt_trichotomy j acc.length with b|b|b;.rw[Q_,Q_,j_ b,j_ (by omega)];exact h j
  .subst b;have e:(OZ a l).testBit i=l.any λe=>decide (e=i)||(a.getD e 0).testBit i:=by unfold OZ;rw[zc];simp
   grind
  grind
theorem Ck(after:List (List Nat))(j i:Nat):((Ga after).getD j []).contains i=((gw [] after).getD j []).contains i:=by rw[Qn i after [] [] rfl (λj=>by simp) j];grind[Ga,BL]
theorem LG(ops:List bc)(after:List (List Nat))(k:Nat):zZ ops (Ga after) k=zZ ops (gw [] after) k:=by grind[zZ,Ck]
theorem Sl(ls:List (List Nat))(j e:Nat)(c:e<j)(d:j<=ls.length):(gw [] (ls.take j)).getD e []=(gw [] ls).getD e []:=by
 have key:∀(a b acc:List (List Nat)),gw acc (a++b)=gw (gw acc a) b:=by intro a;induction a with|nil=>intro b acc;rfl|cons m a f=>grind[gw]
 grind[Lb,List.take_append_drop,C7]
theorem nf{after:List (List Nat)}(a:Ay after=true){S:Nat->Prop}(f:∀i l,after[i]? =some l->S i->∀e∈l,S e):∀(n i j:Nat),i<=n->S i->(((gw [] after).getD i []).contains j)=true->i<after.length->S j:=by
 intro n;induction n with
 |zero=>
  intro i j d hs hc b;have c:i=0:=by omega
  subst c;have hl:=b_ b;have:=xw after [] 0 _ hl;simp only[x_,q_]at this;rw[this]at hc;simp only[List.contains_iff_mem,Z_]at hc;obtain⟨e,g,_⟩:=hc;simp only[Ay,n_,H_,decide_eq_true_eq]at a;have:=a 0 b e (by grind);omega
 |succ n h=>intro i j d hs hc b;have hl:=b_ b;have hg:=xw after [] i _ hl;simp only[x_,q_]at hg;simp only[Ay,n_]at a;all_goals grind[Sl]
theorem d9{n:Nat}{a:Array Bool}(hn:a.size=n){i j:Nat}(b:i<n):(a.setIfInBounds i true).getD j false=(if j=i then true else a.getD j false):=by
 by_cases h:j=i;.subst h;simp[hn,b]
 .simp[h,N_ (Ne.symm h)]
theorem conflict{x y:bc}{t:Nat}(h:zM x y=true):(x.dst=some t->t∉y.rd/\y.dst≠some t)/\(y.dst=some t->t∉x.rd):=by unfold zM at h;grind
theorem OF{id n k ml:Nat}{ops:Array Oper}{f:List bc}{after:List (List Nat)}(hm:P.follows .mixedOrders=true)(hn:c.n=n)(Fr:c.th.length<=ml)(hc:qQ P n ops ops.toList f)(RM:after=qL ops)(z:Ay after=true)(Pc:zZ f (gw [] after) k=true)(DQ:k<=f.length) {st:St} {K KP:St->Prop} {Q:Exit->Act->World->Prop} (h:y5 P ml k f st K KP) (hr:i8 c st a w) (hQ:∀a w,(∃r,K r/\i8 c r a w)->Q .normal a w) (hP:∀ch a w,(qH ch/\∃r,KP r/\i8 c r a w)->Q (.panic ch) a w):(Code.region id ops true).wp P Q a w:=by
 obtain⟨RK,CT⟩:=te hc;have hsz:ops.size=f.length:=by omega
 obtain⟨X,hX,ph⟩:=Tw k f st K KP h DQ;generalize hd:(λj:Nat=>(f[j]?).bind (λs:bc=>s.dst))=d at hX ph;have hdj:∀(j:Nat) (s:bc),f[j]? =some s->d j=s.dst:=λj s hs=>by grind
 have RT:after.length=f.length:=by grind[qL]
 have DM:∀(i:Nat) (o:Oper),ops[i]? =some o->after[i]? =some ((o.after.toList.filter (Region.binds .any)).map (·.on)):=λi o ho=>by grind[qL]
 have v:∀(b:Array Bool) (i:Nat),b.size=f.length->(i∈Region.ready .any ops b↔i<f.length/\b.getD i true=false/\∀l:List Nat,after[i]? =some l->∀e∈l,b.getD e false=true):=by
  intro b i g;unfold Region.ready;simp only[aF_,H_,F_,Bool.not_eq_true',hsz];constructor;.grind[g_,av_]
  .rintro⟨h1,h2,h3⟩;refine⟨h1,h2,?_⟩;have ho:ops[i]? =some ops[i]:=g_ (by omega);rw[ho];simp only[ab_,U_,av_];intro ed SM;by_cases N:Region.binds .any ed=true;.have:=h3 _ (DM i _ ho) ed.on (X_.2 ⟨ed,aF_.2 ⟨by grind,N⟩,rfl⟩);grind
   grind
 have R:∀i j,i<j->j<f.length->((gw [] after).getD j []).contains i=true\/(j<k/\∃x y,f[i]? =some x/\f[j]? =some y/\zM x y=true):=by intro i j DP B;simp only[zZ,n_,H_,aC_,F_,decide_eq_true_eq]at Pc;grind
 have Bk:∀(m j:Nat) (b:Array Bool) (r:St) (a:Act) (w:World),j<=f.length->f.length<=j+m->k<=j->b.size=f.length->(∀i,i<f.length->b.getD i false=decide (i<j))->j0 P ml (f.drop j) r K KP->i8 c r a w->wpAny P .any ops Q m b a w:=by
  have fin:∀(b:Array Bool) (r:St) (a:Act) (w:World),b.size=f.length->(∀i,i<f.length->b.getD i false=decide (i<f.length))->j0 P ml (f.drop f.length) r K KP->i8 c r a w->Region.ready .any ops b=[]/\Q .normal a w:=by intro b r a w g F hs hr;rw[List.drop_length]at hs;simp only[j0]at hs;obtain⟨st1,DE,hs⟩:=hs;refine⟨?_,hQ a w ⟨st1,hs,DE _ _ _ Fr hr⟩⟩;apply List.eq_nil_iff_forall_not_mem.2;grind
  intro m
  induction m with
  |zero=>
   intro j b r a w B hm _ g F hs hr;have DB:j=f.length:=by omega
   subst DB;exact fin b r a w g F hs hr
  |succ m ih=>
   intro j b r a w B hm Th g F hs hr;rcases y_ j f.length with E|E;case inr=>
    have DB:j=f.length:=by omega
    subst DB;obtain⟨f1,f2⟩:=fin b r a w g F hs hr;exact⟨λ_=>f2,λi I=>by grind⟩
   have JT:∀i,i<f.length->b.getD i true=decide (i<j):=λi I=>by
    have h4:i<b.size:=by omega
    have:=F i I;simp[h4]at this⊢;omega
   have PA:∀i,i∈Region.ready .any ops b↔i=j:=by
    intro i;rw[v b i g];constructor
    .rintro⟨h1,h2,h3⟩;rw[JT i h1]at h2;simp only[decide_eq_false_iff_not,aL_]at h2;rcases y_ j i with h4|h4
     .rcases R j i h4 h1 with h5|⟨h5,_⟩
      .have el:=nf z (S:=λx=>x<j\/x=i) (λx l hl L e O=>by
        have u:=z;simp only[Ay,n_,H_,decide_eq_true_eq]at u;have DH:=(c_.1 hl).1;have Hx:=u x DH e (by simpa[Q_,hl]using O);rcases L with L|rfl;.omega
        .have:=h3 l hl e O;rw[F e (by omega)]at this;grind) i i j (m_ _) (.inr rfl) h5 (by omega)
       omega
      omega
     omega
    .rintro rfl;refine⟨E,by grind,λl hl e O=>?_⟩;have u:=z;simp only[Ay,n_,H_,decide_eq_true_eq]at u;have DH:=(c_.1 hl).1;have Hx:=u i DH e (by simpa[Q_,hl]using O);rw[F e (by omega)];grind
   refine⟨λh0=>?_,λi I=>?_⟩;.grind
   .have:=(PA i).1 I;subst this;have ho:ops[i]? =some ops[i]:=g_ (by omega);have H:=b_ E;have DA:=CT i _ _ (by rw[t_];omega) H;rw[ai_ E]at hs;simp only[j0]at hs;obtain⟨st1,DE,hs⟩:=hs;obtain⟨θ,D,hI⟩:=DE _ _ _ Fr hr;have:=nT hI hn DA hs (λa' w'=>wpAny P .any ops Q m (b.setIfInBounds i true) a' w') Q (λa' w' ⟨Dg,h1,h2⟩=>
     ih (i+1) _ Dg a' w' (by omega) (by omega) (by omega) (by simpa using g) (λx L=>by
      rw[d9 g (by omega),F x L];by_cases M:x=i;.grind
      .rw[if_neg M];apply decide_eq_decide.2;omega) h1 h2) (λch w' hp=>hP ch a w' hp)
    unfold wpOp;rw[ho];simp only;split;all_goals grind
 have At:∀(m:Nat) (b:Array Bool) (a:Act) (w:World),b.size=f.length->(∀i,i<f.length->b.getD i false=true->i<k)->(∀(i:Nat) (l:List Nat),after[i]? =some l->b.getD i false=true->∀e∈l,b.getD e false=true)->((I_ f.length).filter λi=> !b.getD i false).length<=m->i8 c (G9 d X st (λj=>b.getD j false) k) a w->wpAny P .any ops Q m b a w:=by
  have full:∀(m:Nat) (b:Array Bool) (a:Act) (w:World),b.size=f.length->(∀i,i<f.length->b.getD i false=true->i<k)->(∀i,i<k->b.getD i false=true)->f.length<=k+m->i8 c (G9 d X st (λj=>b.getD j false) k) a w->wpAny P .any ops Q m b a w:=by
   intro m b a w g C U hm hr;refine Bk m k b (G9 d X st (λ_=>true) k) a w DQ hm (m_ _) g (λi I=>?_) ph (i8.congr ?_ (λt=>?_) hr);.grind
   .simp[Fy]
   .rw[lR,lR,jo (p:=λj=>(λ_=>true) j&&d j==some t) (q:=λj=>b.getD j false&&d j==some t) (k:=k) λj B=>by grind]
  have Bx:∀(b:Array Bool),(∀i,i<f.length->b.getD i false=true->i<k)->f.length<=k+((I_ f.length).filter λi=> !b.getD i false).length:=by
   intro b C;have:∀n,n<=f.length->n<=k+((I_ n).filter λi=> !b.getD i false).length:=by intro n;induction n with|zero=>simp|succ n ih=>intro hn;have:=ih (by omega);rw[List.range_succ,List.filter_append,W_];cases N:b.getD n false with|true=>have:=C n (by omega) N;omega|false=>simp only[am_,N,ar_,if_true,List.filter_nil,ap_];omega
   grind
  intro m
  induction m with
  |zero=>intro b a w g C el CD hr;refine full 0 b a w g C (λi I=>?_) (by have:=Bx b C;omega) hr;have h0:=k_ (Nat.le_zero.1 CD);have:=List.filter_eq_nil_iff.1 h0 i (by simp;omega);simpa using this|succ m ih=>
   intro b a w g C el CD hr;by_cases U:∀i,i<k->b.getD i false=true;.exact full (m+1) b a w g C U (by have:=Bx b C;omega) hr
   .obtain⟨J,SW,PB,Fm⟩:∃J,J<k/\b.getD J false=false/\∀j,j<J->b.getD j false=true:=by
     have:∀n,(∃i,i<n/\b.getD i false=false)->∃J,J<n/\b.getD J false=false/\∀j,j<J->b.getD j false=true:=by
      intro n;induction n with
      |zero=>simp|succ n Rg=>
       rintro⟨i,I,hu⟩;by_cases h1:∃i,i<n/\b.getD i false=false;.obtain⟨J,h2,h3⟩:=Rg h1;exact⟨J,by omega,h3⟩
       .refine⟨n,by simp,?_,λj B=>?_⟩
        .have:i=n:=by
          rcases y_ i n with h2|h2;.exact absurd ⟨i,h2,hu⟩ h1
          omega
         subst this;omega
        .cases N:b.getD j false with|true=>rfl|false=>exact absurd ⟨j,B,N⟩ h1
     refine this k ?_;apply J_;intro Pb;refine U λi I=>?_;cases N:b.getD i false with|true=>rfl|false=>exact absurd ⟨i,I,N⟩ Pb
    have u:=z;simp only[Ay,n_,H_,decide_eq_true_eq]at u;have GS:∀i,i<f.length->b.getD i true=b.getD i false:=λi I=>by
     have h4:i<b.size:=by omega
     simp[h4]
    refine⟨λh0=>?_,λi I=>?_⟩;.have:J∈Region.ready .any ops b:=(v b J g).2 ⟨by omega,by rw[GS J (by omega)];omega,λl hl e O=>Fm e (u J (by omega) e (by simpa[Q_,hl]using O))⟩;rw[h0]at this;cases this
    .obtain⟨r1,r2,r3⟩:=(v b i g).1 I;rw[GS i r1]at r2;have BT:∀j,((gw [] after).getD i []).contains j=true->j=i\/b.getD j false=true:=λj B=>by
      have:=nf z (S:=λx=>x=i\/b.getD x false=true) (λx l hl L e O=>by
       rcases L with rfl|L;.exact .inr (r3 l hl e O)
       .exact .inr (el x l hl L e O)) i i j (m_ _) (.inl rfl) B (by omega)
      omega
     have KK:i<k:=by
      apply J_;intro Vc;rcases R J i (by omega) r1 with h1|⟨h1,_⟩
      .rcases BT J h1 with h2|h2;.omega
       .rw[PB]at h2;cases h2
      omega
     have ho:ops[i]? =some ops[i]:=g_ (by omega);have H:f[i]? =some f[i]:=b_ r1;have DA:=CT i _ _ (by rw[t_];omega) H;have qr:∀j,i<j->j<k->b.getD j false=true->∃y,f[j]? =some y/\zM f[i] y=true:=λj DP rg hl=>by
      rcases R i j DP (by omega)with h1|⟨_,x,y,L,hy,h2⟩;.have:=nf z (S:=λx=>b.getD x false=true) (λx l hl L e O=>el x l hl L e O) j j i (m_ _) hl h1 (by omega);rw[r2]at this;cases this
      .rw[H]at L;cases L;exact⟨y,hy,h2⟩
     have T:∀j,j<i->b.getD j false=false->∃y,f[j]? =some y/\zM y f[i]=true:=λj gc hl=>by
      rcases R j i gc r1 with h1|⟨_,x,y,L,hy,h2⟩
      .rcases BT j h1 with h3|h3;.omega
       .rw[hl]at h3;cases h3
      .rw[H]at hy;cases hy;exact⟨x,L,h2⟩
     have ur:∀t∈f[i].rd,look (G9 d X st (λj=>b.getD j false) k).fr t=look (G9 d X st (λ_=>true) i).fr t:=by
      intro t ht;rw[lR,lR];have e1:dG (λj=>b.getD j false&&d j==some t) k=dG (λj=>b.getD j false&&d j==some t) i:=rm (by omega) λj B rg=>by
       rcases Nat.eq_or_lt_of_le B with rfl|B;.rw[r2];rfl
       .cases N:b.getD j false with|false=>rfl|true=>obtain⟨y,hy,Y⟩:=qr j B rg N;rw[hdj j y hy];cases A:(y.dst==some t)with|false=>rfl|true=>exact absurd ht ((conflict Y).2 (by simpa using A))
      have e2:dG (λj=>b.getD j false&&d j==some t) i=dG (λj=>(λ_=>true) j&&d j==some t) i:=jo λj B=>by cases N:b.getD j false with|true=>rfl|false=>obtain⟨y,hy,Y⟩:=T j B N;rw[hdj j y hy];cases A:(y.dst==some t)with|false=>rfl|true=>exact absurd ht ((conflict Y).1 (by simpa using A)).1
      rw[e1,e2]
     have hy:fK P f[i] (G9 d X st (λj=>b.getD j false) k) (X i):=Ks (by simp[Fy]) ur (hX i _ KK H);obtain⟨θ,D,hI⟩:=hr;have:=nT (hp:=λ_ _ h=>h.2.elim λ_ h=>h.1.elim) hI hn DA (md (KP:=λ_=>False) (K:=λr=>r=(G9 d X st (λj=>b.getD j false) k).aF f[i].dst (X i)) hy rfl) (λa' w'=>wpAny P .any ops Q m (b.setIfInBounds i true) a' w') Q (λa' w' ⟨Dg,h1,h2⟩=>by
      subst h1;refine ih _ a' w' (by simpa using g) (λj B hl=>?_) (λj l hl E e O=>?_) ?_ (i8.congr ?_ (λt=>?_) h2)
      .rw[d9 g r1]at hl;split at hl;.omega
       .exact C j B hl
      .rw[d9 g r1]at E⊢;split at E
       .rename_i gc;subst gc;split;.rfl
        .exact r3 l hl e O
       .split;.rfl
        .exact el j l hl E e O
      .have Nd:∀(l:List Nat),i∈l->(l.filter λj=> !(b.setIfInBounds i true).getD j false).length<(l.filter λj=> !b.getD j false).length:=by
        intro l;have MT:∀(l:List Nat),(l.filter λj=> !(b.setIfInBounds i true).getD j false).length<=(l.filter λj=> !b.getD j false).length:=by
         intro l;induction l with
         |nil=>simp|cons x l wr=>
          simp only[am_,d9 g r1]at wr⊢;by_cases M:x=i;.subst M;simp only[if_true,aN_,u_,if_false,r2,ar_,G_];omega
          .simp only[M,if_false];split<;>(try simp only[G_])<;>omega
        induction l with
        |nil=>simp|cons x l wr=>
         intro Fk;have DS:=MT l;simp only[am_,d9 g r1]at wr DS⊢;by_cases M:x=i;.subst M;simp only[if_true,aN_,u_,if_false,r2,ar_,G_];omega
         .have Pa:i∈l:=by rcases List.mem_cons.1 Fk with h|h;all_goals omega
          have:=wr Pa;simp only[M,if_false];split<;>(try simp only[G_])<;>omega
       have:=Nd (I_ f.length) (by simpa using r1);omega
      .cases So:f[i].dst<;>simp[St.aF,St.put,Fy]
      .rw[fw,lR,lR];by_cases A:f[i].dst=some t
       .rw[if_pos A];have e1:dG (λj=>(b.setIfInBounds i true).getD j false&&d j==some t) k=dG (λj=>(b.setIfInBounds i true).getD j false&&d j==some t) (i+1):=rm (by omega) λj B rg=>by rw[d9 g r1,if_neg (by omega)];cases N:b.getD j false with|false=>rfl|true=>obtain⟨y,PJ,Y⟩:=qr j (by omega) rg N;rw[hdj j y PJ];have:=((conflict Y).1 A).2;simpa using this
        rw[e1,dG,d9 g r1,if_pos rfl,hdj i _ H,A];simp
       .rw[if_neg A];rw[jo (p:=λj=>(b.setIfInBounds i true).getD j false&&d j==some t) (q:=λj=>b.getD j false&&d j==some t) λj B=>by
         rw[d9 g r1];split;.rename_i gc;subst gc;rw[hdj j _ H,r2];simpa using A
         simp])
     unfold wpOp;rw[ho];simp only;split;.rename_i hw;rw[if_pos hw]at this;exact .inl this
     .rename_i hw;rw[if_neg hw]at this;omega
 refine wp_region_any hm ?_;have h0:=At ops.size (aa_ ops.size false) a {w with drawn:=w.drawn+1} (by grind) (λi I hl=>by simp[hsz,I]at hl) (λi l hl h2=>by
  have I:i<ops.size:=by have:=(c_.1 hl).1;omega
  simp[I]at h2) (by have:=List.length_filter_le (λi=> !(aa_ ops.size false).getD i false) (I_ f.length);grind) ?_
 .omega
 .have:∀j,G9 d X st (λj=>(aa_ ops.size false).getD j false) j=st:=by
   intro j;induction j with
   |zero=>rfl|succ j ih=>
    rw[G9,ih];have:(aa_ ops.size false).getD j false=false:=by by_cases B:j<ops.size<;>simp[B]
    grind
  rw[this];obtain⟨θ,D,hI⟩:=hr;exact⟨θ,D,hI.drew⟩
end
end Go.Av
