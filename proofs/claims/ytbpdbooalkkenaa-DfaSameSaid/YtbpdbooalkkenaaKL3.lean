/- Part ML3 of the layer: an abstract and a typed machine over the loaded code, proved sound. -/
import Derived.Laws.StructEq
import Derived.Laws.CopyRow
import Derived.MapKept
import Derived.Test.YtbpdbooalkkenaaKL2
set_option linter.unusedVariables false
set_option linter.unusedSimpArgs false
namespace Go.Av
open Go Go.RowKit
section
variable {P:Program} {o:Oper} {c:Ctx} {θ:List Loc} {D:Nat->Prop} {st:St} {a:Act} {w:World}
theorem gP{v u:Value}(h:RelP D w v (.sc u)):v=u:=by cases h;rfl
def Mz(P:Program)(D:Nat->Prop)(w:World)(d:Nat):Prop:=∀(t:TypeId) (p q:PV) (b:Bool) (v u:Value) (n:Nat),eqP P d t p q=some b->d<=n->RelP D w v p->RelP D w u q->(Op.equalIn n t v u).run P w= .ok b w
theorem JZ{d:Nat}(ih:Mz P D w d):∀(l:List Field) (xs ys:List PV) (b:Bool) (vs us:Array Value) (n:Nat),eqP.eqFs P d l xs ys=some b->d<=n->RelP D w (.agg vs) (.agg xs)->RelP D w (.agg us) (.agg ys)->(Op.eqFields n vs us l).run P w= .ok b w:=by
 intro l
 induction l with
 |nil=>
  intro xs ys b vs us n h _ _ _
  simp only[eqP.eqFs,Option.some.injEq]at h
  subst h
  simp[Op.eqFields]
 |cons f l ihl=>
  intro xs ys b vs us n h hn hv hu
  simp only[eqP.eqFs]at h
  split at h
  ·cases h
  ·rename_i hname
   simp only[Option.bind_eq_some_iff]at h
   obtain⟨i,hi,h⟩:=h
   split at h
   ·cases h
   ·rename_i hc
    simp only[not_or,Nat.not_lt,not_and,Decidable.not_not,Option.isNone_iff_eq_none]at hc
    obtain⟨h1,h2,h3,h4⟩:=hc
    obtain⟨d0,hd0⟩:=Option.ne_none_iff_exists'.1 h1
    simp only[Option.bind_eq_some_iff]at h
    obtain⟨b0,hb0,h⟩:=h
    have hsz:bQ P f.type=some i.size:=by simp[bQ,hi]
    have hag1:fG P f.type=false->i.size=1:=λe=>h4 e
    obtain⟨s1,r1⟩:=rp (off:=f.offset) (sz:=i.size) hv rfl h2 hag1
    obtain⟨s2,r2⟩:=rp (off:=f.offset) (sz:=i.size) hu rfl h3 hag1
    have p1:=pt (P:=P) (w:=w) (t:=f.type) (cs:=vs) (off:=f.offset) hd0 hsz (by rw[s1];exact h2) hag1
    have p2:=pt (P:=P) (w:=w) (t:=f.type) (cs:=us) (off:=f.offset) hd0 hsz (by rw[s2];exact h3) hag1
    have e:=ih f.type _ _ b0 _ _ n hb0 hn r1 r2
    simp only[Op.eqFields]
    rw[if_pos hname]
    simp only[Sem.run_bind,p1,p2,e,Result.andThen_ok]
    cases b0
    ·simp only[Bool.false_eq_true,if_false,Option.some.injEq]at h
     subst h
     simp
    ·simp only[if_true]at h
     simp only[Bool.not_true,Bool.false_eq_true,if_false]
     exact ihl xs ys b vs us n h hn hv hu
theorem Ci:∀(d:Nat),Mz P D w d:=by
 intro d
 induction d with
 |zero=>intro t p q b v u n h _ _ _;simp[eqP]at h
 |succ d ih=>
  intro t p q b v u n h hn hv hu
  obtain⟨m,rfl⟩:∃m,n=m+1:=⟨n - 1,by omega⟩
  unfold eqP at h
  split at h
  ·rename_i ht
   rw[gP hv,gP hu]
   cases h
   exact run_equalIn_bool' w m t _ _ ht
  ·rename_i ht
   rw[gP hv,gP hu]
   split at h
   ·rename_i hk
    subst hk
    cases h
    exact run_equalIn_int w m t _ _ _ _ ht
   ·cases h
  ·rename_i ht
   rw[gP hv,gP hu]
   cases h
   rw[beq_toListBytes]
   exact run_equalIn_string w m t _ _ ht
  ·rename_i fs xs ys ht
   split at h
   ·cases h
   ·rename_i hs
    have hf:P.fieldsOf t=fs:=by simp[Program.fieldsOf,ht]
    cases hv with
    |agg vs _ hs1 hh1=>
     cases hu with
     |agg us _ hs2 hh2=>
      rw[run_equalIn_struct w m t vs us (by rw[hf];exact ht) (by simpa using hs),hf]
      exact JZ ih fs.toList xs ys b vs us m h (by omega) (.agg vs xs hs1 hh1) (.agg us ys hs2 hh2)
  ·cases h
theorem BH(hI:Inv c θ D st a w){K:AV->Prop}{op:BinOp}{neg:Bool}{t t':TypeId}{fs:Array Field}{x y:Operand}(ho:o.op= .binOp op t x y t')(hop:op=if neg then .neq else .eql)(ht:P.underlying t=some (.struct fs))(hg:P.eqGuardType P.depth t=false)
 (h:g8 P st (.eqT neg t (.of x) (.of y)) K):Yields P o a w (Res c θ st a K):=by
 obtain⟨ax,hx,ay,hy,p,hp,q,hq,b,hb,hk⟩:=h
 have r1:=cn (hI.get hx) hp
 have r2:=cn (hI.get hy) hq
 refine aE hI ?_ hk (RelP.sc _)
 have e:=Ci (P:=P) (D:=D) (w:=w) 64 t p q b _ _ 10000 hb (by decide) r1 r2
 have hagg:∃xs ys,a.eval x= .agg xs/\a.eval y= .agg ys:=by
  unfold eqP at hb
  rw[ht]at hb
  generalize a.eval x=u1 at r1⊢
  generalize a.eval y=u2 at r2⊢
  split at hb
  ·rename_i h0;cases h0
  ·rename_i h0;cases h0
  ·rename_i h0;cases h0
  ·cases r1;cases r2;exact⟨_,_,rfl,rfl⟩
  ·cases hb
 obtain⟨xs,ys,e1,e2⟩:=hagg
 rw[e1,e2]at e
 simp only[execOp,ho,e1,e2,Sem.run_bind,run_eqGuard_agg w op t x y xs ys hg,Result.andThen_ok]
 subst hop
 cases neg
 ·simp only[Bool.false_eq_true,if_false,run_eql_struct,e,Result.andThen_ok,Sem.run_pure,Bool.false_xor]
 ·simp only[if_true,run_neq_struct,e,Result.andThen_ok,Sem.run_pure,Bool.true_xor]
theorem AS{k:TypeId}{x:PV}:∀{l:List (PV×PV)} {i:Nat} {r:Option (Nat×PV)},qu P k x l i=some r->
 (r=none/\∀kv∈l,eqP P 64 k x kv.1=some false)\/(∃j kv,r=some (i+j,kv.2)/\l[j]? =some kv/\eqP P 64 k x kv.1=some true/\∀kv'∈l.take j,eqP P 64 k x kv'.1=some false)
 |[],i,r,h=>by simp only[qu,Option.some.injEq]at h;exact .inl ⟨h.symm,by simp⟩
 |kv::l,i,r,h=>by
  simp only[qu,Option.bind_eq_some_iff]at h
  obtain⟨b,hb,h⟩:=h
  cases b
  ·simp only[Bool.false_eq_true,if_false]at h
   rcases AS h with⟨h1,h2⟩|⟨j,kv',h1,h2,h3,h4⟩
   ·exact .inl ⟨h1,λy hy=>(List.mem_cons.1 hy).elim (λe=>by rw[e];exact hb) (h2 y)⟩
   ·refine .inr ⟨j+1,kv',by rw[h1];simp;omega,by simpa using h2,h3,λy hy=>?_⟩
    simp only[List.take_succ_cons,List.mem_cons]at hy
    rcases hy with rfl|hy
    ·exact hb
    ·exact h4 y hy
  ·simp only[if_true,Option.some.injEq]at h
   exact .inr ⟨0,kv,by rw[<-h];simp,rfl,hb,by simp⟩
theorem q7{k:TypeId}{v:Value}:∀(es:List MapEntry) (i:Nat) (f:MapEntry->Bool),(∀e∈es,(Op.equal k v e.key).run P w= .ok (f e) w)->
 (Instr.findAsking k v es i).run P w= .ok ((es.zipIdx i).find? (λe=>f e.1) |>.map λe=>(e.2,e.1.val)) w
 |[],i,f,_=>by simp[Instr.findAsking]
 |e::es,i,f,h=>by
  simp only[Instr.findAsking,Sem.run_bind,h e (by simp),Result.andThen_ok,List.zipIdx_cons,List.find?_cons]
  cases hf:f e
  ·simp only[Bool.false_eq_true,if_false]
   exact q7 es (i+1) f λy hy=>h y (by simp[hy])
  ·simp
theorem findNow_spec{d:TypeDesc}{v:Value}:∀(es:List MapEntry) (i:Nat) (f:MapEntry->Bool) {r:Option (Nat×Value)},(∀e∈es,∀b,Instr.sameNow d v e.key=some b->b=f e)->Instr.findNow d v es i=some r->
 r=((es.zipIdx i).find? (λe=>f e.1) |>.map λe=>(e.2,e.1.val))
 |[],i,f,r,_,h=>by simp only[Instr.findNow,Option.some.injEq]at h;subst h;simp
 |e::es,i,f,r,hs,h=>by
  simp only[Instr.findNow]at h
  simp only[List.zipIdx_cons,List.find?_cons]
  split at h
  ·rename_i h1
   rw[<-hs e (by simp) true h1]
   simp only[Option.some.injEq]at h
   subst h;rfl
  ·rename_i h1
   rw[<-hs e (by simp) false h1]
   exact findNow_spec es (i+1) f (λy hy=>hs y (by simp[hy])) h
  ·cases h
theorem LU{es:List MapEntry}{l:List (PV×PV)}{k:TypeId}{x:PV}{i:Nat}{r:Option (Nat×PV)}{f:MapEntry->Bool}(hl:es.length=l.length)(hf:∀(j:Nat) (e:MapEntry) (kv:PV×PV),es[j]? =some e->l[j]? =some kv->eqP P 64 k x kv.1=some (f e))(h:qu P k x l i=some r):
 (r=none/\(es.zipIdx i).find? (λe=>f e.1)=none)\/∃j kv e,r=some (i+j,kv.2)/\l[j]? =some kv/\es[j]? =some e/\(es.zipIdx i).find? (λe=>f e.1)=some (e,i+j):=by
 rcases AS h with⟨h1,h2⟩|⟨j,kv,h1,h2,h3,h4⟩
 ·refine .inl ⟨h1,?_⟩
  rw[List.find?_eq_none]
  rintro⟨e,n⟩ he
  obtain⟨j,hj⟩:=List.getElem?_of_mem he
  rw[List.getElem?_zipIdx]at hj
  cases hej:es[j]? with
  |none=>rw[hej]at hj;cases hj
  |some e0=>
   rw[hej]at hj;cases hj
   obtain⟨kv,hkv⟩:=bg (l:=l) hl.symm hej
   have:=hf j _ kv hej hkv
   rw[h2 kv (List.mem_of_getElem? hkv)]at this
   cases hfe:f e<;>simp_all
 ·obtain⟨e,he⟩:=bg (l:=es) hl h2
  refine .inr ⟨j,kv,e,h1,h2,he,?_⟩
  have hlt:j<es.length:=(List.getElem?_eq_some_iff.1 he).1
  rw[List.find?_eq_some_iff_getElem]
  have hfe:=hf j e kv he h2
  rw[h3]at hfe
  refine⟨by simpa using(Option.some.inj hfe).symm,j,by simpa using hlt,?_,λm hm=>?_⟩
  ·have:es[j]=e:=(List.getElem?_eq_some_iff.1 he).2
   simp[this,Nat.add_comm]
  ·have hml:m<es.length:=by omega
   obtain⟨kv',hkv'⟩:=bg (l:=l) hl.symm (List.getElem?_eq_getElem hml)
   have h5:=hf m _ kv' (List.getElem?_eq_getElem hml) hkv'
   rw[h4 kv' (List.mem_of_getElem? (by rw[List.getElem?_take,if_pos hm];exact hkv'))]at h5
   simpa using(Option.some.inj h5).symm
theorem jN(em:Bool):∀(d n:Nat) (t:TypeId) (v:Value) (p:PV),vk P d t p=true->d<=n->RelP D w v p->(Instr.checkKey em n t v).run P w= .ok () w
 |0,n,t,v,p,h,_,_=>by simp[vk]at h
 |d+1,n,t,v,p,h,hn,hv=>by
  obtain⟨m,rfl⟩:∃m,n=m+1:=⟨n - 1,by omega⟩
  unfold vk at h
  rw[Instr.checkKey]
  split at h
  ·rename_i ht;rw[gP hv];simp[run_underlying ht]
  ·rename_i ht;rw[gP hv];simp[run_underlying ht]
  ·rename_i ht;rw[gP hv];simp[run_underlying ht]
  ·rename_i fs xs ht
   cases hv with
   |agg vs _ hs hh=>
    have hv':RelP D w (.agg vs) (.agg xs):=.agg vs xs hs hh
    simp only[Sem.run_bind,run_underlying ht,Result.andThen_ok]
    rw[<-Array.forIn_toList]
    have hall:=List.all_eq_true.1 h
    revert hall
    generalize fs.toList=l
    intro hall
    induction l with
    |nil=>simp
    |cons f l ih=>
     have hf:=hall f (by simp)
     simp only[Bool.and_eq_true,bne_iff_ne,ne_eq]at hf
     obtain⟨hne,hf⟩:=hf
     split at hf
     ·rename_i i hi
      simp only[Bool.and_eq_true,decide_eq_true_eq,Bool.or_eq_true]at hf
      obtain⟨⟨⟨h1,h2⟩,h3⟩,h4⟩:=hf
      obtain⟨d0,hd0⟩:=Option.isSome_iff_exists.1 h1
      have hsz:bQ P f.type=some i.size:=by simp[bQ,hi]
      have hag:fG P f.type=false->i.size=1:=λe=>h3.elim (λh3=>by rw[e]at h3;cases h3) id
      obtain⟨s1,r1⟩:=rp (off:=f.offset) (sz:=i.size) hv' rfl h2 hag
      have p1:=pt (P:=P) (w:=w) (t:=f.type) (cs:=vs) (off:=f.offset) hd0 hsz (by rw[s1];exact h2) hag
      have e:=jN em d m f.type _ _ h4 (by omega) r1
      have ih':=ih λf hf=>hall f (by simp[hf])
      simp only[List.forIn_cons,Sem.run_bind,Sem.run_ite,hne,not_false_eq_true,ne_eq,if_true,p1,Result.andThen_ok,e,Sem.run_pure]
      simpa using ih'
     ·cases hf
  ·cases h
theorem vF{k:TypeId}{v:Value}{es:Array MapEntry}{f:MapEntry->Bool}{d:TypeDesc}(hd:P.underlying k=some d)(h:∀e∈es.toList,(Op.equal k v e.key).run P w= .ok (f e) w)(hs:∀e∈es.toList,∀b,Instr.sameNow d v e.key=some b->b=f e):
 (Instr.findKey k v es.toList).run P w= .ok ((es.toList.zipIdx 0).find? (λe=>f e.1) |>.map λe=>(e.2,e.1.val)) w:=by
 simp only[Instr.findKey,Sem.run_bind,run_underlying hd,Result.andThen_ok]
 cases hn:Instr.findNow d v es.toList 0 with
 |none=>exact q7 es.toList 0 f h
 |some r=>rw[findNow_spec es.toList 0 f hs hn];simp
theorem Gx{k:TypeId}{d:TypeDesc}{v u:Value}{b c:Bool}(hd:P.underlying k=some d)(h:Instr.sameNow d v u=some b)(he:(Op.equal k v u).run P w= .ok c w):b=c:=by
 have h9:(Op.equal k v u)=Op.equalIn (9999+1) k v u:=rfl
 rw[h9]at he
 unfold Instr.sameNow at h
 split at h
 ·split at h
  ·rename_i hk;subst hk;cases h;rw[run_equalIn_int w 9999 k _ _ _ _ hd]at he;cases he;rfl
  ·cases h
 ·cases h;rw[run_equalIn_string w 9999 k _ _ hd,<-beq_toListBytes]at he;cases he;rfl
 ·cases h;rw[run_equalIn_bool' w 9999 k _ _ hd]at he;cases he;rfl
 ·cases h
theorem Ei(hI:Inv c θ D st a w){k:TypeId}{kvs:List (PV×PV)}{es:Array MapEntry}{v:Value}{p:PV}{r:Option (Nat×PV)}(hes:es.size=kvs.length)
 (hrel:∀(i:Nat) (en:MapEntry) (kv:PV×PV),es[i]? =some en->kvs[i]? =some kv->RelP D w en.key kv.1/\RelP D w en.val kv.2) (hv:RelP D w v p) (hr:qu P k p kvs 0=some r) (hall:∀kv∈kvs,(eqP P 64 k p kv.1).isSome=true) (hd:(P.underlying k).isSome=true):
 ∃res,(Instr.findKey k v es.toList).run P w= .ok res w/\((r=none/\res=none)\/∃j kv en,r=some (j,kv.2)/\kvs[j]? =some kv/\es[j]? =some en/\res=some (j,en.val)/\eqP P 64 k p kv.1=some true):=by
 have _:=hI
 obtain⟨d,hd⟩:=Option.isSome_iff_exists.1 hd
 have hget:∀en∈es.toList,∃(i:Nat) (kv:PV×PV) (b:Bool),es[i]? =some en/\kvs[i]? =some kv/\eqP P 64 k p kv.1=some b/\(Op.equal k v en.key).run P w= .ok b w:=by
  intro en hen
  obtain⟨i,hi⟩:=List.getElem?_of_mem hen
  rw[Array.getElem?_toList]at hi
  have hlt:i<kvs.length:=by rw[<-hes];exact(Array.getElem?_eq_some_iff.1 hi).1
  have hkv:=List.getElem?_eq_getElem hlt
  obtain⟨b,hb⟩:=Option.isSome_iff_exists.1 (hall _ (List.mem_of_getElem? hkv))
  exact⟨i,_,b,hi,hkv,hb,Ci (P:=P) (D:=D) (w:=w) 64 k p _ b v en.key 10000 hb (by decide) hv (hrel i en _ hi hkv).1⟩
 classical
 let f:MapEntry->Bool:=λen=>if h:en∈es.toList then(hget en h).choose_spec.choose_spec.choose else false
 have hf:∀en,(h:en∈es.toList)->(Op.equal k v en.key).run P w= .ok (f en) w:=λen h=>by
  have:=(hget en h).choose_spec.choose_spec.choose_spec.2.2.2
  simp only[f,dif_pos h]
  exact this
 have hfind:=vF (f:=f) hd hf λen h b hb=>Gx hd hb (hf en h)
 refine⟨_,hfind,?_⟩
 have hfe:∀(j:Nat) (en:MapEntry) (kv:PV×PV),es.toList[j]? =some en->kvs[j]? =some kv->eqP P 64 k p kv.1=some (f en):=by
  intro j en kv hj hkv
  obtain⟨b,hb⟩:=Option.isSome_iff_exists.1 (hall _ (List.mem_of_getElem? hkv))
  have h1:=Ci (P:=P) (D:=D) (w:=w) 64 k p _ b v en.key 10000 hb (by decide) hv (hrel j en kv (by rw[<-Array.getElem?_toList];exact hj) hkv).1
  have h2:=hf en (List.mem_of_getElem? hj)
  have h3:(Op.equal k v en.key).run P w= .ok b w:=h1
  rw[h2]at h3
  cases h3
  exact hb
 rcases LU (by simpa using hes) hfe hr with⟨h1,h2⟩|⟨j,kv,en,h1,h2,h3,h4⟩
 ·exact .inl ⟨h1,by rw[h2];rfl⟩
 ·refine .inr ⟨j,kv,en,by simpa using h1,h2,by rw[<-Array.getElem?_toList];exact h3,by rw[h4];simp,?_⟩
  have:=hfe j en kv h3 h2
  rw[this]
  have:=List.find?_some h4
  simpa using this
theorem nH{g:Nat}{es:Array MapEntry}{clock:Nat}(h:w.heap[g]? =some (.map es clock)):(getObj g).run P w= .ok (.map es clock) w:=MapKept.run_getObj_map h
theorem CO(hI:Inv c θ D st a w){K:AV->Prop}{t k e:TypeId}{m x:Operand}{okb:Bool}{z:Value}(ho:o.op= .lookup t m x okb)(ht:P.underlying t=some (.map k e))(hz:db P e=some z)
 (h:g8 P st (.lookup k e okb z (.of m) (.of x)) K):Yields P o a w (Res c θ st a K):=by
 obtain⟨am,hm,ax,hx,id,kvs,rfl,hob,p,hp,hkey,hd,hall,r,hr,hk⟩:=h
 obtain⟨g,hg,hv⟩:=hI.get hm
 obtain⟨es,clock,h1,h2,h3⟩:=hI.ok.objs id _ _ hg hob
 have hrel:=cn (hI.get hx) hp
 obtain⟨res,hres,hcase⟩:=Ei hI h2 h3 hrel hr hall hd
 have hck:∀em,(Instr.checkKey em 10000 k (a.eval x)).run P w= .ok () w:=λem=>jN em 64 10000 k _ p hkey (by decide) hrel
 simp only[db,Option.bind_eq_some_iff]at hz
 obtain⟨it,hit,hz1⟩:=hz
 have hzero:(zeroValue e).run P w= .ok z w:=by simp[zeroValue,typeInfo,hit,hz1]
 have fin:∀(u:Value) (q:PV) (b:Bool),RelP D w u q->(execOp a.eval o).run P w= .ok (.value (if okb then .tuple #[u,.bool b]else u)) w->K (match okb with|true=>.tup [.pv q,.pv (.sc (.bool b))]|false=>.p q)->Yields P o a w (Res c θ st a K):=by
  intro u q b hu hrun hk
  cases okb
  ·exact aE hI hrun hk hu
  ·refine aE hI hrun hk ⟨#[u,.bool b],rfl,rfl,λi v x hv hx=>?_⟩
   match i with
   |0=>simp at hv hx;subst hv;subst hx;exact hu
   |1=>simp at hv hx;subst hv;subst hx;exact RelP.sc _
   |i+2=>simp at hx
 rcases hcase with⟨rfl,rfl⟩|⟨j,kv,en,rfl,hj,hen,rfl,_⟩
 ·refine fin z (.sc z) false (RelP.sc z) ?_ (by cases okb<;>exact hk)
  simp[execOp,ho,Instr.lookup,run_underlying ht,hv,nH h1,hck,hres,hzero]
 ·refine fin en.val kv.2 true (h3 j en kv hen hj).2 ?_ (by cases okb<;>exact hk)
  simp[execOp,ho,Instr.lookup,run_underlying ht,hv,nH h1,hck,hres]
theorem GL(hI:Inv c θ D st a w){K:AV->Prop}{x:Operand}{t k e:TypeId}{cl:Call}(ho:o.op= .call cl)(hcl:cl.callee= .builtin .len)(hargs:cl.args= #[x])(htys:cl.argTypes= #[t])
 (ht:P.underlying t=some (.map k e)) (h:g8 P st (.lenM k e (.of x)) K):Yields P o a w (Res c θ st a K):=by
 obtain⟨ax,hx,id,kvs,rfl,hob,hk⟩:=h
 obtain⟨g,hg,hv⟩:=hI.get hx
 obtain⟨es,clock,h1,h2,h3⟩:=hI.ok.objs id _ _ hg hob
 refine aE hI ?_ hk (RelP.sc _)
 simp[execOp,ho,resolve,hcl,hargs,htys,invoke,builtin,Builtin.len_,run_underlying ht,hv,goInt,nH h1,h2]
theorem Ep(hI:Inv c θ D st a w)(hd:∀k,o.dst=some k->k<c.n){K KP:St->Prop}{t k e:TypeId}(ho:o.op= .makeMap t none){pl:Option Nat}
 (h:zO st (.mkmap k e) λob mk=>uw st pl/\K ((st.new pl ob).putO o.dst (.b (mk (st.nid pl))))):Leaves P o c K KP a w:=by
 intro next Q hn _
 obtain⟨hpl,h⟩:=h
 obtain⟨θ',hI',hid⟩:=hI.allocAt hpl (l:=.mp w.heap.size) (o:=.map k e []) (ob:=.map #[] 0) (λ_ h=>h) λθ' hθ=>⟨#[],0,d7 w _,rfl,λi en kv he=>by simp at he⟩
 have hrun:(execOp a.eval o).run P w= .ok (.value (.map (some w.heap.size))) (w.alloc (.map #[] 0)):=by
  simp[execOp,ho,Instr.makeMap]
 unfold Oper.wp
 rw[hrun]
 exact hn _ _ ⟨_,h,_,_,hI'.put hd ⟨w.heap.size,hid,rfl⟩⟩
theorem E5(hI:Inv c θ D st a w)(hd:∀k,o.dst=some k->k<c.n){K KP:St->Prop}{t k e:TypeId}(ho:o.op= .makeMap t none)(h:sexec P o.dst (.mkmap k e) st K KP):Leaves P o c K KP a w:=
 Ep hI hd ho (pl:=none) ⟨trivial,h⟩
theorem yx:∀{p q:PV} {v u:Value},p.plain=true->RelP D w v p->RelP D w u p->Instr.sameBits 10000 v u=true:=by
 intro p q v u hp hv hu
 cases p with
 |sc s=>
  rw[gP hv,gP hu]
  cases s<;>simp[PV.plain]at hp<;>simp[Instr.sameBits,beq_toListBytes]
 |agg xs=>
  cases hv with
  |agg vs _ h1 h2=>
   cases hu with
   |agg us _ h3 h4=>
    simp only[PV.plain,List.all_eq_true]at hp
    show((vs.size==us.size)&&_)=true
    simp only[Bool.and_eq_true,beq_iff_eq,List.all_eq_true]
    refine⟨by omega,λx hx=>?_⟩
    obtain⟨i,hi⟩:=List.getElem?_of_mem hx
    rw[List.getElem?_zip_eq_some]at hi
    obtain⟨a1,a2⟩:=hi
    rw[Array.getElem?_toList]at a1 a2
    have hlt:i<xs.length:=by rw[<-h1];exact(Array.getElem?_eq_some_iff.1 a1).1
    have hxi:=List.getElem?_eq_getElem hlt
    have hpi:=hp _ (List.mem_of_getElem? hxi)
    have r1:=h2 i _ _ a1 hxi
    have r2:=h4 i _ _ a2 hxi
    revert r1 r2 hpi
    generalize xs[i]=y
    intro hpi r1 r2
    cases y with
    |sc s=>rw[gP r1,gP r2];cases s<;>simp at hpi<;>simp[Instr.sameBits,beq_toListBytes]
    |_=>simp at hpi
 |_=>simp[PV.plain]at hp
theorem BC{h:Array Obj}{g k:Nat}{ob:Obj}(hk:k≠g):(h.setIfInBounds g ob)[k]? =h[k]? :=Array.getElem?_setIfInBounds_ne (Ne.symm hk)
theorem uI(hI:Inv c θ D st a w)(hdn:o.dst=none){K KP:St->Prop}{t k e:TypeId}{m x y:Operand}(ho:o.op= .mapUpdate t m x y\/o.op= .insert t m x y)(ht:P.underlying t=some (.map k e))
 (h:sexec P o.dst (.mapset k e (.of m) (.of x) (.of y)) st K KP):Leaves P o c K KP a w:=by
 intro next Q hn _
 obtain⟨am,hm,ax,hx,ay,hy,id,kvs,rfl,hob,p,hp,q,hq,_,hplain,hkey,hd,hall,r,hr,hsame,hk⟩:=h
 obtain⟨g,hg,hv⟩:=hI.get hm
 obtain⟨es,clock,h1,h2,h3⟩:=hI.ok.objs id _ _ hg hob
 have hrel:=cn (hI.get hx) hp
 have hval:=cn (hI.get hy) hq
 obtain⟨res,hres,hcase⟩:=Ei hI h2 h3 hrel hr hall hd
 have hck:∀em,(Instr.checkKey em 10000 k (a.eval x)).run P w= .ok () w:=λem=>jN em 64 10000 k _ p hkey (by decide) hrel
 have hgs:g<w.heap.size:=(hI.ok.olt id _ g hg rfl).1
 have fin:∀(ob:Obj) (kvs':List (PV×PV)),(execOp a.eval o).run P w= .ok .skip {w with heap:=w.heap.setIfInBounds g ob}->(∃(es':Array MapEntry) (clock':Nat),ob= .map es' clock'/\es'.size=kvs'.length/\∀(i:Nat) (en:MapEntry) (kv:PV×PV),es'[i]? =some en->kvs'[i]? =some kv->RelP D w en.key kv.1/\RelP D w en.val kv.2)->
  K {st with hp:=st.hp.set id (.map k e kvs')}->o.wp P a w next Q:=by
  rintro ob kvs' hrun ⟨es',clock',rfl,hl',hrel'⟩ hk
  have hD:∀b,D b->({w with heap:=w.heap.setIfInBounds g (.map es' clock')}:World).heap[b]? =w.heap[b]? :=λb hb=>BC λe=>(hI.ok.olt id _ g hg rfl).2 (e▸hb)
  have hI':=hI.store (o':=.map k e kvs') (w':={w with heap:=w.heap.setIfInBounds g (.map es' clock')}) hg rfl rfl rfl rfl (by simp) (λk' hk'=>BC hk')
   ⟨es',clock',by simp[hgs],hl',λi en kv he hkv=>⟨(hrel' i en kv he hkv).1.mono (λ_ h=>h) hD,(hrel' i en kv he hkv).2.mono (λ_ h=>h) hD⟩⟩
  unfold Oper.wp
  rw[hrun]
  refine hn _ _ ⟨_,hk,θ,D,?_⟩
  have:=hI'.put (d:=none) (v:=undef) (x:=.v undef) (λ_ h=>by cases h) (RelP.sc _)
  rw[hdn]
  exact this
 have hset:∀(ob:Obj),(setObj g ob).run P w= .ok () {w with heap:=w.heap.setIfInBounds g ob}:=λob=>MapKept.run_setObj_map ob h1
 rcases hcase with⟨rfl,rfl⟩|⟨j,kv,en,rfl,hj,hen,rfl,_⟩
 ·refine fin (.map (es.push {key:=a.eval x,val:=a.eval y,born:=clock}) (clock+1)) (kvs++[(p,q)]) ?_ ⟨_,_,rfl,by simp[h2],λi en kv he hkv=>?_⟩ hk
  ·rcases ho with ho|ho<;>simp only[execOp,ho,Instr.mapUpdate,Sem.run_bind,run_underlying ht,Result.andThen_ok,hv,nH h1,hck,hres,hset,Sem.run_pure]
  ·rw[Array.getElem?_push]at he
   split at he
   ·rename_i hi
    rw[hi,h2,List.getElem?_append_right (Nat.le_refl _),Nat.sub_self]at hkv
    cases he
    simp at hkv
    subst hkv
    exact⟨hrel,hval⟩
   ·rename_i hi
    have hlt:i<es.size:=(Array.getElem?_eq_some_iff.1 he).1
    rw[List.getElem?_append_left (by omega)]at hkv
    exact h3 i en kv he hkv
 ·obtain⟨u',hu'⟩:=hsame j kv.2 rfl
  rw[hj]at hu'
  cases hu'
  have hold:((es[j]?).map (·.key)).getD (a.eval x)=en.key:=by rw[hen];rfl
  have hbits:=yx (q:=p) hplain (h3 j en _ hen hj).1 hrel
  refine fin (.map (es.modify j λe=>{e with key:=a.eval x,val:=a.eval y}) clock) (kvs.set j (p,q)) ?_ ⟨_,_,rfl,by simp[h2],λi en' kv' he hkv=>?_⟩ hk
  ·rcases ho with ho|ho<;>simp only[execOp,ho,Instr.mapUpdate,Sem.run_bind,run_underlying ht,Result.andThen_ok,hv,nH h1,hck,hres,hold,Instr.keyThatStays,hbits,if_true,Sem.run_pure,hset]
  ·rw[Array.getElem?_modify]at he
   rw[List.getElem?_set]at hkv
   by_cases hij:j=i
   ·subst hij
    rw[if_pos rfl,hen]at he
    rw[if_pos rfl,if_pos (List.getElem?_eq_some_iff.1 hj).1]at hkv
    simp at he hkv
    subst he;subst hkv
    exact⟨hrel,hval⟩
   ·rw[if_neg hij]at he
    rw[if_neg hij]at hkv
    exact h3 i en' kv' he hkv
theorem GO(hI:Inv c θ D st a w){K:AV->Prop}{f:FuncId}{first caps:Array Operand}(ho:o.op= .makeFunc (.func f) first caps)(hf:first= #[])(h:g8 P st (.mkfn f (caps.toList.map SX.of)) K):Yields P o a w (Res c θ st a K):=by
 obtain⟨ars,has,hcase⟩:=h
 obtain⟨m1,m2⟩:=mapM_some has
 subst hf
 have hrun:(execOp a.eval o).run P w= .ok (.value (.func (.func f) #[] (caps.map a.eval))) w:=by simp[execOp,ho,Instr.makeFunc]
 have hev:∀(i:Nat) (x:AV),ars[i]? =some x->∃y,caps.toList[i]? =some y/\RelA θ D w (a.eval y) x:=λi x hx=>by
  obtain⟨s,hs⟩:=bg (l:=caps.toList.map SX.of) m1 hx
  have hg:=m2 i s x hs hx
  rw[List.getElem?_map]at hs
  cases hc:caps.toList[i]? with
  |none=>rw[hc]at hs;cases hs
  |some y=>rw[hc]at hs;cases hs;exact⟨y,rfl,hI.get hg⟩
 rcases hcase with⟨ids,rfl,hk⟩|⟨ps,rfl,hk⟩
 ·refine aE hI hrun hk ?_
  have hg:∀(i:Nat),i<ids.length->∃g:Nat,∀id y,ids[i]? =some id->caps.toList[i]? =some y->θ[id]? =some (.blk g)/\a.eval y= .pointer (some ⟨g,0,none⟩):=λi hi=>by
   obtain⟨y,hy,hr⟩:=hev i (.b (.ptr ids[i] 0)) (by simp[List.getElem?_eq_getElem hi])
   obtain⟨g,e1,e2⟩:=hr
   exact⟨g,λid y' h1 h2=>by rw[List.getElem?_eq_getElem hi]at h1;cases h1;rw[hy]at h2;cases h2;exact⟨e1,e2⟩⟩
  obtain⟨gs,g1,g2⟩:=fm hg
  refine⟨gs,g1,λk id g hid hgk=>?_,?_⟩
  ·have hk:k<ids.length:=(List.getElem?_eq_some_iff.1 hid).1
   obtain⟨y,hy,_⟩:=hev k (.b (.ptr id 0)) (by simp[hid])
   exact(g2 k g hgk id y hid hy).1
  ·congr 1
   apply Array.ext'
   apply List.ext_getElem?
   intro i
   simp only[Array.toList_map,List.getElem?_map]
   have hlen:caps.toList.length=ids.length:=by simpa using m1
   rcases Nat.lt_or_ge i ids.length with hi|hi
   ·have hgi:=List.getElem?_eq_getElem (l:=gs) (i:=i) (by omega)
    have hyi:=List.getElem?_eq_getElem (l:=caps.toList) (i:=i) (by omega)
    rw[hgi,hyi]
    simp only[Option.map_some]
    rw[(g2 i _ hgi _ _ (List.getElem?_eq_getElem hi) hyi).2]
   ·rw[List.getElem?_eq_none (by omega:caps.toList.length<=i),List.getElem?_eq_none (by omega:gs.length<=i)]
    rfl
 ·refine aE hI hrun hk (RelP.fn _ _ _ (by simpa using m1) λi v x hv hx=>?_)
  obtain⟨y,hy,hr⟩:=hev i (.p x) (by simp[hx])
  rw[Array.getElem?_map]at hv
  rw[Array.getElem?_toList]at hy
  rw[hy]at hv
  cases hv
  exact hr
theorem GC(hI:Inv c θ D st a w)(hd:∀k,o.dst=some k->k<c.n){K KP:St->Prop}{t:TypeId}{x:Operand}(ho:o.op= .box t x)(h:g8 P st (.boxD t (.of x)) λx=>K (st.putO o.dst x)):Leaves P o c K KP a w:=by
 intro next Q hn _
 obtain⟨ax,hx,p,hp,hok,hnf,hk⟩:=h
 have hX:=hI.get hx
 obtain⟨h1,h2⟩:=nD hX hok
 have hrun:(execOp a.eval o).run P w= .ok (.value (.pointer (some ⟨w.heap.size,0,none⟩))) (w.alloc (.cells (a.eval x).cells t)):=by
  simp[execOp,ho,Instr.box,newVar,newRow]
 have hI':=hI.below (D':=λb=>D b\/(w.heap.size<=b/\b<(w.alloc (.cells (a.eval x).cells t)).heap.size)) (jg w _) hI.w0le (λb hb=>.inl hb) (λb hb=>hb)
 unfold Oper.wp
 rw[hrun]
 refine hn _ _ ⟨_,hk,θ,_,hI'.put hd ?_⟩
 have hz:∀(j:Nat) (y:PV),p.cells[j]? =some y->∃z,ax.cells[j]? =some z/\z.toPV=some y:=by
  intro j y hy
  cases ax with
  |tup xs=>simp[AV.ok,AV.cells,BV.cellOk,PV.cellOk]at hok
  |agg xs=>
   simp only[AV.toPV,Option.map_eq_some_iff]at hp
   obtain⟨ps,hps,rfl⟩:=hp
   obtain⟨m1,m2⟩:=mapM_some hps
   simp only[PV.cells]at hy
   obtain⟨z,hz⟩:=bg (l:=xs) m1 hy
   exact⟨z,hz,m2 j z y hz hy⟩
  |b bx=>
   cases bx with
   |pv q=>
    cases hp
    exact⟨.pv y,by simp[AV.cells,hy],rfl⟩
   |nils=>
    cases hp
    simp only[PV.cells]at hy
    cases j with
    |zero=>simp at hy;subst hy;exact⟨.nils,rfl,rfl⟩
    |succ j=>simp at hy
   |full q=>exact absurd rfl (hnf q)
   |_=>cases hp
 have hcells:∀(j:Nat) (y:PV),p.cells[j]? =some y->∃u,(a.eval x).cells[j]? =some u/\RelP D w u y:=by
  intro j y hy
  obtain⟨z,e1,e2⟩:=hz j y hy
  have hj:j<(a.eval x).cells.size:=by rw[h1];exact(List.getElem?_eq_some_iff.1 e1).1
  exact⟨_,Array.getElem?_eq_getElem hj,ki (h2 j _ z (Array.getElem?_eq_getElem hj) e1).1 e2⟩
 exact ov (b:=w.heap.size) (o:=0) (.inr ⟨Nat.le_refl _,by simp⟩) λj y hy=>by
  obtain⟨u,e1,e2⟩:=hcells j y hy
  refine⟨u,?_,e2.mono (λb hb=>.inl hb) (λb hb=>dJ w _ b (hI.ok.dlt b hb))⟩
  rw[Nat.zero_add,cell_of_row _ _ _ (a.eval x).cells t (0,0) (d7 w _)]
  exact e1
theorem E4(hI:Inv c θ D st a w){K:AV->Prop}{t:TypeId}{x:Operand}(ho:o.op= .makeInterface t x)(ht:(match P.underlying t with|some (.interface _)=>false|some _=>true|none=>false)=true)(h:g8 P st (.iface t (.of x)) K):Yields P o a w (Res c θ st a K):=by
 obtain⟨ax,hx,hk⟩:=h
 cases hd:P.underlying t with
 |none=>rw[hd]at ht;cases ht
 |some d=>
  refine aE hI (v:=.iface t (a.eval x)) ?_ hk ⟨t,a.eval x,rfl⟩
  rw[hd]at ht
  cases d<;>simp at ht<;>simp[execOp,ho,Instr.makeInterface,run_underlying hd]
theorem Em{k:IntKind}(mx:Bool):∀(ns:List Int) (n:Int),((ns.map λn=>Value.int k n).foldlM (if mx then Builtin.max2 else Builtin.min2) (.int k n)).run P w= .ok (.int k (ns.foldl (λa b=>if mx then max a b else min a b) n)) w
 |[],n=>by simp
 |m::ns,n=>by
  have ih:=Em (k:=k) mx ns (if mx then max n m else min n m)
  simp only[List.map_cons,List.foldlM_cons,List.foldl_cons,Sem.run_bind]
  cases mx
  ·have:(Builtin.min2 (.int k n) (.int k m)).run P w= .ok (.int k (min n m)) w:=by
    simp only[Builtin.min2,Sem.run_pure]
    congr 2
    split<;>omega
   simp only[Bool.false_eq_true,if_false,this,Result.andThen_ok]at ih⊢
   exact ih
  ·have:(Builtin.max2 (.int k n) (.int k m)).run P w= .ok (.int k (max n m)) w:=by
    simp only[Builtin.max2,Sem.run_pure]
    congr 2
    split<;>omega
   simp only[if_true,this,Result.andThen_ok]at ih⊢
   exact ih
theorem yB(hI:Inv c θ D st a w){K:AV->Prop}{mx:Bool}{k:IntKind}{x:Operand}{ys:List Operand}{cl:Call}(ho:o.op= .call cl)(hcl:cl.callee= .builtin (if mx then .max else .min))(hargs:cl.args.toList=x::ys)
 (h:g8 P st (.mnmx mx k (.of x) (ys.map SX.of)) K):Yields P o a w (Res c θ st a K):=by
 obtain⟨ax,hx,hv⟩:=h
 obtain⟨k1,n,hn,ars,has,ns,rfl,rfl,hk⟩:=cr (hI.get hx) hv
 obtain⟨m1,m2⟩:=mapM_some has
 have hvals:ys.map a.eval=ns.map λn=>Value.int k1 n:=by
  apply List.ext_getElem?
  intro i
  simp only[List.getElem?_map]
  have hl:ys.length=ns.length:=by simpa using m1
  rcases Nat.lt_or_ge i ns.length with hi|hi
  ·have hy:=List.getElem?_eq_getElem (l:=ys) (i:=i) (by omega)
   have hni:=List.getElem?_eq_getElem hi
   rw[hy,hni]
   have:=m2 i (SX.of ys[i]) (.v (.int k1 ns[i])) (by rw[List.getElem?_map,hy];rfl) (by rw[List.getElem?_map,hni];rfl)
   simp only[Option.map_some]
   rw[Gm (hI.get this)]
  ·rw[List.getElem?_eq_none (by omega:ys.length<=i),List.getElem?_eq_none hi]
   rfl
 have hargs':cl.args.toList.map a.eval=Value.int k1 n::ns.map λn=>Value.int k1 n:=by
  rw[hargs,List.map_cons,hn,hvals]
 refine aE hI ?_ hk (RelP.sc _)
 have hf:=Em (P:=P) (w:=w) (k:=k1) mx ns n
 cases mx
 ·simp only[Bool.false_eq_true,if_false]at hcl hf
  simp[execOp,ho,resolve,hcl,invoke,builtin,Builtin.min_,hargs',hf]
 ·simp only[if_true]at hcl hf
  simp[execOp,ho,resolve,hcl,invoke,builtin,Builtin.max_,hargs',hf]
theorem E7(hI:Inv c θ D st a w){K KP:St->Prop}{x:Operand}(ho:o.op= .panic x)(h:sexec P o.dst (.panic (.of x)) st K KP):Leaves P o c K KP a w:=by
 intro next Q _ hp
 obtain⟨ax,hx,rfl,hk⟩:=h
 obtain⟨t,u,hv⟩:=hI.get hx
 have hrun:(execOp a.eval o).run P w= .halt (.panic (.iface t u)) w:=by
  simp[execOp,ho,hv,Instr.panic,goPanic]
 unfold Oper.wp
 rw[hrun]
 exact hp _ w ⟨⟨t,u,rfl⟩,st,hk,θ,D,hI⟩
theorem Jb{L:List PV}{ad:Option Addr}{cap sz n:Nat}(hI:Inv c θ D st a w)(h0:0<sz)(hok:∀p∈L,p.ok=true)(hn:n<=L.length)
 (hcells:0<L.length->∃b o,ad=some ⟨b,o,none⟩/\b<w.heap.size/\(∀x∈L,x.cells.length=sz)/\∀(i j:Nat) (x y:PV),L[i]? =some x->x.cells[j]? =some y->∃u,w.cell? ⟨b,o+i*sz+j,none⟩=some u/\RelP D w u y):
 ∃news:List Value,news.length=n*sz/\(Builtin.firstCells sz n (.slice ad L.length cap)).run P w= .ok news.toArray w/\(∀u∈news,u.oneCell'=true)/\
  (0<n->∀x∈L,x.cells.length=sz)/\∀(i j:Nat) (p q:PV),i<n->L[i]? =some p->p.cells[j]? =some q->∃u,news[i*sz+j]? =some u/\RelP D w u q:=by
 have _:=hI
 rcases Nat.eq_zero_or_pos n with rfl|hpos
 ·refine⟨[],by simp,?_,λu hu=>by simp at hu,λh=>absurd h (by omega),λi j p q hi=>absurd hi (by omega)⟩
  cases ad with
  |none=>simp[Builtin.firstCells]
  |some ab=>exact run_firstCells_some (P:=P) w sz 0 ab L.length cap [] (by simp) (λj v hj=>by simp at hj)
 ·obtain⟨g,og,rfl,hg,hsz,hc⟩:=hcells (by omega)
  obtain⟨news,n1,n2⟩:=fm (n:=n*sz) (p:=λk u=>w.cell? ⟨g,og+k,none⟩=some u/\u.oneCell'=true/\∀(p q:PV),L[k/sz]? =some p->p.cells[k%sz]? =some q->RelP D w u q) (λk hk=>by
   have hi:k/sz<n:=(Nat.div_lt_iff_lt_mul h0).2 hk
   have hj:k%sz<sz:=Nat.mod_lt _ h0
   have hp:=List.getElem?_eq_getElem (l:=L) (i:=k/sz) (by omega)
   have hpl:=hsz _ (List.mem_of_getElem? hp)
   have hq:=List.getElem?_eq_getElem (l:=(L[k/sz]'(by omega)).cells) (i:=k%sz) (by omega)
   obtain⟨u,e1,e2⟩:=hc _ _ _ _ hp hq
   refine⟨u,?_,?_,λp q hp' hq'=>?_⟩
   ·rw[<-e1,Nat.add_assoc,Nat.mul_comm,Nat.div_add_mod]
   ·have hok1:=hok _ (List.mem_of_getElem? hp)
    simp only[PV.ok,List.all_eq_true]at hok1
    exact gA e2 (hok1 _ (List.mem_of_getElem? hq))
   ·rw[hp]at hp';cases hp'
    rw[hq]at hq';cases hq'
    exact e2)
  refine⟨news,n1,run_firstCells_some (P:=P) w sz n ⟨g,og,none⟩ L.length cap news n1 (λj v hj=>by rw[addr_add];exact(n2 j v hj).1),λu hu=>?_,λ_=>hsz,λi j p q hi hp hq=>?_⟩
  ·obtain⟨j,hj⟩:=List.getElem?_of_mem hu
   exact(n2 j u hj).2.1
  ·have hj:j<sz:=by rw[<-hsz p (List.mem_of_getElem? hp)];exact(List.getElem?_eq_some_iff.1 hq).1
   have hlt:i*sz+j<news.length:=by
    rw[n1]
    have:(i+1)*sz<=n*sz:=Nat.mul_le_mul_right _ hi
    rw[Nat.add_mul,Nat.one_mul]at this
    omega
   refine⟨news[i*sz+j],List.getElem?_eq_getElem hlt,?_⟩
   obtain⟨f1,f2⟩:=flat_get (i:=i) hj
   exact(n2 _ _ (List.getElem?_eq_getElem hlt)).2.2 p q (by rw[f1];exact hp) (by rw[f2];exact hq)
theorem GE(hI:Inv c θ D st a w)(hd:∀k,o.dst=some k->k<c.n){K KP:St->Prop}{t u e:TypeId}{sz:Nat}{x y:Operand}{cl:Call}(ho:o.op= .call cl)(hcl:cl.callee= .builtin .copy)(hargs:cl.args= #[x,y])(htys:cl.argTypes= #[t,u])
 (he:eI P t=some e) (hs:bQ P e=some sz) (h0:0<sz) (h:sexec P o.dst (.copy e sz (.of x) (.of y)) st K KP):Leaves P o c K KP a w:=by
 intro next Q hn _
 obtain⟨ax,hx,ay,hy,hl⟩:=h
 obtain⟨L,ad,cap',⟨hok,id,rfl,_,ob,hob,xs,rfl,hk⟩,hye,_,_,hcells⟩:=kh hI.ok (hI.get hy) hl
 obtain⟨l,hlθ,hh⟩:=hI.get hx
 have hro:=hI.ok.objs id l _ hlθ hob
 have hu:P.underlying t=some (.slice e):=by
  unfold eI at he
  split at he
  ·cases he;assumption
  ·cases he
 have hsz:(sizeOf e).run P w= .ok sz w:=run_sizeOf hs
 obtain⟨news,n1,n2,n3,n4,n5⟩:=Jb (P:=P) (cap:=cap') (n:=min L.length xs.length) hI h0 hok (Nat.min_le_left _ _) hcells
 have fin:∀(w':World) (st':St),(Builtin.copy_ #[t,u] o.type #[a.eval x,a.eval y]).run P w= .ok (goInt ((min L.length xs.length:Nat):Int)) w'->Inv c θ D {st with hp:=st.hp.set id (.vec e sz (L.take xs.length++xs.drop L.length))} a w'->o.wp P a w next Q:=by
  intro w' _ hr hI'
  unfold Oper.wp
  have:(execOp a.eval o).run P w= .ok (.value (goInt ((min L.length xs.length:Nat):Int))) w':=by simp[execOp,ho,resolve,hcl,hargs,htys,invoke,builtin,hr]
  rw[this]
  refine hn _ _ ⟨_,hk,θ,D,hI'.put hd ?_⟩
  rw[Nat.min_comm]
  exact RelP.sc _
 cases l<;>simp only[RelO,Loc.head]at hro hh
 ·rename_i a0
  subst hro
  have hm:min L.length ([]:List PV).length=0:=by simp
  have hnil:news=[]:=List.eq_nil_of_length_eq_zero (by rw[n1,hm,Nat.zero_mul])
  subst hnil
  have hm':((min L.length ([]:List PV).length:Nat):Int)=0:=by rw[hm];rfl
  refine fin w st ?_ ?_
  ·rw[hh,hye,hm']
   rw[hm]at n2
   have hlen:(Builtin.lenOf (.slice ad L.length cap')).run P w= .ok L.length w:=rfl
   cases a0<;>simp[Builtin.copy_,run_underlying hu,hlen,hsz,n2,storeCells]
  ·have hset:st.hp.set id (.vec e sz (L.take ([]:List PV).length++([]:List PV).drop L.length))=st.hp:=by
    apply List.ext_getElem?
    intro i
    by_cases hii:i=id
    ·subst hii
     rw[List.getElem?_set_self (List.getElem?_eq_some_iff.1 hob).1,hob]
     simp
    ·rw[List.getElem?_set_ne (Ne.symm hii)]
   rw[hset]
   exact hI
 ·rename_i g m cap s O
  obtain⟨rfl,rfl,h3,h4,h5,cur,h6,h7,h8⟩:=hro
  have hle:min L.length xs.length*s<=cur.size:=by rw[h7];exact Nat.mul_le_mul_right _ (by omega)
  have hst:=run_storeCells_at P g 0 e news 0 cur w h6 (by rw[n1];omega) n3
  simp only[Nat.zero_add,Nat.add_zero,List.take_zero,List.nil_append]at hst
  have hsr:=i7 cur 0 news (by rw[n1];omega)
  simp only[List.take_zero,List.nil_append,Nat.zero_add]at hsr
  obtain⟨s1,s2⟩:=hsr
  refine fin (w.setRow g (news++cur.toList.drop news.length).toArray) st ?_ (hI.store (w':=w.setRow g (news++cur.toList.drop news.length).toArray) (l:=.hdr g xs.length cap s O) hlθ (.inl rfl) rfl rfl rfl (by simp) (λk hk=>setRow_other _ _ _ _ hk) ?_)
  ·rw[hh,hye]
   have hlen:(Builtin.lenOf (.slice ad L.length cap')).run P w= .ok L.length w:=rfl
   have hmm:Nat.min L.length xs.length=min L.length xs.length:=rfl
   simp[Builtin.copy_,run_underlying hu,hlen,hsz,hmm,n2,hst]
  ·have hD:∀b,D b->(w.setRow g (news++cur.toList.drop news.length).toArray).heap[b]? =w.heap[b]? :=λb hb=>setRow_other _ _ _ _ λe=>(hI.ok.olt id _ g hlθ (.inl rfl)).2 (e▸hb)
   refine⟨rfl,by rw[List.length_append,List.length_take,List.length_drop];omega,h3,h4,λp hp=>?_,_,setRow_heap _ _ _ _ _ _ h6,by rw[s1,h7],λi j p q hp hq=>?_⟩
   ·rcases List.mem_append.1 hp with hp|hp
    ·by_cases hm:0<min L.length xs.length
     ·exact n4 hm p (List.mem_of_mem_take hp)
     ·have:L.take xs.length=[]:=List.eq_nil_of_length_eq_zero (by rw[List.length_take];omega)
      rw[this]at hp;cases hp
    ·exact h5 p (List.mem_of_mem_drop hp)
   ·by_cases hi:i<min L.length xs.length
    ·rw[List.getElem?_append_left (by rw[List.length_take];omega),List.getElem?_take,if_pos (by omega)]at hp
     obtain⟨u,e1,e2⟩:=n5 i j p q hi hp hq
     refine⟨u,?_,e2.mono (λ_ h=>h) hD⟩
     have hlt:=(List.getElem?_eq_some_iff.1 e1).1
     rw[s2,if_pos ⟨by omega,by omega⟩]
     simpa using e1
    ·rw[List.getElem?_append_right (by rw[List.length_take];omega),List.getElem?_drop]at hp
     have hidx:L.length+(i - (L.take xs.length).length)=i\/L.length+(i - (L.take xs.length).length)>=xs.length:=by rw[List.length_take];omega
     rcases hidx with hidx|hidx
     ·rw[hidx]at hp
      obtain⟨u,e1,e2⟩:=h8 i j p q hp hq
      refine⟨u,?_,e2.mono (λ_ h=>h) hD⟩
      have hmul:min L.length xs.length*s<=i*s:=Nat.mul_le_mul_right _ (by omega)
      rw[s2,if_neg (by rw[n1];omega)]
      exact e1
     ·rw[List.getElem?_eq_none hidx]at hp;cases hp
end
end Go.Av
namespace Go.Av
open Go Go.RowKit
section
variable {P:Program} {o:Oper} {c:Ctx} {θ:List Loc} {D:Nat->Prop} {st:St} {a:Act} {w:World}
theorem IP(hI:Inv c θ D st a w)(hd:∀k,o.dst=some k->k<c.n){K KP:St->Prop}{t e:TypeId}{sz bytes:Nat}{z:Value}{x y:Operand}{cl:Call}(ho:o.op= .call cl)(hcl:cl.callee= .builtin .append)(hargs:cl.args= #[x,y])(htys:cl.argTypes= #[t,t])
 (he:eI P t=some e) (hs:bQ P e=some sz) (hb:gr P e=some bytes) (hz:db P e=some z) (hzs:z.cells.size=sz) (h0:0<sz) (hb0:0<bytes)
 {pl:Option Nat} (h:zO st (.append e sz bytes (.of x) (.of y)) λob mk=>uw st pl/\K ((st.new pl ob).putO o.dst (.b (mk (st.nid pl))))):Leaves P o c K KP a w:=by
 intro next Q hn _
 obtain⟨ax,hx,ay,hy,hL⟩:=h
 have hX:=hI.get hx
 obtain⟨L,ad,m,⟨hok,hxx,hbd,hpl,hk⟩,hye,hlm,hnil,hcells⟩:=kh hI.ok (hI.get hy) hL
 have hu:P.underlying t=some (.slice e):=by
  unfold eI at he
  split at he
  ·cases he;assumption
  ·cases he
 simp only[bQ,Option.map_eq_some_iff]at hs
 obtain⟨it,hit,rfl⟩:=hs
 have hz1:it.zero=some z:=by simpa[db,hit]using hz
 have hb1:it.bytes=bytes:=by simpa[gr,hit]using hb
 subst hb1
 have fin:∀(v:Value) (w':World) (st':St),(Builtin.append_ #[t,t] o.type #[a.eval x,a.eval y]).run P w= .ok v w'->K st'->Rel c st' (a.put o.dst v) w'->o.wp P a w next Q:=by
  intro v w' st' hr hk hrel
  unfold Oper.wp
  have:(execOp a.eval o).run P w= .ok (.value v) w':=by simp[execOp,ho,resolve,hcl,hargs,htys,invoke,builtin,hr]
  rw[this]
  exact hn _ _ ⟨st',hk,hrel⟩
 have hnews:0<L.length->∃(ab:Addr) (news:List Value),ad=some ab/\news.length=L.length*it.size/\(∀(j:Nat) (u:Value),news[j]? =some u->w.cell? (ab.add j)=some u)/\(∀u∈news,u.oneCell'=true)/\
  (∀p∈L,p.cells.length=it.size)/\∀(i j:Nat) (p q:PV),L[i]? =some p->p.cells[j]? =some q->∃u,news[i*it.size+j]? =some u/\RelP D w u q:=by
  intro hl
  obtain⟨g,og,rfl,hg,hsz,hc⟩:=hcells hl
  obtain⟨news,n1,n2⟩:=fm (n:=L.length*it.size) (p:=λk u=>w.cell? ⟨g,og+k,none⟩=some u/\u.oneCell'=true/\∀(p q:PV),L[k/it.size]? =some p->p.cells[k%it.size]? =some q->RelP D w u q) (λk hk=>by
   have hi:k/it.size<L.length:=(Nat.div_lt_iff_lt_mul h0).2 hk
   have hj:k%it.size<it.size:=Nat.mod_lt _ h0
   have hp:=List.getElem?_eq_getElem hi
   have hpl:=hsz _ (List.mem_of_getElem? hp)
   have hq:=List.getElem?_eq_getElem (l:=(L[k/it.size]).cells) (i:=k%it.size) (by omega)
   obtain⟨u,e1,e2⟩:=hc _ _ _ _ hp hq
   refine⟨u,?_,?_,λp q hp' hq'=>?_⟩
   ·rw[<-e1,Nat.add_assoc,Nat.mul_comm,Nat.div_add_mod]
   ·have hok1:=hok _ (List.mem_of_getElem? hp)
    simp only[PV.ok,List.all_eq_true]at hok1
    exact gA e2 (hok1 _ (List.mem_of_getElem? hq))
   ·rw[hp]at hp';cases hp'
    rw[hq]at hq';cases hq'
    exact e2)
  refine⟨_,news,rfl,n1,λj u hj=>by rw[addr_add];exact(n2 j u hj).1,λu hu=>?_,hsz,λi j p q hp hq=>?_⟩
  ·obtain⟨j,hj⟩:=List.getElem?_of_mem hu
   exact(n2 j u hj).2.1
  ·have hj:j<it.size:=by rw[<-hsz p (List.mem_of_getElem? hp)];exact(List.getElem?_eq_some_iff.1 hq).1
   have hi:i<L.length:=(List.getElem?_eq_some_iff.1 hp).1
   have hlt:i*it.size+j<news.length:=by
    rw[n1]
    have:(i+1)*it.size<=L.length*it.size:=Nat.mul_le_mul_right _ hi
    rw[Nat.add_mul,Nat.one_mul]at this
    omega
   refine⟨news[i*it.size+j],List.getElem?_eq_getElem hlt,?_⟩
   obtain⟨f1,f2⟩:=flat_get (i:=i) hj
   exact(n2 _ _ (List.getElem?_eq_getElem hlt)).2.2 p q (by rw[f1];exact hp) (by rw[f2];exact hq)
 have rowRel:∀(w':World) (olds news:List Value) (xs:List PV) (cv:Array Value) (k:Nat),(∀b,D b->w'.heap[b]? =w.heap[b]?)->olds.length=xs.length*it.size->cv.size=k*it.size->
  (∀j,j<olds.length->cv[j]? =olds[j]?)->(∀j,j<news.length->cv[olds.length+j]? =news[j]?)->(∀p∈xs,p.cells.length=it.size)->(∀p∈L,p.cells.length=it.size)->news.length=L.length*it.size->
  (∀(i j:Nat) (p q:PV),xs[i]? =some p->p.cells[j]? =some q->∃u,olds[i*it.size+j]? =some u/\RelP D w u q)->(∀(i j:Nat) (p q:PV),L[i]? =some p->p.cells[j]? =some q->∃u,news[i*it.size+j]? =some u/\RelP D w u q)->
  ∀(i j:Nat) (p q:PV),(xs++L)[i]? =some p->p.cells[j]? =some q->∃u,cv[i*it.size+j]? =some u/\RelP D w' u q:=by
  intro w' olds news xs cv k hDw hol hcv hco hcn hxs hLs hnl ro rn i j p q hp hq
  rcases Nat.lt_or_ge i xs.length with hi|hi
  ·rw[List.getElem?_append_left hi]at hp
   obtain⟨u,e1,e2⟩:=ro i j p q hp hq
   exact⟨u,by rw[hco _ (List.getElem?_eq_some_iff.1 e1).1];exact e1,e2.mono (λ_ h=>h) hDw⟩
  ·rw[List.getElem?_append_right hi]at hp
   obtain⟨u,e1,e2⟩:=rn _ j p q hp hq
   refine⟨u,?_,e2.mono (λ_ h=>h) hDw⟩
   have:=hcn _ (List.getElem?_eq_some_iff.1 e1).1
   rw[e1]at this
   rw[<-this,hol]
   congr 1
   have:i*it.size=xs.length*it.size+(i - xs.length)*it.size:=by rw[<-Nat.add_mul];congr 1;omega
   omega
 have len_of0:∀(k:Nat),L.length*it.bytes<=k->L.length<=k:=λk h=>Nat.le_trans (Nat.le_mul_of_pos_right _ hb0) h
 obtain⟨ad0,hxe⟩:∃ad0,a.eval x= .slice ad0 0 0:=by
  rcases hxx with rfl|rfl
  ·exact⟨none,hX⟩
  ·obtain⟨h1,a0,n0,h2⟩:=hX
   refine⟨a0,?_⟩
   rw[h2]at h1⊢
   cases h1
   rfl
 have h63:L.length<=140737488355328:=len_of0 _ hbd
 by_cases hL0:L.length=0
 ·have hLe:L=[]:=List.eq_nil_of_length_eq_zero hL0
  subst hLe
  obtain⟨θ',hp,hid⟩:=hI.pushAt hpl (l:=.nil ad0) (o:=.vec e it.size []) (λθ' _=>rfl) (λg hg=>by cases hg)
  refine fin (.slice ad0 0 0) w _ ?_ hk ⟨_,D,hp.put hd ⟨.nil ad0,hid,rfl⟩⟩
  rw[hxe,hye]
  exact cV hu hit ad0 0 0 (Nat.le_refl _) ad m
 ·obtain⟨ab,news,rfl,n1,n2,n3,n4,n5⟩:=hnews (Nat.pos_of_ne_zero hL0)
  have hr:=dX (P:=P) (w:=w) (ty:=o.type) hu hit hz1 ad0 ab L.length m news n1 n2 (Nat.pos_of_ne_zero hL0) (by omega) (by omega)
  have hge:=grownCap_ge w L.length 0 e
  have hcm:grownCap w L.length 0 e<=maxLen:=grownCap_le_maxLen w _ 0 e (by simp only[maxLen];omega)
  have hcs:(news.toArray++Builtin.zeroCells z.cells (grownCap w L.length 0 e - L.length)).size=grownCap w L.length 0 e*it.size:=by
   simp only[Array.size_append,List.size_toArray,fh,hzs,n1,<-Nat.add_mul]
   congr 1;omega
  have hDw:∀b,D b->(w.drew.alloc (.cells (news.toArray++Builtin.zeroCells z.cells (grownCap w L.length 0 e - L.length)) e)).heap[b]? =w.heap[b]? :=λb hb=>dJ w.drew _ b (hI.ok.dlt b hb)
  obtain⟨θ',hI',hid⟩:=hI.drew.allocAt hpl (l:=.hdr w.heap.size L.length (grownCap w L.length 0 e) it.size none') (o:=.vec e it.size L) (ob:=.cells (news.toArray++Builtin.zeroCells z.cells (grownCap w L.length 0 e - L.length)) e) (λ_ h=>h.elim (λh=>h) False.elim) λθ' hθ=>
   ⟨rfl,rfl,hge,hcm,n4,_,d7 w.drew _,hcs,λi j p q hp hq=>by
    have:=rowRel _ [] news [] _ _ hDw (by simp) hcs (λj hj=>by simp at hj) (λj hj=>by simp only[List.length_nil,Nat.zero_add];rw[Array.getElem?_append_left (by simpa using hj)];simp) (λp hp=>by cases hp) n4 n1 (λi j p q hp=>by simp at hp) n5 i j p q (by simpa using hp) hq
    exact this⟩
  refine fin _ _ _ ?_ hk ⟨_,D,hI'.put hd ⟨_,hid,rfl⟩⟩
  rw[hxe,hye]
  exact hr
theorem GA(hI:Inv c θ D st a w)(hd:∀k,o.dst=some k->k<c.n){K KP:St->Prop}{t e:TypeId}{sz bytes:Nat}{z:Value}{x y:Operand}{cl:Call}(ho:o.op= .call cl)(hcl:cl.callee= .builtin .append)(hargs:cl.args= #[x,y])(htys:cl.argTypes= #[t,t])
 (he:eI P t=some e) (hs:bQ P e=some sz) (hb:gr P e=some bytes) (hz:db P e=some z) (hzs:z.cells.size=sz) (h0:0<sz) (hb0:0<bytes)
 (h:g8 P st (.appD e sz bytes (.of x) (.of y)) λx=>K (st.putO o.dst x)):Leaves P o c K KP a w:=by
 intro next Q hn _
 obtain⟨ax,hx,ay,hy,hL⟩:=h
 have hX:=hI.get hx
 obtain⟨L,ad,m,⟨hok,L0,hxx,hbd,hk⟩,hye,hlm,hnil,hcells⟩:=kh hI.ok (hI.get hy) hL
 have hu:P.underlying t=some (.slice e):=by
  unfold eI at he
  split at he
  ·cases he;assumption
  ·cases he
 simp only[bQ,Option.map_eq_some_iff]at hs
 obtain⟨it,hit,rfl⟩:=hs
 have hz1:it.zero=some z:=by simpa[db,hit]using hz
 have hb1:it.bytes=bytes:=by simpa[gr,hit]using hb
 subst hb1
 have fin:∀(v:Value) (w':World) (st':St),(Builtin.append_ #[t,t] o.type #[a.eval x,a.eval y]).run P w= .ok v w'->K st'->Rel c st' (a.put o.dst v) w'->o.wp P a w next Q:=by
  intro v w' st' hr hk hrel
  unfold Oper.wp
  have:(execOp a.eval o).run P w= .ok (.value v) w':=by simp[execOp,ho,resolve,hcl,hargs,htys,invoke,builtin,hr]
  rw[this]
  exact hn _ _ ⟨st',hk,hrel⟩
 have hnews:0<L.length->∃(ab:Addr) (news:List Value),ad=some ab/\news.length=L.length*it.size/\(∀(j:Nat) (u:Value),news[j]? =some u->w.cell? (ab.add j)=some u)/\(∀u∈news,u.oneCell'=true)/\
  (∀p∈L,p.cells.length=it.size)/\∀(i j:Nat) (p q:PV),L[i]? =some p->p.cells[j]? =some q->∃u,news[i*it.size+j]? =some u/\RelP D w u q:=by
  intro hl
  obtain⟨g,og,rfl,hg,hsz,hc⟩:=hcells hl
  obtain⟨news,n1,n2⟩:=fm (n:=L.length*it.size) (p:=λk u=>w.cell? ⟨g,og+k,none⟩=some u/\u.oneCell'=true/\∀(p q:PV),L[k/it.size]? =some p->p.cells[k%it.size]? =some q->RelP D w u q) (λk hk=>by
   have hi:k/it.size<L.length:=(Nat.div_lt_iff_lt_mul h0).2 hk
   have hj:k%it.size<it.size:=Nat.mod_lt _ h0
   have hp:=List.getElem?_eq_getElem hi
   have hpl:=hsz _ (List.mem_of_getElem? hp)
   have hq:=List.getElem?_eq_getElem (l:=(L[k/it.size]).cells) (i:=k%it.size) (by omega)
   obtain⟨u,e1,e2⟩:=hc _ _ _ _ hp hq
   refine⟨u,?_,?_,λp q hp' hq'=>?_⟩
   ·rw[<-e1,Nat.add_assoc,Nat.mul_comm,Nat.div_add_mod]
   ·have hok1:=hok _ (List.mem_of_getElem? hp)
    simp only[PV.ok,List.all_eq_true]at hok1
    exact gA e2 (hok1 _ (List.mem_of_getElem? hq))
   ·rw[hp]at hp';cases hp'
    rw[hq]at hq';cases hq'
    exact e2)
  refine⟨_,news,rfl,n1,λj u hj=>by rw[addr_add];exact(n2 j u hj).1,λu hu=>?_,hsz,λi j p q hp hq=>?_⟩
  ·obtain⟨j,hj⟩:=List.getElem?_of_mem hu
   exact(n2 j u hj).2.1
  ·have hj:j<it.size:=by rw[<-hsz p (List.mem_of_getElem? hp)];exact(List.getElem?_eq_some_iff.1 hq).1
   have hi:i<L.length:=(List.getElem?_eq_some_iff.1 hp).1
   have hlt:i*it.size+j<news.length:=by
    rw[n1]
    have:(i+1)*it.size<=L.length*it.size:=Nat.mul_le_mul_right _ hi
    rw[Nat.add_mul,Nat.one_mul]at this
    omega
   refine⟨news[i*it.size+j],List.getElem?_eq_getElem hlt,?_⟩
   obtain⟨f1,f2⟩:=flat_get (i:=i) hj
   exact(n2 _ _ (List.getElem?_eq_getElem hlt)).2.2 p q (by rw[f1];exact hp) (by rw[f2];exact hq)
 have rowRel:∀(w':World) (olds news:List Value) (xs:List PV) (cv:Array Value) (k:Nat),(∀b,D b->w'.heap[b]? =w.heap[b]?)->olds.length=xs.length*it.size->cv.size=k*it.size->
  (∀j,j<olds.length->cv[j]? =olds[j]?)->(∀j,j<news.length->cv[olds.length+j]? =news[j]?)->(∀p∈xs,p.cells.length=it.size)->(∀p∈L,p.cells.length=it.size)->news.length=L.length*it.size->
  (∀(i j:Nat) (p q:PV),xs[i]? =some p->p.cells[j]? =some q->∃u,olds[i*it.size+j]? =some u/\RelP D w u q)->(∀(i j:Nat) (p q:PV),L[i]? =some p->p.cells[j]? =some q->∃u,news[i*it.size+j]? =some u/\RelP D w u q)->
  ∀(i j:Nat) (p q:PV),(xs++L)[i]? =some p->p.cells[j]? =some q->∃u,cv[i*it.size+j]? =some u/\RelP D w' u q:=by
  intro w' olds news xs cv k hDw hol hcv hco hcn hxs hLs hnl ro rn i j p q hp hq
  rcases Nat.lt_or_ge i xs.length with hi|hi
  ·rw[List.getElem?_append_left hi]at hp
   obtain⟨u,e1,e2⟩:=ro i j p q hp hq
   exact⟨u,by rw[hco _ (List.getElem?_eq_some_iff.1 e1).1];exact e1,e2.mono (λ_ h=>h) hDw⟩
  ·rw[List.getElem?_append_right hi]at hp
   obtain⟨u,e1,e2⟩:=rn _ j p q hp hq
   refine⟨u,?_,e2.mono (λ_ h=>h) hDw⟩
   have:=hcn _ (List.getElem?_eq_some_iff.1 e1).1
   rw[e1]at this
   rw[<-this,hol]
   congr 1
   have:i*it.size=xs.length*it.size+(i - xs.length)*it.size:=by rw[<-Nat.add_mul];congr 1;omega
   omega
 have h63:L0.length+L.length<=140737488355328:=Nat.le_trans (Nat.le_mul_of_pos_right _ hb0) hbd
 obtain⟨a0,hxe,hold⟩:∃a0:Option Addr,a.eval x= .slice a0 L0.length L0.length/\(0<L0.length->∃b o',a0=some ⟨b,o',none⟩/\(∀p∈L0,p.cells.length=it.size)/\∃olds:List Value,olds.length=L0.length*it.size/\
  (∀(j:Nat) (u:Value),olds[j]? =some u->w.cell? ⟨b,o'+j,none⟩=some u)/\∀(i j:Nat) (p q:PV),L0[i]? =some p->p.cells[j]? =some q->∃u,olds[i*it.size+j]? =some u/\RelP D w u q):=by
  rcases hxx with⟨rfl,rfl⟩|rfl
  ·exact⟨none,hX,λh=>absurd h (by simp)⟩
  ·obtain⟨h1,a0,n0,h2⟩:=hX
   obtain⟨a1,cap,e1,e2,e3⟩:=nF h1
   rw[h2]at e1
   cases e1
   refine⟨a0,h2,λhl=>?_⟩
   obtain⟨b,o',rfl,hb,hsz,hc⟩:=e3 hl
   obtain⟨olds,n1,n2⟩:=fm (n:=L0.length*it.size) (p:=λk u=>w.cell? ⟨b,o'+k,none⟩=some u/\∀(p q:PV),L0[k/it.size]? =some p->p.cells[k%it.size]? =some q->RelP D w u q) (λk hk=>by
    have hi:k/it.size<L0.length:=(Nat.div_lt_iff_lt_mul h0).2 hk
    have hj:k%it.size<it.size:=Nat.mod_lt _ h0
    have hp:=List.getElem?_eq_getElem hi
    have hpl:=hsz _ (List.mem_of_getElem? hp)
    have hq:=List.getElem?_eq_getElem (l:=(L0[k/it.size]).cells) (i:=k%it.size) (by omega)
    obtain⟨u,e1,e2⟩:=hc _ _ _ _ hp hq
    refine⟨u,?_,λp q hp' hq'=>?_⟩
    ·rw[<-e1,Nat.add_assoc,Nat.mul_comm,Nat.div_add_mod]
    ·rw[hp]at hp';cases hp'
     rw[hq]at hq';cases hq'
     exact e2)
   refine⟨b,o',rfl,hsz,olds,n1,λj u hj=>(n2 j u hj).1,λi j p q hp hq=>?_⟩
   have hj:j<it.size:=by rw[<-hsz p (List.mem_of_getElem? hp)];exact(List.getElem?_eq_some_iff.1 hq).1
   have hi:i<L0.length:=(List.getElem?_eq_some_iff.1 hp).1
   have hlt:i*it.size+j<olds.length:=by
    rw[n1]
    have:(i+1)*it.size<=L0.length*it.size:=Nat.mul_le_mul_right _ hi
    rw[Nat.add_mul,Nat.one_mul]at this
    omega
   refine⟨olds[i*it.size+j],List.getElem?_eq_getElem hlt,?_⟩
   obtain⟨f1,f2⟩:=flat_get (i:=i) hj
   exact(n2 _ _ (List.getElem?_eq_getElem hlt)).2 p q (by rw[f1];exact hp) (by rw[f2];exact hq)
 by_cases hL0:L.length=0
 ·have hLe:L=[]:=List.eq_nil_of_length_eq_zero hL0
  subst hLe
  refine fin (.slice a0 L0.length L0.length) w _ ?_ hk ⟨θ,D,hI.put hd ?_⟩
  ·rw[hxe,hye]
   exact cV hu hit a0 _ _ (Nat.le_refl _) ad m
  ·rw[List.append_nil]
   rcases hxx with⟨rfl,rfl⟩|rfl
   ·exact .nil _ _
   ·obtain⟨h1,_⟩:=hX
    rw[hxe]at h1
    exact h1
 ·obtain⟨ab,news,rfl,n1,n2,n3,n4,n5⟩:=hnews (Nat.pos_of_ne_zero hL0)
  have grow:∀(olds:List Value),olds.length=L0.length*it.size->(∀p∈L0,p.cells.length=it.size)->(∀(i j:Nat) (p q:PV),L0[i]? =some p->p.cells[j]? =some q->∃u,olds[i*it.size+j]? =some u/\RelP D w u q)->
   (Builtin.append_ #[t,t] o.type #[.slice a0 L0.length L0.length,.slice (some ab) L.length m]).run P w= .ok (.slice (some ⟨w.heap.size,0,none⟩) (L0.length+L.length) (grownCap w (L0.length+L.length) L0.length e)) (w.drew.alloc (.cells (olds.toArray++news.toArray++Builtin.zeroCells z.cells (grownCap w (L0.length+L.length) L0.length e - (L0.length+L.length))) e))->
   o.wp P a w next Q:=by
   intro olds hol hxs ro hrun
   have hge:=grownCap_ge w (L0.length+L.length) L0.length e
   have hcs:(olds.toArray++news.toArray++Builtin.zeroCells z.cells (grownCap w (L0.length+L.length) L0.length e - (L0.length+L.length))).size=grownCap w (L0.length+L.length) L0.length e*it.size:=by
    simp only[Array.size_append,List.size_toArray,fh,hzs,hol,n1,<-Nat.add_mul]
    congr 1;omega
   generalize hw':w.drew.alloc (.cells (olds.toArray++news.toArray++Builtin.zeroCells z.cells (grownCap w (L0.length+L.length) L0.length e - (L0.length+L.length))) e)=w' at hrun
   have hDw:∀b,D b->w'.heap[b]? =w.heap[b]? :=λb hb=>by rw[<-hw'];exact dJ w.drew _ b (hI.ok.dlt b hb)
   have hnew:w'.heap[w.heap.size]? =some (.cells (olds.toArray++news.toArray++Builtin.zeroCells z.cells (grownCap w (L0.length+L.length) L0.length e - (L0.length+L.length))) e):=by rw[<-hw'];exact d7 w.drew _
   have hlts:w.heap.size<w'.heap.size:=by rw[<-hw'];simp
   have hI':=hI.drew.below (D':=λb=>D b\/(w.heap.size<=b/\b<w'.heap.size)) (w':=w') (by rw[<-hw'];exact jg w.drew _) hI.w0le (λb hb=>.inl hb) (λb hb=>hb)
   refine fin (.slice (some ⟨w.heap.size,0,none⟩) (L0.length+L.length) (grownCap w (L0.length+L.length) L0.length e)) w' _ ?_ hk ⟨θ,_,hI'.put hd ?_⟩
   ·rw[hxe,hye];exact hrun
   ·have hh:RelP (λb=>D b\/(w.heap.size<=b/\b<w'.heap.size)) w' (.slice (some ⟨w.heap.size,0,none⟩) (L0++L).length (grownCap w (L0.length+L.length) L0.length e)) (ke it.size (L0++L)):=by
     refine fu (by simpa using hge) λ_=>⟨w.heap.size,0,rfl,.inr ⟨Nat.le_refl _,hlts⟩,λp hp=>(List.mem_append.1 hp).elim (hxs p) (n4 p),λi j p q hp hq=>?_⟩
     obtain⟨u,e1,e2⟩:=rowRel w' olds news L0 _ _ hDw hol hcs (λj hj=>by rw[Array.getElem?_append_left (by simp;omega),Array.getElem?_append_left (by simpa using hj)];simp) (λj hj=>by
      rw[Array.getElem?_append_left (by simp;omega),Array.getElem?_append_right (by simp)];simp) hxs n4 n1 ro n5 i j p q hp hq
     refine⟨u,?_,e2.mono (λb hb=>.inl hb) (λ_ _=>rfl)⟩
     rw[Nat.zero_add,cell_of_row _ _ _ _ e (0,0) hnew]
     exact e1
    rw[List.length_append]at hh
    exact hh
  by_cases hl0:L0.length=0
  ·have hLe:L0=[]:=List.eq_nil_of_length_eq_zero hl0
   subst hLe
   have hr:=dX (P:=P) (w:=w) (ty:=o.type) hu hit hz1 a0 ab L.length m news n1 n2 (Nat.pos_of_ne_zero hL0) (by simp only[List.length_nil]at h63;omega) (by simp only[List.length_nil,Nat.zero_add]at hbd;omega)
   refine grow [] (by simp) (λp hp=>by cases hp) (λi j p q hp=>by simp at hp) ?_
   simpa using hr
  ·obtain⟨b,o',rfl,hsz,olds,m1,m2,m3⟩:=hold (Nat.pos_of_ne_zero hl0)
   have q1:0<L.length:=Nat.pos_of_ne_zero hL0
   have q2:L0.length<L0.length+L.length:=Nat.lt_add_of_pos_right q1
   have q3:0<L0.length+L.length:=Nat.add_pos_right _ q1
   have q4:L0.length+L.length<=9223372036854775807:=Nat.le_trans h63 (by decide)
   have q5:((L0.length+L.length:Nat):Int)<=9223372036854775807:=Int.ofNat_le.2 q4
   have hr:=run_append_grow (P:=P) w t o.type e it z hu hit hz1 ⟨b,o',none⟩ L0.length L0.length olds m1 (λj u hj=>by rw[addr_add];exact m2 j u hj) ab L.length m news n1 n2 (by first|exact q1|exact q2|exact q5) (by first|exact q1|exact q2|exact q5) (growslice_fits (by first|exact q1|exact q2|exact q3|exact q5|exact q5) hbd)
   exact grow olds m1 hsz m3 hr
end
end Go.Av
namespace Go.Av
open Go Go.RowKit
section
variable {P:Program} {o:Oper} {c:Ctx} {θ:List Loc} {D:Nat->Prop} {st:St} {a:Act} {w:World}
theorem jf{α:Type}{xs:Array α}{x:α}(h:xs.toList=[x]):xs= #[x]:=by
 apply Array.ext';simpa using h
theorem fN{α:Type}{xs:Array α}{x y:α}(h:xs.toList=[x,y]):xs= #[x,y]:=by
 apply Array.ext';simpa using h
theorem bb{s s':SOp}(hat:∀k q,s≠.atq k q)(h:s.canon=s')(h1:∀e z l ps,s'≠.bslice false e z l ps)(h2:∀f xs,s'≠.call false f xs)(h3:∀t x,s'≠.box t x)(h4:∀x xs,s'≠.callv false [] x xs)(h5:∀e z b x y,s'≠.append e z b x y)(h6:∀e z b v x y,s'≠.mslice e z b v x y:=by simp):s=s':=by
 cases s<;>simp only[SOp.canon]at h<;>first|exact h|exact absurd h.symm (h1 _ _ _ _)|exact absurd h.symm (h2 _ _)|exact absurd h.symm (h3 _ _)|exact absurd h.symm (h4 _ _)|exact absurd h.symm (h5 _ _ _ _ _)|exact absurd h.symm (h6 _ _ _ _ _ _)|exact absurd rfl (hat _ _)
theorem tR(hI:Inv c θ D st a w){q:Option Operand}{dflt:Nat}{K':Nat->Prop}(h:bnd st (q.map SX.of) dflt K'):
 ∃n,K' n/\((q=none/\n=dflt)\/∃x k,∃m:Int,q=some x/\a.eval x= .int k m/\0<=m/\n=m.toNat):=by
 cases q with
 |none=>exact⟨dflt,h,.inl ⟨rfl,rfl⟩⟩
 |some x=>
  obtain⟨av,hav,h⟩:=h
  obtain⟨k,m,hm,h0,hk⟩:=cr (hI.get hav) h
  exact⟨_,hk,.inr ⟨x,k,m,rfl,hm,h0,rfl⟩⟩
theorem gQ{k:IntKind}{m:Int}{y:Nat}{code:BoundsCode}(h0:0<=m)(h1:m.toNat<=y):(Instr.sliceBound (.int k m) y code).run P w= .ok m.toNat w:=by
 have h2:m<=(y:Int):=by omega
 simp only[Instr.sliceBound,asIntOf,Sem.run_bind,Sem.run_pure,Result.andThen_ok]
 rw[if_pos ⟨h0,h2⟩]
 rfl
theorem yw(hI:Inv c θ D st a w){lo hi mx:Option Operand}{isS:Bool}{len cap l h m:Nat}
 (hl:(lo=none/\l=0)\/∃x k,∃m:Int,lo=some x/\a.eval x= .int k m/\0<=m/\l=m.toNat) (hh:(hi=none/\h=len)\/∃x k,∃m:Int,hi=some x/\a.eval x= .int k m/\0<=m/\h=m.toNat)
 (hm:(mx=none/\m=len)\/∃x k,∃m':Int,mx=some x/\a.eval x= .int k m'/\0<=m'/\m=m'.toNat) (hmh:mx.isSome=true->hi.isSome=true) (h1:l<=h) (h2:h<=m) (h3:m<=len) (h4:len<=cap):
 (Instr.sliceBounds isS len cap (lo.map a.eval) (hi.map a.eval) (mx.map a.eval)).run P w= .ok (l,h,if mx.isSome then m else cap) w:=by
 have _:=hI
 rcases hm with⟨rfl,rfl⟩|⟨x3,k3,m3,rfl,e3,g3,rfl⟩<;>rcases hh with⟨rfl,rfl⟩|⟨x2,k2,m2,rfl,e2,g2,rfl⟩<;>rcases hl with⟨rfl,rfl⟩|⟨x1,k1,m1,rfl,e1,g1,rfl⟩
 ·simp[Instr.sliceBounds]
 ·simp[Instr.sliceBounds,e1,gQ g1 h1]
 ·simp[Instr.sliceBounds,e2,gQ (y:=cap) g2 (by omega)]
 ·simp[Instr.sliceBounds,e2,e1,gQ (y:=cap) g2 (by omega),gQ g1 h1]
 ·simp at hmh
 ·simp at hmh
 ·simp[Instr.sliceBounds,e3,e2,gQ (y:=cap) g3 (by omega),gQ g2 h2]
 ·simp[Instr.sliceBounds,e3,e2,e1,gQ (y:=cap) g3 (by omega),gQ g2 h2,gQ g1 h1]
theorem Jl(hI:Inv c θ D st a w){K:AV->Prop}{t e:TypeId}{sz:Nat}{x:Operand}{lo hi mx:Option Operand}(ho:o.op= .slice t x lo hi mx)(ht:P.underlying t=some (.slice e))(hs:bQ P e=some sz)
 (h:g8 P st (.slc sz (.of x) (lo.map .of) (hi.map .of) (mx.map .of)) K):Yields P o a w (Res c θ st a K):=by
 obtain⟨ax,hx,q,hq,L,rfl,hb⟩:=h
 obtain⟨b,cap,hv,hcap,hcells⟩:=nF (cn (hI.get hx) hq)
 obtain⟨l,hb,hl⟩:=tR hI hb
 obtain⟨hn,hb,hh⟩:=tR hI hb
 obtain⟨m,⟨hmh,h1,h2,h3,hk⟩,hm⟩:=tR hI hb
 have hmh':mx.isSome=true->hi.isSome=true:=by simpa using hmh
 have hr:=yw (P:=P) (isS:=true) hI hl hh hm hmh' h1 h2 h3 hcap
 generalize hmm:(if mx.isSome then m else cap)=mm at hr
 have hmm1:hn<=mm/\mm<=cap:=by rw[<-hmm];split<;>omega
 have hrun:(execOp a.eval o).run P w= .ok (.value (.slice (if mm=l then b else b.map (·.add (l*sz))) (hn - l) (mm - l))) w:=by
  simp only[execOp,ho,Instr.sliceAt,Sem.run_bind,run_underlying ht,Result.andThen_ok,Instr.slice,hv,hr,run_sizeOf hs,Sem.run_pure]
 have hrel:RelP D w (.slice (if mm=l then b else b.map (·.add (l*sz))) (hn - l) (mm - l)) (ke sz ((L.take hn).drop l)):=by
  have hlen:((L.take hn).drop l).length=hn - l:=by simp;omega
  rw[<-hlen]
  refine fu (by omega) λhpos=>?_
  obtain⟨g,og,rfl,hg,hsz,hc⟩:=hcells (by omega)
  rw[if_neg (by omega)]
  refine⟨g,og+l*sz,by simp[addr_add],hg,λp hp=>hsz p (List.mem_of_mem_take (List.mem_of_mem_drop hp)),λi j p q hp hq=>?_⟩
  rw[List.getElem?_drop,List.getElem?_take]at hp
  split at hp
  ·obtain⟨u,e1,e2⟩:=hc (l+i) j p q hp hq
   refine⟨u,?_,e2⟩
   rw[<-e1,Nat.add_mul]
   congr 2
   omega
  ·cases hp
 rcases hk with hk|⟨hms,hhm,hk⟩
 ·exact aE hI hrun hk hrel
 ·have hmh:mm=hn:=by
   rw[<-hmm,if_pos (by simpa using hms)]
   exact hhm.symm
  refine aE hI (x:=.b (.full (ke sz ((L.take hn).drop l)))) hrun hk ⟨hrel,(if mm=l then b else b.map (·.add (l*sz))),hn - l,?_⟩
  rw[hmh]
theorem GR(hI:Inv c θ D st a w){K:AV->Prop}{t:TypeId}{x:Operand}{lo hi:Option Operand}(ho:o.op= .slice t x lo hi none)(ht:P.underlying t=some .string)
 (h:g8 P st (.slcS (.of x) (lo.map .of) (hi.map .of)) K):Yields P o a w (Res c θ st a K):=by
 obtain⟨ax,hx,hv⟩:=h
 obtain⟨s,hs,hb⟩:=cr (hI.get hx) hv
 obtain⟨l,hb,hl⟩:=tR hI hb
 obtain⟨hn,⟨h1,h2,hk⟩,hh⟩:=tR hI hb
 have hr:=yw (P:=P) (isS:=false) (mx:=none) (m:=s.size) hI hl hh (.inl ⟨rfl,rfl⟩) (by simp) h1 h2 (Nat.le_refl _) (Nat.le_refl _)
 refine aE hI ?_ hk (RelP.sc _)
 simp only[Option.map_none]at hr
 simp[execOp,ho,Instr.sliceAt,run_underlying ht,Instr.slice,hs,hr]
end
end Go.Av
namespace Go.Av
open Go Go.RowKit
section
variable {P:Program} {o:Oper} {c:Ctx} {θ:List Loc} {D:Nat->Prop} {st:St} {a:Act} {w:World}
theorem FJ{s:SOp}{f:FuncId}{xs:List SX}(hat:∀k q,s≠.atq k q)(h:s.canon= .call false f xs):(∃b,s= .call b f xs)\/∃b B,s= .callA b B f xs:=by
 cases s<;>simp_all[SOp.canon]
theorem Dv{s:SOp}{x:SX}{xs:List SX}(hat:∀k q,s≠.atq k q)(h:s.canon= .callv false [] x xs):(∃b B,s= .callv b B x xs)\/∃b,s= .callp b x xs:=by
 cases s<;>simp_all[SOp.canon]
theorem IA{s:SOp}{e:TypeId}{x:SX}(hat:∀k q,s≠.atq k q)(h:s.canon= .box e x):s= .box e x\/s= .boxD e x:=by
 cases s<;>simp_all[SOp.canon]
theorem B3{s:SOp}{e:TypeId}{z l:Nat}{xs:List SX}(hat:∀k q,s≠.atq k q)(h:s.canon= .bslice false e z l xs):(∃b,s= .bslice b e z l xs)\/s= .bsliceN e z l xs:=by
 cases s<;>simp_all[SOp.canon]
theorem B4{s:SOp}{e:TypeId}{z b:Nat}{v:Value}{x y:SX}(hat:∀k q,s≠.atq k q)(h:s.canon= .mslice e z b v x y):s= .mslice e z b v x y\/∃k,s= .msliceT k e z b v x y:=by
 cases s<;>simp_all[SOp.canon]
theorem B2{s:SOp}{e:TypeId}{z b:Nat}{x y:SX}(hat:∀k q,s≠.atq k q)(h:s.canon= .append e z b x y):s= .append e z b x y\/s= .appD e z b x y\/∃k,s= .appT k e z b x y:=by
 cases s<;>simp_all[SOp.canon]
def NG(P:Program)(o:Oper):Bool:=match o.op with
 | .binOp _ t _ _ _=>match P.underlying t with
  |some (.struct _)=> !P.eqGuardType P.depth t
  |_=>true
 | .makeInterface t _=>match P.underlying t with
  |some (.interface _)=>false
  |some _=>true
  |none=>false
 | .panic x=>match x with
  | .tmp _=>true
  |_=>false
 |_=>true
theorem zg(hI:Inv c θ D st a w)(hd:∀k,o.dst=some k->k<c.n){s:SOp}{K KP:St->Prop}(hat:∀k q,s≠.atq k q)(hc:fV P o=some s.canon)(hok:NG P o=true)(h:sexec P o.dst s st K KP):Leaves P o c K KP a w:=by
 have pure_:Yields P o a w (Res c θ st a λx=>K (st.putO o.dst x))->Leaves P o c K KP a w:=λhy=>vl hd hy λ_ h=>h
 unfold fV at hc
 split at hc
 ·rename_i x ho
  cases bb hat (Option.some.inj hc).symm (by simp) (by simp) (by simp) (by simp) (by simp)
  exact pure_ (E6 hI (.inl ho) h)
 ·rename_i x ho
  cases bb hat (Option.some.inj hc).symm (by simp) (by simp) (by simp) (by simp) (by simp)
  exact pure_ (E6 hI (.inr ho) h)
 ·rename_i x y z ho
  cases bb hat (Option.some.inj hc).symm (by simp) (by simp) (by simp) (by simp) (by simp)
  exact pure_ (GQ hI ho h)
 ·rename_i op t x y t' ho
  split at hc
  ·cases bb hat (Option.some.inj hc).symm (by simp) (by simp) (by simp) (by simp) (by simp)
   exact pure_ (BF hI ho h)
  ·cases bb hat (Option.some.inj hc).symm (by simp) (by simp) (by simp) (by simp) (by simp)
   exact pure_ (BF hI ho h)
  ·rename_i ht
   split at hc
   ·cases bb hat (Option.some.inj hc).symm (by simp) (by simp) (by simp) (by simp) (by simp)
    exact pure_ (BG (neg:=false) hI ho ht h)
   ·cases bb hat (Option.some.inj hc).symm (by simp) (by simp) (by simp) (by simp) (by simp)
    exact pure_ (BG (neg:=true) hI ho ht h)
   ·cases hc
  ·rename_i fs ht
   have hg:P.eqGuardType P.depth t=false:=by
    unfold NG at hok
    rw[ho]at hok
    simp only[ht]at hok
    simpa using hok
   split at hc
   ·cases bb hat (Option.some.inj hc).symm (by simp) (by simp) (by simp) (by simp) (by simp)
    exact pure_ (BH (neg:=false) hI ho rfl ht hg h)
   ·cases bb hat (Option.some.inj hc).symm (by simp) (by simp) (by simp) (by simp) (by simp)
    exact pure_ (BH (neg:=true) hI ho rfl ht hg h)
   ·cases hc
  ·cases hc
 ·rename_i op t x ho
  cases bb hat (Option.some.inj hc).symm (by simp) (by simp) (by simp) (by simp) (by simp)
  exact pure_ (Lm hI ho h)
 ·rename_i cl ho
  split at hc
  ·rename_i hcl
   split at hc
   ·rename_i x t hargs htys
    split at hc
    ·rename_i e ht
     cases bb hat (Option.some.inj hc).symm (by simp) (by simp) (by simp) (by simp) (by simp)
     exact pure_ (Jk hI ho hcl (jf hargs) (jf htys) ht h)
    ·rename_i ht
     cases bb hat (Option.some.inj hc).symm (by simp) (by simp) (by simp) (by simp) (by simp)
     exact pure_ (GM hI ho hcl (jf hargs) (jf htys) ht h)
    ·rename_i n e ht
     cases bb hat (Option.some.inj hc).symm (by simp) (by simp) (by simp) (by simp) (by simp)
     refine pure_ (E3 hI ?_ h)
     simp[execOp,ho,resolve,hcl,jf hargs,jf htys,invoke,builtin,Builtin.len_,run_underlying ht,goInt]
    ·rename_i k e ht
     cases bb hat (Option.some.inj hc).symm (by simp) (by simp) (by simp) (by simp) (by simp)
     exact pure_ (GL hI ho hcl (jf hargs) (jf htys) ht h)
    ·cases hc
   ·cases hc
  ·rename_i hcl
   split at hc
   ·rename_i x y t u hargs htys
    split at hc
    ·rename_i htu
     subst htu
     simp only[Option.bind_eq_some_iff]at hc
     obtain⟨e,he,s',hs,b,hb,z,hz,hc⟩:=hc
     split at hc
     ·rename_i hcond
      obtain⟨h1,h2,h3⟩:=hcond
      rcases B2 hat (Option.some.inj hc).symm with rfl|rfl|⟨k,rfl⟩
      ·exact CM hI hd ho hcl (fN hargs) (fN htys) he hs hb hz h1 h2 h3 h
      ·exact GA hI hd ho hcl (fN hargs) (fN htys) he hs hb hz h1 h2 h3 h
      ·exact GB hI hd ho hcl (fN hargs) (fN htys) he hs hb hz h1 h2 h3 h
     ·cases hc
    ·cases hc
   ·cases hc
  ·rename_i hcl
   split at hc
   ·rename_i x y t u hargs htys
    simp only[Option.bind_eq_some_iff]at hc
    obtain⟨e,he,e',he',s',hs,hc⟩:=hc
    split at hc
    ·rename_i hcond
     obtain⟨rfl,h0⟩:=hcond
     cases bb hat (Option.some.inj hc).symm (by simp) (by simp) (by simp) (by simp) (by simp)
     exact GE hI hd ho hcl (fN hargs) (fN htys) he hs h0 h
    ·cases hc
   ·cases hc
  ·rename_i hcl
   split at hc
   ·rename_i x ys t l hargs htys
    split at hc
    ·cases bb hat (Option.some.inj hc).symm (by simp) (by simp) (by simp) (by simp) (by simp)
     exact pure_ (yB (mx:=false) hI ho hcl hargs h)
    ·cases hc
   ·cases hc
  ·rename_i hcl
   split at hc
   ·rename_i x ys t l hargs htys
    split at hc
    ·cases bb hat (Option.some.inj hc).symm (by simp) (by simp) (by simp) (by simp) (by simp)
     exact pure_ (yB (mx:=true) hI ho hcl hargs h)
    ·cases hc
   ·cases hc
  ·rename_i f hcl
   split at hc
   ·rename_i hf
    rcases FJ hat (Option.some.inj hc).symm with⟨bor,rfl⟩|⟨bor,B,rfl⟩
    ·exact GD hI hd ho hcl hf h
    ·exact E0 hI hd ho hcl hf h
   ·cases hc
  ·rename_i t hcl
   rcases Dv hat (Option.some.inj hc).symm with⟨bor,B,rfl⟩|⟨bor,rfl⟩
   ·exact E2 hI hd ho hcl h
   ·exact E1 hI hd ho hcl h
  ·cases hc
 ·rename_i t x i ho
  split at hc
  ·rename_i ht
   cases bb hat (Option.some.inj hc).symm (by simp) (by simp) (by simp) (by simp) (by simp)
   exact pure_ (GJ hI ho ht h)
  ·rename_i n e ht
   split at hc
   ·rename_i hd'
    obtain⟨d',hd'⟩:=Option.isSome_iff_exists.1 hd'
    simp only[Option.map_eq_some_iff]at hc
    obtain⟨sz,hs,hc⟩:=hc
    cases bb hat hc.symm (by simp) (by simp) (by simp) (by simp) (by simp)
    exact pure_ (GK hI ho ht hd' hs h)
   ·cases hc
  ·cases hc
 ·rename_i t x i ho
  split at hc
  ·rename_i e ht
   simp only[Option.map_eq_some_iff]at hc
   obtain⟨sz,hs,hc⟩:=hc
   cases bb hat hc.symm (by simp) (by simp) (by simp) (by simp) (by simp)
   exact pure_ (GH hI ho ht hs h)
  ·rename_i n e ht
   simp only[Option.map_eq_some_iff]at hc
   obtain⟨sz,hs,hc⟩:=hc
   cases bb hat hc.symm (by simp) (by simp) (by simp) (by simp) (by simp)
   exact pure_ (GI hI ho ht hs h)
  ·cases hc
 ·rename_i t x f ho
  simp only[Option.bind_eq_some_iff]at hc
  obtain⟨fd,hf,sz,hs,hc⟩:=hc
  split at hc
  ·cases hc
  ·rename_i hsz
   cases bb hat (Option.some.inj hc).symm (by simp) (by simp) (by simp) (by simp) (by simp)
   exact pure_ (GG hI ho hf hs hsz h)
 ·rename_i t x f ho
  simp only[Option.bind_eq_some_iff]at hc
  obtain⟨fd,hf,hc⟩:=hc
  split at hc
  ·rename_i hd'
   obtain⟨d',hd'⟩:=Option.isSome_iff_exists.1 hd'
   simp only[Option.map_eq_some_iff]at hc
   obtain⟨sz,hs,hc⟩:=hc
   cases bb hat hc.symm (by simp) (by simp) (by simp) (by simp) (by simp)
   exact pure_ (Jj hI ho hf hd' hs h)
  ·cases hc
 ·rename_i t x ho
  simp only[Option.bind_eq_some_iff]at hc
  obtain⟨sz,hs,hc⟩:=hc
  split at hc
  ·rename_i hd'
   obtain⟨d',hd'⟩:=Option.isSome_iff_exists.1 hd'
   cases bb hat (Option.some.inj hc).symm (by simp) (by simp) (by simp) (by simp) (by simp)
   exact pure_ (GN hI ho hd' hs h)
  ·cases hc
 ·rename_i t x v ho
  simp only[Option.map_eq_some_iff]at hc
  obtain⟨sz,hs,hc⟩:=hc
  cases bb hat hc.symm (by simp) (by simp) (by simp) (by simp) (by simp)
  have hdn:o.dst=none:=by
   obtain⟨_,_,_,_,h1,_⟩:=h
   exact h1
  exact E8 hI hdn ho hs h
 ·rename_i e ho
  simp only[Option.map_eq_some_iff]at hc
  obtain⟨z,hz,hc⟩:=hc
  cases bb hat hc.symm (by simp) (by simp) (by simp) (by simp) (by simp)
  exact EY hI hd ho hz h
 ·rename_i e x ho
  rcases IA hat (Option.some.inj hc).symm with rfl|rfl
  ·exact Jh hI hd ho h
  ·exact GC hI hd ho h
 ·rename_i t parts ho
  simp only[Option.bind_eq_some_iff,Option.map_eq_some_iff]at hc
  obtain⟨z,hz,ps,hps,hc⟩:=hc
  cases bb hat hc.symm (by simp) (by simp) (by simp) (by simp) (by simp)
  exact pure_ (EZ hI ho hz hps h)
 ·rename_i t len parts ho
  simp only[Option.bind_eq_some_iff]at hc
  obtain⟨e,he,sz,hs,z,hz,hc⟩:=hc
  split at hc
  ·rename_i hcond
   obtain⟨h1,h2⟩:=hcond
   rcases B3 hat (Option.some.inj hc).symm with⟨own,rfl⟩|rfl
   rotate_left
   ·exact zP hI hd ho he hs hz h1 h2 h
   cases own
   ·exact CN hI hd ho he hs hz h1 h2 h
   ·exact zQ hI hd ho he hs hz h1 h2 h
  ·cases hc
 ·rename_i t l m ho
  simp only[Option.bind_eq_some_iff,Option.map_eq_some_iff]at hc
  obtain⟨e,he,sz,hs,b,hb,z,hz,hc⟩:=hc
  rcases B4 hat hc.symm with rfl|⟨k,rfl⟩
  ·exact CP hI hd ho he hs hb hz h
  ·exact zS hI hd ho he hs hb hz h
 ·rename_i s' d' x ho
  split at hc
  ·rename_i ds k h1 h2
   cases bb hat (Option.some.inj hc).symm (by simp) (by simp) (by simp) (by simp) (by simp)
   exact pure_ (GF hI ho h1 h2 h)
  ·rename_i e h1 h2
   split at hc
   ·rename_i h3
    cases bb hat (Option.some.inj hc).symm (by simp) (by simp) (by simp) (by simp) (by simp)
    exact pure_ (Jg hI ho h1 h2 h3 h)
   ·cases hc
  ·cases hc
 ·rename_i t x lo hi mx ho
  split at hc
  ·rename_i e ht
   simp only[Option.map_eq_some_iff]at hc
   obtain⟨sz,hs,hc⟩:=hc
   cases bb hat hc.symm (by simp) (by simp) (by simp) (by simp) (by simp)
   exact pure_ (Jl hI ho ht hs h)
  ·rename_i ht
   split at hc
   ·cases bb hat (Option.some.inj hc).symm (by simp) (by simp) (by simp) (by simp) (by simp)
    exact pure_ (GR hI ho ht h)
   ·cases hc
  ·cases hc
 ·rename_i x i ho
  cases bb hat (Option.some.inj hc).symm (by simp) (by simp) (by simp) (by simp) (by simp)
  exact pure_ (Ji hI ho h)
 ·rename_i x ho
  cases bb hat (Option.some.inj hc).symm (by simp) (by simp) (by simp) (by simp) (by simp)
  exact pure_ (GP hI ho h)
 ·rename_i f first caps ho
  split at hc
  ·rename_i hcond
   simp only[Bool.and_eq_true]at hcond
   cases bb hat (Option.some.inj hc).symm (by simp) (by simp) (by simp) (by simp) (by simp)
   exact pure_ (GO hI ho (by simpa using hcond.1) h)
  ·cases hc
 ·rename_i t ho
  split at hc
  ·cases bb hat (Option.some.inj hc).symm (by simp) (by simp) (by simp) (by simp) (by simp)
   exact E5 hI hd ho h
  ·cases hc
 ·rename_i t m x ok ho
  split at hc
  ·rename_i k e ht
   simp only[Option.map_eq_some_iff]at hc
   obtain⟨z,hz,hc⟩:=hc
   cases bb hat hc.symm (by simp) (by simp) (by simp) (by simp) (by simp)
   exact pure_ (CO hI ho ht hz h)
  ·cases hc
 ·rename_i t m x v ho
  split at hc
  ·rename_i k e ht
   cases bb hat (Option.some.inj hc).symm (by simp) (by simp) (by simp) (by simp) (by simp)
   have hdn:o.dst=none:=by
    obtain⟨_,_,_,_,_,_,_,_,_,_,_,_,_,_,h1,_⟩:=h
    exact h1
   exact uI hI hdn (.inl ho) ht h
  ·cases hc
 ·rename_i t m x v ho
  split at hc
  ·rename_i k e ht
   cases bb hat (Option.some.inj hc).symm (by simp) (by simp) (by simp) (by simp) (by simp)
   have hdn:o.dst=none:=by
    obtain⟨_,_,_,_,_,_,_,_,_,_,_,_,_,_,h1,_⟩:=h
    exact h1
   exact uI hI hdn (.inr ho) ht h
  ·cases hc
 ·rename_i x ho
  cases bb hat (Option.some.inj hc).symm (by simp) (by simp) (by simp) (by simp) (by simp)
  exact E7 hI ho h
 ·rename_i t x ho
  cases bb hat (Option.some.inj hc).symm (by simp) (by simp) (by simp) (by simp) (by simp)
  refine pure_ (E4 hI ho ?_ h)
  unfold NG at hok
  rw[ho]at hok
  exact hok
 ·cases hc
theorem FM{t:TypeId}{zl:List Value}(hc:fV P o=some (.alloc t zl)):∃z,o.op= .alloc t/\db P t=some z/\zl=z.cells.toList:=by
 unfold fV at hc
 (repeat' split at hc)<;>simp_all[Option.bind_eq_some_iff,Option.map_eq_some_iff]
 obtain⟨z,h1,rfl,rfl⟩:=hc
 exact⟨rfl,z,h1,rfl⟩
theorem JW{t:TypeId}{x:SX}(hc:fV P o=some (.box t x)):∃y,o.op= .box t y/\x= .of y:=by
 unfold fV at hc
 (repeat' split at hc)<;>simp_all[Option.bind_eq_some_iff,Option.map_eq_some_iff]
theorem FN{k e:TypeId}(hc:fV P o=some (.mkmap k e)):∃t,o.op= .makeMap t none:=by
 unfold fV at hc
 (repeat' split at hc)<;>simp_all[Option.bind_eq_some_iff,Option.map_eq_some_iff]
theorem DC{own:Bool}{e:TypeId}{sz len:Nat}{xs:List SX}(hc:fV P o=some (.bslice own e sz len xs)):∃t parts z,o.op= .buildSlice t len parts/\eI P t=some e/\bQ P e=some sz/\db P e=some z/\oo parts.toList=true/\z.cells.size=sz/\xs=parts.toList.map λq=>SX.of q.2:=by
 unfold fV at hc
 (repeat' split at hc)<;>simp_all[Option.bind_eq_some_iff,Option.map_eq_some_iff]
 obtain⟨e',h1,s',h2,z,h3,⟨h4,h5⟩,_,rfl,rfl,rfl,rfl⟩:=hc
 exact⟨_,_,⟨rfl,rfl,rfl⟩,h1,h2,z,h3,h4,h5,rfl⟩
theorem DD{e:TypeId}{sz b:Nat}{z:Value}{l m:SX}(hc:fV P o=some (.mslice e sz b z l m)):∃t x y,o.op= .makeSlice t x y/\eI P t=some e/\bQ P e=some sz/\gr P e=some b/\db P e=some z/\l= .of x/\m= .of y:=by
 unfold fV at hc
 (repeat' split at hc)<;>simp_all[Option.bind_eq_some_iff,Option.map_eq_some_iff]
 obtain⟨e',h1,s',h2,b',h3,z',h4,rfl,rfl,rfl,rfl,rfl,rfl⟩:=hc
 exact⟨_,_,_,⟨rfl,rfl,rfl⟩,h1,h2,h3,h4,rfl,rfl⟩
theorem Dz{e:TypeId}{sz b:Nat}{l m:SX}(hc:fV P o=some (.append e sz b l m)):∃cl x y t z,o.op= .call cl/\cl.callee= .builtin .append/\cl.args= #[x,y]/\cl.argTypes= #[t,t]/\eI P t=some e/\bQ P e=some sz/\gr P e=some b/\db P e=some z/\z.cells.size=sz/\0<sz/\0<b/\l= .of x/\m= .of y:=by
 unfold fV at hc
 (repeat' split at hc)<;>simp_all[Option.bind_eq_some_iff,Option.map_eq_some_iff]
 rename_i cl _ h6 _ _ x y t u h7 h8 h9
 obtain⟨e',h1,s',h2,b',h3,z',h4,h5,rfl,rfl,rfl,rfl,rfl⟩:=hc
 exact⟨x,y,fN h7,u,fN h8,h1,h2,h3,z',h4,h5.1,h5.2.1,h5.2.2,rfl,rfl⟩
theorem Ll(hI:Inv c θ D st a w)(hd:∀k,o.dst=some k->k<c.n){k:Nat}{q:SOp}{K KP:St->Prop}(hc:fV P o=some q.canon)(h:sexec P o.dst (.atq k q) st K KP):Leaves P o c K KP a w:=by
 cases q with
 |alloc t zl=>
  obtain⟨z,ho,hz,rfl⟩:=FM hc
  exact En hI hd (pl:=some k) ho hz h
 |box t x=>
  obtain⟨y,ho,rfl⟩:=JW hc
  exact Kp hI hd (pl:=some k) ho h
 |mkmap t e=>
  obtain⟨t,ho⟩:=FN hc
  exact Ep hI hd (pl:=some k) ho h
 |bslice own e sz len xs=>
  cases own with
  |false=>exact h.elim
  |true=>
   obtain⟨t,parts,z,ho,he,hs,hz,hord,hzs,rfl⟩:=DC hc
   exact Bi hI hd ho he hs hz hord hzs (pl:=some k) h
 |mslice e sz b z l m=>
  obtain⟨t,x,y,ho,he,hs,hb,hz,rfl,rfl⟩:=DD hc
  exact Bj hI hd ho he hs hb hz (pl:=some k) h
 |append e sz b l m=>
  obtain⟨cl,x,y,t,z,ho,hcl,hargs,htys,he,hs,hb,hz,hzs,h0,hb0,rfl,rfl⟩:=Dz hc
  exact IP hI hd ho hcl hargs htys he hs hb hz hzs h0 hb0 (pl:=some k) h
 |_=>exact h.elim
theorem t5(hI:Inv c θ D st a w)(hd:∀k,o.dst=some k->k<c.n){s:SOp}{K KP:St->Prop}(hc:fV P o=some s.canon)(hok:NG P o=true)(h:sexec P o.dst s st K KP):Leaves P o c K KP a w:=by
 by_cases hat:∀k q,s≠.atq k q
 ·exact zg hI hd hat hc hok h
 ·have:∃k q,s= .atq k q:=Classical.byContradiction λhn=>hat λk q e=>hn ⟨k,q,e⟩
  obtain⟨k,q,rfl⟩:=this
  exact Ll hI hd (k:=k) (q:=q) hc h
def qW(P:Program)(n:Nat)(ops:Array Oper)(o:Oper)(s:SOper):Prop:=
 (fV P o=some s.op.canon/\NG P o=true)/\s.dst=o.dst/\(∀k,o.dst=some k->k<n)/\
  match o.guard with
  |none=>s.gd=none
  |some (j,want)=>∃t,(ops[j]?).bind (·.dst)=some t/\s.gd=some (t,want)
theorem G2{ops:Array Oper}{j t:Nat}(ht:(ops[j]?).bind (·.dst)=some t)(tmps:Array Value):yielded ops tmps j=yv (tmps.getD t undef):=by
 unfold yielded
 rw[ht]
 simp only[Option.bind_some]
 rcases Nat.lt_or_ge t tmps.size with h|h
 ·simp only[Array.getElem?_eq_getElem h,Array.getD,h,dif_pos]
  show _=yv tmps[t]
  cases tmps[t]<;>rfl
 ·simp only[Array.getElem?_eq_none h,Array.getD,Nat.not_lt.2 h,dif_neg,not_false_eq_true]
  rfl
theorem nJ{n:Nat}{ops:Array Oper}{s:SOper}{K KP:St->Prop}(hI:Inv c θ D st a w)(hn:c.n=n)(hc:qW P n ops o s)(h:gC P s st K KP)(next:Act->World->Prop)(Q:Exit->Act->World->Prop)
 (hnext:∀a' w',(∃st',K st'/\Rel c st' a' w')->next a' w') (hp:∀ch w',(pM ch/\∃st',KP st'/\Rel c st' a w')->Q (.panic ch) a w'):if Region.wanted o (yielded ops a.tmps)then o.wp P a w next Q else next (a.put o.dst undef) w:=by
 obtain⟨h1,h2,h3,h4⟩:=hc
 have hd:∀k,o.dst=some k->k<c.n:=by rw[hn];exact h3
 unfold gC at h
 unfold Region.wanted
 cases hg:o.guard with
 |none=>
  rw[hg]at h4
  simp only at h4
  rw[h4]at h
  simp only[if_true]
  rw[h2]at h
  exact t5 hI hd h1.1 h1.2 h next Q hnext hp
 |some jw=>
  obtain⟨j,want⟩:=jw
  rw[hg]at h4
  obtain⟨t,ht,hgd⟩:=h4
  rw[hgd]at h
  obtain⟨g,hlk,v,rfl,hyes,hno⟩:=h
  have hv:=Gm (hI.fr t _ hlk)
  simp only[G2 ht,hv]
  by_cases hy:yv v=some want
  ·rw[if_pos (by simpa using hy)]
   have:=hyes hy
   rw[h2]at this
   exact t5 hI hd h1.1 h1.2 this next Q hnext hp
  ·rw[if_neg (by simpa using hy)]
   have:=hno hy
   rw[h2]at this
   exact hnext _ _ ⟨_,this,θ,D,hI.put hd (RelP.sc _)⟩
end
end Go.Av
namespace Go.Av
open Go Go.RowKit
section
variable {P:Program} {c:Ctx} {st:St} {a:Act} {w:World}
def pT(P:Program)(n:Nat)(ops:Array Oper):List Oper->List SOper->Prop
 |[],[]=>True
 |o::l,s::m=>qW P n ops o s/\pT P n ops l m
 |_,_=>False
theorem qX{n:Nat}{ops:Array Oper}:∀{l:List Oper} {m:List SOper},pT P n ops l m->l.length=m.length/\∀(i:Nat) (o:Oper) (s:SOper),l[i]? =some o->m[i]? =some s->qW P n ops o s
 |[],[],_=>⟨rfl,λi o s h=>by simp at h⟩
 |o::l,s::m,h=>by
  obtain⟨h1,h2⟩:=h
  obtain⟨h3,h4⟩:=qX h2
  refine⟨by simp[h3],λi o' s' ho hs=>?_⟩
  cases i with
  |zero=>simp at ho hs;subst ho;subst hs;exact h1
  |succ i=>exact h4 i o' s' (by simpa using ho) (by simpa using hs)
theorem Gz{n m:Nat}{ops:Array Oper}(hn:c.n=n)(hm:c.th.length<=m){K KP:St->Prop}{Q:Exit->Act->World->Prop}(hQ:∀a w,(∃st',K st'/\Rel c st' a w)->Q .normal a w)(hP:∀ch a w,(pM ch/\∃st',KP st'/\Rel c st' a w)->Q (.panic ch) a w):
 ∀(suf:List Oper) (ss:List SOper) (k:Nat),(∀i,suf[i]? =ops[k+i]?)->pT P n ops suf ss->∀(st:St) (a:Act) (w:World),sops P m ss st K KP->Rel c st a w->wpOps P ops Q (List.range' k suf.length) a w:=by
 intro suf
 induction suf with
 |nil=>
  intro ss k _ hc st a w h hr
  cases ss with
  |cons s ss=>exact hc.elim
  |nil=>
   simp only[sops]at h
   obtain⟨st',hw,hk⟩:=h
   exact hQ a w ⟨st',hk,hw _ _ _ hm hr⟩
 |cons o suf ih=>
  intro ss k hk hc st a w h hr
  cases ss with
  |nil=>exact hc.elim
  |cons s ss=>
   obtain⟨h1,h2⟩:=hc
   simp only[sops]at h
   obtain⟨st1,hw,h⟩:=h
   obtain⟨θ,D,hI⟩:=hw _ _ _ hm hr
   have ho:ops[k]? =some o:=by simpa using(hk 0).symm
   have:=nJ hI hn h1 h (λa' w'=>wpOps P ops Q (List.range' (k+1) suf.length) a' w') Q (λa' w' ⟨st',hst,hrel⟩=>
    ih ss (k+1) (λi=>by have:=hk (i+1);simp only[List.getElem?_cons_succ]at this;rw[this];congr 1;omega) h2 st' a' w' hst hrel) (λch w' hp=>hP ch a w' hp)
   simp only[List.length_cons,List.range'_succ,wpOps,ho]
   split
   ·rename_i hw
    rw[if_pos hw]at this
    exact .inl this
   ·rename_i hw
    rw[if_neg hw]at this
    exact this
theorem CG{id n m:Nat}{ops:Array Oper}{ss:List SOper}(hn:c.n=n)(hm:c.th.length<=m)(hc:pT P n ops ops.toList ss){K KP:St->Prop}{Q:Exit->Act->World->Prop}(h:sops P m ss st K KP)(hr:Rel c st a w)
 (hQ:∀a w,(∃st',K st'/\Rel c st' a w)->Q .normal a w) (hP:∀ch a w,(pM ch/\∃st',KP st'/\Rel c st' a w)->Q (.panic ch) a w):(Code.region id ops false).wp P Q a w:=by
 refine wp_region ?_
 have:=Gz hn hm hQ hP ops.toList ss 0 (λi=>by simp) hc st a w h hr
 rw[List.range_eq_range']
 simpa using this
def SX.rd:SX->List Nat
 | .tm k=>[k]
 |_=>[]
def SOp.rd:SOp->List Nat
 | .mv x| .un _ x| .len _ x| .lenM _ _ x| .fldA _ _ _ x| .fld _ _ _ x| .load _ _ x| .box _ x| .boxD _ x| .cvtI _ x| .ext x _| .nilc x| .b2s x| .panic x| .iface _ x=>x.rd
 | .pick c a b=>c.rd++a.rd++b.rd
 | .bin _ x y| .eqB _ x y| .eqT _ _ x y| .idxS x y| .idxV _ _ _ x y| .idxA _ x y| .idxP _ _ _ x y| .store _ x y| .mslice _ _ _ _ x y| .append _ _ _ x y| .appD _ _ _ x y| .msliceT _ _ _ _ _ x y| .appT _ _ _ _ x y| .lookup _ _ _ _ x y| .copy _ _ x y=>x.rd++y.rd
 | .mapset _ _ x y z=>x.rd++y.rd++z.rd
 | .alloc _ _| .mkmap _ _=>[]
 | .build _ ps=>ps.flatMap λq=>q.2.2.rd
 | .bslice _ _ _ _ ps=>ps.flatMap SX.rd
 | .bsliceN _ _ _ ps=>ps.flatMap SX.rd
 | .slc _ x lo hi mx=>x.rd++(lo.map SX.rd).getD []++(hi.map SX.rd).getD []++(mx.map SX.rd).getD []
 | .slcS x lo hi=>x.rd++(lo.map SX.rd).getD []++(hi.map SX.rd).getD []
 | .call _ _ xs| .callA _ _ _ xs| .mkfn _ xs=>xs.flatMap SX.rd
 | .callv _ _ x xs| .mnmx _ _ x xs| .callp _ x xs=>x.rd++xs.flatMap SX.rd
 | .atq _ op=>op.rd
def SOper.rd(o:SOper):List Nat:=o.op.rd++(o.gd.map λg=>[g.1]).getD []
theorem aO{st st':St}{x:SX}(h:∀t∈x.rd,look st'.fr t=look st.fr t):st'.get x=st.get x:=by
 cases x<;>simp only[St.get]
 exact h _ (by simp[SX.rd])
theorem dT{α β:Type}{f g:α->Option β}:∀{l:List α},(∀x∈l,f x=g x)->l.mapM f=l.mapM g
 |[],_=>rfl
 |x::l,h=>by
  rw[List.mapM_cons,List.mapM_cons,h x (by simp),dT (l:=l) λy hy=>h y (by simp[hy])]
theorem pi{st st':St}{x:Option SX}(h:∀t∈(x.map SX.rd).getD [],look st'.fr t=look st.fr t)(d:Nat)(K:Nat->Prop):bnd st' x d K=bnd st x d K:=by
 cases x with
 |none=>rfl
 |some x=>simp only[bnd,aO (x:=x) (by simpa using h)]
theorem Jf{st st':St}{s:SOp}(hh:st'.hp=st.hp)(h:∀t∈s.rd,look st'.fr t=look st.fr t)(K:AV->Prop):g8 P st' s K=g8 P st s K:=by
 cases s<;>simp only[SOp.rd,List.mem_append]at h<;>simp only[g8,hh]
 case mv x=>rw[aO h]
 case pick x y z=>rw[aO (x:=x) λt ht=>h t (.inl (.inl ht)),aO (x:=y) λt ht=>h t (.inl (.inr ht)),aO (x:=z) λt ht=>h t (.inr ht)]
 case un op x=>rw[aO h]
 case len b x=>rw[aO h]
 case fldA x=>rw[aO h]
 case fld x=>rw[aO h]
 case load x=>rw[aO h]
 case cvtI x=>rw[aO h]
 case ext x i=>rw[aO h]
 case nilc x=>rw[aO h]
 case b2s x=>rw[aO h]
 case lenM k e x=>rw[aO h]
 case boxD k x=>rw[aO h]
 case iface k x=>rw[aO h]
 case appD e sz bt x y=>rw[aO (x:=x) λt ht=>h t (.inl ht),aO (x:=y) λt ht=>h t (.inr ht)]
 case eqT op t x y=>rw[aO (x:=x) λt ht=>h t (.inl ht),aO (x:=y) λt ht=>h t (.inr ht)]
 case lookup k e ok z x y=>rw[aO (x:=x) λt ht=>h t (.inl ht),aO (x:=y) λt ht=>h t (.inr ht)]
 case mkfn f xs=>rw[dT (l:=xs) λq hq=>aO (x:=q) λt ht=>h t (List.mem_flatMap.2 ⟨q,hq,ht⟩)]
 case mnmx mx k x xs=>rw[aO (x:=x) λt ht=>h t (.inl ht),dT (l:=xs) λq hq=>aO (x:=q) λt ht=>h t (.inr (List.mem_flatMap.2 ⟨q,hq,ht⟩))]
 case bin op x y=>rw[aO (x:=x) λt ht=>h t (.inl ht),aO (x:=y) λt ht=>h t (.inr ht)]
 case eqB op x y=>rw[aO (x:=x) λt ht=>h t (.inl ht),aO (x:=y) λt ht=>h t (.inr ht)]
 case idxS x y=>rw[aO (x:=x) λt ht=>h t (.inl ht),aO (x:=y) λt ht=>h t (.inr ht)]
 case idxV x y=>rw[aO (x:=x) λt ht=>h t (.inl ht),aO (x:=y) λt ht=>h t (.inr ht)]
 case idxA x y=>rw[aO (x:=x) λt ht=>h t (.inl ht),aO (x:=y) λt ht=>h t (.inr ht)]
 case idxP x y=>rw[aO (x:=x) λt ht=>h t (.inl ht),aO (x:=y) λt ht=>h t (.inr ht)]
 case build z ps=>rw[dT (l:=ps) λq hq=>by rw[aO (x:=q.2.2) λt ht=>h t (List.mem_flatMap.2 ⟨q,hq,ht⟩)]]
 case bslice b e sz l ps=>
  cases b
  ·simp only
   rw[dT (l:=ps) λq hq=>by rw[aO (x:=q) λt ht=>h t (List.mem_flatMap.2 ⟨q,hq,ht⟩)]]
  ·rfl
 case bsliceN e sz l ps=>rw[dT (l:=ps) λq hq=>by rw[aO (x:=q) λt ht=>h t (List.mem_flatMap.2 ⟨q,hq,ht⟩)]]
 case call b f xs=>rw[dT (l:=xs) λq hq=>by rw[aO (x:=q) λt ht=>h t (List.mem_flatMap.2 ⟨q,hq,ht⟩)]]
 case callp b x xs=>rw[aO (x:=x) λt ht=>h t (.inl ht),dT (l:=xs) λq hq=>by rw[aO (x:=q) λt ht=>h t (.inr (List.mem_flatMap.2 ⟨q,hq,ht⟩))]]
 case slc sz x lo hi mx=>
  simp only[aO (x:=x) λt ht=>h t (.inl (.inl (.inl ht))),pi (x:=lo) λt ht=>h t (.inl (.inl (.inr ht))),pi (x:=hi) λt ht=>h t (.inl (.inr ht)),pi (x:=mx) λt ht=>h t (.inr ht)]
 case slcS x lo hi=>
  simp only[aO (x:=x) λt ht=>h t (.inl (.inl ht)),pi (x:=lo) λt ht=>h t (.inl (.inr ht)),pi (x:=hi) λt ht=>h t (.inr ht)]
def ez(P:Program)(o:SOper)(st:St)(x:AV):Prop:=
 match o.gd with
 |none=>g8 P st o.op λy=>y=x
 |some (t,want)=>aK (look st.fr t) λg=>uP g λv=>(yv v=some want->g8 P st o.op λy=>y=x)/\(yv v≠some want->x= .v undef)
theorem CS{o:SOper}{st st':St}{x:AV}(hh:st'.hp=st.hp)(h:∀t∈o.rd,look st'.fr t=look st.fr t)(hy:ez P o st x):ez P o st' x:=by
 simp only[SOper.rd,List.mem_append]at h
 have h1:=Jf (P:=P) (s:=o.op) hh λt ht=>h t (.inl ht)
 unfold ez at hy⊢
 split at hy
 ·rename_i hg
  rw[h1]
  exact hy
 ·rename_i t want hg
  rw[hg]at h
  rw[h t (.inr (by simp)),h1]
  exact hy
theorem ak{α:Type}{o:Option α}{K K':α->Prop}(h:aK o K)(hk:∀x,K x->K' x):aK o K':=let⟨a,h1,h2⟩:=h;⟨a,h1,hk a h2⟩
theorem bi{a:AV}{K K':Value->Prop}(h:uP a K)(hk:∀x,K x->K' x):uP a K':=let⟨v,h1,h2⟩:=h;⟨v,h1,hk v h2⟩
theorem bI{v:Value}{K K':IntKind->Int->Prop}(h:isInt v K)(hk:∀k n,K k n->K' k n):isInt v K':=let⟨k,n,h1,h2⟩:=h;⟨k,n,h1,hk k n h2⟩
theorem lF{v:Value}{K K':Bool->Prop}(h:isBool v K)(hk:∀x,K x->K' x):isBool v K':=let⟨b,h1,h2⟩:=h;⟨b,h1,hk b h2⟩
theorem nv{v:Value}{K K':ByteArray->Prop}(h:D9 v K)(hk:∀x,K x->K' x):D9 v K':=let⟨b,h1,h2⟩:=h;⟨b,h1,hk b h2⟩
theorem Ga{hp:List AObj}{a:AV}{K K':Nat->Prop}(h:isLen hp a K)(hk:∀x,K x->K' x):isLen hp a K':=by
 rcases h with⟨h,h1⟩|⟨sz,L,h,h1⟩|⟨id,e,sz,L,h,h2,h1⟩|⟨sz,L,h,h1⟩|⟨id,e,sz,k,L,ho,h,h2,h1⟩
 ·exact .inl ⟨h,hk _ h1⟩
 ·exact .inr (.inl ⟨sz,L,h,hk _ h1⟩)
 ·exact .inr (.inr (.inl ⟨id,e,sz,L,h,h2,hk _ h1⟩))
 ·exact .inr (.inr (.inr (.inl ⟨sz,L,h,hk _ h1⟩)))
 ·exact .inr (.inr (.inr (.inr ⟨id,e,sz,k,L,ho,h,h2,hk _ h1⟩)))
theorem s9{hp:List AObj}{k e:TypeId}{a:AV}{K K':Nat->List (PV×PV)->Prop}(h:isMap hp k e a K)(hk:∀i x,K i x->K' i x):isMap hp k e a K':=let⟨id,kvs,h1,h2,h3⟩:=h;⟨id,kvs,h1,h2,hk _ _ h3⟩
theorem lD{st:St}{x:Option SX}{d:Nat}{K K':Nat->Prop}(h:bnd st x d K)(hk:∀n,K n->K' n):bnd st x d K':=by
 cases x with
 |none=>exact hk _ h
 |some x=>exact ak h λ_ h=>bi h λ_ h=>bI h λ_ _ h=>⟨h.1,hk _ h.2⟩
theorem Iw{op:BinOp}{x y:Value}{K K':Value->Prop}(h:BY op x y K)(hk:∀v,K v->K' v):BY op x y K':=by
 unfold BY at h⊢
 split at h
 ·cases op<;>simp only at h⊢<;>first|exact⟨h.1,hk _ h.2⟩|exact⟨h.1,h.2.1,hk _ h.2.2⟩
 ·cases op<;>simp only at h⊢<;>first|exact hk _ h|exact⟨h.1,hk _ h.2⟩|exact h
 ·exact h
theorem Lq{op:UnOp}{x:Value}{K K':Value->Prop}(h:NI op x K)(hk:∀v,K v->K' v):NI op x K':=by
 unfold NI at h⊢
 split at h
 ·exact hk _ h
 ·exact hk _ h
 ·exact h
theorem xX{hp:List AObj}{sz:Nat}{ag:Bool}{a:AV}{K K':AV->Prop}(h:wh hp sz ag a K)(hk:∀v,K v->K' v):wh hp sz ag a K':=by
 unfold wh at h⊢
 split at h
 ·exact⟨h.1,h.2.1,hk _ h.2.2⟩
 ·exact ak h λ_ ⟨t,cs,h1,h2,h3,h4⟩=>⟨t,cs,h1,h2,h3,h4.imp (hk _) λh=>ak h λ_ h=>hk _ h⟩
 ·refine ak h λ_ h=>h.imp (fun⟨e,s,xs,h1,h2,h3,h4,h5⟩=>⟨e,s,xs,h1,h2,h3,h4,?_⟩) fun⟨e,s,k,xs,ho,h1,h2,h3,h4,h5⟩=>⟨e,s,k,xs,ho,h1,h2,h3,h4,h5.imp (λh=>⟨h.1,hk _ h.2⟩) fun⟨bv,h6,h7,h8,h9⟩=>⟨bv,h6,h7,h8,hk _ h9⟩⟩
  rcases h5 with⟨h6,h7,h8,h9⟩|⟨h6,h7⟩
  ·exact .inl ⟨h6,h7,h8,hk _ h9⟩
  ·exact .inr ⟨h6,hk _ h7⟩
 ·exact h
theorem eL{hp:List AObj}{sz:Nat}{a:AV}{K K':List PV->Prop}(h:mn hp sz a K)(hk:∀x,K x->K' x):mn hp sz a K':=by
 rcases h with⟨h,h1⟩|⟨L,h,h1⟩|⟨id,e,L,h,h2,h1⟩|⟨L,h,h1⟩
 ·exact .inl ⟨h,hk _ h1⟩
 ·exact .inr (.inl ⟨L,h,hk _ h1⟩)
 ·exact .inr (.inr (.inl ⟨id,e,L,h,h2,hk _ h1⟩))
 ·exact .inr (.inr (.inr ⟨L,h,hk _ h1⟩))
theorem uH{st:St}{s:SOp}{K K':AV->Prop}(h:g8 P st s K)(hk:∀x,K x->K' x):g8 P st s K':=by
 cases s<;>simp only[g8]at h⊢
 case mv=>exact ak h hk
 case pick=>exact ak h λ_ h=>bi h λ_ h=>lF h λ_ h=>⟨λe=>ak (h.1 e) hk,λe=>ak (h.2 e) hk⟩
 case bin=>exact ak h λ_ h=>ak h λ_ h=>bi h λ_ h=>bi h λ_ h=>Iw h λ_ h=>hk _ h
 case eqB=>exact ak h λ_ h=>ak h λ_ h=>bi h λ_ h=>bi h λ_ h=>lF h λ_ h=>lF h λ_ h=>hk _ h
 case un=>exact ak h λ_ h=>bi h λ_ h=>Lq h λ_ h=>hk _ h
 case len str x=>
  refine ak h λ_ h=>?_
  cases str
  ·exact Ga h λ_ h=>hk _ h
  ·exact bi h λ_ h=>nv h λ_ h=>hk _ h
 case idxS=>exact ak h λ_ h=>ak h λ_ h=>bi h λ_ h=>bi h λ_ h=>bI h λ_ _ h=>nv h λ_ h=>⟨h.1,h.2.1,hk _ h.2.2⟩
 case idxV=>exact ak h λ_ h=>ak h λ_ h=>bi h λ_ h=>bI h λ_ _ h=>ak h λ_ ⟨h1,h2,h3,h4,h5,h6⟩=>⟨h1,h2,h3,h4,h5,hk _ h6⟩
 case idxA=>
  refine ak h λ_ h=>ak h λ_ h=>bi h λ_ h=>bI h λ_ _ h=>?_
  rcases h with⟨L,h1,h2,h3,h4⟩|⟨id,h1,h2⟩
  ·exact .inl ⟨L,h1,h2,h3,hk _ h4⟩
  ·exact .inr ⟨id,h1,ak h2 λ_ h=>h.imp (fun⟨e,L,h3,h4,h5,h6⟩=>⟨e,L,h3,h4,h5,hk _ h6⟩) fun⟨e,k,L,ho,h3,h4,h5,h6⟩=>⟨e,k,L,ho,h3,h4,h5,hk _ h6⟩⟩
 case idxP=>
  refine ak h λ_ h=>ak h λ_ h=>bi h λ_ h=>bI h λ_ _ ⟨h1,h2,h⟩=>⟨h1,h2,?_⟩
  rcases h with⟨id,off,h3,h4⟩|⟨p,h3,h4,h5,h6,h7⟩
  ·exact .inl ⟨id,off,h3,hk _ h4⟩
  ·exact .inr ⟨p,h3,h4,h5,h6,hk _ h7⟩
 case lenM=>exact ak h λ_ h=>s9 h λ_ _ h=>hk _ h
 case boxD=>exact ak h λ_ h=>ak h λ_ h=>⟨h.1,h.2.1,hk _ h.2.2⟩
 case iface=>exact ak h λ_ h=>hk _ h
 case eqT=>exact ak h λ_ h=>ak h λ_ h=>ak h λ_ h=>ak h λ_ h=>ak h λ_ h=>hk _ h
 case lookup=>exact ak h λ_ h=>ak h λ_ h=>s9 h λ_ _ h=>ak h λ_ ⟨h1,h2,h3,h⟩=>⟨h1,h2,h3,ak h λ_ h=>hk _ h⟩
 case mkfn=>
  refine ak h λ_ h=>?_
  rcases h with⟨ids,h1,h2⟩|⟨ps,h1,h2⟩
  ·exact .inl ⟨ids,h1,hk _ h2⟩
  ·exact .inr ⟨ps,h1,hk _ h2⟩
 case mnmx=>exact ak h λ_ h=>bi h λ_ h=>bI h λ_ _ h=>ak h λ_ ⟨ns,h1,h2,h3⟩=>⟨ns,h1,h2,hk _ h3⟩
 case fldA=>
  refine ak h λ_ h=>?_
  rcases h with⟨p,h1,h2,h3,h4,h5⟩|⟨id,o,h1,h2⟩|⟨id,i,o,h1,h2⟩
  ·exact .inl ⟨p,h1,h2,h3,h4,hk _ h5⟩
  ·exact .inr (.inl ⟨id,o,h1,hk _ h2⟩)
  ·exact .inr (.inr ⟨id,i,o,h1,hk _ h2⟩)
 case fld=>
  refine ak h λ_ h=>?_
  rcases h with⟨p,h1,h2,h3,h4,h5⟩|⟨cs,h1,h2,h3,h4⟩
  ·exact .inl ⟨p,h1,h2,h3,h4,hk _ h5⟩
  ·exact .inr ⟨cs,h1,h2,h3,hk _ h4⟩
 case load=>exact ak h λ_ h=>xX h hk
 case cvtI=>exact ak h λ_ h=>bi h λ_ h=>bI h λ_ _ h=>hk _ h
 case slc=>
  refine ak h λ_ h=>ak h λ_ ⟨L,h1,h⟩=>⟨L,h1,lD h λ_ h=>lD h λ_ h=>lD h λ_ ⟨h2,h3,h4,h5,h6⟩=>⟨h2,h3,h4,h5,?_⟩⟩
  rcases h6 with h6|⟨h6,h7,h8⟩
  ·exact .inl (hk _ h6)
  ·exact .inr ⟨h6,h7,hk _ h8⟩
 case slcS=>exact ak h λ_ h=>bi h λ_ h=>nv h λ_ h=>lD h λ_ h=>lD h λ_ ⟨h2,h3,h4⟩=>⟨h2,h3,hk _ h4⟩
 case ext=>
  refine ak h λ_ h=>?_
  rcases h with⟨xs,h1,h2⟩|⟨xs,h1,h2⟩
  ·exact .inl ⟨xs,h1,ak h2 λ_ h=>hk _ h⟩
  ·exact .inr ⟨xs,h1,ak h2 λ_ h=>hk _ h⟩
 case b2s=>exact ak h λ_ h=>eL h λ_ h=>ak h λ_ h=>hk _ h
 case nilc=>exact ak h λ_ h=>⟨h.1,hk _ h.2⟩
 case build=>exact ak h λ_ h=>⟨h.1,hk _ h.2⟩
 case call=>exact ak h λ_ h=>ACalls.mono h λ_ ⟨r,os',h1,h2,h3,h4⟩=>⟨r,os',h1,h2,h3,hk _ h4⟩
 case callp=>exact ak h λ_ ⟨f,cs,h1,h2,h3⟩=>⟨f,cs,h1,h2,ak h3 λ_ h=>ACalls.mono h λ_ ⟨r,os',h1,h2,h3,h4⟩=>⟨r,os',h1,h2,h3,hk _ h4⟩⟩
 case bslice own e sz len ps=>
  cases own
  ·exact ak h λ_ ⟨h1,h2,h3,h4,h5⟩=>⟨h1,h2,h3,h4,h5.imp (hk _) (hk _)⟩
  ·exact h
 case bsliceN=>exact ak h λ_ ⟨h1,h2,h3,h4,h5⟩=>⟨h1,h2,h3,h4,hk _ h5⟩
 case appD=>exact ak h λ_ h=>ak h λ_ h=>eL h λ_ ⟨h1,L0,h2,h3,h4⟩=>⟨h1,L0,h2,h3,hk _ h4⟩
theorem mq{o:SOper}{st:St}{x:AV}{K KP:St->Prop}(h:ez P o st x)(hk:K (st.putO o.dst x)):gC P o st K KP:=by
 have key:∀s,(g8 P st s λy=>y=x)->sexec P o.dst s st K KP:=by
  intro s hs
  have h1:g8 P st s λy=>K (st.putO o.dst y):=uH hs λy hy=>by rw[hy];exact hk
  unfold sexec
  split<;>first|exact h1|exact hs.elim
 unfold ez at h
 unfold gC
 split at h
 ·rename_i hg
  rw[hg]
  exact key _ h
 ·rename_i t want hg
  rw[hg]
  refine ak h λ_ h=>bi h λv h=>⟨λe=>key _ (h.1 e),λe=>by rw[<-h.2 e];exact hk⟩
end
end Go.Av
