import Derived.Test.YthjnceggmnicmaaGreatDoorKL7
import Derived.Test.YthjnceggmnicmaaGreatDoorKShelf
set_option linter.unusedVariables false
set_option linter.unusedSimpArgs false
open Nat renaming le_refl->a_
namespace Go.Ev
open Go Go.RowKit Go.Av Go.Proofs Go.Sort
theorem Sd{P:Program}{f:FuncId}{ars:List AV}{r:AV}(h:∀(w:World) (D:Nat->Prop) (vs:List Value),GT w->vs.length=ars.length->(∀(i:Nat) (v:Value) (x:AV),vs[i]? =some v->ars[i]? =some x->RelA [] D w v x)->Calls P f vs.toArray w λe w'=>∃v,e= .returned v/\RelA [] D w' v r/\Below w.heap.size w w'):ACalls P f ars [] λo=>o=some (r,[]):=by intro w θ D vs s c hl d;have n:θ=[]:=List.eq_nil_of_length_eq_zero c.len;subst n;refine(h w D vs (s w (Keep.refl _ _)) hl d).mono λe w' ⟨v,u,hr,p⟩=>?_;refine .inl ⟨v,r,[],[],D,u,rfl,hr,⟨rfl,λb hd=>Nat.lt_of_lt_of_le (c.dlt b hd) p.size,λi j li z g a=>(by simp at a),λi l g a=>(by simp at a),λi l o a=>(by simp at a)⟩,.of_below p,λ_ h=>h,λ_ h=>.inl h,λi l g a=>(by simp at a),λk l y=>(by simp at y),a_ _⟩
def ze6(n:Int):Bool:=decide (-9223372036854775808<=n)&&decide (n<=9223372036854775807)
def DW:List V->Option S
 |[.d (.int .i64) n]=>bif ze6 n then some ⟨[(0,.d .str (Lib.itoa n))],[]⟩else none
 |_=>none
theorem zdp{f:Nat}(h:∀(n:Int) (_: -9223372036854775808<=n) (_:n<=9223372036854775807) (w:World) (_:Lib.TabIs Tryz.prog w "internal/strconv.uint64pow10" .u64 Lib.pow10Tab),Calls Tryz.prog f #[.int .i64 n] w λe w'=>e= .returned (.string ⟨(Lib.itoa n).toArray⟩)/\∃k os,w'=grow (w.drewN k) os):zcE Tryz.prog f DW:=by
 intro ars s hs;unfold DW at hs;split at hs
 ·rename_i n;obtain⟨a,c⟩:=aW hs;cases c;simp only[ze6,Bool.and_eq_true,decide_eq_true_eq]at a;refine Sd λw D vs g hl b=>?_
  match vs,hl with
  |[v],_=>
   have:=b 0 v _ rfl rfl;have l:v= .int .i64 n:=by have d:RelP D w v (.sc (.int .i64 n)):=this;cases d;rfl
   subst l;refine(h n a.1 a.2 w g).mono λe w' ⟨j,k,os,p⟩=>⟨_,j,.sc _,?_⟩;rw[p];exact Lib.below_grow _ _ (a_ _) _ _
 ·cases hs
end Go.Ev
