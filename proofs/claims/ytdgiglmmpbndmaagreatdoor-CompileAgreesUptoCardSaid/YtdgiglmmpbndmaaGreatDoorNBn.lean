import Derived.Test.YtdgiglmmpbndmaaGreatDoorNL5
import Derived.Test.YtdgiglmmpbndmaaGreatDoorNShelf
set_option linter.all false
open Nat renaming le_refl->a_
namespace Go.Ev
open Go Go.RowKit Go.Av Go.Proofs Go.Sort
def JJ{P:Program}{f:FuncId}{ars:List AV}{r:AV}(h:∀(w:World) (D:Nat->Prop) (vs:List Value),GT w->vs.length=ars.length->(∀(i:Nat) (v:Value) (x:AV),vs[i]? =some v->ars[i]? =some x->RelA [] D w v x)->Calls P f vs.toArray w λe w'=>∃v,e= .returned v/\RelA [] D w' v r/\Below w.heap.size w w'):eG P f ars [] λo=>o=some (r,[]):=by intro w θ D vs s c hl d;have n:θ=[]:=List.eq_nil_of_length_eq_zero c.len;subst n;refine(h w D vs (s w (nv.refl _ _)) hl d).mono λe w' ⟨v,u,hr,p⟩=>?_;refine .inl ⟨v,r,[],[],D,u,rfl,hr,⟨rfl,λb hd=>Nat.lt_of_lt_of_le (c.pO b hd) p.size,λi j li z g a=>(by simp at a),λi l g a=>(by simp at a),λi l o a=>(by simp at a)⟩,.of_below p,λ_ h=>h,λ_ h=>.inl h,λi l g a=>(by simp at a),λk l y=>(by simp at y),a_ _⟩
def zaA(n:Int):Bool:=decide (-9223372036854775808<=n)&&decide (n<=9223372036854775807)
def uJ:List V->Option S
 |[.d (.int .i64) n]=>bif zaA n then some ⟨[(0,.d .str (Lib.itoa n))],[]⟩else none
 |_=>none
def Xz{f:Nat}(h:∀(n:Int) (_: -9223372036854775808<=n) (_:n<=9223372036854775807) (w:World) (_:Lib.TabIs Tryz.prog w "internal/strconv.uint64pow10" .u64 Lib.pow10Tab),Calls Tryz.prog f #[.int .i64 n] w λe w'=>e= .returned (.string ⟨(Lib.itoa n).toArray⟩)/\∃k os,w'=grow (w.drewN k) os):V2 Tryz.prog f uJ:=by
 intro ars s hs;unfold uJ at hs;split at hs
 .rename_i n;obtain⟨h1,h2⟩:=aZ hs;cases h2;simp only[zaA,Bool.and_eq_true,decide_eq_true_eq]at h1;refine JJ λw D vs c hl a=>?_
  match vs,hl with
  |[v],_=>
   have:=a 0 v _ rfl rfl;have g:v= .int .i64 n:=by have b:aX D w v (.sc (.int .i64 n)):=this;cases b;rfl
   subst g;refine(h n h1.1 h1.2 w c).mono λe w' ⟨d,k,os,j⟩=>⟨_,d,.sc _,?_⟩;rw[j];exact Lib.below_grow _ _ (a_ _) _ _
 .cases hs
end Go.Ev
