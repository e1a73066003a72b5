import Derived.Test.YtmfolppncelceaaGreatDoorDL7
import Derived.Test.YtmfolppncelceaaGreatDoorDShelf
set_option linter.unusedVariables false
set_option linter.unusedSimpArgs false
open Nat renaming le_refl->a_
namespace Go.Ev
open Go Go.RowKit Go.Av Go.Proofs Go.Sort
theorem uh{P:Program}{f:FuncId}{ars:List AV}{r:AV}(h:∀(w:World) (D:Nat->Prop) (vs:List Value),GT w->vs.length=ars.length->(∀(i:Nat) (v:Value) (x:AV),vs[i]? =some v->ars[i]? =some x->RelA [] D w v x)->
 Calls P f vs.toArray w λe w'=>∃v,e= .returned v/\RelA [] D w' v r/\Below w.heap.size w w'):ACalls P f ars [] λo=>o=some (r,[]):=by
 intro w θ D vs hG hok hl hvs
 have hθ:θ=[]:=List.eq_nil_of_length_eq_zero hok.len
 subst hθ
 refine(h w D vs (hG w (Keep.refl _ _)) hl hvs).mono λe w' ⟨v,he,hr,hb⟩=>?_
 refine .inl ⟨v,r,[],[],D,he,rfl,hr,⟨rfl,λb hd=>Nat.lt_of_lt_of_le (hok.dlt b hd) hb.size,λi j li lj g hi=>(by simp at hi),λi l g hi=>(by simp at hi),λi l o hi=>(by simp at hi)⟩,.of_below hb,λ_ h=>h,λ_ h=>.inl h,λi l g hi=>(by simp at hi),λk l hk=>(by simp at hk),a_ _⟩
def Vk(n:Int):Bool:=decide (-9223372036854775808<=n)&&decide (n<=9223372036854775807)
def xK:List V->Option S
 |[.d (.int .i64) n]=>bif Vk n then some ⟨[(0,.d .str (Lib.itoa n))],[]⟩else none
 |_=>none
theorem Tg{f:Nat}(h:∀(n:Int) (_: -9223372036854775808<=n) (_:n<=9223372036854775807) (w:World) (_:Lib.TabIs Tryz.prog w "internal/strconv.uint64pow10" .u64 Lib.pow10Tab),
 Calls Tryz.prog f #[.int .i64 n] w λe w'=>e= .returned (.string ⟨(Lib.itoa n).toArray⟩)/\∃k os,w'=grow (w.drewN k) os):ES Tryz.prog f xK:=by
 intro ars s hs
 unfold xK at hs
 split at hs
 ·rename_i n
  obtain⟨h1,h2⟩:=aO hs
  cases h2
  simp only[Vk,Bool.and_eq_true,decide_eq_true_eq]at h1
  refine uh λw D vs hG hl hvs=>?_
  match vs,hl with
  |[v],_=>
   have:=hvs 0 v _ rfl rfl
   have hv:v= .int .i64 n:=by
    have h3:RelP D w v (.sc (.int .i64 n)):=this
    cases h3;rfl
   subst hv
   refine(h n h1.1 h1.2 w hG).mono λe w' ⟨he,k,os,hw⟩=>⟨_,he,.sc _,?_⟩
   rw[hw];exact Lib.below_grow _ _ (a_ _) _ _
 ·cases hs
end Go.Ev
