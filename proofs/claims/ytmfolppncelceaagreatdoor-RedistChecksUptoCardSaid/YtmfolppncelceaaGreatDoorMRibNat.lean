import Derived.Test.YtmfolppncelceaaGreatDoorMBn
import Derived.Test.YtmfolppncelceaaGreatDoorMTG4
import Derived.Test.YtmfolppncelceaaGreatDoorML7
import Derived.RangeFuncFrom
import Derived.WalkKit
import Derived.OwnWalkIn
import Derived.TacticsInMore
import Derived.RegionIn
import Derived.Shelf.Abstract
import Derived.Shelf.RegionOpenPlain
import Derived.Deep.LoopGhost
import Derived.Lib.Walk
import Derived.Lib.SliceRun
set_option linter.unusedVariables false
set_option linter.unusedSimpArgs false
open Array renaming getElem?_eq_some_iff->d_,replicate_succ->g_,replicate_zero->h_,getElem?_toList->u_
open Bool renaming and_eq_true->x_
open List renaming getElem?_map->a_,cons_append->c_,getElem?_eq_some_iff->e_,length_map->f_,append_toArray->i_,nil_append->k_,push_toArray->l_,size_toArray->m_,length_cons->n_,length_nil->o_,eq_nil_of_length_eq_zero->r_,mem_map->s_,getElem?_take->v_,prefix_rfl->y_
open Nat renaming le_refl->b_,reduceAdd->p_,reduceSub->q_,zero_add->t_,lt_of_lt_of_le->w_,succ_pos->z_,zero_le->A_
open Option renaming map_eq_some_iff->j_
open Option.some renaming injEq->B_
namespace Go.Ev
open Go Go.RowKit Go.Av Go.Proofs Go.Sort
abbrev tPfx:Ty:=.pair (.int .u32) (.pair (.int .i64) .unit)
abbrev tHop:Ty:=.pair (.int .u32) (.pair (.int .i64) (.pair (.int .u32) (.pair (.int .i64) (.pair tPfx .unit))))
abbrev tRoute:Ty:=.pair tPfx (.pair (.int .i64) (.pair (.int .i64) (.pair (.int .i64) (.pair (.int .i64) (.pair (.list tHop) .unit)))))
def eN(a b:Int):Int:=if a<b then -1 else if b<a then 1 else 0
def eC:List Int->Int
 |[]=>0
 |x::l=>if x=0 then eC l else x
def zE(a b:Int×(Int×Unit)):Int:=eC [eN a.1 b.1,eN a.2.1 b.2.1]
def Mp(a b:tRoute.den):List Int:=[zE a.1 b.1,eN a.2.2.1 b.2.2.1,eN a.2.1 b.2.1]
def Mo(a b:tHop.den):List Int:=[eN a.1 b.1,eN a.2.1 b.2.1,eN a.2.2.1 b.2.2.1]
def R6(a b:tRoute.den):Int:=eC (Mp a b)
def Vk(a b:tHop.den):Int:=eC (Mo a b)
def rU:List V->Option S
 |[.d (.pair (.pair (.int .u32) (.pair (.int .i64) .unit)) (.pair (.int .i64) (.pair (.int .i64) (.pair (.int .i64) (.pair (.int .i64) (.pair (.list (.pair (.int .u32) (.pair (.int .i64) (.pair (.int .u32) (.pair (.int .i64) (.pair (.pair (.int .u32) (.pair (.int .i64) .unit)) .unit)))))) .unit)))))) a,
  .d (.pair (.pair (.int .u32) (.pair (.int .i64) .unit)) (.pair (.int .i64) (.pair (.int .i64) (.pair (.int .i64) (.pair (.int .i64) (.pair (.list (.pair (.int .u32) (.pair (.int .i64) (.pair (.int .u32) (.pair (.int .i64) (.pair (.pair (.int .u32) (.pair (.int .i64) .unit)) .unit)))))) .unit)))))) b]=>some ⟨[(0,.d (.int .i64) (R6 a b))],[]⟩
 |_=>none
def xt:List V->Option S
 |[.d (.pair (.int .u32) (.pair (.int .i64) (.pair (.int .u32) (.pair (.int .i64) (.pair (.pair (.int .u32) (.pair (.int .i64) .unit)) .unit))))) a,.d (.pair (.int .u32) (.pair (.int .i64) (.pair (.int .u32) (.pair (.int .i64) (.pair (.pair (.int .u32) (.pair (.int .i64) .unit)) .unit))))) b]=>some ⟨[(0,.d (.int .i64) (Vk a b))],[]⟩
 |_=>none
def xq:List V->Option S
 |[.d (.list (.int .u32)) xs]=>bif decide (xs.length*4<=140737488355328)then some ⟨[(0,.d (.list (.int .u32)) xs)],[]⟩else none
 |_=>none
def xp:List V->Option S
 |[.d (.list (.int .i64)) xs]=>bif decide (xs.length*8<=140737488355328)then some ⟨[(0,.d (.list (.int .i64)) xs)],[]⟩else none
 |_=>none
theorem Dj{pre:List Int}{x:Int}(h:eC pre=0):eC (pre++[x])=x:=by
 induction pre with
 |nil=>simp only[k_,eC];split<;>simp_all
 |cons y l ih=>
  simp only[eC]at h
  split at h
  ·rename_i hy
   simp only[c_,eC,if_pos hy]
   exact ih h
  ·rename_i hy;exact absurd h hy
theorem NQ{pre L:List Int}(h:pre<+:L)(hn:eC pre≠0):eC L=eC pre:=by
 obtain⟨t,rfl⟩:=h
 induction pre with
 |nil=>exact absurd rfl hn
 |cons y l ih=>
  simp only[eC]at hn
  simp only[c_,eC]
  split at hn
  ·rename_i hy;rw[if_pos hy,if_pos hy];exact ih hn
  ·rename_i hy;rw[if_neg hy,if_neg hy]
theorem Vj(a b c d:Int):eC [eN a b,eN c d]=if a<b then -1 else if b<a then 1 else if c<d then -1 else if d<c then 1 else 0:=by
 have h:eC [eN a b,eN c d]=if eN a b=0 then(if eN c d=0 then 0 else eN c d)else eN a b:=rfl
 rw[h]
 unfold eN
 repeat' split
 all_goals omega
theorem VE(a b c d:Int)(h:(decide (a<b)||((a==b)&&decide (c<d)))=true):eC [eN a b,eN c d]= -1:=by
 rw[Vj]
 simp only[Bool.or_eq_true,x_,decide_eq_true_eq,beq_iff_eq]at h
 repeat' split
 all_goals omega
theorem VC(a b c d:Int)(h:((a==b)&&(c==d))=true):eC [eN a b,eN c d]=0:=by
 rw[Vj]
 simp only[x_,beq_iff_eq]at h
 repeat' split
 all_goals omega
theorem VD(a b c d:Int)(h:(decide (a<b)||((a==b)&&decide (c<d)))=false)(h':((a==b)&&(c==d))=false):eC [eN a b,eN c d]=1:=by
 rw[Vj]
 simp only[Bool.or_eq_false_iff,Bool.and_eq_false_iff,decide_eq_false_iff_not,beq_eq_false_iff_ne]at h h'
 repeat' split
 all_goals omega
end Go.Ev
namespace Go.Proofs.YtmfolppncelceaaGreatDoor
open Go Go.Av Go.Ev Go.RowKit
theorem Vm:Entry Tryz.prog 149 jN:=⟨⟨Tryz.f149,Tryz.func149,by kernel_rfl,by kernel_rfl,by kernel_rfl⟩,by kernel_rfl⟩
theorem Vq:Entry Tryz.prog 176 kL:=⟨⟨Tryz.f176,Tryz.func176,by kernel_rfl,by kernel_rfl,by kernel_rfl⟩,by kernel_rfl⟩
theorem Vn:Entry Tryz.prog 150 iU:=⟨⟨Tryz.f150,Tryz.func150,by kernel_rfl,by kernel_rfl,by kernel_rfl⟩,by kernel_rfl⟩
theorem Vr:Entry Tryz.prog 196 fG:=⟨⟨Tryz.f196,Tryz.func196,by kernel_rfl,by kernel_rfl,by kernel_rfl⟩,by kernel_rfl⟩
theorem Vo:Entry Tryz.prog 174 et:=⟨⟨Tryz.f174,Tryz.func174,by kernel_rfl,by kernel_rfl,by kernel_rfl⟩,by kernel_rfl⟩
theorem Vs:Entry Tryz.prog 197 hM:=⟨⟨Tryz.f197,Tryz.func197,by kernel_rfl,by kernel_rfl,by kernel_rfl⟩,by kernel_rfl⟩
theorem Vp:Entry Tryz.prog 175 fF:=⟨⟨Tryz.f175,Tryz.func175,by kernel_rfl,by kernel_rfl,by kernel_rfl⟩,by kernel_rfl⟩
def U2:List (Nat×Fun'):=[(sy,.code jN),(kI,.code kL),(rD,.code iU),(fp,.code fG),(l6,.code et),
 (gZ,.code hM),(oR,.code fF)]
abbrev yd:Nat->Option Fun':=I5 U2
theorem V1:TblOk Tryz.prog yd:=AllOk.tbl (P:=Tryz.prog) (l:=U2) ⟨Vm,Vq,Vn,Vr,Vo,Vs,Vp,trivial⟩
theorem zjh:Tryz.prog.follows .mixedOrders=true:=by kernel_rfl
theorem Ah(x:Int):aE yd kI [.d tI x] [] fm (false,()):=
 aB rfl (aC (tbl:=yd) (c:=kL) (by kernel_rfl) rfl (λO n=>Eh O n x) (by unfold uD;rw[bne_self_eq_false];exact aa rfl))
theorem Nl(x y:Int):Conv yd rD [.d tI x,.d tI y] [] (·=some ⟨[(0,.d (.int .i64) (eN x y))],[]⟩):=by
 refine aC (tbl:=yd) (c:=iU) (by kernel_rfl) rfl (λO n=>BK O n x y) ?_
 unfold rk
 refine an (Ah x) (an (Ah y) (ao rfl (ao rfl (ap (λh=>aa ?_) λh=>ap (λh'=>aa ?_) λh'=>aa ?_))))
 ·rw[show eN x y= -1 from if_pos (of_decide_eq_true h)];rfl
 ·rw[show eN x y=1 from by unfold eN;rw[if_neg (of_decide_eq_false h),if_pos (of_decide_eq_true h')]];rfl
 ·rw[show eN x y=0 from by unfold eN;rw[if_neg (of_decide_eq_false h),if_neg (of_decide_eq_false h')]];rfl
theorem rj(x:Int):aE yd fp [.d tW x] [] cB (false,()):=
 aB rfl (aC (tbl:=yd) (c:=fG) (by kernel_rfl) rfl (λO n=>wQ O n x) (by unfold oH;rw[bne_self_eq_false];exact aa rfl))
theorem DK(x y:Int):Conv yd l6 [.d tW x,.d tW y] [] (·=some ⟨[(0,.d (.int .i64) (eN x y))],[]⟩):=by
 refine aC (tbl:=yd) (c:=et) (by kernel_rfl) rfl (λO n=>uu O n x y) ?_
 unfold lT
 refine an (rj x) (an (rj y) (ao rfl (ao rfl (ap (λh=>aa ?_) λh=>ap (λh'=>aa ?_) λh'=>aa ?_))))
 ·rw[show eN x y= -1 from if_pos (of_decide_eq_true h)];rfl
 ·rw[show eN x y=1 from by unfold eN;rw[if_neg (of_decide_eq_false h),if_pos (of_decide_eq_true h')]];rfl
 ·rw[show eN x y=0 from by unfold eN;rw[if_neg (of_decide_eq_false h),if_neg (of_decide_eq_false h')]];rfl
theorem uA(x:Int):aE yd gZ [.d tW x] [] dn (false,()):=
 aB rfl (aC (tbl:=yd) (c:=hM) (by kernel_rfl) rfl (λO n=>Ae O n x) (by unfold qy;rw[bne_self_eq_false];exact aa rfl))
theorem Hm(x y:Int):Conv yd oR [.d tW x,.d tW y] [] (·=some ⟨[(0,.d (.int .i64) (eN x y))],[]⟩):=by
 refine aC (tbl:=yd) (c:=fF) (by kernel_rfl) rfl (λO n=>wP O n x y) ?_
 unfold oG
 refine an (uA x) (an (uA y) (ao rfl (ao rfl (ap (λh=>aa ?_) λh=>ap (λh'=>aa ?_) λh'=>aa ?_))))
 ·rw[show eN x y= -1 from if_pos (of_decide_eq_true h)];rfl
 ·rw[show eN x y=1 from by unfold eN;rw[if_neg (of_decide_eq_false h),if_pos (of_decide_eq_true h')]];rfl
 ·rw[show eN x y=0 from by unfold eN;rw[if_neg (of_decide_eq_false h),if_neg (of_decide_eq_false h')]];rfl
theorem Va(p q:tPfx.den):Conv yd sy [.d tPfx p,.d tPfx q] [] (·=some ⟨[(0,.d (.int .i64) (zE p q))],[]⟩):=by
 refine aC (tbl:=yd) (c:=jN) (by kernel_rfl) rfl (λO n=>C0 O n p q) ?_
 unfold sq
 refine ak (cf (b:=(p.1==q.1)&&decide (p.2.1<q.2.1)) (λ_=>ak (bX (b:=decide (p.2.1<q.2.1)) (λ_=>aa rfl) (aa rfl))) ?_)
 have he:(false ^^ qc (pr [tW,tI]) p q)=((p.1==q.1)&&(p.2.1==q.2.1)):=by
  show(false ^^ ((p.1==q.1)&&((p.2.1==q.2.1)&&true)))=_
  simp
 rw[he]
 refine ap (λh=>aa ?_) λh=>ap (λh'=>aa ?_) λh'=>aa ?_
 ·rw[show zE p q= -1 from VE p.1 q.1 p.2.1 q.2.1 h];rfl
 ·rw[show zE p q=0 from VC p.1 q.1 p.2.1 q.2.1 h'];rfl
 ·rw[show zE p q=1 from VD p.1 q.1 p.2.1 q.2.1 h h'];rfl
theorem xA{W:World}(hG:GT W){N:Nat}{ars:List V}{vs:List Value}{c:Int}(hl:vs.length=ars.length)(hrel:∀(i:Nat) (v:Value) (x:AV),vs[i]? =some v->(ars.map aV)[i]? =some x->RelA [] (λb=>b<W.heap.size) W v x)
 (hC:Conv yd N ars [] (·=some ⟨[(0,.d (.int .i64) c)],[]⟩)):Calls Tryz.prog (N%10000) vs.toArray W λe W'=>e= .returned (.int .i64 c)/\Below W.heap.size W W':=by
 obtain⟨o,rfl,hA⟩:=C8 zjh V1 hC
 refine(hA W [] (λb=>b<W.heap.size) vs (GW.of hG) ⟨rfl,λb h=>h,λi j li lj g hi=>(by simp at hi),λi l g hi=>(by simp at hi),λi l o hi=>(by simp at hi)⟩ (by rw[f_,hl]) hrel).mono λe W' hb=>?_
 rcases hb with⟨v,r,os',θ',D',h1,h2,h3,_,h5,_⟩|⟨ch,_,_,h2,_⟩
 ·have h6:some (r,os')=some (.b (.pv (.sc (.int .i64 c))),[]):=h2
  simp only[B_,Prod.mk.injEq]at h6
  rw[h6.1]at h3
  have h7:RelP D' W' v (.sc (.int .i64 c)):=h3
  cases h7
  refine⟨h1,h5.os,h5.tape,h5.output,h5.size,λk hk=>h5.block k hk ?_⟩
  rintro⟨i,l,hi,_⟩
  simp at hi
 ·cases h2
theorem Nh{W:World}(hG:GT W)(n:Nat)(x y:Int):CallsIn Fence.wide n Tryz.prog 150 #[.int .i64 x,.int .i64 y] W λe W'=>e= .returned (.int .i64 (eN x y))/\Below W.heap.size W W':=
 callsIn_wide.2 (xA hG (vs:=[.int .i64 x,.int .i64 y]) rfl (λi v a hv ha=>by
  match i,hv,ha with
  |0,hv,ha=>cases hv;cases ha;exact .sc _
  |1,hv,ha=>cases hv;cases ha;exact .sc _) (Nl x y))
theorem K9{W:World}(hG:GT W)(n:Nat)(x y:Int):CallsIn Fence.wide n Tryz.prog 174 #[.int .u32 x,.int .u32 y] W λe W'=>e= .returned (.int .i64 (eN x y))/\Below W.heap.size W W':=
 callsIn_wide.2 (xA hG (vs:=[.int .u32 x,.int .u32 y]) rfl (λi v a hv ha=>by
  match i,hv,ha with
  |0,hv,ha=>cases hv;cases ha;exact .sc _
  |1,hv,ha=>cases hv;cases ha;exact .sc _) (DK x y))
theorem P6{W:World}(hG:GT W)(n:Nat)(x y:Int):CallsIn Fence.wide n Tryz.prog 175 #[.int .u32 x,.int .u32 y] W λe W'=>e= .returned (.int .i64 (eN x y))/\Below W.heap.size W W':=
 callsIn_wide.2 (xA hG (vs:=[.int .u32 x,.int .u32 y]) rfl (λi v a hv ha=>by
  match i,hv,ha with
  |0,hv,ha=>cases hv;cases ha;exact .sc _
  |1,hv,ha=>cases hv;cases ha;exact .sc _) (Hm x y))
theorem P0{D:Nat->Prop}{W:World}(p:tPfx.den):RelP D W (.agg #[.int .u32 p.1,.int .i64 p.2.1]) (aG tPfx p):=by
 refine .agg _ _ rfl λi v x hv hx=>?_
 match i,hv,hx with
 |0,hv,hx=>cases hv;cases hx;exact .sc _
 |1,hv,hx=>cases hv;cases hx;exact .sc _
theorem U7{W:World}(hG:GT W)(n:Nat)(p q:tPfx.den):CallsIn Fence.wide n Tryz.prog 149 #[.agg #[.int .u32 p.1,.int .i64 p.2.1],.agg #[.int .u32 q.1,.int .i64 q.2.1]] W λe W'=>e= .returned (.int .i64 (zE p q))/\Below W.heap.size W W':=
 callsIn_wide.2 (xA hG (vs:=[.agg #[.int .u32 p.1,.int .i64 p.2.1],.agg #[.int .u32 q.1,.int .i64 q.2.1]]) rfl (λi v a hv ha=>by
  match i,hv,ha with
  |0,hv,ha=>cases hv;cases ha;exact P0 p
  |1,hv,ha=>cases hv;cases ha;exact P0 q) (Va p q))
theorem Dc{W:World}{B:Nat}{v:Value}{t:TypeId}(h:W.heap[B]? =some (.cells #[v] t (0,0))):W.cell? ⟨B,0,none⟩=some v/\W.frozen? ⟨B,0,none⟩=false:=by
 constructor<;>simp[World.cell?,World.frozen?,h]
theorem below_grown{w w':World}(h:Below w.heap.size w w')(row:Option Nat):w.grownBy w' row:=⟨h.os,h.tape,h.output,h.size,λk hk _=>h.block k hk⟩
set_option maxRecDepth 100000 in
set_option maxHeartbeats 2000000 in
theorem LP(n:Nat)(L:List Int)(gf:Nat)(lb:Array Value)(w:World)(N:Nat)(eg:∀args w,(callFunc gf args).run Tryz.prog w= .ok (.enter gf args) w)
 (hseq:∀n,SeqStopsK Fence.wide n Tryz.prog gf lb (λx:Int=> #[.int .i64 x]) (λX Y=>Below w.heap.size X Y) (·=L) (·<+:L) N w):
 CallsIn Fence.wide (n+2) Tryz.prog 147 #[.func (.func gf) #[] lb] w λe W'=>e= .returned (.int .i64 (eC L))/\Below w.heap.size w W':=by
 refine callsIn_of_wp_marks Tryz.func147 rfl trivial ?_ rfl
 simp only[Tryz.ntmps147,m_,n_,o_,p_,q_,g_,h_,l_,i_,k_,c_]
 gi_wp2
 obtain⟨W0,hW0⟩:∃W0,w.alloc (.cells #[.int .i64 0] 3)=W0:=⟨_,rfl⟩
 have hs0:W0.heap.size=w.heap.size+1:=by rw[<-hW0];simp
 have hB0:W0.heap[w.heap.size]? =some (.cells #[.int .i64 0] 3 (0,0)):=by rw[<-hW0];exact World.alloc_heap_new w _
 have hb0:Below w.heap.size w W0:=by rw[<-hW0];exact(Below.refl _ w).alloc (b_ _) _
 rw[hW0]
 refine wpIn_rangeFunc_ownF rfl (by omega) (gf:=gf) (lb:=lb) rfl trivial eg (hseq _) (λh k=>h.trans k) (λW l o o' hl h _ _=>belowK_b (by omega) W l o o' hl h ‹_› ‹_›) hb0 (λ_=>rfl)
  (λpre W=>eC pre=0/\W.cell? ⟨w.heap.size,0,none⟩=some (.int .i64 0)/\W.frozen? ⟨w.heap.size,0,none⟩=false/\Below w.heap.size w W)
  (λc pre W=>c= .ret/\∃r,eC pre=r/\r≠0/\W.cell? ⟨w.heap.size,0,none⟩=some (.int .i64 r)/\Below w.heap.size w W)
  ?hI ?hIx ⟨rfl,(Dc hB0).1,(Dc hB0).2,hb0⟩
  (λx=>{tmps:= #[.func (.func gf) #[] lb,undef,.pointer (some ⟨w.heap.size,0,none⟩),.int .i64 x,.func (.func gf) #[] lb,.int .i64 x,undef,undef,undef],defers:=[]}) ?assign ?body ?done ?stop
 case hI=>
  intro s A B row hs hg hr
  exact⟨hs.1,cell_kept hs.2.1 hg (λr e=>(hr r e).2),(frozen_kept hs.2.1 hg (λr e=>(hr r e).2)).trans hs.2.2.1,ownFrom_below (β:=Unit) (b_ _) (by omega) () A B row hs.2.2.2 hg hr⟩
 case hIx=>
  rintro c s A B row ⟨h1,r,h2,h3,h4,h5⟩ hg hr
  exact⟨h1,r,h2,h3,cell_kept h4 hg (λr e=>(hr r e).2),ownFrom_below (β:=Unit) (b_ _) (by omega) () A B row h5 hg hr⟩
 case assign=>
  intro l x W K hK
  gi_wp2_with (rw[Oper.semAt_eq _ _ _ (λc h=>by cases h)];go_simp;try go_bits)
  exact hK
 case body=>
  rintro l pre x W ⟨hp,hcr,hfr,hbe⟩ _
  gi_wp2_with (rw[Oper.semAt_eq _ _ _ (λc h=>by cases h)];go_simp;try go_bits)
  ·skip
   rename_i hx
   have hx:x≠0:=by simpa using hx
   exact⟨KeepsOthers.setCell _ _ _,rfl,x,Dj hp,hx,World.cell?_setCell_same' _ _ _ (by rw[hcr];rfl),hbe.setCell (b_ _) _⟩
  ·rename_i hx
   have hx:x=0:=by simpa using hx
   subst hx
   exact⟨KeepsOthers.refl _,Below.refl _ _,Dj hp,hcr,hfr,hbe⟩
 case done=>
  rintro D xs W hD hS ⟨hp,hcr,hfr,hbe⟩ hK
  obtain rfl:xs=L:=hS
  gi_wp2
  have hK':=(KeepsOthers.setCell W ⟨w.heap.size,0,none⟩ (.int .i64 0)).same D _ hK rfl
  have hb2:=hbe.setCell (p:=⟨w.heap.size,0,none⟩) (b_ _) (.int .i64 0)
  have hDs:=(d_.1 hK').1
  have hs2:=hb2.size
  refine⟨by simp,.inl ⟨_,_,rfl,run_takeDeferred hK',?_⟩⟩
  have hc5:=cell_kept (World.cell?_setCell_same' W ⟨w.heap.size,0,none⟩ (.int .i64 0) (by rw[hcr];rfl)) (grownBy_putObj' _ D (.deferred none)) (λr e=>by cases e;exact⟨_,hK',rfl⟩)
  refine⟨.int .i64 0,?_,by rw[hp],hb2.grown (grownBy_putObj' _ D (.deferred none)) (by omega) (λk e=>by cases e;omega)⟩
  simp[results,Tryz.f147,go_sem,hc5]
 case stop=>
  rintro D c pre W hD hS ⟨rfl,r,hr,hr0,hcr,hbe⟩ hK
  gi_wp2
  have hDs:=(d_.1 hK).1
  have hs2:=hbe.size
  refine⟨by simp,.inl ⟨_,_,rfl,run_takeDeferred hK,?_⟩⟩
  have hc5:=cell_kept hcr (grownBy_putObj' _ D (.deferred none)) (λr e=>by cases e;exact⟨_,hK,rfl⟩)
  refine⟨.int .i64 r,?_,by rw[NQ hS (by rw[hr];exact hr0),hr],hbe.grown (grownBy_putObj' _ D (.deferred none)) (by omega) (λk e=>by cases e;omega)⟩
  simp[results,Tryz.f147,go_sem,hc5]
def IL(A:Nat)(a:tRoute.den)(W:World):Prop:=W.cell? ⟨A,0,none⟩=some (.int .u32 a.1.1)/\W.cell? ⟨A,1,none⟩=some (.int .i64 a.1.2.1)/\W.cell? ⟨A,2,none⟩=some (.int .i64 a.2.1)/\W.cell? ⟨A,3,none⟩=some (.int .i64 a.2.2.1)
def IM(A:Nat)(a:tHop.den)(W:World):Prop:=W.cell? ⟨A,0,none⟩=some (.int .u32 a.1)/\W.cell? ⟨A,1,none⟩=some (.int .i64 a.2.1)/\W.cell? ⟨A,2,none⟩=some (.int .u32 a.2.2.1)/\True
set_option maxRecDepth 100000 in
set_option maxHeartbeats 4000000 in
theorem UJ(n:Nat)(A B:Nat)(a b:tRoute.den)(w:World)(hG:GT w)
 (hc:∀W,Below w.heap.size w W->IL A a W/\IL B b W):
 SeqStopsK Fence.wide n Tryz.prog 148 #[.pointer (some ⟨A,0,none⟩),.pointer (some ⟨B,0,none⟩)] (λx:Int=> #[.int .i64 x]) (λX Y=>Below w.heap.size X Y) (·=Mp a b) (·<+:Mp a b) 3 w:=by
 intro l J Jx W hW hJ hJx hY h0
 refine callsIn_of_wp Tryz.func148 rfl trivial ?_ rfl
 simp only[Tryz.ntmps148,m_,n_,o_,p_,q_,g_,h_,l_,i_,k_,c_]
 have hGW:GT W:=hG.below hW
 obtain⟨⟨hA0,hA1,hA2,hA3⟩,hB0,hB1,hB2,hB3⟩:=hc W hW
 gi_wp2
 refine⟨trivial,λh=>(by cases h),(U7 hGW _ _ _).mono ?_⟩
 rintro e W1 ⟨rfl,hb1⟩
 have hbW1:Below w.heap.size w W1:=hW.trans (hb1.mono hW.size)
 have hJ1:=hJ [] W W1 none h0 (below_grown hb1 _) (λr e=>by cases e)
 obtain⟨fn1,tmps1,assign1,body1,hy1,hR1⟩:=hY [] (zE a.1 b.1) W1 hJ1 (by simp)
 clear hA0 hA1 hA2 hA3 hB0 hB1 hB2 hB3 hGW
 gi_wp2
 refine⟨λh=>(by cases h),hR1.mono ?_⟩
 rintro e W2 (⟨rfl,hJ2,hk2⟩|⟨rfl,hx2⟩)
 ·have hbW2:Below w.heap.size w W2:=hbW1.trans hk2
  have hGW:GT W2:=hG.below hbW2
  obtain⟨⟨hA0,hA1,hA2,hA3⟩,hB0,hB1,hB2,hB3⟩:=hc W2 hbW2
  gi_wp2
  refine⟨trivial,λh=>(by cases h),(Nh hGW _ _ _).mono ?_⟩
  rintro e W3 ⟨rfl,hb3⟩
  have hbW3:Below w.heap.size w W3:=hbW2.trans (hb3.mono hbW2.size)
  have hJ3:=hJ _ W2 W3 none hJ2 (below_grown hb3 _) (λr e=>by cases e)
  obtain⟨fn3,tmps3,assign3,body3,hy3,hR3⟩:=hY _ (eN a.2.2.1 b.2.2.1) W3 hJ3 (by simp)
  clear hA0 hA1 hA2 hA3 hB0 hB1 hB2 hB3 hGW
  gi_wp2
  refine⟨λh=>(by cases h),hR3.mono ?_⟩
  rintro e W4 (⟨rfl,hJ4,hk4⟩|⟨rfl,hx4⟩)
  ·have hbW4:Below w.heap.size w W4:=hbW3.trans hk4
   have hGW:GT W4:=hG.below hbW4
   obtain⟨⟨hA0,hA1,hA2,hA3⟩,hB0,hB1,hB2,hB3⟩:=hc W4 hbW4
   gi_wp2
   refine⟨trivial,λh=>(by cases h),(Nh hGW _ _ _).mono ?_⟩
   rintro e W5 ⟨rfl,hb5⟩
   have hbW5:Below w.heap.size w W5:=hbW4.trans (hb5.mono hbW4.size)
   have hJ5:=hJ _ W4 W5 none hJ4 (below_grown hb5 _) (λr e=>by cases e)
   obtain⟨fn5,tmps5,assign5,body5,hy5,hR5⟩:=hY _ (eN a.2.1 b.2.1) W5 hJ5 (by simp)
   clear hA0 hA1 hA2 hA3 hB0 hB1 hB2 hB3 hGW
   gi_wp2
   refine⟨λh=>(by cases h),hR5.mono ?_⟩
   rintro e W6 (⟨rfl,hJ6,hk6⟩|⟨rfl,hx6⟩)
   ·gi_wp2
    go_end0
    exact⟨⟨_,rfl⟩,.inl ⟨_,rfl,hJ6⟩⟩
   ·gi_wp2
    go_end0
    exact⟨⟨_,rfl⟩,.inr ⟨_,y_,hx6⟩⟩
  ·skip
   gi_wp2
   refine⟨trivial,?_⟩
   gi_wp2
   refine⟨λ_ h=>(by cases h),?_⟩
   gi_wp2
   go_end0
   exact⟨⟨_,rfl⟩,.inr ⟨_,⟨[_],rfl⟩,hx4⟩⟩
 ·skip
  gi_wp2
  refine⟨trivial,?_⟩
  gi_wp2
  refine⟨λ_ h=>(by cases h),?_⟩
  gi_wp2
  refine⟨trivial,?_⟩
  gi_wp2
  go_end0
  exact⟨⟨_,rfl⟩,.inr ⟨_,⟨[_,_],rfl⟩,hx2⟩⟩
set_option maxRecDepth 100000 in
set_option maxHeartbeats 4000000 in
theorem UK(n:Nat)(A B:Nat)(a b:tHop.den)(w:World)(hG:GT w)
 (hc:∀W,Below w.heap.size w W->IM A a W/\IM B b W):
 SeqStopsK Fence.wide n Tryz.prog 173 #[.pointer (some ⟨A,0,none⟩),.pointer (some ⟨B,0,none⟩)] (λx:Int=> #[.int .i64 x]) (λX Y=>Below w.heap.size X Y) (·=Mo a b) (·<+:Mo a b) 3 w:=by
 intro l J Jx W hW hJ hJx hY h0
 refine callsIn_of_wp Tryz.func173 rfl trivial ?_ rfl
 simp only[Tryz.ntmps173,m_,n_,o_,p_,q_,g_,h_,l_,i_,k_,c_]
 have hGW:GT W:=hG.below hW
 obtain⟨⟨hA0,hA1,hA2,hA3⟩,hB0,hB1,hB2,hB3⟩:=hc W hW
 gi_wp2
 refine⟨trivial,λh=>(by cases h),(K9 hGW _ _ _).mono ?_⟩
 rintro e W1 ⟨rfl,hb1⟩
 have hbW1:Below w.heap.size w W1:=hW.trans (hb1.mono hW.size)
 have hJ1:=hJ [] W W1 none h0 (below_grown hb1 _) (λr e=>by cases e)
 obtain⟨fn1,tmps1,assign1,body1,hy1,hR1⟩:=hY [] (eN a.1 b.1) W1 hJ1 (by simp)
 clear hA0 hA1 hA2 hA3 hB0 hB1 hB2 hB3 hGW
 gi_wp2
 refine⟨λh=>(by cases h),hR1.mono ?_⟩
 rintro e W2 (⟨rfl,hJ2,hk2⟩|⟨rfl,hx2⟩)
 ·have hbW2:Below w.heap.size w W2:=hbW1.trans hk2
  have hGW:GT W2:=hG.below hbW2
  obtain⟨⟨hA0,hA1,hA2,hA3⟩,hB0,hB1,hB2,hB3⟩:=hc W2 hbW2
  gi_wp2
  refine⟨trivial,λh=>(by cases h),(Nh hGW _ _ _).mono ?_⟩
  rintro e W3 ⟨rfl,hb3⟩
  have hbW3:Below w.heap.size w W3:=hbW2.trans (hb3.mono hbW2.size)
  have hJ3:=hJ _ W2 W3 none hJ2 (below_grown hb3 _) (λr e=>by cases e)
  obtain⟨fn3,tmps3,assign3,body3,hy3,hR3⟩:=hY _ (eN a.2.1 b.2.1) W3 hJ3 (by simp)
  clear hA0 hA1 hA2 hA3 hB0 hB1 hB2 hB3 hGW
  gi_wp2
  refine⟨λh=>(by cases h),hR3.mono ?_⟩
  rintro e W4 (⟨rfl,hJ4,hk4⟩|⟨rfl,hx4⟩)
  ·have hbW4:Below w.heap.size w W4:=hbW3.trans hk4
   have hGW:GT W4:=hG.below hbW4
   obtain⟨⟨hA0,hA1,hA2,hA3⟩,hB0,hB1,hB2,hB3⟩:=hc W4 hbW4
   gi_wp2
   refine⟨trivial,λh=>(by cases h),(P6 hGW _ _ _).mono ?_⟩
   rintro e W5 ⟨rfl,hb5⟩
   have hbW5:Below w.heap.size w W5:=hbW4.trans (hb5.mono hbW4.size)
   have hJ5:=hJ _ W4 W5 none hJ4 (below_grown hb5 _) (λr e=>by cases e)
   obtain⟨fn5,tmps5,assign5,body5,hy5,hR5⟩:=hY _ (eN a.2.2.1 b.2.2.1) W5 hJ5 (by simp)
   clear hA0 hA1 hA2 hA3 hB0 hB1 hB2 hB3 hGW
   gi_wp2
   refine⟨λh=>(by cases h),hR5.mono ?_⟩
   rintro e W6 (⟨rfl,hJ6,hk6⟩|⟨rfl,hx6⟩)
   ·gi_wp2
    go_end0
    exact⟨⟨_,rfl⟩,.inl ⟨_,rfl,hJ6⟩⟩
   ·gi_wp2
    go_end0
    exact⟨⟨_,rfl⟩,.inr ⟨_,y_,hx6⟩⟩
  ·skip
   gi_wp2
   refine⟨trivial,?_⟩
   gi_wp2
   refine⟨λ_ h=>(by cases h),?_⟩
   gi_wp2
   go_end0
   exact⟨⟨_,rfl⟩,.inr ⟨_,⟨[_],rfl⟩,hx4⟩⟩
 ·skip
  gi_wp2
  refine⟨trivial,?_⟩
  gi_wp2
  refine⟨λ_ h=>(by cases h),?_⟩
  gi_wp2
  refine⟨trivial,?_⟩
  gi_wp2
  go_end0
  exact⟨⟨_,rfl⟩,.inr ⟨_,⟨[_,_],rfl⟩,hx2⟩⟩
set_option maxRecDepth 100000 in
set_option maxHeartbeats 4000000 in
theorem Ua(a b:tRoute.den)(x1 x2:Option Addr)(n1 c1 n2 c2:Nat)(w:World)(hG:GT w):
 Calls Tryz.prog 115 #[.agg #[.int .u32 a.1.1,.int .i64 a.1.2.1,.int .i64 a.2.1,.int .i64 a.2.2.1,.int .i64 a.2.2.2.1,.int .i64 a.2.2.2.2.1,.slice x1 n1 c1],.agg #[.int .u32 b.1.1,.int .i64 b.1.2.1,.int .i64 b.2.1,.int .i64 b.2.2.1,.int .i64 b.2.2.2.1,.int .i64 b.2.2.2.2.1,.slice x2 n2 c2]] w λe W'=>e= .returned (.int .i64 (eC (Mp a b)))/\Below w.heap.size w W':=by
 refine(callsIn_wide (n:=5)).1 (callsIn_of_wp Tryz.func115 rfl trivial ?_ rfl)
 simp only[Tryz.ntmps115,m_,n_,o_,p_,q_,g_,h_,l_,i_,k_,c_]
 gi_wp2
 generalize ec1:Obj.cells _ _ _=o1
 generalize ec2:Obj.cells _ _ _=o2
 have hb1:Below w.heap.size w ((w.alloc o1).alloc o2):=((Below.refl _ w).alloc (b_ _) _).alloc (by simp) _
 have hs1:((w.alloc o1).alloc o2).heap.size=w.heap.size+2:=by simp
 have hA:((w.alloc o1).alloc o2).heap[w.heap.size]? =some o1:=(Below.heap_alloc _ _ _ (by simp)).trans (World.alloc_heap_new w _)
 have hB:((w.alloc o1).alloc o2).heap[w.heap.size+1]? =some o2:=by have:=World.alloc_heap_new (w.alloc o1) o2;rwa [World.size_alloc]at this
 generalize(w.alloc o1).alloc o2=w2 at*
 refine⟨trivial,(LP 2 (Mp a b) 148 _ w2 3 (enters_of Tryz.func148 (by kernel_rfl) rfl) (λn=>UJ n w.heap.size (w.heap.size+1) a b w2 (hG.below hb1) λW hW=>?_)).mono ?_⟩
 ·have hA':W.heap[w.heap.size]? =some o1:=(hW.block _ (by omega)).trans hA
  have hB':W.heap[w.heap.size+1]? =some o2:=(hW.block _ (by omega)).trans hB
  subst ec1
  subst ec2
  refine⟨⟨?_,?_,?_,?_⟩,?_,?_,?_,?_⟩
  all_goals first|trivial|(simp[World.cell?,hA',hB'])
 ·rintro e W' ⟨rfl,hb⟩
  gi_wp2
  go_ret
  exact⟨rfl,hb1.trans (hb.mono (by omega))⟩
set_option maxRecDepth 100000 in
set_option maxHeartbeats 4000000 in
theorem Ub(a b:tHop.den)(w:World)(hG:GT w):
 Calls Tryz.prog 146 #[.agg #[.int .u32 a.1,.int .i64 a.2.1,.int .u32 a.2.2.1,.int .i64 a.2.2.2.1,.int .u32 a.2.2.2.2.1.1,.int .i64 a.2.2.2.2.1.2.1],.agg #[.int .u32 b.1,.int .i64 b.2.1,.int .u32 b.2.2.1,.int .i64 b.2.2.2.1,.int .u32 b.2.2.2.2.1.1,.int .i64 b.2.2.2.2.1.2.1]] w λe W'=>e= .returned (.int .i64 (eC (Mo a b)))/\Below w.heap.size w W':=by
 refine(callsIn_wide (n:=5)).1 (callsIn_of_wp Tryz.func146 rfl trivial ?_ rfl)
 simp only[Tryz.ntmps146,m_,n_,o_,p_,q_,g_,h_,l_,i_,k_,c_]
 gi_wp2
 generalize ec1:Obj.cells _ _ _=o1
 generalize ec2:Obj.cells _ _ _=o2
 have hb1:Below w.heap.size w ((w.alloc o1).alloc o2):=((Below.refl _ w).alloc (b_ _) _).alloc (by simp) _
 have hs1:((w.alloc o1).alloc o2).heap.size=w.heap.size+2:=by simp
 have hA:((w.alloc o1).alloc o2).heap[w.heap.size]? =some o1:=(Below.heap_alloc _ _ _ (by simp)).trans (World.alloc_heap_new w _)
 have hB:((w.alloc o1).alloc o2).heap[w.heap.size+1]? =some o2:=by have:=World.alloc_heap_new (w.alloc o1) o2;rwa [World.size_alloc]at this
 generalize(w.alloc o1).alloc o2=w2 at*
 refine⟨trivial,(LP 2 (Mo a b) 173 _ w2 3 (enters_of Tryz.func173 (by kernel_rfl) rfl) (λn=>UK n w.heap.size (w.heap.size+1) a b w2 (hG.below hb1) λW hW=>?_)).mono ?_⟩
 ·have hA':W.heap[w.heap.size]? =some o1:=(hW.block _ (by omega)).trans hA
  have hB':W.heap[w.heap.size+1]? =some o2:=(hW.block _ (by omega)).trans hB
  subst ec1
  subst ec2
  refine⟨⟨?_,?_,?_,?_⟩,?_,?_,?_,?_⟩
  all_goals first|trivial|(simp[World.cell?,hA',hB'])
 ·rintro e W' ⟨rfl,hb⟩
  gi_wp2
  go_ret
  exact⟨rfl,hb1.trans (hb.mono (by omega))⟩
theorem Pj{D:Nat->Prop}{w:World}{v:Value}{xs:List PV}(h:RelP D w v (.agg xs)):∃l:List Value,v= .agg l.toArray/\l.length=xs.length/\∀(i:Nat) (v:Value) (x:PV),l[i]? =some v->xs[i]? =some x->RelP D w v x:=by
 cases h with
 |agg vs xs hs hh=>
  obtain⟨l⟩:=vs
  exact⟨l,rfl,by simpa using hs,λi v x hv hx=>hh i v x (by simpa using hv) hx⟩
theorem Un{D:Nat->Prop}{w:World}{v:Value}{sz:Nat}{xs:List PV}(h:RelP D w v (lh sz xs)):∃(x:Option Addr) (n c:Nat),v= .slice x n c:=by
 cases xs with
 |nil=>have h:RelP D w v (.list 0 []):=h;cases h;exact⟨_,_,_,rfl⟩
 |cons y ys=>have h:RelP D w v (.list sz (y::ys)):=h;cases h;exact⟨_,_,_,rfl⟩
theorem Qr(a:tRoute.den):aG tRoute a= .agg [.sc (.int .u32 a.1.1),.sc (.int .i64 a.1.2.1),.sc (.int .i64 a.2.1),.sc (.int .i64 a.2.2.1),.sc (.int .i64 a.2.2.2.1),.sc (.int .i64 a.2.2.2.2.1),lh tHop.sz (a.2.2.2.2.2.1.map (aG tHop))]:=by
 obtain⟨p,i1,i2,i3,i4,hops,u⟩:=a
 cases hops<;>rfl
theorem IY{D:Nat->Prop}{w:World}{v:Value}(a:tRoute.den)(h:RelP D w v (aG tRoute a)):∃(x:Option Addr) (n c:Nat),v= .agg #[.int .u32 a.1.1,.int .i64 a.1.2.1,.int .i64 a.2.1,.int .i64 a.2.2.1,.int .i64 a.2.2.2.1,.int .i64 a.2.2.2.2.1,.slice x n c]:=by
 rw[Qr]at h
 obtain⟨l,rfl,hl,hh⟩:=Pj h
 match l,hl,hh with
 |[v0,v1,v2,v3,v4,v5,v6],_,hh=>
  have h0:=hh 0 _ _ rfl rfl
  have h1:=hh 1 _ _ rfl rfl
  have h2:=hh 2 _ _ rfl rfl
  have h3:=hh 3 _ _ rfl rfl
  have h4:=hh 4 _ _ rfl rfl
  have h5:=hh 5 _ _ rfl rfl
  have h6:=hh 6 _ _ rfl rfl
  cases h0;cases h1;cases h2;cases h3;cases h4;cases h5
  obtain⟨x,n,c,rfl⟩:=Un h6
  exact⟨x,n,c,rfl⟩
theorem Pk{D:Nat->Prop}{w:World}{v:Value}(a:tHop.den)(h:RelP D w v (aG tHop a)):v= .agg #[.int .u32 a.1,.int .i64 a.2.1,.int .u32 a.2.2.1,.int .i64 a.2.2.2.1,.int .u32 a.2.2.2.2.1.1,.int .i64 a.2.2.2.2.1.2.1]:=by
 have h:RelP D w v (.agg [.sc (.int .u32 a.1),.sc (.int .i64 a.2.1),.sc (.int .u32 a.2.2.1),.sc (.int .i64 a.2.2.2.1),.sc (.int .u32 a.2.2.2.2.1.1),.sc (.int .i64 a.2.2.2.2.1.2.1)]):=h
 obtain⟨l,rfl,hl,hh⟩:=Pj h
 match l,hl,hh with
 |[v0,v1,v2,v3,v4,v5],_,hh=>
  have h0:=hh 0 _ _ rfl rfl
  have h1:=hh 1 _ _ rfl rfl
  have h2:=hh 2 _ _ rfl rfl
  have h3:=hh 3 _ _ rfl rfl
  have h4:=hh 4 _ _ rfl rfl
  have h5:=hh 5 _ _ rfl rfl
  cases h0;cases h1;cases h2;cases h3;cases h4;cases h5
  rfl
theorem D8:EU Tryz.prog 115 rU:=by
 intro ars s hs
 unfold rU at hs
 split at hs
 ·rename_i a b
  cases hs
  refine tp λw D vs hG hl hvs=>?_
  match vs,hl,hvs with
  |[v0,v1],_,hvs=>
   obtain⟨x1,n1,c1,rfl⟩:=IY a (hvs 0 v0 _ rfl rfl)
   obtain⟨x2,n2,c2,rfl⟩:=IY b (hvs 1 v1 _ rfl rfl)
   exact(Ua a b x1 x2 n1 c1 n2 c2 w hG).mono λe w' ⟨he,hb⟩=>⟨_,he,.sc _,hb⟩
 ·cases hs
theorem xV:EU Tryz.prog 146 xt:=by
 intro ars s hs
 unfold xt at hs
 split at hs
 ·rename_i a b
  cases hs
  refine tp λw D vs hG hl hvs=>?_
  match vs,hl,hvs with
  |[v0,v1],_,hvs=>
   cases Pk a (hvs 0 v0 _ rfl rfl)
   cases Pk b (hvs 1 v1 _ rfl rfl)
   exact(Ub a b w hG).mono λe w' ⟨he,hb⟩=>⟨_,he,.sc _,hb⟩
 ·cases hs
set_option maxHeartbeats 2000000 in
set_option maxRecDepth 100000 in
theorem R4(ad:Addr)(n c:Nat)(news:List Value)(w:World)(hl:news.length=n)(hbig:n*4<=140737488355328)
 (hc:∀j u,news[j]? =some u->w.cell? (ad.add j)=some u) (h1:∀u∈news,u.oneCell'=true):
 Calls Tryz.prog 70 #[.slice (some ad) n c] w λe w'=>∃v',e= .returned v'/\w'.ownsRow w.heap.size 29 1 v' n news/\Below w.heap.size w w':=by
 have mixed:Tryz.prog.follows .mixedOrders=true:=zjh
 have t22:Tryz.prog.underlying 42=some (.slice 29):=by kernel_rfl
 have q22:∀(w:World) (a:Option Addr) (n c n' c':Nat),(binOp .eql 42 (.slice a n c) (.slice none n' c')).run Tryz.prog w= .ok (.bool a.isNone) w:=λw a n c n' c'=>Lib.run_eql_slice_nil w _ _ a n c n' c' t22
 have u22:∀w,Sem.run Tryz.prog (underlying 42) w= .ok (TypeDesc.slice 29) w:=run_underlying t22
 obtain⟨i0,hi,hz0,hz1,hz2⟩:=info_parts (P:=Tryz.prog) (e:=29) (z:=.int .u32 0) (size:=1) (bytes:=4) (by kernel_rfl)
 have A:Aside (∀j u,news[j]? =some u->w.cell? (ad.add j)=some u):=hc
 clear hc
 go_enter Tryz.func70,Tryz.ntmps70
 go_wp2_with (at_builtin;refine wpList_append_own _ rfl _ _ 42 rfl w.heap.size 29 i0 (.int .u32 0) 1 4 t22 hi hz0 hz1 hz2 rfl (by decide) _ _ _ rfl (World.ownsRow_made w #[] 0 (b_ _) (A_ _) (by simp)) ad n c news rfl ?qc1 ?qc2 ?qc3 ?qc4 ?qc5 ?qc6 ?_)
 case qc1=>omega
 case qc2=>
  intro j u hj
  exact Lib.cell?_alloc_some _ (A.out j u hj)
 case qc3=>exact h1
 case qc4=>rw[t_];unfold maxLen;omega
 case qc5=>rw[t_];exact hbig
 case qc6=>simp
 intro v' w1 hown hgrow hnil
 go_wp2
 go_ret
 refine⟨v',rfl,by simpa using hown,?_⟩
 exact((Below.refl _ w).alloc (b_ _) _).grown hgrow (by simp) (by intro k hk;simp[Value.ownBlock]at hk;omega)
theorem Qk(n c:Nat)(w:World):Calls Tryz.prog 70 #[.slice none n c] w λe w'=>e= .returned (.slice none 0 0)/\w'=w:=by
 have mixed:Tryz.prog.follows .mixedOrders=true:=zjh
 have t22:Tryz.prog.underlying 42=some (.slice 29):=by kernel_rfl
 have q22:∀(w:World) (a:Option Addr) (n c n' c':Nat),(binOp .eql 42 (.slice a n c) (.slice none n' c')).run Tryz.prog w= .ok (.bool a.isNone) w:=λw a n c n' c'=>Lib.run_eql_slice_nil w _ _ a n c n' c' t22
 go_enter Tryz.func70,Tryz.ntmps70
 go_wp2
 go_ret
 exact⟨rfl,rfl⟩
theorem nE:EU Tryz.prog 70 xq:=by
 intro ars s hs
 unfold xq at hs
 split at hs
 ·rename_i xs
  obtain⟨h1,h2⟩:=aR hs
  cases h2
  have h1:=of_decide_eq_true h1
  intro w θ D vs hG hok hl hvs
  have hθ:θ=[]:=r_ hok.len
  subst hθ
  match vs,hl,hvs with
  |[v],_,hvs=>
   obtain⟨a,cap,rfl,hcap,hc⟩:=mX (show RelP D w v (lh 1 (xs.map (aG (.int .u32))))from hvs 0 v _ rfl rfl)
   rw[f_]at hcap hc⊢
   have back:∀(v':Value) (w':World),w'.ownsRow w.heap.size 29 1 v' xs.length (xs.map (Value.int .u32))->Below w.heap.size w w'->Back [] D w (λo=>o=some (.b (.pv (lh 1 (xs.map (aG (.int .u32))))),[])) (.returned v') w':=by
    intro v' w' hown hb
    refine .inl ⟨v',_,[],[],λb=>D b\/(w.heap.size<=b/\b<w'.heap.size),rfl,rfl,?_,⟨rfl,λb hd=>?_,λi j li lj g hi=>(by simp at hi),λi l g hi=>(by simp at hi),λi l o hi=>(by simp at hi)⟩,.of_below hb,λ_ h=>.inl h,λ_ h=>h.elim .inl λh=>.inr (.inr h.1),λi l g hi=>(by simp at hi),λk l hk=>(by simp at hk),b_ _⟩
    ·show RelP _ w' v' (lh 1 (xs.map (aG (.int .u32))))
     rcases hown.2 with⟨rfl,h0⟩|⟨g,cap',cur,rfl,hbg,hg,hcap',_,hcs,htk⟩
     ·cases xs with
      |nil=>exact .nil _ _
      |cons y ys=>cases h0
     ·have:=eM (D:=λb=>D b\/(w.heap.size<=b/\b<w'.heap.size)) (w:=w') (sz:=1) (xs:=xs.map (aG (.int .u32))) (a:=some ⟨g,0,none⟩) (cap:=cap') (by rw[f_];exact hcap') (λ_=>⟨g,0,rfl,.inr ⟨hbg,(d_.1 hg).1⟩,λx hx=>by obtain⟨y,_,rfl⟩:=s_.1 hx;rfl,λi j x y hx hy=>?_⟩)
      ·rwa [f_]at this
      ·rw[a_]at hx
       obtain⟨x0,hx0,rfl⟩:=j_.1 hx
       have hy:[PV.sc (.int .u32 x0)][j]? =some y:=hy
       match j,hy with
       |0,hy=>
        cases hy
        refine⟨.int .u32 x0,?_,.sc _⟩
        have hi:i<xs.length:=(e_.1 hx0).1
        have e1:cur.toList[i]? =some (.int .u32 x0):=by
         have e2:(cur.toList.take (xs.length*1))[i]? =some (.int .u32 x0):=by rw[htk,a_,hx0];rfl
         rw[v_]at e2
         split at e2
         ·exact e2
         ·cases e2
        rw[u_]at e1
        simp only[World.cell?,hg]
        simpa using e1
    ·rcases hd with hd|hd
     ·exact w_ (hok.dlt b hd) hb.size
     ·exact hd.2
   cases a with
   |none=>
    have h0:xs=[]:=by
     cases xs with
     |nil=>rfl
     |cons y ys=>obtain⟨b,o,h,_⟩:=hc (z_ _);cases h
    subst h0
    exact(Qk _ _ w).mono λe w' ⟨he,hw⟩=>by
     subst he
     subst hw
     exact back _ _ ⟨rfl,.inl ⟨rfl,rfl⟩⟩ (.refl _ _)
   |some ad=>
    refine(R4 ad xs.length cap (xs.map (Value.int .u32)) w (by simp) h1 (λj u hj=>?_) (λu hu=>by obtain⟨x,_,rfl⟩:=s_.1 hu;rfl)).mono λe w' ⟨v',he,hown,hb⟩=>by subst he;exact back v' w' hown hb
    rw[a_]at hj
    obtain⟨x0,hx0,rfl⟩:=j_.1 hj
    have hj':j<xs.length:=(e_.1 hx0).1
    obtain⟨b,o,hao,_,_,hcc⟩:=hc (by omega)
    cases hao
    obtain⟨u',hu,hr⟩:=hcc j 0 (.sc (.int .u32 x0)) (.sc (.int .u32 x0)) (by rw[a_,hx0];rfl) rfl
    cases hr
    rw[Addr.add_lit]
    simpa using hu
 ·cases hs
set_option maxHeartbeats 2000000 in
set_option maxRecDepth 100000 in
theorem R5(ad:Addr)(n c:Nat)(news:List Value)(w:World)(hl:news.length=n)(hbig:n*8<=140737488355328)
 (hc:∀j u,news[j]? =some u->w.cell? (ad.add j)=some u) (h1:∀u∈news,u.oneCell'=true):
 Calls Tryz.prog 71 #[.slice (some ad) n c] w λe w'=>∃v',e= .returned v'/\w'.ownsRow w.heap.size 3 1 v' n news/\Below w.heap.size w w':=by
 have mixed:Tryz.prog.follows .mixedOrders=true:=zjh
 have t22:Tryz.prog.underlying 41=some (.slice 3):=by kernel_rfl
 have q22:∀(w:World) (a:Option Addr) (n c n' c':Nat),(binOp .eql 41 (.slice a n c) (.slice none n' c')).run Tryz.prog w= .ok (.bool a.isNone) w:=λw a n c n' c'=>Lib.run_eql_slice_nil w _ _ a n c n' c' t22
 have u22:∀w,Sem.run Tryz.prog (underlying 41) w= .ok (TypeDesc.slice 3) w:=run_underlying t22
 obtain⟨i0,hi,hz0,hz1,hz2⟩:=info_parts (P:=Tryz.prog) (e:=3) (z:=.int .i64 0) (size:=1) (bytes:=8) (by kernel_rfl)
 have A:Aside (∀j u,news[j]? =some u->w.cell? (ad.add j)=some u):=hc
 clear hc
 go_enter Tryz.func71,Tryz.ntmps71
 go_wp2_with (at_builtin;refine wpList_append_own _ rfl _ _ 41 rfl w.heap.size 3 i0 (.int .i64 0) 1 8 t22 hi hz0 hz1 hz2 rfl (by decide) _ _ _ rfl (World.ownsRow_made w #[] 0 (b_ _) (A_ _) (by simp)) ad n c news rfl ?qc1 ?qc2 ?qc3 ?qc4 ?qc5 ?qc6 ?_)
 case qc1=>omega
 case qc2=>
  intro j u hj
  exact Lib.cell?_alloc_some _ (A.out j u hj)
 case qc3=>exact h1
 case qc4=>rw[t_];unfold maxLen;omega
 case qc5=>rw[t_];exact hbig
 case qc6=>simp
 intro v' w1 hown hgrow hnil
 go_wp2
 go_ret
 refine⟨v',rfl,by simpa using hown,?_⟩
 exact((Below.refl _ w).alloc (b_ _) _).grown hgrow (by simp) (by intro k hk;simp[Value.ownBlock]at hk;omega)
theorem Ql(n c:Nat)(w:World):Calls Tryz.prog 71 #[.slice none n c] w λe w'=>e= .returned (.slice none 0 0)/\w'=w:=by
 have mixed:Tryz.prog.follows .mixedOrders=true:=zjh
 have t22:Tryz.prog.underlying 41=some (.slice 3):=by kernel_rfl
 have q22:∀(w:World) (a:Option Addr) (n c n' c':Nat),(binOp .eql 41 (.slice a n c) (.slice none n' c')).run Tryz.prog w= .ok (.bool a.isNone) w:=λw a n c n' c'=>Lib.run_eql_slice_nil w _ _ a n c n' c' t22
 go_enter Tryz.func71,Tryz.ntmps71
 go_wp2
 go_ret
 exact⟨rfl,rfl⟩
theorem sd:EU Tryz.prog 71 xp:=by
 intro ars s hs
 unfold xp at hs
 split at hs
 ·rename_i xs
  obtain⟨h1,h2⟩:=aR hs
  cases h2
  have h1:=of_decide_eq_true h1
  intro w θ D vs hG hok hl hvs
  have hθ:θ=[]:=r_ hok.len
  subst hθ
  match vs,hl,hvs with
  |[v],_,hvs=>
   obtain⟨a,cap,rfl,hcap,hc⟩:=mX (show RelP D w v (lh 1 (xs.map (aG (.int .i64))))from hvs 0 v _ rfl rfl)
   rw[f_]at hcap hc⊢
   have back:∀(v':Value) (w':World),w'.ownsRow w.heap.size 3 1 v' xs.length (xs.map (Value.int .i64))->Below w.heap.size w w'->Back [] D w (λo=>o=some (.b (.pv (lh 1 (xs.map (aG (.int .i64))))),[])) (.returned v') w':=by
    intro v' w' hown hb
    refine .inl ⟨v',_,[],[],λb=>D b\/(w.heap.size<=b/\b<w'.heap.size),rfl,rfl,?_,⟨rfl,λb hd=>?_,λi j li lj g hi=>(by simp at hi),λi l g hi=>(by simp at hi),λi l o hi=>(by simp at hi)⟩,.of_below hb,λ_ h=>.inl h,λ_ h=>h.elim .inl λh=>.inr (.inr h.1),λi l g hi=>(by simp at hi),λk l hk=>(by simp at hk),b_ _⟩
    ·show RelP _ w' v' (lh 1 (xs.map (aG (.int .i64))))
     rcases hown.2 with⟨rfl,h0⟩|⟨g,cap',cur,rfl,hbg,hg,hcap',_,hcs,htk⟩
     ·cases xs with
      |nil=>exact .nil _ _
      |cons y ys=>cases h0
     ·have:=eM (D:=λb=>D b\/(w.heap.size<=b/\b<w'.heap.size)) (w:=w') (sz:=1) (xs:=xs.map (aG (.int .i64))) (a:=some ⟨g,0,none⟩) (cap:=cap') (by rw[f_];exact hcap') (λ_=>⟨g,0,rfl,.inr ⟨hbg,(d_.1 hg).1⟩,λx hx=>by obtain⟨y,_,rfl⟩:=s_.1 hx;rfl,λi j x y hx hy=>?_⟩)
      ·rwa [f_]at this
      ·rw[a_]at hx
       obtain⟨x0,hx0,rfl⟩:=j_.1 hx
       have hy:[PV.sc (.int .i64 x0)][j]? =some y:=hy
       match j,hy with
       |0,hy=>
        cases hy
        refine⟨.int .i64 x0,?_,.sc _⟩
        have hi:i<xs.length:=(e_.1 hx0).1
        have e1:cur.toList[i]? =some (.int .i64 x0):=by
         have e2:(cur.toList.take (xs.length*1))[i]? =some (.int .i64 x0):=by rw[htk,a_,hx0];rfl
         rw[v_]at e2
         split at e2
         ·exact e2
         ·cases e2
        rw[u_]at e1
        simp only[World.cell?,hg]
        simpa using e1
    ·rcases hd with hd|hd
     ·exact w_ (hok.dlt b hd) hb.size
     ·exact hd.2
   cases a with
   |none=>
    have h0:xs=[]:=by
     cases xs with
     |nil=>rfl
     |cons y ys=>obtain⟨b,o,h,_⟩:=hc (z_ _);cases h
    subst h0
    exact(Ql _ _ w).mono λe w' ⟨he,hw⟩=>by
     subst he
     subst hw
     exact back _ _ ⟨rfl,.inl ⟨rfl,rfl⟩⟩ (.refl _ _)
   |some ad=>
    refine(R5 ad xs.length cap (xs.map (Value.int .i64)) w (by simp) h1 (λj u hj=>?_) (λu hu=>by obtain⟨x,_,rfl⟩:=s_.1 hu;rfl)).mono λe w' ⟨v',he,hown,hb⟩=>by subst he;exact back v' w' hown hb
    rw[a_]at hj
    obtain⟨x0,hx0,rfl⟩:=j_.1 hj
    have hj':j<xs.length:=(e_.1 hx0).1
    obtain⟨b,o,hao,_,_,hcc⟩:=hc (by omega)
    cases hao
    obtain⟨u',hu,hr⟩:=hcc j 0 (.sc (.int .i64 x0)) (.sc (.int .i64 x0)) (by rw[a_,hx0];rfl) rfl
    cases hr
    rw[Addr.add_lit]
    simpa using hu
 ·cases hs
end Go.Proofs.YtmfolppncelceaaGreatDoor
