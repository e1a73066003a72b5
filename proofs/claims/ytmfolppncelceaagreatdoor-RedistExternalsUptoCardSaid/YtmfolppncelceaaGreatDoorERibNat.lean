import Derived.Test.YtmfolppncelceaaGreatDoorEBn
import Derived.Test.YtmfolppncelceaaGreatDoorETG4
import Derived.Test.YtmfolppncelceaaGreatDoorEL7
import Derived.RangeFuncFrom
import Derived.WalkKit
import Derived.OwnWalkIn
import Derived.TacticsInMore
import Derived.RegionIn
import Derived.Shelf.Abstract
import Derived.Shelf.RegionOpenPlain
import Derived.Deep.LoopGhost
import Derived.Lib.Walk
import Derived.Lib.SliceRun
set_option linter.unusedVariables false
set_option linter.unusedSimpArgs false
open Array renaming getElem?_eq_some_iff->d_,replicate_succ->f_,replicate_zero->g_,getElem?_toList->u_
open List renaming getElem?_map->a_,cons_append->c_,getElem?_eq_some_iff->e_,append_toArray->h_,length_map->j_,nil_append->k_,push_toArray->l_,size_toArray->m_,length_cons->n_,length_nil->o_,eq_nil_of_length_eq_zero->r_,mem_map->s_,getElem?_take->v_,prefix_rfl->x_
open Nat renaming le_refl->b_,reduceAdd->p_,reduceSub->q_,zero_add->t_,lt_of_lt_of_le->w_,succ_pos->y_,zero_le->z_
open Option renaming map_eq_some_iff->i_
open Option.some renaming injEq->A_
namespace Go.Ev
open Go Go.RowKit Go.Av Go.Proofs Go.Sort
abbrev tPfx:Ty:=.pair (.int .u32) (.pair (.int .i64) .unit)
abbrev tHop:Ty:=.pair (.int .u32) (.pair (.int .i64) (.pair (.int .u32) (.pair (.int .i64) (.pair tPfx .unit))))
abbrev tRoute:Ty:=.pair tPfx (.pair (.int .i64) (.pair (.int .i64) (.pair (.int .i64) (.pair (.int .i64) (.pair (.list tHop) .unit)))))
def d9(a b:Int):Int:=if a<b then -1 else if b<a then 1 else 0
def eb:List Int->Int
 |[]=>0
 |x::l=>if x=0 then eb l else x
def nE(a b:Int×(Int×Unit)):Int:=eb [d9 a.1 b.1,d9 a.2.1 b.2.1]
def VN(a b:tRoute.den):List Int:=[nE a.1 b.1,d9 a.2.2.1 b.2.2.1,d9 a.2.1 b.2.1]
def VM(a b:tHop.den):List Int:=[d9 a.1 b.1,d9 a.2.1 b.2.1,d9 a.2.2.1 b.2.2.1]
def HO(a b:tRoute.den):Int:=eb (VN a b)
def Xj(a b:tHop.den):Int:=eb (VM a b)
def tH:List V->Option S
 |[.d (.pair (.pair (.int .u32) (.pair (.int .i64) .unit)) (.pair (.int .i64) (.pair (.int .i64) (.pair (.int .i64) (.pair (.int .i64) (.pair (.list (.pair (.int .u32) (.pair (.int .i64) (.pair (.int .u32) (.pair (.int .i64) (.pair (.pair (.int .u32) (.pair (.int .i64) .unit)) .unit)))))) .unit)))))) a,
  .d (.pair (.pair (.int .u32) (.pair (.int .i64) .unit)) (.pair (.int .i64) (.pair (.int .i64) (.pair (.int .i64) (.pair (.int .i64) (.pair (.list (.pair (.int .u32) (.pair (.int .i64) (.pair (.int .u32) (.pair (.int .i64) (.pair (.pair (.int .u32) (.pair (.int .i64) .unit)) .unit)))))) .unit)))))) b]=>some ⟨[(0,.d (.int .i64) (HO a b))],[]⟩
 |_=>none
def z6:List V->Option S
 |[.d (.pair (.int .u32) (.pair (.int .i64) (.pair (.int .u32) (.pair (.int .i64) (.pair (.pair (.int .u32) (.pair (.int .i64) .unit)) .unit))))) a,.d (.pair (.int .u32) (.pair (.int .i64) (.pair (.int .u32) (.pair (.int .i64) (.pair (.pair (.int .u32) (.pair (.int .i64) .unit)) .unit))))) b]=>some ⟨[(0,.d (.int .i64) (Xj a b))],[]⟩
 |_=>none
def EA:List V->Option S
 |[.d (.list (.int .u32)) xs]=>bif decide (xs.length*4<=140737488355328)then some ⟨[(0,.d (.list (.int .u32)) xs)],[]⟩else none
 |_=>none
def Ez:List V->Option S
 |[.d (.list (.int .i64)) xs]=>bif decide (xs.length*8<=140737488355328)then some ⟨[(0,.d (.list (.int .i64)) xs)],[]⟩else none
 |_=>none
theorem Kt{pre:List Int}{x:Int}(h:eb pre=0):eb (pre++[x])=x:=by
 induction pre with
 |nil=>simp only[k_,eb];omega|cons y l b=>
  simp only[eb]at h;split at h;·rename_i a;simp only[c_,eb,if_pos a];omega
  omega
theorem XC{pre L:List Int}(h:pre<+:L)(hn:eb pre≠0):eb L=eb pre:=by obtain⟨t,rfl⟩:=h;induction pre with|nil=>exact absurd rfl hn|cons y l a=>simp only[eb]at hn;simp only[c_,eb];omega
theorem zfb(a b c d:Int):eb [d9 a b,d9 c d]=if a<b then -1 else if b<a then 1 else if c<d then -1 else if d<c then 1 else 0:=by have h:eb [d9 a b,d9 c d]=if d9 a b=0 then(if d9 c d=0 then 0 else d9 c d)else d9 a b:=rfl;rw[h];unfold d9;omega
theorem zgR(a b c d:Int)(h:(decide (a<b)||((a==b)&&decide (c<d)))=true):eb [d9 a b,d9 c d]= -1:=by rw[zfb];grind
theorem zgP(a b c d:Int)(h:((a==b)&&(c==d))=true):eb [d9 a b,d9 c d]=0:=by rw[zfb];grind
theorem zgQ(a b c d:Int)(h:(decide (a<b)||((a==b)&&decide (c<d)))=false)(h':((a==b)&&(c==d))=false):eb [d9 a b,d9 c d]=1:=by rw[zfb];grind
end Go.Ev
namespace Go.Proofs.YtmfolppncelceaaGreatDoor
open Go Go.Av Go.Ev Go.RowKit
theorem zgw:Entry Tryz.prog 149 sa:=⟨⟨Tryz.f149,Tryz.func149,by kernel_rfl,by kernel_rfl,by kernel_rfl⟩,by kernel_rfl⟩
theorem zgA:Entry Tryz.prog 176 ux:=⟨⟨Tryz.f176,Tryz.func176,by kernel_rfl,by kernel_rfl,by kernel_rfl⟩,by kernel_rfl⟩
theorem zgx:Entry Tryz.prog 150 qL:=⟨⟨Tryz.f150,Tryz.func150,by kernel_rfl,by kernel_rfl,by kernel_rfl⟩,by kernel_rfl⟩
theorem zgB:Entry Tryz.prog 196 mi:=⟨⟨Tryz.f196,Tryz.func196,by kernel_rfl,by kernel_rfl,by kernel_rfl⟩,by kernel_rfl⟩
theorem zgy:Entry Tryz.prog 174 j3:=⟨⟨Tryz.f174,Tryz.func174,by kernel_rfl,by kernel_rfl,by kernel_rfl⟩,by kernel_rfl⟩
theorem zgC:Entry Tryz.prog 197 pq:=⟨⟨Tryz.f197,Tryz.func197,by kernel_rfl,by kernel_rfl,by kernel_rfl⟩,by kernel_rfl⟩
theorem zgz:Entry Tryz.prog 175 mh:=⟨⟨Tryz.f175,Tryz.func175,by kernel_rfl,by kernel_rfl,by kernel_rfl⟩,by kernel_rfl⟩
def zge:List (Nat×Fun'):=[(zI,.code sa),(oP,.code ux),(xx,.code qL),(ip,.code mi),(qv,.code j3),
 (jW,.code pq),(tv,.code mh)]
abbrev Fs:Nat->Option Fun':=QW zge
theorem zhf:TblOk Tryz.prog Fs:=AllOk.tbl (P:=Tryz.prog) (l:=zge) ⟨zgw,zgA,zgx,zgB,zgy,zgC,zgz,trivial⟩
theorem Nl:Tryz.prog.follows .mixedOrders=true:=by kernel_rfl
theorem G6(x:Int):aC Fs oP [.d tI x] [] ic (false,()):=ap rfl (aA (tbl:=Fs) (c:=ux) (by kernel_rfl) rfl (λO n=>bK (BU O n x)) (by unfold BU;rw[bne_self_eq_false];exact aa rfl))
theorem WY(x y:Int):Conv Fs xx [.d tI x,.d tI y] [] (·=some ⟨[(0,.d (.int .i64) (d9 x y))],[]⟩):=by
 refine aA (tbl:=Fs) (c:=qL) (by kernel_rfl) rfl (λO n=>bK (xf O n x y)) ?_;unfold xf;refine aj (G6 x) (aj (G6 y) (an rfl (an rfl (ao (λh=>aa ?_) λh=>ao (λh'=>aa ?_) λh'=>aa ?_))));·rw[show d9 x y= -1 from if_pos (of_decide_eq_true h)];rfl
 ·rw[show d9 x y=1 from by unfold d9;rw[if_neg (of_decide_eq_false h),if_pos (of_decide_eq_true h')]];rfl
 ·rw[show d9 x y=0 from by unfold d9;rw[if_neg (of_decide_eq_false h),if_neg (of_decide_eq_false h')]];rfl
theorem xc(x:Int):aC Fs ip [.d tW x] [] dz (false,()):=ap rfl (aA (tbl:=Fs) (c:=mi) (by kernel_rfl) rfl (λO n=>bK (te O n x)) (by unfold te;rw[bne_self_eq_false];exact aa rfl))
theorem K0(x y:Int):Conv Fs qv [.d tW x,.d tW y] [] (·=some ⟨[(0,.d (.int .i64) (d9 x y))],[]⟩):=by
 refine aA (tbl:=Fs) (c:=j3) (by kernel_rfl) rfl (λO n=>bK (qa O n x y)) ?_;unfold qa;refine aj (xc x) (aj (xc y) (an rfl (an rfl (ao (λh=>aa ?_) λh=>ao (λh'=>aa ?_) λh'=>aa ?_))));·rw[show d9 x y= -1 from if_pos (of_decide_eq_true h)];rfl
 ·rw[show d9 x y=1 from by unfold d9;rw[if_neg (of_decide_eq_false h),if_pos (of_decide_eq_true h')]];rfl
 ·rw[show d9 x y=0 from by unfold d9;rw[if_neg (of_decide_eq_false h),if_neg (of_decide_eq_false h')]];rfl
theorem BM(x:Int):aC Fs jW [.d tW x] [] eF (false,()):=ap rfl (aA (tbl:=Fs) (c:=pq) (by kernel_rfl) rfl (λO n=>bK (vO O n x)) (by unfold vO;rw[bne_self_eq_false];exact aa rfl))
theorem OH(x y:Int):Conv Fs tv [.d tW x,.d tW y] [] (·=some ⟨[(0,.d (.int .i64) (d9 x y))],[]⟩):=by
 refine aA (tbl:=Fs) (c:=mh) (by kernel_rfl) rfl (λO n=>bK (td O n x y)) ?_;unfold td;refine aj (BM x) (aj (BM y) (an rfl (an rfl (ao (λh=>aa ?_) λh=>ao (λh'=>aa ?_) λh'=>aa ?_))));·rw[show d9 x y= -1 from if_pos (of_decide_eq_true h)];rfl
 ·rw[show d9 x y=1 from by unfold d9;rw[if_neg (of_decide_eq_false h),if_pos (of_decide_eq_true h')]];rfl
 ·rw[show d9 x y=0 from by unfold d9;rw[if_neg (of_decide_eq_false h),if_neg (of_decide_eq_false h')]];rfl
theorem zgl(p q:tPfx.den):Conv Fs zI [.d tPfx p,.d tPfx q] [] (·=some ⟨[(0,.d (.int .i64) (nE p q))],[]⟩):=by
 refine aA (tbl:=Fs) (c:=sa) (by kernel_rfl) rfl (λO n=>bK (zx O n p q)) ?_;unfold zx;refine ae (bn (b:=(p.1==q.1)&&decide (p.2.1<q.2.1)) (λ_=>ae (ba (b:=decide (p.2.1<q.2.1)) (λ_=>aa rfl) (aa rfl))) ?_);have a:(false ^^ nk (pr [tW,tI]) p q)=((p.1==q.1)&&(p.2.1==q.2.1)):=by show(false ^^ ((p.1==q.1)&&((p.2.1==q.2.1)&&true)))=_;simp
 rw[a];refine ao (λh=>aa ?_) λh=>ao (λh'=>aa ?_) λh'=>aa ?_;·rw[show nE p q= -1 from zgR p.1 q.1 p.2.1 q.2.1 h];rfl
 ·rw[show nE p q=0 from zgP p.1 q.1 p.2.1 q.2.1 h'];rfl
 ·rw[show nE p q=1 from zgQ p.1 q.1 p.2.1 q.2.1 h h'];rfl
theorem EI{W:World}(C:GT W){N:Nat}{ars:List V}{vs:List Value}{c:Int}(hl:vs.length=ars.length)(d:∀(i:Nat) (v:Value) (x:AV),vs[i]? =some v->(ars.map aZ)[i]? =some x->RelA [] (λb=>b<W.heap.size) W v x) (B:Conv Fs N ars [] (·=some ⟨[(0,.d (.int .i64) c)],[]⟩)):Calls Tryz.prog (N%10000) vs.toArray W λe f=>e= .returned (.int .i64 c)/\Below W.heap.size W f:=by
 obtain⟨o,rfl,A⟩:=Km Nl zhf B;refine(A W [] (λb=>b<W.heap.size) vs (GW.of C) ⟨rfl,λb h=>h,λi j li H g p=>(by simp),λi l g p=>(by grind),λi l o p=>(by simp)⟩ (by grind) d).mono λe f D=>?_;rcases D with⟨v,r,s,θ',D',y,n,u,_,a,_⟩|⟨F,_,_,n,_⟩;·have w:some (r,s)=some (.b (.pv (.sc (.int .i64 c))),[]):=n;simp only[A_,Prod.mk.injEq]at w;rw[w.1]at u;have z:RelP D' f v (.sc (.int .i64 c)):=u;cases z;refine⟨y,a.os,a.tape,a.output,a.size,λk E=>a.block k E ?_⟩;rintro⟨i,l,p,_⟩;grind
 ·cases n
theorem WT{W:World}(f:GT W)(n:Nat)(x y:Int):CallsIn Fence.wide n Tryz.prog 150 #[.int .i64 x,.int .i64 y] W λe d=>e= .returned (.int .i64 (d9 x y))/\Below W.heap.size W d:=callsIn_wide.2 (EI f (vs:=[.int .i64 x,.int .i64 y]) rfl (λi v a c b=>by match i,c,b with|0,c,b=>cases c;cases b;exact .sc _|1,c,b=>cases c;cases b;exact .sc _) (WY x y))
theorem TR{W:World}(f:GT W)(n:Nat)(x y:Int):CallsIn Fence.wide n Tryz.prog 174 #[.int .u32 x,.int .u32 y] W λe d=>e= .returned (.int .i64 (d9 x y))/\Below W.heap.size W d:=callsIn_wide.2 (EI f (vs:=[.int .u32 x,.int .u32 y]) rfl (λi v a c b=>by match i,c,b with|0,c,b=>cases c;cases b;exact .sc _|1,c,b=>cases c;cases b;exact .sc _) (K0 x y))
theorem za5{W:World}(f:GT W)(n:Nat)(x y:Int):CallsIn Fence.wide n Tryz.prog 175 #[.int .u32 x,.int .u32 y] W λe d=>e= .returned (.int .i64 (d9 x y))/\Below W.heap.size W d:=callsIn_wide.2 (EI f (vs:=[.int .u32 x,.int .u32 y]) rfl (λi v a c b=>by match i,c,b with|0,c,b=>cases c;cases b;exact .sc _|1,c,b=>cases c;cases b;exact .sc _) (OH x y))
theorem za1{D:Nat->Prop}{W:World}(p:tPfx.den):RelP D W (.agg #[.int .u32 p.1,.int .i64 p.2.1]) (aM tPfx p):=by
 refine .agg _ _ rfl λi v x a b=>?_
 match i,a,b with|0,a,b=>cases a;cases b;exact .sc _|1,a,b=>cases a;cases b;exact .sc _
theorem zgk{W:World}(f:GT W)(n:Nat)(p q:tPfx.den):CallsIn Fence.wide n Tryz.prog 149 #[.agg #[.int .u32 p.1,.int .i64 p.2.1],.agg #[.int .u32 q.1,.int .i64 q.2.1]] W λe d=>e= .returned (.int .i64 (nE p q))/\Below W.heap.size W d:=callsIn_wide.2 (EI f (vs:=[.agg #[.int .u32 p.1,.int .i64 p.2.1],.agg #[.int .u32 q.1,.int .i64 q.2.1]]) rfl (λi v a c b=>by match i,c,b with|0,c,b=>cases c;cases b;exact za1 p|1,c,b=>cases c;cases b;exact za1 q) (zgl p q))
theorem Kq{W:World}{B:Nat}{v:Value}{t:TypeId}(h:W.heap[B]? =some (.cells #[v] t (0,0))):W.cell? ⟨B,0,none⟩=some v/\W.frozen? ⟨B,0,none⟩=false:=by constructor<;>simp[World.cell?,World.frozen?,h]
theorem below_grown{w w':World}(h:Below w.heap.size w w')(a:Option Nat):w.grownBy w' a:=⟨h.os,h.tape,h.output,h.size,λk b _=>h.block k b⟩
set_option maxRecDepth 100000 in
set_option maxHeartbeats 2000000 in
theorem U6(n:Nat)(L:List Int)(gf:Nat)(lb:Array Value)(w:World)(N:Nat)(P:∀args w,(callFunc gf args).run Tryz.prog w= .ok (.enter gf args) w) (F:∀n,SeqStopsK Fence.wide n Tryz.prog gf lb (λx:Int=> #[.int .i64 x]) (λX Y=>Below w.heap.size X Y) (·=L) (·<+:L) N w): CallsIn Fence.wide (n+2) Tryz.prog 147 #[.func (.func gf) #[] lb] w λe O=>e= .returned (.int .i64 (eb L))/\Below w.heap.size w O:=by
 refine callsIn_of_wp_marks Tryz.func147 rfl trivial ?_ rfl;simp only[Tryz.ntmps147,m_,n_,o_,p_,q_,f_,g_,l_,h_,k_,c_]
 gi_wp2
 obtain⟨v,b⟩:∃v,w.alloc (.cells #[.int .i64 0] 3)=v:=⟨_,rfl⟩;have gc:v.heap.size=w.heap.size+1:=by rw[<-b];simp
 have y:v.heap[w.heap.size]? =some (.cells #[.int .i64 0] 3 (0,0)):=by rw[<-b];exact World.alloc_heap_new w _
 have z:Below w.heap.size w v:=by rw[<-b];exact(Below.refl _ w).alloc (b_ _) _
 rw[b];refine wpIn_rangeFunc_ownF rfl (by simp) (gf:=gf) (lb:=lb) rfl trivial P (F _) (λh k=>h.trans k) (λW l o o' hl h _ _=>belowK_b (by omega) W l o o' hl h ‹_› ‹_›) z (λ_=>rfl) (λpre W=>eb pre=0/\W.cell? ⟨w.heap.size,0,none⟩=some (.int .i64 0)/\W.frozen? ⟨w.heap.size,0,none⟩=false/\Below w.heap.size w W) (λc pre W=>c= .ret/\∃r,eb pre=r/\r≠0/\W.cell? ⟨w.heap.size,0,none⟩=some (.int .i64 r)/\Below w.heap.size w W) ?hI ?hIx ⟨rfl,(Kq y).1,(Kq y).2,z⟩ (λx=>{tmps:= #[.func (.func gf) #[] lb,undef,.pointer (some ⟨w.heap.size,0,none⟩),.int .i64 x,.func (.func gf) #[] lb,.int .i64 x,undef,undef,undef],defers:=[]}) ?assign ?body ?done ?stop;case hI=>intro s A B j hs hg hr;exact⟨hs.1,cell_kept hs.2.1 hg (λr e=>(hr r e).2),(frozen_kept hs.2.1 hg (λr e=>(hr r e).2)).trans hs.2.2.1,ownFrom_below (β:=Unit) (b_ _) (by omega) () A B j hs.2.2.2 hg hr⟩
 case hIx=>rintro c s A B j ⟨Q,r,R,T,U,h5⟩ hg hr;exact⟨Q,r,R,T,cell_kept U hg (λr e=>(hr r e).2),ownFrom_below (β:=Unit) (b_ _) (by omega) () A B j h5 hg hr⟩
 case assign=>
  intro l x W K u
  gi_wp2_with (rw[Oper.semAt_eq _ _ _ (λc h=>by grind)];go_simp;try go_bits)
  omega
 case body=>
  rintro l pre x W ⟨hp,d,E,a⟩ _
  gi_wp2_with (rw[Oper.semAt_eq _ _ _ (λc h=>by grind)];go_simp;try go_bits)
  ·skip;rename_i H;have H:x≠0:=by grind
   exact⟨KeepsOthers.setCell _ _ _,rfl,x,Kt hp,H,World.cell?_setCell_same' _ _ _ (by grind),a.setCell (b_ _) _⟩
  ·rename_i H;have H:x=0:=by grind
   subst H;exact⟨KeepsOthers.refl _,Below.refl _ _,Kt hp,d,E,a⟩
 case done=>
  rintro D xs W hD J ⟨hp,d,E,a⟩ u
  obtain rfl:xs=L:=J
  gi_wp2
  have f:=(KeepsOthers.setCell W ⟨w.heap.size,0,none⟩ (.int .i64 0)).same D _ u rfl
  have C:=a.setCell (p:=⟨w.heap.size,0,none⟩) (b_ _) (.int .i64 0)
  have I:=(d_.1 f).1
  have M:=C.size
  refine⟨by simp,.inl ⟨_,_,rfl,run_takeDeferred f,?_⟩⟩
  have g:=cell_kept (World.cell?_setCell_same' W ⟨w.heap.size,0,none⟩ (.int .i64 0) (by grind)) (grownBy_putObj' _ D (.deferred none)) (λr e=>by cases e;exact⟨_,f,rfl⟩)
  refine⟨.int .i64 0,?_,by grind,C.grown (grownBy_putObj' _ D (.deferred none)) (by omega) (λk e=>by grind)⟩
  simp[results,Tryz.f147,go_sem,g]
 case stop=>
  rintro D c pre W hD J ⟨rfl,r,hr,el,d,a⟩ u
  gi_wp2
  have I:=(d_.1 u).1
  have M:=a.size
  refine⟨by simp,.inl ⟨_,_,rfl,run_takeDeferred u,?_⟩⟩
  have g:=cell_kept d (grownBy_putObj' _ D (.deferred none)) (λr e=>by cases e;exact⟨_,u,rfl⟩)
  refine⟨.int .i64 r,?_,by rw[XC J (by omega),hr],a.grown (grownBy_putObj' _ D (.deferred none)) (by omega) (λk e=>by grind)⟩
  simp[results,Tryz.f147,go_sem,g]
def QC(A:Nat)(a:tRoute.den)(W:World):Prop:=W.cell? ⟨A,0,none⟩=some (.int .u32 a.1.1)/\W.cell? ⟨A,1,none⟩=some (.int .i64 a.1.2.1)/\W.cell? ⟨A,2,none⟩=some (.int .i64 a.2.1)/\W.cell? ⟨A,3,none⟩=some (.int .i64 a.2.2.1)
def QD(A:Nat)(a:tHop.den)(W:World):Prop:=W.cell? ⟨A,0,none⟩=some (.int .u32 a.1)/\W.cell? ⟨A,1,none⟩=some (.int .i64 a.2.1)/\W.cell? ⟨A,2,none⟩=some (.int .u32 a.2.2.1)/\True
set_option maxRecDepth 100000 in
set_option maxHeartbeats 4000000 in
theorem zfS(n:Nat)(A B:Nat)(a b:tRoute.den)(w:World)(hG:GT w) (hc:∀W,Below w.heap.size w W->QC A a W/\QC B b W): SeqStopsK Fence.wide n Tryz.prog 148 #[.pointer (some ⟨A,0,none⟩),.pointer (some ⟨B,0,none⟩)] (λx:Int=> #[.int .i64 x]) (λX Y=>Below w.heap.size X Y) (·=VN a b) (·<+:VN a b) 3 w:=by
 intro l J Jx W O hJ Fk hY h0;refine callsIn_of_wp Tryz.func148 rfl trivial ?_ rfl;simp only[Tryz.ntmps148,m_,n_,o_,p_,q_,f_,g_,l_,h_,k_,c_];have c:GT W:=hG.below O;obtain⟨⟨g,j,k,p⟩,s,u,v,y⟩:=hc W O
 gi_wp2
 refine⟨trivial,λh=>(by cases h),(zgk c _ _ _).mono ?_⟩;rintro e P ⟨rfl,E⟩;have I:Below w.heap.size w P:=O.trans (E.mono O.size);have gc:=hJ [] W P none h0 (below_grown E _) (λr e=>by cases e);obtain⟨DP,DB,z,T,Fr,At⟩:=hY [] (nE a.1 b.1) P gc (by simp);clear g j k p s u v y c
 gi_wp2
 refine⟨λh=>(by cases h),At.mono ?_⟩;rintro e M (⟨rfl,ph,BT⟩|⟨rfl,CT⟩)
 ·have d:Below w.heap.size w M:=I.trans BT;have c:GT M:=hG.below d;obtain⟨⟨g,j,k,p⟩,s,u,v,y⟩:=hc M d
  gi_wp2
  refine⟨trivial,λh=>(by cases h),(WT c _ _ _).mono ?_⟩;rintro e Q ⟨rfl,F⟩;have L:Below w.heap.size w Q:=d.trans (F.mono d.size);have qr:=hJ _ M Q none ph (below_grown F _) (λr e=>by cases e);obtain⟨DQ,DE,C,U,GS,Bk⟩:=hY _ (d9 a.2.2.1 b.2.2.1) Q qr (by simp);clear g j k p s u v y c
  gi_wp2
  refine⟨λh=>(by cases h),Bk.mono ?_⟩;rintro e N (⟨rfl,rg,CD⟩|⟨rfl,Dg⟩)
  ·have f:Below w.heap.size w N:=L.trans CD;have c:GT N:=hG.below f;obtain⟨⟨g,j,k,p⟩,s,u,v,y⟩:=hc N f
   gi_wp2
   refine⟨trivial,λh=>(by cases h),(WT c _ _ _).mono ?_⟩;rintro e R ⟨rfl,H⟩;have DM:Below w.heap.size w R:=f.trans (H.mono f.size);have ur:=hJ _ N R none rg (below_grown H _) (λr e=>by cases e);obtain⟨DS,DH,D,el,Hx,Bx⟩:=hY _ (d9 a.2.1 b.2.1) R ur (by simp);clear g j k p s u v y c
   gi_wp2
   refine⟨λh=>(by cases h),Bx.mono ?_⟩;rintro e W6 (⟨rfl,wr,Fm⟩|⟨rfl,DA⟩)
   ·gi_wp2
    go_end0
    exact⟨⟨_,rfl⟩,.inl ⟨_,rfl,wr⟩⟩
   ·gi_wp2
    go_end0
    exact⟨⟨_,rfl⟩,.inr ⟨_,x_,DA⟩⟩
  ·skip
   gi_wp2
   refine⟨trivial,?_⟩
   gi_wp2
   refine⟨λ_ h=>(by cases h),?_⟩
   gi_wp2
   go_end0
   exact⟨⟨_,rfl⟩,.inr ⟨_,⟨[_],rfl⟩,Dg⟩⟩
 ·skip
  gi_wp2
  refine⟨trivial,?_⟩
  gi_wp2
  refine⟨λ_ h=>(by cases h),?_⟩
  gi_wp2
  refine⟨trivial,?_⟩
  gi_wp2
  go_end0
  exact⟨⟨_,rfl⟩,.inr ⟨_,⟨[_,_],rfl⟩,CT⟩⟩
set_option maxRecDepth 100000 in
set_option maxHeartbeats 4000000 in
theorem zfT(n:Nat)(A B:Nat)(a b:tHop.den)(w:World)(hG:GT w) (hc:∀W,Below w.heap.size w W->QD A a W/\QD B b W): SeqStopsK Fence.wide n Tryz.prog 173 #[.pointer (some ⟨A,0,none⟩),.pointer (some ⟨B,0,none⟩)] (λx:Int=> #[.int .i64 x]) (λX Y=>Below w.heap.size X Y) (·=VM a b) (·<+:VM a b) 3 w:=by
 intro l J Jx W O hJ Fk hY h0;refine callsIn_of_wp Tryz.func173 rfl trivial ?_ rfl;simp only[Tryz.ntmps173,m_,n_,o_,p_,q_,f_,g_,l_,h_,k_,c_];have c:GT W:=hG.below O;obtain⟨⟨g,j,k,p⟩,s,u,v,y⟩:=hc W O
 gi_wp2
 refine⟨trivial,λh=>(by cases h),(TR c _ _ _).mono ?_⟩;rintro e P ⟨rfl,E⟩;have I:Below w.heap.size w P:=O.trans (E.mono O.size);have gc:=hJ [] W P none h0 (below_grown E _) (λr e=>by cases e);obtain⟨DP,DB,z,T,Fr,At⟩:=hY [] (d9 a.1 b.1) P gc (by simp);clear g j k p s u v y c
 gi_wp2
 refine⟨λh=>(by cases h),At.mono ?_⟩;rintro e M (⟨rfl,ph,BT⟩|⟨rfl,CT⟩)
 ·have d:Below w.heap.size w M:=I.trans BT;have c:GT M:=hG.below d;obtain⟨⟨g,j,k,p⟩,s,u,v,y⟩:=hc M d
  gi_wp2
  refine⟨trivial,λh=>(by cases h),(WT c _ _ _).mono ?_⟩;rintro e Q ⟨rfl,F⟩;have L:Below w.heap.size w Q:=d.trans (F.mono d.size);have qr:=hJ _ M Q none ph (below_grown F _) (λr e=>by cases e);obtain⟨DQ,DE,C,U,GS,Bk⟩:=hY _ (d9 a.2.1 b.2.1) Q qr (by simp);clear g j k p s u v y c
  gi_wp2
  refine⟨λh=>(by cases h),Bk.mono ?_⟩;rintro e N (⟨rfl,rg,CD⟩|⟨rfl,Dg⟩)
  ·have f:Below w.heap.size w N:=L.trans CD;have c:GT N:=hG.below f;obtain⟨⟨g,j,k,p⟩,s,u,v,y⟩:=hc N f
   gi_wp2
   refine⟨trivial,λh=>(by cases h),(za5 c _ _ _).mono ?_⟩;rintro e R ⟨rfl,H⟩;have DM:Below w.heap.size w R:=f.trans (H.mono f.size);have ur:=hJ _ N R none rg (below_grown H _) (λr e=>by cases e);obtain⟨DS,DH,D,el,Hx,Bx⟩:=hY _ (d9 a.2.2.1 b.2.2.1) R ur (by simp);clear g j k p s u v y c
   gi_wp2
   refine⟨λh=>(by cases h),Bx.mono ?_⟩;rintro e W6 (⟨rfl,wr,Fm⟩|⟨rfl,DA⟩)
   ·gi_wp2
    go_end0
    exact⟨⟨_,rfl⟩,.inl ⟨_,rfl,wr⟩⟩
   ·gi_wp2
    go_end0
    exact⟨⟨_,rfl⟩,.inr ⟨_,x_,DA⟩⟩
  ·skip
   gi_wp2
   refine⟨trivial,?_⟩
   gi_wp2
   refine⟨λ_ h=>(by cases h),?_⟩
   gi_wp2
   go_end0
   exact⟨⟨_,rfl⟩,.inr ⟨_,⟨[_],rfl⟩,Dg⟩⟩
 ·skip
  gi_wp2
  refine⟨trivial,?_⟩
  gi_wp2
  refine⟨λ_ h=>(by cases h),?_⟩
  gi_wp2
  refine⟨trivial,?_⟩
  gi_wp2
  go_end0
  exact⟨⟨_,rfl⟩,.inr ⟨_,⟨[_,_],rfl⟩,CT⟩⟩
set_option maxRecDepth 100000 in
set_option maxHeartbeats 4000000 in
theorem zfc(a b:tRoute.den)(D E:Option Addr)(B s C u:Nat)(w:World)(y:GT w): Calls Tryz.prog 115 #[.agg #[.int .u32 a.1.1,.int .i64 a.1.2.1,.int .i64 a.2.1,.int .i64 a.2.2.1,.int .i64 a.2.2.2.1,.int .i64 a.2.2.2.2.1,.slice D B s],.agg #[.int .u32 b.1.1,.int .i64 b.1.2.1,.int .i64 b.2.1,.int .i64 b.2.2.1,.int .i64 b.2.2.2.1,.int .i64 b.2.2.2.2.1,.slice E C u]] w λe l=>e= .returned (.int .i64 (eb (VN a b)))/\Below w.heap.size w l:=by
 refine(callsIn_wide (n:=5)).1 (callsIn_of_wp Tryz.func115 rfl trivial ?_ rfl);simp only[Tryz.ntmps115,m_,n_,o_,p_,q_,f_,g_,l_,h_,k_,c_]
 gi_wp2
 generalize g:Obj.cells _ _ _=c;generalize h:Obj.cells _ _ _=d;have f:Below w.heap.size w ((w.alloc c).alloc d):=((Below.refl _ w).alloc (b_ _) _).alloc (by simp) _;have A:((w.alloc c).alloc d).heap.size=w.heap.size+2:=by simp
 have v:((w.alloc c).alloc d).heap[w.heap.size]? =some c:=(Below.heap_alloc _ _ _ (by simp)).trans (World.alloc_heap_new w _);have x:((w.alloc c).alloc d).heap[w.heap.size+1]? =some d:=by have:=World.alloc_heap_new (w.alloc c) d;rwa [World.size_alloc]at this
 generalize(w.alloc c).alloc d=r at*;refine⟨trivial,(U6 2 (VN a b) 148 _ r 3 (enters_of Tryz.func148 (by kernel_rfl) rfl) (λn=>zfS n w.heap.size (w.heap.size+1) a b r (y.below f) λW p=>?_)).mono ?_⟩;·have j:W.heap[w.heap.size]? =some c:=(p.block _ (by omega)).trans v;have k:W.heap[w.heap.size+1]? =some d:=(p.block _ (by omega)).trans x;subst g;subst h;refine⟨⟨?_,?_,?_,?_⟩,?_,?_,?_,?_⟩;all_goals first|trivial|(simp[World.cell?,j,k])
 ·rintro e l ⟨rfl,z⟩
  gi_wp2
  go_ret
  exact⟨rfl,f.trans (z.mono (by omega))⟩
set_option maxRecDepth 100000 in
set_option maxHeartbeats 4000000 in
theorem zfd(a b:tHop.den)(w:World)(v:GT w): Calls Tryz.prog 146 #[.agg #[.int .u32 a.1,.int .i64 a.2.1,.int .u32 a.2.2.1,.int .i64 a.2.2.2.1,.int .u32 a.2.2.2.2.1.1,.int .i64 a.2.2.2.2.1.2.1],.agg #[.int .u32 b.1,.int .i64 b.2.1,.int .u32 b.2.2.1,.int .i64 b.2.2.2.1,.int .u32 b.2.2.2.2.1.1,.int .i64 b.2.2.2.2.1.2.1]] w λe l=>e= .returned (.int .i64 (eb (VM a b)))/\Below w.heap.size w l:=by
 refine(callsIn_wide (n:=5)).1 (callsIn_of_wp Tryz.func146 rfl trivial ?_ rfl);simp only[Tryz.ntmps146,m_,n_,o_,p_,q_,f_,g_,l_,h_,k_,c_]
 gi_wp2
 generalize g:Obj.cells _ _ _=c;generalize h:Obj.cells _ _ _=d;have f:Below w.heap.size w ((w.alloc c).alloc d):=((Below.refl _ w).alloc (b_ _) _).alloc (by simp) _;have y:((w.alloc c).alloc d).heap.size=w.heap.size+2:=by simp
 have s:((w.alloc c).alloc d).heap[w.heap.size]? =some c:=(Below.heap_alloc _ _ _ (by simp)).trans (World.alloc_heap_new w _);have u:((w.alloc c).alloc d).heap[w.heap.size+1]? =some d:=by have:=World.alloc_heap_new (w.alloc c) d;rwa [World.size_alloc]at this
 generalize(w.alloc c).alloc d=r at*;refine⟨trivial,(U6 2 (VM a b) 173 _ r 3 (enters_of Tryz.func173 (by kernel_rfl) rfl) (λn=>zfT n w.heap.size (w.heap.size+1) a b r (v.below f) λW p=>?_)).mono ?_⟩;·have j:W.heap[w.heap.size]? =some c:=(p.block _ (by omega)).trans s;have k:W.heap[w.heap.size+1]? =some d:=(p.block _ (by omega)).trans u;subst g;subst h;refine⟨⟨?_,?_,?_,?_⟩,?_,?_,?_,?_⟩;all_goals first|trivial|(simp[World.cell?,j,k])
 ·rintro e l ⟨rfl,x⟩
  gi_wp2
  go_ret
  exact⟨rfl,f.trans (x.mono (by omega))⟩
theorem zao{D:Nat->Prop}{w:World}{v:Value}{xs:List PV}(h:RelP D w v (.agg xs)):∃l:List Value,v= .agg l.toArray/\l.length=xs.length/\∀(i:Nat) (v:Value) (x:PV),l[i]? =some v->xs[i]? =some x->RelP D w v x:=by cases h with|agg vs xs hs a=>grind
theorem zfs{D:Nat->Prop}{w:World}{v:Value}{sz:Nat}{xs:List PV}(h:RelP D w v (pB sz xs)):∃(x:Option Addr) (n c:Nat),v= .slice x n c:=by cases xs with|nil=>have h:RelP D w v (.list 0 []):=h;cases h;simp|cons y ys=>have h:RelP D w v (.list sz (y::ys)):=h;cases h;simp
theorem zbt(a:tRoute.den):aM tRoute a= .agg [.sc (.int .u32 a.1.1),.sc (.int .i64 a.1.2.1),.sc (.int .i64 a.2.1),.sc (.int .i64 a.2.2.1),.sc (.int .i64 a.2.2.2.1),.sc (.int .i64 a.2.2.2.2.1),pB tHop.sz (a.2.2.2.2.2.1.map (aM tHop))]:=by obtain⟨p,c,d,e,f,b,u⟩:=a;cases b<;>rfl
theorem QO{D:Nat->Prop}{w:World}{v:Value}(a:tRoute.den)(h:RelP D w v (aM tRoute a)):∃(x:Option Addr) (n c:Nat),v= .agg #[.int .u32 a.1.1,.int .i64 a.1.2.1,.int .i64 a.2.1,.int .i64 a.2.2.1,.int .i64 a.2.2.2.1,.int .i64 a.2.2.2.2.1,.slice x n c]:=by
 rw[zbt]at h;obtain⟨l,rfl,hl,b⟩:=zao h
 match l,hl,b with|[r,s,u,y,z,A,B],_,b=>have d:=b 0 _ _ rfl rfl;have e:=b 1 _ _ rfl rfl;have f:=b 2 _ _ rfl rfl;have g:=b 3 _ _ rfl rfl;have j:=b 4 _ _ rfl rfl;have k:=b 5 _ _ rfl rfl;have p:=b 6 _ _ rfl rfl;cases d;cases e;cases f;cases g;cases j;cases k;obtain⟨x,n,c,rfl⟩:=zfs p;simp
theorem zap{D:Nat->Prop}{w:World}{v:Value}(a:tHop.den)(h:RelP D w v (aM tHop a)):v= .agg #[.int .u32 a.1,.int .i64 a.2.1,.int .u32 a.2.2.1,.int .i64 a.2.2.2.1,.int .u32 a.2.2.2.2.1.1,.int .i64 a.2.2.2.2.1.2.1]:=by
 have h:RelP D w v (.agg [.sc (.int .u32 a.1),.sc (.int .i64 a.2.1),.sc (.int .u32 a.2.2.1),.sc (.int .i64 a.2.2.2.1),.sc (.int .u32 a.2.2.2.2.1.1),.sc (.int .i64 a.2.2.2.2.1.2.1)]):=h;obtain⟨l,rfl,hl,b⟩:=zao h
 match l,hl,b with|[k,n,p,r,s,u],_,b=>have c:=b 0 _ _ rfl rfl;have d:=b 1 _ _ rfl rfl;have e:=b 2 _ _ rfl rfl;have f:=b 3 _ _ rfl rfl;have g:=b 4 _ _ rfl rfl;have j:=b 5 _ _ rfl rfl;cases c;cases d;cases e;cases f;cases g;cases j;rfl
theorem Lo:Me Tryz.prog 115 tH:=by
 intro ars s hs;unfold tH at hs;split at hs
 ·rename_i a b;cases hs;refine Au λw D vs g hl c=>?_
  match vs,hl,c with|[n,p],_,c=>obtain⟨r,k,d,rfl⟩:=QO a (c 0 n _ rfl rfl);obtain⟨u,l,f,rfl⟩:=QO b (c 1 p _ rfl rfl);exact(zfc a b r u k d l f w g).mono λe w' ⟨j,h⟩=>⟨_,j,.sc _,h⟩
 grind
theorem E9:Me Tryz.prog 146 z6:=by
 intro ars s hs;unfold z6 at hs;split at hs
 ·rename_i a b;cases hs;refine Au λw D vs d hl c=>?_
  match vs,hl,c with|[h,j],_,c=>cases zap a (c 0 h _ rfl rfl);cases zap b (c 1 j _ rfl rfl);exact(zfd a b w d).mono λe w' ⟨g,f⟩=>⟨_,g,.sc _,f⟩
 grind
set_option maxHeartbeats 2000000 in
set_option maxRecDepth 100000 in
theorem zcW(l:Addr)(n c:Nat)(b:List Value)(w:World)(hl:b.length=n)(g:n*4<=140737488355328) (hc:∀j u,b[j]? =some u->w.cell? (l.add j)=some u) (C:∀u∈b,u.oneCell'=true): Calls Tryz.prog 70 #[.slice (some l) n c] w λe w'=>∃p,e= .returned p/\w'.ownsRow w.heap.size 29 1 p n b/\Below w.heap.size w w':=by
 have mixed:Tryz.prog.follows .mixedOrders=true:=Nl;have f:Tryz.prog.underlying 42=some (.slice 29):=by kernel_rfl
 have I:∀(w:World) (a:Option Addr) (n c y r:Nat),(binOp .eql 42 (.slice a n c) (.slice none y r)).run Tryz.prog w= .ok (.bool a.isNone) w:=λw a n c y r=>Lib.run_eql_slice_nil w _ _ a n c y r f;have J:∀w,Sem.run Tryz.prog (underlying 42) w= .ok (TypeDesc.slice 29) w:=run_underlying f;obtain⟨H,D,s,v,x⟩:=info_parts (P:=Tryz.prog) (e:=29) (z:=.int .u32 0) (size:=1) (bytes:=4) (by kernel_rfl);have A:Aside (∀j u,b[j]? =some u->w.cell? (l.add j)=some u):=hc;clear hc
 go_enter Tryz.func70,Tryz.ntmps70
 go_wp2_with (at_builtin;refine wpList_append_own _ rfl _ _ 42 rfl w.heap.size 29 H (.int .u32 0) 1 4 f D s v x rfl (by decide) _ _ _ rfl (World.ownsRow_made w #[] 0 (b_ _) (z_ _) (by simp)) l n c b rfl ?qc1 ?qc2 ?qc3 ?qc4 ?qc5 ?qc6 ?_)
 case qc1=>omega
 case qc2=>intro j u E;exact Lib.cell?_alloc_some _ (A.out j u E)
 case qc3=>exact C
 case qc4=>rw[t_];unfold maxLen;omega
 case qc5=>rw[t_];exact g
 case qc6=>simp
 intro p L h d B
 go_wp2
 go_ret
 refine⟨p,rfl,by simpa using h,?_⟩;exact((Below.refl _ w).alloc (b_ _) _).grown d (by simp) (by intro k F;simp[Value.ownBlock]at F;omega)
theorem zbk(n c:Nat)(w:World):Calls Tryz.prog 70 #[.slice none n c] w λe w'=>e= .returned (.slice none 0 0)/\w'=w:=by
 have mixed:Tryz.prog.follows .mixedOrders=true:=Nl;have f:Tryz.prog.underlying 42=some (.slice 29):=by kernel_rfl
 have g:∀(w:World) (a:Option Addr) (n c d b:Nat),(binOp .eql 42 (.slice a n c) (.slice none d b)).run Tryz.prog w= .ok (.bool a.isNone) w:=λw a n c d b=>Lib.run_eql_slice_nil w _ _ a n c d b f
 go_enter Tryz.func70,Tryz.ntmps70
 go_wp2
 go_ret
 exact⟨rfl,rfl⟩
theorem su:Me Tryz.prog 70 EA:=by
 intro ars s hs;unfold EA at hs;split at hs
 ·rename_i xs;obtain⟨L,h2⟩:=aV hs;cases h2;have L:=of_decide_eq_true L;intro w θ D vs hG C hl r;have T:θ=[]:=r_ C.len;subst T
  match vs,hl,r with
  |[v],_,r=>
   obtain⟨a,cap,rfl,hcap,hc⟩:=rj (show RelP D w v (pB 1 (xs.map (aM (.int .u32))))from r 0 v _ rfl rfl);rw[j_]at hcap hc⊢;have f:∀(z:Value) (w':World),w'.ownsRow w.heap.size 29 1 z xs.length (xs.map (Value.int .u32))->Below w.heap.size w w'->Back [] D w (λo=>o=some (.b (.pv (pB 1 (xs.map (aM (.int .u32))))),[])) (.returned z) w':=by
    intro z w' c H;refine .inl ⟨z,_,[],[],λb=>D b\/(w.heap.size<=b/\b<w'.heap.size),rfl,rfl,?_,⟨rfl,λb hd=>?_,λi j li lj g n=>(by simp at n),λi l g n=>(by simp at n),λi l o n=>(by simp at n)⟩,.of_below H,λ_ h=>.inl h,λ_ h=>h.elim .inl λh=>.inr (.inr h.1),λi l g n=>(by simp at n),λk l hk=>(by simp at hk),b_ _⟩
    ·show RelP _ w' z (pB 1 (xs.map (aM (.int .u32))));rcases c.2 with⟨rfl,J⟩|⟨g,A,B,rfl,N,hg,p,_,hcs,Q⟩;·cases xs with|nil=>exact .nil _ _|cons y ys=>cases J
     ·have:=gz (D:=λb=>D b\/(w.heap.size<=b/\b<w'.heap.size)) (w:=w') (sz:=1) (xs:=xs.map (aM (.int .u32))) (a:=some ⟨g,0,none⟩) (cap:=A) (by rw[j_];exact p) (λ_=>⟨g,0,rfl,.inr ⟨N,(d_.1 hg).1⟩,λx I=>by obtain⟨y,_,rfl⟩:=s_.1 I;rfl,λi j x y I E=>?_⟩);·rwa [j_]at this
      ·rw[a_]at I;obtain⟨x0,d,rfl⟩:=i_.1 I;have E:[PV.sc (.int .u32 x0)][j]? =some y:=E
       match j,E with
       |0,E=>
        cases E;refine⟨.int .u32 x0,?_,.sc _⟩;have n:i<xs.length:=(e_.1 d).1;have U:B.toList[i]? =some (.int .u32 x0):=by
         have F:(B.toList.take (xs.length*1))[i]? =some (.int .u32 x0):=by rw[Q,a_,d];rfl
         rw[v_]at F;split at F;·exact F
         ·cases F
        rw[u_]at U;simp only[World.cell?,hg];simpa using U
    ·rcases hd with hd|hd;·exact w_ (C.dlt b hd) H.size
     ·exact hd.2
   cases a with
   |none=>
    have J:xs=[]:=by cases xs with|nil=>rfl|cons y ys=>obtain⟨b,o,h,_⟩:=hc (y_ _);cases h
    subst J;exact(zbk _ _ w).mono λe w' ⟨P,hw⟩=>by subst P;subst hw;exact f _ _ ⟨rfl,.inl ⟨rfl,rfl⟩⟩ (.refl _ _)
   |some ad=>
    refine(zcW ad xs.length cap (xs.map (Value.int .u32)) w (by simp) L (λj u Y=>?_) (λu R=>by obtain⟨x,_,rfl⟩:=s_.1 R;rfl)).mono λe w' ⟨z,P,c,H⟩=>by subst P;exact f z w' c H
    rw[a_]at Y;obtain⟨x0,d,rfl⟩:=i_.1 Y;have el:j<xs.length:=(e_.1 d).1;obtain⟨b,o,M,_,_,O⟩:=hc (by omega);cases M;obtain⟨u',R,hr⟩:=O j 0 (.sc (.int .u32 x0)) (.sc (.int .u32 x0)) (by rw[a_,d];rfl) rfl;cases hr;rw[Addr.add_lit];simpa using R
 ·cases hs
set_option maxHeartbeats 2000000 in
set_option maxRecDepth 100000 in
theorem zcX(l:Addr)(n c:Nat)(b:List Value)(w:World)(hl:b.length=n)(g:n*8<=140737488355328) (hc:∀j u,b[j]? =some u->w.cell? (l.add j)=some u) (C:∀u∈b,u.oneCell'=true): Calls Tryz.prog 71 #[.slice (some l) n c] w λe w'=>∃p,e= .returned p/\w'.ownsRow w.heap.size 3 1 p n b/\Below w.heap.size w w':=by
 have mixed:Tryz.prog.follows .mixedOrders=true:=Nl;have f:Tryz.prog.underlying 41=some (.slice 3):=by kernel_rfl
 have I:∀(w:World) (a:Option Addr) (n c y r:Nat),(binOp .eql 41 (.slice a n c) (.slice none y r)).run Tryz.prog w= .ok (.bool a.isNone) w:=λw a n c y r=>Lib.run_eql_slice_nil w _ _ a n c y r f;have J:∀w,Sem.run Tryz.prog (underlying 41) w= .ok (TypeDesc.slice 3) w:=run_underlying f;obtain⟨H,D,s,v,x⟩:=info_parts (P:=Tryz.prog) (e:=3) (z:=.int .i64 0) (size:=1) (bytes:=8) (by kernel_rfl);have A:Aside (∀j u,b[j]? =some u->w.cell? (l.add j)=some u):=hc;clear hc
 go_enter Tryz.func71,Tryz.ntmps71
 go_wp2_with (at_builtin;refine wpList_append_own _ rfl _ _ 41 rfl w.heap.size 3 H (.int .i64 0) 1 8 f D s v x rfl (by decide) _ _ _ rfl (World.ownsRow_made w #[] 0 (b_ _) (z_ _) (by simp)) l n c b rfl ?qc1 ?qc2 ?qc3 ?qc4 ?qc5 ?qc6 ?_)
 case qc1=>omega
 case qc2=>intro j u E;exact Lib.cell?_alloc_some _ (A.out j u E)
 case qc3=>exact C
 case qc4=>rw[t_];unfold maxLen;omega
 case qc5=>rw[t_];exact g
 case qc6=>simp
 intro p L h d B
 go_wp2
 go_ret
 refine⟨p,rfl,by simpa using h,?_⟩;exact((Below.refl _ w).alloc (b_ _) _).grown d (by simp) (by intro k F;simp[Value.ownBlock]at F;omega)
theorem zbl(n c:Nat)(w:World):Calls Tryz.prog 71 #[.slice none n c] w λe w'=>e= .returned (.slice none 0 0)/\w'=w:=by
 have mixed:Tryz.prog.follows .mixedOrders=true:=Nl;have f:Tryz.prog.underlying 41=some (.slice 3):=by kernel_rfl
 have g:∀(w:World) (a:Option Addr) (n c d b:Nat),(binOp .eql 41 (.slice a n c) (.slice none d b)).run Tryz.prog w= .ok (.bool a.isNone) w:=λw a n c d b=>Lib.run_eql_slice_nil w _ _ a n c d b f
 go_enter Tryz.func71,Tryz.ntmps71
 go_wp2
 go_ret
 exact⟨rfl,rfl⟩
theorem zg:Me Tryz.prog 71 Ez:=by
 intro ars s hs;unfold Ez at hs;split at hs
 ·rename_i xs;obtain⟨L,h2⟩:=aV hs;cases h2;have L:=of_decide_eq_true L;intro w θ D vs hG C hl r;have T:θ=[]:=r_ C.len;subst T
  match vs,hl,r with
  |[v],_,r=>
   obtain⟨a,cap,rfl,hcap,hc⟩:=rj (show RelP D w v (pB 1 (xs.map (aM (.int .i64))))from r 0 v _ rfl rfl);rw[j_]at hcap hc⊢;have f:∀(z:Value) (w':World),w'.ownsRow w.heap.size 3 1 z xs.length (xs.map (Value.int .i64))->Below w.heap.size w w'->Back [] D w (λo=>o=some (.b (.pv (pB 1 (xs.map (aM (.int .i64))))),[])) (.returned z) w':=by
    intro z w' c H;refine .inl ⟨z,_,[],[],λb=>D b\/(w.heap.size<=b/\b<w'.heap.size),rfl,rfl,?_,⟨rfl,λb hd=>?_,λi j li lj g n=>(by simp at n),λi l g n=>(by simp at n),λi l o n=>(by simp at n)⟩,.of_below H,λ_ h=>.inl h,λ_ h=>h.elim .inl λh=>.inr (.inr h.1),λi l g n=>(by simp at n),λk l hk=>(by simp at hk),b_ _⟩
    ·show RelP _ w' z (pB 1 (xs.map (aM (.int .i64))));rcases c.2 with⟨rfl,J⟩|⟨g,A,B,rfl,N,hg,p,_,hcs,Q⟩;·cases xs with|nil=>exact .nil _ _|cons y ys=>cases J
     ·have:=gz (D:=λb=>D b\/(w.heap.size<=b/\b<w'.heap.size)) (w:=w') (sz:=1) (xs:=xs.map (aM (.int .i64))) (a:=some ⟨g,0,none⟩) (cap:=A) (by rw[j_];exact p) (λ_=>⟨g,0,rfl,.inr ⟨N,(d_.1 hg).1⟩,λx I=>by obtain⟨y,_,rfl⟩:=s_.1 I;rfl,λi j x y I E=>?_⟩);·rwa [j_]at this
      ·rw[a_]at I;obtain⟨x0,d,rfl⟩:=i_.1 I;have E:[PV.sc (.int .i64 x0)][j]? =some y:=E
       match j,E with
       |0,E=>
        cases E;refine⟨.int .i64 x0,?_,.sc _⟩;have n:i<xs.length:=(e_.1 d).1;have U:B.toList[i]? =some (.int .i64 x0):=by
         have F:(B.toList.take (xs.length*1))[i]? =some (.int .i64 x0):=by rw[Q,a_,d];rfl
         rw[v_]at F;split at F;·exact F
         ·cases F
        rw[u_]at U;simp only[World.cell?,hg];simpa using U
    ·rcases hd with hd|hd;·exact w_ (C.dlt b hd) H.size
     ·exact hd.2
   cases a with
   |none=>
    have J:xs=[]:=by cases xs with|nil=>rfl|cons y ys=>obtain⟨b,o,h,_⟩:=hc (y_ _);cases h
    subst J;exact(zbl _ _ w).mono λe w' ⟨P,hw⟩=>by subst P;subst hw;exact f _ _ ⟨rfl,.inl ⟨rfl,rfl⟩⟩ (.refl _ _)
   |some ad=>
    refine(zcX ad xs.length cap (xs.map (Value.int .i64)) w (by simp) L (λj u Y=>?_) (λu R=>by obtain⟨x,_,rfl⟩:=s_.1 R;rfl)).mono λe w' ⟨z,P,c,H⟩=>by subst P;exact f z w' c H
    rw[a_]at Y;obtain⟨x0,d,rfl⟩:=i_.1 Y;have el:j<xs.length:=(e_.1 d).1;obtain⟨b,o,M,_,_,O⟩:=hc (by omega);cases M;obtain⟨u',R,hr⟩:=O j 0 (.sc (.int .i64 x0)) (.sc (.int .i64 x0)) (by rw[a_,d];rfl) rfl;cases hr;rw[Addr.add_lit];simpa using R
 ·cases hs
end Go.Proofs.YtmfolppncelceaaGreatDoor
