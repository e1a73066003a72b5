import Derived.Test.YtmfolppncelceaaGreatDoorVBn
import Derived.Test.YtmfolppncelceaaGreatDoorVTG4
import Derived.Test.YtmfolppncelceaaGreatDoorVL7
import Derived.RangeFuncFrom
import Derived.WalkKit
import Derived.OwnWalkIn
import Derived.TacticsInMore
import Derived.RegionIn
import Derived.Shelf.Abstract
import Derived.Shelf.RegionOpenPlain
import Derived.Deep.LoopGhost
import Derived.Lib.Walk
import Derived.Lib.SliceRun
set_option linter.unusedVariables false
set_option linter.unusedSimpArgs false
open Array renaming getElem?_eq_some_iff->d_,replicate_succ->f_,replicate_zero->g_,getElem?_toList->u_
open List renaming getElem?_map->a_,cons_append->c_,getElem?_eq_some_iff->e_,append_toArray->h_,length_map->j_,nil_append->k_,push_toArray->l_,size_toArray->m_,length_cons->n_,length_nil->o_,eq_nil_of_length_eq_zero->r_,mem_map->s_,getElem?_take->v_,prefix_rfl->x_
open Nat renaming le_refl->b_,reduceAdd->p_,reduceSub->q_,zero_add->t_,lt_of_lt_of_le->w_,succ_pos->y_,zero_le->z_
open Option renaming map_eq_some_iff->i_
open Option.some renaming injEq->A_
namespace Go.Ev
open Go Go.RowKit Go.Av Go.Proofs Go.Sort
abbrev tPfx:Ty:=.pair (.int .u32) (.pair (.int .i64) .unit)
abbrev tHop:Ty:=.pair (.int .u32) (.pair (.int .i64) (.pair (.int .u32) (.pair (.int .i64) (.pair tPfx .unit))))
abbrev tRoute:Ty:=.pair tPfx (.pair (.int .i64) (.pair (.int .i64) (.pair (.int .i64) (.pair (.int .i64) (.pair (.list tHop) .unit)))))
def ee(a b:Int):Int:=if a<b then -1 else if b<a then 1 else 0
def ef:List Int->Int
 |[]=>0
 |x::l=>if x=0 then ef l else x
def nU(a b:Int×(Int×Unit)):Int:=ef [ee a.1 b.1,ee a.2.1 b.2.1]
def WA(a b:tRoute.den):List Int:=[nU a.1 b.1,ee a.2.2.1 b.2.2.1,ee a.2.1 b.2.1]
def Wz(a b:tHop.den):List Int:=[ee a.1 b.1,ee a.2.1 b.2.1,ee a.2.2.1 b.2.2.1]
def Ij(a b:tRoute.den):Int:=ef (WA a b)
def X7(a b:tHop.den):Int:=ef (Wz a b)
def uh:List V->Option S
 |[.d (.pair (.pair (.int .u32) (.pair (.int .i64) .unit)) (.pair (.int .i64) (.pair (.int .i64) (.pair (.int .i64) (.pair (.int .i64) (.pair (.list (.pair (.int .u32) (.pair (.int .i64) (.pair (.int .u32) (.pair (.int .i64) (.pair (.pair (.int .u32) (.pair (.int .i64) .unit)) .unit)))))) .unit)))))) a,
  .d (.pair (.pair (.int .u32) (.pair (.int .i64) .unit)) (.pair (.int .i64) (.pair (.int .i64) (.pair (.int .i64) (.pair (.int .i64) (.pair (.list (.pair (.int .u32) (.pair (.int .i64) (.pair (.int .u32) (.pair (.int .i64) (.pair (.pair (.int .u32) (.pair (.int .i64) .unit)) .unit)))))) .unit)))))) b]=>some ⟨[(0,.d (.int .i64) (Ij a b))],[]⟩
 |_=>none
def AG:List V->Option S
 |[.d (.pair (.int .u32) (.pair (.int .i64) (.pair (.int .u32) (.pair (.int .i64) (.pair (.pair (.int .u32) (.pair (.int .i64) .unit)) .unit))))) a,.d (.pair (.int .u32) (.pair (.int .i64) (.pair (.int .u32) (.pair (.int .i64) (.pair (.pair (.int .u32) (.pair (.int .i64) .unit)) .unit))))) b]=>some ⟨[(0,.d (.int .i64) (X7 a b))],[]⟩
 |_=>none
def AF:List V->Option S
 |[.d (.list (.int .u32)) xs]=>bif decide (xs.length*4<=140737488355328)then some ⟨[(0,.d (.list (.int .u32)) xs)],[]⟩else none
 |_=>none
def AD:List V->Option S
 |[.d (.list (.int .i64)) xs]=>bif decide (xs.length*8<=140737488355328)then some ⟨[(0,.d (.list (.int .i64)) xs)],[]⟩else none
 |_=>none
theorem K9{pre:List Int}{x:Int}(h:ef pre=0):ef (pre++[x])=x:=by
 induction pre with
 |nil=>simp only[k_,ef];omega|cons y l b=>
  simp only[ef]at h;split at h;·rename_i a;simp only[c_,ef,if_pos a];omega
  omega
theorem Y2{pre L:List Int}(h:pre<+:L)(hn:ef pre≠0):ef L=ef pre:=by obtain⟨t,rfl⟩:=h;induction pre with|nil=>exact absurd rfl hn|cons y l a=>simp only[ef]at hn;simp only[c_,ef];omega
theorem zfZ(a b c d:Int):ef [ee a b,ee c d]=if a<b then -1 else if b<a then 1 else if c<d then -1 else if d<c then 1 else 0:=by have h:ef [ee a b,ee c d]=if ee a b=0 then(if ee c d=0 then 0 else ee c d)else ee a b:=rfl;rw[h];unfold ee;omega
theorem zhH(a b c d:Int)(h:(decide (a<b)||((a==b)&&decide (c<d)))=true):ef [ee a b,ee c d]= -1:=by rw[zfZ];grind
theorem zhF(a b c d:Int)(h:((a==b)&&(c==d))=true):ef [ee a b,ee c d]=0:=by rw[zfZ];grind
theorem zhG(a b c d:Int)(h:(decide (a<b)||((a==b)&&decide (c<d)))=false)(h':((a==b)&&(c==d))=false):ef [ee a b,ee c d]=1:=by rw[zfZ];grind
end Go.Ev
namespace Go.Proofs.YtmfolppncelceaaGreatDoor
open Go Go.Av Go.Ev Go.RowKit
theorem zhn:Entry Tryz.prog 149 sF:=⟨⟨Tryz.f149,Tryz.func149,by kernel_rfl,by kernel_rfl,by kernel_rfl⟩,by kernel_rfl⟩
theorem zhr:Entry Tryz.prog 176 uU:=⟨⟨Tryz.f176,Tryz.func176,by kernel_rfl,by kernel_rfl,by kernel_rfl⟩,by kernel_rfl⟩
theorem zho:Entry Tryz.prog 150 re:=⟨⟨Tryz.f150,Tryz.func150,by kernel_rfl,by kernel_rfl,by kernel_rfl⟩,by kernel_rfl⟩
theorem zhs:Entry Tryz.prog 196 mF:=⟨⟨Tryz.f196,Tryz.func196,by kernel_rfl,by kernel_rfl,by kernel_rfl⟩,by kernel_rfl⟩
theorem zhp:Entry Tryz.prog 174 kg:=⟨⟨Tryz.f174,Tryz.func174,by kernel_rfl,by kernel_rfl,by kernel_rfl⟩,by kernel_rfl⟩
theorem zht:Entry Tryz.prog 197 pV:=⟨⟨Tryz.f197,Tryz.func197,by kernel_rfl,by kernel_rfl,by kernel_rfl⟩,by kernel_rfl⟩
theorem zhq:Entry Tryz.prog 175 mE:=⟨⟨Tryz.f175,Tryz.func175,by kernel_rfl,by kernel_rfl,by kernel_rfl⟩,by kernel_rfl⟩
def zg4:List (Nat×Fun'):=[(Ap,.code sF),(pm,.code uU),(x5,.code re),(iA,.code mF),(qQ,.code kg),
 (ka,.code pV),(tZ,.code mE)]
abbrev FY:Nat->Option Fun':=RJ zg4
theorem zh5:TblOk Tryz.prog FY:=AllOk.tbl (P:=Tryz.prog) (l:=zg4) ⟨zhn,zhr,zho,zhs,zhp,zht,zhq,trivial⟩
theorem N0:Tryz.prog.follows .mixedOrders=true:=by kernel_rfl
theorem HF(x:Int):aC FY pm [.d tI x] [] ir (false,()):=ap rfl (aA (tbl:=FY) (c:=uU) (by kernel_rfl) rfl (λO n=>bI (Cp O n x)) (by unfold Cp;rw[bne_self_eq_false];exact aa rfl))
theorem XS(x y:Int):Conv FY x5 [.d tI x,.d tI y] [] (·=some ⟨[(0,.d (.int .i64) (ee x y))],[]⟩):=by
 refine aA (tbl:=FY) (c:=re) (by kernel_rfl) rfl (λO n=>bI (xK O n x y)) ?_;unfold xK;refine aj (HF x) (aj (HF y) (an rfl (an rfl (ao (λh=>aa ?_) λh=>ao (λh'=>aa ?_) λh'=>aa ?_))));·rw[show ee x y= -1 from if_pos (of_decide_eq_true h)];rfl
 ·rw[show ee x y=1 from by unfold ee;rw[if_neg (of_decide_eq_false h),if_pos (of_decide_eq_true h')]];rfl
 ·rw[show ee x y=0 from by unfold ee;rw[if_neg (of_decide_eq_false h),if_neg (of_decide_eq_false h')]];rfl
theorem xH(x:Int):aC FY iA [.d tW x] [] dA (false,()):=ap rfl (aA (tbl:=FY) (c:=mF) (by kernel_rfl) rfl (λO n=>bI (tK O n x)) (by unfold tK;rw[bne_self_eq_false];exact aa rfl))
theorem LC(x y:Int):Conv FY qQ [.d tW x,.d tW y] [] (·=some ⟨[(0,.d (.int .i64) (ee x y))],[]⟩):=by
 refine aA (tbl:=FY) (c:=kg) (by kernel_rfl) rfl (λO n=>bI (qw O n x y)) ?_;unfold qw;refine aj (xH x) (aj (xH y) (an rfl (an rfl (ao (λh=>aa ?_) λh=>ao (λh'=>aa ?_) λh'=>aa ?_))));·rw[show ee x y= -1 from if_pos (of_decide_eq_true h)];rfl
 ·rw[show ee x y=1 from by unfold ee;rw[if_neg (of_decide_eq_false h),if_pos (of_decide_eq_true h')]];rfl
 ·rw[show ee x y=0 from by unfold ee;rw[if_neg (of_decide_eq_false h),if_neg (of_decide_eq_false h')]];rfl
theorem Ci(x:Int):aC FY ka [.d tW x] [] eH (false,()):=ap rfl (aA (tbl:=FY) (c:=pV) (by kernel_rfl) rfl (λO n=>bI (ws O n x)) (by unfold ws;rw[bne_self_eq_false];exact aa rfl))
theorem Px(x y:Int):Conv FY tZ [.d tW x,.d tW y] [] (·=some ⟨[(0,.d (.int .i64) (ee x y))],[]⟩):=by
 refine aA (tbl:=FY) (c:=mE) (by kernel_rfl) rfl (λO n=>bI (tJ O n x y)) ?_;unfold tJ;refine aj (Ci x) (aj (Ci y) (an rfl (an rfl (ao (λh=>aa ?_) λh=>ao (λh'=>aa ?_) λh'=>aa ?_))));·rw[show ee x y= -1 from if_pos (of_decide_eq_true h)];rfl
 ·rw[show ee x y=1 from by unfold ee;rw[if_neg (of_decide_eq_false h),if_pos (of_decide_eq_true h')]];rfl
 ·rw[show ee x y=0 from by unfold ee;rw[if_neg (of_decide_eq_false h),if_neg (of_decide_eq_false h')]];rfl
theorem zhb(p q:tPfx.den):Conv FY Ap [.d tPfx p,.d tPfx q] [] (·=some ⟨[(0,.d (.int .i64) (nU p q))],[]⟩):=by
 refine aA (tbl:=FY) (c:=sF) (by kernel_rfl) rfl (λO n=>bI (Ae O n p q)) ?_;unfold Ae;refine ae (bn (b:=(p.1==q.1)&&decide (p.2.1<q.2.1)) (λ_=>ae (bb (b:=decide (p.2.1<q.2.1)) (λ_=>aa rfl) (aa rfl))) ?_);have a:(false ^^ nH (pr [tW,tI]) p q)=((p.1==q.1)&&(p.2.1==q.2.1)):=by show(false ^^ ((p.1==q.1)&&((p.2.1==q.2.1)&&true)))=_;simp
 rw[a];refine ao (λh=>aa ?_) λh=>ao (λh'=>aa ?_) λh'=>aa ?_;·rw[show nU p q= -1 from zhH p.1 q.1 p.2.1 q.2.1 h];rfl
 ·rw[show nU p q=0 from zhF p.1 q.1 p.2.1 q.2.1 h'];rfl
 ·rw[show nU p q=1 from zhG p.1 q.1 p.2.1 q.2.1 h h'];rfl
theorem Fl{W:World}(C:GT W){N:Nat}{ars:List V}{vs:List Value}{c:Int}(hl:vs.length=ars.length)(d:∀(i:Nat) (v:Value) (x:AV),vs[i]? =some v->(ars.map aZ)[i]? =some x->RelA [] (λb=>b<W.heap.size) W v x) (B:Conv FY N ars [] (·=some ⟨[(0,.d (.int .i64) c)],[]⟩)):Calls Tryz.prog (N%10000) vs.toArray W λe f=>e= .returned (.int .i64 c)/\Below W.heap.size W f:=by
 obtain⟨o,rfl,A⟩:=K2 N0 zh5 B;refine(A W [] (λb=>b<W.heap.size) vs (GW.of C) ⟨rfl,λb h=>h,λi j li H g p=>(by simp),λi l g p=>(by grind),λi l o p=>(by simp)⟩ (by grind) d).mono λe f D=>?_;rcases D with⟨v,r,s,θ',D',y,n,u,_,a,_⟩|⟨F,_,_,n,_⟩;·have w:some (r,s)=some (.b (.pv (.sc (.int .i64 c))),[]):=n;simp only[A_,Prod.mk.injEq]at w;rw[w.1]at u;have z:RelP D' f v (.sc (.int .i64 c)):=u;cases z;refine⟨y,a.os,a.tape,a.output,a.size,λk E=>a.block k E ?_⟩;rintro⟨i,l,p,_⟩;grind
 ·cases n
theorem XN{W:World}(f:GT W)(n:Nat)(x y:Int):CallsIn Fence.wide n Tryz.prog 150 #[.int .i64 x,.int .i64 y] W λe d=>e= .returned (.int .i64 (ee x y))/\Below W.heap.size W d:=callsIn_wide.2 (Fl f (vs:=[.int .i64 x,.int .i64 y]) rfl (λi v a c b=>by match i,c,b with|0,c,b=>cases c;cases b;exact .sc _|1,c,b=>cases c;cases b;exact .sc _) (XS x y))
theorem UX{W:World}(f:GT W)(n:Nat)(x y:Int):CallsIn Fence.wide n Tryz.prog 174 #[.int .u32 x,.int .u32 y] W λe d=>e= .returned (.int .i64 (ee x y))/\Below W.heap.size W d:=callsIn_wide.2 (Fl f (vs:=[.int .u32 x,.int .u32 y]) rfl (λi v a c b=>by match i,c,b with|0,c,b=>cases c;cases b;exact .sc _|1,c,b=>cases c;cases b;exact .sc _) (LC x y))
theorem zbT{W:World}(f:GT W)(n:Nat)(x y:Int):CallsIn Fence.wide n Tryz.prog 175 #[.int .u32 x,.int .u32 y] W λe d=>e= .returned (.int .i64 (ee x y))/\Below W.heap.size W d:=callsIn_wide.2 (Fl f (vs:=[.int .u32 x,.int .u32 y]) rfl (λi v a c b=>by match i,c,b with|0,c,b=>cases c;cases b;exact .sc _|1,c,b=>cases c;cases b;exact .sc _) (Px x y))
theorem zbP{D:Nat->Prop}{W:World}(p:tPfx.den):RelP D W (.agg #[.int .u32 p.1,.int .i64 p.2.1]) (aM tPfx p):=by
 refine .agg _ _ rfl λi v x a b=>?_
 match i,a,b with|0,a,b=>cases a;cases b;exact .sc _|1,a,b=>cases a;cases b;exact .sc _
theorem zha{W:World}(f:GT W)(n:Nat)(p q:tPfx.den):CallsIn Fence.wide n Tryz.prog 149 #[.agg #[.int .u32 p.1,.int .i64 p.2.1],.agg #[.int .u32 q.1,.int .i64 q.2.1]] W λe d=>e= .returned (.int .i64 (nU p q))/\Below W.heap.size W d:=callsIn_wide.2 (Fl f (vs:=[.agg #[.int .u32 p.1,.int .i64 p.2.1],.agg #[.int .u32 q.1,.int .i64 q.2.1]]) rfl (λi v a c b=>by match i,c,b with|0,c,b=>cases c;cases b;exact zbP p|1,c,b=>cases c;cases b;exact zbP q) (zhb p q))
theorem K6{W:World}{B:Nat}{v:Value}{t:TypeId}(h:W.heap[B]? =some (.cells #[v] t (0,0))):W.cell? ⟨B,0,none⟩=some v/\W.frozen? ⟨B,0,none⟩=false:=by constructor<;>simp[World.cell?,World.frozen?,h]
theorem below_grown{w w':World}(h:Below w.heap.size w w')(a:Option Nat):w.grownBy w' a:=⟨h.os,h.tape,h.output,h.size,λk b _=>h.block k b⟩
set_option maxRecDepth 100000 in
set_option maxHeartbeats 2000000 in
theorem VS(n:Nat)(L:List Int)(gf:Nat)(lb:Array Value)(w:World)(N:Nat)(P:∀args w,(callFunc gf args).run Tryz.prog w= .ok (.enter gf args) w) (F:∀n,SeqStopsK Fence.wide n Tryz.prog gf lb (λx:Int=> #[.int .i64 x]) (λX Y=>Below w.heap.size X Y) (·=L) (·<+:L) N w): CallsIn Fence.wide (n+2) Tryz.prog 147 #[.func (.func gf) #[] lb] w λe O=>e= .returned (.int .i64 (ef L))/\Below w.heap.size w O:=by
 refine callsIn_of_wp_marks Tryz.func147 rfl trivial ?_ rfl;simp only[Tryz.ntmps147,m_,n_,o_,p_,q_,f_,g_,l_,h_,k_,c_]
 gi_wp2
 obtain⟨v,b⟩:∃v,w.alloc (.cells #[.int .i64 0] 3)=v:=⟨_,rfl⟩;have gc:v.heap.size=w.heap.size+1:=by rw[<-b];simp
 have y:v.heap[w.heap.size]? =some (.cells #[.int .i64 0] 3 (0,0)):=by rw[<-b];exact World.alloc_heap_new w _
 have z:Below w.heap.size w v:=by rw[<-b];exact(Below.refl _ w).alloc (b_ _) _
 rw[b];refine wpIn_rangeFunc_ownF rfl (by simp) (gf:=gf) (lb:=lb) rfl trivial P (F _) (λh k=>h.trans k) (λW l o o' hl h _ _=>belowK_b (by omega) W l o o' hl h ‹_› ‹_›) z (λ_=>rfl) (λpre W=>ef pre=0/\W.cell? ⟨w.heap.size,0,none⟩=some (.int .i64 0)/\W.frozen? ⟨w.heap.size,0,none⟩=false/\Below w.heap.size w W) (λc pre W=>c= .ret/\∃r,ef pre=r/\r≠0/\W.cell? ⟨w.heap.size,0,none⟩=some (.int .i64 r)/\Below w.heap.size w W) ?hI ?hIx ⟨rfl,(K6 y).1,(K6 y).2,z⟩ (λx=>{tmps:= #[.func (.func gf) #[] lb,undef,.pointer (some ⟨w.heap.size,0,none⟩),.int .i64 x,.func (.func gf) #[] lb,.int .i64 x,undef,undef,undef],defers:=[]}) ?assign ?body ?done ?stop;case hI=>intro s A B j hs hg hr;exact⟨hs.1,cell_kept hs.2.1 hg (λr e=>(hr r e).2),(frozen_kept hs.2.1 hg (λr e=>(hr r e).2)).trans hs.2.2.1,ownFrom_below (β:=Unit) (b_ _) (by omega) () A B j hs.2.2.2 hg hr⟩
 case hIx=>rintro c s A B j ⟨Q,r,R,T,U,h5⟩ hg hr;exact⟨Q,r,R,T,cell_kept U hg (λr e=>(hr r e).2),ownFrom_below (β:=Unit) (b_ _) (by omega) () A B j h5 hg hr⟩
 case assign=>
  intro l x W K u
  gi_wp2_with (rw[Oper.semAt_eq _ _ _ (λc h=>by grind)];go_simp;try go_bits)
  omega
 case body=>
  rintro l pre x W ⟨hp,d,E,a⟩ _
  gi_wp2_with (rw[Oper.semAt_eq _ _ _ (λc h=>by grind)];go_simp;try go_bits)
  ·skip;rename_i H;have H:x≠0:=by grind
   exact⟨KeepsOthers.setCell _ _ _,rfl,x,K9 hp,H,World.cell?_setCell_same' _ _ _ (by grind),a.setCell (b_ _) _⟩
  ·rename_i H;have H:x=0:=by grind
   subst H;exact⟨KeepsOthers.refl _,Below.refl _ _,K9 hp,d,E,a⟩
 case done=>
  rintro D xs W hD J ⟨hp,d,E,a⟩ u
  obtain rfl:xs=L:=J
  gi_wp2
  have f:=(KeepsOthers.setCell W ⟨w.heap.size,0,none⟩ (.int .i64 0)).same D _ u rfl
  have C:=a.setCell (p:=⟨w.heap.size,0,none⟩) (b_ _) (.int .i64 0)
  have I:=(d_.1 f).1
  have M:=C.size
  refine⟨by simp,.inl ⟨_,_,rfl,run_takeDeferred f,?_⟩⟩
  have g:=cell_kept (World.cell?_setCell_same' W ⟨w.heap.size,0,none⟩ (.int .i64 0) (by grind)) (grownBy_putObj' _ D (.deferred none)) (λr e=>by cases e;exact⟨_,f,rfl⟩)
  refine⟨.int .i64 0,?_,by grind,C.grown (grownBy_putObj' _ D (.deferred none)) (by omega) (λk e=>by grind)⟩
  simp[results,Tryz.f147,go_sem,g]
 case stop=>
  rintro D c pre W hD J ⟨rfl,r,hr,el,d,a⟩ u
  gi_wp2
  have I:=(d_.1 u).1
  have M:=a.size
  refine⟨by simp,.inl ⟨_,_,rfl,run_takeDeferred u,?_⟩⟩
  have g:=cell_kept d (grownBy_putObj' _ D (.deferred none)) (λr e=>by cases e;exact⟨_,u,rfl⟩)
  refine⟨.int .i64 r,?_,by rw[Y2 J (by omega),hr],a.grown (grownBy_putObj' _ D (.deferred none)) (by omega) (λk e=>by grind)⟩
  simp[results,Tryz.f147,go_sem,g]
def Rn(A:Nat)(a:tRoute.den)(W:World):Prop:=W.cell? ⟨A,0,none⟩=some (.int .u32 a.1.1)/\W.cell? ⟨A,1,none⟩=some (.int .i64 a.1.2.1)/\W.cell? ⟨A,2,none⟩=some (.int .i64 a.2.1)/\W.cell? ⟨A,3,none⟩=some (.int .i64 a.2.2.1)
def Ro(A:Nat)(a:tHop.den)(W:World):Prop:=W.cell? ⟨A,0,none⟩=some (.int .u32 a.1)/\W.cell? ⟨A,1,none⟩=some (.int .i64 a.2.1)/\W.cell? ⟨A,2,none⟩=some (.int .u32 a.2.2.1)/\True
set_option maxRecDepth 100000 in
set_option maxHeartbeats 4000000 in
theorem zgH(n:Nat)(A B:Nat)(a b:tRoute.den)(w:World)(hG:GT w) (hc:∀W,Below w.heap.size w W->Rn A a W/\Rn B b W): SeqStopsK Fence.wide n Tryz.prog 148 #[.pointer (some ⟨A,0,none⟩),.pointer (some ⟨B,0,none⟩)] (λx:Int=> #[.int .i64 x]) (λX Y=>Below w.heap.size X Y) (·=WA a b) (·<+:WA a b) 3 w:=by
 intro l J Jx W O hJ Fk hY h0;refine callsIn_of_wp Tryz.func148 rfl trivial ?_ rfl;simp only[Tryz.ntmps148,m_,n_,o_,p_,q_,f_,g_,l_,h_,k_,c_];have c:GT W:=hG.below O;obtain⟨⟨g,j,k,p⟩,s,u,v,y⟩:=hc W O
 gi_wp2
 refine⟨trivial,λh=>(by cases h),(zha c _ _ _).mono ?_⟩;rintro e P ⟨rfl,E⟩;have I:Below w.heap.size w P:=O.trans (E.mono O.size);have gc:=hJ [] W P none h0 (below_grown E _) (λr e=>by cases e);obtain⟨DP,DB,z,T,Fr,At⟩:=hY [] (nU a.1 b.1) P gc (by simp);clear g j k p s u v y c
 gi_wp2
 refine⟨λh=>(by cases h),At.mono ?_⟩;rintro e M (⟨rfl,ph,BT⟩|⟨rfl,CT⟩)
 ·have d:Below w.heap.size w M:=I.trans BT;have c:GT M:=hG.below d;obtain⟨⟨g,j,k,p⟩,s,u,v,y⟩:=hc M d
  gi_wp2
  refine⟨trivial,λh=>(by cases h),(XN c _ _ _).mono ?_⟩;rintro e Q ⟨rfl,F⟩;have L:Below w.heap.size w Q:=d.trans (F.mono d.size);have qr:=hJ _ M Q none ph (below_grown F _) (λr e=>by cases e);obtain⟨DQ,DE,C,U,GS,Bk⟩:=hY _ (ee a.2.2.1 b.2.2.1) Q qr (by simp);clear g j k p s u v y c
  gi_wp2
  refine⟨λh=>(by cases h),Bk.mono ?_⟩;rintro e N (⟨rfl,rg,CD⟩|⟨rfl,Dg⟩)
  ·have f:Below w.heap.size w N:=L.trans CD;have c:GT N:=hG.below f;obtain⟨⟨g,j,k,p⟩,s,u,v,y⟩:=hc N f
   gi_wp2
   refine⟨trivial,λh=>(by cases h),(XN c _ _ _).mono ?_⟩;rintro e R ⟨rfl,H⟩;have DM:Below w.heap.size w R:=f.trans (H.mono f.size);have ur:=hJ _ N R none rg (below_grown H _) (λr e=>by cases e);obtain⟨DS,DH,D,el,Hx,Bx⟩:=hY _ (ee a.2.1 b.2.1) R ur (by simp);clear g j k p s u v y c
   gi_wp2
   refine⟨λh=>(by cases h),Bx.mono ?_⟩;rintro e W6 (⟨rfl,wr,Fm⟩|⟨rfl,DA⟩)
   ·gi_wp2
    go_end0
    exact⟨⟨_,rfl⟩,.inl ⟨_,rfl,wr⟩⟩
   ·gi_wp2
    go_end0
    exact⟨⟨_,rfl⟩,.inr ⟨_,x_,DA⟩⟩
  ·skip
   gi_wp2
   refine⟨trivial,?_⟩
   gi_wp2
   refine⟨λ_ h=>(by cases h),?_⟩
   gi_wp2
   go_end0
   exact⟨⟨_,rfl⟩,.inr ⟨_,⟨[_],rfl⟩,Dg⟩⟩
 ·skip
  gi_wp2
  refine⟨trivial,?_⟩
  gi_wp2
  refine⟨λ_ h=>(by cases h),?_⟩
  gi_wp2
  refine⟨trivial,?_⟩
  gi_wp2
  go_end0
  exact⟨⟨_,rfl⟩,.inr ⟨_,⟨[_,_],rfl⟩,CT⟩⟩
set_option maxRecDepth 100000 in
set_option maxHeartbeats 4000000 in
theorem zgI(n:Nat)(A B:Nat)(a b:tHop.den)(w:World)(hG:GT w) (hc:∀W,Below w.heap.size w W->Ro A a W/\Ro B b W): SeqStopsK Fence.wide n Tryz.prog 173 #[.pointer (some ⟨A,0,none⟩),.pointer (some ⟨B,0,none⟩)] (λx:Int=> #[.int .i64 x]) (λX Y=>Below w.heap.size X Y) (·=Wz a b) (·<+:Wz a b) 3 w:=by
 intro l J Jx W O hJ Fk hY h0;refine callsIn_of_wp Tryz.func173 rfl trivial ?_ rfl;simp only[Tryz.ntmps173,m_,n_,o_,p_,q_,f_,g_,l_,h_,k_,c_];have c:GT W:=hG.below O;obtain⟨⟨g,j,k,p⟩,s,u,v,y⟩:=hc W O
 gi_wp2
 refine⟨trivial,λh=>(by cases h),(UX c _ _ _).mono ?_⟩;rintro e P ⟨rfl,E⟩;have I:Below w.heap.size w P:=O.trans (E.mono O.size);have gc:=hJ [] W P none h0 (below_grown E _) (λr e=>by cases e);obtain⟨DP,DB,z,T,Fr,At⟩:=hY [] (ee a.1 b.1) P gc (by simp);clear g j k p s u v y c
 gi_wp2
 refine⟨λh=>(by cases h),At.mono ?_⟩;rintro e M (⟨rfl,ph,BT⟩|⟨rfl,CT⟩)
 ·have d:Below w.heap.size w M:=I.trans BT;have c:GT M:=hG.below d;obtain⟨⟨g,j,k,p⟩,s,u,v,y⟩:=hc M d
  gi_wp2
  refine⟨trivial,λh=>(by cases h),(XN c _ _ _).mono ?_⟩;rintro e Q ⟨rfl,F⟩;have L:Below w.heap.size w Q:=d.trans (F.mono d.size);have qr:=hJ _ M Q none ph (below_grown F _) (λr e=>by cases e);obtain⟨DQ,DE,C,U,GS,Bk⟩:=hY _ (ee a.2.1 b.2.1) Q qr (by simp);clear g j k p s u v y c
  gi_wp2
  refine⟨λh=>(by cases h),Bk.mono ?_⟩;rintro e N (⟨rfl,rg,CD⟩|⟨rfl,Dg⟩)
  ·have f:Below w.heap.size w N:=L.trans CD;have c:GT N:=hG.below f;obtain⟨⟨g,j,k,p⟩,s,u,v,y⟩:=hc N f
   gi_wp2
   refine⟨trivial,λh=>(by cases h),(zbT c _ _ _).mono ?_⟩;rintro e R ⟨rfl,H⟩;have DM:Below w.heap.size w R:=f.trans (H.mono f.size);have ur:=hJ _ N R none rg (below_grown H _) (λr e=>by cases e);obtain⟨DS,DH,D,el,Hx,Bx⟩:=hY _ (ee a.2.2.1 b.2.2.1) R ur (by simp);clear g j k p s u v y c
   gi_wp2
   refine⟨λh=>(by cases h),Bx.mono ?_⟩;rintro e W6 (⟨rfl,wr,Fm⟩|⟨rfl,DA⟩)
   ·gi_wp2
    go_end0
    exact⟨⟨_,rfl⟩,.inl ⟨_,rfl,wr⟩⟩
   ·gi_wp2
    go_end0
    exact⟨⟨_,rfl⟩,.inr ⟨_,x_,DA⟩⟩
  ·skip
   gi_wp2
   refine⟨trivial,?_⟩
   gi_wp2
   refine⟨λ_ h=>(by cases h),?_⟩
   gi_wp2
   go_end0
   exact⟨⟨_,rfl⟩,.inr ⟨_,⟨[_],rfl⟩,Dg⟩⟩
 ·skip
  gi_wp2
  refine⟨trivial,?_⟩
  gi_wp2
  refine⟨λ_ h=>(by cases h),?_⟩
  gi_wp2
  refine⟨trivial,?_⟩
  gi_wp2
  go_end0
  exact⟨⟨_,rfl⟩,.inr ⟨_,⟨[_,_],rfl⟩,CT⟩⟩
set_option maxRecDepth 100000 in
set_option maxHeartbeats 4000000 in
theorem zf0(a b:tRoute.den)(D E:Option Addr)(B s C u:Nat)(w:World)(y:GT w): Calls Tryz.prog 115 #[.agg #[.int .u32 a.1.1,.int .i64 a.1.2.1,.int .i64 a.2.1,.int .i64 a.2.2.1,.int .i64 a.2.2.2.1,.int .i64 a.2.2.2.2.1,.slice D B s],.agg #[.int .u32 b.1.1,.int .i64 b.1.2.1,.int .i64 b.2.1,.int .i64 b.2.2.1,.int .i64 b.2.2.2.1,.int .i64 b.2.2.2.2.1,.slice E C u]] w λe l=>e= .returned (.int .i64 (ef (WA a b)))/\Below w.heap.size w l:=by
 refine(callsIn_wide (n:=5)).1 (callsIn_of_wp Tryz.func115 rfl trivial ?_ rfl);simp only[Tryz.ntmps115,m_,n_,o_,p_,q_,f_,g_,l_,h_,k_,c_]
 gi_wp2
 generalize g:Obj.cells _ _ _=c;generalize h:Obj.cells _ _ _=d;have f:Below w.heap.size w ((w.alloc c).alloc d):=((Below.refl _ w).alloc (b_ _) _).alloc (by simp) _;have A:((w.alloc c).alloc d).heap.size=w.heap.size+2:=by simp
 have v:((w.alloc c).alloc d).heap[w.heap.size]? =some c:=(Below.heap_alloc _ _ _ (by simp)).trans (World.alloc_heap_new w _);have x:((w.alloc c).alloc d).heap[w.heap.size+1]? =some d:=by have:=World.alloc_heap_new (w.alloc c) d;rwa [World.size_alloc]at this
 generalize(w.alloc c).alloc d=r at*;refine⟨trivial,(VS 2 (WA a b) 148 _ r 3 (enters_of Tryz.func148 (by kernel_rfl) rfl) (λn=>zgH n w.heap.size (w.heap.size+1) a b r (y.below f) λW p=>?_)).mono ?_⟩;·have j:W.heap[w.heap.size]? =some c:=(p.block _ (by omega)).trans v;have k:W.heap[w.heap.size+1]? =some d:=(p.block _ (by omega)).trans x;subst g;subst h;refine⟨⟨?_,?_,?_,?_⟩,?_,?_,?_,?_⟩;all_goals first|trivial|(simp[World.cell?,j,k])
 ·rintro e l ⟨rfl,z⟩
  gi_wp2
  go_ret
  exact⟨rfl,f.trans (z.mono (by omega))⟩
set_option maxRecDepth 100000 in
set_option maxHeartbeats 4000000 in
theorem zf1(a b:tHop.den)(w:World)(v:GT w): Calls Tryz.prog 146 #[.agg #[.int .u32 a.1,.int .i64 a.2.1,.int .u32 a.2.2.1,.int .i64 a.2.2.2.1,.int .u32 a.2.2.2.2.1.1,.int .i64 a.2.2.2.2.1.2.1],.agg #[.int .u32 b.1,.int .i64 b.2.1,.int .u32 b.2.2.1,.int .i64 b.2.2.2.1,.int .u32 b.2.2.2.2.1.1,.int .i64 b.2.2.2.2.1.2.1]] w λe l=>e= .returned (.int .i64 (ef (Wz a b)))/\Below w.heap.size w l:=by
 refine(callsIn_wide (n:=5)).1 (callsIn_of_wp Tryz.func146 rfl trivial ?_ rfl);simp only[Tryz.ntmps146,m_,n_,o_,p_,q_,f_,g_,l_,h_,k_,c_]
 gi_wp2
 generalize g:Obj.cells _ _ _=c;generalize h:Obj.cells _ _ _=d;have f:Below w.heap.size w ((w.alloc c).alloc d):=((Below.refl _ w).alloc (b_ _) _).alloc (by simp) _;have y:((w.alloc c).alloc d).heap.size=w.heap.size+2:=by simp
 have s:((w.alloc c).alloc d).heap[w.heap.size]? =some c:=(Below.heap_alloc _ _ _ (by simp)).trans (World.alloc_heap_new w _);have u:((w.alloc c).alloc d).heap[w.heap.size+1]? =some d:=by have:=World.alloc_heap_new (w.alloc c) d;rwa [World.size_alloc]at this
 generalize(w.alloc c).alloc d=r at*;refine⟨trivial,(VS 2 (Wz a b) 173 _ r 3 (enters_of Tryz.func173 (by kernel_rfl) rfl) (λn=>zgI n w.heap.size (w.heap.size+1) a b r (v.below f) λW p=>?_)).mono ?_⟩;·have j:W.heap[w.heap.size]? =some c:=(p.block _ (by omega)).trans s;have k:W.heap[w.heap.size+1]? =some d:=(p.block _ (by omega)).trans u;subst g;subst h;refine⟨⟨?_,?_,?_,?_⟩,?_,?_,?_,?_⟩;all_goals first|trivial|(simp[World.cell?,j,k])
 ·rintro e l ⟨rfl,x⟩
  gi_wp2
  go_ret
  exact⟨rfl,f.trans (x.mono (by omega))⟩
theorem zbc{D:Nat->Prop}{w:World}{v:Value}{xs:List PV}(h:RelP D w v (.agg xs)):∃l:List Value,v= .agg l.toArray/\l.length=xs.length/\∀(i:Nat) (v:Value) (x:PV),l[i]? =some v->xs[i]? =some x->RelP D w v x:=by cases h with|agg vs xs hs a=>grind
theorem zgg{D:Nat->Prop}{w:World}{v:Value}{sz:Nat}{xs:List PV}(h:RelP D w v (p5 sz xs)):∃(x:Option Addr) (n c:Nat),v= .slice x n c:=by cases xs with|nil=>have h:RelP D w v (.list 0 []):=h;cases h;simp|cons y ys=>have h:RelP D w v (.list sz (y::ys)):=h;cases h;simp
theorem zcg(a:tRoute.den):aM tRoute a= .agg [.sc (.int .u32 a.1.1),.sc (.int .i64 a.1.2.1),.sc (.int .i64 a.2.1),.sc (.int .i64 a.2.2.1),.sc (.int .i64 a.2.2.2.1),.sc (.int .i64 a.2.2.2.2.1),p5 tHop.sz (a.2.2.2.2.2.1.map (aM tHop))]:=by obtain⟨p,c,d,e,f,b,u⟩:=a;cases b<;>rfl
theorem RA{D:Nat->Prop}{w:World}{v:Value}(a:tRoute.den)(h:RelP D w v (aM tRoute a)):∃(x:Option Addr) (n c:Nat),v= .agg #[.int .u32 a.1.1,.int .i64 a.1.2.1,.int .i64 a.2.1,.int .i64 a.2.2.1,.int .i64 a.2.2.2.1,.int .i64 a.2.2.2.2.1,.slice x n c]:=by
 rw[zcg]at h;obtain⟨l,rfl,hl,b⟩:=zbc h
 match l,hl,b with|[r,s,u,y,z,A,B],_,b=>have d:=b 0 _ _ rfl rfl;have e:=b 1 _ _ rfl rfl;have f:=b 2 _ _ rfl rfl;have g:=b 3 _ _ rfl rfl;have j:=b 4 _ _ rfl rfl;have k:=b 5 _ _ rfl rfl;have p:=b 6 _ _ rfl rfl;cases d;cases e;cases f;cases g;cases j;cases k;obtain⟨x,n,c,rfl⟩:=zgg p;simp
theorem zbd{D:Nat->Prop}{w:World}{v:Value}(a:tHop.den)(h:RelP D w v (aM tHop a)):v= .agg #[.int .u32 a.1,.int .i64 a.2.1,.int .u32 a.2.2.1,.int .i64 a.2.2.2.1,.int .u32 a.2.2.2.2.1.1,.int .i64 a.2.2.2.2.1.2.1]:=by
 have h:RelP D w v (.agg [.sc (.int .u32 a.1),.sc (.int .i64 a.2.1),.sc (.int .u32 a.2.2.1),.sc (.int .i64 a.2.2.2.1),.sc (.int .u32 a.2.2.2.2.1.1),.sc (.int .i64 a.2.2.2.2.1.2.1)]):=h;obtain⟨l,rfl,hl,b⟩:=zbc h
 match l,hl,b with|[k,n,p,r,s,u],_,b=>have c:=b 0 _ _ rfl rfl;have d:=b 1 _ _ rfl rfl;have e:=b 2 _ _ rfl rfl;have f:=b 3 _ _ rfl rfl;have g:=b 4 _ _ rfl rfl;have j:=b 5 _ _ rfl rfl;cases c;cases d;cases e;cases f;cases g;cases j;rfl
theorem L3:MU Tryz.prog 115 uh:=by
 intro ars s hs;unfold uh at hs;split at hs
 ·rename_i a b;cases hs;refine A6 λw D vs g hl c=>?_
  match vs,hl,c with|[n,p],_,c=>obtain⟨r,k,d,rfl⟩:=RA a (c 0 n _ rfl rfl);obtain⟨u,l,f,rfl⟩:=RA b (c 1 p _ rfl rfl);exact(zf0 a b r u k d l f w g).mono λe w' ⟨j,h⟩=>⟨_,j,.sc _,h⟩
 grind
theorem FK:MU Tryz.prog 146 AG:=by
 intro ars s hs;unfold AG at hs;split at hs
 ·rename_i a b;cases hs;refine A6 λw D vs d hl c=>?_
  match vs,hl,c with|[h,j],_,c=>cases zbd a (c 0 h _ rfl rfl);cases zbd b (c 1 j _ rfl rfl);exact(zf1 a b w d).mono λe w' ⟨g,f⟩=>⟨_,g,.sc _,f⟩
 grind
set_option maxHeartbeats 2000000 in
set_option maxRecDepth 100000 in
theorem zdK(l:Addr)(n c:Nat)(b:List Value)(w:World)(hl:b.length=n)(g:n*4<=140737488355328) (hc:∀j u,b[j]? =some u->w.cell? (l.add j)=some u) (C:∀u∈b,u.oneCell'=true): Calls Tryz.prog 70 #[.slice (some l) n c] w λe w'=>∃p,e= .returned p/\w'.ownsRow w.heap.size 29 1 p n b/\Below w.heap.size w w':=by
 have mixed:Tryz.prog.follows .mixedOrders=true:=N0;have f:Tryz.prog.underlying 42=some (.slice 29):=by kernel_rfl
 have I:∀(w:World) (a:Option Addr) (n c y r:Nat),(binOp .eql 42 (.slice a n c) (.slice none y r)).run Tryz.prog w= .ok (.bool a.isNone) w:=λw a n c y r=>Lib.run_eql_slice_nil w _ _ a n c y r f;have J:∀w,Sem.run Tryz.prog (underlying 42) w= .ok (TypeDesc.slice 29) w:=run_underlying f;obtain⟨H,D,s,v,x⟩:=info_parts (P:=Tryz.prog) (e:=29) (z:=.int .u32 0) (size:=1) (bytes:=4) (by kernel_rfl);have A:Aside (∀j u,b[j]? =some u->w.cell? (l.add j)=some u):=hc;clear hc
 go_enter Tryz.func70,Tryz.ntmps70
 go_wp2_with (at_builtin;refine wpList_append_own _ rfl _ _ 42 rfl w.heap.size 29 H (.int .u32 0) 1 4 f D s v x rfl (by decide) _ _ _ rfl (World.ownsRow_made w #[] 0 (b_ _) (z_ _) (by simp)) l n c b rfl ?qc1 ?qc2 ?qc3 ?qc4 ?qc5 ?qc6 ?_)
 case qc1=>omega
 case qc2=>intro j u E;exact Lib.cell?_alloc_some _ (A.out j u E)
 case qc3=>exact C
 case qc4=>rw[t_];unfold maxLen;omega
 case qc5=>rw[t_];exact g
 case qc6=>simp
 intro p L h d B
 go_wp2
 go_ret
 refine⟨p,rfl,by simpa using h,?_⟩;exact((Below.refl _ w).alloc (b_ _) _).grown d (by simp) (by intro k F;simp[Value.ownBlock]at F;omega)
theorem zb8(n c:Nat)(w:World):Calls Tryz.prog 70 #[.slice none n c] w λe w'=>e= .returned (.slice none 0 0)/\w'=w:=by
 have mixed:Tryz.prog.follows .mixedOrders=true:=N0;have f:Tryz.prog.underlying 42=some (.slice 29):=by kernel_rfl
 have g:∀(w:World) (a:Option Addr) (n c d b:Nat),(binOp .eql 42 (.slice a n c) (.slice none d b)).run Tryz.prog w= .ok (.bool a.isNone) w:=λw a n c d b=>Lib.run_eql_slice_nil w _ _ a n c d b f
 go_enter Tryz.func70,Tryz.ntmps70
 go_wp2
 go_ret
 exact⟨rfl,rfl⟩
theorem sS:MU Tryz.prog 70 AF:=by
 intro ars s hs;unfold AF at hs;split at hs
 ·rename_i xs;obtain⟨L,h2⟩:=aV hs;cases h2;have L:=of_decide_eq_true L;intro w θ D vs hG C hl r;have T:θ=[]:=r_ C.len;subst T
  match vs,hl,r with
  |[v],_,r=>
   obtain⟨a,cap,rfl,hcap,hc⟩:=rM (show RelP D w v (p5 1 (xs.map (aM (.int .u32))))from r 0 v _ rfl rfl);rw[j_]at hcap hc⊢;have f:∀(z:Value) (w':World),w'.ownsRow w.heap.size 29 1 z xs.length (xs.map (Value.int .u32))->Below w.heap.size w w'->Back [] D w (λo=>o=some (.b (.pv (p5 1 (xs.map (aM (.int .u32))))),[])) (.returned z) w':=by
    intro z w' c H;refine .inl ⟨z,_,[],[],λb=>D b\/(w.heap.size<=b/\b<w'.heap.size),rfl,rfl,?_,⟨rfl,λb hd=>?_,λi j li lj g n=>(by simp at n),λi l g n=>(by simp at n),λi l o n=>(by simp at n)⟩,.of_below H,λ_ h=>.inl h,λ_ h=>h.elim .inl λh=>.inr (.inr h.1),λi l g n=>(by simp at n),λk l hk=>(by simp at hk),b_ _⟩
    ·show RelP _ w' z (p5 1 (xs.map (aM (.int .u32))));rcases c.2 with⟨rfl,J⟩|⟨g,A,B,rfl,N,hg,p,_,hcs,Q⟩;·cases xs with|nil=>exact .nil _ _|cons y ys=>cases J
     ·have:=gG (D:=λb=>D b\/(w.heap.size<=b/\b<w'.heap.size)) (w:=w') (sz:=1) (xs:=xs.map (aM (.int .u32))) (a:=some ⟨g,0,none⟩) (cap:=A) (by rw[j_];exact p) (λ_=>⟨g,0,rfl,.inr ⟨N,(d_.1 hg).1⟩,λx I=>by obtain⟨y,_,rfl⟩:=s_.1 I;rfl,λi j x y I E=>?_⟩);·rwa [j_]at this
      ·rw[a_]at I;obtain⟨x0,d,rfl⟩:=i_.1 I;have E:[PV.sc (.int .u32 x0)][j]? =some y:=E
       match j,E with
       |0,E=>
        cases E;refine⟨.int .u32 x0,?_,.sc _⟩;have n:i<xs.length:=(e_.1 d).1;have U:B.toList[i]? =some (.int .u32 x0):=by
         have F:(B.toList.take (xs.length*1))[i]? =some (.int .u32 x0):=by rw[Q,a_,d];rfl
         rw[v_]at F;split at F;·exact F
         ·cases F
        rw[u_]at U;simp only[World.cell?,hg];simpa using U
    ·rcases hd with hd|hd;·exact w_ (C.dlt b hd) H.size
     ·exact hd.2
   cases a with
   |none=>
    have J:xs=[]:=by cases xs with|nil=>rfl|cons y ys=>obtain⟨b,o,h,_⟩:=hc (y_ _);cases h
    subst J;exact(zb8 _ _ w).mono λe w' ⟨P,hw⟩=>by subst P;subst hw;exact f _ _ ⟨rfl,.inl ⟨rfl,rfl⟩⟩ (.refl _ _)
   |some ad=>
    refine(zdK ad xs.length cap (xs.map (Value.int .u32)) w (by simp) L (λj u Y=>?_) (λu R=>by obtain⟨x,_,rfl⟩:=s_.1 R;rfl)).mono λe w' ⟨z,P,c,H⟩=>by subst P;exact f z w' c H
    rw[a_]at Y;obtain⟨x0,d,rfl⟩:=i_.1 Y;have el:j<xs.length:=(e_.1 d).1;obtain⟨b,o,M,_,_,O⟩:=hc (by omega);cases M;obtain⟨u',R,hr⟩:=O j 0 (.sc (.int .u32 x0)) (.sc (.int .u32 x0)) (by rw[a_,d];rfl) rfl;cases hr;rw[Addr.add_lit];simpa using R
 ·cases hs
set_option maxHeartbeats 2000000 in
set_option maxRecDepth 100000 in
theorem zdL(l:Addr)(n c:Nat)(b:List Value)(w:World)(hl:b.length=n)(g:n*8<=140737488355328) (hc:∀j u,b[j]? =some u->w.cell? (l.add j)=some u) (C:∀u∈b,u.oneCell'=true): Calls Tryz.prog 71 #[.slice (some l) n c] w λe w'=>∃p,e= .returned p/\w'.ownsRow w.heap.size 3 1 p n b/\Below w.heap.size w w':=by
 have mixed:Tryz.prog.follows .mixedOrders=true:=N0;have f:Tryz.prog.underlying 41=some (.slice 3):=by kernel_rfl
 have I:∀(w:World) (a:Option Addr) (n c y r:Nat),(binOp .eql 41 (.slice a n c) (.slice none y r)).run Tryz.prog w= .ok (.bool a.isNone) w:=λw a n c y r=>Lib.run_eql_slice_nil w _ _ a n c y r f;have J:∀w,Sem.run Tryz.prog (underlying 41) w= .ok (TypeDesc.slice 3) w:=run_underlying f;obtain⟨H,D,s,v,x⟩:=info_parts (P:=Tryz.prog) (e:=3) (z:=.int .i64 0) (size:=1) (bytes:=8) (by kernel_rfl);have A:Aside (∀j u,b[j]? =some u->w.cell? (l.add j)=some u):=hc;clear hc
 go_enter Tryz.func71,Tryz.ntmps71
 go_wp2_with (at_builtin;refine wpList_append_own _ rfl _ _ 41 rfl w.heap.size 3 H (.int .i64 0) 1 8 f D s v x rfl (by decide) _ _ _ rfl (World.ownsRow_made w #[] 0 (b_ _) (z_ _) (by simp)) l n c b rfl ?qc1 ?qc2 ?qc3 ?qc4 ?qc5 ?qc6 ?_)
 case qc1=>omega
 case qc2=>intro j u E;exact Lib.cell?_alloc_some _ (A.out j u E)
 case qc3=>exact C
 case qc4=>rw[t_];unfold maxLen;omega
 case qc5=>rw[t_];exact g
 case qc6=>simp
 intro p L h d B
 go_wp2
 go_ret
 refine⟨p,rfl,by simpa using h,?_⟩;exact((Below.refl _ w).alloc (b_ _) _).grown d (by simp) (by intro k F;simp[Value.ownBlock]at F;omega)
theorem zb9(n c:Nat)(w:World):Calls Tryz.prog 71 #[.slice none n c] w λe w'=>e= .returned (.slice none 0 0)/\w'=w:=by
 have mixed:Tryz.prog.follows .mixedOrders=true:=N0;have f:Tryz.prog.underlying 41=some (.slice 3):=by kernel_rfl
 have g:∀(w:World) (a:Option Addr) (n c d b:Nat),(binOp .eql 41 (.slice a n c) (.slice none d b)).run Tryz.prog w= .ok (.bool a.isNone) w:=λw a n c d b=>Lib.run_eql_slice_nil w _ _ a n c d b f
 go_enter Tryz.func71,Tryz.ntmps71
 go_wp2
 go_ret
 exact⟨rfl,rfl⟩
theorem zS:MU Tryz.prog 71 AD:=by
 intro ars s hs;unfold AD at hs;split at hs
 ·rename_i xs;obtain⟨L,h2⟩:=aV hs;cases h2;have L:=of_decide_eq_true L;intro w θ D vs hG C hl r;have T:θ=[]:=r_ C.len;subst T
  match vs,hl,r with
  |[v],_,r=>
   obtain⟨a,cap,rfl,hcap,hc⟩:=rM (show RelP D w v (p5 1 (xs.map (aM (.int .i64))))from r 0 v _ rfl rfl);rw[j_]at hcap hc⊢;have f:∀(z:Value) (w':World),w'.ownsRow w.heap.size 3 1 z xs.length (xs.map (Value.int .i64))->Below w.heap.size w w'->Back [] D w (λo=>o=some (.b (.pv (p5 1 (xs.map (aM (.int .i64))))),[])) (.returned z) w':=by
    intro z w' c H;refine .inl ⟨z,_,[],[],λb=>D b\/(w.heap.size<=b/\b<w'.heap.size),rfl,rfl,?_,⟨rfl,λb hd=>?_,λi j li lj g n=>(by simp at n),λi l g n=>(by simp at n),λi l o n=>(by simp at n)⟩,.of_below H,λ_ h=>.inl h,λ_ h=>h.elim .inl λh=>.inr (.inr h.1),λi l g n=>(by simp at n),λk l hk=>(by simp at hk),b_ _⟩
    ·show RelP _ w' z (p5 1 (xs.map (aM (.int .i64))));rcases c.2 with⟨rfl,J⟩|⟨g,A,B,rfl,N,hg,p,_,hcs,Q⟩;·cases xs with|nil=>exact .nil _ _|cons y ys=>cases J
     ·have:=gG (D:=λb=>D b\/(w.heap.size<=b/\b<w'.heap.size)) (w:=w') (sz:=1) (xs:=xs.map (aM (.int .i64))) (a:=some ⟨g,0,none⟩) (cap:=A) (by rw[j_];exact p) (λ_=>⟨g,0,rfl,.inr ⟨N,(d_.1 hg).1⟩,λx I=>by obtain⟨y,_,rfl⟩:=s_.1 I;rfl,λi j x y I E=>?_⟩);·rwa [j_]at this
      ·rw[a_]at I;obtain⟨x0,d,rfl⟩:=i_.1 I;have E:[PV.sc (.int .i64 x0)][j]? =some y:=E
       match j,E with
       |0,E=>
        cases E;refine⟨.int .i64 x0,?_,.sc _⟩;have n:i<xs.length:=(e_.1 d).1;have U:B.toList[i]? =some (.int .i64 x0):=by
         have F:(B.toList.take (xs.length*1))[i]? =some (.int .i64 x0):=by rw[Q,a_,d];rfl
         rw[v_]at F;split at F;·exact F
         ·cases F
        rw[u_]at U;simp only[World.cell?,hg];simpa using U
    ·rcases hd with hd|hd;·exact w_ (C.dlt b hd) H.size
     ·exact hd.2
   cases a with
   |none=>
    have J:xs=[]:=by cases xs with|nil=>rfl|cons y ys=>obtain⟨b,o,h,_⟩:=hc (y_ _);cases h
    subst J;exact(zb9 _ _ w).mono λe w' ⟨P,hw⟩=>by subst P;subst hw;exact f _ _ ⟨rfl,.inl ⟨rfl,rfl⟩⟩ (.refl _ _)
   |some ad=>
    refine(zdL ad xs.length cap (xs.map (Value.int .i64)) w (by simp) L (λj u Y=>?_) (λu R=>by obtain⟨x,_,rfl⟩:=s_.1 R;rfl)).mono λe w' ⟨z,P,c,H⟩=>by subst P;exact f z w' c H
    rw[a_]at Y;obtain⟨x0,d,rfl⟩:=i_.1 Y;have el:j<xs.length:=(e_.1 d).1;obtain⟨b,o,M,_,_,O⟩:=hc (by omega);cases M;obtain⟨u',R,hr⟩:=O j 0 (.sc (.int .i64 x0)) (.sc (.int .i64 x0)) (by rw[a_,d];rfl) rfl;cases hr;rw[Addr.add_lit];simpa using R
 ·cases hs
end Go.Proofs.YtmfolppncelceaaGreatDoor
