import Derived.Test.YthjnceggmnicmaaGreatDoorRows
import Derived.Test.YthjnceggmnicmaaGreatDoorKL7
import Derived.Test.YthjnceggmnicmaaGreatDoorKTE
import Derived.ProofKit
import Derived.SizedLaws
import Derived.LaidLaws
import Derived.Deep.DeepHandedRow
import Derived.Lib.LaidTab
set_option linter.unusedVariables false
set_option linter.unusedSimpArgs false
open Option.some renaming inj->a_
namespace Go.Proofs.YthjnceggmnicmaaGreatDoor
open Go Go.Av Go.Ev Go.RowKit Go.ChangeShapes Go.WideShapes Go.ChangeAt
theorem own:ownKnob Tryz.prog.godebug=none:=by kernel_rfl
theorem laidOut:laidOutB Tryz.prog=true:=by kernel_rfl
theorem mixed:Tryz.prog.follows .mixedOrders=true:=by kernel_rfl
theorem g0:Tryz.prog.globalNamed "internal/strconv.uint64pow10" =some 0:=by kernel_rfl
theorem ty0:(Tryz.prog.globals[0]?).map (·.type)=some 259:=by kernel_rfl
theorem un66:∃e,Tryz.prog.underlying 259=some (.array 20 e)/\Tryz.prog.underlying e=some (.int .u64)/\Tryz.prog.cellsOf e=1:=⟨239,by kernel_rfl,by kernel_rfl,by kernel_rfl⟩
theorem ce66:Tryz.prog.cellsOf 259=20:=by kernel_rfl
abbrev laidL:List (String×DataW Unit):=Rows.applyCheckRow.laid
theorem gw_of_laid{W:World}(h:laidMet Tryz.prog laidL W):GT W:=by
 obtain⟨ps,⟨_,_,_,_,_,_,_,_,_,_,⟨_,_,_,_,_,_,_,_,_,_,⟨g',t',cs,fuel,p,q,hg',ht',hvar,hd,_,_⟩,_⟩,_⟩,_⟩:=h
 obtain rfl:=a_ (g0.symm.trans hg')
 obtain rfl:=a_ (ty0.symm.trans ht')
 obtain⟨e,h1,h2,h3⟩:=un66
 have hd':DataW.trod _ Tryz.prog _ _ _ _ fuel 259 cs.toList=some (Lib.tabData .u64 Lib.pow10Tab,p):=hd
 show Lib.TabIs Tryz.prog W _ _ _
 unfold Lib.TabIs
 rw[hvar,<-Lib.cells_of_tab h1 h2 h3 ce66 hd']
def tab32:List Int:=[0,1,28,2,29,14,24,3,30,22,20,15,25,17,4,8,31,27,13,23,21,19,16,7,26,12,18,6,11,5,10,9]
def tab64:List Int:=[0,1,56,2,57,49,28,3,61,58,42,50,38,29,17,4,62,47,59,36,45,43,51,22,53,39,33,30,24,18,12,5,63,55,48,27,60,41,37,16,46,35,44,21,52,32,23,11,54,26,40,15,34,20,31,10,25,14,19,9,13,8,7,6]
def setCells(k:IntKind)(l:List Int):Obj->Obj
 | .cells _ t frozen=>.cells (l.map (Value.int k)).toArray t frozen
 |o=>o
noncomputable def laidWorld(os:Os):World:=
 let w0:=World.holding Tryz.prog os ⟨#[], #[],[]⟩
 {w0 with heap:=((w0.heap.modify 0 (setCells .u64 Lib.pow10Tab)).modify 1 (setCells .u8 tab32)).modify 2 (setCells .u8 tab64)}
set_option maxRecDepth 100000 in
theorem laidWorld_met(os:Os)(args:Array Value):laidMet Tryz.prog laidL ((laidWorld os).forCall (λ_ _=>0) ⟨#[],args,[]⟩).memory:=
 laidMet_of_run' 8 (by kernel_rfl) (by kernel_rfl)
mutual
theorem bulk1{H:Type}:∀d:DataW H,Rows.uptoBulk d=eH d
 | .lit l=>by cases l<;>simp[Rows.uptoBulk,eH]
 | .nil=>by simp[Rows.uptoBulk,eH]
 | .ptr d=>by simp only[Rows.uptoBulk,eH,bulk1 d]
 | .slice e s=>by simp only[Rows.uptoBulk,eH,bulk2 e,bulk2 s]
 | .agg l=>by simp only[Rows.uptoBulk,eH,bulk2 l]
 | .iface _ d=>by simp only[Rows.uptoBulk,eH,bulk1 d]
 | .map l=>by simp only[Rows.uptoBulk,eH,bulk3 l]
 | .held _=>by simp[Rows.uptoBulk,eH]
theorem bulk2{H:Type}:∀l:List (DataW H),Rows.uptoBulkAll l=nX l
 |[]=>by simp[Rows.uptoBulkAll,nX]
 |d::l=>by simp only[Rows.uptoBulkAll,nX,bulk1 d,bulk2 l]
theorem bulk3{H:Type}:∀l:List (Lit×DataW H),Rows.uptoBulkEntries l=L9 l
 |[]=>by simp[Rows.uptoBulkEntries,L9]
 |d::l=>by simp only[Rows.uptoBulkEntries,L9,bulk4 d,bulk3 l]
theorem bulk4{H:Type}:∀x:Lit×DataW H,Rows.uptoBulkEntry x=XK x
 |(l,d)=>by cases l<;>simp only[Rows.uptoBulkEntry,XK,bulk1 d]
end
theorem bulk_small{H:Type}{ds:List (DataW H)}(h:Rows.uptoSmall H (ds++[])=true):nX ds<=1048576:=by
 have h1:Rows.uptoBulkAll (ds++[])<=1048576:=of_decide_eq_true h
 rw[List.append_nil,bulk2]at h1
 exact h1
def LawOkU(N:Nat)(us:List Ty):Prop:=∀xs:HD us,zdA us xs->Lz us xs<=1048576->∃s:S,Conv tbl N (FO us xs) [] (·=some s)/\a7 (res s.fr.length s.fr)= .b (.pv (.sc (.bool true)))
end Go.Proofs.YthjnceggmnicmaaGreatDoor
