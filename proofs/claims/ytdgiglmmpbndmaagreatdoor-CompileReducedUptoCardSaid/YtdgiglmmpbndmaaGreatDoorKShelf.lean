import Derived.Shelf.Strconv.Itoa0
import Derived.Shelf.Strconv.Itoa1
import Derived.Shelf.LaysM
import Derived.Shelf.Strconv.Itoa2
import Derived.Shelf.Strconv.Itoa3
import Derived.Test.YtdgiglmmpbndmaaGreatDoorProg
set_option linter.unusedVariables false
set_option linter.unusedSimpArgs false
namespace Go.Proofs
open Go.Shelf
def Tryz.laysM171_ren:Go.Shelf.Ren:=⟨fun|171=>265|243=>290|246=>298|283=>301|284=>302|285=>303|286=>304|129=>306|317=>305|318=>307|319=>308|320=>309|337=>310|338=>311|n=>n,fun|3=>3|9=>9|2=>2|4=>4|171=>402|0=>0|53=>324|37=>397|5=>5|173=>405|212=>407|51=>42|20=>20|213=>408|46=>268|232=>411|233=>412|n=>n,fun|17=>0|18=>1|19=>2|n=>n⟩
theorem Tryz.laysM171:Go.Proofs.LaysM.n171 Tryz.prog Tryz.laysM171_ren:={
 mixed:=by kernel_rfl
 f129:=Tryz.func306.trans (congrArg some (by kernel_rfl))
 f171:=Tryz.func265.trans (congrArg some (by kernel_rfl))
 f243:=Tryz.func290.trans (congrArg some (by kernel_rfl))
 f246:=Tryz.func298.trans (congrArg some (by kernel_rfl))
 f283:=Tryz.func301.trans (congrArg some (by kernel_rfl))
 f284:=Tryz.func302.trans (congrArg some (by kernel_rfl))
 f285:=Tryz.func303.trans (congrArg some (by kernel_rfl))
 f286:=Tryz.func304.trans (congrArg some (by kernel_rfl))
 f317:=Tryz.func305.trans (congrArg some (by kernel_rfl))
 f318:=Tryz.func307.trans (congrArg some (by kernel_rfl))
 f319:=Tryz.func308.trans (congrArg some (by kernel_rfl))
 f320:=Tryz.func309.trans (congrArg some (by kernel_rfl))
 f337:=Tryz.func310.trans (congrArg some (by kernel_rfl))
 f338:=Tryz.func311.trans (congrArg some (by kernel_rfl))
 t0:=Tryz.underlying0
 a0:=Tryz.isAgg0
 z0:=Tryz.sizeOf0
 v0:=Tryz.zeroValue0
 t2:=Tryz.underlying2
 a2:=Tryz.isAgg2
 z2:=Tryz.sizeOf2
 v2:=Tryz.zeroValue2
 t3:=Tryz.underlying3
 a3:=Tryz.isAgg3
 z3:=Tryz.sizeOf3
 v3:=Tryz.zeroValue3
 t4:=Tryz.underlying4
 a4:=Tryz.isAgg4
 z4:=Tryz.sizeOf4
 v4:=Tryz.zeroValue4
 t5:=Tryz.underlying5
 a5:=Tryz.isAgg5
 z5:=Tryz.sizeOf5
 v5:=Tryz.zeroValue5
 t9:=Tryz.underlying9
 a9:=Tryz.isAgg9
 z9:=Tryz.sizeOf9
 v9:=Tryz.zeroValue9
 t20:=Tryz.underlying20
 a20:=Tryz.isAgg20
 z20:=Tryz.sizeOf20
 v20:=Tryz.zeroValue20
 t37:=Tryz.underlying397
 a37:=Tryz.isAgg397
 z37:=Tryz.sizeOf397
 v37:=Tryz.zeroValue397
 t46:=Tryz.underlying268
 a46:=Tryz.isAgg268
 z46:=Tryz.sizeOf268
 v46:=Tryz.zeroValue268
 t51:=Tryz.underlying42
 a51:=Tryz.isAgg42
 z51:=Tryz.sizeOf42
 v51:=Tryz.zeroValue42
 t53:=Tryz.underlying324
 a53:=Tryz.isAgg324
 z53:=Tryz.sizeOf324
 v53:=Tryz.zeroValue324
 t171:=Tryz.underlying402
 a171:=Tryz.isAgg402
 z171:=Tryz.sizeOf402
 v171:=Tryz.zeroValue402
 t173:=Tryz.underlying405
 a173:=Tryz.isAgg405
 z173:=Tryz.sizeOf405
 v173:=Tryz.zeroValue405
 t212:=Tryz.underlying407
 a212:=Tryz.isAgg407
 z212:=Tryz.sizeOf407
 v212:=Tryz.zeroValue407
 t213:=Tryz.underlying408
 a213:=Tryz.isAgg408
 z213:=Tryz.sizeOf408
 t232:=Tryz.underlying411
 a232:=Tryz.isAgg411
 z232:=Tryz.sizeOf411
 v232:=Tryz.zeroValue411
 t233:=Tryz.underlying412
 a233:=Tryz.isAgg412
 z233:=Tryz.sizeOf412
 v233:=Tryz.zeroValue412
 g17:=by kernel_rfl
 g18:=by kernel_rfl
 g19:=by kernel_rfl
 i0:=by kernel_rfl
 i2:=by kernel_rfl
 i3:=by kernel_rfl
 i4:=by kernel_rfl
 i5:=by kernel_rfl
 i9:=by kernel_rfl
 i20:=by kernel_rfl
 i37:=by kernel_rfl
 i46:=by kernel_rfl
 i51:=by kernel_rfl
 i53:=by kernel_rfl
 i171:=by kernel_rfl
 i173:=by kernel_rfl
 i212:=by kernel_rfl
 i232:=by kernel_rfl
 i233:=by kernel_rfl
 m17:=by kernel_rfl
 m18:=by kernel_rfl
 m19:=by kernel_rfl}
open Go.RowKit Go.Sort Go.Lib in
theorem Tryz.strconv_Itoa(n:Int)(h0: -9223372036854775808<=n)(h1:n<=9223372036854775807)(w:World)(htab:Lib.TabIs Tryz.prog w "internal/strconv.uint64pow10" .u64 Lib.pow10Tab):
 Calls Tryz.prog 265 #[.int .i64 n] w λe w'=>e= .returned (.string ⟨(Lib.itoa n).toArray⟩)/\∃k os,w'=grow (w.drewN k) os:=Any.strconv_Itoa Tryz.laysM171 n h0 h1 w htab
end Go.Proofs
