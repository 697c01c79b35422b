/- strconv.Itoa at this program. No condition but that its table reads as its text lays it. -/
import Derived.Test.YtdndeffmlhaipaaGreatDoorQ00
import Derived.Shelf.Strconv.Itoa3
import Derived.Shelf.LaysM
import Derived.Lib.AppendIntMem
import Derived.Test.YtdndeffmlhaipaaGreatDoorM01
import Derived.Test.YtdndeffmlhaipaaGreatDoorProg
import Derived.Test.YtdndeffmlhaipaaGreatDoorRows
set_option linter.all false
set_option maxRecDepth 100000
set_option maxHeartbeats 8000000
namespace Go.Proofs.YtdndeffmlhaipaaGreatDoor
open Go Go.Shelf Go.RowKit
def qbg:Go.Shelf.Ren:=⟨fun|171=>20|243=>39|246=>58|283=>74|284=>75|285=>76|286=>77|129=>94|317=>93|318=>95|319=>96|320=>97|337=>121|338=>122|n=>n,fun|3=>3|9=>9|2=>2|4=>4|171=>134|0=>0|53=>54|37=>24|5=>5|173=>137|212=>170|51=>23|20=>20|213=>171|46=>173|232=>227|233=>228|n=>n,fun|17=>0|18=>1|19=>2|n=>n⟩
theorem qeX:Go.Proofs.LaysM.n171 Tryz.prog qbg:= {
  mixed:=by kernel_rfl
  f129:=Tryz.func94.trans (congrArg some (by kernel_rfl))
  f171:=Tryz.func20.trans (congrArg some (by kernel_rfl))
  f243:=Tryz.func39.trans (congrArg some (by kernel_rfl))
  f246:=Tryz.func58.trans (congrArg some (by kernel_rfl))
  f283:=Tryz.func74.trans (congrArg some (by kernel_rfl))
  f284:=Tryz.func75.trans (congrArg some (by kernel_rfl))
  f285:=Tryz.func76.trans (congrArg some (by kernel_rfl))
  f286:=Tryz.func77.trans (congrArg some (by kernel_rfl))
  f317:=Tryz.func93.trans (congrArg some (by kernel_rfl))
  f318:=Tryz.func95.trans (congrArg some (by kernel_rfl))
  f319:=Tryz.func96.trans (congrArg some (by kernel_rfl))
  f320:=Tryz.func97.trans (congrArg some (by kernel_rfl))
  f337:=Tryz.func121.trans (congrArg some (by kernel_rfl))
  f338:=Tryz.func122.trans (congrArg some (by kernel_rfl))
  t0:=Tryz.underlying0
  a0:=Tryz.isAgg0
  z0:=Tryz.sizeOf0
  v0:=Tryz.zeroValue0
  t2:=Tryz.underlying2
  a2:=Tryz.isAgg2
  z2:=Tryz.sizeOf2
  v2:=Tryz.zeroValue2
  t3:=Tryz.underlying3
  a3:=Tryz.isAgg3
  z3:=Tryz.sizeOf3
  v3:=Tryz.zeroValue3
  t4:=Tryz.underlying4
  a4:=Tryz.isAgg4
  z4:=Tryz.sizeOf4
  v4:=Tryz.zeroValue4
  t5:=Tryz.underlying5
  a5:=Tryz.isAgg5
  z5:=Tryz.sizeOf5
  v5:=Tryz.zeroValue5
  t9:=Tryz.underlying9
  a9:=Tryz.isAgg9
  z9:=Tryz.sizeOf9
  v9:=Tryz.zeroValue9
  t20:=Tryz.underlying20
  a20:=Tryz.isAgg20
  z20:=Tryz.sizeOf20
  v20:=Tryz.zeroValue20
  t37:=Tryz.underlying24
  a37:=Tryz.isAgg24
  z37:=Tryz.sizeOf24
  v37:=Tryz.zeroValue24
  t46:=Tryz.underlying173
  a46:=Tryz.isAgg173
  z46:=Tryz.sizeOf173
  v46:=Tryz.zeroValue173
  t51:=Tryz.underlying23
  a51:=Tryz.isAgg23
  z51:=Tryz.sizeOf23
  v51:=Tryz.zeroValue23
  t53:=Tryz.underlying54
  a53:=Tryz.isAgg54
  z53:=Tryz.sizeOf54
  v53:=Tryz.zeroValue54
  t171:=Tryz.underlying134
  a171:=Tryz.isAgg134
  z171:=Tryz.sizeOf134
  v171:=Tryz.zeroValue134
  t173:=Tryz.underlying137
  a173:=Tryz.isAgg137
  z173:=Tryz.sizeOf137
  v173:=Tryz.zeroValue137
  t212:=Tryz.underlying170
  a212:=Tryz.isAgg170
  z212:=Tryz.sizeOf170
  v212:=Tryz.zeroValue170
  t213:=Tryz.underlying171
  a213:=Tryz.isAgg171
  z213:=Tryz.sizeOf171
  t232:=Tryz.underlying227
  a232:=Tryz.isAgg227
  z232:=Tryz.sizeOf227
  v232:=Tryz.zeroValue227
  t233:=Tryz.underlying228
  a233:=Tryz.isAgg228
  z233:=Tryz.sizeOf228
  v233:=Tryz.zeroValue228
  g17:=by kernel_rfl
  g18:=by kernel_rfl
  g19:=by kernel_rfl
  i0:=by kernel_rfl
  i2:=by kernel_rfl
  i3:=by kernel_rfl
  i4:=by kernel_rfl
  i5:=by kernel_rfl
  i9:=by kernel_rfl
  i20:=by kernel_rfl
  i37:=by kernel_rfl
  i46:=by kernel_rfl
  i51:=by kernel_rfl
  i53:=by kernel_rfl
  i171:=by kernel_rfl
  i173:=by kernel_rfl
  i212:=by kernel_rfl
  i232:=by kernel_rfl
  i233:=by kernel_rfl
  m17:=by kernel_rfl
  m18:=by kernel_rfl
  m19:=by kernel_rfl }
def qaw:String:=(Rows.clashSearchesRow.laid.getD 2 default).1
def TabW (w:World):Prop:=Lib.TabIs Tryz.prog w qaw .u64 Lib.pow10Tab
theorem TabW.below {w w':World}(h:TabW w)(hb:Below w.heap.size w w'):TabW w':=Lib.tabBelow_of_tabIs h w' hb
theorem qeW (n:Int)(h0: -9223372036854775808≤n)(h1:n≤9223372036854775807)(w:World)(ht:TabW w):
  Calls Tryz.prog 20 #[.int .i64 n] w fun e w'=>e= .returned (.string ⟨(Lib.itoa n).toArray⟩)∧Below w.heap.size w w':=
 (Any.strconv_Itoa qeX n h0 h1 w ht).mono fun e w' h=>⟨h.1,by
  obtain⟨k,os,rfl⟩:=h.2;exact Lib.below_grow _ w Nl k os⟩
end Go.Proofs.YtdndeffmlhaipaaGreatDoor
