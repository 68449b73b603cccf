/- The contracts of library functions at this program, off the shelf. No condition. -/
import Derived.Shelf.Strings.Builder1
import Derived.Shelf.Strings.Builder2
import Derived.Shelf.Strings.OnBuilder
import Derived.Shelf.Strconv.Itoa0
import Derived.Shelf.Strconv.Itoa1
import Derived.Shelf.LaysM
import Derived.Shelf.Strconv.Itoa2
import Derived.Shelf.Strconv.Itoa3
import Derived.Test.YtddacpkeacbjfaaGreatDoorProg
set_option linter.all false
namespace Go.Proofs
open Go.Shelf
def Tryz.AN:Go.Shelf.Ren:=⟨λ|156=>288|165=>311|166=>312|169=>313|240=>330|241=>331|276=>340|277=>341|n=>n,λ|31=>343|9=>9|3=>3|4=>4|0=>0|20=>20|72=>366|76=>369|70=>364|37=>22|75=>368|127=>387|164=>393|5=>5|80=>371|n=>n,λ|n=>n⟩
theorem Tryz.YQ:Go.Proofs.Lays.n156 Tryz.prog Tryz.AN:= {
 mixed:=by kernel_rfl
 f156:=Tryz.func288.trans (congrArg some (by kernel_rfl))
 f165:=Tryz.func311.trans (congrArg some (by kernel_rfl))
 f166:=Tryz.func312.trans (congrArg some (by kernel_rfl))
 f169:=Tryz.func313.trans (congrArg some (by kernel_rfl))
 f240:=Tryz.func330.trans (congrArg some (by kernel_rfl))
 f241:=Tryz.func331.trans (congrArg some (by kernel_rfl))
 f276:=Tryz.func340.trans (congrArg some (by kernel_rfl))
 f277:=Tryz.func341.trans (congrArg some (by kernel_rfl))
 t0:=Tryz.underlying0
 a0:=Tryz.isAgg0
 z0:=Tryz.sizeOf0
 v0:=Tryz.zeroValue0
 t3:=Tryz.underlying3
 a3:=Tryz.isAgg3
 z3:=Tryz.sizeOf3
 v3:=Tryz.zeroValue3
 t4:=Tryz.underlying4
 a4:=Tryz.isAgg4
 z4:=Tryz.sizeOf4
 v4:=Tryz.zeroValue4
 t9:=Tryz.underlying9
 a9:=Tryz.isAgg9
 z9:=Tryz.sizeOf9
 v9:=Tryz.zeroValue9
 t20:=Tryz.underlying20
 a20:=Tryz.isAgg20
 z20:=Tryz.sizeOf20
 v20:=Tryz.zeroValue20
 t31:=Tryz.underlying343
 a31:=Tryz.isAgg343
 z31:=Tryz.sizeOf343
 v31:=Tryz.zeroValue343
 t37:=Tryz.underlying22
 a37:=Tryz.isAgg22
 z37:=Tryz.sizeOf22
 v37:=Tryz.zeroValue22
 t70:=Tryz.underlying364
 a70:=Tryz.isAgg364
 z70:=Tryz.sizeOf364
 v70:=Tryz.zeroValue364
 t72:=Tryz.underlying366
 a72:=Tryz.isAgg366
 z72:=Tryz.sizeOf366
 v72:=Tryz.zeroValue366
 t75:=Tryz.underlying368
 a75:=Tryz.isAgg368
 z75:=Tryz.sizeOf368
 v75:=Tryz.zeroValue368
 t76:=Tryz.underlying369
 a76:=Tryz.isAgg369
 z76:=Tryz.sizeOf369
 v76:=Tryz.zeroValue369
 t127:=Tryz.underlying387
 a127:=Tryz.isAgg387
 z127:=Tryz.sizeOf387
 v127:=Tryz.zeroValue387
 t164:=Tryz.underlying393
 a164:=Tryz.isAgg393
 z164:=Tryz.sizeOf393
 v164:=Tryz.zeroValue393}
theorem Tryz.yr:Builder.Extra Tryz.prog Tryz.AN:= {
 sizeBuilder:=by kernel_rfl
 liesBuilder:=by kernel_rfl
 t5:=Tryz.underlying5
 a5:=Tryz.isAgg5
 z5:=Tryz.sizeOf5
 v5:=Tryz.zeroValue5
 infoByte:=by kernel_rfl
 cellsByte:=by kernel_rfl
 sizeByte:=by kernel_rfl
 neB5:=by decide}
open Go.RowKit in
theorem Tryz.strings_Join (bk o c:Nat) (xs:List ByteArray) (sep:ByteArray) (w:World) (mN:∀(j:Nat) x,xs[j]? =some x->w.cell? ⟨bk,o+j,none⟩=some (.string x)) (U5:bk<w.heap.size) (hN:xs.length≤140737488355328) (Eh:xs.length≤c) (hlen:(Lib.join (xs.map (·.data.toList)) sep.data.toList).length≤140737488355328):
  Calls Tryz.prog 288 #[.slice (some ⟨bk,o,none⟩) xs.length c,.string sep] w λe w'=>e= .returned (.string ⟨(Lib.join (xs.map (·.data.toList)) sep.data.toList).toArray⟩)∧Below w.heap.size w w':=Any.strings_Join Tryz.YQ Tryz.yr bk o c xs sep w mN U5 hN Eh hlen
def Tryz.GW:Go.Shelf.Ren:=⟨λ|171=>250|243=>289|246=>310|283=>326|284=>327|285=>328|286=>329|129=>336|317=>335|318=>337|319=>338|320=>339|337=>344|338=>345|n=>n,λ|3=>3|9=>9|2=>2|4=>4|171=>208|0=>0|53=>23|37=>22|5=>5|173=>385|212=>390|51=>55|20=>20|213=>391|46=>104|232=>26|233=>358|n=>n,λ|17=>1|18=>2|19=>3|n=>n⟩
theorem Tryz.TV:Go.Proofs.LaysM.n171 Tryz.prog Tryz.GW:= {
 mixed:=by kernel_rfl
 f129:=Tryz.func336.trans (congrArg some (by kernel_rfl))
 f171:=Tryz.func250.trans (congrArg some (by kernel_rfl))
 f243:=Tryz.func289.trans (congrArg some (by kernel_rfl))
 f246:=Tryz.func310.trans (congrArg some (by kernel_rfl))
 f283:=Tryz.func326.trans (congrArg some (by kernel_rfl))
 f284:=Tryz.func327.trans (congrArg some (by kernel_rfl))
 f285:=Tryz.func328.trans (congrArg some (by kernel_rfl))
 f286:=Tryz.func329.trans (congrArg some (by kernel_rfl))
 f317:=Tryz.func335.trans (congrArg some (by kernel_rfl))
 f318:=Tryz.func337.trans (congrArg some (by kernel_rfl))
 f319:=Tryz.func338.trans (congrArg some (by kernel_rfl))
 f320:=Tryz.func339.trans (congrArg some (by kernel_rfl))
 f337:=Tryz.func344.trans (congrArg some (by kernel_rfl))
 f338:=Tryz.func345.trans (congrArg some (by kernel_rfl))
 t0:=Tryz.underlying0
 a0:=Tryz.isAgg0
 z0:=Tryz.sizeOf0
 v0:=Tryz.zeroValue0
 t2:=Tryz.underlying2
 a2:=Tryz.isAgg2
 z2:=Tryz.sizeOf2
 v2:=Tryz.zeroValue2
 t3:=Tryz.underlying3
 a3:=Tryz.isAgg3
 z3:=Tryz.sizeOf3
 v3:=Tryz.zeroValue3
 t4:=Tryz.underlying4
 a4:=Tryz.isAgg4
 z4:=Tryz.sizeOf4
 v4:=Tryz.zeroValue4
 t5:=Tryz.underlying5
 a5:=Tryz.isAgg5
 z5:=Tryz.sizeOf5
 v5:=Tryz.zeroValue5
 t9:=Tryz.underlying9
 a9:=Tryz.isAgg9
 z9:=Tryz.sizeOf9
 v9:=Tryz.zeroValue9
 t20:=Tryz.underlying20
 a20:=Tryz.isAgg20
 z20:=Tryz.sizeOf20
 v20:=Tryz.zeroValue20
 t37:=Tryz.underlying22
 a37:=Tryz.isAgg22
 z37:=Tryz.sizeOf22
 v37:=Tryz.zeroValue22
 t46:=Tryz.underlying104
 a46:=Tryz.isAgg104
 z46:=Tryz.sizeOf104
 v46:=Tryz.zeroValue104
 t51:=Tryz.underlying55
 a51:=Tryz.isAgg55
 z51:=Tryz.sizeOf55
 v51:=Tryz.zeroValue55
 t53:=Tryz.underlying23
 a53:=Tryz.isAgg23
 z53:=Tryz.sizeOf23
 v53:=Tryz.zeroValue23
 t171:=Tryz.underlying208
 a171:=Tryz.isAgg208
 z171:=Tryz.sizeOf208
 v171:=Tryz.zeroValue208
 t173:=Tryz.underlying385
 a173:=Tryz.isAgg385
 z173:=Tryz.sizeOf385
 v173:=Tryz.zeroValue385
 t212:=Tryz.underlying390
 a212:=Tryz.isAgg390
 z212:=Tryz.sizeOf390
 v212:=Tryz.zeroValue390
 t213:=Tryz.underlying391
 a213:=Tryz.isAgg391
 z213:=Tryz.sizeOf391
 t232:=Tryz.underlying26
 a232:=Tryz.isAgg26
 z232:=Tryz.sizeOf26
 v232:=Tryz.zeroValue26
 t233:=Tryz.underlying358
 a233:=Tryz.isAgg358
 z233:=Tryz.sizeOf358
 v233:=Tryz.zeroValue358
 g17:=by kernel_rfl
 g18:=by kernel_rfl
 g19:=by kernel_rfl
 i0:=by kernel_rfl
 i2:=by kernel_rfl
 i3:=by kernel_rfl
 i4:=by kernel_rfl
 i5:=by kernel_rfl
 i9:=by kernel_rfl
 i20:=by kernel_rfl
 i37:=by kernel_rfl
 i46:=by kernel_rfl
 i51:=by kernel_rfl
 i53:=by kernel_rfl
 i171:=by kernel_rfl
 i173:=by kernel_rfl
 i212:=by kernel_rfl
 i232:=by kernel_rfl
 i233:=by kernel_rfl
 m17:=by kernel_rfl
 m18:=by kernel_rfl
 m19:=by kernel_rfl}
open Go.RowKit Go.Sort Go.Lib in
theorem Tryz.strconv_Itoa (n:Int) (h0: -9223372036854775808≤n) (h1:n≤9223372036854775807) (w:World) (aCT:Lib.TabIs Tryz.prog w "internal/strconv.uint64pow10" .u64 Lib.pow10Tab):
  Calls Tryz.prog 250 #[.int .i64 n] w λe w'=>e= .returned (.string ⟨(Lib.itoa n).toArray⟩)∧∃k os,w'=grow (w.drewN k) os:=Any.strconv_Itoa Tryz.TV n h0 h1 w aCT
end Go.Proofs
