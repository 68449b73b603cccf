/- The contracts of library functions at this program, off the shelf. No condition. -/
import Derived.Shelf.Strings.Builder1
import Derived.Shelf.Strings.Builder2
import Derived.Shelf.Strings.OnBuilder
import Derived.Shelf.Strconv.Itoa0
import Derived.Shelf.Strconv.Itoa1
import Derived.Shelf.LaysM
import Derived.Shelf.Strconv.Itoa2
import Derived.Shelf.Strconv.Itoa3
import Derived.Shelf.Bits.Mul64
import Derived.Test.YtlcojgogfjlceaaGreatDoorProg
set_option linter.all false
namespace Go.Proofs
open Go.Shelf
def Tryz.AS:Go.Shelf.Ren:=⟨λ|156=>201|165=>297|166=>298|169=>299|240=>348|241=>349|276=>375|277=>376|n=>n,λ|31=>298|9=>9|3=>3|4=>4|0=>0|20=>20|72=>386|76=>390|70=>384|37=>22|75=>389|127=>440|164=>467|5=>5|80=>392|n=>n,λ|n=>n⟩
theorem Tryz.WO:Go.Proofs.Lays.n156 Tryz.prog Tryz.AS:= {
 mixed:=by kernel_rfl
 f156:=Tryz.func201.trans (congrArg some (by kernel_rfl))
 f165:=Tryz.func297.trans (congrArg some (by kernel_rfl))
 f166:=Tryz.func298.trans (congrArg some (by kernel_rfl))
 f169:=Tryz.func299.trans (congrArg some (by kernel_rfl))
 f240:=Tryz.func348.trans (congrArg some (by kernel_rfl))
 f241:=Tryz.func349.trans (congrArg some (by kernel_rfl))
 f276:=Tryz.func375.trans (congrArg some (by kernel_rfl))
 f277:=Tryz.func376.trans (congrArg some (by kernel_rfl))
 t0:=Tryz.underlying0
 a0:=Tryz.isAgg0
 z0:=Tryz.sizeOf0
 v0:=Tryz.zeroValue0
 t3:=Tryz.underlying3
 a3:=Tryz.isAgg3
 z3:=Tryz.sizeOf3
 v3:=Tryz.zeroValue3
 t4:=Tryz.underlying4
 a4:=Tryz.isAgg4
 z4:=Tryz.sizeOf4
 v4:=Tryz.zeroValue4
 t9:=Tryz.underlying9
 a9:=Tryz.isAgg9
 z9:=Tryz.sizeOf9
 v9:=Tryz.zeroValue9
 t20:=Tryz.underlying20
 a20:=Tryz.isAgg20
 z20:=Tryz.sizeOf20
 v20:=Tryz.zeroValue20
 t31:=Tryz.underlying298
 a31:=Tryz.isAgg298
 z31:=Tryz.sizeOf298
 v31:=Tryz.zeroValue298
 t37:=Tryz.underlying22
 a37:=Tryz.isAgg22
 z37:=Tryz.sizeOf22
 v37:=Tryz.zeroValue22
 t70:=Tryz.underlying384
 a70:=Tryz.isAgg384
 z70:=Tryz.sizeOf384
 v70:=Tryz.zeroValue384
 t72:=Tryz.underlying386
 a72:=Tryz.isAgg386
 z72:=Tryz.sizeOf386
 v72:=Tryz.zeroValue386
 t75:=Tryz.underlying389
 a75:=Tryz.isAgg389
 z75:=Tryz.sizeOf389
 v75:=Tryz.zeroValue389
 t76:=Tryz.underlying390
 a76:=Tryz.isAgg390
 z76:=Tryz.sizeOf390
 v76:=Tryz.zeroValue390
 t127:=Tryz.underlying440
 a127:=Tryz.isAgg440
 z127:=Tryz.sizeOf440
 v127:=Tryz.zeroValue440
 t164:=Tryz.underlying467
 a164:=Tryz.isAgg467
 z164:=Tryz.sizeOf467
 v164:=Tryz.zeroValue467}
theorem Tryz.yL:Builder.Extra Tryz.prog Tryz.AS:= {
 sizeBuilder:=by kernel_rfl
 liesBuilder:=by kernel_rfl
 t5:=Tryz.underlying5
 a5:=Tryz.isAgg5
 z5:=Tryz.sizeOf5
 v5:=Tryz.zeroValue5
 infoByte:=by kernel_rfl
 cellsByte:=by kernel_rfl
 sizeByte:=by kernel_rfl
 neB5:=by decide}
open Go.RowKit in
theorem Tryz.strings_Join (bk o c:Nat) (xs:List ByteArray) (sep:ByteArray) (w:World) (nE:∀(j:Nat) x,xs[j]? =some x->w.cell? ⟨bk,o+j,none⟩=some (.string x)) (hbk:bk<w.heap.size) (hN:xs.length≤140737488355328) (Ad:xs.length≤c) (hlen:(Lib.join (xs.map (·.data.toList)) sep.data.toList).length≤140737488355328):
  Calls Tryz.prog 201 #[.slice (some ⟨bk,o,none⟩) xs.length c,.string sep] w λe w'=>e= .returned (.string ⟨(Lib.join (xs.map (·.data.toList)) sep.data.toList).toArray⟩)∧Below w.heap.size w w':=Any.strings_Join Tryz.WO Tryz.yL bk o c xs sep w nE hbk hN Ad hlen
def Tryz.GN:Go.Shelf.Ren:=⟨λ|171=>119|243=>202|246=>296|283=>344|284=>345|285=>346|286=>347|129=>279|317=>371|318=>372|319=>373|320=>374|337=>387|338=>388|n=>n,λ|3=>3|9=>9|2=>2|4=>4|171=>178|0=>0|53=>24|37=>22|5=>5|173=>438|212=>464|51=>56|20=>20|213=>465|46=>118|232=>27|233=>445|n=>n,λ|17=>1|18=>2|19=>3|n=>n⟩
theorem Tryz.RN:Go.Proofs.LaysM.n171 Tryz.prog Tryz.GN:= {
 mixed:=by kernel_rfl
 f129:=Tryz.func279.trans (congrArg some (by kernel_rfl))
 f171:=Tryz.func119.trans (congrArg some (by kernel_rfl))
 f243:=Tryz.func202.trans (congrArg some (by kernel_rfl))
 f246:=Tryz.func296.trans (congrArg some (by kernel_rfl))
 f283:=Tryz.func344.trans (congrArg some (by kernel_rfl))
 f284:=Tryz.func345.trans (congrArg some (by kernel_rfl))
 f285:=Tryz.func346.trans (congrArg some (by kernel_rfl))
 f286:=Tryz.func347.trans (congrArg some (by kernel_rfl))
 f317:=Tryz.func371.trans (congrArg some (by kernel_rfl))
 f318:=Tryz.func372.trans (congrArg some (by kernel_rfl))
 f319:=Tryz.func373.trans (congrArg some (by kernel_rfl))
 f320:=Tryz.func374.trans (congrArg some (by kernel_rfl))
 f337:=Tryz.func387.trans (congrArg some (by kernel_rfl))
 f338:=Tryz.func388.trans (congrArg some (by kernel_rfl))
 t0:=Tryz.underlying0
 a0:=Tryz.isAgg0
 z0:=Tryz.sizeOf0
 v0:=Tryz.zeroValue0
 t2:=Tryz.underlying2
 a2:=Tryz.isAgg2
 z2:=Tryz.sizeOf2
 v2:=Tryz.zeroValue2
 t3:=Tryz.underlying3
 a3:=Tryz.isAgg3
 z3:=Tryz.sizeOf3
 v3:=Tryz.zeroValue3
 t4:=Tryz.underlying4
 a4:=Tryz.isAgg4
 z4:=Tryz.sizeOf4
 v4:=Tryz.zeroValue4
 t5:=Tryz.underlying5
 a5:=Tryz.isAgg5
 z5:=Tryz.sizeOf5
 v5:=Tryz.zeroValue5
 t9:=Tryz.underlying9
 a9:=Tryz.isAgg9
 z9:=Tryz.sizeOf9
 v9:=Tryz.zeroValue9
 t20:=Tryz.underlying20
 a20:=Tryz.isAgg20
 z20:=Tryz.sizeOf20
 v20:=Tryz.zeroValue20
 t37:=Tryz.underlying22
 a37:=Tryz.isAgg22
 z37:=Tryz.sizeOf22
 v37:=Tryz.zeroValue22
 t46:=Tryz.underlying118
 a46:=Tryz.isAgg118
 z46:=Tryz.sizeOf118
 v46:=Tryz.zeroValue118
 t51:=Tryz.underlying56
 a51:=Tryz.isAgg56
 z51:=Tryz.sizeOf56
 v51:=Tryz.zeroValue56
 t53:=Tryz.underlying24
 a53:=Tryz.isAgg24
 z53:=Tryz.sizeOf24
 v53:=Tryz.zeroValue24
 t171:=Tryz.underlying178
 a171:=Tryz.isAgg178
 z171:=Tryz.sizeOf178
 v171:=Tryz.zeroValue178
 t173:=Tryz.underlying438
 a173:=Tryz.isAgg438
 z173:=Tryz.sizeOf438
 v173:=Tryz.zeroValue438
 t212:=Tryz.underlying464
 a212:=Tryz.isAgg464
 z212:=Tryz.sizeOf464
 v212:=Tryz.zeroValue464
 t213:=Tryz.underlying465
 a213:=Tryz.isAgg465
 z213:=Tryz.sizeOf465
 t232:=Tryz.underlying27
 a232:=Tryz.isAgg27
 z232:=Tryz.sizeOf27
 v232:=Tryz.zeroValue27
 t233:=Tryz.underlying445
 a233:=Tryz.isAgg445
 z233:=Tryz.sizeOf445
 v233:=Tryz.zeroValue445
 g17:=by kernel_rfl
 g18:=by kernel_rfl
 g19:=by kernel_rfl
 i0:=by kernel_rfl
 i2:=by kernel_rfl
 i3:=by kernel_rfl
 i4:=by kernel_rfl
 i5:=by kernel_rfl
 i9:=by kernel_rfl
 i20:=by kernel_rfl
 i37:=by kernel_rfl
 i46:=by kernel_rfl
 i51:=by kernel_rfl
 i53:=by kernel_rfl
 i171:=by kernel_rfl
 i173:=by kernel_rfl
 i212:=by kernel_rfl
 i232:=by kernel_rfl
 i233:=by kernel_rfl
 m17:=by kernel_rfl
 m18:=by kernel_rfl
 m19:=by kernel_rfl}
open Go.RowKit Go.Sort Go.Lib in
theorem Tryz.strconv_Itoa (n:Int) (h0: -9223372036854775808≤n) (h1:n≤9223372036854775807) (w:World) (awh:Lib.TabIs Tryz.prog w "internal/strconv.uint64pow10" .u64 Lib.pow10Tab):
  Calls Tryz.prog 119 #[.int .i64 n] w λe w'=>e= .returned (.string ⟨(Lib.itoa n).toArray⟩)∧∃k os,w'=grow (w.drewN k) os:=Any.strconv_Itoa Tryz.RN n h0 h1 w awh
end Go.Proofs
