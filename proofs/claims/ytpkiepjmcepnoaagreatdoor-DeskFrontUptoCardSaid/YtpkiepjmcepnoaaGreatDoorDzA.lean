/- A part of a proof. -/
import Derived.Shelf.Strings.Builder1
import Derived.Shelf.Strings.Builder2
import Derived.Shelf.Strings.OnBuilder
import Derived.Shelf.Strings.BuilderF
import Derived.Shelf.Strings.BuilderK
import Derived.Shelf.LaysM
import Derived.Shelf.Strconv.Itoa3
import Derived.Shelf.Strconv.Itoa4
import Derived.Shelf.Strings.Search3
import Derived.Shelf.Strings.Prefix
import Derived.Shelf.Strings.Split
import Derived.Shelf.Strings.Replace
import Derived.Shelf.Slices.Equal
import Derived.Shelf.Slices.Empties2
import Derived.Ground.SlgnProg
import Derived.Test.YtpkiepjmcepnoaaGreatDoorProg
import Derived.Test.YtpkiepjmcepnoaaGreatDoorRows
import Derived.Lib.Replace
import Derived.Lib.ItoaLen
import Derived.Lib.SplitLaws
import Derived.WalkKit
import Derived.ProofKit
set_option maxHeartbeats 16000000
set_option maxRecDepth 100000
set_option linter.unusedVariables false
namespace Go.Proofs
open Go.Shelf
def Tryz.lays169_ren:Go.Shelf.Ren:=⟨fun|169=>68|n=>n,fun|70=>139|9=>9|0=>0|72=>141|37=>136|127=>172|3=>3|5=>5|n=>n,fun|n=>n⟩
theorem Tryz.lays169:Go.Proofs.Lays.n169 Tryz.prog Tryz.lays169_ren:={
 mixed:=by kernel_rfl
 f169:=Tryz.func68.trans (congrArg some (by kernel_rfl))
 t0:=Tryz.underlying0
 a0:=Tryz.isAgg0
 z0:=Tryz.sizeOf0
 v0:=Tryz.zeroValue0
 t3:=Tryz.underlying3
 a3:=Tryz.isAgg3
 z3:=Tryz.sizeOf3
 v3:=Tryz.zeroValue3
 t9:=Tryz.underlying9
 a9:=Tryz.isAgg9
 z9:=Tryz.sizeOf9
 v9:=Tryz.zeroValue9
 t37:=Tryz.underlying136
 a37:=Tryz.isAgg136
 z37:=Tryz.sizeOf136
 v37:=Tryz.zeroValue136
 t70:=Tryz.underlying139
 a70:=Tryz.isAgg139
 z70:=Tryz.sizeOf139
 v70:=Tryz.zeroValue139
 t72:=Tryz.underlying141
 a72:=Tryz.isAgg141
 z72:=Tryz.sizeOf141
 v72:=Tryz.zeroValue141
 t127:=Tryz.underlying172
 a127:=Tryz.isAgg172
 z127:=Tryz.sizeOf172
 v127:=Tryz.zeroValue172}
theorem Tryz.Builder_Extra_169:Builder.Extra Tryz.prog Tryz.lays169_ren:={
 sizeBuilder:=by kernel_rfl
 liesBuilder:=by kernel_rfl
 t5:=Tryz.underlying5
 a5:=Tryz.isAgg5
 z5:=Tryz.sizeOf5
 v5:=Tryz.zeroValue5
 infoByte:=by kernel_rfl
 cellsByte:=by kernel_rfl
 sizeByte:=by kernel_rfl
 neB5:=by decide}
open Go.RowKit in
theorem Tryz.Builder_String_any (B b:Nat) (l:List UInt8) (w:World) (h:Lib.IsBuilder 141 5 B b (Lib.byteCells l) w) (hBw:B≤w.heap.size):
  Calls Tryz.prog 68 #[.pointer (some ⟨b,0,none⟩)] w fun e w'=>e=.returned (.string ⟨l.toArray⟩)∧Below B w w':=Any.Builder_String_any Tryz.lays169 Tryz.Builder_Extra_169 B b l w h hBw
def Tryz.lays158_ren:Go.Shelf.Ren:=⟨fun|158=>64|165=>89|166=>66|167=>90|169=>68|230=>91|203=>92|240=>94|241=>127|197=>45|118=>128|168=>129|270=>130|262=>131|276=>132|277=>160|260=>72|242=>161|313=>162|278=>173|274=>174|275=>175|n=>n,fun|9=>9|4=>4|3=>3|5=>5|72=>141|0=>0|76=>146|75=>145|107=>170|70=>139|20=>20|37=>136|127=>172|21=>21|105=>123|164=>224|162=>263|203=>261|119=>176|46=>127|139=>179|138=>178|51=>153|160=>277|208=>297|206=>295|80=>115|n=>n,fun|13=>4|3=>1|4=>2|n=>n⟩
theorem Tryz.lays158:Go.Proofs.Lays.n158 Tryz.prog Tryz.lays158_ren:={
 mixed:=by kernel_rfl
 f118:=Tryz.func128.trans (congrArg some (by kernel_rfl))
 f158:=Tryz.func64.trans (congrArg some (by kernel_rfl))
 f165:=Tryz.func89.trans (congrArg some (by kernel_rfl))
 f166:=Tryz.func66.trans (congrArg some (by kernel_rfl))
 f167:=Tryz.func90.trans (congrArg some (by kernel_rfl))
 f168:=Tryz.func129.trans (congrArg some (by kernel_rfl))
 f169:=Tryz.func68.trans (congrArg some (by kernel_rfl))
 f197:=Tryz.func45.trans (congrArg some (by kernel_rfl))
 f203:=Tryz.func92.trans (congrArg some (by kernel_rfl))
 f230:=Tryz.func91.trans (congrArg some (by kernel_rfl))
 f240:=Tryz.func94.trans (congrArg some (by kernel_rfl))
 f241:=Tryz.func127.trans (congrArg some (by kernel_rfl))
 f242:=Tryz.func161.trans (congrArg some (by kernel_rfl))
 f260:=Tryz.func72.trans (congrArg some (by kernel_rfl))
 f262:=Tryz.func131.trans (congrArg some (by kernel_rfl))
 f270:=Tryz.func130.trans (congrArg some (by kernel_rfl))
 f274:=Tryz.func174.trans (congrArg some (by kernel_rfl))
 f275:=Tryz.func175.trans (congrArg some (by kernel_rfl))
 f276:=Tryz.func132.trans (congrArg some (by kernel_rfl))
 f277:=Tryz.func160.trans (congrArg some (by kernel_rfl))
 f278:=Tryz.func173.trans (congrArg some (by kernel_rfl))
 f313:=Tryz.func162.trans (congrArg some (by kernel_rfl))
 t0:=Tryz.underlying0
 a0:=Tryz.isAgg0
 z0:=Tryz.sizeOf0
 v0:=Tryz.zeroValue0
 t3:=Tryz.underlying3
 a3:=Tryz.isAgg3
 z3:=Tryz.sizeOf3
 v3:=Tryz.zeroValue3
 t4:=Tryz.underlying4
 a4:=Tryz.isAgg4
 z4:=Tryz.sizeOf4
 v4:=Tryz.zeroValue4
 t5:=Tryz.underlying5
 a5:=Tryz.isAgg5
 z5:=Tryz.sizeOf5
 v5:=Tryz.zeroValue5
 t9:=Tryz.underlying9
 a9:=Tryz.isAgg9
 z9:=Tryz.sizeOf9
 v9:=Tryz.zeroValue9
 t20:=Tryz.underlying20
 a20:=Tryz.isAgg20
 z20:=Tryz.sizeOf20
 v20:=Tryz.zeroValue20
 t21:=Tryz.underlying21
 a21:=Tryz.isAgg21
 z21:=Tryz.sizeOf21
 v21:=Tryz.zeroValue21
 t37:=Tryz.underlying136
 a37:=Tryz.isAgg136
 z37:=Tryz.sizeOf136
 v37:=Tryz.zeroValue136
 t46:=Tryz.underlying127
 a46:=Tryz.isAgg127
 z46:=Tryz.sizeOf127
 v46:=Tryz.zeroValue127
 t51:=Tryz.underlying153
 a51:=Tryz.isAgg153
 z51:=Tryz.sizeOf153
 v51:=Tryz.zeroValue153
 t70:=Tryz.underlying139
 a70:=Tryz.isAgg139
 z70:=Tryz.sizeOf139
 v70:=Tryz.zeroValue139
 t72:=Tryz.underlying141
 a72:=Tryz.isAgg141
 z72:=Tryz.sizeOf141
 v72:=Tryz.zeroValue141
 t75:=Tryz.underlying145
 a75:=Tryz.isAgg145
 z75:=Tryz.sizeOf145
 v75:=Tryz.zeroValue145
 t76:=Tryz.underlying146
 a76:=Tryz.isAgg146
 z76:=Tryz.sizeOf146
 v76:=Tryz.zeroValue146
 t105:=Tryz.underlying123
 a105:=Tryz.isAgg123
 z105:=Tryz.sizeOf123
 v105:=Tryz.zeroValue123
 t107:=Tryz.underlying170
 a107:=Tryz.isAgg170
 z107:=Tryz.sizeOf170
 v107:=Tryz.zeroValue170
 t119:=Tryz.underlying176
 a119:=Tryz.isAgg176
 z119:=Tryz.sizeOf176
 t127:=Tryz.underlying172
 a127:=Tryz.isAgg172
 z127:=Tryz.sizeOf172
 v127:=Tryz.zeroValue172
 t138:=Tryz.underlying178
 a138:=Tryz.isAgg178
 z138:=Tryz.sizeOf178
 v138:=Tryz.zeroValue178
 t139:=Tryz.underlying179
 a139:=Tryz.isAgg179
 z139:=Tryz.sizeOf179
 v139:=Tryz.zeroValue179
 t160:=Tryz.underlying277
 a160:=Tryz.isAgg277
 z160:=Tryz.sizeOf277
 v160:=Tryz.zeroValue277
 t162:=Tryz.underlying263
 a162:=Tryz.isAgg263
 z162:=Tryz.sizeOf263
 v162:=Tryz.zeroValue263
 t164:=Tryz.underlying224
 a164:=Tryz.isAgg224
 z164:=Tryz.sizeOf224
 v164:=Tryz.zeroValue224
 t203:=Tryz.underlying261
 a203:=Tryz.isAgg261
 z203:=Tryz.sizeOf261
 v203:=Tryz.zeroValue261
 t206:=Tryz.underlying295
 a206:=Tryz.isAgg295
 z206:=Tryz.sizeOf295
 v206:=Tryz.zeroValue295
 t208:=Tryz.underlying297
 a208:=Tryz.isAgg297
 z208:=Tryz.sizeOf297
 v208:=Tryz.zeroValue297
 g3:=by kernel_rfl
 g4:=by kernel_rfl
 g13:=by kernel_rfl}
theorem Tryz.Builder_Extra_158:Builder.Extra Tryz.prog Tryz.lays158_ren:={
 sizeBuilder:=by kernel_rfl
 liesBuilder:=by kernel_rfl
 t5:=Tryz.underlying5
 a5:=Tryz.isAgg5
 z5:=Tryz.sizeOf5
 v5:=Tryz.zeroValue5
 infoByte:=by kernel_rfl
 cellsByte:=by kernel_rfl
 sizeByte:=by kernel_rfl
 neB5:=by decide}
open Go.RowKit in
theorem Tryz.strings_ToUpper_ascii (s:ByteArray) (w:World) (hs:s.size≤140737488355328) (hascii:∀(j:Nat) (b:UInt8),s.data.toList[j]?=some b→b.toNat<128):
  Calls Tryz.prog 64 #[.string s] w fun e w'=>e=.returned (.string ⟨(Lib.toUpperA s.data.toList).toArray⟩)∧Below w.heap.size w w':=Any.strings_ToUpper_ascii Tryz.lays158 Tryz.Builder_Extra_158 s w hs hascii
def Tryz.laysM171_ren:Go.Shelf.Ren:=⟨fun|171=>20|243=>32|246=>58|283=>76|284=>77|285=>78|286=>79|129=>98|317=>97|318=>99|319=>100|320=>101|337=>135|338=>136|n=>n,fun|3=>3|9=>9|2=>2|4=>4|171=>157|0=>0|53=>158|37=>136|5=>5|173=>161|212=>181|51=>153|20=>20|213=>182|46=>127|232=>265|233=>266|n=>n,fun|17=>3|18=>5|19=>6|n=>n⟩
theorem Tryz.laysM171:Go.Proofs.LaysM.n171 Tryz.prog Tryz.laysM171_ren:={
 mixed:=by kernel_rfl
 f129:=Tryz.func98.trans (congrArg some (by kernel_rfl))
 f171:=Tryz.func20.trans (congrArg some (by kernel_rfl))
 f243:=Tryz.func32.trans (congrArg some (by kernel_rfl))
 f246:=Tryz.func58.trans (congrArg some (by kernel_rfl))
 f283:=Tryz.func76.trans (congrArg some (by kernel_rfl))
 f284:=Tryz.func77.trans (congrArg some (by kernel_rfl))
 f285:=Tryz.func78.trans (congrArg some (by kernel_rfl))
 f286:=Tryz.func79.trans (congrArg some (by kernel_rfl))
 f317:=Tryz.func97.trans (congrArg some (by kernel_rfl))
 f318:=Tryz.func99.trans (congrArg some (by kernel_rfl))
 f319:=Tryz.func100.trans (congrArg some (by kernel_rfl))
 f320:=Tryz.func101.trans (congrArg some (by kernel_rfl))
 f337:=Tryz.func135.trans (congrArg some (by kernel_rfl))
 f338:=Tryz.func136.trans (congrArg some (by kernel_rfl))
 t0:=Tryz.underlying0
 a0:=Tryz.isAgg0
 z0:=Tryz.sizeOf0
 v0:=Tryz.zeroValue0
 t2:=Tryz.underlying2
 a2:=Tryz.isAgg2
 z2:=Tryz.sizeOf2
 v2:=Tryz.zeroValue2
 t3:=Tryz.underlying3
 a3:=Tryz.isAgg3
 z3:=Tryz.sizeOf3
 v3:=Tryz.zeroValue3
 t4:=Tryz.underlying4
 a4:=Tryz.isAgg4
 z4:=Tryz.sizeOf4
 v4:=Tryz.zeroValue4
 t5:=Tryz.underlying5
 a5:=Tryz.isAgg5
 z5:=Tryz.sizeOf5
 v5:=Tryz.zeroValue5
 t9:=Tryz.underlying9
 a9:=Tryz.isAgg9
 z9:=Tryz.sizeOf9
 v9:=Tryz.zeroValue9
 t20:=Tryz.underlying20
 a20:=Tryz.isAgg20
 z20:=Tryz.sizeOf20
 v20:=Tryz.zeroValue20
 t37:=Tryz.underlying136
 a37:=Tryz.isAgg136
 z37:=Tryz.sizeOf136
 v37:=Tryz.zeroValue136
 t46:=Tryz.underlying127
 a46:=Tryz.isAgg127
 z46:=Tryz.sizeOf127
 v46:=Tryz.zeroValue127
 t51:=Tryz.underlying153
 a51:=Tryz.isAgg153
 z51:=Tryz.sizeOf153
 v51:=Tryz.zeroValue153
 t53:=Tryz.underlying158
 a53:=Tryz.isAgg158
 z53:=Tryz.sizeOf158
 v53:=Tryz.zeroValue158
 t171:=Tryz.underlying157
 a171:=Tryz.isAgg157
 z171:=Tryz.sizeOf157
 v171:=Tryz.zeroValue157
 t173:=Tryz.underlying161
 a173:=Tryz.isAgg161
 z173:=Tryz.sizeOf161
 v173:=Tryz.zeroValue161
 t212:=Tryz.underlying181
 a212:=Tryz.isAgg181
 z212:=Tryz.sizeOf181
 v212:=Tryz.zeroValue181
 t213:=Tryz.underlying182
 a213:=Tryz.isAgg182
 z213:=Tryz.sizeOf182
 t232:=Tryz.underlying265
 a232:=Tryz.isAgg265
 z232:=Tryz.sizeOf265
 v232:=Tryz.zeroValue265
 t233:=Tryz.underlying266
 a233:=Tryz.isAgg266
 z233:=Tryz.sizeOf266
 v233:=Tryz.zeroValue266
 g17:=by kernel_rfl
 g18:=by kernel_rfl
 g19:=by kernel_rfl
 i0:=by kernel_rfl
 i2:=by kernel_rfl
 i3:=by kernel_rfl
 i4:=by kernel_rfl
 i5:=by kernel_rfl
 i9:=by kernel_rfl
 i20:=by kernel_rfl
 i37:=by kernel_rfl
 i46:=by kernel_rfl
 i51:=by kernel_rfl
 i53:=by kernel_rfl
 i171:=by kernel_rfl
 i173:=by kernel_rfl
 i212:=by kernel_rfl
 i232:=by kernel_rfl
 i233:=by kernel_rfl
 m17:=by kernel_rfl
 m18:=by kernel_rfl
 m19:=by kernel_rfl}
open Go.RowKit Go.Sort Go.Lib in
theorem Tryz.strconv_Itoa (n : Int) (h0 : -9223372036854775808 ≤ n) (h1 : n ≤ 9223372036854775807) (w : World) (htab : Lib.TabIs Tryz.prog w "internal/strconv.uint64pow10" .u64 Lib.pow10Tab) :
  Calls Tryz.prog 20 #[.int .i64 n] w fun e w'=>e=.returned (.string ⟨(Lib.itoa n).toArray⟩)∧∃k os,w'=grow (w.drewN k) os:=Any.strconv_Itoa Tryz.laysM171 n h0 h1 w htab
def Tryz.laysM173_ren:Go.Shelf.Ren:=⟨fun|173=>88|246=>58|283=>76|284=>77|285=>78|286=>79|129=>98|317=>97|318=>99|319=>100|320=>101|337=>135|338=>136|n=>n,fun|2=>2|3=>3|9=>9|4=>4|171=>157|0=>0|53=>158|37=>136|5=>5|173=>161|212=>181|51=>153|20=>20|213=>182|46=>127|232=>265|233=>266|n=>n,fun|17=>3|18=>5|19=>6|n=>n⟩
theorem Tryz.laysM173:Go.Proofs.LaysM.n173 Tryz.prog Tryz.laysM173_ren:={
 mixed:=by kernel_rfl
 f129:=Tryz.func98.trans (congrArg some (by kernel_rfl))
 f173:=Tryz.func88.trans (congrArg some (by kernel_rfl))
 f246:=Tryz.func58.trans (congrArg some (by kernel_rfl))
 f283:=Tryz.func76.trans (congrArg some (by kernel_rfl))
 f284:=Tryz.func77.trans (congrArg some (by kernel_rfl))
 f285:=Tryz.func78.trans (congrArg some (by kernel_rfl))
 f286:=Tryz.func79.trans (congrArg some (by kernel_rfl))
 f317:=Tryz.func97.trans (congrArg some (by kernel_rfl))
 f318:=Tryz.func99.trans (congrArg some (by kernel_rfl))
 f319:=Tryz.func100.trans (congrArg some (by kernel_rfl))
 f320:=Tryz.func101.trans (congrArg some (by kernel_rfl))
 f337:=Tryz.func135.trans (congrArg some (by kernel_rfl))
 f338:=Tryz.func136.trans (congrArg some (by kernel_rfl))
 t0:=Tryz.underlying0
 a0:=Tryz.isAgg0
 z0:=Tryz.sizeOf0
 v0:=Tryz.zeroValue0
 t2:=Tryz.underlying2
 a2:=Tryz.isAgg2
 z2:=Tryz.sizeOf2
 v2:=Tryz.zeroValue2
 t3:=Tryz.underlying3
 a3:=Tryz.isAgg3
 z3:=Tryz.sizeOf3
 v3:=Tryz.zeroValue3
 t4:=Tryz.underlying4
 a4:=Tryz.isAgg4
 z4:=Tryz.sizeOf4
 v4:=Tryz.zeroValue4
 t5:=Tryz.underlying5
 a5:=Tryz.isAgg5
 z5:=Tryz.sizeOf5
 v5:=Tryz.zeroValue5
 t9:=Tryz.underlying9
 a9:=Tryz.isAgg9
 z9:=Tryz.sizeOf9
 v9:=Tryz.zeroValue9
 t20:=Tryz.underlying20
 a20:=Tryz.isAgg20
 z20:=Tryz.sizeOf20
 v20:=Tryz.zeroValue20
 t37:=Tryz.underlying136
 a37:=Tryz.isAgg136
 z37:=Tryz.sizeOf136
 v37:=Tryz.zeroValue136
 t46:=Tryz.underlying127
 a46:=Tryz.isAgg127
 z46:=Tryz.sizeOf127
 v46:=Tryz.zeroValue127
 t51:=Tryz.underlying153
 a51:=Tryz.isAgg153
 z51:=Tryz.sizeOf153
 v51:=Tryz.zeroValue153
 t53:=Tryz.underlying158
 a53:=Tryz.isAgg158
 z53:=Tryz.sizeOf158
 v53:=Tryz.zeroValue158
 t171:=Tryz.underlying157
 a171:=Tryz.isAgg157
 z171:=Tryz.sizeOf157
 v171:=Tryz.zeroValue157
 t173:=Tryz.underlying161
 a173:=Tryz.isAgg161
 z173:=Tryz.sizeOf161
 v173:=Tryz.zeroValue161
 t212:=Tryz.underlying181
 a212:=Tryz.isAgg181
 z212:=Tryz.sizeOf181
 v212:=Tryz.zeroValue181
 t213:=Tryz.underlying182
 a213:=Tryz.isAgg182
 z213:=Tryz.sizeOf182
 t232:=Tryz.underlying265
 a232:=Tryz.isAgg265
 z232:=Tryz.sizeOf265
 v232:=Tryz.zeroValue265
 t233:=Tryz.underlying266
 a233:=Tryz.isAgg266
 z233:=Tryz.sizeOf266
 v233:=Tryz.zeroValue266
 g17:=by kernel_rfl
 g18:=by kernel_rfl
 g19:=by kernel_rfl
 i0:=by kernel_rfl
 i2:=by kernel_rfl
 i3:=by kernel_rfl
 i4:=by kernel_rfl
 i5:=by kernel_rfl
 i9:=by kernel_rfl
 i20:=by kernel_rfl
 i37:=by kernel_rfl
 i46:=by kernel_rfl
 i51:=by kernel_rfl
 i53:=by kernel_rfl
 i171:=by kernel_rfl
 i173:=by kernel_rfl
 i212:=by kernel_rfl
 i232:=by kernel_rfl
 i233:=by kernel_rfl
 m17:=by kernel_rfl
 m18:=by kernel_rfl
 m19:=by kernel_rfl}
open Go.RowKit Go.Sort Go.Lib in
theorem Tryz.strconv_FormatInt_10 (n : Int) (h0 : -9223372036854775808 ≤ n) (h1 : n ≤ 9223372036854775807) (w : World) (htab : Lib.TabIs Tryz.prog w "internal/strconv.uint64pow10" .u64 Lib.pow10Tab) :
  Calls Tryz.prog 88 #[.int .i64 n,.int .i64 10] w fun e w'=>e=.returned (.string ⟨(Lib.itoa n).toArray⟩)∧∃k os,w'=grow (w.drewN k) os:=Any.strconv_FormatInt_10 Tryz.laysM173 n h0 h1 w htab
def Tryz.lays144_ren:Go.Shelf.Ren:=⟨fun|144=>10|143=>16|219=>24|217=>47|225=>48|224=>49|267=>50|266=>73|314=>74|n=>n,fun|9=>9|4=>4|3=>3|5=>5|46=>127|146=>154|51=>153|n=>n,fun|1=>0|n=>n⟩
theorem Tryz.lays144:Go.Proofs.Lays.n144 Tryz.prog Tryz.lays144_ren:={
 mixed:=by kernel_rfl
 f143:=Tryz.func16.trans (congrArg some (by kernel_rfl))
 f144:=Tryz.func10.trans (congrArg some (by kernel_rfl))
 f217:=Tryz.func47.trans (congrArg some (by kernel_rfl))
 f219:=Tryz.func24.trans (congrArg some (by kernel_rfl))
 f224:=Tryz.func49.trans (congrArg some (by kernel_rfl))
 f225:=Tryz.func48.trans (congrArg some (by kernel_rfl))
 f266:=Tryz.func73.trans (congrArg some (by kernel_rfl))
 f267:=Tryz.func50.trans (congrArg some (by kernel_rfl))
 f314:=Tryz.func74.trans (congrArg some (by kernel_rfl))
 t3:=Tryz.underlying3
 a3:=Tryz.isAgg3
 z3:=Tryz.sizeOf3
 v3:=Tryz.zeroValue3
 t4:=Tryz.underlying4
 a4:=Tryz.isAgg4
 z4:=Tryz.sizeOf4
 v4:=Tryz.zeroValue4
 t5:=Tryz.underlying5
 a5:=Tryz.isAgg5
 z5:=Tryz.sizeOf5
 v5:=Tryz.zeroValue5
 t9:=Tryz.underlying9
 a9:=Tryz.isAgg9
 z9:=Tryz.sizeOf9
 v9:=Tryz.zeroValue9
 t46:=Tryz.underlying127
 a46:=Tryz.isAgg127
 z46:=Tryz.sizeOf127
 v46:=Tryz.zeroValue127
 t51:=Tryz.underlying153
 a51:=Tryz.isAgg153
 z51:=Tryz.sizeOf153
 v51:=Tryz.zeroValue153
 t146:=Tryz.underlying154
 a146:=Tryz.isAgg154
 z146:=Tryz.sizeOf154
 v146:=Tryz.zeroValue154
 g1:=by kernel_rfl}
open Go.RowKit Go.Lib in
theorem Tryz.strings_Contains_one (s:ByteArray) (c:UInt8) (w:World):
  Calls Tryz.prog 10 #[.string s,.string ⟨#[c]⟩] w fun e w'=>e=.returned (.bool (decide (0≤Lib.indexByte s.data.toList c)))∧w'=w:=Any.strings_Contains_one Tryz.lays144 s c w
def Tryz.lays101_ren:Go.Shelf.Ren:=⟨fun|101=>61|208=>84|206=>125|n=>n,fun|9=>9|4=>4|3=>3|n=>n,fun|n=>n⟩
theorem Tryz.lays101:Go.Proofs.Lays.n101 Tryz.prog Tryz.lays101_ren:={
 mixed:=by kernel_rfl
 f101:=Tryz.func61.trans (congrArg some (by kernel_rfl))
 f206:=Tryz.func125.trans (congrArg some (by kernel_rfl))
 f208:=Tryz.func84.trans (congrArg some (by kernel_rfl))
 t3:=Tryz.underlying3
 a3:=Tryz.isAgg3
 z3:=Tryz.sizeOf3
 v3:=Tryz.zeroValue3
 t4:=Tryz.underlying4
 a4:=Tryz.isAgg4
 z4:=Tryz.sizeOf4
 v4:=Tryz.zeroValue4
 t9:=Tryz.underlying9
 a9:=Tryz.isAgg9
 z9:=Tryz.sizeOf9
 v9:=Tryz.zeroValue9}
open Go.RowKit Go.Lib in
theorem Tryz.strings_TrimPrefix (s p:ByteArray) (w:World):
  Calls Tryz.prog 61 #[.string s,.string p] w fun e w'=>e=.returned (.string ⟨(Lib.trimPrefix s.data.toList p.data.toList).toArray⟩)∧w'=w:=Any.strings_TrimPrefix Tryz.lays101 s p w
def Tryz.lays146_ren:Go.Shelf.Ren:=⟨fun|146=>7|221=>14|268=>22|138=>23|143=>16|195=>44|197=>45|218=>46|219=>24|260=>72|217=>47|225=>48|224=>49|267=>50|266=>73|314=>74|n=>n,fun|9=>9|31=>22|3=>3|4=>4|0=>0|105=>123|21=>21|5=>5|46=>127|119=>176|139=>179|138=>178|146=>154|51=>153|n=>n,fun|1=>0|3=>1|4=>2|n=>n⟩
theorem Tryz.lays146:Go.Proofs.Lays.n146 Tryz.prog Tryz.lays146_ren:={
 mixed:=by kernel_rfl
 f138:=Tryz.func23.trans (congrArg some (by kernel_rfl))
 f143:=Tryz.func16.trans (congrArg some (by kernel_rfl))
 f146:=Tryz.func7.trans (congrArg some (by kernel_rfl))
 f195:=Tryz.func44.trans (congrArg some (by kernel_rfl))
 f197:=Tryz.func45.trans (congrArg some (by kernel_rfl))
 f217:=Tryz.func47.trans (congrArg some (by kernel_rfl))
 f218:=Tryz.func46.trans (congrArg some (by kernel_rfl))
 f219:=Tryz.func24.trans (congrArg some (by kernel_rfl))
 f221:=Tryz.func14.trans (congrArg some (by kernel_rfl))
 f224:=Tryz.func49.trans (congrArg some (by kernel_rfl))
 f225:=Tryz.func48.trans (congrArg some (by kernel_rfl))
 f260:=Tryz.func72.trans (congrArg some (by kernel_rfl))
 f266:=Tryz.func73.trans (congrArg some (by kernel_rfl))
 f267:=Tryz.func50.trans (congrArg some (by kernel_rfl))
 f268:=Tryz.func22.trans (congrArg some (by kernel_rfl))
 f314:=Tryz.func74.trans (congrArg some (by kernel_rfl))
 t0:=Tryz.underlying0
 a0:=Tryz.isAgg0
 z0:=Tryz.sizeOf0
 v0:=Tryz.zeroValue0
 t3:=Tryz.underlying3
 a3:=Tryz.isAgg3
 z3:=Tryz.sizeOf3
 v3:=Tryz.zeroValue3
 t4:=Tryz.underlying4
 a4:=Tryz.isAgg4
 z4:=Tryz.sizeOf4
 v4:=Tryz.zeroValue4
 t5:=Tryz.underlying5
 a5:=Tryz.isAgg5
 z5:=Tryz.sizeOf5
 v5:=Tryz.zeroValue5
 t9:=Tryz.underlying9
 a9:=Tryz.isAgg9
 z9:=Tryz.sizeOf9
 v9:=Tryz.zeroValue9
 t21:=Tryz.underlying21
 a21:=Tryz.isAgg21
 z21:=Tryz.sizeOf21
 v21:=Tryz.zeroValue21
 t31:=Tryz.underlying22
 a31:=Tryz.isAgg22
 z31:=Tryz.sizeOf22
 v31:=Tryz.zeroValue22
 t46:=Tryz.underlying127
 a46:=Tryz.isAgg127
 z46:=Tryz.sizeOf127
 v46:=Tryz.zeroValue127
 t51:=Tryz.underlying153
 a51:=Tryz.isAgg153
 z51:=Tryz.sizeOf153
 v51:=Tryz.zeroValue153
 t105:=Tryz.underlying123
 a105:=Tryz.isAgg123
 z105:=Tryz.sizeOf123
 v105:=Tryz.zeroValue123
 t119:=Tryz.underlying176
 a119:=Tryz.isAgg176
 z119:=Tryz.sizeOf176
 t138:=Tryz.underlying178
 a138:=Tryz.isAgg178
 z138:=Tryz.sizeOf178
 v138:=Tryz.zeroValue178
 t139:=Tryz.underlying179
 a139:=Tryz.isAgg179
 z139:=Tryz.sizeOf179
 v139:=Tryz.zeroValue179
 t146:=Tryz.underlying154
 a146:=Tryz.isAgg154
 z146:=Tryz.sizeOf154
 v146:=Tryz.zeroValue154
 g1:=by kernel_rfl
 g3:=by kernel_rfl
 g4:=by kernel_rfl}
open Go.RowKit Go.Lib in
theorem Tryz.strings_Split (s sep:ByteArray) (m:Int) (w:World) (hs:s.size<4294967281) (hm:w.cell? ⟨0,0,none⟩=some (.int .i64 m)) (h1:1≤sep.size):
  Calls Tryz.prog 7 #[.string s,.string sep] w fun e w'=>
   e=.returned (.slice (some ⟨w.heap.size,0,none⟩) (Lib.countB s sep+1) (Lib.countB s sep+1))∧w'=w.alloc (.cells ((Lib.splitB sep 0 (Lib.countB s sep) s).map Value.string).toArray 9):=Any.strings_Split Tryz.lays146 (by kernel_rfl) s sep m w hs hm h1
def Tryz.lays155_ren:Go.Shelf.Ren:=⟨fun|155=>42|154=>70|138=>23|165=>89|143=>16|166=>66|197=>45|169=>68|195=>44|218=>46|240=>94|241=>127|219=>24|260=>72|276=>132|277=>160|217=>47|225=>48|224=>49|267=>50|266=>73|314=>74|n=>n,fun|9=>9|3=>3|4=>4|72=>141|0=>0|76=>146|105=>123|21=>21|5=>5|70=>139|20=>20|37=>136|75=>145|127=>172|164=>224|46=>127|119=>176|139=>179|138=>178|146=>154|51=>153|80=>115|n=>n,fun|1=>0|3=>1|4=>2|n=>n⟩
theorem Tryz.lays155:Go.Proofs.Lays.n155 Tryz.prog Tryz.lays155_ren:={
 mixed:=by kernel_rfl
 f138:=Tryz.func23.trans (congrArg some (by kernel_rfl))
 f143:=Tryz.func16.trans (congrArg some (by kernel_rfl))
 f154:=Tryz.func70.trans (congrArg some (by kernel_rfl))
 f155:=Tryz.func42.trans (congrArg some (by kernel_rfl))
 f165:=Tryz.func89.trans (congrArg some (by kernel_rfl))
 f166:=Tryz.func66.trans (congrArg some (by kernel_rfl))
 f169:=Tryz.func68.trans (congrArg some (by kernel_rfl))
 f195:=Tryz.func44.trans (congrArg some (by kernel_rfl))
 f197:=Tryz.func45.trans (congrArg some (by kernel_rfl))
 f217:=Tryz.func47.trans (congrArg some (by kernel_rfl))
 f218:=Tryz.func46.trans (congrArg some (by kernel_rfl))
 f219:=Tryz.func24.trans (congrArg some (by kernel_rfl))
 f224:=Tryz.func49.trans (congrArg some (by kernel_rfl))
 f225:=Tryz.func48.trans (congrArg some (by kernel_rfl))
 f240:=Tryz.func94.trans (congrArg some (by kernel_rfl))
 f241:=Tryz.func127.trans (congrArg some (by kernel_rfl))
 f260:=Tryz.func72.trans (congrArg some (by kernel_rfl))
 f266:=Tryz.func73.trans (congrArg some (by kernel_rfl))
 f267:=Tryz.func50.trans (congrArg some (by kernel_rfl))
 f276:=Tryz.func132.trans (congrArg some (by kernel_rfl))
 f277:=Tryz.func160.trans (congrArg some (by kernel_rfl))
 f314:=Tryz.func74.trans (congrArg some (by kernel_rfl))
 t0:=Tryz.underlying0
 a0:=Tryz.isAgg0
 z0:=Tryz.sizeOf0
 v0:=Tryz.zeroValue0
 t3:=Tryz.underlying3
 a3:=Tryz.isAgg3
 z3:=Tryz.sizeOf3
 v3:=Tryz.zeroValue3
 t4:=Tryz.underlying4
 a4:=Tryz.isAgg4
 z4:=Tryz.sizeOf4
 v4:=Tryz.zeroValue4
 t5:=Tryz.underlying5
 a5:=Tryz.isAgg5
 z5:=Tryz.sizeOf5
 v5:=Tryz.zeroValue5
 t9:=Tryz.underlying9
 a9:=Tryz.isAgg9
 z9:=Tryz.sizeOf9
 v9:=Tryz.zeroValue9
 t20:=Tryz.underlying20
 a20:=Tryz.isAgg20
 z20:=Tryz.sizeOf20
 v20:=Tryz.zeroValue20
 t21:=Tryz.underlying21
 a21:=Tryz.isAgg21
 z21:=Tryz.sizeOf21
 v21:=Tryz.zeroValue21
 t37:=Tryz.underlying136
 a37:=Tryz.isAgg136
 z37:=Tryz.sizeOf136
 v37:=Tryz.zeroValue136
 t46:=Tryz.underlying127
 a46:=Tryz.isAgg127
 z46:=Tryz.sizeOf127
 v46:=Tryz.zeroValue127
 t51:=Tryz.underlying153
 a51:=Tryz.isAgg153
 z51:=Tryz.sizeOf153
 v51:=Tryz.zeroValue153
 t70:=Tryz.underlying139
 a70:=Tryz.isAgg139
 z70:=Tryz.sizeOf139
 v70:=Tryz.zeroValue139
 t72:=Tryz.underlying141
 a72:=Tryz.isAgg141
 z72:=Tryz.sizeOf141
 v72:=Tryz.zeroValue141
 t75:=Tryz.underlying145
 a75:=Tryz.isAgg145
 z75:=Tryz.sizeOf145
 v75:=Tryz.zeroValue145
 t76:=Tryz.underlying146
 a76:=Tryz.isAgg146
 z76:=Tryz.sizeOf146
 v76:=Tryz.zeroValue146
 t105:=Tryz.underlying123
 a105:=Tryz.isAgg123
 z105:=Tryz.sizeOf123
 v105:=Tryz.zeroValue123
 t119:=Tryz.underlying176
 a119:=Tryz.isAgg176
 z119:=Tryz.sizeOf176
 t127:=Tryz.underlying172
 a127:=Tryz.isAgg172
 z127:=Tryz.sizeOf172
 v127:=Tryz.zeroValue172
 t138:=Tryz.underlying178
 a138:=Tryz.isAgg178
 z138:=Tryz.sizeOf178
 v138:=Tryz.zeroValue178
 t139:=Tryz.underlying179
 a139:=Tryz.isAgg179
 z139:=Tryz.sizeOf179
 v139:=Tryz.zeroValue179
 t146:=Tryz.underlying154
 a146:=Tryz.isAgg154
 z146:=Tryz.sizeOf154
 v146:=Tryz.zeroValue154
 t164:=Tryz.underlying224
 a164:=Tryz.isAgg224
 z164:=Tryz.sizeOf224
 v164:=Tryz.zeroValue224
 g1:=by kernel_rfl
 g3:=by kernel_rfl
 g4:=by kernel_rfl}
theorem Tryz.Builder_Extra_155:Builder.Extra Tryz.prog Tryz.lays155_ren:={
 sizeBuilder:=by kernel_rfl
 liesBuilder:=by kernel_rfl
 t5:=Tryz.underlying5
 a5:=Tryz.isAgg5
 z5:=Tryz.sizeOf5
 v5:=Tryz.zeroValue5
 infoByte:=by kernel_rfl
 cellsByte:=by kernel_rfl
 sizeByte:=by kernel_rfl
 neB5:=by decide}
open Go.RowKit Go.Lib in
theorem Tryz.strings_ReplaceAll (s old new:ByteArray) (m:Int) (w:World) (hs:s.size<4294967281) (hm:w.cell? ⟨0,0,none⟩=some (.int .i64 m)) (h1:1≤old.size) (hlen:s.size+Lib.countB s old*new.size≤140737488355328):
  Calls Tryz.prog 42 #[.string s,.string old,.string new] w fun e w'=>
   e=.returned (.string ⟨(Lib.replaceAll s.data.toList old.data.toList new.data.toList).toArray⟩)∧Below w.heap.size w w':=Any.strings_ReplaceAll Tryz.lays155 Tryz.Builder_Extra_155 s old new m w hs hm h1 hlen
def Tryz.lays193_ren:Go.Shelf.Ren:=⟨fun|193=>6|n=>n,fun|31=>22|9=>9|4=>4|3=>3|0=>0|n=>n,fun|n=>n⟩
theorem Tryz.lays193:Go.Proofs.Lays.n193 Tryz.prog Tryz.lays193_ren:={
 mixed:=by kernel_rfl
 f193:=Tryz.func6.trans (congrArg some (by kernel_rfl))
 t0:=Tryz.underlying0
 a0:=Tryz.isAgg0
 z0:=Tryz.sizeOf0
 v0:=Tryz.zeroValue0
 t3:=Tryz.underlying3
 a3:=Tryz.isAgg3
 z3:=Tryz.sizeOf3
 v3:=Tryz.zeroValue3
 t4:=Tryz.underlying4
 a4:=Tryz.isAgg4
 z4:=Tryz.sizeOf4
 v4:=Tryz.zeroValue4
 t9:=Tryz.underlying9
 a9:=Tryz.isAgg9
 z9:=Tryz.sizeOf9
 v9:=Tryz.zeroValue9
 t31:=Tryz.underlying22
 a31:=Tryz.isAgg22
 z31:=Tryz.sizeOf22
 v31:=Tryz.zeroValue22}
open Go.RowKit Go.Lib in
theorem Tryz.slices_Equal_string (b1 o1 n c b2 o2 m d:Nat) (xs ys:List ByteArray) (w:World) (hx:n≤xs.length) (hy:m≤ys.length) (hbig:n≤9223372036854775807) (hbig2:m≤9223372036854775807) (hc1:∀j,j<xs.length→w.cell? ⟨b1,o1+j,none⟩=some (.string (xs.getD j ByteArray.empty))) (hc2:∀j,j<ys.length→w.cell? ⟨b2,o2+j,none⟩=some (.string (ys.getD j ByteArray.empty))):
  Calls Tryz.prog 6 #[.slice (some ⟨b1,o1,none⟩) n c,.slice (some ⟨b2,o2,none⟩) m d] w fun e w'=>e=.returned (.bool (decide (xs.take n=ys.take m)))∧∃q,w'=w.drewN q:=Any.slices_Equal_string Tryz.lays193 b1 o1 n c b2 o2 m d xs ys w hx hy hbig hbig2 hc1 hc2
open Go.RowKit Go.Lib in
theorem Tryz.slices_Equal_string_empty (a1 a2:Option Addr) (c m d:Nat) (w:World) (hbig2:m≤9223372036854775807):
  Calls Tryz.prog 6 #[.slice a1 0 c,.slice a2 m d] w fun e w'=>e=.returned (.bool (decide (m=0)))∧w'=w:=Any.slices_Equal_string_empty Tryz.lays193 a1 a2 c m d w hbig2
open Go.RowKit Go.Lib in
theorem Tryz.slices_Equal_string_lens (a1 a2:Option Addr) (n c m d:Nat) (w:World) (hnm:n≠m):
  Calls Tryz.prog 6 #[.slice a1 n c,.slice a2 m d] w fun e w'=>e=.returned (.bool false)∧w'=w:=Any.slices_Equal_string_lens Tryz.lays193 a1 a2 n c m d w hnm
end Go.Proofs
namespace Go.Proofs.YtpkiepjmcepnoaaGreatDoor
open Go.ChangeShapes Go.WideShapes Go.ChangeAt Go.RowKit
def sp (c:UInt8):List UInt8→List (List UInt8)
 |[]=>[[]]
 |b::l=>if b=c then[]::sp c l else match sp c l with|[]=>[[b]]|x::r=>(b::x)::r
theorem sp_no {c:UInt8}:∀{l:List UInt8},c∉l→sp c l=[l]
 |[],_=>rfl
 |b::l,h=>by
  have h1:c∉l:=fun e=>h (List.mem_cons_of_mem _ e)
  have h2:¬b=c:=fun e=>h (by rw[e];exact List.mem_cons_self)
  unfold sp
  rw[if_neg h2,sp_no h1]
theorem sp_cut {c:UInt8}:∀{x:List UInt8} (y:List UInt8),c∉x→sp c (x++c::y)=x::sp c y
 |[],y,_=>by rw[List.nil_append,sp,if_pos rfl]
 |b::x,y,h=>by
  have h1:c∉x:=fun e=>h (List.mem_cons_of_mem _ e)
  have h2:¬b=c:=fun e=>h (by rw[e];exact List.mem_cons_self)
  rw[List.cons_append,sp,if_neg h2,sp_cut y h1]
theorem sp_ne (c:UInt8) (l:List UInt8):sp c l≠[]:=by
 cases l with
 |nil=>simp[sp]
 |cons b l=>
  unfold sp
  split
  ·simp
  ·split<;>simp
theorem sp_app (c:UInt8):∀a b:List UInt8,sp c (a++c::b)=sp c a++sp c b
 |[],b=>by
  show sp c (c::b)=[[]]++sp c b
  conv=>lhs;rw[sp,if_pos rfl]
  rfl
 |x::a,b=>by
  rw[List.cons_append,sp,sp_app c a b]
  by_cases h:x=c
  ·rw[if_pos h];conv=>rhs;rw[sp,if_pos h]
   rfl
  ·rw[if_neg h];conv=>rhs;rw[sp,if_neg h]
   cases hs:sp c a with
   |nil=>exact absurd hs (sp_ne c a)
   |cons y r=>rfl
theorem index_one (c:UInt8):∀l:List UInt8,(Lib.index l [c]= -1∧c∉l)∨∃x y,l=x++c::y∧c∉x∧Lib.index l [c]=(x.length:Int)
 |[]=>.inl ⟨by simp[Lib.index],by simp⟩
 |b::l=>by
  by_cases h:b=c
  ·subst h
   exact .inr ⟨[],l,rfl,by simp,by simp[Lib.index,List.isPrefixOf]⟩
  ·have hp:([c]:List UInt8).isPrefixOf (b::l)=false:=by simp[List.isPrefixOf,Ne.symm h]
   have hix:Lib.index (b::l) [c]=if Lib.index l [c]== -1 then-1 else Lib.index l [c]+1:=by rw[Lib.index,hp];simp
   rcases index_one c l with⟨h1,h2⟩|⟨x,y,rfl,h2,h3⟩
   ·exact .inl ⟨by rw[hix,h1];rfl,fun e=>by rcases List.mem_cons.1 e with e|e;exact h e.symm;exact h2 e⟩
   ·refine .inr ⟨b::x,y,rfl,fun e=>by rcases List.mem_cons.1 e with e|e;exact h e.symm;exact h2 e,?_⟩
    rw[hix,h3,if_neg (by rw[beq_iff_eq];omega),List.length_cons]
    omega
theorem splitK_sp (c:UInt8):∀(k:Nat) (l:List UInt8),Lib.count l [c]=k→Lib.splitK [c] 0 k l=sp c l
 |0,l,h=>by
  rcases index_one c l with⟨h1,h2⟩|⟨x,y,rfl,h2,h3⟩
  ·rw[sp_no h2];rfl
  ·rw[Lib.count_hit (by simp) h3]at h;omega
 |k+1,l,h=>by
  rcases index_one c l with⟨h1,h2⟩|⟨x,y,rfl,h2,h3⟩
  ·rw[Lib.count_miss h1]at h;omega
  ·rw[Lib.count_hit (by simp) h3]at h
   have hd:(x++c::y).drop (x.length+1)=y:=by simp
   have h4:Lib.count y [c]=k:=by
    have:(x++c::y).drop (x.length+[c].length)=y:=hd
    rw[this]at h;omega
   rw[Lib.splitK,if_neg (by rw[h3,beq_iff_eq];omega),h3,sp_cut y h2]
   have e:(x.length:Int).toNat=x.length:=Int.toNat_natCast _
   rw[e]
   have e2:(x++c::y).take (x.length+0)=x:=by simp
   have e3:(x++c::y).drop (x.length+[c].length)=y:=hd
   rw[e2,e3,splitK_sp c k y h4]
theorem repl_no {c d:UInt8} (hd0:d≠c):∀(k:Nat) (l:List UInt8),Lib.count l [c]=k→c∉Lib.replaceK [c] [d] k l
 |0,l,h=>by
  rcases index_one c l with⟨h1,h2⟩|⟨x,y,rfl,h2,h3⟩
  ·exact h2
  ·rw[Lib.count_hit (by simp) h3]at h;omega
 |k+1,l,h=>by
  rcases index_one c l with⟨h1,h2⟩|⟨x,y,rfl,h2,h3⟩
  ·rw[Lib.count_miss h1]at h;omega
  ·rw[Lib.count_hit (by simp) h3]at h
   have hd:(x++c::y).drop (x.length+[c].length)=y:=by simp
   rw[hd]at h
   rw[Lib.replaceK_hit _ _ _ _ _ h3,hd]
   have e2:(x++c::y).take x.length=x:=by simp
   rw[e2]
   intro e
   rcases List.mem_append.1 e with e|e
   ·rcases List.mem_append.1 e with e|e
    ·exact h2 e
    ·exact hd0 (List.mem_singleton.1 e).symm
   ·exact repl_no hd0 k y (by omega) e
theorem replAll_no {c d:UInt8} (hd0:d≠c) (l:List UInt8):c∉Lib.replaceAll l [c] [d]:=by
 unfold Lib.replaceAll Lib.replace
 rw[if_neg (by simp[Ne.symm hd0])]
 have e:Lib.replaceNum l [c] (-1)=Lib.count l [c]:=by unfold Lib.replaceNum;rw[if_pos (by omega)]
 rw[e]
 exact repl_no hd0 _ l rfl
theorem repl_len (c d:UInt8):∀(k:Nat) (l:List UInt8),(Lib.replaceK [c] [d] k l).length=l.length
 |0,l=>rfl
 |k+1,l=>by
  rcases index_one c l with⟨h1,h2⟩|⟨x,y,rfl,h2,h3⟩
  ·rw[Lib.replaceK,if_pos (by rw[h1];rfl)]
  ·have hd:(x++c::y).drop (x.length+[c].length)=y:=by simp
   have e2:(x++c::y).take x.length=x:=by simp
   rw[Lib.replaceK_hit _ _ _ _ _ h3,hd,e2]
   simp only[List.length_append,List.length_cons,List.length_nil,repl_len c d k y]
   omega
theorem replAll_len {c d:UInt8} (hd0:d≠c) (l:List UInt8):(Lib.replaceAll l [c] [d]).length=l.length:=by
 unfold Lib.replaceAll Lib.replace
 rw[if_neg (by simp[Ne.symm hd0])]
 exact repl_len c d _ l
theorem dec_no:∀(u:Nat),∀b∈Lib.decDigits u,48≤b.toNat:=by
 intro u
 induction u using Nat.strongRecOn with
 |_ u ih=>
  intro b hb
  rw[Lib.decDigits]at hb
  have hc:∀v:Nat,v<10→(UInt8.ofNat (48+v)).toNat=48+v:=fun v hv=>by rw[UInt8.toNat_ofNat'];omega
  split at hb
  ·rename_i h
   rw[List.mem_singleton]at hb
   rw[hb,hc u h];omega
  ·rename_i h
   rcases List.mem_append.1 hb with hb|hb
   ·exact ih _ (by omega) b hb
   ·rw[List.mem_singleton]at hb
    rw[hb,hc _ (by omega)];omega
theorem dec_ne (u:Nat):Lib.decDigits u≠[]:=by
 rw[Lib.decDigits]
 split<;>simp
theorem itoa_no (n:Int):(10:UInt8)∉Lib.itoa n:=by
 intro e
 unfold Lib.itoa at e
 split at e
 ·rcases List.mem_cons.1 e with e|e
  ·revert e;decide
  ·have:=dec_no _ _ e;revert this;decide
 ·have:=dec_no _ _ e;revert this;decide
theorem itoa_ne (n:Int):Lib.itoa n≠[]:=by
 unfold Lib.itoa
 split
 ·simp
 ·exact dec_ne _
def OneLine (l:List UInt8):Prop:=l≠[]∧(10:UInt8)∉l
end Go.Proofs.YtpkiepjmcepnoaaGreatDoor
