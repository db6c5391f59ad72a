/-
  A part of the proof of ViewTexts.
-/
import Derived.Shelf.Spec.SlicesGrow
import Derived.Shelf.Strings.Builder1
import Derived.Shelf.Strings.Builder2
import Derived.Shelf.Strings.OnBuilder
import Derived.Shelf.Strings.BuilderF
import Derived.Shelf.Strings.BuilderK
import Derived.Shelf.Strconv.Atoi
import Derived.Shelf.Strconv.Itoa0
import Derived.Shelf.Strconv.Itoa1
import Derived.Shelf.LaysM
import Derived.Shelf.Strconv.Itoa2
import Derived.Shelf.Strconv.Itoa3
import Derived.Shelf.Strconv.AtoiErrFast
import Derived.Shelf.Strconv.ParseIntEmpty
import Derived.Shelf.Strconv.AtoiFail
import Derived.Shelf.Strconv.Clone
import Derived.Shelf.Strconv.SyntaxError
import Derived.Shelf.LaysC
import Derived.Shelf.Strconv.ToError
import Derived.Shelf.Strconv.AtoiErr
import Derived.Shelf.Strconv.Lower
import Derived.Shelf.Strconv.ParseUint10
import Derived.Shelf.Strconv.ParseUint10Empty
import Derived.Shelf.Strconv.ParseUint10Any
import Derived.Shelf.Strconv.ParseInt10
import Derived.Shelf.Strconv.AtoiLong
import Derived.Shelf.Strconv.AtoiInnerAll
import Derived.Shelf.Strconv.RangeError
import Derived.Shelf.Strconv.ToErrorRange
import Derived.Shelf.Strconv.AtoiAll
import Derived.Shelf.Strconv.ErrVarAll
import Derived.Shelf.Strings.Search1
import Derived.Shelf.Strings.Search2
import Derived.Shelf.Strings.Search3
import Derived.Shelf.Strings.Cut
import Derived.Shelf.Strings.Shaped
import Derived.Shelf.Unicode.Latin
import Derived.Shelf.Unicode.DecodeSlow
import Derived.Shelf.Unicode.Is16White
import Derived.Shelf.Unicode.IsSpaceAny
import Derived.Shelf.Unicode.Is16Any
import Derived.Shelf.Unicode.Is32Any
import Derived.Shelf.Unicode.ExclAny
import Derived.Test.YtldggonlkafckaaGreatDoorChecked
import Derived.Test.YtldggonlkafckaaGreatDoorQ17
import Derived.Sort.Grow
import Derived.Deep.Draws
set_option linter.all false
namespace Go.Proofs
open Go.Shelf
def Tryz.growN_ren:Go.Shelf.Ren:=⟨fun|4=>279|n=>n,fun|22=>278|25=>207|3=>3|4=>4|9=>9|20=>20|0=>0|n=>n,fun|n=>n⟩
theorem Tryz.growN:Go.Proofs.Lays8.n4 Tryz.prog Tryz.growN_ren:={
 mixed:=by kernel_rfl
 f4:=⟨Tryz.f279.name,by decide,Tryz.func279.trans (congrArg some (by kernel_rfl))⟩
 t0:=Tryz.underlying0
 a0:=Tryz.isAgg0
 z0:=Tryz.sizeOf0
 v0:=Tryz.zeroValue0
 t3:=Tryz.underlying3
 a3:=Tryz.isAgg3
 z3:=Tryz.sizeOf3
 v3:=Tryz.zeroValue3
 t4:=Tryz.underlying4
 a4:=Tryz.isAgg4
 z4:=Tryz.sizeOf4
 v4:=Tryz.zeroValue4
 t9:=Tryz.underlying9
 a9:=Tryz.isAgg9
 z9:=Tryz.sizeOf9
 v9:=Tryz.zeroValue9
 t20:=Tryz.underlying20
 a20:=Tryz.isAgg20
 z20:=Tryz.sizeOf20
 v20:=Tryz.zeroValue20
 t22:=Tryz.underlying278
 a22:=Tryz.isAgg278
 z22:=Tryz.sizeOf278
 v22:=Tryz.zeroValue278}
def Tryz.lays169_ren:Go.Shelf.Ren:=⟨fun|169=>57|n=>n,fun|70=>124|9=>9|0=>0|72=>127|37=>125|127=>201|3=>3|5=>5|n=>n,fun|n=>n⟩
theorem Tryz.lays169:Go.Proofs.Lays.n169 Tryz.prog Tryz.lays169_ren:={
 mixed:=by kernel_rfl
 f169:=Tryz.func57.trans (congrArg some (by kernel_rfl))
 t0:=Tryz.underlying0
 a0:=Tryz.isAgg0
 z0:=Tryz.sizeOf0
 v0:=Tryz.zeroValue0
 t3:=Tryz.underlying3
 a3:=Tryz.isAgg3
 z3:=Tryz.sizeOf3
 v3:=Tryz.zeroValue3
 t9:=Tryz.underlying9
 a9:=Tryz.isAgg9
 z9:=Tryz.sizeOf9
 v9:=Tryz.zeroValue9
 t37:=Tryz.underlying125
 a37:=Tryz.isAgg125
 z37:=Tryz.sizeOf125
 v37:=Tryz.zeroValue125
 t70:=Tryz.underlying124
 a70:=Tryz.isAgg124
 z70:=Tryz.sizeOf124
 v70:=Tryz.zeroValue124
 t72:=Tryz.underlying127
 a72:=Tryz.isAgg127
 z72:=Tryz.sizeOf127
 v72:=Tryz.zeroValue127
 t127:=Tryz.underlying201
 a127:=Tryz.isAgg201
 z127:=Tryz.sizeOf201
 v127:=Tryz.zeroValue201}
theorem Tryz.Builder_Extra_169:Builder.Extra Tryz.prog Tryz.lays169_ren:={
 sizeBuilder:=by kernel_rfl
 liesBuilder:=by kernel_rfl
 t5:=Tryz.underlying5
 a5:=Tryz.isAgg5
 z5:=Tryz.sizeOf5
 v5:=Tryz.zeroValue5
 infoByte:=by kernel_rfl
 cellsByte:=by kernel_rfl
 sizeByte:=by kernel_rfl
 neB5:=by decide}
def Tryz.lays156_ren:Go.Shelf.Ren:=⟨fun|156=>73|165=>129|166=>55|169=>57|240=>118|241=>175|276=>168|277=>212|n=>n,fun|31=>45|9=>9|3=>3|4=>4|0=>0|20=>20|72=>127|76=>130|70=>124|37=>125|75=>129|127=>201|164=>238|5=>5|80=>57|n=>n,fun|n=>n⟩
theorem Tryz.lays156:Go.Proofs.Lays.n156 Tryz.prog Tryz.lays156_ren:={
 mixed:=by kernel_rfl
 f156:=Tryz.func73.trans (congrArg some (by kernel_rfl))
 f165:=Tryz.func129.trans (congrArg some (by kernel_rfl))
 f166:=Tryz.func55.trans (congrArg some (by kernel_rfl))
 f169:=Tryz.func57.trans (congrArg some (by kernel_rfl))
 f240:=Tryz.func118.trans (congrArg some (by kernel_rfl))
 f241:=Tryz.func175.trans (congrArg some (by kernel_rfl))
 f276:=Tryz.func168.trans (congrArg some (by kernel_rfl))
 f277:=Tryz.func212.trans (congrArg some (by kernel_rfl))
 t0:=Tryz.underlying0
 a0:=Tryz.isAgg0
 z0:=Tryz.sizeOf0
 v0:=Tryz.zeroValue0
 t3:=Tryz.underlying3
 a3:=Tryz.isAgg3
 z3:=Tryz.sizeOf3
 v3:=Tryz.zeroValue3
 t4:=Tryz.underlying4
 a4:=Tryz.isAgg4
 z4:=Tryz.sizeOf4
 v4:=Tryz.zeroValue4
 t9:=Tryz.underlying9
 a9:=Tryz.isAgg9
 z9:=Tryz.sizeOf9
 v9:=Tryz.zeroValue9
 t20:=Tryz.underlying20
 a20:=Tryz.isAgg20
 z20:=Tryz.sizeOf20
 v20:=Tryz.zeroValue20
 t31:=Tryz.underlying45
 a31:=Tryz.isAgg45
 z31:=Tryz.sizeOf45
 v31:=Tryz.zeroValue45
 t37:=Tryz.underlying125
 a37:=Tryz.isAgg125
 z37:=Tryz.sizeOf125
 v37:=Tryz.zeroValue125
 t70:=Tryz.underlying124
 a70:=Tryz.isAgg124
 z70:=Tryz.sizeOf124
 v70:=Tryz.zeroValue124
 t72:=Tryz.underlying127
 a72:=Tryz.isAgg127
 z72:=Tryz.sizeOf127
 v72:=Tryz.zeroValue127
 t75:=Tryz.underlying129
 a75:=Tryz.isAgg129
 z75:=Tryz.sizeOf129
 v75:=Tryz.zeroValue129
 t76:=Tryz.underlying130
 a76:=Tryz.isAgg130
 z76:=Tryz.sizeOf130
 v76:=Tryz.zeroValue130
 t127:=Tryz.underlying201
 a127:=Tryz.isAgg201
 z127:=Tryz.sizeOf201
 v127:=Tryz.zeroValue201
 t164:=Tryz.underlying238
 a164:=Tryz.isAgg238
 z164:=Tryz.sizeOf238
 v164:=Tryz.zeroValue238}
theorem Tryz.Builder_Extra_156:Builder.Extra Tryz.prog Tryz.lays156_ren:={
 sizeBuilder:=by kernel_rfl
 liesBuilder:=by kernel_rfl
 t5:=Tryz.underlying5
 a5:=Tryz.isAgg5
 z5:=Tryz.sizeOf5
 v5:=Tryz.zeroValue5
 infoByte:=by kernel_rfl
 cellsByte:=by kernel_rfl
 sizeByte:=by kernel_rfl
 neB5:=by decide}
open Go.RowKit in
theorem Tryz.strings_Join_none (a:Option Addr) (c:Nat) (sep:ByteArray) (w:World):
  Calls Tryz.prog 73 #[.slice a 0 c,.string sep] w fun e w'=>e=.returned (.string ⟨#[]⟩)/\w'=w:=Any.strings_Join_none Tryz.lays156 Tryz.Builder_Extra_156 a c sep w
open Go.RowKit in
theorem Tryz.strings_Join (bk o c:Nat) (xs:List ByteArray) (sep:ByteArray) (w:World) (hcells:∀(j:Nat) x,xs[j]?=some x->w.cell? ⟨bk,o+j,none⟩=some (.string x)) (hbk:bk<w.heap.size) (hN:xs.length<=140737488355328) (hcap:xs.length<=c) (hlen:(Lib.join (xs.map (·.data.toList)) sep.data.toList).length<=140737488355328):
  Calls Tryz.prog 73 #[.slice (some ⟨bk,o,none⟩) xs.length c,.string sep] w fun e w'=>e=.returned (.string ⟨(Lib.join (xs.map (·.data.toList)) sep.data.toList).toArray⟩)/\Below w.heap.size w w':=Any.strings_Join Tryz.lays156 Tryz.Builder_Extra_156 bk o c xs sep w hcells hbk hN hcap hlen
def Tryz.lays172_ren:Go.Shelf.Ren:=⟨fun|172=>193|244=>222|245=>223|247=>256|279=>257|280=>258|281=>259|282=>260|287=>283|316=>284|171=>194|205=>285|321=>301|322=>302|243=>224|246=>261|283=>286|284=>287|285=>288|286=>289|129=>304|317=>303|318=>305|319=>306|320=>307|337=>316|338=>317|n=>n,fun|9=>9|3=>3|75=>129|76=>130|4=>4|5=>5|167=>328|37=>125|0=>0|85=>329|2=>2|168=>331|53=>237|175=>348|46=>257|210=>351|127=>201|145=>366|143=>364|21=>21|171=>353|173=>356|212=>368|51=>295|20=>20|213=>369|232=>395|233=>396|80=>57|n=>n,fun|15=>4|16=>5|17=>7|18=>8|19=>9|n=>n⟩
def Tryz.laysM246_ren:Go.Shelf.Ren:=⟨fun|246=>261|283=>286|284=>287|285=>288|286=>289|129=>304|317=>303|318=>305|319=>306|320=>307|337=>316|338=>317|n=>n,fun|2=>2|3=>3|9=>9|4=>4|171=>353|0=>0|53=>237|37=>125|5=>5|173=>356|212=>368|51=>295|20=>20|213=>369|46=>257|232=>395|233=>396|n=>n,fun|17=>7|18=>8|19=>9|n=>n⟩
def Tryz.laysM243_ren:Go.Shelf.Ren:=⟨fun|243=>224|246=>261|283=>286|284=>287|285=>288|286=>289|129=>304|317=>303|318=>305|319=>306|320=>307|337=>316|338=>317|n=>n,fun|3=>3|9=>9|2=>2|4=>4|171=>353|0=>0|53=>237|37=>125|5=>5|173=>356|212=>368|51=>295|20=>20|213=>369|46=>257|232=>395|233=>396|n=>n,fun|17=>7|18=>8|19=>9|n=>n⟩
def Tryz.laysM171_ren:Go.Shelf.Ren:=⟨fun|171=>194|243=>224|246=>261|283=>286|284=>287|285=>288|286=>289|129=>304|317=>303|318=>305|319=>306|320=>307|337=>316|338=>317|n=>n,fun|3=>3|9=>9|2=>2|4=>4|171=>353|0=>0|53=>237|37=>125|5=>5|173=>356|212=>368|51=>295|20=>20|213=>369|46=>257|232=>395|233=>396|n=>n,fun|17=>7|18=>8|19=>9|n=>n⟩
theorem Tryz.laysM171:Go.Proofs.LaysM.n171 Tryz.prog Tryz.laysM171_ren:={
 mixed:=by kernel_rfl
 f129:=Tryz.func304.trans (congrArg some (by kernel_rfl))
 f171:=Tryz.func194.trans (congrArg some (by kernel_rfl))
 f243:=Tryz.func224.trans (congrArg some (by kernel_rfl))
 f246:=Tryz.func261.trans (congrArg some (by kernel_rfl))
 f283:=Tryz.func286.trans (congrArg some (by kernel_rfl))
 f284:=Tryz.func287.trans (congrArg some (by kernel_rfl))
 f285:=Tryz.func288.trans (congrArg some (by kernel_rfl))
 f286:=Tryz.func289.trans (congrArg some (by kernel_rfl))
 f317:=Tryz.func303.trans (congrArg some (by kernel_rfl))
 f318:=Tryz.func305.trans (congrArg some (by kernel_rfl))
 f319:=Tryz.func306.trans (congrArg some (by kernel_rfl))
 f320:=Tryz.func307.trans (congrArg some (by kernel_rfl))
 f337:=Tryz.func316.trans (congrArg some (by kernel_rfl))
 f338:=Tryz.func317.trans (congrArg some (by kernel_rfl))
 t0:=Tryz.underlying0
 a0:=Tryz.isAgg0
 z0:=Tryz.sizeOf0
 v0:=Tryz.zeroValue0
 t2:=Tryz.underlying2
 a2:=Tryz.isAgg2
 z2:=Tryz.sizeOf2
 v2:=Tryz.zeroValue2
 t3:=Tryz.underlying3
 a3:=Tryz.isAgg3
 z3:=Tryz.sizeOf3
 v3:=Tryz.zeroValue3
 t4:=Tryz.underlying4
 a4:=Tryz.isAgg4
 z4:=Tryz.sizeOf4
 v4:=Tryz.zeroValue4
 t5:=Tryz.underlying5
 a5:=Tryz.isAgg5
 z5:=Tryz.sizeOf5
 v5:=Tryz.zeroValue5
 t9:=Tryz.underlying9
 a9:=Tryz.isAgg9
 z9:=Tryz.sizeOf9
 v9:=Tryz.zeroValue9
 t20:=Tryz.underlying20
 a20:=Tryz.isAgg20
 z20:=Tryz.sizeOf20
 v20:=Tryz.zeroValue20
 t37:=Tryz.underlying125
 a37:=Tryz.isAgg125
 z37:=Tryz.sizeOf125
 v37:=Tryz.zeroValue125
 t46:=Tryz.underlying257
 a46:=Tryz.isAgg257
 z46:=Tryz.sizeOf257
 v46:=Tryz.zeroValue257
 t51:=Tryz.underlying295
 a51:=Tryz.isAgg295
 z51:=Tryz.sizeOf295
 v51:=Tryz.zeroValue295
 t53:=Tryz.underlying237
 a53:=Tryz.isAgg237
 z53:=Tryz.sizeOf237
 v53:=Tryz.zeroValue237
 t171:=Tryz.underlying353
 a171:=Tryz.isAgg353
 z171:=Tryz.sizeOf353
 v171:=Tryz.zeroValue353
 t173:=Tryz.underlying356
 a173:=Tryz.isAgg356
 z173:=Tryz.sizeOf356
 v173:=Tryz.zeroValue356
 t212:=Tryz.underlying368
 a212:=Tryz.isAgg368
 z212:=Tryz.sizeOf368
 v212:=Tryz.zeroValue368
 t213:=Tryz.underlying369
 a213:=Tryz.isAgg369
 z213:=Tryz.sizeOf369
 t232:=Tryz.underlying395
 a232:=Tryz.isAgg395
 z232:=Tryz.sizeOf395
 v232:=Tryz.zeroValue395
 t233:=Tryz.underlying396
 a233:=Tryz.isAgg396
 z233:=Tryz.sizeOf396
 v233:=Tryz.zeroValue396
 g17:=by kernel_rfl
 g18:=by kernel_rfl
 g19:=by kernel_rfl
 i0:=by kernel_rfl
 i2:=by kernel_rfl
 i3:=by kernel_rfl
 i4:=by kernel_rfl
 i5:=by kernel_rfl
 i9:=by kernel_rfl
 i20:=by kernel_rfl
 i37:=by kernel_rfl
 i46:=by kernel_rfl
 i51:=by kernel_rfl
 i53:=by kernel_rfl
 i171:=by kernel_rfl
 i173:=by kernel_rfl
 i212:=by kernel_rfl
 i232:=by kernel_rfl
 i233:=by kernel_rfl
 m17:=by kernel_rfl
 m18:=by kernel_rfl
 m19:=by kernel_rfl}
open Go.RowKit Go.Sort Go.Lib in
theorem Tryz.strconv_Itoa (n:Int) (h0: -9223372036854775808≤n) (h1:n≤9223372036854775807) (w:World) (htab:Lib.TabIs Tryz.prog w "internal/strconv.uint64pow10" .u64 Lib.pow10Tab):
  Calls Tryz.prog 194 #[.int .i64 n] w fun e w'=>e=.returned (.string ⟨(Lib.itoa n).toArray⟩)/\∃k os,w'=grow (w.drewN k) os:=Any.strconv_Itoa Tryz.laysM171 n h0 h1 w htab
def Tryz.laysC245_ren:Go.Shelf.Ren:=⟨fun|245=>223|279=>257|280=>258|281=>259|282=>260|316=>284|171=>194|205=>285|243=>224|246=>261|283=>286|284=>287|285=>288|286=>289|129=>304|317=>303|318=>305|319=>306|320=>307|337=>316|338=>317|n=>n,fun|9=>9|3=>3|75=>129|167=>328|4=>4|168=>331|210=>351|37=>125|0=>0|127=>201|145=>366|143=>364|2=>2|171=>353|53=>237|5=>5|173=>356|212=>368|51=>295|20=>20|213=>369|46=>257|232=>395|233=>396|80=>57|n=>n,fun|15=>4|16=>5|17=>7|18=>8|19=>9|n=>n⟩
theorem Tryz.laysC245:Go.Proofs.LaysC.n245 Tryz.prog Tryz.laysC245_ren:={
 mixed:=by kernel_rfl
 f129:=Tryz.func304.trans (congrArg some (by kernel_rfl))
 f171:=Tryz.func194.trans (congrArg some (by kernel_rfl))
 f205:=Tryz.func285.trans (congrArg some (by kernel_rfl))
 f243:=Tryz.func224.trans (congrArg some (by kernel_rfl))
 f245:=Tryz.func223.trans (congrArg some (by kernel_rfl))
 f246:=Tryz.func261.trans (congrArg some (by kernel_rfl))
 f279:=Tryz.func257.trans (congrArg some (by kernel_rfl))
 f280:=Tryz.func258.trans (congrArg some (by kernel_rfl))
 f281:=Tryz.func259.trans (congrArg some (by kernel_rfl))
 f282:=Tryz.func260.trans (congrArg some (by kernel_rfl))
 f283:=Tryz.func286.trans (congrArg some (by kernel_rfl))
 f284:=Tryz.func287.trans (congrArg some (by kernel_rfl))
 f285:=Tryz.func288.trans (congrArg some (by kernel_rfl))
 f286:=Tryz.func289.trans (congrArg some (by kernel_rfl))
 f316:=Tryz.func284.trans (congrArg some (by kernel_rfl))
 f317:=Tryz.func303.trans (congrArg some (by kernel_rfl))
 f318:=Tryz.func305.trans (congrArg some (by kernel_rfl))
 f319:=Tryz.func306.trans (congrArg some (by kernel_rfl))
 f320:=Tryz.func307.trans (congrArg some (by kernel_rfl))
 f337:=Tryz.func316.trans (congrArg some (by kernel_rfl))
 f338:=Tryz.func317.trans (congrArg some (by kernel_rfl))
 t0:=Tryz.underlying0
 a0:=Tryz.isAgg0
 z0:=Tryz.sizeOf0
 v0:=Tryz.zeroValue0
 t2:=Tryz.underlying2
 a2:=Tryz.isAgg2
 z2:=Tryz.sizeOf2
 v2:=Tryz.zeroValue2
 t3:=Tryz.underlying3
 a3:=Tryz.isAgg3
 z3:=Tryz.sizeOf3
 v3:=Tryz.zeroValue3
 t4:=Tryz.underlying4
 a4:=Tryz.isAgg4
 z4:=Tryz.sizeOf4
 v4:=Tryz.zeroValue4
 t5:=Tryz.underlying5
 a5:=Tryz.isAgg5
 z5:=Tryz.sizeOf5
 v5:=Tryz.zeroValue5
 t9:=Tryz.underlying9
 a9:=Tryz.isAgg9
 z9:=Tryz.sizeOf9
 v9:=Tryz.zeroValue9
 t20:=Tryz.underlying20
 a20:=Tryz.isAgg20
 z20:=Tryz.sizeOf20
 v20:=Tryz.zeroValue20
 t37:=Tryz.underlying125
 a37:=Tryz.isAgg125
 z37:=Tryz.sizeOf125
 v37:=Tryz.zeroValue125
 t46:=Tryz.underlying257
 a46:=Tryz.isAgg257
 z46:=Tryz.sizeOf257
 v46:=Tryz.zeroValue257
 t51:=Tryz.underlying295
 a51:=Tryz.isAgg295
 z51:=Tryz.sizeOf295
 v51:=Tryz.zeroValue295
 t53:=Tryz.underlying237
 a53:=Tryz.isAgg237
 z53:=Tryz.sizeOf237
 v53:=Tryz.zeroValue237
 t75:=Tryz.underlying129
 a75:=Tryz.isAgg129
 z75:=Tryz.sizeOf129
 v75:=Tryz.zeroValue129
 t127:=Tryz.underlying201
 a127:=Tryz.isAgg201
 z127:=Tryz.sizeOf201
 v127:=Tryz.zeroValue201
 t143:=Tryz.underlying364
 a143:=Tryz.isAgg364
 z143:=Tryz.sizeOf364
 v143:=Tryz.zeroValue364
 t145:=Tryz.underlying366
 a145:=Tryz.isAgg366
 z145:=Tryz.sizeOf366
 v145:=Tryz.zeroValue366
 t167:=Tryz.underlying328
 a167:=Tryz.isAgg328
 z167:=Tryz.sizeOf328
 v167:=Tryz.zeroValue328
 t168:=Tryz.underlying331
 a168:=Tryz.isAgg331
 z168:=Tryz.sizeOf331
 v168:=Tryz.zeroValue331
 t171:=Tryz.underlying353
 a171:=Tryz.isAgg353
 z171:=Tryz.sizeOf353
 v171:=Tryz.zeroValue353
 t173:=Tryz.underlying356
 a173:=Tryz.isAgg356
 z173:=Tryz.sizeOf356
 v173:=Tryz.zeroValue356
 t210:=Tryz.underlying351
 a210:=Tryz.isAgg351
 z210:=Tryz.sizeOf351
 v210:=Tryz.zeroValue351
 t212:=Tryz.underlying368
 a212:=Tryz.isAgg368
 z212:=Tryz.sizeOf368
 v212:=Tryz.zeroValue368
 t213:=Tryz.underlying369
 a213:=Tryz.isAgg369
 z213:=Tryz.sizeOf369
 t232:=Tryz.underlying395
 a232:=Tryz.isAgg395
 z232:=Tryz.sizeOf395
 v232:=Tryz.zeroValue395
 t233:=Tryz.underlying396
 a233:=Tryz.isAgg396
 z233:=Tryz.sizeOf396
 v233:=Tryz.zeroValue396
 g15:=by kernel_rfl
 g16:=by kernel_rfl
 g17:=by kernel_rfl
 g18:=by kernel_rfl
 g19:=by kernel_rfl
 t80:=Tryz.underlying57
 a80:=Tryz.isAgg57
 z80:=Tryz.sizeOf57
 v80:=Tryz.zeroValue57
 i0:=by kernel_rfl
 i2:=by kernel_rfl
 i3:=by kernel_rfl
 i4:=by kernel_rfl
 i5:=by kernel_rfl
 i9:=by kernel_rfl
 i20:=by kernel_rfl
 i37:=by kernel_rfl
 i46:=by kernel_rfl
 i51:=by kernel_rfl
 i53:=by kernel_rfl
 i75:=by kernel_rfl
 i80:=by kernel_rfl
 i127:=by kernel_rfl
 i143:=by kernel_rfl
 i145:=by kernel_rfl
 i167:=by kernel_rfl
 i168:=by kernel_rfl
 i171:=by kernel_rfl
 i173:=by kernel_rfl
 i210:=by kernel_rfl
 i212:=by kernel_rfl
 i232:=by kernel_rfl
 i233:=by kernel_rfl
 m15:=by kernel_rfl
 m16:=by kernel_rfl
 m17:=by kernel_rfl
 m18:=by kernel_rfl
 m19:=by kernel_rfl
 c0:=by kernel_rfl
 c2:=by kernel_rfl
 c3:=by kernel_rfl
 c4:=by kernel_rfl
 c5:=by kernel_rfl
 c9:=by kernel_rfl
 c20:=by kernel_rfl
 c37:=by kernel_rfl
 c46:=by kernel_rfl
 c51:=by kernel_rfl
 c53:=by kernel_rfl
 c75:=by kernel_rfl
 c80:=by kernel_rfl
 c127:=by kernel_rfl
 c143:=by kernel_rfl
 c145:=by kernel_rfl
 c167:=by kernel_rfl
 c168:=by kernel_rfl
 c171:=by kernel_rfl
 c173:=by kernel_rfl
 c210:=by kernel_rfl
 c212:=by kernel_rfl
 c213:=by kernel_rfl
 c232:=by kernel_rfl
 c233:=by kernel_rfl}
open Go.RowKit in
theorem Tryz.strconv_toError_syntax (fn s:ByteArray) (base bits:Int) (ev:Value) (w:World) (hlim:s.size<=281474976710656) (hv:w.cell? ⟨4,0,none⟩=some ev) (hev:ev=.nilIface∨∃te pe,ev=.iface te pe):
  Calls Tryz.prog 223 #[.string fn,.string s,.int .i64 base,.int .i64 bits,.iface 328 (.int .i64 2)] w fun e w'=>∃N,e=.returned (.iface 331 (.pointer (some ⟨N,0,none⟩)))/\w.heap.size<=N/\w'.heap[N]?=some (.cells #[.string fn,.string s,ev] 351 (0,0))/\Below w.heap.size w w':=Any.strconv_toError_syntax Tryz.laysC245 fn s base bits ev w hlim hv hev
def Tryz.laysC172_ren:Go.Shelf.Ren:=⟨fun|172=>193|244=>222|245=>223|247=>256|279=>257|280=>258|281=>259|282=>260|287=>283|316=>284|171=>194|205=>285|321=>301|322=>302|243=>224|246=>261|283=>286|284=>287|285=>288|286=>289|129=>304|317=>303|318=>305|319=>306|320=>307|337=>316|338=>317|n=>n,fun|9=>9|3=>3|75=>129|76=>130|4=>4|5=>5|167=>328|37=>125|0=>0|85=>329|2=>2|168=>331|53=>237|175=>348|46=>257|210=>351|127=>201|145=>366|143=>364|21=>21|171=>353|173=>356|212=>368|51=>295|20=>20|213=>369|232=>395|233=>396|80=>57|n=>n,fun|15=>4|16=>5|17=>7|18=>8|19=>9|n=>n⟩
theorem Tryz.laysC172:Go.Proofs.LaysC.n172 Tryz.prog Tryz.laysC172_ren:={
 mixed:=by kernel_rfl
 f129:=Tryz.func304.trans (congrArg some (by kernel_rfl))
 f171:=Tryz.func194.trans (congrArg some (by kernel_rfl))
 f172:=Tryz.func193.trans (congrArg some (by kernel_rfl))
 f205:=Tryz.func285.trans (congrArg some (by kernel_rfl))
 f243:=Tryz.func224.trans (congrArg some (by kernel_rfl))
 f244:=Tryz.func222.trans (congrArg some (by kernel_rfl))
 f245:=Tryz.func223.trans (congrArg some (by kernel_rfl))
 f246:=Tryz.func261.trans (congrArg some (by kernel_rfl))
 f247:=Tryz.func256.trans (congrArg some (by kernel_rfl))
 f279:=Tryz.func257.trans (congrArg some (by kernel_rfl))
 f280:=Tryz.func258.trans (congrArg some (by kernel_rfl))
 f281:=Tryz.func259.trans (congrArg some (by kernel_rfl))
 f282:=Tryz.func260.trans (congrArg some (by kernel_rfl))
 f283:=Tryz.func286.trans (congrArg some (by kernel_rfl))
 f284:=Tryz.func287.trans (congrArg some (by kernel_rfl))
 f285:=Tryz.func288.trans (congrArg some (by kernel_rfl))
 f286:=Tryz.func289.trans (congrArg some (by kernel_rfl))
 f287:=Tryz.func283.trans (congrArg some (by kernel_rfl))
 f316:=Tryz.func284.trans (congrArg some (by kernel_rfl))
 f317:=Tryz.func303.trans (congrArg some (by kernel_rfl))
 f318:=Tryz.func305.trans (congrArg some (by kernel_rfl))
 f319:=Tryz.func306.trans (congrArg some (by kernel_rfl))
 f320:=Tryz.func307.trans (congrArg some (by kernel_rfl))
 f321:=Tryz.func301.trans (congrArg some (by kernel_rfl))
 f322:=Tryz.func302.trans (congrArg some (by kernel_rfl))
 f337:=Tryz.func316.trans (congrArg some (by kernel_rfl))
 f338:=Tryz.func317.trans (congrArg some (by kernel_rfl))
 t0:=Tryz.underlying0
 a0:=Tryz.isAgg0
 z0:=Tryz.sizeOf0
 v0:=Tryz.zeroValue0
 t2:=Tryz.underlying2
 a2:=Tryz.isAgg2
 z2:=Tryz.sizeOf2
 v2:=Tryz.zeroValue2
 t3:=Tryz.underlying3
 a3:=Tryz.isAgg3
 z3:=Tryz.sizeOf3
 v3:=Tryz.zeroValue3
 t4:=Tryz.underlying4
 a4:=Tryz.isAgg4
 z4:=Tryz.sizeOf4
 v4:=Tryz.zeroValue4
 t5:=Tryz.underlying5
 a5:=Tryz.isAgg5
 z5:=Tryz.sizeOf5
 v5:=Tryz.zeroValue5
 t9:=Tryz.underlying9
 a9:=Tryz.isAgg9
 z9:=Tryz.sizeOf9
 v9:=Tryz.zeroValue9
 t20:=Tryz.underlying20
 a20:=Tryz.isAgg20
 z20:=Tryz.sizeOf20
 v20:=Tryz.zeroValue20
 t21:=Tryz.underlying21
 a21:=Tryz.isAgg21
 z21:=Tryz.sizeOf21
 v21:=Tryz.zeroValue21
 t37:=Tryz.underlying125
 a37:=Tryz.isAgg125
 z37:=Tryz.sizeOf125
 v37:=Tryz.zeroValue125
 t46:=Tryz.underlying257
 a46:=Tryz.isAgg257
 z46:=Tryz.sizeOf257
 v46:=Tryz.zeroValue257
 t51:=Tryz.underlying295
 a51:=Tryz.isAgg295
 z51:=Tryz.sizeOf295
 v51:=Tryz.zeroValue295
 t53:=Tryz.underlying237
 a53:=Tryz.isAgg237
 z53:=Tryz.sizeOf237
 v53:=Tryz.zeroValue237
 t75:=Tryz.underlying129
 a75:=Tryz.isAgg129
 z75:=Tryz.sizeOf129
 v75:=Tryz.zeroValue129
 t76:=Tryz.underlying130
 a76:=Tryz.isAgg130
 z76:=Tryz.sizeOf130
 v76:=Tryz.zeroValue130
 t85:=Tryz.underlying329
 a85:=Tryz.isAgg329
 z85:=Tryz.sizeOf329
 v85:=Tryz.zeroValue329
 t127:=Tryz.underlying201
 a127:=Tryz.isAgg201
 z127:=Tryz.sizeOf201
 v127:=Tryz.zeroValue201
 t143:=Tryz.underlying364
 a143:=Tryz.isAgg364
 z143:=Tryz.sizeOf364
 v143:=Tryz.zeroValue364
 t145:=Tryz.underlying366
 a145:=Tryz.isAgg366
 z145:=Tryz.sizeOf366
 v145:=Tryz.zeroValue366
 t167:=Tryz.underlying328
 a167:=Tryz.isAgg328
 z167:=Tryz.sizeOf328
 v167:=Tryz.zeroValue328
 t168:=Tryz.underlying331
 a168:=Tryz.isAgg331
 z168:=Tryz.sizeOf331
 v168:=Tryz.zeroValue331
 t171:=Tryz.underlying353
 a171:=Tryz.isAgg353
 z171:=Tryz.sizeOf353
 v171:=Tryz.zeroValue353
 t173:=Tryz.underlying356
 a173:=Tryz.isAgg356
 z173:=Tryz.sizeOf356
 v173:=Tryz.zeroValue356
 t175:=Tryz.underlying348
 a175:=Tryz.isAgg348
 z175:=Tryz.sizeOf348
 v175:=Tryz.zeroValue348
 t210:=Tryz.underlying351
 a210:=Tryz.isAgg351
 z210:=Tryz.sizeOf351
 v210:=Tryz.zeroValue351
 t212:=Tryz.underlying368
 a212:=Tryz.isAgg368
 z212:=Tryz.sizeOf368
 v212:=Tryz.zeroValue368
 t213:=Tryz.underlying369
 a213:=Tryz.isAgg369
 z213:=Tryz.sizeOf369
 t232:=Tryz.underlying395
 a232:=Tryz.isAgg395
 z232:=Tryz.sizeOf395
 v232:=Tryz.zeroValue395
 t233:=Tryz.underlying396
 a233:=Tryz.isAgg396
 z233:=Tryz.sizeOf396
 v233:=Tryz.zeroValue396
 g15:=by kernel_rfl
 g16:=by kernel_rfl
 g17:=by kernel_rfl
 g18:=by kernel_rfl
 g19:=by kernel_rfl
 t80:=Tryz.underlying57
 a80:=Tryz.isAgg57
 z80:=Tryz.sizeOf57
 v80:=Tryz.zeroValue57
 i0:=by kernel_rfl
 i2:=by kernel_rfl
 i3:=by kernel_rfl
 i4:=by kernel_rfl
 i5:=by kernel_rfl
 i9:=by kernel_rfl
 i20:=by kernel_rfl
 i21:=by kernel_rfl
 i37:=by kernel_rfl
 i46:=by kernel_rfl
 i51:=by kernel_rfl
 i53:=by kernel_rfl
 i75:=by kernel_rfl
 i76:=by kernel_rfl
 i80:=by kernel_rfl
 i85:=by kernel_rfl
 i127:=by kernel_rfl
 i143:=by kernel_rfl
 i145:=by kernel_rfl
 i167:=by kernel_rfl
 i168:=by kernel_rfl
 i171:=by kernel_rfl
 i173:=by kernel_rfl
 i175:=by kernel_rfl
 i210:=by kernel_rfl
 i212:=by kernel_rfl
 i232:=by kernel_rfl
 i233:=by kernel_rfl
 m15:=by kernel_rfl
 m16:=by kernel_rfl
 m17:=by kernel_rfl
 m18:=by kernel_rfl
 m19:=by kernel_rfl
 c0:=by kernel_rfl
 c2:=by kernel_rfl
 c3:=by kernel_rfl
 c4:=by kernel_rfl
 c5:=by kernel_rfl
 c9:=by kernel_rfl
 c20:=by kernel_rfl
 c21:=by kernel_rfl
 c37:=by kernel_rfl
 c46:=by kernel_rfl
 c51:=by kernel_rfl
 c53:=by kernel_rfl
 c75:=by kernel_rfl
 c76:=by kernel_rfl
 c80:=by kernel_rfl
 c85:=by kernel_rfl
 c127:=by kernel_rfl
 c143:=by kernel_rfl
 c145:=by kernel_rfl
 c167:=by kernel_rfl
 c168:=by kernel_rfl
 c171:=by kernel_rfl
 c173:=by kernel_rfl
 c175:=by kernel_rfl
 c210:=by kernel_rfl
 c212:=by kernel_rfl
 c213:=by kernel_rfl
 c232:=by kernel_rfl
 c233:=by kernel_rfl}
open Go.RowKit in
theorem Tryz.strconv_Atoi_ok (s:ByteArray) (hmax:s.size<=9223372036854775806) (v:Int) (h:Lib.atoiAll s.data.toList=.ok v) (w:World):
  Calls Tryz.prog 193 #[.string s] w fun e w'=>e=.returned (.tuple #[.int .i64 v,.nilIface])/\(w'=w∨∃t,w'=Lib.bytesWorld w 5 t):=Any.strconv_Atoi_ok Tryz.laysC172 s hmax v h w
open Go.RowKit in
theorem Tryz.strconv_Atoi_range (s:ByteArray) (hlim:s.size<=281474976710656) (h:Lib.atoiAll s.data.toList=.range) (ev:Value) (w:World) (hv:w.cell? ⟨5,0,none⟩=some ev) (hev:ev=.nilIface∨∃te pe,ev=.iface te pe):
  Calls Tryz.prog 193 #[.string s] w fun e w'=>∃N,e=.returned (.tuple #[.int .i64 (Lib.atoiSat s.data.toList),.iface 331 (.pointer (some ⟨N,0,none⟩))])/\w.heap.size<=N/\w'.heap[N]?=some (.cells #[.string ⟨#[65,116,111,105]⟩,.string s,ev] 351 (0,0))/\Below w.heap.size w w':=Any.strconv_Atoi_range Tryz.laysC172 s hlim h ev w hv hev
def Tryz.lays219_ren:Go.Shelf.Ren:=⟨fun|219=>131|217=>178|225=>179|224=>180|267=>181|266=>216|314=>217|n=>n,fun|9=>9|3=>3|4=>4|5=>5|46=>257|146=>296|51=>295|n=>n,fun|1=>0|n=>n⟩
def Tryz.lays143_ren:Go.Shelf.Ren:=⟨fun|143=>184|219=>131|217=>178|225=>179|224=>180|267=>181|266=>216|314=>217|n=>n,fun|9=>9|3=>3|4=>4|5=>5|46=>257|146=>296|51=>295|n=>n,fun|1=>0|n=>n⟩
theorem Tryz.lays143:Go.Proofs.Lays.n143 Tryz.prog Tryz.lays143_ren:={
 mixed:=by kernel_rfl
 f143:=Tryz.func184.trans (congrArg some (by kernel_rfl))
 f217:=Tryz.func178.trans (congrArg some (by kernel_rfl))
 f219:=Tryz.func131.trans (congrArg some (by kernel_rfl))
 f224:=Tryz.func180.trans (congrArg some (by kernel_rfl))
 f225:=Tryz.func179.trans (congrArg some (by kernel_rfl))
 f266:=Tryz.func216.trans (congrArg some (by kernel_rfl))
 f267:=Tryz.func181.trans (congrArg some (by kernel_rfl))
 f314:=Tryz.func217.trans (congrArg some (by kernel_rfl))
 t3:=Tryz.underlying3
 a3:=Tryz.isAgg3
 z3:=Tryz.sizeOf3
 v3:=Tryz.zeroValue3
 t4:=Tryz.underlying4
 a4:=Tryz.isAgg4
 z4:=Tryz.sizeOf4
 v4:=Tryz.zeroValue4
 t5:=Tryz.underlying5
 a5:=Tryz.isAgg5
 z5:=Tryz.sizeOf5
 v5:=Tryz.zeroValue5
 t9:=Tryz.underlying9
 a9:=Tryz.isAgg9
 z9:=Tryz.sizeOf9
 v9:=Tryz.zeroValue9
 t46:=Tryz.underlying257
 a46:=Tryz.isAgg257
 z46:=Tryz.sizeOf257
 v46:=Tryz.zeroValue257
 t51:=Tryz.underlying295
 a51:=Tryz.isAgg295
 z51:=Tryz.sizeOf295
 v51:=Tryz.zeroValue295
 t146:=Tryz.underlying296
 a146:=Tryz.isAgg296
 z146:=Tryz.sizeOf296
 v146:=Tryz.zeroValue296
 g1:=by kernel_rfl}
open Go.RowKit Go.Lib in
theorem Tryz.strings_Index (s sub:ByteArray) (m:Int) (w:World) (hs:s.size<4294967281) (hm:w.cell? ⟨0,0,none⟩=some (.int .i64 m)):
  Calls Tryz.prog 184 #[.string s,.string sub] w fun e w'=>e=.returned (.int .i64 (Lib.index s.data.toList sub.data.toList))/\w'=w:=Any.strings_Index Tryz.lays143 s sub m w hs hm
def Tryz.lays145_ren:Go.Shelf.Ren:=⟨fun|145=>39|220=>75|219=>131|217=>178|225=>179|224=>180|267=>181|266=>216|314=>217|n=>n,fun|9=>9|4=>4|59=>76|3=>3|5=>5|46=>257|146=>296|51=>295|n=>n,fun|1=>0|n=>n⟩
theorem Tryz.lays145:Go.Proofs.Lays.n145 Tryz.prog Tryz.lays145_ren:={
 mixed:=by kernel_rfl
 f145:=Tryz.func39.trans (congrArg some (by kernel_rfl))
 f217:=Tryz.func178.trans (congrArg some (by kernel_rfl))
 f219:=Tryz.func131.trans (congrArg some (by kernel_rfl))
 f220:=Tryz.func75.trans (congrArg some (by kernel_rfl))
 f224:=Tryz.func180.trans (congrArg some (by kernel_rfl))
 f225:=Tryz.func179.trans (congrArg some (by kernel_rfl))
 f266:=Tryz.func216.trans (congrArg some (by kernel_rfl))
 f267:=Tryz.func181.trans (congrArg some (by kernel_rfl))
 f314:=Tryz.func217.trans (congrArg some (by kernel_rfl))
 t3:=Tryz.underlying3
 a3:=Tryz.isAgg3
 z3:=Tryz.sizeOf3
 v3:=Tryz.zeroValue3
 t4:=Tryz.underlying4
 a4:=Tryz.isAgg4
 z4:=Tryz.sizeOf4
 v4:=Tryz.zeroValue4
 t5:=Tryz.underlying5
 a5:=Tryz.isAgg5
 z5:=Tryz.sizeOf5
 v5:=Tryz.zeroValue5
 t9:=Tryz.underlying9
 a9:=Tryz.isAgg9
 z9:=Tryz.sizeOf9
 v9:=Tryz.zeroValue9
 t46:=Tryz.underlying257
 a46:=Tryz.isAgg257
 z46:=Tryz.sizeOf257
 v46:=Tryz.zeroValue257
 t51:=Tryz.underlying295
 a51:=Tryz.isAgg295
 z51:=Tryz.sizeOf295
 v51:=Tryz.zeroValue295
 t59:=Tryz.underlying76
 a59:=Tryz.isAgg76
 z59:=Tryz.sizeOf76
 v59:=Tryz.zeroValue76
 t146:=Tryz.underlying296
 a146:=Tryz.isAgg296
 z146:=Tryz.sizeOf296
 v146:=Tryz.zeroValue296
 g1:=by kernel_rfl}
open Go.RowKit Go.Lib in
theorem Tryz.strings_Cut (s sep:ByteArray) (m:Int) (w:World) (hs:s.size<4294967281) (hm:w.cell? ⟨0,0,none⟩=some (.int .i64 m)):
  Calls Tryz.prog 39 #[.string s,.string sep] w fun e w'=>e=.returned (.tuple #[.string ⟨(Lib.cut s.data.toList sep.data.toList).1.toArray⟩,.string ⟨(Lib.cut s.data.toList sep.data.toList).2.1.toArray⟩,.bool (Lib.cut s.data.toList sep.data.toList).2.2])/\∃n,w'=w.drewN n:=Any.strings_Cut Tryz.lays145 s sep m w hs hm
end Go.Proofs
namespace Go.Proofs.YtldggonlkafckaaGreatDoor
open Go.RowKit Go.Sort
theorem SC.of_calls [Globals] {P:Program} {k:FuncId} {args:List GV} {g:GV}
  (h:∀(C:Cx) (w:World) (vs:Array Value),Rel C ⟨[],0,[]⟩ w w->VRs C args vs.toList->Calls P k vs w fun e w'=>∃v,e=.returned v/\Base (fun _=>False) w w'/\VR C g v):
  SC P k args [] (.val g) []:=by
 refine⟨rL _,fun C w vs hr hv=>(h C w vs hr hv).mono fun e w' ⟨v,he,hb,hg⟩=>⟨C,.refl C,?_,v,he,hg⟩,fun x hx=>by simp at hx⟩
 have hb':Base C.mine w w':=⟨hb.os,hb.tape,hb.output,hb.size,fun i hi _=>hb.block i hi (fun h=>h)⟩
 refine⟨hb',fun b o v hx=>?_,fun r x hx=>by simp at hx,hr.dom,hr.new,hr.inj,hr.sepB,hr.sepO,hr.fxn,hr.gl,hr.gs⟩
 have h1:=hr.fxc b o v hx
 have hlt:b<w.heap.size:=block_lt_of_cell h1
 unfold World.cell? at h1⊢
 rw[hb.block b hlt (fun h=>h)]
 exact h1
theorem Base.grow_drew (w:World) (k:Nat) (os:Array Obj):Base (fun _=>False) w (grow (w.drewN k) os):=by
 refine⟨rfl,rfl,rfl,?_,fun i hi _=>?_⟩
 ·show w.heap.size<=(w.heap++os).size
  simp
 ·show(w.heap++os)[i]?=w.heap[i]?
  rw[Array.getElem?_append_left hi]
end Go.Proofs.YtldggonlkafckaaGreatDoor
namespace Go.Proofs.YtldggonlkafckaaGreatDoor
open Go.RowKit Go.Sort
set_option maxRecDepth 100000
set_option linter.unusedVariables false
theorem Base.below {w w':World} (h:Below w.heap.size w w'):Base (fun _=>False) w w':=⟨h.os,h.tape,h.output,h.size,fun i hi _=>h.block i hi⟩
theorem Base.bytes (w:World) (e:TypeId) (s:ByteArray):Base (fun _=>False) w (Lib.bytesWorld w e s):=.below (Lib.bytesWorld_below w e s)
theorem var_of [MaxL] {C:Cx} {σ:GS} {w:World} (hr:Rel C σ w w) {P:Program} {g:Nat} {name:String} {cs:List GV} {vs:List Value} (hn:P.globalNamed name=some g) (ht:Globals.tab g=some cs) (hlen:vs.length=cs.length)
  (hv:∀(j:Nat) x u,cs[j]?=some x->VR C x u->vs[j]?=some u):w.var? P name=some vs.toArray:=by
 obtain⟨_,c,t,fr,ho,hsz⟩:=hr.gs g cs ht
 unfold World.var?
 rw[hn]
 show(match w.heap[g]? with|some (.cells cs _ _)=>some cs|_=>none)=_
 rw[ho]
 simp only[Option.some.injEq]
 apply Array.ext (by simp[hsz,hlen])
 intro i h1 h2
 have hi:i<cs.length:=by omega
 obtain⟨u,hfx,hvr⟩:=hr.gl g cs i cs[i] ht (gL hi)
 have hc:=hr.fxc _ _ _ hfx
 have hu:=hv i _ u (gL hi) (hvr C fun _ _ _ h=>h)
 unfold World.cell? at hc
 rw[ho] at hc
 simp at hc
 rw[Array.getElem?_eq_getElem h1] at hc
 rw[gL (by simpa using h2)] at hu
 simp at hc hu⊢
 rw[hc,hu]
theorem c_Itoa [MaxL] (n:Int) (h0: -9223372036854775808<=n) (h1:n<=9223372036854775807):SC Tryz.prog 194 [.i .i64 n] [] (.val (.s (Lib.itoa n))) []:=by
 refine SC.of_calls fun C w vs hr hv=>?_
 obtain⟨v,vs',e,hv1,hv2⟩:=hv.cons_inv
 have:vs'=[]:=List.eq_nil_of_length_eq_zero (by simpa using hv2.1)
 subst this
 obtain rfl:vs= #[v]:=by rw[<-Array.toArray_toList (xs:=vs),e]
 cases hv1
 have htab:Lib.TabIs Tryz.prog w "internal/strconv.uint64pow10" .u64 Lib.pow10Tab:=by
  refine var_of hr (g:=7) (cs:=laid7) (by kernel_rfl) rfl (by kernel_rfl) (fun j x u hx hu=>?_)
  have key:laid7=Lib.pow10Tab.map fun z=>GV.i .u64 z:=by kernel_rfl
  rw[key,List.getElem?_map,Option.map_eq_some_iff] at hx
  obtain⟨z,hz,rfl⟩:=hx
  cases hu
  rw[List.getElem?_map,hz];rfl
 refine(Tryz.strconv_Itoa n h0 h1 w htab).mono ?_
 rintro e w' ⟨he,k,os,rfl⟩
 exact⟨_,he,Base.grow_drew w k os,.s _⟩
theorem c_Atoi_ok [MaxL] (l:List UInt8) (hl:l.length<=9223372036854775806) (v:Int) (h:Lib.atoiAll l=.ok v):SC Tryz.prog 193 [.s l] [] (.val (.tup [.i .i64 v,.o .nilIface])) []:=by
 refine SC.of_calls fun C w vs hr hv=>?_
 obtain⟨u,vs',e,hv1,hv2⟩:=hv.cons_inv
 have:vs'=[]:=List.eq_nil_of_length_eq_zero (by simpa using hv2.1)
 subst this
 obtain rfl:vs= #[u]:=by rw[<-Array.toArray_toList (xs:=vs),e]
 cases hv1
 refine(Tryz.strconv_Atoi_ok ⟨l.toArray⟩ (by simpa[ByteArray.size] using hl) v (by simpa using h) w).mono ?_
 rintro e w' ⟨he,hw⟩
 refine⟨_,he,?_,.tup rfl (fun j g u h1 h2=>?_)⟩
 ·rcases hw with rfl|⟨t,rfl⟩
  ·exact .refl _ _
  ·exact .bytes _ _ _
 ·rcases j with _|_|j
  ·simp at h1 h2;subst h1;subst h2;exact .i _ _
  ·simp at h1 h2;subst h1;subst h2;exact .o rfl
  ·simp at h1
theorem c_Atoi_no [MaxL] (l:List UInt8) (hl:l.length<=281474976710656) (h:∀v,Lib.atoiAll l≠ .ok v):∃n,SC Tryz.prog 193 [.s l] [] (.val (.tup [.i .i64 n,.ifc 331 .any])) []:=by
 have err:∀{C:Cx} {w:World} (g:Nat) (x:GV) (t:TypeId),Rel C ⟨[],0,[]⟩ w w->Globals.tab g=some [.ifc t x]->∃p,w.cell? ⟨g,0,none⟩=some (.iface t p):=fun g x t hr ht=>by
  obtain⟨u,hfx,hvr⟩:=hr.gl g _ 0 _ ht rfl
  have:=hvr _ (fun _ _ _ h=>h)
  cases this
  exact⟨_,hr.fxc _ _ _ hfx⟩
 have two:∀{C:Cx} {n:Int} {v:Value},VR C (.tup [.i .i64 n,.ifc 331 .any]) (.tuple #[.int .i64 n,.iface 331 v]):=fun{C n v}=>.tup rfl (fun j g u h1 h2=>by
  rcases j with _|_|j
  ·simp at h1 h2;subst h1;subst h2;exact .i _ _
  ·simp at h1 h2;subst h1;subst h2;exact .ifc (.any _)
  ·simp at h1)
 have arg:∀{C:Cx} {vs:Array Value},VRs C [.s l] vs.toList->vs= #[.string ⟨l.toArray⟩]:=fun{C vs} hv=>by
  obtain⟨u,vs',e,hv1,hv2⟩:=hv.cons_inv
  have:vs'=[]:=List.eq_nil_of_length_eq_zero (by simpa using hv2.1)
  subst this
  cases hv1
  rw[<-Array.toArray_toList (xs:=vs),e]
 rcases hr:Lib.atoiAll l with v|_|_
 ·exact absurd hr (h v)
 ·skip
  refine⟨0,SC.of_calls fun C w vs hrel hv=>?_⟩
  obtain rfl:=arg hv
  obtain⟨p,hp⟩:=err 4 _ _ hrel rfl
  refine(Any.strconv_Atoi_syntax Tryz.laysC172 ⟨l.toArray⟩ (by simpa[ByteArray.size] using hl) (by simpa using hr) _ w hp (.inr ⟨_,_,rfl⟩)).mono ?_
  rintro e w' ⟨N,he,_,_,hb⟩
  exact⟨_,he,.below hb,two⟩
 ·skip
  refine⟨Lib.atoiSat l,SC.of_calls fun C w vs hrel hv=>?_⟩
  obtain rfl:=arg hv
  obtain⟨p,hp⟩:=err 5 _ _ hrel rfl
  refine(Tryz.strconv_Atoi_range ⟨l.toArray⟩ (by simpa[ByteArray.size] using hl) (by simpa using hr) _ w hp (.inr ⟨_,_,rfl⟩)).mono ?_
  rintro e w' ⟨N,he,_,_,hb⟩
  exact⟨_,he,.below hb,two⟩
theorem c_Join [MaxL] (xs:List (List UInt8)) (sep:List UInt8) (h1:xs.length<=140737488355328) (h2:(Lib.join xs sep).length<=140737488355328):SC Tryz.prog 73 [.sl .none (xs.map .s),.s sep] [] (.val (.s (Lib.join xs sep))) []:=by
 refine SC.of_calls fun C w vs hr hv=>?_
 obtain⟨u,vs',e,hv1,hv2⟩:=hv.cons_inv
 obtain⟨u2,vs'',rfl,hv3,hv4⟩:=hv2.cons_inv
 have:vs''=[]:=List.eq_nil_of_length_eq_zero (by simpa using hv4.1)
 subst this
 obtain rfl:vs= #[u,u2]:=by rw[<-Array.toArray_toList (xs:=vs),e]
 cases hv3
 cases hv1 with
 |sl esz b off us hn hc ha hw hx hvv ht=>
 rename_i a n c
 have hn':n=xs.length:=by simpa using hn
 subst hn'
 have he1:∀(j:Nat) x,xs[j]?=some x->esz=1:=fun j x hj=>by
  have:=hw (.s x) (List.mem_map.2 ⟨x,List.mem_iff_getElem?.2 ⟨j,hj⟩,rfl⟩)
  simpa[GV.cells] using this.symm
 by_cases h0:xs.length=0
 ·have:xs=[]:=List.eq_nil_of_length_eq_zero h0
  subst this
  refine(Tryz.strings_Join_none a c ⟨sep.toArray⟩ w).mono ?_
  rintro e w' ⟨he,rfl⟩
  exact⟨_,he,.refl _ _,.s []⟩
 ·rcases ha with⟨rfl,hc0⟩|rfl|h9
  ·omega
  rotate_left
  ·omega
  ·have hcell:∀(j:Nat) x,xs[j]?=some x->w.cell? ⟨b,off+j,none⟩=some (.string ⟨x.toArray⟩):=fun j x hj=>by
    have e1:=he1 j x hj
    subst e1
    have hm:(xs.map GV.s)[j]?=some (.s x):=by rw[List.getElem?_map,hj];rfl
    have q1:=hr.fxc _ _ _ (hx j (.s x) 0 (.s x) hm rfl)
    have q2:=hvv j (.s x) 0 (.s x) hm rfl
    rw[show off+j*1+0=off+j by omega] at q1
    rw[q1]
    generalize us (j*1+0)=z at q2
    cases q2
    rfl
   have hbk:b<w.heap.size:=by
    have:=hcell 0 xs[0] (gL (by omega))
    exact block_lt_of_cell this
   have key:(xs.map fun x=>(⟨x.toArray⟩:ByteArray)).map (·.data.toList)=xs:=by rw[List.map_map];simp[Function.comp_def]
   have:=Tryz.strings_Join b off c (xs.map fun x=>⟨x.toArray⟩) ⟨sep.toArray⟩ w (fun j x hj=>by
    rw[List.getElem?_map,Option.map_eq_some_iff] at hj
    obtain⟨y,hy,rfl⟩:=hj
    exact hcell j y hy) hbk (by simpa using h1) (by simpa using hc) (by rw[key];simpa using h2)
   rw[key] at this
   simp only[List.length_map] at this
   refine this.mono ?_
   rintro e w' ⟨he,hb⟩
   exact⟨_,he,.below hb,.s _⟩
end Go.Proofs.YtldggonlkafckaaGreatDoor
