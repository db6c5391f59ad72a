/- Part of ViewWrong. -/
import Derived.Shelf.Spec.SlicesGrow
import Derived.Shelf.Strings.Builder1
import Derived.Shelf.Strings.Builder2
import Derived.Shelf.Strings.OnBuilder
import Derived.Shelf.Strings.BuilderF
import Derived.Shelf.Strings.BuilderK
import Derived.Shelf.Strconv.Atoi
import Derived.Shelf.Strconv.Itoa0
import Derived.Shelf.Strconv.Itoa1
import Derived.Shelf.LaysM
import Derived.Shelf.Strconv.Itoa2
import Derived.Shelf.Strconv.Itoa3
import Derived.Shelf.Strconv.AtoiErrFast
import Derived.Shelf.Strconv.ParseIntEmpty
import Derived.Shelf.Strconv.AtoiFail
import Derived.Shelf.Strconv.Clone
import Derived.Shelf.Strconv.SyntaxError
import Derived.Shelf.LaysC
import Derived.Shelf.Strconv.ToError
import Derived.Shelf.Strconv.AtoiErr
import Derived.Shelf.Strconv.Lower
import Derived.Shelf.Strconv.ParseUint10
import Derived.Shelf.Strconv.ParseUint10Empty
import Derived.Shelf.Strconv.ParseUint10Any
import Derived.Shelf.Strconv.ParseInt10
import Derived.Shelf.Strconv.AtoiLong
import Derived.Shelf.Strconv.AtoiInnerAll
import Derived.Shelf.Strconv.RangeError
import Derived.Shelf.Strconv.ToErrorRange
import Derived.Shelf.Strconv.AtoiAll
import Derived.Shelf.Strconv.ErrVarAll
import Derived.Shelf.Strings.Search1
import Derived.Shelf.Strings.Search2
import Derived.Shelf.Strings.Search3
import Derived.Shelf.Strings.Cut
import Derived.Shelf.Strings.Shaped
import Derived.Shelf.Unicode.DecodeSlow
import Derived.Test.YtimgfjldcdhejaaGreatDoorK13
import Derived.Sort.Grow
set_option linter.all false
set_option maxRecDepth 100000
namespace Go.Proofs
open Go.Shelf
def Tryz.growN_ren:Go.Shelf.Ren:=⟨fun|4=>306|n=>n,fun|22=>292|25=>187|3=>3|4=>4|9=>9|20=>20|0=>0|n=>n,fun|n=>n⟩
theorem Tryz.growN:Go.Proofs.Lays8.n4 Tryz.prog Tryz.growN_ren:={
 mixed:=by kernel_rfl
 f4:=⟨Tryz.f306.name,by decide,Tryz.func306.trans (congrArg some (by kernel_rfl))⟩
 t0:=Tryz.underlying0
 a0:=Tryz.isAgg0
 z0:=Tryz.sizeOf0
 v0:=Tryz.zeroValue0
 t3:=Tryz.underlying3
 a3:=Tryz.isAgg3
 z3:=Tryz.sizeOf3
 v3:=Tryz.zeroValue3
 t4:=Tryz.underlying4
 a4:=Tryz.isAgg4
 z4:=Tryz.sizeOf4
 v4:=Tryz.zeroValue4
 t9:=Tryz.underlying9
 a9:=Tryz.isAgg9
 z9:=Tryz.sizeOf9
 v9:=Tryz.zeroValue9
 t20:=Tryz.underlying20
 a20:=Tryz.isAgg20
 z20:=Tryz.sizeOf20
 v20:=Tryz.zeroValue20
 t22:=Tryz.underlying292
 a22:=Tryz.isAgg292
 z22:=Tryz.sizeOf292
 v22:=Tryz.zeroValue292}
def Tryz.lays169_ren:Go.Shelf.Ren:=⟨fun|169=>180|n=>n,fun|70=>218|9=>9|0=>0|72=>221|37=>219|127=>280|3=>3|5=>5|n=>n,fun|n=>n⟩
theorem Tryz.lays169:Go.Proofs.Lays.n169 Tryz.prog Tryz.lays169_ren:={
 mixed:=by kernel_rfl
 f169:=Tryz.func180.trans (congrArg some (by kernel_rfl))
 t0:=Tryz.underlying0
 a0:=Tryz.isAgg0
 z0:=Tryz.sizeOf0
 v0:=Tryz.zeroValue0
 t3:=Tryz.underlying3
 a3:=Tryz.isAgg3
 z3:=Tryz.sizeOf3
 v3:=Tryz.zeroValue3
 t9:=Tryz.underlying9
 a9:=Tryz.isAgg9
 z9:=Tryz.sizeOf9
 v9:=Tryz.zeroValue9
 t37:=Tryz.underlying219
 a37:=Tryz.isAgg219
 z37:=Tryz.sizeOf219
 v37:=Tryz.zeroValue219
 t70:=Tryz.underlying218
 a70:=Tryz.isAgg218
 z70:=Tryz.sizeOf218
 v70:=Tryz.zeroValue218
 t72:=Tryz.underlying221
 a72:=Tryz.isAgg221
 z72:=Tryz.sizeOf221
 v72:=Tryz.zeroValue221
 t127:=Tryz.underlying280
 a127:=Tryz.isAgg280
 z127:=Tryz.sizeOf280
 v127:=Tryz.zeroValue280}
theorem Tryz.Builder_Extra_169:Builder.Extra Tryz.prog Tryz.lays169_ren:={
 sizeBuilder:=by kernel_rfl
 liesBuilder:=by kernel_rfl
 t5:=Tryz.underlying5
 a5:=Tryz.isAgg5
 z5:=Tryz.sizeOf5
 v5:=Tryz.zeroValue5
 infoByte:=by kernel_rfl
 cellsByte:=by kernel_rfl
 sizeByte:=by kernel_rfl
 neB5:=by decide}
def Tryz.lays156_ren:Go.Shelf.Ren:=⟨fun|156=>179|165=>237|166=>178|169=>180|240=>236|241=>285|276=>284|277=>304|n=>n,fun|31=>43|9=>9|3=>3|4=>4|0=>0|20=>20|72=>221|76=>224|70=>218|37=>219|75=>223|127=>280|164=>312|5=>5|80=>227|n=>n,fun|n=>n⟩
theorem Tryz.lays156:Go.Proofs.Lays.n156 Tryz.prog Tryz.lays156_ren:={
 mixed:=by kernel_rfl
 f156:=Tryz.func179.trans (congrArg some (by kernel_rfl))
 f165:=Tryz.func237.trans (congrArg some (by kernel_rfl))
 f166:=Tryz.func178.trans (congrArg some (by kernel_rfl))
 f169:=Tryz.func180.trans (congrArg some (by kernel_rfl))
 f240:=Tryz.func236.trans (congrArg some (by kernel_rfl))
 f241:=Tryz.func285.trans (congrArg some (by kernel_rfl))
 f276:=Tryz.func284.trans (congrArg some (by kernel_rfl))
 f277:=Tryz.func304.trans (congrArg some (by kernel_rfl))
 t0:=Tryz.underlying0
 a0:=Tryz.isAgg0
 z0:=Tryz.sizeOf0
 v0:=Tryz.zeroValue0
 t3:=Tryz.underlying3
 a3:=Tryz.isAgg3
 z3:=Tryz.sizeOf3
 v3:=Tryz.zeroValue3
 t4:=Tryz.underlying4
 a4:=Tryz.isAgg4
 z4:=Tryz.sizeOf4
 v4:=Tryz.zeroValue4
 t9:=Tryz.underlying9
 a9:=Tryz.isAgg9
 z9:=Tryz.sizeOf9
 v9:=Tryz.zeroValue9
 t20:=Tryz.underlying20
 a20:=Tryz.isAgg20
 z20:=Tryz.sizeOf20
 v20:=Tryz.zeroValue20
 t31:=Tryz.underlying43
 a31:=Tryz.isAgg43
 z31:=Tryz.sizeOf43
 v31:=Tryz.zeroValue43
 t37:=Tryz.underlying219
 a37:=Tryz.isAgg219
 z37:=Tryz.sizeOf219
 v37:=Tryz.zeroValue219
 t70:=Tryz.underlying218
 a70:=Tryz.isAgg218
 z70:=Tryz.sizeOf218
 v70:=Tryz.zeroValue218
 t72:=Tryz.underlying221
 a72:=Tryz.isAgg221
 z72:=Tryz.sizeOf221
 v72:=Tryz.zeroValue221
 t75:=Tryz.underlying223
 a75:=Tryz.isAgg223
 z75:=Tryz.sizeOf223
 v75:=Tryz.zeroValue223
 t76:=Tryz.underlying224
 a76:=Tryz.isAgg224
 z76:=Tryz.sizeOf224
 v76:=Tryz.zeroValue224
 t127:=Tryz.underlying280
 a127:=Tryz.isAgg280
 z127:=Tryz.sizeOf280
 v127:=Tryz.zeroValue280
 t164:=Tryz.underlying312
 a164:=Tryz.isAgg312
 z164:=Tryz.sizeOf312
 v164:=Tryz.zeroValue312}
theorem Tryz.Builder_Extra_156:Builder.Extra Tryz.prog Tryz.lays156_ren:={
 sizeBuilder:=by kernel_rfl
 liesBuilder:=by kernel_rfl
 t5:=Tryz.underlying5
 a5:=Tryz.isAgg5
 z5:=Tryz.sizeOf5
 v5:=Tryz.zeroValue5
 infoByte:=by kernel_rfl
 cellsByte:=by kernel_rfl
 sizeByte:=by kernel_rfl
 neB5:=by decide}
open Go.RowKit in
theorem Tryz.strings_Join_none (a:Option Addr) (c:Nat) (sep:ByteArray) (w:World):
  Calls Tryz.prog 179 #[.slice a 0 c,.string sep] w fun e w'=>e=.returned (.string ⟨#[]⟩)/\w'=w:=Any.strings_Join_none Tryz.lays156 Tryz.Builder_Extra_156 a c sep w
open Go.RowKit in
theorem Tryz.strings_Join (bk o c:Nat) (xs:List ByteArray) (sep:ByteArray) (w:World) (hcells:∀(j:Nat) x,xs[j]?=some x->w.cell? ⟨bk,o+j,none⟩=some (.string x)) (hbk:bk<w.heap.size) (hN:xs.length<=140737488355328) (hcap:xs.length<=c) (hlen:(Lib.join (xs.map (·.data.toList)) sep.data.toList).length<=140737488355328):
  Calls Tryz.prog 179 #[.slice (some ⟨bk,o,none⟩) xs.length c,.string sep] w fun e w'=>e=.returned (.string ⟨(Lib.join (xs.map (·.data.toList)) sep.data.toList).toArray⟩)/\Below w.heap.size w w':=Any.strings_Join Tryz.lays156 Tryz.Builder_Extra_156 bk o c xs sep w hcells hbk hN hcap hlen
def Tryz.lays172_ren:Go.Shelf.Ren:=⟨fun|172=>329|244=>332|245=>333|247=>341|279=>342|280=>343|281=>344|282=>345|287=>352|316=>353|171=>314|205=>354|321=>358|322=>359|243=>324|246=>331|283=>337|284=>338|285=>339|286=>340|129=>348|317=>347|318=>349|319=>350|320=>351|337=>356|338=>357|n=>n,fun|9=>9|3=>3|75=>223|76=>224|4=>4|5=>5|167=>365|37=>219|0=>0|85=>366|2=>2|168=>368|53=>360|175=>375|46=>275|210=>378|127=>280|145=>384|143=>382|21=>21|171=>359|173=>363|212=>372|51=>309|20=>20|213=>373|232=>385|233=>386|80=>227|n=>n,fun|15=>4|16=>5|17=>3|18=>6|19=>7|n=>n⟩
def Tryz.laysM246_ren:Go.Shelf.Ren:=⟨fun|246=>331|283=>337|284=>338|285=>339|286=>340|129=>348|317=>347|318=>349|319=>350|320=>351|337=>356|338=>357|n=>n,fun|2=>2|3=>3|9=>9|4=>4|171=>359|0=>0|53=>360|37=>219|5=>5|173=>363|212=>372|51=>309|20=>20|213=>373|46=>275|232=>385|233=>386|n=>n,fun|17=>3|18=>6|19=>7|n=>n⟩
def Tryz.laysM243_ren:Go.Shelf.Ren:=⟨fun|243=>324|246=>331|283=>337|284=>338|285=>339|286=>340|129=>348|317=>347|318=>349|319=>350|320=>351|337=>356|338=>357|n=>n,fun|3=>3|9=>9|2=>2|4=>4|171=>359|0=>0|53=>360|37=>219|5=>5|173=>363|212=>372|51=>309|20=>20|213=>373|46=>275|232=>385|233=>386|n=>n,fun|17=>3|18=>6|19=>7|n=>n⟩
def Tryz.laysM171_ren:Go.Shelf.Ren:=⟨fun|171=>314|243=>324|246=>331|283=>337|284=>338|285=>339|286=>340|129=>348|317=>347|318=>349|319=>350|320=>351|337=>356|338=>357|n=>n,fun|3=>3|9=>9|2=>2|4=>4|171=>359|0=>0|53=>360|37=>219|5=>5|173=>363|212=>372|51=>309|20=>20|213=>373|46=>275|232=>385|233=>386|n=>n,fun|17=>3|18=>6|19=>7|n=>n⟩
theorem Tryz.laysM171:Go.Proofs.LaysM.n171 Tryz.prog Tryz.laysM171_ren:={
 mixed:=by kernel_rfl
 f129:=Tryz.func348.trans (congrArg some (by kernel_rfl))
 f171:=Tryz.func314.trans (congrArg some (by kernel_rfl))
 f243:=Tryz.func324.trans (congrArg some (by kernel_rfl))
 f246:=Tryz.func331.trans (congrArg some (by kernel_rfl))
 f283:=Tryz.func337.trans (congrArg some (by kernel_rfl))
 f284:=Tryz.func338.trans (congrArg some (by kernel_rfl))
 f285:=Tryz.func339.trans (congrArg some (by kernel_rfl))
 f286:=Tryz.func340.trans (congrArg some (by kernel_rfl))
 f317:=Tryz.func347.trans (congrArg some (by kernel_rfl))
 f318:=Tryz.func349.trans (congrArg some (by kernel_rfl))
 f319:=Tryz.func350.trans (congrArg some (by kernel_rfl))
 f320:=Tryz.func351.trans (congrArg some (by kernel_rfl))
 f337:=Tryz.func356.trans (congrArg some (by kernel_rfl))
 f338:=Tryz.func357.trans (congrArg some (by kernel_rfl))
 t0:=Tryz.underlying0
 a0:=Tryz.isAgg0
 z0:=Tryz.sizeOf0
 v0:=Tryz.zeroValue0
 t2:=Tryz.underlying2
 a2:=Tryz.isAgg2
 z2:=Tryz.sizeOf2
 v2:=Tryz.zeroValue2
 t3:=Tryz.underlying3
 a3:=Tryz.isAgg3
 z3:=Tryz.sizeOf3
 v3:=Tryz.zeroValue3
 t4:=Tryz.underlying4
 a4:=Tryz.isAgg4
 z4:=Tryz.sizeOf4
 v4:=Tryz.zeroValue4
 t5:=Tryz.underlying5
 a5:=Tryz.isAgg5
 z5:=Tryz.sizeOf5
 v5:=Tryz.zeroValue5
 t9:=Tryz.underlying9
 a9:=Tryz.isAgg9
 z9:=Tryz.sizeOf9
 v9:=Tryz.zeroValue9
 t20:=Tryz.underlying20
 a20:=Tryz.isAgg20
 z20:=Tryz.sizeOf20
 v20:=Tryz.zeroValue20
 t37:=Tryz.underlying219
 a37:=Tryz.isAgg219
 z37:=Tryz.sizeOf219
 v37:=Tryz.zeroValue219
 t46:=Tryz.underlying275
 a46:=Tryz.isAgg275
 z46:=Tryz.sizeOf275
 v46:=Tryz.zeroValue275
 t51:=Tryz.underlying309
 a51:=Tryz.isAgg309
 z51:=Tryz.sizeOf309
 v51:=Tryz.zeroValue309
 t53:=Tryz.underlying360
 a53:=Tryz.isAgg360
 z53:=Tryz.sizeOf360
 v53:=Tryz.zeroValue360
 t171:=Tryz.underlying359
 a171:=Tryz.isAgg359
 z171:=Tryz.sizeOf359
 v171:=Tryz.zeroValue359
 t173:=Tryz.underlying363
 a173:=Tryz.isAgg363
 z173:=Tryz.sizeOf363
 v173:=Tryz.zeroValue363
 t212:=Tryz.underlying372
 a212:=Tryz.isAgg372
 z212:=Tryz.sizeOf372
 v212:=Tryz.zeroValue372
 t213:=Tryz.underlying373
 a213:=Tryz.isAgg373
 z213:=Tryz.sizeOf373
 t232:=Tryz.underlying385
 a232:=Tryz.isAgg385
 z232:=Tryz.sizeOf385
 v232:=Tryz.zeroValue385
 t233:=Tryz.underlying386
 a233:=Tryz.isAgg386
 z233:=Tryz.sizeOf386
 v233:=Tryz.zeroValue386
 g17:=by kernel_rfl
 g18:=by kernel_rfl
 g19:=by kernel_rfl
 i0:=by kernel_rfl
 i2:=by kernel_rfl
 i3:=by kernel_rfl
 i4:=by kernel_rfl
 i5:=by kernel_rfl
 i9:=by kernel_rfl
 i20:=by kernel_rfl
 i37:=by kernel_rfl
 i46:=by kernel_rfl
 i51:=by kernel_rfl
 i53:=by kernel_rfl
 i171:=by kernel_rfl
 i173:=by kernel_rfl
 i212:=by kernel_rfl
 i232:=by kernel_rfl
 i233:=by kernel_rfl
 m17:=by kernel_rfl
 m18:=by kernel_rfl
 m19:=by kernel_rfl}
open Go.RowKit Go.Sort Go.Lib in
theorem Tryz.strconv_Itoa (n:Int) (h0: -9223372036854775808≤n) (h1:n≤9223372036854775807) (w:World) (htab:Lib.TabIs Tryz.prog w "internal/strconv.uint64pow10" .u64 Lib.pow10Tab):
  Calls Tryz.prog 314 #[.int .i64 n] w fun e w'=>e=.returned (.string ⟨(Lib.itoa n).toArray⟩)/\∃k os,w'=grow (w.drewN k) os:=Any.strconv_Itoa Tryz.laysM171 n h0 h1 w htab
def Tryz.laysC245_ren:Go.Shelf.Ren:=⟨fun|245=>333|279=>342|280=>343|281=>344|282=>345|316=>353|171=>314|205=>354|243=>324|246=>331|283=>337|284=>338|285=>339|286=>340|129=>348|317=>347|318=>349|319=>350|320=>351|337=>356|338=>357|n=>n,fun|9=>9|3=>3|75=>223|167=>365|4=>4|168=>368|210=>378|37=>219|0=>0|127=>280|145=>384|143=>382|2=>2|171=>359|53=>360|5=>5|173=>363|212=>372|51=>309|20=>20|213=>373|46=>275|232=>385|233=>386|80=>227|n=>n,fun|15=>4|16=>5|17=>3|18=>6|19=>7|n=>n⟩
theorem Tryz.laysC245:Go.Proofs.LaysC.n245 Tryz.prog Tryz.laysC245_ren:={
 mixed:=by kernel_rfl
 f129:=Tryz.func348.trans (congrArg some (by kernel_rfl))
 f171:=Tryz.func314.trans (congrArg some (by kernel_rfl))
 f205:=Tryz.func354.trans (congrArg some (by kernel_rfl))
 f243:=Tryz.func324.trans (congrArg some (by kernel_rfl))
 f245:=Tryz.func333.trans (congrArg some (by kernel_rfl))
 f246:=Tryz.func331.trans (congrArg some (by kernel_rfl))
 f279:=Tryz.func342.trans (congrArg some (by kernel_rfl))
 f280:=Tryz.func343.trans (congrArg some (by kernel_rfl))
 f281:=Tryz.func344.trans (congrArg some (by kernel_rfl))
 f282:=Tryz.func345.trans (congrArg some (by kernel_rfl))
 f283:=Tryz.func337.trans (congrArg some (by kernel_rfl))
 f284:=Tryz.func338.trans (congrArg some (by kernel_rfl))
 f285:=Tryz.func339.trans (congrArg some (by kernel_rfl))
 f286:=Tryz.func340.trans (congrArg some (by kernel_rfl))
 f316:=Tryz.func353.trans (congrArg some (by kernel_rfl))
 f317:=Tryz.func347.trans (congrArg some (by kernel_rfl))
 f318:=Tryz.func349.trans (congrArg some (by kernel_rfl))
 f319:=Tryz.func350.trans (congrArg some (by kernel_rfl))
 f320:=Tryz.func351.trans (congrArg some (by kernel_rfl))
 f337:=Tryz.func356.trans (congrArg some (by kernel_rfl))
 f338:=Tryz.func357.trans (congrArg some (by kernel_rfl))
 t0:=Tryz.underlying0
 a0:=Tryz.isAgg0
 z0:=Tryz.sizeOf0
 v0:=Tryz.zeroValue0
 t2:=Tryz.underlying2
 a2:=Tryz.isAgg2
 z2:=Tryz.sizeOf2
 v2:=Tryz.zeroValue2
 t3:=Tryz.underlying3
 a3:=Tryz.isAgg3
 z3:=Tryz.sizeOf3
 v3:=Tryz.zeroValue3
 t4:=Tryz.underlying4
 a4:=Tryz.isAgg4
 z4:=Tryz.sizeOf4
 v4:=Tryz.zeroValue4
 t5:=Tryz.underlying5
 a5:=Tryz.isAgg5
 z5:=Tryz.sizeOf5
 v5:=Tryz.zeroValue5
 t9:=Tryz.underlying9
 a9:=Tryz.isAgg9
 z9:=Tryz.sizeOf9
 v9:=Tryz.zeroValue9
 t20:=Tryz.underlying20
 a20:=Tryz.isAgg20
 z20:=Tryz.sizeOf20
 v20:=Tryz.zeroValue20
 t37:=Tryz.underlying219
 a37:=Tryz.isAgg219
 z37:=Tryz.sizeOf219
 v37:=Tryz.zeroValue219
 t46:=Tryz.underlying275
 a46:=Tryz.isAgg275
 z46:=Tryz.sizeOf275
 v46:=Tryz.zeroValue275
 t51:=Tryz.underlying309
 a51:=Tryz.isAgg309
 z51:=Tryz.sizeOf309
 v51:=Tryz.zeroValue309
 t53:=Tryz.underlying360
 a53:=Tryz.isAgg360
 z53:=Tryz.sizeOf360
 v53:=Tryz.zeroValue360
 t75:=Tryz.underlying223
 a75:=Tryz.isAgg223
 z75:=Tryz.sizeOf223
 v75:=Tryz.zeroValue223
 t127:=Tryz.underlying280
 a127:=Tryz.isAgg280
 z127:=Tryz.sizeOf280
 v127:=Tryz.zeroValue280
 t143:=Tryz.underlying382
 a143:=Tryz.isAgg382
 z143:=Tryz.sizeOf382
 v143:=Tryz.zeroValue382
 t145:=Tryz.underlying384
 a145:=Tryz.isAgg384
 z145:=Tryz.sizeOf384
 v145:=Tryz.zeroValue384
 t167:=Tryz.underlying365
 a167:=Tryz.isAgg365
 z167:=Tryz.sizeOf365
 v167:=Tryz.zeroValue365
 t168:=Tryz.underlying368
 a168:=Tryz.isAgg368
 z168:=Tryz.sizeOf368
 v168:=Tryz.zeroValue368
 t171:=Tryz.underlying359
 a171:=Tryz.isAgg359
 z171:=Tryz.sizeOf359
 v171:=Tryz.zeroValue359
 t173:=Tryz.underlying363
 a173:=Tryz.isAgg363
 z173:=Tryz.sizeOf363
 v173:=Tryz.zeroValue363
 t210:=Tryz.underlying378
 a210:=Tryz.isAgg378
 z210:=Tryz.sizeOf378
 v210:=Tryz.zeroValue378
 t212:=Tryz.underlying372
 a212:=Tryz.isAgg372
 z212:=Tryz.sizeOf372
 v212:=Tryz.zeroValue372
 t213:=Tryz.underlying373
 a213:=Tryz.isAgg373
 z213:=Tryz.sizeOf373
 t232:=Tryz.underlying385
 a232:=Tryz.isAgg385
 z232:=Tryz.sizeOf385
 v232:=Tryz.zeroValue385
 t233:=Tryz.underlying386
 a233:=Tryz.isAgg386
 z233:=Tryz.sizeOf386
 v233:=Tryz.zeroValue386
 g15:=by kernel_rfl
 g16:=by kernel_rfl
 g17:=by kernel_rfl
 g18:=by kernel_rfl
 g19:=by kernel_rfl
 t80:=Tryz.underlying227
 a80:=Tryz.isAgg227
 z80:=Tryz.sizeOf227
 v80:=Tryz.zeroValue227
 i0:=by kernel_rfl
 i2:=by kernel_rfl
 i3:=by kernel_rfl
 i4:=by kernel_rfl
 i5:=by kernel_rfl
 i9:=by kernel_rfl
 i20:=by kernel_rfl
 i37:=by kernel_rfl
 i46:=by kernel_rfl
 i51:=by kernel_rfl
 i53:=by kernel_rfl
 i75:=by kernel_rfl
 i80:=by kernel_rfl
 i127:=by kernel_rfl
 i143:=by kernel_rfl
 i145:=by kernel_rfl
 i167:=by kernel_rfl
 i168:=by kernel_rfl
 i171:=by kernel_rfl
 i173:=by kernel_rfl
 i210:=by kernel_rfl
 i212:=by kernel_rfl
 i232:=by kernel_rfl
 i233:=by kernel_rfl
 m15:=by kernel_rfl
 m16:=by kernel_rfl
 m17:=by kernel_rfl
 m18:=by kernel_rfl
 m19:=by kernel_rfl
 c0:=by kernel_rfl
 c2:=by kernel_rfl
 c3:=by kernel_rfl
 c4:=by kernel_rfl
 c5:=by kernel_rfl
 c9:=by kernel_rfl
 c20:=by kernel_rfl
 c37:=by kernel_rfl
 c46:=by kernel_rfl
 c51:=by kernel_rfl
 c53:=by kernel_rfl
 c75:=by kernel_rfl
 c80:=by kernel_rfl
 c127:=by kernel_rfl
 c143:=by kernel_rfl
 c145:=by kernel_rfl
 c167:=by kernel_rfl
 c168:=by kernel_rfl
 c171:=by kernel_rfl
 c173:=by kernel_rfl
 c210:=by kernel_rfl
 c212:=by kernel_rfl
 c213:=by kernel_rfl
 c232:=by kernel_rfl
 c233:=by kernel_rfl}
open Go.RowKit in
theorem Tryz.strconv_toError_syntax (fn s:ByteArray) (base bits:Int) (ev:Value) (w:World) (hlim:s.size<=281474976710656) (hv:w.cell? ⟨4,0,none⟩=some ev) (hev:ev=.nilIface∨∃te pe,ev=.iface te pe):
  Calls Tryz.prog 333 #[.string fn,.string s,.int .i64 base,.int .i64 bits,.iface 365 (.int .i64 2)] w fun e w'=>∃N,e=.returned (.iface 368 (.pointer (some ⟨N,0,none⟩)))/\w.heap.size<=N/\w'.heap[N]?=some (.cells #[.string fn,.string s,ev] 378 (0,0))/\Below w.heap.size w w':=Any.strconv_toError_syntax Tryz.laysC245 fn s base bits ev w hlim hv hev
def Tryz.laysC172_ren:Go.Shelf.Ren:=⟨fun|172=>329|244=>332|245=>333|247=>341|279=>342|280=>343|281=>344|282=>345|287=>352|316=>353|171=>314|205=>354|321=>358|322=>359|243=>324|246=>331|283=>337|284=>338|285=>339|286=>340|129=>348|317=>347|318=>349|319=>350|320=>351|337=>356|338=>357|n=>n,fun|9=>9|3=>3|75=>223|76=>224|4=>4|5=>5|167=>365|37=>219|0=>0|85=>366|2=>2|168=>368|53=>360|175=>375|46=>275|210=>378|127=>280|145=>384|143=>382|21=>21|171=>359|173=>363|212=>372|51=>309|20=>20|213=>373|232=>385|233=>386|80=>227|n=>n,fun|15=>4|16=>5|17=>3|18=>6|19=>7|n=>n⟩
theorem Tryz.laysC172:Go.Proofs.LaysC.n172 Tryz.prog Tryz.laysC172_ren:={
 mixed:=by kernel_rfl
 f129:=Tryz.func348.trans (congrArg some (by kernel_rfl))
 f171:=Tryz.func314.trans (congrArg some (by kernel_rfl))
 f172:=Tryz.func329.trans (congrArg some (by kernel_rfl))
 f205:=Tryz.func354.trans (congrArg some (by kernel_rfl))
 f243:=Tryz.func324.trans (congrArg some (by kernel_rfl))
 f244:=Tryz.func332.trans (congrArg some (by kernel_rfl))
 f245:=Tryz.func333.trans (congrArg some (by kernel_rfl))
 f246:=Tryz.func331.trans (congrArg some (by kernel_rfl))
 f247:=Tryz.func341.trans (congrArg some (by kernel_rfl))
 f279:=Tryz.func342.trans (congrArg some (by kernel_rfl))
 f280:=Tryz.func343.trans (congrArg some (by kernel_rfl))
 f281:=Tryz.func344.trans (congrArg some (by kernel_rfl))
 f282:=Tryz.func345.trans (congrArg some (by kernel_rfl))
 f283:=Tryz.func337.trans (congrArg some (by kernel_rfl))
 f284:=Tryz.func338.trans (congrArg some (by kernel_rfl))
 f285:=Tryz.func339.trans (congrArg some (by kernel_rfl))
 f286:=Tryz.func340.trans (congrArg some (by kernel_rfl))
 f287:=Tryz.func352.trans (congrArg some (by kernel_rfl))
 f316:=Tryz.func353.trans (congrArg some (by kernel_rfl))
 f317:=Tryz.func347.trans (congrArg some (by kernel_rfl))
 f318:=Tryz.func349.trans (congrArg some (by kernel_rfl))
 f319:=Tryz.func350.trans (congrArg some (by kernel_rfl))
 f320:=Tryz.func351.trans (congrArg some (by kernel_rfl))
 f321:=Tryz.func358.trans (congrArg some (by kernel_rfl))
 f322:=Tryz.func359.trans (congrArg some (by kernel_rfl))
 f337:=Tryz.func356.trans (congrArg some (by kernel_rfl))
 f338:=Tryz.func357.trans (congrArg some (by kernel_rfl))
 t0:=Tryz.underlying0
 a0:=Tryz.isAgg0
 z0:=Tryz.sizeOf0
 v0:=Tryz.zeroValue0
 t2:=Tryz.underlying2
 a2:=Tryz.isAgg2
 z2:=Tryz.sizeOf2
 v2:=Tryz.zeroValue2
 t3:=Tryz.underlying3
 a3:=Tryz.isAgg3
 z3:=Tryz.sizeOf3
 v3:=Tryz.zeroValue3
 t4:=Tryz.underlying4
 a4:=Tryz.isAgg4
 z4:=Tryz.sizeOf4
 v4:=Tryz.zeroValue4
 t5:=Tryz.underlying5
 a5:=Tryz.isAgg5
 z5:=Tryz.sizeOf5
 v5:=Tryz.zeroValue5
 t9:=Tryz.underlying9
 a9:=Tryz.isAgg9
 z9:=Tryz.sizeOf9
 v9:=Tryz.zeroValue9
 t20:=Tryz.underlying20
 a20:=Tryz.isAgg20
 z20:=Tryz.sizeOf20
 v20:=Tryz.zeroValue20
 t21:=Tryz.underlying21
 a21:=Tryz.isAgg21
 z21:=Tryz.sizeOf21
 v21:=Tryz.zeroValue21
 t37:=Tryz.underlying219
 a37:=Tryz.isAgg219
 z37:=Tryz.sizeOf219
 v37:=Tryz.zeroValue219
 t46:=Tryz.underlying275
 a46:=Tryz.isAgg275
 z46:=Tryz.sizeOf275
 v46:=Tryz.zeroValue275
 t51:=Tryz.underlying309
 a51:=Tryz.isAgg309
 z51:=Tryz.sizeOf309
 v51:=Tryz.zeroValue309
 t53:=Tryz.underlying360
 a53:=Tryz.isAgg360
 z53:=Tryz.sizeOf360
 v53:=Tryz.zeroValue360
 t75:=Tryz.underlying223
 a75:=Tryz.isAgg223
 z75:=Tryz.sizeOf223
 v75:=Tryz.zeroValue223
 t76:=Tryz.underlying224
 a76:=Tryz.isAgg224
 z76:=Tryz.sizeOf224
 v76:=Tryz.zeroValue224
 t85:=Tryz.underlying366
 a85:=Tryz.isAgg366
 z85:=Tryz.sizeOf366
 v85:=Tryz.zeroValue366
 t127:=Tryz.underlying280
 a127:=Tryz.isAgg280
 z127:=Tryz.sizeOf280
 v127:=Tryz.zeroValue280
 t143:=Tryz.underlying382
 a143:=Tryz.isAgg382
 z143:=Tryz.sizeOf382
 v143:=Tryz.zeroValue382
 t145:=Tryz.underlying384
 a145:=Tryz.isAgg384
 z145:=Tryz.sizeOf384
 v145:=Tryz.zeroValue384
 t167:=Tryz.underlying365
 a167:=Tryz.isAgg365
 z167:=Tryz.sizeOf365
 v167:=Tryz.zeroValue365
 t168:=Tryz.underlying368
 a168:=Tryz.isAgg368
 z168:=Tryz.sizeOf368
 v168:=Tryz.zeroValue368
 t171:=Tryz.underlying359
 a171:=Tryz.isAgg359
 z171:=Tryz.sizeOf359
 v171:=Tryz.zeroValue359
 t173:=Tryz.underlying363
 a173:=Tryz.isAgg363
 z173:=Tryz.sizeOf363
 v173:=Tryz.zeroValue363
 t175:=Tryz.underlying375
 a175:=Tryz.isAgg375
 z175:=Tryz.sizeOf375
 v175:=Tryz.zeroValue375
 t210:=Tryz.underlying378
 a210:=Tryz.isAgg378
 z210:=Tryz.sizeOf378
 v210:=Tryz.zeroValue378
 t212:=Tryz.underlying372
 a212:=Tryz.isAgg372
 z212:=Tryz.sizeOf372
 v212:=Tryz.zeroValue372
 t213:=Tryz.underlying373
 a213:=Tryz.isAgg373
 z213:=Tryz.sizeOf373
 t232:=Tryz.underlying385
 a232:=Tryz.isAgg385
 z232:=Tryz.sizeOf385
 v232:=Tryz.zeroValue385
 t233:=Tryz.underlying386
 a233:=Tryz.isAgg386
 z233:=Tryz.sizeOf386
 v233:=Tryz.zeroValue386
 g15:=by kernel_rfl
 g16:=by kernel_rfl
 g17:=by kernel_rfl
 g18:=by kernel_rfl
 g19:=by kernel_rfl
 t80:=Tryz.underlying227
 a80:=Tryz.isAgg227
 z80:=Tryz.sizeOf227
 v80:=Tryz.zeroValue227
 i0:=by kernel_rfl
 i2:=by kernel_rfl
 i3:=by kernel_rfl
 i4:=by kernel_rfl
 i5:=by kernel_rfl
 i9:=by kernel_rfl
 i20:=by kernel_rfl
 i21:=by kernel_rfl
 i37:=by kernel_rfl
 i46:=by kernel_rfl
 i51:=by kernel_rfl
 i53:=by kernel_rfl
 i75:=by kernel_rfl
 i76:=by kernel_rfl
 i80:=by kernel_rfl
 i85:=by kernel_rfl
 i127:=by kernel_rfl
 i143:=by kernel_rfl
 i145:=by kernel_rfl
 i167:=by kernel_rfl
 i168:=by kernel_rfl
 i171:=by kernel_rfl
 i173:=by kernel_rfl
 i175:=by kernel_rfl
 i210:=by kernel_rfl
 i212:=by kernel_rfl
 i232:=by kernel_rfl
 i233:=by kernel_rfl
 m15:=by kernel_rfl
 m16:=by kernel_rfl
 m17:=by kernel_rfl
 m18:=by kernel_rfl
 m19:=by kernel_rfl
 c0:=by kernel_rfl
 c2:=by kernel_rfl
 c3:=by kernel_rfl
 c4:=by kernel_rfl
 c5:=by kernel_rfl
 c9:=by kernel_rfl
 c20:=by kernel_rfl
 c21:=by kernel_rfl
 c37:=by kernel_rfl
 c46:=by kernel_rfl
 c51:=by kernel_rfl
 c53:=by kernel_rfl
 c75:=by kernel_rfl
 c76:=by kernel_rfl
 c80:=by kernel_rfl
 c85:=by kernel_rfl
 c127:=by kernel_rfl
 c143:=by kernel_rfl
 c145:=by kernel_rfl
 c167:=by kernel_rfl
 c168:=by kernel_rfl
 c171:=by kernel_rfl
 c173:=by kernel_rfl
 c175:=by kernel_rfl
 c210:=by kernel_rfl
 c212:=by kernel_rfl
 c213:=by kernel_rfl
 c232:=by kernel_rfl
 c233:=by kernel_rfl}
open Go.RowKit in
theorem Tryz.strconv_Atoi_ok (s:ByteArray) (hmax:s.size<=9223372036854775806) (v:Int) (h:Lib.atoiAll s.data.toList=.ok v) (w:World):
  Calls Tryz.prog 329 #[.string s] w fun e w'=>e=.returned (.tuple #[.int .i64 v,.nilIface])/\(w'=w∨∃t,w'=Lib.bytesWorld w 5 t):=Any.strconv_Atoi_ok Tryz.laysC172 s hmax v h w
open Go.RowKit in
theorem Tryz.strconv_Atoi_range (s:ByteArray) (hlim:s.size<=281474976710656) (h:Lib.atoiAll s.data.toList=.range) (ev:Value) (w:World) (hv:w.cell? ⟨5,0,none⟩=some ev) (hev:ev=.nilIface∨∃te pe,ev=.iface te pe):
  Calls Tryz.prog 329 #[.string s] w fun e w'=>∃N,e=.returned (.tuple #[.int .i64 (Lib.atoiSat s.data.toList),.iface 368 (.pointer (some ⟨N,0,none⟩))])/\w.heap.size<=N/\w'.heap[N]?=some (.cells #[.string ⟨#[65,116,111,105]⟩,.string s,ev] 378 (0,0))/\Below w.heap.size w w':=Any.strconv_Atoi_range Tryz.laysC172 s hlim h ev w hv hev
def Tryz.lays219_ren:Go.Shelf.Ren:=⟨fun|219=>174|217=>228|225=>229|224=>230|267=>231|266=>281|314=>282|n=>n,fun|9=>9|3=>3|4=>4|5=>5|46=>275|146=>310|51=>309|n=>n,fun|1=>0|n=>n⟩
theorem Tryz.lays219:Go.Proofs.Lays.n219 Tryz.prog Tryz.lays219_ren:={
 mixed:=by kernel_rfl
 f217:=Tryz.func228.trans (congrArg some (by kernel_rfl))
 f219:=Tryz.func174.trans (congrArg some (by kernel_rfl))
 f224:=Tryz.func230.trans (congrArg some (by kernel_rfl))
 f225:=Tryz.func229.trans (congrArg some (by kernel_rfl))
 f266:=Tryz.func281.trans (congrArg some (by kernel_rfl))
 f267:=Tryz.func231.trans (congrArg some (by kernel_rfl))
 f314:=Tryz.func282.trans (congrArg some (by kernel_rfl))
 t3:=Tryz.underlying3
 a3:=Tryz.isAgg3
 z3:=Tryz.sizeOf3
 v3:=Tryz.zeroValue3
 t4:=Tryz.underlying4
 a4:=Tryz.isAgg4
 z4:=Tryz.sizeOf4
 v4:=Tryz.zeroValue4
 t5:=Tryz.underlying5
 a5:=Tryz.isAgg5
 z5:=Tryz.sizeOf5
 v5:=Tryz.zeroValue5
 t9:=Tryz.underlying9
 a9:=Tryz.isAgg9
 z9:=Tryz.sizeOf9
 v9:=Tryz.zeroValue9
 t46:=Tryz.underlying275
 a46:=Tryz.isAgg275
 z46:=Tryz.sizeOf275
 v46:=Tryz.zeroValue275
 t51:=Tryz.underlying309
 a51:=Tryz.isAgg309
 z51:=Tryz.sizeOf309
 v51:=Tryz.zeroValue309
 t146:=Tryz.underlying310
 a146:=Tryz.isAgg310
 z146:=Tryz.sizeOf310
 v146:=Tryz.zeroValue310
 g1:=by kernel_rfl}
open Go.RowKit Go.Lib in
theorem Tryz.stringslite_Index (s sub:ByteArray) (m:Int) (w:World) (hs:s.size<4294967281) (hm:w.cell? ⟨0,0,none⟩=some (.int .i64 m)):
  Calls Tryz.prog 174 #[.string s,.string sub] w fun e w'=>e=.returned (.int .i64 (Lib.index s.data.toList sub.data.toList))/\w'=w:=Any.stringslite_Index Tryz.lays219 s sub m w hs hm
end Go.Proofs
namespace Go.Proofs.YtimgfjldcdhejaaGreatDoor
section
open Go.RowKit Go.Sort
theorem SC.of_calls [Globals] {P:Program} {k:FuncId} {args:List GV} {g:GV}
  (h:∀(C:Cx) (w:World) (vs:Array Value),Rel C ⟨[],0,[]⟩ w w->VRs C args vs.toList->Calls P k vs w fun e w'=>∃v,e=.returned v/\Base (fun _=>False) w w'/\VR C g v):
  SC P k args [] (.val g) []:=by
 refine⟨rL _,fun C w vs hr hv=>(h C w vs hr hv).mono fun e w' ⟨v,he,hb,hg⟩=>⟨C,.refl C,?_,v,he,hg⟩,fun x hx=>by simp at hx⟩;have hb':Base C.mine w w':=⟨hb.os,hb.tape,hb.output,hb.size,fun i hi _=>hb.block i hi (fun h=>h)⟩;refine⟨hb',fun b o v hx=>?_,fun r x hx=>by simp at hx,hr.dom,hr.new,hr.inj,hr.sepB,hr.sepO,hr.fxn,hr.gl,hr.gs⟩;have h1:=hr.fxc b o v hx;have hlt:b<w.heap.size:=block_lt_of_cell h1;unfold World.cell? at h1⊢;rw[hb.block b hlt (fun h=>h)];exact h1
theorem Base.grow_drew (w:World) (k:Nat) (os:Array Obj):Base (fun _=>False) w (grow (w.drewN k) os):=by
 refine⟨rfl,rfl,rfl,?_,fun i hi _=>?_⟩
 ·show w.heap.size<=(w.heap++os).size;simp
 ·show(w.heap++os)[i]?=w.heap[i]?;rw[Array.getElem?_append_left hi]
end
section
open Go.RowKit Go.Sort
theorem Base.below {w w':World} (h:Below w.heap.size w w'):Base (fun _=>False) w w':=⟨h.os,h.tape,h.output,h.size,fun i hi _=>h.block i hi⟩
theorem Base.bytes (w:World) (e:TypeId) (s:ByteArray):Base (fun _=>False) w (Lib.bytesWorld w e s):=.below (Lib.bytesWorld_below w e s)
theorem a5R [MaxL] {C:Cx} {σ:GS} {w:World} (hr:Rel C σ w w) {P:Program} {g:Nat} {name:String} {cs:List GV} {vs:List Value} (hn:P.globalNamed name=some g) (ht:Globals.tab g=some cs) (hlen:vs.length=cs.length)
  (hv:∀(j:Nat) x u,cs[j]?=some x->VR C x u->vs[j]?=some u):w.var? P name=some vs.toArray:=by
 obtain⟨_,c,t,fr,ho,hsz⟩:=hr.gs g cs ht;unfold World.var?;rw[hn];show(match w.heap[g]? with|some (.cells cs _ _)=>some cs|_=>none)=_;rw[ho];simp only[iY];apply Array.ext (by simp[hsz,hlen]);intro i h1 h2;have hi:i<cs.length:=by omega
 obtain⟨u,hfx,hvr⟩:=hr.gl g cs i cs[i] ht (gL hi);have hc:=hr.fxc _ _ _ hfx;have hu:=hv i _ u (gL hi) (hvr C fun _ _ _ h=>h);unfold World.cell? at hc;rw[ho] at hc;simp at hc;rw[aP h1] at hc;rw[gL (by simpa using h2)] at hu;simp at hc hu⊢;rw[hc,hu]
theorem VW [MaxL] (n:Int) (h0: -9223372036854775808<=n) (h1:n<=9223372036854775807):SC Tryz.prog 314 [.i .i64 n] [] (.val (.s (Lib.itoa n))) []:=by
 refine SC.of_calls fun C w vs hr hv=>?_;obtain⟨v,vs',e,hv1,hv2⟩:=hv.cons_inv;have:vs'=[]:=aM (by simpa using hv2.1);subst this;obtain rfl:vs= #[v]:=by rw[<-fH (xs:=vs),e]
 cases hv1;have htab:Lib.TabIs Tryz.prog w "internal/strconv.uint64pow10" .u64 Lib.pow10Tab:=by
  refine a5R hr (g:=3) (cs:=a28) (by kernel_rfl) rfl (by kernel_rfl) (fun j x u hx hu=>?_);have key:a28=Lib.pow10Tab.map fun z=>GV.i .u64 z:=by kernel_rfl
  rw[key,aK,aH] at hx;obtain⟨z,hz,rfl⟩:=hx;cases hu;rw[aK,hz];rfl
 refine(Tryz.strconv_Itoa n h0 h1 w htab).mono ?_;rintro e w' ⟨he,k,os,rfl⟩;exact⟨_,he,Base.grow_drew w k os,.s _⟩
theorem NH [MaxL] (l:List UInt8) (hl:l.length<=9223372036854775806) (v:Int) (h:Lib.atoiAll l=.ok v):SC Tryz.prog 329 [.s l] [] (.val (.tup [.i .i64 v,.o .nilIface])) []:=by
 refine SC.of_calls fun C w vs hr hv=>?_;obtain⟨u,vs',e,hv1,hv2⟩:=hv.cons_inv;have:vs'=[]:=aM (by simpa using hv2.1);subst this;obtain rfl:vs= #[u]:=by rw[<-fH (xs:=vs),e]
 cases hv1;refine(Tryz.strconv_Atoi_ok ⟨l.toArray⟩ (by simpa[ByteArray.size] using hl) v (by simpa using h) w).mono ?_;rintro e w' ⟨he,hw⟩;refine⟨_,he,?_,.tup rfl (fun j g u h1 h2=>?_)⟩
 ·rcases hw with rfl|⟨t,rfl⟩
  ·exact .refl _ _
  ·exact .bytes _ _ _
 ·rcases j with _|_|j
  ·simp at h1 h2;subst h1;subst h2;exact .i _ _
  ·simp at h1 h2;subst h1;subst h2;exact .o rfl
  ·simp at h1
theorem FS [MaxL] (l:List UInt8) (hl:l.length<=281474976710656) (h:∀v,Lib.atoiAll l≠ .ok v):∃n,SC Tryz.prog 329 [.s l] [] (.val (.tup [.i .i64 n,.ifc 368 .any])) []:=by
 have err:∀{C:Cx} {w:World} (g:Nat) (x:GV) (t:TypeId),Rel C ⟨[],0,[]⟩ w w->Globals.tab g=some [.ifc t x]->∃p,w.cell? ⟨g,0,none⟩=some (.iface t p):=fun g x t hr ht=>by
  obtain⟨u,hfx,hvr⟩:=hr.gl g _ 0 _ ht rfl;have:=hvr _ (fun _ _ _ h=>h);cases this;exact⟨_,hr.fxc _ _ _ hfx⟩
 have two:∀{C:Cx} {n:Int} {v:Value},VR C (.tup [.i .i64 n,.ifc 368 .any]) (.tuple #[.int .i64 n,.iface 368 v]):=fun{C n v}=>.tup rfl (fun j g u h1 h2=>by
  rcases j with _|_|j
  ·simp at h1 h2;subst h1;subst h2;exact .i _ _
  ·simp at h1 h2;subst h1;subst h2;exact .ifc (.any _)
  ·simp at h1)
 have arg:∀{C:Cx} {vs:Array Value},VRs C [.s l] vs.toList->vs= #[.string ⟨l.toArray⟩]:=fun{C vs} hv=>by
  obtain⟨u,vs',e,hv1,hv2⟩:=hv.cons_inv;have:vs'=[]:=aM (by simpa using hv2.1);subst this;cases hv1;rw[<-fH (xs:=vs),e]
 rcases hr:Lib.atoiAll l with v|_|_
 ·exact absurd hr (h v)
 ·skip;refine⟨0,SC.of_calls fun C w vs hrel hv=>?_⟩;obtain rfl:=arg hv;obtain⟨p,hp⟩:=err 4 _ _ hrel rfl;refine(Any.strconv_Atoi_syntax Tryz.laysC172 ⟨l.toArray⟩ (by simpa[ByteArray.size] using hl) (by simpa using hr) _ w hp (.inr ⟨_,_,rfl⟩)).mono ?_;rintro e w' ⟨N,he,_,_,hb⟩;exact⟨_,he,.below hb,two⟩
 ·skip;refine⟨Lib.atoiSat l,SC.of_calls fun C w vs hrel hv=>?_⟩;obtain rfl:=arg hv;obtain⟨p,hp⟩:=err 5 _ _ hrel rfl;refine(Tryz.strconv_Atoi_range ⟨l.toArray⟩ (by simpa[ByteArray.size] using hl) (by simpa using hr) _ w hp (.inr ⟨_,_,rfl⟩)).mono ?_;rintro e w' ⟨N,he,_,_,hb⟩;exact⟨_,he,.below hb,two⟩
theorem a2x [MaxL] (xs:List (List UInt8)) (sep:List UInt8) (h1:xs.length<=140737488355328) (h2:(Lib.join xs sep).length<=140737488355328):SC Tryz.prog 179 [.sl .none (xs.map .s),.s sep] [] (.val (.s (Lib.join xs sep))) []:=by
 refine SC.of_calls fun C w vs hr hv=>?_;obtain⟨u,vs',e,hv1,hv2⟩:=hv.cons_inv;obtain⟨u2,vs'',rfl,hv3,hv4⟩:=hv2.cons_inv;have:vs''=[]:=aM (by simpa using hv4.1);subst this;obtain rfl:vs= #[u,u2]:=by rw[<-fH (xs:=vs),e]
 cases hv3;cases hv1 with
 |sl esz b off us hn hc ha hw hx hvv ht=>
 rename_i a n c;have hn':n=xs.length:=by simpa using hn
 subst hn';have he1:∀(j:Nat) x,xs[j]?=some x->esz=1:=fun j x hj=>by
  have:=hw (.s x) (List.mem_map.2 ⟨x,List.mem_iff_getElem?.2 ⟨j,hj⟩,rfl⟩);simpa[GV.cells] using this.symm
 by_cases h0:xs.length=0
 ·have:xs=[]:=aM h0;subst this;refine(Tryz.strings_Join_none a c ⟨sep.toArray⟩ w).mono ?_;rintro e w' ⟨he,rfl⟩;exact⟨_,he,.refl _ _,.s []⟩
 ·rcases ha with⟨rfl,hc0⟩|rfl|h9
  ·omega
  rotate_left
  ·omega
  ·have hcell:∀(j:Nat) x,xs[j]?=some x->w.cell? ⟨b,off+j,none⟩=some (.string ⟨x.toArray⟩):=fun j x hj=>by
    have e1:=he1 j x hj;subst e1;have hm:(xs.map GV.s)[j]?=some (.s x):=by rw[aK,hj];rfl
    have q1:=hr.fxc _ _ _ (hx j (.s x) 0 (.s x) hm rfl);have q2:=hvv j (.s x) 0 (.s x) hm rfl;rw[show off+j*1+0=off+j by omega] at q1;rw[q1];generalize us (j*1+0)=z at q2;cases q2;rfl
   have hbk:b<w.heap.size:=by
    have:=hcell 0 xs[0] (gL (by omega));exact block_lt_of_cell this
   have key:(xs.map fun x=>(⟨x.toArray⟩:ByteArray)).map (·.data.toList)=xs:=by rw[List.map_map];simp[i6]
   have:=Tryz.strings_Join b off c (xs.map fun x=>⟨x.toArray⟩) ⟨sep.toArray⟩ w (fun j x hj=>by
    rw[aK,aH] at hj;obtain⟨y,hy,rfl⟩:=hj;exact hcell j y hy) hbk (by simpa using h1) (by simpa using hc) (by rw[key];simpa using h2)
   rw[key] at this;simp only[b6] at this;refine this.mono ?_;rintro e w' ⟨he,hb⟩;exact⟨_,he,.below hb,.s _⟩
end
section
open Go.RowKit
def low (c:UInt8):Int:=bits .or .u8 c.toNat 32
theorem a4D:∀n:Fin 256,0<=bits .or .u8 (n:Nat) 32/\bits .or .u8 (n:Nat) 32<256:=by decide+kernel
theorem a6N (c:UInt8):0<=low c/\low c<256:=a4D ⟨c.toNat,cV c⟩
def vY (c:UInt8):Option Nat:=if 48<=c.toNat/\c.toNat<=57 then some (c.toNat - 48) else if 97<=low c/\low c<=122 then(if low c<103 then some (low c - 87).toNat else none) else none
theorem a4I {c:UInt8} {h:Nat} (e:vY c=some h):h<16:=by
 unfold vY at e;split at e
 ·cases e;omega
 ·split at e
  ·split at e
   ·cases e;omega
   ·cases e
  ·cases e
def CD (a b:UInt8):Option Nat:=match vY a with
 |some x=>match vY b with
  |some y=>some (16*x+y)
  |none=>none
 |none=>none
theorem a4k [MaxL] (c:UInt8):SC Tryz.prog 358 [.i .u8 c.toNat] [] (.val (.i .u8 (low c))) []:=by
 refine cO Tryz.func358 rfl ?_;conv=>whnf
 exact bB rfl
theorem a3Y {n:Int} (h0:0<=n) (h1:n<256):IntKind.u8.wrap n=n:=by
 unfold IntKind.wrap;simp[IntKind.signed,IntKind.bits];omega
theorem u8w (n:Int):IntKind.u8.wrap n=n%256:=by unfold IntKind.wrap;simp[IntKind.signed,IntKind.bits]
theorem a3Z (n:Int):IntKind.u64.wrap n=n%18446744073709551616:=by unfold IntKind.wrap;simp[IntKind.signed,IntKind.bits]
theorem PV [MaxL] (a b:UInt8):SC Tryz.prog 352 [.s [a,b],.i .i64 16,.i .i64 8] [] (.val (match CD a b with|some n=>.tup [.i .u64 n,.o .nilIface]|none=>.tup [.i .u64 0,.ifc 365 (.i .i64 2)])) []:=by
 refine cO Tryz.func352 rfl ?_;conv=>whnf
 refine⟨by decide,?_⟩;conv=>whnf
 refine dD (fun q:Nat×Nat=>(q=(0,0))∨(∃h,vY a=some h/\q=(1,h))∨(∃h k,vY a=some h/\vY b=some k/\q=(2,16*h+k)))
  (fun q=>[(0,.s [a,b]),(1,.i .i64 16),(8,.b false),(10,.i .u64 1152921504606846976),(11,.i .u64 255),(12,.b false),(13,.i .u64 q.2),(99,.sl .none [.i .u8 a.toNat,.i .u8 b.toNat]),(100,.i .i64 2),(101,.i .i64 q.1)]) (fun _=>⟨[],0,[]⟩) (fun q=>2 - q.1) (0,0) (.inl rfl) ⟨rfl,rfl,rfl,rfl,?_,rfl,rfl,rfl,rfl,rfl,trivial⟩ rfl (fun q φ0 hq=>?_)
 ·show GV.i .u64 (IntKind.u64.wrap (IntKind.u64.wrap (1*2^min (IntKind.u64.wrap 8).toNat 64) - 1))=GV.i .u64 255;rw[show IntKind.u64.wrap (IntKind.u64.wrap (1*2^min (IntKind.u64.wrap 8).toNat 64) - 1)=255 by decide+kernel]
 conv=>whnf
 apply gM<;>intro h<;>conv=>whnf
 ·obtain⟨c,hc,hlt,hacc,hno,hyes⟩:∃c,([.i .u8 a.toNat,.i .u8 b.toNat]:List GV)[q.1]?=some (.i .u8 c.toNat)/\q.1<2/\q.2<16/\(vY c=none->CD a b=none)/\
    ∀d,vY c=some d->(((q.1+1,16*q.2+d)=(0,0))∨(∃h,vY a=some h/\(q.1+1,16*q.2+d)=(1,h))∨(∃h k,vY a=some h/\vY b=some k/\(q.1+1,16*q.2+d)=(2,16*h+k))):=by
   rcases hq with rfl|⟨h1,e1,rfl⟩|⟨h1,k1,e1,e2,rfl⟩
   ·exact⟨a,rfl,by omega,by omega,fun e=>by simp[CD,e],fun d e=>.inr (.inl ⟨d,e,by simp⟩)⟩
   ·exact⟨b,rfl,by simp,a4I e1,fun e=>by simp[CD,e1,e],fun d e=>.inr (.inr ⟨h1,d,e1,e,by simp⟩)⟩
   ·simp at h
  refine⟨jR _,_,by rw[aL];exact hc,rfl,?_⟩;conv=>whnf
  have fin:∀{σ':GS},vY c=none->Owes [] (.val (match CD a b with|some n=>.tup [.i .u64 n,.o .nilIface]|none=>.tup [.i .u64 0,.ifc 365 (.i .i64 2)])) [] (.val (.tup [.i .u64 0,.ifc 365 (.i .i64 2)])) σ':=fun e=>by
   rw[hno e];exact rQ rfl (fun _=>rfl)
  have hlow:=a6N c;have hcl:=cV c;repeat' first
   |(refine bZ (fun _=>?_) (fun _=>?_)<;>first|(exfalso;simp only[u8w,a3Z,aJ,bV,dI,iW,ne_eq] at*;omega)|conv=>whnf)
   |(refine bT (a4k c) (wR _) rfl (fun _=>rfl) (.i _ _) ?_;conv=>whnf)
  all_goals first
   |(refine fin ?_;unfold vY;simp only[u8w,a3Z,aJ,bV,dI,iW,ne_eq] at*;(repeat' split)<;>first|rfl|(exfalso;omega))
   |skip
  all_goals
   have e:∃d,vY c=some d/\16*q.2+d<256:=by
    unfold vY;simp only[u8w,a3Z,aJ,bV,dI,iW,ne_eq] at*
    (repeat' split)<;>first|exact⟨_,rfl,by omega⟩|(exfalso;omega)
   obtain⟨d,e,hd⟩:=e;refine⟨2 - (q.1+1),by show 2 - (q.1+1)<2 - q.1;omega,(q.1+1,16*q.2+d),hyes d e,rfl,⟨rfl,rfl,rfl,rfl,rfl,rfl,?_,rfl,rfl,bH (by omega),trivial⟩,rfl⟩;refine aR (GV.i .u64) ?_;simp only[u8w,a3Z] at*;unfold vY at e;simp only[aJ,bV,dI,iW,ne_eq] at*;have e':=e;split at e'
   ·cases e';omega
   ·split at e'
    ·split at e'
     ·cases e';omega
     ·cases e'
    ·cases e'
 ·obtain⟨h1,k1,e1,e2,rfl⟩:∃h k,vY a=some h/\vY b=some k/\q=(2,16*h+k):=by
   rcases hq with rfl|⟨h1,e1,rfl⟩|⟨h1,k1,e1,e2,rfl⟩
   ·simp at h
   ·simp at h
   ·exact⟨h1,k1,e1,e2,rfl⟩
  refine rQ ?_ (fun _=>?_)
  ·simp only[CD,e1,e2];rfl
  ·simp only[CD,e1,e2];rfl
variable [Globals]
def QH (r:Nat) (ds:List GDef) (res:GRes) (σ':GS):GX->Fr->GS->Prop
 |.normal,_,σ2=>lM r ds none σ2=some (res,σ')
 |.ret,_,σ2=>lM r ds (some .ret) σ2=some (res,σ')
 |.exit id,_,σ2=>lM r ds (some (.exit id)) σ2=some (res,σ')
 |.panic _,_,_=>False
def QG (P:Program) (M:FuncId->Bool) (r n:Nat) (body:Code) (ds:List GDef) (res:GRes) (σ':GS):GX->Fr->GS->Prop
 |.normal,φ1,σ1=>match σ1.objs[r]? with
  |some (.loop .ready pe' n' φ' ps' asg' body' rd')=>pX σ1 r (.loop .busy pe' n' φ' ps' asg' body' rd') fun s=>UU P M (some r) n body φ1 s (QH r ds res σ')
  |_=>False
 |_,_,_=>False
theorem Fact.yld {P:Program} (M:FuncId->Bool) (hm:P.follows .mixedOrders=true) {r n rd:Nat} {pe:Option Code} {φ:Fr} {ps:Array Tmp} {asg body:Code} {σ σ':GS} {args:List GV} {res:GRes}
  (ho:σ.objs[r]?=some (.loop .ready pe n φ ps asg body rd)) (hlen:args.length=ps.size) (hps:ps.toList.all (fun t=>Nat.blt t n)=true) (hlo:σ.lo=0) (hh:σ.objs.all GObj.notHeld=true) (hsz:σ.objs.length<=σ'.objs.length) (hlo':σ'.lo=0) (hds:σ'.ds=σ.ds)
  (h:UU P M (some r) n asg ((ps.toList.zip args).foldl (fun φ p=>KK φ p.1 p.2) φ) {σ with ds:=[]} (QG P M r n body σ.ds res σ')):Fact P (.yld r) args σ res σ':=by
 have hnh:∀k:Nat,σ.objs[k]?≠some .held:=fun k hk=>by
  have:=List.all_eq_true.1 hh .held (List.mem_iff_getElem?.2 ⟨k,hk⟩);cases this
 have hps':∀t∈ps.toList,t<n:=fun t ht=>by
  have:=List.all_eq_true.1 hps t ht;simpa[Nat.blt_eq] using this
 refine⟨⟨by rw[hlo',hlo],hsz,fun _ k hk=>by omega,fun k hk=>absurd hk (hnh k)⟩,hds,fun w0 C w vs hr hv b hb=>?_⟩;obtain⟨h0,b',L,h1,h2,h3,h4,h5,h6,h7,h8,h9,h10⟩:=hr.obj r _ ho;rw[hb] at h1;cases h1;have hvs:vs.size=L.params.size:=by rw[h5,<-hlen];have:=hv.1;simpa using this
 refine⟨L.fn,_,L.assign,L.body,run_yield h2 hvs,?_⟩;obtain⟨q1,q2⟩:=FF ps.toList args vs.toList φ L.tmps hv hps' h9 h8;have etm:(L.params.zip vs).foldl (fun(tmps:Array Value) (x:Tmp×Value)=>tmps.setIfInBounds x.1 x.2) L.tmps=(ps.toList.zip vs.toList).foldl (fun(tmps:Array Value) p=>tmps.setIfInBounds p.1 p.2) L.tmps:=by
  rw[h5,<-Array.foldl_toList,Array.toList_zip]
 refine roundIn_of_wpIn (F:=Fence.wide) trivial ?_;rw[h6,h7];show Code.wpIn (FW (some b)) 0 P asg _ _ w;refine B9 (ro:=some r) hm asg _ _ C (some b) _ _ _ w h hb (hr.ds _) (by rw[etm];exact q1) (by rw[etm];exact q2) trivial (fun x φ1 σ1 hk=>?_);cases x with
 |exit id=>exact hk.elim
 |ret=>exact hk.elim
 |panic g=>exact hk.elim
 |normal=>
 intro D a1 w1 hl hf1 hn1 hd1 hr1;simp only[QG] at hk;split at hk
 ·rename_i pe' n' φ' ps' asg' body' rd' ho1;have hk:=mZ (K:=fun s=>UU P M (some r) n body φ1 s (QH r σ.ds res σ')) hk;have hbD:D.bk r=some b:=hl.bk _ _ hb;obtain⟨g0,b',L1,g1,g2,g3,g4,g5,g6,g7,g8,g9,g10⟩:=hr1.obj r _ ho1;rw[hbD] at g1;cases g1;have hlt:b<w1.heap.size:=(Array.getElem?_eq_some_iff.1 g2).1;refine⟨_,run_beginRound g2 g3,?_⟩;have hr2:Rel D (gset σ1 r (.loop .busy pe' n' φ' ps' asg' body' rd')) w0 (w1.putObj b (.loop {L1 with state:=.busy})):=
   hr1.putLoop (List.getElem?_eq_some_iff.1 ho1).1 hbD _ ⟨g0,b,_,hbD,World.putObj_heap_same hlt,rfl,g4,g5,g6,g7,g8,g9,g10⟩
  show Code.wpIn (FW (some b)) 0 P body _ _ _;refine B9 (ro:=some r) hm body _ _ D (some b) _ _ _ _ hk hbD hr2 hf1 hn1 hd1 (fun x φ2 σ2 hend=>?_);intro E a2 w2 hE hf2 hn2 hd2 hr3;have done:∀{jump:Option Code},lM r σ.ds jump σ2=some (res,σ')->∃v w',(Instr.endRound b jump).run P w2=.ok v w'/\∃D,C.le D/\Rel D σ' w0 w'/\ERel D res (.returned v):=fun{jump} he=>by
   by_cases hlo2:σ2.lo<=r
   ·obtain⟨v,w3,p1,F,p2,p3,p4⟩:=(sF (P:=P) (w0:=w0) (C:=E) (b:=b) (w:=w2) hlo2 he).2.2 hr3 (hE.bk _ _ hbD);exact⟨v,w3,p1,F,(hl.trans hE).trans p2,p3,p4⟩
   ·exfalso;unfold lM at he;split at he
    ·cases he;have:σ2.lo=0:=hlo';omega
    ·cases he
  cases x with
  |normal=>obtain⟨v,w3,p1,p2⟩:=done hend;exact⟨v,w3,p1,p2⟩
  |ret=>obtain⟨v,w3,p1,p2⟩:=done hend;exact⟨v,w3,p1,p2⟩
  |exit id=>obtain⟨v,w3,p1,p2⟩:=done hend;exact⟨v,w3,p1,p2⟩
  |panic g=>exact hend.elim
 ·exact hk.elim
theorem SV {P:Program} {M:FuncId->Bool} {r:Nat} {args:List GV} {res:GRes} {σ σ':GS} {K:GRes->GS->Prop} (h:Fact P (.yld r) args σ res σ') (hk:K res σ'):gZ P M (.yld r) args σ K:=⟨res,σ',h,(fun k e=>by cases e),hk⟩
theorem a00 {N i:Nat}:jZ (List.range N) N i=i:=by
 by_cases h:i<N
 ·rw[lD (by simpa using h)];simp
 ·rw[AK (by simp;omega)];simp;omega
theorem PJ {N:Nat}:jZ (List.range N) N=id:=funext fun i=>a00
mutual
theorem GV.ren_id:∀g:GV,g.ren id=g
 |.agg cs=>by rw[GV.ren,GV.renL_id cs]
 |.tup cs=>by rw[GV.ren,GV.renL_id cs]
 |.ifc t g=>by rw[GV.ren,GV.ren_id g]
 |.fn k a c=>by rw[GV.ren,GV.renL_id a,GV.renL_id c]
 |.sl k xs=>by rw[GV.ren,GV.renL_id xs];cases k<;>rfl
 |.ptr r off=>rfl
 |.snap cs off=>by rw[GV.ren,GV.renL_id cs]
 |.mp r=>rfl
 |.rs r off esz n c=>rfl
 |.yld r=>rfl
 |.dat r cs=>by rw[GV.ren,GV.renL_id cs];rfl
 |.glb g off=>rfl
 |.b t=>rfl
 |.i k n=>rfl
 |.s l=>rfl
 |.o v=>rfl
 |.any=>rfl
theorem GV.renL_id:∀l:List GV,GV.renL id l=l
 |[]=>rfl
 |x::xs=>by rw[GV.renL,GV.ren_id x,GV.renL_id xs]
end
theorem JL (l:List GV):l.map (GV.ren id)=l:=by rw[<-cU,GV.renL_id]
theorem GObj.ren_id (x:GObj):x.ren id=x:=by
 cases x with
 |box T cs=>show GObj.box T (cs.map (GV.ren id))=_;rw[JL]
 |mp es=>show GObj.mp (es.map fun e=>(e.1.ren id,e.2.ren id))=_;simp[GV.ren_id]
 |loop st pe n φ ps asg body rd=>show GObj.loop st pe n (fun t=>(φ t).ren id) ps asg body rd=_;simp[GV.ren_id]
 |_=>rfl
theorem Lies.all (s:List GObj) (hh:∀x∈s,x≠ .held):Lies (List.range s.length) s s:=
 ⟨List.nodup_range,by simp,fun i k x h1 h2=>by
  rw[PJ,GObj.ren_id];obtain⟨h3,h4⟩:=List.getElem?_eq_some_iff.1 h1;simp at h4;subst h4;exact h2,hh⟩
theorem GRes.ren_id (r:GRes):r.ren id=r:=by cases r<;>(simp only[GRes.ren];rw[GV.ren_id])
theorem QS {s s':List GObj} (h:s.length<=s'.length):k8 (List.range s.length) s' s=s':=by
 apply eK;intro r;rw[kZ (fun k hk=>by simpa using hk) (by simpa using h),PJ];unfold iU;by_cases hr:r<s.length
 ·rw[aD hr];have:(List.range s.length).idxOf? r=some r:=yC List.nodup_range (by simp[hr]);rw[this];show Option.map (GObj.ren id) s'[r]?=s'[r]?;cases s'[r]? with
  |none=>rfl
  |some x=>rw[dP,GObj.ren_id]
 ·rw[aC hr];simp only[List.length_range];rw[show s.length+(r - s.length)=r by omega];cases s'[r]? with
  |none=>rfl
  |some x=>rw[dP,GObj.ren_id]
theorem SC.factAll {P:Program} {k:FuncId} {args:List GV} {s s':List GObj} {r:GRes} {σ:GS} (h:SC P k args s r s') (hs:σ.objs=s) (hlo:σ.lo=0) (hh:∀x∈s,x≠ .held):Fact P (.fn k) args σ r {σ with objs:=s'}:=by
 have:=h.fact (σ:=σ) (args':=args) (List.range s.length) (by rw[hs];exact Lies.all s hh) hlo (by rw[hs,PJ,JL];exact .refl _);rw[hs,PJ,GRes.ren_id,QS h.len] at this;exact this
end
section
open Go.RowKit
variable [Globals]
def GObj.mort:GObj->Bool
 |.box _ _|.mp _|.dead=>true
 |_=>false
def GT (n:Nat) (σ:GS):GS:=⟨List.replicate n .dead++σ.objs.drop n,σ.lo,σ.ds⟩
theorem Rel.kills {C:Cx} {σ:GS} {w0 w:World} (h:Rel C σ w0 w) {n:Nat} (hn:n<=σ.objs.length) (hm:(σ.objs.take n).all GObj.mort=true):Rel C (GT n σ) w0 w:=by
 have hl:(GT n σ).objs.length=σ.objs.length:=by simp[GT];omega
 refine⟨h.below,h.fxc,fun q x hx=>?_,fun q hq=>h.dom q (by rw[<-hl];exact hq),h.new,h.inj,h.sepB,h.sepO,h.fxn,h.gl,h.gs⟩;by_cases hq:q<n
 ·have hx':x=.dead:=by
   simp only[GT] at hx;rw[b7 (by simpa using hq),List.getElem?_replicate,aD hq] at hx;cases hx;rfl
  subst hx';have hy:σ.objs[q]?=some (σ.objs[q]'(by omega)):=gL (by omega);have h1:=h.obj _ _ hy;have h2:=List.all_eq_true.1 hm (σ.objs[q]'(by omega)) (List.mem_take_iff_getElem.2 ⟨q,by omega,rfl⟩);refine⟨?_,fun b hb=>u9 h hb⟩;revert h1 h2;generalize σ.objs[q]'(by omega)=y;intro h1 h2;cases y<;>first|cases h2|skip
  ·exact .inr h1.1
  ·exact .inr h1.1
  ·exact h1.1
 ·simp only[GT] at hx;rw[cJ (by simpa using hq),List.length_replicate,gI,show n+(q - n)=q by omega] at hx;exact h.obj q x hx
theorem SC.of_gwpR {P:Program} (M:FuncId->Bool) (hm:P.follows .mixedOrders=true) {k:FuncId} {fn:Func} {c:Code} (hfn:P.funcs[k]?=some fn) (hb:fn.body=some c) {args:List GV} {s s':List GObj} {r:GRes}
  (hlen:args.length<=fn.ntmps) (hs:s.length<=s'.length) (hh0:s'.all GObj.notHeld=true) (R:GRes->GS->Prop)
  (hR:∀r0 σ0,R r0 σ0->Owes s r s' r0 σ0∨(∃n,n<=σ0.objs.length/\(σ0.objs.take n).all GObj.mort=true/\Owes s r s' r0 (GT n σ0)))
  (h:UU P M none fn.ntmps c (vZ args) ⟨s,0,[]⟩ (a2c P fn R)):SC P k args s r s':=by
 have hh:∀x∈s',x≠ .held:=fun x hx e=>by subst e;have:=List.all_eq_true.1 hh0 _ hx;cases this
 refine⟨hs,fun C w vs hr hv=>?_,hh⟩;obtain⟨h1,h2⟩:=yD (fn:=fn) hlen hv;have fin0:∀(D E:Cx) (e:Ending) (w'':World) (r0:GRes) (σ2:GS),C.le E->Rel E σ2 w w''->ERel E r0 e->Owes s r s' r0 σ2->∃D,C.le D/\Rel D ⟨s',0,[]⟩ w w''/\ERel D r e:=by
  intro D E e w'' r0 σ2 hlE hrE he ⟨ks,hlies,hpre,hwk⟩;refine⟨E.pull (jZ ks σ2.objs.length),?_,hrE.pull hlies,?_⟩
  ·have atb:∀i,i<s.length->jZ ks σ2.objs.length i=i:=fun i hi=>by
    have h3:=hpre i hi;obtain⟨h4,h5⟩:=List.getElem?_eq_some_iff.1 h3;rw[lD h4,h5]
   refine⟨hlE.fx,fun i b hb'=>?_,fun i I hI=>?_,?_,hlE.fix⟩
   ·have hi:i<s.length:=by
     rcases eO i s.length with h4|h4
     ·exact h4
     ·rw[(hr.dom i h4).1] at hb';cases hb'
    show E.bk (jZ ks σ2.objs.length i)=some b;rw[atb i hi];exact hlE.bk i b hb'
   ·have hi:i<s.length:=by
     rcases eO i s.length with h4|h4
     ·exact h4
     ·rw[(hr.dom i h4).2] at hI;cases hI
    show∃J,E.own (jZ ks σ2.objs.length i)=some J/\_;rw[atb i hi];exact hlE.own i I hI
   ·exact hlE.hd
  ·exact(hwk.erel he).pull (D:=E) (f:=jZ ks σ2.objs.length) (E:=E.pull (jZ ks σ2.objs.length)) (fun _ _ _ h=>h) (fun _=>rfl) (fun _=>rfl)
 have fin:∀(φ':Fr) (σ1:GS) (u:GMode) (D:Cx) (a':Act) (w':World) (um:FrameMode),x5 (lY P (fun _=>false) (fun _ _ _=>none) 50 fn φ' σ1.ds u σ1) (fun q=>R q.1 q.2)->
   C.le D->FRel D φ' a'->DRel D σ1.ds a'.defers->Rel D σ1 w w'->MRel D u um->rF P fn a'.tmps (fun e w'=>∃D,C.le D/\Rel D ⟨s',0,[]⟩ w w'/\ERel D r e) a'.defers um w':=by
  intro φ' σ1 u D a' w' um hk hl hf' hd' hr' hmr;obtain⟨⟨r0,σ2⟩,hlv,ho⟩:=mJ hk;refine(sV (tmps:=a'.tmps) (w0:=w) hm (iF w) jA _ _ _ hlv).2 D w' a'.defers um hr' hf' hd' hmr (fun E e w'' hE hrE he=>?_);have hlE:=hl.trans hE;rcases hR _ _ ho with ho|⟨n,hq,hm',ho⟩
  ·exact fin0 D E e w'' r0 σ2 hlE hrE he ho
  ·exact fin0 D E e w'' r0 (GT n σ2) hlE (hrE.kills hq hm') he ho
 refine yO hfn hb (wpIn_wide (n:=0).1 (B9 (w0:=w) (ro:=none) (n:=fn.ntmps) hm c _ _ C none _ _ _ w h trivial hr h1 h2 trivial (fun x φ' σ1 hk D a' w' hl hf' hn' hd' hr'=>?_)));cases x with
 |normal=>exact fin φ' σ1 .ret D a' w' .returning hk hl hf' hd' hr' rfl
 |ret=>exact fin φ' σ1 .ret D a' w' .returning hk hl hf' hd' hr' rfl
 |exit id=>exact hk.elim
 |panic g=>exact fun v hv=>fin φ' σ1 (.pan g) D a' w' (.panicking [{v,recovered:=false}]) hk hl hf' hd' hr' ⟨v,rfl,hv⟩
def Ct (P:Program) (k:FuncId) (args:List GV) (x0:GObj) (p:GV):Option (GV×GObj)->Prop
 |some (g,x')=>SC P k args [x0] (.val g) [x']
 |none=>SC P k args [x0] (.panic p) [.dead]
inductive OwesO (x0:GObj) (p:GV):Option (GV×GObj)->GRes->GS->Prop where
 |val {g g0:GV} {x':GObj} {σ0:GS} (h:Owes [x0] (.val g) [x'] (.val g0) σ0):OwesO x0 p (some (g,x')) (.val g0) σ0
 |pan {T:TypeId} {cs:List GV} {rest:List GObj} {lo:Nat} {ds:List GDef}:OwesO x0 p none (.panic p) ⟨.box T cs::rest,lo,ds⟩
 |dead {rest:List GObj} {lo:Nat} {ds:List GDef}:OwesO x0 p none (.panic p) ⟨.dead::rest,lo,ds⟩
theorem Ct.of_gwp {P:Program} (M:FuncId->Bool) (hm:P.follows .mixedOrders=true) {k:FuncId} {fn:Func} {c:Code} (hfn:P.funcs[k]?=some fn) (hb:fn.body=some c) {args:List GV} {x0:GObj} {p:GV} {o:Option (GV×GObj)}
  (hlen:args.length<=fn.ntmps) (hp:Cl p) (hh:o.all (fun q=>q.2.notHeld)=true)
  (h:UU P M none fn.ntmps c (vZ args) ⟨[x0],0,[]⟩ (a2c P fn (OwesO x0 p o))):Ct P k args x0 p o:=by
 have dead:∀{rest:List GObj} {lo:Nat} {ds:List GDef},Owes [x0] (.panic p) [.dead] (.panic p) ⟨.dead::rest,lo,ds⟩:=fun{rest lo ds}=>
  ⟨[0],Lies.one rfl (fun _=>rfl) (by simp),fun i hi=>by
   have:i=0:=by simp at hi;omega
   subst this;rfl,by show Wk p (p.ren _);rw[hp];exact .refl _⟩
 cases o with
 |some q=>
  obtain⟨g,x'⟩:=q;refine SC.of_gwpR M hm hfn hb hlen (by simp) (by simpa using hh) _ (fun r0 σ0 ho=>?_) h;cases ho with
  |val h=>exact .inl h
 |none=>
  refine SC.of_gwpR M hm hfn hb hlen (by simp) rfl _ (fun r0 σ0 ho=>?_) h;cases ho with
  |pan=>exact .inr ⟨1,Nat.succ_le_succ (zL _),rfl,dead⟩
  |dead=>exact .inl dead
def jN:=@Ct.of_gwp
theorem OwesO.box {T:TypeId} {x0:GObj} {p:GV} {cs cs':List GV} {g g':GV} {rest:List GObj} {lo:Nat} {ds:List GDef} {o:Option (GV×GObj)} (ho:o=some (g',.box T cs')) (hcs:cs=cs') (hw:Wk g g') (hc:ClL cs') (hr:Cl g'):
  OwesO x0 p o (.val g) ⟨.box T cs::rest,lo,ds⟩:=by
 subst ho;subst hcs;refine .val ⟨[0],Lies.one rfl (dW hc) (by simp),fun i hi=>?_,by show Wk g (g'.ren _);rw[hr];exact hw⟩;have:i=0:=by simp at hi;omega
 subst this;rfl
def kB:=@OwesO.box
theorem OwesO.panics {T:TypeId} {x0:GObj} {p:GV} {cs:List GV} {rest:List GObj} {lo:Nat} {ds:List GDef} {o:Option (GV×GObj)} (ho:o=none):OwesO x0 p o (.panic p) ⟨.box T cs::rest,lo,ds⟩:=by
 subst ho;exact .pan
theorem OwesO.deads {x0:GObj} {p:GV} {rest:List GObj} {lo:Nat} {ds:List GDef} {o:Option (GV×GObj)} (ho:o=none):OwesO x0 p o (.panic p) ⟨.dead::rest,lo,ds⟩:=by
 subst ho;exact .dead
def jK:=@OwesO.deads
theorem OA {q:Nat} {objs:List GObj} (hq:q<objs.length):k8 [q] [.dead] objs=objs.set q .dead:=zQ hq rfl
theorem a6g {P:Program} {M:FuncId->Bool} {k:FuncId} {q:Nat} {a args:List GV} {T:TypeId} {cs:List GV} {r:GV} {σ:GS} {K:GRes->GS->Prop} (h:SC P k (.ptr 0 0::a) [.box T cs] (.panic r) [.dead])
  (hq:σ.objs[q]?=some (.box T cs)) (hw:Wks args (.ptr q 0::a)) (hlo:σ.lo=0) (hM:M k=false) (hc:ClL cs) (ha:ClL a) (hr:Cl r) (hk:pX σ q .dead fun s=>K (.panic r) s):gZ P M (.fn k) args σ K:=by
 have hql:q<σ.objs.length:=(List.getElem?_eq_some_iff.1 hq).1;have hargs:Wks args ((GV.ptr 0 0::a).map (GV.ren (jZ [q] σ.objs.length))):=by
  have e0:(GV.ptr 0 0).ren (jZ [q] σ.objs.length)=.ptr q 0:=by show GV.ptr (jZ [q] _ 0) 0=_;rw[lD (by simp)];rfl
  rw[dJ,e0,ha];exact hw
 have hf:=SC.fact (σ:=σ) (args':=args) h [q] (Lies.one hq (dW hc) (by simp)) hlo hargs;rw[OA hql] at hf;rw[show(GRes.panic r).ren (jZ [q] σ.objs.length)=.panic r by show GRes.panic (r.ren _)=_;rw[hr]] at hf;exact⟨.panic r,_,hf,(fun k' e hk'=>by cases e;rw[hM] at hk';cases hk'),mZ (K:=fun s=>K (.panic r) s) hk⟩
theorem TE {P:Program} {M:FuncId->Bool} {k:FuncId} {q:Nat} {a args:List GV} {T:TypeId} {cs:List GV} {r:GV} {σ:GS} {K:GRes->GS->Prop} (h:SC P k (.ptr 0 0::a) [.box T cs] (.panic r) [.dead]) (hk:pX σ q .dead fun s=>K (.panic r) s) (hq:σ.objs[q]?=some (.box T cs):=by rfl) (hw:Wks args (.ptr q 0::a):=by first|exact wR _|exact wC (bY _ _) (wR _)) (hlo:σ.lo=0:=by rfl) (hM:M k=false:=by rfl) (hc:ClL cs:=by first|exact fun _=>rfl|exact cA|exact cB fun _=>rfl) (ha:ClL a:=by first|exact fun _=>rfl|exact cA|exact cB fun _=>rfl) (hr:Cl r:=by exact fun _=>rfl):gZ P M (.fn k) args σ K:=a6g h hq hw hlo hM hc ha hr hk
theorem B0 {P:Program} {M:FuncId->Bool} {k:FuncId} {q:Nat} {a args:List GV} {T:TypeId} {cs cs':List GV} {r:GV} {σ:GS} {K:GRes->GS->Prop} (h:SC P k (.ptr 0 0::a) [.box T cs] (.val r) [.box T cs']) (hk:pX σ q (.box T cs') fun s=>K (.val r) s) (hq:σ.objs[q]?=some (.box T cs):=by rfl) (hw:Wks args (.ptr q 0::a):=by first|exact wR _|exact wC (bY _ _) (wR _)|exact wC (bY _ _) (wC (bY _ _) (wR _))|exact wC (bF _) (wC (bY _ _) (wR _))) (hlo:σ.lo=0:=by rfl) (hM:M k=false:=by rfl) (hc:ClL cs:=by first|exact fun _=>rfl|exact cA|exact cB fun _=>rfl) (hc':ClL cs':=by first|exact fun _=>rfl|exact cA|exact cB fun _=>rfl) (ha:ClL a:=by first|exact fun _=>rfl|exact cA|exact cB fun _=>rfl) (hr:Cl r:=by first|exact fun _=>rfl|exact cA|exact cB fun _=>rfl):gZ P M (.fn k) args σ K:=a2p h hq hw hlo hM hc hc' ha hr hk
theorem mG {P:Program} {M:FuncId->Bool} {k:FuncId} {a args:List GV} {r:GV} {σ:GS} {K:GRes->GS->Prop} (h:SC P k a [] (.val r) []) (hr:Cl r) (hk:K (.val r) σ) (hw:Wks args a:=by exact wR _) (hlo:σ.lo=0:=by rfl) (ha:ClL a:=by exact fun _=>rfl):gZ P M (.fn k) args σ K:=bT h hw hlo ha hr hk
theorem BL {P:Program} {M:FuncId->Bool} {k:FuncId} {q:Nat} {a args:List GV} {T:TypeId} {cs cs':List GV} {r:GV} {σ:GS} {K:GRes->GS->Prop} (h:SC P k (.ptr 0 0::a) [.box T cs] (.val r) [.box T cs']) (hc:ClL cs) (hc':ClL cs') (ha:ClL a) (hr:Cl r) (hk:pX σ q (.box T cs') fun s=>K (.val r) s) (hq:σ.objs[q]?=some (.box T cs):=by rfl) (hw:Wks args (.ptr q 0::a):=by exact wR _) (hlo:σ.lo=0:=by rfl) (hM:M k=false:=by rfl):gZ P M (.fn k) args σ K:=a2p h hq hw hlo hM hc hc' ha hr hk
theorem a6h {P:Program} {M:FuncId->Bool} {k:FuncId} {q:Nat} {a args:List GV} {T:TypeId} {cs:List GV} {r:GV} {σ:GS} {K:GRes->GS->Prop} (h:SC P k (.ptr 0 0::a) [.box T cs] (.val r) [.box T cs])
  (hq:σ.objs[q]?=some (.box T cs)) (hw:Wks args (.ptr q 0::a)) (hlo:σ.lo=0) (hc:ClL cs) (ha:ClL a) (hr:Cl r) (hk:K (.val r) σ):gZ P M (.fn k) args σ K:=by
 have hql:q<σ.objs.length:=(List.getElem?_eq_some_iff.1 hq).1;have hf:=h.fact (σ:=σ) (args':=args) [q] (Lies.one hq (dW hc) (by simp)) hlo (by
  have e0:(GV.ptr 0 0).ren (jZ [q] σ.objs.length)=.ptr q 0:=by show GV.ptr (jZ [q] _ 0) 0=_;rw[lD (by simp)];rfl
  rw[dJ,e0,ha];exact hw)
 rw[zQ hql (dW hc _)] at hf;rw[show(GRes.val r).ren (jZ [q] σ.objs.length)=.val r by show GRes.val (r.ren _)=_;rw[hr]] at hf;have e:σ.objs.set q (.box T cs)=σ.objs:=by
  apply eK;intro i;by_cases hi:q=i
  ·subst hi;rw[k5 hql,hq]
  ·rw[dK hi]
 rw[e] at hf;exact⟨.val r,σ,hf,fun _ _ _=>rfl,hk⟩
theorem QP {q p:Nat} {x y:GObj} {objs:List GObj} (hn:q≠p) (hq:q<objs.length) (hp:p<objs.length):
  k8 [q,p] [x,y] objs=(objs.set q (x.ren (jZ [q,p] objs.length))).set p (y.ren (jZ [q,p] objs.length)):=by
 apply eK;intro r;rw[kZ (fun k h=>by simp at h;omega) (rL _)];unfold iU;by_cases hr:r<objs.length
 ·rw[aD hr];by_cases hrq:q=r
  ·subst hrq;have:([q,p]:List Nat).idxOf? q=some 0:=by simp[List.idxOf?,List.findIdx?_cons]
   rw[this,dK (Ne.symm hn)];simp[hr]
  ·by_cases hrp:p=r
   ·subst hrp;have:([q,p]:List Nat).idxOf? p=some 1:=by simp[List.idxOf?,List.findIdx?_cons,hn]
    rw[this];simp[hr]
   ·have:([q,p]:List Nat).idxOf? r=none:=by simp[List.idxOf?,List.findIdx?_cons,hrq,hrp]
    rw[this,dK hrp,dK hrq]
 ·rw[aC hr];simp only[aI,bO];rw[bG (l:=[x,y]) (by simp only[aI,bO];omega),bG (by simp only[List.length_set];omega)];rfl
theorem oJ {α:Type}:∀{l:List α} {K:List α->Prop},K l->F5 l K
 |[],K,h=>h
 |x::l,K,h=>oJ (l:=l) (K:=fun ys=>K (x::ys)) h
theorem n5 {σ:GS} {r:Nat} {x:GObj} {K:GS->Prop} {l:List GObj} (e:σ.objs.set r x=l) (h:K ⟨l,σ.lo,σ.ds⟩):pX σ r x K:=by
 subst e;exact oJ (K:=fun l=>K ⟨l,σ.lo,σ.ds⟩) h
end
