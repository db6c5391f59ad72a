/- Part of HostValues. -/
import Derived.Shelf.Spec.SlicesGrow
import Derived.Shelf.Strings.Builder1
import Derived.Shelf.Strings.Builder2
import Derived.Shelf.Strings.OnBuilder
import Derived.Shelf.Small.Wraps
import Derived.Shelf.Strings.BuilderF
import Derived.Shelf.Strings.BuilderK
import Derived.Shelf.Strconv.Atoi
import Derived.Shelf.Strconv.Itoa0
import Derived.Shelf.Strconv.Itoa1
import Derived.Shelf.LaysM
import Derived.Shelf.Strconv.Itoa2
import Derived.Shelf.Strconv.Itoa3
import Derived.Shelf.Strconv.AtoiErrFast
import Derived.Shelf.Strconv.ParseIntEmpty
import Derived.Shelf.Strconv.AtoiFail
import Derived.Shelf.Strconv.Clone
import Derived.Shelf.Strconv.SyntaxError
import Derived.Shelf.LaysC
import Derived.Shelf.Strconv.ToError
import Derived.Shelf.Strconv.AtoiErr
import Derived.Shelf.Strconv.Lower
import Derived.Shelf.Strconv.ParseUint10
import Derived.Shelf.Strconv.ParseUint10Empty
import Derived.Shelf.Strconv.ParseUint10Any
import Derived.Shelf.Strconv.ParseInt10
import Derived.Shelf.Strconv.AtoiLong
import Derived.Shelf.Strconv.AtoiInnerAll
import Derived.Shelf.Strconv.RangeError
import Derived.Shelf.Strconv.ToErrorRange
import Derived.Shelf.Strconv.AtoiAll
import Derived.Shelf.Strconv.ErrVarAll
import Derived.Shelf.Strings.Search1
import Derived.Shelf.Strings.Search2
import Derived.Shelf.Strings.Search3
import Derived.Shelf.Strings.Cut
import Derived.Shelf.Strings.Shaped
import Derived.Shelf.Strings.Prefix
import Derived.Shelf.Strings.Fields
import Derived.Shelf.Strings.SplitShaped
import Derived.Shelf.Unicode.Latin
import Derived.Shelf.Unicode.Is16White
import Derived.Shelf.Unicode.IsSpaceAny
import Derived.Shelf.Unicode.Is16Any
import Derived.Shelf.Unicode.Is32Any
import Derived.Shelf.Unicode.ExclAny
import Derived.Shelf.Slices.Turned
import Derived.Test.YtmnjcddcihdlfaaGreatDoorV15
import Derived.Sort.Grow
set_option linter.all false
set_option maxRecDepth 100000
namespace Go.Proofs
open Go.Shelf
def Tryz.lays169_ren:Go.Shelf.Ren:=⟨fun|169=>46|n=>n,fun|70=>119|9=>9|0=>0|72=>122|37=>120|127=>194|3=>3|5=>5|n=>n,fun|n=>n⟩
theorem Tryz.lays169:Go.Proofs.Lays.n169 Tryz.prog Tryz.lays169_ren:={
 mixed:=by kernel_rfl
 f169:=Tryz.func46.trans (congrArg some (by kernel_rfl))
 t0:=Tryz.underlying0
 a0:=Tryz.isAgg0
 z0:=Tryz.sizeOf0
 v0:=Tryz.zeroValue0
 t3:=Tryz.underlying3
 a3:=Tryz.isAgg3
 z3:=Tryz.sizeOf3
 v3:=Tryz.zeroValue3
 t9:=Tryz.underlying9
 a9:=Tryz.isAgg9
 z9:=Tryz.sizeOf9
 v9:=Tryz.zeroValue9
 t37:=Tryz.underlying120
 a37:=Tryz.isAgg120
 z37:=Tryz.sizeOf120
 v37:=Tryz.zeroValue120
 t70:=Tryz.underlying119
 a70:=Tryz.isAgg119
 z70:=Tryz.sizeOf119
 v70:=Tryz.zeroValue119
 t72:=Tryz.underlying122
 a72:=Tryz.isAgg122
 z72:=Tryz.sizeOf122
 v72:=Tryz.zeroValue122
 t127:=Tryz.underlying194
 a127:=Tryz.isAgg194
 z127:=Tryz.sizeOf194
 v127:=Tryz.zeroValue194}
theorem Tryz.Builder_Extra_169:Builder.Extra Tryz.prog Tryz.lays169_ren:={
 sizeBuilder:=by kernel_rfl
 liesBuilder:=by kernel_rfl
 t5:=Tryz.underlying5
 a5:=Tryz.isAgg5
 z5:=Tryz.sizeOf5
 v5:=Tryz.zeroValue5
 infoByte:=by kernel_rfl
 cellsByte:=by kernel_rfl
 sizeByte:=by kernel_rfl
 neB5:=by decide}
def Tryz.lays156_ren:Go.Shelf.Ren:=⟨fun|156=>85|165=>124|166=>44|169=>46|240=>84|241=>170|276=>123|277=>194|n=>n,fun|31=>40|9=>9|3=>3|4=>4|0=>0|20=>20|72=>122|76=>125|70=>119|37=>120|75=>124|127=>194|164=>221|5=>5|80=>37|n=>n,fun|n=>n⟩
theorem Tryz.lays156:Go.Proofs.Lays.n156 Tryz.prog Tryz.lays156_ren:={
 mixed:=by kernel_rfl
 f156:=Tryz.func85.trans (congrArg some (by kernel_rfl))
 f165:=Tryz.func124.trans (congrArg some (by kernel_rfl))
 f166:=Tryz.func44.trans (congrArg some (by kernel_rfl))
 f169:=Tryz.func46.trans (congrArg some (by kernel_rfl))
 f240:=Tryz.func84.trans (congrArg some (by kernel_rfl))
 f241:=Tryz.func170.trans (congrArg some (by kernel_rfl))
 f276:=Tryz.func123.trans (congrArg some (by kernel_rfl))
 f277:=Tryz.func194.trans (congrArg some (by kernel_rfl))
 t0:=Tryz.underlying0
 a0:=Tryz.isAgg0
 z0:=Tryz.sizeOf0
 v0:=Tryz.zeroValue0
 t3:=Tryz.underlying3
 a3:=Tryz.isAgg3
 z3:=Tryz.sizeOf3
 v3:=Tryz.zeroValue3
 t4:=Tryz.underlying4
 a4:=Tryz.isAgg4
 z4:=Tryz.sizeOf4
 v4:=Tryz.zeroValue4
 t9:=Tryz.underlying9
 a9:=Tryz.isAgg9
 z9:=Tryz.sizeOf9
 v9:=Tryz.zeroValue9
 t20:=Tryz.underlying20
 a20:=Tryz.isAgg20
 z20:=Tryz.sizeOf20
 v20:=Tryz.zeroValue20
 t31:=Tryz.underlying40
 a31:=Tryz.isAgg40
 z31:=Tryz.sizeOf40
 v31:=Tryz.zeroValue40
 t37:=Tryz.underlying120
 a37:=Tryz.isAgg120
 z37:=Tryz.sizeOf120
 v37:=Tryz.zeroValue120
 t70:=Tryz.underlying119
 a70:=Tryz.isAgg119
 z70:=Tryz.sizeOf119
 v70:=Tryz.zeroValue119
 t72:=Tryz.underlying122
 a72:=Tryz.isAgg122
 z72:=Tryz.sizeOf122
 v72:=Tryz.zeroValue122
 t75:=Tryz.underlying124
 a75:=Tryz.isAgg124
 z75:=Tryz.sizeOf124
 v75:=Tryz.zeroValue124
 t76:=Tryz.underlying125
 a76:=Tryz.isAgg125
 z76:=Tryz.sizeOf125
 v76:=Tryz.zeroValue125
 t127:=Tryz.underlying194
 a127:=Tryz.isAgg194
 z127:=Tryz.sizeOf194
 v127:=Tryz.zeroValue194
 t164:=Tryz.underlying221
 a164:=Tryz.isAgg221
 z164:=Tryz.sizeOf221
 v164:=Tryz.zeroValue221}
theorem Tryz.Builder_Extra_156:Builder.Extra Tryz.prog Tryz.lays156_ren:={
 sizeBuilder:=by kernel_rfl
 liesBuilder:=by kernel_rfl
 t5:=Tryz.underlying5
 a5:=Tryz.isAgg5
 z5:=Tryz.sizeOf5
 v5:=Tryz.zeroValue5
 infoByte:=by kernel_rfl
 cellsByte:=by kernel_rfl
 sizeByte:=by kernel_rfl
 neB5:=by decide}
open Go.RowKit in
theorem Tryz.strings_Join_none (a:Option Addr) (c:Nat) (sep:ByteArray) (w:World):
  Calls Tryz.prog 85 #[.slice a 0 c,.string sep] w fun e w'=>e=.returned (.string ⟨#[]⟩)/\w'=w:=Any.strings_Join_none Tryz.lays156 Tryz.Builder_Extra_156 a c sep w
open Go.RowKit in
theorem Tryz.strings_Join (bk o c:Nat) (xs:List ByteArray) (sep:ByteArray) (w:World) (hcells:∀(j:Nat) x,xs[j]?=some x->w.cell? ⟨bk,o+j,none⟩=some (.string x)) (hbk:bk<w.heap.size) (hN:xs.length<=140737488355328) (hcap:xs.length<=c) (hlen:(Lib.join (xs.map (·.data.toList)) sep.data.toList).length<=140737488355328):
  Calls Tryz.prog 85 #[.slice (some ⟨bk,o,none⟩) xs.length c,.string sep] w fun e w'=>e=.returned (.string ⟨(Lib.join (xs.map (·.data.toList)) sep.data.toList).toArray⟩)/\Below w.heap.size w w':=Any.strings_Join Tryz.lays156 Tryz.Builder_Extra_156 bk o c xs sep w hcells hbk hN hcap hlen
def Tryz.lays172_ren:Go.Shelf.Ren:=⟨fun|172=>160|244=>178|245=>179|247=>200|279=>201|280=>202|281=>203|282=>204|287=>224|316=>225|171=>161|205=>226|321=>237|322=>238|243=>180|246=>205|283=>227|284=>228|285=>229|286=>230|129=>240|317=>239|318=>241|319=>242|320=>243|337=>246|338=>247|n=>n,fun|9=>9|3=>3|75=>124|76=>125|4=>4|5=>5|167=>267|37=>120|0=>0|85=>268|2=>2|168=>270|53=>287|175=>288|46=>281|210=>292|127=>194|145=>311|143=>309|21=>21|171=>294|173=>297|212=>313|51=>302|20=>20|213=>314|232=>330|233=>331|80=>37|n=>n,fun|15=>2|16=>3|17=>5|18=>6|19=>7|n=>n⟩
def Tryz.laysM246_ren:Go.Shelf.Ren:=⟨fun|246=>205|283=>227|284=>228|285=>229|286=>230|129=>240|317=>239|318=>241|319=>242|320=>243|337=>246|338=>247|n=>n,fun|2=>2|3=>3|9=>9|4=>4|171=>294|0=>0|53=>287|37=>120|5=>5|173=>297|212=>313|51=>302|20=>20|213=>314|46=>281|232=>330|233=>331|n=>n,fun|17=>5|18=>6|19=>7|n=>n⟩
def Tryz.laysM243_ren:Go.Shelf.Ren:=⟨fun|243=>180|246=>205|283=>227|284=>228|285=>229|286=>230|129=>240|317=>239|318=>241|319=>242|320=>243|337=>246|338=>247|n=>n,fun|3=>3|9=>9|2=>2|4=>4|171=>294|0=>0|53=>287|37=>120|5=>5|173=>297|212=>313|51=>302|20=>20|213=>314|46=>281|232=>330|233=>331|n=>n,fun|17=>5|18=>6|19=>7|n=>n⟩
def Tryz.laysM171_ren:Go.Shelf.Ren:=⟨fun|171=>161|243=>180|246=>205|283=>227|284=>228|285=>229|286=>230|129=>240|317=>239|318=>241|319=>242|320=>243|337=>246|338=>247|n=>n,fun|3=>3|9=>9|2=>2|4=>4|171=>294|0=>0|53=>287|37=>120|5=>5|173=>297|212=>313|51=>302|20=>20|213=>314|46=>281|232=>330|233=>331|n=>n,fun|17=>5|18=>6|19=>7|n=>n⟩
theorem Tryz.laysM171:Go.Proofs.LaysM.n171 Tryz.prog Tryz.laysM171_ren:={
 mixed:=by kernel_rfl
 f129:=Tryz.func240.trans (congrArg some (by kernel_rfl))
 f171:=Tryz.func161.trans (congrArg some (by kernel_rfl))
 f243:=Tryz.func180.trans (congrArg some (by kernel_rfl))
 f246:=Tryz.func205.trans (congrArg some (by kernel_rfl))
 f283:=Tryz.func227.trans (congrArg some (by kernel_rfl))
 f284:=Tryz.func228.trans (congrArg some (by kernel_rfl))
 f285:=Tryz.func229.trans (congrArg some (by kernel_rfl))
 f286:=Tryz.func230.trans (congrArg some (by kernel_rfl))
 f317:=Tryz.func239.trans (congrArg some (by kernel_rfl))
 f318:=Tryz.func241.trans (congrArg some (by kernel_rfl))
 f319:=Tryz.func242.trans (congrArg some (by kernel_rfl))
 f320:=Tryz.func243.trans (congrArg some (by kernel_rfl))
 f337:=Tryz.func246.trans (congrArg some (by kernel_rfl))
 f338:=Tryz.func247.trans (congrArg some (by kernel_rfl))
 t0:=Tryz.underlying0
 a0:=Tryz.isAgg0
 z0:=Tryz.sizeOf0
 v0:=Tryz.zeroValue0
 t2:=Tryz.underlying2
 a2:=Tryz.isAgg2
 z2:=Tryz.sizeOf2
 v2:=Tryz.zeroValue2
 t3:=Tryz.underlying3
 a3:=Tryz.isAgg3
 z3:=Tryz.sizeOf3
 v3:=Tryz.zeroValue3
 t4:=Tryz.underlying4
 a4:=Tryz.isAgg4
 z4:=Tryz.sizeOf4
 v4:=Tryz.zeroValue4
 t5:=Tryz.underlying5
 a5:=Tryz.isAgg5
 z5:=Tryz.sizeOf5
 v5:=Tryz.zeroValue5
 t9:=Tryz.underlying9
 a9:=Tryz.isAgg9
 z9:=Tryz.sizeOf9
 v9:=Tryz.zeroValue9
 t20:=Tryz.underlying20
 a20:=Tryz.isAgg20
 z20:=Tryz.sizeOf20
 v20:=Tryz.zeroValue20
 t37:=Tryz.underlying120
 a37:=Tryz.isAgg120
 z37:=Tryz.sizeOf120
 v37:=Tryz.zeroValue120
 t46:=Tryz.underlying281
 a46:=Tryz.isAgg281
 z46:=Tryz.sizeOf281
 v46:=Tryz.zeroValue281
 t51:=Tryz.underlying302
 a51:=Tryz.isAgg302
 z51:=Tryz.sizeOf302
 v51:=Tryz.zeroValue302
 t53:=Tryz.underlying287
 a53:=Tryz.isAgg287
 z53:=Tryz.sizeOf287
 v53:=Tryz.zeroValue287
 t171:=Tryz.underlying294
 a171:=Tryz.isAgg294
 z171:=Tryz.sizeOf294
 v171:=Tryz.zeroValue294
 t173:=Tryz.underlying297
 a173:=Tryz.isAgg297
 z173:=Tryz.sizeOf297
 v173:=Tryz.zeroValue297
 t212:=Tryz.underlying313
 a212:=Tryz.isAgg313
 z212:=Tryz.sizeOf313
 v212:=Tryz.zeroValue313
 t213:=Tryz.underlying314
 a213:=Tryz.isAgg314
 z213:=Tryz.sizeOf314
 t232:=Tryz.underlying330
 a232:=Tryz.isAgg330
 z232:=Tryz.sizeOf330
 v232:=Tryz.zeroValue330
 t233:=Tryz.underlying331
 a233:=Tryz.isAgg331
 z233:=Tryz.sizeOf331
 v233:=Tryz.zeroValue331
 g17:=by kernel_rfl
 g18:=by kernel_rfl
 g19:=by kernel_rfl
 i0:=by kernel_rfl
 i2:=by kernel_rfl
 i3:=by kernel_rfl
 i4:=by kernel_rfl
 i5:=by kernel_rfl
 i9:=by kernel_rfl
 i20:=by kernel_rfl
 i37:=by kernel_rfl
 i46:=by kernel_rfl
 i51:=by kernel_rfl
 i53:=by kernel_rfl
 i171:=by kernel_rfl
 i173:=by kernel_rfl
 i212:=by kernel_rfl
 i232:=by kernel_rfl
 i233:=by kernel_rfl
 m17:=by kernel_rfl
 m18:=by kernel_rfl
 m19:=by kernel_rfl}
open Go.RowKit Go.Sort Go.Lib in
theorem Tryz.strconv_Itoa (n:Int) (h0: -9223372036854775808≤n) (h1:n≤9223372036854775807) (w:World) (htab:Lib.TabIs Tryz.prog w "internal/strconv.uint64pow10" .u64 Lib.pow10Tab):
  Calls Tryz.prog 161 #[.int .i64 n] w fun e w'=>e=.returned (.string ⟨(Lib.itoa n).toArray⟩)/\∃k os,w'=grow (w.drewN k) os:=Any.strconv_Itoa Tryz.laysM171 n h0 h1 w htab
def Tryz.laysC245_ren:Go.Shelf.Ren:=⟨fun|245=>179|279=>201|280=>202|281=>203|282=>204|316=>225|171=>161|205=>226|243=>180|246=>205|283=>227|284=>228|285=>229|286=>230|129=>240|317=>239|318=>241|319=>242|320=>243|337=>246|338=>247|n=>n,fun|9=>9|3=>3|75=>124|167=>267|4=>4|168=>270|210=>292|37=>120|0=>0|127=>194|145=>311|143=>309|2=>2|171=>294|53=>287|5=>5|173=>297|212=>313|51=>302|20=>20|213=>314|46=>281|232=>330|233=>331|80=>37|n=>n,fun|15=>2|16=>3|17=>5|18=>6|19=>7|n=>n⟩
theorem Tryz.laysC245:Go.Proofs.LaysC.n245 Tryz.prog Tryz.laysC245_ren:={
 mixed:=by kernel_rfl
 f129:=Tryz.func240.trans (congrArg some (by kernel_rfl))
 f171:=Tryz.func161.trans (congrArg some (by kernel_rfl))
 f205:=Tryz.func226.trans (congrArg some (by kernel_rfl))
 f243:=Tryz.func180.trans (congrArg some (by kernel_rfl))
 f245:=Tryz.func179.trans (congrArg some (by kernel_rfl))
 f246:=Tryz.func205.trans (congrArg some (by kernel_rfl))
 f279:=Tryz.func201.trans (congrArg some (by kernel_rfl))
 f280:=Tryz.func202.trans (congrArg some (by kernel_rfl))
 f281:=Tryz.func203.trans (congrArg some (by kernel_rfl))
 f282:=Tryz.func204.trans (congrArg some (by kernel_rfl))
 f283:=Tryz.func227.trans (congrArg some (by kernel_rfl))
 f284:=Tryz.func228.trans (congrArg some (by kernel_rfl))
 f285:=Tryz.func229.trans (congrArg some (by kernel_rfl))
 f286:=Tryz.func230.trans (congrArg some (by kernel_rfl))
 f316:=Tryz.func225.trans (congrArg some (by kernel_rfl))
 f317:=Tryz.func239.trans (congrArg some (by kernel_rfl))
 f318:=Tryz.func241.trans (congrArg some (by kernel_rfl))
 f319:=Tryz.func242.trans (congrArg some (by kernel_rfl))
 f320:=Tryz.func243.trans (congrArg some (by kernel_rfl))
 f337:=Tryz.func246.trans (congrArg some (by kernel_rfl))
 f338:=Tryz.func247.trans (congrArg some (by kernel_rfl))
 t0:=Tryz.underlying0
 a0:=Tryz.isAgg0
 z0:=Tryz.sizeOf0
 v0:=Tryz.zeroValue0
 t2:=Tryz.underlying2
 a2:=Tryz.isAgg2
 z2:=Tryz.sizeOf2
 v2:=Tryz.zeroValue2
 t3:=Tryz.underlying3
 a3:=Tryz.isAgg3
 z3:=Tryz.sizeOf3
 v3:=Tryz.zeroValue3
 t4:=Tryz.underlying4
 a4:=Tryz.isAgg4
 z4:=Tryz.sizeOf4
 v4:=Tryz.zeroValue4
 t5:=Tryz.underlying5
 a5:=Tryz.isAgg5
 z5:=Tryz.sizeOf5
 v5:=Tryz.zeroValue5
 t9:=Tryz.underlying9
 a9:=Tryz.isAgg9
 z9:=Tryz.sizeOf9
 v9:=Tryz.zeroValue9
 t20:=Tryz.underlying20
 a20:=Tryz.isAgg20
 z20:=Tryz.sizeOf20
 v20:=Tryz.zeroValue20
 t37:=Tryz.underlying120
 a37:=Tryz.isAgg120
 z37:=Tryz.sizeOf120
 v37:=Tryz.zeroValue120
 t46:=Tryz.underlying281
 a46:=Tryz.isAgg281
 z46:=Tryz.sizeOf281
 v46:=Tryz.zeroValue281
 t51:=Tryz.underlying302
 a51:=Tryz.isAgg302
 z51:=Tryz.sizeOf302
 v51:=Tryz.zeroValue302
 t53:=Tryz.underlying287
 a53:=Tryz.isAgg287
 z53:=Tryz.sizeOf287
 v53:=Tryz.zeroValue287
 t75:=Tryz.underlying124
 a75:=Tryz.isAgg124
 z75:=Tryz.sizeOf124
 v75:=Tryz.zeroValue124
 t127:=Tryz.underlying194
 a127:=Tryz.isAgg194
 z127:=Tryz.sizeOf194
 v127:=Tryz.zeroValue194
 t143:=Tryz.underlying309
 a143:=Tryz.isAgg309
 z143:=Tryz.sizeOf309
 v143:=Tryz.zeroValue309
 t145:=Tryz.underlying311
 a145:=Tryz.isAgg311
 z145:=Tryz.sizeOf311
 v145:=Tryz.zeroValue311
 t167:=Tryz.underlying267
 a167:=Tryz.isAgg267
 z167:=Tryz.sizeOf267
 v167:=Tryz.zeroValue267
 t168:=Tryz.underlying270
 a168:=Tryz.isAgg270
 z168:=Tryz.sizeOf270
 v168:=Tryz.zeroValue270
 t171:=Tryz.underlying294
 a171:=Tryz.isAgg294
 z171:=Tryz.sizeOf294
 v171:=Tryz.zeroValue294
 t173:=Tryz.underlying297
 a173:=Tryz.isAgg297
 z173:=Tryz.sizeOf297
 v173:=Tryz.zeroValue297
 t210:=Tryz.underlying292
 a210:=Tryz.isAgg292
 z210:=Tryz.sizeOf292
 v210:=Tryz.zeroValue292
 t212:=Tryz.underlying313
 a212:=Tryz.isAgg313
 z212:=Tryz.sizeOf313
 v212:=Tryz.zeroValue313
 t213:=Tryz.underlying314
 a213:=Tryz.isAgg314
 z213:=Tryz.sizeOf314
 t232:=Tryz.underlying330
 a232:=Tryz.isAgg330
 z232:=Tryz.sizeOf330
 v232:=Tryz.zeroValue330
 t233:=Tryz.underlying331
 a233:=Tryz.isAgg331
 z233:=Tryz.sizeOf331
 v233:=Tryz.zeroValue331
 g15:=by kernel_rfl
 g16:=by kernel_rfl
 g17:=by kernel_rfl
 g18:=by kernel_rfl
 g19:=by kernel_rfl
 t80:=Tryz.underlying37
 a80:=Tryz.isAgg37
 z80:=Tryz.sizeOf37
 v80:=Tryz.zeroValue37
 i0:=by kernel_rfl
 i2:=by kernel_rfl
 i3:=by kernel_rfl
 i4:=by kernel_rfl
 i5:=by kernel_rfl
 i9:=by kernel_rfl
 i20:=by kernel_rfl
 i37:=by kernel_rfl
 i46:=by kernel_rfl
 i51:=by kernel_rfl
 i53:=by kernel_rfl
 i75:=by kernel_rfl
 i80:=by kernel_rfl
 i127:=by kernel_rfl
 i143:=by kernel_rfl
 i145:=by kernel_rfl
 i167:=by kernel_rfl
 i168:=by kernel_rfl
 i171:=by kernel_rfl
 i173:=by kernel_rfl
 i210:=by kernel_rfl
 i212:=by kernel_rfl
 i232:=by kernel_rfl
 i233:=by kernel_rfl
 m15:=by kernel_rfl
 m16:=by kernel_rfl
 m17:=by kernel_rfl
 m18:=by kernel_rfl
 m19:=by kernel_rfl
 c0:=by kernel_rfl
 c2:=by kernel_rfl
 c3:=by kernel_rfl
 c4:=by kernel_rfl
 c5:=by kernel_rfl
 c9:=by kernel_rfl
 c20:=by kernel_rfl
 c37:=by kernel_rfl
 c46:=by kernel_rfl
 c51:=by kernel_rfl
 c53:=by kernel_rfl
 c75:=by kernel_rfl
 c80:=by kernel_rfl
 c127:=by kernel_rfl
 c143:=by kernel_rfl
 c145:=by kernel_rfl
 c167:=by kernel_rfl
 c168:=by kernel_rfl
 c171:=by kernel_rfl
 c173:=by kernel_rfl
 c210:=by kernel_rfl
 c212:=by kernel_rfl
 c213:=by kernel_rfl
 c232:=by kernel_rfl
 c233:=by kernel_rfl}
open Go.RowKit in
theorem Tryz.strconv_toError_syntax (fn s:ByteArray) (base bits:Int) (ev:Value) (w:World) (hlim:s.size<=281474976710656) (hv:w.cell? ⟨2,0,none⟩=some ev) (hev:ev=.nilIface∨∃te pe,ev=.iface te pe):
  Calls Tryz.prog 179 #[.string fn,.string s,.int .i64 base,.int .i64 bits,.iface 267 (.int .i64 2)] w fun e w'=>∃N,e=.returned (.iface 270 (.pointer (some ⟨N,0,none⟩)))/\w.heap.size<=N/\w'.heap[N]?=some (.cells #[.string fn,.string s,ev] 292 (0,0))/\Below w.heap.size w w':=Any.strconv_toError_syntax Tryz.laysC245 fn s base bits ev w hlim hv hev
def Tryz.laysC172_ren:Go.Shelf.Ren:=⟨fun|172=>160|244=>178|245=>179|247=>200|279=>201|280=>202|281=>203|282=>204|287=>224|316=>225|171=>161|205=>226|321=>237|322=>238|243=>180|246=>205|283=>227|284=>228|285=>229|286=>230|129=>240|317=>239|318=>241|319=>242|320=>243|337=>246|338=>247|n=>n,fun|9=>9|3=>3|75=>124|76=>125|4=>4|5=>5|167=>267|37=>120|0=>0|85=>268|2=>2|168=>270|53=>287|175=>288|46=>281|210=>292|127=>194|145=>311|143=>309|21=>21|171=>294|173=>297|212=>313|51=>302|20=>20|213=>314|232=>330|233=>331|80=>37|n=>n,fun|15=>2|16=>3|17=>5|18=>6|19=>7|n=>n⟩
theorem Tryz.laysC172:Go.Proofs.LaysC.n172 Tryz.prog Tryz.laysC172_ren:={
 mixed:=by kernel_rfl
 f129:=Tryz.func240.trans (congrArg some (by kernel_rfl))
 f171:=Tryz.func161.trans (congrArg some (by kernel_rfl))
 f172:=Tryz.func160.trans (congrArg some (by kernel_rfl))
 f205:=Tryz.func226.trans (congrArg some (by kernel_rfl))
 f243:=Tryz.func180.trans (congrArg some (by kernel_rfl))
 f244:=Tryz.func178.trans (congrArg some (by kernel_rfl))
 f245:=Tryz.func179.trans (congrArg some (by kernel_rfl))
 f246:=Tryz.func205.trans (congrArg some (by kernel_rfl))
 f247:=Tryz.func200.trans (congrArg some (by kernel_rfl))
 f279:=Tryz.func201.trans (congrArg some (by kernel_rfl))
 f280:=Tryz.func202.trans (congrArg some (by kernel_rfl))
 f281:=Tryz.func203.trans (congrArg some (by kernel_rfl))
 f282:=Tryz.func204.trans (congrArg some (by kernel_rfl))
 f283:=Tryz.func227.trans (congrArg some (by kernel_rfl))
 f284:=Tryz.func228.trans (congrArg some (by kernel_rfl))
 f285:=Tryz.func229.trans (congrArg some (by kernel_rfl))
 f286:=Tryz.func230.trans (congrArg some (by kernel_rfl))
 f287:=Tryz.func224.trans (congrArg some (by kernel_rfl))
 f316:=Tryz.func225.trans (congrArg some (by kernel_rfl))
 f317:=Tryz.func239.trans (congrArg some (by kernel_rfl))
 f318:=Tryz.func241.trans (congrArg some (by kernel_rfl))
 f319:=Tryz.func242.trans (congrArg some (by kernel_rfl))
 f320:=Tryz.func243.trans (congrArg some (by kernel_rfl))
 f321:=Tryz.func237.trans (congrArg some (by kernel_rfl))
 f322:=Tryz.func238.trans (congrArg some (by kernel_rfl))
 f337:=Tryz.func246.trans (congrArg some (by kernel_rfl))
 f338:=Tryz.func247.trans (congrArg some (by kernel_rfl))
 t0:=Tryz.underlying0
 a0:=Tryz.isAgg0
 z0:=Tryz.sizeOf0
 v0:=Tryz.zeroValue0
 t2:=Tryz.underlying2
 a2:=Tryz.isAgg2
 z2:=Tryz.sizeOf2
 v2:=Tryz.zeroValue2
 t3:=Tryz.underlying3
 a3:=Tryz.isAgg3
 z3:=Tryz.sizeOf3
 v3:=Tryz.zeroValue3
 t4:=Tryz.underlying4
 a4:=Tryz.isAgg4
 z4:=Tryz.sizeOf4
 v4:=Tryz.zeroValue4
 t5:=Tryz.underlying5
 a5:=Tryz.isAgg5
 z5:=Tryz.sizeOf5
 v5:=Tryz.zeroValue5
 t9:=Tryz.underlying9
 a9:=Tryz.isAgg9
 z9:=Tryz.sizeOf9
 v9:=Tryz.zeroValue9
 t20:=Tryz.underlying20
 a20:=Tryz.isAgg20
 z20:=Tryz.sizeOf20
 v20:=Tryz.zeroValue20
 t21:=Tryz.underlying21
 a21:=Tryz.isAgg21
 z21:=Tryz.sizeOf21
 v21:=Tryz.zeroValue21
 t37:=Tryz.underlying120
 a37:=Tryz.isAgg120
 z37:=Tryz.sizeOf120
 v37:=Tryz.zeroValue120
 t46:=Tryz.underlying281
 a46:=Tryz.isAgg281
 z46:=Tryz.sizeOf281
 v46:=Tryz.zeroValue281
 t51:=Tryz.underlying302
 a51:=Tryz.isAgg302
 z51:=Tryz.sizeOf302
 v51:=Tryz.zeroValue302
 t53:=Tryz.underlying287
 a53:=Tryz.isAgg287
 z53:=Tryz.sizeOf287
 v53:=Tryz.zeroValue287
 t75:=Tryz.underlying124
 a75:=Tryz.isAgg124
 z75:=Tryz.sizeOf124
 v75:=Tryz.zeroValue124
 t76:=Tryz.underlying125
 a76:=Tryz.isAgg125
 z76:=Tryz.sizeOf125
 v76:=Tryz.zeroValue125
 t85:=Tryz.underlying268
 a85:=Tryz.isAgg268
 z85:=Tryz.sizeOf268
 v85:=Tryz.zeroValue268
 t127:=Tryz.underlying194
 a127:=Tryz.isAgg194
 z127:=Tryz.sizeOf194
 v127:=Tryz.zeroValue194
 t143:=Tryz.underlying309
 a143:=Tryz.isAgg309
 z143:=Tryz.sizeOf309
 v143:=Tryz.zeroValue309
 t145:=Tryz.underlying311
 a145:=Tryz.isAgg311
 z145:=Tryz.sizeOf311
 v145:=Tryz.zeroValue311
 t167:=Tryz.underlying267
 a167:=Tryz.isAgg267
 z167:=Tryz.sizeOf267
 v167:=Tryz.zeroValue267
 t168:=Tryz.underlying270
 a168:=Tryz.isAgg270
 z168:=Tryz.sizeOf270
 v168:=Tryz.zeroValue270
 t171:=Tryz.underlying294
 a171:=Tryz.isAgg294
 z171:=Tryz.sizeOf294
 v171:=Tryz.zeroValue294
 t173:=Tryz.underlying297
 a173:=Tryz.isAgg297
 z173:=Tryz.sizeOf297
 v173:=Tryz.zeroValue297
 t175:=Tryz.underlying288
 a175:=Tryz.isAgg288
 z175:=Tryz.sizeOf288
 v175:=Tryz.zeroValue288
 t210:=Tryz.underlying292
 a210:=Tryz.isAgg292
 z210:=Tryz.sizeOf292
 v210:=Tryz.zeroValue292
 t212:=Tryz.underlying313
 a212:=Tryz.isAgg313
 z212:=Tryz.sizeOf313
 v212:=Tryz.zeroValue313
 t213:=Tryz.underlying314
 a213:=Tryz.isAgg314
 z213:=Tryz.sizeOf314
 t232:=Tryz.underlying330
 a232:=Tryz.isAgg330
 z232:=Tryz.sizeOf330
 v232:=Tryz.zeroValue330
 t233:=Tryz.underlying331
 a233:=Tryz.isAgg331
 z233:=Tryz.sizeOf331
 v233:=Tryz.zeroValue331
 g15:=by kernel_rfl
 g16:=by kernel_rfl
 g17:=by kernel_rfl
 g18:=by kernel_rfl
 g19:=by kernel_rfl
 t80:=Tryz.underlying37
 a80:=Tryz.isAgg37
 z80:=Tryz.sizeOf37
 v80:=Tryz.zeroValue37
 i0:=by kernel_rfl
 i2:=by kernel_rfl
 i3:=by kernel_rfl
 i4:=by kernel_rfl
 i5:=by kernel_rfl
 i9:=by kernel_rfl
 i20:=by kernel_rfl
 i21:=by kernel_rfl
 i37:=by kernel_rfl
 i46:=by kernel_rfl
 i51:=by kernel_rfl
 i53:=by kernel_rfl
 i75:=by kernel_rfl
 i76:=by kernel_rfl
 i80:=by kernel_rfl
 i85:=by kernel_rfl
 i127:=by kernel_rfl
 i143:=by kernel_rfl
 i145:=by kernel_rfl
 i167:=by kernel_rfl
 i168:=by kernel_rfl
 i171:=by kernel_rfl
 i173:=by kernel_rfl
 i175:=by kernel_rfl
 i210:=by kernel_rfl
 i212:=by kernel_rfl
 i232:=by kernel_rfl
 i233:=by kernel_rfl
 m15:=by kernel_rfl
 m16:=by kernel_rfl
 m17:=by kernel_rfl
 m18:=by kernel_rfl
 m19:=by kernel_rfl
 c0:=by kernel_rfl
 c2:=by kernel_rfl
 c3:=by kernel_rfl
 c4:=by kernel_rfl
 c5:=by kernel_rfl
 c9:=by kernel_rfl
 c20:=by kernel_rfl
 c21:=by kernel_rfl
 c37:=by kernel_rfl
 c46:=by kernel_rfl
 c51:=by kernel_rfl
 c53:=by kernel_rfl
 c75:=by kernel_rfl
 c76:=by kernel_rfl
 c80:=by kernel_rfl
 c85:=by kernel_rfl
 c127:=by kernel_rfl
 c143:=by kernel_rfl
 c145:=by kernel_rfl
 c167:=by kernel_rfl
 c168:=by kernel_rfl
 c171:=by kernel_rfl
 c173:=by kernel_rfl
 c175:=by kernel_rfl
 c210:=by kernel_rfl
 c212:=by kernel_rfl
 c213:=by kernel_rfl
 c232:=by kernel_rfl
 c233:=by kernel_rfl}
open Go.RowKit in
theorem Tryz.strconv_Atoi_ok (s:ByteArray) (hmax:s.size<=9223372036854775806) (v:Int) (h:Lib.atoiAll s.data.toList=.ok v) (w:World):
  Calls Tryz.prog 160 #[.string s] w fun e w'=>e=.returned (.tuple #[.int .i64 v,.nilIface])/\(w'=w∨∃t,w'=Lib.bytesWorld w 5 t):=Any.strconv_Atoi_ok Tryz.laysC172 s hmax v h w
open Go.RowKit in
theorem Tryz.strconv_Atoi_range (s:ByteArray) (hlim:s.size<=281474976710656) (h:Lib.atoiAll s.data.toList=.range) (ev:Value) (w:World) (hv:w.cell? ⟨3,0,none⟩=some ev) (hev:ev=.nilIface∨∃te pe,ev=.iface te pe):
  Calls Tryz.prog 160 #[.string s] w fun e w'=>∃N,e=.returned (.tuple #[.int .i64 (Lib.atoiSat s.data.toList),.iface 270 (.pointer (some ⟨N,0,none⟩))])/\w.heap.size<=N/\w'.heap[N]?=some (.cells #[.string ⟨#[65,116,111,105]⟩,.string s,ev] 292 (0,0))/\Below w.heap.size w w':=Any.strconv_Atoi_range Tryz.laysC172 s hlim h ev w hv hev
def Tryz.lays219_ren:Go.Shelf.Ren:=⟨fun|219=>195|217=>217|225=>218|224=>219|267=>220|266=>234|314=>235|n=>n,fun|9=>9|3=>3|4=>4|5=>5|46=>281|146=>305|51=>302|n=>n,fun|1=>1|n=>n⟩
def Tryz.lays143_ren:Go.Shelf.Ren:=⟨fun|143=>184|219=>195|217=>217|225=>218|224=>219|267=>220|266=>234|314=>235|n=>n,fun|9=>9|3=>3|4=>4|5=>5|46=>281|146=>305|51=>302|n=>n,fun|1=>1|n=>n⟩
theorem Tryz.lays143:Go.Proofs.Lays.n143 Tryz.prog Tryz.lays143_ren:={
 mixed:=by kernel_rfl
 f143:=Tryz.func184.trans (congrArg some (by kernel_rfl))
 f217:=Tryz.func217.trans (congrArg some (by kernel_rfl))
 f219:=Tryz.func195.trans (congrArg some (by kernel_rfl))
 f224:=Tryz.func219.trans (congrArg some (by kernel_rfl))
 f225:=Tryz.func218.trans (congrArg some (by kernel_rfl))
 f266:=Tryz.func234.trans (congrArg some (by kernel_rfl))
 f267:=Tryz.func220.trans (congrArg some (by kernel_rfl))
 f314:=Tryz.func235.trans (congrArg some (by kernel_rfl))
 t3:=Tryz.underlying3
 a3:=Tryz.isAgg3
 z3:=Tryz.sizeOf3
 v3:=Tryz.zeroValue3
 t4:=Tryz.underlying4
 a4:=Tryz.isAgg4
 z4:=Tryz.sizeOf4
 v4:=Tryz.zeroValue4
 t5:=Tryz.underlying5
 a5:=Tryz.isAgg5
 z5:=Tryz.sizeOf5
 v5:=Tryz.zeroValue5
 t9:=Tryz.underlying9
 a9:=Tryz.isAgg9
 z9:=Tryz.sizeOf9
 v9:=Tryz.zeroValue9
 t46:=Tryz.underlying281
 a46:=Tryz.isAgg281
 z46:=Tryz.sizeOf281
 v46:=Tryz.zeroValue281
 t51:=Tryz.underlying302
 a51:=Tryz.isAgg302
 z51:=Tryz.sizeOf302
 v51:=Tryz.zeroValue302
 t146:=Tryz.underlying305
 a146:=Tryz.isAgg305
 z146:=Tryz.sizeOf305
 v146:=Tryz.zeroValue305
 g1:=by kernel_rfl}
open Go.RowKit Go.Lib in
theorem Tryz.strings_Index (s sub:ByteArray) (m:Int) (w:World) (hs:s.size<4294967281) (hm:w.cell? ⟨1,0,none⟩=some (.int .i64 m)):
  Calls Tryz.prog 184 #[.string s,.string sub] w fun e w'=>e=.returned (.int .i64 (Lib.index s.data.toList sub.data.toList))/\w'=w:=Any.strings_Index Tryz.lays143 s sub m w hs hm
def Tryz.lays145_ren:Go.Shelf.Ren:=⟨fun|145=>133|220=>172|219=>195|217=>217|225=>218|224=>219|267=>220|266=>234|314=>235|n=>n,fun|9=>9|4=>4|59=>225|3=>3|5=>5|46=>281|146=>305|51=>302|n=>n,fun|1=>1|n=>n⟩
theorem Tryz.lays145:Go.Proofs.Lays.n145 Tryz.prog Tryz.lays145_ren:={
 mixed:=by kernel_rfl
 f145:=Tryz.func133.trans (congrArg some (by kernel_rfl))
 f217:=Tryz.func217.trans (congrArg some (by kernel_rfl))
 f219:=Tryz.func195.trans (congrArg some (by kernel_rfl))
 f220:=Tryz.func172.trans (congrArg some (by kernel_rfl))
 f224:=Tryz.func219.trans (congrArg some (by kernel_rfl))
 f225:=Tryz.func218.trans (congrArg some (by kernel_rfl))
 f266:=Tryz.func234.trans (congrArg some (by kernel_rfl))
 f267:=Tryz.func220.trans (congrArg some (by kernel_rfl))
 f314:=Tryz.func235.trans (congrArg some (by kernel_rfl))
 t3:=Tryz.underlying3
 a3:=Tryz.isAgg3
 z3:=Tryz.sizeOf3
 v3:=Tryz.zeroValue3
 t4:=Tryz.underlying4
 a4:=Tryz.isAgg4
 z4:=Tryz.sizeOf4
 v4:=Tryz.zeroValue4
 t5:=Tryz.underlying5
 a5:=Tryz.isAgg5
 z5:=Tryz.sizeOf5
 v5:=Tryz.zeroValue5
 t9:=Tryz.underlying9
 a9:=Tryz.isAgg9
 z9:=Tryz.sizeOf9
 v9:=Tryz.zeroValue9
 t46:=Tryz.underlying281
 a46:=Tryz.isAgg281
 z46:=Tryz.sizeOf281
 v46:=Tryz.zeroValue281
 t51:=Tryz.underlying302
 a51:=Tryz.isAgg302
 z51:=Tryz.sizeOf302
 v51:=Tryz.zeroValue302
 t59:=Tryz.underlying225
 a59:=Tryz.isAgg225
 z59:=Tryz.sizeOf225
 v59:=Tryz.zeroValue225
 t146:=Tryz.underlying305
 a146:=Tryz.isAgg305
 z146:=Tryz.sizeOf305
 v146:=Tryz.zeroValue305
 g1:=by kernel_rfl}
open Go.RowKit Go.Lib in
theorem Tryz.strings_Cut (s sep:ByteArray) (m:Int) (w:World) (hs:s.size<4294967281) (hm:w.cell? ⟨1,0,none⟩=some (.int .i64 m)):
  Calls Tryz.prog 133 #[.string s,.string sep] w fun e w'=>e=.returned (.tuple #[.string ⟨(Lib.cut s.data.toList sep.data.toList).1.toArray⟩,.string ⟨(Lib.cut s.data.toList sep.data.toList).2.1.toArray⟩,.bool (Lib.cut s.data.toList sep.data.toList).2.2])/\∃n,w'=w.drewN n:=Any.strings_Cut Tryz.lays145 s sep m w hs hm
end Go.Proofs
namespace Go.Proofs.YtmnjcddcihdlfaaGreatDoor
section
open Go.RowKit Go.Sort
theorem SC.of_calls [Globals] {P:Program} {k:FuncId} {args:List GV} {g:GV}
  (h:∀(C:Cx) (w:World) (vs:Array Value),Rel C ⟨[],0,[]⟩ w w->VRs C args vs.toList->Calls P k vs w fun e w'=>∃v,e=.returned v/\Base (fun _=>False) w w'/\VR C g v):
  SC P k args [] (.val g) []:=by
 refine⟨rL _,fun C w vs hr hv=>(h C w vs hr hv).mono fun e w' ⟨v,he,hb,hg⟩=>⟨C,.refl C,?_,v,he,hg⟩,fun x hx=>by simp at hx⟩;have hb':Base C.mine w w':=⟨hb.os,hb.output,hb.size,fun i hi _=>hb.block i hi (fun h=>h)⟩;refine⟨hb',fun b o v hx=>?_,fun r x hx=>by simp at hx,hr.dom,hr.new,hr.inj,hr.sepB,hr.sepO,hr.fxn,hr.gl,hr.gs⟩;have h1:=hr.fxc b o v hx;have hlt:b<w.heap.size:=block_lt_of_cell h1;unfold World.cell? at h1⊢;rw[hb.block b hlt (fun h=>h)];exact h1
theorem Base.grow_drew (w:World) (k:Nat) (os:Array Obj):Base (fun _=>False) w (grow (w.drewN k) os):=by
 refine⟨rfl,rfl,?_,fun i hi _=>?_⟩
 ·show w.heap.size<=(w.heap++os).size;simp
 ·show(w.heap++os)[i]?=w.heap[i]?;rw[Array.getElem?_append_left hi]
end
section
open Go.RowKit Go.Sort
theorem Base.below {w w':World} (h:Below w.heap.size w w'):Base (fun _=>False) w w':=⟨h.os,h.output,h.size,fun i hi _=>h.block i hi⟩
theorem Base.bytes (w:World) (e:TypeId) (s:ByteArray):Base (fun _=>False) w (Lib.bytesWorld w e s):=.below (Lib.bytesWorld_below w e s)
theorem YA [MaxL] {C:Cx} {σ:GS} {w:World} (hr:Rel C σ w w) {P:Program} {g:Nat} {name:String} {cs:List GV} {vs:List Value} (hn:P.globalNamed name=some g) (ht:Globals.tab g=some cs) (hlen:vs.length=cs.length)
  (hv:∀(j:Nat) x u,cs[j]?=some x->VR C x u->vs[j]?=some u):w.var? P name=some vs.toArray:=by
 obtain⟨_,c,t,fr,ho,hsz⟩:=hr.gs g cs ht;unfold World.var?;rw[hn];show(match w.heap[g]? with|some (.cells cs _ _)=>some cs|_=>none)=_;rw[ho];simp only[eY];apply Array.ext (by simp[hsz,hlen]);intro i h1 h2;have hi:i<cs.length:=by omega
 obtain⟨u,hfx,hvr⟩:=hr.gl g cs i cs[i] ht (gL hi);have hc:=hr.fxc _ _ _ hfx;have hu:=hv i _ u (gL hi) (hvr C fun _ _ _ h=>h);unfold World.cell? at hc;rw[ho] at hc;simp at hc;rw[aK h1] at hc;rw[gL (by simpa using h2)] at hu;simp at hc hu⊢;rw[hc,hu]
theorem NM [MaxL] (n:Int) (h0: -9223372036854775808<=n) (h1:n<=9223372036854775807):SC Tryz.prog 161 [.i .i64 n] [] (.val (.s (Lib.itoa n))) []:=by
 refine SC.of_calls fun C w vs hr hv=>?_;obtain⟨v,vs',e,hv1,hv2⟩:=hv.cons_inv;have:vs'=[]:=aI (by simpa using hv2.1);subst this;obtain rfl:vs= #[v]:=by rw[<-gO (xs:=vs),e]
 cases hv1;have htab:Lib.TabIs Tryz.prog w "internal/strconv.uint64pow10" .u64 Lib.pow10Tab:=by
  refine YA hr (g:=5) (cs:=TC) (by kernel_rfl) rfl (by kernel_rfl) (fun j x u hx hu=>?_);have key:TC=Lib.pow10Tab.map fun z=>GV.i .u64 z:=by kernel_rfl
  rw[key,aG,aC] at hx;obtain⟨z,hz,rfl⟩:=hx;cases hu;rw[aG,hz];rfl
 refine(Tryz.strconv_Itoa n h0 h1 w htab).mono ?_;rintro e w' ⟨he,k,os,rfl⟩;exact⟨_,he,Base.grow_drew w k os,.s _⟩
theorem FA [MaxL] (l:List UInt8) (hl:l.length<=9223372036854775806) (v:Int) (h:Lib.atoiAll l=.ok v):SC Tryz.prog 160 [.s l] [] (.val (.tup [.i .i64 v,.o .nilIface])) []:=by
 refine SC.of_calls fun C w vs hr hv=>?_;obtain⟨u,vs',e,hv1,hv2⟩:=hv.cons_inv;have:vs'=[]:=aI (by simpa using hv2.1);subst this;obtain rfl:vs= #[u]:=by rw[<-gO (xs:=vs),e]
 cases hv1;refine(Tryz.strconv_Atoi_ok ⟨l.toArray⟩ (by simpa[ByteArray.size] using hl) v (by simpa using h) w).mono ?_;rintro e w' ⟨he,hw⟩;refine⟨_,he,?_,.tup rfl (fun j g u h1 h2=>?_)⟩
 ·rcases hw with rfl|⟨t,rfl⟩
  ·exact .refl _ _
  ·exact .bytes _ _ _
 ·rcases j with _|_|j
  ·simp at h1 h2;subst h1;subst h2;exact .i _ _
  ·simp at h1 h2;subst h1;subst h2;exact .o rfl
  ·simp at h1
theorem FB [MaxL] (l:List UInt8) (hl:l.length<=281474976710656) (h:∀v,Lib.atoiAll l≠ .ok v):∃n,SC Tryz.prog 160 [.s l] [] (.val (.tup [.i .i64 n,.ifc 270 .any])) []:=by
 have err:∀{C:Cx} {w:World} (g:Nat) (x:GV) (t:TypeId),Rel C ⟨[],0,[]⟩ w w->Globals.tab g=some [.ifc t x]->∃p,w.cell? ⟨g,0,none⟩=some (.iface t p):=fun g x t hr ht=>by
  obtain⟨u,hfx,hvr⟩:=hr.gl g _ 0 _ ht rfl;have:=hvr _ (fun _ _ _ h=>h);cases this;exact⟨_,hr.fxc _ _ _ hfx⟩
 have two:∀{C:Cx} {n:Int} {v:Value},VR C (.tup [.i .i64 n,.ifc 270 .any]) (.tuple #[.int .i64 n,.iface 270 v]):=fun{C n v}=>.tup rfl (fun j g u h1 h2=>by
  rcases j with _|_|j
  ·simp at h1 h2;subst h1;subst h2;exact .i _ _
  ·simp at h1 h2;subst h1;subst h2;exact .ifc (.any _)
  ·simp at h1)
 have arg:∀{C:Cx} {vs:Array Value},VRs C [.s l] vs.toList->vs= #[.string ⟨l.toArray⟩]:=fun{C vs} hv=>by
  obtain⟨u,vs',e,hv1,hv2⟩:=hv.cons_inv;have:vs'=[]:=aI (by simpa using hv2.1);subst this;cases hv1;rw[<-gO (xs:=vs),e]
 rcases hr:Lib.atoiAll l with v|_|_
 ·exact absurd hr (h v)
 ·skip;refine⟨0,SC.of_calls fun C w vs hrel hv=>?_⟩;obtain rfl:=arg hv;obtain⟨p,hp⟩:=err 2 _ _ hrel rfl;refine(Any.strconv_Atoi_syntax Tryz.laysC172 ⟨l.toArray⟩ (by simpa[ByteArray.size] using hl) (by simpa using hr) _ w hp (.inr ⟨_,_,rfl⟩)).mono ?_;rintro e w' ⟨N,he,_,_,hb⟩;exact⟨_,he,.below hb,two⟩
 ·skip;refine⟨Lib.atoiSat l,SC.of_calls fun C w vs hrel hv=>?_⟩;obtain rfl:=arg hv;obtain⟨p,hp⟩:=err 3 _ _ hrel rfl;refine(Tryz.strconv_Atoi_range ⟨l.toArray⟩ (by simpa[ByteArray.size] using hl) (by simpa using hr) _ w hp (.inr ⟨_,_,rfl⟩)).mono ?_;rintro e w' ⟨N,he,_,_,hb⟩;exact⟨_,he,.below hb,two⟩
theorem a08 [MaxL] (xs:List (List UInt8)) (sep:List UInt8) (h1:xs.length<=140737488355328) (h2:(Lib.join xs sep).length<=140737488355328):SC Tryz.prog 85 [.sl .none (xs.map .s),.s sep] [] (.val (.s (Lib.join xs sep))) []:=by
 refine SC.of_calls fun C w vs hr hv=>?_;obtain⟨u,vs',e,hv1,hv2⟩:=hv.cons_inv;obtain⟨u2,vs'',rfl,hv3,hv4⟩:=hv2.cons_inv;have:vs''=[]:=aI (by simpa using hv4.1);subst this;obtain rfl:vs= #[u,u2]:=by rw[<-gO (xs:=vs),e]
 cases hv3;cases hv1 with
 |sl esz b off us hn hc ha hw hx hvv ht=>
 rename_i a n c;have hn':n=xs.length:=by simpa using hn
 subst hn';have he1:∀(j:Nat) x,xs[j]?=some x->esz=1:=fun j x hj=>by
  have:=hw (.s x) (List.mem_map.2 ⟨x,List.mem_iff_getElem?.2 ⟨j,hj⟩,rfl⟩);simpa[GV.cells] using this.symm
 by_cases h0:xs.length=0
 ·have:xs=[]:=aI h0;subst this;refine(Tryz.strings_Join_none a c ⟨sep.toArray⟩ w).mono ?_;rintro e w' ⟨he,rfl⟩;exact⟨_,he,.refl _ _,.s []⟩
 ·rcases ha with⟨rfl,hc0⟩|rfl|h9
  ·omega
  rotate_left
  ·omega
  ·have hcell:∀(j:Nat) x,xs[j]?=some x->w.cell? ⟨b,off+j,none⟩=some (.string ⟨x.toArray⟩):=fun j x hj=>by
    have e1:=he1 j x hj;subst e1;have hm:(xs.map GV.s)[j]?=some (.s x):=by rw[aG,hj];rfl
    have q1:=hr.fxc _ _ _ (hx j (.s x) 0 (.s x) hm rfl);have q2:=hvv j (.s x) 0 (.s x) hm rfl;rw[show off+j*1+0=off+j by omega] at q1;rw[q1];generalize us (j*1+0)=z at q2;cases q2;rfl
   have hbk:b<w.heap.size:=by
    have:=hcell 0 xs[0] (gL (by omega));exact block_lt_of_cell this
   have key:(xs.map fun x=>(⟨x.toArray⟩:ByteArray)).map (·.data.toList)=xs:=by rw[List.map_map];simp[dP]
   have:=Tryz.strings_Join b off c (xs.map fun x=>⟨x.toArray⟩) ⟨sep.toArray⟩ w (fun j x hj=>by
    rw[aG,aC] at hj;obtain⟨y,hy,rfl⟩:=hj;exact hcell j y hy) hbk (by simpa using h1) (by simpa using hc) (by rw[key];simpa using h2)
   rw[key] at this;simp only[aS] at this;refine this.mono ?_;rintro e w' ⟨he,hb⟩;exact⟨_,he,.below hb,.s _⟩
end
section
open Go.RowKit
def TA (c:UInt8):Int:=bits .or .u8 c.toNat 32
theorem W6:∀n:Fin 256,0<=bits .or .u8 (n:Nat) 32/\bits .or .u8 (n:Nat) 32<256:=by decide+kernel
theorem Z6 (c:UInt8):0<=TA c/\TA c<256:=W6 ⟨c.toNat,bS c⟩
def pK (c:UInt8):Option Nat:=if 48<=c.toNat/\c.toNat<=57 then some (c.toNat - 48) else if 97<=TA c/\TA c<=122 then(if TA c<103 then some (TA c - 87).toNat else none) else none
theorem WF {c:UInt8} {h:Nat} (e:pK c=some h):h<16:=by
 unfold pK at e;split at e
 ·cases e;omega
 ·split at e
  ·split at e
   ·cases e;omega
   ·cases e
  ·cases e
def wX (a b:UInt8):Option Nat:=match pK a with
 |some x=>match pK b with
  |some y=>some (16*x+y)
  |none=>none
 |none=>none
theorem XE [MaxL] (c:UInt8):SC Tryz.prog 237 [.i .u8 c.toNat] [] (.val (.i .u8 (TA c))) []:=by
 refine bI Tryz.func237 rfl ?_;conv=>whnf
 exact iH rfl
theorem VI {n:Int} (h0:0<=n) (h1:n<256):IntKind.u8.wrap n=n:=by
 unfold IntKind.wrap;simp[IntKind.signed,IntKind.bits];omega
theorem YB (n:Int):IntKind.u8.wrap n=n%256:=by unfold IntKind.wrap;simp[IntKind.signed,IntKind.bits]
theorem VJ (n:Int):IntKind.u64.wrap n=n%18446744073709551616:=by unfold IntKind.wrap;simp[IntKind.signed,IntKind.bits]
theorem HZ [MaxL] (a b:UInt8):SC Tryz.prog 224 [.s [a,b],.i .i64 16,.i .i64 8] [] (.val (match wX a b with|some n=>.tup [.i .u64 n,.o .nilIface]|none=>.tup [.i .u64 0,.ifc 267 (.i .i64 2)])) []:=by
 refine bI Tryz.func224 rfl ?_;conv=>whnf
 refine⟨by decide,?_⟩;conv=>whnf
 refine bA (fun q:Nat×Nat=>(q=(0,0))∨(∃h,pK a=some h/\q=(1,h))∨(∃h k,pK a=some h/\pK b=some k/\q=(2,16*h+k)))
  (fun q=>[(0,.s [a,b]),(1,.i .i64 16),(8,.b false),(10,.i .u64 1152921504606846976),(11,.i .u64 255),(12,.b false),(13,.i .u64 q.2),(99,.sl .none [.i .u8 a.toNat,.i .u8 b.toNat]),(100,.i .i64 2),(101,.i .i64 q.1)]) (fun _=>⟨[],0,[]⟩) (fun q=>2 - q.1) (0,0) (.inl rfl) ⟨rfl,rfl,rfl,rfl,?_,rfl,rfl,rfl,rfl,rfl,trivial⟩ rfl (fun q φ0 hq=>?_)
 ·show GV.i .u64 (IntKind.u64.wrap (IntKind.u64.wrap (1*2^min (IntKind.u64.wrap 8).toNat 64) - 1))=GV.i .u64 255;rw[show IntKind.u64.wrap (IntKind.u64.wrap (1*2^min (IntKind.u64.wrap 8).toNat 64) - 1)=255 by decide+kernel]
 conv=>whnf
 apply gM<;>intro h<;>conv=>whnf
 ·obtain⟨c,hc,hlt,hacc,hno,hyes⟩:∃c,([.i .u8 a.toNat,.i .u8 b.toNat]:List GV)[q.1]?=some (.i .u8 c.toNat)/\q.1<2/\q.2<16/\(pK c=none->wX a b=none)/\
    ∀d,pK c=some d->(((q.1+1,16*q.2+d)=(0,0))∨(∃h,pK a=some h/\(q.1+1,16*q.2+d)=(1,h))∨(∃h k,pK a=some h/\pK b=some k/\(q.1+1,16*q.2+d)=(2,16*h+k))):=by
   rcases hq with rfl|⟨h1,e1,rfl⟩|⟨h1,k1,e1,e2,rfl⟩
   ·exact⟨a,rfl,by omega,by omega,fun e=>by simp[wX,e],fun d e=>.inr (.inl ⟨d,e,by simp⟩)⟩
   ·exact⟨b,rfl,by simp,WF e1,fun e=>by simp[wX,e1,e],fun d e=>.inr (.inr ⟨h1,d,e1,e,by simp⟩)⟩
   ·simp at h
  refine⟨fK _,_,by rw[aD];exact hc,rfl,?_⟩;conv=>whnf
  have fin:∀{σ':GS},pK c=none->Owes [] (.val (match wX a b with|some n=>.tup [.i .u64 n,.o .nilIface]|none=>.tup [.i .u64 0,.ifc 267 (.i .i64 2)])) [] (.val (.tup [.i .u64 0,.ifc 267 (.i .i64 2)])) σ':=fun e=>by
   rw[hno e];exact mN rfl (fun _=>rfl)
  have hlow:=Z6 c;have hcl:=bS c;repeat' first
   |(refine e6 (fun _=>?_) (fun _=>?_)<;>first|(exfalso;simp only[YB,VJ,aH,bR,bU,cY,ne_eq] at*;omega)|conv=>whnf)
   |(refine iY (XE c) (wR _) rfl (fun _=>rfl) (.i _ _) ?_;conv=>whnf)
  all_goals first
   |(refine fin ?_;unfold pK;simp only[YB,VJ,aH,bR,bU,cY,ne_eq] at*;(repeat' split)<;>first|rfl|(exfalso;omega))
   |skip
  all_goals
   have e:∃d,pK c=some d/\16*q.2+d<256:=by
    unfold pK;simp only[YB,VJ,aH,bR,bU,cY,ne_eq] at*
    (repeat' split)<;>first|exact⟨_,rfl,by omega⟩|(exfalso;omega)
   obtain⟨d,e,hd⟩:=e;refine⟨2 - (q.1+1),by show 2 - (q.1+1)<2 - q.1;omega,(q.1+1,16*q.2+d),hyes d e,rfl,⟨rfl,rfl,rfl,rfl,rfl,rfl,?_,rfl,rfl,cT (by omega),trivial⟩,rfl⟩;refine aJ (GV.i .u64) ?_;simp only[YB,VJ] at*;unfold pK at e;simp only[aH,bR,bU,cY,ne_eq] at*;have e':=e;split at e'
   ·cases e';omega
   ·split at e'
    ·split at e'
     ·cases e';omega
     ·cases e'
    ·cases e'
 ·obtain⟨h1,k1,e1,e2,rfl⟩:∃h k,pK a=some h/\pK b=some k/\q=(2,16*h+k):=by
   rcases hq with rfl|⟨h1,e1,rfl⟩|⟨h1,k1,e1,e2,rfl⟩
   ·simp at h
   ·simp at h
   ·exact⟨h1,k1,e1,e2,rfl⟩
  refine mN ?_ (fun _=>?_)
  ·simp only[wX,e1,e2];rfl
  ·simp only[wX,e1,e2];rfl
variable [Globals]
def IL (r:Nat) (ds:List GDef) (res:GRes) (σ':GS):GX->Fr->GS->Prop
 |.normal,_,σ2=>iF r ds none σ2=some (res,σ')
 |.ret,_,σ2=>iF r ds (some .ret) σ2=some (res,σ')
 |.exit id,_,σ2=>iF r ds (some (.exit id)) σ2=some (res,σ')
 |.panic _,_,_=>False
def IK (P:Program) (M:FuncId->Bool) (r n:Nat) (body:Code) (ds:List GDef) (res:GRes) (σ':GS):GX->Fr->GS->Prop
 |.normal,φ1,σ1=>match σ1.objs[r]? with
  |some (.loop .ready pe' n' φ' ps' asg' body' rd')=>lU σ1 r (.loop .busy pe' n' φ' ps' asg' body' rd') fun s=>OL P M (some r) n body φ1 s (IL r ds res σ')
  |_=>False
 |_,_,_=>False
theorem Fact.yld {P:Program} (M:FuncId->Bool) (hm:P.follows .mixedOrders=true) {r n rd:Nat} {pe:Option Code} {φ:Fr} {ps:Array Tmp} {asg body:Code} {σ σ':GS} {args:List GV} {res:GRes}
  (ho:σ.objs[r]?=some (.loop .ready pe n φ ps asg body rd)) (hlen:args.length=ps.size) (hps:ps.toList.all (fun t=>Nat.blt t n)=true) (hlo:σ.lo=0) (hh:σ.objs.all GObj.notHeld=true) (hsz:σ.objs.length<=σ'.objs.length) (hlo':σ'.lo=0) (hds:σ'.ds=σ.ds)
  (h:OL P M (some r) n asg ((ps.toList.zip args).foldl (fun φ p=>uL φ p.1 p.2) φ) {σ with ds:=[]} (IK P M r n body σ.ds res σ')):Fact P (.yld r) args σ res σ':=by
 have hnh:∀k:Nat,σ.objs[k]?≠some .held:=fun k hk=>by
  have:=List.all_eq_true.1 hh .held (List.mem_iff_getElem?.2 ⟨k,hk⟩);cases this
 have hps':∀t∈ps.toList,t<n:=fun t ht=>by
  have:=List.all_eq_true.1 hps t ht;simpa[Nat.blt_eq] using this
 refine⟨⟨by rw[hlo',hlo],hsz,fun _ k hk=>by omega,fun k hk=>absurd hk (hnh k)⟩,hds,fun w0 C w vs hr hv b hb=>?_⟩;obtain⟨h0,b',L,h1,h2,h3,h4,h5,h6,h7,h8,h9,h10⟩:=hr.obj r _ ho;rw[hb] at h1;cases h1;have hvs:vs.size=L.params.size:=by rw[h5,<-hlen];have:=hv.1;simpa using this
 refine⟨L.fn,_,L.assign,L.body,run_yield h2 hvs,?_⟩;obtain⟨q1,q2⟩:=yF ps.toList args vs.toList φ L.tmps hv hps' h9 h8;have etm:(L.params.zip vs).foldl (fun(tmps:Array Value) (x:Tmp×Value)=>tmps.setIfInBounds x.1 x.2) L.tmps=(ps.toList.zip vs.toList).foldl (fun(tmps:Array Value) p=>tmps.setIfInBounds p.1 p.2) L.tmps:=by
  rw[h5,<-Array.foldl_toList,Array.toList_zip]
 refine roundIn_of_wpIn (F:=Fence.wide) trivial ?_;rw[h6,h7];show Code.wpIn (FW (some b)) 0 P asg _ _ w;refine uA (ro:=some r) hm asg _ _ C (some b) _ _ _ w h hb (hr.ds _) (by rw[etm];exact q1) (by rw[etm];exact q2) trivial (fun x φ1 σ1 hk=>?_);cases x with
 |exit id=>exact hk.elim
 |ret=>exact hk.elim
 |panic g=>exact hk.elim
 |normal=>
 intro D a1 w1 hl hf1 hn1 hd1 hr1;simp only[IK] at hk;split at hk
 ·rename_i pe' n' φ' ps' asg' body' rd' ho1;have hk:=iU (K:=fun s=>OL P M (some r) n body φ1 s (IL r σ.ds res σ')) hk;have hbD:D.bk r=some b:=hl.bk _ _ hb;obtain⟨g0,b',L1,g1,g2,g3,g4,g5,g6,g7,g8,g9,g10⟩:=hr1.obj r _ ho1;rw[hbD] at g1;cases g1;have hlt:b<w1.heap.size:=(Array.getElem?_eq_some_iff.1 g2).1;refine⟨_,run_beginRound g2 g3,?_⟩;have hr2:Rel D (gset σ1 r (.loop .busy pe' n' φ' ps' asg' body' rd')) w0 (w1.putObj b (.loop {L1 with state:=.busy})):=
   hr1.putLoop (List.getElem?_eq_some_iff.1 ho1).1 hbD _ ⟨g0,b,_,hbD,World.putObj_heap_same hlt,rfl,g4,g5,g6,g7,g8,g9,g10⟩
  show Code.wpIn (FW (some b)) 0 P body _ _ _;refine uA (ro:=some r) hm body _ _ D (some b) _ _ _ _ hk hbD hr2 hf1 hn1 hd1 (fun x φ2 σ2 hend=>?_);intro E a2 w2 hE hf2 hn2 hd2 hr3;have done:∀{jump:Option Code},iF r σ.ds jump σ2=some (res,σ')->∃v w',(Instr.endRound b jump).run P w2=.ok v w'/\∃D,C.le D/\Rel D σ' w0 w'/\ERel D res (.returned v):=fun{jump} he=>by
   by_cases hlo2:σ2.lo<=r
   ·obtain⟨v,w3,p1,F,p2,p3,p4⟩:=(nB (P:=P) (w0:=w0) (C:=E) (b:=b) (w:=w2) hlo2 he).2.2 hr3 (hE.bk _ _ hbD);exact⟨v,w3,p1,F,(hl.trans hE).trans p2,p3,p4⟩
   ·exfalso;unfold iF at he;split at he
    ·cases he;have:σ2.lo=0:=hlo';omega
    ·cases he
  cases x with
  |normal=>obtain⟨v,w3,p1,p2⟩:=done hend;exact⟨v,w3,p1,p2⟩
  |ret=>obtain⟨v,w3,p1,p2⟩:=done hend;exact⟨v,w3,p1,p2⟩
  |exit id=>obtain⟨v,w3,p1,p2⟩:=done hend;exact⟨v,w3,p1,p2⟩
  |panic g=>exact hend.elim
 ·exact hk.elim
theorem xJ {P:Program} {M:FuncId->Bool} {r:Nat} {args:List GV} {res:GRes} {σ σ':GS} {K:GRes->GS->Prop} (h:Fact P (.yld r) args σ res σ') (hk:K res σ') (hD:kK M=false:=by rfl):iC P M (.yld r) args σ K:=⟨res,σ',h,(fun k e=>by rcases e with e|e;cases e;rw[hD] at e;cases e),hk⟩
theorem QY {N i:Nat}:iB (List.range N) N i=i:=by
 by_cases h:i<N
 ·rw[jD (by simpa using h)];simp
 ·rw[tM (by simp;omega)];simp;omega
theorem HU {N:Nat}:iB (List.range N) N=id:=funext fun i=>QY
mutual
theorem GV.ren_id:∀g:GV,g.ren id=g
 |.agg cs=>by rw[GV.ren,GV.renL_id cs]
 |.tup cs=>by rw[GV.ren,GV.renL_id cs]
 |.ifc t g=>by rw[GV.ren,GV.ren_id g]
 |.fn k a c=>by rw[GV.ren,GV.renL_id a,GV.renL_id c]
 |.sl k xs=>by rw[GV.ren,GV.renL_id xs];cases k<;>rfl
 |.ptr r off=>rfl
 |.snap cs off=>by rw[GV.ren,GV.renL_id cs]
 |.mp r=>rfl
 |.rs r off esz n c=>rfl
 |.yld r=>rfl
 |.dat r cs=>by rw[GV.ren,GV.renL_id cs];rfl
 |.glb g off=>rfl
 |.b t=>rfl
 |.i k n=>rfl
 |.s l=>rfl
 |.o v=>rfl
 |.any=>rfl
theorem GV.renL_id:∀l:List GV,GV.renL id l=l
 |[]=>rfl
 |x::xs=>by rw[GV.renL,GV.ren_id x,GV.renL_id xs]
end
theorem B8 (l:List GV):l.map (GV.ren id)=l:=by rw[<-bX,GV.renL_id]
theorem GObj.ren_id (x:GObj):x.ren id=x:=by
 cases x with
 |box T cs=>show GObj.box T (cs.map (GV.ren id))=_;rw[B8]
 |mp es=>show GObj.mp (es.map fun e=>(e.1.ren id,e.2.ren id))=_;simp[GV.ren_id]
 |mx es bs clk=>show GObj.mx (es.map fun e=>(e.1.ren id,e.2.ren id)) bs clk=_;simp[GV.ren_id]
 |it m since seen last=>show GObj.it (m.map id) since seen last=_;simp
 |loop st pe n φ ps asg body rd=>show GObj.loop st pe n (fun t=>(φ t).ren id) ps asg body rd=_;simp[GV.ren_id]
 |_=>rfl
theorem Lies.all (s:List GObj) (hh:∀x∈s,x≠ .held):Lies (List.range s.length) s s:=
 ⟨List.nodup_range,by simp,fun i k x h1 h2=>by
  rw[HU,GObj.ren_id];obtain⟨h3,h4⟩:=List.getElem?_eq_some_iff.1 h1;simp at h4;subst h4;exact h2,hh⟩
theorem GRes.ren_id (r:GRes):r.ren id=r:=by cases r<;>(simp only[GRes.ren];rw[GV.ren_id])
theorem IV {s s':List GObj} (h:s.length<=s'.length):hY (List.range s.length) s' s=s':=by
 apply cK;intro r;rw[iR (fun k hk=>by simpa using hk) (by simpa using h),HU];unfold fU;by_cases hr:r<s.length
 ·rw[aA hr];have:(List.range s.length).idxOf? r=some r:=wS List.nodup_range (by simp[hr]);rw[this];show Option.map (GObj.ren id) s'[r]?=s'[r]?;cases s'[r]? with
  |none=>rfl
  |some x=>rw[aT,GObj.ren_id]
 ·rw[aB hr];simp only[List.length_range];rw[show s.length+(r - s.length)=r by omega];cases s'[r]? with
  |none=>rfl
  |some x=>rw[aT,GObj.ren_id]
theorem SC.factAll {P:Program} {k:FuncId} {args:List GV} {s s':List GObj} {r:GRes} {σ:GS} (h:SC P k args s r s') (hs:σ.objs=s) (hlo:σ.lo=0) (hh:∀x∈s,x≠ .held):Fact P (.fn k) args σ r {σ with objs:=s'}:=by
 have:=h.fact (σ:=σ) (args':=args) (List.range s.length) (by rw[hs];exact Lies.all s hh) hlo (by rw[hs,HU,B8];exact .refl _);rw[hs,HU,GRes.ren_id,IV h.len] at this;exact this
end
