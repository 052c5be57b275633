/- Walks of the small functions of package token, and of token.run. -/
import Derived.Test.YtdlbhiaceheffabGreatDoorProg
import Derived.WalkKit
import Derived.Lib.Hide
import Derived.Shelf.Strings.Builder1
import Derived.Shelf.Strings.Builder2
import Derived.Shelf.Strings.OnBuilder
import Derived.Shelf.Small.Bits
import Derived.Shelf.Small.Strs
import Derived.Shelf.Small.Wraps
import Derived.Shelf.Strings.BuilderF
import Derived.Shelf.Strings.BuilderK
import Derived.Shelf.Strconv.Atoi
import Derived.Shelf.Strconv.Itoa0
import Derived.Shelf.Strconv.Itoa1
import Derived.Shelf.LaysM
import Derived.Shelf.Strconv.Itoa2
import Derived.Shelf.Strconv.Itoa3
import Derived.Shelf.Strings.Search1
import Derived.Shelf.Strings.Prefix
import Derived.Shelf.Bits.Mul64
import Derived.Shelf.Strings.Repeat
import Derived.Shelf.Slices.Turned
import Derived.BigQuiet
import Derived.Deep.QuietTactic
import Derived.Test.YtdlbhiaceheffabGreatDoorTie
import Derived.Lib.LaidIn
import Derived.Lib.LaidU8
import Derived.Lib.LaidPrint
import Derived.Deep.DeepHandedRow
import Derived.Deep.DeepWitnessRowRef
import Derived.ProofKit
import Derived.SizedLaws
import Derived.SliceStrings
import Derived.BigRegion
import Derived.Deep.RegionWith
import Derived.Test.YtdlbhiaceheffabGreatDoorC01
import Derived.Test.YtdlbhiaceheffabGreatDoorCards
set_option linter.all false
set_option maxRecDepth 100000
namespace Go.Proofs.YtdlbhiaceheffabGreatDoor
open Go Go.RowKit Ty Tok Tryz Proofs.Tryz
theorem ll{R:EW}{v v':Value}{w:World}(h:R (.returned v') w)(e:v=v'):R (.returned v) w:=e▸h
theorem jJ(c:UInt8)(w:World){R:EW}(hR:R (.returned (.bool (Tok.isDigit c))) w):
  Calls prog 202 #[.int .u8 (c.toNat:Int)] w R:=by
 go_in;go_wp2;all_goals
  refine ll hR (congrArg Value.bool ?_);rw[Bool.eq_iff_iff];simp[Tok.isDigit];try omega
theorem iS(c:UInt8)(w:World){R:EW}(hR:R (.returned (.bool (cJ c))) w):
  Calls prog 200 #[.int .u8 (c.toNat:Int)] w R:=by
 go_in;go_wp2;all_goals
  refine ll hR (congrArg Value.bool ?_);rw[Bool.eq_iff_iff];simp[cJ];try omega
theorem K9(c:UInt8)(w:World){R:EW}(hR:R (.returned (.bool (c_ c))) w):
  Calls prog 275 #[.int .u8 (c.toNat:Int)] w R:=by
 by_cases h:cJ c=true;all_goals
  try rw[Bool.not_eq_true]at h
  go_in;go_wp2_with(first|(go_at_call 200;refine iS _ _ ?_)|(go_at_call 202;refine jJ _ _ ?_));refine ll hR (congrArg Value.bool ?_);simp[c_,h]
theorem K5(c:UInt8)(w:World){R:EW}(hR:R (.returned (.bool (cM c))) w):
  Calls prog 277 #[.int .u8 (c.toNat:Int)] w R:=by
 go_in;go_wp2;all_goals
  refine ll hR (congrArg Value.bool ?_);rw[Bool.eq_iff_iff];simp[cM];try omega
theorem AB(F:FuncId)(p:UInt8->Bool)(hc:∀(args:Array Value)(w:World),(callFunc F args).run prog w=.ok (.enter F args) w)
  (hf:∀(c:UInt8)(w:World){R:EW},R (.returned (.bool (p c))) w->Calls prog F #[.int .u8 (c.toNat:Int)] w R)
  (s:BA) (at':Nat) (hs:s.size<=4000) (ha:at'<=s.size) (w:World) (a:Int) (aeg:a=(at':Int)) {R:EW} (hR:R (.returned (.string (s.extract at' (Tok.stop p s at')))) w):
  Calls prog 274 #[.string s,.int .i64 a,.func (.func F) #[] #[]] w R:=by
 subst aeg;have HF:=qh @hf;go_in;go_wp2_with fail;go_loop [7] (λi=>∃k:Nat,at'<=k/\k<=s.size/\i=.int .i64 k/\Tok.stop p s k=Tok.stop p s at') (λi=>s.size-(intOf i).toNat)
 case atStart=>exact⟨at',nR _,ha,rfl,rfl⟩
 case round=>
  obtain⟨k,CZ,qR,rfl,he⟩:=hrel;by_cases bz:k<s.size
  ·go_wp2_with(with_reducible refine HF.o _ _ ?_)
   ·have hp:p s[k]=true:=by assumption
    go_round
    case rel=>exact⟨k+1,by omega,by omega,by go_num,by rw[pU bz hp,he]⟩
    case measure=>simp[intOf];omega
   ·have hp:p s[k]=false:=by assumption
    refine ll hR ?_;rw[<-he,J9 bz hp]<;>rfl
  ·go_wp2_with fail;refine ll hR ?_;rw[<-he,M_ (by omega)]<;>rfl
end Go.Proofs.YtdlbhiaceheffabGreatDoor
namespace Go.Proofs
open Go.Shelf
def Tryz.lays156_ren:Go.Shelf.Ren:=⟨λ|156=>183|165=>125|166=>122|169=>38|240=>188|241=>192|276=>268|277=>269|n=>n,λ|31=>161|9=>9|3=>3|4=>4|0=>0|20=>20|72=>74|76=>185|70=>71|37=>72|75=>184|127=>133|164=>268|5=>5|80=>79|n=>n,λ|n=>n⟩
theorem Tryz.lays156:Go.Proofs.Lays.n156 Tryz.prog Tryz.lays156_ren:={
 mixed:=by kernel_rfl
 f156:=Tryz.func183.trans (congrArg some (by kernel_rfl))
 f165:=Tryz.func125.trans (congrArg some (by kernel_rfl))
 f166:=Tryz.func122.trans (congrArg some (by kernel_rfl))
 f169:=Tryz.func38.trans (congrArg some (by kernel_rfl))
 f240:=Tryz.func188.trans (congrArg some (by kernel_rfl))
 f241:=Tryz.func192.trans (congrArg some (by kernel_rfl))
 f276:=Tryz.func268.trans (congrArg some (by kernel_rfl))
 f277:=Tryz.func269.trans (congrArg some (by kernel_rfl))
 t0:=Tryz.underlying0
 a0:=Tryz.isAgg0
 z0:=Tryz.sizeOf0
 v0:=Tryz.zeroValue0
 t3:=Tryz.underlying3
 a3:=Tryz.isAgg3
 z3:=Tryz.sizeOf3
 v3:=Tryz.zeroValue3
 t4:=Tryz.underlying4
 a4:=Tryz.isAgg4
 z4:=Tryz.sizeOf4
 v4:=Tryz.zeroValue4
 t9:=Tryz.underlying9
 a9:=Tryz.isAgg9
 z9:=Tryz.sizeOf9
 v9:=Tryz.zeroValue9
 t20:=Tryz.underlying20
 a20:=Tryz.isAgg20
 z20:=Tryz.sizeOf20
 v20:=Tryz.zeroValue20
 t31:=Tryz.underlying161
 a31:=Tryz.isAgg161
 z31:=Tryz.sizeOf161
 v31:=Tryz.zeroValue161
 t37:=Tryz.underlying72
 a37:=Tryz.isAgg72
 z37:=Tryz.sizeOf72
 v37:=Tryz.zeroValue72
 t70:=Tryz.underlying71
 a70:=Tryz.isAgg71
 z70:=Tryz.sizeOf71
 v70:=Tryz.zeroValue71
 t72:=Tryz.underlying74
 a72:=Tryz.isAgg74
 z72:=Tryz.sizeOf74
 v72:=Tryz.zeroValue74
 t75:=Tryz.underlying184
 a75:=Tryz.isAgg184
 z75:=Tryz.sizeOf184
 v75:=Tryz.zeroValue184
 t76:=Tryz.underlying185
 a76:=Tryz.isAgg185
 z76:=Tryz.sizeOf185
 v76:=Tryz.zeroValue185
 t127:=Tryz.underlying133
 a127:=Tryz.isAgg133
 z127:=Tryz.sizeOf133
 v127:=Tryz.zeroValue133
 t164:=Tryz.underlying268
 a164:=Tryz.isAgg268
 z164:=Tryz.sizeOf268
 v164:=Tryz.zeroValue268}
theorem Tryz.Builder_Extra_156:Builder.Extra Tryz.prog Tryz.lays156_ren:={
 sizeBuilder:=by kernel_rfl
 liesBuilder:=by kernel_rfl
 t5:=Tryz.underlying5
 a5:=Tryz.isAgg5
 z5:=Tryz.sizeOf5
 v5:=Tryz.zeroValue5
 infoByte:=by kernel_rfl
 cellsByte:=by kernel_rfl
 sizeByte:=by kernel_rfl
 neB5:=by decide}
open Go.RowKit in
theorem Tryz.strings_Join_none(a:Option Addr)(c:Nat)(sep:ByteArray)(w:World):
  Calls Tryz.prog 183 #[.slice a 0 c,.string sep] w λe w'=>e=.returned (.string ⟨#[]⟩)/\w'=w:=Any.strings_Join_none Tryz.lays156 Tryz.Builder_Extra_156 a c sep w
open Go.RowKit in
theorem Tryz.strings_Join(bk o c:Nat)(xs:List ByteArray)(sep:ByteArray)(w:World)(hcells:∀(j:Nat) x,xs[j]?=some x->w.cell? ⟨bk,o+j,none⟩=some (.string x))(hbk:bk<w.heap.size)(hN:xs.length<=140737488355328)(hcap:xs.length<=c)(hlen: (Lib.join (xs.map (·.data.toList)) sep.data.toList).length<=140737488355328):
  Calls Tryz.prog 183 #[.slice (some ⟨bk,o,none⟩) xs.length c,.string sep] w λe w'=>e=.returned (.string ⟨(Lib.join (xs.map (·.data.toList)) sep.data.toList).toArray⟩)/\Below w.heap.size w w':=Any.strings_Join Tryz.lays156 Tryz.Builder_Extra_156 bk o c xs sep w hcells hbk hN hcap hlen
def Tryz.lays137_ren:Go.Shelf.Ren:=⟨λ|137=>278|217=>316|266=>333|n=>n,λ|9=>9|5=>5|3=>3|n=>n,λ|n=>n⟩
theorem Tryz.lays137:Go.Proofs.Lays.n137 Tryz.prog Tryz.lays137_ren:={
 mixed:=by kernel_rfl
 f137:=Tryz.func278.trans (congrArg some (by kernel_rfl))
 f217:=Tryz.func316.trans (congrArg some (by kernel_rfl))
 f266:=Tryz.func333.trans (congrArg some (by kernel_rfl))
 t3:=Tryz.underlying3
 a3:=Tryz.isAgg3
 z3:=Tryz.sizeOf3
 v3:=Tryz.zeroValue3
 t5:=Tryz.underlying5
 a5:=Tryz.isAgg5
 z5:=Tryz.sizeOf5
 v5:=Tryz.zeroValue5
 t9:=Tryz.underlying9
 a9:=Tryz.isAgg9
 z9:=Tryz.sizeOf9
 v9:=Tryz.zeroValue9}
open Go.RowKit in
theorem Tryz.strings_IndexByte(s:ByteArray)(c:Int)(w:World):
  Calls Tryz.prog 278 #[.string s,.int .u8 c] w λe w'=>e=.returned (.int .i64 (Lib.indexByte s.data.toList c.toNat.toUInt8))/\w'=w:=Any.strings_IndexByte Tryz.lays137 s c w
def Tryz.lays214_ren:Go.Shelf.Ren:=⟨λ|214=>271|n=>n,λ|4=>4|9=>9|n=>n,λ|n=>n⟩
def Tryz.lays121_ren:Go.Shelf.Ren:=⟨λ|121=>194|214=>271|n=>n,λ|4=>4|9=>9|n=>n,λ|n=>n⟩
theorem Tryz.lays121:Go.Proofs.Lays.n121 Tryz.prog Tryz.lays121_ren:={
 mixed:=by kernel_rfl
 f121:=Tryz.func194.trans (congrArg some (by kernel_rfl))
 f214:=Tryz.func271.trans (congrArg some (by kernel_rfl))
 t4:=Tryz.underlying4
 a4:=Tryz.isAgg4
 z4:=Tryz.sizeOf4
 v4:=Tryz.zeroValue4
 t9:=Tryz.underlying9
 a9:=Tryz.isAgg9
 z9:=Tryz.sizeOf9
 v9:=Tryz.zeroValue9}
open Go.RowKit in
theorem Tryz.strconv_FormatBool(b:Bool)(w:World):
  Calls Tryz.prog 194 #[.bool b] w λe w'=>e=.returned (.string ⟨(Lib.formatBool b).toArray⟩)/\w'=w:=Any.strconv_FormatBool Tryz.lays121 b w
def Tryz.lays172_ren:Go.Shelf.Ren:=⟨λ|172=>345|244=>354|245=>355|247=>360|279=>361|280=>362|281=>363|282=>364|287=>365|316=>366|171=>193|205=>367|321=>368|322=>369|243=>270|246=>315|283=>329|284=>330|285=>331|286=>332|129=>151|317=>339|318=>340|319=>341|320=>342|337=>352|338=>353|n=>n,λ|9=>9|3=>3|75=>184|76=>185|4=>4|5=>5|167=>317|37=>72|0=>0|85=>318|2=>2|168=>320|53=>211|175=>323|46=>158|210=>327|127=>133|145=>332|143=>330|21=>21|171=>301|173=>303|212=>308|51=>209|20=>20|213=>309|232=>315|233=>316|80=>79|n=>n,λ|15=>5|16=>6|17=>2|18=>3|19=>4|n=>n⟩
theorem Tryz.lays172:Go.Proofs.Lays.n172 Tryz.prog Tryz.lays172_ren:={
 mixed:=by kernel_rfl
 f129:=Tryz.func151.trans (congrArg some (by kernel_rfl))
 f171:=Tryz.func193.trans (congrArg some (by kernel_rfl))
 f172:=Tryz.func345.trans (congrArg some (by kernel_rfl))
 f205:=Tryz.func367.trans (congrArg some (by kernel_rfl))
 f243:=Tryz.func270.trans (congrArg some (by kernel_rfl))
 f244:=Tryz.func354.trans (congrArg some (by kernel_rfl))
 f245:=Tryz.func355.trans (congrArg some (by kernel_rfl))
 f246:=Tryz.func315.trans (congrArg some (by kernel_rfl))
 f247:=Tryz.func360.trans (congrArg some (by kernel_rfl))
 f279:=Tryz.func361.trans (congrArg some (by kernel_rfl))
 f280:=Tryz.func362.trans (congrArg some (by kernel_rfl))
 f281:=Tryz.func363.trans (congrArg some (by kernel_rfl))
 f282:=Tryz.func364.trans (congrArg some (by kernel_rfl))
 f283:=Tryz.func329.trans (congrArg some (by kernel_rfl))
 f284:=Tryz.func330.trans (congrArg some (by kernel_rfl))
 f285:=Tryz.func331.trans (congrArg some (by kernel_rfl))
 f286:=Tryz.func332.trans (congrArg some (by kernel_rfl))
 f287:=Tryz.func365.trans (congrArg some (by kernel_rfl))
 f316:=Tryz.func366.trans (congrArg some (by kernel_rfl))
 f317:=Tryz.func339.trans (congrArg some (by kernel_rfl))
 f318:=Tryz.func340.trans (congrArg some (by kernel_rfl))
 f319:=Tryz.func341.trans (congrArg some (by kernel_rfl))
 f320:=Tryz.func342.trans (congrArg some (by kernel_rfl))
 f321:=Tryz.func368.trans (congrArg some (by kernel_rfl))
 f322:=Tryz.func369.trans (congrArg some (by kernel_rfl))
 f337:=Tryz.func352.trans (congrArg some (by kernel_rfl))
 f338:=Tryz.func353.trans (congrArg some (by kernel_rfl))
 t0:=Tryz.underlying0
 a0:=Tryz.isAgg0
 z0:=Tryz.sizeOf0
 v0:=Tryz.zeroValue0
 t2:=Tryz.underlying2
 a2:=Tryz.isAgg2
 z2:=Tryz.sizeOf2
 v2:=Tryz.zeroValue2
 t3:=Tryz.underlying3
 a3:=Tryz.isAgg3
 z3:=Tryz.sizeOf3
 v3:=Tryz.zeroValue3
 t4:=Tryz.underlying4
 a4:=Tryz.isAgg4
 z4:=Tryz.sizeOf4
 v4:=Tryz.zeroValue4
 t5:=Tryz.underlying5
 a5:=Tryz.isAgg5
 z5:=Tryz.sizeOf5
 v5:=Tryz.zeroValue5
 t9:=Tryz.underlying9
 a9:=Tryz.isAgg9
 z9:=Tryz.sizeOf9
 v9:=Tryz.zeroValue9
 t20:=Tryz.underlying20
 a20:=Tryz.isAgg20
 z20:=Tryz.sizeOf20
 v20:=Tryz.zeroValue20
 t21:=Tryz.underlying21
 a21:=Tryz.isAgg21
 z21:=Tryz.sizeOf21
 v21:=Tryz.zeroValue21
 t37:=Tryz.underlying72
 a37:=Tryz.isAgg72
 z37:=Tryz.sizeOf72
 v37:=Tryz.zeroValue72
 t46:=Tryz.underlying158
 a46:=Tryz.isAgg158
 z46:=Tryz.sizeOf158
 v46:=Tryz.zeroValue158
 t51:=Tryz.underlying209
 a51:=Tryz.isAgg209
 z51:=Tryz.sizeOf209
 v51:=Tryz.zeroValue209
 t53:=Tryz.underlying211
 a53:=Tryz.isAgg211
 z53:=Tryz.sizeOf211
 v53:=Tryz.zeroValue211
 t75:=Tryz.underlying184
 a75:=Tryz.isAgg184
 z75:=Tryz.sizeOf184
 v75:=Tryz.zeroValue184
 t76:=Tryz.underlying185
 a76:=Tryz.isAgg185
 z76:=Tryz.sizeOf185
 v76:=Tryz.zeroValue185
 t85:=Tryz.underlying318
 a85:=Tryz.isAgg318
 z85:=Tryz.sizeOf318
 v85:=Tryz.zeroValue318
 t127:=Tryz.underlying133
 a127:=Tryz.isAgg133
 z127:=Tryz.sizeOf133
 v127:=Tryz.zeroValue133
 t143:=Tryz.underlying330
 a143:=Tryz.isAgg330
 z143:=Tryz.sizeOf330
 v143:=Tryz.zeroValue330
 t145:=Tryz.underlying332
 a145:=Tryz.isAgg332
 z145:=Tryz.sizeOf332
 v145:=Tryz.zeroValue332
 t167:=Tryz.underlying317
 a167:=Tryz.isAgg317
 z167:=Tryz.sizeOf317
 v167:=Tryz.zeroValue317
 t168:=Tryz.underlying320
 a168:=Tryz.isAgg320
 z168:=Tryz.sizeOf320
 v168:=Tryz.zeroValue320
 t171:=Tryz.underlying301
 a171:=Tryz.isAgg301
 z171:=Tryz.sizeOf301
 v171:=Tryz.zeroValue301
 t173:=Tryz.underlying303
 a173:=Tryz.isAgg303
 z173:=Tryz.sizeOf303
 v173:=Tryz.zeroValue303
 t175:=Tryz.underlying323
 a175:=Tryz.isAgg323
 z175:=Tryz.sizeOf323
 v175:=Tryz.zeroValue323
 t210:=Tryz.underlying327
 a210:=Tryz.isAgg327
 z210:=Tryz.sizeOf327
 v210:=Tryz.zeroValue327
 t212:=Tryz.underlying308
 a212:=Tryz.isAgg308
 z212:=Tryz.sizeOf308
 v212:=Tryz.zeroValue308
 t213:=Tryz.underlying309
 a213:=Tryz.isAgg309
 z213:=Tryz.sizeOf309
 t232:=Tryz.underlying315
 a232:=Tryz.isAgg315
 z232:=Tryz.sizeOf315
 v232:=Tryz.zeroValue315
 t233:=Tryz.underlying316
 a233:=Tryz.isAgg316
 z233:=Tryz.sizeOf316
 v233:=Tryz.zeroValue316
 g15:=by kernel_rfl
 g16:=by kernel_rfl
 g17:=by kernel_rfl
 g18:=by kernel_rfl
 g19:=by kernel_rfl}
open Go.RowKit in
theorem Tryz.strconv_Atoi(s:ByteArray)(n:Int)(hl:s.size<=18)(h:Lib.atoi s.data.toList=some n)(w:World):
  Calls Tryz.prog 345 #[.string s] w λe w'=>e=.returned (.tuple #[.int .i64 n,.nilIface])/\∃t,w'=Lib.bytesWorld w 5 t:=Any.strconv_Atoi Tryz.lays172 s n hl h w
def Tryz.laysM246_ren:Go.Shelf.Ren:=⟨λ|246=>315|283=>329|284=>330|285=>331|286=>332|129=>151|317=>339|318=>340|319=>341|320=>342|337=>352|338=>353|n=>n,λ|2=>2|3=>3|9=>9|4=>4|171=>301|0=>0|53=>211|37=>72|5=>5|173=>303|212=>308|51=>209|20=>20|213=>309|46=>158|232=>315|233=>316|n=>n,λ|17=>2|18=>3|19=>4|n=>n⟩
def Tryz.laysM243_ren:Go.Shelf.Ren:=⟨λ|243=>270|246=>315|283=>329|284=>330|285=>331|286=>332|129=>151|317=>339|318=>340|319=>341|320=>342|337=>352|338=>353|n=>n,λ|3=>3|9=>9|2=>2|4=>4|171=>301|0=>0|53=>211|37=>72|5=>5|173=>303|212=>308|51=>209|20=>20|213=>309|46=>158|232=>315|233=>316|n=>n,λ|17=>2|18=>3|19=>4|n=>n⟩
def Tryz.laysM171_ren:Go.Shelf.Ren:=⟨λ|171=>193|243=>270|246=>315|283=>329|284=>330|285=>331|286=>332|129=>151|317=>339|318=>340|319=>341|320=>342|337=>352|338=>353|n=>n,λ|3=>3|9=>9|2=>2|4=>4|171=>301|0=>0|53=>211|37=>72|5=>5|173=>303|212=>308|51=>209|20=>20|213=>309|46=>158|232=>315|233=>316|n=>n,λ|17=>2|18=>3|19=>4|n=>n⟩
theorem Tryz.laysM171:Go.Proofs.LaysM.n171 Tryz.prog Tryz.laysM171_ren:={
 mixed:=by kernel_rfl
 f129:=Tryz.func151.trans (congrArg some (by kernel_rfl))
 f171:=Tryz.func193.trans (congrArg some (by kernel_rfl))
 f243:=Tryz.func270.trans (congrArg some (by kernel_rfl))
 f246:=Tryz.func315.trans (congrArg some (by kernel_rfl))
 f283:=Tryz.func329.trans (congrArg some (by kernel_rfl))
 f284:=Tryz.func330.trans (congrArg some (by kernel_rfl))
 f285:=Tryz.func331.trans (congrArg some (by kernel_rfl))
 f286:=Tryz.func332.trans (congrArg some (by kernel_rfl))
 f317:=Tryz.func339.trans (congrArg some (by kernel_rfl))
 f318:=Tryz.func340.trans (congrArg some (by kernel_rfl))
 f319:=Tryz.func341.trans (congrArg some (by kernel_rfl))
 f320:=Tryz.func342.trans (congrArg some (by kernel_rfl))
 f337:=Tryz.func352.trans (congrArg some (by kernel_rfl))
 f338:=Tryz.func353.trans (congrArg some (by kernel_rfl))
 t0:=Tryz.underlying0
 a0:=Tryz.isAgg0
 z0:=Tryz.sizeOf0
 v0:=Tryz.zeroValue0
 t2:=Tryz.underlying2
 a2:=Tryz.isAgg2
 z2:=Tryz.sizeOf2
 v2:=Tryz.zeroValue2
 t3:=Tryz.underlying3
 a3:=Tryz.isAgg3
 z3:=Tryz.sizeOf3
 v3:=Tryz.zeroValue3
 t4:=Tryz.underlying4
 a4:=Tryz.isAgg4
 z4:=Tryz.sizeOf4
 v4:=Tryz.zeroValue4
 t5:=Tryz.underlying5
 a5:=Tryz.isAgg5
 z5:=Tryz.sizeOf5
 v5:=Tryz.zeroValue5
 t9:=Tryz.underlying9
 a9:=Tryz.isAgg9
 z9:=Tryz.sizeOf9
 v9:=Tryz.zeroValue9
 t20:=Tryz.underlying20
 a20:=Tryz.isAgg20
 z20:=Tryz.sizeOf20
 v20:=Tryz.zeroValue20
 t37:=Tryz.underlying72
 a37:=Tryz.isAgg72
 z37:=Tryz.sizeOf72
 v37:=Tryz.zeroValue72
 t46:=Tryz.underlying158
 a46:=Tryz.isAgg158
 z46:=Tryz.sizeOf158
 v46:=Tryz.zeroValue158
 t51:=Tryz.underlying209
 a51:=Tryz.isAgg209
 z51:=Tryz.sizeOf209
 v51:=Tryz.zeroValue209
 t53:=Tryz.underlying211
 a53:=Tryz.isAgg211
 z53:=Tryz.sizeOf211
 v53:=Tryz.zeroValue211
 t171:=Tryz.underlying301
 a171:=Tryz.isAgg301
 z171:=Tryz.sizeOf301
 v171:=Tryz.zeroValue301
 t173:=Tryz.underlying303
 a173:=Tryz.isAgg303
 z173:=Tryz.sizeOf303
 v173:=Tryz.zeroValue303
 t212:=Tryz.underlying308
 a212:=Tryz.isAgg308
 z212:=Tryz.sizeOf308
 v212:=Tryz.zeroValue308
 t213:=Tryz.underlying309
 a213:=Tryz.isAgg309
 z213:=Tryz.sizeOf309
 t232:=Tryz.underlying315
 a232:=Tryz.isAgg315
 z232:=Tryz.sizeOf315
 v232:=Tryz.zeroValue315
 t233:=Tryz.underlying316
 a233:=Tryz.isAgg316
 z233:=Tryz.sizeOf316
 v233:=Tryz.zeroValue316
 g17:=by kernel_rfl
 g18:=by kernel_rfl
 g19:=by kernel_rfl
 i0:=by kernel_rfl
 i2:=by kernel_rfl
 i3:=by kernel_rfl
 i4:=by kernel_rfl
 i5:=by kernel_rfl
 i9:=by kernel_rfl
 i20:=by kernel_rfl
 i37:=by kernel_rfl
 i46:=by kernel_rfl
 i51:=by kernel_rfl
 i53:=by kernel_rfl
 i171:=by kernel_rfl
 i173:=by kernel_rfl
 i212:=by kernel_rfl
 i232:=by kernel_rfl
 i233:=by kernel_rfl
 m17:=by kernel_rfl
 m18:=by kernel_rfl
 m19:=by kernel_rfl}
open Go.RowKit Go.Sort Go.Lib in
theorem Tryz.strconv_Itoa(n:Int)(h0: -9223372036854775808<=n)(h1:n<=9223372036854775807)(w:World)(htab:Lib.TabIs Tryz.prog w "internal/strconv.uint64pow10" .u64 Lib.pow10Tab):
  Calls Tryz.prog 193 #[.int .i64 n] w λe w'=>e=.returned (.string ⟨(Lib.itoa n).toArray⟩)/\∃k os,w'=grow (w.drewN k) os:=Any.strconv_Itoa Tryz.laysM171 n h0 h1 w htab
def Tryz.lays206_ren:Go.Shelf.Ren:=⟨λ|206=>191|n=>n,λ|9=>9|4=>4|3=>3|n=>n,λ|n=>n⟩
def Tryz.lays99_ren:Go.Shelf.Ren:=⟨λ|99=>124|206=>191|n=>n,λ|9=>9|4=>4|3=>3|n=>n,λ|n=>n⟩
theorem Tryz.lays99:Go.Proofs.Lays.n99 Tryz.prog Tryz.lays99_ren:={
 mixed:=by kernel_rfl
 f99:=Tryz.func124.trans (congrArg some (by kernel_rfl))
 f206:=Tryz.func191.trans (congrArg some (by kernel_rfl))
 t3:=Tryz.underlying3
 a3:=Tryz.isAgg3
 z3:=Tryz.sizeOf3
 v3:=Tryz.zeroValue3
 t4:=Tryz.underlying4
 a4:=Tryz.isAgg4
 z4:=Tryz.sizeOf4
 v4:=Tryz.zeroValue4
 t9:=Tryz.underlying9
 a9:=Tryz.isAgg9
 z9:=Tryz.sizeOf9
 v9:=Tryz.zeroValue9}
open Go.RowKit Go.Lib in
theorem Tryz.strings_HasPrefix(s p:ByteArray)(w:World):
  Calls Tryz.prog 124 #[.string s,.string p] w λe w'=>e=.returned (.bool (Lib.hasPrefix s.data.toList p.data.toList))/\w'=w:=Any.strings_HasPrefix Tryz.lays99 s p w
def Tryz.lays105_ren:Go.Shelf.Ren:=⟨λ|105=>68|212=>123|99=>124|165=>125|166=>122|170=>37|169=>38|263=>189|264=>190|206=>191|240=>188|241=>192|276=>268|277=>269|n=>n,λ|9=>9|3=>3|4=>4|20=>20|0=>0|46=>158|109=>187|5=>5|72=>74|76=>185|51=>209|146=>230|53=>211|148=>232|70=>71|37=>72|75=>184|127=>133|164=>268|80=>79|n=>n,λ|n=>n⟩
theorem Tryz.lays105:Go.Proofs.Lays.n105 Tryz.prog Tryz.lays105_ren:={
 mixed:=by kernel_rfl
 f99:=Tryz.func124.trans (congrArg some (by kernel_rfl))
 f105:=Tryz.func68.trans (congrArg some (by kernel_rfl))
 f165:=Tryz.func125.trans (congrArg some (by kernel_rfl))
 f166:=Tryz.func122.trans (congrArg some (by kernel_rfl))
 f169:=Tryz.func38.trans (congrArg some (by kernel_rfl))
 f170:=Tryz.func37.trans (congrArg some (by kernel_rfl))
 f206:=Tryz.func191.trans (congrArg some (by kernel_rfl))
 f212:=Tryz.func123.trans (congrArg some (by kernel_rfl))
 f240:=Tryz.func188.trans (congrArg some (by kernel_rfl))
 f241:=Tryz.func192.trans (congrArg some (by kernel_rfl))
 f263:=Tryz.func189.trans (congrArg some (by kernel_rfl))
 f264:=Tryz.func190.trans (congrArg some (by kernel_rfl))
 f276:=Tryz.func268.trans (congrArg some (by kernel_rfl))
 f277:=Tryz.func269.trans (congrArg some (by kernel_rfl))
 t0:=Tryz.underlying0
 a0:=Tryz.isAgg0
 z0:=Tryz.sizeOf0
 v0:=Tryz.zeroValue0
 t3:=Tryz.underlying3
 a3:=Tryz.isAgg3
 z3:=Tryz.sizeOf3
 v3:=Tryz.zeroValue3
 t4:=Tryz.underlying4
 a4:=Tryz.isAgg4
 z4:=Tryz.sizeOf4
 v4:=Tryz.zeroValue4
 t5:=Tryz.underlying5
 a5:=Tryz.isAgg5
 z5:=Tryz.sizeOf5
 v5:=Tryz.zeroValue5
 t9:=Tryz.underlying9
 a9:=Tryz.isAgg9
 z9:=Tryz.sizeOf9
 v9:=Tryz.zeroValue9
 t20:=Tryz.underlying20
 a20:=Tryz.isAgg20
 z20:=Tryz.sizeOf20
 v20:=Tryz.zeroValue20
 t37:=Tryz.underlying72
 a37:=Tryz.isAgg72
 z37:=Tryz.sizeOf72
 v37:=Tryz.zeroValue72
 t46:=Tryz.underlying158
 a46:=Tryz.isAgg158
 z46:=Tryz.sizeOf158
 v46:=Tryz.zeroValue158
 t51:=Tryz.underlying209
 a51:=Tryz.isAgg209
 z51:=Tryz.sizeOf209
 v51:=Tryz.zeroValue209
 t53:=Tryz.underlying211
 a53:=Tryz.isAgg211
 z53:=Tryz.sizeOf211
 v53:=Tryz.zeroValue211
 t70:=Tryz.underlying71
 a70:=Tryz.isAgg71
 z70:=Tryz.sizeOf71
 v70:=Tryz.zeroValue71
 t72:=Tryz.underlying74
 a72:=Tryz.isAgg74
 z72:=Tryz.sizeOf74
 v72:=Tryz.zeroValue74
 t75:=Tryz.underlying184
 a75:=Tryz.isAgg184
 z75:=Tryz.sizeOf184
 v75:=Tryz.zeroValue184
 t76:=Tryz.underlying185
 a76:=Tryz.isAgg185
 z76:=Tryz.sizeOf185
 v76:=Tryz.zeroValue185
 t109:=Tryz.underlying187
 a109:=Tryz.isAgg187
 z109:=Tryz.sizeOf187
 v109:=Tryz.zeroValue187
 t127:=Tryz.underlying133
 a127:=Tryz.isAgg133
 z127:=Tryz.sizeOf133
 v127:=Tryz.zeroValue133
 t146:=Tryz.underlying230
 a146:=Tryz.isAgg230
 z146:=Tryz.sizeOf230
 v146:=Tryz.zeroValue230
 t148:=Tryz.underlying232
 a148:=Tryz.isAgg232
 z148:=Tryz.sizeOf232
 v148:=Tryz.zeroValue232
 t164:=Tryz.underlying268
 a164:=Tryz.isAgg268
 z164:=Tryz.sizeOf268
 v164:=Tryz.zeroValue268}
theorem Tryz.Builder_Extra_105:Builder.Extra Tryz.prog Tryz.lays105_ren:={
 sizeBuilder:=by kernel_rfl
 liesBuilder:=by kernel_rfl
 t5:=Tryz.underlying5
 a5:=Tryz.isAgg5
 z5:=Tryz.sizeOf5
 v5:=Tryz.zeroValue5
 infoByte:=by kernel_rfl
 cellsByte:=by kernel_rfl
 sizeByte:=by kernel_rfl
 neB5:=by decide}
open Go.RowKit Go.Lib in
theorem Tryz.strings_Repeat(s:ByteArray)(c:Nat)(w:World)(hc:c<=9223372036854775807)(hlen:s.size*c<=140737488355328):
  Calls Tryz.prog 68 #[.string s,.int .i64 c] w λe w'=>e=.returned (.string ⟨(Lib.repeatL s.data.toList c).toArray⟩)/\Below w.heap.size w w':=Any.strings_Repeat Tryz.lays105 Tryz.Builder_Extra_105 s c w hc hlen
def Tryz.lays109_ren:Go.Shelf.Ren:=⟨λ|109=>265|n=>n,λ|31=>161|9=>9|3=>3|0=>0|4=>4|n=>n,λ|n=>n⟩
theorem Tryz.lays109:Go.Proofs.Lays.n109 Tryz.prog Tryz.lays109_ren:={
 mixed:=by kernel_rfl
 f109:=Tryz.func265.trans (congrArg some (by kernel_rfl))
 t0:=Tryz.underlying0
 a0:=Tryz.isAgg0
 z0:=Tryz.sizeOf0
 v0:=Tryz.zeroValue0
 t3:=Tryz.underlying3
 a3:=Tryz.isAgg3
 z3:=Tryz.sizeOf3
 v3:=Tryz.zeroValue3
 t4:=Tryz.underlying4
 a4:=Tryz.isAgg4
 z4:=Tryz.sizeOf4
 v4:=Tryz.zeroValue4
 t9:=Tryz.underlying9
 a9:=Tryz.isAgg9
 z9:=Tryz.sizeOf9
 v9:=Tryz.zeroValue9
 t31:=Tryz.underlying161
 a31:=Tryz.isAgg161
 z31:=Tryz.sizeOf161
 v31:=Tryz.zeroValue161}
open Go.Lib in
theorem Tryz.slices_Index_string(b off n c:Nat)(zs:List ByteArray)(x:ByteArray)(w:World)(hz:n<=zs.length)(hbig:n<=9223372036854775807)(hc:∀j,j<zs.length->w.cell? ⟨b,off+j,none⟩=some (.string (zs.getD j ByteArray.empty))):
  Calls Tryz.prog 265 #[.slice (some ⟨b,off,none⟩) n c,.string x] w λe w'=>e=.returned (.int .i64 (Lib.idxOfS (zs.take n) x))/\w'=w:=Any.slices_Index_string Tryz.lays109 b off n c zs x w hz hbig hc
def Tryz.lays110_ren:Go.Shelf.Ren:=⟨λ|110=>279|109=>265|n=>n,λ|31=>161|9=>9|4=>4|3=>3|0=>0|n=>n,λ|n=>n⟩
theorem Tryz.lays110:Go.Proofs.Lays.n110 Tryz.prog Tryz.lays110_ren:={
 mixed:=by kernel_rfl
 f109:=Tryz.func265.trans (congrArg some (by kernel_rfl))
 f110:=Tryz.func279.trans (congrArg some (by kernel_rfl))
 t0:=Tryz.underlying0
 a0:=Tryz.isAgg0
 z0:=Tryz.sizeOf0
 v0:=Tryz.zeroValue0
 t3:=Tryz.underlying3
 a3:=Tryz.isAgg3
 z3:=Tryz.sizeOf3
 v3:=Tryz.zeroValue3
 t4:=Tryz.underlying4
 a4:=Tryz.isAgg4
 z4:=Tryz.sizeOf4
 v4:=Tryz.zeroValue4
 t9:=Tryz.underlying9
 a9:=Tryz.isAgg9
 z9:=Tryz.sizeOf9
 v9:=Tryz.zeroValue9
 t31:=Tryz.underlying161
 a31:=Tryz.isAgg161
 z31:=Tryz.sizeOf161
 v31:=Tryz.zeroValue161}
open Go.Lib in
theorem Tryz.slices_Contains_string(b off n c:Nat)(zs:List ByteArray)(x:ByteArray)(w:World)(hz:n<=zs.length)(hbig:n<=9223372036854775807)(hc:∀j,j<zs.length->w.cell? ⟨b,off+j,none⟩=some (.string (zs.getD j ByteArray.empty))):
  Calls Tryz.prog 279 #[.slice (some ⟨b,off,none⟩) n c,.string x] w λe w'=>e=.returned (.bool (Lib.containsS (zs.take n) x))/\w'=w:=Any.slices_Contains_string Tryz.lays110 b off n c zs x w hz hbig hc
open Go.Lib in
theorem Tryz.slices_Contains_string_empty(a:Option Addr)(c:Nat)(x:ByteArray)(w:World):
  Calls Tryz.prog 279 #[.slice a 0 c,.string x] w λe w'=>e=.returned (.bool false)/\w'=w:=Any.slices_Contains_string_empty Tryz.lays110 a c x w
end Go.Proofs
namespace Go.Proofs.YtdlbhiaceheffabGreatDoor
open Go Go.RowKit Ty Tok Tryz Proofs.Tryz
def Words(w:World):Prop:=∃b off cap:Nat,w.cell? ⟨1,0,none⟩=some (.slice (some ⟨b,off,none⟩) 17 cap)/\∀j,j<17->w.cell? ⟨b,off+j,none⟩=some (.string (Tok.words.getD j ByteArray.empty))
theorem Words.below{w w':World}(h:Words w)(hb:Below w.heap.size w w'):Words w':=by
 obtain⟨b,off,cap,h1,h2⟩:=h;exact⟨b,off,cap,by rw[hb.cell (World.block_lt_of_cell? w _ h1)];exact h1,λj hj=>by rw[hb.cell (World.block_lt_of_cell? w _ (h2 j hj))];exact h2 j hj⟩
theorem Gj(s:BA)(w:World)(hw:Words w){R:EW}(hR:R (.returned (.bool (Tok.isWord s))) w):
  Calls prog 276 #[.string s] w R:=by
 have HR:=qh hR;clear hR;obtain⟨b,off,cap,h1,h2⟩:=hw;have hc:=Tryz.slices_Contains_string b off 17 cap Tok.words s w (by decide) (by decide) (λj hj=>h2 j hj);have HC:=qh hc;clear hc h2;go_in;go_wp2_with(go_at_call 279;refine HC.o.mono ?_;rintro e w' ⟨rfl,rfl⟩);have e1:Lib.containsS (Tok.words.take 17) s=Tok.isWord s:=by rw[Bool.eq_iff_iff,F7,Lib.containsS_iff];rfl
 exact ll HR.o (congrArg Value.bool e1)
def bV(t:Tok.Tk):Value:=.agg #[.int .i64 t.kind,.string t.text,.int .i64 t.pos]
theorem N3(s:BA)(k:Nat)(w:World)(hw:Words w)(hs:s.size<=4000)(hk:k<s.size){R:EW}
  (hR:∀w',Below w.heap.size w w'->R (.returned (.tuple #[bV ⟨if Tok.isWord (s.extract k (Tok.stop c_ s k))then 2 else 1,s.extract k (Tok.stop c_ s k),k⟩,.bool (decide (Tok.stop c_ s k-k<=20))])) w'):
  Calls prog 201 #[.string s,.int .i64 k] w R:=by
 have Ay:=qh (@AB 275 c_ Tryz.call275 K9 s k hs (by omega));have HR:=qh hR;have HW:=qh hw;clear hR hw;have hle:=jF c_ s k (by omega);have WE:=je c_ s k;generalize Tok.stop c_ s k=e at*
 cases hi:Tok.isWord (s.extract k e);all_goals
  have HI:=qh hi;clear hi;go_in;go_wp2_with(go_at_call 274;refine Ay.o _ _ rfl ?_);refine Gj _ _ ?_ ?_
  ·exact HW.o.below (((bR _ _).alloc (nR _) _).alloc (by simp) _)
  rw[HI.o];go_wp2
  go_region
  go_wp2;refine bodyPost_ret ?_ rfl (HR.o _ ?_)
  ·simp[results,results201,go_sem,bV,HI.o];omega
  ·exact((((bR _ _).alloc (nR _) _).alloc (by simp) _).drew)
section
open Go.ChangeShapes Go.WideShapes Go.ChangeAt Go.RowKit Go.Lib
open Go.ChangeMaps (open_string shut_string)
theorem Af:ownKnob prog.godebug=none:=by kernel_rfl
theorem B5:prog.globalNamed "guardrail/token.words" =some 1:=by kernel_rfl
theorem FU: (prog.globals[1]?).map (·.type)=some 161:=by kernel_rfl
theorem AO:prog.cellsOf 9=1:=by kernel_rfl
theorem F8: (Rows.laid_guardrail_token_words:DataW Unit)=.slice (oZ.map λl=>.lit (.string l)) []:=rfl
theorem xS{W:World}(h:VarReads prog W "guardrail/token.words" Rows.laid_guardrail_token_words):Words W:=by
 obtain⟨g',t',cs,fuel,p,hg,Ez,Uw,hd⟩:=h;obtain rfl:=Option.some.inj (B5.symm.trans hg);obtain rfl:=Option.some.inj (FU.symm.trans Ez);rw[F8]at hd
 rcases open_strings underlying161 underlying9 AO hd with⟨_,hx⟩|⟨a,len,cap,ss,U3,_,hl,_,dU,hx,Dx,_⟩
 ·cases hx
 simp only[Prod.mk.injEq,DataW.slice.injEq]at hx;obtain⟨⟨Uo,F_⟩,_⟩:=hx;have Wn: (ss.take len).map (λs=>s.data.toList)=oZ:=by
  have h1: (ss.take len).map (λs=>(DataW.lit (.string s.data.toList):DataW Unit))=oZ.map λl=>.lit (.string l):=Uo.symm
  have h2:=congrArg (List.map (λd:DataW Unit=>match d with| .lit (.string l)=>l| _=>[])) h1
  simpa [List.map_map,Function.comp_def]using h2
 have hlen: (ss.take len).length=17:=by have:=congrArg List.length Wn;simpa [oZ]using this
 have Ry:ss.length>=17:=by simp at hlen;omega
 have aaV:len=17:=by
  have h3: (ss.drop len).length=0:=by have:=congrArg List.length F_;simp[strs]at this;simp;omega
  simp at hlen h3;simp at dU;omega
 subst aaV;have hw:ss.take 17=Tok.words:=by
  unfold Tok.words;rw[<-Wn,List.map_map];symm;exact List.map_id'' (λs=>by cases s;rfl) _
 have LW:∀i,i<17->W.cell? (a.add i)=some (.string (Tok.words.getD i ByteArray.empty)):=by
  intro i hi;rw[Dx i (by omega),<-hw];simp[List.getD,hi]
 obtain⟨R,o,sR⟩:=a;obtain rfl:sR=none:=by
  have adw:=LW 0 (by omega);have: (Addr.add ⟨R,o,sR⟩ 0)=⟨R,o,sR⟩:=by simp[Addr.add]
  rw[this]at adw
  exact Go.Proofs.cell_spot adw
 refine⟨R,o,cap,?_,λj hj=>?_⟩
 ·rw[World.var?_cell hg Uw 0,<-Array.getElem?_toList,U3];rfl
 ·have:=LW j hj;rwa [Addr.add_lit]at this
end
section
open Go.ChangeShapes Go.WideShapes Go.ChangeAt Go.RowKit Go.Lib
def XX:Array Value:=(#[0,1,28,2,29,14,24,3,30,22,20,15,25,17,4,8,31,27,13,23,21,19,16,7,26,12,18,6,11,5,10,9]:Array Int).map λn=>.int .u8 n
def Xe:Array Value:=(#[0,1,56,2,57,49,28,3,61,58,42,50,38,29,17,4,62,47,59,36,45,43,51,22,53,39,33,30,24,18,12,5,63,55,48,27,60,41,37,16,46,35,44,21,52,32,23,11,54,26,40,15,34,20,31,10,25,14,19,9,13,8,7,6]:Array Int).map λn=>.int .u8 n
def SU:Array Value:=(#[1,10,100,1000,10000,100000,1000000,10000000,100000000,1000000000,10000000000,100000000000,1000000000000,10000000000000,100000000000000,1000000000000000,10000000000000000,100000000000000000,1000000000000000000,10000000000000000000]:Array Int).map λn=>.int .u64 n
def zG(cs:Array Value):Obj->Obj
 | .cells _ t frozen=>.cells cs t frozen
 |o=>o
noncomputable def nY (os:Os):World:=
 let w0:=World.holding prog os ⟨#[],#[],[]⟩
 let n:=w0.heap.size
 {w0 with heap:=(((((((((w0.heap.modify 1 (zG #[.slice (some ⟨n,0,none⟩) 17 17])).modify 3 (zG XX)).modify 4 (zG Xe)).modify 2 (zG SU)).modify 6 (zG #[.iface 330 (.pointer (some ⟨n+1,0,none⟩))])).modify 5 (zG #[.iface 330 (.pointer (some ⟨n+2,0,none⟩))])).push (.cells (Tok.words.map Value.string).toArray 9)).push (.cells #[.string ⟨#[118,97,108,117,101,32,111,117,116,32,111,102,32,114,97,110,103,101]⟩] 332)).push (.cells #[.string ⟨#[105,110,118,97,108,105,100,32,115,121,110,116,97,120]⟩] 332))}
end
theorem Ga(s:BA)(k:Nat)(w:World)(hs:s.size<=4000)(hk:k<s.size){R:EW}
  (hR:∀w',Below w.heap.size w w'->R (.returned (.tuple #[bV ⟨3,s.extract k (Tok.stop Tok.isDigit s k),k⟩,
   .bool (decide (Tok.stop Tok.isDigit s k-k<=9)&&(decide (Tok.stop Tok.isDigit s k-k=1)||!decide (Tok.byte s k=48)))])) w')
  (hd:Tok.isDigit (Tok.byte s k)=true):
  Calls prog 203 #[.string s,.int .i64 k] w R:=by
 have Ay:=qh (@AB 202 Tok.isDigit Tryz.call202 jJ s k hs (by omega));have HR:=qh hR;clear hR;have hle:=jF Tok.isDigit s k (by omega);have ahP:k<Tok.stop Tok.isDigit s k:=by
  have:=je Tok.isDigit s (k+1);rw[pU hk (by rw[<-ei];exact hd)]at this
  omega
 clear hd;generalize Tok.stop Tok.isDigit s k=e at*
 have hx:e-k<=9/\e-k=1\/e-k<=9/\¬e-k=1\/¬e-k<=9:=by omega
 rcases hx with⟨h9,h1⟩|⟨h9,h1⟩|h9
 ·have hb:decide (((e-k:Nat):Int)<=9)=true:=by simp;omega
  have cd: (((e-k:Nat):Int)==1)=true:=by simp;omega
  go_in;go_wp2_with(go_at_call 274;refine Ay.o _ _ rfl ?_)
  go_region
  go_wp2;refine bodyPost_ret ?_ rfl (HR.o _ ?_)
  ·simp[results,results203,go_sem,bV,h1]
  ·exact((((bR _ _).alloc (nR _) _).alloc (by simp) _).drew)
 ·have hb:decide (((e-k:Nat):Int)<=9)=true:=by simp;omega
  have cd: (((e-k:Nat):Int)==1)=false:=by simp;omega
  have h0:0<e-k:=by omega
  go_in;go_wp2_with(go_at_call 274;refine Ay.o _ _ rfl ?_)
  go_region
  go_wp2;refine bodyPost_ret ?_ rfl (HR.o _ ?_)
  ·simp[results,results203,go_sem,bV,h9,h1];rw[zT,Bool.eq_iff_iff];simp[ZV]
  ·exact((((bR _ _).alloc (nR _) _).alloc (by simp) _).drew)
 ·have hb:decide (((e-k:Nat):Int)<=9)=false:=by simp;omega
  go_in;go_wp2_with(go_at_call 274;refine Ay.o _ _ rfl ?_)
  go_region
  go_wp2;refine bodyPost_ret ?_ rfl (HR.o _ ?_)
  ·simp[results,results203,go_sem,bV,h9]
  ·exact((((bR _ _).alloc (nR _) _).alloc (by simp) _).drew)
theorem N4(s:BA)(k:Nat)(w:World)(hs:s.size<=4000)(hk:k<s.size){R:EW}
  (hR:∀w',Below w.heap.size w w'->R (.returned (.tuple #[bV ⟨4,s.extract (k+1) (Tok.stop cM s (k+1)),k⟩,
   .bool (decide (Tok.stop cM s (k+1)-(k+1)<=30)&&(decide (Tok.stop cM s (k+1)<s.size)&&decide (Tok.byte s (Tok.stop cM s (k+1))=34)))])) w'):
  Calls prog 204 #[.string s,.int .i64 k] w R:=by
 have Ay:=qh (@AB 277 cM Tryz.call277 K5 s (k+1) hs (by omega));have HR:=qh hR;clear hR;have hle:=jF cM s (k+1) (by omega);have WE:=je cM s (k+1);generalize Tok.stop cM s (k+1)=e at*
 have hx:e-(k+1)<=30/\e<s.size\/e-(k+1)<=30/\¬e<s.size\/¬e-(k+1)<=30:=by omega
 rcases hx with⟨h9,h1⟩|⟨h9,h1⟩|h9
 ·have hb:decide (((e-(k+1):Nat):Int)<=30)=true:=by simp;omega
  go_in;go_wp2_with(go_at_call 274;refine Ay.o _ _ (by omega) ?_);rw[show(k:Int)+1+((e-(k+1):Nat):Int)=(e:Int)from by omega]
  go_region
  go_wp2;refine bodyPost_ret ?_ rfl (HR.o _ ?_)
  ·simp[results,results204,go_sem,bV];rw[<-ei s e h1,Bool.eq_iff_iff];simp[XV,h1];omega
  ·exact((((bR _ _).alloc (nR _) _).alloc (by simp) _).drew)
 ·have hb:decide (((e-(k+1):Nat):Int)<=30)=true:=by simp;omega
  go_in;go_wp2_with(go_at_call 274;refine Ay.o _ _ (by omega) ?_);rw[show(k:Int)+1+((e-(k+1):Nat):Int)=(e:Int)from by omega]
  go_region
  go_wp2;refine bodyPost_ret ?_ rfl (HR.o _ ?_)
  ·simp[results,results204,go_sem,bV,h1]
  ·exact((((bR _ _).alloc (nR _) _).alloc (by simp) _).drew)
 ·have hb:decide (((e-(k+1):Nat):Int)<=30)=false:=by simp;omega
  go_in;go_wp2_with(go_at_call 274;refine Ay.o _ _ (by omega) ?_);rw[show(k:Int)+1+((e-(k+1):Nat):Int)=(e:Int)from by omega]
  go_region
  go_wp2;refine bodyPost_ret ?_ rfl (HR.o _ ?_)
  ·simp[results,results204,go_sem,bV,h9]
  ·exact((((bR _ _).alloc (nR _) _).alloc (by simp) _).drew)
theorem L9:∀n:Fin 256,decide (0<=Lib.indexByte [40,41,123,125,91,93,44,59,58,46,61,60,43,45,42,33,124] (UInt8.ofNat n.val))=nA (UInt8.ofNat n.val):=by decide+kernel
theorem IU(c:UInt8):decide (0<=Lib.indexByte [40,41,123,125,91,93,44,59,58,46,61,60,43,45,42,33,124] c)=nA c:=by
 have h:=L9 ⟨c.toNat,c.toNat_lt⟩
 simpa using h
theorem CP(s:BA)(k:Nat)(w:World)(hs:s.size<=4000)(hk:k<s.size){R:EW}
  (hR:∀w',Below w.heap.size w w'->R (.returned (.tuple #[bV (if Tok.two s k then⟨5,s.extract k (k+2),k⟩else⟨5,s.extract k (k+1),k⟩),.bool (if Tok.two s k then true else nA (Tok.byte s k))])) w'):
  Calls prog 205 #[.string s,.int .i64 k] w R:=by
 have HR:=qh hR;clear hR;have hx:∃p1 p2:Bool,p1=Lib.hasPrefix (List.take (s.size-k) (List.drop k s.data.toList)) [61,61]/\p2=Lib.hasPrefix (List.take (s.size-k) (List.drop k s.data.toList)) [61,62]:=⟨_,_,rfl,rfl⟩
 obtain⟨p1,p2,Ko,vJ⟩:=hx;have XQ:Tok.two s k=(p1||p2):=by rw[Ko,vJ,kW,Tw];rfl
 have W7:p1=true->s.extract k (k+2)=⟨#[61,61]⟩:=λh=>B0 s k 61 61 (by rw[<-h,Ko,kW];rfl)
 have Vu:p2=true->s.extract k (k+2)=⟨#[61,62]⟩:=λh=>B0 s k 61 62 (by rw[<-h,vJ,kW];rfl)
 have ab4:=qh Ko;have Sv:=qh vJ;have HT:=qh XQ;have tT:=qh W7;have ia:=qh Vu;clear Ko vJ XQ W7 Vu;go_in;go_wp2_with fail;go_loop [10] (λi=>∃n:Nat,n<=2/\i=.int .i64 n/\(1<=n->p1=false)/\(2<=n->p2=false)) (λi=>2-(intOf i).toNat)
 case atStart=>exact⟨0,by omega,rfl,by omega,by omega⟩
 case round=>
  obtain⟨n,hn,rfl,h1,h2⟩:=hrel;have aex:n=0\/n=1\/n=2:=by omega
  rcases aex with rfl|rfl|rfl
  ·go_wp2_with(go_at_call 124;refine(Tryz.strings_HasPrefix _ _ _).mono ?_;rintro e w' ⟨rfl,rfl⟩)
   ·have hp:p1=true:=by rw[ab4.o];assumption
    refine bodyPost_ret ?_ rfl (HR.o _ ?_)
    ·simp[results,results205,go_sem,bV,HT.o,hp,tT.o hp]
    ·exact((bR _ _).alloc (nR _) _).alloc (by simp) _
   ·have hp:p1=false:=by rw[ab4.o];assumption
    refine⟨⟨1,by omega,rfl,λ_=>hp,by omega⟩,by simp[intOf]⟩
  ·go_wp2_with(go_at_call 124;refine(Tryz.strings_HasPrefix _ _ _).mono ?_;rintro e w' ⟨rfl,rfl⟩)
   ·have hp:p2=true:=by rw[Sv.o];assumption
    refine bodyPost_ret ?_ rfl (HR.o _ ?_)
    ·simp[results,results205,go_sem,bV,HT.o,hp,ia.o hp]
    ·exact((bR _ _).alloc (nR _) _).alloc (by simp) _
   ·have hp:p2=false:=by rw[Sv.o];assumption
    refine⟨⟨2,by omega,rfl,λ_=>h1 (by omega),λ_=>hp⟩,by simp[intOf]⟩
  ·have e1:=h1 (by omega);have e2:=h2 (by omega);clear h1 h2 hn;subst e1 e2;go_wp2_with fail;have w1:IntKind.i64.wrap ((k:Int)+1)=(k:Int)+1:=IntWalk.i64_in _ (by omega);have w2:0<=(k:Int)+1:=by omega
   have w3: ((k:Int)+1).toNat=k+1:=by omega
   have w4: (k:Int)+1<=(s.size:Int):=by omega
   have Eh:∀W:World,(Instr.slice 9 (.string s) (some (.int .i64 (k:Int))) (some (.int .i64 ((k:Int)+1))) none).run prog W=.ok (.string (s.extract k (k+1))) W:=by
    intro W;simp[Instr.slice,Instr.sliceBounds,Instr.sliceBound,asIntOf,w2,w3,w4,go_sem]
   clear w4
   go_region_with (go_at_call 278;refine(Tryz.strings_IndexByte _ _ _).mono ?_;rintro e w' ⟨rfl,rfl⟩)
   go_wp2;refine bodyPost_ret ?_ rfl (HR.o _ ?_)
   ·simp[results,results205,go_sem,bV,HT.o,Act.put,-Bool.or_self];rw[<-ei s k hk];exact IU _
   ·exact((((bR _ _).alloc (nR _) _).alloc (by simp) _).drew)
theorem eM(w:World)(o:Obj):Below w.heap.size w (w.alloc o):=(bR _ _).alloc (nR _) _
theorem cell_of_block{w:World}{b:Nat}{cs:Array Value}{t:TypeId}{fz:Nat×Nat}(h:w.heap[b]?=some (.cells cs t fz))(o:Nat):w.cell? ⟨b,o,none⟩=cs[o]?:=by
 simp[World.cell?,h]
theorem bZ{w:World}{b:Nat}{cs:Array Value}{t:TypeId}(h:w.heap[b]?=some (.cells cs t (0,0)))(o:Nat):w.frozen? ⟨b,o,none⟩=false:=by
 simp[World.frozen?,h]
theorem acp(c:UInt8)(b:Bool)(h:decide (c=34)=b): ((c.toNat:Int)==34)=b:=by
 rw[<-h,Bool.eq_iff_iff];simp[XV]
theorem Mp(s:BA)(k kd:Nat)(tx:BA)(ok:Bool)(w:World)(Zc:s.size<=4000)(hk:k<s.size)(aaf:tx.size<=4000)
  (hN:∀(w1:World)(R:EW),Below w.heap.size w w1->(∀w',Below w1.heap.size w1 w'->R (.returned (.tuple #[bV ⟨kd,tx,k⟩,.bool ok])) w')->Calls prog 201 #[.string s,.int .i64 k] w1 R)
  (hl:cJ (Tok.byte s k)=true) {R:EW}
  (hR:∀w',Below w.heap.size w w'->R (.returned (.tuple #[bV ⟨kd,tx,k⟩,.int .i64 tx.size,.bool ok])) w'):
  Calls prog 129 #[.string s,.int .i64 k] w R:=by
 have HR:=qh hR;have HN:=qh hN;rw[ei s k hk]at hl
 have HL:=qh hl;clear hR hl hN;go_in;go_wp2_with fail;refine iS _ _ ?_;rw[HL.o];go_wp2_with fail;refine HN.o _ _ (eM _ _) (λw1 cd=>?_);dsimp only[bV];have aW:Below w.heap.size w w1:=(eM _ _).trans (cd.mono (by simp));have hz:w.heap.size<w1.heap.size:=by have:=cd.size;simp at this;omega
 have hc:w1.heap[w.heap.size]?=some (.cells #[.int .i64 0,.string ⟨#[]⟩,.int .i64 0] 138 (0,0)):=by
  rw[cd.block _ (by simp)];exact heap_alloc_new w _
 have c0:w1.cell? ⟨w.heap.size,0,none⟩=some (.int .i64 0):=by rw[cell_of_block hc];rfl
 have c1:w1.cell? ⟨w.heap.size,1,none⟩=some (.string ⟨#[]⟩):=by rw[cell_of_block hc];rfl
 have c2:w1.cell? ⟨w.heap.size,2,none⟩=some (.int .i64 0):=by rw[cell_of_block hc];rfl
 have f0:∀o,w1.frozen? ⟨w.heap.size,o,none⟩=false:=λo=>bZ hc o
 have fG:=qh aW;clear cd hc aW;go_wp2_with fail
 go_region
 go_wp2_with fail;refine bodyPost_ret ?_ rfl (HR.o _ ?_)
 ·simp[results,results129,go_sem,bV,c0,c1,c2,hz]
 ·repeat' (first|exact fG.o|apply Below.drew|apply Below.setCell|apply Below.alloc|(simp;done)|(simp;omega))
theorem Es(s:BA)(k kd:Nat)(tx:BA)(ok:Bool)(w:World)(Zc:s.size<=4000)(hk:k<s.size)(aaf:tx.size<=4000)
  (hN:∀(w1:World)(R:EW),Below w.heap.size w w1->(∀w',Below w1.heap.size w1 w'->R (.returned (.tuple #[bV ⟨kd,tx,k⟩,.bool ok])) w')->Calls prog 203 #[.string s,.int .i64 k] w1 R)
  (hl:cJ (Tok.byte s k)=false/\Tok.isDigit (Tok.byte s k)=true) {R:EW}
  (hR:∀w',Below w.heap.size w w'->R (.returned (.tuple #[bV ⟨kd,tx,k⟩,.int .i64 tx.size,.bool ok])) w'):
  Calls prog 129 #[.string s,.int .i64 k] w R:=by
 have HR:=qh hR;have HN:=qh hN;rw[ei s k hk]at hl
 have HL:=qh hl;clear hR hl hN;go_in;go_wp2_with fail;refine iS _ _ ?_;rw[HL.o.1];go_wp2_with fail;refine jJ _ _ ?_;rw[HL.o.2];go_wp2_with fail;refine HN.o _ _ (eM _ _) (λw1 cd=>?_);dsimp only[bV];have aW:Below w.heap.size w w1:=(eM _ _).trans (cd.mono (by simp));have hz:w.heap.size<w1.heap.size:=by have:=cd.size;simp at this;omega
 have hc:w1.heap[w.heap.size]?=some (.cells #[.int .i64 0,.string ⟨#[]⟩,.int .i64 0] 138 (0,0)):=by
  rw[cd.block _ (by simp)];exact heap_alloc_new w _
 have c0:w1.cell? ⟨w.heap.size,0,none⟩=some (.int .i64 0):=by rw[cell_of_block hc];rfl
 have c1:w1.cell? ⟨w.heap.size,1,none⟩=some (.string ⟨#[]⟩):=by rw[cell_of_block hc];rfl
 have c2:w1.cell? ⟨w.heap.size,2,none⟩=some (.int .i64 0):=by rw[cell_of_block hc];rfl
 have f0:∀o,w1.frozen? ⟨w.heap.size,o,none⟩=false:=λo=>bZ hc o
 have fG:=qh aW;clear cd hc aW;go_wp2_with fail
 go_region
 go_wp2_with fail;refine bodyPost_ret ?_ rfl (HR.o _ ?_)
 ·simp[results,results129,go_sem,bV,c0,c1,c2,hz]
 ·repeat' (first|exact fG.o|apply Below.drew|apply Below.setCell|apply Below.alloc|(simp;done)|(simp;omega))
theorem NQ(s:BA)(k kd:Nat)(tx:BA)(ok:Bool)(w:World)(Zc:s.size<=4000)(hk:k<s.size)(aaf:tx.size<=4000)
  (hN:∀(w1:World)(R:EW),Below w.heap.size w w1->(∀w',Below w1.heap.size w1 w'->R (.returned (.tuple #[bV ⟨kd,tx,k⟩,.bool ok])) w')->Calls prog 204 #[.string s,.int .i64 k] w1 R)
  (hl:cJ (Tok.byte s k)=false/\Tok.isDigit (Tok.byte s k)=false/\decide (Tok.byte s k=34)=true) {R:EW}
  (hR:∀w',Below w.heap.size w w'->R (.returned (.tuple #[bV ⟨kd,tx,k⟩,.int .i64 (tx.size+2:Nat),.bool ok])) w'):
  Calls prog 129 #[.string s,.int .i64 k] w R:=by
 have HR:=qh hR;have HN:=qh hN;rw[ei s k hk]at hl
 have HL:=qh hl;clear hR hl hN;go_in;go_wp2_with fail;have hq:=acp _ _ HL.o.2.2;refine iS _ _ ?_;rw[HL.o.1];go_wp2_with fail;refine jJ _ _ ?_;rw[HL.o.2.1];go_wp2_with fail;refine HN.o _ _ (eM _ _) (λw1 cd=>?_);dsimp only[bV];have aW:Below w.heap.size w w1:=(eM _ _).trans (cd.mono (by simp));have hz:w.heap.size<w1.heap.size:=by have:=cd.size;simp at this;omega
 have hc:w1.heap[w.heap.size]?=some (.cells #[.int .i64 0,.string ⟨#[]⟩,.int .i64 0] 138 (0,0)):=by
  rw[cd.block _ (by simp)];exact heap_alloc_new w _
 have c0:w1.cell? ⟨w.heap.size,0,none⟩=some (.int .i64 0):=by rw[cell_of_block hc];rfl
 have c1:w1.cell? ⟨w.heap.size,1,none⟩=some (.string ⟨#[]⟩):=by rw[cell_of_block hc];rfl
 have c2:w1.cell? ⟨w.heap.size,2,none⟩=some (.int .i64 0):=by rw[cell_of_block hc];rfl
 have f0:∀o,w1.frozen? ⟨w.heap.size,o,none⟩=false:=λo=>bZ hc o
 have fG:=qh aW;clear cd hc aW;go_wp2_with fail
 go_region
 go_wp2_with fail;refine bodyPost_ret ?_ rfl (HR.o _ ?_)
 ·simp[results,results129,go_sem,bV,c0,c1,c2,hz]
 ·repeat' (first|exact fG.o|apply Below.drew|apply Below.setCell|apply Below.alloc|(simp;done)|(simp;omega))
theorem Bu(s:BA)(k kd:Nat)(tx:BA)(ok:Bool)(w:World)(Zc:s.size<=4000)(hk:k<s.size)(aaf:tx.size<=4000)
  (hN:∀(w1:World)(R:EW),Below w.heap.size w w1->(∀w',Below w1.heap.size w1 w'->R (.returned (.tuple #[bV ⟨kd,tx,k⟩,.bool ok])) w')->Calls prog 205 #[.string s,.int .i64 k] w1 R)
  (hl:cJ (Tok.byte s k)=false/\Tok.isDigit (Tok.byte s k)=false/\decide (Tok.byte s k=34)=false) {R:EW}
  (hR:∀w',Below w.heap.size w w'->R (.returned (.tuple #[bV ⟨kd,tx,k⟩,.int .i64 tx.size,.bool ok])) w'):
  Calls prog 129 #[.string s,.int .i64 k] w R:=by
 have HR:=qh hR;have HN:=qh hN;rw[ei s k hk]at hl
 have HL:=qh hl;clear hR hl hN;go_in;go_wp2_with fail;have hq:=acp _ _ HL.o.2.2;refine iS _ _ ?_;rw[HL.o.1];go_wp2_with fail;refine jJ _ _ ?_;rw[HL.o.2.1];go_wp2_with fail;refine HN.o _ _ (eM _ _) (λw1 cd=>?_);dsimp only[bV];have aW:Below w.heap.size w w1:=(eM _ _).trans (cd.mono (by simp));have hz:w.heap.size<w1.heap.size:=by have:=cd.size;simp at this;omega
 have hc:w1.heap[w.heap.size]?=some (.cells #[.int .i64 0,.string ⟨#[]⟩,.int .i64 0] 138 (0,0)):=by
  rw[cd.block _ (by simp)];exact heap_alloc_new w _
 have c0:w1.cell? ⟨w.heap.size,0,none⟩=some (.int .i64 0):=by rw[cell_of_block hc];rfl
 have c1:w1.cell? ⟨w.heap.size,1,none⟩=some (.string ⟨#[]⟩):=by rw[cell_of_block hc];rfl
 have c2:w1.cell? ⟨w.heap.size,2,none⟩=some (.int .i64 0):=by rw[cell_of_block hc];rfl
 have f0:∀o,w1.frozen? ⟨w.heap.size,o,none⟩=false:=λo=>bZ hc o
 have fG:=qh aW;clear cd hc aW;go_wp2_with fail
 go_region
 go_wp2_with fail;refine bodyPost_ret ?_ rfl (HR.o _ ?_)
 ·simp[results,results129,go_sem,bV,c0,c1,c2,hz]
 ·repeat' (first|exact fG.o|apply Below.drew|apply Below.setCell|apply Below.alloc|(simp;done)|(simp;omega))
theorem size_extract_le(s:BA)(a b:Nat): (s.extract a b).size<=s.size:=by simp;omega
theorem PE(s:BA)(k:Nat)(w:World)(hw:Words w)(hs:s.size<=4000)(hk:k<s.size){R:EW}
  (hR:∀w',Below w.heap.size w w'->R (.returned (.tuple #[bV (Tok.next s k).1,.int .i64 (Tok.next s k).2.1,.bool (Tok.next s k).2.2])) w'):
  Calls prog 129 #[.string s,.int .i64 k] w R:=by
 unfold Tok.next at hR;cases hl:cJ (Tok.byte s k)
 ·cases hd:Tok.isDigit (Tok.byte s k)
  ·cases hq:decide (Tok.byte s k=34)
   ·have Y2:¬Tok.byte s k=34:=of_decide_eq_false hq;cases ht:Tok.two s k
    ·simp only[hl,hd,Y2,ht,Bool.false_eq_true,if_false]at hR;have e: ((s.extract k (k+1)).size:Int)=((1:Nat):Int):=by congr 1;simp;omega
     refine Bu s k 5 (s.extract k (k+1)) (nA (Tok.byte s k)) w hs hk (nT (size_extract_le _ _ _) hs) (λw1 R hb h=>?_) ⟨hl,hd,hq⟩ (λw' hb=>?_)
     ·exact CP s k w1 hs hk (by simpa [ht]using h)
     ·rw[e];exact hR w' hb
    ·simp only[hl,hd,Y2,ht,Bool.false_eq_true,if_false,if_true]at hR;have e: ((s.extract k (k+2)).size:Int)=((2:Nat):Int):=by have:=OV s k ht;congr 1;simp;omega
     refine Bu s k 5 (s.extract k (k+2)) true w hs hk (nT (size_extract_le _ _ _) hs) (λw1 R hb h=>?_) ⟨hl,hd,hq⟩ (λw' hb=>?_)
     ·exact CP s k w1 hs hk (by simpa [ht]using h)
     ·rw[e];exact hR w' hb
   ·have Y2:Tok.byte s k=34:=of_decide_eq_true hq;simp only[Y2,if_true]at hR;have hle:=jF cM s (k+1) (by omega);have WE:=je cM s (k+1);have e: (s.extract (k+1) (Tok.stop cM s (k+1))).size+2=Tok.stop cM s (k+1)-k+1:=by simp;omega
    refine NQ s k 4 (s.extract (k+1) (Tok.stop cM s (k+1))) (decide (Tok.stop cM s (k+1)-(k+1)<=30)&&(decide (Tok.stop cM s (k+1)<s.size)&&decide (Tok.byte s (Tok.stop cM s (k+1))=34))) w hs hk (nT (size_extract_le _ _ _) hs) (λw1 R hb h=>?_) ⟨hl,hd,hq⟩ (λw' hb=>?_)
    ·exact N4 s k w1 hs hk h
    ·rw[e];exact hR w' hb
  ·simp only[hl,hd,Bool.false_eq_true,if_false,if_true]at hR;have hle:=jF Tok.isDigit s k (by omega);have WE:=je Tok.isDigit s k;have e: ((s.extract k (Tok.stop Tok.isDigit s k)).size:Int)=((Tok.stop Tok.isDigit s k-k:Nat):Int):=by congr 1;simp;omega
   refine Es s k 3 (s.extract k (Tok.stop Tok.isDigit s k)) (decide (Tok.stop Tok.isDigit s k-k<=9)&&(decide (Tok.stop Tok.isDigit s k-k=1)||!decide (Tok.byte s k=48))) w hs hk (nT (size_extract_le _ _ _) hs) (λw1 R hb h=>?_) ⟨hl,hd⟩ (λw' hb=>?_)
   ·exact Ga s k w1 hs hk h hd
   ·rw[e];exact hR w' hb
 ·simp only[hl,if_true]at hR;have hle:=jF c_ s k (by omega);have WE:=je c_ s k;have e: ((s.extract k (Tok.stop c_ s k)).size:Int)=((Tok.stop c_ s k-k:Nat):Int):=by congr 1;simp;omega
  refine Mp s k (if Tok.isWord (s.extract k (Tok.stop c_ s k))then 2 else 1) (s.extract k (Tok.stop c_ s k)) (decide (Tok.stop c_ s k-k<=20)) w hs hk (nT (size_extract_le _ _ _) hs) (λw1 R hb h=>?_) hl (λw' hb=>?_)
  ·exact N3 s k w1 (hw.below hb) hs hk h
  ·rw[e];exact hR w' hb
end Go.Proofs.YtdlbhiaceheffabGreatDoor
