/- Walks of the small functions of package token, and of token.run. -/
import Derived.Test.YtdlbhiaceheffabGreatDoorProg
import Derived.WalkKit
import Derived.Lib.Hide
import Derived.Shelf.Strings.Builder1
import Derived.Shelf.Strings.Builder2
import Derived.Shelf.Strings.OnBuilder
import Derived.Shelf.Small.Bits
import Derived.Shelf.Small.Strs
import Derived.Shelf.Small.Wraps
import Derived.Shelf.Strings.BuilderF
import Derived.Shelf.Strings.BuilderK
import Derived.Shelf.Strconv.Atoi
import Derived.Shelf.Strconv.Itoa0
import Derived.Shelf.Strconv.Itoa1
import Derived.Shelf.LaysM
import Derived.Shelf.Strconv.Itoa2
import Derived.Shelf.Strconv.Itoa3
import Derived.Shelf.Strings.Search1
import Derived.Shelf.Strings.Prefix
import Derived.Shelf.Bits.Mul64
import Derived.Shelf.Strings.Repeat
import Derived.Shelf.Slices.Turned
import Derived.BigQuiet
import Derived.Deep.QuietTactic
import Derived.Test.YtdlbhiaceheffabGreatDoorCards
import Derived.Test.YtdlbhiaceheffabGreatDoorTie
import Derived.Lib.LaidIn
import Derived.Lib.LaidU8
import Derived.Lib.LaidPrint
import Derived.Deep.DeepHandedRow
import Derived.Deep.DeepWitnessRowRef
import Derived.ProofKit
import Derived.SizedLaws
import Derived.SliceStrings
import Derived.BigRegion
import Derived.Deep.RegionWith
import Derived.OwnWalk
import Derived.WalkSpells
import Derived.Deep.LoopGhost
import Derived.WalkSmall
import Derived.Test.YtdlbhiaceheffabGreatDoorE01
set_option linter.all false
set_option maxRecDepth 100000
set_option maxHeartbeats 1000000
namespace Go.Proofs.YtdlbhiaceheffabGreatDoor
open Go Go.RowKit Ty Tok Tryz Proofs.Tryz
theorem jc{R:EW}{v v':Value}{w:World}(h:R (.returned v') w)(e:v=v'):R (.returned v) w:=e▸h
theorem jw(c:UInt8)(w:World){R:EW}(hR:R (.returned (.bool (Tok.isDigit c))) w):
  Calls prog 202 #[.int .u8 (c.toNat:Int)] w R:=by
 have HR:=qh hR;clear hR;go_in;go_wp2;all_goals
  refine jc HR.o (congrArg Value.bool ?_);rw[Bool.eq_iff_iff];simp[Tok.isDigit];try omega
theorem iE(c:UInt8)(w:World){R:EW}(hR:R (.returned (.bool (eN c))) w):
  Calls prog 200 #[.int .u8 (c.toNat:Int)] w R:=by
 have HR:=qh hR;clear hR;go_in;go_wp2;all_goals
  refine jc HR.o (congrArg Value.bool ?_);rw[Bool.eq_iff_iff];simp[eN];try omega
theorem GD(c:UInt8)(w:World){R:EW}(hR:R (.returned (.bool (dP c))) w):
  Calls prog 275 #[.int .u8 (c.toNat:Int)] w R:=by
 have HR:=qh hR;clear hR;by_cases h:eN c=true;all_goals
  try rw[Bool.not_eq_true]at h
  go_in;go_wp2_with(first|(go_at_call 200;refine iE _ _ ?_)|(go_at_call 202;refine jw _ _ ?_));refine jc HR.o (congrArg Value.bool ?_);simp[dP,h]
theorem FP(c:UInt8)(w:World){R:EW}(hR:R (.returned (.bool (cZ c))) w):
  Calls prog 277 #[.int .u8 (c.toNat:Int)] w R:=by
 have HR:=qh hR;clear hR;go_in;go_wp2;all_goals
  refine jc HR.o (congrArg Value.bool ?_);rw[Bool.eq_iff_iff];simp[cZ];try omega
theorem yd(F:FuncId)(p:UInt8->Bool)(hc:∀(args:Array Value)(w:World),(callFunc F args).run prog w=.ok (.enter F args) w)
  (hf:∀(c:UInt8)(w:World){R:EW},R (.returned (.bool (p c))) w->Calls prog F #[.int .u8 (c.toNat:Int)] w R)
  (s:BA) (at':Nat) (hs:s.size<=4000) (ha:at'<=s.size) (w:World) (a:Int) (abd:a=(at':Int)) {R:EW} (hR:R (.returned (.string (s.extract at' (Tok.stop p s at')))) w):
  Calls prog 274 #[.string s,.int .i64 a,.func (.func F) #[] #[]] w R:=by
 subst abd;have HF:=qh @hf;have HR:=qh hR;clear hf hR;go_in;go_wp2_with fail;go_loop [7] (λi=>∃k:Nat,at'<=k/\k<=s.size/\i=.int .i64 k/\Tok.stop p s k=Tok.stop p s at') (λi=>s.size-(intOf i).toNat)
 case atStart=>exact⟨at',nR _,ha,rfl,rfl⟩
 case round=>
  obtain⟨k,Eh,wY,rfl,he⟩:=hrel;have HE:=qh he;clear he;by_cases a_:k<s.size
  ·go_wp2_with(with_reducible refine HF.o _ _ ?_)
   ·have hp:p s[k]=true:=by assumption
    go_round
    case rel=>exact⟨k+1,by omega,by omega,by go_num,by rw[oy a_ hp,HE.o]⟩
    case measure=>simp[intOf];omega
   ·have hp:p s[k]=false:=by assumption
    refine jc HR.o ?_;rw[<-HE.o,GK a_ hp]<;>rfl
  ·go_wp2_with fail;refine jc HR.o ?_;rw[<-HE.o,Lh (by omega)]<;>rfl
end Go.Proofs.YtdlbhiaceheffabGreatDoor
namespace Go.Proofs
open Go.Shelf
def Tryz.lays137_ren:Go.Shelf.Ren:=⟨λ|137=>278|217=>316|266=>333|n=>n,λ|9=>9|5=>5|3=>3|n=>n,λ|n=>n⟩
theorem Tryz.lays137:Go.Proofs.Lays.n137 Tryz.prog Tryz.lays137_ren:={
 mixed:=by kernel_rfl
 f137:=Tryz.func278.trans (congrArg some (by kernel_rfl))
 f217:=Tryz.func316.trans (congrArg some (by kernel_rfl))
 f266:=Tryz.func333.trans (congrArg some (by kernel_rfl))
 t3:=Tryz.underlying3
 a3:=Tryz.isAgg3
 z3:=Tryz.sizeOf3
 v3:=Tryz.zeroValue3
 t5:=Tryz.underlying5
 a5:=Tryz.isAgg5
 z5:=Tryz.sizeOf5
 v5:=Tryz.zeroValue5
 t9:=Tryz.underlying9
 a9:=Tryz.isAgg9
 z9:=Tryz.sizeOf9
 v9:=Tryz.zeroValue9}
open Go.RowKit in
theorem Tryz.strings_IndexByte(s:ByteArray)(c:Int)(w:World):
  Calls Tryz.prog 278 #[.string s,.int .u8 c] w λe w'=>e=.returned (.int .i64 (Lib.indexByte s.data.toList c.toNat.toUInt8))/\w'=w:=Any.strings_IndexByte Tryz.lays137 s c w
def Tryz.lays215_ren:Go.Shelf.Ren:=⟨λ|215=>168|n=>n,λ|3=>3|4=>4|n=>n,λ|n=>n⟩
def Tryz.lays122_ren:Go.Shelf.Ren:=⟨λ|122=>98|215=>168|n=>n,λ|3=>3|4=>4|n=>n,λ|n=>n⟩
theorem Tryz.lays122:Go.Proofs.Lays.n122 Tryz.prog Tryz.lays122_ren:={
 mixed:=by kernel_rfl
 f122:=Tryz.func98.trans (congrArg some (by kernel_rfl))
 f215:=Tryz.func168.trans (congrArg some (by kernel_rfl))
 t3:=Tryz.underlying3
 a3:=Tryz.isAgg3
 z3:=Tryz.sizeOf3
 v3:=Tryz.zeroValue3
 t4:=Tryz.underlying4
 a4:=Tryz.isAgg4
 z4:=Tryz.sizeOf4
 v4:=Tryz.zeroValue4}
open Go.RowKit in
theorem Tryz.cmp_Compare_int(x y:Int)(w:World):
  Calls Tryz.prog 98 #[.int .i64 x,.int .i64 y] w λe w'=>e=.returned (.int .i64 (Lib.compareInt x y))/\w'=w:=Any.cmp_Compare_int Tryz.lays122 x y w
def Tryz.lays172_ren:Go.Shelf.Ren:=⟨λ|172=>345|244=>354|245=>355|247=>360|279=>361|280=>362|281=>363|282=>364|287=>365|316=>366|171=>193|205=>367|321=>368|322=>369|243=>270|246=>315|283=>329|284=>330|285=>331|286=>332|129=>151|317=>339|318=>340|319=>341|320=>342|337=>352|338=>353|n=>n,λ|9=>9|3=>3|75=>184|76=>185|4=>4|5=>5|167=>317|37=>72|0=>0|85=>318|2=>2|168=>320|53=>211|175=>323|46=>158|210=>327|127=>133|145=>332|143=>330|21=>21|171=>301|173=>303|212=>308|51=>209|20=>20|213=>309|232=>315|233=>316|80=>79|n=>n,λ|15=>5|16=>6|17=>2|18=>3|19=>4|n=>n⟩
theorem Tryz.lays172:Go.Proofs.Lays.n172 Tryz.prog Tryz.lays172_ren:={
 mixed:=by kernel_rfl
 f129:=Tryz.func151.trans (congrArg some (by kernel_rfl))
 f171:=Tryz.func193.trans (congrArg some (by kernel_rfl))
 f172:=Tryz.func345.trans (congrArg some (by kernel_rfl))
 f205:=Tryz.func367.trans (congrArg some (by kernel_rfl))
 f243:=Tryz.func270.trans (congrArg some (by kernel_rfl))
 f244:=Tryz.func354.trans (congrArg some (by kernel_rfl))
 f245:=Tryz.func355.trans (congrArg some (by kernel_rfl))
 f246:=Tryz.func315.trans (congrArg some (by kernel_rfl))
 f247:=Tryz.func360.trans (congrArg some (by kernel_rfl))
 f279:=Tryz.func361.trans (congrArg some (by kernel_rfl))
 f280:=Tryz.func362.trans (congrArg some (by kernel_rfl))
 f281:=Tryz.func363.trans (congrArg some (by kernel_rfl))
 f282:=Tryz.func364.trans (congrArg some (by kernel_rfl))
 f283:=Tryz.func329.trans (congrArg some (by kernel_rfl))
 f284:=Tryz.func330.trans (congrArg some (by kernel_rfl))
 f285:=Tryz.func331.trans (congrArg some (by kernel_rfl))
 f286:=Tryz.func332.trans (congrArg some (by kernel_rfl))
 f287:=Tryz.func365.trans (congrArg some (by kernel_rfl))
 f316:=Tryz.func366.trans (congrArg some (by kernel_rfl))
 f317:=Tryz.func339.trans (congrArg some (by kernel_rfl))
 f318:=Tryz.func340.trans (congrArg some (by kernel_rfl))
 f319:=Tryz.func341.trans (congrArg some (by kernel_rfl))
 f320:=Tryz.func342.trans (congrArg some (by kernel_rfl))
 f321:=Tryz.func368.trans (congrArg some (by kernel_rfl))
 f322:=Tryz.func369.trans (congrArg some (by kernel_rfl))
 f337:=Tryz.func352.trans (congrArg some (by kernel_rfl))
 f338:=Tryz.func353.trans (congrArg some (by kernel_rfl))
 t0:=Tryz.underlying0
 a0:=Tryz.isAgg0
 z0:=Tryz.sizeOf0
 v0:=Tryz.zeroValue0
 t2:=Tryz.underlying2
 a2:=Tryz.isAgg2
 z2:=Tryz.sizeOf2
 v2:=Tryz.zeroValue2
 t3:=Tryz.underlying3
 a3:=Tryz.isAgg3
 z3:=Tryz.sizeOf3
 v3:=Tryz.zeroValue3
 t4:=Tryz.underlying4
 a4:=Tryz.isAgg4
 z4:=Tryz.sizeOf4
 v4:=Tryz.zeroValue4
 t5:=Tryz.underlying5
 a5:=Tryz.isAgg5
 z5:=Tryz.sizeOf5
 v5:=Tryz.zeroValue5
 t9:=Tryz.underlying9
 a9:=Tryz.isAgg9
 z9:=Tryz.sizeOf9
 v9:=Tryz.zeroValue9
 t20:=Tryz.underlying20
 a20:=Tryz.isAgg20
 z20:=Tryz.sizeOf20
 v20:=Tryz.zeroValue20
 t21:=Tryz.underlying21
 a21:=Tryz.isAgg21
 z21:=Tryz.sizeOf21
 v21:=Tryz.zeroValue21
 t37:=Tryz.underlying72
 a37:=Tryz.isAgg72
 z37:=Tryz.sizeOf72
 v37:=Tryz.zeroValue72
 t46:=Tryz.underlying158
 a46:=Tryz.isAgg158
 z46:=Tryz.sizeOf158
 v46:=Tryz.zeroValue158
 t51:=Tryz.underlying209
 a51:=Tryz.isAgg209
 z51:=Tryz.sizeOf209
 v51:=Tryz.zeroValue209
 t53:=Tryz.underlying211
 a53:=Tryz.isAgg211
 z53:=Tryz.sizeOf211
 v53:=Tryz.zeroValue211
 t75:=Tryz.underlying184
 a75:=Tryz.isAgg184
 z75:=Tryz.sizeOf184
 v75:=Tryz.zeroValue184
 t76:=Tryz.underlying185
 a76:=Tryz.isAgg185
 z76:=Tryz.sizeOf185
 v76:=Tryz.zeroValue185
 t85:=Tryz.underlying318
 a85:=Tryz.isAgg318
 z85:=Tryz.sizeOf318
 v85:=Tryz.zeroValue318
 t127:=Tryz.underlying133
 a127:=Tryz.isAgg133
 z127:=Tryz.sizeOf133
 v127:=Tryz.zeroValue133
 t143:=Tryz.underlying330
 a143:=Tryz.isAgg330
 z143:=Tryz.sizeOf330
 v143:=Tryz.zeroValue330
 t145:=Tryz.underlying332
 a145:=Tryz.isAgg332
 z145:=Tryz.sizeOf332
 v145:=Tryz.zeroValue332
 t167:=Tryz.underlying317
 a167:=Tryz.isAgg317
 z167:=Tryz.sizeOf317
 v167:=Tryz.zeroValue317
 t168:=Tryz.underlying320
 a168:=Tryz.isAgg320
 z168:=Tryz.sizeOf320
 v168:=Tryz.zeroValue320
 t171:=Tryz.underlying301
 a171:=Tryz.isAgg301
 z171:=Tryz.sizeOf301
 v171:=Tryz.zeroValue301
 t173:=Tryz.underlying303
 a173:=Tryz.isAgg303
 z173:=Tryz.sizeOf303
 v173:=Tryz.zeroValue303
 t175:=Tryz.underlying323
 a175:=Tryz.isAgg323
 z175:=Tryz.sizeOf323
 v175:=Tryz.zeroValue323
 t210:=Tryz.underlying327
 a210:=Tryz.isAgg327
 z210:=Tryz.sizeOf327
 v210:=Tryz.zeroValue327
 t212:=Tryz.underlying308
 a212:=Tryz.isAgg308
 z212:=Tryz.sizeOf308
 v212:=Tryz.zeroValue308
 t213:=Tryz.underlying309
 a213:=Tryz.isAgg309
 z213:=Tryz.sizeOf309
 t232:=Tryz.underlying315
 a232:=Tryz.isAgg315
 z232:=Tryz.sizeOf315
 v232:=Tryz.zeroValue315
 t233:=Tryz.underlying316
 a233:=Tryz.isAgg316
 z233:=Tryz.sizeOf316
 v233:=Tryz.zeroValue316
 g15:=by kernel_rfl
 g16:=by kernel_rfl
 g17:=by kernel_rfl
 g18:=by kernel_rfl
 g19:=by kernel_rfl}
open Go.RowKit in
theorem Tryz.strconv_Atoi(s:ByteArray)(n:Int)(hl:s.size<=18)(h:Lib.atoi s.data.toList=some n)(w:World):
  Calls Tryz.prog 345 #[.string s] w λe w'=>e=.returned (.tuple #[.int .i64 n,.nilIface])/\∃t,w'=Lib.bytesWorld w 5 t:=Any.strconv_Atoi Tryz.lays172 s n hl h w
def Tryz.lays206_ren:Go.Shelf.Ren:=⟨λ|206=>191|n=>n,λ|9=>9|4=>4|3=>3|n=>n,λ|n=>n⟩
def Tryz.lays99_ren:Go.Shelf.Ren:=⟨λ|99=>124|206=>191|n=>n,λ|9=>9|4=>4|3=>3|n=>n,λ|n=>n⟩
theorem Tryz.lays99:Go.Proofs.Lays.n99 Tryz.prog Tryz.lays99_ren:={
 mixed:=by kernel_rfl
 f99:=Tryz.func124.trans (congrArg some (by kernel_rfl))
 f206:=Tryz.func191.trans (congrArg some (by kernel_rfl))
 t3:=Tryz.underlying3
 a3:=Tryz.isAgg3
 z3:=Tryz.sizeOf3
 v3:=Tryz.zeroValue3
 t4:=Tryz.underlying4
 a4:=Tryz.isAgg4
 z4:=Tryz.sizeOf4
 v4:=Tryz.zeroValue4
 t9:=Tryz.underlying9
 a9:=Tryz.isAgg9
 z9:=Tryz.sizeOf9
 v9:=Tryz.zeroValue9}
open Go.RowKit Go.Lib in
theorem Tryz.strings_HasPrefix(s p:ByteArray)(w:World):
  Calls Tryz.prog 124 #[.string s,.string p] w λe w'=>e=.returned (.bool (Lib.hasPrefix s.data.toList p.data.toList))/\w'=w:=Any.strings_HasPrefix Tryz.lays99 s p w
def Tryz.lays109_ren:Go.Shelf.Ren:=⟨λ|109=>265|n=>n,λ|31=>161|9=>9|3=>3|0=>0|4=>4|n=>n,λ|n=>n⟩
theorem Tryz.lays109:Go.Proofs.Lays.n109 Tryz.prog Tryz.lays109_ren:={
 mixed:=by kernel_rfl
 f109:=Tryz.func265.trans (congrArg some (by kernel_rfl))
 t0:=Tryz.underlying0
 a0:=Tryz.isAgg0
 z0:=Tryz.sizeOf0
 v0:=Tryz.zeroValue0
 t3:=Tryz.underlying3
 a3:=Tryz.isAgg3
 z3:=Tryz.sizeOf3
 v3:=Tryz.zeroValue3
 t4:=Tryz.underlying4
 a4:=Tryz.isAgg4
 z4:=Tryz.sizeOf4
 v4:=Tryz.zeroValue4
 t9:=Tryz.underlying9
 a9:=Tryz.isAgg9
 z9:=Tryz.sizeOf9
 v9:=Tryz.zeroValue9
 t31:=Tryz.underlying161
 a31:=Tryz.isAgg161
 z31:=Tryz.sizeOf161
 v31:=Tryz.zeroValue161}
open Go.Lib in
theorem Tryz.slices_Index_string(b off n c:Nat)(zs:List ByteArray)(x:ByteArray)(w:World)(hz:n<=zs.length)(hbig:n<=9223372036854775807)(hc:∀j,j<zs.length->w.cell? ⟨b,off+j,none⟩=some (.string (zs.getD j ByteArray.empty))):
  Calls Tryz.prog 265 #[.slice (some ⟨b,off,none⟩) n c,.string x] w λe w'=>e=.returned (.int .i64 (Lib.idxOfS (zs.take n) x))/\w'=w:=Any.slices_Index_string Tryz.lays109 b off n c zs x w hz hbig hc
def Tryz.lays110_ren:Go.Shelf.Ren:=⟨λ|110=>279|109=>265|n=>n,λ|31=>161|9=>9|4=>4|3=>3|0=>0|n=>n,λ|n=>n⟩
theorem Tryz.lays110:Go.Proofs.Lays.n110 Tryz.prog Tryz.lays110_ren:={
 mixed:=by kernel_rfl
 f109:=Tryz.func265.trans (congrArg some (by kernel_rfl))
 f110:=Tryz.func279.trans (congrArg some (by kernel_rfl))
 t0:=Tryz.underlying0
 a0:=Tryz.isAgg0
 z0:=Tryz.sizeOf0
 v0:=Tryz.zeroValue0
 t3:=Tryz.underlying3
 a3:=Tryz.isAgg3
 z3:=Tryz.sizeOf3
 v3:=Tryz.zeroValue3
 t4:=Tryz.underlying4
 a4:=Tryz.isAgg4
 z4:=Tryz.sizeOf4
 v4:=Tryz.zeroValue4
 t9:=Tryz.underlying9
 a9:=Tryz.isAgg9
 z9:=Tryz.sizeOf9
 v9:=Tryz.zeroValue9
 t31:=Tryz.underlying161
 a31:=Tryz.isAgg161
 z31:=Tryz.sizeOf161
 v31:=Tryz.zeroValue161}
open Go.Lib in
theorem Tryz.slices_Contains_string(b off n c:Nat)(zs:List ByteArray)(x:ByteArray)(w:World)(hz:n<=zs.length)(hbig:n<=9223372036854775807)(hc:∀j,j<zs.length->w.cell? ⟨b,off+j,none⟩=some (.string (zs.getD j ByteArray.empty))):
  Calls Tryz.prog 279 #[.slice (some ⟨b,off,none⟩) n c,.string x] w λe w'=>e=.returned (.bool (Lib.containsS (zs.take n) x))/\w'=w:=Any.slices_Contains_string Tryz.lays110 b off n c zs x w hz hbig hc
open Go.Lib in
theorem Tryz.slices_Contains_string_empty(a:Option Addr)(c:Nat)(x:ByteArray)(w:World):
  Calls Tryz.prog 279 #[.slice a 0 c,.string x] w λe w'=>e=.returned (.bool false)/\w'=w:=Any.slices_Contains_string_empty Tryz.lays110 a c x w
end Go.Proofs
namespace Go.Proofs.YtdlbhiaceheffabGreatDoor
open Go Go.RowKit Ty Tok Tryz Proofs.Tryz
def Words(w:World):Prop:=∃b off cap:Nat,w.cell? ⟨1,0,none⟩=some (.slice (some ⟨b,off,none⟩) 17 cap)/\∀j,j<17->w.cell? ⟨b,off+j,none⟩=some (.string (Tok.words.getD j ByteArray.empty))
theorem Words.below{w w':World}(h:Words w)(hb:Below w.heap.size w w'):Words w':=by
 obtain⟨b,off,cap,h1,h2⟩:=h;exact⟨b,off,cap,by rw[hb.cell (World.block_lt_of_cell? w _ h1)];exact h1,λj hj=>by rw[hb.cell (World.block_lt_of_cell? w _ (h2 j hj))];exact h2 j hj⟩
theorem C3(s:BA)(w:World)(hw:Words w){R:EW}(hR:R (.returned (.bool (Tok.isWord s))) w):
  Calls prog 276 #[.string s] w R:=by
 have HR:=qh hR;clear hR;obtain⟨b,off,cap,h1,h2⟩:=hw;have hc:=Tryz.slices_Contains_string b off 17 cap Tok.words s w (by decide) (by decide) (λj hj=>h2 j hj);have HC:=qh hc;clear hc h2;go_in;go_wp2_with(go_at_call 279;refine HC.o.mono ?_;rintro e w' ⟨rfl,rfl⟩);have e1:Lib.containsS (Tok.words.take 17) s=Tok.isWord s:=by rw[Bool.eq_iff_iff,DG,Lib.containsS_iff];rfl
 exact jc HR.o (congrArg Value.bool e1)
def cj(t:Tok.Tk):Value:=.agg #[.int .i64 t.kind,.string t.text,.int .i64 t.pos]
theorem Li(s:BA)(k:Nat)(w:World)(hw:Words w)(hs:s.size<=4000)(hk:k<s.size){R:EW}
  (hR:∀w',Below w.heap.size w w'->R (.returned (.tuple #[cj ⟨if Tok.isWord (s.extract k (Tok.stop dP s k))then 2 else 1,s.extract k (Tok.stop dP s k),k⟩,.bool (decide (Tok.stop dP s k-k<=20))])) w'):
  Calls prog 201 #[.string s,.int .i64 k] w R:=by
 have yy:=qh (@yd 275 dP Tryz.call275 GD s k hs (by omega));have HR:=qh hR;have HW:=qh hw;clear hR hw;have hle:=jf dP s k (by omega);have Ry:=fY dP s k;generalize Tok.stop dP s k=e at*
 cases hi:Tok.isWord (s.extract k e);all_goals
  have HI:=qh hi;clear hi;go_in;go_wp2_with(go_at_call 274;refine yy.o _ _ rfl ?_);refine C3 _ _ ?_ ?_
  ·exact HW.o.below (((bR _ _).alloc (nR _) _).alloc (by simp) _)
  rw[HI.o];go_wp2
  go_region
  go_wp2;refine bodyPost_ret ?_ rfl (HR.o _ ?_)
  ·simp[results,results201,go_sem,cj,HI.o];omega
  ·exact((((bR _ _).alloc (nR _) _).alloc (by simp) _).drew)
section
open Go.ChangeShapes Go.WideShapes Go.ChangeAt Go.RowKit Go.Lib
open Go.ChangeMaps (open_string shut_string)
theorem xL:ownKnob prog.godebug=none:=by kernel_rfl
theorem A1:prog.globalNamed "guardrail/token.words" =some 1:=by kernel_rfl
theorem DW: (prog.globals[1]?).map (·.type)=some 161:=by kernel_rfl
theorem yt:prog.cellsOf 9=1:=by kernel_rfl
theorem CK: (Rows.laid_guardrail_token_words:DataW Unit)=.slice (rA.map λl=>.lit (.string l)) []:=rfl
theorem v_{W:World}(h:VarReads prog W "guardrail/token.words" Rows.laid_guardrail_token_words):Words W:=by
 obtain⟨g',t',cs,fuel,p,hg,Wl,WO,hd⟩:=h;obtain rfl:=Option.some.inj (A1.symm.trans hg);obtain rfl:=Option.some.inj (DW.symm.trans Wl);rw[CK]at hd
 rcases open_strings underlying161 underlying9 yt hd with⟨_,hx⟩|⟨a,len,cap,ss,Rl,_,hl,_,Jl,hx,tX,_⟩
 ·cases hx
 simp only[Prod.mk.injEq,DataW.slice.injEq]at hx;obtain⟨⟨PR,Yl⟩,_⟩:=hx;have R5: (ss.take len).map (λs=>s.data.toList)=rA:=by
  have h1: (ss.take len).map (λs=>(DataW.lit (.string s.data.toList):DataW Unit))=rA.map λl=>.lit (.string l):=PR.symm
  have h2:=congrArg (List.map (λd:DataW Unit=>match d with| .lit (.string l)=>l| _=>[])) h1
  simpa [List.map_map,Function.comp_def]using h2
 have hlen: (ss.take len).length=17:=by have:=congrArg List.length R5;simpa [rA]using this
 have LR:ss.length>=17:=by simp at hlen;omega
 have VJ:len=17:=by
  have h3: (ss.drop len).length=0:=by have:=congrArg List.length Yl;simp[strs]at this;simp;omega
  simp at hlen h3;simp at Jl;omega
 subst VJ;have hw:ss.take 17=Tok.words:=by
  unfold Tok.words;rw[<-R5,List.map_map];symm;exact List.map_id'' (λs=>by cases s;rfl) _
 have J6:∀i,i<17->W.cell? (a.add i)=some (.string (Tok.words.getD i ByteArray.empty)):=by
  intro i hi;rw[tX i (by omega),<-hw];simp[List.getD,hi]
 obtain⟨R,o,sR⟩:=a;obtain rfl:sR=none:=by
  have X8:=J6 0 (by omega);have: (Addr.add ⟨R,o,sR⟩ 0)=⟨R,o,sR⟩:=by simp[Addr.add]
  rw[this]at X8
  exact Go.Proofs.cell_spot X8
 refine⟨R,o,cap,?_,λj hj=>?_⟩
 ·rw[World.var?_cell hg WO 0,<-Array.getElem?_toList,Rl];rfl
 ·have:=J6 j hj;rwa [Addr.add_lit]at this
end
section
open Go.ChangeShapes Go.WideShapes Go.ChangeAt Go.RowKit Go.Lib
def TX:Array Value:=(#[0,1,28,2,29,14,24,3,30,22,20,15,25,17,4,8,31,27,13,23,21,19,16,7,26,12,18,6,11,5,10,9]:Array Int).map λn=>.int .u8 n
def S9:Array Value:=(#[0,1,56,2,57,49,28,3,61,58,42,50,38,29,17,4,62,47,59,36,45,43,51,22,53,39,33,30,24,18,12,5,63,55,48,27,60,41,37,16,46,35,44,21,52,32,23,11,54,26,40,15,34,20,31,10,25,14,19,9,13,8,7,6]:Array Int).map λn=>.int .u8 n
def P9:Array Value:=(#[1,10,100,1000,10000,100000,1000000,10000000,100000000,1000000000,10000000000,100000000000,1000000000000,10000000000000,100000000000000,1000000000000000,10000000000000000,100000000000000000,1000000000000000000,10000000000000000000]:Array Int).map λn=>.int .u64 n
def xG(cs:Array Value):Obj->Obj
 | .cells _ t frozen=>.cells cs t frozen
 |o=>o
noncomputable def mE (os:Os):World:=
 let w0:=World.holding prog os ⟨#[],#[],[]⟩
 let n:=w0.heap.size
 {w0 with heap:=(((((((((w0.heap.modify 1 (xG #[.slice (some ⟨n,0,none⟩) 17 17])).modify 3 (xG TX)).modify 4 (xG S9)).modify 2 (xG P9)).modify 6 (xG #[.iface 330 (.pointer (some ⟨n+1,0,none⟩))])).modify 5 (xG #[.iface 330 (.pointer (some ⟨n+2,0,none⟩))])).push (.cells (Tok.words.map Value.string).toArray 9)).push (.cells #[.string ⟨#[118,97,108,117,101,32,111,117,116,32,111,102,32,114,97,110,103,101]⟩] 332)).push (.cells #[.string ⟨#[105,110,118,97,108,105,100,32,115,121,110,116,97,120]⟩] 332))}
end
theorem CT(s:BA)(k:Nat)(w:World)(hs:s.size<=4000)(hk:k<s.size){R:EW}
  (hR:∀w',Below w.heap.size w w'->R (.returned (.tuple #[cj ⟨3,s.extract k (Tok.stop Tok.isDigit s k),k⟩,
   .bool (decide (Tok.stop Tok.isDigit s k-k<=9)&&(decide (Tok.stop Tok.isDigit s k-k=1)||!decide (Tok.byte s k=48)))])) w')
  (hd:Tok.isDigit (Tok.byte s k)=true):
  Calls prog 203 #[.string s,.int .i64 k] w R:=by
 have yy:=qh (@yd 202 Tok.isDigit Tryz.call202 jw s k hs (by omega));have HR:=qh hR;clear hR;have hle:=jf Tok.isDigit s k (by omega);have Yg:k<Tok.stop Tok.isDigit s k:=by
  have:=fY Tok.isDigit s (k+1);rw[oy hk (by rw[<-ef];exact hd)]at this
  omega
 clear hd;generalize Tok.stop Tok.isDigit s k=e at*
 have hx:e-k<=9/\e-k=1\/e-k<=9/\¬e-k=1\/¬e-k<=9:=by omega
 rcases hx with⟨h9,h1⟩|⟨h9,h1⟩|h9
 ·have hb:decide (((e-k:Nat):Int)<=9)=true:=by simp;omega
  have cQ: (((e-k:Nat):Int)==1)=true:=by simp;omega
  go_in;go_wp2_with(go_at_call 274;refine yy.o _ _ rfl ?_)
  go_region
  go_wp2;refine bodyPost_ret ?_ rfl (HR.o _ ?_)
  ·simp[results,results203,go_sem,cj,h1]
  ·exact((((bR _ _).alloc (nR _) _).alloc (by simp) _).drew)
 ·have hb:decide (((e-k:Nat):Int)<=9)=true:=by simp;omega
  have cQ: (((e-k:Nat):Int)==1)=false:=by simp;omega
  have h0:0<e-k:=by omega
  go_in;go_wp2_with(go_at_call 274;refine yy.o _ _ rfl ?_)
  go_region
  go_wp2;refine bodyPost_ret ?_ rfl (HR.o _ ?_)
  ·simp[results,results203,go_sem,cj,h9,h1];rw[x_,Bool.eq_iff_iff];simp[Xa]
  ·exact((((bR _ _).alloc (nR _) _).alloc (by simp) _).drew)
 ·have hb:decide (((e-k:Nat):Int)<=9)=false:=by simp;omega
  go_in;go_wp2_with(go_at_call 274;refine yy.o _ _ rfl ?_)
  go_region
  go_wp2;refine bodyPost_ret ?_ rfl (HR.o _ ?_)
  ·simp[results,results203,go_sem,cj,h9]
  ·exact((((bR _ _).alloc (nR _) _).alloc (by simp) _).drew)
theorem Lq(s:BA)(k:Nat)(w:World)(hs:s.size<=4000)(hk:k<s.size){R:EW}
  (hR:∀w',Below w.heap.size w w'->R (.returned (.tuple #[cj ⟨4,s.extract (k+1) (Tok.stop cZ s (k+1)),k⟩,
   .bool (decide (Tok.stop cZ s (k+1)-(k+1)<=30)&&(decide (Tok.stop cZ s (k+1)<s.size)&&decide (Tok.byte s (Tok.stop cZ s (k+1))=34)))])) w'):
  Calls prog 204 #[.string s,.int .i64 k] w R:=by
 have yy:=qh (@yd 277 cZ Tryz.call277 FP s (k+1) hs (by omega));have HR:=qh hR;clear hR;have hle:=jf cZ s (k+1) (by omega);have Ry:=fY cZ s (k+1);generalize Tok.stop cZ s (k+1)=e at*
 have hx:e-(k+1)<=30/\e<s.size\/e-(k+1)<=30/\¬e<s.size\/¬e-(k+1)<=30:=by omega
 rcases hx with⟨h9,h1⟩|⟨h9,h1⟩|h9
 ·have hb:decide (((e-(k+1):Nat):Int)<=30)=true:=by simp;omega
  have hl:decide ((e:Int)<(s.size:Int))=true:=by simp;omega
  go_in;go_wp2_with(go_at_call 274;refine yy.o _ _ (by omega) ?_);rw[show(k:Int)+1+((e-(k+1):Nat):Int)=(e:Int)from by omega]
  go_region
  go_wp2;refine bodyPost_ret ?_ rfl (HR.o _ ?_)
  ·simp[results,results204,go_sem,cj];rw[<-ef s e h1,Bool.eq_iff_iff];simp[Tl,h1];omega
  ·exact((((bR _ _).alloc (nR _) _).alloc (by simp) _).drew)
 ·have hb:decide (((e-(k+1):Nat):Int)<=30)=true:=by simp;omega
  have hl:decide ((e:Int)<(s.size:Int))=false:=by simp;omega
  go_in;go_wp2_with(go_at_call 274;refine yy.o _ _ (by omega) ?_);rw[show(k:Int)+1+((e-(k+1):Nat):Int)=(e:Int)from by omega]
  go_region
  go_wp2;refine bodyPost_ret ?_ rfl (HR.o _ ?_)
  ·simp[results,results204,go_sem,cj,h1]
  ·exact((((bR _ _).alloc (nR _) _).alloc (by simp) _).drew)
 ·have hb:decide (((e-(k+1):Nat):Int)<=30)=false:=by simp;omega
  go_in;go_wp2_with(go_at_call 274;refine yy.o _ _ (by omega) ?_);rw[show(k:Int)+1+((e-(k+1):Nat):Int)=(e:Int)from by omega]
  go_region
  go_wp2;refine bodyPost_ret ?_ rfl (HR.o _ ?_)
  ·simp[results,results204,go_sem,cj,h9]
  ·exact((((bR _ _).alloc (nR _) _).alloc (by simp) _).drew)
theorem I1:∀n:Fin 256,decide (0<=Lib.indexByte [40,41,123,125,91,93,44,59,58,46,61,60,43,45,42,33,124] (UInt8.ofNat n.val))=vn (UInt8.ofNat n.val):=by decide+kernel
theorem G7(c:UInt8):decide (0<=Lib.indexByte [40,41,123,125,91,93,44,59,58,46,61,60,43,45,42,33,124] c)=vn c:=by
 have h:=I1 ⟨c.toNat,c.toNat_lt⟩
 simpa using h
theorem BB(s:BA)(k:Nat)(w:World)(hs:s.size<=4000)(hk:k<s.size){R:EW}
  (hR:∀w',Below w.heap.size w w'->R (.returned (.tuple #[cj (if Tok.two s k then⟨5,s.extract k (k+2),k⟩else⟨5,s.extract k (k+1),k⟩),.bool (if Tok.two s k then true else vn (Tok.byte s k))])) w'):
  Calls prog 205 #[.string s,.int .i64 k] w R:=by
 have HR:=qh hR;clear hR;have hx:∃p1 p2:Bool,p1=Lib.hasPrefix (List.take (s.size-k) (List.drop k s.data.toList)) [61,61]/\p2=Lib.hasPrefix (List.take (s.size-k) (List.drop k s.data.toList)) [61,62]:=⟨_,_,rfl,rfl⟩
 obtain⟨p1,p2,qK,pe⟩:=hx;have R0:Tok.two s k=(p1||p2):=by rw[qK,pe,kC,Pe];rfl
 have TU:p1=true->s.extract k (k+2)=⟨#[61,61]⟩:=λh=>zI s k 61 61 (by rw[<-h,qK,kC];rfl)
 have T_:p2=true->s.extract k (k+2)=⟨#[61,62]⟩:=λh=>zI s k 61 62 (by rw[<-h,pe,kC];rfl)
 have UA:=qh qK;have KV:=qh pe;have HT:=qh R0;have ru:=qh TU;have fR:=qh T_;clear qK pe R0 TU T_;go_in;go_wp2_with fail;go_loop [10] (λi=>∃n:Nat,n<=2/\i=.int .i64 n/\(1<=n->p1=false)/\(2<=n->p2=false)) (λi=>2-(intOf i).toNat)
 case atStart=>exact⟨0,by omega,rfl,by omega,by omega⟩
 case round=>
  obtain⟨n,hn,rfl,h1,h2⟩:=hrel;have abX:n=0\/n=1\/n=2:=by omega
  rcases abX with rfl|rfl|rfl
  ·go_wp2_with(go_at_call 124;refine(Tryz.strings_HasPrefix _ _ _).mono ?_;rintro e w' ⟨rfl,rfl⟩)
   ·have hp:p1=true:=by rw[UA.o];assumption
    refine bodyPost_ret ?_ rfl (HR.o _ ?_)
    ·simp[results,results205,go_sem,cj,HT.o,hp,ru.o hp]
    ·exact((bR _ _).alloc (nR _) _).alloc (by simp) _
   ·have hp:p1=false:=by rw[UA.o];assumption
    refine⟨⟨1,by omega,rfl,λ_=>hp,by omega⟩,by simp[intOf]⟩
  ·go_wp2_with(go_at_call 124;refine(Tryz.strings_HasPrefix _ _ _).mono ?_;rintro e w' ⟨rfl,rfl⟩)
   ·have hp:p2=true:=by rw[KV.o];assumption
    refine bodyPost_ret ?_ rfl (HR.o _ ?_)
    ·simp[results,results205,go_sem,cj,HT.o,hp,fR.o hp]
    ·exact((bR _ _).alloc (nR _) _).alloc (by simp) _
   ·have hp:p2=false:=by rw[KV.o];assumption
    refine⟨⟨2,by omega,rfl,λ_=>h1 (by omega),λ_=>hp⟩,by simp[intOf]⟩
  ·have e1:=h1 (by omega);have e2:=h2 (by omega);clear h1 h2 hn;subst e1 e2;go_wp2_with fail;have w1:IntKind.i64.wrap ((k:Int)+1)=(k:Int)+1:=IntWalk.i64_in _ (by omega);have w2:0<=(k:Int)+1:=by omega
   have w3: ((k:Int)+1).toNat=k+1:=by omega
   have w4: (k:Int)+1<=(s.size:Int):=by omega
   have w5:¬(s.size:Int)<(k:Int)+1:=by omega
   have w6:k<=k+1:=by omega
   have w7:k+1<=s.size:=by omega
   have Hz:∀W:World,(Instr.slice 9 (.string s) (some (.int .i64 (k:Int))) (some (.int .i64 ((k:Int)+1))) none).run prog W=.ok (.string (s.extract k (k+1))) W:=by
    intro W;simp[Instr.slice,Instr.sliceBounds,Instr.sliceBound,asIntOf,w2,w3,w4,go_sem]
   clear w4 w5 w6 w7
   go_region_with (go_at_call 278;refine(Tryz.strings_IndexByte _ _ _).mono ?_;rintro e w' ⟨rfl,rfl⟩)
   go_wp2;refine bodyPost_ret ?_ rfl (HR.o _ ?_)
   ·simp[results,results205,go_sem,cj,HT.o,Act.put,-Bool.or_self];rw[<-ef s k hk];exact G7 _
   ·exact((((bR _ _).alloc (nR _) _).alloc (by simp) _).drew)
theorem ei(w:World)(o:Obj):Below w.heap.size w (w.alloc o):=(bR _ _).alloc (nR _) _
theorem cell_of_block{w:World}{b:Nat}{cs:Array Value}{t:TypeId}{fz:Nat×Nat}(h:w.heap[b]?=some (.cells cs t fz))(o:Nat):w.cell? ⟨b,o,none⟩=cs[o]?:=by
 simp[World.cell?,h]
theorem cP{w:World}{b:Nat}{cs:Array Value}{t:TypeId}(h:w.heap[b]?=some (.cells cs t (0,0)))(o:Nat):w.frozen? ⟨b,o,none⟩=false:=by
 simp[World.frozen?,h]
theorem Y1(c:UInt8)(b:Bool)(h:decide (c=34)=b): ((c.toNat:Int)==34)=b:=by
 rw[<-h,Bool.eq_iff_iff];simp[Tl]
theorem Jh(s:BA)(k kd:Nat)(tx:BA)(ok:Bool)(w:World)(XH:s.size<=4000)(hk:k<s.size)(Xw:tx.size<=4000)
  (hN:∀(w1:World)(R:EW),Below w.heap.size w w1->(∀w',Below w1.heap.size w1 w'->R (.returned (.tuple #[cj ⟨kd,tx,k⟩,.bool ok])) w')->Calls prog 201 #[.string s,.int .i64 k] w1 R)
  (hl:eN (Tok.byte s k)=true) {R:EW}
  (hR:∀w',Below w.heap.size w w'->R (.returned (.tuple #[cj ⟨kd,tx,k⟩,.int .i64 tx.size,.bool ok])) w'):
  Calls prog 129 #[.string s,.int .i64 k] w R:=by
 have HR:=qh hR;have HN:=qh hN;rw[ef s k hk]at hl
 have HL:=qh hl;clear hR hl hN;go_in;go_wp2_with fail;refine iE _ _ ?_;rw[HL.o];go_wp2_with fail;refine HN.o _ _ (ei _ _) (λw1 cQ=>?_);dsimp only[cj];have aD:Below w.heap.size w w1:=(ei _ _).trans (cQ.mono (by simp));have hz:w.heap.size<w1.heap.size:=by have:=cQ.size;simp at this;omega
 have hc:w1.heap[w.heap.size]?=some (.cells #[.int .i64 0,.string ⟨#[]⟩,.int .i64 0] 138 (0,0)):=by
  rw[cQ.block _ (by simp)];exact heap_alloc_new w _
 have c0:w1.cell? ⟨w.heap.size,0,none⟩=some (.int .i64 0):=by rw[cell_of_block hc];rfl
 have c1:w1.cell? ⟨w.heap.size,1,none⟩=some (.string ⟨#[]⟩):=by rw[cell_of_block hc];rfl
 have c2:w1.cell? ⟨w.heap.size,2,none⟩=some (.int .i64 0):=by rw[cell_of_block hc];rfl
 have f0:∀o,w1.frozen? ⟨w.heap.size,o,none⟩=false:=λo=>cP hc o
 have c9:=qh aD;clear cQ hc aD;go_wp2_with fail
 go_region
 go_wp2_with fail;refine bodyPost_ret ?_ rfl (HR.o _ ?_)
 ·simp[results,results129,go_sem,cj,c0,c1,c2,hz]
 ·repeat' (first|exact c9.o|apply Below.drew|apply Below.setCell|apply Below.alloc|(simp;done)|(simp;omega))
theorem Cm(s:BA)(k kd:Nat)(tx:BA)(ok:Bool)(w:World)(XH:s.size<=4000)(hk:k<s.size)(Xw:tx.size<=4000)
  (hN:∀(w1:World)(R:EW),Below w.heap.size w w1->(∀w',Below w1.heap.size w1 w'->R (.returned (.tuple #[cj ⟨kd,tx,k⟩,.bool ok])) w')->Calls prog 203 #[.string s,.int .i64 k] w1 R)
  (hl:eN (Tok.byte s k)=false/\Tok.isDigit (Tok.byte s k)=true) {R:EW}
  (hR:∀w',Below w.heap.size w w'->R (.returned (.tuple #[cj ⟨kd,tx,k⟩,.int .i64 tx.size,.bool ok])) w'):
  Calls prog 129 #[.string s,.int .i64 k] w R:=by
 have HR:=qh hR;have HN:=qh hN;rw[ef s k hk]at hl
 have HL:=qh hl;clear hR hl hN;go_in;go_wp2_with fail;refine iE _ _ ?_;rw[HL.o.1];go_wp2_with fail;refine jw _ _ ?_;rw[HL.o.2];go_wp2_with fail;refine HN.o _ _ (ei _ _) (λw1 cQ=>?_);dsimp only[cj];have aD:Below w.heap.size w w1:=(ei _ _).trans (cQ.mono (by simp));have hz:w.heap.size<w1.heap.size:=by have:=cQ.size;simp at this;omega
 have hc:w1.heap[w.heap.size]?=some (.cells #[.int .i64 0,.string ⟨#[]⟩,.int .i64 0] 138 (0,0)):=by
  rw[cQ.block _ (by simp)];exact heap_alloc_new w _
 have c0:w1.cell? ⟨w.heap.size,0,none⟩=some (.int .i64 0):=by rw[cell_of_block hc];rfl
 have c1:w1.cell? ⟨w.heap.size,1,none⟩=some (.string ⟨#[]⟩):=by rw[cell_of_block hc];rfl
 have c2:w1.cell? ⟨w.heap.size,2,none⟩=some (.int .i64 0):=by rw[cell_of_block hc];rfl
 have f0:∀o,w1.frozen? ⟨w.heap.size,o,none⟩=false:=λo=>cP hc o
 have c9:=qh aD;clear cQ hc aD;go_wp2_with fail
 go_region
 go_wp2_with fail;refine bodyPost_ret ?_ rfl (HR.o _ ?_)
 ·simp[results,results129,go_sem,cj,c0,c1,c2,hz]
 ·repeat' (first|exact c9.o|apply Below.drew|apply Below.setCell|apply Below.alloc|(simp;done)|(simp;omega))
theorem KE(s:BA)(k kd:Nat)(tx:BA)(ok:Bool)(w:World)(XH:s.size<=4000)(hk:k<s.size)(Xw:tx.size<=4000)
  (hN:∀(w1:World)(R:EW),Below w.heap.size w w1->(∀w',Below w1.heap.size w1 w'->R (.returned (.tuple #[cj ⟨kd,tx,k⟩,.bool ok])) w')->Calls prog 204 #[.string s,.int .i64 k] w1 R)
  (hl:eN (Tok.byte s k)=false/\Tok.isDigit (Tok.byte s k)=false/\decide (Tok.byte s k=34)=true) {R:EW}
  (hR:∀w',Below w.heap.size w w'->R (.returned (.tuple #[cj ⟨kd,tx,k⟩,.int .i64 (tx.size+2:Nat),.bool ok])) w'):
  Calls prog 129 #[.string s,.int .i64 k] w R:=by
 have HR:=qh hR;have HN:=qh hN;rw[ef s k hk]at hl
 have HL:=qh hl;clear hR hl hN;go_in;go_wp2_with fail;have hq:=Y1 _ _ HL.o.2.2;refine iE _ _ ?_;rw[HL.o.1];go_wp2_with fail;refine jw _ _ ?_;rw[HL.o.2.1];go_wp2_with fail;refine HN.o _ _ (ei _ _) (λw1 cQ=>?_);dsimp only[cj];have aD:Below w.heap.size w w1:=(ei _ _).trans (cQ.mono (by simp));have hz:w.heap.size<w1.heap.size:=by have:=cQ.size;simp at this;omega
 have hc:w1.heap[w.heap.size]?=some (.cells #[.int .i64 0,.string ⟨#[]⟩,.int .i64 0] 138 (0,0)):=by
  rw[cQ.block _ (by simp)];exact heap_alloc_new w _
 have c0:w1.cell? ⟨w.heap.size,0,none⟩=some (.int .i64 0):=by rw[cell_of_block hc];rfl
 have c1:w1.cell? ⟨w.heap.size,1,none⟩=some (.string ⟨#[]⟩):=by rw[cell_of_block hc];rfl
 have c2:w1.cell? ⟨w.heap.size,2,none⟩=some (.int .i64 0):=by rw[cell_of_block hc];rfl
 have f0:∀o,w1.frozen? ⟨w.heap.size,o,none⟩=false:=λo=>cP hc o
 have c9:=qh aD;clear cQ hc aD;go_wp2_with fail
 go_region
 go_wp2_with fail;refine bodyPost_ret ?_ rfl (HR.o _ ?_)
 ·simp[results,results129,go_sem,cj,c0,c1,c2,hz]
 ·repeat' (first|exact c9.o|apply Below.drew|apply Below.setCell|apply Below.alloc|(simp;done)|(simp;omega))
theorem Ax(s:BA)(k kd:Nat)(tx:BA)(ok:Bool)(w:World)(XH:s.size<=4000)(hk:k<s.size)(Xw:tx.size<=4000)
  (hN:∀(w1:World)(R:EW),Below w.heap.size w w1->(∀w',Below w1.heap.size w1 w'->R (.returned (.tuple #[cj ⟨kd,tx,k⟩,.bool ok])) w')->Calls prog 205 #[.string s,.int .i64 k] w1 R)
  (hl:eN (Tok.byte s k)=false/\Tok.isDigit (Tok.byte s k)=false/\decide (Tok.byte s k=34)=false) {R:EW}
  (hR:∀w',Below w.heap.size w w'->R (.returned (.tuple #[cj ⟨kd,tx,k⟩,.int .i64 tx.size,.bool ok])) w'):
  Calls prog 129 #[.string s,.int .i64 k] w R:=by
 have HR:=qh hR;have HN:=qh hN;rw[ef s k hk]at hl
 have HL:=qh hl;clear hR hl hN;go_in;go_wp2_with fail;have hq:=Y1 _ _ HL.o.2.2;refine iE _ _ ?_;rw[HL.o.1];go_wp2_with fail;refine jw _ _ ?_;rw[HL.o.2.1];go_wp2_with fail;refine HN.o _ _ (ei _ _) (λw1 cQ=>?_);dsimp only[cj];have aD:Below w.heap.size w w1:=(ei _ _).trans (cQ.mono (by simp));have hz:w.heap.size<w1.heap.size:=by have:=cQ.size;simp at this;omega
 have hc:w1.heap[w.heap.size]?=some (.cells #[.int .i64 0,.string ⟨#[]⟩,.int .i64 0] 138 (0,0)):=by
  rw[cQ.block _ (by simp)];exact heap_alloc_new w _
 have c0:w1.cell? ⟨w.heap.size,0,none⟩=some (.int .i64 0):=by rw[cell_of_block hc];rfl
 have c1:w1.cell? ⟨w.heap.size,1,none⟩=some (.string ⟨#[]⟩):=by rw[cell_of_block hc];rfl
 have c2:w1.cell? ⟨w.heap.size,2,none⟩=some (.int .i64 0):=by rw[cell_of_block hc];rfl
 have f0:∀o,w1.frozen? ⟨w.heap.size,o,none⟩=false:=λo=>cP hc o
 have c9:=qh aD;clear cQ hc aD;go_wp2_with fail
 go_region
 go_wp2_with fail;refine bodyPost_ret ?_ rfl (HR.o _ ?_)
 ·simp[results,results129,go_sem,cj,c0,c1,c2,hz]
 ·repeat' (first|exact c9.o|apply Below.drew|apply Below.setCell|apply Below.alloc|(simp;done)|(simp;omega))
theorem size_extract_le(s:BA)(a b:Nat): (s.extract a b).size<=s.size:=by simp;omega
theorem Ng(s:BA)(k:Nat)(w:World)(hw:Words w)(hs:s.size<=4000)(hk:k<s.size){R:EW}
  (hR:∀w',Below w.heap.size w w'->R (.returned (.tuple #[cj (Tok.next s k).1,.int .i64 (Tok.next s k).2.1,.bool (Tok.next s k).2.2])) w'):
  Calls prog 129 #[.string s,.int .i64 k] w R:=by
 unfold Tok.next at hR;cases hl:eN (Tok.byte s k)
 ·cases hd:Tok.isDigit (Tok.byte s k)
  ·cases hq:decide (Tok.byte s k=34)
   ·have U6:¬Tok.byte s k=34:=of_decide_eq_false hq;cases ht:Tok.two s k
    ·simp only[hl,hd,U6,ht,Bool.false_eq_true,if_false]at hR;have e: ((s.extract k (k+1)).size:Int)=((1:Nat):Int):=by congr 1;simp;omega
     refine Ax s k 5 (s.extract k (k+1)) (vn (Tok.byte s k)) w hs hk (nT (size_extract_le _ _ _) hs) (λw1 R hb h=>?_) ⟨hl,hd,hq⟩ (λw' hb=>?_)
     ·exact BB s k w1 hs hk (by simpa [ht]using h)
     ·rw[e];exact hR w' hb
    ·simp only[hl,hd,U6,ht,Bool.false_eq_true,if_false,if_true]at hR;have e: ((s.extract k (k+2)).size:Int)=((2:Nat):Int):=by have:=Az s k ht;congr 1;simp;omega
     refine Ax s k 5 (s.extract k (k+2)) true w hs hk (nT (size_extract_le _ _ _) hs) (λw1 R hb h=>?_) ⟨hl,hd,hq⟩ (λw' hb=>?_)
     ·exact BB s k w1 hs hk (by simpa [ht]using h)
     ·rw[e];exact hR w' hb
   ·have U6:Tok.byte s k=34:=of_decide_eq_true hq;simp only[U6,if_true]at hR;have hle:=jf cZ s (k+1) (by omega);have Ry:=fY cZ s (k+1);have e: (((s.extract (k+1) (Tok.stop cZ s (k+1))).size+2:Nat):Int)=((Tok.stop cZ s (k+1)-k+1:Nat):Int):=by congr 1;simp;omega
    refine KE s k 4 (s.extract (k+1) (Tok.stop cZ s (k+1))) (decide (Tok.stop cZ s (k+1)-(k+1)<=30)&&(decide (Tok.stop cZ s (k+1)<s.size)&&decide (Tok.byte s (Tok.stop cZ s (k+1))=34))) w hs hk (nT (size_extract_le _ _ _) hs) (λw1 R hb h=>?_) ⟨hl,hd,hq⟩ (λw' hb=>?_)
    ·exact Lq s k w1 hs hk h
    ·rw[e];exact hR w' hb
  ·simp only[hl,hd,Bool.false_eq_true,if_false,if_true]at hR;have hle:=jf Tok.isDigit s k (by omega);have Ry:=fY Tok.isDigit s k;have e: ((s.extract k (Tok.stop Tok.isDigit s k)).size:Int)=((Tok.stop Tok.isDigit s k-k:Nat):Int):=by congr 1;simp;omega
   refine Cm s k 3 (s.extract k (Tok.stop Tok.isDigit s k)) (decide (Tok.stop Tok.isDigit s k-k<=9)&&(decide (Tok.stop Tok.isDigit s k-k=1)||!decide (Tok.byte s k=48))) w hs hk (nT (size_extract_le _ _ _) hs) (λw1 R hb h=>?_) ⟨hl,hd⟩ (λw' hb=>?_)
   ·exact CT s k w1 hs hk h hd
   ·rw[e];exact hR w' hb
 ·simp only[hl,if_true]at hR;have hle:=jf dP s k (by omega);have Ry:=fY dP s k;have e: ((s.extract k (Tok.stop dP s k)).size:Int)=((Tok.stop dP s k-k:Nat):Int):=by congr 1;simp;omega
  refine Jh s k (if Tok.isWord (s.extract k (Tok.stop dP s k))then 2 else 1) (s.extract k (Tok.stop dP s k)) (decide (Tok.stop dP s k-k<=20)) w hs hk (nT (size_extract_le _ _ _) hs) (λw1 R hb h=>?_) hl (λw' hb=>?_)
  ·exact Li s k w1 (hw.below hb) hs hk h
  ·rw[e];exact hR w' hb
def dN(t:Tok.Tk):List Value:=[.int .i64 t.kind,.string t.text,.int .i64 t.pos]
def km(w:World)(base:Nat)(v:Value)(l:List Tok.Tk):Prop:=w.ownsRow base 138 3 v l.length (l.flatMap dN)
theorem PW: (prog.info? 138).map (λi=>(i.zero,i.size,i.bytes))=some (some (.agg #[.int .i64 0,.string ⟨#[]⟩,.int .i64 0]),3,32):=by kernel_rfl
theorem xl(s:BA)(k:Nat)(h:k<s.size): (Tok.byte s k=32\/Tok.byte s k=10)↔((s[k].toNat:Int)=32\/(s[k].toNat:Int)=10):=by
 rw[<-ef s k h,VP,VD]
theorem ag{w:World}{base:Nat}{e:TypeId}{size:Nat}{v:Value}{n:Nat}{xs:List Value}(h:w.ownsRow base e size v n xs):∃(a:Option Addr)(cap:Nat),v=.slice a n cap:=by
 rcases h.2 with⟨rfl,rfl⟩|⟨g,cap,cur,rfl,_⟩
 ·exact⟨_,_,rfl⟩
 ·exact⟨_,_,rfl⟩
theorem ay{w w':World}{base:Nat}{e:TypeId}{size:Nat}{v:Value}{n:Nat}{xs:List Value}(h:w.ownsRow base e size v n xs)(hb:Below w.heap.size w w'):w'.ownsRow base e size v n xs:=
 h.kept (row:=none) ⟨hb.os,hb.tape,hb.output,hb.size,λk hk _=>hb.block k hk⟩ (by cases v.ownBlock<;>simp)
theorem Ge(s:BA)(w:World)(hm:s.size<=maxLen)(hs:4000<s.size){R:EW}
  (hR:∀w',Below w.heap.size w w'->R (.returned (.tuple #[.slice none 0 0,.agg #[.int .i64 2,.int .i64 0]])) w'):
  Calls prog 72 #[.string s] w R:=by
 have HR:=qh hR;clear hR;unfold maxLen at hm;go_in;go_wp2_with fail;refine bodyPost_ret ?_ rfl (HR.o _ ?_)
 ·simp[results,results72,go_sem]
 ·exact ei _ _
theorem Dq(s:BA)(w:World)(hw:Words w)(hs:s.size<=4000){R:EW}
  (aH:∀l v w',Tok.scan s=.ok l->Below w.heap.size w w'->km w' (w.heap.size+1) v l->R (.returned (.tuple #[v,.agg #[.int .i64 0,.int .i64 0]])) w')
  (au:∀(e p:Nat) w',Tok.scan s=.error (e,p)->Below w.heap.size w w'->R (.returned (.tuple #[.slice none 0 0,.agg #[.int .i64 e,.int .i64 p]])) w'):
  Calls prog 72 #[.string s] w R:=by
 have aX:=qh aH;have aB:=qh au;have HW:=qh hw;clear aH au hw;obtain⟨i0,ti,mM,mL,mK⟩:=info_parts PW;have hE:c_ s (s.size+1) 0 []=Tok.scan s:=by unfold Tok.scan;rw[if_neg (by omega)]
 have HE:=qh hE;clear hE;go_in;go_wp2_with fail;go_loopw [4,5] (λv i wr=>∃(k f:Nat)(l:List Tok.Tk),i=.int .i64 k/\k<=s.size/\s.size<k+f/\Hq (c_ s f k l=Tok.scan s)/\l.length<=1000/\km wr (w.heap.size+1) v l/\Hq (Below w.heap.size w wr)/\w.heap.size<wr.heap.size/\Hq (wr.heap[w.heap.size]?=some (.cells #[.int .i64 0,.int .i64 0] 25 (0,0))))
  (λ_ i _=>s.size-(intOf i).toNat)
 case atStart=>
  exact⟨0,s.size+1,[],rfl,by omega,by omega,HE.o,by simp,World.ownsRow_nil _ _ _ _,ei _ _,by simp,heap_alloc_new w _⟩
 case round=>
  obtain⟨k,f,l,rfl,hk,hf,hE,hl,sT,wC,hz,zT⟩:=hrel;clear HE;by_cases a_:k<s.size
  ·by_cases hb:Tok.byte s k=32\/Tok.byte s k=10
   ·have hB:=hb;rw[xl s k a_]at hb
    have uD:Hq (c_ s (f-1) (k+1) l=Tok.scan s):=by
     rw[<-hE.out];obtain⟨g,rfl⟩:∃g,f=g+1:=⟨f-1,by omega⟩
     simp only[Nat.add_sub_cancel];rw[c_,if_pos a_,if_pos hB];rfl
    clear hB hE;rcases hb with hb|hb
    ·have cQ: ((s[k].toNat:Int)==32)=true:=by simp[hb]
     clear hb;go_wp2_with fail;go_roundw
     case rel=>exact⟨k+1,f-1,l,by go_num,by omega,by omega,uD,hl,sT,wC,hz,zT⟩
     case measure=>simp[intOf];omega
    ·have uC: ((s[k].toNat:Int)==32)=false:=by simp[hb]
     have cQ: ((s[k].toNat:Int)==10)=true:=by simp[hb]
     clear hb;go_wp2_with fail;go_roundw
     case rel=>exact⟨k+1,f-1,l,by go_num,by omega,by omega,uD,hl,sT,wC,hz,zT⟩
     case measure=>simp[intOf];omega
   ·have hB:=hb;rw[xl s k a_]at hb
    have uC: ((s[k].toNat:Int)==32)=false:=by simp;omega
    have cQ: ((s[k].toNat:Int)==10)=false:=by simp;omega
    clear hb;obtain⟨t,n,ok,pJ⟩:∃t n ok,Tok.next s k=(t,n,ok):=⟨_,_,_,rfl⟩
    obtain⟨kd,tx,ps⟩:=t;have uD:Hq (Tok.scan s=if ok=false then .error (1,k)else if l.length=1000 then .error (2,k)else c_ s (f-1) (k+n) (l++[⟨kd,tx,ps⟩])):=by
     rw[<-hE.out];obtain⟨g,rfl⟩:∃g,f=g+1:=⟨f-1,by omega⟩
     rw[c_,if_pos a_,if_neg hB,pJ];rfl
    have hbound:ok=true->1<=n/\k+n<=s.size:=λh=>by
     have:=py s k a_ (by rw[pJ];exact h);rw[pJ]at this;exact this
    have HN:Hq (∀(w1:World)(R:EW),Below w.heap.size w w1->(∀w',Below w1.heap.size w1 w'->R (.returned (.tuple #[cj ⟨kd,tx,ps⟩,.int .i64 n,.bool ok])) w')->Calls prog 129 #[.string s,.int .i64 k] w1 R):=
     λw1 R hb h=>Ng s k w1 (HW.o.below hb) hs a_ (by rw[pJ];exact h)
    clear hB hE pJ;cases ok
    ·go_wp2_with fail;refine HN.o _ _ wC.out (λw1 cQ=>?_);dsimp only[cj];have Kg:=qh (wC.out.trans (cQ.mono (by omega)));have Ep:w.heap.size<w1.heap.size:=by have:=cQ.size;omega
     have hc:w1.heap[w.heap.size]?=some (.cells #[.int .i64 0,.int .i64 0] 25 (0,0)):=by
      rw[cQ.block _ (by omega)];exact zT.out
     have c0:w1.cell? ⟨w.heap.size,0,none⟩=some (.int .i64 0):=by rw[cell_of_block hc];rfl
     have c1:w1.cell? ⟨w.heap.size,1,none⟩=some (.int .i64 0):=by rw[cell_of_block hc];rfl
     have f0:∀o,w1.frozen? ⟨w.heap.size,o,none⟩=false:=λo=>cP hc o
     clear cQ hc zT wC;go_wp2_with fail;refine bodyPost_ret ?_ rfl (aB.o 1 k _ ?_ ?_)
     ·simp[results,results72,go_sem,c0,c1,Ep]
     ·rw[uD.out];rfl
     ·repeat' (first|exact Kg.o|apply Below.drew|apply Below.setCell|apply Below.alloc|(simp;done)|(simp;omega))
    ·obtain⟨W4,zG⟩:=hbound rfl;clear hbound;obtain⟨a,cap,rfl⟩:=ag sT;go_wp2_with fail;refine HN.o _ _ wC.out (λw1 cQ=>?_);dsimp only[cj];have Kg:=qh (wC.out.trans (cQ.mono (by omega)));have Ep:w.heap.size<w1.heap.size:=by have:=cQ.size;omega
     have r_:km w1 (w.heap.size+1) (.slice a l.length cap) l:=ay sT cQ;have hc:w1.heap[w.heap.size]?=some (.cells #[.int .i64 0,.int .i64 0] 25 (0,0)):=by
      rw[cQ.block _ (by omega)];exact zT.out
     have c0:w1.cell? ⟨w.heap.size,0,none⟩=some (.int .i64 0):=by rw[cell_of_block hc];rfl
     have c1:w1.cell? ⟨w.heap.size,1,none⟩=some (.int .i64 0):=by rw[cell_of_block hc];rfl
     have f0:∀o,w1.frozen? ⟨w.heap.size,o,none⟩=false:=λo=>cP hc o
     have CC:=qh r_;have HC:=qh hc;clear cQ hc zT wC sT r_;by_cases cu:l.length=1000
     ·have tP: ((l.length:Int)==1000)=true:=by simp[cu]
      have HL:=qh cu;clear cu;go_wp2_with fail;refine bodyPost_ret ?_ rfl (aB.o 2 k _ ?_ ?_)
      ·simp[results,results72,go_sem,c0,c1,Ep]
      ·rw[uD.out,if_neg (by simp),if_pos HL.o]
      ·repeat' (first|exact Kg.o|apply Below.drew|apply Below.setCell|apply Below.alloc|(simp;done)|(simp;omega))
     ·have tP: ((l.length:Int)==1000)=false:=by simp;omega
      have Up:l.length<1000:=by omega
      clear cu;go_wp2_with(at_builtin;go_loud(refine wpList_append_own _ rfl (.tmp 45) (.tmp 47) 84 rfl (w.heap.size+1) 138 i0 _ 3 32 underlying84 ti mM mL mK rfl (by decide) _ _ _ rfl ((CC.o.alloc _).alloc _) ⟨w1.heap.size+1,0,none⟩ 1 1 [.int .i64 kd,.string tx,.int .i64 ps] rfl rfl ?c1 ?c2 ?c3 ?c4 ?c5 ?_))
      case c1=>
       intro j u hj
       match j,hj with
       |0,hj=>simp at hj;subst hj;simp[Addr.add]
       |1,hj=>simp at hj;subst hj;simp[Addr.add]
       |2,hj=>simp at hj;subst hj;simp[Addr.add]
      case c2=>intro u hu;simp at hu;rcases hu with rfl|rfl|rfl<;>rfl
      case c3=>unfold maxLen;omega
      case c4=>omega
      case c5=>simp;omega
      intro v' w2 Aa iI _;have eg:km w2 (w.heap.size+1) v' (l++[⟨kd,tx,ps⟩]):=by
       have e: (l++[(⟨kd,tx,ps⟩:Tok.Tk)]).flatMap dN=l.flatMap dN++[.int .i64 kd,.string tx,.int .i64 ps]:=by simp[dN]
       unfold km;rw[e,List.length_append];exact Aa
      have kP:=World.ownsRow.lt CC.o;have aD:Below w.heap.size w w2:=((((Kg.o).alloc (by omega) _).alloc (by simp;omega) _).grown iI (by simp;omega) (λj hj=>by have:=(kP j hj).1;omega))
      have Ib:w.heap.size<w2.heap.size:=by have:=iI.size;simp at this;omega
      have TL:w2.heap[w.heap.size]?=some (.cells #[.int .i64 0,.int .i64 0] 25 (0,0)):=by
       rw[iI.block _ (by simp;omega) (λe=>by have:=(kP _ e.symm).1;omega),heap_alloc_old _ _ (by simp;omega),heap_alloc_old _ _ (by omega)];exact HC.o
      have gJ:Hq (c_ s (f-1) (k+n) (l++[⟨kd,tx,ps⟩])=Tok.scan s):=by
       rw[uD.out,if_neg (by simp),if_neg (by omega)];rfl
      have c9:=qh aD;have Us:=qh TL;have Ve:=qh eg;clear Aa iI kP aD TL eg CC HC Kg c0 c1 f0 uD;go_wp2_with fail;go_roundw
      case rel=>exact⟨k+n,f-1,l++[⟨kd,tx,ps⟩],by go_num,by omega,by omega,gJ,by simp;omega,Ve.o,c9,Ib,Us⟩
      case measure=>simp[intOf];omega
  ·have T1:Tok.scan s=.ok (l++[⟨6,⟨#[]⟩,s.size⟩]):=by
    rw[<-hE.out];obtain⟨g,rfl⟩:∃g,f=g+1:=⟨f-1,by omega⟩
    rw[c_,if_neg a_]
   have HF:=qh T1;obtain⟨a,cap,rfl⟩:=ag sT;have CC:=qh sT;clear T1 hE sT;go_wp2_with(at_builtin;go_loud(refine wpList_append_own _ rfl (.tmp 52) (.tmp 56) 84 rfl (w.heap.size+1) 138 i0 _ 3 32 underlying84 ti mM mL mK rfl (by decide) _ _ _ rfl (CC.o.alloc _) ⟨wr.heap.size,0,none⟩ 1 1 [.int .i64 6,.string ⟨#[]⟩,.int .i64 s.size] rfl rfl ?d1 ?d2 ?d3 ?d4 ?d5 ?_))
   case d1=>
    intro j u hj
    match j,hj with
    |0,hj=>simp at hj;subst hj;simp[Addr.add]
    |1,hj=>simp at hj;subst hj;simp[Addr.add]
    |2,hj=>simp at hj;subst hj;simp[Addr.add]
   case d2=>intro u hu;simp at hu;rcases hu with rfl|rfl|rfl<;>rfl
   case d3=>unfold maxLen;omega
   case d4=>omega
   case d5=>simp;omega
   intro v' w2 Aa iI _;have eg:km w2 (w.heap.size+1) v' (l++[⟨6,⟨#[]⟩,s.size⟩]):=by
    have e: (l++[(⟨6,⟨#[]⟩,s.size⟩:Tok.Tk)]).flatMap dN=l.flatMap dN++[.int .i64 6,.string ⟨#[]⟩,.int .i64 s.size]:=by simp[dN]
    unfold km;rw[e,List.length_append];exact Aa
   have kP:=World.ownsRow.lt CC.o;have aD:Below w.heap.size w w2:=(((wC.out).alloc (by omega) _).grown iI (by simp;omega) (λj hj=>by have:=(kP j hj).1;omega))
   have Ib:w.heap.size<w2.heap.size:=by have:=iI.size;simp at this;omega
   have hc:w2.heap[w.heap.size]?=some (.cells #[.int .i64 0,.int .i64 0] 25 (0,0)):=by
    rw[iI.block _ (by simp;omega) (λe=>by have:=(kP _ e.symm).1;omega),heap_alloc_old _ _ (by omega)];exact zT.out
   have c0:w2.cell? ⟨w.heap.size,0,none⟩=some (.int .i64 0):=by rw[cell_of_block hc];rfl
   have c1:w2.cell? ⟨w.heap.size,1,none⟩=some (.int .i64 0):=by rw[cell_of_block hc];rfl
   have f0:∀o,w2.frozen? ⟨w.heap.size,o,none⟩=false:=λo=>cP hc o
   have c9:=qh aD;have Ve:=qh eg;clear Aa iI kP aD hc eg CC wC zT;go_wp2_with fail;refine bodyPost_ret ?_ rfl (aX.o _ v' _ HF.o ?_ ?_)
   ·simp[results,results72,go_sem,c0,c1]
   ·repeat' (first|exact c9.o|apply Below.drew|apply Below.setCell|apply Below.alloc|(simp;done)|(simp;omega))
   ·repeat' (first|exact Ve.o|apply ownsRow_setCell_below|(simp;done))
theorem aR(w:World)(o:Obj)(b:Nat)(h:b=w.heap.size): (w.alloc o).heap[b]?=some o:=by subst h;exact heap_alloc_new w o
theorem d_{w:World}{o:Obj}{b:Nat}(h:w.heap[b]?=some o):w.drew.heap[b]?=some o:=h
theorem xq(a b:BA): (a.toList==b.toList)=true↔a=b:=by
 rw[ByteArray.toList_eq,ByteArray.toList_eq,beq_iff_eq];constructor
 ·intro h;exact ByteArray.ext (Array.ext' h)
 ·rintro rfl;rfl
theorem IP(a b:BA)(h: (a.toList==b.toList)=false):a≠b:=λe=>by
 rw[(xq a b).2 e]at h;exact Bool.noConfusion h
theorem M9(l:List Tok.Tk)(k:Nat)(h:k<l.length): (l.flatMap dN)[k*3]?=some (.int .i64 l[k].kind)/\(l.flatMap dN)[k*3+1]?=some (.string l[k].text)/\(l.flatMap dN)[k*3+2]?=some (.int .i64 l[k].pos):=by
 induction l generalizing k with
 |nil=>simp at h
 |cons a l ih=>
  cases k with
  |zero=>simp[dN]
  |succ k=>
   have:=ih k (by simpa using h);simp only[List.flatMap_cons,List.getElem_cons_succ];refine⟨?_,?_,?_⟩
   ·rw[List.getElem?_append_right (by simp[dN];omega)];rw[show(k+1)*3-(dN a).length=k*3 by simp[dN];omega];exact this.1
   ·rw[List.getElem?_append_right (by simp[dN];omega)];rw[show(k+1)*3+1-(dN a).length=k*3+1 by simp[dN];omega];exact this.2.1
   ·rw[List.getElem?_append_right (by simp[dN];omega)];rw[show(k+1)*3+2-(dN a).length=k*3+2 by simp[dN];omega];exact this.2.2
theorem km.at{w:World}{B:Nat}{v:Value}{l:List Tok.Tk}(h:km w B v l)(bT:l≠[]):
  ∃g cap:Nat,v=.slice (some ⟨g,0,none⟩) l.length cap/\B<=g/\g<w.heap.size/\l.length<=cap/\cap<=maxLen/\∀k(hk:k<l.length),w.cell? ⟨g,k*3,none⟩=some (.int .i64 l[k].kind)/\w.cell? ⟨g,k*3+1,none⟩=some (.string l[k].text)/\w.cell? ⟨g,k*3+2,none⟩=some (.int .i64 l[k].pos):=by
 have hc:=λg=>World.ownsRow.cells (g:=g) h
 have a_:=World.ownsRow.lt h;rcases h.2 with⟨_,h0⟩|⟨g,cap,cur,rfl,hg,hh,hn,hm,_⟩
 ·exact absurd (List.eq_nil_of_length_eq_zero h0) bT
 ·refine⟨g,cap,rfl,hg,(a_ g rfl).2,hn,hm,λk hk=>?_⟩;obtain⟨a1,a2,a3⟩:=M9 l k hk;have e:∀j,(⟨g,0,none⟩:Addr).add j=⟨g,j,none⟩:=λj=>by unfold Addr.add;split<;>simp_all
  refine⟨?_,?_,?_⟩
  ·rw[<-e];exact hc g rfl _ _ a1
  ·rw[<-e];exact hc g rfl _ _ a2
  ·rw[<-e];exact hc g rfl _ _ a3
end Go.Proofs.YtdlbhiaceheffabGreatDoor
