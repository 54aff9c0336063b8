/- Several of my texts in one: Shelf, ArenaA, BuildA, SortA. -/
import Derived.Test.YtnhekaepgpbijaaGreatDoorKAli
import Derived.Shelf.Strings.Builder1
import Derived.Shelf.Strings.Builder2
import Derived.Shelf.Strings.OnBuilder
import Derived.Shelf.Strings.Trim
import Derived.Shelf.Small.Utf8
import Derived.Shelf.Small.Bits
import Derived.Shelf.Small.Strs
import Derived.Shelf.Strings.BuilderF
import Derived.Shelf.Strings.BuilderK
import Derived.Shelf.Strconv.Itoa0
import Derived.Shelf.Strconv.Itoa1
import Derived.Shelf.LaysM
import Derived.Shelf.Strconv.Itoa2
import Derived.Shelf.Strconv.Itoa3
import Derived.Shelf.Strings.Search1
import Derived.Shelf.Strings.Search2
import Derived.Shelf.Strings.Search3
import Derived.Shelf.Strings.Count
import Derived.Shelf.Strings.Shaped
import Derived.Shelf.Strings.Split
import Derived.Shelf.Strings.SplitShaped
import Derived.Shelf.Strings.Runes
import Derived.Shelf.Strings.AsciiSet
import Derived.Shelf.Unicode.DecodeSlow
import Derived.Shelf.Slices.Turned
import Derived.Ground.Names2Prog
import Derived.Shelf.Slices.Clone
import Derived.Test.YtnhekaepgpbijaaGreatDoorProg
import Derived.Test.YtnhekaepgpbijaaGreatDoorKAsG
import Derived.Test.YtnhekaepgpbijaaGreatDoorKChnG
import Derived.Maps.Own
import Derived.Maps.Views
import Derived.DeepKeys4
import Derived.Lib.SmallJoins
import Derived.Lib.ItoaLen
import Derived.Lib.QuietBelow
import Derived.BigRegion
import Derived.Laws.BitsLemmas
set_option linter.unusedVariables false
set_option linter.unusedSimpArgs false
set_option maxHeartbeats 40000000
set_option maxRecDepth 100000
namespace Go.Proofs
open Go.Shelf
def Tryz.lays169_ren:Go.Shelf.Ren:=⟨fun | 169=>183 | n=>n,fun | 70=>255 | 9=>9 | 0=>0 | 72=>257 | 37=>211 | 127=>295 | 3=>3 | 5=>5 | n=>n,fun | n=>n⟩
theorem Tryz.lays169:Go.Proofs.Lays.n169 Tryz.prog Tryz.lays169_ren:={
 mixed:=by kernel_rfl
 f169:=Tryz.func183.trans (congrArg some (by kernel_rfl))
 t0:=Tryz.underlying0
 a0:=Tryz.isAgg0
 z0:=Tryz.sizeOf0
 v0:=Tryz.zeroValue0
 t3:=Tryz.underlying3
 a3:=Tryz.isAgg3
 z3:=Tryz.sizeOf3
 v3:=Tryz.zeroValue3
 t9:=Tryz.underlying9
 a9:=Tryz.isAgg9
 z9:=Tryz.sizeOf9
 v9:=Tryz.zeroValue9
 t37:=Tryz.underlying211
 a37:=Tryz.isAgg211
 z37:=Tryz.sizeOf211
 v37:=Tryz.zeroValue211
 t70:=Tryz.underlying255
 a70:=Tryz.isAgg255
 z70:=Tryz.sizeOf255
 v70:=Tryz.zeroValue255
 t72:=Tryz.underlying257
 a72:=Tryz.isAgg257
 z72:=Tryz.sizeOf257
 v72:=Tryz.zeroValue257
 t127:=Tryz.underlying295
 a127:=Tryz.isAgg295
 z127:=Tryz.sizeOf295
 v127:=Tryz.zeroValue295 }
theorem Tryz.Builder_Extra_169:Builder.Extra Tryz.prog Tryz.lays169_ren:={
 sizeBuilder:=by kernel_rfl
 liesBuilder:=by kernel_rfl
 t5:=Tryz.underlying5
 a5:=Tryz.isAgg5
 z5:=Tryz.sizeOf5
 v5:=Tryz.zeroValue5
 infoByte:=by kernel_rfl
 cellsByte:=by kernel_rfl
 sizeByte:=by kernel_rfl
 neB5:=by decide }
open Go.RowKit in
theorem Tryz.Builder_String_any (B b:Nat) (l:List UInt8) (w:World) (h:Lib.IsBuilder 257 5 B b (Lib.byteCells l) w) (hBw:B<=w.heap.size) :
  Calls Tryz.prog 183 #[.pointer (some ⟨b,0,none⟩)] w fun e w'=>e=.returned (.string ⟨l.toArray⟩)/\Below B w w':=Any.Builder_String_any Tryz.lays169 Tryz.Builder_Extra_169 B b l w h hBw
def Tryz.lays156_ren:Go.Shelf.Ren:=⟨fun | 156=>264 | 165=>300 | 166=>182 | 169=>183 | 240=>246 | 241=>320 | 276=>286 | 277=>340 | n=>n,fun | 31=>22 | 9=>9 | 3=>3 | 4=>4 | 0=>0 | 20=>20 | 72=>257 | 76=>258 | 70=>255 | 37=>211 | 75=>41 | 127=>295 | 164=>297 | 5=>5 | 80=>240 | n=>n,fun | n=>n⟩
theorem Tryz.lays156:Go.Proofs.Lays.n156 Tryz.prog Tryz.lays156_ren:={
 mixed:=by kernel_rfl
 f156:=Tryz.func264.trans (congrArg some (by kernel_rfl))
 f165:=Tryz.func300.trans (congrArg some (by kernel_rfl))
 f166:=Tryz.func182.trans (congrArg some (by kernel_rfl))
 f169:=Tryz.func183.trans (congrArg some (by kernel_rfl))
 f240:=Tryz.func246.trans (congrArg some (by kernel_rfl))
 f241:=Tryz.func320.trans (congrArg some (by kernel_rfl))
 f276:=Tryz.func286.trans (congrArg some (by kernel_rfl))
 f277:=Tryz.func340.trans (congrArg some (by kernel_rfl))
 t0:=Tryz.underlying0
 a0:=Tryz.isAgg0
 z0:=Tryz.sizeOf0
 v0:=Tryz.zeroValue0
 t3:=Tryz.underlying3
 a3:=Tryz.isAgg3
 z3:=Tryz.sizeOf3
 v3:=Tryz.zeroValue3
 t4:=Tryz.underlying4
 a4:=Tryz.isAgg4
 z4:=Tryz.sizeOf4
 v4:=Tryz.zeroValue4
 t9:=Tryz.underlying9
 a9:=Tryz.isAgg9
 z9:=Tryz.sizeOf9
 v9:=Tryz.zeroValue9
 t20:=Tryz.underlying20
 a20:=Tryz.isAgg20
 z20:=Tryz.sizeOf20
 v20:=Tryz.zeroValue20
 t31:=Tryz.underlying22
 a31:=Tryz.isAgg22
 z31:=Tryz.sizeOf22
 v31:=Tryz.zeroValue22
 t37:=Tryz.underlying211
 a37:=Tryz.isAgg211
 z37:=Tryz.sizeOf211
 v37:=Tryz.zeroValue211
 t70:=Tryz.underlying255
 a70:=Tryz.isAgg255
 z70:=Tryz.sizeOf255
 v70:=Tryz.zeroValue255
 t72:=Tryz.underlying257
 a72:=Tryz.isAgg257
 z72:=Tryz.sizeOf257
 v72:=Tryz.zeroValue257
 t75:=Tryz.underlying41
 a75:=Tryz.isAgg41
 z75:=Tryz.sizeOf41
 v75:=Tryz.zeroValue41
 t76:=Tryz.underlying258
 a76:=Tryz.isAgg258
 z76:=Tryz.sizeOf258
 v76:=Tryz.zeroValue258
 t127:=Tryz.underlying295
 a127:=Tryz.isAgg295
 z127:=Tryz.sizeOf295
 v127:=Tryz.zeroValue295
 t164:=Tryz.underlying297
 a164:=Tryz.isAgg297
 z164:=Tryz.sizeOf297
 v164:=Tryz.zeroValue297 }
theorem Tryz.Builder_Extra_156:Builder.Extra Tryz.prog Tryz.lays156_ren:={
 sizeBuilder:=by kernel_rfl
 liesBuilder:=by kernel_rfl
 t5:=Tryz.underlying5
 a5:=Tryz.isAgg5
 z5:=Tryz.sizeOf5
 v5:=Tryz.zeroValue5
 infoByte:=by kernel_rfl
 cellsByte:=by kernel_rfl
 sizeByte:=by kernel_rfl
 neB5:=by decide }
open Go.RowKit in
theorem Tryz.strings_Join_none (a:Option Addr) (c:Nat) (sep:ByteArray) (w:World) :
  Calls Tryz.prog 264 #[.slice a 0 c,.string sep] w fun e w'=>e=.returned (.string ⟨#[]⟩)/\w'=w:=Any.strings_Join_none Tryz.lays156 Tryz.Builder_Extra_156 a c sep w
open Go.RowKit in
theorem Tryz.strings_Join (bk o c:Nat) (xs:List ByteArray) (sep:ByteArray) (w:World) (hcells:∀(j:Nat) x,xs[j]?=some x->w.cell? ⟨bk,o+j,none⟩=some (.string x)) (hbk:bk<w.heap.size) (hN:xs.length<=140737488355328) (hcap:xs.length<=c) (hlen:(Lib.join (xs.map (·.data.toList)) sep.data.toList).length<=140737488355328) :
  Calls Tryz.prog 264 #[.slice (some ⟨bk,o,none⟩) xs.length c,.string sep] w fun e w'=>e=.returned (.string ⟨(Lib.join (xs.map (·.data.toList)) sep.data.toList).toArray⟩)/\Below w.heap.size w w':=Any.strings_Join Tryz.lays156 Tryz.Builder_Extra_156 bk o c xs sep w hcells hbk hN hcap hlen
def Tryz.lays161_ren:Go.Shelf.Ren:=⟨fun | 161=>277 | 231=>306 | 227=>307 | 233=>308 | 235=>309 | 228=>323 | 197=>324 | 151=>325 | 260=>343 | 152=>344 | 137=>354 | 119=>355 | 224=>347 | 225=>346 | 217=>345 | 266=>356 | n=>n,fun | 9=>9 | 4=>4 | 3=>3 | 5=>5 | 117=>356 | 116=>355 | 0=>0 | 124=>359 | 105=>369 | 21=>21 | 119=>391 | 46=>293 | 139=>394 | 138=>393 | n=>n,fun | 3=>7 | 4=>8 | n=>n⟩
theorem Tryz.lays161:Go.Proofs.Lays.n161 Tryz.prog Tryz.lays161_ren:={
 mixed:=by kernel_rfl
 f119:=Tryz.func355.trans (congrArg some (by kernel_rfl))
 f137:=Tryz.func354.trans (congrArg some (by kernel_rfl))
 f151:=Tryz.func325.trans (congrArg some (by kernel_rfl))
 f152:=Tryz.func344.trans (congrArg some (by kernel_rfl))
 f161:=Tryz.func277.trans (congrArg some (by kernel_rfl))
 f197:=Tryz.func324.trans (congrArg some (by kernel_rfl))
 f217:=Tryz.func345.trans (congrArg some (by kernel_rfl))
 f224:=Tryz.func347.trans (congrArg some (by kernel_rfl))
 f225:=Tryz.func346.trans (congrArg some (by kernel_rfl))
 f227:=Tryz.func307.trans (congrArg some (by kernel_rfl))
 f228:=Tryz.func323.trans (congrArg some (by kernel_rfl))
 f231:=Tryz.func306.trans (congrArg some (by kernel_rfl))
 f233:=Tryz.func308.trans (congrArg some (by kernel_rfl))
 f235:=Tryz.func309.trans (congrArg some (by kernel_rfl))
 f260:=Tryz.func343.trans (congrArg some (by kernel_rfl))
 f266:=Tryz.func356.trans (congrArg some (by kernel_rfl))
 t0:=Tryz.underlying0
 a0:=Tryz.isAgg0
 z0:=Tryz.sizeOf0
 v0:=Tryz.zeroValue0
 t3:=Tryz.underlying3
 a3:=Tryz.isAgg3
 z3:=Tryz.sizeOf3
 v3:=Tryz.zeroValue3
 t4:=Tryz.underlying4
 a4:=Tryz.isAgg4
 z4:=Tryz.sizeOf4
 v4:=Tryz.zeroValue4
 t5:=Tryz.underlying5
 a5:=Tryz.isAgg5
 z5:=Tryz.sizeOf5
 v5:=Tryz.zeroValue5
 t9:=Tryz.underlying9
 a9:=Tryz.isAgg9
 z9:=Tryz.sizeOf9
 v9:=Tryz.zeroValue9
 t21:=Tryz.underlying21
 a21:=Tryz.isAgg21
 z21:=Tryz.sizeOf21
 v21:=Tryz.zeroValue21
 t46:=Tryz.underlying293
 a46:=Tryz.isAgg293
 z46:=Tryz.sizeOf293
 v46:=Tryz.zeroValue293
 t105:=Tryz.underlying369
 a105:=Tryz.isAgg369
 z105:=Tryz.sizeOf369
 v105:=Tryz.zeroValue369
 t116:=Tryz.underlying355
 a116:=Tryz.isAgg355
 z116:=Tryz.sizeOf355
 t117:=Tryz.underlying356
 a117:=Tryz.isAgg356
 z117:=Tryz.sizeOf356
 v117:=Tryz.zeroValue356
 t119:=Tryz.underlying391
 a119:=Tryz.isAgg391
 z119:=Tryz.sizeOf391
 t124:=Tryz.underlying359
 a124:=Tryz.isAgg359
 z124:=Tryz.sizeOf359
 v124:=Tryz.zeroValue359
 t138:=Tryz.underlying393
 a138:=Tryz.isAgg393
 z138:=Tryz.sizeOf393
 v138:=Tryz.zeroValue393
 t139:=Tryz.underlying394
 a139:=Tryz.isAgg394
 z139:=Tryz.sizeOf394
 v139:=Tryz.zeroValue394
 g3:=by kernel_rfl
 g4:=by kernel_rfl }
open Go.RowKit in
theorem Tryz.strings_TrimLeft_one (s:ByteArray) (c:UInt8) (hc:c.toNat<128) (w:World) :
  Calls Tryz.prog 277 #[.string s,.string ⟨#[c]⟩] w fun e w'=>e=.returned (.string ⟨(Lib.trimLeftB s.data.toList c).toArray⟩)/\w'=w:=Any.strings_TrimLeft_one Tryz.lays161 s c hc w
def Tryz.lays125_ren:Go.Shelf.Ren:=⟨fun | 125=>319 | 128=>339 | 129=>314 | n=>n,fun | 46=>293 | 3=>3 | 51=>27 | 53=>321 | 4=>4 | 5=>5 | 9=>9 | n=>n,fun | n=>n⟩
theorem Tryz.lays125:Go.Proofs.Lays.n125 Tryz.prog Tryz.lays125_ren:={
 mixed:=by kernel_rfl
 f125:=Tryz.func319.trans (congrArg some (by kernel_rfl))
 f128:=Tryz.func339.trans (congrArg some (by kernel_rfl))
 f129:=Tryz.func314.trans (congrArg some (by kernel_rfl))
 t3:=Tryz.underlying3
 a3:=Tryz.isAgg3
 z3:=Tryz.sizeOf3
 v3:=Tryz.zeroValue3
 t4:=Tryz.underlying4
 a4:=Tryz.isAgg4
 z4:=Tryz.sizeOf4
 v4:=Tryz.zeroValue4
 t5:=Tryz.underlying5
 a5:=Tryz.isAgg5
 z5:=Tryz.sizeOf5
 v5:=Tryz.zeroValue5
 t9:=Tryz.underlying9
 a9:=Tryz.isAgg9
 z9:=Tryz.sizeOf9
 v9:=Tryz.zeroValue9
 t46:=Tryz.underlying293
 a46:=Tryz.isAgg293
 z46:=Tryz.sizeOf293
 v46:=Tryz.zeroValue293
 t51:=Tryz.underlying27
 a51:=Tryz.isAgg27
 z51:=Tryz.sizeOf27
 v51:=Tryz.zeroValue27
 t53:=Tryz.underlying321
 a53:=Tryz.isAgg321
 z53:=Tryz.sizeOf321
 v53:=Tryz.zeroValue321 }
theorem Tryz.bits_Len (x:Int) (w:World) (h0:0<=x) (h1:x<=18446744073709551615) :
  Calls Tryz.prog 319 #[.int .u64 x] w fun e w'=>e=.returned (.int .i64 (Lib.bitLen x.toNat))/\w'=w:=Any.bits_Len Tryz.lays125 x w h0 h1
def Tryz.laysM171_ren:Go.Shelf.Ren:=⟨fun | 171=>93 | 243=>164 | 246=>241 | 283=>280 | 284=>281 | 285=>282 | 286=>283 | 129=>314 | 317=>313 | 318=>315 | 319=>316 | 320=>317 | 337=>329 | 338=>330 | n=>n,fun | 3=>3 | 9=>9 | 2=>2 | 4=>4 | 171=>320 | 0=>0 | 53=>321 | 37=>211 | 5=>5 | 173=>324 | 212=>363 | 51=>27 | 20=>20 | 213=>364 | 46=>293 | 232=>383 | 233=>384 | n=>n,fun | 17=>3 | 18=>5 | 19=>6 | n=>n⟩
theorem Tryz.laysM171:Go.Proofs.LaysM.n171 Tryz.prog Tryz.laysM171_ren:={
 mixed:=by kernel_rfl
 f129:=Tryz.func314.trans (congrArg some (by kernel_rfl))
 f171:=Tryz.func93.trans (congrArg some (by kernel_rfl))
 f243:=Tryz.func164.trans (congrArg some (by kernel_rfl))
 f246:=Tryz.func241.trans (congrArg some (by kernel_rfl))
 f283:=Tryz.func280.trans (congrArg some (by kernel_rfl))
 f284:=Tryz.func281.trans (congrArg some (by kernel_rfl))
 f285:=Tryz.func282.trans (congrArg some (by kernel_rfl))
 f286:=Tryz.func283.trans (congrArg some (by kernel_rfl))
 f317:=Tryz.func313.trans (congrArg some (by kernel_rfl))
 f318:=Tryz.func315.trans (congrArg some (by kernel_rfl))
 f319:=Tryz.func316.trans (congrArg some (by kernel_rfl))
 f320:=Tryz.func317.trans (congrArg some (by kernel_rfl))
 f337:=Tryz.func329.trans (congrArg some (by kernel_rfl))
 f338:=Tryz.func330.trans (congrArg some (by kernel_rfl))
 t0:=Tryz.underlying0
 a0:=Tryz.isAgg0
 z0:=Tryz.sizeOf0
 v0:=Tryz.zeroValue0
 t2:=Tryz.underlying2
 a2:=Tryz.isAgg2
 z2:=Tryz.sizeOf2
 v2:=Tryz.zeroValue2
 t3:=Tryz.underlying3
 a3:=Tryz.isAgg3
 z3:=Tryz.sizeOf3
 v3:=Tryz.zeroValue3
 t4:=Tryz.underlying4
 a4:=Tryz.isAgg4
 z4:=Tryz.sizeOf4
 v4:=Tryz.zeroValue4
 t5:=Tryz.underlying5
 a5:=Tryz.isAgg5
 z5:=Tryz.sizeOf5
 v5:=Tryz.zeroValue5
 t9:=Tryz.underlying9
 a9:=Tryz.isAgg9
 z9:=Tryz.sizeOf9
 v9:=Tryz.zeroValue9
 t20:=Tryz.underlying20
 a20:=Tryz.isAgg20
 z20:=Tryz.sizeOf20
 v20:=Tryz.zeroValue20
 t37:=Tryz.underlying211
 a37:=Tryz.isAgg211
 z37:=Tryz.sizeOf211
 v37:=Tryz.zeroValue211
 t46:=Tryz.underlying293
 a46:=Tryz.isAgg293
 z46:=Tryz.sizeOf293
 v46:=Tryz.zeroValue293
 t51:=Tryz.underlying27
 a51:=Tryz.isAgg27
 z51:=Tryz.sizeOf27
 v51:=Tryz.zeroValue27
 t53:=Tryz.underlying321
 a53:=Tryz.isAgg321
 z53:=Tryz.sizeOf321
 v53:=Tryz.zeroValue321
 t171:=Tryz.underlying320
 a171:=Tryz.isAgg320
 z171:=Tryz.sizeOf320
 v171:=Tryz.zeroValue320
 t173:=Tryz.underlying324
 a173:=Tryz.isAgg324
 z173:=Tryz.sizeOf324
 v173:=Tryz.zeroValue324
 t212:=Tryz.underlying363
 a212:=Tryz.isAgg363
 z212:=Tryz.sizeOf363
 v212:=Tryz.zeroValue363
 t213:=Tryz.underlying364
 a213:=Tryz.isAgg364
 z213:=Tryz.sizeOf364
 t232:=Tryz.underlying383
 a232:=Tryz.isAgg383
 z232:=Tryz.sizeOf383
 v232:=Tryz.zeroValue383
 t233:=Tryz.underlying384
 a233:=Tryz.isAgg384
 z233:=Tryz.sizeOf384
 v233:=Tryz.zeroValue384
 g17:=by kernel_rfl
 g18:=by kernel_rfl
 g19:=by kernel_rfl
 i0:=by kernel_rfl
 i2:=by kernel_rfl
 i3:=by kernel_rfl
 i4:=by kernel_rfl
 i5:=by kernel_rfl
 i9:=by kernel_rfl
 i20:=by kernel_rfl
 i37:=by kernel_rfl
 i46:=by kernel_rfl
 i51:=by kernel_rfl
 i53:=by kernel_rfl
 i171:=by kernel_rfl
 i173:=by kernel_rfl
 i212:=by kernel_rfl
 i232:=by kernel_rfl
 i233:=by kernel_rfl
 m17:=by kernel_rfl
 m18:=by kernel_rfl
 m19:=by kernel_rfl }
open Go.RowKit Go.Sort Go.Lib in
theorem Tryz.strconv_Itoa (n:Int) (h0:-9223372036854775808<=n) (h1:n<=9223372036854775807) (w:World) (htab:Lib.TabIs Tryz.prog w "internal/strconv.uint64pow10" .u64 Lib.pow10Tab) :
  Calls Tryz.prog 93 #[.int .i64 n] w fun e w'=>e=.returned (.string ⟨(Lib.itoa n).toArray⟩)/\∃k os,w'=grow (w.drewN k) os:=Any.strconv_Itoa Tryz.laysM171 n h0 h1 w htab
def Tryz.lays171_ren:Go.Shelf.Ren:=⟨fun | 171=>93 | 243=>164 | 246=>241 | 283=>280 | 284=>281 | 285=>282 | 286=>283 | 129=>314 | 317=>313 | 318=>315 | 319=>316 | 320=>317 | 337=>329 | 338=>330 | n=>n,fun | 3=>3 | 9=>9 | 2=>2 | 4=>4 | 171=>320 | 0=>0 | 53=>321 | 37=>211 | 5=>5 | 173=>324 | 212=>363 | 51=>27 | 20=>20 | 213=>364 | 46=>293 | 232=>383 | 233=>384 | n=>n,fun | 17=>3 | 18=>5 | 19=>6 | n=>n⟩
theorem Tryz.lays171:Go.Proofs.Lays.n171 Tryz.prog Tryz.lays171_ren:={
 mixed:=by kernel_rfl
 f129:=Tryz.func314.trans (congrArg some (by kernel_rfl))
 f171:=Tryz.func93.trans (congrArg some (by kernel_rfl))
 f243:=Tryz.func164.trans (congrArg some (by kernel_rfl))
 f246:=Tryz.func241.trans (congrArg some (by kernel_rfl))
 f283:=Tryz.func280.trans (congrArg some (by kernel_rfl))
 f284:=Tryz.func281.trans (congrArg some (by kernel_rfl))
 f285:=Tryz.func282.trans (congrArg some (by kernel_rfl))
 f286:=Tryz.func283.trans (congrArg some (by kernel_rfl))
 f317:=Tryz.func313.trans (congrArg some (by kernel_rfl))
 f318:=Tryz.func315.trans (congrArg some (by kernel_rfl))
 f319:=Tryz.func316.trans (congrArg some (by kernel_rfl))
 f320:=Tryz.func317.trans (congrArg some (by kernel_rfl))
 f337:=Tryz.func329.trans (congrArg some (by kernel_rfl))
 f338:=Tryz.func330.trans (congrArg some (by kernel_rfl))
 t0:=Tryz.underlying0
 a0:=Tryz.isAgg0
 z0:=Tryz.sizeOf0
 v0:=Tryz.zeroValue0
 t2:=Tryz.underlying2
 a2:=Tryz.isAgg2
 z2:=Tryz.sizeOf2
 v2:=Tryz.zeroValue2
 t3:=Tryz.underlying3
 a3:=Tryz.isAgg3
 z3:=Tryz.sizeOf3
 v3:=Tryz.zeroValue3
 t4:=Tryz.underlying4
 a4:=Tryz.isAgg4
 z4:=Tryz.sizeOf4
 v4:=Tryz.zeroValue4
 t5:=Tryz.underlying5
 a5:=Tryz.isAgg5
 z5:=Tryz.sizeOf5
 v5:=Tryz.zeroValue5
 t9:=Tryz.underlying9
 a9:=Tryz.isAgg9
 z9:=Tryz.sizeOf9
 v9:=Tryz.zeroValue9
 t20:=Tryz.underlying20
 a20:=Tryz.isAgg20
 z20:=Tryz.sizeOf20
 v20:=Tryz.zeroValue20
 t37:=Tryz.underlying211
 a37:=Tryz.isAgg211
 z37:=Tryz.sizeOf211
 v37:=Tryz.zeroValue211
 t46:=Tryz.underlying293
 a46:=Tryz.isAgg293
 z46:=Tryz.sizeOf293
 v46:=Tryz.zeroValue293
 t51:=Tryz.underlying27
 a51:=Tryz.isAgg27
 z51:=Tryz.sizeOf27
 v51:=Tryz.zeroValue27
 t53:=Tryz.underlying321
 a53:=Tryz.isAgg321
 z53:=Tryz.sizeOf321
 v53:=Tryz.zeroValue321
 t171:=Tryz.underlying320
 a171:=Tryz.isAgg320
 z171:=Tryz.sizeOf320
 v171:=Tryz.zeroValue320
 t173:=Tryz.underlying324
 a173:=Tryz.isAgg324
 z173:=Tryz.sizeOf324
 v173:=Tryz.zeroValue324
 t212:=Tryz.underlying363
 a212:=Tryz.isAgg363
 z212:=Tryz.sizeOf363
 v212:=Tryz.zeroValue363
 t213:=Tryz.underlying364
 a213:=Tryz.isAgg364
 z213:=Tryz.sizeOf364
 t232:=Tryz.underlying383
 a232:=Tryz.isAgg383
 z232:=Tryz.sizeOf383
 v232:=Tryz.zeroValue383
 t233:=Tryz.underlying384
 a233:=Tryz.isAgg384
 z233:=Tryz.sizeOf384
 v233:=Tryz.zeroValue384
 g17:=by kernel_rfl
 g18:=by kernel_rfl
 g19:=by kernel_rfl }
open Go.RowKit Go.Sort Go.Lib in
theorem Tryz.strconv_Itoa_small (i:Nat) (hi:i<100) (w:World) :
  Calls Tryz.prog 93 #[.int .i64 i] w fun e w'=>e=.returned (.string ⟨(Lib.decDigits i).toArray⟩)/\w'=w:=Any.strconv_Itoa_small Tryz.lays171 i hi w
def Tryz.lays144_ren:Go.Shelf.Ren:=⟨fun | 144=>302 | 143=>312 | 219=>328 | 217=>345 | 225=>346 | 224=>347 | 267=>348 | 266=>356 | 314=>357 | n=>n,fun | 9=>9 | 4=>4 | 3=>3 | 5=>5 | 46=>293 | 146=>396 | 51=>27 | n=>n,fun | 1=>4 | n=>n⟩
theorem Tryz.lays144:Go.Proofs.Lays.n144 Tryz.prog Tryz.lays144_ren:={
 mixed:=by kernel_rfl
 f143:=Tryz.func312.trans (congrArg some (by kernel_rfl))
 f144:=Tryz.func302.trans (congrArg some (by kernel_rfl))
 f217:=Tryz.func345.trans (congrArg some (by kernel_rfl))
 f219:=Tryz.func328.trans (congrArg some (by kernel_rfl))
 f224:=Tryz.func347.trans (congrArg some (by kernel_rfl))
 f225:=Tryz.func346.trans (congrArg some (by kernel_rfl))
 f266:=Tryz.func356.trans (congrArg some (by kernel_rfl))
 f267:=Tryz.func348.trans (congrArg some (by kernel_rfl))
 f314:=Tryz.func357.trans (congrArg some (by kernel_rfl))
 t3:=Tryz.underlying3
 a3:=Tryz.isAgg3
 z3:=Tryz.sizeOf3
 v3:=Tryz.zeroValue3
 t4:=Tryz.underlying4
 a4:=Tryz.isAgg4
 z4:=Tryz.sizeOf4
 v4:=Tryz.zeroValue4
 t5:=Tryz.underlying5
 a5:=Tryz.isAgg5
 z5:=Tryz.sizeOf5
 v5:=Tryz.zeroValue5
 t9:=Tryz.underlying9
 a9:=Tryz.isAgg9
 z9:=Tryz.sizeOf9
 v9:=Tryz.zeroValue9
 t46:=Tryz.underlying293
 a46:=Tryz.isAgg293
 z46:=Tryz.sizeOf293
 v46:=Tryz.zeroValue293
 t51:=Tryz.underlying27
 a51:=Tryz.isAgg27
 z51:=Tryz.sizeOf27
 v51:=Tryz.zeroValue27
 t146:=Tryz.underlying396
 a146:=Tryz.isAgg396
 z146:=Tryz.sizeOf396
 v146:=Tryz.zeroValue396
 g1:=by kernel_rfl }
open Go.RowKit Go.Lib in
theorem Tryz.strings_Contains_one (s:ByteArray) (c:UInt8) (w:World) :
  Calls Tryz.prog 302 #[.string s,.string ⟨#[c]⟩] w fun e w'=>e=.returned (.bool (decide (0<=Lib.indexByte s.data.toList c)))/\w'=w:=Any.strings_Contains_one Tryz.lays144 s c w
def Tryz.lays146_ren:Go.Shelf.Ren:=⟨fun | 146=>239 | 221=>278 | 268=>310 | 138=>311 | 143=>312 | 195=>326 | 197=>324 | 218=>327 | 219=>328 | 260=>343 | 217=>345 | 225=>346 | 224=>347 | 267=>348 | 266=>356 | 314=>357 | n=>n,fun | 9=>9 | 31=>22 | 3=>3 | 4=>4 | 0=>0 | 105=>369 | 21=>21 | 5=>5 | 46=>293 | 119=>391 | 139=>394 | 138=>393 | 146=>396 | 51=>27 | n=>n,fun | 1=>4 | 3=>7 | 4=>8 | n=>n⟩
theorem Tryz.lays146:Go.Proofs.Lays.n146 Tryz.prog Tryz.lays146_ren:={
 mixed:=by kernel_rfl
 f138:=Tryz.func311.trans (congrArg some (by kernel_rfl))
 f143:=Tryz.func312.trans (congrArg some (by kernel_rfl))
 f146:=Tryz.func239.trans (congrArg some (by kernel_rfl))
 f195:=Tryz.func326.trans (congrArg some (by kernel_rfl))
 f197:=Tryz.func324.trans (congrArg some (by kernel_rfl))
 f217:=Tryz.func345.trans (congrArg some (by kernel_rfl))
 f218:=Tryz.func327.trans (congrArg some (by kernel_rfl))
 f219:=Tryz.func328.trans (congrArg some (by kernel_rfl))
 f221:=Tryz.func278.trans (congrArg some (by kernel_rfl))
 f224:=Tryz.func347.trans (congrArg some (by kernel_rfl))
 f225:=Tryz.func346.trans (congrArg some (by kernel_rfl))
 f260:=Tryz.func343.trans (congrArg some (by kernel_rfl))
 f266:=Tryz.func356.trans (congrArg some (by kernel_rfl))
 f267:=Tryz.func348.trans (congrArg some (by kernel_rfl))
 f268:=Tryz.func310.trans (congrArg some (by kernel_rfl))
 f314:=Tryz.func357.trans (congrArg some (by kernel_rfl))
 t0:=Tryz.underlying0
 a0:=Tryz.isAgg0
 z0:=Tryz.sizeOf0
 v0:=Tryz.zeroValue0
 t3:=Tryz.underlying3
 a3:=Tryz.isAgg3
 z3:=Tryz.sizeOf3
 v3:=Tryz.zeroValue3
 t4:=Tryz.underlying4
 a4:=Tryz.isAgg4
 z4:=Tryz.sizeOf4
 v4:=Tryz.zeroValue4
 t5:=Tryz.underlying5
 a5:=Tryz.isAgg5
 z5:=Tryz.sizeOf5
 v5:=Tryz.zeroValue5
 t9:=Tryz.underlying9
 a9:=Tryz.isAgg9
 z9:=Tryz.sizeOf9
 v9:=Tryz.zeroValue9
 t21:=Tryz.underlying21
 a21:=Tryz.isAgg21
 z21:=Tryz.sizeOf21
 v21:=Tryz.zeroValue21
 t31:=Tryz.underlying22
 a31:=Tryz.isAgg22
 z31:=Tryz.sizeOf22
 v31:=Tryz.zeroValue22
 t46:=Tryz.underlying293
 a46:=Tryz.isAgg293
 z46:=Tryz.sizeOf293
 v46:=Tryz.zeroValue293
 t51:=Tryz.underlying27
 a51:=Tryz.isAgg27
 z51:=Tryz.sizeOf27
 v51:=Tryz.zeroValue27
 t105:=Tryz.underlying369
 a105:=Tryz.isAgg369
 z105:=Tryz.sizeOf369
 v105:=Tryz.zeroValue369
 t119:=Tryz.underlying391
 a119:=Tryz.isAgg391
 z119:=Tryz.sizeOf391
 t138:=Tryz.underlying393
 a138:=Tryz.isAgg393
 z138:=Tryz.sizeOf393
 v138:=Tryz.zeroValue393
 t139:=Tryz.underlying394
 a139:=Tryz.isAgg394
 z139:=Tryz.sizeOf394
 v139:=Tryz.zeroValue394
 t146:=Tryz.underlying396
 a146:=Tryz.isAgg396
 z146:=Tryz.sizeOf396
 v146:=Tryz.zeroValue396
 g1:=by kernel_rfl
 g3:=by kernel_rfl
 g4:=by kernel_rfl }
open Go.RowKit Go.Lib in
theorem Tryz.strings_Split (s sep:ByteArray) (m:Int) (w:World) (hs:s.size<4294967281) (hm:w.cell? ⟨4,0,none⟩=some (.int .i64 m)) (h1:1<=sep.size) :
  Calls Tryz.prog 239 #[.string s,.string sep] w fun e w' =>
   e=.returned (.slice (some ⟨w.heap.size,0,none⟩) (Lib.countB s sep+1) (Lib.countB s sep+1))/\w'=w.alloc (.cells ((Lib.splitB sep 0 (Lib.countB s sep) s).map Value.string).toArray 9):=Any.strings_Split Tryz.lays146 (by kernel_rfl) s sep m w hs hm h1
end Go.Proofs
namespace Go.Proofs.YtnhekaepgpbijaaGreatDoor
open Go.Proofs.Tryz Go.RowKit Go.ChangeShapes Go.WideShapes
variable {b base i k m o size:Nat} {a:Int} {s:ByteArray} {t u:Tm} {js:List Nat} {kl:Lit} {av v:Value} {ns:List Int} {e:TypeId} {row:Option Nat} {p_:Prop} {p:Addr} {cs:Array Value}
theorem VG:laidOutB prog=true:=Z1
theorem xg:Maps.Keyed prog 184:=Maps.Keyed.of_law (deep_law_laid VG (m:=3) Z0 (of_decide_eq_true Z1) Z1 Z1)
def Ms (k a b:Int) (s r:ByteArray):Value:=.agg #[.int .i64 k,.int .i64 a,.int .i64 b,.string s,.string r]
theorem P7 {k b:Int} {r:ByteArray} (j:(Lit.int .i64 k).wf=true) (o:(Lit.int .i64 a).wf=true) (p:(Lit.int .i64 b).wf=true) (q:s.size<=maxLen) (u:r.size<=maxLen):∃kl,keyOf prog 184 (Ms k a b s r)=some kl:=by
 have u1:=underlying184;have v:prog.keyType 184=true:=Z1;have h:prog.cellsOf 184=5:=Z1;have c3:prog.cellsOf 3=1:=Z1;have c9:prog.cellsOf 9=1:=Z1
 obtain ⟨m,z⟩:∃m,prog.types.size=m+1:=⟨prog.types.size - 1,by
  have:0<prog.types.size:=of_decide_eq_true Z1
  omega⟩
 unfold keyOf Ms;simp only [u1,v,Value.formed,h];have A:=underlying3;have C:=underlying9;rw [z];simp [Program.keyLits,u1,A,C,h,c3,c9,j,o,p,q,u,Value.cells]
theorem Tj (w:World):(zeroValue 39).run prog w=.ok (.int .i64 0) w:=Z1
def nH (js:List Nat):ByteArray:=⟨(gZ js).toArray⟩
def Fw (t:Tm) (js:List Nat):Value:=Ms t.k t.a t.b t.s (nH js)
def nX (t:Tm) (js:List Nat) (kl:Lit):Prop:=keyOf prog 184 (Fw t js)=some kl
theorem PE {o:List Nat} (h:Fw t js=Fw u o):t.k=u.k/\t.a=u.a/\t.b=u.b/\t.s=u.s/\js=o:=by
 unfold Fw Ms at h;simp only [Value.agg.injEq,Array.mk.injEq,List.cons.injEq,Value.int.injEq,Value.string.injEq,true_and,and_true] at h;obtain ⟨q,r,v,p,j⟩:=h;refine ⟨Z0,Z0,Z0,p,yM ?_⟩;unfold nH at j;injection j with j;injection j
theorem yV {j:List Nat} (h:nX t js kl) (o:nX u j kl):t.k=u.k/\t.a=u.a/\t.b=u.b/\t.s=u.s/\js=j:=PE (xg.inj h o)
structure Idx (T:List Tm) (D:DataW Unit):Prop where
 isMap:Maps.IsMap D
 yes:∀(i:Nat) (t:Tm) (js:List Nat) (kl:Lit) (zd:DataW Unit),T[i]?=some t->eF T t.l js->nX t js kl->D.atKey kl zd=.lit (.int .i64 i)
 no:∀kl,(∀(i:Nat) (t:Tm) (js:List Nat),T[i]?=some t->eF T t.l js->¬ nX t js kl)->∀zd,D.atKey kl zd=zd
theorem RN:Idx [] (.map []):=⟨⟨[],rfl⟩,fun i t js kl j h=>by simp at h,fun kl _ j=>rfl⟩
theorem MQ (t:Tm):t=.mk t.k t.a t.b t.s t.l:=by cases t;rfl
theorem PN (h:t.k=u.k) (j:t.a=u.a) (o:t.b=u.b) (p:t.s=u.s) (q:t.l=u.l):t=u:=by
 rw [MQ t,MQ u,h,j,o,p,q]
theorem Idx.put {T:List Tm} {D:DataW Unit} (hT:AOK T) (h:Idx T D) (ht:t ∉ T) (F:eF T t.l js) (K:nX t js kl):Idx (T++[t]) (D.put kl (.lit (.int .i64 T.length))):=by
 have key:∀(i:Nat) (u:Tm) (o:List Nat),(T++[t])[i]?=some u->eF (T++[t]) u.l o->(i<T.length/\T[i]?=some u/\eF T u.l o)\/(i=T.length/\u=t/\o=js):=by
  intro i u o hi z;rcases Nat.lt_or_ge i T.length with I | Y
  ·rw [Yn I] at hi
   left;refine ⟨I,hi,?_⟩;unfold eF at z ⊢;rw [<-z];refine List.map_congr_left fun j G=>?_
   have P:(T++[t])[j]?∈u.l.map some:=by
    rw [<-z];exact List.mem_map.2 ⟨j,G,rfl⟩
   obtain ⟨c,X,p⟩:=List.mem_map.1 P;obtain ⟨m,hm,aa⟩:=hT.sub i u hi c X;rcases Nat.lt_or_ge j T.length with Q | Q
   ·rw [Yn Q]
   ·rw [Ys Q] at p
    have U:j - T.length=0:=by
     rcases Nat.eq_zero_or_pos (j - T.length) with C | C
     ·exact C
     ·rw [YJ (by simp;omega)] at p;cases p
    rw [U] at p;simp only [Q1,Option.some.injEq] at p;subst p;exact absurd (Yo aa) ht
  ·rw [Ys Y] at hi
   have U:i - T.length=0:=by
    rcases Nat.eq_zero_or_pos (i - T.length) with C | C
    ·exact C
    ·rw [YJ (by simp;omega)] at hi;cases hi
   rw [U] at hi;simp only [Q1,Option.some.injEq] at hi;subst hi;right;refine ⟨Z0,rfl,?_⟩;have L:js.map (fun j=>(T++[t])[j]?)=o.map (fun j=>(T++[t])[j]?):=(F.pre (List.prefix_append _ _)).trans z.symm
   have h5:∀j∈js,j<T.length:=by
    intro j G
    have P:T[j]?∈t.l.map some:=by
     rw [<-F];exact List.mem_map.2 ⟨j,G,rfl⟩
    obtain ⟨c,_,X⟩:=List.mem_map.1 P;exact (Yx.1 X.symm).1
   clear z F K
   induction js generalizing o with
   | nil=>cases o with
    | nil=>rfl
    | cons k o=>simp at L
   | cons j js ih=>cases o with
    | nil=>simp at L
    | cons k o =>
     simp only [List.map_cons,List.cons.injEq] at L;have A:=h5 j Z3;have r:=L.1;rw [Yn A,Y1 A] at r
     have Z:k<T.length:=by
      rcases Nat.lt_or_ge k T.length with V | V
      ·exact V
      ·rw [Ys V] at r
       have h7:k - T.length=0:=by
        rcases Nat.eq_zero_or_pos (k - T.length) with C | C
        ·exact C
        ·rw [YJ (by simp;omega)] at r;cases r
       rw [h7] at r;simp only [Q1,Option.some.injEq] at r;exact absurd (r ▸ Yf A) ht
     rw [Yn Z] at r;rw [Aq hT (Y1 A) r.symm,ih o L.2 fun j F=>h5 j (by simp [F])]
 refine ⟨h.isMap.put _ _,?_,?_⟩
 ·intro i u o q zd hi z v
  rcases key i u o hi z with ⟨I,hi2,N⟩ | ⟨rfl,rfl,rfl⟩
  ·have J:q≠kl:=by
    rintro rfl;obtain ⟨r,e2,e3,e4,rfl⟩:=yV v K;have:u=t:=PN r e2 e3 e4 (N.back F);subst this;exact ht (Yo hi2)
   rw [Maps.atKey_put_other J];exact h.yes i u o q zd hi2 N v
  ·obtain rfl:q=kl:=by
    unfold nX at K v;rw [K] at v;cases v
    rfl
   rw [Maps.atKey_put_same h.isMap (xg.key K)]
 ·intro q O zd
  have J:q≠kl:=by
   rintro rfl;exact O T.length t js Z3 (F.pre (List.prefix_append _ _)) K
  rw [Maps.atKey_put_other J];exact h.no q (fun i u o hi z=>O i u o (qV (List.prefix_append _ _) hi) (z.pre (List.prefix_append _ _))) zd
section
variable {w : World} {mb n : Nat} {T : List Tm} {D : DataW Unit}
theorem Qf (h:w.ownsMap prog 184 (plainElem prog 39) mb n D) (v:Idx T D) (hi:T[i]?=some t) (z:eF T t.l js) (u:nX t js kl) :
  (Instr.lookup 103 (.map (some mb)) (Fw t js) true).run prog w=.ok (.tuple #[.int .i64 i,.bool true]) w:=by
 obtain ⟨J,q,G,F,_,rfl⟩:=h;rcases Maps.fit_look true xg underlying103 (Tj w) G F u with ⟨_,_,p⟩ | ⟨I,y,_,_,j,r,p,_⟩
 ·have o:=v.yes i t js kl .nil hi z u
  rw [p] at o;cases o
 ·have o:=v.yes i t js kl .nil hi z u
  rw [p] at o;obtain ⟨a,A,C,_⟩:=plainElem_int_inv underlying39 r;rw [C] at o;simp only [DataW.lit.injEq,Lit.int.injEq,true_and] at o;subst o;rw [A] at j;exact j
theorem Qx (h:w.ownsMap prog 184 (plainElem prog 39) mb n D) (L:Idx T D) (G:nX t js kl) (P:eF T t.l js) (Q:t ∉ T) :
  (Instr.lookup 103 (.map (some mb)) (Fw t js) true).run prog w=.ok (.tuple #[.int .i64 0,.bool false]) w:=by
 have A:∀I,D.atKey kl I=I:=L.no kl fun i u X hi N z=>by
  obtain ⟨C,p,J,K,rfl⟩:=yV z G;have:u=t:=PN C p J K (N.back P);subst this;exact Q (Yo hi)
 obtain ⟨V,o,O,F,_,rfl⟩:=h;rcases Maps.fit_look true xg underlying103 (Tj w) O F G with ⟨j,_,_⟩ | ⟨U,y,_,_,j,r,v,_⟩
 ·exact j
 ·have q:=A .nil
  rw [v] at q;obtain ⟨a,C,p,_⟩:=plainElem_int_inv underlying39 r;rw [p] at q;cases q
end
def Ids (w:World) (v:Value) (ns:List Int):Prop:=∃A c,v=.slice A ns.length c/\Sl 0 w 1 A ns.length (ns.map (Value.int .i64))
theorem Ids.below {w w':World} (h:Ids w v ns) (j:Below w.heap.size w w'):Ids w' v ns:=by
 obtain ⟨A,c,e,o⟩:=h;exact ⟨A,c,e,o.below j⟩
theorem Ids.alloc {w:World} (h:Ids w v ns) (o:Obj):Ids (w.alloc o) v ns:=h.below ((Below.refl _ _).alloc (Y2 _) o)
theorem qW (w:World) (c:Nat):Ids w (.slice none 0 c) []:=⟨none,c,rfl,Sl.nil_⟩
theorem AQ {w:World} {n:Nat} (p:n=ns.length) (h:w.ownsRow base e 1 v n (ns.map (Value.int .i64))):Ids w v ns:=by
 subst p;rcases h.2 with ⟨rfl,o⟩ | ⟨g,cap,j,rfl,u,z,q,A⟩
 ·have:ns=[]:=by simpa using o
  subst this;exact qW _ _
 ·have r:=Reads.of_own h
  exact ⟨some ⟨g,0,none⟩,cap,rfl,Sl.of_reads r⟩
def UA (B:Nat) (S:Nat->Prop) (w:World) (T:List Tm) (t:Tm) (us:List Value):Prop :=
 ∃av js,us=[.int .i64 t.k,.int .i64 t.a,.int .i64 t.b,.string t.s,av]/\eF T t.l js/\w.ownsRow B 39 1 av js.length ((js.map Int.ofNat).map (Value.int .i64))/\∀i,av.ownBlock=some i->S i
structure ArX (B:Nat) (w:World) (g:Nat) (T:List Tm) (S:Nat->Prop) (nv sv:Value) (mb:Nat) (rows:List (List Value)) (D:DataW Unit):Prop where
 ok:AOK T
 blk:Blk w g 106 #[nv,sv,.map (some mb)]
 nodes:w.ownsRow B 126 5 nv T.length rows.flatten
 nrows:rows.length=T.length
 node:∀(i:Nat) (t:Tm) (us:List Value),T[i]?=some t->rows[i]?=some us->UA B S w T t us
 sizes:w.ownsRow B 3 1 sv T.length (T.map fun t=>.int .i64 ((enc t).length:Nat))
 map:w.ownsMap prog 184 (plainElem prog 39) mb T.length D
 idx:Idx T D
 sg:S g
 sm:S mb
 sn:∀i,nv.ownBlock=some i->S i
 ss:∀i,sv.ownBlock=some i->S i
 sB:∀i,S i->B<=i
 sL:∀i,S i->i<w.heap.size
def Ar (B:Nat) (w:World) (g:Nat) (T:List Tm) (S:Nat->Prop):Prop:=∃nv sv mb rows D,ArX B w g T S nv sv mb rows D
theorem QX {rows:List (List Value)} (h:∀us∈rows,us.length=k) {f:Nat} (o:f<k):rows.flatten[i*k+f]?=(rows[i]?).bind (·[f]?):=by
 induction rows generalizing i with
 | nil=>simp
 | cons us rows ih =>
  have p:=h us Z3;rw [List.flatten_cons]
  cases i with
  | zero =>
   rw [Nat.zero_mul,Nat.zero_add,Yn Z0];simp
  | succ i =>
   rw [Ys (by rw [Nat.succ_mul];omega),show (i+1)*k+f - us.length=i*k+f by rw [Nat.succ_mul];omega,ih fun us j=>h us (by simp [j])];simp
section
variable {B g mb : Nat} {w : World} {T : List Tm} {S : Nat -> Prop} {nv sv : Value} {rows : List (List Value)} {D : DataW Unit}
theorem ArX.len5 (h:ArX B w g T S nv sv mb rows D):∀us∈rows,us.length=5:=by
 intro us j;obtain ⟨i,hi,rfl⟩:=YM j;obtain ⟨av,js,e,_⟩:=h.node i _ _ (Y1 (by rw [<-h.nrows];exact hi)) (Y1 hi);rw [e];rfl
theorem ArX.nslice (h:ArX B w g T S nv sv mb rows D):∃A c,nv=.slice A T.length c:=by
 rcases h.nodes.2 with ⟨rfl,o⟩ | ⟨p,cap,j,rfl,_⟩
 ·exact ⟨none,0,by rw [o]⟩
 ·exact ⟨_,_,rfl⟩
theorem ArX.sslice (h:ArX B w g T S nv sv mb rows D):∃A c,sv=.slice A T.length c:=by
 rcases h.sizes.2 with ⟨rfl,o⟩ | ⟨p,cap,j,rfl,_⟩
 ·exact ⟨none,0,by rw [o]⟩
 ·exact ⟨_,_,rfl⟩
theorem ArX.cells (h:ArX B w g T S nv sv mb rows D) (hi:T[i]?=some t):∃nb cap av js,nv=.slice (some ⟨nb,0,none⟩) T.length cap/\nb<w.heap.size /\
  w.cell? ⟨nb,i*5,none⟩=some (.int .i64 t.k)/\w.cell? ⟨nb,i*5+1,none⟩=some (.int .i64 t.a)/\w.cell? ⟨nb,i*5+2,none⟩=some (.int .i64 t.b)/\w.cell? ⟨nb,i*5+3,none⟩=some (.string t.s)/\w.cell? ⟨nb,i*5+4,none⟩=some av /\
  eF T t.l js/\Ids w av (js.map Int.ofNat):=by
 have F:=(Yx.1 hi).1;obtain ⟨nb,cap,q,_,o⟩:=h.nodes.form Z0;have p:i<rows.length:=by rw [h.nrows];exact F
 obtain ⟨av,js,e,z,u,_⟩:=h.node i t _ hi (Y1 p);have A:=h.nodes.cells (g:=nb) (by rw [q];rfl)
 have key:∀f,f<5->∀v,rows[i][f]?=some v->w.cell? ⟨nb,i*5+f,none⟩=some v:=by
  intro f C v j;have r:=A (i*5+f) v (by rw [QX h.len5 C,Y1 p];exact j);rwa [cu] at r
 rw [e] at key;exact ⟨nb,cap,av,js,q,o,key 0 Z0 _ rfl,key 1 Z0 _ rfl,key 2 Z0 _ rfl,key 3 Z0 _ rfl,key 4 Z0 _ rfl,z,AQ Z3 u⟩
theorem ArX.size_at (h:ArX B w g T S nv sv mb rows D) (hi:T[i]?=some t):∃sb cap,sv=.slice (some ⟨sb,0,none⟩) T.length cap/\sb<w.heap.size/\w.cell? ⟨sb,i,none⟩=some (.int .i64 ((enc t).length:Nat)):=by
 have q:=(Yx.1 hi).1;obtain ⟨sb,cap,p,_,j⟩:=h.sizes.form Z0;have o:=h.sizes.cells (g:=sb) (by rw [p];rfl) i (.int .i64 ((enc t).length:Nat)) (by rw [Yt,hi];rfl);rw [cu] at o;exact ⟨sb,cap,p,j,o⟩
theorem ArX.kept {w':World} (h:ArX B w g T S nv sv mb rows D) (j:w.grownBy w' row) (o:∀b,row=some b->¬ S b):ArX B w' g T S nv sv mb rows D:=by
 have ne:∀v:Value,(∀i,v.ownBlock=some i->S i)->v.ownBlock=none\/v.ownBlock≠row:=by
  intro v A
  cases e:v.ownBlock with
  | none=>exact .inl rfl
  | some i =>
   right;intro p;exact o i p.symm (A i e)
 have nb:∀b,S b->some b≠row:=fun b r e=>o b e.symm r
 refine ⟨h.ok,h.blk.grown j (nb g h.sg),h.nodes.kept j (ne nv h.sn),h.nrows,fun i t us hi z=>?_,h.sizes.kept j (ne sv h.ss),h.map.kept j (nb mb h.sm),h.idx,h.sg,h.sm,h.sn,h.ss,h.sB,fun i hi=>Yi (h.sL i hi) j.size⟩;obtain ⟨av,js,e,q,u,hs⟩:=h.node i t us hi z;exact ⟨av,js,e,q,u.kept j (ne av hs),hs⟩
end
section
variable {B g : Nat} {w w' : World} {T : List Tm} {S : Nat -> Prop}
theorem Ar.kept (h:Ar B w g T S) (j:w.grownBy w' row) (o:∀b,row=some b->¬ S b):Ar B w' g T S:=by
 obtain ⟨nv,sv,mb,rows,D,h⟩:=h;exact ⟨nv,sv,mb,rows,D,h.kept j o⟩
theorem Ar.below (h:Ar B w g T S) (j:Below w.heap.size w w'):Ar B w' g T S:=h.kept (ag j none) (fun _ e=>Xv)
theorem Ar.ok (h:Ar B w g T S):AOK T:=let ⟨_,_,_,_,_,h⟩:=h;h.ok
theorem Ar.sL (h:Ar B w g T S):∀i,S i->i<w.heap.size:=let ⟨_,_,_,_,_,h⟩:=h;h.sL
theorem Ar.sB (h:Ar B w g T S):∀i,S i->B<=i:=let ⟨_,_,_,_,_,h⟩:=h;h.sB
theorem Ar.sg (h:Ar B w g T S):S g:=let ⟨_,_,_,_,_,h⟩:=h;h.sg
theorem Ar.lt (h:Ar B w g T S):g<w.heap.size:=let ⟨_,_,_,_,_,h⟩:=h;h.blk.lt
theorem Qe (h:Ar B w g T S):Calls prog 181 #[.pointer (some ⟨g,0,none⟩)] w fun e w'=>e=.returned (.int .i64 T.length)/\w=w':=by
 obtain ⟨nv,sv,mb,rows,D,h⟩:=h;obtain ⟨A,c,rfl⟩:=h.nslice;have j:w.cell? ⟨g,0,none⟩=some (.slice A T.length c):=h.blk.cell 0;clear h;go_enter func181,ntmps181;go_wp2;go_ret;exact ⟨rfl,rfl⟩
theorem nQ (h:Ar B w g T S) (n:Int):Calls prog 97 #[.pointer (some ⟨g,0,none⟩),.int .i64 n] w fun e w'=>e=.returned (.bool (arg T n).isSome)/\w=w':=by
 have e:(arg T n).isSome=(decide (0<=n) && decide (n<T.length)):=by
  unfold arg
  by_cases j:0<=n
  ·rw [Y6 j]
   by_cases o:n<T.length
   ·rw [Y1 Z0]
    simp [j,o]
   ·rw [YJ Z0]
    simp [j,o]
  ·rw [Y5 j]
   simp [j]
 rw [e];have H:=hide h;clear h e
 by_cases j:0<=n
 ·go_enter func97,ntmps97
  go_wp2_with (go_at_call 181;refine (Qe H.out).mono ?_;rintro e w1 ⟨rfl,rfl⟩);go_ret;exact ⟨gD (by simp [j]),rfl⟩
 ·go_enter func97,ntmps97
  go_wp2;go_ret;exact ⟨gD (by simp;omega),rfl⟩
end
theorem iH {w:World} {n:Nat} {o:List Value} (h:w.ownsRow base e size v n o):∃A c,v=.slice A n c:=by
 rcases h.2 with ⟨rfl,rfl⟩ | ⟨p,cap,j,rfl,_⟩
 ·exact ⟨none,0,rfl⟩
 ·exact ⟨_,_,rfl⟩
theorem UO:(prog.info? 39).map (fun i=>(i.zero,i.size,i.bytes))=some (some (.int .i64 0),1,8):=Z1
theorem zzc58 (h_:p_:=by
 go_wp2;go_ret
 exact ⟨_,rfl,World.ownsRow_nil _ _ _ _,Below.refl _ _⟩):p_:=h_
theorem zz570 (h_:p_:=by
 rw [Nat.zero_add,YE] at hown;go_wp2;go_ret;refine ⟨v',rfl,hown,?_⟩
 exact ((Below.refl _ w).alloc (Y2 _) _).grown hgrow (by simp) (by rintro k ⟨⟩;exact Y2 _)):p_:=h_
theorem sO {ss:List Int} {w:World} (h:Ids w v ss) (O:ss.length<=8796093022207) :
  Calls prog 100 #[v] w fun e w'=>∃v',e=.returned v'/\w'.ownsRow w.heap.size 39 1 v' ss.length (ss.map (Value.int .i64))/\Below w.heap.size w w':=by
 obtain ⟨A,c,rfl,C⟩:=h;obtain ⟨N,hi,F,G,I⟩:=info_parts UO;have q:∀(w:World) (a:Option Addr) (n c J z:Nat),(binOp .eql 124 (.slice a n c) (.slice none J z)).run prog w=.ok (.bool a.isNone) w:=fun w a n c J z=>Lib.run_eql_slice_nil w _ _ a n c J z underlying124
 cases A with
 | none =>
  have p:ss=[]:=by
   rcases Nat.eq_zero_or_pos ss.length with p | p
   ·exact Yc p
   ·obtain ⟨K,h,_⟩:=C.2 p
    cases h
  subst p;go_enter func100,ntmps100;exact zzc58
 | some K =>
  have r:=(C.alloc (.cells #[] 39)).reads
  have j:∀u∈ss.map (Value.int .i64),u.oneCell'=true:=by
   intro u L;obtain ⟨s,_,rfl⟩:=List.mem_map.1 L;rfl
  have o:=hide j;have Hr:=hide r;clear j r C;go_enter func100,ntmps100;go_wp2_with (at_builtin;refine aB _ rfl (.tmp 5) (.tmp 6) _ rfl w.heap.size 39 N (.int .i64 0) 1 8 underlying124 hi F G I rfl Z2 _ 0 [] rfl (World.ownsRow_made w #[] 0 (Y2 _) (Yb _) Z3) (w.heap.size+1) (some K) ss.length c (ss.map (Value.int .i64)) rfl X5 o.out Ze Z0 Z3 ?_;intro v' w1 hown hgrow _);exact zz570
theorem iZ {w:World} {n:Nat} {p:List Value} (h:w.ownsRow b e size v n p) (A:o<=b):w.ownsRow o e size v n p:=by
 refine ⟨h.1,?_⟩;rcases h.2 with q | ⟨g,cap,j,r,u,z⟩
 ·exact .inl q
 ·exact .inr ⟨g,cap,j,r,Yg A u,z⟩
theorem mH {w:World} {n:Nat} {j:List Value} (h:w.ownsRow b e size v n j) (hp:p.block<b) (u:Value):(w.setCell p u).ownsRow b e size v n j:=by
 have q:w.grownBy (w.setCell p u) (some p.block):=ah (az w _) (.inl rfl) u;refine h.kept q ?_
 cases ev:v.ownBlock with
 | none=>exact .inl rfl
 | some i =>
  right;intro o;have:=(h.lt i ev).1;cases o
  omega
section
variable {B g : Nat} {w : World} {T : List Tm} {S : Nat -> Prop}
theorem kM {n:Int} (h:arg T n=some t):∃i:Nat,n=i/\T[i]?=some t:=by
 unfold arg at h
 split at h
 ·exact ⟨n.toNat,Z0,h⟩
 ·cases h
def isK (T:List Tm) (n k:Int):Bool:=match arg T n with
 | some t=>(t.k:Int) == k
 | none=>false
theorem zzb3d (h_:p_:=by
 go_wp2_with (go_at_call 97;refine H.out.mono ?_;rintro e w1 ⟨rfl,rfl⟩);go_ret
 exact ⟨rfl,rfl⟩):p_:=h_
theorem uN (h:Ar B w g T S) (n k:Int):Calls prog 51 #[.pointer (some ⟨g,0,none⟩),.int .i64 n,.int .i64 k] w fun e w'=>e=.returned (.bool (isK T n k))/\w=w':=by
 have H:=hide (nQ h n);unfold isK
 cases e:arg T n with
 | none =>
  rw [e] at H;clear h e;go_enter func51,ntmps51;exact zzb3d
 | some t =>
  obtain ⟨i,rfl,hi⟩:=kM e;rw [e] at H;obtain ⟨nv,sv,mb,rows,D,h⟩:=h;obtain ⟨nb,cap,av,js,rfl,p,c0,_⟩:=h.cells hi;have q:w.cell? ⟨g,0,none⟩=some (.slice (some ⟨nb,0,none⟩) T.length cap):=h.blk.cell 0;have o:=(Yx.1 hi).1;have j:(i:Int)<T.length:=Z0;clear h e hi;go_enter func51,ntmps51;exact zzb3d
theorem zb (h:Ar B w g T S) (n:Int):Calls prog 82 #[.pointer (some ⟨g,0,none⟩),.int .i64 n] w fun e w'=>e=.returned (.int .i64 (match arg T n with | some t=>(t.k:Int) | none=>0))/\w=w':=by
 have H:=hide (nQ h n)
 cases e:arg T n with
 | none =>
  rw [e] at H;clear h e;go_enter func82,ntmps82;exact zzb3d
 | some t =>
  obtain ⟨i,rfl,hi⟩:=kM e;rw [e] at H;obtain ⟨nv,sv,mb,rows,D,h⟩:=h;obtain ⟨nb,cap,av,js,rfl,p,c0,_⟩:=h.cells hi;have q:w.cell? ⟨g,0,none⟩=some (.slice (some ⟨nb,0,none⟩) T.length cap):=h.blk.cell 0;have o:=(Yx.1 hi).1;have j:(i:Int)<T.length:=Z0;clear h e hi;go_enter func82,ntmps82;exact zzb3d
end
def DL (k:Nat) (s:ByteArray):Nat :=
 if k=2 then 9 else if k=1\/k=3\/k=6\/k=9\/k=10 then 5+s.size else if k=5 then 9+s.size else if k=8 then 2 else 1
theorem OG {a n:Nat} (h:hd k a b s n):(head k a b s.data.toList n).length=DL k s:=by
 have j:=CW h;obtain rfl | rfl | rfl | rfl | rfl | rfl | rfl | rfl | rfl | rfl:k=1\/k=2\/k=3\/k=4\/k=5\/k=6\/k=7\/k=8\/k=9\/k=10:=Z0
 all_goals simp only [hd] at h
 all_goals (simp only [head,mid,DL,Yv,Ya,bM,aC,YL])
 all_goals first | (simp;done) | (simp;omega) | (rw [h.2.2.2];rfl)
theorem Q5 {b:Int} {A:Option Addr} {n c:Nat} (w:World) (hs:s.size<=1000000000):Calls prog 98 #[.agg #[.int .i64 k,.int .i64 a,.int .i64 b,.string s,.slice A n c]] w fun e w'=>e=.returned (.int .i64 (DL k s))/\Below w.heap.size w w':=by
 have h:(s.size:Int)<=1000000000:=Z0;go_enter func98,ntmps98;go_wp2
 all_goals go_ret
 all_goals refine ⟨oN ?_,Z4⟩
 all_goals (unfold DL)
 all_goals simp only [beq_iff_eq,Y3,ne_eq] at *
 all_goals (repeat' (first | omega | split))
section
variable {B g : Nat} {w : World} {T : List Tm} {S : Nat -> Prop}
def Ad (T:List Tm) (n:Int) (w:World) (e:Ending) (w':World):Prop :=
 ((arg T n=none/\e=.returned (.tuple #[.agg #[.int .i64 0,.int .i64 0,.int .i64 0,.string ⟨#[]⟩,.slice none 0 0],.bool false]))\/∃t js av,arg T n=some t/\eF T t.l js/\e=.returned (.tuple #[.agg #[.int .i64 t.k,.int .i64 t.a,.int .i64 t.b,.string t.s,av],.bool true])/\w'.ownsRow w.heap.size 39 1 av js.length ((js.map Int.ofNat).map (Value.int .i64)))/\Below w.heap.size w w'
theorem sV (h:Ar B w g T S) (n:Int):Calls prog 101 #[.pointer (some ⟨g,0,none⟩),.int .i64 n] w (Ad T n w):=by
 have H:=hide (fun w2 (hb:Below w.heap.size w w2)=>nQ (h.below hb) n)
 cases e:arg T n with
 | none =>
  rw [e] at H;have E:=hide e;clear h e;go_enter func101,ntmps101;go_wp2_with (go_at_call 97;refine (H.out _ Z4).mono ?_;rintro e w1 ⟨rfl,rfl⟩);exact bodyPost_ret (v:=.tuple #[.agg #[.int .i64 0,.int .i64 0,.int .i64 0,.string ⟨#[]⟩,.slice none 0 0],.bool false]) (by simp [results,results101,go_sem]) rfl ⟨.inl ⟨E.out,rfl⟩,Z4⟩
 | some t =>
  obtain ⟨i,rfl,hi⟩:=kM e;rw [e] at H;have E:=hide e;obtain ⟨nv,sv,mb,rows,D,h⟩:=h;obtain ⟨nb,cap,av,js,rfl,ac,c0,c1,c2,c3,c4,J,Z⟩:=h.cells hi;have h0:w.cell? ⟨g,0,none⟩=some (.slice (some ⟨nb,0,none⟩) T.length cap):=h.blk.cell 0;have ab:=(Yx.1 hi).1;have aa:(i:Int)<T.length:=Z0;have hg:=h.blk.lt;have ad:nb≠w.heap.size:=Z0;have af:nb≠w.heap.size+1:=Z0;have Y:=hide J;have F:=J.len
  have U:js.length<=1000:=by
   have O:=(h.ok.fine t (Yo hi)).1;obtain ⟨k,a,b,s,l⟩:=t;simp only [good] at O;have P:=O.1;have h3:=CW P;rw [F];show l.length<=1000;obtain rfl | rfl | rfl | rfl | rfl | rfl | rfl | rfl | rfl | rfl:k=1\/k=2\/k=3\/k=4\/k=5\/k=6\/k=7\/k=8\/k=9\/k=10:=Z0
   all_goals (simp only [hd] at P;omega)
  obtain ⟨A,c,rfl,Q⟩:=Z;have u:=fun w2 (hb:Below w.heap.size w w2)=>sO (w:=w2) (Ids.below ⟨A,c,rfl,Q⟩ hb) (by simp;omega)
  simp only [Yd] at u c4;have X:=hide u;clear u;clear h e hi J F Q;go_enter func101,ntmps101
  go_wp2_with (first
   | (go_at_call 97;refine (H.out _ Z4).mono ?_;rintro e w1 ⟨rfl,rfl⟩)
   | (go_at_call 100;refine (X.out _ Z4).mono ?_;rintro e w2 ⟨v',rfl,j,q⟩;obtain ⟨A2,r,rfl⟩:=iH j;obtain ⟨L,N⟩:=zy q;have am:w.heap.size<w2.heap.size:=(by have:=q.size;simp at this;omega);have an:w.heap.size+1<w2.heap.size:=(by have:=q.size;simp at this;omega)))
  have z:=((Blk.new w 126 #[.int .i64 0,.int .i64 0,.int .i64 0,.string ⟨#[]⟩,.slice none 0 0]).alloc (.cells #[.int .i64 t.k,.int .i64 t.a,.int .i64 t.b,.string t.s,.slice A js.length c] 126)).below q (by simp;omega)
  obtain ⟨W,C⟩:∃W,W=(((((w2.setCell ⟨w.heap.size+1,4,none⟩ (.slice A2 js.length r)).setCell ⟨w.heap.size,0,none⟩ (.int .i64 t.k)).setCell ⟨w.heap.size,1,none⟩ (.int .i64 t.a)).setCell ⟨w.heap.size,2,none⟩ (.int .i64 t.b)).setCell ⟨w.heap.size,3,none⟩ (.string t.s)).setCell ⟨w.heap.size,4,none⟩ (.slice A2 js.length r):=⟨_,rfl⟩
  rw [<-C]
  have o:Blk W w.heap.size 126 #[.int .i64 t.k,.int .i64 t.a,.int .i64 t.b,.string t.s,.slice A2 js.length r]:=by
   rw [C];have:=(((((z.far (p:=⟨w.heap.size+1,4,none⟩) Z3 (.slice A2 js.length r)).set_ 0 (.int .i64 t.k)).set_ 1 (.int .i64 t.a)).set_ 2 (.int .i64 t.b)).set_ 3 (.string t.s)).set_ 4 (.slice A2 js.length r);simpa using this
  have I:W.ownsRow w.heap.size 39 1 (.slice A2 js.length r) js.length ((js.map Int.ofNat).map (Value.int .i64)):=by
   rw [C];refine iZ (b:=w.heap.size+2) ?_ Z0;simp only [World.size_alloc] at j;exact mH (mH (mH (mH (mH (mH j Zj _) Zj _) Zj _) Zj _) Zj _) Zj _
  have K:Below w.heap.size w W:=by
   rw [C]
   have G:Below w.heap.size w w2:=((((Below.refl _ _).alloc (Y2 _) _).alloc Zj _).trans (q.mono Zj))
   exact (((((G.setCell Zj _).setCell Zj _).setCell Zj _).setCell Zj _).setCell Zj _).setCell Zj _
  have q0:=o.cell 0;have q1:=o.cell 1;have q2:=o.cell 2;have V:=o.cell 3;have q4:=o.cell 4;simp only [Jx,Q1,Q2] at q0 q1 q2 V q4;clear C L N j z o q;exact bodyPost_ret (v:=.tuple #[.agg #[.int .i64 t.k,.int .i64 t.a,.int .i64 t.b,.string t.s,.slice A2 js.length r],.bool true]) (by simp [results,results101,go_sem,q0,q1,q2,V,q4]) rfl ⟨.inr ⟨t,js,_,E.out,Y.out,rfl,I⟩,K⟩
end
structure dD (R:Nat->Prop) (w w':World):Prop where
 os:w'.os=w.os
 tape:w'.tape=w.tape
 output:w'.output=w.output
 size:w.heap.size<=w'.heap.size
 block:∀i,i<w.heap.size->¬ R i->w'.heap[i]?=w.heap[i]?
section
variable {R : Nat -> Prop} {w w' w'' : World}
theorem dD.refl (R:Nat->Prop) (w:World):dD R w w:=⟨rfl,rfl,rfl,Y2 _,fun _ _ _=>rfl⟩
theorem dD.of_below (h:Below w.heap.size w w'):dD R w w':=⟨h.os,h.tape,h.output,h.size,fun i hi _=>h.block i hi⟩
theorem dD.trans (h:dD R w w') (k:dD R w' w''):dD R w w'' :=
 ⟨k.os.trans h.os,k.tape.trans h.tape,k.output.trans h.output,Yg h.size k.size,fun i hi j=>(k.block i (Yi hi h.size) j).trans (h.block i hi j)⟩
theorem dD.grown (h:dD R w w') (k:w'.grownBy w'' row) (p:∀b,row=some b->R b\/w.heap.size<=b):dD R w w'' :=
 ⟨k.os.trans h.os,k.tape.trans h.tape,k.output.trans h.output,Yg h.size k.size,fun i hi o=>(k.block i (Yi hi h.size) (fun e=>by
  rcases p i e.symm with j | j
  ·exact o j
  ·omega)).trans (h.block i hi o)⟩
theorem dD.set_ (h:dD R w w') (hp:R p.block\/w.heap.size<=p.block) (u:Value):dD R w (w'.setCell p u) :=
 h.grown (ah (az w' (some p.block)) (.inl rfl) u) (fun b e=>by cases e;exact hp)
theorem dD.below (h:dD R w w') (k:Below w'.heap.size w' w''):dD R w w'':=h.grown (ag k none) (fun _ e=>Xv)
theorem dD.drew (h:dD R w w'):dD R w w'.drew:=⟨h.os,h.tape,h.output,h.size,h.block⟩
theorem dD.drewN (h:dD R w w') (n:Nat):dD R w (w'.drewN n):=⟨h.os,h.tape,h.output,h.size,h.block⟩
theorem dD.alloc (h:dD R w w') (o:Obj):dD R w (w'.alloc o):=h.below ((Below.refl _ _).alloc (Y2 _) o)
theorem dD.cell (h:dD R w w') (j:w.cell? p=some v) (hp:¬ R p.block):w'.cell? p=some v :=
 (World.cell?_of_block (h.block p.block (World.block_lt_of_cell? w p j) hp)).trans j
theorem dD.blk {g:Nat} {t:TypeId} (h:dD R w w') (j:Blk w g t cs) (hp:¬ R g):Blk w' g t cs:=(h.block g j.lt hp).trans j
theorem dD.mono {R':Nat->Prop} (h:dD R w w') (hs:∀i,R i->R' i):dD R' w w':=⟨h.os,h.tape,h.output,h.size,fun i hi o=>h.block i hi (fun j=>o (hs i j))⟩
theorem dD.own {n:Nat} {q:List Value} (h:dD R w w') (p:w.ownsRow b e size v n q) (C:∀i,v.ownBlock=some i->¬ R i):w'.ownsRow b e size v n q:=by
 refine ⟨p.1,?_⟩;rcases p.2 with r | ⟨g,cap,j,rfl,u,z,A⟩
 ·exact .inl r
 ·refine .inr ⟨g,cap,j,rfl,u,?_,A⟩
  have o:=(p.lt g rfl).2;exact (h.block g o (C g rfl)).trans z
end
theorem own_ne {w:World} {C:Nat} {A:TypeId} {n J:Nat} {v':Value} {K r:List Value} (h:w.ownsRow b e size v n K) (G:w.ownsRow C A o v' J r) (q:e≠A) :
  ∀i,v.ownBlock=some i->v'.ownBlock≠some i:=by
 intro i hi j;rcases h.2 with ⟨rfl,_⟩ | ⟨g,cap,F,rfl,_,I,_⟩
 ·cases hi
 ·rcases G.2 with ⟨rfl,_⟩ | ⟨L,u,z,rfl,_,p,_⟩
  ·cases j
  ·simp only [Value.ownBlock,Option.some.injEq] at hi j
   subst hi j;exact Blk.ne_ (t:=e) I p q rfl
theorem jq {w:World} {mb:Nat} {k:TypeId} {n:Nat} {u:List Value} {R:Value->Option (DataW Unit × List MemPlace)} {D:DataW Unit} (h:w.ownsRow b e size v n u) (q:w.ownsMap prog k R mb m D):v.ownBlock≠some mb:=by
 intro hi;obtain ⟨z,j,o,_⟩:=q;rcases h.2 with ⟨rfl,_⟩ | ⟨g,cap,p,rfl,_,r,_⟩
 ·cases hi
 ·simp only [Value.ownBlock,Option.some.injEq] at hi
  subst hi;rw [r] at o;cases o
theorem wQ {w:World} {g mb:Nat} {t k:TypeId} {R:Value->Option (DataW Unit × List MemPlace)} {D:DataW Unit} (h:Blk w g t cs) (p:w.ownsMap prog k R mb m D):g≠mb:=by
 rintro rfl;obtain ⟨q,j,o,_⟩:=p;unfold Blk at h;rw [h] at o;cases o
def Rw (g mb:Nat) (nv sv:Value) (i:Nat):Prop:=i=g\/i=mb\/nv.ownBlock=some i\/sv.ownBlock=some i
section
variable {B g mb : Nat} {w W : World} {T : List Tm} {S : Nat -> Prop} {nv sv : Value} {rows : List (List Value)} {D : DataW Unit}
theorem ArX.arg_out (h:ArX B w g T S nv sv mb rows D) {n:Nat} {p:List Value} (j:w.ownsRow b 39 1 av n p):∀i,av.ownBlock=some i->¬ Rw g mb nv sv i:=by
 rintro i hi (rfl | rfl | o | o)
 ·exact bf j h.blk Z2 hi
 ·exact jq j h.map hi
 ·exact own_ne j h.nodes Z2 i hi o
 ·exact own_ne j h.sizes Z2 i hi o
theorem ArX.push2 (h:ArX B w g T S nv sv mb rows D) (I:AOK (T++[t])) (K:dD (Rw g mb nv sv) w W) {j o:Value} {z:DataW Unit} 
  (p:Blk W g 106 #[j,o,.map (some mb)])
  (hn:W.ownsRow B 126 5 j (T.length+1) (rows.flatten++[.int .i64 t.k,.int .i64 t.a,.int .i64 t.b,.string t.s,av]))
  (hs:W.ownsRow B 3 1 o (T.length+1) ((T.map fun t=>.int .i64 ((enc t).length:Nat))++[.int .i64 ((enc t).length:Nat)]))
  (Q:W.ownsMap prog 184 (plainElem prog 39) mb (T.length+1) z) (N:Idx (T++[t]) z)
  (P:eF T t.l js) (G:W.ownsRow B 39 1 av js.length ((js.map Int.ofNat).map (Value.int .i64)))
  (X:∀i,j.ownBlock=some i->S i\/w.heap.size<=i) (Y:∀i,o.ownBlock=some i->S i\/w.heap.size<=i) (r:m<=w.heap.size) (V:∀i,av.ownBlock=some i->m<=i) :
  ∃A,Ar B W g (T++[t]) A/\(∀i,S i->A i)/\∀i,A i->S i\/m<=i:=by
 refine ⟨fun i=>S i\/j.ownBlock=some i\/o.ownBlock=some i\/av.ownBlock=some i,⟨j,o,mb,rows++[[.int .i64 t.k,.int .i64 t.a,.int .i64 t.b,.string t.s,av]],z,?_⟩,fun i hi=>.inl hi,?_⟩
 ·refine ⟨I,p,XN,by simp [h.nrows],?_,by simpa using hs,by simpa using Q,N,.inl h.sg,.inl h.sm,fun i hi=>.inr (.inl hi),fun i hi=>.inr (.inr (.inl hi)),?_,?_⟩
  ·intro i u us hi v
   rcases Nat.lt_or_ge i T.length with q | O
   ·rw [Yn q] at hi
    rw [Yn (by rw [h.nrows];exact q)] at v;obtain ⟨C,U,e,F,J,L⟩:=h.node i u us hi v;exact ⟨C,U,e,F.pre (List.prefix_append _ _),K.own J (h.arg_out J),fun i hi=>.inl (L i hi)⟩
   ·have F:=(Yx.1 hi).1
    simp only [Ya,Yv,YL] at F;obtain rfl:i=T.length:=Z0;rw [Ys (Y2 _),Nat.sub_self] at hi;rw [<-h.nrows,Ys (Y2 _),Nat.sub_self] at v;simp only [Q1,Option.some.injEq] at hi v;subst hi v;exact ⟨av,js,rfl,P.pre (List.prefix_append _ _),G,fun i hi=>.inr (.inr (.inr hi))⟩
  ·rintro i (hi | hi | hi | hi)
   ·exact h.sB i hi
   ·exact (hn.lt i hi).1
   ·exact (hs.lt i hi).1
   ·exact (G.lt i hi).1
  ·rintro i (hi | hi | hi | hi)
   ·exact Yi (h.sL i hi) K.size
   ·exact (hn.lt i hi).2
   ·exact (hs.lt i hi).2
   ·exact (G.lt i hi).2
 ·rintro i (hi | hi | hi | hi)
  ·exact .inl hi
  ·exact (X i hi).imp id (Yg r)
  ·exact (Y i hi).imp id (Yg r)
  ·exact .inr (V i hi)
end
end Go.Proofs.YtnhekaepgpbijaaGreatDoor
namespace Go.Proofs.YtnhekaepgpbijaaGreatDoor
open Go.Proofs.Tryz Go.RowKit
variable {bs:List Value} {l:List UInt8}
def Bld (B b:Nat) (l:List UInt8) (w:World):Prop:=Lib.IsBuilder 257 5 B b (Lib.byteCells l) w
section
variable {B b : Nat} {w : World}
theorem TB:(prog.info? 257).map (·.size)=some 2:=Z1
theorem GA (b:Nat) (w:World) (h:w.cell? ⟨b,0,none⟩=some (.pointer (some ⟨b,0,none⟩))) :
  Calls prog 246 #[.pointer (some ⟨b,0,none⟩)] w fun e w'=>e=.returned (.tuple #[])/\w'=w:=by
 obtain ⟨j,g,_⟩:=Option.map_eq_some_iff.1 TB;go_enter func246,ntmps246;go_wp2;rw [Lib.run_neq_ptr_same w _ underlying255 g];go_wp2;go_end0;exact ⟨rfl,rfl⟩
theorem DR (b:Nat) (w:World) (q:w.cell? ⟨b,0,none⟩=some (.pointer none)) (g:w.shape? b=some (257,2)) (p:w.frozen? ⟨b,0,none⟩=false) :
  Calls prog 246 #[.pointer (some ⟨b,0,none⟩)] w fun e w'=>e=.returned (.tuple #[])/\w'=w.setCell ⟨b,0,none⟩ (.pointer (some ⟨b,0,none⟩)):=by
 obtain ⟨j,o,h⟩:=Option.map_eq_some_iff.1 TB;go_enter func246,ntmps246;go_wp2;rw [Lib.run_to_unsafe w ⟨b,0,none⟩ underlying255 underlying297 o (by rw [h];decide) g (Nat.zero_lt_succ 1)];simp only [Result.andThen];rw [Oper.upon_value];go_wp2;rw [run_callFunc_extern func286 Z1 Z1 Z1 (e:=Extern.AbiNoEscape.same) Z1];rw [Lib.run_noEscape];simp only [Result.andThen];rw [Oper.upon_value];go_wp2;rw [Lib.run_from_unsafe w ⟨b,0,none⟩ underlying297 underlying255 o g Z1];simp only [Result.andThen];rw [Oper.upon_value];go_wp2;go_end0;exact ⟨rfl,rfl⟩
theorem U8 (h:Lib.IsBuilder 257 5 B b bs w) :
  Calls prog 246 #[.pointer (some ⟨b,0,none⟩)] w fun e w'=>e=.returned (.tuple #[])/\(Lib.BuilderAt 257 5 B b (.pointer (some ⟨b,0,none⟩)) bs w'/\Below B w w'):=by
 rcases h with h | h
 ·refine (DR b w h.cell0 h.shape h.frozen0).mono ?_
  rintro e w' ⟨rfl,rfl⟩;exact ⟨rfl,h.used _,(Below.refl B w).setCell (p:=⟨b,0,none⟩) h.1 _⟩
 ·refine (GA b w h.cell0).mono ?_
  rintro e w' ⟨rfl,rfl⟩;exact ⟨rfl,h,Below.refl B _⟩
theorem infoByte:(prog.info? 5).map (fun i=>(i.zero,i.size,i.bytes))=some (some (.int .u8 0),1,1):=Z1
theorem Ua (s:ByteArray) (h:Lib.IsBuilder 257 5 B b bs w) (N:bs.length+s.size<=140737488355328) (R:B<=w.heap.size) :
  Calls prog 182 #[.pointer (some ⟨b,0,none⟩),.string s] w fun e w'=>e=.returned (.tuple #[.int .i64 s.size,.nilIface])/\(Lib.BuilderAt 257 5 B b (.pointer (some ⟨b,0,none⟩)) (bs++Lib.strCells s) w'/\Below B w w'):=by
 obtain ⟨U,hi,G,I,J⟩:=info_parts infoByte;go_enter func182,ntmps182;go_wp2_with (go_at_call 246;refine (U8 h).mono ?_);rintro e w1 ⟨rfl,Q,z⟩;obtain ⟨L,v,r,u,D⟩:=Q;have c0:w1.cell? ⟨b,0,none⟩=some (.pointer (some ⟨b,0,none⟩)):=by rw [Lib.cell_of_heap r];rfl
 have c1:w1.cell? ⟨b,1,none⟩=some v:=by rw [Lib.cell_of_heap r];rfl
 go_wp2_with (at_builtin;refine Lib.wpList_append_own_string _ rfl _ _ 211 9 rfl B 5 U underlying211 underlying9 hi G I J _ _ _ rfl u s rfl ?c3 ?c4 ?c5 ?_)
 case c3=>unfold maxLen;omega
 case c4=>omega
 case c5=>have:=z.size;omega
 intro v' w2 o j _
 have C:b<w1.heap.size:=by
  rcases Nat.lt_or_ge b w1.heap.size with A | A
  ·exact A
  ·simp [Array.getElem?_eq_none A] at r
 have q:w2.heap[b]?=some (.cells #[.pointer (some ⟨b,0,none⟩),v] 257 (0,0)):=by
  rw [j.block b C (fun e=>D e.symm)];exact r
 have V:w2.cell? ⟨b,0,none⟩=some (.pointer (some ⟨b,0,none⟩)):=by rw [Lib.cell_of_heap q];rfl
 have X:w2.cell? ⟨b,1,none⟩=some v:=by rw [Lib.cell_of_heap q];rfl
 have f1:w2.frozen? ⟨b,1,none⟩=false:=Lib.frozen_of_heap q 1
 obtain ⟨K,O,cap,rfl⟩:∃K O cap,v'=.slice K O cap:=by
  rcases o.2 with ⟨F,_⟩ | ⟨g,cap,P,F,_⟩
  ·exact ⟨_,_,_,F⟩
  ·exact ⟨_,_,_,F⟩
 go_wp2;go_ret2;refine ⟨rfl,?_,?_⟩
 ·exact Lib.BuilderAt.put (T:=257) (e:=5) L q (bs':=bs++Lib.strCells s) (by simpa [Lib.strCells_length] using o) Z2
 ·exact (z.grown j (by have:=z.size;omega) (fun k S=>(u.lt k S).1)).setCell (p:=⟨b,1,none⟩) L _
theorem Jg (l m:List UInt8):Lib.byteCells l++Lib.byteCells m=Lib.byteCells (l++m):=by simp [Lib.byteCells]
theorem JO (s:ByteArray) (h:Bld B b l w) (g:l.length+s.size<=140737488355328) (j:B<=w.heap.size) :
  Calls prog 182 #[.pointer (some ⟨b,0,none⟩),.string s] w fun e w'=>e=.returned (.tuple #[.int .i64 s.size,.nilIface])/\Bld B b (l++s.data.toList) w'/\Below B w w':=by
 refine (Ua s h (by simpa [Lib.byteCells] using g) j).mono ?_;rintro e w' ⟨rfl,o,p⟩;refine ⟨rfl,.inr ?_,p⟩;rw [<-Jg];exact o
theorem FZ (h:Bld B b l w) (g:B<=w.heap.size):Calls prog 183 #[.pointer (some ⟨b,0,none⟩)] w fun e w'=>e=.returned (.string ⟨l.toArray⟩)/\Below B w w' :=
 Tryz.Builder_String_any B b l w h g
end
end Go.Proofs.YtnhekaepgpbijaaGreatDoor

namespace Go.Proofs.YtnhekaepgpbijaaGreatDoor
open Go.Proofs.Tryz Go.RowKit Go.ChangeShapes Go.WideShapes Go.Sort
variable {w w':World} {js:List Nat}
def Tab (w:World):Prop:=Lib.TabIs prog w "internal/strconv.uint64pow10" .u64 Lib.pow10Tab
theorem KQ:∃g,prog.globalNamed "internal/strconv.uint64pow10" = some g:=⟨3,Z1⟩
theorem Tab.below (h:Tab w) (j:Below w.heap.size w w'):Tab w':=by
 obtain ⟨g,o⟩:=KQ;exact Joins.tab_stays o h j (Y2 _)
theorem Cq (i:Nat):Lib.itoa (i:Int)=Lib.decDigits i:=by
 unfold Lib.itoa;rw [Y5 Z0];rfl
theorem below_grown (w:World) (k:Nat) (os:Array Obj):Below w.heap.size w (grow (w.drewN k) os) :=
 ⟨rfl,rfl,rfl,by simp [grow],fun k g=>by simp [grow,Array.getElem?_append,g]⟩
theorem Qv (w:World):Bld w.heap.size w.heap.size [] (w.alloc (.cells #[.pointer none,.slice none 0 0] 257)) :=
 .inl ⟨Y2 _,_,heap_alloc_new w _,World.ownsRow_nil _ _ _ _,by simp [Value.ownBlock]⟩
theorem JH {B b:Nat} {l:List UInt8} (h:Bld B b l w) (j:Below w.heap.size w w'):Bld B b l w':=by
 have key:∀p,Lib.BuilderAt 257 5 B b p (Lib.byteCells l) w->Lib.BuilderAt 257 5 B b p (Lib.byteCells l) w':=by
  rintro p ⟨o,v,g,q,r⟩;exact ⟨o,v,Blk.below (cs:=#[p,v]) g j (Blk.lt (cs:=#[p,v]) g),q.kept (ag j none) (by cases v.ownBlock <;> simp),r⟩
 rcases h with h | h
 ·exact .inl (key _ h)
 ·exact .inr (key _ h)
theorem Oz (n:Nat) (w:World) (h:n<=9223372036854775807) (g:Tab w):Calls prog 93 #[.int .i64 n] w fun e w'=>e=.returned (.string ⟨(Lib.decDigits n).toArray⟩)/\Below w.heap.size w w':=by
 refine (Tryz.strconv_Itoa n Z0 Z0 w g).mono ?_;rintro e w' ⟨rfl,k,os,rfl⟩;exact ⟨by rw [Cq],below_grown w k os⟩
theorem Im (n:Nat) (h:n<=9223372036854775807):(Lib.decDigits n).length<=21:=by
 have:=Lib.itoa_length_le (n:Int) Z0 Z0;rwa [Cq] at this
theorem zM (h:∀j∈js,j<=9223372036854775807):(gZ js).length<=js.length*22:=by
 induction js with
 | nil=>simp [gZ]
 | cons j js ih =>
  have o:=Im j (h j Z3);have p:=ih fun x g=>h x (by simp [g])
  have:gZ (j :: js)=Lib.decDigits j++32 :: gZ js:=by simp [gZ]
  rw [this];simp only [Ya,Yv];omega
theorem Mr {v:Value} (h:Ids w v (js.map Int.ofNat)) (U:Tab w) (hl:js.length<=1000000) (S:∀j∈js,j<=9223372036854775807) :
  Calls prog 99 #[v] w fun e w'=>e=.returned (.string (nH js))/\Below w.heap.size w w':=by
 obtain ⟨A,c,rfl,T⟩:=h;simp only [Yd] at T ⊢;have HB:=hide (Qv w);have Q:=hide S;have X:=hide U;clear S U;go_enter func99,ntmps99;go_wp2
 go_loopw [8,5] (fun i _ wr=>∃k:Nat,k<=js.length/\i=.int .i64 k/\Bld w.heap.size w.heap.size (gZ (js.take k)) wr/\Below w.heap.size w wr) (fun i _ _=>js.length - (intOf i).toNat)
 case atStart=>exact ⟨0,Yb _,rfl,HB.out,Z4⟩
 case round =>
  obtain ⟨k,hk,rfl,G,g⟩:=hrel
  by_cases o:k<js.length
  ·have N:(k:Int)<js.length:=by omega
   obtain ⟨ad,u,rfl,_,K,V,D⟩:=T.at_ o;simp only [Yt,Y1 o,Option.map_some,Option.some.injEq] at V;subst V;have hc:=jA g K D;have r:=Q.out _ (Yf o);have Z:=zM (js:=js.take k) (fun x hx=>Q.out x (List.mem_of_mem_take hx));have hs:=EC (js.take k) js[k];rw [<-Yh o] at hs;have R:=hide hs;have F:=Im js[k] r;clear hs D;generalize js[k]=n at hc r F R;have Y:=hide (Oz n wr r (X.out.below g));have O:=g.size;have aa:(js.take k).length<=js.length:=List.length_take_le' _ _;have ab:(⟨(Lib.decDigits n).toArray⟩:ByteArray).size<=21:=F
   have q:(gZ (js.take k)).length+((⟨(Lib.decDigits n).toArray⟩:ByteArray)++(⟨#[32]⟩:ByteArray)).size<=140737488355328:=by
    rw [Yj];have:(⟨#[32]⟩:ByteArray).size=1:=rfl;omega
   have z:=hide q;clear Z q
   go_wp2_with (first
    | (go_at_call 93;refine Y.out.mono ?_;rintro e w1 ⟨rfl,p⟩;have I:=JH G p;have C:=g.trans (p.mono O);have P:=C.size)
    | (go_at_call 182;refine (JO _ I z.out P).mono ?_;rintro e w2 ⟨rfl,J,L⟩))
   go_round
   case rel =>
    refine ⟨k+1,o,Zr,?_,C.trans L⟩;rw [R.out];simpa using J
   case measure=>simp [intOf];omega
  ·have N:¬ (k:Int)<js.length:=by omega
   obtain rfl:k=js.length:=Z0;rw [List.take_length] at G;go_wp2_with (go_at_call 183;refine (FZ G g.size).mono ?_;rintro e w1 ⟨rfl,p⟩);go_ret;exact ⟨rfl,g.trans p⟩
end Go.Proofs.YtnhekaepgpbijaaGreatDoor
namespace Go.Proofs.YtnhekaepgpbijaaGreatDoor
open Go.Proofs.Tryz Go.RowKit Go.ChangeShapes Go.WideShapes
variable {cap j k n q:Nat} {x:Tm} {l:List Tm} {js:List Nat}
section
variable {B g : Nat} {w : World} {T : List Tm} {S : Nat -> Prop}
def ym (x y:Tm):Int:=if x.a=y.a then (x.b:Int) - y.b else (x.a:Int) - y.a
theorem H5 (x y:Tm):ym x y<0↔tlt x y=true:=by
 unfold ym tlt;rw [Yw]
 split <;> omega
theorem zzcd2 {p_:Prop} (h_:p_:=by
 clear hab;go_enter func285,ntmps285;go_wp2;go_region
 all_goals go_wp2
 all_goals go_ret
 all_goals exact ⟨oN (by first | exact Hc.out | (rw [<-Hc.out];omega)),by exact ae⟩):p_:=h_
theorem F9 (h:Ar B w g T S) {i:Nat} {y:Tm} (hi:T[i]?=some x) (o:T[j]?=some y) (kx:x.k=2) (ky:y.k=2) :
  Calls prog 285 #[.pointer (some ⟨g,0,none⟩),.int .i64 i,.int .i64 j] w fun e w'=>e=.returned (.int .i64 (ym x y))/\Below w.heap.size w w':=by
 obtain ⟨nv,sv,mb,v,D,h⟩:=h;obtain ⟨nb,cap,av,js,rfl,O,c0,c1,c2,c3,c4,_,C⟩:=h.cells hi;obtain ⟨U,r,z,ks,u,_,Y,Z,d2,d3,d4,_,F⟩:=h.cells o;simp only [Value.slice.injEq,Option.some.injEq,Addr.mk.injEq,and_true,true_and] at u;obtain ⟨rfl,rfl⟩:=u;obtain ⟨A,c,rfl,_⟩:=C;obtain ⟨V,X,rfl,_⟩:=F;have h0:w.cell? ⟨g,0,none⟩=some (.slice (some ⟨nb,0,none⟩) T.length cap):=h.blk.cell 0;have K:=(Yx.1 hi).1;have J:(i:Int)<T.length:=Z0;have N:=(Yx.1 o).1;have L:(j:Int)<T.length:=Z0;have p:=h.ok.fine x (Yo hi);have q:=h.ok.fine y (Yo o);have xa:=(j5 p.1 kx).2.1;have xb:=(j5 p.1 kx).2.2.1;have ya:=(j5 q.1 ky).2.1;have yb:=(j5 q.1 ky).2.2.1;have hg:=h.blk.lt;have P:nb≠w.heap.size:=Z0;have Q:nb≠w.heap.size+1:=Z0;have G:g≠w.heap.size:=Z0;have I:g≠w.heap.size+1:=Z0;clear h hi o p q kx ky
 by_cases hab:x.a=y.a
 ·have Hc:=hide (show (x.b:Int) - y.b=ym x y by unfold ym;rw [Y6 hab])
  have R:((x.a:Int) != y.a)=false:=by rw [hab];simp
  exact zzcd2
 ·have Hc:=hide (show (x.a:Int) - y.a=ym x y by unfold ym;rw [Y5 hab])
  have R:((x.a:Int) != y.a)=true:=by simp;omega
  exact zzcd2
end
theorem Ex {w0 w1:World} {p:Addr} {v:Value} (j:Below w0.heap.size w0 w1) (h:w0.cell? p=some v):w1.cell? p=some v:=(j.cell (World.block_lt_of_cell? w0 _ h)).trans h
def kD (w0 wr:World) (gb:Nat) (vs:List Nat):Prop:=w0.grownBy wr (some gb)/\∃cur,Blk wr gb 39 cur/\∀(k v:Nat),vs[k]?=some v->cur[k]?=some (.int .i64 v)
section
variable {w0 wr w2 : World} {gb : Nat} {vs : List Nat}
theorem kD.cell (h:kD w0 wr gb vs) {v:Nat} (q:vs[k]?=some v):wr.cell? ⟨gb,k,none⟩=some (.int .i64 v):=by
 obtain ⟨_,j,o,p⟩:=h;rw [o.cell k,p k v q]
theorem kD.frozen (h:kD w0 wr gb vs) (k:Nat):wr.frozen? ⟨gb,k,none⟩=false:=by
 obtain ⟨_,j,o,_⟩:=h;exact o.frozen k
theorem kD.lt (h:kD w0 wr gb vs):gb<wr.heap.size:=by
 obtain ⟨_,j,o,_⟩:=h;exact o.lt
theorem kD.below (h:kD w0 wr gb vs) (p:Below wr.heap.size wr w2):kD w0 w2 gb vs:=by
 obtain ⟨r,j,o,q⟩:=h;exact ⟨aj r (ag p _),j,o.below p o.lt,q⟩
theorem kD.set_ (h:kD w0 wr gb vs) (p:k<vs.length) (v:Nat):kD w0 (wr.setCell ⟨gb,k,none⟩ (.int .i64 v)) gb (vs.set k v):=by
 obtain ⟨C,q,A,o⟩:=h;refine ⟨ah C (.inl rfl) _,_,A.set_ k _,fun m u j=>?_⟩
 by_cases e:m=k
 ·subst e
  rw [List.getElem?_set_self p] at j;cases j
  have r:=o m vs[m] (Y1 p);have z:=(Array.getElem?_eq_some_iff.1 r).1;rw [Array.getElem?_setIfInBounds_self_of_lt z]
 ·rw [List.getElem?_set_ne (fun h=>e h.symm)] at j
  rw [Array.getElem?_setIfInBounds_ne (fun h=>e h.symm)];exact o m u j
end
section
variable {B g : Nat} {w0 : World} {T : List Tm} {S : Nat -> Prop}
structure Srt (T:List Tm) (l:List Tm) (js:List Nat) (x:Tm) (jx:Nat):Prop where
 args:eF T l js
 at_:T[jx]?=some x
 kl:∀t∈l,t.k=2
 kx:x.k=2
 ord:l.Pairwise tle
theorem Srt.len (h:Srt T l js x j):js.length=l.length:=h.args.len
theorem Srt.get (h:Srt T l js x q) {p:Nat} (hp:p<js.length):T[js[p]]?=some (l[p]'(by rw [<-h.len];exact hp)):=by
 obtain ⟨c,j,o⟩:=h.args.at_ hp;rw [Y1 (by rw [<-h.len];exact hp)] at j;rw [o,<- j]
def Fin (T:List Tm) (l:List Tm) (x:Tm) (vs:List Nat):Prop:=eF T (ins x l) vs
theorem x8 (h:Ar B w0 g T S) {u:Nat} (hs:Srt T l js x u) (hn:n=js.length+1) (hl:n<=100) {gb:Nat} (af:¬ S gb) (hR:kD w0 w0 gb (js++[u])) :
  Calls prog 331 #[.slice (some ⟨gb,0,none⟩) n cap,.int .i64 0,.int .i64 n,.func (.func 285) #[.pointer (some ⟨g,0,none⟩)] #[]] w0 fun e w'=>e=.returned (.tuple #[])/\∃vs,Fin T l x vs/\kD w0 w' gb vs:=by
 have HB:=hide (fun (wr:World) (hg:w0.grownBy wr (some gb)) (i j:Nat) (y z:Tm) (hy:T[i]?=some y) (hz:T[j]?=some z) (ky:y.k=2) (kz:z.k=2)=>F9 (h.kept hg (fun b e=>by cases e;exact af)) hy hz ky kz);have D:=hide hs;have a6:js.length<=l.length:=Nat.le_of_eq hs.len;have a7:l.length<=js.length:=Nat.le_of_eq hs.len.symm;have bb:n<=js.length+1:=Nat.le_of_eq hn;have bc:js.length+1<=n:=Nat.le_of_eq hn.symm;have HR:=hide hR;clear h hs af hR hn;go_enter func331,ntmps331;go_wp2
 go_loopw [8] (fun i wr=>∃(k:Nat) (vs:List Nat),i=.int .i64 k/\k<=n/\1<=k/\Hid (k<=js.length->vs=js++[u])/\Hid (js.length<k->Fin T l x vs)/\Hid (kD w0 wr gb vs)) (fun i _=>n - (intOf i).toNat)
 case atStart =>
  refine ⟨1,js++[u],rfl,Z0,Y2 _,hide fun _=>rfl,hide fun h0=>?_,HR⟩;have e0:js=[]:=Yc Z0;have P:l=[]:=Yc Z0;subst e0 P;show eF T [x] [u];unfold eF;simp [D.out.at_]
 case round =>
  obtain ⟨k,vs,rfl,hk,a9,Hv,Hf,HW⟩:=hrel
  obtain ⟨wo,rfl⟩:∃wo:World,wo=wr:=⟨_,rfl⟩
  by_cases ba:k<n
  ·have av:(k:Int)<(n:Int):=by omega
   by_cases U:k<js.length
   ·obtain ⟨q,rfl⟩:∃q,k=q+1:=⟨k - 1,Z0⟩
    have X:=Hv.out Z0;subst X;have P:(js++[u])[q+1]?=some js[q+1]:=by rw [Yn U,Y1 U]
    have e2:(js++[u])[q]?=some js[q]:=by rw [Yn Z0,Y1 Z0]
    have c1:=HW.out.cell P;have c2:=HW.out.cell e2;have J:=fun d os=>Calls.regrown_of (HB.out (Sort.grow (redrawn wo d) os) (aj HW.out.1 (ag (below_regrown wo d os) _)) _ _ _ _ (D.out.get U) (D.out.get (p:=q) Z0) (D.out.kl _ (Yf _)) (D.out.kl _ (Yf _)))
    have hcm:¬ ym (l[q+1]'Z0) (l[q]'Z0)<0:=by
     rw [H5,Pp D.out.ord Z0];simp
    generalize ym (l[q+1]'Z0) (l[q]'Z0)=cc at J hcm;generalize js[q+1]=v1 at c1 J;generalize js[q]=v2 at c2 J;have k1:=fun O Y=>cell_regrown (v:=.int .i64 v1) c1 O Y
    have k2:=fun O Y=>cell_regrown (v:=.int .i64 v2) c2 O Y
    have G:=hide J;clear P e2 c1 c2 J;go_wp2_with fail;refine wp_loop_rounds 1 ?_;rw [rounds_succ];go_wp2_with fail;have jz:(q:Int)+1<(n:Int):=Z0;have a0:(q:Int)<(n:Int):=Z0;have p0:(0:Int)<=(q:Int)+1:=Z0;have p1:(0:Int)<=(q:Int):=Z0;have e0:((q:Int)+1).toNat=q+1:=Z0;have a3:IntKind.i64.wrap ((q:Int)+1)=(q:Int)+1:=Zb;have a4:IntKind.i64.wrap (q:Int)=(q:Int):=Zb;have hd:decide ((q:Int)+1 > 0)=true:=Y8 Z0;have R:decide (cc<0)=false:=Y7 Z0;refine wp_region_quiet_below Z1 Z1 ?_
    repeat (quiet_step ((go_at_call 285;with_reducible exact G.out _ _)))
    refine wpQuiet_nil ?_;intro _ C;obtain ⟨⟨I,osq⟩,r⟩:=C;subst r;have o:=below_regrown wo I osq;clear k1 k2;generalize Go.Sort.grow (redrawn wo I) osq=wq at o ⊢;have F:=hide (HW.out.below o);go_wp2;exact ⟨⟨q+2,js++[u],Zr,Z0,Z0,hide fun _=>rfl,hide fun h=>absurd h Z0,F⟩,Zh⟩
   ·have aw:k<=js.length:=by omega
    have a8:js.length<=k:=Z0
    have X:vs=iA js k u:=by
     rw [Hv.out aw,show k=js.length by omega,Kz]
    subst X;go_wp2_with fail
    go_loopw [9] (fun jv a5=>∃(p:Nat),jv=.int .i64 p/\p<=k/\Hid (kD w0 a5 gb (iA js p u))/\Hid (∀m (h:m<l.length),p<=m->tlt x l[m]=true)) (fun jv _=>(intOf jv).toNat)
    case atStart=>exact ⟨k,rfl,Y2 _,HW,hide fun m hm hp=>absurd hm Z0⟩
    case round =>
     obtain ⟨p,rfl,hp,Z,HT⟩:=hrel
     obtain ⟨K,rfl⟩:∃K:World,K=wr:=⟨_,rfl⟩
     have ad:(∀m (h:m<l.length),m<p->tlt x l[m]=false)->Fin T l x (iA js p u):=fun h=>by
      unfold Fin;rw [NF D.out.ord Z0 (fun m hm h2=>HT.out m hm h2) h];exact Gr D.out.args D.out.at_ p
     have aa:=hide ad;clear ad
     by_cases aE:p=0
     ·subst aE
      have HF:=hide (aa.out fun m _ h=>absurd h Z0);have k1:True:=trivial;have k2:True:=trivial;go_wp2_with fail;refine wp_region_quiet_below Z1 Z1 ?_
      repeat (first | go_big_quiet_skip | quiet_step (fail))
      refine wpQuiet_nil ?_;intro _ C;obtain ⟨⟨I,osq⟩,r⟩:=C;subst r;have o:=below_regrown K I osq;generalize Go.Sort.grow (redrawn K I) osq=wq at o ⊢;have F:=hide (Z.out.below o);go_wp2;exact ⟨⟨k+1,iA js 0 u,Zr,Z0,Z0,hide fun h=>absurd h Z0,hide fun _=>HF.out,F⟩,Zh⟩
     ·obtain ⟨q,rfl⟩:∃q,p=q+1:=⟨p - 1,Z0⟩
      have V:q<js.length:=Z0;have aF:q<l.length:=Z0;have P:(iA js (q+1) u)[q+1]?=some u:=xQ Z0;have e2:(iA js (q+1) u)[q]?=some js[q]:=by rw [xz Z0 Z0,Y1 V]
      have c1:=Z.out.cell P;have c2:=Z.out.cell e2;have J:=fun d os=>Calls.regrown_of (HB.out (Go.Sort.grow (redrawn K d) os) (aj Z.out.1 (ag (below_regrown K d os) _)) _ _ _ _ D.out.at_ (D.out.get V) D.out.kx (D.out.kl _ (Yf _)))
      have hsw:=EO (x:=u) V;have L:=H5 x l[q];have ac:=hide hsw;have N:=hide L;clear hsw L;generalize ym x l[q]=cc at J N;generalize js[q]=v2 at c2 J ac;have k1:=fun O Y=>cell_regrown (v:=.int .i64 u) c1 O Y
      have k2:=fun O Y=>cell_regrown (v:=.int .i64 v2) c2 O Y
      have G:=hide J;have am:=su js (q+1) u Z0;have ab:=hide am;clear P e2 J am;have jz:(q:Int)+1<(n:Int):=Z0;have a0:(q:Int)<(n:Int):=Z0;have p0:(0:Int)<=(q:Int)+1:=Z0;have p1:(0:Int)<=(q:Int):=Z0;have e0:((q:Int)+1).toNat=q+1:=Z0;have a3:IntKind.i64.wrap ((q:Int)+1)=(q:Int)+1:=Zb;have a4:IntKind.i64.wrap (q:Int)=(q:Int):=Zb;have hd:decide ((q:Int)+1 > 0)=true:=Y8 Z0
      cases A:tlt x l[q] with
      | true =>
       have Q:cc<0:=N.out.2 A;have R:decide (cc<0)=true:=Y8 Q
       have HT2:=hide (show ∀m (h:m<l.length),q<=m->tlt x l[m]=true from fun m hm be=>by
        rcases Nat.lt_or_ge q m with h1 | h1
        ·exact HT.out m hm h1
        ·obtain rfl:m=q:=by omega
         exact A)
       clear A;go_wp2_with fail;refine wp_region_quiet_below Z1 Z1 ?_
       repeat (first | go_big_quiet_skip | quiet_step ((go_at_call 285;with_reducible exact G.out _ _)))
       refine wpQuiet_nil ?_;intro _ C;obtain ⟨⟨I,osq⟩,r⟩:=C;subst r;have o:=below_regrown K I osq;clear k1 k2;generalize Go.Sort.grow (redrawn K I) osq=wq at o ⊢;have F:=hide (Z.out.below o);have an:=F.out.cell (k:=q+1) (v:=u) (xQ Z0);have ao:wq.cell? ⟨gb,q,none⟩=some (.int .i64 v2):=Ex o c2;have ap:=F.out.frozen (q+1);have aq:=F.out.frozen q;clear c1 c2 o hd R G;go_wp2_with fail;go_region;have h1:=F.out.set_ (k:=q+1) (by rw [ab.out];omega) v2;have h2:=h1.set_ (k:=q) (by rw [List.length_set,ab.out];omega) u;rw [ac.out] at h2;have H2:=hide (h2.below ((Below.refl _ _).drew));clear h1 h2 an ao ap aq F;generalize (((wq.setCell ⟨gb,q+1,none⟩ (.int .i64 v2)).setCell ⟨gb,q,none⟩ (.int .i64 u)).drew)=wz at H2 ⊢;go_wp2;exact ⟨⟨q,rfl,Z0,H2,HT2⟩,by simp [intOf]⟩
      | false =>
       have Q:¬ cc<0:=fun h=>by rw [N.out.1 h] at A;cases A
       have R:decide (cc<0)=false:=Y7 Q;have HF:=hide (aa.out (NB D.out.ord aF A));clear A;go_wp2_with fail;refine wp_region_quiet_below Z1 Z1 ?_
       repeat (first | go_big_quiet_skip | quiet_step ((go_at_call 285;with_reducible exact G.out _ _)))
       refine wpQuiet_nil ?_;intro _ C;obtain ⟨⟨I,osq⟩,r⟩:=C;subst r;have o:=below_regrown K I osq;clear k1 k2;generalize Go.Sort.grow (redrawn K I) osq=wq at o ⊢;have F:=hide (Z.out.below o);go_wp2;exact ⟨⟨k+1,iA js (q+1) u,Zr,Z0,Z0,hide fun h=>absurd h Z0,hide fun _=>HF.out,F⟩,Zh⟩
  ·have av:¬ (k:Int)<(n:Int):=by omega
   have bd:n<=k:=Z0;go_wp2;go_end0;exact ⟨rfl,vs,Hf.out Z0,HW.out⟩
theorem Sz (h:Ar B w0 g T S) (hs:Srt T l js x q) (p:n=js.length+1) (z:n<=12) {gb:Nat} (j:¬ S gb) (o:kD w0 w0 gb (js++[q])) (lim:Int) :
  Calls prog 318 #[.slice (some ⟨gb,0,none⟩) n cap,.int .i64 0,.int .i64 n,.int .i64 lim,.func (.func 285) #[.pointer (some ⟨g,0,none⟩)] #[]] w0 fun e w'=>e=.returned (.tuple #[])/\∃vs,Fin T l x vs/\kD w0 w' gb vs:=by
 have r:=hide (x8 h hs p Z0 (cap:=cap) j o);have v:(n:Int)<=12:=Z0;clear h hs p j o;go_enter func318,ntmps318;go_wp2;refine wp_loop_rounds 1 ?_;rw [rounds_succ];go_wp2_with (go_at_call 331;refine r.out.mono ?_;rintro e w' ⟨rfl,vs,u,hw⟩)
 (try simp only [Exit.inBlock,Exit.then])
 refine bodyPost_ret (results_none rfl _ _ _) rfl ?_;exact ⟨rfl,vs,u,hw⟩
theorem KO (h:Ar B w0 g T S) (hs:Srt T l js x q) (p:n=js.length+1) (z:n<=12) {gb:Nat} (j:¬ S gb) (o:kD w0 w0 gb (js++[q])) :
  Calls prog 284 #[.slice (some ⟨gb,0,none⟩) n cap,.func (.func 285) #[.pointer (some ⟨g,0,none⟩)] #[]] w0 fun e w'=>e=.returned (.tuple #[])/\∃vs,Fin T l x vs/\kD w0 w' gb vs:=by
 have u:=hide (fun lim=>Sz h hs p z (cap:=cap) j o lim);have A:(n:Int)<=12:=Z0;have r:=hide (fun W=>Tryz.bits_Len n W Z0 Z0);clear h hs p j o;go_enter func284,ntmps284
 go_wp2_with (first
  | (go_at_call 319;refine (r.out _).mono ?_;rintro e w' ⟨rfl,rfl⟩)
  | (go_at_call 318;refine (u.out _).mono ?_;rintro e w' ⟨rfl,vs,v,hw⟩))
 go_end0;exact ⟨rfl,vs,v,hw⟩
end
end Go.Proofs.YtnhekaepgpbijaaGreatDoor
