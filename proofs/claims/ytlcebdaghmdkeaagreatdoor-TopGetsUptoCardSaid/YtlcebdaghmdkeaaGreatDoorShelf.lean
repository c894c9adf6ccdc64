import Derived.Shelf.Spec.SlicesInsertGrow
import Derived.Shelf.Spec.SlicesInsert
import Derived.Shelf.Spec.SearchS
import Derived.Shelf.Strings.Builder1
import Derived.Shelf.Strings.Builder2
import Derived.Shelf.Strings.Trim
import Derived.Shelf.Small.Utf8
import Derived.Shelf.Small.Bits
import Derived.Shelf.Small.Strs
import Derived.Shelf.Small.Wraps
import Derived.Shelf.Utf8.RuneCount
import Derived.Shelf.Strconv.Atoi
import Derived.Shelf.Strconv.Itoa0
import Derived.Shelf.Strconv.Itoa1
import Derived.Shelf.LaysM
import Derived.Shelf.Strconv.Itoa2
import Derived.Shelf.Strconv.Itoa3
import Derived.Shelf.Strconv.AtoiErrFast
import Derived.Shelf.Strconv.ParseIntEmpty
import Derived.Shelf.Strconv.AtoiFail
import Derived.Shelf.Strconv.Clone
import Derived.Shelf.Strconv.SyntaxError
import Derived.Shelf.LaysC
import Derived.Shelf.Strconv.ToError
import Derived.Shelf.Strconv.Lower
import Derived.Shelf.Strconv.ParseUint10
import Derived.Shelf.Strconv.ParseUint10Empty
import Derived.Shelf.Strconv.ParseUint10Any
import Derived.Shelf.Strconv.ParseInt10
import Derived.Shelf.Strconv.AtoiLong
import Derived.Shelf.Strconv.AtoiInnerAll
import Derived.Shelf.Strconv.RangeError
import Derived.Shelf.Strconv.ToErrorRange
import Derived.Shelf.Strconv.AtoiAll
import Derived.Shelf.Strconv.ErrVarAll
import Derived.Shelf.Strings.Search1
import Derived.Shelf.Strings.Search2
import Derived.Shelf.Strings.Search3
import Derived.Shelf.Strings.Count
import Derived.Shelf.Strings.Shaped
import Derived.Shelf.Strconv.AppendUint10
import Derived.Shelf.Strconv.AppendInt10
import Derived.Shelf.Strconv.AppendIntPublic10
import Derived.Shelf.Strings.Prefix
import Derived.Shelf.Strings.Split
import Derived.Shelf.Strings.Replace
import Derived.Shelf.Strings.SplitShaped
import Derived.Shelf.Unicode.Decode
import Derived.Shelf.Strings.Runes
import Derived.Shelf.Strings.RuneCount
import Derived.Shelf.Strings.AsciiSet
import Derived.Shelf.Strings.Explode
import Derived.Shelf.Unicode.DecodeSlow
import Derived.Shelf.Unicode.DecodeAny
import Derived.Ground.Names2Prog
import Derived.Shelf.Slices.ReverseS
import Derived.Shelf.Slices.Clone
import Derived.Shelf.Slices.Delete
import Derived.Shelf.Slices.Cells
import Derived.Shelf.Slices.Empties
import Derived.Ground.SlgnProg
import Derived.Shelf.SlicesE.Index
import Derived.Shelf.SlicesE.Clone
import Derived.Ground.SlgmProg
import Derived.Shelf.SortM.Plain
import Derived.Shelf.SortM.SortNone
import Derived.Test.YtlcebdaghmdkeaaGreatDoorProg
set_option linter.all false
set_option maxRecDepth 100000
set_option maxHeartbeats 64000000
namespace Go.Proofs
open Go.Shelf
theorem aL {α:Type} {a b:α} (h:a=b:=by kernel_rfl):some a=some b:=congrArg some h
def Tryz.adz:Go.Shelf.Ren:=⟨fun|161=>111|231=>143|227=>144|233=>145|235=>146|228=>177|197=>178|151=>179|260=>212|152=>213|137=>167|119=>232|224=>233|225=>234|217=>202|266=>226|n=>n,fun|9=>9|4=>4|3=>3|5=>5|117=>193|116=>192|0=>0|124=>196|105=>218|21=>21|119=>265|46=>118|139=>268|138=>267|n=>n,fun|3=>5|4=>6|n=>n⟩
theorem Tryz.ab1:Go.Proofs.Lays.n161 Tryz.prog Tryz.adz:= {
 mixed:=by kernel_rfl
 f119:=Tryz.func232.trans aL
 f137:=Tryz.func167.trans aL
 f151:=Tryz.func179.trans aL
 f152:=Tryz.func213.trans aL
 f161:=Tryz.func111.trans aL
 f197:=Tryz.func178.trans aL
 f217:=Tryz.func202.trans aL
 f224:=Tryz.func233.trans aL
 f225:=Tryz.func234.trans aL
 f227:=Tryz.func144.trans aL
 f228:=Tryz.func177.trans aL
 f231:=Tryz.func143.trans aL
 f233:=Tryz.func145.trans aL
 f235:=Tryz.func146.trans aL
 f260:=Tryz.func212.trans aL
 f266:=Tryz.func226.trans aL
 t0:=Tryz.underlying0
 a0:=Tryz.isAgg0
 z0:=Tryz.sizeOf0
 v0:=Tryz.zeroValue0
 t3:=Tryz.underlying3
 a3:=Tryz.isAgg3
 z3:=Tryz.sizeOf3
 v3:=Tryz.zeroValue3
 t4:=Tryz.underlying4
 a4:=Tryz.isAgg4
 z4:=Tryz.sizeOf4
 v4:=Tryz.zeroValue4
 t5:=Tryz.underlying5
 a5:=Tryz.isAgg5
 z5:=Tryz.sizeOf5
 v5:=Tryz.zeroValue5
 t9:=Tryz.underlying9
 a9:=Tryz.isAgg9
 z9:=Tryz.sizeOf9
 v9:=Tryz.zeroValue9
 t21:=Tryz.underlying21
 a21:=Tryz.isAgg21
 z21:=Tryz.sizeOf21
 v21:=Tryz.zeroValue21
 t46:=Tryz.underlying118
 a46:=Tryz.isAgg118
 z46:=Tryz.sizeOf118
 v46:=Tryz.zeroValue118
 t105:=Tryz.underlying218
 a105:=Tryz.isAgg218
 z105:=Tryz.sizeOf218
 v105:=Tryz.zeroValue218
 t116:=Tryz.underlying192
 a116:=Tryz.isAgg192
 z116:=Tryz.sizeOf192
 t117:=Tryz.underlying193
 a117:=Tryz.isAgg193
 z117:=Tryz.sizeOf193
 v117:=Tryz.zeroValue193
 t119:=Tryz.underlying265
 a119:=Tryz.isAgg265
 z119:=Tryz.sizeOf265
 t124:=Tryz.underlying196
 a124:=Tryz.isAgg196
 z124:=Tryz.sizeOf196
 v124:=Tryz.zeroValue196
 t138:=Tryz.underlying267
 a138:=Tryz.isAgg267
 z138:=Tryz.sizeOf267
 v138:=Tryz.zeroValue267
 t139:=Tryz.underlying268
 a139:=Tryz.isAgg268
 z139:=Tryz.sizeOf268
 v139:=Tryz.zeroValue268
 g3:=by kernel_rfl
 g4:=by kernel_rfl}
def Tryz.adA:Go.Shelf.Ren:=⟨fun|106=>44|213=>64|265=>100|n=>n,fun|9=>9|3=>3|n=>n,fun|n=>n⟩
theorem Tryz.adB:Go.Proofs.Lays.n106 Tryz.prog Tryz.adA:= {
 mixed:=by kernel_rfl
 f106:=Tryz.func44.trans aL
 f213:=Tryz.func64.trans aL
 f265:=Tryz.func100.trans aL
 t3:=Tryz.underlying3
 a3:=Tryz.isAgg3
 z3:=Tryz.sizeOf3
 v3:=Tryz.zeroValue3
 t9:=Tryz.underlying9
 a9:=Tryz.isAgg9
 z9:=Tryz.sizeOf9
 v9:=Tryz.zeroValue9}
open Go.RowKit in
theorem Tryz.strings_Compare (a b:ByteArray) (w:World):
 Calls Tryz.prog 44 #[.string a, .string b] w fun e w'=>e= .returned (.int .i64 (Lib.compareBytes a.data.toList b.data.toList))/\w'=w:=Any.strings_Compare Tryz.adB a b w
def Tryz.adC:Go.Shelf.Ren:=⟨fun|137=>167|217=>202|266=>226|n=>n,fun|9=>9|5=>5|3=>3|n=>n,fun|n=>n⟩
theorem Tryz.adD:Go.Proofs.Lays.n137 Tryz.prog Tryz.adC:= {
 mixed:=by kernel_rfl
 f137:=Tryz.func167.trans aL
 f217:=Tryz.func202.trans aL
 f266:=Tryz.func226.trans aL
 t3:=Tryz.underlying3
 a3:=Tryz.isAgg3
 z3:=Tryz.sizeOf3
 v3:=Tryz.zeroValue3
 t5:=Tryz.underlying5
 a5:=Tryz.isAgg5
 z5:=Tryz.sizeOf5
 v5:=Tryz.zeroValue5
 t9:=Tryz.underlying9
 a9:=Tryz.isAgg9
 z9:=Tryz.sizeOf9
 v9:=Tryz.zeroValue9}
open Go.RowKit in
theorem Tryz.strings_IndexByte (s:ByteArray) (c:Int) (w:World):
 Calls Tryz.prog 167 #[.string s, .int .u8 c] w fun e w'=>e= .returned (.int .i64 (Lib.indexByte s.data.toList c.toNat.toUInt8))/\w'=w:=Any.strings_IndexByte Tryz.adD s c w
def Tryz.adE:Go.Shelf.Ren:=⟨fun|103=>120|210=>150|206=>149|n=>n,fun|9=>9|4=>4|24=>165|3=>3|n=>n,fun|n=>n⟩
theorem Tryz.adF:Go.Proofs.Lays.n103 Tryz.prog Tryz.adE:= {
 mixed:=by kernel_rfl
 f103:=Tryz.func120.trans aL
 f206:=Tryz.func149.trans aL
 f210:=Tryz.func150.trans aL
 t3:=Tryz.underlying3
 a3:=Tryz.isAgg3
 z3:=Tryz.sizeOf3
 v3:=Tryz.zeroValue3
 t4:=Tryz.underlying4
 a4:=Tryz.isAgg4
 z4:=Tryz.sizeOf4
 v4:=Tryz.zeroValue4
 t9:=Tryz.underlying9
 a9:=Tryz.isAgg9
 z9:=Tryz.sizeOf9
 v9:=Tryz.zeroValue9
 t24:=Tryz.underlying165
 a24:=Tryz.isAgg165
 z24:=Tryz.sizeOf165
 v24:=Tryz.zeroValue165}
open Go.RowKit in
theorem Tryz.strings_CutPrefix (s p:ByteArray) (w:World):
 Calls Tryz.prog 120 #[.string s, .string p] w fun e w'=>e= .returned (.tuple #[.string ⟨(Lib.trimPrefix s.data.toList p.data.toList).toArray⟩, .bool (Lib.hasPrefix s.data.toList p.data.toList)])/\w'=w:=Any.strings_CutPrefix Tryz.adF s p w
def Tryz.adG:Go.Shelf.Ren:=⟨fun|171=>138|243=>170|246=>208|283=>163|284=>164|285=>165|286=>166|129=>189|317=>198|318=>199|319=>200|320=>201|337=>224|338=>225|n=>n,fun|3=>3|9=>9|2=>2|4=>4|171=>207|0=>0|53=>177|37=>87|5=>5|173=>210|212=>239|51=>229|20=>20|213=>240|46=>118|232=>276|233=>277|n=>n,fun|17=>2|18=>7|19=>8|n=>n⟩
theorem Tryz.adH:Go.Proofs.LaysM.n171 Tryz.prog Tryz.adG:= {
 mixed:=by kernel_rfl
 f129:=Tryz.func189.trans aL
 f171:=Tryz.func138.trans aL
 f243:=Tryz.func170.trans aL
 f246:=Tryz.func208.trans aL
 f283:=Tryz.func163.trans aL
 f284:=Tryz.func164.trans aL
 f285:=Tryz.func165.trans aL
 f286:=Tryz.func166.trans aL
 f317:=Tryz.func198.trans aL
 f318:=Tryz.func199.trans aL
 f319:=Tryz.func200.trans aL
 f320:=Tryz.func201.trans aL
 f337:=Tryz.func224.trans aL
 f338:=Tryz.func225.trans aL
 t0:=Tryz.underlying0
 a0:=Tryz.isAgg0
 z0:=Tryz.sizeOf0
 v0:=Tryz.zeroValue0
 t2:=Tryz.underlying2
 a2:=Tryz.isAgg2
 z2:=Tryz.sizeOf2
 v2:=Tryz.zeroValue2
 t3:=Tryz.underlying3
 a3:=Tryz.isAgg3
 z3:=Tryz.sizeOf3
 v3:=Tryz.zeroValue3
 t4:=Tryz.underlying4
 a4:=Tryz.isAgg4
 z4:=Tryz.sizeOf4
 v4:=Tryz.zeroValue4
 t5:=Tryz.underlying5
 a5:=Tryz.isAgg5
 z5:=Tryz.sizeOf5
 v5:=Tryz.zeroValue5
 t9:=Tryz.underlying9
 a9:=Tryz.isAgg9
 z9:=Tryz.sizeOf9
 v9:=Tryz.zeroValue9
 t20:=Tryz.underlying20
 a20:=Tryz.isAgg20
 z20:=Tryz.sizeOf20
 v20:=Tryz.zeroValue20
 t37:=Tryz.underlying87
 a37:=Tryz.isAgg87
 z37:=Tryz.sizeOf87
 v37:=Tryz.zeroValue87
 t46:=Tryz.underlying118
 a46:=Tryz.isAgg118
 z46:=Tryz.sizeOf118
 v46:=Tryz.zeroValue118
 t51:=Tryz.underlying229
 a51:=Tryz.isAgg229
 z51:=Tryz.sizeOf229
 v51:=Tryz.zeroValue229
 t53:=Tryz.underlying177
 a53:=Tryz.isAgg177
 z53:=Tryz.sizeOf177
 v53:=Tryz.zeroValue177
 t171:=Tryz.underlying207
 a171:=Tryz.isAgg207
 z171:=Tryz.sizeOf207
 v171:=Tryz.zeroValue207
 t173:=Tryz.underlying210
 a173:=Tryz.isAgg210
 z173:=Tryz.sizeOf210
 v173:=Tryz.zeroValue210
 t212:=Tryz.underlying239
 a212:=Tryz.isAgg239
 z212:=Tryz.sizeOf239
 v212:=Tryz.zeroValue239
 t213:=Tryz.underlying240
 a213:=Tryz.isAgg240
 z213:=Tryz.sizeOf240
 t232:=Tryz.underlying276
 a232:=Tryz.isAgg276
 z232:=Tryz.sizeOf276
 v232:=Tryz.zeroValue276
 t233:=Tryz.underlying277
 a233:=Tryz.isAgg277
 z233:=Tryz.sizeOf277
 v233:=Tryz.zeroValue277
 g17:=by kernel_rfl
 g18:=by kernel_rfl
 g19:=by kernel_rfl
 i0:=by kernel_rfl
 i2:=by kernel_rfl
 i3:=by kernel_rfl
 i4:=by kernel_rfl
 i5:=by kernel_rfl
 i9:=by kernel_rfl
 i20:=by kernel_rfl
 i37:=by kernel_rfl
 i46:=by kernel_rfl
 i51:=by kernel_rfl
 i53:=by kernel_rfl
 i171:=by kernel_rfl
 i173:=by kernel_rfl
 i212:=by kernel_rfl
 i232:=by kernel_rfl
 i233:=by kernel_rfl
 m17:=by kernel_rfl
 m18:=by kernel_rfl
 m19:=by kernel_rfl}
open Go.RowKit Go.Sort Go.Lib in
theorem Tryz.strconv_Itoa (n:Int) (h0: -9223372036854775808<=n) (h1:n<=9223372036854775807) (w:World) (r7:Lib.TabIs Tryz.prog w "internal/strconv.uint64pow10" .u64 Lib.pow10Tab):
 Calls Tryz.prog 138 #[.int .i64 n] w fun e w'=>e= .returned (.string ⟨(Lib.itoa n).toArray⟩)/\∃k os,w'=grow (w.drewN k) os:=Any.strconv_Itoa Tryz.adH n h0 h1 w r7
def Tryz.adI:Go.Shelf.Ren:=⟨fun|172=>137|244=>168|245=>169|247=>203|279=>204|280=>205|281=>206|282=>207|287=>227|316=>228|171=>138|205=>229|321=>239|322=>240|243=>170|246=>208|283=>163|284=>164|285=>165|286=>166|129=>189|317=>198|318=>199|319=>200|320=>201|337=>224|338=>225|n=>n,fun|9=>9|3=>3|75=>182|76=>183|4=>4|5=>5|167=>242|37=>87|0=>0|85=>243|2=>2|168=>245|53=>177|175=>258|46=>118|210=>262|127=>257|145=>281|143=>279|21=>21|171=>207|173=>210|212=>239|51=>229|20=>20|213=>240|232=>276|233=>277|80=>154|n=>n,fun|15=>3|16=>4|17=>2|18=>7|19=>8|n=>n⟩
theorem Tryz.Jn:Go.Proofs.LaysC.n172 Tryz.prog Tryz.adI:= {
 mixed:=by kernel_rfl
 f129:=Tryz.func189.trans aL
 f171:=Tryz.func138.trans aL
 f172:=Tryz.func137.trans aL
 f205:=Tryz.func229.trans aL
 f243:=Tryz.func170.trans aL
 f244:=Tryz.func168.trans aL
 f245:=Tryz.func169.trans aL
 f246:=Tryz.func208.trans aL
 f247:=Tryz.func203.trans aL
 f279:=Tryz.func204.trans aL
 f280:=Tryz.func205.trans aL
 f281:=Tryz.func206.trans aL
 f282:=Tryz.func207.trans aL
 f283:=Tryz.func163.trans aL
 f284:=Tryz.func164.trans aL
 f285:=Tryz.func165.trans aL
 f286:=Tryz.func166.trans aL
 f287:=Tryz.func227.trans aL
 f316:=Tryz.func228.trans aL
 f317:=Tryz.func198.trans aL
 f318:=Tryz.func199.trans aL
 f319:=Tryz.func200.trans aL
 f320:=Tryz.func201.trans aL
 f321:=Tryz.func239.trans aL
 f322:=Tryz.func240.trans aL
 f337:=Tryz.func224.trans aL
 f338:=Tryz.func225.trans aL
 t0:=Tryz.underlying0
 a0:=Tryz.isAgg0
 z0:=Tryz.sizeOf0
 v0:=Tryz.zeroValue0
 t2:=Tryz.underlying2
 a2:=Tryz.isAgg2
 z2:=Tryz.sizeOf2
 v2:=Tryz.zeroValue2
 t3:=Tryz.underlying3
 a3:=Tryz.isAgg3
 z3:=Tryz.sizeOf3
 v3:=Tryz.zeroValue3
 t4:=Tryz.underlying4
 a4:=Tryz.isAgg4
 z4:=Tryz.sizeOf4
 v4:=Tryz.zeroValue4
 t5:=Tryz.underlying5
 a5:=Tryz.isAgg5
 z5:=Tryz.sizeOf5
 v5:=Tryz.zeroValue5
 t9:=Tryz.underlying9
 a9:=Tryz.isAgg9
 z9:=Tryz.sizeOf9
 v9:=Tryz.zeroValue9
 t20:=Tryz.underlying20
 a20:=Tryz.isAgg20
 z20:=Tryz.sizeOf20
 v20:=Tryz.zeroValue20
 t21:=Tryz.underlying21
 a21:=Tryz.isAgg21
 z21:=Tryz.sizeOf21
 v21:=Tryz.zeroValue21
 t37:=Tryz.underlying87
 a37:=Tryz.isAgg87
 z37:=Tryz.sizeOf87
 v37:=Tryz.zeroValue87
 t46:=Tryz.underlying118
 a46:=Tryz.isAgg118
 z46:=Tryz.sizeOf118
 v46:=Tryz.zeroValue118
 t51:=Tryz.underlying229
 a51:=Tryz.isAgg229
 z51:=Tryz.sizeOf229
 v51:=Tryz.zeroValue229
 t53:=Tryz.underlying177
 a53:=Tryz.isAgg177
 z53:=Tryz.sizeOf177
 v53:=Tryz.zeroValue177
 t75:=Tryz.underlying182
 a75:=Tryz.isAgg182
 z75:=Tryz.sizeOf182
 v75:=Tryz.zeroValue182
 t76:=Tryz.underlying183
 a76:=Tryz.isAgg183
 z76:=Tryz.sizeOf183
 v76:=Tryz.zeroValue183
 t85:=Tryz.underlying243
 a85:=Tryz.isAgg243
 z85:=Tryz.sizeOf243
 v85:=Tryz.zeroValue243
 t127:=Tryz.underlying257
 a127:=Tryz.isAgg257
 z127:=Tryz.sizeOf257
 v127:=Tryz.zeroValue257
 t143:=Tryz.underlying279
 a143:=Tryz.isAgg279
 z143:=Tryz.sizeOf279
 v143:=Tryz.zeroValue279
 t145:=Tryz.underlying281
 a145:=Tryz.isAgg281
 z145:=Tryz.sizeOf281
 v145:=Tryz.zeroValue281
 t167:=Tryz.underlying242
 a167:=Tryz.isAgg242
 z167:=Tryz.sizeOf242
 v167:=Tryz.zeroValue242
 t168:=Tryz.underlying245
 a168:=Tryz.isAgg245
 z168:=Tryz.sizeOf245
 v168:=Tryz.zeroValue245
 t171:=Tryz.underlying207
 a171:=Tryz.isAgg207
 z171:=Tryz.sizeOf207
 v171:=Tryz.zeroValue207
 t173:=Tryz.underlying210
 a173:=Tryz.isAgg210
 z173:=Tryz.sizeOf210
 v173:=Tryz.zeroValue210
 t175:=Tryz.underlying258
 a175:=Tryz.isAgg258
 z175:=Tryz.sizeOf258
 v175:=Tryz.zeroValue258
 t210:=Tryz.underlying262
 a210:=Tryz.isAgg262
 z210:=Tryz.sizeOf262
 v210:=Tryz.zeroValue262
 t212:=Tryz.underlying239
 a212:=Tryz.isAgg239
 z212:=Tryz.sizeOf239
 v212:=Tryz.zeroValue239
 t213:=Tryz.underlying240
 a213:=Tryz.isAgg240
 z213:=Tryz.sizeOf240
 t232:=Tryz.underlying276
 a232:=Tryz.isAgg276
 z232:=Tryz.sizeOf276
 v232:=Tryz.zeroValue276
 t233:=Tryz.underlying277
 a233:=Tryz.isAgg277
 z233:=Tryz.sizeOf277
 v233:=Tryz.zeroValue277
 g15:=by kernel_rfl
 g16:=by kernel_rfl
 g17:=by kernel_rfl
 g18:=by kernel_rfl
 g19:=by kernel_rfl
 t80:=Tryz.underlying154
 a80:=Tryz.isAgg154
 z80:=Tryz.sizeOf154
 v80:=Tryz.zeroValue154
 i0:=by kernel_rfl
 i2:=by kernel_rfl
 i3:=by kernel_rfl
 i4:=by kernel_rfl
 i5:=by kernel_rfl
 i9:=by kernel_rfl
 i20:=by kernel_rfl
 i21:=by kernel_rfl
 i37:=by kernel_rfl
 i46:=by kernel_rfl
 i51:=by kernel_rfl
 i53:=by kernel_rfl
 i75:=by kernel_rfl
 i76:=by kernel_rfl
 i80:=by kernel_rfl
 i85:=by kernel_rfl
 i127:=by kernel_rfl
 i143:=by kernel_rfl
 i145:=by kernel_rfl
 i167:=by kernel_rfl
 i168:=by kernel_rfl
 i171:=by kernel_rfl
 i173:=by kernel_rfl
 i175:=by kernel_rfl
 i210:=by kernel_rfl
 i212:=by kernel_rfl
 i232:=by kernel_rfl
 i233:=by kernel_rfl
 m15:=by kernel_rfl
 m16:=by kernel_rfl
 m17:=by kernel_rfl
 m18:=by kernel_rfl
 m19:=by kernel_rfl
 c0:=by kernel_rfl
 c2:=by kernel_rfl
 c3:=by kernel_rfl
 c4:=by kernel_rfl
 c5:=by kernel_rfl
 c9:=by kernel_rfl
 c20:=by kernel_rfl
 c21:=by kernel_rfl
 c37:=by kernel_rfl
 c46:=by kernel_rfl
 c51:=by kernel_rfl
 c53:=by kernel_rfl
 c75:=by kernel_rfl
 c76:=by kernel_rfl
 c80:=by kernel_rfl
 c85:=by kernel_rfl
 c127:=by kernel_rfl
 c143:=by kernel_rfl
 c145:=by kernel_rfl
 c167:=by kernel_rfl
 c168:=by kernel_rfl
 c171:=by kernel_rfl
 c173:=by kernel_rfl
 c175:=by kernel_rfl
 c210:=by kernel_rfl
 c212:=by kernel_rfl
 c213:=by kernel_rfl
 c232:=by kernel_rfl
 c233:=by kernel_rfl}
open Go.RowKit in
theorem Tryz.strconv_Atoi_ok (s:ByteArray) (hmax:s.size<=9223372036854775806) (v:Int) (h:Lib.atoiAll s.data.toList= .ok v) (w:World):
 Calls Tryz.prog 137 #[.string s] w fun e w'=>e= .returned (.tuple #[.int .i64 v, .nilIface])/\ (w'=w\/∃t,w'=Lib.bytesWorld w 5 t):=Any.strconv_Atoi_ok Tryz.Jn s hmax v h w
def Tryz.adJ:Go.Shelf.Ren:=⟨fun|176=>62|249=>99|288=>133|283=>163|284=>164|285=>165|286=>166|129=>189|317=>198|318=>199|319=>200|320=>201|337=>224|338=>225|n=>n,fun|37=>87|2=>2|3=>3|53=>177|4=>4|9=>9|171=>207|0=>0|173=>210|212=>239|51=>229|5=>5|20=>20|213=>240|46=>118|232=>276|233=>277|n=>n,fun|17=>2|18=>7|19=>8|n=>n⟩
theorem Tryz.adK:Go.Proofs.LaysM.n176 Tryz.prog Tryz.adJ:= {
 mixed:=by kernel_rfl
 f129:=Tryz.func189.trans aL
 f176:=Tryz.func62.trans aL
 f249:=Tryz.func99.trans aL
 f283:=Tryz.func163.trans aL
 f284:=Tryz.func164.trans aL
 f285:=Tryz.func165.trans aL
 f286:=Tryz.func166.trans aL
 f288:=Tryz.func133.trans aL
 f317:=Tryz.func198.trans aL
 f318:=Tryz.func199.trans aL
 f319:=Tryz.func200.trans aL
 f320:=Tryz.func201.trans aL
 f337:=Tryz.func224.trans aL
 f338:=Tryz.func225.trans aL
 t0:=Tryz.underlying0
 a0:=Tryz.isAgg0
 z0:=Tryz.sizeOf0
 v0:=Tryz.zeroValue0
 t2:=Tryz.underlying2
 a2:=Tryz.isAgg2
 z2:=Tryz.sizeOf2
 v2:=Tryz.zeroValue2
 t3:=Tryz.underlying3
 a3:=Tryz.isAgg3
 z3:=Tryz.sizeOf3
 v3:=Tryz.zeroValue3
 t4:=Tryz.underlying4
 a4:=Tryz.isAgg4
 z4:=Tryz.sizeOf4
 v4:=Tryz.zeroValue4
 t5:=Tryz.underlying5
 a5:=Tryz.isAgg5
 z5:=Tryz.sizeOf5
 v5:=Tryz.zeroValue5
 t9:=Tryz.underlying9
 a9:=Tryz.isAgg9
 z9:=Tryz.sizeOf9
 v9:=Tryz.zeroValue9
 t20:=Tryz.underlying20
 a20:=Tryz.isAgg20
 z20:=Tryz.sizeOf20
 v20:=Tryz.zeroValue20
 t37:=Tryz.underlying87
 a37:=Tryz.isAgg87
 z37:=Tryz.sizeOf87
 v37:=Tryz.zeroValue87
 t46:=Tryz.underlying118
 a46:=Tryz.isAgg118
 z46:=Tryz.sizeOf118
 v46:=Tryz.zeroValue118
 t51:=Tryz.underlying229
 a51:=Tryz.isAgg229
 z51:=Tryz.sizeOf229
 v51:=Tryz.zeroValue229
 t53:=Tryz.underlying177
 a53:=Tryz.isAgg177
 z53:=Tryz.sizeOf177
 v53:=Tryz.zeroValue177
 t171:=Tryz.underlying207
 a171:=Tryz.isAgg207
 z171:=Tryz.sizeOf207
 v171:=Tryz.zeroValue207
 t173:=Tryz.underlying210
 a173:=Tryz.isAgg210
 z173:=Tryz.sizeOf210
 v173:=Tryz.zeroValue210
 t212:=Tryz.underlying239
 a212:=Tryz.isAgg239
 z212:=Tryz.sizeOf239
 v212:=Tryz.zeroValue239
 t213:=Tryz.underlying240
 a213:=Tryz.isAgg240
 z213:=Tryz.sizeOf240
 t232:=Tryz.underlying276
 a232:=Tryz.isAgg276
 z232:=Tryz.sizeOf276
 v232:=Tryz.zeroValue276
 t233:=Tryz.underlying277
 a233:=Tryz.isAgg277
 z233:=Tryz.sizeOf277
 v233:=Tryz.zeroValue277
 g17:=by kernel_rfl
 g18:=by kernel_rfl
 g19:=by kernel_rfl
 i0:=by kernel_rfl
 i2:=by kernel_rfl
 i3:=by kernel_rfl
 i4:=by kernel_rfl
 i5:=by kernel_rfl
 i9:=by kernel_rfl
 i20:=by kernel_rfl
 i37:=by kernel_rfl
 i46:=by kernel_rfl
 i51:=by kernel_rfl
 i53:=by kernel_rfl
 i171:=by kernel_rfl
 i173:=by kernel_rfl
 i212:=by kernel_rfl
 i232:=by kernel_rfl
 i233:=by kernel_rfl
 m17:=by kernel_rfl
 m18:=by kernel_rfl
 m19:=by kernel_rfl}
open Go.RowKit Go.Sort Go.Lib in
theorem Tryz.strconv_AppendInt_10 (B n:Nat) (i:Int) (h0: -9223372036854775808<=i) (h1:i<=9223372036854775807) (sv:Value) (xs:List Value) (w:World) (hown:w.ownsRow B 5 1 sv n xs) (hBw:B<=w.heap.size) (hlim:n+21<=140737488355328) (r7:Lib.TabBelow Tryz.prog B w "internal/strconv.uint64pow10" .u64 Lib.pow10Tab):
 Calls Tryz.prog 62 #[sv, .int .i64 i, .int .i64 10] w fun e w'=>∃v',e= .returned v'/\w'.ownsRow B 5 1 v' (n+(Lib.itoa i).length) (xs++Lib.byteCells (Lib.itoa i))/\Below B w w'/\Lib.OthersKept 5 none w w':=Any.strconv_AppendInt_10 Tryz.adK B n i h0 h1 sv xs w hown hBw hlim r7
def Tryz.adL:Go.Shelf.Ren:=⟨fun|99=>119|206=>149|n=>n,fun|9=>9|4=>4|3=>3|n=>n,fun|n=>n⟩
theorem Tryz.adM:Go.Proofs.Lays.n99 Tryz.prog Tryz.adL:= {
 mixed:=by kernel_rfl
 f99:=Tryz.func119.trans aL
 f206:=Tryz.func149.trans aL
 t3:=Tryz.underlying3
 a3:=Tryz.isAgg3
 z3:=Tryz.sizeOf3
 v3:=Tryz.zeroValue3
 t4:=Tryz.underlying4
 a4:=Tryz.isAgg4
 z4:=Tryz.sizeOf4
 v4:=Tryz.zeroValue4
 t9:=Tryz.underlying9
 a9:=Tryz.isAgg9
 z9:=Tryz.sizeOf9
 v9:=Tryz.zeroValue9}
open Go.RowKit Go.Lib in
theorem Tryz.strings_HasPrefix (s p:ByteArray) (w:World):
 Calls Tryz.prog 119 #[.string s, .string p] w fun e w'=>e= .returned (.bool (Lib.hasPrefix s.data.toList p.data.toList))/\w'=w:=Any.strings_HasPrefix Tryz.adM s p w
def Tryz.adN:Go.Shelf.Ren:=⟨fun|146=>121|221=>151|268=>190|138=>191|143=>192|195=>219|197=>178|218=>220|219=>221|260=>212|217=>202|225=>234|224=>233|267=>236|266=>226|314=>241|n=>n,fun|9=>9|31=>38|3=>3|4=>4|0=>0|105=>218|21=>21|5=>5|46=>118|119=>265|139=>268|138=>267|146=>282|51=>229|n=>n,fun|1=>0|3=>5|4=>6|n=>n⟩
theorem Tryz.adO:Go.Proofs.Lays.n146 Tryz.prog Tryz.adN:= {
 mixed:=by kernel_rfl
 f138:=Tryz.func191.trans aL
 f143:=Tryz.func192.trans aL
 f146:=Tryz.func121.trans aL
 f195:=Tryz.func219.trans aL
 f197:=Tryz.func178.trans aL
 f217:=Tryz.func202.trans aL
 f218:=Tryz.func220.trans aL
 f219:=Tryz.func221.trans aL
 f221:=Tryz.func151.trans aL
 f224:=Tryz.func233.trans aL
 f225:=Tryz.func234.trans aL
 f260:=Tryz.func212.trans aL
 f266:=Tryz.func226.trans aL
 f267:=Tryz.func236.trans aL
 f268:=Tryz.func190.trans aL
 f314:=Tryz.func241.trans aL
 t0:=Tryz.underlying0
 a0:=Tryz.isAgg0
 z0:=Tryz.sizeOf0
 v0:=Tryz.zeroValue0
 t3:=Tryz.underlying3
 a3:=Tryz.isAgg3
 z3:=Tryz.sizeOf3
 v3:=Tryz.zeroValue3
 t4:=Tryz.underlying4
 a4:=Tryz.isAgg4
 z4:=Tryz.sizeOf4
 v4:=Tryz.zeroValue4
 t5:=Tryz.underlying5
 a5:=Tryz.isAgg5
 z5:=Tryz.sizeOf5
 v5:=Tryz.zeroValue5
 t9:=Tryz.underlying9
 a9:=Tryz.isAgg9
 z9:=Tryz.sizeOf9
 v9:=Tryz.zeroValue9
 t21:=Tryz.underlying21
 a21:=Tryz.isAgg21
 z21:=Tryz.sizeOf21
 v21:=Tryz.zeroValue21
 t31:=Tryz.underlying38
 a31:=Tryz.isAgg38
 z31:=Tryz.sizeOf38
 v31:=Tryz.zeroValue38
 t46:=Tryz.underlying118
 a46:=Tryz.isAgg118
 z46:=Tryz.sizeOf118
 v46:=Tryz.zeroValue118
 t51:=Tryz.underlying229
 a51:=Tryz.isAgg229
 z51:=Tryz.sizeOf229
 v51:=Tryz.zeroValue229
 t105:=Tryz.underlying218
 a105:=Tryz.isAgg218
 z105:=Tryz.sizeOf218
 v105:=Tryz.zeroValue218
 t119:=Tryz.underlying265
 a119:=Tryz.isAgg265
 z119:=Tryz.sizeOf265
 t138:=Tryz.underlying267
 a138:=Tryz.isAgg267
 z138:=Tryz.sizeOf267
 v138:=Tryz.zeroValue267
 t139:=Tryz.underlying268
 a139:=Tryz.isAgg268
 z139:=Tryz.sizeOf268
 v139:=Tryz.zeroValue268
 t146:=Tryz.underlying282
 a146:=Tryz.isAgg282
 z146:=Tryz.sizeOf282
 v146:=Tryz.zeroValue282
 g1:=by kernel_rfl
 g3:=by kernel_rfl
 g4:=by kernel_rfl}
open Go.RowKit Go.Lib in
theorem Tryz.strings_Split (s sep:ByteArray) (m:Int) (w:World) (hs:s.size<4294967281) (hm:w.cell? ⟨0,0,none⟩=some (.int .i64 m)) (h1:1<=sep.size):
 Calls Tryz.prog 121 #[.string s, .string sep] w fun e w'=>
  e= .returned (.slice (some ⟨w.heap.size,0,none⟩) (Lib.countB s sep+1) (Lib.countB s sep+1))/\w'=w.alloc (.cells ((Lib.splitB sep 0 (Lib.countB s sep) s).map Value.string).toArray 9):=Any.strings_Split Tryz.adO (by kernel_rfl) s sep m w hs hm h1
def Tryz.Uc:Go.Shelf.Ren:=⟨fun|155=>122|154=>152|138=>191|165=>193|143=>192|166=>194|197=>178|169=>195|195=>219|218=>220|240=>222|241=>223|219=>221|260=>212|276=>237|277=>238|217=>202|225=>234|224=>233|267=>236|266=>226|314=>241|n=>n,fun|9=>9|3=>3|4=>4|72=>233|0=>0|76=>183|105=>218|21=>21|5=>5|70=>231|20=>20|37=>87|75=>182|127=>257|164=>273|46=>118|119=>265|139=>268|138=>267|146=>282|51=>229|80=>154|n=>n,fun|1=>0|3=>5|4=>6|n=>n⟩
theorem Tryz.adP:Go.Proofs.Lays.n155 Tryz.prog Tryz.Uc:= {
 mixed:=by kernel_rfl
 f138:=Tryz.func191.trans aL
 f143:=Tryz.func192.trans aL
 f154:=Tryz.func152.trans aL
 f155:=Tryz.func122.trans aL
 f165:=Tryz.func193.trans aL
 f166:=Tryz.func194.trans aL
 f169:=Tryz.func195.trans aL
 f195:=Tryz.func219.trans aL
 f197:=Tryz.func178.trans aL
 f217:=Tryz.func202.trans aL
 f218:=Tryz.func220.trans aL
 f219:=Tryz.func221.trans aL
 f224:=Tryz.func233.trans aL
 f225:=Tryz.func234.trans aL
 f240:=Tryz.func222.trans aL
 f241:=Tryz.func223.trans aL
 f260:=Tryz.func212.trans aL
 f266:=Tryz.func226.trans aL
 f267:=Tryz.func236.trans aL
 f276:=Tryz.func237.trans aL
 f277:=Tryz.func238.trans aL
 f314:=Tryz.func241.trans aL
 t0:=Tryz.underlying0
 a0:=Tryz.isAgg0
 z0:=Tryz.sizeOf0
 v0:=Tryz.zeroValue0
 t3:=Tryz.underlying3
 a3:=Tryz.isAgg3
 z3:=Tryz.sizeOf3
 v3:=Tryz.zeroValue3
 t4:=Tryz.underlying4
 a4:=Tryz.isAgg4
 z4:=Tryz.sizeOf4
 v4:=Tryz.zeroValue4
 t5:=Tryz.underlying5
 a5:=Tryz.isAgg5
 z5:=Tryz.sizeOf5
 v5:=Tryz.zeroValue5
 t9:=Tryz.underlying9
 a9:=Tryz.isAgg9
 z9:=Tryz.sizeOf9
 v9:=Tryz.zeroValue9
 t20:=Tryz.underlying20
 a20:=Tryz.isAgg20
 z20:=Tryz.sizeOf20
 v20:=Tryz.zeroValue20
 t21:=Tryz.underlying21
 a21:=Tryz.isAgg21
 z21:=Tryz.sizeOf21
 v21:=Tryz.zeroValue21
 t37:=Tryz.underlying87
 a37:=Tryz.isAgg87
 z37:=Tryz.sizeOf87
 v37:=Tryz.zeroValue87
 t46:=Tryz.underlying118
 a46:=Tryz.isAgg118
 z46:=Tryz.sizeOf118
 v46:=Tryz.zeroValue118
 t51:=Tryz.underlying229
 a51:=Tryz.isAgg229
 z51:=Tryz.sizeOf229
 v51:=Tryz.zeroValue229
 t70:=Tryz.underlying231
 a70:=Tryz.isAgg231
 z70:=Tryz.sizeOf231
 v70:=Tryz.zeroValue231
 t72:=Tryz.underlying233
 a72:=Tryz.isAgg233
 z72:=Tryz.sizeOf233
 v72:=Tryz.zeroValue233
 t75:=Tryz.underlying182
 a75:=Tryz.isAgg182
 z75:=Tryz.sizeOf182
 v75:=Tryz.zeroValue182
 t76:=Tryz.underlying183
 a76:=Tryz.isAgg183
 z76:=Tryz.sizeOf183
 v76:=Tryz.zeroValue183
 t105:=Tryz.underlying218
 a105:=Tryz.isAgg218
 z105:=Tryz.sizeOf218
 v105:=Tryz.zeroValue218
 t119:=Tryz.underlying265
 a119:=Tryz.isAgg265
 z119:=Tryz.sizeOf265
 t127:=Tryz.underlying257
 a127:=Tryz.isAgg257
 z127:=Tryz.sizeOf257
 v127:=Tryz.zeroValue257
 t138:=Tryz.underlying267
 a138:=Tryz.isAgg267
 z138:=Tryz.sizeOf267
 v138:=Tryz.zeroValue267
 t139:=Tryz.underlying268
 a139:=Tryz.isAgg268
 z139:=Tryz.sizeOf268
 v139:=Tryz.zeroValue268
 t146:=Tryz.underlying282
 a146:=Tryz.isAgg282
 z146:=Tryz.sizeOf282
 v146:=Tryz.zeroValue282
 t164:=Tryz.underlying273
 a164:=Tryz.isAgg273
 z164:=Tryz.sizeOf273
 v164:=Tryz.zeroValue273
 g1:=by kernel_rfl
 g3:=by kernel_rfl
 g4:=by kernel_rfl}
theorem Tryz.adQ:Builder.Extra Tryz.prog Tryz.Uc:= {
 sizeBuilder:=by kernel_rfl
 liesBuilder:=by kernel_rfl
 t5:=Tryz.underlying5
 a5:=Tryz.isAgg5
 z5:=Tryz.sizeOf5
 v5:=Tryz.zeroValue5
 infoByte:=by kernel_rfl
 cellsByte:=by kernel_rfl
 sizeByte:=by kernel_rfl
 neB5:=by decide}
open Go.RowKit Go.Lib in
theorem Tryz.strings_ReplaceAll (s old new:ByteArray) (m:Int) (w:World) (hs:s.size<4294967281) (hm:w.cell? ⟨0,0,none⟩=some (.int .i64 m)) (h1:1<=old.size) (hlen:s.size+Lib.countB s old*new.size<=140737488355328):
 Calls Tryz.prog 122 #[.string s, .string old, .string new] w fun e w'=>
  e= .returned (.string ⟨(Lib.replaceAll s.data.toList old.data.toList new.data.toList).toArray⟩)/\Below w.heap.size w w':=Any.strings_ReplaceAll Tryz.adP Tryz.adQ s old new m w hs hm h1 hlen
def Tryz.adR:Go.Shelf.Ren:=⟨fun|146=>121|221=>151|268=>190|138=>191|143=>192|195=>219|197=>178|218=>220|219=>221|260=>212|217=>202|225=>234|224=>233|267=>236|266=>226|314=>241|n=>n,fun|9=>9|31=>38|3=>3|4=>4|0=>0|105=>218|21=>21|5=>5|46=>118|119=>265|139=>268|138=>267|146=>282|51=>229|n=>n,fun|1=>0|3=>5|4=>6|n=>n⟩
theorem Tryz.W9:Go.Proofs.LaysM.n146 Tryz.prog Tryz.adR:= {
 mixed:=by kernel_rfl
 f138:=Tryz.func191.trans aL
 f143:=Tryz.func192.trans aL
 f146:=Tryz.func121.trans aL
 f195:=Tryz.func219.trans aL
 f197:=Tryz.func178.trans aL
 f217:=Tryz.func202.trans aL
 f218:=Tryz.func220.trans aL
 f219:=Tryz.func221.trans aL
 f221:=Tryz.func151.trans aL
 f224:=Tryz.func233.trans aL
 f225:=Tryz.func234.trans aL
 f260:=Tryz.func212.trans aL
 f266:=Tryz.func226.trans aL
 f267:=Tryz.func236.trans aL
 f268:=Tryz.func190.trans aL
 f314:=Tryz.func241.trans aL
 t0:=Tryz.underlying0
 a0:=Tryz.isAgg0
 z0:=Tryz.sizeOf0
 v0:=Tryz.zeroValue0
 t3:=Tryz.underlying3
 a3:=Tryz.isAgg3
 z3:=Tryz.sizeOf3
 v3:=Tryz.zeroValue3
 t4:=Tryz.underlying4
 a4:=Tryz.isAgg4
 z4:=Tryz.sizeOf4
 v4:=Tryz.zeroValue4
 t5:=Tryz.underlying5
 a5:=Tryz.isAgg5
 z5:=Tryz.sizeOf5
 v5:=Tryz.zeroValue5
 t9:=Tryz.underlying9
 a9:=Tryz.isAgg9
 z9:=Tryz.sizeOf9
 v9:=Tryz.zeroValue9
 t21:=Tryz.underlying21
 a21:=Tryz.isAgg21
 z21:=Tryz.sizeOf21
 v21:=Tryz.zeroValue21
 t31:=Tryz.underlying38
 a31:=Tryz.isAgg38
 z31:=Tryz.sizeOf38
 v31:=Tryz.zeroValue38
 t46:=Tryz.underlying118
 a46:=Tryz.isAgg118
 z46:=Tryz.sizeOf118
 v46:=Tryz.zeroValue118
 t51:=Tryz.underlying229
 a51:=Tryz.isAgg229
 z51:=Tryz.sizeOf229
 v51:=Tryz.zeroValue229
 t105:=Tryz.underlying218
 a105:=Tryz.isAgg218
 z105:=Tryz.sizeOf218
 v105:=Tryz.zeroValue218
 t119:=Tryz.underlying265
 a119:=Tryz.isAgg265
 z119:=Tryz.sizeOf265
 t138:=Tryz.underlying267
 a138:=Tryz.isAgg267
 z138:=Tryz.sizeOf267
 v138:=Tryz.zeroValue267
 t139:=Tryz.underlying268
 a139:=Tryz.isAgg268
 z139:=Tryz.sizeOf268
 v139:=Tryz.zeroValue268
 t146:=Tryz.underlying282
 a146:=Tryz.isAgg282
 z146:=Tryz.sizeOf282
 v146:=Tryz.zeroValue282
 g1:=by kernel_rfl
 g3:=by kernel_rfl
 g4:=by kernel_rfl
 i0:=by kernel_rfl
 i3:=by kernel_rfl
 i4:=by kernel_rfl
 i5:=by kernel_rfl
 i9:=by kernel_rfl
 i21:=by kernel_rfl
 i31:=by kernel_rfl
 i46:=by kernel_rfl
 i51:=by kernel_rfl
 i105:=by kernel_rfl
 i138:=by kernel_rfl
 i139:=by kernel_rfl
 i146:=by kernel_rfl
 m1:=by kernel_rfl
 s1_3:=fun w h=>Go.Proofs.cell_of_shapedOpen_int (zero:= #[.int .i64 0]) (t:=3) h (of_decide_eq_true (by kernel_rfl)) (by kernel_rfl) rfl (by kernel_rfl) (by kernel_rfl) Tryz.underlying3
 m3:=by kernel_rfl
 m4:=by kernel_rfl}
def Tryz.adS:Go.Shelf.Ren:=⟨fun|31=>78|29=>117|n=>n,fun|22=>38|23=>9|4=>4|3=>3|0=>0|n=>n,fun|n=>n⟩
theorem Tryz.Ud:Go.Proofs.SlLaysE.n31 Tryz.prog Tryz.adS:= {
 mixed:=by kernel_rfl
 f29:=⟨Tryz.f117.name,by decide,Tryz.func117.trans aL⟩
 f31:=⟨Tryz.f78.name,by decide,Tryz.func78.trans aL⟩
 t0:=Tryz.underlying0
 a0:=Tryz.isAgg0
 z0:=Tryz.sizeOf0
 v0:=Tryz.zeroValue0
 t3:=Tryz.underlying3
 a3:=Tryz.isAgg3
 z3:=Tryz.sizeOf3
 v3:=Tryz.zeroValue3
 t4:=Tryz.underlying4
 a4:=Tryz.isAgg4
 z4:=Tryz.sizeOf4
 v4:=Tryz.zeroValue4
 t22:=Tryz.underlying38
 a22:=Tryz.isAgg38
 z22:=Tryz.sizeOf38
 v22:=Tryz.zeroValue38
 a23:=Tryz.isAgg9
 z23:=Tryz.sizeOf9}
open Go.Lib in
theorem Tryz.slices_Contains {α:Type} [Inhabited α] (enc:α->Value) (eq:α->α->Bool) (heq:EqlAt Tryz.prog 9 enc eq) (b off n c:Nat) (zs:List α) (x:α) (w:World) (hz:n<=zs.length) (hbig:n<=9223372036854775807) (hc:∀j,j<zs.length->w.cell? ⟨b,off+j,none⟩=some (enc zs[j]!)):
 Calls Tryz.prog 78 #[.slice (some ⟨b,off,none⟩) n c,enc x] w fun e w'=>e= .returned (.bool ((zs.take n).any fun y=>eq x y))/\w'=w:=AnyE.slices_Contains Tryz.Ud enc eq heq b off n c zs x w hz hbig hc
open Go.Lib in
theorem Tryz.slices_Contains_empty {α:Type} [Inhabited α] (a:Option Addr) (c:Nat) (xv:Value) (w:World):
 Calls Tryz.prog 78 #[.slice a 0 c,xv] w fun e w'=>e= .returned (.bool false)/\w'=w:=AnyE.slices_Contains_empty Tryz.Ud a c xv w
def Tryz.adT:Go.Shelf.Ren:=⟨fun|6=>114|8=>148|9=>147|19=>188|20=>189|21=>180|22=>181|23=>182|24=>183|25=>184|26=>185|27=>171|28=>186|29=>187|36=>214|31=>215|32=>216|37=>217|38=>218|39=>209|41=>235|n=>n,fun|27=>38|29=>9|3=>3|32=>118|26=>38|0=>0|44=>229|46=>177|4=>4|36=>223|35=>222|41=>73|5=>5|9=>9|53=>250|57=>254|63=>270|64=>271|n=>n,fun|n=>n⟩
theorem Tryz.Ue:Go.Proofs.SlLaysM.n6 Tryz.prog Tryz.adT:= {
 mixed:=by kernel_rfl
 f6:=⟨Tryz.f114.name,by decide,Tryz.func114.trans aL⟩
 f8:=Tryz.func148.trans aL
 f9:=⟨Tryz.f147.name,by decide,Tryz.func147.trans aL⟩
 f19:=Tryz.func188.trans aL
 f20:=Tryz.func189.trans aL
 f21:=⟨Tryz.f180.name,by decide,Tryz.func180.trans aL⟩
 f22:=⟨Tryz.f181.name,by decide,Tryz.func181.trans aL⟩
 f23:=⟨Tryz.f182.name,by decide,Tryz.func182.trans aL⟩
 f24:=⟨Tryz.f183.name,by decide,Tryz.func183.trans aL⟩
 f25:=⟨Tryz.f184.name,by decide,Tryz.func184.trans aL⟩
 f26:=⟨Tryz.f185.name,by decide,Tryz.func185.trans aL⟩
 f27:=⟨Tryz.f171.name,by decide,Tryz.func171.trans aL⟩
 f28:=⟨Tryz.f186.name,by decide,Tryz.func186.trans aL⟩
 f29:=⟨Tryz.f187.name,by decide,Tryz.func187.trans aL⟩
 f31:=Tryz.func215.trans aL
 f32:=Tryz.func216.trans aL
 f36:=⟨Tryz.f214.name,by decide,Tryz.func214.trans aL⟩
 f37:=⟨Tryz.f217.name,by decide,Tryz.func217.trans aL⟩
 f38:=⟨Tryz.f218.name,by decide,Tryz.func218.trans aL⟩
 f39:=⟨Tryz.f209.name,by decide,Tryz.func209.trans aL⟩
 f41:=⟨Tryz.f235.name,by decide,Tryz.func235.trans aL⟩
 t0:=Tryz.underlying0
 a0:=Tryz.isAgg0
 z0:=Tryz.sizeOf0
 v0:=Tryz.zeroValue0
 t3:=Tryz.underlying3
 a3:=Tryz.isAgg3
 z3:=Tryz.sizeOf3
 v3:=Tryz.zeroValue3
 t4:=Tryz.underlying4
 a4:=Tryz.isAgg4
 z4:=Tryz.sizeOf4
 v4:=Tryz.zeroValue4
 t5:=Tryz.underlying5
 a5:=Tryz.isAgg5
 z5:=Tryz.sizeOf5
 v5:=Tryz.zeroValue5
 t9:=Tryz.underlying9
 a9:=Tryz.isAgg9
 z9:=Tryz.sizeOf9
 v9:=Tryz.zeroValue9
 t26:=Tryz.underlying38
 a26:=Tryz.isAgg38
 z26:=Tryz.sizeOf38
 v26:=Tryz.zeroValue38
 t27:=Tryz.underlying38
 a27:=Tryz.isAgg38
 z27:=Tryz.sizeOf38
 v27:=Tryz.zeroValue38
 t29:=Tryz.underlying9
 a29:=Tryz.isAgg9
 z29:=Tryz.sizeOf9
 v29:=Tryz.zeroValue9
 t32:=Tryz.underlying118
 a32:=Tryz.isAgg118
 z32:=Tryz.sizeOf118
 v32:=Tryz.zeroValue118
 t35:=Tryz.underlying222
 a35:=Tryz.isAgg222
 z35:=Tryz.sizeOf222
 v35:=Tryz.zeroValue222
 t36:=Tryz.underlying223
 a36:=Tryz.isAgg223
 z36:=Tryz.sizeOf223
 v36:=Tryz.zeroValue223
 t41:=Tryz.underlying73
 a41:=Tryz.isAgg73
 z41:=Tryz.sizeOf73
 v41:=Tryz.zeroValue73
 t44:=Tryz.underlying229
 a44:=Tryz.isAgg229
 z44:=Tryz.sizeOf229
 v44:=Tryz.zeroValue229
 t46:=Tryz.underlying177
 a46:=Tryz.isAgg177
 z46:=Tryz.sizeOf177
 v46:=Tryz.zeroValue177
 t53:=Tryz.underlying250
 a53:=Tryz.isAgg250
 z53:=Tryz.sizeOf250
 v53:=Tryz.zeroValue250
 t57:=Tryz.underlying254
 a57:=Tryz.isAgg254
 z57:=Tryz.sizeOf254
 v57:=Tryz.zeroValue254
 t63:=Tryz.underlying270
 a63:=Tryz.isAgg270
 z63:=Tryz.sizeOf270
 v63:=Tryz.zeroValue270
 t64:=Tryz.underlying271
 a64:=Tryz.isAgg271
 z64:=Tryz.sizeOf271
 v64:=Tryz.zeroValue271}
open Go.Sort Go.RowKit in
theorem Tryz.slices_Sort_string (blk off cap:Nat) (ss:List (List UInt8)) (w:World) (hH:Holds encStr w blk off ss.toArray) (hblk:blk<w.heap.size) (hsz:ss.length<4611686018427387904):
 Calls Tryz.prog 114 #[.slice (some ⟨blk,off,none⟩) ss.length cap] w fun e w'=>
  e= .returned (.tuple #[])/\∃n os,w'=grow (putRow encStr (Sort.ahead w n) blk off (ss.mergeSort fun x y=>decide (x<=y)).toArray) os:=AnyM.slices_Sort_string Tryz.Ue blk off cap ss w hH hblk hsz
open Go.RowKit Go.Sort in
theorem Tryz.slices_Sort_string_none (p:Option Addr) (cap:Nat) (w:World):
 Calls Tryz.prog 114 #[.slice p 0 cap] w fun e w'=>e= .returned (.tuple #[])/\w'=w:=AnyM.slices_Sort_string_none Tryz.Ue p cap w
def Tryz.adU:Go.Shelf.Ren:=⟨fun|26=>140|33=>171|34=>172|38=>209|n=>n,fun|24=>38|9=>9|3=>3|4=>4|40=>118|0=>0|n=>n,fun|n=>n⟩
theorem Tryz.Rz:Go.Proofs.Lays2.n26 Tryz.prog Tryz.adU:= {
 mixed:=by kernel_rfl
 f26:=Tryz.func140.trans aL
 f33:=Tryz.func171.trans aL
 f34:=Tryz.func172.trans aL
 f38:=Tryz.func209.trans aL
 t0:=Tryz.underlying0
 a0:=Tryz.isAgg0
 z0:=Tryz.sizeOf0
 v0:=Tryz.zeroValue0
 t3:=Tryz.underlying3
 a3:=Tryz.isAgg3
 z3:=Tryz.sizeOf3
 v3:=Tryz.zeroValue3
 t4:=Tryz.underlying4
 a4:=Tryz.isAgg4
 z4:=Tryz.sizeOf4
 v4:=Tryz.zeroValue4
 t9:=Tryz.underlying9
 a9:=Tryz.isAgg9
 z9:=Tryz.sizeOf9
 v9:=Tryz.zeroValue9
 t24:=Tryz.underlying38
 a24:=Tryz.isAgg38
 z24:=Tryz.sizeOf38
 v24:=Tryz.zeroValue38
 t40:=Tryz.underlying118
 a40:=Tryz.isAgg118
 z40:=Tryz.sizeOf118
 v40:=Tryz.zeroValue118}
end Go.Proofs
