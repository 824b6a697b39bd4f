/-
  The contracts of library functions that the lexer calls, laid at this program (written by the kit's own tools, in plain words). Plain facts that the walks of the lexer use.
-/
import Derived.Shelf.Small.Strs
import Derived.Shelf.Strings.Search3
import Derived.Shelf.Strings.Prefix
import Derived.Shelf.Strings.Fields
import Derived.Shelf.LaysC
import Derived.Shelf.Strconv.AtoiAll
import Derived.Test.YtkcfmlfkfagejaaGreatDoorProg
import Derived.Test.YtkcfmlfkfagejaaGreatDoorU30
set_option linter.unusedVariables false
set_option linter.unusedSimpArgs false
namespace Go.Proofs
open Go.Shelf
def Tryz.lays137_ren:Go.Shelf.Ren:=⟨fun|137=>164|217=>193|266=>216|n=>n,fun|9=>9|5=>5|3=>3|n=>n,fun|n=>n⟩
theorem Tryz.lays137:Go.Proofs.Lays.n137 Tryz.prog Tryz.lays137_ren:={
 mixed:=by kernel_rfl
 f137:=Tryz.func164.trans (congrArg some (by kernel_rfl))
 f217:=Tryz.func193.trans (congrArg some (by kernel_rfl))
 f266:=Tryz.func216.trans (congrArg some (by kernel_rfl))
 t3:=Tryz.underlying3
 a3:=Tryz.isAgg3
 z3:=Tryz.sizeOf3
 v3:=Tryz.zeroValue3
 t5:=Tryz.underlying5
 a5:=Tryz.isAgg5
 z5:=Tryz.sizeOf5
 v5:=Tryz.zeroValue5
 t9:=Tryz.underlying9
 a9:=Tryz.isAgg9
 z9:=Tryz.sizeOf9
 v9:=Tryz.zeroValue9 }
open Go.RowKit in
theorem Tryz.strings_IndexByte (s:ByteArray)(c:Int)(w:World) :
 Calls Tryz.prog 164 #[.string s,.int .u8 c] w fun e w'=>e=.returned (.int .i64 (Lib.indexByte s.data.toList c.toNat.toUInt8))/\w'=w:=Any.strings_IndexByte Tryz.lays137 s c w
def Tryz.laysC172_ren:Go.Shelf.Ren:=⟨fun|172=>195|244=>217|245=>218|247=>238|279=>239|280=>240|281=>241|282=>242|287=>253|316=>254|171=>112|205=>255|321=>262|322=>263|243=>137|246=>158|283=>181|284=>182|285=>183|286=>184|129=>206|317=>205|318=>207|319=>208|320=>209|337=>227|338=>228|n=>n,fun|9=>9|3=>3|75=>217|76=>218|4=>4|5=>5|167=>317|37=>146|0=>0|85=>318|2=>2|168=>320|53=>185|175=>332|46=>236|210=>335|127=>241|145=>350|143=>348|21=>21|171=>253|173=>256|212=>282|51=>199|20=>20|213=>283|232=>328|233=>329|80=>73|n=>n,fun|15=>6|16=>7|17=>0|18=>4|19=>5|n=>n⟩
theorem Tryz.laysC172:Go.Proofs.LaysC.n172 Tryz.prog Tryz.laysC172_ren:={
 mixed:=by kernel_rfl
 f129:=Tryz.func206.trans (congrArg some (by kernel_rfl))
 f171:=Tryz.func112.trans (congrArg some (by kernel_rfl))
 f172:=Tryz.func195.trans (congrArg some (by kernel_rfl))
 f205:=Tryz.func255.trans (congrArg some (by kernel_rfl))
 f243:=Tryz.func137.trans (congrArg some (by kernel_rfl))
 f244:=Tryz.func217.trans (congrArg some (by kernel_rfl))
 f245:=Tryz.func218.trans (congrArg some (by kernel_rfl))
 f246:=Tryz.func158.trans (congrArg some (by kernel_rfl))
 f247:=Tryz.func238.trans (congrArg some (by kernel_rfl))
 f279:=Tryz.func239.trans (congrArg some (by kernel_rfl))
 f280:=Tryz.func240.trans (congrArg some (by kernel_rfl))
 f281:=Tryz.func241.trans (congrArg some (by kernel_rfl))
 f282:=Tryz.func242.trans (congrArg some (by kernel_rfl))
 f283:=Tryz.func181.trans (congrArg some (by kernel_rfl))
 f284:=Tryz.func182.trans (congrArg some (by kernel_rfl))
 f285:=Tryz.func183.trans (congrArg some (by kernel_rfl))
 f286:=Tryz.func184.trans (congrArg some (by kernel_rfl))
 f287:=Tryz.func253.trans (congrArg some (by kernel_rfl))
 f316:=Tryz.func254.trans (congrArg some (by kernel_rfl))
 f317:=Tryz.func205.trans (congrArg some (by kernel_rfl))
 f318:=Tryz.func207.trans (congrArg some (by kernel_rfl))
 f319:=Tryz.func208.trans (congrArg some (by kernel_rfl))
 f320:=Tryz.func209.trans (congrArg some (by kernel_rfl))
 f321:=Tryz.func262.trans (congrArg some (by kernel_rfl))
 f322:=Tryz.func263.trans (congrArg some (by kernel_rfl))
 f337:=Tryz.func227.trans (congrArg some (by kernel_rfl))
 f338:=Tryz.func228.trans (congrArg some (by kernel_rfl))
 t0:=Tryz.underlying0
 a0:=Tryz.isAgg0
 z0:=Tryz.sizeOf0
 v0:=Tryz.zeroValue0
 t2:=Tryz.underlying2
 a2:=Tryz.isAgg2
 z2:=Tryz.sizeOf2
 v2:=Tryz.zeroValue2
 t3:=Tryz.underlying3
 a3:=Tryz.isAgg3
 z3:=Tryz.sizeOf3
 v3:=Tryz.zeroValue3
 t4:=Tryz.underlying4
 a4:=Tryz.isAgg4
 z4:=Tryz.sizeOf4
 v4:=Tryz.zeroValue4
 t5:=Tryz.underlying5
 a5:=Tryz.isAgg5
 z5:=Tryz.sizeOf5
 v5:=Tryz.zeroValue5
 t9:=Tryz.underlying9
 a9:=Tryz.isAgg9
 z9:=Tryz.sizeOf9
 v9:=Tryz.zeroValue9
 t20:=Tryz.underlying20
 a20:=Tryz.isAgg20
 z20:=Tryz.sizeOf20
 v20:=Tryz.zeroValue20
 t21:=Tryz.underlying21
 a21:=Tryz.isAgg21
 z21:=Tryz.sizeOf21
 v21:=Tryz.zeroValue21
 t37:=Tryz.underlying146
 a37:=Tryz.isAgg146
 z37:=Tryz.sizeOf146
 v37:=Tryz.zeroValue146
 t46:=Tryz.underlying236
 a46:=Tryz.isAgg236
 z46:=Tryz.sizeOf236
 v46:=Tryz.zeroValue236
 t51:=Tryz.underlying199
 a51:=Tryz.isAgg199
 z51:=Tryz.sizeOf199
 v51:=Tryz.zeroValue199
 t53:=Tryz.underlying185
 a53:=Tryz.isAgg185
 z53:=Tryz.sizeOf185
 v53:=Tryz.zeroValue185
 t75:=Tryz.underlying217
 a75:=Tryz.isAgg217
 z75:=Tryz.sizeOf217
 v75:=Tryz.zeroValue217
 t76:=Tryz.underlying218
 a76:=Tryz.isAgg218
 z76:=Tryz.sizeOf218
 v76:=Tryz.zeroValue218
 t85:=Tryz.underlying318
 a85:=Tryz.isAgg318
 z85:=Tryz.sizeOf318
 v85:=Tryz.zeroValue318
 t127:=Tryz.underlying241
 a127:=Tryz.isAgg241
 z127:=Tryz.sizeOf241
 v127:=Tryz.zeroValue241
 t143:=Tryz.underlying348
 a143:=Tryz.isAgg348
 z143:=Tryz.sizeOf348
 v143:=Tryz.zeroValue348
 t145:=Tryz.underlying350
 a145:=Tryz.isAgg350
 z145:=Tryz.sizeOf350
 v145:=Tryz.zeroValue350
 t167:=Tryz.underlying317
 a167:=Tryz.isAgg317
 z167:=Tryz.sizeOf317
 v167:=Tryz.zeroValue317
 t168:=Tryz.underlying320
 a168:=Tryz.isAgg320
 z168:=Tryz.sizeOf320
 v168:=Tryz.zeroValue320
 t171:=Tryz.underlying253
 a171:=Tryz.isAgg253
 z171:=Tryz.sizeOf253
 v171:=Tryz.zeroValue253
 t173:=Tryz.underlying256
 a173:=Tryz.isAgg256
 z173:=Tryz.sizeOf256
 v173:=Tryz.zeroValue256
 t175:=Tryz.underlying332
 a175:=Tryz.isAgg332
 z175:=Tryz.sizeOf332
 v175:=Tryz.zeroValue332
 t210:=Tryz.underlying335
 a210:=Tryz.isAgg335
 z210:=Tryz.sizeOf335
 v210:=Tryz.zeroValue335
 t212:=Tryz.underlying282
 a212:=Tryz.isAgg282
 z212:=Tryz.sizeOf282
 v212:=Tryz.zeroValue282
 t213:=Tryz.underlying283
 a213:=Tryz.isAgg283
 z213:=Tryz.sizeOf283
 t232:=Tryz.underlying328
 a232:=Tryz.isAgg328
 z232:=Tryz.sizeOf328
 v232:=Tryz.zeroValue328
 t233:=Tryz.underlying329
 a233:=Tryz.isAgg329
 z233:=Tryz.sizeOf329
 v233:=Tryz.zeroValue329
 g15:=by kernel_rfl
 g16:=by kernel_rfl
 g17:=by kernel_rfl
 g18:=by kernel_rfl
 g19:=by kernel_rfl
 t80:=Tryz.underlying73
 a80:=Tryz.isAgg73
 z80:=Tryz.sizeOf73
 v80:=Tryz.zeroValue73
 i0:=by kernel_rfl
 i2:=by kernel_rfl
 i3:=by kernel_rfl
 i4:=by kernel_rfl
 i5:=by kernel_rfl
 i9:=by kernel_rfl
 i20:=by kernel_rfl
 i21:=by kernel_rfl
 i37:=by kernel_rfl
 i46:=by kernel_rfl
 i51:=by kernel_rfl
 i53:=by kernel_rfl
 i75:=by kernel_rfl
 i76:=by kernel_rfl
 i80:=by kernel_rfl
 i85:=by kernel_rfl
 i127:=by kernel_rfl
 i143:=by kernel_rfl
 i145:=by kernel_rfl
 i167:=by kernel_rfl
 i168:=by kernel_rfl
 i171:=by kernel_rfl
 i173:=by kernel_rfl
 i175:=by kernel_rfl
 i210:=by kernel_rfl
 i212:=by kernel_rfl
 i232:=by kernel_rfl
 i233:=by kernel_rfl
 m15:=by kernel_rfl
 m16:=by kernel_rfl
 m17:=by kernel_rfl
 m18:=by kernel_rfl
 m19:=by kernel_rfl
 c0:=by kernel_rfl
 c2:=by kernel_rfl
 c3:=by kernel_rfl
 c4:=by kernel_rfl
 c5:=by kernel_rfl
 c9:=by kernel_rfl
 c20:=by kernel_rfl
 c21:=by kernel_rfl
 c37:=by kernel_rfl
 c46:=by kernel_rfl
 c51:=by kernel_rfl
 c53:=by kernel_rfl
 c75:=by kernel_rfl
 c76:=by kernel_rfl
 c80:=by kernel_rfl
 c85:=by kernel_rfl
 c127:=by kernel_rfl
 c143:=by kernel_rfl
 c145:=by kernel_rfl
 c167:=by kernel_rfl
 c168:=by kernel_rfl
 c171:=by kernel_rfl
 c173:=by kernel_rfl
 c175:=by kernel_rfl
 c210:=by kernel_rfl
 c212:=by kernel_rfl
 c213:=by kernel_rfl
 c232:=by kernel_rfl
 c233:=by kernel_rfl }
open Go.RowKit in
theorem Tryz.strconv_Atoi_ok (s:ByteArray)(hmax:s.size<=9223372036854775806)(v:Int)(h:Lib.atoiAll s.data.toList=.ok v)(w:World) :
 Calls Tryz.prog 195 #[.string s] w fun e w'=>e=.returned (.tuple #[.int .i64 v,.nilIface])/\(w'=w∨∃ t,w'=Lib.bytesWorld w 5 t):=Any.strconv_Atoi_ok Tryz.laysC172 s hmax v h w
open Go.RowKit in
theorem Tryz.strconv_Atoi_syntax (s:ByteArray)(hlim:s.size<=281474976710656)(h:Lib.atoiAll s.data.toList=.«syntax»)(ev:Value)(w:World)(hv:w.cell? ⟨6,0,none⟩=some ev)(hev:ev=.nilIface∨∃ te pe,ev=.iface te pe) :
 Calls Tryz.prog 195 #[.string s] w fun e w'=>∃ N,e=.returned (.tuple #[.int .i64 (0),.iface 320 (.pointer (some ⟨N,0,none⟩))])/\w.heap.size<=N/\w'.heap[N]?=some (.cells #[.string ⟨#[65,116,111,105]⟩,.string s,ev] 335 (0,0))/\Below w.heap.size w w':=Any.strconv_Atoi_syntax Tryz.laysC172 s hlim h ev w hv hev
open Go.RowKit in
theorem Tryz.strconv_Atoi_range (s:ByteArray)(hlim:s.size<=281474976710656)(h:Lib.atoiAll s.data.toList=.range)(ev:Value)(w:World)(hv:w.cell? ⟨7,0,none⟩=some ev)(hev:ev=.nilIface∨∃ te pe,ev=.iface te pe) :
 Calls Tryz.prog 195 #[.string s] w fun e w'=>∃ N,e=.returned (.tuple #[.int .i64 (Lib.atoiSat s.data.toList),.iface 320 (.pointer (some ⟨N,0,none⟩))])/\w.heap.size<=N/\w'.heap[N]?=some (.cells #[.string ⟨#[65,116,111,105]⟩,.string s,ev] 335 (0,0))/\Below w.heap.size w w':=Any.strconv_Atoi_range Tryz.laysC172 s hlim h ev w hv hev
def Tryz.lays144_ren:Go.Shelf.Ren:=⟨fun|144=>198|143=>222|219=>244|217=>193|225=>258|224=>259|267=>260|266=>216|314=>264|n=>n,fun|9=>9|4=>4|3=>3|5=>5|46=>236|146=>353|51=>199|n=>n,fun|1=>1|n=>n⟩
theorem Tryz.lays144:Go.Proofs.Lays.n144 Tryz.prog Tryz.lays144_ren:={
 mixed:=by kernel_rfl
 f143:=Tryz.func222.trans (congrArg some (by kernel_rfl))
 f144:=Tryz.func198.trans (congrArg some (by kernel_rfl))
 f217:=Tryz.func193.trans (congrArg some (by kernel_rfl))
 f219:=Tryz.func244.trans (congrArg some (by kernel_rfl))
 f224:=Tryz.func259.trans (congrArg some (by kernel_rfl))
 f225:=Tryz.func258.trans (congrArg some (by kernel_rfl))
 f266:=Tryz.func216.trans (congrArg some (by kernel_rfl))
 f267:=Tryz.func260.trans (congrArg some (by kernel_rfl))
 f314:=Tryz.func264.trans (congrArg some (by kernel_rfl))
 t3:=Tryz.underlying3
 a3:=Tryz.isAgg3
 z3:=Tryz.sizeOf3
 v3:=Tryz.zeroValue3
 t4:=Tryz.underlying4
 a4:=Tryz.isAgg4
 z4:=Tryz.sizeOf4
 v4:=Tryz.zeroValue4
 t5:=Tryz.underlying5
 a5:=Tryz.isAgg5
 z5:=Tryz.sizeOf5
 v5:=Tryz.zeroValue5
 t9:=Tryz.underlying9
 a9:=Tryz.isAgg9
 z9:=Tryz.sizeOf9
 v9:=Tryz.zeroValue9
 t46:=Tryz.underlying236
 a46:=Tryz.isAgg236
 z46:=Tryz.sizeOf236
 v46:=Tryz.zeroValue236
 t51:=Tryz.underlying199
 a51:=Tryz.isAgg199
 z51:=Tryz.sizeOf199
 v51:=Tryz.zeroValue199
 t146:=Tryz.underlying353
 a146:=Tryz.isAgg353
 z146:=Tryz.sizeOf353
 v146:=Tryz.zeroValue353
 g1:=by kernel_rfl }
open Go.RowKit Go.Lib in
theorem Tryz.strings_Contains_one (s:ByteArray)(c:UInt8)(w:World) :
 Calls Tryz.prog 198 #[.string s,.string ⟨#[c]⟩] w fun e w'=>e=.returned (.bool (decide (0<=Lib.indexByte s.data.toList c)))/\w'=w:=Any.strings_Contains_one Tryz.lays144 s c w
def Tryz.lays99_ren:Go.Shelf.Ren:=⟨fun|99=>197|206=>221|n=>n,fun|9=>9|4=>4|3=>3|n=>n,fun|n=>n⟩
theorem Tryz.lays99:Go.Proofs.Lays.n99 Tryz.prog Tryz.lays99_ren:={
 mixed:=by kernel_rfl
 f99:=Tryz.func197.trans (congrArg some (by kernel_rfl))
 f206:=Tryz.func221.trans (congrArg some (by kernel_rfl))
 t3:=Tryz.underlying3
 a3:=Tryz.isAgg3
 z3:=Tryz.sizeOf3
 v3:=Tryz.zeroValue3
 t4:=Tryz.underlying4
 a4:=Tryz.isAgg4
 z4:=Tryz.sizeOf4
 v4:=Tryz.zeroValue4
 t9:=Tryz.underlying9
 a9:=Tryz.isAgg9
 z9:=Tryz.sizeOf9
 v9:=Tryz.zeroValue9 }
open Go.RowKit Go.Lib in
theorem Tryz.strings_HasPrefix (s p:ByteArray)(w:World) :
 Calls Tryz.prog 197 #[.string s,.string p] w fun e w'=>e=.returned (.bool (Lib.hasPrefix s.data.toList p.data.toList))/\w'=w:=Any.strings_HasPrefix Tryz.lays99 s p w
def Tryz.lays157_ren:Go.Shelf.Ren:=⟨fun|157=>196|229=>219|199=>220|261=>243|311=>256|312=>257|n=>n,fun|9=>9|31=>143|3=>3|5=>5|4=>4|119=>266|0=>0|40=>302|152=>323|21=>21|154=>325|51=>199|141=>327|196=>340|193=>337|198=>343|49=>341|194=>338|201=>346|226=>351|46=>236|227=>352|n=>n,fun|0=>2|6=>3|n=>n⟩
theorem Tryz.lays157:Go.Proofs.Lays.n157 Tryz.prog Tryz.lays157_ren:={
 mixed:=by kernel_rfl
 f157:=Tryz.func196.trans (congrArg some (by kernel_rfl))
 f199:=Tryz.func220.trans (congrArg some (by kernel_rfl))
 f229:=Tryz.func219.trans (congrArg some (by kernel_rfl))
 f261:=Tryz.func243.trans (congrArg some (by kernel_rfl))
 f311:=Tryz.func256.trans (congrArg some (by kernel_rfl))
 f312:=Tryz.func257.trans (congrArg some (by kernel_rfl))
 t0:=Tryz.underlying0
 a0:=Tryz.isAgg0
 z0:=Tryz.sizeOf0
 v0:=Tryz.zeroValue0
 t3:=Tryz.underlying3
 a3:=Tryz.isAgg3
 z3:=Tryz.sizeOf3
 v3:=Tryz.zeroValue3
 t4:=Tryz.underlying4
 a4:=Tryz.isAgg4
 z4:=Tryz.sizeOf4
 v4:=Tryz.zeroValue4
 t5:=Tryz.underlying5
 a5:=Tryz.isAgg5
 z5:=Tryz.sizeOf5
 v5:=Tryz.zeroValue5
 t9:=Tryz.underlying9
 a9:=Tryz.isAgg9
 z9:=Tryz.sizeOf9
 v9:=Tryz.zeroValue9
 t21:=Tryz.underlying21
 a21:=Tryz.isAgg21
 z21:=Tryz.sizeOf21
 v21:=Tryz.zeroValue21
 t31:=Tryz.underlying143
 a31:=Tryz.isAgg143
 z31:=Tryz.sizeOf143
 v31:=Tryz.zeroValue143
 t40:=Tryz.underlying302
 a40:=Tryz.isAgg302
 z40:=Tryz.sizeOf302
 v40:=Tryz.zeroValue302
 t46:=Tryz.underlying236
 a46:=Tryz.isAgg236
 z46:=Tryz.sizeOf236
 v46:=Tryz.zeroValue236
 t49:=Tryz.underlying341
 a49:=Tryz.isAgg341
 z49:=Tryz.sizeOf341
 v49:=Tryz.zeroValue341
 t51:=Tryz.underlying199
 a51:=Tryz.isAgg199
 z51:=Tryz.sizeOf199
 v51:=Tryz.zeroValue199
 t119:=Tryz.underlying266
 a119:=Tryz.isAgg266
 z119:=Tryz.sizeOf266
 t141:=Tryz.underlying327
 a141:=Tryz.isAgg327
 z141:=Tryz.sizeOf327
 v141:=Tryz.zeroValue327
 t152:=Tryz.underlying323
 a152:=Tryz.isAgg323
 z152:=Tryz.sizeOf323
 v152:=Tryz.zeroValue323
 t154:=Tryz.underlying325
 a154:=Tryz.isAgg325
 z154:=Tryz.sizeOf325
 v154:=Tryz.zeroValue325
 t193:=Tryz.underlying337
 a193:=Tryz.isAgg337
 z193:=Tryz.sizeOf337
 v193:=Tryz.zeroValue337
 t194:=Tryz.underlying338
 a194:=Tryz.isAgg338
 z194:=Tryz.sizeOf338
 v194:=Tryz.zeroValue338
 t196:=Tryz.underlying340
 a196:=Tryz.isAgg340
 z196:=Tryz.sizeOf340
 v196:=Tryz.zeroValue340
 t198:=Tryz.underlying343
 a198:=Tryz.isAgg343
 z198:=Tryz.sizeOf343
 v198:=Tryz.zeroValue343
 t201:=Tryz.underlying346
 a201:=Tryz.isAgg346
 z201:=Tryz.sizeOf346
 v201:=Tryz.zeroValue346
 t226:=Tryz.underlying351
 a226:=Tryz.isAgg351
 z226:=Tryz.sizeOf351
 v226:=Tryz.zeroValue351
 t227:=Tryz.underlying352
 a227:=Tryz.isAgg352
 z227:=Tryz.sizeOf352
 v227:=Tryz.zeroValue352
 g0:=by kernel_rfl
 g6:=by kernel_rfl }
open Go.RowKit Go.Lib in
theorem Tryz.strings_Fields (s:ByteArray)(w:World)(hs:s.size<4294967281)(hascii:∀ (j:Nat) b,s.data.toList[j]?=some b->b.toNat<128)(htab:Lib.TabIs Tryz.prog w "strings.asciiSpace" .u8 Lib.asciiSpaceTab) :
 Calls Tryz.prog 196 #[.string s] w fun e w' =>
  e=.returned (.slice (some ⟨w.heap.size,0,none⟩) (Lib.fields s.data.toList).length (Lib.fields s.data.toList).length)/\w'=w.alloc (.cells ((Lib.fields s.data.toList).map fun l=>Value.string ⟨l.toArray⟩).toArray 9):=Any.strings_Fields Tryz.lays157 (by kernel_rfl) (by kernel_rfl) s w hs hascii htab
end Go.Proofs
namespace Go.Proofs.YtkcfmlfkfagejaaGreatDoor
open Go.RowKit Go.Q Go.Lx
theorem Xw (c:UInt8):isWord c=decide ((2:Int)<=(cls c:Int)):=by
 unfold cls isWord
 cases h1:Bw c<;>cases h2:isDigit c<;>simp
 split<;>decide
theorem getD_at (s:ByteArray)(j:Nat)(h:j<s.size):s[j]=s.data.toList.getD j 0:=by
 have h2:j<s.data.size:=h
 rw [List.getD_eq_getElem?_getD,List.getElem?_eq_getElem (by simpa using h2)]
 simp [ByteArray.getElem_eq_getElem_data]
theorem H8 {x:Int}{n:Nat}(h:x=n)(hn:n<=4611686018427387904):IntKind.i64.wrap x=(n:Int):=by
 subst h;rw [IntKind.wrap_i64];omega
theorem ZL {r:List UInt8}:Lib.indexByte (35::r) 10≠0:=by
 have h:=Lib.indexByte_ge r 10
 show (if ((35:UInt8) == 10)=true then (0:Int) else _)≠0
 rw [if_neg (by decide)]
 split
 . decide
 . rename_i h2;simp only [beq_iff_eq] at h2;omega
theorem SL:∀ (r:List UInt8),(Lib.indexByte r 10<0->skip true r=[])/\(∀ k:Nat,Lib.indexByte r 10=(k:Int)->k<=r.length/\skip true r=skip false (r.drop k))
 | []=>⟨fun _=>rfl,fun k h=>by have:(-1:Int)=k:=h;omega⟩
 |b::l=>by
  have ih:=SL l
  have hge:=Lib.indexByte_ge l 10
  have e:Lib.indexByte (b::l) 10=if (b == 10)=true then 0 else if (Lib.indexByte l 10 == -1)=true then -1 else Lib.indexByte l 10+1:=rfl
  rw [e,Kl]
  by_cases hb:b=10
  . rw [if_pos (by rw [hb];rfl),if_pos hb]
    refine⟨fun h=>absurd h (by decide),fun k h=>?_⟩
    obtain rfl:k=0:=by omega
    exact⟨by simp,by rw [hb];rfl⟩
  . rw [if_neg (by simpa using hb),if_neg hb]
    by_cases hn:Lib.indexByte l 10 = -1
    . rw [if_pos (by rw [hn];rfl)]
      exact⟨fun _=>ih.1 (by omega),fun k h=>by omega⟩
    . rw [if_neg (by simpa using hn)]
      refine⟨fun h=>by omega,fun k h=>?_⟩
      obtain⟨h1,h2⟩:=ih.2 (k-1) (by omega)
      have hk:k=(k-1)+1:=by omega
      refine⟨by simp;omega,?_⟩
      rw [hk,List.drop_succ_cons];exact h2
theorem Wh (c:UInt8)(h:DG c=true):cls c=1:=by
 have h2:=Gv (.inl h)
 unfold cls;rw [h2.2.2,h2.2.1,h];rfl
theorem PS (c:UInt8)(h:DG c=false):((cls c:Int) == 1)=false:=by
 unfold cls;rw [h];cases Bw c<;>cases isDigit c<;>rfl
theorem Nc {c:UInt8}(h:isDigit c=true):Bw c=false:=by
 cases hl:Bw c with
 |false=>rfl
 |true=>rw [LJ] at hl;rw [Nd] at h;omega
theorem Sc {s:ByteArray}{p j:Nat}(hp:p<s.size)(hpj:p<=j)(hall:IF isWord s p j)(hhd:Cg isWord ((bl s).drop j)=false)(hw:isWord s[p]=true):p<j:=by
 rcases Nat.lt_or_ge p j with h|h
 . exact h
 . obtain rfl:p=j:=by omega
   rw [ET s p hp] at hhd
   have:isWord s[p]=false:=hhd
   rw [hw] at this;cases this
theorem Xn {s x:ByteArray}{p n:Nat}(h:bl x=((bl s).drop p).take n)(hx:0<x.size)(hp:p<s.size):x[0]=s[p]:=by
 have h1:=ET x 0 hx
 rw [List.drop_zero,h,ET s p hp] at h1
 cases n with
 |zero=>simp at h1
 |succ n=>rw [List.take_succ_cons] at h1;exact (List.cons.inj h1).1.symm
theorem S7 (r:List UInt8):number r=.bad 27∨∃ v t,number r=.ok 2 [] v t:=by
 unfold number;simp only;split
 . exact .inl rfl
 . exact .inr ⟨_,_,rfl⟩
theorem OF {x:List UInt8}(h:Cg isWord x=false):Cg isDigit x=false/\Cg Bw x=false:=by
 cases x with
 |nil=>exact⟨rfl,rfl⟩
 |cons c r =>
  have h2:isWord c=false:=h
  simp only [isWord,Bool.or_eq_false_iff] at h2
  exact⟨h2.2,h2.1⟩
theorem S5 {s:ByteArray}{p j:Nat}(hp:p<s.size)(hpj:p<=j)(hj:j<=s.size)(hall:IF isWord s p j)(hhd:Cg isWord ((bl s).drop j)=false)(hd:isDigit s[p]=true) :
 ((∀ v,Lib.atoiAll (((bl s).drop p).take (j-p))≠.ok v)->number ((bl s).drop p)=.bad 27) /\
 (∀ v,Lib.atoiAll (((bl s).drop p).take (j-p))=.ok v->(15<j-p∨(1<j-p/\s[p]=48)->number ((bl s).drop p)=.bad 27) /\
  (¬ 15<j-p->¬ (1<j-p/\s[p]=48)->number ((bl s).drop p)=.ok 2 [] v.toNat ((bl s).drop j)/\v=(v.toNat:Int))):=by
 have hlt:=Sc hp hpj hall hhd (by simp [isWord,hd])
 obtain⟨hn1,hn2⟩:=OF hhd
 have hW:((bl s).drop p).take (j-p)=s[p]::((bl s).drop (p+1)).take (j-p-1):=by
  rw [ET s p hp,show j-p=(j-p-1)+1 by omega,List.take_succ_cons];simp
 refine⟨fun hno=>?_,fun v hv=>?_⟩
 . rcases S7 ((bl s).drop p) with h|⟨v,t,h⟩
   . exact h
   . exfalso
     obtain⟨d,_,_,hv,e,h1,h2,h3,h4,_⟩:=Mr h
     have hw:=hall.while hpj hhd
     have ht:Cg isWord t=false:=by
      cases t with
      |nil=>rfl
      |cons c r=>show isWord c=false;simp only [isWord,Bool.or_eq_false_iff];exact⟨h3,h2⟩
     have hw2:=F4 isWord d t (fun c hc=>by simp [isWord,h1 c hc]) ht
     rw [<- e] at hw2
     have hdW:d=((bl s).drop p).take (j-p):=by rw [<- hw.1,hw2.1]
     rw [hdW] at h1 h4
     rw [hW] at h1 h4
     exact hno _ (by rw [hW];exact Va h1 h4)
 . have hdig:=by rw [hW] at hv;exact Tt hd hv
   have hdig2:IF isDigit s p j:=by intro c hc;rw [hW] at hc;exact hdig c hc
   have hw:=hdig2.while hpj hn1
   have hlen:=Me s p j hpj hj
   refine⟨fun hbad=>?_,fun h15 hz=>?_⟩
   . rcases hbad with h|⟨h1,h2⟩
     . exact OE hw hlen (.inl h)
     . exact OE hw hlen (.inr (.inl ⟨h1,by rw [ET s p hp];exact beq_iff_eq.2 h2⟩))
   . have hok:Lib.atoiAll (((bl s).drop p).take (j-p))=.ok (Eh (((bl s).drop p).take (j-p)):Int):=by
      rw [hW]
      refine Va hdig ?_
      rw [<- hW,hlen];omega
     rw [hok] at hv
     have hvv:(Eh (((bl s).drop p).take (j-p)):Int)=v:=by injection hv
     subst hvv
     exact⟨S6 hpj hj (by omega) hdig2 hn1 hn2 (fun h=>by rw [ET s p hp];exact beq_eq_false_iff_ne.2 fun e=>hz ⟨h,e⟩),rfl⟩
end Go.Proofs.YtkcfmlfkfagejaaGreatDoor
