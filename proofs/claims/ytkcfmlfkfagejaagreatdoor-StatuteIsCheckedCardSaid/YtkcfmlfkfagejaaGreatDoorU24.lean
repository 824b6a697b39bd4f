/-
  The contracts of library functions that the lexer calls, laid at this program (written by the kit's own tools, in plain words). Plain facts that the walks of the lexer use. Plain facts of what is left of a source. Plain facts for examples: what is read by running; line feeds and wide characters. No program. What tokens a source has, but for offsets: sources put together. No program. From the tokens' reading to the program's Expr, and back. No program. A source in parentheses is an atom, at depth 1. No program. From an atom up to a whole expression, past all levels of operators. No program. The first of ParseNests' sources: an expression in parentheses. No program. Signs and names ahead of a parenthesis. No program. A source within another: its tokens, and what surrounds them. No program. The text of tokens is read as these tokens again. No program. What can be printed is of operations that there are, and of tokens that can be read; comparing with what is read; how many parts there are. No program. How many parts there are: what ParseRoundTrip's Few and exprs answer. No program. What the reference's parser reads in one list of tokens it reads in another one in which they stand, with greater offsets: expressions. No program. What the reference's parser reads in one list of tokens it reads in another one in which they stand, with greater offsets: forms. No program. Two sources with a line feed between: their tokens, their forms. No program. What ParseJoins' shifted computes: forms with greater offsets. No program. Two sources with a line feed between are read as one after the other. No program. What is printed is read as the same, if it is read. No program. The tokens of a source: what can be printed of them, and how long their text is. No program. Printing, then reading: what the program's Print, PrintExpr, Forms and Expr answer together. No program. StatuteIsChecked, the plain law: what Compile returns passes Check; a problem is at an offset of the source. No program.
-/
import Derived.Shelf.Small.Strs
import Derived.Shelf.Strings.Search3
import Derived.Shelf.Strings.Prefix
import Derived.Shelf.Strings.Fields
import Derived.Shelf.LaysC
import Derived.Shelf.Strconv.AtoiAll
import Derived.Test.YtkcfmlfkfagejaaGreatDoorProg
import Derived.Laws.RangeAny
import Derived.Lib.Join
import Derived.Lib.ItoaNum
import Derived.Test.YtkcfmlfkfagejaaGreatDoorU21
import Derived.Test.YtkcfmlfkfagejaaGreatDoorU22
import Derived.Test.YtkcfmlfkfagejaaGreatDoorU23
set_option linter.unusedVariables false
set_option linter.unusedSimpArgs false
namespace Go.Proofs
open Go.Shelf
def Tryz.lays137_ren:Go.Shelf.Ren:=⟨fun|137=>164|217=>193|266=>216|n=>n,fun|9=>9|5=>5|3=>3|n=>n,fun|n=>n⟩
theorem Tryz.lays137:Go.Proofs.Lays.n137 Tryz.prog Tryz.lays137_ren:={
 mixed:=by kernel_rfl
 f137:=Tryz.func164.trans (congrArg some (by kernel_rfl))
 f217:=Tryz.func193.trans (congrArg some (by kernel_rfl))
 f266:=Tryz.func216.trans (congrArg some (by kernel_rfl))
 t3:=Tryz.underlying3
 a3:=Tryz.isAgg3
 z3:=Tryz.sizeOf3
 v3:=Tryz.zeroValue3
 t5:=Tryz.underlying5
 a5:=Tryz.isAgg5
 z5:=Tryz.sizeOf5
 v5:=Tryz.zeroValue5
 t9:=Tryz.underlying9
 a9:=Tryz.isAgg9
 z9:=Tryz.sizeOf9
 v9:=Tryz.zeroValue9 }
open Go.RowKit in
theorem Tryz.strings_IndexByte (s:ByteArray)(c:Int)(w:World) :
 Calls Tryz.prog 164 #[.string s,.int .u8 c] w fun e w'=>e=.returned (.int .i64 (Lib.indexByte s.data.toList c.toNat.toUInt8))/\w'=w:=Any.strings_IndexByte Tryz.lays137 s c w
def Tryz.laysC172_ren:Go.Shelf.Ren:=⟨fun|172=>195|244=>217|245=>218|247=>238|279=>239|280=>240|281=>241|282=>242|287=>253|316=>254|171=>112|205=>255|321=>262|322=>263|243=>137|246=>158|283=>181|284=>182|285=>183|286=>184|129=>206|317=>205|318=>207|319=>208|320=>209|337=>227|338=>228|n=>n,fun|9=>9|3=>3|75=>217|76=>218|4=>4|5=>5|167=>317|37=>146|0=>0|85=>318|2=>2|168=>320|53=>185|175=>332|46=>236|210=>335|127=>241|145=>350|143=>348|21=>21|171=>253|173=>256|212=>282|51=>199|20=>20|213=>283|232=>328|233=>329|80=>73|n=>n,fun|15=>6|16=>7|17=>0|18=>4|19=>5|n=>n⟩
theorem Tryz.laysC172:Go.Proofs.LaysC.n172 Tryz.prog Tryz.laysC172_ren:={
 mixed:=by kernel_rfl
 f129:=Tryz.func206.trans (congrArg some (by kernel_rfl))
 f171:=Tryz.func112.trans (congrArg some (by kernel_rfl))
 f172:=Tryz.func195.trans (congrArg some (by kernel_rfl))
 f205:=Tryz.func255.trans (congrArg some (by kernel_rfl))
 f243:=Tryz.func137.trans (congrArg some (by kernel_rfl))
 f244:=Tryz.func217.trans (congrArg some (by kernel_rfl))
 f245:=Tryz.func218.trans (congrArg some (by kernel_rfl))
 f246:=Tryz.func158.trans (congrArg some (by kernel_rfl))
 f247:=Tryz.func238.trans (congrArg some (by kernel_rfl))
 f279:=Tryz.func239.trans (congrArg some (by kernel_rfl))
 f280:=Tryz.func240.trans (congrArg some (by kernel_rfl))
 f281:=Tryz.func241.trans (congrArg some (by kernel_rfl))
 f282:=Tryz.func242.trans (congrArg some (by kernel_rfl))
 f283:=Tryz.func181.trans (congrArg some (by kernel_rfl))
 f284:=Tryz.func182.trans (congrArg some (by kernel_rfl))
 f285:=Tryz.func183.trans (congrArg some (by kernel_rfl))
 f286:=Tryz.func184.trans (congrArg some (by kernel_rfl))
 f287:=Tryz.func253.trans (congrArg some (by kernel_rfl))
 f316:=Tryz.func254.trans (congrArg some (by kernel_rfl))
 f317:=Tryz.func205.trans (congrArg some (by kernel_rfl))
 f318:=Tryz.func207.trans (congrArg some (by kernel_rfl))
 f319:=Tryz.func208.trans (congrArg some (by kernel_rfl))
 f320:=Tryz.func209.trans (congrArg some (by kernel_rfl))
 f321:=Tryz.func262.trans (congrArg some (by kernel_rfl))
 f322:=Tryz.func263.trans (congrArg some (by kernel_rfl))
 f337:=Tryz.func227.trans (congrArg some (by kernel_rfl))
 f338:=Tryz.func228.trans (congrArg some (by kernel_rfl))
 t0:=Tryz.underlying0
 a0:=Tryz.isAgg0
 z0:=Tryz.sizeOf0
 v0:=Tryz.zeroValue0
 t2:=Tryz.underlying2
 a2:=Tryz.isAgg2
 z2:=Tryz.sizeOf2
 v2:=Tryz.zeroValue2
 t3:=Tryz.underlying3
 a3:=Tryz.isAgg3
 z3:=Tryz.sizeOf3
 v3:=Tryz.zeroValue3
 t4:=Tryz.underlying4
 a4:=Tryz.isAgg4
 z4:=Tryz.sizeOf4
 v4:=Tryz.zeroValue4
 t5:=Tryz.underlying5
 a5:=Tryz.isAgg5
 z5:=Tryz.sizeOf5
 v5:=Tryz.zeroValue5
 t9:=Tryz.underlying9
 a9:=Tryz.isAgg9
 z9:=Tryz.sizeOf9
 v9:=Tryz.zeroValue9
 t20:=Tryz.underlying20
 a20:=Tryz.isAgg20
 z20:=Tryz.sizeOf20
 v20:=Tryz.zeroValue20
 t21:=Tryz.underlying21
 a21:=Tryz.isAgg21
 z21:=Tryz.sizeOf21
 v21:=Tryz.zeroValue21
 t37:=Tryz.underlying146
 a37:=Tryz.isAgg146
 z37:=Tryz.sizeOf146
 v37:=Tryz.zeroValue146
 t46:=Tryz.underlying236
 a46:=Tryz.isAgg236
 z46:=Tryz.sizeOf236
 v46:=Tryz.zeroValue236
 t51:=Tryz.underlying199
 a51:=Tryz.isAgg199
 z51:=Tryz.sizeOf199
 v51:=Tryz.zeroValue199
 t53:=Tryz.underlying185
 a53:=Tryz.isAgg185
 z53:=Tryz.sizeOf185
 v53:=Tryz.zeroValue185
 t75:=Tryz.underlying217
 a75:=Tryz.isAgg217
 z75:=Tryz.sizeOf217
 v75:=Tryz.zeroValue217
 t76:=Tryz.underlying218
 a76:=Tryz.isAgg218
 z76:=Tryz.sizeOf218
 v76:=Tryz.zeroValue218
 t85:=Tryz.underlying318
 a85:=Tryz.isAgg318
 z85:=Tryz.sizeOf318
 v85:=Tryz.zeroValue318
 t127:=Tryz.underlying241
 a127:=Tryz.isAgg241
 z127:=Tryz.sizeOf241
 v127:=Tryz.zeroValue241
 t143:=Tryz.underlying348
 a143:=Tryz.isAgg348
 z143:=Tryz.sizeOf348
 v143:=Tryz.zeroValue348
 t145:=Tryz.underlying350
 a145:=Tryz.isAgg350
 z145:=Tryz.sizeOf350
 v145:=Tryz.zeroValue350
 t167:=Tryz.underlying317
 a167:=Tryz.isAgg317
 z167:=Tryz.sizeOf317
 v167:=Tryz.zeroValue317
 t168:=Tryz.underlying320
 a168:=Tryz.isAgg320
 z168:=Tryz.sizeOf320
 v168:=Tryz.zeroValue320
 t171:=Tryz.underlying253
 a171:=Tryz.isAgg253
 z171:=Tryz.sizeOf253
 v171:=Tryz.zeroValue253
 t173:=Tryz.underlying256
 a173:=Tryz.isAgg256
 z173:=Tryz.sizeOf256
 v173:=Tryz.zeroValue256
 t175:=Tryz.underlying332
 a175:=Tryz.isAgg332
 z175:=Tryz.sizeOf332
 v175:=Tryz.zeroValue332
 t210:=Tryz.underlying335
 a210:=Tryz.isAgg335
 z210:=Tryz.sizeOf335
 v210:=Tryz.zeroValue335
 t212:=Tryz.underlying282
 a212:=Tryz.isAgg282
 z212:=Tryz.sizeOf282
 v212:=Tryz.zeroValue282
 t213:=Tryz.underlying283
 a213:=Tryz.isAgg283
 z213:=Tryz.sizeOf283
 t232:=Tryz.underlying328
 a232:=Tryz.isAgg328
 z232:=Tryz.sizeOf328
 v232:=Tryz.zeroValue328
 t233:=Tryz.underlying329
 a233:=Tryz.isAgg329
 z233:=Tryz.sizeOf329
 v233:=Tryz.zeroValue329
 g15:=by kernel_rfl
 g16:=by kernel_rfl
 g17:=by kernel_rfl
 g18:=by kernel_rfl
 g19:=by kernel_rfl
 t80:=Tryz.underlying73
 a80:=Tryz.isAgg73
 z80:=Tryz.sizeOf73
 v80:=Tryz.zeroValue73
 i0:=by kernel_rfl
 i2:=by kernel_rfl
 i3:=by kernel_rfl
 i4:=by kernel_rfl
 i5:=by kernel_rfl
 i9:=by kernel_rfl
 i20:=by kernel_rfl
 i21:=by kernel_rfl
 i37:=by kernel_rfl
 i46:=by kernel_rfl
 i51:=by kernel_rfl
 i53:=by kernel_rfl
 i75:=by kernel_rfl
 i76:=by kernel_rfl
 i80:=by kernel_rfl
 i85:=by kernel_rfl
 i127:=by kernel_rfl
 i143:=by kernel_rfl
 i145:=by kernel_rfl
 i167:=by kernel_rfl
 i168:=by kernel_rfl
 i171:=by kernel_rfl
 i173:=by kernel_rfl
 i175:=by kernel_rfl
 i210:=by kernel_rfl
 i212:=by kernel_rfl
 i232:=by kernel_rfl
 i233:=by kernel_rfl
 m15:=by kernel_rfl
 m16:=by kernel_rfl
 m17:=by kernel_rfl
 m18:=by kernel_rfl
 m19:=by kernel_rfl
 c0:=by kernel_rfl
 c2:=by kernel_rfl
 c3:=by kernel_rfl
 c4:=by kernel_rfl
 c5:=by kernel_rfl
 c9:=by kernel_rfl
 c20:=by kernel_rfl
 c21:=by kernel_rfl
 c37:=by kernel_rfl
 c46:=by kernel_rfl
 c51:=by kernel_rfl
 c53:=by kernel_rfl
 c75:=by kernel_rfl
 c76:=by kernel_rfl
 c80:=by kernel_rfl
 c85:=by kernel_rfl
 c127:=by kernel_rfl
 c143:=by kernel_rfl
 c145:=by kernel_rfl
 c167:=by kernel_rfl
 c168:=by kernel_rfl
 c171:=by kernel_rfl
 c173:=by kernel_rfl
 c175:=by kernel_rfl
 c210:=by kernel_rfl
 c212:=by kernel_rfl
 c213:=by kernel_rfl
 c232:=by kernel_rfl
 c233:=by kernel_rfl }
open Go.RowKit in
theorem Tryz.strconv_Atoi_ok (s:ByteArray)(hmax:s.size<=9223372036854775806)(v:Int)(h:Lib.atoiAll s.data.toList=.ok v)(w:World) :
 Calls Tryz.prog 195 #[.string s] w fun e w'=>e=.returned (.tuple #[.int .i64 v,.nilIface])/\(w'=w∨∃ t,w'=Lib.bytesWorld w 5 t):=Any.strconv_Atoi_ok Tryz.laysC172 s hmax v h w
open Go.RowKit in
theorem Tryz.strconv_Atoi_syntax (s:ByteArray)(hlim:s.size<=281474976710656)(h:Lib.atoiAll s.data.toList=.«syntax»)(ev:Value)(w:World)(hv:w.cell? ⟨6,0,none⟩=some ev)(hev:ev=.nilIface∨∃ te pe,ev=.iface te pe) :
 Calls Tryz.prog 195 #[.string s] w fun e w'=>∃ N,e=.returned (.tuple #[.int .i64 (0),.iface 320 (.pointer (some ⟨N,0,none⟩))])/\w.heap.size<=N/\w'.heap[N]?=some (.cells #[.string ⟨#[65,116,111,105]⟩,.string s,ev] 335 (0,0))/\Below w.heap.size w w':=Any.strconv_Atoi_syntax Tryz.laysC172 s hlim h ev w hv hev
open Go.RowKit in
theorem Tryz.strconv_Atoi_range (s:ByteArray)(hlim:s.size<=281474976710656)(h:Lib.atoiAll s.data.toList=.range)(ev:Value)(w:World)(hv:w.cell? ⟨7,0,none⟩=some ev)(hev:ev=.nilIface∨∃ te pe,ev=.iface te pe) :
 Calls Tryz.prog 195 #[.string s] w fun e w'=>∃ N,e=.returned (.tuple #[.int .i64 (Lib.atoiSat s.data.toList),.iface 320 (.pointer (some ⟨N,0,none⟩))])/\w.heap.size<=N/\w'.heap[N]?=some (.cells #[.string ⟨#[65,116,111,105]⟩,.string s,ev] 335 (0,0))/\Below w.heap.size w w':=Any.strconv_Atoi_range Tryz.laysC172 s hlim h ev w hv hev
def Tryz.lays144_ren:Go.Shelf.Ren:=⟨fun|144=>198|143=>222|219=>244|217=>193|225=>258|224=>259|267=>260|266=>216|314=>264|n=>n,fun|9=>9|4=>4|3=>3|5=>5|46=>236|146=>353|51=>199|n=>n,fun|1=>1|n=>n⟩
theorem Tryz.lays144:Go.Proofs.Lays.n144 Tryz.prog Tryz.lays144_ren:={
 mixed:=by kernel_rfl
 f143:=Tryz.func222.trans (congrArg some (by kernel_rfl))
 f144:=Tryz.func198.trans (congrArg some (by kernel_rfl))
 f217:=Tryz.func193.trans (congrArg some (by kernel_rfl))
 f219:=Tryz.func244.trans (congrArg some (by kernel_rfl))
 f224:=Tryz.func259.trans (congrArg some (by kernel_rfl))
 f225:=Tryz.func258.trans (congrArg some (by kernel_rfl))
 f266:=Tryz.func216.trans (congrArg some (by kernel_rfl))
 f267:=Tryz.func260.trans (congrArg some (by kernel_rfl))
 f314:=Tryz.func264.trans (congrArg some (by kernel_rfl))
 t3:=Tryz.underlying3
 a3:=Tryz.isAgg3
 z3:=Tryz.sizeOf3
 v3:=Tryz.zeroValue3
 t4:=Tryz.underlying4
 a4:=Tryz.isAgg4
 z4:=Tryz.sizeOf4
 v4:=Tryz.zeroValue4
 t5:=Tryz.underlying5
 a5:=Tryz.isAgg5
 z5:=Tryz.sizeOf5
 v5:=Tryz.zeroValue5
 t9:=Tryz.underlying9
 a9:=Tryz.isAgg9
 z9:=Tryz.sizeOf9
 v9:=Tryz.zeroValue9
 t46:=Tryz.underlying236
 a46:=Tryz.isAgg236
 z46:=Tryz.sizeOf236
 v46:=Tryz.zeroValue236
 t51:=Tryz.underlying199
 a51:=Tryz.isAgg199
 z51:=Tryz.sizeOf199
 v51:=Tryz.zeroValue199
 t146:=Tryz.underlying353
 a146:=Tryz.isAgg353
 z146:=Tryz.sizeOf353
 v146:=Tryz.zeroValue353
 g1:=by kernel_rfl }
open Go.RowKit Go.Lib in
theorem Tryz.strings_Contains_one (s:ByteArray)(c:UInt8)(w:World) :
 Calls Tryz.prog 198 #[.string s,.string ⟨#[c]⟩] w fun e w'=>e=.returned (.bool (decide (0<=Lib.indexByte s.data.toList c)))/\w'=w:=Any.strings_Contains_one Tryz.lays144 s c w
def Tryz.lays99_ren:Go.Shelf.Ren:=⟨fun|99=>197|206=>221|n=>n,fun|9=>9|4=>4|3=>3|n=>n,fun|n=>n⟩
theorem Tryz.lays99:Go.Proofs.Lays.n99 Tryz.prog Tryz.lays99_ren:={
 mixed:=by kernel_rfl
 f99:=Tryz.func197.trans (congrArg some (by kernel_rfl))
 f206:=Tryz.func221.trans (congrArg some (by kernel_rfl))
 t3:=Tryz.underlying3
 a3:=Tryz.isAgg3
 z3:=Tryz.sizeOf3
 v3:=Tryz.zeroValue3
 t4:=Tryz.underlying4
 a4:=Tryz.isAgg4
 z4:=Tryz.sizeOf4
 v4:=Tryz.zeroValue4
 t9:=Tryz.underlying9
 a9:=Tryz.isAgg9
 z9:=Tryz.sizeOf9
 v9:=Tryz.zeroValue9 }
open Go.RowKit Go.Lib in
theorem Tryz.strings_HasPrefix (s p:ByteArray)(w:World) :
 Calls Tryz.prog 197 #[.string s,.string p] w fun e w'=>e=.returned (.bool (Lib.hasPrefix s.data.toList p.data.toList))/\w'=w:=Any.strings_HasPrefix Tryz.lays99 s p w
def Tryz.lays157_ren:Go.Shelf.Ren:=⟨fun|157=>196|229=>219|199=>220|261=>243|311=>256|312=>257|n=>n,fun|9=>9|31=>143|3=>3|5=>5|4=>4|119=>266|0=>0|40=>302|152=>323|21=>21|154=>325|51=>199|141=>327|196=>340|193=>337|198=>343|49=>341|194=>338|201=>346|226=>351|46=>236|227=>352|n=>n,fun|0=>2|6=>3|n=>n⟩
theorem Tryz.lays157:Go.Proofs.Lays.n157 Tryz.prog Tryz.lays157_ren:={
 mixed:=by kernel_rfl
 f157:=Tryz.func196.trans (congrArg some (by kernel_rfl))
 f199:=Tryz.func220.trans (congrArg some (by kernel_rfl))
 f229:=Tryz.func219.trans (congrArg some (by kernel_rfl))
 f261:=Tryz.func243.trans (congrArg some (by kernel_rfl))
 f311:=Tryz.func256.trans (congrArg some (by kernel_rfl))
 f312:=Tryz.func257.trans (congrArg some (by kernel_rfl))
 t0:=Tryz.underlying0
 a0:=Tryz.isAgg0
 z0:=Tryz.sizeOf0
 v0:=Tryz.zeroValue0
 t3:=Tryz.underlying3
 a3:=Tryz.isAgg3
 z3:=Tryz.sizeOf3
 v3:=Tryz.zeroValue3
 t4:=Tryz.underlying4
 a4:=Tryz.isAgg4
 z4:=Tryz.sizeOf4
 v4:=Tryz.zeroValue4
 t5:=Tryz.underlying5
 a5:=Tryz.isAgg5
 z5:=Tryz.sizeOf5
 v5:=Tryz.zeroValue5
 t9:=Tryz.underlying9
 a9:=Tryz.isAgg9
 z9:=Tryz.sizeOf9
 v9:=Tryz.zeroValue9
 t21:=Tryz.underlying21
 a21:=Tryz.isAgg21
 z21:=Tryz.sizeOf21
 v21:=Tryz.zeroValue21
 t31:=Tryz.underlying143
 a31:=Tryz.isAgg143
 z31:=Tryz.sizeOf143
 v31:=Tryz.zeroValue143
 t40:=Tryz.underlying302
 a40:=Tryz.isAgg302
 z40:=Tryz.sizeOf302
 v40:=Tryz.zeroValue302
 t46:=Tryz.underlying236
 a46:=Tryz.isAgg236
 z46:=Tryz.sizeOf236
 v46:=Tryz.zeroValue236
 t49:=Tryz.underlying341
 a49:=Tryz.isAgg341
 z49:=Tryz.sizeOf341
 v49:=Tryz.zeroValue341
 t51:=Tryz.underlying199
 a51:=Tryz.isAgg199
 z51:=Tryz.sizeOf199
 v51:=Tryz.zeroValue199
 t119:=Tryz.underlying266
 a119:=Tryz.isAgg266
 z119:=Tryz.sizeOf266
 t141:=Tryz.underlying327
 a141:=Tryz.isAgg327
 z141:=Tryz.sizeOf327
 v141:=Tryz.zeroValue327
 t152:=Tryz.underlying323
 a152:=Tryz.isAgg323
 z152:=Tryz.sizeOf323
 v152:=Tryz.zeroValue323
 t154:=Tryz.underlying325
 a154:=Tryz.isAgg325
 z154:=Tryz.sizeOf325
 v154:=Tryz.zeroValue325
 t193:=Tryz.underlying337
 a193:=Tryz.isAgg337
 z193:=Tryz.sizeOf337
 v193:=Tryz.zeroValue337
 t194:=Tryz.underlying338
 a194:=Tryz.isAgg338
 z194:=Tryz.sizeOf338
 v194:=Tryz.zeroValue338
 t196:=Tryz.underlying340
 a196:=Tryz.isAgg340
 z196:=Tryz.sizeOf340
 v196:=Tryz.zeroValue340
 t198:=Tryz.underlying343
 a198:=Tryz.isAgg343
 z198:=Tryz.sizeOf343
 v198:=Tryz.zeroValue343
 t201:=Tryz.underlying346
 a201:=Tryz.isAgg346
 z201:=Tryz.sizeOf346
 v201:=Tryz.zeroValue346
 t226:=Tryz.underlying351
 a226:=Tryz.isAgg351
 z226:=Tryz.sizeOf351
 v226:=Tryz.zeroValue351
 t227:=Tryz.underlying352
 a227:=Tryz.isAgg352
 z227:=Tryz.sizeOf352
 v227:=Tryz.zeroValue352
 g0:=by kernel_rfl
 g6:=by kernel_rfl }
open Go.RowKit Go.Lib in
theorem Tryz.strings_Fields (s:ByteArray)(w:World)(hs:s.size<4294967281)(hascii:∀ (j:Nat) b,s.data.toList[j]?=some b->b.toNat<128)(htab:Lib.TabIs Tryz.prog w "strings.asciiSpace" .u8 Lib.asciiSpaceTab) :
 Calls Tryz.prog 196 #[.string s] w fun e w' =>
  e=.returned (.slice (some ⟨w.heap.size,0,none⟩) (Lib.fields s.data.toList).length (Lib.fields s.data.toList).length)/\w'=w.alloc (.cells ((Lib.fields s.data.toList).map fun l=>Value.string ⟨l.toArray⟩).toArray 9):=Any.strings_Fields Tryz.lays157 (by kernel_rfl) (by kernel_rfl) s w hs hascii htab
end Go.Proofs
namespace Go.Proofs.YtkcfmlfkfagejaaGreatDoor
open Go.RowKit Go.Q Go.Lx
theorem WA (c:UInt8):isWord c=decide ((2:Int)<=(cls c:Int)):=by
 unfold cls isWord
 cases h1:isLetter c<;>cases h2:isDigit c<;>simp
 split<;>decide
theorem getD_at (s:ByteArray)(j:Nat)(h:j<s.size):s[j]=s.data.toList.getD j 0:=by
 have h2:j<s.data.size:=h
 rw [List.getD_eq_getElem?_getD,List.getElem?_eq_getElem (by simpa using h2)]
 simp [ByteArray.getElem_eq_getElem_data]
theorem Ht {x:Int}{n:Nat}(h:x=n)(hn:n<=4611686018427387904):IntKind.i64.wrap x=(n:Int):=by
 subst h;rw [IntKind.wrap_i64];omega
theorem Z8 {r:List UInt8}:Lib.indexByte (35::r) 10≠0:=by
 have h:=Lib.indexByte_ge r 10
 show (if ((35:UInt8) == 10)=true then (0:Int) else _)≠0
 rw [if_neg (by decide)]
 split
 . decide
 . rename_i h2;simp only [beq_iff_eq] at h2;omega
theorem RG:∀ (r:List UInt8),(Lib.indexByte r 10<0->skip true r=[])/\(∀ k:Nat,Lib.indexByte r 10=(k:Int)->k<=r.length/\skip true r=skip false (r.drop k))
 | []=>⟨fun _=>rfl,fun k h=>by have:(-1:Int)=k:=h;omega⟩
 |b::l=>by
  have ih:=RG l
  have hge:=Lib.indexByte_ge l 10
  have e:Lib.indexByte (b::l) 10=if (b == 10)=true then 0 else if (Lib.indexByte l 10 == -1)=true then -1 else Lib.indexByte l 10+1:=rfl
  rw [e,JH]
  by_cases hb:b=10
  . rw [if_pos (by rw [hb];rfl),if_pos hb]
    refine⟨fun h=>absurd h (by decide),fun k h=>?_⟩
    obtain rfl:k=0:=by omega
    exact⟨by simp,by rw [hb];rfl⟩
  . rw [if_neg (by simpa using hb),if_neg hb]
    by_cases hn:Lib.indexByte l 10 = -1
    . rw [if_pos (by rw [hn];rfl)]
      exact⟨fun _=>ih.1 (by omega),fun k h=>by omega⟩
    . rw [if_neg (by simpa using hn)]
      refine⟨fun h=>by omega,fun k h=>?_⟩
      obtain⟨h1,h2⟩:=ih.2 (k-1) (by omega)
      have hk:k=(k-1)+1:=by omega
      refine⟨by simp;omega,?_⟩
      rw [hk,List.drop_succ_cons];exact h2
theorem Vc (c:UInt8)(h:DH c=true):cls c=1:=by
 have h2:=Gl (.inl h)
 unfold cls;rw [h2.2.2,h2.2.1,h];rfl
theorem OV (c:UInt8)(h:DH c=false):((cls c:Int) == 1)=false:=by
 unfold cls;rw [h];cases isLetter c<;>cases isDigit c<;>rfl
theorem Ms {c:UInt8}(h:isDigit c=true):isLetter c=false:=by
 cases hl:isLetter c with
 |false=>rfl
 |true=>rw [KY] at hl;rw [Ky] at h;omega
theorem Rf {s:ByteArray}{p j:Nat}(hp:p<s.size)(hpj:p<=j)(hall:Ic isWord s p j)(hhd:headIs isWord ((bl s).drop j)=false)(hw:isWord s[p]=true):p<j:=by
 rcases Nat.lt_or_ge p j with h|h
 . exact h
 . obtain rfl:p=j:=by omega
   rw [Fw s p hp] at hhd
   have:isWord s[p]=false:=hhd
   rw [hw] at this;cases this
theorem Ww {s x:ByteArray}{p n:Nat}(h:bl x=((bl s).drop p).take n)(hx:0<x.size)(hp:p<s.size):x[0]=s[p]:=by
 have h1:=Fw x 0 hx
 rw [List.drop_zero,h,Fw s p hp] at h1
 cases n with
 |zero=>simp at h1
 |succ n=>rw [List.take_succ_cons] at h1;exact (List.cons.inj h1).1.symm
theorem R2 (r:List UInt8):number r=.bad 27∨∃ v t,number r=.ok 2 [] v t:=by
 unfold number;simp only;split
 . exact .inl rfl
 . exact .inr ⟨_,_,rfl⟩
theorem NP {x:List UInt8}(h:headIs isWord x=false):headIs isDigit x=false/\headIs isLetter x=false:=by
 cases x with
 |nil=>exact⟨rfl,rfl⟩
 |cons c r =>
  have h2:isWord c=false:=h
  simp only [isWord,Bool.or_eq_false_iff] at h2
  exact⟨h2.2,h2.1⟩
theorem R0 {s:ByteArray}{p j:Nat}(hp:p<s.size)(hpj:p<=j)(hj:j<=s.size)(hall:Ic isWord s p j)(hhd:headIs isWord ((bl s).drop j)=false)(hd:isDigit s[p]=true) :
 ((∀ v,Lib.atoiAll (((bl s).drop p).take (j-p))≠.ok v)->number ((bl s).drop p)=.bad 27) /\
 (∀ v,Lib.atoiAll (((bl s).drop p).take (j-p))=.ok v->(15<j-p∨(1<j-p/\s[p]=48)->number ((bl s).drop p)=.bad 27) /\
  (¬ 15<j-p->¬ (1<j-p/\s[p]=48)->number ((bl s).drop p)=.ok 2 [] v.toNat ((bl s).drop j)/\v=(v.toNat:Int))):=by
 have hlt:=Rf hp hpj hall hhd (by simp [isWord,hd])
 obtain⟨hn1,hn2⟩:=NP hhd
 have hW:((bl s).drop p).take (j-p)=s[p]::((bl s).drop (p+1)).take (j-p-1):=by
  rw [Fw s p hp,show j-p=(j-p-1)+1 by omega,List.take_succ_cons];simp
 refine⟨fun hno=>?_,fun v hv=>?_⟩
 . rcases R2 ((bl s).drop p) with h|⟨v,t,h⟩
   . exact h
   . exfalso
     obtain⟨d,_,_,hv,e,h1,h2,h3,h4,_⟩:=number_parts h
     have hw:=hall.while hpj hhd
     have ht:headIs isWord t=false:=by
      cases t with
      |nil=>rfl
      |cons c r=>show isWord c=false;simp only [isWord,Bool.or_eq_false_iff];exact⟨h3,h2⟩
     have hw2:=F0 isWord d t (fun c hc=>by simp [isWord,h1 c hc]) ht
     rw [<- e] at hw2
     have hdW:d=((bl s).drop p).take (j-p):=by rw [<- hw.1,hw2.1]
     rw [hdW] at h1 h4
     rw [hW] at h1 h4
     exact hno _ (by rw [hW];exact Um h1 h4)
 . have hdig:=by rw [hW] at hv;exact So hd hv
   have hdig2:Ic isDigit s p j:=by intro c hc;rw [hW] at hc;exact hdig c hc
   have hw:=hdig2.while hpj hn1
   have hlen:=Lq s p j hpj hj
   refine⟨fun hbad=>?_,fun h15 hz=>?_⟩
   . rcases hbad with h|⟨h1,h2⟩
     . exact NO hw hlen (.inl h)
     . exact NO hw hlen (.inr (.inl ⟨h1,by rw [Fw s p hp];exact beq_iff_eq.2 h2⟩))
   . have hok:Lib.atoiAll (((bl s).drop p).take (j-p))=.ok (numVal (((bl s).drop p).take (j-p)):Int):=by
      rw [hW]
      refine Um hdig ?_
      rw [<- hW,hlen];omega
     rw [hok] at hv
     have hvv:(numVal (((bl s).drop p).take (j-p)):Int)=v:=by injection hv
     subst hvv
     exact⟨R1 hpj hj (by omega) hdig2 hn1 hn2 (fun h=>by rw [Fw s p hp];exact beq_eq_false_iff_ne.2 fun e=>hz ⟨h,e⟩),rfl⟩
end Go.Proofs.YtkcfmlfkfagejaaGreatDoor
namespace Go.Proofs.YtkcfmlfkfagejaaGreatDoor
open Go.RowKit Go.Q Go.Lx
theorem OM:∀ (n:Nat) (r b:List UInt8),r.length<=n->∀ {e:Nat},text b r=.bad e->e=2∨e=28:=by
 intro n
 induction n with
 |zero =>
  intro r b hr e h
  obtain rfl:=List.eq_nil_of_length_eq_zero (Nat.le_zero.1 hr)
  unfold text at h;split at h<;>(cases h;simp)
 |succ n ih =>
  intro r b hr e h
  cases r with
  |nil=>unfold text at h;split at h<;>(cases h;simp)
  |cons c r =>
   unfold text at h
   split at h
   . cases h;simp
   . split at h
     . cases h
     . split at h
       . cases r with
         |nil=>cases h;simp
         |cons d r' =>
          simp only at h
          split at h
          . cases h;simp
          . exact ih r' _ (by simp at hr;omega) h
       . split at h
         . cases h;simp
         . exact ih r _ (by simp at hr;omega) h
theorem PY {r:List UInt8}{e:Nat}(h:Lx.tok r=.bad e):e≠0:=by
 unfold Lx.tok at h
 cases r with
 |nil=>cases h;decide
 |cons c r' =>
  simp only at h
  split at h
  . unfold name at h;split at h<;>cases h;decide
  . split at h
    . unfold number at h;simp only at h;split at h<;>cases h;decide
    . split at h
      . rcases OM _ _ _ (Nat.le_refl _) h with rfl|rfl<;>decide
      . unfold sign at h
        split at h
        . cases h
        . simp only at h
          split at h<;>cases h;decide
theorem UZ {l u t:List UInt8}(h:l=u++t):l.drop (l.length-t.length)=t/\l.length-t.length<=l.length:=by
 subst h
 rw [List.length_append,show u.length+t.length-t.length=u.length by omega,List.drop_left]
 exact⟨rfl,by omega⟩
theorem TM (s:ByteArray)(i:Nat){u t:List UInt8}(h:(bl s).drop i=u++t):(bl s).drop (s.size-t.length)=t/\s.size-t.length<=s.size:=by
 have e:bl s=((bl s).take i++u)++t:=by rw [List.append_assoc,<- h,List.take_append_drop]
 have:=UZ e
 rw [Et] at this
 exact this
theorem TK (s:ByteArray)(i:Nat):(bl s).drop (s.size-(skip false ((bl s).drop i)).length)=skip false ((bl s).drop i)/\s.size-(skip false ((bl s).drop i)).length<=s.size:=by
 obtain⟨u,hu⟩:=GO false ((bl s).drop i)
 exact TM s i hu
def OI (n:Nat)(r0:List UInt8)(l:List Tok)(r:List UInt8):Prop:=(∀ l',Lx.Good n r l'->Lx.Good n r0 (l++l'))/\∀ q e,Lx.Bad n r q e->Lx.Bad n r0 q e
theorem OI.nil (n:Nat)(r0:List UInt8):OI n r0 [] r0:=⟨fun _ h=>h,fun _ _ h=>h⟩
theorem OI.cons {n:Nat}{r0 r s t:List UInt8}{l:List Tok}{k v:Nat}(h:OI n r0 l r)(ht:Lx.tok r=.ok k s v t):OI n r0 (l++[⟨k,n-r.length,s,v⟩]) (skip false t) :=
 ⟨fun l' hg=>by rw [List.append_assoc];exact h.1 _ (.cons ht hg),fun q e hb=>h.2 q e (.later ht hb)⟩
end Go.Proofs.YtkcfmlfkfagejaaGreatDoor
namespace Go.Lx
theorem N3 (n:Nat):∀ (f:Nat) (r:List UInt8),r.length<=f->(∀ l,toks n f r=.ok l->Good n r l)/\∀ p e,toks n f r=.error (p,e)->Bad n r p e
 |0,r,h=>by
  obtain rfl:=List.eq_nil_of_length_eq_zero (Nat.le_zero.1 h)
  refine⟨fun l hl=>?_,fun p e he=>?_⟩
  . unfold toks at hl;cases hl;exact .fin
  . unfold toks at he;cases he
 |f+1,r,h=>by
  cases r with
  |nil =>
   refine⟨fun l hl=>?_,fun p e he=>?_⟩
   . unfold toks at hl;cases hl;exact .fin
   . unfold toks at he;cases he
  |cons c r0 =>
   unfold toks
   simp only
   cases ht:tok (c::r0) with
   |bad e1 =>
    refine⟨fun l hl=>(by cases hl),fun p e he=>?_⟩
    cases he;exact .here (by simp) ht
   |ok k s v t =>
    have h1:=TG ht
    have h2:=skip_len false t
    have ih:=N3 n f (skip false t) (by omega)
    simp only
    cases hx:toks n f (skip false t) with
    |error x =>
     refine⟨fun l hl=>(by cases hl),fun p e he=>?_⟩
     obtain⟨p1,e1⟩:=x
     cases he;exact .later ht (ih.2 _ _ hx)
    |ok l1 =>
     refine⟨fun l hl=>?_,fun p e he=>(by cases he)⟩
     cases hl;exact .cons ht (ih.1 _ hx)
theorem tokens_good {l:List UInt8}{ts:List Tok}(h:tokens l=.ok ts):Good l.length (skip false l) ts:=(N3 _ _ _ (skip_len false l)).1 _ h
theorem tokens_bad {l:List UInt8}{p e:Nat}(h:tokens l=.error (p,e)):Bad l.length (skip false l) p e:=(N3 _ _ _ (skip_len false l)).2 _ _ h
end Go.Lx
namespace Go.Proofs.YtkcfmlfkfagejaaGreatDoor
open Go.RowKit Go.Q Go.Lx
end Go.Proofs.YtkcfmlfkfagejaaGreatDoor




namespace Go.Sp
open Go
theorem Xn {src:ByteArray}(hs:src.size<=1000){ts:List Lx.Tok}(h:Lx.tokens src.data.toList=.ok ts):OX (ts.map QY):=by
 obtain⟨h1,h2⟩:=(ER _ _).1 _ h
 have h3:src.data.toList.length=src.size:=rfl
 exact (N9 h1 (by omega)).1
end Go.Sp


namespace Go.Sp
open Go
theorem PF {n:Nat}(h:n<10):Lx.dec n=[UInt8.ofNat (48+n)]:=by rw [Lx.dec,dif_pos h]
theorem Yd {n:Nat}(h:¬ n<10):Lx.dec n=Lx.dec (n / 10)++[UInt8.ofNat (48+n % 10)]:=by rw [Lx.dec,dif_neg h]
theorem Wb:∀ (N n:Nat),n<=N->Lib.itoa (n:Int)=Lx.dec n:=by
 have small:∀ n:Nat,n<10->Lib.itoa (n:Int)=Lx.dec n:=by
  intro n h
  rw [PF h]
  unfold Lib.itoa
  rw [if_neg (by omega),Int.toNat_natCast,Lib.decDigits_one h]
 intro N
 induction N with
 |zero=>intro n h;exact small n (by omega)
 |succ N ih =>
  intro n h
  by_cases h10:n<10
  . exact small n h10
  . rw [Yd h10,<- ih (n / 10) (by omega),<- PF (show n % 10<10 by omega),<- small (n % 10) (by omega)]
    unfold Lib.itoa
    rw [if_neg (by omega),if_neg (by omega),if_neg (by omega),Int.toNat_natCast,Int.toNat_natCast,Int.toNat_natCast,Lib.decDigits_one (i:=n % 10) (by omega)]
    conv=>lhs;rw [Lib.decDigits,dif_neg h10]
def WT (y:Lx.Tok):Prop:=∃ r u,Lx.tok r=.ok y.kind y.s y.n u
theorem Xf {t:Ac}{y:Lx.Tok}(hy:WT y)(h1:t.Kind=(y.kind:Int))(h2:t.S=⟨⟨y.s⟩⟩)(h3:t.N=(y.n:Int)):Hv t=[y.word]:=by
 obtain⟨r,u,hr⟩:=hy
 obtain⟨_,_,_,k1,k4⟩:=Lx.tok_parts hr
 unfold Hv Lx.Tok.word Lx.word
 rw [h1,h2,h3]
 by_cases q1:y.kind=1∨y.kind=4
 . rw [if_pos q1,if_pos (by omega)]
 . rw [if_neg q1,if_neg (by omega)]
   by_cases q2:y.kind=2
   . rw [if_pos q2,if_pos (by omega),Wb _ _ (Nat.le_refl _)]
   . rw [if_neg q2,if_neg (by omega)]
     have q3:y.kind=3:=by omega
     rw [if_pos q3,if_pos (by omega)]
end Go.Sp






namespace Go.Sp
open Go
theorem RP {src:ByteArray}(hs:src.size<=1000){ts:List Lx.Tok}(h:Lx.tokens src.data.toList=.ok ts)(n:Nat):Ek n src=(Bo n ⟨ts.map QY,⟨0,0⟩⟩ [] 0 0).bind fun y=>match y with
 |.inl out=>some (BP.mk out (Ab.mk 0 0 ⟨#[]⟩ [] 0) (Am.mk 0 0))
 |.inr o=>some o:=by
 have hT:Ho src=some ⟨ts.map QY,⟨0,0⟩⟩:=by
  unfold Ho Fi
  rw [if_neg (by omega),h]
 unfold Ek
 rw [hT];rfl
theorem P7 {src:ByteArray}(hs:src.size<=1000){p e:Nat}(h:Lx.tokens src.data.toList=.error (p,e))(n:Nat):Ek n src=some ⟨[],⟨0,0,⟨#[]⟩,[],0⟩,⟨(p:Int),(e:Int)⟩⟩:=by
 have hT:Ho src=some ⟨[],⟨(p:Int),(e:Int)⟩⟩:=by
  unfold Ho Fi
  rw [if_neg (by omega),h]
 have he:(e:Int)≠0:=by have:=(ER _ _).2 _ _ h;omega
 unfold Ek
 rw [hT,Option.bind_some,show ((e:Int) != 0)=true by simpa using he];rfl
theorem Wc {t:IT}:∀ (n:Nat) (out:List Aj) (k c:Int) (o:BP),Bo n t out k c=some (.inr o)->o.P.E≠0/\o.L=[]/\∃ x k',gi t.L k'=some x/\o.P.At=x.At
 |0,out,k,c,o,h=>by cases (Bo.eq_1 _ _ _ _).symm.trans h
 |n+1,out,k,c,o,h=>by
  replace h:=(Bo.eq_2 (n:=n) _ _ _ _).symm.trans h
  obtain⟨x,hx,h⟩:=Ad h
  rcases Ai h with⟨q5,h⟩|⟨q5,h⟩
  . obtain⟨p,hp,h⟩:=Ad h
    rcases Ai h with⟨qe,h⟩|⟨qe,h⟩
    . obtain⟨x2,hx2,h⟩:=Ad h
      cases Aa h
      exact⟨by simpa using qe,rfl,x2,_,hx2,rfl⟩
    . obtain⟨l1,_,h⟩:=Ad h
      obtain⟨l2,_,h⟩:=Ad h
      exact Wc n _ _ _ o h
  . cases Aa h
theorem XS {n:Nat}{r:List UInt8}{l:List Lx.Tok}(h:Lx.Good n r l):∀ t∈l,t.at_<=n:=by
 induction h with
 |fin=>intro t ht;obtain rfl:=List.mem_singleton.1 ht;exact Nat.le_refl _
 |cons _ _ ih =>
  intro t ht
  rcases List.mem_cons.1 ht with rfl|ht
  . exact Nat.sub_le _ _
  . exact ih t ht
theorem ZH {n p e:Nat}{r:List UInt8}(h:Lx.Bad n r p e):p<=n:=by
 induction h with
 |here _ _=>exact Nat.sub_le _ _
 |later _ _ ih=>exact ih
end Go.Sp

namespace Go.Sp
open Go
theorem Kq:∀ (N:Nat) (d:List UInt8),d.length=N->(∀ c∈d,Lx.isDigit c=true)->Lx.numVal d<10 ^ N
 |0,d,h,_=>by
  obtain rfl:=List.eq_nil_of_length_eq_zero h
  decide
 |N+1,d,h,hd=>by
  have hne:d≠[]:=by rintro rfl;simp at h
  have e:=List.dropLast_concat_getLast hne
  have ih:=Kq N d.dropLast (by rw [List.length_dropLast];omega) fun c hc=>hd c (by rw [<- e];exact List.mem_append.2 (.inl hc))
  rw [<- e,Lx.numVal_snoc]
  have:=Lx.digit_bounds (hd _ (List.getLast_mem hne))
  rw [Nat.pow_succ]
  omega
theorem LW:∀ (n:Nat) (r b:List UInt8),r.length<=n->∀ {s t:List UInt8} {k v:Nat},Lx.text b r=.ok k s v t->b.all O6=true->s.all O6=true/\s.length<=200/\v=0
 |0,r,b,h,s,t,k,v,he,hb=>by
  obtain rfl:=List.eq_nil_of_length_eq_zero (Nat.le_zero.1 h)
  unfold Lx.text at he
  split at he<;>cases he
 |n+1,[],b,h,s,t,k,v,he,hb=>by
  unfold Lx.text at he
  split at he<;>cases he
 |n+1,c::r,b,h,s,t,k,v,he,hb=>by
  rw [Lx.text.eq_def] at he
  simp only at he
  simp only [List.length_cons] at h
  split at he
  . cases he
  rename_i h200
  split at he
  . cases he;exact⟨hb,by omega,rfl⟩
  split at he
  . split at he
    . cases he
    . rename_i d r'
      split at he
      . cases he
      . rename_i hp
        refine LW n r' (b++[Lx.pair d]) (by simp only [List.length_cons] at h;omega) he ?_
        rw [List.all_append,hb]
        unfold Lx.pair at hp ⊢
        split
        . rename_i q;rcases q with rfl|rfl<;>rfl
        . rename_i q
          rw [if_neg q] at hp
          split
          . rfl
          . rename_i q2;rw [if_neg q2] at hp;exact absurd rfl hp
  . split at he
    . cases he
    . rename_i h32
      refine LW n r (b++[c]) (by omega) he ?_
      rw [List.all_append,hb]
      have:O6 c=true:=by
       unfold O6
       rw [UInt8.lt_iff_toNat_lt,UInt8.lt_iff_toNat_lt] at h32
       have h1:decide (32<=c)=true:=by rw [decide_eq_true_eq,UInt8.le_iff_toNat_le];omega
       have h2:decide (c<=126)=true:=by rw [decide_eq_true_eq,UInt8.le_iff_toNat_le];omega
       rw [h1,h2];simp
      simp [this]
theorem Vx {r s u:List UInt8}{k v:Nat}(h:Lx.tok r=.ok k s v u):(k=1->EI ⟨⟨s⟩⟩=true)/\(k=2->MD (v:Int)=true)/\(k=3->Lp ⟨⟨s⟩⟩=true)/\(k≠2->v=0)/\(k=4->s.length<=2):=by
 cases r with
 |nil=>unfold Lx.tok at h;cases h
 |cons c r =>
  unfold Lx.tok at h
  simp only at h
  by_cases h1:Lx.isLetter c=true
  . rw [if_pos h1] at h
    obtain⟨rfl,rfl,e,hw,ht,hl⟩:=Lx.name_parts h
    refine⟨fun _=>?_,(fun h=>by cases h),(fun h=>by cases h),fun _=>rfl,(fun h=>by cases h)⟩
    unfold EI
    cases s with
    |nil =>
     exfalso
     rw [List.nil_append] at e
     rw [<- e] at ht
     have ht:Lx.isWord c=false:=ht
     unfold Lx.isWord at ht
     rw [h1] at ht;cases ht
    |cons d s =>
     have hd:c=d:=(List.cons.inj e).1
     subst hd
     have h2:decide (0<(⟨⟨c::s⟩⟩:ByteArray).size/\(⟨⟨c::s⟩⟩:ByteArray).size<=32)=true:=by
      rw [decide_eq_true_eq]
      show 0<(c::s).length/\(c::s).length<=32
      exact⟨by simp,hl⟩
     rw [h2,Bool.true_and,Bool.and_eq_true]
     exact⟨h1,List.all_eq_true.2 hw⟩
  rw [if_neg h1] at h
  by_cases h2:Lx.isDigit c=true
  . rw [if_pos h2] at h
    obtain⟨d,rfl,rfl,rfl,_,hd,_,_,hl,_⟩:=Lx.number_parts h
    refine⟨(fun h=>by cases h),fun _=>?_,(fun h=>by cases h),fun h=>absurd rfl h,(fun h=>by cases h)⟩
    have:=Kq _ d rfl hd
    have h15:10 ^ d.length<=10 ^ 15:=Nat.pow_le_pow_right (by decide) hl
    unfold MD
    rw [decide_eq_true_eq]
    have e15:(10:Nat) ^ 15=1000000000000000:=by decide
    omega
  rw [if_neg h2] at h
  by_cases h3:c=34
  . rw [if_pos h3] at h
    obtain⟨body,rfl,_⟩:=Lx.text_parts _ r [] (Nat.le_refl _) h
    obtain⟨g1,g2,rfl⟩:=LW _ r [] (Nat.le_refl _) h rfl
    refine⟨(fun h=>by cases h),(fun h=>by cases h),fun _=>?_,fun _=>rfl,(fun h=>by cases h)⟩
    unfold Lp
    rw [Bool.and_eq_true,decide_eq_true_eq]
    exact⟨g2,g1⟩
  . rw [if_neg h3] at h
    obtain⟨rfl,rfl,_,hs⟩:=Lx.sign_parts h
    refine⟨(fun h=>by cases h),(fun h=>by cases h),(fun h=>by cases h),fun _=>rfl,fun _=>?_⟩
    rcases hs with hs|⟨c,rfl,_⟩
    . rw [Lx.long_len hs];exact Nat.le_refl _
    . simp
theorem Wh {n:Nat}{r:List UInt8}{l:List Lx.Tok}(h:Lx.Good n r l):∀ y∈l,WT y∨y.kind=5:=by
 induction h with
 |fin=>intro y hy;obtain rfl:=List.mem_singleton.1 hy;exact .inr rfl
 |cons ht _ ih =>
  intro y hy
  rcases List.mem_cons.1 hy with rfl|hy
  . exact .inl ⟨_,_,ht⟩
  . exact ih y hy
theorem Aaf {l:List UInt8}{ts:List Lx.Tok}(h:Lx.tokens l=.ok ts):∀ t∈ts.map QY,Tg t:=by
 intro t ht
 obtain⟨y,hy,rfl⟩:=List.mem_map.1 ht
 rcases Wh (Lx.tokens_good h) y hy with⟨r,u,hr⟩|h5
 . obtain⟨g1,g2,g3,_⟩:=Vx hr
   exact⟨fun h=>g1 (by have h:(y.kind:Int)=1:=h;omega),fun h=>g2 (by have h:(y.kind:Int)=2:=h;omega),fun h=>g3 (by have h:(y.kind:Int)=3:=h;omega)⟩
 . exact⟨fun h=>(by have h:(y.kind:Int)=1:=h;omega),fun h=>(by have h:(y.kind:Int)=2:=h;omega),fun h=>(by have h:(y.kind:Int)=3:=h;omega)⟩
theorem XR {n:Nat}{r:List UInt8}{l:List Lx.Tok}(h:Lx.Good n r l):E1 (l.map QY)<=2*r.length+1:=by
 induction h with
 |fin=>exact Nat.le_refl _
 | @cons r s u k v l ht _ ih =>
  obtain⟨t1,t2,_⟩:=Lx.tok_parts ht
  have hs:=Lx.skip_len false u
  have hw:=Xf (t:=QY ⟨k,n-r.length,s,v⟩) (y:=⟨k,n-r.length,s,v⟩) ⟨_,_,ht⟩ rfl rfl rfl
  have hlen:r.length=(Lx.word k s v).length+u.length:=by
   have:=congrArg List.length t2
   rw [List.length_append] at this;exact this
  have hpos:1<=(Lx.word k s v).length:=by
   cases hw2:Lx.word k s v with
   |nil=>exact absurd hw2 t1
   |cons a b=>simp
  show tw (QY ⟨k,n-r.length,s,v⟩)+E1 (l.map QY)<=_
  have e:tw (QY ⟨k,n-r.length,s,v⟩)=(Lx.word k s v).length+1:=by
   unfold tw
   rw [hw]
   show (Lx.word k s v++[]).length+1=_
   rw [List.append_nil]
  omega
end Go.Sp
namespace Go.Sp
open Go
theorem Ry:∀ {l:List Aj},Mg l=true->∀ f∈l,Ik f=true
 | [],_,f,hf=>by cases hf
 |x::l,h,f,hf=>by
  have h:(Ik x&&Mg l)=true:=h
  rw [Bool.and_eq_true] at h
  rcases List.mem_cons.1 hf with rfl|hf
  . exact h.1
  . exact Ry h.2 f hf
theorem QU:∀ (L:List Ac) (k:Nat),E1 (L.take k)<=E1 L
 | [],k=>by rw [List.take_nil];exact Nat.le_refl _
 |t::L,0=>Nat.zero_le _
 |t::L,k+1=>by
  rw [List.take_succ_cons]
  have:=QU L k
  show tw t+E1 (L.take k)<=tw t+E1 L
  omega
theorem YP {src:ByteArray}{ts:List Lx.Tok}(h:Lx.tokens src.data.toList=.ok ts):E1 (ts.map QY)<=2*src.size+1:=by
 have h1:=XR (Lx.tokens_good h)
 have h2:=Lx.skip_len false src.data.toList
 have h3:src.data.toList.length=src.size:=rfl
 omega
theorem Acr (L:List Ac):sm L 0=0:=rfl
theorem Aal {src:ByteArray}(hs:src.size<=600){l:List Aj}{pr:Am}(h:Ev (fun n=>Di n src) (l,pr))(h0:pr.E=0):Mg l=true/\MO l 1/\Gr l<=2000/\E1 (TQ l)<=1201/\KE l:=by
 obtain⟨l',pr',x,h1,h2,fl,_,_⟩:=PK src
 cases h.uniq h1
 cases ts:Lx.tokens src.data.toList with
 |error y =>
  obtain⟨q,e⟩:=y
  have h:=h2.uniq (Ev.of (P7 (by omega) ts))
  have he:e≠0:=(ER _ _).2 _ _ ts
  have h2:pr=⟨(q:Int),(e:Int)⟩:=congrArg BP.P h
  rw [h2] at h0
  have h0:(e:Int)=0:=h0
  omega
 |ok tk =>
  obtain⟨n,hn⟩:=h2.get
  rw [RP (by omega) ts] at hn
  obtain⟨y,hy,hn⟩:=Ad hn
  cases y with
  |inr o =>
   have h1:=(Wc _ _ _ _ _ hy).1
   rw [Aa hn] at h1
   exact absurd h0 h1
  |inl o =>
   have e:o=l:=congrArg BP.L (Aa hn)
   subst e
   obtain⟨z,N,R,_⟩:=Aaq (Xn (by omega) ts) (Aaf ts) n [] 0 0 o hy ⟨rfl,trivial,rfl,by decide,Nat.zero_le _⟩ (by decide)
   have h1:=R.wt
   have h2:=YP ts
   have h3:=QU (tk.map QY) z.toNat
   have h4:=R.cnt
   have h5:=R.max
   unfold sm at h1
   exact⟨R.ok,R.fit,by omega,by omega,fl⟩
end Go.Sp
namespace Go.Sp
open Go
set_option maxRecDepth 100000
def VP (n:Nat)(p:Int):Prop:=0<=p/\p<=(n:Int)
mutual
theorem OA {S:Int->Prop}:∀ e:Ab,Lh S e->D6 e=true
 |.mk op n s l p,h=>by
  cases h with
  |mk hp hk hl=>rw [D6,decide_eq_true hl,PO l hk];rfl
theorem PO {S:Int->Prop}:∀ l:List Ab,(∀ x∈l,Lh S x)->IQ l=true
 | [],_=>by rw [IQ]
 |e::l,h=>by rw [IQ,OA e (h e (by simp)),PO l fun x hx=>h x (List.mem_cons_of_mem _ hx)];rfl
end
mutual
theorem Nn {S:Int->Prop}(h0:S 0):∀ e:Ab,Lh S e->S (BJ e).2.2.At
 |.mk op n s l p,h=>by
  cases h with
  |mk hp hk hl =>
   have hb:∀ x:Int,S (Q9 p x).2.2.At:=fun x=>hp
   have ht:=QT h0 l hk
   rw [BJ]
   split
   . exact hb 1
   . split
     . rename_i o e;exact ht o e
     . split
       . split
         . exact hb 1
         . exact h0
       . split
         . exact hb 7
         . split
           . split
             . exact h0
             . exact hb 6
           . split
             . rename_i o e
               unfold C4 at e
               split at e
               . cases e;exact h0
               . cases e
             . split
               . exact hb 6
               . split
                 . exact hb 1
                 . exact hb 7
theorem QT {S:Int->Prop}(h0:S 0):∀ l:List Ab,(∀ x∈l,Lh S x)->∀ o,Eo l=.inr o->S o.2.2.At
 | [],_,o,h=>by rw [Eo] at h;cases h
 |e::l,hl,o,h=>by
  rw [Eo] at h
  split at h
  . cases h;exact Nn h0 e (hl e (by simp))
  . split at h
    . cases h
    . rename_i o' e'
      cases h
      exact QT h0 l (fun x hx=>hl x (List.mem_cons_of_mem _ hx)) o e'
end
theorem VY (c:UInt8)(h:Lx.isLetter c=true):Es (c.toNat:Int)=true/\Eg (c.toNat:Int)=false:=by
 have key:∀ n:Fin 256,Lx.isLetter (UInt8.ofNat n.val)=true->Es (n.val:Int)=true/\Eg (n.val:Int)=false:=by decide +kernel
 have h1:=key ⟨c.toNat,c.toNat_lt⟩
 simp only [UInt8.ofNat_toNat] at h1
 exact h1 h
theorem YH (c:UInt8)(h:Lx.isWord c=true):(Es (c.toNat:Int)||Eg (c.toNat:Int))=true:=by
 have key:∀ n:Fin 256,Lx.isWord (UInt8.ofNat n.val)=true->(Es (n.val:Int)||Eg (n.val:Int))=true:=by decide +kernel
 have h1:=key ⟨c.toNat,c.toNat_lt⟩
 simp only [UInt8.ofNat_toNat] at h1
 exact h1 h
theorem Zh {s:ByteArray}(h:EI s=true):IZ s=true:=by
 unfold EI at h
 simp only [Bool.and_eq_true,decide_eq_true_eq] at h
 obtain⟨hs,h1,h2⟩:=h
 unfold IZ Kg
 have e1:(s.data.toList.map fun b=>(b.toNat:Int)).all (fun c=>Es c||Eg c)=true:=by
  rw [List.all_map,List.all_eq_true]
  intro c hc
  exact YH c (List.all_eq_true.1 h2 c hc)
 have e2:Eg ((s.data.toList.map fun b=>(b.toNat:Int)).getD 0 0)=false:=by
  cases hl:s.data.toList with
  |nil=>rw [hl] at h1;cases h1
  |cons c r =>
   rw [hl] at h1
   exact (VY c h1).2
 rw [e1,e2,decide_eq_true (show 1<=s.size/\s.size<=32 by omega)];rfl
theorem VH:∀ c:Fin 4096,∀ x:Fin 12,1<=Nw (c.val:Int) (x.val:Int)/\Nw (c.val:Int) (x.val:Int)<=4095:=by decide +kernel
theorem Vq {c x:Int}(h:0<=c/\c<=4095)(hx:0<=x/\x<12):1<=Nw c x/\Nw c x<=4095:=by
 have:=VH ⟨c.toNat,by omega⟩ ⟨x.toNat,by omega⟩
 simpa [Int.toNat_of_nonneg h.1,Int.toNat_of_nonneg hx.1] using this
theorem JT:∀ (r:List Aw) (i:Nat) (last c h:Int),-1<=last->0<=c/\c<=4095->Fg r i last c=.inl h->0<=h/\h<=4095/\((6<i+r.length/\0<r.length/\(1<=c∨7<i+r.length))->1<=h∨i+r.length<=7)/\(i+r.length<=7->h=c)/\(1<=c->1<=h)
 | [],i,last,c,h,hl,hc,e=>by
  rw [Fg] at e
  cases e
  exact⟨hc.1,hc.2,fun h=>by simp at h,fun _=>rfl,id⟩
 |a::r,i,last,c,h,hl,hc,e=>by
  rw [Fg] at e
  split at e
  . cases e
  rename_i ho
  have ho:OO i a.N last=false:=by simpa using ho
  unfold OO at ho
  rw [decide_eq_false_iff_not] at ho
  split at e
  . rename_i h6
    have hx:0<=a.N/\a.N<12:=by omega
    have hw:=Vq hc hx
    obtain⟨g1,g2,_,_,g5⟩:=JT r (i+1) a.N (Nw c a.N) h (by omega) ⟨by omega,hw.2⟩ e
    exact⟨g1,g2,fun _=>.inl (g5 hw.1),fun hh=>by simp only [List.length_cons] at hh;omega,fun _=>g5 hw.1⟩
  . rename_i h6
    obtain⟨g1,g2,g3,g4,g5⟩:=JT r (i+1) last c h hl hc e
    refine⟨g1,g2,fun hh=>?_,fun hh=>g4 (by simp only [List.length_cons] at hh;omega),g5⟩
    simp only [List.length_cons] at hh ⊢
    by_cases c7:i+1+r.length<=7
    . exact .inr (by omega)
    . refine .inl ?_
      rcases g3 ⟨by omega,by omega,.inr (by omega)⟩ with h'|h'
      . exact h'
      . omega
theorem SK {a0 a1 a2:Aw}{r:List Aw}{h:Int}(e:Fg (a0::a1::a2::r) 0 (-1) 0=.inl h):0<=a1.N/\a1.N<=9/\0<=a2.N/\a2.N<=41666:=by
 rw [Fg] at e
 split at e
 . cases e
 rw [if_neg (by omega),Fg] at e
 split at e
 . cases e
 rename_i h1
 rw [if_neg (by omega),Fg] at e
 split at e
 . cases e
 rename_i h2
 have h1:OO 1 a1.N (-1)=false:=by simpa using h1
 have h2:OO 2 a2.N (-1)=false:=by simpa using h2
 unfold OO at h1 h2
 rw [decide_eq_false_iff_not] at h1 h2
 omega
theorem S6 {a b c:Aw}{u:Unit}(h:N2 a b c=.inl u):Fx a.E 2=0/\Fx b.E 2=0/\Fx c.E 3=0:=by
 have key:∀ {a:Aw} {t:Int} {r:Unit ⊕ Am} {u:Unit},JF a t r=.inl u->Fx a.E t=0/\r=.inl u:=by
  intro a t r u h
  unfold JF at h
  unfold Fx
  split at h
  . cases h
  . rename_i c1
    rw [if_neg c1]
    split at h
    . cases h
    . rename_i c2
      rw [if_neg c2]
      exact⟨rfl,h⟩
 unfold N2 at h
 obtain⟨h1,h⟩:=key h
 obtain⟨h2,h⟩:=key h
 exact⟨h1,h2,(key h).1⟩
theorem Wu {want:List Int}{a:Aw}{r:List Aw}{i:Nat}(h:GL want (a::r) i=true):a.Kind=I3 want i/\GL want r (i+1)=true:=by
 rw [GL,Bool.and_eq_true,decide_eq_true_eq] at h;exact h
theorem ZV (k:Int):I3 (EK k) 0=1:=by unfold I3 EK;split<;>rfl
theorem Zd {f:Aj}(h:Ik f=true):∀ a∈f.Args,UB a=true:=by
 obtain⟨w,l,b,p⟩:=f
 rw [Ik,Bool.and_eq_true,Bool.and_eq_true,List.all_eq_true] at h
 exact h.2.1
theorem Vd {out:List Ao}{f:Aj}{c:Ao}(hf:∀ a∈f.Args,UB a=true)(h:Oi out f=.inl c):DU out c=0/\out.length≠40:=by
 unfold Oi at h
 split at h
 . cases h
 rename_i hsh
 have hsh:(FT f).2=true:=by simpa using hsh
 split at h
 . cases h
 rename_i h40
 refine⟨?_,h40⟩
 obtain⟨k1,k2,k3,k4,k5,k6⟩:=M6 hsh
 have kr:=NZ f.Word
 have kl:=Kk (FJ f.Word)
 split at h
 . rename_i a0 a1 a2 a3 a4 a5 ags hA
   split at h
   . cases h
   rename_i hn
   split at h
   . cases h
   rename_i hh hr
   split at h
   . cases h
   rename_i u ht
   cases h
   have hname:IZ a0.S=true:=by
    have h1:a0.Kind=1:=by rw [hA] at k6;rw [(Wu k6).1,ZV]
    have:=hf a0 (by rw [hA];simp)
    unfold UB at this
    rw [if_pos h1] at this
    exact Zh this
   obtain⟨t1,t2,t3⟩:=S6 ht
   rw [hA] at hr k4 k5
   obtain⟨n1,n2,n3,n4⟩:=SK hr
   obtain⟨g1,g2,g3,g4,_⟩:=JT _ _ _ _ _ (by omega) (by omega) hr
   unfold DU
   rw [if_neg (by rw [hname];simp),if_neg hn,if_neg (by show ¬ ((FT f).1<1∨3<(FT f).1);rw [k2];omega),if_neg ?_]
   . unfold Ha
     rw [if_neg (by simpa using t1),if_neg (by simpa using t2)]
     exact t3
   . unfold JU
     rw [decide_eq_true_eq,k2]
     simp only
     rintro (h|h|h|h|h|h)
     . omega
     . omega
     . omega
     . omega
     . have h6:=k5 (by omega)
       exact h.2 (g4 (by omega))
     . rw [if_pos h.1] at kl
       rcases g3 ⟨by omega,by simp,.inr (by omega)⟩ with h'|h'
       . omega
       . omega
 . cases h
def PR (l:List Ao):Prop:=∀ k (h:k<l.length),DU (l.take k) l[k]=0
theorem UM {l:List Ao}{c:Ao}(h:PR l)(hc:DU l c=0):PR (l++[c]):=by
 intro k hk
 rw [List.length_append,List.length_cons,List.length_nil] at hk
 by_cases hl:k<l.length
 . rw [List.take_append_of_le_length (by omega),List.getElem_append_left hl]
   exact h k hl
 . have e:k=l.length:=by omega
   subst e
   rw [List.take_append_of_le_length (Nat.le_refl _),List.take_length,List.getElem_append_right (Nat.le_refl _)]
   simpa using hc
theorem PG:∀ (fs:List Aj) (out l:List Ao),(∀ f∈fs,∀ a∈f.Args,UB a=true)->PR out->out.length<=40->Gk fs out=.inl l->PR l/\l.length<=40
 | [],out,l,_,hg,ho,h=>by rw [Gk] at h;cases h;exact⟨hg,ho⟩
 |f::fs,out,l,hf,hg,ho,h=>by
  rw [Gk] at h
  split at h
  . cases h
  . rename_i c hc
    obtain⟨h1,h2⟩:=Vd (hf f (by simp)) hc
    exact PG fs _ l (fun g hg=>hf g (List.mem_cons_of_mem _ hg)) (UM hg h1) (by simp only [List.length_append,List.length_cons,List.length_nil];omega) h
theorem O2 {l:List Ao}(hg:PR l):∀ (r:List Ao) (k:Nat),l.drop k=r->FL l r k=0
 | [],_,_=>by rw [FL]
 |x::r,k,hr=>by
  obtain⟨h1,h2⟩:=HH hr
  have hx:l[k]=x:=by
   have:=List.drop_eq_getElem_cons h2
   rw [hr] at this
   exact (List.cons.inj this).1.symm
  have h:=hg k h2
  rw [hx] at h
  rw [FL,if_neg (by simpa using h)]
  exact O2 hg r (k+1) h1
theorem Ty {l:List Ao}(hg:PR l)(h40:l.length<=40):Q8 l=0:=by
 unfold Q8
 rw [if_neg (by omega)]
 exact O2 hg l 0 rfl
theorem Uj {S:Int->Prop}(h0:S 0):∀ (fs:List Aj) (out:List Ao) (p:Am),(∀ f∈fs,YE S f)->Gk fs out=.inr p->S p.At
 | [],out,p,_,h=>by rw [Gk] at h;cases h
 |f::fs,out,p,hf,h=>by
  rw [Gk] at h
  split at h
  . rename_i q hq
    cases h
    obtain⟨f1,f2⟩:=hf f (by simp)
    unfold Oi at hq
    split at hq
    . cases hq;exact f1
    split at hq
    . cases hq;exact f1
    split at hq
    . rename_i a0 a1 a2 a3 a4 a5 ags hA
      rw [hA] at f2
      split at hq
      . cases hq;exact (f2 a0 (by simp)).1
      split at hq
      . rename_i z hz
        cases hq
        have key:∀ (r:List Aw) (i:Nat) (last c z:Int),(∀ a∈r,YF S a)->Fg r i last c=.inr z->S z:=by
         intro r
         induction r with
         |nil=>intro i last c z _ e;rw [Fg] at e;cases e
         |cons a r ih =>
          intro i last c z hr e
          rw [Fg] at e
          split at e
          . cases e;exact (hr a (by simp)).1
          split at e
          . exact ih _ _ _ _ (fun b hb=>hr b (List.mem_cons_of_mem _ hb)) e
          . exact ih _ _ _ _ (fun b hb=>hr b (List.mem_cons_of_mem _ hb)) e
        rw [hA] at hz
        exact key _ _ _ _ _ f2 hz
      . split at hq
        . rename_i z hz
          cases hq
          have key:∀ {a:Aw} {t:Int} {r:Unit ⊕ Am},YF S a->(∀ z,r=.inr z->S z.At)->∀ z,JF a t r=.inr z->S z.At:=by
           intro a t r ha hr z e
           unfold JF at e
           split at e
           . cases e;exact Nn h0 _ ha.2
           split at e
           . cases e;exact ha.1
           . exact hr z e
          exact key (f2 a3 (by simp)) (key (f2 a4 (by simp)) (key (f2 a5 (by simp)) fun z e=>by cases e)) _ hz
        . cases hq
    . cases hq;exact f1
  . exact Uj h0 fs _ p (fun g hg=>hf g (List.mem_cons_of_mem _ hg)) h
theorem W9:∀ (fs:List Aj) (out:List Ao) (p:Am),Gk fs out=.inr p->p.E≠0
 | [],out,p,h=>by rw [Gk] at h;cases h
 |f::fs,out,p,h=>by
  rw [Gk] at h
  split at h
  . rename_i q hq
    cases h
    unfold Oi at hq
    split at hq
    . cases hq;simp
    split at hq
    . cases hq;simp
    split at hq
    . split at hq
      . cases hq;simp
      split at hq
      . cases hq;simp
      . split at hq
        . rename_i z hz
          cases hq
          have key:∀ {a:Aw} {t:Int} {r:Unit ⊕ Am},(∀ z,r=.inr z->z.E≠0)->∀ z,JF a t r=.inr z->z.E≠0:=by
           intro a t r hr z e
           unfold JF at e
           split at e
           . rename_i c;cases e;exact c
           split at e
           . cases e;simp
           . exact hr z e
          exact key (key (key fun z e=>by cases e)) _ hz
        . cases hq
    . cases hq;simp
  . exact W9 fs _ p h
theorem Oz:∀ (fs:List Aj) (out l:List Ao),(∀ f∈fs,∀ a∈f.Args,D6 a.E=true)->(∀ c∈out,LY c)->Gk fs out=.inl l->∀ c∈l,LY c
 | [],out,l,_,ho,h=>by rw [Gk] at h;cases h;exact ho
 |f::fs,out,l,hf,ho,h=>by
  rw [Gk] at h
  split at h
  . cases h
  . rename_i c hc
    refine Oz fs _ l (fun g hg=>hf g (List.mem_cons_of_mem _ hg)) (fun d hd=>?_) h
    rcases List.mem_append.1 hd with hd|hd
    . exact ho d hd
    . obtain rfl:=List.mem_singleton.1 hd
      have hs:=hf f (by simp)
      unfold Oi at hc
      split at hc
      . cases hc
      split at hc
      . cases hc
      split at hc
      . rename_i a0 a1 a2 a3 a4 a5 ags hA
        rw [hA] at hs
        split at hc
        . cases hc
        split at hc
        . cases hc
        split at hc
        . cases hc
        . cases hc
          exact⟨hs a3 (by simp),hs a4 (by simp),hs a5 (by simp)⟩
      . cases hc
theorem RQ (src:ByteArray)(hs:src.size<=600):∃ l pr,Ev (fun n=>Di n src) (l,pr)/\(pr.E≠0->VP src.size pr.At)/\(pr.E=0->(∀ f∈l,YE (VP src.size) f)/\(∀ f∈l,Ik f=true)/\(∀ f∈l,f.Args.length<=40/\f.Body.length<=1927910799388)/\l.length<=1927910799388):=by
 obtain⟨l,pr,x,h1,h2,fl,_,_⟩:=PK src
 refine⟨l,pr,h1,?_⟩
 cases ts:Lx.tokens src.data.toList with
 |error y =>
  obtain⟨q,e⟩:=y
  have h:=h2.uniq (Ev.of (P7 (by omega) ts))
  have he:e≠0:=(ER _ _).2 _ _ ts
  have h3:pr=⟨(q:Int),(e:Int)⟩:=congrArg BP.P h
  have hq:=ZH (Lx.tokens_bad ts)
  have hsz:src.data.toList.length=src.size:=rfl
  refine⟨fun _=>?_,fun h0=>?_⟩
  . rw [h3];exact⟨by show (0:Int)<=(q:Int);omega,by show (q:Int)<=_;omega⟩
  . rw [h3] at h0
    have h0:(e:Int)=0:=h0
    omega
 |ok tk =>
  have hoff:WY (VP src.size) (tk.map QY):=by
   refine⟨⟨by omega,by omega⟩,fun k t ht=>?_⟩
   obtain⟨j,_,hj,_⟩:=Abn ht
   rw [List.getElem?_map] at hj
   obtain⟨u,hu,rfl⟩:=Option.map_eq_some_iff.1 hj
   have:=XS (Lx.tokens_good ts) u (List.mem_of_getElem? hu)
   have hsz:src.data.toList.length=src.size:=rfl
   exact⟨by show (0:Int)<=(u.at_:Int);omega,by show (u.at_:Int)<=_;omega⟩
  obtain⟨n,hn⟩:=h2.get
  rw [RP (by omega) ts] at hn
  obtain⟨y,hy,hn⟩:=Ad hn
  have hp:=VD (t:=⟨tk.map QY,⟨0,0⟩⟩) hoff n [] 0 0 y (fun f hf=>by cases hf) hy
  cases y with
  |inr o =>
   have e:=Aa hn
   have h4:=(hp.2 o rfl).1
   rw [e] at h4
   refine⟨fun _=>h4,fun h0=>?_⟩
   have h5:=(Wc _ _ _ _ _ hy).1
   rw [e] at h5
   exact absurd h0 h5
  |inl o =>
   have e:o=l:=congrArg BP.L (Aa hn)
   have e2:(⟨0,0⟩:Am)=pr:=congrArg BP.P (Aa hn)
   subst e
   refine⟨fun h0=>?_,fun h0=>?_⟩
   . rw [<- e2] at h0;exact absurd rfl h0
   . obtain⟨s1,s2,_,_,s5⟩:=Aal hs h1 h0
     have hfit:∀ {m:List Aj},MO m 1->∀ f∈m,ZC f 1:=by
      intro m
      induction m with
      |nil=>intro _ f hf;cases hf
      |cons a m ih =>
       intro hm f hf
       rcases List.mem_cons.1 hf with rfl|hf
       . exact hm.1
       . exact ih hm.2 f hf
     refine⟨hp.1 o rfl,Ry s1,fun f hf=>⟨?_,?_⟩,s5.1⟩
     . have:=hfit s2 f hf
       obtain⟨w,ags,b,p⟩:=f
       exact this.2.1
     . cases s5.2 f hf with
       |mk _ _ _ hb _=>exact hb
theorem Sm (src:ByteArray):Ev (fun n=>Df n src) true:=by
 unfold Df
 simp only [V5,Option.bind_some]
 by_cases hs:600<src.size
 . rw [decide_eq_true (show (600:Int)<(src.size:Int) by omega)];exact Ev.pure
 rw [decide_eq_false (show ¬ (600:Int)<(src.size:Int) by omega)]
 simp only [cond_false]
 obtain⟨l,pr,h1,h2,h3⟩:=RQ src (by omega)
 have hbad:∀ p:Am,VP src.size p.At->p.E≠0->(bif (p.E != 0) then bif (((([]:List Ao)).length:Int) == 0) then bif (decide (0<=p.At)) then some (decide (p.At<=(src.size:Int))) else some false else some false else (none:Option Bool))=some true:=by
  intro p hp he
  rw [show (p.E != 0)=true by simpa using he,decide_eq_true hp.1,decide_eq_true hp.2];rfl
 by_cases he:pr.E=0
 rotate_left
 . have hc:Ev (fun n=>Cb n src) ([],pr):=by
    unfold Cb
    refine Ev.bind h1 ?_
    rw [show (pr.E != 0)=true by simpa using he];exact Ev.pure
   refine Ev.bind hc ?_
   have hp:=h2 he
   simp only [show (pr.E != 0)=true by simpa using he,cond_true,List.length_nil,decide_eq_true hp.1,decide_eq_true hp.2,Option.bind_some]
   exact Ev.pure
 obtain⟨g1,g2,g3,g4⟩:=h3 he
 have hloop:=Sj l pr (by omega) (fun f hf=>⟨by have:=(g3 f hf).1;omega,by have:=(g3 f hf).2;omega,fun a ha=>OA _ ((g1 f hf).2 a ha).2⟩) l 0 [] rfl (Nat.zero_le _) (by simp)
 have hc:Ev (fun n=>Cb n src) (match Gk l [] with|.inl o=>(o,⟨0,0⟩)|.inr p=>([],p)):=by
  unfold Cb
  refine Ev.bind h1 ?_
  simp only [show (pr.E != 0)=false by simpa using he,cond_false,Option.bind_some]
  refine Ev.bind hloop ?_
  cases Gk l [] with
  |inl o=>exact Ev.pure
  |inr p=>exact Ev.pure
 cases hv:Gk l [] with
 |inl o =>
  rw [hv] at hc
  obtain⟨k1,k2⟩:=PG l [] o (fun f hf=>Zd (g2 f hf)) (fun k hk=>by simp at hk) (by simp) hv
  refine Ev.bind hc ?_
  simp only [bne_self_eq_false,cond_false]
  have hsm:∀ c∈o,LY c:=Oz l [] o (fun f hf a ha=>OA _ ((g1 f hf).2 a ha).2) (fun c hc=>by cases hc) hv
  refine Ev.bind (a:=true) (Ev.bind (WB o hsm) ?_) Ev.pure
  rw [Ty k1 k2]
  exact Ev.pure
 |inr p =>
  rw [hv] at hc
  have hp:=Uj (S:=VP src.size) ⟨by omega,by omega⟩ l [] p g1 hv
  have hpe:=W9 l [] p hv
  refine Ev.bind hc ?_
  simp only [show (p.E != 0)=true by simpa using hpe,cond_true,List.length_nil,decide_eq_true hp.1,decide_eq_true hp.2,Option.bind_some]
  exact Ev.pure
end Go.Sp
