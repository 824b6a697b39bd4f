/-
  The contracts of library functions that the lexer calls, laid at this program (written by the kit's own tools, in plain words). Plain facts that the walks of the lexer use. Plain facts of what is left of a source. Plain facts for examples: what is read by running; line feeds and wide characters. No program. What tokens a source has, but for offsets: sources put together. No program. From the tokens' reading to the program's Expr, and back. No program. A source in parentheses is an atom, at depth 1. No program. From an atom up to a whole expression, past all levels of operators. No program. The first of ParseNests' sources: an expression in parentheses. No program. Signs and names ahead of a parenthesis. No program. A source within another: its tokens, and what surrounds them. No program. The text of tokens is read as these tokens again. No program. What can be printed is of operations that there are, and of tokens that can be read; comparing with what is read; how many parts there are. No program. How many parts there are: what ParseRoundTrip's Few and exprs answer. No program. What the reference's parser reads in one list of tokens it reads in another one in which they stand, with greater offsets: expressions. No program. What the reference's parser reads in one list of tokens it reads in another one in which they stand, with greater offsets: forms. No program. Two sources with a line feed between: their tokens, their forms. No program. What ParseJoins' shifted computes: forms with greater offsets. No program. Two sources with a line feed between are read as one after the other. No program. What is printed is read as the same, if it is read. No program. The tokens of a source: what can be printed of them, and how long their text is. No program. Printing, then reading: what the program's Print, PrintExpr, Forms and Expr answer together. No program. An expression of a right type: it can be printed, without texts; and what is read of it has the same type. No program. Names: what the program and the specification call one. No program. Whether a clause of a list has a name. No program. Check, in plain words: the program's and the specification's. No program. Check of clauses: the program's and the specification's answer alike. No program. StatuteLearns, the plain law: later facts and the order of facts of different kinds or people do not change a value. No program. Compile in plain words. No program. Source in plain words: the forms of clauses. No program. Where what the reference reads stands: all offsets are those of tokens. No program. StatuteIsChecked, the plain law: what Compile returns passes Check; a problem is at an offset of the source. No program. Compile of what is read of what was printed of clauses that pass. No program. The same clauses, as the reference compares them; the sizes of what is printed of clauses. No program. StatuteRoundTrip, the plain law: what Source prints is compiled into the same clauses, and printed as before. No program.
-/
import Derived.Shelf.Small.Strs
import Derived.Shelf.Strings.Search3
import Derived.Shelf.Strings.Prefix
import Derived.Shelf.Strings.Fields
import Derived.Shelf.LaysC
import Derived.Shelf.Strconv.AtoiAll
import Derived.Test.YtkcfmlfkfagejaaGreatDoorProg
import Derived.Laws.RangeAny
import Derived.Lib.Join
import Derived.Lib.ItoaNum
import Derived.Test.YtkcfmlfkfagejaaGreatDoorU21
import Derived.Test.YtkcfmlfkfagejaaGreatDoorU22
import Derived.Test.YtkcfmlfkfagejaaGreatDoorU23
set_option linter.unusedVariables false
set_option linter.unusedSimpArgs false
namespace Go.Proofs
open Go.Shelf
def Tryz.lays137_ren:Go.Shelf.Ren:=⟨fun|137=>164|217=>193|266=>216|n=>n,fun|9=>9|5=>5|3=>3|n=>n,fun|n=>n⟩
theorem Tryz.lays137:Go.Proofs.Lays.n137 Tryz.prog Tryz.lays137_ren:={
 mixed:=by kernel_rfl
 f137:=Tryz.func164.trans (congrArg some (by kernel_rfl))
 f217:=Tryz.func193.trans (congrArg some (by kernel_rfl))
 f266:=Tryz.func216.trans (congrArg some (by kernel_rfl))
 t3:=Tryz.underlying3
 a3:=Tryz.isAgg3
 z3:=Tryz.sizeOf3
 v3:=Tryz.zeroValue3
 t5:=Tryz.underlying5
 a5:=Tryz.isAgg5
 z5:=Tryz.sizeOf5
 v5:=Tryz.zeroValue5
 t9:=Tryz.underlying9
 a9:=Tryz.isAgg9
 z9:=Tryz.sizeOf9
 v9:=Tryz.zeroValue9 }
open Go.RowKit in
theorem Tryz.strings_IndexByte (s:ByteArray)(c:Int)(w:World) :
 Calls Tryz.prog 164 #[.string s,.int .u8 c] w fun e w'=>e=.returned (.int .i64 (Lib.indexByte s.data.toList c.toNat.toUInt8))/\w'=w:=Any.strings_IndexByte Tryz.lays137 s c w
def Tryz.laysC172_ren:Go.Shelf.Ren:=⟨fun|172=>195|244=>217|245=>218|247=>238|279=>239|280=>240|281=>241|282=>242|287=>253|316=>254|171=>112|205=>255|321=>262|322=>263|243=>137|246=>158|283=>181|284=>182|285=>183|286=>184|129=>206|317=>205|318=>207|319=>208|320=>209|337=>227|338=>228|n=>n,fun|9=>9|3=>3|75=>217|76=>218|4=>4|5=>5|167=>317|37=>146|0=>0|85=>318|2=>2|168=>320|53=>185|175=>332|46=>236|210=>335|127=>241|145=>350|143=>348|21=>21|171=>253|173=>256|212=>282|51=>199|20=>20|213=>283|232=>328|233=>329|80=>73|n=>n,fun|15=>6|16=>7|17=>0|18=>4|19=>5|n=>n⟩
theorem Tryz.laysC172:Go.Proofs.LaysC.n172 Tryz.prog Tryz.laysC172_ren:={
 mixed:=by kernel_rfl
 f129:=Tryz.func206.trans (congrArg some (by kernel_rfl))
 f171:=Tryz.func112.trans (congrArg some (by kernel_rfl))
 f172:=Tryz.func195.trans (congrArg some (by kernel_rfl))
 f205:=Tryz.func255.trans (congrArg some (by kernel_rfl))
 f243:=Tryz.func137.trans (congrArg some (by kernel_rfl))
 f244:=Tryz.func217.trans (congrArg some (by kernel_rfl))
 f245:=Tryz.func218.trans (congrArg some (by kernel_rfl))
 f246:=Tryz.func158.trans (congrArg some (by kernel_rfl))
 f247:=Tryz.func238.trans (congrArg some (by kernel_rfl))
 f279:=Tryz.func239.trans (congrArg some (by kernel_rfl))
 f280:=Tryz.func240.trans (congrArg some (by kernel_rfl))
 f281:=Tryz.func241.trans (congrArg some (by kernel_rfl))
 f282:=Tryz.func242.trans (congrArg some (by kernel_rfl))
 f283:=Tryz.func181.trans (congrArg some (by kernel_rfl))
 f284:=Tryz.func182.trans (congrArg some (by kernel_rfl))
 f285:=Tryz.func183.trans (congrArg some (by kernel_rfl))
 f286:=Tryz.func184.trans (congrArg some (by kernel_rfl))
 f287:=Tryz.func253.trans (congrArg some (by kernel_rfl))
 f316:=Tryz.func254.trans (congrArg some (by kernel_rfl))
 f317:=Tryz.func205.trans (congrArg some (by kernel_rfl))
 f318:=Tryz.func207.trans (congrArg some (by kernel_rfl))
 f319:=Tryz.func208.trans (congrArg some (by kernel_rfl))
 f320:=Tryz.func209.trans (congrArg some (by kernel_rfl))
 f321:=Tryz.func262.trans (congrArg some (by kernel_rfl))
 f322:=Tryz.func263.trans (congrArg some (by kernel_rfl))
 f337:=Tryz.func227.trans (congrArg some (by kernel_rfl))
 f338:=Tryz.func228.trans (congrArg some (by kernel_rfl))
 t0:=Tryz.underlying0
 a0:=Tryz.isAgg0
 z0:=Tryz.sizeOf0
 v0:=Tryz.zeroValue0
 t2:=Tryz.underlying2
 a2:=Tryz.isAgg2
 z2:=Tryz.sizeOf2
 v2:=Tryz.zeroValue2
 t3:=Tryz.underlying3
 a3:=Tryz.isAgg3
 z3:=Tryz.sizeOf3
 v3:=Tryz.zeroValue3
 t4:=Tryz.underlying4
 a4:=Tryz.isAgg4
 z4:=Tryz.sizeOf4
 v4:=Tryz.zeroValue4
 t5:=Tryz.underlying5
 a5:=Tryz.isAgg5
 z5:=Tryz.sizeOf5
 v5:=Tryz.zeroValue5
 t9:=Tryz.underlying9
 a9:=Tryz.isAgg9
 z9:=Tryz.sizeOf9
 v9:=Tryz.zeroValue9
 t20:=Tryz.underlying20
 a20:=Tryz.isAgg20
 z20:=Tryz.sizeOf20
 v20:=Tryz.zeroValue20
 t21:=Tryz.underlying21
 a21:=Tryz.isAgg21
 z21:=Tryz.sizeOf21
 v21:=Tryz.zeroValue21
 t37:=Tryz.underlying146
 a37:=Tryz.isAgg146
 z37:=Tryz.sizeOf146
 v37:=Tryz.zeroValue146
 t46:=Tryz.underlying236
 a46:=Tryz.isAgg236
 z46:=Tryz.sizeOf236
 v46:=Tryz.zeroValue236
 t51:=Tryz.underlying199
 a51:=Tryz.isAgg199
 z51:=Tryz.sizeOf199
 v51:=Tryz.zeroValue199
 t53:=Tryz.underlying185
 a53:=Tryz.isAgg185
 z53:=Tryz.sizeOf185
 v53:=Tryz.zeroValue185
 t75:=Tryz.underlying217
 a75:=Tryz.isAgg217
 z75:=Tryz.sizeOf217
 v75:=Tryz.zeroValue217
 t76:=Tryz.underlying218
 a76:=Tryz.isAgg218
 z76:=Tryz.sizeOf218
 v76:=Tryz.zeroValue218
 t85:=Tryz.underlying318
 a85:=Tryz.isAgg318
 z85:=Tryz.sizeOf318
 v85:=Tryz.zeroValue318
 t127:=Tryz.underlying241
 a127:=Tryz.isAgg241
 z127:=Tryz.sizeOf241
 v127:=Tryz.zeroValue241
 t143:=Tryz.underlying348
 a143:=Tryz.isAgg348
 z143:=Tryz.sizeOf348
 v143:=Tryz.zeroValue348
 t145:=Tryz.underlying350
 a145:=Tryz.isAgg350
 z145:=Tryz.sizeOf350
 v145:=Tryz.zeroValue350
 t167:=Tryz.underlying317
 a167:=Tryz.isAgg317
 z167:=Tryz.sizeOf317
 v167:=Tryz.zeroValue317
 t168:=Tryz.underlying320
 a168:=Tryz.isAgg320
 z168:=Tryz.sizeOf320
 v168:=Tryz.zeroValue320
 t171:=Tryz.underlying253
 a171:=Tryz.isAgg253
 z171:=Tryz.sizeOf253
 v171:=Tryz.zeroValue253
 t173:=Tryz.underlying256
 a173:=Tryz.isAgg256
 z173:=Tryz.sizeOf256
 v173:=Tryz.zeroValue256
 t175:=Tryz.underlying332
 a175:=Tryz.isAgg332
 z175:=Tryz.sizeOf332
 v175:=Tryz.zeroValue332
 t210:=Tryz.underlying335
 a210:=Tryz.isAgg335
 z210:=Tryz.sizeOf335
 v210:=Tryz.zeroValue335
 t212:=Tryz.underlying282
 a212:=Tryz.isAgg282
 z212:=Tryz.sizeOf282
 v212:=Tryz.zeroValue282
 t213:=Tryz.underlying283
 a213:=Tryz.isAgg283
 z213:=Tryz.sizeOf283
 t232:=Tryz.underlying328
 a232:=Tryz.isAgg328
 z232:=Tryz.sizeOf328
 v232:=Tryz.zeroValue328
 t233:=Tryz.underlying329
 a233:=Tryz.isAgg329
 z233:=Tryz.sizeOf329
 v233:=Tryz.zeroValue329
 g15:=by kernel_rfl
 g16:=by kernel_rfl
 g17:=by kernel_rfl
 g18:=by kernel_rfl
 g19:=by kernel_rfl
 t80:=Tryz.underlying73
 a80:=Tryz.isAgg73
 z80:=Tryz.sizeOf73
 v80:=Tryz.zeroValue73
 i0:=by kernel_rfl
 i2:=by kernel_rfl
 i3:=by kernel_rfl
 i4:=by kernel_rfl
 i5:=by kernel_rfl
 i9:=by kernel_rfl
 i20:=by kernel_rfl
 i21:=by kernel_rfl
 i37:=by kernel_rfl
 i46:=by kernel_rfl
 i51:=by kernel_rfl
 i53:=by kernel_rfl
 i75:=by kernel_rfl
 i76:=by kernel_rfl
 i80:=by kernel_rfl
 i85:=by kernel_rfl
 i127:=by kernel_rfl
 i143:=by kernel_rfl
 i145:=by kernel_rfl
 i167:=by kernel_rfl
 i168:=by kernel_rfl
 i171:=by kernel_rfl
 i173:=by kernel_rfl
 i175:=by kernel_rfl
 i210:=by kernel_rfl
 i212:=by kernel_rfl
 i232:=by kernel_rfl
 i233:=by kernel_rfl
 m15:=by kernel_rfl
 m16:=by kernel_rfl
 m17:=by kernel_rfl
 m18:=by kernel_rfl
 m19:=by kernel_rfl
 c0:=by kernel_rfl
 c2:=by kernel_rfl
 c3:=by kernel_rfl
 c4:=by kernel_rfl
 c5:=by kernel_rfl
 c9:=by kernel_rfl
 c20:=by kernel_rfl
 c21:=by kernel_rfl
 c37:=by kernel_rfl
 c46:=by kernel_rfl
 c51:=by kernel_rfl
 c53:=by kernel_rfl
 c75:=by kernel_rfl
 c76:=by kernel_rfl
 c80:=by kernel_rfl
 c85:=by kernel_rfl
 c127:=by kernel_rfl
 c143:=by kernel_rfl
 c145:=by kernel_rfl
 c167:=by kernel_rfl
 c168:=by kernel_rfl
 c171:=by kernel_rfl
 c173:=by kernel_rfl
 c175:=by kernel_rfl
 c210:=by kernel_rfl
 c212:=by kernel_rfl
 c213:=by kernel_rfl
 c232:=by kernel_rfl
 c233:=by kernel_rfl }
open Go.RowKit in
theorem Tryz.strconv_Atoi_ok (s:ByteArray)(hmax:s.size<=9223372036854775806)(v:Int)(h:Lib.atoiAll s.data.toList=.ok v)(w:World) :
 Calls Tryz.prog 195 #[.string s] w fun e w'=>e=.returned (.tuple #[.int .i64 v,.nilIface])/\(w'=w∨∃ t,w'=Lib.bytesWorld w 5 t):=Any.strconv_Atoi_ok Tryz.laysC172 s hmax v h w
open Go.RowKit in
theorem Tryz.strconv_Atoi_syntax (s:ByteArray)(hlim:s.size<=281474976710656)(h:Lib.atoiAll s.data.toList=.«syntax»)(ev:Value)(w:World)(hv:w.cell? ⟨6,0,none⟩=some ev)(hev:ev=.nilIface∨∃ te pe,ev=.iface te pe) :
 Calls Tryz.prog 195 #[.string s] w fun e w'=>∃ N,e=.returned (.tuple #[.int .i64 (0),.iface 320 (.pointer (some ⟨N,0,none⟩))])/\w.heap.size<=N/\w'.heap[N]?=some (.cells #[.string ⟨#[65,116,111,105]⟩,.string s,ev] 335 (0,0))/\Below w.heap.size w w':=Any.strconv_Atoi_syntax Tryz.laysC172 s hlim h ev w hv hev
open Go.RowKit in
theorem Tryz.strconv_Atoi_range (s:ByteArray)(hlim:s.size<=281474976710656)(h:Lib.atoiAll s.data.toList=.range)(ev:Value)(w:World)(hv:w.cell? ⟨7,0,none⟩=some ev)(hev:ev=.nilIface∨∃ te pe,ev=.iface te pe) :
 Calls Tryz.prog 195 #[.string s] w fun e w'=>∃ N,e=.returned (.tuple #[.int .i64 (Lib.atoiSat s.data.toList),.iface 320 (.pointer (some ⟨N,0,none⟩))])/\w.heap.size<=N/\w'.heap[N]?=some (.cells #[.string ⟨#[65,116,111,105]⟩,.string s,ev] 335 (0,0))/\Below w.heap.size w w':=Any.strconv_Atoi_range Tryz.laysC172 s hlim h ev w hv hev
def Tryz.lays144_ren:Go.Shelf.Ren:=⟨fun|144=>198|143=>222|219=>244|217=>193|225=>258|224=>259|267=>260|266=>216|314=>264|n=>n,fun|9=>9|4=>4|3=>3|5=>5|46=>236|146=>353|51=>199|n=>n,fun|1=>1|n=>n⟩
theorem Tryz.lays144:Go.Proofs.Lays.n144 Tryz.prog Tryz.lays144_ren:={
 mixed:=by kernel_rfl
 f143:=Tryz.func222.trans (congrArg some (by kernel_rfl))
 f144:=Tryz.func198.trans (congrArg some (by kernel_rfl))
 f217:=Tryz.func193.trans (congrArg some (by kernel_rfl))
 f219:=Tryz.func244.trans (congrArg some (by kernel_rfl))
 f224:=Tryz.func259.trans (congrArg some (by kernel_rfl))
 f225:=Tryz.func258.trans (congrArg some (by kernel_rfl))
 f266:=Tryz.func216.trans (congrArg some (by kernel_rfl))
 f267:=Tryz.func260.trans (congrArg some (by kernel_rfl))
 f314:=Tryz.func264.trans (congrArg some (by kernel_rfl))
 t3:=Tryz.underlying3
 a3:=Tryz.isAgg3
 z3:=Tryz.sizeOf3
 v3:=Tryz.zeroValue3
 t4:=Tryz.underlying4
 a4:=Tryz.isAgg4
 z4:=Tryz.sizeOf4
 v4:=Tryz.zeroValue4
 t5:=Tryz.underlying5
 a5:=Tryz.isAgg5
 z5:=Tryz.sizeOf5
 v5:=Tryz.zeroValue5
 t9:=Tryz.underlying9
 a9:=Tryz.isAgg9
 z9:=Tryz.sizeOf9
 v9:=Tryz.zeroValue9
 t46:=Tryz.underlying236
 a46:=Tryz.isAgg236
 z46:=Tryz.sizeOf236
 v46:=Tryz.zeroValue236
 t51:=Tryz.underlying199
 a51:=Tryz.isAgg199
 z51:=Tryz.sizeOf199
 v51:=Tryz.zeroValue199
 t146:=Tryz.underlying353
 a146:=Tryz.isAgg353
 z146:=Tryz.sizeOf353
 v146:=Tryz.zeroValue353
 g1:=by kernel_rfl }
open Go.RowKit Go.Lib in
theorem Tryz.strings_Contains_one (s:ByteArray)(c:UInt8)(w:World) :
 Calls Tryz.prog 198 #[.string s,.string ⟨#[c]⟩] w fun e w'=>e=.returned (.bool (decide (0<=Lib.indexByte s.data.toList c)))/\w'=w:=Any.strings_Contains_one Tryz.lays144 s c w
def Tryz.lays99_ren:Go.Shelf.Ren:=⟨fun|99=>197|206=>221|n=>n,fun|9=>9|4=>4|3=>3|n=>n,fun|n=>n⟩
theorem Tryz.lays99:Go.Proofs.Lays.n99 Tryz.prog Tryz.lays99_ren:={
 mixed:=by kernel_rfl
 f99:=Tryz.func197.trans (congrArg some (by kernel_rfl))
 f206:=Tryz.func221.trans (congrArg some (by kernel_rfl))
 t3:=Tryz.underlying3
 a3:=Tryz.isAgg3
 z3:=Tryz.sizeOf3
 v3:=Tryz.zeroValue3
 t4:=Tryz.underlying4
 a4:=Tryz.isAgg4
 z4:=Tryz.sizeOf4
 v4:=Tryz.zeroValue4
 t9:=Tryz.underlying9
 a9:=Tryz.isAgg9
 z9:=Tryz.sizeOf9
 v9:=Tryz.zeroValue9 }
open Go.RowKit Go.Lib in
theorem Tryz.strings_HasPrefix (s p:ByteArray)(w:World) :
 Calls Tryz.prog 197 #[.string s,.string p] w fun e w'=>e=.returned (.bool (Lib.hasPrefix s.data.toList p.data.toList))/\w'=w:=Any.strings_HasPrefix Tryz.lays99 s p w
def Tryz.lays157_ren:Go.Shelf.Ren:=⟨fun|157=>196|229=>219|199=>220|261=>243|311=>256|312=>257|n=>n,fun|9=>9|31=>143|3=>3|5=>5|4=>4|119=>266|0=>0|40=>302|152=>323|21=>21|154=>325|51=>199|141=>327|196=>340|193=>337|198=>343|49=>341|194=>338|201=>346|226=>351|46=>236|227=>352|n=>n,fun|0=>2|6=>3|n=>n⟩
theorem Tryz.lays157:Go.Proofs.Lays.n157 Tryz.prog Tryz.lays157_ren:={
 mixed:=by kernel_rfl
 f157:=Tryz.func196.trans (congrArg some (by kernel_rfl))
 f199:=Tryz.func220.trans (congrArg some (by kernel_rfl))
 f229:=Tryz.func219.trans (congrArg some (by kernel_rfl))
 f261:=Tryz.func243.trans (congrArg some (by kernel_rfl))
 f311:=Tryz.func256.trans (congrArg some (by kernel_rfl))
 f312:=Tryz.func257.trans (congrArg some (by kernel_rfl))
 t0:=Tryz.underlying0
 a0:=Tryz.isAgg0
 z0:=Tryz.sizeOf0
 v0:=Tryz.zeroValue0
 t3:=Tryz.underlying3
 a3:=Tryz.isAgg3
 z3:=Tryz.sizeOf3
 v3:=Tryz.zeroValue3
 t4:=Tryz.underlying4
 a4:=Tryz.isAgg4
 z4:=Tryz.sizeOf4
 v4:=Tryz.zeroValue4
 t5:=Tryz.underlying5
 a5:=Tryz.isAgg5
 z5:=Tryz.sizeOf5
 v5:=Tryz.zeroValue5
 t9:=Tryz.underlying9
 a9:=Tryz.isAgg9
 z9:=Tryz.sizeOf9
 v9:=Tryz.zeroValue9
 t21:=Tryz.underlying21
 a21:=Tryz.isAgg21
 z21:=Tryz.sizeOf21
 v21:=Tryz.zeroValue21
 t31:=Tryz.underlying143
 a31:=Tryz.isAgg143
 z31:=Tryz.sizeOf143
 v31:=Tryz.zeroValue143
 t40:=Tryz.underlying302
 a40:=Tryz.isAgg302
 z40:=Tryz.sizeOf302
 v40:=Tryz.zeroValue302
 t46:=Tryz.underlying236
 a46:=Tryz.isAgg236
 z46:=Tryz.sizeOf236
 v46:=Tryz.zeroValue236
 t49:=Tryz.underlying341
 a49:=Tryz.isAgg341
 z49:=Tryz.sizeOf341
 v49:=Tryz.zeroValue341
 t51:=Tryz.underlying199
 a51:=Tryz.isAgg199
 z51:=Tryz.sizeOf199
 v51:=Tryz.zeroValue199
 t119:=Tryz.underlying266
 a119:=Tryz.isAgg266
 z119:=Tryz.sizeOf266
 t141:=Tryz.underlying327
 a141:=Tryz.isAgg327
 z141:=Tryz.sizeOf327
 v141:=Tryz.zeroValue327
 t152:=Tryz.underlying323
 a152:=Tryz.isAgg323
 z152:=Tryz.sizeOf323
 v152:=Tryz.zeroValue323
 t154:=Tryz.underlying325
 a154:=Tryz.isAgg325
 z154:=Tryz.sizeOf325
 v154:=Tryz.zeroValue325
 t193:=Tryz.underlying337
 a193:=Tryz.isAgg337
 z193:=Tryz.sizeOf337
 v193:=Tryz.zeroValue337
 t194:=Tryz.underlying338
 a194:=Tryz.isAgg338
 z194:=Tryz.sizeOf338
 v194:=Tryz.zeroValue338
 t196:=Tryz.underlying340
 a196:=Tryz.isAgg340
 z196:=Tryz.sizeOf340
 v196:=Tryz.zeroValue340
 t198:=Tryz.underlying343
 a198:=Tryz.isAgg343
 z198:=Tryz.sizeOf343
 v198:=Tryz.zeroValue343
 t201:=Tryz.underlying346
 a201:=Tryz.isAgg346
 z201:=Tryz.sizeOf346
 v201:=Tryz.zeroValue346
 t226:=Tryz.underlying351
 a226:=Tryz.isAgg351
 z226:=Tryz.sizeOf351
 v226:=Tryz.zeroValue351
 t227:=Tryz.underlying352
 a227:=Tryz.isAgg352
 z227:=Tryz.sizeOf352
 v227:=Tryz.zeroValue352
 g0:=by kernel_rfl
 g6:=by kernel_rfl }
open Go.RowKit Go.Lib in
theorem Tryz.strings_Fields (s:ByteArray)(w:World)(hs:s.size<4294967281)(hascii:∀ (j:Nat) b,s.data.toList[j]?=some b->b.toNat<128)(htab:Lib.TabIs Tryz.prog w "strings.asciiSpace" .u8 Lib.asciiSpaceTab) :
 Calls Tryz.prog 196 #[.string s] w fun e w' =>
  e=.returned (.slice (some ⟨w.heap.size,0,none⟩) (Lib.fields s.data.toList).length (Lib.fields s.data.toList).length)/\w'=w.alloc (.cells ((Lib.fields s.data.toList).map fun l=>Value.string ⟨l.toArray⟩).toArray 9):=Any.strings_Fields Tryz.lays157 (by kernel_rfl) (by kernel_rfl) s w hs hascii htab
end Go.Proofs
namespace Go.Proofs.YtkcfmlfkfagejaaGreatDoor
open Go.RowKit Go.Q Go.Lx
theorem Acg (c:UInt8):isWord c=decide ((2:Int)<=(cls c:Int)):=by
 unfold cls isWord
 cases h1:isLetter c<;>cases h2:isDigit c<;>simp
 split<;>decide
theorem getD_at (s:Â)(j:Nat)(h:j<s.size):s[j]=s.data.toList.getD j 0:=by
 have h2:j<s.data.size:=h
 rw [List.getD_eq_getElem?_getD,Ë (by simpa using h2)]
 simp [ByteArray.getElem_eq_getElem_data]
theorem U2 {x:Int}{n:Nat}(h:x=n)(hn:n<=4611686018427387904):À x=(n:Int):=by
 subst h;unfold À;rw [IntKind.wrap_i64];omega
theorem Ag8 {r:List UInt8}:Lib.indexByte (35::r) 10≠0:=by
 have h:=Lib.indexByte_ge r 10
 show (if ((35:UInt8) == 10)=true then (0:Int) else _)≠0
 rw [È (by decide)]
 split
 . decide
 . rename_i h2;simp only [ó] at h2;omega
theorem VB:∀ (r:List UInt8),(Lib.indexByte r 10<0->skip true r=[])/\(∀ k:Nat,Lib.indexByte r 10=(k:Int)->k<=r.length/\skip true r=skip false (r.drop k))
 | []=>⟨fun _=>rfl,fun k h=>by have:(-1:Int)=k:=h;omega⟩
 |b::l=>by
  have ih:=VB l
  have hge:=Lib.indexByte_ge l 10
  have e:Lib.indexByte (b::l) 10=if (b == 10)=true then 0 else if (Lib.indexByte l 10 == -1)=true then -1 else Lib.indexByte l 10+1:=rfl
  rw [e,Ly]
  by_cases hb:b=10
  . rw [Ê (by rw [hb];rfl),Ê hb]
    refine⟨fun h=>absurd h (by decide),fun k h=>?_⟩
    obtain rfl:k=0:=by omega
    exact⟨by simp,by rw [hb];rfl⟩
  . rw [È (by simpa using hb),È hb]
    by_cases hn:Lib.indexByte l 10 = -1
    . rw [Ê (by rw [hn];rfl)]
      exact⟨fun _=>ih.1 (by omega),fun k h=>by omega⟩
    . rw [È (by simpa using hn)]
      refine⟨fun h=>by omega,fun k h=>?_⟩
      obtain⟨h1,h2⟩:=ih.2 (k-1) (by omega)
      have hk:k=(k-1)+1:=by omega
      refine⟨by simp;omega,?_⟩
      rw [hk,List.drop_succ_cons];exact h2
theorem Zt (c:UInt8)(h:isBlank c=true):cls c=1:=by
 have h2:=blank_not_word (.inl h)
 unfold cls;rw [h2.2.2,h2.2.1,h];rfl
theorem RU (c:UInt8)(h:isBlank c=false):((cls c:Int) == 1)=false:=by
 unfold cls;rw [h];cases isLetter c<;>cases isDigit c<;>rfl
theorem OJ {c:UInt8}(h:isDigit c=true):isLetter c=false:=by
 cases hl:isLetter c with
 |false=>rfl
 |true=>rw [WU] at hl;rw [OK] at h;omega
theorem UR {s:Â}{p j:Nat}(hp:p<s.size)(hpj:p<=j)(hall:IX isWord s p j)(hhd:headIs isWord ((bl s).drop j)=false)(hw:isWord s[p]=true):p<j:=by
 rcases Nat.lt_or_ge p j with h|h
 . exact h
 . obtain rfl:p=j:=by omega
   rw [Gd s p hp] at hhd
   have:isWord s[p]=false:=hhd
   rw [hw] at this;cases this
theorem Abv {s x:Â}{p n:Nat}(h:bl x=((bl s).drop p).take n)(hx:0<x.size)(hp:p<s.size):x[0]=s[p]:=by
 have h1:=Gd x 0 hx
 rw [Ą,h,Gd s p hp] at h1
 cases n with
 |zero=>simp at h1
 |succ n=>rw [List.take_succ_cons] at h1;exact (İ h1).1.symm
theorem Vu (r:List UInt8):number r=.bad 27∨∃ v t,number r=.ok 2 [] v t:=by
 unfold number;simp only;split
 . exact .inl rfl
 . exact .inr ⟨_,_,rfl⟩
theorem QA {x:List UInt8}(h:headIs isWord x=false):headIs isDigit x=false/\headIs isLetter x=false:=by
 cases x with
 |nil=>exact⟨rfl,rfl⟩
 |cons c r =>
  have h2:isWord c=false:=h
  simp only [isWord,Bool.or_eq_false_iff] at h2
  exact⟨h2.2,h2.1⟩
theorem Vs {s:Â}{p j:Nat}(hp:p<s.size)(hpj:p<=j)(hj:j<=s.size)(hall:IX isWord s p j)(hhd:headIs isWord ((bl s).drop j)=false)(hd:isDigit s[p]=true) :
 ((∀ v,Lib.atoiAll (((bl s).drop p).take (j-p))≠.ok v)->number ((bl s).drop p)=.bad 27) /\
 (∀ v,Lib.atoiAll (((bl s).drop p).take (j-p))=.ok v->(15<j-p∨(1<j-p/\s[p]=48)->number ((bl s).drop p)=.bad 27) /\
  (¬ 15<j-p->¬ (1<j-p/\s[p]=48)->number ((bl s).drop p)=.ok 2 [] v.toNat ((bl s).drop j)/\v=(v.toNat:Int))):=by
 have hlt:=UR hp hpj hall hhd (by simp [isWord,hd])
 obtain⟨hn1,hn2⟩:=QA hhd
 have hW:((bl s).drop p).take (j-p)=s[p]::((bl s).drop (p+1)).take (j-p-1):=by
  rw [Gd s p hp,show j-p=(j-p-1)+1 by omega,List.take_succ_cons];simp
 refine⟨fun hno=>?_,fun v hv=>?_⟩
 . rcases Vu ((bl s).drop p) with h|⟨v,t,h⟩
   . exact h
   . exfalso
     obtain⟨d,_,_,hv,e,h1,h2,h3,h4,_⟩:=number_parts h
     have hw:=hall.while hpj hhd
     have ht:headIs isWord t=false:=by
      cases t with
      |nil=>rfl
      |cons c r=>show isWord c=false;simp only [isWord,Bool.or_eq_false_iff];exact⟨h3,h2⟩
     have hw2:=Gk isWord d t (fun c hc=>by simp [isWord,h1 c hc]) ht
     rw [<- e] at hw2
     have hdW:d=((bl s).drop p).take (j-p):=by rw [<- hw.1,hw2.1]
     rw [hdW] at h1 h4
     rw [hW] at h1 h4
     exact hno _ (by rw [hW];exact Yz h1 h4)
 . have hdig:=by rw [hW] at hv;exact Wl hd hv
   have hdig2:IX isDigit s p j:=by intro c hc;rw [hW] at hc;exact hdig c hc
   have hw:=hdig2.while hpj hn1
   have hlen:=N5 s p j hpj hj
   refine⟨fun hbad=>?_,fun h15 hz=>?_⟩
   . rcases hbad with h|⟨h1,h2⟩
     . exact Q8 hw hlen (.inl h)
     . exact Q8 hw hlen (.inr (.inl ⟨h1,by rw [Gd s p hp];exact beq_iff_eq.2 h2⟩))
   . have hok:Lib.atoiAll (((bl s).drop p).take (j-p))=.ok (numVal (((bl s).drop p).take (j-p)):Int):=by
      rw [hW]
      refine Yz hdig ?_
      rw [<- hW,hlen];omega
     rw [hok] at hv
     have hvv:(numVal (((bl s).drop p).take (j-p)):Int)=v:=by injection hv
     subst hvv
     exact⟨Vt hpj hj (by omega) hdig2 hn1 hn2 (fun h=>by rw [Gd s p hp];exact beq_eq_false_iff_ne.2 fun e=>hz ⟨h,e⟩),rfl⟩
end Go.Proofs.YtkcfmlfkfagejaaGreatDoor
namespace Go.Proofs.YtkcfmlfkfagejaaGreatDoor
open Go.RowKit Go.Q Go.Lx
theorem RL:∀ (n:Nat) (r b:List UInt8),r.length<=n->∀ {e:Nat},text b r=.bad e->e=2∨e=28:=by
 intro n
 induction n with
 |zero =>
  intro r b hr e h
  obtain rfl:=ä (Nat.le_zero.1 hr)
  unfold text at h;split at h<;>(cases h;simp)
 |succ n ih =>
  intro r b hr e h
  cases r with
  |nil=>unfold text at h;split at h<;>(cases h;simp)
  |cons c r =>
   unfold text at h
   split at h
   . cases h;simp
   . split at h
     . cases h
     . split at h
       . cases r with
         |nil=>cases h;simp
         |cons d r' =>
          simp only at h
          split at h
          . cases h;simp
          . exact ih r' _ (by simp at hr;omega) h
       . split at h
         . cases h;simp
         . exact ih r _ (by simp at hr;omega) h
theorem Th {r:List UInt8}{e:Nat}(h:Lx.tok r=.bad e):e≠0:=by
 unfold Lx.tok at h
 cases r with
 |nil=>cases h;decide
 |cons c r' =>
  simp only at h
  split at h
  . unfold name at h;split at h<;>cases h;decide
  . split at h
    . unfold number at h;simp only at h;split at h<;>cases h;decide
    . split at h
      . rcases RL _ _ _ (Õ _) h with rfl|rfl<;>decide
      . unfold sign at h
        split at h
        . cases h
        . simp only at h
          split at h<;>cases h;decide
theorem Zq {l u t:List UInt8}(h:l=u++t):l.drop (l.length-t.length)=t/\l.length-t.length<=l.length:=by
 subst h
 rw [Ç,show u.length+t.length-t.length=u.length by omega,List.drop_left]
 exact⟨rfl,by omega⟩
theorem XN (s:Â)(i:Nat){u t:List UInt8}(h:(bl s).drop i=u++t):(bl s).drop (s.size-t.length)=t/\s.size-t.length<=s.size:=by
 have e:bl s=((bl s).take i++u)++t:=by rw [Ý,<- h,ĕ]
 have:=Zq e
 rw [Fy] at this
 exact this
theorem XM (s:Â)(i:Nat):(bl s).drop (s.size-(skip false ((bl s).drop i)).length)=skip false ((bl s).drop i)/\s.size-(skip false ((bl s).drop i)).length<=s.size:=by
 obtain⟨u,hu⟩:=HJ false ((bl s).drop i)
 exact XN s i hu
def RD (n:Nat)(r0:List UInt8)(l:List Tok)(r:List UInt8):Prop:=(∀ l',Lx.Good n r l'->Lx.Good n r0 (l++l'))/\∀ q e,Lx.Bad n r q e->Lx.Bad n r0 q e
theorem RD.nil (n:Nat)(r0:List UInt8):RD n r0 [] r0:=⟨fun _ h=>h,fun _ _ h=>h⟩
theorem RD.cons {n:Nat}{r0 r s t:List UInt8}{l:List Tok}{k v:Nat}(h:RD n r0 l r)(ht:Lx.tok r=.ok k s v t):RD n r0 (l++[⟨k,n-r.length,s,v⟩]) (skip false t) :=
 ⟨fun l' hg=>by rw [Ý];exact h.1 _ (.cons ht hg),fun q e hb=>h.2 q e (.later ht hb)⟩
end Go.Proofs.YtkcfmlfkfagejaaGreatDoor
namespace Go.Lx
theorem Qk (n:Nat):∀ (f:Nat) (r:List UInt8),r.length<=f->(∀ l,toks n f r=.ok l->Good n r l)/\∀ p e,toks n f r=.error (p,e)->Bad n r p e
 |0,r,h=>by
  obtain rfl:=ä (Nat.le_zero.1 h)
  refine⟨fun l hl=>?_,fun p e he=>?_⟩
  . unfold toks at hl;cases hl;exact .fin
  . unfold toks at he;cases he
 |f+1,r,h=>by
  cases r with
  |nil =>
   refine⟨fun l hl=>?_,fun p e he=>?_⟩
   . unfold toks at hl;cases hl;exact .fin
   . unfold toks at he;cases he
  |cons c r0 =>
   unfold toks
   simp only
   cases ht:tok (c::r0) with
   |bad e1 =>
    refine⟨fun l hl=>(by cases hl),fun p e he=>?_⟩
    cases he;exact .here (by simp) ht
   |ok k s v t =>
    have h1:=tok_len ht
    have h2:=HK false t
    have ih:=Qk n f (skip false t) (by omega)
    simp only
    cases hx:toks n f (skip false t) with
    |error x =>
     refine⟨fun l hl=>(by cases hl),fun p e he=>?_⟩
     obtain⟨p1,e1⟩:=x
     cases he;exact .later ht (ih.2 _ _ hx)
    |ok l1 =>
     refine⟨fun l hl=>?_,fun p e he=>(by cases he)⟩
     cases hl;exact .cons ht (ih.1 _ hx)
theorem tokens_good {l:List UInt8}{ts:List Tok}(h:tokens l=.ok ts):Good l.length (skip false l) ts:=(Qk _ _ _ (HK false l)).1 _ h
theorem tokens_bad {l:List UInt8}{p e:Nat}(h:tokens l=.error (p,e)):Bad l.length (skip false l) p e:=(Qk _ _ _ (HK false l)).2 _ _ h
end Go.Lx
namespace Go.Proofs.YtkcfmlfkfagejaaGreatDoor
open Go.RowKit Go.Q Go.Lx
end Go.Proofs.YtkcfmlfkfagejaaGreatDoor
namespace Go.Sp
open Go
def Rd (r:List UInt8)(cs:List (Nat×List UInt8×Nat)):Prop :=
 ∀ n,r.length<=n->∃ l0,Lx.Good n (Lx.skip false r) (l0++[⟨5,n,[],0⟩])/\l0.map Lx.Tok.core=cs
theorem Aab:Rd [] []:=fun _ _=>⟨[],.fin,rfl⟩
theorem Aaa {r t s:List UInt8}{k v:Nat}{cs:List (Nat×List UInt8×Nat)}(h:Lx.tok r=.ok k s v t)(hs:Lx.skip false r=r)(ht:Rd t cs):Rd r ((k,s,v)::cs):=by
 intro n hn
 have:=Lx.tok_len h
 obtain⟨l0,g0,rfl⟩:=ht n (by omega)
 rw [hs]
 exact⟨⟨k,n-r.length,s,v⟩::l0,.cons h g0,rfl⟩
theorem YK {r:List UInt8}{cs:List (Nat×List UInt8×Nat)}(h:Rd r cs):∃ l0,Lx.tokens r=.ok (l0++[⟨5,r.length,[],0⟩])/\l0.map Lx.Tok.core=cs:=by
 obtain⟨l0,g0,h0⟩:=h r.length (Õ _)
 cases e:Lx.tokens r with
 |ok ts=>rw [(Lx.tokens_good e).unique g0];exact⟨l0,rfl,h0⟩
 |error x=>obtain⟨p,q⟩:=x;exact (g0.notBad (Lx.tokens_bad e)).elim
end Go.Sp



namespace Go.Sp
open Go
theorem Aew {x y:Lx.Tok}(h:x.core=y.core):((N4 x).Kind,(N4 x).S,(N4 x).N)=((N4 y).Kind,(N4 y).S,(N4 y).N):=by
 simp only [Lx.Tok.core,Ï] at h
 simp only [N4,h.1,h.2.1,h.2.2]
theorem Wb:∀ {l l':List Lx.Tok},l.map Lx.Tok.core=l'.map Lx.Tok.core->(l.map N4).map (fun t=>(t.Kind,t.S,t.N))=(l'.map N4).map (fun t=>(t.Kind,t.S,t.N))
 | [],[],_=>rfl
 |x::l,y::l',h=>by
  simp only [ã,List.cons.injEq] at h ⊢
  exact⟨Aew h.1,Wb h.2⟩
 | [],y::l',h=>by simp at h
 |x::l,[],h=>by simp at h
end Go.Sp
namespace Go.Sp
open Go
theorem Aac {r:List UInt8}{cs:List (Nat×List UInt8×Nat)}(h:Rd r cs):Rd (32::r) cs:=by
 intro n hn
 simp only [Æ] at hn
 exact h n (by omega)
end Go.Sp
namespace Go.Sp
open Go
def Wa (n:Nat):Lx.Tok:=⟨5,n,[],0⟩
end Go.Sp
namespace Go.Sp
open Go
theorem JQ {n:Nat}(h:n<10):Lx.dec n=[UInt8.ofNat (48+n)]:=by rw [Lx.dec,dif_pos h]
theorem Yw {n:Nat}(h:¬ n<10):Lx.dec n=Lx.dec (n / 10)++[UInt8.ofNat (48+n % 10)]:=by rw [Lx.dec,dif_neg h]
theorem SS:∀ k:Nat,k<10->Lx.isDigit (UInt8.ofNat (48+k))=true/\(UInt8.ofNat (48+k)).toNat=48+k/\(1<=k->UInt8.ofNat (48+k)≠48):=by decide
theorem SR:∀ (N n:Nat),n<=N->(∀ c∈Lx.dec n,Lx.isDigit c=true)/\Lx.numVal (Lx.dec n)=n/\Lx.dec n≠[]/\(1<=n->Lx.headIs (· == 48) (Lx.dec n)=false)/\∀ k,1<=k->n<10 ^ k->(Lx.dec n).length<=k:=by
 intro N
 induction N with
 |zero =>
  intro n h
  obtain rfl:n=0:=by omega
  rw [JQ (by omega)]
  exact⟨by decide,rfl,by simp,fun h=>by omega,fun k hk _=>by simpa using hk⟩
 |succ N ih =>
  intro n h
  by_cases h10:n<10
  . rw [JQ h10]
    obtain⟨d1,d2,d3⟩:=SS n h10
    refine⟨fun c hc=>by rw [List.mem_singleton.1 hc];exact d1,?_,by simp,fun h1=>?_,fun k hk _=>by simpa using hk⟩
    . show 10*0+((UInt8.ofNat (48+n)).toNat-48)=n
      rw [d2];omega
    . show (UInt8.ofNat (48+n) == 48)=false
      rw [ñ];exact d3 h1
  . rw [Yw h10]
    obtain⟨i1,i2,i3,i4,i5⟩:=ih (n / 10) (by omega)
    obtain⟨d1,d2,d3⟩:=SS (n % 10) (by omega)
    refine⟨fun c hc=>?_,?_,by simp,fun _=>?_,fun k hk hn=>?_⟩
    . rcases List.mem_append.1 hc with hc|hc
      . exact i1 c hc
      . rw [List.mem_singleton.1 hc];exact d1
    . rw [Lx.numVal_snoc,i2,d2];omega
    . have:=i4 (by omega)
      cases hd:Lx.dec (n / 10) with
      |nil=>exact absurd hd i3
      |cons c r=>rw [hd] at this;exact this
    . rw [Ç]
      have hk2:2<=k:=by
       by_cases q:k=1
       . subst q;simp at hn;omega
       . omega
      have:=i5 (k-1) (by omega) (by
       have e:10 ^ k=10 ^ (k-1)*10:=by rw [<- Nat.pow_succ];congr 1;omega
       rw [e] at hn
       omega)
      simp only [Æ,Î];omega
theorem Aa9:∀ (N n:Nat),n<=N->Lib.itoa (n:Int)=Lx.dec n:=by
 have small:∀ n:Nat,n<10->Lib.itoa (n:Int)=Lx.dec n:=by
  intro n h
  rw [JQ h]
  unfold Lib.itoa
  rw [È (by omega),Ć,Lib.decDigits_one h]
 intro N
 induction N with
 |zero=>intro n h;exact small n (by omega)
 |succ N ih =>
  intro n h
  by_cases h10:n<10
  . exact small n h10
  . rw [Yw h10,<- ih (n / 10) (by omega),<- JQ (show n % 10<10 by omega),<- small (n % 10) (by omega)]
    unfold Lib.itoa
    rw [È (by omega),È (by omega),È (by omega),Ć,Ć,Ć,Lib.decDigits_one (i:=n % 10) (by omega)]
    conv=>lhs;rw [Lib.decDigits,dif_neg h10]
theorem TD:∀ ws:List (List UInt8),Lib.join ws [32]=Lx.joinSp ws
 | []=>rfl
 | [w]=>Lib.join_one w [32]
 |w::v::r=>by
  have ih:=TD (v::r)
  rw [Lib.join_cons] at ih ⊢
  show w++Lib.joinTail [32] (v::r)=w++32::Lx.joinSp (v::r)
  rw [<- ih];rfl
def Uv (y:Lx.Tok):Prop:=∃ r u,Lx.tok r=.ok y.kind y.s y.n u
def HS (t:Ab):Prop:=∃ y:Lx.Tok,Uv y/\t.Kind=(y.kind:Int)/\t.S=⟨⟨y.s⟩⟩/\t.N=(y.n:Int)
theorem UF {r:List UInt8}{k v:Nat}{s u:List UInt8}(h:Lx.tok r=.ok k s v u):Lx.skip false r=r:=by
 cases r with
 |nil=>rfl
 |cons c r =>
  by_cases hb:Lx.isBlank c=true∨c=35
  . exfalso
    obtain⟨_,b2,b3⟩:=Lx.blank_not_word hb
    have hl:∀ d:UInt8,([c,d]:List UInt8)∉Lx.long:=by
     intro d hd
     simp only [Lx.long,į,List.cons.injEq,Ĩ,or_false,and_true] at hd
     rcases hd with h|h|h|h|h|h|h|h|h<;>(obtain⟨rfl,_⟩:=h;revert hb;decide)
    have hs:c∉Lx.short:=by
     intro hd
     have all:∀ x∈Lx.short,¬ (Lx.isBlank x=true∨x=35):=by decide
     exact all c hd hb
    have h34:c≠34:=by rintro rfl;revert hb;decide
    unfold Lx.tok at h
    simp only [b2,b3,h34,ß,í] at h
    unfold Lx.sign at h
    have ht:(c::r).take 2∉Lx.long:=by
     cases r with
     |nil=>exact fun hd=>by have:=Lx.long_len hd;simp at this
     |cons d r=>exact hl d
    rw [È ht] at h
    simp only [hs,í] at h
    cases h
  . simp only [not_or,Bool.not_eq_true] at hb
    exact Lx.skip_stay hb.1 hb.2
theorem Vd:∀ (ys:List Lx.Tok),(∀ y∈ys,Uv y)->Rd (Lx.joinSp (ys.map Lx.Tok.word)) (ys.map Lx.Tok.core)
 | [],_=>Aab
 | [y],h=>by
  obtain⟨r,u,hr⟩:=h y (.head _)
  obtain⟨t1,t2,t3,_⟩:=Lx.tok_parts hr
  have h0:=t3 [] (.inl rfl)
  rw [ç] at h0
  exact Aaa (t:=[]) h0 (UF h0) Aab
 |y::z::ys,h=>by
  obtain⟨r,u,hr⟩:=h y (.head _)
  obtain⟨t1,t2,t3,_⟩:=Lx.tok_parts hr
  have ih:=Vd (z::ys) fun y hy=>h y (.tail _ hy)
  have h0:=t3 (32::Lx.joinSp ((z::ys).map Lx.Tok.word)) (.inr (.inl ⟨32,_,rfl,.inl (by decide)⟩))
  exact Aaa h0 (UF h0) (Aac ih)
theorem X9 {t:Ab}{y:Lx.Tok}(hy:Uv y)(h1:t.Kind=(y.kind:Int))(h2:t.S=⟨⟨y.s⟩⟩)(h3:t.N=(y.n:Int)):F7 t=[y.word]:=by
 obtain⟨r,u,hr⟩:=hy
 obtain⟨_,_,_,k1,k4⟩:=Lx.tok_parts hr
 unfold F7 Lx.Tok.word Lx.word
 rw [h1,h2,h3]
 by_cases q1:y.kind=1∨y.kind=4
 . rw [Ê q1,Ê (by omega)]
 . rw [È q1,È (by omega)]
   by_cases q2:y.kind=2
   . rw [Ê q2,Ê (by omega),Aa9 _ _ (Õ _)]
   . rw [È q2,È (by omega)]
     have q3:y.kind=3:=by omega
     rw [Ê q3,Ê (by omega)]
theorem OW:∀ {l:List Ab},(∀ t∈l,HS t)->∃ ys:List Lx.Tok,(∀ y∈ys,Uv y)/\l.flatMap F7=ys.map Lx.Tok.word/\(ys.map N4).map (fun t=>(t.Kind,t.S,t.N))=l.map (fun t=>(t.Kind,t.S,t.N))
 | [],_=>⟨[],(fun y h=>by cases h),rfl,rfl⟩
 |t::l,h=>by
  obtain⟨ys,h1,h2,h3⟩:=OW fun t ht=>h t (.tail _ ht)
  obtain⟨y,hy,e1,e2,e3⟩:=h t (.head _)
  refine⟨y::ys,fun z hz=>?_,?_,?_⟩
  . rcases List.mem_cons.1 hz with rfl|hz
    . exact hy
    . exact h1 z hz
  . rw [ę,X9 hy e1 e2 e3,h2];rfl
  . rw [ã,ã,ã,h3,e1,e2,e3];rfl
theorem YA {l:List Ab}(h:∀ t∈l,HS t):∃ l0,Lx.tokens (E0 l).data.toList=.ok (l0++[Wa (E0 l).data.toList.length])/\(l0.map N4).map (fun t=>(t.Kind,t.S,t.N))=l.map (fun t=>(t.Kind,t.S,t.N)):=by
 obtain⟨ys,h1,h2,h3⟩:=OW h
 have hr:=Vd ys h1
 have e:(E0 l).data.toList=Lx.joinSp (ys.map Lx.Tok.word):=by
  show Lib.join (l.flatMap F7) [32]=_
  rw [h2,TD]
 rw [<- e] at hr
 obtain⟨l0,t1,t2⟩:=YK hr
 exact⟨l0,t1,by rw [<- h3];exact Wb t2⟩
theorem PF {s:Â}(h:BQ s=true):HS ⟨1,0,s,0⟩:=by
 unfold BQ at h
 simp only [Ã,Í,Ü] at h
 obtain⟨⟨h1,h2⟩,h3,h4⟩:=h
 have hl:s.data.toList.length=s.size:=rfl
 refine⟨⟨1,0,s.data.toList,0⟩,⟨s.data.toList,[],?_⟩,rfl,rfl,rfl⟩
 have hn:=Lx.name_of (x:=[]) h4 rfl (by omega)
 rw [ç] at hn
 cases hs:s.data.toList with
 |nil=>rw [hs] at h3;cases h3
 |cons c r =>
  rw [hs] at h3 hn
  unfold Lx.tok
  have h3:Lx.isLetter c=true:=h3
  simp only [h3,ë]
  exact hn
theorem Wv {v:Int}(h:Hl v=true):HS ⟨2,0,⟨#[]⟩,v⟩:=by
 unfold Hl at h
 simp only [Í] at h
 obtain⟨m,rfl⟩:∃ m:Nat,v=(m:Int):=⟨v.toNat,by omega⟩
 obtain⟨d1,d2,d3,d4,d5⟩:=SR m m (Õ _)
 have hlen:=d5 15 (by omega) (by omega)
 have hn:=Lx.number_of (x:=[]) d1 rfl rfl hlen (fun h1=>by
  rw [ç]
  by_cases q:1<=m
  . exact d4 q
  . obtain rfl:m=0:=by omega
    rw [JQ (by omega)] at h1
    simp at h1)
 rw [ç,d2] at hn
 refine⟨⟨2,0,[],m⟩,⟨Lx.dec m,[],?_⟩,rfl,rfl,rfl⟩
 cases hs:Lx.dec m with
 |nil=>exact absurd hs d3
 |cons c r =>
  rw [hs] at hn
  have hc:=d1 c (by rw [hs];exact .head _)
  have hnl:Lx.isLetter c=false:=by
   have all:∀ k:Fin 256,Lx.isDigit (UInt8.ofNat k.val)=true->Lx.isLetter (UInt8.ofNat k.val)=false:=by decide +kernel
   have:=all ⟨c.toNat,c.toNat_lt⟩
   rw [show UInt8.ofNat c.toNat=c from UInt8.ofNat_toNat] at this
   exact this hc
  unfold Lx.tok
  simp only [hnl,hc,ß,í,ë]
  exact hn
theorem OX:∀ (l b x:List UInt8),l.all Ib=true->(b++l).length<=200->Lx.text b (Lx.quoted l++34::x)=.ok 3 (b++l) 0 x
 | [],b,x,_,h=>by
  show Lx.text b (34::x)=_
  rw [ç] at h ⊢
  unfold Lx.text
  rw [È (by omega),Ê rfl]
 |c::l,b,x,h,hl=>by
  rw [ĉ,Ã] at h
  have hb:(b++[c]++l)=b++c::l:=by simp
  have ih:=OX l (b++[c]) x h.2 (by rw [hb];exact hl)
  rw [hb] at ih
  have hbl:b.length<=200:=by rw [Ç] at hl;omega
  have e:Lx.quoted (c::l)++34::x=(if c=34∨c=92 then [92,c] else if c=10 then [92,110] else [c])++(Lx.quoted l++34::x):=by
   unfold Lx.quoted;rw [ę,Ý]
  rw [e]
  by_cases q1:c=34∨c=92
  . rw [Ê q1]
    show Lx.text b (92::c::(Lx.quoted l++34::x))=_
    have hp:Lx.pair c=c:=by unfold Lx.pair;rw [Ê q1]
    have hp0:¬ c=0:=by rintro rfl;revert q1;decide
    rw [Lx.text,È (by omega),È (by decide),Ê rfl]
    simp only [hp,hp0,í]
    exact ih
  . rw [È q1]
    by_cases q2:c=10
    . rw [Ê q2]
      subst q2
      show Lx.text b (92::110::(Lx.quoted l++34::x))=_
      rw [Lx.text,È (by omega),È (by decide),Ê rfl]
      have hp:Lx.pair 110=10:=rfl
      simp only [hp,show ¬ ((10:UInt8)=0) by decide,í]
      exact ih
    . rw [È q2]
      show Lx.text b (c::(Lx.quoted l++34::x))=_
      have h32:¬ (c<32∨126<c):=by
       have h1:=h.1
       unfold Ib at h1
       have q3:(c == 10)=false:=by simpa using q2
       rw [q3,Bool.false_or,Ã,Í,Í,Ğ,Ğ] at h1
       rw [Ĝ,Ĝ];omega
      unfold Lx.text
      rw [È (by omega),È (fun h=>q1 (.inl h)),È (fun h=>q1 (.inr h)),È h32]
      exact ih
theorem XD {s:Â}(h:H7 s=true):HS ⟨3,0,s,0⟩:=by
 unfold H7 at h
 rw [Ã,Í] at h
 have hl:s.data.toList.length=s.size:=rfl
 refine⟨⟨3,0,s.data.toList,0⟩,⟨34::(Lx.quoted s.data.toList++[34]),[],?_⟩,rfl,rfl,rfl⟩
 have:=OX s.data.toList [] [] h.2 (by rw [ö];omega)
 unfold Lx.tok
 simp only [show Lx.isLetter 34=false from rfl,show Lx.isDigit 34=false from rfl,ß,í,ë]
 exact this
theorem XE {s:Â}(h:s.data.toList∈Lx.long∨∃ c,s.data.toList=[c]/\c∈Lx.short):HS (tS s):=by
 rcases h with h|⟨c,h,hc⟩
 . obtain⟨a,b,e⟩:∃ a b,s.data.toList=[a,b]:=by
    have:=Lx.long_len h
    match hs:s.data.toList,this with
    | [a,b],_=>exact⟨a,b,rfl⟩
   refine⟨⟨4,0,s.data.toList,0⟩,⟨s.data.toList,[],?_⟩,rfl,rfl,rfl⟩
   rw [e] at h ⊢
   have hb:∀ x∈Lx.long,Lx.tok x=.ok 4 x 0 []:=by decide
   exact hb _ h
 . refine⟨⟨4,0,s.data.toList,0⟩,⟨s.data.toList,[],?_⟩,rfl,rfl,rfl⟩
   rw [h]
   have hb:∀ x∈Lx.short,Lx.tok [x]=.ok 4 [x] 0 []:=by decide
   exact hb _ hc
end Go.Sp
namespace Go.Sp
open Go
theorem HX {s:List UInt8}(h:s∈Lx.long∨∃ c,s=[c]/\c∈Lx.short):HS (tS ⟨⟨s⟩⟩):=XE h
theorem ZM:HS (tS ⟨#[40]⟩):=HX (s:=[40]) (.inr ⟨40,rfl,by decide⟩)
theorem ZL:HS (tS ⟨#[41]⟩):=HX (s:=[41]) (.inr ⟨41,rfl,by decide⟩)
theorem Af4 {b:Ar}(hb:b∈GF):HS (tS b.sign):=by
 have:b.sign.data.toList∈Lx.long∨∃ c,b.sign.data.toList=[c]/\c∈Lx.short:=by
  simp only [GF,į,Ĩ,or_false] at hb
  rcases hb with rfl|rfl|rfl|rfl|rfl|rfl|rfl|rfl|rfl|rfl|rfl|rfl|rfl
  all_goals first
   |exact .inl (by decide)
   |exact .inr ⟨_,rfl,by decide⟩
 exact XE this
theorem Je {need:Int}{p:Int×List Ab}{t:Ab}(h:t∈wrp need p)(hp:∀ t∈p.2,HS t):HS t:=by
 unfold wrp at h
 split at h
 . exact hp t h
 . rcases List.mem_cons.1 h with rfl|h
   . exact ZM
   . rcases List.mem_append.1 h with h|h
     . exact hp t h
     . rw [List.mem_singleton.1 h];exact ZL
theorem UU:∀ {l:List Aa} {t:Ab},t∈sepR (FV l)->(∀ x∈l,∀ t∈Cz x,HS t)->HS t
 | [],t,h,_=>by cases h
 |x::l,t,h,hp=>by
  have h:t∈tS ⟨#[44]⟩::(wrp 0 (lvl x.Op,Cz x)++sepR (FV l)):=h
  rcases List.mem_cons.1 h with rfl|h
  . exact HX (s:=[44]) (.inr ⟨44,rfl,by decide⟩)
  . rcases List.mem_append.1 h with h|h
    . exact Je h (hp x (.head _))
    . exact UU h fun y hy=>hp y (.tail _ hy)
theorem Mm:∀ {l:List Aa},(J6 l).all id=true->∀ x∈l,GG x=true
 | [],_,x,hx=>by cases hx
 |y::l,h,x,hx=>by
  have h:(GG y&&(J6 l).all id)=true:=h
  rw [Ã] at h
  rcases List.mem_cons.1 hx with rfl|hx
  . exact h.1
  . exact Mm h.2 x hx
theorem Vq:∀ (N:Nat) (x:Aa),P4 x<=N->GG x=true->Wf x/\∀ t∈Cz x,HS t
 |0,x,h,_=>by have:=PI x;omega
 |N+1,.mk op n s l p,h,ho=>by
  simp only [P4] at h
  have hk:∀ x∈l,GG x=true->Wf x/\∀ t∈Cz x,HS t:=fun x hx=>Vq N x (by have:=Wx hx;omega)
  replace ho:M7 op n s (J6 l)=true:=ho
  show Wf ⟨op,n,s,l,p⟩/\∀ t∈Uz op n s (FV l),HS t
  unfold M7 at ho
  unfold Uz
  by_cases h1:op=1
  . rw [Ê h1] at ho ⊢
    subst h1
    exact⟨.num ..,fun t ht=>by rw [List.mem_singleton.1 ht];exact Wv ho⟩
  rw [È h1] at ho ⊢
  by_cases h2:op=2
  . rw [Ê h2] at ho ⊢
    subst h2
    exact⟨.text ..,fun t ht=>by rw [List.mem_singleton.1 ht];exact XD ho⟩
  rw [È h2] at ho ⊢
  by_cases h3:op=3
  . rw [Ê h3] at ho ⊢
    subst h3
    exact⟨.name ..,fun t ht=>by rw [List.mem_singleton.1 ht];exact PF ho⟩
  rw [È h3] at ho ⊢
  by_cases h4:op=4
  . rw [Ê h4] at ho ⊢
    subst h4
    rw [Ã] at ho
    have ha:=Mm ho.2
    refine⟨.call n s l p fun x hx=>(hk x hx (ha x hx)).1,fun t ht=>?_⟩
    rcases List.mem_cons.1 ht with rfl|ht
    . exact PF ho.1
    rcases List.mem_cons.1 ht with rfl|ht
    . exact ZM
    rcases List.mem_append.1 ht with ht|ht
    . cases l with
      |nil=>cases ht
      |cons x l =>
       rw [Mj] at ht
       rcases List.mem_append.1 ht with ht|ht
       . exact (hk x (.head _) (ha x (.head _))).2 t ht
       . exact UU ht fun y hy=>(hk y (.tail _ hy) (ha y (.tail _ hy))).2
    . rw [List.mem_singleton.1 ht];exact ZL
  rw [È h4] at ho ⊢
  have one:((J6 l).length == 1&&(J6 l).all id)=true->∃ x,l=[x]/\GG x=true:=by
   intro h
   rw [Ã,ó,Io] at h
   match l,h with
   | [x],h=>exact⟨x,rfl,Mm h.2 x (.head _)⟩
  by_cases h5:op=5
  . rw [Ê h5] at ho ⊢
    subst h5
    obtain⟨x,rfl,hx⟩:=one ho
    obtain⟨w,tk⟩:=hk x (.head _) hx
    refine⟨.not n s x p w,fun t ht=>?_⟩
    rcases List.mem_cons.1 ht with rfl|ht
    . exact HX (s:=[33]) (.inr ⟨33,rfl,by decide⟩)
    . exact Je ht tk
  rw [È h5] at ho ⊢
  by_cases h6:op=6
  . rw [Ê h6] at ho ⊢
    subst h6
    obtain⟨x,rfl,hx⟩:=one ho
    obtain⟨w,tk⟩:=hk x (.head _) hx
    refine⟨.neg n s x p w,fun t ht=>?_⟩
    rcases List.mem_cons.1 ht with rfl|ht
    . exact HX (s:=[45]) (.inr ⟨45,rfl,by decide⟩)
    . exact Je ht tk
  rw [È h6] at ho ⊢
  by_cases h20:op=20
  . rw [Ê h20] at ho ⊢
    subst h20
    rw [Ã,ó,Io] at ho
    match l,ho,hk with
    | [x,y,z],ho,hk =>
     have ha:=Mm ho.2
     obtain⟨wx,tx⟩:=hk x (.head _) (ha x (.head _))
     obtain⟨wy,ty⟩:=hk y (.tail _ (.head _)) (ha y (.tail _ (.head _)))
     obtain⟨wz,tz⟩:=hk z (.tail _ (.tail _ (.head _))) (ha z (.tail _ (.tail _ (.head _))))
     refine⟨.ite n s x y z p wx wy wz,fun t ht=>?_⟩
     have ht:t∈wrp 1 (lvl x.Op,Cz x)++(tS ⟨#[63]⟩::(wrp 0 (lvl y.Op,Cz y)++(tS ⟨#[58]⟩::wrp 0 (lvl z.Op,Cz z)))):=ht
     rcases List.mem_append.1 ht with ht|ht
     . exact Je ht tx
     rcases List.mem_cons.1 ht with rfl|ht
     . exact HX (s:=[63]) (.inr ⟨63,rfl,by decide⟩)
     rcases List.mem_append.1 ht with ht|ht
     . exact Je ht ty
     rcases List.mem_cons.1 ht with rfl|ht
     . exact HX (s:=[58]) (.inr ⟨58,rfl,by decide⟩)
     . exact Je ht tz
  rw [È h20] at ho ⊢
  cases hb:RW op GF with
  |none=>rw [hb] at ho;cases ho
  |some b =>
   rw [hb] at ho
   simp only [Option.isSome_some,ė] at ho
   rw [Ã,ó,Io] at ho
   obtain⟨hm,rfl⟩:=PU hb
   match l,ho,hk with
   | [x,y],ho,hk =>
    have ha:=Mm ho.2
    obtain⟨wx,tx⟩:=hk x (.head _) (ha x (.head _))
    obtain⟨wy,ty⟩:=hk y (.tail _ (.head _)) (ha y (.tail _ (.head _)))
    refine⟨.bin b hm n s x y p wx wy,fun t ht=>?_⟩
    have ht:t∈wrp (lf b.level) (lvl x.Op,Cz x)++(tS b.sign::wrp (b.level+1) (lvl y.Op,Cz y)):=ht
    rcases List.mem_append.1 ht with ht|ht
    . exact Je ht tx
    rcases List.mem_cons.1 ht with rfl|ht
    . exact Af4 hm
    . exact Je ht ty
theorem Vr {a:Ao}(h:Q7 a=true):WfA a/\∀ t∈pA a,HS t:=by
 unfold Q7 at h
 unfold pA
 by_cases q1:a.Kind=1
 . rw [Ê q1] at h ⊢
   exact⟨⟨by omega,fun h=>by omega,fun h=>by omega⟩,fun t ht=>by rw [List.mem_singleton.1 ht];exact PF h⟩
 rw [È q1] at h ⊢
 by_cases q2:a.Kind=2
 . rw [Ê q2] at h ⊢
   by_cases qn:a.N<0
   . rw [Ê qn] at h ⊢
     simp only [Ã,č,Ö] at h
     refine⟨⟨by omega,fun _=>by omega,fun h=>by omega⟩,fun t ht=>?_⟩
     rcases List.mem_cons.1 ht with rfl|ht
     . exact HX (s:=[45]) (.inr ⟨45,rfl,by decide⟩)
     . rw [List.mem_singleton.1 ht];exact Wv h.1
   . rw [È qn] at h ⊢
     refine⟨⟨by omega,fun _=>?_,fun h=>by omega⟩,fun t ht=>by rw [List.mem_singleton.1 ht];exact Wv h⟩
     unfold Hl at h
     simp only [Í] at h
     omega
 rw [È q2] at h ⊢
 by_cases q3:a.Kind=3
 . rw [Ê q3] at h ⊢
   exact⟨⟨by omega,fun h=>by omega,fun h=>by omega⟩,fun t ht=>by rw [List.mem_singleton.1 ht];exact XD h⟩
 rw [È q3] at h ⊢
 by_cases q4:a.Kind=4
 . rw [Ê q4] at h ⊢
   exact⟨⟨by omega,fun h=>by omega,fun h=>by omega⟩,fun t ht=>by rw [List.mem_singleton.1 ht];exact HX (s:=[45,62]) (.inl (by decide))⟩
 rw [È q4] at h ⊢
 by_cases q5:a.Kind=5
 . rw [Ê q5] at h ⊢
   obtain⟨w,tk⟩:=Vq _ a.E (Õ _) h
   refine⟨⟨by omega,fun h=>by omega,fun _=>w⟩,fun t ht=>?_⟩
   rcases List.mem_cons.1 ht with rfl|ht
   . exact ZM
   rcases List.mem_append.1 ht with ht|ht
   . exact tk t ht
   . rw [List.mem_singleton.1 ht];exact ZL
 . rw [È q5] at h;cases h
theorem XQ:∀ {l:List Ao} {t:Ab},t∈Jm l->(∀ a∈l,∀ t∈pA a,HS t)->HS t
 | [],t,h,_=>by cases h
 |a::l,t,h,hp=>by
  rcases List.mem_append.1 (show t∈pA a++Jm l from h) with h|h
  . exact hp a (.head _) t h
  . exact XQ h fun a ha=>hp a (.tail _ ha)
mutual
theorem Aat:∀ f:Ai,Hx f=true->WfF f/\∀ t∈pF f,HS t
 |.mk w l b p,h=>by
  have h:(BQ w&&(l.all Q7&&JG b))=true:=h
  rw [Ã,Ã,Ü] at h
  obtain⟨h1,h2,h3⟩:=h
  have hb:=O3 b h3
  refine⟨.mk w l b p (fun a ha=>(Vr (h2 a ha)).1) hb.1,fun t ht=>?_⟩
  have ht:t∈⟨1,0,w,0⟩::(Jm l++(if b.isEmpty then [tS ⟨#[59]⟩] else tS ⟨#[123]⟩::(Gp b++[tS ⟨#[125]⟩]))):=ht
  rcases List.mem_cons.1 ht with rfl|ht
  . exact PF h1
  rcases List.mem_append.1 ht with ht|ht
  . exact XQ ht fun a ha=>(Vr (h2 a ha)).2
  split at ht
  . rw [List.mem_singleton.1 ht];exact HX (s:=[59]) (.inr ⟨59,rfl,by decide⟩)
  rcases List.mem_cons.1 ht with rfl|ht
  . exact HX (s:=[123]) (.inr ⟨123,rfl,by decide⟩)
  rcases List.mem_append.1 ht with ht|ht
  . exact hb.2 t ht
  . rw [List.mem_singleton.1 ht];exact HX (s:=[125]) (.inr ⟨125,rfl,by decide⟩)
theorem O3:∀ l:List Ai,JG l=true->(∀ f∈l,WfF f)/\∀ t∈Gp l,HS t
 | [],_=>⟨fun f h=>(by cases h),fun t h=>(by cases h)⟩
 |f::l,h=>by
  have h:(Hx f&&JG l)=true:=h
  rw [Ã] at h
  obtain⟨w1,t1⟩:=Aat f h.1
  obtain⟨w2,t2⟩:=O3 l h.2
  refine⟨fun g hg=>?_,fun t ht=>?_⟩
  . rcases List.mem_cons.1 hg with rfl|hg
    . exact w1
    . exact w2 g hg
  . rcases List.mem_append.1 (show t∈pF f++Gp l from ht) with ht|ht
    . exact t1 t ht
    . exact t2 t ht
end
theorem Aa0:∀ l:List Aa,(nL l).length=l.length
 | []=>rfl
 |x::l=>by show (nL l).length+1=_;rw [Aa0 l];rfl
theorem Aa1:∀ {l l':List Aa},JX l'=nL l->∀ {j:Nat} (h1:j<l'.length) (h2:j<l.length),ET l'[j]=nE l[j]
 | [],l',h,j,h1,h2=>by simp at h2
 |x::l,[],h,j,h1,h2=>by simp at h1
 |x::l,y::l',h,0,h1,h2=>by
  have h:ET y::JX l'=nE x::nL l:=h
  exact (İ h).1
 |x::l,y::l',h,j+1,h1,h2=>by
  have h:ET y::JX l'=nE x::nL l:=h
  exact Aa1 (İ h).2 (by simpa using h1) (by simpa using h2)
theorem NW:∀ (N:Nat) (e:Aa),P4 e<=N->P4 e<=1000000->C8 e
 |0,e,h,_=>by have:=PI e;omega
 |N+1,.mk op v s l p,h,hz=>by
  simp only [P4] at h hz
  have hl:=XF l
  exact .mk _ (by show l.length<=_;omega) fun x (hx:x∈l)=>NW N x (by have:=Wx hx;omega) (by have:=Wx hx;omega)
theorem Zh {e:Aa}(h:C8 e):GG e=true->Ac4 e:=by
 induction h with
 |mk e hl _ ih =>
  intro ho
  refine .mk e (by omega) (.inl ho) fun h1 h2 h3 x hx=>ih x hx ?_
  obtain⟨op,v,s,l,p⟩:=e
  have ho:M7 op v s (J6 l)=true:=ho
  have ha:(J6 l).all id=true:=by
   unfold M7 at ho
   rw [È h1,È h2,È h3] at ho
   split at ho
   . rw [Ã] at ho;exact ho.2
   split at ho
   . rw [Ã] at ho;exact ho.2
   split at ho
   . rw [Ã] at ho;exact ho.2
   split at ho
   . rw [Ã] at ho;exact ho.2
   . rw [Ã,Ã] at ho;exact ho.2.2
  exact Mm ha x hx
end Go.Sp






namespace Go.Sp
open Go
theorem ZI {src:Â}(hs:src.size<=65536){ts:List Lx.Tok}(h:Lx.tokens src.data.toList=.ok ts):MA (ts.map N4):=by
 obtain⟨h1,h2⟩:=(I9 _ _).1 _ h
 have h3:src.data.toList.length=src.size:=rfl
 exact (Qt h1 (by omega)).1
theorem Abf {M:List Ab}:∀ {a b:List Ab} {pre r:List Ab},a.map (fun t=>(t.Kind,t.S,t.N))=b.map (fun t=>(t.Kind,t.S,t.N))->M=pre++(a++r)->Has M (pre.length:Int) b
 | [],[],pre,r,_,_=>trivial
 | [],y::b,pre,r,h,_=>by simp at h
 |x::a,[],pre,r,h,_=>by simp at h
 |x::a,y::b,pre,r,h,e=>by
  simp only [ã,List.cons.injEq,Ï] at h
  refine⟨⟨x,?_,h.1.1,h.1.2.1,h.1.2.2⟩,?_⟩
  . rw [e,LN];simp
  . have:=Abf (M:=M) (a:=a) (b:=b) (pre:=pre++[x]) (r:=r) h.2 (by rw [e];simp)
    rw [Ç] at this
    exact this
theorem Ad5 {src:Â}(h:65536<src.size):(FN src)=([],⟨0,2⟩):=by
 unfold FN;rw [Ê h]
theorem Ahb {a r:List Ab}{u:Ab}(n:Nat)(h:n=a.length):gi (a++u::r) (0+(n:Int))=some u:=by
 rw [Int.zero_add,h,LN];simp
theorem ZH {c:Prop}{M:List Ab}{P:Am}(hM:MA M):∀ (fs out:List Ai) (p n_:Int) (u:Ab),(∀ f∈fs,WfF f)->0<=n_->n_<=2000->(out.length:Int)<=n_ ->
 (c->SL fs 1/\n_+Ig fs<=2000)->Has M p (Gp fs)->gi M (p+((Gp fs).length:Int))=some u->u.Kind=5 ->
 ∃ N,∀ n,N<=n->∀ y,Cp n ⟨M,P⟩ out p n_=some y->((∃ r,y=.inr r/\r.P.E=2/\¬c)∨∃ o,y=.inl o/\IB o=IB out++WM fs):=by
 intro fs
 induction fs with
 |nil =>
  intro out p n_ u _ n0 n1 ho hc h hu h5
  refine⟨1,fun n hn y hy=>?_⟩
  obtain⟨n,rfl⟩:∃ m,n=m+1:=⟨n-1,by omega⟩
  replace hy:=(Cp.eq_2 (n:=n) _ _ _ _).symm.trans hy
  have hu:gi M (p+((0:Nat):Int))=some u:=hu
  rw [show p+((0:Nat):Int)=p by omega] at hu
  simp only [hu,Á,show (u.Kind != 5)=false by rw [h5];rfl,Ä] at hy
  cases Ac hy
  exact .inr ⟨out,rfl,(ç _).symm⟩
 |cons f fs ih =>
  intro out p n_ u hf n0 n1 ho hc h hu h5
  have h:Has M p (pF f++Gp fs):=h
  obtain⟨h1,h2⟩:=F3 h
  have hu:gi M (p+((pF f++Gp fs).length:Int))=some u:=hu
  rw [Ad7] at hu
  obtain⟨t,ht,k1⟩:=Vi h1
  have cf:=Ru f
  have cfs:=JR fs
  obtain⟨g,⟨N1,hg⟩,hh⟩:=Aib (hf f (.head _)) c M p 1 n_ hM (by decide) (by decide) n0 n1 h1 fun q=>by
   obtain⟨q1,q2⟩:=hc q
   have q2:n_+(cntF f+Ig fs)<=2000:=q2
   exact⟨q1.1,by omega⟩
  rcases hh with⟨e1,e2⟩|⟨e1,e2,e3,e4,e5⟩
  . refine⟨N1+1,fun n hn y hy=>?_⟩
    obtain⟨n,rfl⟩:∃ m,n=m+1:=⟨n-1,by omega⟩
    replace hy:=(Cp.eq_2 (n:=n) _ _ _ _).symm.trans hy
    have hg:C0 n M p 1 n_=some g:=hg n (by omega)
    simp only [ht,Á,show (t.Kind != 5)=true by rw [k1];rfl,É,hg,show (g.E != 0)=true by rw [e1];rfl] at hy
    obtain⟨x2,_,hy⟩:=Ad hy
    cases Ac hy
    exact .inl ⟨_,rfl,e1,e2⟩
  . obtain⟨F,z,N,w⟩:=g
    obtain rfl:w=0:=e1
    obtain rfl:z=p+((pF f).length:Int):=e2
    obtain rfl:N=n_+cntF f:=e4
    have e5:n_+cntF f<=2000:=e5
    have e3:ZR F=nF f:=e3
    obtain⟨N2,h3⟩:=ih (out++[F]) (p+((pF f).length:Int)) (n_+cntF f) u (fun f h=>hf f (.tail _ h)) (by omega) e5 (by simp only [Ç,Æ,Î];omega)
     (fun q=>by
      obtain⟨q1,q2⟩:=hc q
      have q2:n_+(cntF f+Ig fs)<=2000:=q2
      exact⟨q1.2,by omega⟩) h2 hu h5
    refine⟨N1+N2+1,fun n hn y hy=>?_⟩
    obtain⟨n,rfl⟩:∃ m,n=m+1:=⟨n-1,by omega⟩
    replace hy:=(Cp.eq_2 (n:=n) _ _ _ _).symm.trans hy
    have hg:C0 n M p 1 n_=some ⟨F,p+((pF f).length:Int),n_+cntF f,0⟩:=hg n (by omega)
    have g5:B4 73 out [F]=some (out++[F]):=by unfold B4;rw [Ê (by simp only [Æ,Î];omega)]
    simp only [ht,Á,show (t.Kind != 5)=true by rw [k1];rfl,É,hg,ê,Ä,g5] at hy
    rcases h3 n (by omega) y hy with h|⟨o,rfl,ho⟩
    . exact .inl h
    . refine .inr ⟨o,rfl,?_⟩
      rw [ho,Qp,Ý]
      show _=IB out++(nF f::WM fs)
      rw [<- e3];rfl
theorem Af6 {l:List Ai}(hw:∀ f∈l,WfF f)(ht:∀ t∈Gp l,HS t)(c:Prop)(hc:c->SL l 1/\Ig l<=2000/\(E0 (Gp l)).size<=65536) :
 ∃ m q,Ev (fun n=>Dk n (E0 (Gp l))) (m,q)/\MK m/\(q.E≠0/\¬c∨q=⟨0,0⟩/\IB m=WM l):=by
 obtain⟨m,q,x,h1,h2,fm,_,_⟩:=Zz (E0 (Gp l))
 refine⟨m,q,h1,fm,?_⟩
 by_cases hs:65536<(E0 (Gp l)).size
 . refine .inl ⟨?_,fun q=>by have:=(hc q).2.2;omega⟩
   obtain⟨n,hn⟩:=h2.get
   unfold FL JE at hn
   rw [Ad5 hs] at hn
   have:=ü (fun r:Db=>r.P.E) (Ac hn)
   have:(2:Int)=q.E:=this
   omega
 . obtain⟨l0,t1,t2⟩:=YA ht
   have hM:=ZI (by omega) t1
   have hl:(Gp l).length=(l0.map N4).length:=by have:=ü List.length t2;simpa using this.symm
   have e:(l0++[Wa (E0 (Gp l)).data.toList.length]).map N4=l0.map N4++[N4 (Wa (E0 (Gp l)).data.toList.length)]:=by simp
   have hH:Has ((l0++[Wa (E0 (Gp l)).data.toList.length]).map N4) 0 (Gp l):=Abf (pre:=[]) (r:=[N4 (Wa (E0 (Gp l)).data.toList.length)]) t2 (by rw [e];rfl)
   have hu:gi ((l0++[Wa (E0 (Gp l)).data.toList.length]).map N4) (0+((Gp l).length:Int))=some (N4 (Wa (E0 (Gp l)).data.toList.length)):=by
    rw [e];exact Ahb _ hl
   obtain⟨N1,h3⟩:=ZH (c:=c) (P:=⟨0,0⟩) hM l [] 0 0 _ hw (by decide) (by decide) (by decide) (fun q=>⟨(hc q).1,by have:=(hc q).2.1;omega⟩) hH hu rfl
   obtain⟨N2,h2⟩:=h2
   have h2:FL (max N1 N2) (E0 (Gp l))=some ⟨m,x,q⟩:=h2 _ (Nat.le_max_right _ _)
   have hT:JE (E0 (Gp l))=some ⟨(l0++[Wa (E0 (Gp l)).data.toList.length]).map N4,⟨0,0⟩⟩:=by
    unfold JE FN
    rw [È hs,t1]
   unfold FL at h2
   rw [hT] at h2
   simp only [Á,ê,Ä] at h2
   obtain⟨y,hy,h2⟩:=Ad h2
   rcases h3 _ (Nat.le_max_left _ _) y hy with⟨r,rfl,r1,r2⟩|⟨o,rfl,ho⟩
   . have h2:r=⟨m,x,q⟩:=Ac h2
     refine .inl ⟨?_,r2⟩
     rw [h2] at r1
     have r1:q.E=2:=r1
     omega
   . have h2:=Ac h2
     refine .inr ⟨(ü Db.P h2).symm,?_⟩
     have e:o=m:=ü Db.L h2
     rw [<- e,ho];rfl
theorem XV:∀ l:List Ai,(WM l).length=l.length
 | []=>rfl
 |x::l=>by show (WM l).length+1=_;rw [XV l];rfl
end Go.Sp
namespace Go.Sp
open Go
theorem Mn:∀ (N:Nat) (d:List UInt8),d.length=N->(∀ c∈d,Lx.isDigit c=true)->Lx.numVal d<10 ^ N
 |0,d,h,_=>by
  obtain rfl:=ä h
  decide
 |N+1,d,h,hd=>by
  have hne:d≠[]:=by rintro rfl;simp at h
  have e:=Į hne
  have ih:=Mn N d.dropLast (by rw [List.length_dropLast];omega) fun c hc=>hd c (by rw [<- e];exact List.mem_append.2 (.inl hc))
  rw [<- e,Lx.numVal_snoc]
  have:=Lx.digit_bounds (hd _ (List.getLast_mem hne))
  rw [Nat.pow_succ]
  omega
theorem Oo:∀ (n:Nat) (r b:List UInt8),r.length<=n->∀ {s t:List UInt8} {k v:Nat},Lx.text b r=.ok k s v t->b.all Ib=true->s.all Ib=true/\s.length<=200/\v=0
 |0,r,b,h,s,t,k,v,he,hb=>by
  obtain rfl:=ä (Nat.le_zero.1 h)
  unfold Lx.text at he
  split at he<;>cases he
 |n+1,[],b,h,s,t,k,v,he,hb=>by
  unfold Lx.text at he
  split at he<;>cases he
 |n+1,c::r,b,h,s,t,k,v,he,hb=>by
  rw [Lx.text.eq_def] at he
  simp only at he
  simp only [Æ] at h
  split at he
  . cases he
  rename_i h200
  split at he
  . cases he;exact⟨hb,by omega,rfl⟩
  split at he
  . split at he
    . cases he
    . rename_i d r'
      split at he
      . cases he
      . rename_i hp
        refine Oo n r' (b++[Lx.pair d]) (by simp only [Æ] at h;omega) he ?_
        rw [List.all_append,hb]
        unfold Lx.pair at hp ⊢
        split
        . rename_i q;rcases q with rfl|rfl<;>rfl
        . rename_i q
          rw [È q] at hp
          split
          . rfl
          . rename_i q2;rw [È q2] at hp;exact absurd rfl hp
  . split at he
    . cases he
    . rename_i h32
      refine Oo n r (b++[c]) (by omega) he ?_
      rw [List.all_append,hb]
      have:Ib c=true:=by
       unfold Ib
       rw [Ĝ,Ĝ] at h32
       have h1:decide (32<=c)=true:=by rw [Í,Ğ];omega
       have h2:decide (c<=126)=true:=by rw [Í,Ğ];omega
       rw [h1,h2];simp
      simp [this]
theorem ZJ {r s u:List UInt8}{k v:Nat}(h:Lx.tok r=.ok k s v u):(k=1->BQ ⟨⟨s⟩⟩=true)/\(k=2->Hl (v:Int)=true)/\(k=3->H7 ⟨⟨s⟩⟩=true)/\(k≠2->v=0)/\(k=4->s.length<=2):=by
 cases r with
 |nil=>unfold Lx.tok at h;cases h
 |cons c r =>
  unfold Lx.tok at h
  simp only at h
  by_cases h1:Lx.isLetter c=true
  . rw [Ê h1] at h
    obtain⟨rfl,rfl,e,hw,ht,hl⟩:=Lx.name_parts h
    refine⟨fun _=>?_,(fun h=>by cases h),(fun h=>by cases h),fun _=>rfl,(fun h=>by cases h)⟩
    unfold BQ
    cases s with
    |nil =>
     exfalso
     rw [ö] at e
     rw [<- e] at ht
     have ht:Lx.isWord c=false:=ht
     unfold Lx.isWord at ht
     rw [h1] at ht;cases ht
    |cons d s =>
     have hd:c=d:=(İ e).1
     subst hd
     have h2:decide (0<(⟨⟨c::s⟩⟩:Â).size/\(⟨⟨c::s⟩⟩:Â).size<=32)=true:=by
      rw [Í]
      show 0<(c::s).length/\(c::s).length<=32
      exact⟨by simp,hl⟩
     rw [h2,ė,Ã]
     exact⟨h1,List.all_eq_true.2 hw⟩
  rw [È h1] at h
  by_cases h2:Lx.isDigit c=true
  . rw [Ê h2] at h
    obtain⟨d,rfl,rfl,rfl,_,hd,_,_,hl,_⟩:=Lx.number_parts h
    refine⟨(fun h=>by cases h),fun _=>?_,(fun h=>by cases h),fun h=>absurd rfl h,(fun h=>by cases h)⟩
    have:=Mn _ d rfl hd
    have h15:10 ^ d.length<=10 ^ 15:=Nat.pow_le_pow_right (by decide) hl
    unfold Hl
    rw [Í]
    have e15:(10:Nat) ^ 15=1000000000000000:=by decide
    omega
  rw [È h2] at h
  by_cases h3:c=34
  . rw [Ê h3] at h
    obtain⟨body,rfl,_⟩:=Lx.text_parts _ r [] (Õ _) h
    obtain⟨g1,g2,rfl⟩:=Oo _ r [] (Õ _) h rfl
    refine⟨(fun h=>by cases h),(fun h=>by cases h),fun _=>?_,fun _=>rfl,(fun h=>by cases h)⟩
    unfold H7
    rw [Ã,Í]
    exact⟨g2,g1⟩
  . rw [È h3] at h
    obtain⟨rfl,rfl,_,hs⟩:=Lx.sign_parts h
    refine⟨(fun h=>by cases h),(fun h=>by cases h),(fun h=>by cases h),fun _=>rfl,fun _=>?_⟩
    rcases hs with hs|⟨c,rfl,_⟩
    . rw [Lx.long_len hs];exact Õ _
    . simp
theorem V8:∀ ws:List (List UInt8),(Lx.joinSp ws).length<=(ws.map fun w=>w.length+1).sum
 | []=>Õ _
 | [w]=>by show w.length<=w.length+1+0;omega
 |w::v::r=>by
  have ih:=V8 (v::r)
  show (w++32::Lx.joinSp (v::r)).length<=(w.length+1)+((v::r).map fun w=>w.length+1).sum
  rw [Ç,Æ];omega
theorem YB (l:List Ab):(E0 l).size<=twl l:=by
 show (Lib.join (l.flatMap F7) [32]).length<=_
 rw [TD]
 refine Nat.le_trans (V8 _) ?_
 have one:∀ t:Ab,((F7 t).map fun w=>w.length+1).sum<=tw t:=by
  intro t
  unfold tw F7
  split
  . simp
  split
  . simp
  split
  . simp
  . simp
 induction l with
 |nil=>exact Õ _
 |cons t l ih =>
  rw [ę,Ě,List.sum_append]
  have:=one t
  show _<=tw t+twl l
  omega
theorem Sn:∀ l:List UInt8,(Lx.quoted l).length<=2*l.length
 | []=>Õ _
 |c::l=>by
  have h1:=Sn l
  unfold Lx.quoted at h1 ⊢
  rw [ę,Ç,Æ]
  have:(if c=34∨c=92 then [92,c] else if c=10 then [92,110] else [c]).length<=2:=by
   split
   . exact Õ _
   . split<;>simp
  omega
theorem UI {t:Ab}(h:HS t):tw t<=1000/\0<=t.N/\t.N<=999999999999999/\(t.Kind=3->t.S.size<=200):=by
 obtain⟨y,⟨r,u,hr⟩,e1,e2,e3⟩:=h
 obtain⟨g1,g2,g3,g4,g5⟩:=ZJ hr
 obtain⟨_,_,_,k1,k4⟩:=Lx.tok_parts hr
 have hw:=X9 (t:=t) ⟨r,u,hr⟩ e1 e2 e3
 have hN:t.N<=999999999999999:=by
  by_cases q:y.kind=2
  . have:=g2 q
    unfold Hl at this
    simp only [Í] at this
    omega
  . have:=g4 q;omega
 refine⟨?_,by omega,hN,fun h=>?_⟩
 . unfold tw
   rw [hw]
   show (y.word++[]).length+1<=1000
   rw [ç]
   unfold Lx.Tok.word Lx.word
   by_cases q1:y.kind=1
   . rw [Ê (.inl q1)]
     have:=JJ (g1 q1)
     have:y.s.length<=32:=this
     omega
   by_cases q4:y.kind=4
   . rw [Ê (.inr q4)]
     have:=g5 q4;omega
   rw [È (by omega)]
   by_cases q2:y.kind=2
   . rw [Ê q2]
     have:=(SR y.n y.n (Õ _)).2.2.2.2 15 (by decide) (by
      have e15:(10:Nat) ^ 15=1000000000000000:=by decide
      omega)
     omega
   rw [È q2,Ê (by omega)]
   have:=Mh (g3 (by omega))
   have:y.s.length<=200:=this
   have:=Sn y.s
   simp only [Æ,Ç,Î]
   omega
 . have q:y.kind=3:=by omega
   rw [e2];exact Mh (g3 q)
theorem WT {l:List Ab}(h:∀ t∈l,HS t)(h3:∀ t∈l,t.Kind≠3)(hl:l.length<=900000):NK l=some (E0 l):=by
 have hs:=YB l
 have ht:∀ l:List Ab,(∀ t∈l,HS t)->twl l<=1000*l.length:=by
  intro l
  induction l with
  |nil=>intro _;exact Õ _
  |cons t l ih =>
   intro h
   have:=ih fun t ht=>h t (.tail _ ht)
   have:=(UI (h t (.head _))).1
   show tw t+twl l<=_
   rw [Æ];omega
 have:=ht l h
 unfold NK
 rw [Ê]
 refine⟨by omega,fun t ht=>?_,by omega,fun t ht=>?_⟩
 . have:=UI (h t ht);omega
 . exact h3 t ht
end Go.Sp
namespace Go.Sp
open Go
mutual
theorem Aah:∀ x:Aa,Cz (ET x)=Cz x/\GG (ET x)=GG x/\(ET x).Op=x.Op
 |.mk op n s l p=>by
  obtain⟨h1,h2⟩:=Aag l
  refine⟨?_,?_,rfl⟩
  . show Uz op n s (FV (JX l))=Uz op n s (FV l)
    rw [h1]
  . show M7 op n s (J6 (JX l))=M7 op n s (J6 l)
    rw [h2]
theorem Aag:∀ l:List Aa,FV (JX l)=FV l/\J6 (JX l)=J6 l
 | []=>⟨rfl,rfl⟩
 |x::l=>by
  obtain⟨h1,h2,h3⟩:=Aah x
  obtain⟨h4,h5⟩:=Aag l
  constructor
  . show (lvl (ET x).Op,Cz (ET x))::FV (JX l)=(lvl x.Op,Cz x)::FV l
    rw [h1,h3,h4]
  . show GG (ET x)::J6 (JX l)=GG x::J6 l
    rw [h2,h5]
end
mutual
theorem Afi:∀ x:Aa,Cz (nE x)=Cz x/\GG (nE x)=GG x/\(nE x).Op=x.Op
 |.mk op n s l p=>by
  obtain⟨h1,h2⟩:=Afh l
  simp only [nE]
  by_cases q1:op=1
  . subst q1;exact⟨rfl,rfl,rfl⟩
  rw [È q1]
  by_cases q2:op=2
  . subst q2;exact⟨rfl,rfl,rfl⟩
  rw [È q2]
  by_cases q3:op=3
  . subst q3;exact⟨rfl,rfl,rfl⟩
  rw [È q3]
  by_cases q4:op=4
  . subst q4
    refine⟨?_,?_,rfl⟩
    . show Uz 4 0 s (FV (nL l))=Uz 4 n s (FV l)
      rw [h1];rfl
    . show M7 4 0 s (J6 (nL l))=M7 4 n s (J6 l)
      rw [h2];rfl
  rw [È q4]
  refine⟨?_,?_,rfl⟩
  . show Uz op 0 ⟨#[]⟩ (FV (nL l))=Uz op n s (FV l)
    rw [h1]
    unfold Uz
    rw [È q1,È q2,È q3,È q4,È q1,È q2,È q3,È q4]
  . show M7 op 0 ⟨#[]⟩ (J6 (nL l))=M7 op n s (J6 l)
    rw [h2]
    unfold M7
    rw [È q1,È q2,È q3,È q4,È q1,È q2,È q3,È q4]
theorem Afh:∀ l:List Aa,FV (nL l)=FV l/\J6 (nL l)=J6 l
 | []=>⟨rfl,rfl⟩
 |x::l=>by
  obtain⟨h1,h2,h3⟩:=Afi x
  obtain⟨h4,h5⟩:=Afh l
  constructor
  . show (lvl (nE x).Op,Cz (nE x))::FV (nL l)=(lvl x.Op,Cz x)::FV l
    rw [h1,h3,h4]
  . show GG (nE x)::J6 (nL l)=GG x::J6 l
    rw [h2,h5]
end
theorem WC {x y:Aa}(e:ET y=nE x):Cz y=Cz x/\GG y=GG x:=by
 obtain⟨a1,a2,_⟩:=Aah y
 obtain⟨b1,b2,_⟩:=Afi x
 rw [e] at a1 a2
 exact⟨a1.symm.trans b1,a2.symm.trans b2⟩
theorem Q6:∀ {l:List Ai},JG l=true->∀ f∈l,Hx f=true
 | [],_,f,hf=>by cases hf
 |x::l,h,f,hf=>by
  have h:(Hx x&&JG l)=true:=h
  rw [Ã] at h
  rcases List.mem_cons.1 hf with rfl|hf
  . exact h.1
  . exact Q6 h.2 f hf
theorem Z0 {f:Ai}(h:JW f):Hx f=true->Ae9 f:=by
 induction h with
 |mk f ha hx hb _ ih =>
  obtain⟨w,l,b,p⟩:=f
  intro ho
  have ho:(BQ w&&(l.all Q7&&JG b))=true:=ho
  rw [Ã,Ã,Ü] at ho
  obtain⟨o1,o2,o3⟩:=ho
  simp only at ha hb
  have ob:=Q6 o3
  refine .mk w l b p (.inl o1) (by omega) (fun a hal=>⟨.inl (o2 a hal),fun h5=>Zh (hx a hal) ?_⟩) (by omega) fun x hxb=>ih x hxb (ob x hxb)
  have:=o2 a hal
  unfold Q7 at this
  rw [h5] at this
  exact this
end Go.Sp
namespace Go.Sp
open Go
set_option maxRecDepth 100000
mutual
theorem Ya:∀ (e:Aa) (n:Int),0<=GH e n->GH e n+(P4 e:Int)=n
 |.mk op v s kids p,n,h=>by
  rw [GH] at h ⊢
  have:=V3 kids (n-1) h
  rw [P4];omega
theorem V3:∀ (l:List Aa) (n:Int),0<=Fw l n->Fw l n+(Tj l:Int)=n
 | [],n,h=>by rw [Fw,Tj];omega
 |e::l,n,h=>by
  rw [Fw] at h ⊢
  by_cases c:n<0
  . rw [Ê c] at h;omega
  rw [È c] at h ⊢
  have h1:=Ms l (GH e n)
  have h2:=V3 l _ h
  have h3:=Ya e n (by omega)
  rw [Tj];omega
end
def J2 (l:List Ab):Prop:=∀ t∈l,t.Kind≠3
theorem J2.app {a b:List Ab}(h:J2 a)(k:J2 b):J2 (a++b):=fun t ht=>(List.mem_append.1 ht).elim (h t) (k t)
theorem J2.cons {s:Â}{b:List Ab}(k:J2 b):J2 (tS s::b):=fun t ht=>(List.mem_cons.1 ht).elim (fun e=>by rw [e];show (4:Int)≠3;decide) (k t)
theorem J2.nil:J2 []:=fun t ht=>by cases ht
theorem J2.wrp {need:Int}{p:Int×List Ab}(h:J2 p.2):J2 (wrp need p):=by
 unfold Go.Sp.wrp
 split
 . exact h
 . exact .cons (h.app (.cons .nil))
theorem J2.sepR:∀ {l:List (Int×List Ab)},(∀ p∈l,J2 p.2)->J2 (sepR l)
 | [],_=>.nil
 |p::r,h=>.cons ((J2.wrp (h p (by simp))).app (J2.sepR fun q hq=>h q (ù _ hq)))
theorem J2.sep:∀ {l:List (Int×List Ab)},(∀ p∈l,J2 p.2)->J2 (sep l)
 | [],_=>.nil
 |p::r,h=>(J2.wrp (h p (by simp))).app (J2.sepR fun q hq=>h q (ù _ hq))
theorem Aay {s:Â}(h:(C5 CC s).2=true):BQ s=true:=by
 unfold CC C5 C5 C5 C5 C5 at h
 split at h
 . rename_i e;rw [e];decide +kernel
 split at h
 . rename_i e;rw [e];decide +kernel
 split at h
 . rename_i e;rw [e];decide +kernel
 split at h
 . rename_i e;rw [e];decide +kernel
 . cases h
theorem Ach:∀ o∈Gg,o.op=4->BQ o.name=true:=by decide +kernel
theorem J2.c1 {k n p:Int}{s:Â}{b:List Ab}(h:k≠3)(hb:J2 b):J2 (⟨k,p,s,n⟩::b):=fun t ht=>(List.mem_cons.1 ht).elim (fun e=>by rw [e];exact h) (hb t)
theorem Adq {op n:Int}{s:Â}{ks:List (Int×List Ab)}(h2:op≠2)(h:∀ p∈ks,J2 p.2):J2 (Uz op n s ks):=by
 unfold Uz
 split
 . exact .c1 (by decide) .nil
 split
 . exact .c1 (by decide) .nil
 split
 . exact .c1 (by decide) (.cons ((J2.sep h).app (.cons .nil)))
 split
 . split
   . exact .cons (.wrp (h _ (by simp)))
   . exact .nil
 split
 . split
   . exact .cons (.wrp (h _ (by simp)))
   . exact .nil
 split
 . split
   . exact (J2.wrp (h _ (by simp))).app (.cons ((J2.wrp (h _ (by simp))).app (.cons (.wrp (h _ (by simp))))))
   . exact .nil
 split
 . exact (J2.wrp (h _ (by simp))).app (.cons (.wrp (h _ (by simp))))
 . exact .nil
theorem Sb:∀ (l:List Aa) (o),CA l=.inr o->o.2.2.E≠0
 | [],o,h=>by rw [CA] at h;cases h
 |e::l,o,h=>by
  rw [CA] at h
  split at h
  . rename_i c;cases h;exact c
  . split at h
    . cases h
    . rename_i o' e';cases h;exact Sb l _ e'
def Ac3 (op n:Int)(s:Â)(ts:List Int)(t:Int):Prop :=
 (op=1/\(0<=n/\n<=999999999999999)/\t=1)∨(op=3/\(C5 CC s).2=true/\t=(C5 CC s).1)∨(4<=op/\∃ o,pick op s ts Gg=some o/\t=o.kind)
theorem found {op n p:Int}{s:Â}{kids:List Aa}(h:(Bw ⟨op,n,s,kids,p⟩).2.2.E=0) :
 ¬ (op<1∨20<op∨(0<=arity op/\(kids.length:Int)≠arity op))/\∃ ts,CA kids=.inl ts/\Ac3 op n s ts (Bw ⟨op,n,s,kids,p⟩).1:=by
 rw [Bw] at h ⊢
 split at h
 . exact absurd (show (1:Int)=0 from h) (by decide)
 rename_i c
 rw [È c]
 refine⟨c,?_⟩
 split at h
 . exact absurd h (Sb _ _ (by assumption))
 rename_i ts hts
 rw [hts]
 refine⟨ts,rfl,?_⟩
 split at h
 . rename_i q1
   split at h
   . exact absurd (show (1:Int)=0 from h) (by decide)
   rename_i q
   simp only [Ê q1,È q]
   exact .inl ⟨q1,by omega,rfl⟩
 rename_i q1
 split at h
 . exact absurd (show (7:Int)=0 from h) (by decide)
 rename_i q2
 split at h
 . rename_i q3
   split at h
   . rename_i q
     simp only [È q1,È q2,Ê q3,Ê q]
     exact .inr (.inl ⟨q3,q,rfl⟩)
   . exact absurd (show (6:Int)=0 from h) (by decide)
 rename_i q3
 simp only [È q1,È q2,È q3]
 have hop:4<=op:=by omega
 unfold C4 at h ⊢
 cases hp:pick op s ts Gg with
 |some o=>exact .inr (.inr ⟨hop,o,hp,rfl⟩)
 |none =>
  rw [hp] at h
  simp only at h
  split at h
  . exact absurd (show (6:Int)=0 from h) (by decide)
  split at h
  . exact absurd (show (1:Int)=0 from h) (by decide)
  . exact absurd (show (7:Int)=0 from h) (by decide)
theorem NS {op n p t:Int}{s:Â}{kids:List Aa}{ts:List Int}(c:¬ (op<1∨20<op∨(0<=arity op/\(kids.length:Int)≠arity op)))(hk:CA kids=.inl ts)(h:Ac3 op n s ts t) :
 (Bw ⟨op,n,s,kids,p⟩).2.2.E=0/\(Bw ⟨op,n,s,kids,p⟩).1=t:=by
 rw [Bw,È c,hk]
 rcases h with⟨rfl,h,rfl⟩|⟨rfl,h,rfl⟩|⟨h4,o,h,rfl⟩
 . simp only [ë,È (show ¬ (n<0∨999999999999999<n) by omega)];exact⟨trivial,trivial⟩
 . simp only [È (show ¬ (3:Int)=1 by decide),È (show ¬ (3:Int)=2 by decide),ë,Ê h];exact⟨trivial,trivial⟩
 . simp only [È (show ¬ op=1 by omega),È (show ¬ op=2 by omega),È (show ¬ op=3 by omega)]
   unfold C4
   rw [h]
   exact⟨rfl,rfl⟩
theorem WE {op:Int}{s:Â}{ts:List Int}{o:Af}(h:pick op s ts Gg=some o):o∈Gg/\o.op=op/\(op=4->o.name=s):=by
 unfold pick at h
 have h1:=List.mem_of_find?_eq_some h
 have h2:=List.find?_some h
 unfold hit at h2
 simp only [Ã,ó,õ,č,ñ,Í] at h2
 obtain⟨⟨h3,h4⟩,_⟩:=h2
 exact⟨h1,h3,fun h=>h4.resolve_left fun k=>k (by omega)⟩
theorem Af9 {op:Int}(h:op≠4)(s s':Â)(ts:List Int):pick op s ts Gg=pick op s' ts Gg:=by
 unfold pick
 congr 1
 funext o
 unfold hit
 by_cases c:o.op=op
 . rw [show (o.op == 4)=false by rw [ñ];omega];rfl
 . rw [show (o.op == op)=false by rw [ñ];exact c];rfl
theorem Ajp:∀ k:Fin 13,(RW (7+(k.val:Int)) GF).isSome=true:=by decide
theorem Ahk {op:Int}(h:7<=op/\op<=19):(RW op GF).isSome=true:=by
 have:=Ajp ⟨(op-7).toNat,by omega⟩
 simp only at this
 rwa [Int.toNat_of_nonneg (by omega),show 7+(op-7)=op by omega] at this
mutual
theorem Yn:∀ e:Aa,(Bw e).2.2.E=0->GG e=true/\J2 (Cz e)
 |.mk op n s kids p,h=>by
  obtain⟨c,ts,hts,hr⟩:=found h
  obtain⟨k1,k2⟩:=UA kids ts hts
  have hl:=Io kids
  have h2:op≠2:=by
   rcases hr with⟨rfl,_⟩|⟨rfl,_⟩|⟨_,_⟩<;>omega
  refine⟨?_,by rw [Cz];exact Adq h2 k2⟩
  rw [GG]
  unfold M7
  rcases hr with⟨rfl,h,_⟩|⟨rfl,h,_⟩|⟨h4,o,h,_⟩
  . rw [Ê rfl];unfold Hl;rw [Ð h]
  . rw [È (by decide),È (by decide),Ê rfl];exact Aay h
  . rw [È (by omega),È (by omega),È (by omega),k1]
    split
    . rename_i q
      obtain⟨o1,o2,o3⟩:=WE h
      rw [<- o3 q,Ach o o1 (o2.trans q)];rfl
    rename_i q4
    unfold arity at c
    split
    . rename_i q
      rw [È (by omega),Ê (by omega)] at c
      rw [hl,show kids.length=1 by omega];rfl
    split
    . rename_i q
      rw [È (by omega),Ê (by omega)] at c
      rw [hl,show kids.length=1 by omega];rfl
    split
    . rename_i q
      rw [È (by omega),È (by omega),Ê (by omega)] at c
      rw [hl,show kids.length=3 by omega];rfl
    . rw [È (by omega),È (by omega),È (by omega),È (by omega)] at c
      rw [hl,show kids.length=2 by omega,Ahk (by omega)];rfl
theorem UA:∀ (l:List Aa) (ts:List Int),CA l=.inl ts->(J6 l).all id=true/\∀ q∈FV l,J2 q.2
 | [],ts,h=>⟨rfl,fun q hq=>by cases hq⟩
 |e::l,ts,h=>by
  rw [CA] at h
  split at h
  . cases h
  rename_i c
  split at h
  . rename_i ts' hts
    obtain⟨e1,e2⟩:=Yn e (by omega)
    obtain⟨l1,l2⟩:=UA l ts' hts
    refine⟨?_,fun q hq=>?_⟩
    . show (GG e&&(J6 l).all id)=true
      rw [e1,l1];rfl
    . rcases List.mem_cons.1 (show q∈(lvl e.Op,Cz e)::FV l from hq) with rfl|hq
      . exact e2
      . exact l2 q hq
  . cases h
end
theorem Gt {l l':List Aa}(h:JX l'=nL l):l'.length=l.length:=by
 have:=ü List.length h
 rwa [XH,Aa0] at this
mutual
theorem TL:∀ e e':Aa,ET e'=nE e->(Bw e).2.2.E=0->(Bw e').2.2.E=0/\(Bw e').1=(Bw e).1
 |.mk op n s kids p,⟨op',n',s',kids',p'⟩,e,h=>by
  obtain⟨c,ts,hts,hr⟩:=found h
  rw [ET,nE] at e
  rcases hr with⟨rfl,h,ht⟩|⟨rfl,h,ht⟩|⟨h4,o,h,ht⟩
  . rw [Ê rfl] at e
    injection e with e1 e2 e3 e4
    have hk:=Gt (l:=[]) e4
    obtain rfl:=List.length_eq_zero_iff.1 hk
    subst e1 e2
    exact NS (by rw [show arity 1=0 by decide];simp) (by rw [CA]) (.inl ⟨rfl,h,ht⟩)
  . rw [È (by decide),È (by decide),Ê rfl] at e
    injection e with e1 e2 e3 e4
    have hk:=Gt (l:=[]) e4
    obtain rfl:=List.length_eq_zero_iff.1 hk
    subst e1 e3
    exact NS (by rw [show arity 3=0 by decide];simp) (by rw [CA]) (.inr (.inl ⟨rfl,h,ht⟩))
  . rw [È (by omega),È (by omega),È (by omega)] at e
    by_cases q4:op=4
    . rw [Ê q4] at e
      injection e with e1 e2 e3 e4
      subst e1 e3 q4
      exact NS (by rw [Gt e4];exact c) (Qj kids kids' e4 ts hts) (.inr (.inr ⟨h4,o,h,ht⟩))
    . rw [È q4] at e
      injection e with e1 e2 e3 e4
      subst e1
      exact NS (by rw [Gt e4];exact c) (Qj kids kids' e4 ts hts) (.inr (.inr ⟨h4,o,by rw [Af9 q4 s' s];exact h,ht⟩))
theorem Qj:∀ l l':List Aa,JX l'=nL l->∀ ts,CA l=.inl ts->CA l'=.inl ts
 | [],l',e,ts,h=>by
  have hk:=Gt (l:=[]) e
  obtain rfl:=List.length_eq_zero_iff.1 hk
  exact h
 |x::l,[],e,ts,h=>by have hk:=Gt e;simp at hk
 |x::l,y::l',e,ts,h=>by
  rw [JX,nL] at e
  injection e with e1 e2
  rw [CA] at h ⊢
  split at h
  . cases h
  rename_i c
  obtain⟨f1,f2⟩:=TL x y e1 (by omega)
  rw [È (by omega),f2]
  split at h
  . rename_i ts' hts
    rw [Qj l l' e2 ts' hts]
    exact h
  . cases h
end
end Go.Sp
namespace Go.Sp
open Go
def ES (c:Int):Bool:=decide ((97<=c/\c<=122)∨(65<=c/\c<=90)∨c=95)
def Fx (c:Int):Bool:=decide (48<=c/\c<=57)
def Ma (s:Â):List Int:=s.data.toList.map fun b=>(b.toNat:Int)
def K1 (s:Â):Bool:=decide (1<=s.size/\s.size<=32)&&(Ma s).all (fun c=>ES c||Fx c)&&!Fx ((Ma s).getD 0 0)
theorem R1 (s:Â):(Ma s).length=s.size:=by
 unfold Ma
 rw [Ó];rfl
theorem Ais {s:Â}{k:Nat}{x:Int}{r:List Int}(h:(Ma s).drop k=x::r):gb s (k:Int)=some x:=by
 obtain⟨_,h2⟩:=He h
 rw [R1] at h2
 unfold gb
 rw [Ê (by omega)]
 have h3:=RM h
 unfold gi at h3
 rw [Ê (by omega)] at h3
 unfold Ma at h3
 rw [â] at h3
 rw [Ć] at h3 ⊢
 cases e:s.data.toList[k]? with
 |none=>rw [e] at h3;cases h3
 |some b =>
  rw [e] at h3
  rw [List.getD_eq_getElem?_getD,e]
  exact h3
theorem WZ (c:Int):DG c=some (!(ES c||Fx c)):=by
 unfold DG ES Fx
 by_cases h1:97<=c<;>by_cases h2:c<=122<;>by_cases h3:65<=c<;>by_cases h4:c<=90<;>by_cases h5:c=95<;>by_cases h6:48<=c<;>by_cases h7:c<=57<;>(have h5b:=h5;rw [<- ó (a:=c) (b:=95)] at h5b;simp [h1,h2,h3,h4,h5,h6,h7,h5b])
theorem SC (l:List Int)(hl:l.length<=1000000):∀ (r:List Int) (k:Nat),l.drop k=r->k<=l.length->∃ v,Ev (fun n=>AO n l (k:Int)) v/\(match v with|.inl _=>r.all (fun c=>ES c||Fx c)=true|.inr i=>0<=i/\r.all (fun c=>ES c||Fx c)=false)
 | [],k,hr,hk=>by
  have he:=LY hr hk
  refine⟨.inl (),Ev.step (f:=fun _=>some (.inl ())) (fun n=>?_) Ev.pure,rfl⟩
  rw [E1,show (decide ((k:Int)<(l.length:Int)))=false by rw [Ö];omega];rfl
 |x::r,k,hr,hk=>by
  obtain⟨h1,h2⟩:=He hr
  have e:∀ n,AO (n+1) l (k:Int)=bif !(ES x||Fx x) then some (.inr (k:Int)) else AO n l ((k+1:Nat):Int):=fun n=>by
   rw [E1,RE h2,É,RM hr,Á,WZ,Á,OR (by omega)]
  cases hx:(ES x||Fx x) with
  |false =>
   refine⟨.inr (k:Int),Ev.step e ?_,by omega,by rw [ĉ,hx];rfl⟩
   rw [hx];exact Ev.pure
  |true =>
   obtain⟨v,k1,k2⟩:=SC l hl r (k+1) h1 (by omega)
   refine⟨v,Ev.step e ?_,?_⟩
   . rw [hx];exact k1
   . cases v with
     |inl _=>simp only at k2 ⊢;rw [ĉ,hx,k2];rfl
     |inr i=>simp only at k2 ⊢;rw [ĉ,hx,k2.2];exact⟨k2.1,rfl⟩
theorem Wc (l:List Int)(hl:l.length<=1000000):Ev (fun n=>Cx n l) (!(l.all fun c=>ES c||Fx c)):=by
 obtain⟨v,h1,h2⟩:=SC l hl l 0 rfl (ú _)
 unfold Cx Dr
 cases v with
 |inl _ =>
  have h2:l.all (fun c=>ES c||Fx c)=true:=h2
  rw [h2]
  exact Ev.bind (Ev.bind h1 Ev.pure) Ev.pure
 |inr i =>
  have h2:0<=i/\l.all (fun c=>ES c||Fx c)=false:=h2
  rw [h2.2]
  refine Ev.bind (Ev.bind h1 Ev.pure) ?_
  rw [Ð h2.1];exact Ev.pure
theorem YX (s:Â):Ev (fun n=>ED n s) (K1 s):=by
 unfold ED K1
 by_cases h0:s.size=0
 . have:s=⟨#[]⟩:=by
    cases s with
    |mk d=>congr 1;exact ĩ h0
   rw [Ð this,Ñ (show ¬ (1<=s.size/\s.size<=32) by omega)]
   exact Ev.pure
 have hne:¬ s=⟨#[]⟩:=fun e=>h0 (by rw [e];rfl)
 rw [Ñ hne]
 simp only [Ä]
 by_cases h32:s.size<=32
 . rw [Ñ (show ¬ (32:Int)<(s.size:Int) by omega),Ð (show 1<=s.size/\s.size<=32 by omega)]
   simp only [Ä]
   have hl:=R1 s
   cases hb:Ma s with
   |nil=>rw [hb] at hl;simp at hl;omega
   |cons x r =>
    have hg:gb s 0=some x:=Ais (k:=0) hb
    have hd:(bif (decide (48<=x)) then some (decide (x<=57)) else some false:Option Bool)=some (Fx x):=by
     unfold Fx
     by_cases a1:48<=x
     . rw [Ð a1,É];congr 1;rw [decide_eq_decide];omega
     . rw [Ñ a1,Ä];congr 1;symm;rw [Ö];omega
    simp only [hg,Á,hd]
    have hgb:QW s=some (x::r):=by
     unfold QW
     rw [Ê (by omega)]
     exact ü some hb
    simp only [List.getD_cons_zero,ė]
    cases hx:Fx x with
    |true=>simp only [É,à,Bool.and_false];exact Ev.pure
    |false =>
     simp only [Ä,hgb,Á,é,ē]
     refine Ev.bind (Wc (x::r) (by rw [<- hb,hl];omega)) ?_
     rw [Bool.not_not]
     exact Ev.pure
 . rw [Ð (show (32:Int)<(s.size:Int) by omega),Ñ (show ¬ (1<=s.size/\s.size<=32) by omega)]
   exact Ev.pure
end Go.Sp
namespace Go.Sp
open Go
def D9 (l:List Ag)(s:Â):Bool:=l.any fun c=>decide (c.Name=s)
section
variable (c:Â) (c1 c2 c3 c4 c5:Int) (c6:Â) (c7:List Aa) (c8 c9 c10:Int) (c11:Â) (c12:List Aa) (c13 c14 c15:Int) (c16:Â) (c17:List Aa) (c18 c19:Int)
theorem QR (l:List Ag)(hl:l.length<=1000000):∀ (r:List Ag) (k:Nat),l.drop k=r->k<=l.length ->
 ∃ v,Ev (fun n=>AH n l c c1 c2 c3 c4 c5 c6 c7 c8 c9 c10 c11 c12 c13 c14 c15 c16 c17 c18 c19 (k:Int)) v/\(match v with|.inl _=>D9 r c=false|.inr i=>0<=i/\D9 r c=true)
 | [],k,hr,hk=>by
  have he:=LY hr hk
  refine⟨.inl (),Ev.step (f:=fun _=>some (.inl ())) (fun n=>?_) Ev.pure,rfl⟩
  rw [DV,show (decide ((k:Int)<(l.length:Int)))=false by rw [Ö];omega];rfl
 |x::r,k,hr,hk=>by
  obtain⟨h1,h2⟩:=He hr
  have e:∀ n,AH (n+1) l c c1 c2 c3 c4 c5 c6 c7 c8 c9 c10 c11 c12 c13 c14 c15 c16 c17 c18 c19 (k:Int)=bif decide (x.Name=c) then some (.inr (k:Int)) else AH n l c c1 c2 c3 c4 c5 c6 c7 c8 c9 c10 c11 c12 c13 c14 c15 c16 c17 c18 c19 ((k+1:Nat):Int):=fun n=>by
   rw [DV,RE h2,É,RM hr,Á]
   unfold DL
   rw [Á,OR (by omega)]
  have hc:D9 (x::r) c=(decide (x.Name=c)||D9 r c):=by unfold D9;rw [List.any_cons]
  rw [hc]
  cases hx:(decide (x.Name=c)) with
  |true =>
   refine⟨.inr (k:Int),Ev.step e ?_,by omega,rfl⟩
   rw [hx];exact Ev.pure
  |false =>
   obtain⟨v,k1,k2⟩:=QR l hl r (k+1) h1 (by omega)
   refine⟨v,Ev.step e ?_,?_⟩
   . rw [hx];exact k1
   . rw [Bool.false_or];exact k2
theorem Uh (l:List Ag)(hl:l.length<=1000000):Ev (fun n=>B2 n c c1 c2 c3 c4 c5 c6 c7 c8 c9 c10 c11 c12 c13 c14 c15 c16 c17 c18 c19 l) (D9 l c):=by
 obtain⟨v,h1,h2⟩:=QR c c1 c2 c3 c4 c5 c6 c7 c8 c9 c10 c11 c12 c13 c14 c15 c16 c17 c18 c19 l hl l 0 rfl (ú _)
 unfold B2 CU
 cases v with
 |inl _ =>
  have h2:D9 l c=false:=h2
  rw [h2]
  exact Ev.bind (Ev.bind h1 Ev.pure) Ev.pure
 |inr i =>
  have h2:0<=i/\D9 l c=true:=h2
  rw [h2.2]
  refine Ev.bind (Ev.bind h1 Ev.pure) ?_
  rw [Ð h2.1];exact Ev.pure
end
end Go.Sp
namespace Go.Sp
open Go
set_option maxRecDepth 100000
def HN (x:Ag):Bool:=decide (x.Rank<0∨9<x.Rank∨x.Known<0∨41666<x.Known∨(x.Kind<3/\x.Houses≠0)∨(x.Kind=3/\(x.Houses<1∨4095<x.Houses)))
def DU (e:Aa)(t:Int):Int:=if (Bw e).2.2.E≠0 then (Bw e).2.2.E else if (Bw e).1≠t then 7 else 0
def Hp (x:Ag):Int:=if DU x.From 2≠0 then DU x.From 2 else if DU x.To 2≠0 then DU x.To 2 else DU x.When 3
def Dt (l:List Ag)(x:Ag):Int :=
 if K1 x.Name=false then 6 else if D9 l x.Name=true then 9 else if x.Kind<1∨3<x.Kind then 1 else if HN x=true then 3 else Hp x
theorem W8 (x:Ag)(hk:1<=x.Kind/\x.Kind<=3):((bif (decide (x.Rank<0)) then
 some true
 else
  bif (decide (9<x.Rank)) then
   some true
  else
   bif (decide (x.Known<0)) then
    some true
   else
    bif (decide (41666<x.Known)) then
     some true
    else
     bif (!(x.Kind == 3)) then
      bif (x.Houses != 0) then
       some true
      else
       bif (x.Kind == 3) then
        bif (decide (x.Houses<1)) then
         some true
        else
         some (decide (4096<=x.Houses))
       else
        some false
     else
      bif (x.Kind == 3) then
       bif (decide (x.Houses<1)) then
        some true
       else
        some (decide (4096<=x.Houses))
      else
       some false
 ):Option Bool)=some (HN x):=by
 unfold HN
 by_cases h1:x.Rank<0
 . simp [h1]
 by_cases h2:9<x.Rank
 . simp [h1,h2]
 by_cases h3:x.Known<0
 . simp [h1,h2,h3]
 by_cases h4:41666<x.Known
 . simp [h1,h2,h3,h4]
 by_cases h5:x.Kind=3
 . by_cases h6:x.Houses<1
   . simp [h1,h2,h3,h4,h5,h6]
   . have:(4096<=x.Houses)↔(4095<x.Houses):=by omega
     simp [h1,h2,h3,h4,h5,h6,this]
 . have h7:x.Kind<3:=by omega
   have b:(x.Kind == 3)=false:=by simpa using h5
   by_cases h6:x.Houses=0
   . simp [h1,h2,h3,h4,h5,h6,h7,b]
   . have b2:(x.Houses != 0)=true:=by simpa using h6
     simp [h1,h2,h3,h4,h5,h6,h7,b,b2]
theorem Oj {n:Nat}{e:Aa}{t:Int}(hs:Da e=true)(r:Option (Unit ⊕ Int)):((Ha e).bind fun f=>bif (f.2.2.E != 0) then some (.inr f.2.2.E) else bif (f.1 != t) then some (.inr 7) else r)=if DU e t≠0 then some (.inr (DU e t)) else r:=by
 rw [VQ hs,Á]
 unfold DU
 by_cases c:(Bw e).2.2.E=0
 . rw [show ((Bw e).2.2.E != 0)=false by simpa using c,Ä,È (show ¬ (Bw e).2.2.E≠0 by simpa using c)]
   by_cases c2:(Bw e).1=t
   . rw [show ((Bw e).1 != t)=false by simpa using c2,È (show ¬ (Bw e).1≠t by simpa using c2)];rfl
   . rw [show ((Bw e).1 != t)=true by simpa using c2,Ê c2];rfl
 . rw [show ((Bw e).2.2.E != 0)=true by simpa using c,Ê (show (Bw e).2.2.E≠0 from c),Ê (show (Bw e).2.2.E≠0 from c)];rfl
theorem Wu (x:Ag)(hs:Lv x)(n:Nat):AD (n+4) x 0=if Hp x=0 then some (.inl ()) else some (.inr (Hp x)):=by
 obtain⟨s1,s2,s3⟩:=hs
 have e3:AD (n+1) x 3=some (.inl ()):=by rw [DR];rfl
 have e2:AD (n+2) x 2=if DU x.When 3≠0 then some (.inr (DU x.When 3)) else some (.inl ()):=by
  rw [DR,<- e3,<- Oj (n:=n) (t:=3) s3];rfl
 have e1:AD (n+3) x 1=if DU x.To 2≠0 then some (.inr (DU x.To 2)) else AD (n+2) x 2:=by
  rw [DR,<- Oj (n:=n) (t:=2) s2];rfl
 have e0:AD (n+4) x 0=if DU x.From 2≠0 then some (.inr (DU x.From 2)) else AD (n+3) x 1:=by
  rw [DR,<- Oj (n:=n) (t:=2) s1];rfl
 rw [e0,e1,e2]
 unfold Hp
 by_cases a:DU x.From 2=0
 . by_cases b:DU x.To 2=0
   . by_cases c:DU x.When 3=0
     . simp [a,b,c]
     . simp [a,b,c]
   . simp [a,b]
 . simp [a]
end Go.Sp
namespace Go.Sp
open Go
set_option maxRecDepth 100000
def Du (l:List Ag):List Ag->Nat->Int
 | [],_=>0
 |x::r,k=>if Dt (l.take k) x≠0 then Dt (l.take k) x else Du l r (k+1)
def Ia (l:List Ag):Int:=if 40<l.length then 2 else Du l l 0
def Aak (e:Int):Unit ⊕ Int:=if e=0 then .inl () else .inr e
theorem Ajj {l:List Ag}{k:Nat}(h:k<=l.length):Yh l 0 (k:Int)=some (l.take k):=by
 unfold Yh
 rw [Ê (by omega)];simp
theorem YW (x:Ag):((bif (decide (x.Kind<1)) then some true else some (decide (3<x.Kind))):Option Bool)=some (decide (x.Kind<1∨3<x.Kind)):=by
 by_cases h:x.Kind<1
 . simp [h]
 . simp [h]
theorem Ai5 {e:Int}:(if e=0 then (.inl ():Unit ⊕ Int) else .inr e)=Aak e:=rfl
theorem Ve (l:List Ag)(hl:l.length<=40)(hs:∀ c∈l,Lv c):∀ (r:List Ag) (k:Nat),l.drop k=r->k<=l.length->Ev (fun n=>CE n l (k:Int)) (Aak (Du l r k))
 | [],k,hr,hk=>by
  have he:=LY hr hk
  refine Ev.step (f:=fun _=>some (.inl ())) (fun n=>?_) Ev.pure
  rw [Hi,show (decide ((k:Int)<(l.length:Int)))=false by rw [Ö];omega];rfl
 |x::r,k,hr,hk=>by
  obtain⟨h1,h2⟩:=He hr
  have hmem:x∈l:=ā (by rw [hr];simp)
  have ih:=Ve l hl hs r (k+1) h1 (by omega)
  refine Ev.step (fun n=>Hi n l (k:Int)) ?_
  simp only [RE h2,É,RM hr,Á,Ajj hk,YW,OR (show k<4611686018427387904 by omega)]
  rw [Du]
  refine Ev.bind (YX x.Name) ?_
  cases hn:K1 x.Name with
  |false =>
   have:Dt (l.take k) x=6:=by unfold Dt;rw [Ê hn]
   rw [this,Ê (by decide)]
   exact Ev.pure
  |true =>
   simp only [à,Ä]
   refine Ev.bind (Uh _ _ _ _ _ _ _ _ _ _ _ _ _ _ _ _ _ _ _ _ (l.take k) (by rw [List.length_take];omega)) ?_
   cases hm:D9 (l.take k) x.Name with
   |true =>
    have:Dt (l.take k) x=9:=by unfold Dt;rw [È (by rw [hn];simp),Ê hm]
    rw [this,Ê (by decide)]
    exact Ev.pure
   |false =>
    simp only [Ä]
    by_cases hkd:x.Kind<1∨3<x.Kind
    . have:Dt (l.take k) x=1:=by unfold Dt;rw [È (by rw [hn];simp),È (by rw [hm];simp),Ê hkd]
      rw [this,Ê (by decide),Ð hkd]
      exact Ev.pure
    . rw [Ñ hkd]
      simp only [Ä,W8 x (by omega),Á]
      cases hrg:HN x with
      |true =>
       have:Dt (l.take k) x=3:=by unfold Dt;rw [È (by rw [hn];simp),È (by rw [hm];simp),È hkd,Ê hrg]
       rw [this,Ê (by decide)]
       exact Ev.pure
      |false =>
       have hce:Dt (l.take k) x=Hp x:=by unfold Dt;rw [È (by rw [hn];simp),È (by rw [hm];simp),È hkd,È (by rw [hrg];simp)]
       rw [hce]
       simp only [Ä]
       have hw:∀ n,Ee x.Name x.Kind x.Rank x.Known x.From.Op x.From.N x.From.S x.From.Kids x.From.At x.To.Op x.To.N x.To.S x.To.Kids x.To.At x.When.Op x.When.N x.When.S x.When.Kids x.When.At x.Houses=some n:=fun n=>rfl
       simp only [hw (),Á]
       have ht:Ev (fun n=>AD n x 0) (if Hp x=0 then .inl () else .inr (Hp x)):=⟨4,fun n hn=>by
        obtain⟨m,rfl⟩:∃ m,n=m+4:=⟨n-4,by omega⟩
        show AD (m+4) x 0=_
        rw [Wu x (hs x hmem) m];split<;>rfl⟩
       refine Ev.bind ht ?_
       by_cases c:Hp x=0
       . rw [Ê c,È (show ¬ Hp x≠0 by simpa using c)]
         exact ih
       . rw [È c,Ê c]
         have:Aak (Hp x)=.inr (Hp x):=by unfold Aak;rw [È c]
         rw [this]
         exact Ev.pure
theorem Ry (l:List Ag)(hs:∀ c∈l,Lv c):Ev (fun n=>DD n l) (Ia l):=by
 unfold DD Ia
 by_cases h:40<l.length
 . rw [Ð (show (40:Int)<(l.length:Int) by omega),Ê h];exact Ev.pure
 . rw [Ñ (show ¬ (40:Int)<(l.length:Int) by omega),È h]
   simp only [Ä,Á]
   refine Ev.bind (Ve l (by omega) hs l 0 rfl (ú _)) ?_
   unfold Aak
   by_cases c:Du l l 0=0
   . rw [Ê c,c];exact Ev.pure
   . rw [È c];exact Ev.pure
end Go.Sp
namespace Go.Sp
open Go
set_option maxRecDepth 100000
theorem QZ {α:Type}{b:Nat}{x y:List α}(h:(x.length+y.length)*b<=140737488355328):B4 b x y=some (x++y):=by unfold B4;rw [Ê h]
end Go.Sp
namespace Go.Sp
open Go
set_option maxRecDepth 100000
def Qe:Â:=⟨#[107,101,101,112]⟩
def Qf:Â:=⟨#[100,114,111,112]⟩
def MM:Â:=⟨#[112,108,97,99,101]⟩
def GI (w:Â):Int:=if w=Qe then 1 else if w=Qf then 2 else if w=MM then 3 else 0
def Xa (v:Â):List Â->Nat->Unit ⊕ Int
 | [],_=>.inl ()
 |x::r,k=>if v=x then .inr (k:Int) else Xa v r (k+1)
theorem Ye (s:List Â)(v:Â)(hl:s.length<=1000000):∀ (r:List Â) (k:Nat),s.drop k=r->k<=s.length->Ev (fun n=>Cn n s v (k:Int)) (Xa v r k)
 | [],k,hr,hk=>by
  have he:=LY hr hk
  refine Ev.step (f:=fun _=>some (.inl ())) (fun n=>?_) Ev.pure
  rw [G9,show (decide ((k:Int)<(s.length:Int)))=false by rw [Ö];omega];rfl
 |x::r,k,hr,hk=>by
  obtain⟨h1,h2⟩:=He hr
  have ih:=Ye s v hl r (k+1) h1 (by omega)
  refine Ev.step (fun n=>G9 n s v (k:Int)) ?_
  simp only [RE h2,É,RM hr,Á,OR (show k<4611686018427387904 by omega)]
  rw [Xa]
  by_cases c:v=x
  . rw [Ð c,Ê c];exact Ev.pure
  . rw [Ñ c,È c];exact ih
theorem Aeb (w:Â):Ev (fun n=>EW n [Qe,Qf,MM] w) (GI w-1):=by
 unfold EW
 refine Ev.bind (Ye [Qe,Qf,MM] w (by simp) [Qe,Qf,MM] 0 rfl (ú _)) ?_
 rw [Xa,Xa,Xa,Xa]
 unfold GI
 by_cases c1:w=Qe
 . rw [Ê c1,Ê c1];exact Ev.pure
 rw [È c1,È c1]
 by_cases c2:w=Qf
 . rw [Ê c2,Ê c2];exact Ev.pure
 rw [È c2,È c2]
 by_cases c3:w=MM
 . rw [Ê c3,Ê c3];exact Ev.pure
 rw [È c3,È c3];exact Ev.pure
theorem WY (w:Â):0<=GI w/\GI w<=3:=by unfold GI;split<;>(try split)<;>(try split)<;>omega
def Ec (k:Int):List Int:=if k=3 then [1,2,2,5,5,5,4,2] else [1,2,2,5,5,5]
theorem Mg (k:Int):(Ec k).length=if k=3 then 8 else 6:=by unfold Ec;split<;>rfl
def Li (want:List Int)(i:Nat):Int:=want.getD (if want.length-1<i then want.length-1 else i) 0
def E8 (want:List Int):List Ao->Nat->Bool
 | [],_=>true
 |a::r,i=>decide (a.Kind=Li want i)&&E8 want r (i+1)
def GR (f:Ai):Int×Bool :=
 if GI f.Word=0∨0<f.Body.length∨f.Args.length<(Ec (GI f.Word)).length∨(GI f.Word≠3/\(Ec (GI f.Word)).length<f.Args.length) then (0,false)
 else if E8 (Ec (GI f.Word)) f.Args 0=true then (GI f.Word,true) else (0,false)
theorem Ac8 {want:List Int}(h:0<want.length)(hl:want.length<=100)(i:Nat)(hi:i<=1000000):gi want (if (À ((want.length:Int)-1))<(i:Int) then (À ((want.length:Int)-1)) else (i:Int))=some (Li want i):=by
 grind [A2,Li,gi,Int.toNat_natCast,List.getElem?_eq_getElem]
theorem Sg (f:Ai)(want:List Int)(h0:0<want.length)(h1:want.length<=100)(hl:f.Args.length<=1000000):∀ (r:List Ao) (k:Nat),f.Args.drop k=r->k<=f.Args.length ->
 Ev (fun n=>C1 n f want (k:Int)) (if E8 want r k=true then .inl () else .inr (0,false))
 | [],k,hr,hk=>by
  have he:=LY hr hk
  refine Ev.step (f:=fun _=>some (.inl ())) (fun n=>?_) (by rw [E8,Ê rfl];exact Ev.pure)
  rw [GP,show (decide ((k:Int)<(f.Args.length:Int)))=false by rw [Ö];omega];rfl
 |x::r,k,hr,hk=>by
  obtain⟨h2,h3⟩:=He hr
  have ih:=Sg f want h0 h1 hl r (k+1) h2 (by omega)
  refine Ev.step (fun n=>GP n f want (k:Int)) ?_
  simp only [RE h3,É,RM hr,Á,Ac8 h0 h1 k (by omega),OR (show k<4611686018427387904 by omega)]
  rw [E8]
  by_cases c:x.Kind=Li want k
  . rw [show (x.Kind != Li want k)=false by simpa using c,Ð c]
    simp only [Ä,ė]
    exact ih
  . rw [show (x.Kind != Li want k)=true by simpa using c,Ñ c]
    simp only [É,Bool.false_and,ß,í]
    exact Ev.pure
theorem YF (f:Ai)(hl:f.Args.length<=1000000)(hb:f.Body.length<=4611686018427387904):Ev (fun n=>DK n f) (GR f):=by
 unfold DK
 rw [show Fe=some (⟨#[]⟩,Qe,Qf,MM) from rfl]
 simp only [Á]
 refine Ev.bind (Aeb f.Word) ?_
 have hk:=WY f.Word
 generalize hkd:GI f.Word=K at hk
 rw [A2 (by omega) (by omega),show K-1+1=K by omega]
 have hw:((bif (K == 3) then (B4 9 [1,2,2,5,5,5] [4,2]).bind fun l3=>some l3 else some [1,2,2,5,5,5]):Option (List Int))=some (Ec K):=by
  unfold Ec
  by_cases c:K=3
  . rw [show (K == 3)=true by simpa using c,Ê c];rfl
  . rw [show (K == 3)=false by simpa using c,È c];rfl
 rw [hw]
 simp only [Á]
 have hwl:=Mg K
 have hb2:((bif (K == 0) then some true else bif (decide (0<(f.Body.length:Int))) then some true else bif (decide ((f.Args.length:Int)<((Ec K).length:Int))) then some true else bif (K != 3) then some (decide (((Ec K).length:Int)<(f.Args.length:Int))) else some false):Option Bool)
  = some (decide (K=0∨0<f.Body.length∨f.Args.length<(Ec K).length∨(K≠3/\(Ec K).length<f.Args.length))):=by
  have e1:decide ((0:Int)<(f.Body.length:Int))=decide (0<f.Body.length):=by simp
  have e2:decide ((f.Args.length:Int)<((Ec K).length:Int))=decide (f.Args.length<(Ec K).length):=by simp
  have e3:decide (((Ec K).length:Int)<(f.Args.length:Int))=decide ((Ec K).length<f.Args.length):=by simp
  rw [e1,e2,e3]
  generalize f.Body.length=B
  generalize (Ec K).length=W
  generalize f.Args.length=A
  by_cases c1:K=0
  . simp [c1]
  by_cases c2:0<B
  . simp [c1,c2]
  by_cases c3:A<W
  . simp [c1,c2,c3]
  by_cases c4:K=3
  . simp [c2,c3,c4]
  . grind [DK,Ec,GR]
 rw [hb2]
 simp only [Á]
 unfold GR
 rw [hkd]
 by_cases c:K=0∨0<f.Body.length∨f.Args.length<(Ec K).length∨(K≠3/\(Ec K).length<f.Args.length)
 . rw [Ð c,Ê c];exact Ev.pure
 rw [Ñ c,È c]
 simp only [Ä]
 refine Ev.bind (Sg f (Ec K) (by rw [hwl];split<;>omega) (by rw [hwl];split<;>omega) hl f.Args 0 rfl (ú _)) ?_
 by_cases c2:E8 (Ec K) f.Args 0=true
 . rw [Ê c2,Ê c2];exact Ev.pure
 . rw [È c2,È c2];exact Ev.pure
theorem Vw (a0:Ao)(ags:List Ao)(q q1 p p1:Int)(w:Â)(b:List Ai)(i:Int)(l:List Ag)(hl:l.length<=1000000):∀ (r:List Ag) (k:Nat),l.drop k=r->k<=l.length ->
 ∃ v,Ev (fun n=>AW n l q q1 p p1 w (a0::ags) b i (k:Int)) v/\(match v with|.inl _=>D9 r a0.S=false|.inr j=>D9 r a0.S=true/\0<=j)
 | [],k,hr,hk=>by
  have he:=LY hr hk
  refine⟨.inl (),Ev.step (f:=fun _=>some (.inl ())) (fun n=>?_) Ev.pure,rfl⟩
  rw [CB,show (decide ((k:Int)<(l.length:Int)))=false by rw [Ö];omega];rfl
 |x::r,k,hr,hk=>by
  obtain⟨h1,h2⟩:=He hr
  have hc:∀ n:Nat,CW q q1 p p1 w (a0::ags) b i x=some (decide (x.Name=a0.S)):=fun _=>rfl
  by_cases c:x.Name=a0.S
  . refine⟨.inr (k:Int),Ev.step (fun n=>CB n l q q1 p p1 w (a0::ags) b i (k:Int)) ?_,?_,by omega⟩
    . simp only [RE h2,É,RM hr,Á,hc 0,Ð c]
      exact Ev.pure
    . unfold D9;rw [List.any_cons,Ð c];rfl
  . obtain⟨v,h3,h4⟩:=Vw a0 ags q q1 p p1 w b i l hl r (k+1) h1 (by omega)
    refine⟨v,Ev.step (fun n=>CB n l q q1 p p1 w (a0::ags) b i (k:Int)) ?_,?_⟩
    . simp only [RE h2,É,RM hr,Á,hc 0,Ñ c,Ä,OR (show k<4611686018427387904 by omega)]
      exact h3
    . have e:D9 (x::r) a0.S=D9 r a0.S:=by unfold D9;rw [List.any_cons,Ñ c,Bool.false_or]
      rw [e];exact h4
theorem Aaz (a0:Ao)(ags:List Ao)(q q1 p p1:Int)(w:Â)(b:List Ai)(i:Int)(l:List Ag)(hl:l.length<=1000000) :
 Ev (fun n=>B3 n q q1 p p1 w (a0::ags) b i l) (D9 l a0.S):=by
 obtain⟨v,h1,h2⟩:=Vw a0 ags q q1 p p1 w b i l hl l 0 rfl (ú _)
 unfold B3 CL
 cases v with
 |inl u =>
  simp only at h2
  refine Ev.bind (a:=-1) (Ev.bind h1 Ev.pure) ?_
  rw [h2];exact Ev.pure
 |inr o =>
  simp only at h2
  refine Ev.bind (a:=o) (Ev.bind h1 Ev.pure) ?_
  rw [h2.1]
  show Ev (fun _=>some (decide (0<=o))) true
  rw [Ð h2.2];exact Ev.pure
def NH (i:Nat)(x last:Int):Bool:=decide ((i=1/\(x<0∨9<x))∨(i=2/\(x<0∨41666<x))∨(6<i/\(x<=last∨12<=x)))
def Afb (c x:Int):Int:=bits .or .i64 c (À (1*2 ^ min x.toNat IntKind.i64.bits))
def FM:List Ao->Nat->Int->Int->Int ⊕ Int
 | [],_,_,c=>.inl c
 |a::r,i,last,c=>if NH i a.N last=true then .inr a.At else if 6<i then FM r (i+1) a.N (Afb c a.N) else FM r (i+1) last c
theorem rangeLoop (f:Ai)(hl:f.Args.length<=1000000):∀ (r:List Ao) (k:Nat) (last c:Int),f.Args.drop k=r->k<=f.Args.length->-1<=last ->
 Ev (fun n=>By n f (k:Int) last c) (match FM r k last c with|.inl h=>.inl h|.inr p=>.inr ([],⟨p,3⟩))
 | [],k,last,c,hr,hk,hla=>by
  have he:=LY hr hk
  refine Ev.step (f:=fun _=>some (.inl c)) (fun n=>?_) (by rw [FM];exact Ev.pure)
  rw [G7,show (decide ((k:Int)<(f.Args.length:Int)))=false by rw [Ö];omega];rfl
 |x::r,k,last,c,hr,hk,hla=>by
  obtain⟨h1,h2⟩:=He hr
  refine Ev.step (fun n=>G7 n f (k:Int) last c) ?_
  have hc6:decide (6<(k:Int))=decide (6<k):=by
   by_cases h:6<k
   . rw [Ð h,Ð (by omega)]
   . rw [Ñ h,Ñ (by omega)]
  have ho:∀ (b6:Bool),b6=decide (6<k)->((bif ((k:Int) == 1) then
   bif (decide (x.N<0)) then some true
   else bif (decide (9<x.N)) then some true
    else bif ((k:Int) == 2) then
     bif (decide (x.N<0)) then some true
     else bif (decide (41666<x.N)) then some true
      else bif b6 then bif (decide (x.N<=last)) then some true else some (decide (12<=x.N))
       else some false
     else bif b6 then bif (decide (x.N<=last)) then some true else some (decide (12<=x.N))
      else some false
   else bif ((k:Int) == 2) then
    bif (decide (x.N<0)) then some true
    else bif (decide (41666<x.N)) then some true
     else bif b6 then bif (decide (x.N<=last)) then some true else some (decide (12<=x.N))
      else some false
    else bif b6 then bif (decide (x.N<=last)) then some true else some (decide (12<=x.N))
     else some false):Option Bool)=some (NH k x.N last):=by
   intro b6 hb
   unfold NH
   by_cases k1:k=1
   . grind [NH,Yi]
   by_cases k2:k=2
   . grind [NH,Yi]
   rw [show ((k:Int) == 1)=false by rw [ñ];omega,show ((k:Int) == 2)=false by rw [ñ];omega]
   simp only [Ä]
   by_cases k6:6<k
   . grind [NH,Yi]
   . grind [NH,Yi]
  simp only [RE h2,É,RM hr,Á,hc6,ho _ rfl,OR (show k<4611686018427387904 by omega)]
  rw [FM]
  cases hodd:NH k x.N last with
  |true=>simp only [É,ë];exact Ev.pure
  |false =>
   simp only [Ä,ß,í]
   by_cases k6:6<k
   . have hx:last<x.N:=by
      unfold NH at hodd
      rw [Ö] at hodd
      omega
     rw [Ð k6,Ê k6]
     simp only [É]
     have hg:Yi x.N (À (1*2 ^ min x.N.toNat IntKind.i64.bits))=some (À (1*2 ^ min x.N.toNat IntKind.i64.bits)):=by unfold Yi;rw [Ê (by omega)]
     simp only [hg,Á]
     exact rangeLoop f hl r (k+1) x.N (Afb c x.N) h1 (by omega) (by omega)
   . rw [Ñ k6,È k6]
     simp only [Ä]
     exact rangeLoop f hl r (k+1) last c h1 (by omega) hla
def OV (a:Ao)(t:Int)(r:Unit ⊕ Am):Unit ⊕ Am:=if (Bw a.E).2.2.E≠0 then .inr (Bw a.E).2.2 else if (Bw a.E).1≠t then .inr ⟨a.At,7⟩ else r
def Tg (a b c:Ao):Unit ⊕ Am:=OV a 2 (OV b 2 (OV c 3 (.inl ())))
def Adr:Unit ⊕ Am->Unit ⊕ (List Ag×Am)
 |.inl u=>.inl u
 |.inr p=>.inr ([],p)
theorem MW {a:Ao}{t:Int}(hs:Da a.E=true){k:Option (Unit ⊕ (List Ag×Am))}{r:Unit ⊕ Am}(hk:k=some (Adr r)) :
 ((Ha a.E).bind fun f=>bif (f.2.2.E != 0) then some (.inr ([],f.2.2)) else bif (f.1 != t) then some (.inr ([],(Am.mk a.At 7))) else k)=some (Adr (OV a t r)):=by
 rw [VQ hs,Á]
 unfold OV
 by_cases c:(Bw a.E).2.2.E=0
 . rw [show ((Bw a.E).2.2.E != 0)=false by simpa using c,È (show ¬ (Bw a.E).2.2.E≠0 by simpa using c),Ä]
   by_cases c2:(Bw a.E).1=t
   . grind [OV]
   . rw [show ((Bw a.E).1 != t)=true by simpa using c2,Ê c2];rfl
 . rw [show ((Bw a.E).2.2.E != 0)=true by simpa using c,Ê c];rfl
theorem ZF {a b c:Ao}(ha:Da a.E=true)(hb:Da b.E=true)(hc:Da c.E=true):Ev (fun n=>Bc n a b c 0) (Adr (Tg a b c)):=⟨4,fun n hn=>by
 obtain⟨m,rfl⟩:∃ m,n=m+4:=⟨n-4,by omega⟩
 show Bc (m+4) a b c 0=_
 rw [Dq]
 refine MW ha ?_
 rw [Dq]
 refine MW hb ?_
 rw [Dq]
 refine MW hc ?_
 rw [Dq]
 rfl⟩
def Yl (out:List Ag)(f:Ai):Ag ⊕ Am :=
 if (GR f).2=false then .inr ⟨f.At,5⟩
 else if out.length=40 then .inr ⟨f.At,2⟩
 else match f.Args with
  |a0::a1::a2::a3::a4::a5::_ =>
   if D9 out a0.S=true then .inr ⟨a0.At,9⟩
   else match FM f.Args 0 (-1) 0 with
    |.inr p=>.inr ⟨p,3⟩
    |.inl h=>match Tg a3 a4 a5 with
     |.inr p=>.inr p
     |.inl _=>.inl ⟨a0.S,(GR f).1,a1.N,a2.N,a3.E,a4.E,a5.E,h⟩
  |_=>.inr ⟨f.At,5⟩
def Rt:List Ai->List Ag->List Ag ⊕ Am
 | [],out=>.inl out
 |f::r,out=>match Yl out f with
  |.inr p=>.inr p
  |.inl c=>Rt r (out++[c])
def Ajf:List Ag ⊕ Am->List Ag ⊕ (List Ag×Am)
 |.inl l=>.inl l
 |.inr p=>.inr ([],p)
def ZT (f:Ai):Prop:=f.Args.length<=1000000/\f.Body.length<=4611686018427387904/\∀ a∈f.Args,Da a.E=true
theorem UT {f:Ai}(h:(GR f).2=true):GI f.Word≠0/\(GR f).1=GI f.Word/\f.Body.length=0/\(Ec (GI f.Word)).length<=f.Args.length/\(GI f.Word≠3->f.Args.length=6)/\E8 (Ec (GI f.Word)) f.Args 0=true:=by
 grind [GR,Mg,GI]
theorem We (fs:List Ai)(p:Am)(hl:fs.length<=4000000000000)(hs:∀ f∈fs,ZT f):∀ (r:List Ai) (k:Nat) (out:List Ag),fs.drop k=r->k<=fs.length->out.length<=40 ->
 Ev (fun n=>Cm n (fs,p) out (k:Int)) (Ajf (Rt r out))
 | [],k,out,hr,hk,ho=>by
  have he:=LY hr hk
  refine Ev.step (f:=fun _=>some (.inl out)) (fun n=>?_) (by rw [Rt];exact Ev.pure)
  rw [G8,show (decide ((k:Int)<(fs.length:Int)))=false by rw [Ö];omega];rfl
 |f::r,k,out,hr,hk,ho=>by
  obtain⟨h1,h2⟩:=He hr
  have hm:f∈fs:=ā (by rw [hr];simp)
  obtain⟨s1,s2,s3⟩:=hs f hm
  refine Ev.step (fun n=>G8 n (fs,p) out (k:Int)) ?_
  simp only [RE h2,É,RM hr,Á,OR (show k<4611686018427387904 by omega)]
  refine Ev.bind (YF f s1 s2) ?_
  rw [Rt]
  unfold Yl
  cases hsh:(GR f).2 with
  |false=>simp only [é,É,ë];exact Ev.pure
  |true =>
   simp only [à,Ä,Bool.true_eq_false,í]
   by_cases c40:out.length=40
   . rw [show ((out.length:Int) == 40)=true by rw [ó];omega,Ê c40];exact Ev.pure
   rw [show ((out.length:Int) == 40)=false by rw [ñ];omega,È c40]
   simp only [Ä]
   obtain⟨_,_,_,g4,_,_⟩:=UT hsh
   have g5:6<=f.Args.length:=by have:=Mg (GI f.Word);split at this<;>omega
   match hA:f.Args,g5 with
   |a0::a1::a2::a3::a4::a5::ags,_ =>
    have i0:gi (a0::a1::a2::a3::a4::a5::ags) 0=some a0:=rfl
    have i1:gi (a0::a1::a2::a3::a4::a5::ags) 1=some a1:=rfl
    have i2:gi (a0::a1::a2::a3::a4::a5::ags) 2=some a2:=rfl
    have i3:gi (a0::a1::a2::a3::a4::a5::ags) 3=some a3:=rfl
    have i4:gi (a0::a1::a2::a3::a4::a5::ags) 4=some a4:=rfl
    have i5:gi (a0::a1::a2::a3::a4::a5::ags) 5=some a5:=rfl
    simp only [i0,i1,i2,i3,i4,i5,Á]
    refine Ev.bind (Aaz a0 (a1::a2::a3::a4::a5::ags) 0 0 p.At p.E f.Word f.Body f.At out (by omega)) ?_
    cases hn:D9 out a0.S with
    |true=>simp only [É,ë];exact Ev.pure
    |false =>
     simp only [Ä,ß,í]
     have hR:=rangeLoop f s1 f.Args 0 (-1) 0 rfl (ú _) (by omega)
     rw [hA] at hR s3
     refine Ev.bind hR ?_
     cases hrv:FM (a0::a1::a2::a3::a4::a5::ags) 0 (-1) 0 with
     |inr q=>exact Ev.pure
     |inl h =>
      simp only [Ed,Á]
      refine Ev.bind (ZF (s3 a3 (by simp)) (s3 a4 (by simp)) (s3 a5 (by simp))) ?_
      cases ht:Tg a3 a4 a5 with
      |inr q=>exact Ev.pure
      |inl u =>
       simp only [Adr,Á]
       rw [QZ (by simp only [Æ,Î];omega)]
       simp only [Á]
       exact We fs p hl hs r (k+1) _ h1 (by omega) (by simp only [Ç,Æ,Î];omega)
end Go.Sp
namespace Go.Sp
open Go
set_option maxRecDepth 100000
def IJ (v:Int):Ao:=⟨2,v,⟨#[]⟩,⟨0,0,⟨#[]⟩,[],0⟩,0⟩
def Gq (e:Aa):Ao:=⟨5,0,⟨#[]⟩,e,0⟩
def MF (s:Â):Ao:=⟨1,0,s,⟨0,0,⟨#[]⟩,[],0⟩,0⟩
def J5:Ao:=⟨4,0,⟨#[]⟩,⟨0,0,⟨#[]⟩,[],0⟩,0⟩
def Ahl (h:Int)(k:Nat):Bool:=bits .and .i64 (h.fdiv (2 ^ min k IntKind.i64.bits)) 1 == 1
def Dl (h:Int):Nat->Nat->List Ao
 |_,0=>[]
 |k,m+1=>if Ahl h k=true then IJ (k:Int)::Dl h (k+1) m else Dl h (k+1) m
def Lh (k:Int):Â:=if k=1 then Qe else if k=2 then Qf else MM
def E3 (c:Ag):List Ao:=MF c.Name::IJ c.Rank::IJ c.Known::Gq c.From::Gq c.To::Gq c.When::(if c.Kind=3 then J5::Dl c.Houses 0 12 else Dl c.Houses 0 12)
def Cu (c:Ag):Ai:=⟨Lh c.Kind,E3 c,[],0⟩
theorem Nk (h:Int):∀ m k:Nat,(Dl h k m).length<=m
 |0,k=>Õ _
 |m+1,k=>by
  have:=Nk h m (k+1)
  rw [Dl];split
  . simp only [Æ];omega
  . omega
theorem OC (x:Ag):∀ (m k:Nat) (f:List Ao),k+m=12->f.length<=100+k->Ev (fun n=>C2 n x (k:Int) f) (f++Dl x.Houses k m)
 |0,k,f,h,hf=>by
  refine Ev.step (fun n=>C2.eq_2 (n:=n) _ _ _) (Ev.of fun n=>?_)
  rw [Ñ (by omega),Dl,ç];rfl
 |m+1,k,f,h,hf=>by
  refine Ev.step (fun n=>C2.eq_2 (n:=n) _ _ _) ?_
  have w1:À ((k:Int)+1)=((k+1:Nat):Int):=by rw [A2]<;>omega
  have hb:(bits .and .i64 (x.Houses.fdiv (2 ^ min (k:Int).toNat IntKind.i64.bits)) 1 == 1)=Ahl x.Houses k:=rfl
  simp only [Ð (show (k:Int)<12 by omega),É,w1]
  unfold Yi
  simp only [Ê (show (0:Int)<=(k:Int) by omega),Á,hb,Dl]
  cases Ahl x.Houses k with
  |true =>
   simp only [É,ë]
   rw [show f++IJ (k:Int)::Dl x.Houses (k+1) m=(f++[IJ (k:Int)])++Dl x.Houses (k+1) m by simp]
   refine Ev.bind (Ev.of fun n=>QZ (by simp only [Æ,Î];omega)) ?_
   exact OC x m (k+1) _ (by omega) (by simp only [Ç,Æ,Î];omega)
  |false =>
   simp only [Ä,ß,í]
   exact OC x m (k+1) f (by omega) (by omega)
theorem Ab1 (x:Ag)(f:List Ao)(hf:f.length<=100):Ev (fun n=>B8 n x 0 f) (f++[Gq x.From,Gq x.To,Gq x.When]):=by
 refine Ev.step (fun n=>B8.eq_2 (n:=n) _ _ _) ?_
 simp only [è,É,Á]
 refine Ev.bind (Ev.of fun n=>QZ (by simp only [Æ,Î];omega)) ?_
 refine Ev.step (fun n=>B8.eq_2 (n:=n) _ _ _) ?_
 simp only [show ((1:Int) == 0)=false from rfl,è,É,Ä,Á]
 refine Ev.bind (Ev.of fun n=>QZ (by simp only [Ç,Æ,Î];omega)) ?_
 refine Ev.step (fun n=>B8.eq_2 (n:=n) _ _ _) ?_
 simp only [show ((2:Int) == 0)=false from rfl,show ((2:Int) == 1)=false from rfl,è,É,Ä,Á]
 refine Ev.bind (Ev.of fun n=>QZ (by simp only [Ç,Æ,Î];omega)) ?_
 refine Ev.step (fun n=>B8.eq_2 (n:=n) _ _ _) (Ev.of fun n=>?_)
 simp only [show ((3:Int) == 0)=false from rfl,show ((3:Int) == 1)=false from rfl,show ((3:Int) == 2)=false from rfl,è,É,Ä]
 simp only [Ý,Ė,ö];rfl
theorem Ac7 {k:Int}(h:1<=k/\k<=3):gi [(⟨#[]⟩:Â),⟨#[107,101,101,112]⟩,⟨#[100,114,111,112]⟩,⟨#[112,108,97,99,101]⟩] k=some (Lh k):=by
 have:k=1∨k=2∨k=3:=by omega
 rcases this with rfl|rfl|rfl<;>rfl
theorem XJ (l:List Ag)(hl:l.length<=50)(hk:∀ c∈l,1<=c.Kind/\c.Kind<=3):∀ (r:List Ag) (k:Nat) (fs:List Ai),l.drop k=r->k<=l.length->fs.length<=k ->
 Ev (fun n=>Cg n l fs (k:Int)) (fs++r.map Cu)
 | [],k,fs,hr,hkl,hf=>by
  have:=List.drop_eq_nil_iff.1 hr
  refine Ev.step (fun n=>Cg.eq_2 (n:=n) _ _ _) (Ev.of fun n=>?_)
  rw [Ñ (by omega),î,ç];rfl
 |x::r,k,fs,hr,hkl,hf=>by
  obtain⟨h1,h2⟩:=He hr
  have hx:l[k]=x:=by
   have:=å h2
   rw [hr] at this
   exact (İ this).1.symm
  have w1:À ((k:Int)+1)=((k+1:Nat):Int):=by rw [A2]<;>omega
  refine Ev.step (fun n=>Cg.eq_2 (n:=n) _ _ _) ?_
  have hK:=hk x (by rw [<- hx];exact Ú h2)
  simp only [Ð (show (k:Int)<(l.length:Int) by omega),É,KL h2,hx,Á,Fe,Ac7 hK,F1,w1]
  refine Ev.bind (Ab1 x _ (by simp)) ?_
  refine Ev.bind (a:=MF x.Name::IJ x.Rank::IJ x.Known::Gq x.From::Gq x.To::Gq x.When::(if x.Kind=3 then [J5] else [])) ?_ ?_
  . by_cases q:x.Kind=3
    . simp only [show (x.Kind == 3)=true by simpa using q,É,Ê q]
      refine Ev.bind (Ev.of fun n=>QZ (by simp only [Ç,Æ,Î];omega)) (Ev.of fun n=>rfl)
    . simp only [show (x.Kind == 3)=false by simpa using q,Ä,È q]
      exact Ev.of fun n=>rfl
  refine Ev.bind (OC x 12 0 _ (by omega) (by split<;>simp)) ?_
  refine Ev.bind (Ev.of fun n=>QZ (by simp only [Æ,Î];omega)) ?_
  have e:∀ n,Cg n l (fs++[Ai.mk (Lh x.Kind) ((MF x.Name::IJ x.Rank::IJ x.Known::Gq x.From::Gq x.To::Gq x.When::(if x.Kind=3 then [J5] else []))++Dl x.Houses 0 12) [] 0]) ((k+1:Nat):Int)=Cg n l (fs++[Cu x]) ((k+1:Nat):Int):=by
   intro n
   congr 3
   unfold Cu E3
   by_cases q:x.Kind=3
   . rw [Ê q,Ê q];rfl
   . rw [È q,È q];rfl
  simp only [e]
  rw [ã,show fs++Cu x::r.map Cu=(fs++[Cu x])++r.map Cu by simp]
  exact XJ l hl hk r (k+1) _ h1 (by omega) (by simp only [Ç,Æ,Î];omega)
end Go.Sp

namespace Go.Sp
open Go
set_option maxRecDepth 100000
end Go.Sp
namespace Go.Sp
open Go
set_option maxRecDepth 100000
set_option linter.unusedVariables false
theorem Ts:∀ (l l':List Ao) (i:Nat) (last c h:Int),l'.map (·.N)=l.map (·.N)->FM l i last c=.inl h->FM l' i last c=.inl h
 | [],l',i,last,c,h,e,k=>by
  obtain rfl:l'=[]:=List.map_eq_nil_iff.1 e
  exact k
 |a::l,l',i,last,c,h,e,k=>by
  obtain⟨b,l'',rfl,e1,e2⟩:=List.map_eq_cons_iff.1 e
  have e1:b.N=a.N:=e1
  rw [FM] at k ⊢
  rw [e1]
  split at k
  . cases k
  rename_i q
  rw [È q]
  split at k
  . rename_i q6;rw [Ê q6];exact Ts l l'' _ _ _ _ e2 k
  . rename_i q6;rw [È q6];exact Ts l l'' _ _ _ _ e2 k
theorem VL (want:List Int):∀ (l l':List Ao) (i:Nat),l'.map (·.Kind)=l.map (·.Kind)->E8 want l' i=E8 want l i
 | [],l',i,e=>by
  obtain rfl:l'=[]:=List.map_eq_nil_iff.1 e
  rfl
 |a::l,l',i,e=>by
  obtain⟨b,l'',rfl,e1,e2⟩:=List.map_eq_cons_iff.1 e
  have e1:b.Kind=a.Kind:=e1
  rw [E8,E8,e1,VL want l l'' _ e2]
theorem TG:∀ h:Fin 4096,FM (Dl (h.val:Int) 0 12) 7 (-1) 0=.inl (h.val:Int):=by decide +kernel
theorem SD {h:Int}(h1:0<=h/\h<=4095):FM (Dl h 0 12) 7 (-1) 0=.inl h:=by
 have:=TG ⟨h.toNat,by omega⟩
 simp only [Int.toNat_of_nonneg h1.1] at this
 exact this
theorem IN (h:Int):∀ (m k:Nat),∀ a∈Dl h k m,∃ j:Nat,a=IJ (j:Int)/\j<k+m
 |0,k,a,ha=>by cases ha
 |m+1,k,a,ha=>by
  rw [Dl] at ha
  split at ha
  . rcases List.mem_cons.1 ha with rfl|ha
    . exact⟨k,rfl,by omega⟩
    . obtain⟨j,h1,h2⟩:=IN h m (k+1) a ha
      exact⟨j,h1,by omega⟩
  . obtain⟨j,h1,h2⟩:=IN h m (k+1) a ha
    exact⟨j,h1,by omega⟩
theorem QS:Dl 0 0 12=[]:=by decide +kernel
theorem Afz {i:Nat}(h:7<=i):Li (Ec 3) i=2:=by
 unfold Li
 have:(if (Ec 3).length-1<i then (Ec 3).length-1 else i)=7:=by
  have:(Ec 3).length-1=7:=rfl
  rw [this];split<;>omega
 rw [this];rfl
theorem Rf:∀ (l:List Ao) (i:Nat),7<=i->(∀ a∈l,a.Kind=2)->E8 (Ec 3) l i=true
 | [],_,_,_=>rfl
 |a::l,i,hi,h=>by
  rw [E8,Afz hi,h a (by simp),Rf l (i+1) (by omega) fun b hb=>h b (ù _ hb)];rfl
structure Pass (out:List Ag) (c:Ag):Prop where
 nm:K1 c.Name=true
 fresh:D9 out c.Name=false
 kind:1<=c.Kind/\c.Kind<=3
 rank:0<=c.Rank/\c.Rank<=9
 known:0<=c.Known/\c.Known<=41666
 none_:c.Kind≠3->c.Houses=0
 some_:c.Kind=3->1<=c.Houses/\c.Houses<=4095
 from_:DU c.From 2=0
 to_:DU c.To 2=0
 when_:DU c.When 3=0
theorem T5 {out:List Ag}{c:Ag}(h:Dt out c=0):Pass out c:=by
 unfold Dt at h
 split at h
 . exact absurd h (by decide)
 rename_i h1
 split at h
 . exact absurd h (by decide)
 rename_i h2
 split at h
 . exact absurd h (by decide)
 rename_i h3
 split at h
 . exact absurd h (by decide)
 rename_i h4
 unfold HN at h4
 rw [Í] at h4
 unfold Hp at h
 have k1:DU c.From 2=0:=by
  by_cases q:DU c.From 2=0
  . exact q
  . rw [Ê q] at h;exact absurd h q
 rw [È (by omega)] at h
 have k2:DU c.To 2=0:=by
  by_cases q:DU c.To 2=0
  . exact q
  . rw [Ê q] at h;exact absurd h q
 rw [È (by omega)] at h
 exact⟨by simpa using h1,by simpa using h2,by omega,by omega,by omega,fun q=>by omega,fun q=>by omega,k1,k2,h⟩
theorem J7 {e:Aa}{t:Int}(h:DU e t=0):(Bw e).2.2.E=0/\(Bw e).1=t:=by
 unfold DU at h
 split at h
 . rename_i q;exact absurd h q
 rename_i q
 split at h
 . exact absurd h (by decide)
 . rename_i q2;exact⟨by omega,by omega⟩
theorem Mz {out:List Ag}{c:Ag}(hp:Pass out c){a:Ao}(h:a∈E3 c):(a=MF c.Name∨a=J5∨(∃ v,a=IJ v/\0<=v/\v<=41666))∨∃ e,a=Gq e/\(e=c.From∨e=c.To∨e=c.When):=by
 have hh:∀ {a},a∈Dl c.Houses 0 12->∃ v,a=IJ v/\0<=v/\v<=41666:=fun h=>by
  obtain⟨j,e,h⟩:=IN _ _ _ _ h
  exact⟨j,e,by omega,by omega⟩
 have h1:=hp.rank
 have h2:=hp.known
 unfold E3 at h
 simp only [į] at h
 rcases h with rfl|rfl|rfl|rfl|rfl|rfl|h
 . exact .inl (.inl rfl)
 . exact .inl (.inr (.inr ⟨_,rfl,by omega,by omega⟩))
 . exact .inl (.inr (.inr ⟨_,rfl,by omega,by omega⟩))
 . exact .inr ⟨_,rfl,.inl rfl⟩
 . exact .inr ⟨_,rfl,.inr (.inl rfl)⟩
 . exact .inr ⟨_,rfl,.inr (.inr rfl)⟩
 . split at h
   . rcases List.mem_cons.1 h with rfl|h
     . exact .inl (.inr (.inl rfl))
     . exact .inl (.inr (.inr (hh h)))
   . exact .inl (.inr (.inr (hh h)))
theorem XW {out:List Ag}{c:Ag}(hp:Pass out c){a:Ao}(h:a∈E3 c):(nA a).Kind=a.Kind/\(nA a).N=a.N:=by
 rcases Mz hp h with (rfl|rfl|⟨v,rfl,_⟩)|⟨e,rfl,_⟩<;>exact⟨rfl,rfl⟩
theorem Gy {a:Ao}{r:List Ao}{i:Nat}{last c:Int}(h:NH i a.N last=false)(h6:¬ 6<i):FM (a::r) i last c=FM r (i+1) last c:=by
 rw [FM,h,È (by decide),È h6]
theorem W9 {out:List Ag}{c:Ag}(hp:Pass out c):FM (E3 c) 0 (-1) 0=.inl c.Houses:=by
 have h1:=hp.rank
 have h2:=hp.known
 have hs:∀ (i:Nat) (x last:Int),i≠1->i≠2->¬ 6<i->NH i x last=false:=fun i x last a b d=>by unfold NH;rw [Ö];omega
 unfold E3
 rw [Gy (hs 0 _ _ (by decide) (by decide) (by decide)) (by decide),Gy (i:=1) (by unfold NH;rw [Ö];simp only [IJ];omega) (by decide),Gy (i:=2) (by unfold NH;rw [Ö];simp only [IJ];omega) (by decide),
  Gy (hs 3 _ _ (by decide) (by decide) (by decide)) (by decide),Gy (hs 4 _ _ (by decide) (by decide) (by decide)) (by decide),Gy (hs 5 _ _ (by decide) (by decide) (by decide)) (by decide)]
 by_cases q:c.Kind=3
 . rw [Ê q,Gy (hs 6 _ _ (by decide) (by decide) (by decide)) (by decide)]
   exact SD ⟨by have:=hp.some_ q;omega,(hp.some_ q).2⟩
 . rw [È q,hp.none_ q,QS];rfl
theorem OP {out:List Ag}{c:Ag}(hp:Pass out c):(c.Kind≠3->(E3 c).length=6)/\(c.Kind=3->8<=(E3 c).length)/\(E3 c).length<=19:=by
 have h0:=Nk c.Houses 12 0
 unfold E3
 refine⟨fun q=>?_,fun q=>?_,?_⟩
 . rw [È q,hp.none_ q,QS];rfl
 . rw [Ê q]
   have h1:=hp.some_ q
   have h2:=SD (h:=c.Houses) ⟨by omega,h1.2⟩
   cases hh:Dl c.Houses 0 12 with
   |nil =>
    rw [hh,FM] at h2
    injection h2 with h2
    omega
   |cons a l=>simp only [Æ];omega
 . split<;>(simp only [Æ];omega)
theorem Abt {out:List Ag}{c:Ag}(hp:Pass out c):E8 (Ec c.Kind) (E3 c) 0=true:=by
 have hk:=hp.kind
 unfold E3
 by_cases q:c.Kind=3
 . rw [Ê q,q]
   simp only [E8,show ∀ s,(MF s).Kind=1 from fun s=>rfl,show ∀ v,(IJ v).Kind=2 from fun v=>rfl,show ∀ e,(Gq e).Kind=5 from fun e=>rfl,show J5.Kind=4 from rfl]
   rw [Rf _ _ (by omega) fun a ha=>by obtain⟨j,e,_⟩:=IN _ _ _ _ ha;rw [e];rfl]
   decide
 . rw [È q,hp.none_ q,QS]
   have:c.Kind=1∨c.Kind=2:=by omega
   simp only [E8,show ∀ s,(MF s).Kind=1 from fun s=>rfl,show ∀ v,(IJ v).Kind=2 from fun v=>rfl,show ∀ e,(Gq e).Kind=5 from fun e=>rfl]
   rcases this with e|e<;>rw [e]<;>decide
theorem Y7 {k:Int}(h:1<=k/\k<=3):GI (Lh k)=k:=by
 have:k=1∨k=2∨k=3:=by omega
 rcases this with rfl|rfl|rfl<;>decide
def Alike (d c:Ag):Prop:=d.Name=c.Name/\d.Kind=c.Kind/\d.Rank=c.Rank/\d.Known=c.Known/\d.Houses=c.Houses/\ET d.From=nE c.From/\ET d.To=nE c.To/\ET d.When=nE c.When
def Dn:List Ag->List Ag->Prop
 | [],[]=>True
 |d::m,c::l=>Alike d c/\Dn m l
 |_,_=>False
theorem Dn.len:∀ {m l:List Ag},Dn m l->m.length=l.length
 | [],[],_=>rfl
 |d::m,c::l,h=>ü (· + 1) h.2.len
 | [],c::l,h=>h.elim
 |d::m,[],h=>h.elim
theorem Dn.named (s:Â):∀ {m l:List Ag},Dn m l->D9 m s=D9 l s
 | [],[],_=>rfl
 |d::m,c::l,h=>by
  show (decide (d.Name=s)||D9 m s)=(decide (c.Name=s)||D9 l s)
  rw [h.1.1,h.2.named s]
 | [],c::l,h=>h.elim
 |d::m,[],h=>h.elim
theorem Dn.snoc {d c:Ag}(k:Alike d c):∀ {m l:List Ag},Dn m l->Dn (m++[d]) (l++[c])
 | [],[],_=>⟨k,trivial⟩
 |d::m,c::l,h=>⟨h.1,h.2.snoc k⟩
 | [],c::l,h=>h.elim
 |d::m,[],h=>h.elim
theorem Aa5 {c:Ag}{out:List Ag}(hp:Pass out c){l':List Ao}(h:l'.map Ns=(E3 c).map nA):l'.map (·.Kind)=(E3 c).map (·.Kind)/\l'.map (·.N)=(E3 c).map (·.N):=by
 have h1:=ü (List.map (·.Kind)) h
 have h2:=ü (List.map (·.N)) h
 rw [ġ,ġ] at h1 h2
 refine⟨?_,?_⟩
 . rw [<- Ħ (f:=(fun a:Ao=>a.Kind)∘nA) fun a ha=>(XW hp ha).1,<- h1];rfl
 . rw [<- Ħ (f:=(fun a:Ao=>a.N)∘nA) fun a ha=>(XW hp ha).2,<- h2];rfl
theorem Zc {out out':List Ag}{c:Ag}{f:Ai}(hp:Pass out c)(ho:Dn out' out)(h40:out.length<40)(hf:ZR f=nF (Cu c)):∃ d,Yl out' f=.inl d/\Alike d c:=by
 obtain⟨w,l',b,p⟩:=f
 have hf:(⟨w,l'.map Ns,IB b,0⟩:Ai)=⟨Lh c.Kind,(E3 c).map nA,[],0⟩:=hf
 injection hf with e1 e2 e3 _
 subst e1
 obtain rfl:b=[]:=by cases b with|nil=>rfl|cons x b=>cases e3
 obtain⟨m1,m2⟩:=Aa5 hp e2
 have hl:l'.length=(E3 c).length:=by have:=ü List.length e2;simpa using this
 obtain⟨l1,l2,_⟩:=OP hp
 have kl:=Mg c.Kind
 have hk:=hp.kind
 have hs:GR ⟨Lh c.Kind,l',[],p⟩=(c.Kind,true):=by
  unfold GR
  simp only [Y7 hp.kind]
  rw [È,VL _ _ _ _ m1,Abt hp,Ê rfl]
  simp only [Î]
  by_cases q:c.Kind=3
  . have:=l2 q;rw [Ê q] at kl;omega
  . have:=l1 q;rw [È q] at kl;omega
 have hr:=Ts _ _ _ _ _ _ m2 (W9 hp)
 have e2':=e2
 unfold E3 at e2'
 simp only [ã] at e2'
 obtain⟨a0,r0,rfl,g0,e2'⟩:=List.map_eq_cons_iff.1 e2'
 obtain⟨a1,r1,rfl,g1,e2'⟩:=List.map_eq_cons_iff.1 e2'
 obtain⟨a2,r2,rfl,g2,e2'⟩:=List.map_eq_cons_iff.1 e2'
 obtain⟨a3,r3,rfl,g3,e2'⟩:=List.map_eq_cons_iff.1 e2'
 obtain⟨a4,r4,rfl,g4,e2'⟩:=List.map_eq_cons_iff.1 e2'
 obtain⟨a5,r5,rfl,g5,e2'⟩:=List.map_eq_cons_iff.1 e2'
 have n0:a0.S=c.Name:=ü Ao.S g0
 have n1:a1.N=c.Rank:=ü Ao.N g1
 have n2:a2.N=c.Known:=ü Ao.N g2
 have n3:ET a3.E=nE c.From:=ü Ao.E g3
 have n4:ET a4.E=nE c.To:=ü Ao.E g4
 have n5:ET a5.E=nE c.When:=ü Ao.E g5
 have ty:∀ {a:Ao} {e:Aa} {t:Int} {r:Unit ⊕ Am},ET a.E=nE e->DU e t=0->OV a t r=r:=by
  intro a e t r h hw
  obtain⟨w1,w2⟩:=J7 hw
  obtain⟨q1,q2⟩:=TL e a.E h w1
  unfold OV
  rw [È (by omega),È (by omega)]
 refine⟨⟨a0.S,c.Kind,a1.N,a2.N,a3.E,a4.E,a5.E,c.Houses⟩,?_,n0,rfl,n1,n2,rfl,n3,n4,n5⟩
 unfold Yl
 rw [hs,È (show ¬ ((c.Kind,true):Int×Bool).2=false from fun h=>by cases h),È (by rw [ho.len];omega)]
 simp only [n0,ho.named,hp.fresh,ß,í,hr]
 unfold Tg
 rw [ty n3 hp.from_,ty n4 hp.to_,ty n5 hp.when_]
theorem SV:∀ (r:List Ag) (fs:List Ai) (l out out':List Ag),out++r=l->Du l r out.length=0->l.length<=40->Dn out' out->IB fs=WM (r.map Cu)->∃ m,Rt fs out'=.inl m/\Dn m l
 | [],fs,l,out,out',e,h,h40,ho,hf=>by
  obtain rfl:fs=[]:=by cases fs with|nil=>rfl|cons x b=>cases hf
  rw [ç] at e
  exact⟨out',by rw [Rt],by rw [<- e];exact ho⟩
 |c::r,fs,l,out,out',e,h,h40,ho,hf=>by
  cases fs with
  |nil=>cases hf
  |cons f fs =>
   have hf:ZR f::IB fs=nF (Cu c)::WM (r.map Cu):=hf
   injection hf with f1 f2
   have ht:l.take out.length=out:=by rw [<- e,List.take_left]
   rw [Du,ht] at h
   by_cases q:Dt out c=0
   . rw [È (by omega)] at h
     have hlen:=ü List.length e
     simp only [Ç,Æ] at hlen
     obtain⟨d,d1,d2⟩:=Zc (T5 q) ho (by omega) f1
     rw [Rt,d1]
     exact SV r fs l (out++[c]) (out'++[d]) (by rw [<- e];simp) (by rw [Ç];exact h) h40 (ho.snoc d2) f2
   . rw [Ê q] at h;exact absurd h q
end Go.Sp
namespace Go.Sp
open Go
set_option maxRecDepth 100000
set_option linter.unusedVariables false
theorem T8 {l:List Aa}(h:JX l=[]):l=[]:=List.length_eq_zero_iff.1 (Gt (l:=[]) h)
theorem Q2 {x y:Aa}(h:ET x=nE y):x.Op=y.Op/\(y.Op=1->x.N=y.N)/\(2<=y.Op/\y.Op<=4->x.S=y.S)/\(¬ (1<=y.Op/\y.Op<=3)->JX x.Kids=nL y.Kids)/\(x.Kids=[]∨JX x.Kids=nL y.Kids):=by
 obtain⟨op',n',s',l',p'⟩:=x
 obtain⟨op,n,s,l,p⟩:=y
 rw [ET,nE] at h
 simp only
 split at h
 . rename_i q
   injection h with e1 e2 e3 e4
   subst e1
   exact⟨q.symm,fun _=>e2,fun k=>by omega,fun k=>by omega,.inl (T8 e4)⟩
 split at h
 . injection h with e1 e2 e3 e4
   rename_i q
   exact⟨by omega,fun k=>by omega,fun k=>e3,fun k=>by omega,.inl (T8 e4)⟩
 split at h
 . injection h with e1 e2 e3 e4
   rename_i q
   exact⟨by omega,fun k=>by omega,fun k=>e3,fun k=>by omega,.inl (T8 e4)⟩
 split at h
 . injection h with e1 e2 e3 e4
   rename_i q
   exact⟨by omega,fun k=>by omega,fun k=>e3,fun k=>e4,.inr e4⟩
 . injection h with e1 e2 e3 e4
   exact⟨e1,fun k=>by omega,fun k=>by omega,fun k=>e4,.inr e4⟩
mutual
theorem HI:∀ (y x:Aa),ET x=nE y->Da y=true->Da x=true
 |.mk op n s l p,⟨op',n',s',l',p'⟩,e,h=>by
  rw [Da,Ã,Í] at h ⊢
  rcases (Q2 e).2.2.2.2 with k|k
  . have k:l'=[]:=k
    subst k
    exact⟨by simp,by rw [GQ]⟩
  . have k:JX l'=nL l:=k
    exact⟨by rw [Gt k];exact h.1,Se l l' k h.2⟩
theorem Se:∀ (l l':List Aa),JX l'=nL l->GQ l=true->GQ l'=true
 | [],l',e,h=>by obtain rfl:=T8 e;exact h
 |x::l,[],e,h=>by have hk:=Gt e;simp at hk
 |x::l,y::l',e,h=>by
  rw [JX,nL] at e
  injection e with e1 e2
  rw [GQ,Ã] at h ⊢
  exact⟨HI x y e1 h.1,Se l l' e2 h.2⟩
end
theorem TK {y:Aa}(h:C8 y):∀ x,ET x=nE y->C8 x:=by
 induction h with
 |mk e hl _ ih =>
  intro x hx
  rcases (Q2 hx).2.2.2.2 with k|k
  . exact .mk _ (by rw [k];simp) (fun z hz=>by rw [k] at hz;cases hz)
  . refine .mk _ (by rw [Gt k];exact hl) fun z hz=>?_
    obtain⟨j,hj,rfl⟩:=Č hz
    have hj2:j<e.Kids.length:=by rw [<- Gt k];exact hj
    exact ih _ (Ú hj2) _ (Aa1 k hj hj2)
theorem W5 {y:Aa}(h:C8 y):∀ x,ET x=nE y->Ev (fun n=>BJ n x y false) true:=by
 induction h with
 |mk y hl _ ih =>
  intro x hx
  obtain⟨p1,p2,p3,p4,_⟩:=Q2 hx
  refine Ev.step (fun n=>BJ.eq_2 (n:=n) _ _ _) ?_
  have hA:(bif (y.Op == 1) then bif (x.N != y.N) then some true else bif (decide (2<=y.Op)) then bif (decide (y.Op<=4)) then bif (!decide (x.S=y.S)) then some true else some false else some false else some false
   else bif (decide (2<=y.Op)) then bif (decide (y.Op<=4)) then bif (!decide (x.S=y.S)) then some true else some false else some false else some false:Option Bool)=some false:=by
   have hB:(bif (decide (2<=y.Op)) then bif (decide (y.Op<=4)) then bif (!decide (x.S=y.S)) then some true else some false else some false else some false:Option Bool)=some false:=by
    by_cases q2:2<=y.Op
    . by_cases q4:y.Op<=4
      . rw [Ð q2,Ð q4,Ð (p3 ⟨q2,q4⟩)];rfl
      . rw [Ð q2,Ñ q4];rfl
    . rw [Ñ q2];rfl
   rw [hB]
   by_cases q1:y.Op=1
   . rw [p2 q1,ê];cases y.Op == 1<;>rfl
   . rw [show (y.Op == 1)=false by simpa using q1];rfl
  simp only [p1,ê,Ä]
  rw [hA]
  simp only [Á,Ä]
  by_cases q:1<=y.Op/\y.Op<=3
  . rw [Ð q.1,Ð q.2]
    simp only [É,Á]
    exact Ev.pure
  . have hv:(bif decide (1<=y.Op) then some (decide (y.Op<=3)) else some false:Option Bool)=some false:=by
     by_cases q1:1<=y.Op
     . rw [Ð q1,Ñ (by omega)];rfl
     . rw [Ñ q1];rfl
    rw [hv]
    have k:=p4 q
    have hlen:=Gt k
    have loop:∀ (r j:Nat),y.Kids.length-j<=r->j<=y.Kids.length->Ev (fun n=>C3 n x y false (j:Int)) (.inl ()):=by
     intro r
     induction r with
     |zero =>
      intro j h1 h2
      refine Ev.step (fun n=>C3.eq_2 (n:=n) _ _ _ _) (Ev.of fun n=>?_)
      rw [Ñ (by omega)];rfl
     |succ r ihr =>
      intro j h1 h2
      by_cases h3:j<y.Kids.length
      . refine Ev.step (fun n=>C3.eq_2 (n:=n) _ _ _ _) ?_
        have h4:j<x.Kids.length:=by omega
        simp only [Ð (show (j:Int)<(x.Kids.length:Int) by omega),É,KL h3,KL h4,Á,Ahr h3 (show y.Kids.length<=140737488355328 by omega)]
        exact Ev.bind (ih _ (Ú h3) _ (Aa1 k h4 h3)) (by simp only [à,Ä];exact ihr (j+1) (by omega) (by omega))
      . refine Ev.step (fun n=>C3.eq_2 (n:=n) _ _ _ _) (Ev.of fun n=>?_)
        rw [Ñ (by omega)];rfl
    simp only [Á,Ä,hlen,ê]
    exact Ev.bind (loop y.Kids.length 0 (by omega) (by omega)) Ev.pure
theorem Dn.at:∀ {m l:List Ag},Dn m l->∀ {k:Nat} (h1:k<m.length) (h2:k<l.length),Alike m[k] l[k]
 |d::m,c::l,h,0,h1,h2=>h.1
 |d::m,c::l,h,k+1,h1,h2=>h.2.at (by simpa using h1) (by simpa using h2)
 | [],_,h,k,h1,h2=>by simp at h1
 |d::m,[],h,k,h1,h2=>h.elim
theorem UY {m l:List Ag}(h:Dn m l)(hf:∀ c∈l,C8 c.From/\C8 c.To/\C8 c.When)(h50:l.length<=50):∀ (r k:Nat),k+r=l.length->Ev (fun n=>Ez n m l false (k:Int)) (.inl ())
 |0,k,hk=>by
  have:=h.len
  refine Ev.step (fun n=>Ez.eq_2 (n:=n) _ _ _ _) (Ev.of fun n=>?_)
  rw [Ñ (by omega)];rfl
 |r+1,k,hk=>by
  have hl:=h.len
  have h1:k<m.length:=by omega
  have h2:k<l.length:=by omega
  obtain⟨a1,a2,a3,a4,a5,a6,a7,a8⟩:=h.at h1 h2
  obtain⟨f1,f2,f3⟩:=hf _ (Ú h2)
  have w1:À ((k:Int)+1)=((k+1:Nat):Int):=by rw [A2]<;>omega
  refine Ev.step (fun n=>Ez.eq_2 (n:=n) _ _ _ _) ?_
  simp only [Ð (show (k:Int)<(m.length:Int) by omega),É,KL h1,KL h2,Á]
  refine Ev.bind (W5 f1 _ a6) (Ev.bind (W5 f2 _ a7) (Ev.bind (W5 f3 _ a8) ?_))
  simp only [a1,a2,a3,a4,a5,ê,ø,à,Ä,Á,w1]
  exact UY h hf h50 r (k+1) (by omega)
theorem Adk {m l:List Ag}(h:Dn m l)(hf:∀ c∈l,C8 c.From/\C8 c.To/\C8 c.When)(h50:l.length<=50):Ev (fun n=>Hs n m l false) true:=by
 unfold Hs
 simp only [h.len,ê,Ä]
 exact Ev.bind (UY h hf h50 l.length 0 (by omega)) Ev.pure
theorem Td {x y:Aa}{t:Int}(e:ET x=nE y)(h:DU y t=0):DU x t=0:=by
 obtain⟨h1,h2⟩:=J7 h
 obtain⟨q1,q2⟩:=TL y x e h1
 unfold DU
 rw [È (by omega),È (by omega)]
theorem Uj {out out':List Ag}{c d:Ag}(ho:Dn out' out)(h:Alike d c)(hc:Dt out c=0):Dt out' d=0:=by
 have hp:=T5 hc
 obtain⟨a1,a2,a3,a4,a5,a6,a7,a8⟩:=h
 unfold Dt Hp at hc ⊢
 have e:HN d=HN c:=by unfold HN;rw [a2,a3,a4,a5]
 rw [a1,ho.named,a2,e,Td a6 hp.from_,Td a7 hp.to_,Td a8 hp.when_]
 rw [hp.from_,hp.to_,hp.when_] at hc
 exact hc
theorem Dn.take:∀ {m l:List Ag},Dn m l->∀ k,Dn (m.take k) (l.take k)
 | [],[],h,k=>by rw [List.take_nil];exact trivial
 |d::m,c::l,h,0=>trivial
 |d::m,c::l,h,k+1=>⟨h.1,h.2.take k⟩
 | [],c::l,h,k=>h.elim
 |d::m,[],h,k=>h.elim
theorem KN {m l:List Ag}(h:Dn m l):∀ (m1 l1:List Ag) (k:Nat),Dn m1 l1->Du l l1 k=0->Du m m1 k=0
 | [],[],k,_,_=>by rw [Du]
 |d::m1,c::l1,k,h1,hc=>by
  rw [Du] at hc ⊢
  by_cases q:Dt (l.take k) c=0
  . rw [È (by omega)] at hc
    have:=Uj (h.take k) h1.1 q
    rw [È (by omega)]
    exact KN h m1 l1 (k+1) h1.2 hc
  . rw [Ê q] at hc;exact absurd hc q
 | [],c::l1,k,h1,_=>h1.elim
 |d::m1,[],k,h1,_=>h1.elim
theorem Uk {l:List Ag}(h:Ia l=0):l.length<=40/\Du l l 0=0:=by
 unfold Ia at h
 split at h
 . exact absurd h (by decide)
 . exact⟨by omega,h⟩
theorem Wi {m l:List Ag}(h:Dn m l)(hc:Ia l=0):Ia m=0:=by
 obtain⟨h1,h2⟩:=Uk hc
 unfold Ia
 rw [È (by rw [h.len];omega)]
 exact KN h m l 0 h h2
theorem R6 {l:List Ag}:∀ (r:List Ag) (k:Nat),Du l r k=0->∀ c∈r,∃ out,Pass out c
 | [],_,_,c,hc=>by cases hc
 |x::r,k,h,c,hc=>by
  rw [Du] at h
  by_cases q:Dt (l.take k) x=0
  . rw [È (by omega)] at h
    rcases List.mem_cons.1 hc with rfl|hc
    . exact⟨_,T5 q⟩
    . exact R6 r (k+1) h c hc
  . rw [Ê q] at h;exact absurd h q
end Go.Sp
namespace Go.Sp
open Go
set_option maxRecDepth 100000
set_option linter.unusedVariables false
theorem Tl {e:Aa}{n:Int}(h:0<=EU e n):(P4 e:Int)<=n/\0<=n:=by
 unfold EU at h
 split at h
 . omega
 . have:=Ya e n h;omega
theorem Zu {c:Ag}{n:Int}(h:0<=DT c n):(P4 c.From:Int)<=n/\(P4 c.To:Int)<=n/\(P4 c.When:Int)<=n:=by
 unfold DT at h
 have g2:=F9 c.From n
 have g4:=F9 c.To (EU c.From n)
 obtain⟨a1,a2⟩:=Tl h
 obtain⟨b1,b2⟩:=Tl a2
 obtain⟨c1,c2⟩:=Tl b2
 exact⟨c1,by omega,by omega⟩
def W4 (c:Ag):Prop:=P4 c.From<=200/\P4 c.To<=200/\P4 c.When<=200
theorem Yq:∀ (l:List Ag) (n:Int),0<=JO l n->n<=200->∀ c∈l,W4 c
 | [],_,_,_,c,hc=>by simp at hc
 |x::l,n,h,hn,c,hc=>by
  rw [JO] at h
  split at h
  . omega
  . have g:=KC x n
    have g2:=Ri l (DT x n)
    rcases List.mem_cons.1 hc with rfl|hc
    . have:=Zu (c:=c) (n:=n) (by omega)
      exact⟨by omega,by omega,by omega⟩
    . exact Yq l _ h (by omega) c hc
theorem XP:∀ l:List Ao,(∀ a∈l,(pA a).length<=2)->(Jm l).length<=2*l.length
 | [],_=>Õ _
 |a::l,h=>by
  have h1:=h a (by simp)
  have h2:=XP l fun b hb=>h b (ù _ hb)
  show (pA a++Jm l).length<=_
  rw [Ç,Æ];omega
theorem WG (v:Int):(pA (IJ v)).length<=2:=by
 unfold pA IJ
 simp only [show ¬ ((2:Int)=1) by decide,í,ë]
 split<;>simp
theorem HC (e:Aa):pA (Gq e)=tS ⟨#[40]⟩::(Cz e++[tS ⟨#[41]⟩]):=by
 unfold pA Gq
 simp only [show ¬ ((5:Int)=1) by decide,show ¬ ((5:Int)=2) by decide,show ¬ ((5:Int)=3) by decide,show ¬ ((5:Int)=4) by decide,í,ë]
theorem XR (s:Â):pA (MF s)=[⟨1,0,s,0⟩]:=by unfold pA MF;rw [Ê rfl]
theorem Vj:pA J5=[tS ⟨#[45,62]⟩]:=by
 unfold pA J5
 simp only [show ¬ ((4:Int)=1) by decide,show ¬ ((4:Int)=2) by decide,show ¬ ((4:Int)=3) by decide,í,ë]
theorem PQ (c:Ag):pF (Cu c)=⟨1,0,Lh c.Kind,0⟩::(Jm (E3 c)++[tS ⟨#[59]⟩]):=rfl
theorem Q4 (c:Ag):Jm (E3 c)=pA (MF c.Name)++(pA (IJ c.Rank)++(pA (IJ c.Known)++(pA (Gq c.From)++(pA (Gq c.To)++(pA (Gq c.When)++Jm (if c.Kind=3 then J5::Dl c.Houses 0 12 else Dl c.Houses 0 12)))))):=rfl
theorem Vh {c:Ag}(h:W4 c):(pF (Cu c)).length<=3700:=by
 have h0:=XP (if c.Kind=3 then J5::Dl c.Houses 0 12 else Dl c.Houses 0 12) fun a ha=>by
  have hh:∀ a∈Dl c.Houses 0 12,(pA a).length<=2:=fun a ha=>by
   obtain⟨j,e,_⟩:=IN _ _ _ _ ha
   rw [e];exact WG _
  split at ha
  . rcases List.mem_cons.1 ha with rfl|ha
    . rw [Vj];simp
    . exact hh a ha
  . exact hh a ha
 have hl:(if c.Kind=3 then J5::Dl c.Houses 0 12 else Dl c.Houses 0 12).length<=13:=by
  have:=Nk c.Houses 12 0
  split
  . rw [Æ];omega
  . omega
 have f1:=PO _ c.From (Õ _)
 have f2:=PO _ c.To (Õ _)
 have f3:=PO _ c.When (Õ _)
 have n1:=WG c.Rank
 have n2:=WG c.Known
 obtain⟨h1,h2,h3⟩:=h
 rw [PQ,Q4,XR,HC,HC,HC]
 simp only [Æ,Ç,Î]
 omega
theorem NF:∀ l:List Ag,(∀ c∈l,W4 c)->(Gp (l.map Cu)).length<=3700*l.length
 | [],_=>Õ _
 |c::l,h=>by
  have h1:=Vh (h c (by simp))
  have h2:=NF l fun b hb=>h b (ù _ hb)
  show (pF (Cu c)++Gp (l.map Cu)).length<=_
  rw [Ç,Æ];omega
theorem S8 (c:UInt8):ES (c.toNat:Int)=Lx.isLetter c/\(ES (c.toNat:Int)||Fx (c.toNat:Int))=Lx.isWord c:=by
 have key:∀ n:Fin 256,ES (n.val:Int)=Lx.isLetter (UInt8.ofNat n.val)/\(ES (n.val:Int)||Fx (n.val:Int))=Lx.isWord (UInt8.ofNat n.val):=by decide +kernel
 have h1:=key ⟨c.toNat,c.toNat_lt⟩
 simp only [UInt8.ofNat_toNat] at h1
 exact h1
theorem Ad4 {s:Â}(h:K1 s=true):BQ s=true:=by
 unfold K1 Ma at h
 simp only [Ã,Í,č] at h
 obtain⟨⟨h0,h1⟩,h2⟩:=h
 have hsz:s.data.toList.length=s.size:=rfl
 rw [List.all_map,Ü] at h1
 unfold BQ
 rw [Ð (show 0<s.size/\s.size<=32 by omega)]
 have e2:s.data.toList.all Lx.isWord=true:=by
  rw [Ü]
  intro c hc
  rw [<- (S8 c).2];exact h1 c hc
 have e1:Lx.headIs Lx.isLetter s.data.toList=true:=by
  cases hl:s.data.toList with
  |nil=>rw [hl] at hsz;simp at hsz;omega
  |cons c r =>
   show Lx.isLetter c=true
   have a:=h1 c (by rw [hl];simp)
   rw [hl] at h2
   have h2:Fx (c.toNat:Int)=false:=h2
   have a:(ES (c.toNat:Int)||Fx (c.toNat:Int))=true:=a
   rw [h2,Ē] at a
   rw [<- (S8 c).1];exact a
 rw [e1,e2];rfl
theorem Ac6 {k:Int}:BQ (Lh k)=true:=by
 unfold Lh
 split
 . decide +kernel
 . split<;>decide +kernel
theorem Agh {v:Int}(h:0<=v/\v<=41666):Q7 (IJ v)=true/\J2 (pA (IJ v)):=by
 have h1:Hl v=true:=by unfold Hl;rw [Ð (by omega)]
 unfold Q7 pA IJ
 simp only [show ¬ ((2:Int)=1) by decide,í,ë,È (show ¬ v<0 by omega),h1]
 exact⟨trivial,.c1 (by decide) .nil⟩
theorem Aco {out:List Ag}{c:Ag}(hp:Pass out c){a:Ao}(h:a∈E3 c):Q7 a=true/\J2 (pA a):=by
 rcases Mz hp h with (rfl|rfl|⟨v,rfl,hv⟩)|⟨e,rfl,he⟩
 . rw [XR]
   exact⟨by unfold Q7 MF;rw [Ê rfl];exact Ad4 hp.nm,.c1 (by decide) .nil⟩
 . rw [Vj]
   exact⟨rfl,.cons .nil⟩
 . exact Agh hv
 . have hf:(Bw e).2.2.E=0:=by
    rcases he with rfl|rfl|rfl
    . exact (J7 hp.from_).1
    . exact (J7 hp.to_).1
    . exact (J7 hp.when_).1
   obtain⟨o1,o2⟩:=Yn e hf
   rw [HC]
   refine⟨?_,.cons (o2.app (.cons .nil))⟩
   unfold Q7 Gq
   simp only [show ¬ ((5:Int)=1) by decide,show ¬ ((5:Int)=2) by decide,show ¬ ((5:Int)=3) by decide,show ¬ ((5:Int)=4) by decide,í,ë,o1]
theorem J2.args:∀ {l:List Ao},(∀ a∈l,J2 (pA a))->J2 (Jm l)
 | [],_=>.nil
 |a::l,h=>(h a (by simp)).app (J2.args fun b hb=>h b (ù _ hb))
theorem SH:∀ {l:List Ag},(∀ c∈l,∃ out,Pass out c)->JG (l.map Cu)=true/\J2 (Gp (l.map Cu))
 | [],_=>⟨rfl,.nil⟩
 |c::l,h=>by
  obtain⟨out,hp⟩:=h c (by simp)
  obtain⟨h1,h2⟩:=SH (l:=l) fun b hb=>h b (ù _ hb)
  have h3:(E3 c).all Q7=true:=List.all_eq_true.2 fun a ha=>(Aco hp ha).1
  refine⟨?_,?_⟩
  . show ((BQ (Lh c.Kind)&&((E3 c).all Q7&&true))&&JG (l.map Cu))=true
    rw [h1,h3,Ac6];rfl
  . show J2 (pF (Cu c)++Gp (l.map Cu))
    refine J2.app ?_ h2
    rw [PQ]
    exact .c1 (by decide) ((J2.args fun a ha=>(Aco hp ha).2).app (.cons .nil))
def Y6 (c:Ag):Prop:=C8 c.From/\C8 c.To/\C8 c.When
theorem Ze {out:List Ag}{c:Ag}(hp:Pass out c)(h:Y6 c):JW (Cu c):=by
 obtain⟨_,_,l3⟩:=OP hp
 refine .mk _ (by show (E3 c).length<=_;omega) (fun a ha=>?_) (ú _) fun x hx=>by cases hx
 have h0:∀ {a b d:Int} {s:Â},C8 ⟨a,b,s,[],d⟩:=.mk _ (by simp) fun x hx=>by cases hx
 rcases Mz hp ha with (rfl|rfl|⟨v,rfl,hv⟩)|⟨e,rfl,he⟩
 . exact h0
 . exact h0
 . exact h0
 . rcases he with rfl|rfl|rfl
   . exact h.1
   . exact h.2.1
   . exact h.2.2
theorem Qr {l:List Ag}(hc:Ia l=0)(hsm:∀ c∈l,Lv c)(hf:∀ c∈l,Y6 c)(hlen:(Gp (l.map Cu)).length<=900000) :
 ∃ m q,Ev (fun n=>Dk n (E0 (Gp (l.map Cu)))) (m,q)/\((q.E≠0/\Ev (fun n=>BP n l) (⟨#[]⟩,2))∨(q=⟨0,0⟩/\IB m=WM (l.map Cu)/\Ev (fun n=>BP n l) (E0 (Gp (l.map Cu)),0))):=by
 obtain⟨h40,hcf⟩:=Uk hc
 have hps:=R6 l 0 hcf
 obtain⟨ho,h3⟩:=SH hps
 have hF:∀ f∈l.map Cu,JW f:=fun f h=>by
  obtain⟨c,hcl,rfl⟩:=List.mem_map.1 h
  obtain⟨out,hp⟩:=hps c hcl
  exact Ze hp (hf c hcl)
 have hp:=Q1 (l:=l.map Cu) (fun f h=>Aej (Z0 (hF f h) (Q6 ho f h))) (by rw [Ó];omega) (l.map Cu).length 0 ⟨[],false⟩ (by simp) (by simpa using hlen)
 rw [Ą] at hp
 obtain⟨hw,ht⟩:=O3 _ ho
 obtain⟨m,q,h1,fm,h2⟩:=Af6 hw ht False False.elim
 have st:∀ r,Ev (fun n=>((Dk n (E0 (Gp (l.map Cu)))).bind fun f=>bif (f.2.E != 0) then some (⟨#[]⟩,2) else some (E0 (Gp (l.map Cu)),0):Option (ByteArray×Int))) r->Ev (fun n=>BP n l) r:=by
  intro r hr
  unfold BP
  refine Ev.bind (Ry l hsm) ?_
  simp only [hc,ê,Ä]
  have hs:=XJ l (by omega) (fun c hcl=>by obtain⟨out,hp⟩:=hps c hcl;exact hp.kind) l 0 [] rfl (ú _) (by simp)
  rw [ö] at hs
  refine Ev.bind hs (Ev.bind (a:=r) ?_ Ev.pure)
  unfold Jl
  refine Ev.bind hp ?_
  simp only [ho,à,Ē,Ä,ö,WT ht h3 hlen,Á]
  exact hr
 refine⟨m,q,h1,?_⟩
 rcases h2 with⟨h2,_⟩|⟨rfl,h3⟩
 . refine .inl ⟨h2,st _ (Ev.bind h1 ?_)⟩
   simp only [show (q.E != 0)=true by simpa using h2,É];exact Ev.pure
 . refine .inr ⟨rfl,h3,st _ (Ev.bind h1 ?_)⟩
   simp only [ê,Ä];exact Ev.pure
theorem Aai {d c:Ag}(h:Alike d c):pF (Cu d)=pF (Cu c):=by
 obtain⟨a1,a2,a3,a4,a5,a6,a7,a8⟩:=h
 rw [PQ,PQ,Q4,Q4,HC,HC,HC,HC,HC,HC,a1,a2,a3,a4,a5,(WC a6).1,(WC a7).1,(WC a8).1]
theorem Sr:∀ {m l:List Ag},Dn m l->Gp (m.map Cu)=Gp (l.map Cu)
 | [],[],_=>rfl
 |d::m,c::l,h=>by
  show pF (Cu d)++Gp (m.map Cu)=pF (Cu c)++Gp (l.map Cu)
  rw [Aai h.1,Sr h.2]
 | [],c::l,h=>h.elim
 |d::m,[],h=>h.elim
theorem Dn.each {P Q:Ag->Prop}(hPQ:∀ d c,Alike d c->P c->Q d):∀ {m l:List Ag},Dn m l->(∀ c∈l,P c)->∀ d∈m,Q d
 | [],[],_,_,d,hd=>by cases hd
 |e::m,c::l,h,hp,d,hd=>by
  rcases List.mem_cons.1 hd with rfl|hd
  . exact hPQ _ _ h.1 (hp c (by simp))
  . exact Dn.each hPQ h.2 (fun b hb=>hp b (ù _ hb)) d hd
 | [],c::l,h,_,_,_=>h.elim
 |d::m,[],h,_,_,_=>h.elim
theorem SI:∀ {m:List Ai} {l:List Ag},IB m=WM (l.map Cu)->∀ f∈m,∃ c∈l,ZR f=nF (Cu c)
 | [],_,_,f,hf=>by cases hf
 |g::m,[],h,f,hf=>by cases h
 |g::m,c::l,h,f,hf=>by
  have h:ZR g::IB m=nF (Cu c)::WM (l.map Cu):=h
  injection h with h1 h2
  rcases List.mem_cons.1 hf with rfl|hf
  . exact⟨c,by simp,h1⟩
  . obtain⟨d,hd,e⟩:=SI h2 f hf
    exact⟨d,ù _ hd,e⟩
theorem US {out:List Ag}{c:Ag}{f:Ai}(hp:Pass out c)(hs:Lv c)(hf:ZR f=nF (Cu c)):ZT f:=by
 obtain⟨w,l',b,p⟩:=f
 have hf:(⟨w,l'.map Ns,IB b,0⟩:Ai)=⟨Lh c.Kind,(E3 c).map nA,[],0⟩:=hf
 injection hf with e1 e2 e3 _
 obtain rfl:b=[]:=by cases b with|nil=>rfl|cons x b=>cases e3
 have hl:l'.length=(E3 c).length:=by have:=ü List.length e2;simpa using this
 obtain⟨_,_,l3⟩:=OP hp
 refine⟨by show l'.length<=_;omega,ú _,fun a ha=>?_⟩
 have ha:Ns a∈(E3 c).map nA:=by rw [<- e2];exact List.mem_map.2 ⟨a,ha,rfl⟩
 obtain⟨x,hx,hxa⟩:=List.mem_map.1 ha
 have hE:ET a.E=(nA x).E:=(ü Ao.E hxa).symm
 have hz:nE ⟨0,0,⟨#[]⟩,[],0⟩=⟨0,0,⟨#[]⟩,[],0⟩:=by rw [nE];rfl
 have h0:Da ⟨0,0,⟨#[]⟩,[],0⟩=true:=by rw [Da,GQ];rfl
 rcases Mz hp hx with (rfl|rfl|⟨v,rfl,hv⟩)|⟨e,rfl,he⟩
 . exact HI _ _ (hE.trans hz.symm) h0
 . exact HI _ _ (hE.trans hz.symm) h0
 . exact HI _ _ (hE.trans hz.symm) h0
 . refine HI e _ hE ?_
   rcases he with rfl|rfl|rfl
   . exact hs.1
   . exact hs.2.1
   . exact hs.2.2
theorem YI (l:List Ag):Ev (fun n=>DA n l) true:=by
 unfold DA
 refine Ev.bind (Ahe l 200 (by decide) (by decide)) ?_
 by_cases q:l.length<=50/\0<=JO l 200
 rotate_left
 . simp only [Ñ q,é,É,UW,Á];exact Ev.pure
 simp only [Ð q,à,Ä,UW,Á,É]
 have hsm:=Rh l 200 q.2 (by decide)
 by_cases hc:Ia l=0
 rotate_left
 . have hs:Ev (fun n=>BP n l) (⟨#[]⟩,Ia l):=by
    unfold BP
    refine Ev.bind (Ry l hsm) ?_
    rw [show (Ia l != 0)=true by simpa using hc];exact Ev.pure
   refine Ev.bind hs ?_
   simp only [show (Ia l != 0)=true by simpa using hc,É,Á,ø];exact Ev.pure
 have hsz:=Yq l 200 q.2 (by decide)
 have hfine:∀ c∈l,Y6 c:=fun c h=>by
  obtain⟨h1,h2,h3⟩:=hsz c h
  exact⟨NW _ _ (Õ _) (by omega),NW _ _ (Õ _) (by omega),NW _ _ (Õ _) (by omega)⟩
 obtain⟨h40,hcf⟩:=Uk hc
 have hlen:(Gp (l.map Cu)).length<=900000:=by have:=NF l hsz;omega
 obtain⟨m,p,h1,h2⟩:=Qr hc hsm hfine hlen
 rcases h2 with⟨_,h2⟩|⟨rfl,h3,h2⟩
 . refine Ev.bind h2 ?_
   simp only [show ((2:Int) != 0)=true from rfl,É,ø,Á];exact Ev.pure
 refine Ev.bind h2 ?_
 simp only [ê,Ä]
 obtain⟨l',c1,c2⟩:=SV l m l [] [] rfl hcf h40 trivial h3
 have hps:=R6 l 0 hcf
 have hml:m.length=l.length:=by
  have:=ü List.length h3
  rwa [UQ,XV,Ó] at this
 have hloop:=We m ⟨0,0⟩ (by omega) (fun f hf=>by
  obtain⟨c,hcl,e⟩:=SI h3 f hf
  obtain⟨out,hp⟩:=hps c hcl
  exact US hp (hsm c hcl) e) m 0 [] rfl (ú _) (by simp)
 rw [c1] at hloop
 have hcomp:Ev (fun n=>CR n (E0 (Gp (l.map Cu)))) (l',⟨0,0⟩):=by
  unfold CR
  refine Ev.bind h1 ?_
  simp only [ê,Ä,Á]
  exact Ev.bind hloop Ev.pure
 refine Ev.bind hcomp ?_
 have hc':=Wi c2 hc
 have hsm':∀ c∈l',Lv c:=c2.each (fun d c h k=>⟨HI _ _ h.2.2.2.2.2.1 k.1,HI _ _ h.2.2.2.2.2.2.1 k.2.1,HI _ _ h.2.2.2.2.2.2.2 k.2.2⟩) hsm
 have hfine':∀ c∈l',Y6 c:=c2.each (fun d c h k=>⟨TK k.1 _ h.2.2.2.2.2.1,TK k.2.1 _ h.2.2.2.2.2.2.1,TK k.2.2 _ h.2.2.2.2.2.2.2⟩) hfine
 have ep:=Sr c2
 obtain⟨m',p',g1,g2⟩:=Qr hc' hsm' hfine' (by rw [ep];exact hlen)
 rw [ep] at g1 g2
 have hu:=h1.uniq g1
 injection hu with hu1 hu2
 have g3:Ev (fun n=>BP n l') (E0 (Gp (l.map Cu)),0):=by
  rcases g2 with⟨g2,_⟩|⟨_,_,g2⟩
  . rw [<- hu2] at g2;exact absurd rfl g2
  . exact g2
 refine Ev.bind g3 ?_
 refine Ev.bind (a:=true) ?_ Ev.pure
 simp only [è,É]
 refine Ev.bind (Adk c2 hfine (by omega)) ?_
 simp only [É]
 refine Ev.bind (Ry l' hsm') ?_
 simp only [hc',è,É,ø]
 exact Ev.pure
end Go.Sp
