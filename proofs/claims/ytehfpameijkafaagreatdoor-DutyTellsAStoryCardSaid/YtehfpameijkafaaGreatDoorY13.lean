/-
  The contracts of library functions that the lexer calls, laid at this program (written by the kit's own tools, in plain words). Plain facts of sources, as bytes. No program. What strconv.Atoi does with a word that begins with a digit. No program. Plain facts that the walks of the lexer use. Plain facts of what is left of a source. Plain facts for examples: what is read by running; line feeds and wide characters. No program. DutyTellsAStory: the source in plain words: digits, tokens. No program. The specification's types are those that find finds. No program. The specification's Type, Known and Last, in plain words. No program. Known, Last and products of the specification, in plain words. No program. The specification's values are those that value computes. No program. Few nodes, in plain words. No program. Value in plain words; StatuteIsTyped, the plain law. No program. Names: what the program and the specification call one. No program. Whether a clause of a list has a name. No program. Check, in plain words: the program's and the specification's. No program. Check of clauses: the program's and the specification's answer alike. No program. StatuteValuesAsSpecified, the plain law. No program. DutyTellsAStory: the source compiled, whatever the number in it. No program. The stable sort of duty's spans: swaps, rotations. No program. The stable sort of duty's spans: insertion, rotation. No program. The stable sort of duty's spans: merging. No program. The stable sort of duty's spans: merging in place, the whole sort. No program. The spans of duty: what they are. No program. The duty on a day, by its spans, in plain words. No program. The duty on a day by what applies on it: in any order. No program. The duty on a day: clauses in addition, other numbers, the opposite order. No program. The stretches of duty, in plain words. No program. DutyStretchesCover as a plain function. (Printed by lift.py.) sanity, run by the kernel. No program. DutyStretchesCover: the plain law. No program. DutyRanksDecide as a plain function. (Printed by lift.py.) DutyRanksDecide: the plain law. No program. DutyTellsAStory: the clauses of the source, whatever the number in it. No program. DutyTellsAStory: the tokens of the source, whatever the number in it. No program. DutyTellsAStory: the plain law. No program. DutyTellsAStory: the plain law, joined. No program.
-/
import Derived.Shelf.Small.Strs
import Derived.Shelf.Strings.Search3
import Derived.Shelf.Strings.Prefix
import Derived.Shelf.Strings.Fields
import Derived.Shelf.LaysC
import Derived.Shelf.Strconv.AtoiAll
import Derived.Test.YtehfpameijkafaaGreatDoorProg
import Derived.Lib.AtoiAll
import Derived.Laws.RangeAny
import Derived.KernelRfl
import Derived.Test.YtehfpameijkafaaGreatDoorY11
import Derived.Test.YtehfpameijkafaaGreatDoorY12
set_option linter.unusedVariables false
set_option linter.unusedSimpArgs false
namespace Go.Proofs
open Go.Shelf
def Tryz.lays137_ren:Go.Shelf.Ren:=⟨fun|137=>156|217=>166|266=>176|n=>n,fun|9=>9|5=>5|3=>3|n=>n,fun|n=>n⟩
theorem Tryz.lays137:Go.Proofs.Lays.n137 Tryz.prog Tryz.lays137_ren:={
 mixed:=by kernel_rfl
 f137:=Tryz.func156.trans (congrArg some (by kernel_rfl))
 f217:=Tryz.func166.trans (congrArg some (by kernel_rfl))
 f266:=Tryz.func176.trans (congrArg some (by kernel_rfl))
 t3:=Tryz.underlying3
 a3:=Tryz.isAgg3
 z3:=Tryz.sizeOf3
 v3:=Tryz.zeroValue3
 t5:=Tryz.underlying5
 a5:=Tryz.isAgg5
 z5:=Tryz.sizeOf5
 v5:=Tryz.zeroValue5
 t9:=Tryz.underlying9
 a9:=Tryz.isAgg9
 z9:=Tryz.sizeOf9
 v9:=Tryz.zeroValue9 }
open Go.RowKit in
theorem Tryz.strings_IndexByte (s:ByteArray)(c:Int)(w:World) :
 Calls Tryz.prog 156 #[.string s,.int .u8 c] w fun e w'=>e=.returned (.int .i64 (Lib.indexByte s.data.toList c.toNat.toUInt8))/\w'=w:=Any.strings_IndexByte Tryz.lays137 s c w
def Tryz.laysC172_ren:Go.Shelf.Ren:=⟨fun|172=>168|244=>177|245=>178|247=>184|279=>185|280=>186|281=>187|282=>188|287=>191|316=>192|171=>194|205=>193|321=>200|322=>201|243=>202|246=>204|283=>205|284=>206|285=>207|286=>208|129=>131|317=>209|318=>210|319=>211|320=>212|337=>213|338=>214|n=>n,fun|9=>9|3=>3|75=>239|76=>240|4=>4|5=>5|167=>255|37=>133|0=>0|85=>256|2=>2|168=>258|53=>205|175=>266|46=>175|210=>270|127=>283|145=>286|143=>284|21=>21|171=>292|173=>294|212=>296|51=>203|20=>20|213=>297|232=>298|233=>299|80=>300|n=>n,fun|15=>3|16=>4|17=>5|18=>6|19=>7|n=>n⟩
theorem Tryz.laysC172:Go.Proofs.LaysC.n172 Tryz.prog Tryz.laysC172_ren:={
 mixed:=by kernel_rfl
 f129:=Tryz.func131.trans (congrArg some (by kernel_rfl))
 f171:=Tryz.func194.trans (congrArg some (by kernel_rfl))
 f172:=Tryz.func168.trans (congrArg some (by kernel_rfl))
 f205:=Tryz.func193.trans (congrArg some (by kernel_rfl))
 f243:=Tryz.func202.trans (congrArg some (by kernel_rfl))
 f244:=Tryz.func177.trans (congrArg some (by kernel_rfl))
 f245:=Tryz.func178.trans (congrArg some (by kernel_rfl))
 f246:=Tryz.func204.trans (congrArg some (by kernel_rfl))
 f247:=Tryz.func184.trans (congrArg some (by kernel_rfl))
 f279:=Tryz.func185.trans (congrArg some (by kernel_rfl))
 f280:=Tryz.func186.trans (congrArg some (by kernel_rfl))
 f281:=Tryz.func187.trans (congrArg some (by kernel_rfl))
 f282:=Tryz.func188.trans (congrArg some (by kernel_rfl))
 f283:=Tryz.func205.trans (congrArg some (by kernel_rfl))
 f284:=Tryz.func206.trans (congrArg some (by kernel_rfl))
 f285:=Tryz.func207.trans (congrArg some (by kernel_rfl))
 f286:=Tryz.func208.trans (congrArg some (by kernel_rfl))
 f287:=Tryz.func191.trans (congrArg some (by kernel_rfl))
 f316:=Tryz.func192.trans (congrArg some (by kernel_rfl))
 f317:=Tryz.func209.trans (congrArg some (by kernel_rfl))
 f318:=Tryz.func210.trans (congrArg some (by kernel_rfl))
 f319:=Tryz.func211.trans (congrArg some (by kernel_rfl))
 f320:=Tryz.func212.trans (congrArg some (by kernel_rfl))
 f321:=Tryz.func200.trans (congrArg some (by kernel_rfl))
 f322:=Tryz.func201.trans (congrArg some (by kernel_rfl))
 f337:=Tryz.func213.trans (congrArg some (by kernel_rfl))
 f338:=Tryz.func214.trans (congrArg some (by kernel_rfl))
 t0:=Tryz.underlying0
 a0:=Tryz.isAgg0
 z0:=Tryz.sizeOf0
 v0:=Tryz.zeroValue0
 t2:=Tryz.underlying2
 a2:=Tryz.isAgg2
 z2:=Tryz.sizeOf2
 v2:=Tryz.zeroValue2
 t3:=Tryz.underlying3
 a3:=Tryz.isAgg3
 z3:=Tryz.sizeOf3
 v3:=Tryz.zeroValue3
 t4:=Tryz.underlying4
 a4:=Tryz.isAgg4
 z4:=Tryz.sizeOf4
 v4:=Tryz.zeroValue4
 t5:=Tryz.underlying5
 a5:=Tryz.isAgg5
 z5:=Tryz.sizeOf5
 v5:=Tryz.zeroValue5
 t9:=Tryz.underlying9
 a9:=Tryz.isAgg9
 z9:=Tryz.sizeOf9
 v9:=Tryz.zeroValue9
 t20:=Tryz.underlying20
 a20:=Tryz.isAgg20
 z20:=Tryz.sizeOf20
 v20:=Tryz.zeroValue20
 t21:=Tryz.underlying21
 a21:=Tryz.isAgg21
 z21:=Tryz.sizeOf21
 v21:=Tryz.zeroValue21
 t37:=Tryz.underlying133
 a37:=Tryz.isAgg133
 z37:=Tryz.sizeOf133
 v37:=Tryz.zeroValue133
 t46:=Tryz.underlying175
 a46:=Tryz.isAgg175
 z46:=Tryz.sizeOf175
 v46:=Tryz.zeroValue175
 t51:=Tryz.underlying203
 a51:=Tryz.isAgg203
 z51:=Tryz.sizeOf203
 v51:=Tryz.zeroValue203
 t53:=Tryz.underlying205
 a53:=Tryz.isAgg205
 z53:=Tryz.sizeOf205
 v53:=Tryz.zeroValue205
 t75:=Tryz.underlying239
 a75:=Tryz.isAgg239
 z75:=Tryz.sizeOf239
 v75:=Tryz.zeroValue239
 t76:=Tryz.underlying240
 a76:=Tryz.isAgg240
 z76:=Tryz.sizeOf240
 v76:=Tryz.zeroValue240
 t85:=Tryz.underlying256
 a85:=Tryz.isAgg256
 z85:=Tryz.sizeOf256
 v85:=Tryz.zeroValue256
 t127:=Tryz.underlying283
 a127:=Tryz.isAgg283
 z127:=Tryz.sizeOf283
 v127:=Tryz.zeroValue283
 t143:=Tryz.underlying284
 a143:=Tryz.isAgg284
 z143:=Tryz.sizeOf284
 v143:=Tryz.zeroValue284
 t145:=Tryz.underlying286
 a145:=Tryz.isAgg286
 z145:=Tryz.sizeOf286
 v145:=Tryz.zeroValue286
 t167:=Tryz.underlying255
 a167:=Tryz.isAgg255
 z167:=Tryz.sizeOf255
 v167:=Tryz.zeroValue255
 t168:=Tryz.underlying258
 a168:=Tryz.isAgg258
 z168:=Tryz.sizeOf258
 v168:=Tryz.zeroValue258
 t171:=Tryz.underlying292
 a171:=Tryz.isAgg292
 z171:=Tryz.sizeOf292
 v171:=Tryz.zeroValue292
 t173:=Tryz.underlying294
 a173:=Tryz.isAgg294
 z173:=Tryz.sizeOf294
 v173:=Tryz.zeroValue294
 t175:=Tryz.underlying266
 a175:=Tryz.isAgg266
 z175:=Tryz.sizeOf266
 v175:=Tryz.zeroValue266
 t210:=Tryz.underlying270
 a210:=Tryz.isAgg270
 z210:=Tryz.sizeOf270
 v210:=Tryz.zeroValue270
 t212:=Tryz.underlying296
 a212:=Tryz.isAgg296
 z212:=Tryz.sizeOf296
 v212:=Tryz.zeroValue296
 t213:=Tryz.underlying297
 a213:=Tryz.isAgg297
 z213:=Tryz.sizeOf297
 t232:=Tryz.underlying298
 a232:=Tryz.isAgg298
 z232:=Tryz.sizeOf298
 v232:=Tryz.zeroValue298
 t233:=Tryz.underlying299
 a233:=Tryz.isAgg299
 z233:=Tryz.sizeOf299
 v233:=Tryz.zeroValue299
 g15:=by kernel_rfl
 g16:=by kernel_rfl
 g17:=by kernel_rfl
 g18:=by kernel_rfl
 g19:=by kernel_rfl
 t80:=Tryz.underlying300
 a80:=Tryz.isAgg300
 z80:=Tryz.sizeOf300
 v80:=Tryz.zeroValue300
 i0:=by kernel_rfl
 i2:=by kernel_rfl
 i3:=by kernel_rfl
 i4:=by kernel_rfl
 i5:=by kernel_rfl
 i9:=by kernel_rfl
 i20:=by kernel_rfl
 i21:=by kernel_rfl
 i37:=by kernel_rfl
 i46:=by kernel_rfl
 i51:=by kernel_rfl
 i53:=by kernel_rfl
 i75:=by kernel_rfl
 i76:=by kernel_rfl
 i80:=by kernel_rfl
 i85:=by kernel_rfl
 i127:=by kernel_rfl
 i143:=by kernel_rfl
 i145:=by kernel_rfl
 i167:=by kernel_rfl
 i168:=by kernel_rfl
 i171:=by kernel_rfl
 i173:=by kernel_rfl
 i175:=by kernel_rfl
 i210:=by kernel_rfl
 i212:=by kernel_rfl
 i232:=by kernel_rfl
 i233:=by kernel_rfl
 m15:=by kernel_rfl
 m16:=by kernel_rfl
 m17:=by kernel_rfl
 m18:=by kernel_rfl
 m19:=by kernel_rfl
 c0:=by kernel_rfl
 c2:=by kernel_rfl
 c3:=by kernel_rfl
 c4:=by kernel_rfl
 c5:=by kernel_rfl
 c9:=by kernel_rfl
 c20:=by kernel_rfl
 c21:=by kernel_rfl
 c37:=by kernel_rfl
 c46:=by kernel_rfl
 c51:=by kernel_rfl
 c53:=by kernel_rfl
 c75:=by kernel_rfl
 c76:=by kernel_rfl
 c80:=by kernel_rfl
 c85:=by kernel_rfl
 c127:=by kernel_rfl
 c143:=by kernel_rfl
 c145:=by kernel_rfl
 c167:=by kernel_rfl
 c168:=by kernel_rfl
 c171:=by kernel_rfl
 c173:=by kernel_rfl
 c175:=by kernel_rfl
 c210:=by kernel_rfl
 c212:=by kernel_rfl
 c213:=by kernel_rfl
 c232:=by kernel_rfl
 c233:=by kernel_rfl }
open Go.RowKit in
theorem Tryz.strconv_Atoi_ok (s:ByteArray)(hmax:s.size<=9223372036854775806)(v:Int)(h:Lib.atoiAll s.data.toList=.ok v)(w:World) :
 Calls Tryz.prog 168 #[.string s] w fun e w'=>e=.returned (.tuple #[.int .i64 v,.nilIface])/\(w'=w∨∃ t,w'=Lib.bytesWorld w 5 t):=Any.strconv_Atoi_ok Tryz.laysC172 s hmax v h w
open Go.RowKit in
theorem Tryz.strconv_Atoi_syntax (s:ByteArray)(hlim:s.size<=281474976710656)(h:Lib.atoiAll s.data.toList=.«syntax»)(ev:Value)(w:World)(hv:w.cell? ⟨3,0,none⟩=some ev)(hev:ev=.nilIface∨∃ te pe,ev=.iface te pe) :
 Calls Tryz.prog 168 #[.string s] w fun e w'=>∃ N,e=.returned (.tuple #[.int .i64 (0),.iface 258 (.pointer (some ⟨N,0,none⟩))])/\w.heap.size<=N/\w'.heap[N]?=some (.cells #[.string ⟨#[65,116,111,105]⟩,.string s,ev] 270 (0,0))/\Below w.heap.size w w':=Any.strconv_Atoi_syntax Tryz.laysC172 s hlim h ev w hv hev
open Go.RowKit in
theorem Tryz.strconv_Atoi_range (s:ByteArray)(hlim:s.size<=281474976710656)(h:Lib.atoiAll s.data.toList=.range)(ev:Value)(w:World)(hv:w.cell? ⟨4,0,none⟩=some ev)(hev:ev=.nilIface∨∃ te pe,ev=.iface te pe) :
 Calls Tryz.prog 168 #[.string s] w fun e w'=>∃ N,e=.returned (.tuple #[.int .i64 (Lib.atoiSat s.data.toList),.iface 258 (.pointer (some ⟨N,0,none⟩))])/\w.heap.size<=N/\w'.heap[N]?=some (.cells #[.string ⟨#[65,116,111,105]⟩,.string s,ev] 270 (0,0))/\Below w.heap.size w w':=Any.strconv_Atoi_range Tryz.laysC172 s hlim h ev w hv hev
def Tryz.lays144_ren:Go.Shelf.Ren:=⟨fun|144=>171|143=>182|219=>190|217=>166|225=>197|224=>198|267=>199|266=>176|314=>203|n=>n,fun|9=>9|4=>4|3=>3|5=>5|46=>175|146=>289|51=>203|n=>n,fun|1=>1|n=>n⟩
theorem Tryz.lays144:Go.Proofs.Lays.n144 Tryz.prog Tryz.lays144_ren:={
 mixed:=by kernel_rfl
 f143:=Tryz.func182.trans (congrArg some (by kernel_rfl))
 f144:=Tryz.func171.trans (congrArg some (by kernel_rfl))
 f217:=Tryz.func166.trans (congrArg some (by kernel_rfl))
 f219:=Tryz.func190.trans (congrArg some (by kernel_rfl))
 f224:=Tryz.func198.trans (congrArg some (by kernel_rfl))
 f225:=Tryz.func197.trans (congrArg some (by kernel_rfl))
 f266:=Tryz.func176.trans (congrArg some (by kernel_rfl))
 f267:=Tryz.func199.trans (congrArg some (by kernel_rfl))
 f314:=Tryz.func203.trans (congrArg some (by kernel_rfl))
 t3:=Tryz.underlying3
 a3:=Tryz.isAgg3
 z3:=Tryz.sizeOf3
 v3:=Tryz.zeroValue3
 t4:=Tryz.underlying4
 a4:=Tryz.isAgg4
 z4:=Tryz.sizeOf4
 v4:=Tryz.zeroValue4
 t5:=Tryz.underlying5
 a5:=Tryz.isAgg5
 z5:=Tryz.sizeOf5
 v5:=Tryz.zeroValue5
 t9:=Tryz.underlying9
 a9:=Tryz.isAgg9
 z9:=Tryz.sizeOf9
 v9:=Tryz.zeroValue9
 t46:=Tryz.underlying175
 a46:=Tryz.isAgg175
 z46:=Tryz.sizeOf175
 v46:=Tryz.zeroValue175
 t51:=Tryz.underlying203
 a51:=Tryz.isAgg203
 z51:=Tryz.sizeOf203
 v51:=Tryz.zeroValue203
 t146:=Tryz.underlying289
 a146:=Tryz.isAgg289
 z146:=Tryz.sizeOf289
 v146:=Tryz.zeroValue289
 g1:=by kernel_rfl }
open Go.RowKit Go.Lib in
theorem Tryz.strings_Contains_one (s:ByteArray)(c:UInt8)(w:World) :
 Calls Tryz.prog 171 #[.string s,.string ⟨#[c]⟩] w fun e w'=>e=.returned (.bool (decide (0<=Lib.indexByte s.data.toList c)))/\w'=w:=Any.strings_Contains_one Tryz.lays144 s c w
def Tryz.lays99_ren:Go.Shelf.Ren:=⟨fun|99=>170|206=>181|n=>n,fun|9=>9|4=>4|3=>3|n=>n,fun|n=>n⟩
theorem Tryz.lays99:Go.Proofs.Lays.n99 Tryz.prog Tryz.lays99_ren:={
 mixed:=by kernel_rfl
 f99:=Tryz.func170.trans (congrArg some (by kernel_rfl))
 f206:=Tryz.func181.trans (congrArg some (by kernel_rfl))
 t3:=Tryz.underlying3
 a3:=Tryz.isAgg3
 z3:=Tryz.sizeOf3
 v3:=Tryz.zeroValue3
 t4:=Tryz.underlying4
 a4:=Tryz.isAgg4
 z4:=Tryz.sizeOf4
 v4:=Tryz.zeroValue4
 t9:=Tryz.underlying9
 a9:=Tryz.isAgg9
 z9:=Tryz.sizeOf9
 v9:=Tryz.zeroValue9 }
open Go.RowKit Go.Lib in
theorem Tryz.strings_HasPrefix (s p:ByteArray)(w:World) :
 Calls Tryz.prog 170 #[.string s,.string p] w fun e w'=>e=.returned (.bool (Lib.hasPrefix s.data.toList p.data.toList))/\w'=w:=Any.strings_HasPrefix Tryz.lays99 s p w
def Tryz.lays157_ren:Go.Shelf.Ren:=⟨fun|157=>169|229=>179|199=>180|261=>189|311=>195|312=>196|n=>n,fun|9=>9|31=>169|3=>3|5=>5|4=>4|119=>251|0=>0|40=>253|152=>261|21=>21|154=>263|51=>203|141=>265|196=>275|193=>272|198=>277|49=>60|194=>273|201=>280|226=>287|46=>175|227=>288|n=>n,fun|0=>0|6=>2|n=>n⟩
theorem Tryz.lays157:Go.Proofs.Lays.n157 Tryz.prog Tryz.lays157_ren:={
 mixed:=by kernel_rfl
 f157:=Tryz.func169.trans (congrArg some (by kernel_rfl))
 f199:=Tryz.func180.trans (congrArg some (by kernel_rfl))
 f229:=Tryz.func179.trans (congrArg some (by kernel_rfl))
 f261:=Tryz.func189.trans (congrArg some (by kernel_rfl))
 f311:=Tryz.func195.trans (congrArg some (by kernel_rfl))
 f312:=Tryz.func196.trans (congrArg some (by kernel_rfl))
 t0:=Tryz.underlying0
 a0:=Tryz.isAgg0
 z0:=Tryz.sizeOf0
 v0:=Tryz.zeroValue0
 t3:=Tryz.underlying3
 a3:=Tryz.isAgg3
 z3:=Tryz.sizeOf3
 v3:=Tryz.zeroValue3
 t4:=Tryz.underlying4
 a4:=Tryz.isAgg4
 z4:=Tryz.sizeOf4
 v4:=Tryz.zeroValue4
 t5:=Tryz.underlying5
 a5:=Tryz.isAgg5
 z5:=Tryz.sizeOf5
 v5:=Tryz.zeroValue5
 t9:=Tryz.underlying9
 a9:=Tryz.isAgg9
 z9:=Tryz.sizeOf9
 v9:=Tryz.zeroValue9
 t21:=Tryz.underlying21
 a21:=Tryz.isAgg21
 z21:=Tryz.sizeOf21
 v21:=Tryz.zeroValue21
 t31:=Tryz.underlying169
 a31:=Tryz.isAgg169
 z31:=Tryz.sizeOf169
 v31:=Tryz.zeroValue169
 t40:=Tryz.underlying253
 a40:=Tryz.isAgg253
 z40:=Tryz.sizeOf253
 v40:=Tryz.zeroValue253
 t46:=Tryz.underlying175
 a46:=Tryz.isAgg175
 z46:=Tryz.sizeOf175
 v46:=Tryz.zeroValue175
 t49:=Tryz.underlying60
 a49:=Tryz.isAgg60
 z49:=Tryz.sizeOf60
 v49:=Tryz.zeroValue60
 t51:=Tryz.underlying203
 a51:=Tryz.isAgg203
 z51:=Tryz.sizeOf203
 v51:=Tryz.zeroValue203
 t119:=Tryz.underlying251
 a119:=Tryz.isAgg251
 z119:=Tryz.sizeOf251
 t141:=Tryz.underlying265
 a141:=Tryz.isAgg265
 z141:=Tryz.sizeOf265
 v141:=Tryz.zeroValue265
 t152:=Tryz.underlying261
 a152:=Tryz.isAgg261
 z152:=Tryz.sizeOf261
 v152:=Tryz.zeroValue261
 t154:=Tryz.underlying263
 a154:=Tryz.isAgg263
 z154:=Tryz.sizeOf263
 v154:=Tryz.zeroValue263
 t193:=Tryz.underlying272
 a193:=Tryz.isAgg272
 z193:=Tryz.sizeOf272
 v193:=Tryz.zeroValue272
 t194:=Tryz.underlying273
 a194:=Tryz.isAgg273
 z194:=Tryz.sizeOf273
 v194:=Tryz.zeroValue273
 t196:=Tryz.underlying275
 a196:=Tryz.isAgg275
 z196:=Tryz.sizeOf275
 v196:=Tryz.zeroValue275
 t198:=Tryz.underlying277
 a198:=Tryz.isAgg277
 z198:=Tryz.sizeOf277
 v198:=Tryz.zeroValue277
 t201:=Tryz.underlying280
 a201:=Tryz.isAgg280
 z201:=Tryz.sizeOf280
 v201:=Tryz.zeroValue280
 t226:=Tryz.underlying287
 a226:=Tryz.isAgg287
 z226:=Tryz.sizeOf287
 v226:=Tryz.zeroValue287
 t227:=Tryz.underlying288
 a227:=Tryz.isAgg288
 z227:=Tryz.sizeOf288
 v227:=Tryz.zeroValue288
 g0:=by kernel_rfl
 g6:=by kernel_rfl }
open Go.RowKit Go.Lib in
theorem Tryz.strings_Fields (s:ByteArray)(w:World)(hs:s.size<4294967281)(hascii:∀ (j:Nat) b,s.data.toList[j]?=some b->b.toNat<128)(htab:Lib.TabIs Tryz.prog w "strings.asciiSpace" .u8 Lib.asciiSpaceTab) :
 Calls Tryz.prog 169 #[.string s] w fun e w' =>
  e=.returned (.slice (some ⟨w.heap.size,0,none⟩) (Lib.fields s.data.toList).length (Lib.fields s.data.toList).length)/\w'=w.alloc (.cells ((Lib.fields s.data.toList).map fun l=>Value.string ⟨l.toArray⟩).toArray 9):=Any.strings_Fields Tryz.lays157 (by kernel_rfl) (by kernel_rfl) s w hs hascii htab
end Go.Proofs
namespace Go.Proofs.YtehfpameijkafaaGreatDoor
open Go.RowKit Go.Q Go.Lx
variable {w:World}
def cls (c:UInt8):Nat:=if BE c then 3 else if isDigit c then 2 else if Dr c then 1 else 0
theorem Vd (c:UInt8):BE c=true↔((97<=(c.toNat:Int)/\(c.toNat:Int)<=122)∨(65<=(c.toNat:Int)/\(c.toNat:Int)<=90)∨(c.toNat:Int)=95):=by
 have e:c=95↔c.toNat=95:=by rw [<- UInt8.toNat_inj];rfl
 simp only [BE,ú,Æ,Í,UInt8.le_iff_toNat_le,ý,e]
 have a1:(97:UInt8).toNat=97:=rfl
 have a2:(122:UInt8).toNat=122:=rfl
 have a3:(65:UInt8).toNat=65:=rfl
 have a4:(90:UInt8).toNat=90:=rfl
 rw [a1,a2,a3,a4];omega
theorem XA (c:UInt8):isDigit c=true↔(48<=(c.toNat:Int)/\(c.toNat:Int)<=57):=by
 simp only [isDigit,Æ,Í,UInt8.le_iff_toNat_le]
 have a1:(48:UInt8).toNat=48:=rfl
 have a2:(57:UInt8).toNat=57:=rfl
 rw [a1,a2];omega
theorem eq_iff (c d:UInt8):c=d↔(c.toNat:Int)=(d.toNat:Int):=by rw [<- UInt8.toNat_inj];omega
end Go.Proofs.YtehfpameijkafaaGreatDoor
namespace Go.Proofs.YtehfpameijkafaaGreatDoor
open Go.RowKit Go.Q Go.Lx
variable {w:World}
abbrev bl (s:Å):List UInt8:=s.data.toList
theorem EJ (s:Å):(bl s).length=s.size:=(Lib.size_eq s).symm
theorem Fz (s:Å)(i:Nat)(h:i<s.size):(bl s).drop i=s[i]::(bl s).drop (i+1):=by
 rw [ě (by rw [EJ];exact h)];rfl
theorem Mj (s:Å):(bl s).drop s.size=[]:=by rw [<- EJ];exact List.drop_length
theorem V6 (s:Å)(a b:Nat):bl (s.extract a b)=((bl s).drop a).take (b-a):=Lib.extract_data s a b
theorem Np {c:UInt8}{r:List UInt8}(h:Dr c=true):skip false (c::r)=skip false r:=by rw [JF,Ç h]
theorem No {c:UInt8}{r:List UInt8}(h:c=35):skip false (c::r)=skip true r:=by subst h;rfl
theorem Pe {c:UInt8}{r:List UInt8}(h:¬ c=10):skip true (c::r)=skip true r:=by rw [Kn,Ä h]
end Go.Proofs.YtehfpameijkafaaGreatDoor
namespace Go.Proofs.YtehfpameijkafaaGreatDoor
open Go.RowKit Go.Q Go.Lx
variable {w:World} {S:Reg} {A:Option Addr} {cap:Nat}
def HT (p:UInt8->Bool)(s:Å)(a b:Nat):Prop:=∀ c∈((bl s).drop a).take (b-a),p c=true
theorem HT.nil (p:UInt8->Bool)(s:Å)(a:Nat):HT p s a a:=by intro c b;rw [Nat.sub_self] at b;simp at b
theorem HT.succ {p:UInt8->Bool}{s:Å}{a b:Nat}(h:HT p s a b)(hab:a<=b)(hb:b<s.size)(hp:p s[b]=true):HT p s a (b+1):=by
 intro c hc
 have e:b+1-a=(b-a)+1:=by omega
 rw [e,List.take_add_one,List.getElem?_drop,show a+(b-a)=b by omega] at hc
 rcases List.mem_append.1 hc with hc|hc
 . exact h c hc
 . rw [Ã (by rw [EJ];exact hb)] at hc
   simp only [Option.toList_some,Ė] at hc
   rw [hc];exact hp
theorem HT.while {p:UInt8->Bool}{s:Å}{a b:Nat}(h:HT p s a b)(hab:a<=b)(hb:Cl p ((bl s).drop b)=false) :
 ((bl s).drop a).takeWhile p=((bl s).drop a).take (b-a)/\((bl s).drop a).dropWhile p=(bl s).drop b:=by
 have e:(bl s).drop a=((bl s).drop a).take (b-a)++(bl s).drop b:=by
  have:=(ă (b-a) ((bl s).drop a)).symm
  rw [ĥ,show a+(b-a)=b by omega] at this
  exact this
 have:=F6 p _ _ h hb
 rw [<- e] at this
 exact this
theorem Ws {p:UInt8->Bool}(s:Å)(b:Nat)(hb:b<=s.size)(h:∀ hlt:b<s.size,p s[b]=false):Cl p ((bl s).drop b)=false:=by
 by_cases hlt:b<s.size
 . rw [Fz s b hlt];exact h hlt
 . obtain rfl:b=s.size:=by omega
   rw [Mj];rfl
theorem Ms (s:Å)(a b:Nat)(hab:a<=b)(hb:b<=s.size):(((bl s).drop a).take (b-a)).length=b-a:=by
 rw [List.length_take,ù,EJ];omega
end Go.Proofs.YtehfpameijkafaaGreatDoor
namespace Go.Proofs.YtehfpameijkafaaGreatDoor
open Go.RowKit Go.Q Go.Lx
variable {w:World} {S:Reg} {A:Option Addr} {cap:Nat}
theorem Pt {s:Å}{p j:Nat}(hw:((bl s).drop p).takeWhile isDigit=((bl s).drop p).take (j-p)/\((bl s).drop p).dropWhile isDigit=(bl s).drop j)(hlen:(((bl s).drop p).take (j-p)).length=j-p)
 (h:15<j-p∨(1<j-p/\Cl (· == 48) ((bl s).drop p)=true)∨Cl BE ((bl s).drop j)=true):number ((bl s).drop p)=.bad 27:=by
 unfold number
 simp only
 rw [hw.1,hw.2,hlen,Ç]
 simp only [ú,Æ,Í]
 rcases h with h|h|h
 . exact .inl (.inl h)
 . exact .inl (.inr h)
 . exact .inr h
theorem T6 {s:Å}{p j:Nat}(hpj:p<=j)(hj:j<=s.size)(h15:j-p<=15)(hd:HT isDigit s p j)(hn:Cl isDigit ((bl s).drop j)=false)(hl:Cl BE ((bl s).drop j)=false)(hz:1<j-p->Cl (· == 48) ((bl s).drop p)=false) :
 number ((bl s).drop p)=.ok 2 [] (Dj (((bl s).drop p).take (j-p))) ((bl s).drop j):=by
 have a:=hd.while hpj hn
 unfold number
 simp only
 rw [a.1,a.2,Ms s p j hpj hj,Ä]
 simp only [ú,Æ,Í,not_or,not_and]
 exact⟨⟨by omega,fun h=>by simpa using hz h⟩,by simpa using hl⟩
end Go.Proofs.YtehfpameijkafaaGreatDoor
namespace Go.Lx
open Go
theorem HO {c:UInt8}:isDigit c=true↔(48<=c.toNat/\c.toNat<=57):=by
 simp only [isDigit,Bool.and_eq_true,decide_eq_true_eq,UInt8.le_iff_toNat_le]
 exact Iff.rfl
theorem M3:∀ (l:List UInt8) (acc u:Nat),Lib.parseUint10 acc l=.ok u->∀ c∈l,isDigit c=true
 | [],_,_,_,c,h=>by cases h
 |d::r,acc,u,h,c,hc=>by
  unfold Lib.parseUint10 at h
  by_cases hd:48<=d.toNat/\d.toNat<=57
  . rw [if_pos hd] at h
    split at h
    . cases h
    . split at h
      . cases h
      . rcases List.mem_cons.1 hc with rfl|hc
        . exact HO.2 hd
        . exact M3 r _ u h c hc
  . rw [if_neg hd] at h;cases h
theorem Tw:∀ (d:List UInt8) (acc:Nat),(∀ c∈d,isDigit c=true)->(acc+1)*10 ^ d.length<=10 ^ 18->Lib.parseUint10 acc d=.ok (d.foldl (fun n c=>10*n+(c.toNat-48)) acc)
 | [],_,_,_=>rfl
 |c::r,acc,hd,hb=>by
  have hc:=HO.1 (hd c (by simp))
  have hp:1<=10 ^ r.length:=Nat.pow_pos (by decide:0<10)
  have e:(acc+1)*10 ^ (c::r).length=((acc+1)*10)*10 ^ r.length:=by rw [List.length_cons,Nat.pow_succ,Nat.mul_assoc,Nat.mul_comm (10 ^ r.length) 10]
  rw [e] at hb
  have a:(acc+1)*10<=10 ^ 18:=Nat.le_trans (Nat.le_mul_of_pos_right _ hp) hb
  have b:(10:Nat) ^ 18=1000000000000000000:=by decide
  rw [b] at a
  unfold Lib.parseUint10
  rw [if_pos hc,if_neg (by omega),if_neg (by omega)]
  have:=Tw r (acc*10+(c.toNat-48)) (fun x f=>hd x (by simp [f])) (Nat.le_trans (Nat.mul_le_mul_right _ (by omega)) hb)
  rw [this,List.foldl_cons,Nat.mul_comm acc 10]
theorem W8 {c:UInt8}{r:List UInt8}(hd:∀ x∈c::r,isDigit x=true)(hl:(c::r).length<=15):Lib.atoiAll (c::r)=.ok (Dj (c::r):Int):=by
 have m:=HO.1 (hd c (by simp))
 have i:=Tw (c::r) 0 hd (by
  have:10 ^ (c::r).length<=10 ^ 15:=Nat.pow_le_pow_right (by omega) hl
  have b:(10:Nat) ^ 18=1000*10 ^ 15:=by decide
  omega)
 have f:Dj (c::r)<10 ^ 18:=by
  have key:∀ (d:List UInt8) (a:Nat),(∀ x∈d,isDigit x=true)->d.foldl (fun n c=>10*n+(c.toNat-48)) a<(a+1)*10 ^ d.length:=by
   intro d
   induction d with
   |nil=>intro a _;simp
   |cons x d ih =>
    intro a g
    have j:=HO.1 (g x (by simp))
    have k:=ih (10*a+(x.toNat-48)) (fun y l=>g y (by simp [l]))
    rw [List.foldl_cons,List.length_cons,Nat.pow_succ]
    have o:(10*a+(x.toNat-48)+1)*10 ^ d.length<=((a+1)*10)*10 ^ d.length:=Nat.mul_le_mul_right _ (by omega)
    have p:((a+1)*10)*10 ^ d.length=(a+1)*(10 ^ d.length*10):=by rw [Nat.mul_assoc,Nat.mul_comm 10]
    omega
  have j:=key (c::r) 0 hd
  have k:10 ^ (c::r).length<=10 ^ 18:=Nat.pow_le_pow_right (by omega) (by omega)
  unfold Dj;omega
 have b:(10:Nat) ^ 18=1000000000000000000:=by decide
 rw [b] at f
 unfold Lib.atoiAll
 simp only
 rw [if_neg (by omega)]
 unfold Lib.parseMag
 rw [if_neg (by simp),i]
 simp only
 have e:List.foldl (fun n c=>10*n+(c.toNat-48)) 0 (c::r)=Dj (c::r):=rfl
 rw [e,if_neg (by omega),if_neg (by omega),if_neg (by omega)]
theorem Uq {c:UInt8}{r:List UInt8}{v:Int}(hc:isDigit c=true)(h:Lib.atoiAll (c::r)=.ok v):∀ x∈c::r,isDigit x=true:=by
 have hb:=HO.1 hc
 unfold Lib.atoiAll at h
 simp only at h
 rw [if_neg (by omega)] at h
 cases a:Lib.parseMag (c::r) with
 | «syntax»=>rw [a] at h;cases h
 |range=>rw [a] at h;cases h
 |ok u =>
  unfold Lib.parseMag at a
  rw [if_neg (by simp)] at a
  exact M3 _ _ _ a
end Go.Lx
namespace Go.Proofs.YtehfpameijkafaaGreatDoor
open Go.RowKit Go.Q Go.Lx
theorem Ze (c:UInt8):isWord c=decide ((2:Int)<=(cls c:Int)):=by
 unfold cls isWord
 cases a:BE c<;>cases b:isDigit c<;>simp
 split<;>decide
theorem getD_at (s:Å)(j:Nat)(h:j<s.size):s[j]=s.data.toList.getD j 0:=by
 have a:j<s.data.size:=h
 rw [List.getD_eq_getElem?_getD,Ã (by simpa using a)]
 simp [ByteArray.getElem_eq_getElem_data]
theorem SU {x:Int}{n:Nat}(h:x=n)(hn:n<=4611686018427387904):À x=(n:Int):=by
 subst h;unfold À;rw [IntKind.wrap_i64];omega
theorem Adg {r:List UInt8}:Lib.indexByte (35::r) 10≠0:=by
 have h:=Lib.indexByte_ge r 10
 show (if ((35:UInt8) == 10)=true then (0:Int) else _)≠0
 rw [Ä (by decide)]
 split
 . decide
 . rename_i a;simp only [ý] at a;omega
theorem TK:∀ (r:List UInt8),(Lib.indexByte r 10<0->skip true r=[])/\(∀ k:Nat,Lib.indexByte r 10=(k:Int)->k<=r.length/\skip true r=skip false (r.drop k))
 | []=>⟨fun _=>rfl,fun k h=>by have:(-1:Int)=k:=h;omega⟩
 |b::l=>by
  have ih:=TK l
  have hge:=Lib.indexByte_ge l 10
  have e:Lib.indexByte (b::l) 10=if (b == 10)=true then 0 else if (Lib.indexByte l 10 == -1)=true then -1 else Lib.indexByte l 10+1:=rfl
  rw [e,Kn]
  by_cases hb:b=10
  . rw [Ç (by rw [hb];rfl),Ç hb]
    refine⟨fun h=>absurd h (by decide),fun k h=>?_⟩
    obtain rfl:k=0:=by omega
    exact⟨by simp,by rw [hb];rfl⟩
  . rw [Ä (by simpa using hb),Ä hb]
    by_cases a:Lib.indexByte l 10 = -1
    . rw [Ç (by rw [a];rfl)]
      exact⟨fun _=>ih.1 (by omega),fun k h=>by omega⟩
    . rw [Ä (by simpa using a)]
      refine⟨fun h=>by omega,fun k h=>?_⟩
      obtain⟨f,c⟩:=ih.2 (k-1) (by omega)
      have d:k=(k-1)+1:=by omega
      refine⟨by simp;omega,?_⟩
      rw [d,List.drop_succ_cons];exact c
theorem XF (c:UInt8)(h:Dr c=true):cls c=1:=by
 have a:=Gk (.inl h)
 unfold cls;rw [a.2.2,a.2.1,h];rfl
theorem QI (c:UInt8)(h:Dr c=false):((cls c:Int) == 1)=false:=by
 unfold cls;rw [h];cases BE c<;>cases isDigit c<;>rfl
theorem NG {c:UInt8}(h:isDigit c=true):BE c=false:=by
 cases a:BE c with
 |false=>rfl
 |true=>rw [Vd] at a;rw [XA] at h;omega
theorem Tm {s:Å}{p j:Nat}(hp:p<s.size)(hpj:p<=j)(hall:HT isWord s p j)(hhd:Cl isWord ((bl s).drop j)=false)(hw:isWord s[p]=true):p<j:=by
 rcases Nat.lt_or_ge p j with h|h
 . exact h
 . obtain rfl:p=j:=by omega
   rw [Fz s p hp] at hhd
   have:isWord s[p]=false:=hhd
   rw [hw] at this;cases this
theorem YN {s x:Å}{p n:Nat}(h:bl x=((bl s).drop p).take n)(hx:0<x.size)(hp:p<s.size):x[0]=s[p]:=by
 have a:=Fz x 0 hx
 rw [List.drop_zero,h,Fz s p hp] at a
 cases n with
 |zero=>simp at a
 |succ n=>rw [List.take_succ_cons] at a;exact (ĭ a).1.symm
theorem T7 (r:List UInt8):number r=.bad 27∨∃ v t,number r=.ok 2 [] v t:=by
 unfold number;simp only;split
 . exact .inl rfl
 . exact .inr ⟨_,_,rfl⟩
theorem Pv {x:List UInt8}(h:Cl isWord x=false):Cl isDigit x=false/\Cl BE x=false:=by
 cases x with
 |nil=>exact⟨rfl,rfl⟩
 |cons c r =>
  have b:isWord c=false:=h
  simp only [isWord,Bool.or_eq_false_iff] at b
  exact⟨b.2,b.1⟩
theorem T5 {s:Å}{p j:Nat}(hp:p<s.size)(hpj:p<=j)(hj:j<=s.size)(hall:HT isWord s p j)(hhd:Cl isWord ((bl s).drop j)=false)(hd:isDigit s[p]=true) :
 ((∀ v,Lib.atoiAll (((bl s).drop p).take (j-p))≠.ok v)->number ((bl s).drop p)=.bad 27) /\
 (∀ v,Lib.atoiAll (((bl s).drop p).take (j-p))=.ok v->(15<j-p∨(1<j-p/\s[p]=48)->number ((bl s).drop p)=.bad 27) /\
  (¬ 15<j-p->¬ (1<j-p/\s[p]=48)->number ((bl s).drop p)=.ok 2 [] v.toNat ((bl s).drop j)/\v=(v.toNat:Int))):=by
 have C:=Tm hp hpj hall hhd (by simp [isWord,hd])
 obtain⟨k,u⟩:=Pv hhd
 have g:((bl s).drop p).take (j-p)=s[p]::((bl s).drop (p+1)).take (j-p-1):=by
  rw [Fz s p hp,show j-p=(j-p-1)+1 by omega,List.take_succ_cons];simp
 refine⟨fun w=>?_,fun v l=>?_⟩
 . rcases T7 ((bl s).drop p) with h|⟨v,t,h⟩
   . exact h
   . exfalso
     obtain⟨d,_,_,l,e,i,x,D,y,_⟩:=M5 h
     have o:=hall.while hpj hhd
     have E:Cl isWord t=false:=by
      cases t with
      |nil=>rfl
      |cons c r=>show isWord c=false;simp only [isWord,Bool.or_eq_false_iff];exact⟨D,x⟩
     have m:=F6 isWord d t (fun c q=>by simp [isWord,i c q]) E
     rw [<- e] at m
     have z:d=((bl s).drop p).take (j-p):=by rw [<- o.1,m.1]
     rw [z] at i y
     rw [g] at i y
     exact w _ (by rw [g];exact W8 i y)
 . have f:=by rw [g] at l;exact Uq hd l
   have a:HT isDigit s p j:=by intro c q;rw [g] at q;exact f c q
   have o:=a.while hpj k
   have b:=Ms s p j hpj hj
   refine⟨fun n=>?_,fun F G=>?_⟩
   . rcases n with h|⟨i,x⟩
     . exact Pt o b (.inl h)
     . exact Pt o b (.inr (.inl ⟨i,by rw [Fz s p hp];exact beq_iff_eq.2 x⟩))
   . have A:Lib.atoiAll (((bl s).drop p).take (j-p))=.ok (Dj (((bl s).drop p).take (j-p)):Int):=by
      rw [g]
      refine W8 f ?_
      rw [<- g,b];omega
     rw [A] at l
     have B:(Dj (((bl s).drop p).take (j-p)):Int)=v:=by injection l
     subst B
     exact⟨T6 hpj hj (by omega) a k u (fun h=>by rw [Fz s p hp];exact beq_eq_false_iff_ne.2 fun e=>G ⟨h,e⟩),rfl⟩
end Go.Proofs.YtehfpameijkafaaGreatDoor
namespace Go.Proofs.YtehfpameijkafaaGreatDoor
open Go.RowKit Go.Q Go.Lx
theorem Q5:∀ (n:Nat) (r b:List UInt8),r.length<=n->∀ {e:Nat},text b r=.bad e->e=2∨e=28:=by
 intro n
 induction n with
 |zero =>
  intro r b a e h
  obtain rfl:=ã (Nat.le_zero.1 a)
  unfold text at h;split at h<;>(cases h;simp)
 |succ n ih =>
  intro r b a e h
  cases r with
  |nil=>unfold text at h;split at h<;>(cases h;simp)
  |cons c r =>
   unfold text at h
   split at h
   . cases h;simp
   . split at h
     . cases h
     . split at h
       . cases r with
         |nil=>cases h;simp
         |cons d r' =>
          simp only at h
          split at h
          . cases h;simp
          . exact ih r' _ (by simp at a;omega) h
       . split at h
         . cases h;simp
         . exact ih r _ (by simp at a;omega) h
theorem RF {r:List UInt8}{e:Nat}(h:Lx.tok r=.bad e):e≠0:=by
 unfold Lx.tok at h
 cases r with
 |nil=>cases h;decide
 |cons c r' =>
  simp only at h
  split at h
  . unfold name at h;split at h<;>cases h;decide
  . split at h
    . unfold number at h;simp only at h;split at h<;>cases h;decide
    . split at h
      . rcases Q5 _ _ _ (Ü _) h with rfl|rfl<;>decide
      . unfold sign at h
        split at h
        . cases h
        . simp only at h
          split at h<;>cases h;decide
theorem X6 {l u t:List UInt8}(h:l=u++t):l.drop (l.length-t.length)=t/\l.length-t.length<=l.length:=by
 subst h
 rw [Ô,show u.length+t.length-t.length=u.length by omega,List.drop_left]
 exact⟨rfl,by omega⟩
theorem Wb (s:Å)(i:Nat){u t:List UInt8}(h:(bl s).drop i=u++t):(bl s).drop (s.size-t.length)=t/\s.size-t.length<=s.size:=by
 have e:bl s=((bl s).take i++u)++t:=by rw [ð,<- h,ă]
 have:=X6 e
 rw [EJ] at this
 exact this
theorem VZ (s:Å)(i:Nat):(bl s).drop (s.size-(skip false ((bl s).drop i)).length)=skip false ((bl s).drop i)/\s.size-(skip false ((bl s).drop i)).length<=s.size:=by
 obtain⟨u,a⟩:=GS false ((bl s).drop i)
 exact Wb s i a
def Qs (n:Nat)(r0:List UInt8)(l:List Tok)(r:List UInt8):Prop:=(∀ l',Lx.Good n r l'->Lx.Good n r0 (l++l'))/\∀ q e,Lx.Bad n r q e->Lx.Bad n r0 q e
theorem Qs.nil (n:Nat)(r0:List UInt8):Qs n r0 [] r0:=⟨fun _ h=>h,fun _ _ h=>h⟩
theorem Qs.cons {n:Nat}{r0 r s t:List UInt8}{l:List Tok}{k v:Nat}(h:Qs n r0 l r)(ht:Lx.tok r=.ok k s v t):Qs n r0 (l++[⟨k,n-r.length,s,v⟩]) (skip false t) :=
 ⟨fun l' hg=>by rw [ð];exact h.1 _ (.cons ht hg),fun q e hb=>h.2 q e (.later ht hb)⟩
end Go.Proofs.YtehfpameijkafaaGreatDoor
namespace Go.Lx
theorem OX (n:Nat):∀ (f:Nat) (r:List UInt8),r.length<=f->(∀ l,Q4 n f r=.ok l->Good n r l)/\∀ p e,Q4 n f r=.error (p,e)->Bad n r p e
 |0,r,h=>by
  obtain rfl:=ã (Nat.le_zero.1 h)
  refine⟨fun l hl=>?_,fun p e he=>?_⟩
  . unfold Q4 at hl;cases hl;exact .fin
  . unfold Q4 at he;cases he
 |f+1,r,h=>by
  cases r with
  |nil =>
   refine⟨fun l hl=>?_,fun p e he=>?_⟩
   . unfold Q4 at hl;cases hl;exact .fin
   . unfold Q4 at he;cases he
  |cons c r0 =>
   unfold Q4
   simp only
   cases ht:tok (c::r0) with
   |bad e1 =>
    refine⟨fun l hl=>(by cases hl),fun p e he=>?_⟩
    cases he;exact .here (by simp) ht
   |ok k s v t =>
    have h1:=RE ht
    have h2:=FZ false t
    have ih:=OX n f (skip false t) (by omega)
    simp only
    cases hx:Q4 n f (skip false t) with
    |error x =>
     refine⟨fun l hl=>(by cases hl),fun p e he=>?_⟩
     obtain⟨p1,e1⟩:=x
     cases he;exact .later ht (ih.2 _ _ hx)
    |ok l1 =>
     refine⟨fun l hl=>?_,fun p e he=>(by cases he)⟩
     cases hl;exact .cons ht (ih.1 _ hx)
theorem HZ {l:List UInt8}{ts:List Tok}(h:tokens l=.ok ts):Good l.length (skip false l) ts:=(OX _ _ _ (FZ false l)).1 _ h
theorem LK {l:List UInt8}{p e:Nat}(h:tokens l=.error (p,e)):Bad l.length (skip false l) p e:=(OX _ _ _ (FZ false l)).2 _ _ h
end Go.Lx
namespace Go.Proofs.YtehfpameijkafaaGreatDoor
open Go.RowKit Go.Q Go.Lx
end Go.Proofs.YtehfpameijkafaaGreatDoor
namespace Go.Sp
open Go
set_option maxRecDepth 100000
def G7:List UInt8:=[107,101,101,112,32,116,101,114,109,32,50,32,48,32,40,115,116,111,114,101,100,41,32,40,115,116,111,114,101,100,32,43,32]
def FP:List UInt8:=[41,32,40,48,32,61,61,32,48,41,59,32,100,114,111,112,32,119,105,115,104,32,49,32,48,32,40,97,115,107,101,100,40,111,119,110,101,114,41,41,32,40,110,101,118,101,114,41,32,40,97,115,107,101,100,40,111,119,110,101,114,41,32,60,32,110,101,118,101,114,41,59,32,107,101,101,112,32,104,111,108,100,32,51,32,48,32,40,104,101,108,100,40,111,119,110,101,114,41,41,32,40,108,105,102,116,101,100,40,111,119,110,101,114,41,32,45,32,49,41,32,40,104,101,108,100,40,111,119,110,101,114,41,32,60,32,110,101,118,101,114,41,59]
theorem D6 {n:Nat}(h:n<10):Lx.dec n=[UInt8.ofNat (48+n)]:=by
 rw [Lx.dec,dif_pos h]
theorem Ll {n:Nat}(h:¬ n<10):Lx.dec n=Lx.dec (n / 10)++[UInt8.ofNat (48+n % 10)]:=by
 rw [Lx.dec,dif_neg h]
theorem Abb:∀ (m n:Nat),n<=m->(Lx.dec n).length<=n+1:=by
 intro m
 induction m with
 |zero =>
  intro n hn
  rw [D6 (by omega)];simp
 |succ m ih =>
  intro n hn
  by_cases h:n<10
  . rw [D6 h];simp
  . rw [Ll h]
    have:=ih (n / 10) (by omega)
    simp;omega
theorem Me {k:Nat}(h:k<10):Ev (fun n=>B2 n (k:Int)) ⟨⟨Lx.dec k⟩⟩:=by
 refine .step (f:=fun _=>some ⟨⟨Lx.dec k⟩⟩) (fun n=>?_) .pure
 rw [B2,Ì (by omega),Ñ,D6 h]
 have e:IntKind.u8.wrap (À (48+(k:Int)))=((48+k:Nat):Int):=by
  rw [CI (by omega) (by omega)]
  simp only [IntKind.wrap,IntKind.bits,IntKind.signed]
  simp
  omega
 rw [e]
 rfl
theorem X8:∀ (m k:Nat),k<=m->k<=1000000->Ev (fun n=>B2 n (k:Int)) ⟨⟨Lx.dec k⟩⟩:=by
 intro m
 induction m with
 |zero=>intro k hk _;exact Me (by omega)
 |succ m ih =>
  intro k hk hb
  by_cases h:k<10
  . exact Me h
  . have e1:À ((k:Int).tdiv 10)=((k / 10:Nat):Int):=by
     rw [show (k:Int).tdiv 10=((k / 10:Nat):Int) from rfl,CI (by omega) (by omega)]
    have e2:(k:Int).tmod 10=((k % 10:Nat):Int):=rfl
    have h1:=ih (k / 10) (by omega) (by omega)
    have h2:=Me (k:=k % 10) (by omega)
    refine .step (f:=fun n=>(B2 n ((k / 10:Nat):Int)).bind fun d=>(B2 n ((k % 10:Nat):Int)).bind fun d1=>(MD d d1).bind fun s=>some s) (fun n=>?_) ?_
    . rw [B2,Ë (by omega),Ï,e1,e2]
    . refine h1.bind (h2.bind ?_)
      have hl:=Abb (k / 10) (k / 10) (Ü _)
      have g:MD (⟨⟨Lx.dec (k / 10)⟩⟩:Å) ⟨⟨Lx.dec (k % 10)⟩⟩=some ⟨⟨Lx.dec k⟩⟩:=by
       unfold MD
       rw [Ll h,D6 (show k % 10<10 by omega),Ç]
       . congr 1
       . show (Lx.dec (k / 10)).length+1<=_
         omega
      rw [g]
      exact .pure
end Go.Sp
namespace Go.Sp
open Go
set_option maxRecDepth 100000
theorem Af2 (a:Int)(l:List Int):gi (a::l) 0=some a:=rfl
theorem Af1 (a b:Int)(l:List Int):gi (a::b::l) 1=some b:=rfl
end Go.Sp

namespace Go.Sp
open Go
set_option maxRecDepth 100000
theorem Yx (f:Bo):((bif (decide (f.Kind<1)) then
 some true
 else
  bif (decide (5<f.Kind)) then
   some true
  else
   bif (decide (f.Who<1)) then
    some true
   else
    bif (decide (1000<f.Who)) then
     some true
    else
     bif (decide (f.Day<0)) then
      some true
     else
      bif (decide (41666<f.Day)) then
       some true
      else
       bif (decide (f.Known<0)) then
        some true
       else
        some (decide (41666<f.Known))
 ):Option Bool)=some (!okF f):=by
 unfold okF
 by_cases a:f.Kind<1
 . rw [Ì a];(try rw [Ñ]);congr 1;symm;rw [å,Û];omega
 rw [Ë a,Ï]
 by_cases b:5<f.Kind
 . rw [Ì b];(try rw [Ñ]);congr 1;symm;rw [å,Û];omega
 rw [Ë b,Ï]
 by_cases c:f.Who<1
 . rw [Ì c];(try rw [Ñ]);congr 1;symm;rw [å,Û];omega
 rw [Ë c,Ï]
 by_cases d:1000<f.Who
 . rw [Ì d];(try rw [Ñ]);congr 1;symm;rw [å,Û];omega
 rw [Ë d,Ï]
 by_cases e:f.Day<0
 . rw [Ì e];(try rw [Ñ]);congr 1;symm;rw [å,Û];omega
 rw [Ë e,Ï]
 by_cases g:41666<f.Day
 . rw [Ì g];(try rw [Ñ]);congr 1;symm;rw [å,Û];omega
 rw [Ë g,Ï]
 by_cases i:f.Known<0
 . rw [Ì i];(try rw [Ñ]);congr 1;symm;rw [å,Û];omega
 rw [Ë i,Ï]
 by_cases j:41666<f.Known
 . rw [Ì j];(try rw [Ñ]);congr 1;symm;rw [å,Û];omega
 . rw [Ë j];congr 1;symm;rw [Bool.not_eq_false',Í];omega
theorem Vf (d:Ap)(known:Int):((bif (decide (d.Stored<0)) then
 some true
 else
  bif (decide (41666<d.Stored)) then
   some true
  else
   bif (decide (known<0)) then
    some true
   else
    bif (decide (41666<known)) then
     some true
    else
     bif (decide (d.Owner<0)) then
      some true
     else
      some (decide (1000<d.Owner))
 ):Option Bool)=some (!decide (0<=d.Stored/\d.Stored<=41666/\0<=known/\known<=41666/\0<=d.Owner/\d.Owner<=1000)):=by
 by_cases a:d.Stored<0
 . rw [Ì a];(try rw [Ñ]);congr 1;symm;rw [å,Û];omega
 rw [Ë a,Ï]
 by_cases b:41666<d.Stored
 . rw [Ì b];(try rw [Ñ]);congr 1;symm;rw [å,Û];omega
 rw [Ë b,Ï]
 by_cases c:known<0
 . rw [Ì c];(try rw [Ñ]);congr 1;symm;rw [å,Û];omega
 rw [Ë c,Ï]
 by_cases e:41666<known
 . rw [Ì e];(try rw [Ñ]);congr 1;symm;rw [å,Û];omega
 rw [Ë e,Ï]
 by_cases f:d.Owner<0
 . rw [Ì f];(try rw [Ñ]);congr 1;symm;rw [å,Û];omega
 rw [Ë f,Ï]
 by_cases g:1000<d.Owner
 . rw [Ì g];(try rw [Ñ]);congr 1;symm;rw [å,Û];omega
 . rw [Ë g];congr 1;symm;rw [Bool.not_eq_false',Í];omega
theorem Rk (d:Ap)(hl:d.Facts.length<=200):∀ (r:List Bo) (k:Nat),d.Facts.drop k=r->k<=d.Facts.length->Ev (fun n=>BT n d (k:Int)) (if r.all okF=true then .inl () else .inr 1)
 | [],k,hr,hk=>by
  have he:=MN hr hk
  refine Ev.step (f:=fun n=>some (.inl ())) (fun n=>?_) Ev.pure
  rw [BT.eq_2,show (decide ((k:Int)<(d.Facts.length:Int)))=false by rw [Û];omega];rfl
 |f::r,k,hr,hk=>by
  obtain⟨h1,h2⟩:=Ha hr
  have ih:=Rk d hl r (k+1) h1 (by omega)
  have e:∀ n,BT (n+1) d (k:Int)=bif !okF f then some (.inr 1) else BT n d ((k+1:Nat):Int):=fun n=>by
   rw [BT.eq_2,Uz h2,Ñ,Sn hr,Á,Yx,Á,Qw (by omega)]
  refine Ev.step e ?_
  cases hf:okF f with
  |true=>simp only [þ,Ï,ą,hf,Bool.true_and];exact ih
  |false=>simp only [Ģ,Ñ,ą,hf,Bool.false_and,â,û];exact Ev.pure
theorem M9 (d:Ap)(known:Int):Ev (fun n=>Ez n d known) (DL d known):=by
 unfold Ez DL
 by_cases a:200<d.Facts.length
 . rw [Ì (show (200:Int)<(d.Facts.length:Int) by omega),Ç a];exact Ev.pure
 . rw [Ë (show ¬ (200:Int)<(d.Facts.length:Int) by omega),Ä a]
   simp only [Ï]
   refine Ev.bind (Rk d (by omega) d.Facts 0 rfl (Ĉ _)) ?_
   cases b:d.Facts.all okF with
   |false=>simp only [â,û,false_and];exact Ev.pure
   |true =>
    simp only [ø,õ,Vf,Á]
    by_cases c:0<=d.Stored/\d.Stored<=41666/\0<=known/\known<=41666/\0<=d.Owner/\d.Owner<=1000
    . simp only [Ì c,Ç c];exact Ev.pure
    . simp only [Ë c,Ä c];exact Ev.pure
end Go.Sp

namespace Go.Sp
open Go
def Jm (c:Ad):Prop:=Fg c.From=true/\Fg c.To=true/\Fg c.When=true
end Go.Sp
namespace Go.Sp
open Go
set_option maxRecDepth 100000
theorem YP {e:Ah}(h:Fg e=true):Hn e=some (Ba e):=by unfold Hn;rw [Ç h]
end Go.Sp
namespace Go.Sp
open Go
def GJ (c:Int):Bool:=decide ((97<=c/\c<=122)∨(65<=c/\c<=90)∨c=95)
def Gi (c:Int):Bool:=decide (48<=c/\c<=57)
def Mi (s:Å):List Int:=s.data.toList.map fun b=>(b.toNat:Int)
def Ju (s:Å):Bool:=decide (1<=s.size/\s.size<=32)&&(Mi s).all (fun c=>GJ c||Gi c)&&!Gi ((Mi s).getD 0 0)
theorem Qf (s:Å):(Mi s).length=s.size:=by
 unfold Mi
 rw [Î];rfl
theorem Ae1 {s:Å}{k:Nat}{x:Int}{r:List Int}(h:(Mi s).drop k=x::r):gb s (k:Int)=some x:=by
 obtain⟨_,c⟩:=Ha h
 rw [Qf] at c
 unfold gb
 rw [Ç (by omega)]
 have a:=Sn h
 unfold gi at a
 rw [Ç (by omega)] at a
 unfold Mi at a
 rw [ç] at a
 rw [Int.toNat_natCast] at a ⊢
 cases e:s.data.toList[k]? with
 |none=>rw [e] at a;cases a
 |some b =>
  rw [e] at a
  rw [List.getD_eq_getElem?_getD,e]
  exact a
theorem Vg (c:Int):DU c=some (!(GJ c||Gi c)):=by
 unfold DU GJ Gi
 by_cases f:97<=c<;>by_cases g:c<=122<;>by_cases i:65<=c<;>by_cases j:c<=90<;>by_cases e:c=95<;>by_cases k:48<=c<;>by_cases l:c<=57<;>(have d:=e;rw [<- ý (a:=c) (b:=95)] at d;simp [f,g,i,j,e,k,l,d])
theorem Ro (l:List Int)(hl:l.length<=1000000):∀ (r:List Int) (k:Nat),l.drop k=r->k<=l.length->∃ v,Ev (fun n=>AW n l (k:Int)) v/\(match v with|.inl _=>r.all (fun c=>GJ c||Gi c)=true|.inr i=>0<=i/\r.all (fun c=>GJ c||Gi c)=false)
 | [],k,hr,hk=>by
  have he:=MN hr hk
  refine⟨.inl (),Ev.step (f:=fun _=>some (.inl ())) (fun n=>?_) Ev.pure,rfl⟩
  rw [AW.eq_2,show (decide ((k:Int)<(l.length:Int)))=false by rw [Û];omega];rfl
 |x::r,k,hr,hk=>by
  obtain⟨h1,h2⟩:=Ha hr
  have e:∀ n,AW (n+1) l (k:Int)=bif !(GJ x||Gi x) then some (.inr (k:Int)) else AW n l ((k+1:Nat):Int):=fun n=>by
   rw [AW.eq_2,Uz h2,Ñ,Sn hr,Á,Vg,Á,Qw (by omega)]
  cases hx:(GJ x||Gi x) with
  |false =>
   refine⟨.inr (k:Int),Ev.step e ?_,by omega,by rw [ą,hx];rfl⟩
   rw [hx];exact Ev.pure
  |true =>
   obtain⟨v,k1,k2⟩:=Ro l hl r (k+1) h1 (by omega)
   refine⟨v,Ev.step e ?_,?_⟩
   . rw [hx];exact k1
   . cases v with
     |inl _=>simp only at k2 ⊢;rw [ą,hx,k2];rfl
     |inr i=>simp only at k2 ⊢;rw [ą,hx,k2.2];exact⟨k2.1,rfl⟩
theorem Uj (l:List Int)(hl:l.length<=1000000):Ev (fun n=>BV n l) (!(l.all fun c=>GJ c||Gi c)):=by
 obtain⟨v,b,a⟩:=Ro l hl l 0 rfl (Ĉ _)
 unfold BV CK
 cases v with
 |inl _ =>
  have a:l.all (fun c=>GJ c||Gi c)=true:=a
  rw [a]
  exact Ev.bind (Ev.bind b Ev.pure) Ev.pure
 |inr i =>
  have a:0<=i/\l.all (fun c=>GJ c||Gi c)=false:=a
  rw [a.2]
  refine Ev.bind (Ev.bind b Ev.pure) ?_
  rw [Ì a.1];exact Ev.pure
theorem Xp (s:Å):Ev (fun n=>Fe n s) (Ju s):=by
 unfold Fe Ju
 by_cases f:s.size=0
 . have:s=⟨#[]⟩:=by
    cases s with
    |mk d=>congr 1;exact Ĥ f
   rw [Ì this,Ë (show ¬ (1<=s.size/\s.size<=32) by omega)]
   exact Ev.pure
 have a:¬ s=⟨#[]⟩:=fun e=>f (by rw [e];rfl)
 rw [Ë a]
 simp only [Ï]
 by_cases g:s.size<=32
 . rw [Ë (show ¬ (32:Int)<(s.size:Int) by omega),Ì (show 1<=s.size/\s.size<=32 by omega)]
   simp only [Ï]
   have b:=Qf s
   cases hb:Mi s with
   |nil=>rw [hb] at b;simp at b;omega
   |cons x r =>
    have i:gb s 0=some x:=Ae1 (k:=0) hb
    have j:(bif (decide (48<=x)) then some (decide (x<=57)) else some false:Option Bool)=some (Gi x):=by
     unfold Gi
     by_cases a1:48<=x
     . rw [Ì a1,Ñ];congr 1;rw [decide_eq_decide];omega
     . rw [Ë a1,Ï];congr 1;symm;rw [Û];omega
    simp only [i,Á,j]
    have c:PF s=some (x::r):=by
     unfold PF
     rw [Ç (by omega)]
     exact congrArg some hb
    simp only [List.getD_cons_zero,Bool.true_and]
    cases l:Gi x with
    |true=>simp only [Ñ,þ,Bool.and_false];exact Ev.pure
    |false =>
     simp only [Ï,c,Á,Ģ,Ğ]
     refine Ev.bind (Uj (x::r) (by rw [<- hb,b];omega)) ?_
     rw [Bool.not_not]
     exact Ev.pure
 . rw [Ì (show (32:Int)<(s.size:Int) by omega),Ë (show ¬ (1<=s.size/\s.size<=32) by omega)]
   exact Ev.pure
end Go.Sp
namespace Go.Sp
open Go
def F4 (l:List Ad)(s:Å):Bool:=l.any fun c=>decide (c.Name=s)
section
variable (c:Å) (c1 c2 c3 c4 c5:Int) (c6:Å) (c7:List Ah) (c8 c9 c10:Int) (c11:Å) (c12:List Ah) (c13 c14 c15:Int) (c16:Å) (c17:List Ah) (c18 c19:Int)
theorem P9 (l:List Ad)(hl:l.length<=1000000):∀ (r:List Ad) (k:Nat),l.drop k=r->k<=l.length ->
 ∃ v,Ev (fun n=>AI n l c c1 c2 c3 c4 c5 c6 c7 c8 c9 c10 c11 c12 c13 c14 c15 c16 c17 c18 c19 (k:Int)) v/\(match v with|.inl _=>F4 r c=false|.inr i=>0<=i/\F4 r c=true)
 | [],k,hr,hk=>by
  have he:=MN hr hk
  refine⟨.inl (),Ev.step (f:=fun _=>some (.inl ())) (fun n=>?_) Ev.pure,rfl⟩
  rw [AI.eq_2,show (decide ((k:Int)<(l.length:Int)))=false by rw [Û];omega];rfl
 |x::r,k,hr,hk=>by
  obtain⟨h1,h2⟩:=Ha hr
  have e:∀ n,AI (n+1) l c c1 c2 c3 c4 c5 c6 c7 c8 c9 c10 c11 c12 c13 c14 c15 c16 c17 c18 c19 (k:Int)=bif decide (x.Name=c) then some (.inr (k:Int)) else AI n l c c1 c2 c3 c4 c5 c6 c7 c8 c9 c10 c11 c12 c13 c14 c15 c16 c17 c18 c19 ((k+1:Nat):Int):=fun n=>by
   rw [AI.eq_2,Uz h2,Ñ,Sn hr,Á]
   unfold El
   rw [Á,Qw (by omega)]
  have hc:F4 (x::r) c=(decide (x.Name=c)||F4 r c):=by unfold F4;rw [Ĭ]
  rw [hc]
  cases a:(decide (x.Name=c)) with
  |true =>
   refine⟨.inr (k:Int),Ev.step e ?_,by omega,rfl⟩
   rw [a];exact Ev.pure
  |false =>
   obtain⟨v,k1,k2⟩:=P9 l hl r (k+1) h1 (by omega)
   refine⟨v,Ev.step e ?_,?_⟩
   . rw [a];exact k1
   . rw [Bool.false_or];exact k2
theorem S9 (l:List Ad)(hl:l.length<=1000000):Ev (fun n=>BI n c c1 c2 c3 c4 c5 c6 c7 c8 c9 c10 c11 c12 c13 c14 c15 c16 c17 c18 c19 l) (F4 l c):=by
 obtain⟨v,b,a⟩:=P9 c c1 c2 c3 c4 c5 c6 c7 c8 c9 c10 c11 c12 c13 c14 c15 c16 c17 c18 c19 l hl l 0 rfl (Ĉ _)
 unfold BI Cx
 cases v with
 |inl _ =>
  have a:F4 l c=false:=a
  rw [a]
  exact Ev.bind (Ev.bind b Ev.pure) Ev.pure
 |inr i =>
  have a:0<=i/\F4 l c=true:=a
  rw [a.2]
  refine Ev.bind (Ev.bind b Ev.pure) ?_
  rw [Ì a.1];exact Ev.pure
end
end Go.Sp
namespace Go.Sp
open Go
set_option maxRecDepth 100000
def GW (x:Ad):Bool:=decide (x.Rank<0∨9<x.Rank∨x.Known<0∨41666<x.Known∨(x.Kind<3/\x.Houses≠0)∨(x.Kind=3/\(x.Houses<1∨4095<x.Houses)))
def CQ (e:Ah)(t:Int):Int:=if (Ba e).2.2.E≠0 then (Ba e).2.2.E else if (Ba e).1≠t then 7 else 0
def F1 (x:Ad):Int:=if CQ x.From 2≠0 then CQ x.From 2 else if CQ x.To 2≠0 then CQ x.To 2 else CQ x.When 3
def B8 (l:List Ad)(x:Ad):Int :=
 if Ju x.Name=false then 6 else if F4 l x.Name=true then 9 else if x.Kind<1∨3<x.Kind then 1 else if GW x=true then 3 else F1 x
theorem UK (x:Ad)(hk:1<=x.Kind/\x.Kind<=3):((bif (decide (x.Rank<0)) then
 some true
 else
  bif (decide (9<x.Rank)) then
   some true
  else
   bif (decide (x.Known<0)) then
    some true
   else
    bif (decide (41666<x.Known)) then
     some true
    else
     bif (!(x.Kind == 3)) then
      bif (x.Houses != 0) then
       some true
      else
       bif (x.Kind == 3) then
        bif (decide (x.Houses<1)) then
         some true
        else
         some (decide (4096<=x.Houses))
       else
        some false
     else
      bif (x.Kind == 3) then
       bif (decide (x.Houses<1)) then
        some true
       else
        some (decide (4096<=x.Houses))
      else
       some false
 ):Option Bool)=some (GW x):=by
 unfold GW
 by_cases a:x.Rank<0
 . simp [a]
 by_cases c:9<x.Rank
 . simp [a,c]
 by_cases d:x.Known<0
 . simp [a,c,d]
 by_cases f:41666<x.Known
 . simp [a,c,d,f]
 by_cases g:x.Kind=3
 . by_cases e:x.Houses<1
   . simp [a,c,d,f,g,e]
   . have:(4096<=x.Houses)↔(4095<x.Houses):=by omega
     simp [a,c,d,f,g,e,this]
 . have i:x.Kind<3:=by omega
   have b:(x.Kind == 3)=false:=by simpa using g
   by_cases e:x.Houses=0
   . simp [a,c,d,f,g,e,i,b]
   . have b2:(x.Houses != 0)=true:=by simpa using e
     simp [a,c,d,f,g,e,i,b,b2]
theorem Nb {n:Nat}{e:Ah}{t:Int}(hs:Fg e=true)(r:Option (Unit ⊕ Int)):((Hn e).bind fun f=>bif (f.2.2.E != 0) then some (.inr f.2.2.E) else bif (f.1 != t) then some (.inr 7) else r)=if CQ e t≠0 then some (.inr (CQ e t)) else r:=by
 rw [YP hs,Á]
 unfold CQ
 by_cases c:(Ba e).2.2.E=0
 . rw [show ((Ba e).2.2.E != 0)=false by simpa using c,Ï,Ä (show ¬ (Ba e).2.2.E≠0 by simpa using c)]
   by_cases c2:(Ba e).1=t
   . rw [show ((Ba e).1 != t)=false by simpa using c2,Ä (show ¬ (Ba e).1≠t by simpa using c2)];rfl
   . rw [show ((Ba e).1 != t)=true by simpa using c2,Ç c2];rfl
 . rw [show ((Ba e).2.2.E != 0)=true by simpa using c,Ç (show (Ba e).2.2.E≠0 from c),Ç (show (Ba e).2.2.E≠0 from c)];rfl
theorem U5 (x:Ad)(hs:Jm x)(n:Nat):AB (n+4) x 0=if F1 x=0 then some (.inl ()) else some (.inr (F1 x)):=by
 obtain⟨s1,s2,s3⟩:=hs
 have e3:AB (n+1) x 3=some (.inl ()):=by rw [AB.eq_2];rfl
 have e2:AB (n+2) x 2=if CQ x.When 3≠0 then some (.inr (CQ x.When 3)) else some (.inl ()):=by
  rw [AB.eq_2,<- e3,<- Nb (n:=n) (t:=3) s3];rfl
 have e1:AB (n+3) x 1=if CQ x.To 2≠0 then some (.inr (CQ x.To 2)) else AB (n+2) x 2:=by
  rw [AB.eq_2,<- Nb (n:=n) (t:=2) s2];rfl
 have e0:AB (n+4) x 0=if CQ x.From 2≠0 then some (.inr (CQ x.From 2)) else AB (n+3) x 1:=by
  rw [AB.eq_2,<- Nb (n:=n) (t:=2) s1];rfl
 rw [e0,e1,e2]
 unfold F1
 by_cases a:CQ x.From 2=0
 . by_cases b:CQ x.To 2=0
   . by_cases c:CQ x.When 3=0
     . simp [a,b,c]
     . simp [a,b,c]
   . simp [a,b]
 . simp [a]
end Go.Sp
namespace Go.Sp
open Go
set_option maxRecDepth 100000
def D7 (l:List Ad):List Ad->Nat->Int
 | [],_=>0
 |x::r,k=>if B8 (l.take k) x≠0 then B8 (l.take k) x else D7 l r (k+1)
def CY (l:List Ad):Int:=if 40<l.length then 2 else D7 l l 0
def Yp (e:Int):Unit ⊕ Int:=if e=0 then .inl () else .inr e
theorem Afr {l:List Ad}{k:Nat}(h:k<=l.length):ZD l 0 (k:Int)=some (l.take k):=by
 unfold ZD
 rw [Ç (by omega)];simp
theorem Xm (x:Ad):((bif (decide (x.Kind<1)) then some true else some (decide (3<x.Kind))):Option Bool)=some (decide (x.Kind<1∨3<x.Kind)):=by
 by_cases h:x.Kind<1
 . simp [h]
 . simp [h]
theorem Afd {e:Int}:(if e=0 then (.inl ():Unit ⊕ Int) else .inr e)=Yp e:=rfl
theorem Tu (l:List Ad)(hl:l.length<=40)(hs:∀ c∈l,Jm c):∀ (r:List Ad) (k:Nat),l.drop k=r->k<=l.length->Ev (fun n=>C5 n l (k:Int)) (Yp (D7 l r k))
 | [],k,hr,hk=>by
  have he:=MN hr hk
  refine Ev.step (f:=fun _=>some (.inl ())) (fun n=>?_) Ev.pure
  rw [C5.eq_2,show (decide ((k:Int)<(l.length:Int)))=false by rw [Û];omega];rfl
 |x::r,k,hr,hk=>by
  obtain⟨h1,h2⟩:=Ha hr
  have hmem:x∈l:=í (by rw [hr];simp)
  have ih:=Tu l hl hs r (k+1) h1 (by omega)
  refine Ev.step (fun n=>C5.eq_2 (n:=n) l (k:Int)) ?_
  simp only [Uz h2,Ñ,Sn hr,Á,Afr hk,Xm,Qw (show k<4611686018427387904 by omega)]
  rw [D7]
  refine Ev.bind (Xp x.Name) ?_
  cases hn:Ju x.Name with
  |false =>
   have:B8 (l.take k) x=6:=by unfold B8;rw [Ç hn]
   rw [this,Ç (by decide)]
   exact Ev.pure
  |true =>
   simp only [þ,Ï]
   refine Ev.bind (S9 _ _ _ _ _ _ _ _ _ _ _ _ _ _ _ _ _ _ _ _ (l.take k) (by rw [List.length_take];omega)) ?_
   cases d:F4 (l.take k) x.Name with
   |true =>
    have:B8 (l.take k) x=9:=by unfold B8;rw [Ä (by rw [hn];simp),Ç d]
    rw [this,Ç (by decide)]
    exact Ev.pure
   |false =>
    simp only [Ï]
    by_cases a:x.Kind<1∨3<x.Kind
    . have:B8 (l.take k) x=1:=by unfold B8;rw [Ä (by rw [hn];simp),Ä (by rw [d];simp),Ç a]
      rw [this,Ç (by decide),Ì a]
      exact Ev.pure
    . rw [Ë a]
      simp only [Ï,UK x (by omega),Á]
      cases b:GW x with
      |true =>
       have:B8 (l.take k) x=3:=by unfold B8;rw [Ä (by rw [hn];simp),Ä (by rw [d];simp),Ä a,Ç b]
       rw [this,Ç (by decide)]
       exact Ev.pure
      |false =>
       have e:B8 (l.take k) x=F1 x:=by unfold B8;rw [Ä (by rw [hn];simp),Ä (by rw [d];simp),Ä a,Ä (by rw [b];simp)]
       rw [e]
       simp only [Ï]
       have g:∀ n,Fs x.Name x.Kind x.Rank x.Known x.From.Op x.From.N x.From.S x.From.Kids x.From.At x.To.Op x.To.N x.To.S x.To.Kids x.To.At x.When.Op x.When.N x.When.S x.When.Kids x.When.At x.Houses=some n:=fun n=>rfl
       simp only [g (),Á]
       have i:Ev (fun n=>AB n x 0) (if F1 x=0 then .inl () else .inr (F1 x)):=⟨4,fun n hn=>by
        obtain⟨m,rfl⟩:∃ m,n=m+4:=⟨n-4,by omega⟩
        show AB (m+4) x 0=_
        rw [U5 x (hs x hmem) m];split<;>rfl⟩
       refine Ev.bind i ?_
       by_cases c:F1 x=0
       . rw [Ç c,Ä (show ¬ F1 x≠0 by simpa using c)]
         exact ih
       . rw [Ä c,Ç c]
         have:Yp (F1 x)=.inr (F1 x):=by unfold Yp;rw [Ä c]
         rw [this]
         exact Ev.pure
theorem IP (l:List Ad)(hs:∀ c∈l,Jm c):Ev (fun n=>E0 n l) (CY l):=by
 unfold E0 CY
 by_cases h:40<l.length
 . rw [Ì (show (40:Int)<(l.length:Int) by omega),Ç h];exact Ev.pure
 . rw [Ë (show ¬ (40:Int)<(l.length:Int) by omega),Ä h]
   simp only [Ï,Á]
   refine Ev.bind (Tu l (by omega) hs l 0 rfl (Ĉ _)) ?_
   unfold Yp
   by_cases c:D7 l l 0=0
   . rw [Ç c,c];exact Ev.pure
   . rw [Ä c];exact Ev.pure
end Go.Sp
namespace Go.Sp
open Go
set_option maxRecDepth 100000
def VW (c:Ad)(d:Ap)(known:Int):Int×Int×Bool×Int :=
 if CY [c]≠0 then (0,0,false,CY [c]) else if DL d known≠0 then (0,0,false,DL d known)
 else (Ho ⟨d,known⟩ c.From,Ho ⟨d,known⟩ c.To,decide (c.Known<=known)&&(Ho ⟨d,known⟩ c.When == 1),0)
theorem SV {e:Ah}{t:Int}(h:CQ e t=0):(Ba e).2.2.E=0:=by
 unfold CQ at h
 by_cases c:(Ba e).2.2.E=0
 . exact c
 . rw [Ç c] at h;exact absurd h c
theorem Ads {c:Ad}(h:CY [c]=0):(Ba c.From).2.2.E=0/\(Ba c.To).2.2.E=0/\(Ba c.When).2.2.E=0:=by
 unfold CY at h
 rw [Ä (by simp),D7] at h
 by_cases d:B8 (List.take 0 [c]) c=0
 . have e:F1 c=0:=by
    unfold B8 at d
    split at d
    . cases d
    . split at d
      . cases d
      . split at d
        . cases d
        . split at d
          . cases d
          . exact d
   unfold F1 at e
   by_cases a:CQ c.From 2=0
   . rw [Ä (by simpa using a)] at e
     by_cases b:CQ c.To 2=0
     . rw [Ä (by simpa using b)] at e
       exact⟨SV a,SV b,SV e⟩
     . rw [Ç b] at e;exact absurd e b
   . rw [Ç a] at e;exact absurd e a
 . rw [Ç d] at h;exact absurd h d
end Go.Sp
namespace Go.Sp
open Go
set_option maxRecDepth 100000
def Afb:List An:=(IH ⟨⟨G7⟩⟩).1.take 10
def Adt:List An:=(IH ⟨⟨FP⟩⟩).1
def ZP (T k:Nat):List An:=Afb++⟨2,33,⟨#[]⟩,(T:Int)⟩::Adt.map fun x=>⟨x.Kind,x.At+(33+k:Nat),x.S,x.N⟩
def runT (n:Nat)(t:List An×Ak):Option (Ak×(List Au)) :=
 bif (t.2.E != 0) then
  some (t.2,[])
 else
  (Fx n 0 0 [] t.2.At t.2.E t.1 0).bind fun y=>match y with
  |.ok _ c =>
   (gi c.2.1 0).bind fun x =>
   bif (x.Kind != 5) then
    (Bb (Ab.mk c.2.1 c.2.2) 5).bind fun y1=>match y1 with
    |.ok _ _ =>
     some ((Ak.mk 0 0),c.1)
    |.pan e1 _=>some ((Ak.mk e1.At e1.E),c.1)
   else
    some ((Ak.mk 0 0),c.1)
  |.pan e c1=>some ((Ak.mk e.At e.E),c1.1)
def W0 (n:Nat)(t:List An×Ak):Option ((List Ad)×Ak) :=
 ((runT n t).bind fun bad =>
 bif (bad.1.E != 0) then
  some ([],bad.1)
 else
  some (bad.2,bad.1)).bind fun f =>
 bif (f.2.E != 0) then
  some ([],f.2)
 else
  (some ()).bind fun _ =>
  ((AF n f [] 0
  ):Option ((List Ad) ⊕ ((List Ad)×Ak))).bind fun y=>match y with
  |.inl out =>
   some (out,(Ak.mk 0 0))
  |.inr o=>some o
theorem Abd {n:Nat}{src:Å}{t:List An×Ak}(h:IG src=some t):Cv n src=W0 n t:=by
 unfold Cv Ie Es W0 runT
 rw [h];rfl
def ZE (T k:Nat):List Au:=match runT 60 (ZP T k,⟨0,0⟩) with
 |some (_,l)=>l
 |none=>[]
theorem Adm (m T k:Nat):runT (m+60) (ZP T k,⟨0,0⟩)=some (⟨0,0⟩,ZE T k):=by kernel_rfl
def noE:Ah:=.mk 0 0 ⟨#[]⟩ [] 0
def fmI (T k i:Nat):Au:=(ZE T k).getD i ⟨⟨#[]⟩,[],[],0⟩
def ag (T k i j:Nat):Bq:=(fmI T k i).Args.getD j ⟨0,0,⟨#[]⟩,noE,0⟩
def HQ (T k i:Nat)(kd:Int):Ad:=⟨(ag T k i 0).S,kd,(ag T k i 1).N,(ag T k i 2).N,(ag T k i 3).E,(ag T k i 4).E,(ag T k i 5).E,0⟩
theorem round {n:Nat}{f:(List Au)×Ak}{out l1:List Ad}{v c1:Int}{x:Au}{s:Int×Bool}{x0 x1 x2 x3 x4 x5:Bq}(h1:decide (v<(f.1.length:Int))=true)(h2:gi f.1 v=some x)(h3:FX n x=some s)(h4:(!s.2)=false)(h5:((out.length:Int) == 40)=false)
 (h6:BY n 0 0 f.2.At f.2.E x.Word x.Args x.Body x.At out=some false) (g0:gi x.Args 0=some x0) (g1:gi x.Args 1=some x1) (g2:gi x.Args 2=some x2) (g3:gi x.Args 3=some x3) (g4:gi x.Args 4=some x4) (g5:gi x.Args 5=some x5)
 (h7:C4 n x 0 (-1) 0=some (.inl c1)) (h9:AK n x3 x4 x5 0=some (.inl ())) (h10:CH 240 out [⟨x0.S,s.1,x1.N,x2.N,x3.E,x4.E,x5.E,c1⟩]=some l1) :
 AF (n+1) f out v=AF n f l1 (À (v+1)):=by
 rw [AF]
 simp only [h1,h2,h3,h4,h5,h6,g0,g1,g2,g3,g4,g5,h7,h9,h10,Ñ,Ï,Á,EM]
theorem Y6 {n:Nat}{a b c:Bq}{o1 o2 o3:Aa}(h1:Hn a.E=some (2,o1,⟨0,0⟩))(h2:Hn b.E=some (2,o2,⟨0,0⟩))(h3:Hn c.E=some (3,o3,⟨0,0⟩)):AK (n+4) a b c 0=some (.inl ()):=by
 have s3:AK (n+1) a b c 3=some (.inl ()):=by rw [AK];rfl
 have s2:AK (n+2) a b c 2=some (.inl ()):=by rw [AK,h3];exact s3
 have s1:AK (n+3) a b c 1=some (.inl ()):=by rw [AK,h2];exact s2
 rw [AK,h1]
 exact s1
def L1 (T:Nat)(a b c:Int):Ah:=.mk 10 0 ⟨#[]⟩ [.mk 3 0 ⟨#[115,116,111,114,101,100]⟩ [] a,.mk 1 (T:Int) ⟨#[]⟩ [] b] c
theorem Yz {T:Nat}(h:T<=65535)(b:Int):Ba (.mk 1 (T:Int) ⟨#[]⟩ [] b)=(1,Z9,⟨0,0⟩):=by
 rw [Ba,Ä (by decide)]
 show (if (1:Int)=1 then (if (T:Int)<0∨999999999999999<(T:Int) then SA b 1 else (1,Z9,⟨0,0⟩)) else _)=_
 rw [Ç rfl,Ä (by omega)]
theorem QX {T:Nat}(h:T<=65535)(a b c:Int):Ba (L1 T a b c)=Ba (L1 1 0 0 0):=by
 have e1:Ba (.mk 3 0 ⟨#[115,116,111,114,101,100]⟩ [] a)=(2,Z9,⟨0,0⟩):=by kernel_rfl
 have e2:DJ [.mk 3 0 ⟨#[115,116,111,114,101,100]⟩ [] a,.mk 1 (T:Int) ⟨#[]⟩ [] b]=.inl [2,1]:=by
  rw [DJ,DJ,DJ,e1,Yz h];rfl
 have e3:DJ [.mk 3 0 ⟨#[115,116,111,114,101,100]⟩ [] 0,.mk 1 ((1:Nat):Int) ⟨#[]⟩ [] 0]=.inl [2,1]:=by kernel_rfl
 unfold L1
 rw [Ba,Ba,e2,e3]
 rfl
end Go.Sp
namespace Go.Sp
open Go
structure RP {α:Type} (l l':List α) (a b:Nat):Prop where
 len:l'.length=l.length
 out:∀ i,i<a∨b<=i->l'[i]?=l[i]?
 inn:∀ i,a<=i->i<b->∃ k,a<=k/\k<b/\l'[i]?=l[k]?
 perm:l'.Perm l
section
variable {α:Type} {l l' l2:List α} {a b:Nat}
theorem RP.refl:RP l l a b:=⟨rfl,fun _ _=>rfl,fun i h1 h2=>⟨i,h1,h2,rfl⟩,.refl _⟩
theorem RP.trans (h:RP l l' a b)(k:RP l' l2 a b):RP l l2 a b:=by
 refine⟨k.len.trans h.len,fun i c=>(k.out i c).trans (h.out i c),fun i d e=>?_,k.perm.trans h.perm⟩
 obtain⟨j,f,g,m⟩:=k.inn i d e
 obtain⟨j2,n,o,p⟩:=h.inn j f g
 exact⟨j2,n,o,m.trans p⟩
theorem RP.mono {a' b':Nat}(h:RP l l' a b)(ha:a'<=a)(hb:b<=b'):RP l l' a' b':=by
 refine⟨h.len,fun i c=>h.out i (by omega),fun i d e=>?_,h.perm⟩
 by_cases c:a<=i/\i<b
 . obtain⟨k,g,j,f⟩:=h.inn i c.1 c.2
   exact⟨k,by omega,by omega,f⟩
 . exact⟨i,d,e,h.out i (by omega)⟩
theorem swp_get {i j:Nat}(hi:i<l.length)(hj:j<l.length)(x:Nat):((l.set i l[j]).set j l[i])[x]?=if x=j then l[i]? else if x=i then l[j]? else l[x]?:=by
 rw [List.getElem?_set]
 by_cases h:x=j
 . subst h;simp [hi,hj]
 . rw [Ä (fun e=>h e.symm),Ä h,List.getElem?_set]
   by_cases a:x=i
   . subst a;simp [hi,hj]
   . rw [Ä (fun e=>a e.symm),Ä a]
theorem XY {i j:Nat}(hi:i<l.length)(hj:j<l.length):((l.set i l[j]).set j l[i]).Perm l:=by
 have h:=Array.swap_perm (xs:=l.toArray) (i:=i) (j:=j) (by simpa using hi) (by simpa using hj)
 have a:=Array.perm_iff_toList_perm.1 h
 have e:(l.toArray.swap i j (by simpa using hi) (by simpa using hj)).toList=(l.set i l[j]).set j l[i]:=by simp [Array.swap]
 rw [e] at a
 simpa using a
theorem RP.swp {i j:Nat}(hi:i<l.length)(hj:j<l.length)(h1:a<=i/\i<b)(h2:a<=j/\j<b):RP l ((l.set i l[j]).set j l[i]) a b:=by
 refine⟨by simp,fun x e=>?_,fun x c d=>?_,XY hi hj⟩
 . rw [swp_get hi hj,Ä (by omega),Ä (by omega)]
 . rw [swp_get hi hj]
   split
   . exact⟨i,h1.1,h1.2,rfl⟩
   . split
     . exact⟨j,h2.1,h2.2,rfl⟩
     . exact⟨x,c,d,rfl⟩
end
end Go.Sp
namespace Go.Sp
open Go Go.Vl
section
variable {α:Type}
theorem giN (l:List α)(i:Nat):gi l (i:Int)=l[i]?:=by unfold gi;rw [Ç (by omega)];rfl
theorem Abw {l:List α}{i:Nat}(h:i<l.length)(x:α):JW l (i:Int) x=some (l.set i x):=by unfold JW;rw [Ç (by omega)];rfl
theorem gxN {n i:Nat}(h:i<n):gx n (i:Int)=some ():=by unfold gx;rw [Ç (by omega)]
def swp (l:List α)(i j:Nat):List α:=match l[i]?,l[j]? with
 |some x,some y=>(l.set i y).set j x
 |_,_=>l
theorem U7 {l:List α}{i j:Nat}(hi:i<l.length)(hj:j<l.length):swp l i j=(l.set i l[j]).set j l[i]:=by
 unfold swp;rw [Ã hi,Ã hj]
theorem RH {l:List α}{i j:Nat}(hi:i<l.length)(hj:j<l.length)(x:Nat):(swp l i j)[x]?=if x=j then l[i]? else if x=i then l[j]? else l[x]?:=by
 rw [U7 hi hj,swp_get hi hj]
theorem RG {l:List α}{a b i j:Nat}(hi:i<l.length)(hj:j<l.length)(h1:a<=i/\i<b)(h2:a<=j/\j<b):RP l (swp l i j) a b:=by
 rw [U7 hi hj];exact .swp hi hj h1 h2
theorem O4 {β:Type}{l:List α}{i j n:Nat}{ii jj:Int}(hi:i<l.length)(hj:j<l.length)(hn:l.length<=n)(ei:ii=i)(ej:jj=j)(k:List α->Option β) :
 ((gx n jj).bind fun _=>(gi l jj).bind fun x=>(gx n ii).bind fun _=>(gi l ii).bind fun x1=>(JW l ii x).bind fun d=>(JW d jj x1).bind k)=k (swp l i j):=by
 subst ei;subst ej
 rw [gxN (by omega),giN,giN,Ã hi,Ã hj,gxN (by omega)]
 simp only [Á]
 rw [Abw hi]
 simp only [Á]
 rw [Abw (by simpa using hj)]
 rw [U7 hi hj];rfl
end
section
variable (cv:List Ad)
def rk (x:Ae):Int:=match gi cv x.clause with
 |some c=>c.Rank
 |none=>0
def FO (l:List Ae)(i:Nat):Int:=match l[i]? with
 |some x=>rk cv x
 |none=>0
def okC (x:Ae):Prop:=∃ c,gi cv x.clause=some c/\0<=c.Rank/\c.Rank<=9
def Rc (l:List Ae):Prop:=∀ x∈l,okC cv x
def SR (l:List Ae)(a b:Nat):Prop:=∀ i j,a<=i->i<j->j<b->FO cv l j<=FO cv l i
end
variable {cv:List Ad}
theorem Rc.rp {l l':List Ae}{a b:Nat}(h:Rc cv l)(r:RP l l' a b):Rc cv l':=fun x hx=>h x (r.perm.mem_iff.1 hx)
theorem Ix {l l':List Ae}{i j:Nat}(h:l'[i]?=l[j]?):FO cv l' i=FO cv l j:=by unfold FO;rw [h]
theorem Adr {x y:Ae}(hx:okC cv x)(hy:okC cv y):CX cv x y=some (rk cv y-rk cv x):=by
 obtain⟨c,a,d,f⟩:=hx
 obtain⟨e,b,g,i⟩:=hy
 unfold CX rk
 rw [a,b]
 simp only [Á]
 rw [CI (by omega) (by omega)]
theorem OC {β:Type}{l:List Ae}{i j n:Nat}{ii jj:Int}(ok:Rc cv l)(hi:i<l.length)(hj:j<l.length)(hn:l.length<=n)(ei:ii=i)(ej:jj=j)(k:Int->Option β) :
 ((gx n ii).bind fun _=>(gi l ii).bind fun x=>(gx n jj).bind fun _=>(gi l jj).bind fun y=>(CX cv x y).bind k)=k (FO cv l j-FO cv l i):=by
 subst ei;subst ej
 rw [gxN (by omega),giN,giN,Ã hi,Ã hj,gxN (by omega)]
 simp only [Á]
 rw [Adr (ok _ (Ù hi)) (ok _ (Ù hj))]
 unfold FO
 rw [Ã hi,Ã hj];rfl
theorem wN {x:Int}{k:Nat}(h:x=k)(hk:k<1000000):À x=k:=by rw [CI (by omega) (by omega),h]
theorem Aas {x:Int}{i j:Nat}(h:x=(i:Int)+j)(hk:i+j<1000000):(À ((IntKind.u64.wrap (À x)).fdiv (2 ^ min (1:Int).toNat IntKind.u64.bits)))=(((i+j) / 2:Nat):Int):=by
 have e1:À x=((i+j:Nat):Int):=wN (by omega) hk
 have e2:IntKind.u64.wrap ((i+j:Nat):Int)=((i+j:Nat):Int):=by
  simp only [IntKind.wrap,IntKind.bits,IntKind.signed]
  simp
  omega
 rw [e1,e2]
 have e3:(2 ^ min (1:Int).toNat IntKind.u64.bits:Int)=2:=rfl
 rw [e3]
 have e4:(((i+j:Nat):Int)).fdiv 2=(((i+j) / 2:Nat):Int):=by
  rw [Int.fdiv_eq_ediv_of_nonneg _ (by decide)];omega
 rw [e4]
 exact wN rfl (by omega)
theorem Aex {N a J:Nat}(hJN:J<100000):∀ (j:Nat) (l:List Ae),l.length<=N->Rc cv l->a<=j->j<=J->J<l.length ->
 (∀ i k,a<=i->i<k->k<=J->i≠j->k≠j->FO cv l k<=FO cv l i)->(∀ k,j<k->k<=J->FO cv l k<=FO cv l j) ->
 ∃ l',RP l l' a (J+1)/\SR cv l' a (J+1)/\Ev (fun n=>Aw n (a:Int) N cv (j:Int) l) l':=by
 intro j
 induction j with
 |zero =>
  intro l hN ok u v hJ m p
  refine⟨l,.refl,fun i k d c q=>?_,.step (fun n=>Aw.eq_2 (n:=n) a N cv _ l) ?_⟩
  . by_cases b:i=0
    . subst b;exact p k c (by omega)
    . exact m i k d c (by omega) b (by omega)
  . refine .of fun n=>?_
    have:decide ((a:Int)<((0:Nat):Int))=false:=by simp
    rw [this];rfl
 |succ j ih =>
  intro l hN ok u v hJ m p
  have w1:À (((j+1:Nat):Int)-1)=(j:Int):=wN (by omega) (by omega)
  by_cases w:a=j+1
  . refine⟨l,.refl,fun i k d c q=>?_,.step (fun n=>Aw.eq_2 (n:=n) a N cv _ l) ?_⟩
    . by_cases b:i=j+1
      . subst b;exact p k c (by omega)
      . exact m i k d c (by omega) b (by omega)
    . refine .of fun n=>?_
      have:decide ((a:Int)<((j+1:Nat):Int))=false:=by simp;omega
      rw [this];rfl
  have r:decide ((a:Int)<((j+1:Nat):Int))=true:=by simp;omega
  have e:∀ n,Aw (n+1) (a:Int) N cv ((j+1:Nat):Int) l=if FO cv l j-FO cv l (j+1)<0 then Aw n (a:Int) N cv (j:Int) (swp l (j+1) j) else some l:=by
   intro n
   rw [Aw.eq_2,r]
   simp only [Ñ]
   rw [OC (i:=j+1) (j:=j) ok (by omega) (by omega) hN rfl w1]
   simp only [Á]
   by_cases o:FO cv l j-FO cv l (j+1)<0
   . rw [Ç o,Ì o]
     simp only [Ñ]
     rw [O4 (i:=j+1) (j:=j) (by omega) (by omega) hN rfl w1,w1]
   . rw [Ä o,Ë o];rfl
  by_cases o:FO cv l j-FO cv l (j+1)<0
  . have r1:RP l (swp l (j+1) j) a (J+1):=RG (by omega) (by omega) ⟨by omega,by omega⟩ ⟨by omega,by omega⟩
    have g:∀ x,FO cv (swp l (j+1) j) x=if x=j then FO cv l (j+1) else if x=j+1 then FO cv l j else FO cv l x:=by
     intro x
     have:=RH (l:=l) (i:=j+1) (j:=j) (by omega) (by omega) x
     split
     . rw [Ç (by assumption)] at this;exact Ix this
     . rw [Ä (by assumption)] at this
       split
       . rw [Ç (by assumption)] at this;exact Ix this
       . rw [Ä (by assumption)] at this;exact Ix this
    obtain⟨l',q1,q2,q3⟩:=ih (swp l (j+1) j) (by rw [r1.len];exact hN) (ok.rp r1) (by omega) (by omega) (by rw [r1.len];exact hJ) (by
     intro i k d c q y z
     rw [g,g,Ä z,Ä y]
     by_cases f:k=j+1
     . rw [Ç f,Ä (by omega)]
       exact m i j d (by omega) (by omega) (by omega) (by omega)
     . rw [Ä f]
       by_cases b:i=j+1
       . rw [Ç b];exact m j k (by omega) (by omega) q (by omega) f
       . rw [Ä b];exact m i k d c q b f) (by
     intro k d c
     rw [g,g,Ä (by omega),Ç rfl]
     by_cases f:k=j+1
     . rw [Ç f];omega
     . rw [Ä f];exact p k (by omega) c)
    refine⟨l',r1.trans q1,q2,.step e (q3.congr fun n=>by rw [Ç o])⟩
  . refine⟨l,.refl,fun i k d c q=>?_,.step e (.of fun n=>by rw [Ä o])⟩
    have s:FO cv l (j+1)<=FO cv l j:=by omega
    by_cases b:i=j+1
    . subst b;exact p k c (by omega)
    . by_cases f:k=j+1
      . subst f
        by_cases t:i=j
        . subst t;exact s
        . have:=m i j d (by omega) (by omega) b (by omega);omega
      . exact m i k d c (by omega) b f
theorem Aey {N a b:Nat}(hb:b<100000):∀ (m i:Nat) (l:List Ae),b-i=m->l.length<=N->Rc cv l->a<i->b<=l.length->SR cv l a i ->
 ∃ l',RP l l' a b/\SR cv l' a b/\Ev (fun n=>AD n (b:Int) (a:Int) N cv (i:Int) l) l':=by
 intro m
 induction m with
 |zero =>
  intro i l j hN ok o c hs
  refine⟨l,.refl,fun x y d e p=>hs x y d e (by omega),.step (fun n=>AD.eq_2 (n:=n) b a N cv _ l) (.of fun n=>?_)⟩
  have:decide ((i:Int)<(b:Int))=false:=by simp;omega
  rw [this];rfl
 |succ m ih =>
  intro i l j hN ok o c hs
  obtain⟨l1,r1,s1,e1⟩:=Aex (cv:=cv) (N:=N) (a:=a) (J:=i) (by omega) i l hN ok (by omega) (by omega) (by omega) (fun x y d e p q r=>hs x y d e (by omega)) (fun k d e=>by omega)
  obtain⟨l2,r2,s2,e2⟩:=ih (i+1) l1 (by omega) (by rw [r1.len];exact hN) (ok.rp r1) (by omega) (by rw [r1.len];exact c) s1
  refine⟨l2,(r1.mono (by omega) (by omega)).trans r2,s2,.step (fun n=>AD.eq_2 (n:=n) b a N cv _ l) ?_⟩
  have g:decide ((i:Int)<(b:Int))=true:=by simp;omega
  have w1:À ((i:Int)+1)=((i+1:Nat):Int):=wN (by omega) (by omega)
  refine Ev.congr (f:=_) (e1.bind e2) fun n=>?_
  rw [g,w1];rfl
theorem P7 {N a b:Nat}{l:List Ae}(hb:b<100000)(hab:a<100000)(hN:l.length<=N)(ok:Rc cv l)(hbl:b<=l.length) :
 ∃ l',RP l l' a b/\SR cv l' a b/\Ev (fun n=>AA n cv N l (a:Int) (b:Int)) l':=by
 obtain⟨l',r,s,e⟩:=Aey (cv:=cv) (N:=N) (a:=a) (b:=b) hb (b-(a+1)) (a+1) l rfl hN ok (by omega) hbl (fun x y c d f=>by omega)
 refine⟨l',r,s,(e.bind (g:=fun _=>some) .pure).congr fun n=>?_⟩
 unfold AA
 rw [wN (k:=a+1) (by omega) (by omega)]
def SwD (l l':List Ae)(a b c i:Nat):Prop:=∀ x,l'[x]?=if a+i<=x/\x<a+c then l[b+(x-a)]? else if b+i<=x/\x<b+c then l[a+(x-b)]? else l[x]?
theorem Ad9 {N a b c:Nat}(hab:a+c<=b)(hb:b+c<100000):∀ (m i:Nat) (l:List Ae),c-i=m->i<=c->l.length<=N->b+c<=l.length ->
 ∃ l',RP l l' a (b+c)/\SwD l l' a b c i/\Ev (fun n=>AN n (c:Int) N (b:Int) (a:Int) (i:Int) l) l':=by
 intro m
 induction m with
 |zero =>
  intro i l o p hN f
  refine⟨l,.refl,fun x=>?_,.step (fun n=>AN.eq_2 (n:=n) c N b a _ l) (.of fun n=>?_)⟩
  . rw [Ä (by omega),Ä (by omega)]
  . have:decide ((i:Int)<(c:Int))=false:=by simp;omega
    rw [this];rfl
 |succ m ih =>
  intro i l o p hN f
  have r1:RP l (swp l (a+i) (b+i)) a (b+c):=RG (by omega) (by omega) ⟨by omega,by omega⟩ ⟨by omega,by omega⟩
  obtain⟨l2,r2,s2,e2⟩:=ih (i+1) (swp l (a+i) (b+i)) (by omega) (by omega) (by rw [r1.len];exact hN) (by rw [r1.len];exact f)
  refine⟨l2,r1.trans r2,fun x=>?_,.step (fun n=>AN.eq_2 (n:=n) c N b a _ l) (e2.congr fun n=>?_)⟩
  . rw [s2 x]
    have g:=fun y=>RH (l:=l) (i:=a+i) (j:=b+i) (by omega) (by omega) y
    by_cases k:a+i<=x/\x<a+c
    . rw [Ç k]
      by_cases d:x=a+i
      . subst d
        rw [Ä (by omega),Ä (by omega),g,Ä (by omega),Ç rfl]
        congr 1;omega
      . rw [Ç (by omega),g,Ä (by omega),Ä (by omega)]
    . rw [Ä k,Ä (by omega)]
      by_cases d:b+i<=x/\x<b+c
      . rw [Ç d]
        by_cases q:x=b+i
        . subst q
          rw [Ä (by omega),g,Ç rfl];congr 1;omega
        . rw [Ç (by omega),g,Ä (by omega),Ä (by omega)]
      . rw [Ä d,Ä (by omega),g,Ä (by omega),Ä (by omega)]
  . have e:decide ((i:Int)<(c:Int))=true:=by simp;omega
    have w1:À ((i:Int)+1)=((i+1:Nat):Int):=wN (by omega) (by omega)
    have w2:À ((b:Int)+i)=((b+i:Nat):Int):=wN (by omega) (by omega)
    have w3:À ((a:Int)+i)=((a+i:Nat):Int):=wN (by omega) (by omega)
    rw [e,w1,w2,w3]
    simp only [Ñ]
    rw [O4 (i:=a+i) (j:=b+i) (by omega) (by omega) hN rfl rfl]
theorem RI {N a b c:Nat}{l:List Ae}{aa bb cc:Int}(ea:aa=a)(eb:bb=b)(ec:cc=c)(hab:a+c<=b)(hb:b+c<100000)(hN:l.length<=N)(hl:b+c<=l.length) :
 ∃ l',RP l l' a (b+c)/\SwD l l' a b c 0/\Ev (fun n=>Bl n cv N l aa bb cc) l':=by
 subst ea;subst eb;subst ec
 obtain⟨l',r,s,e⟩:=Ad9 (N:=N) hab hb c 0 l rfl (by omega) hN hl
 exact⟨l',r,s,e.bind .pure⟩
end Go.Sp
namespace Go.Sp
open Go Go.Vl
variable {cv:List Ad}
def SN (l l':List Ae)(p m q:Nat):Prop:=∀ x,l'[x]?=if p<=x/\x<p+(q-m) then l[x+(m-p)]? else if p+(q-m)<=x/\x<q then l[x-(q-m)]? else l[x]?
theorem Afh {N m:Nat}:∀ (s i j:Nat) (l:List Ae),i+j<=s->0<i->0<j->i<=m->m+j<100000->m+j<=l.length->l.length<=N ->
 ∃ k l1,RP l l1 (m-i) (m+j)/\k<=i/\k<=j/\Ev (fun n=>A0 n cv N (m:Int) (i:Int) (j:Int) l) ((k:Int),l1)/\∀ l',SwD l1 l' (m-k) m k 0->SN l l' (m-i) m (m+j):=by
 intro s
 induction s with
 |zero=>intro i j l e f;omega
 |succ s ih =>
  intro i j l hs u v p hb t hN
  by_cases q:i=j
  . subst q
    refine⟨i,l,.refl,by omega,by omega,.step (fun n=>A0.eq_2 (n:=n) cv N m i i l) (.of fun n=>?_),fun l' h x=>?_⟩
    . have:((i:Int) != (i:Int))=false:=by simp
      rw [this];rfl
    . rw [h x]
      by_cases e:m-i<=x/\x<m
      . rw [Ç (by omega),Ç (by omega)];congr 1;omega
      . by_cases f:m<=x/\x<m+i
        . rw [Ä (by omega),Ç (by omega),Ä (by omega),Ç (by omega)];congr 1;omega
        . rw [Ä (by omega),Ä (by omega),Ä (by omega),Ä (by omega)]
  have o:((i:Int) != (j:Int))=true:=by simp;omega
  have w1:À ((m:Int)-i)=((m-i:Nat):Int):=wN (by omega) (by omega)
  by_cases w:j<i
  . have w2:À ((i:Int)-j)=((i-j:Nat):Int):=wN (by omega) (by omega)
    obtain⟨l1,r1,s1,e1⟩:=RI (cv:=cv) (N:=N) (a:=m-i) (b:=m) (c:=j) (l:=l) w1 rfl rfl (by omega) (by omega) hN t
    obtain⟨k,l2,r2,k1,k2,e2,d2⟩:=ih (i-j) j l1 (by omega) (by omega) v (by omega) hb (by rw [r1.len];exact t) (by rw [r1.len];exact hN)
    refine⟨k,l2,r1.trans (r2.mono (by omega) (by omega)),by omega,k2,.step (fun n=>A0.eq_2 (n:=n) cv N m i j l) ?_,fun l' h x=>?_⟩
    . have r:decide ((j:Int)<(i:Int))=true:=by simp;omega
      refine (e1.bind (g:=fun n d=>A0 n cv N (m:Int) ((i-j:Nat):Int) (j:Int) d) e2).congr fun n=>?_
      rw [o,r,w2];rfl
    . rw [d2 l' h x]
      by_cases e:m-(i-j)<=x/\x<m-(i-j)+(m+j-m)
      . rw [Ç e,s1,Ä (by omega),Ç (by omega),Ä (by omega),Ç (by omega)];congr 1;omega
      . rw [Ä e]
        by_cases f:m-(i-j)+(m+j-m)<=x/\x<m+j
        . rw [Ç f,s1,Ä (by omega),Ä (by omega),Ä (by omega),Ç (by omega)]
        . rw [Ä f,s1]
          by_cases y:m-i<=x/\x<m-i+j
          . rw [Ç (by omega),Ç (by omega)];congr 1;omega
          . rw [Ä (by omega),Ä (by omega),Ä (by omega),Ä (by omega)]
  . have w2:À ((j:Int)-i)=((j-i:Nat):Int):=wN (by omega) (by omega)
    have w3:À ((À ((m:Int)+j))-i)=((m+j-i:Nat):Int):=by
     have w4:À ((m:Int)+j)=((m+j:Nat):Int):=wN (by omega) (by omega)
     rw [w4];exact wN (by omega) (by omega)
    obtain⟨l1,r1,s1,e1⟩:=RI (cv:=cv) (N:=N) (a:=m-i) (b:=m+j-i) (c:=i) (l:=l) w1 w3 rfl (by omega) (by omega) hN (by omega)
    obtain⟨k,l2,r2,k1,k2,e2,d2⟩:=ih i (j-i) l1 (by omega) u (by omega) p (by omega) (by rw [r1.len];omega) (by rw [r1.len];exact hN)
    refine⟨k,l2,(r1.mono (by omega) (by omega)).trans (r2.mono (by omega) (by omega)),k1,by omega,.step (fun n=>A0.eq_2 (n:=n) cv N m i j l) ?_,fun l' h x=>?_⟩
    . have r:decide ((j:Int)<(i:Int))=false:=by simp;omega
      refine (e1.bind (g:=fun n d=>A0 n cv N (m:Int) (i:Int) ((j-i:Nat):Int) d) e2).congr fun n=>?_
      rw [o,r,w2];rfl
    . rw [d2 l' h x]
      by_cases e:m-i<=x/\x<m-i+(m+(j-i)-m)
      . rw [Ç e,s1,Ä (by omega),Ä (by omega),Ç (by omega)]
      . rw [Ä e]
        by_cases f:m-i+(m+(j-i)-m)<=x/\x<m+(j-i)
        . rw [Ç f,s1,Ç (by omega),Ç (by omega)];congr 1;omega
        . rw [Ä f,s1,Ä (by omega)]
          by_cases y:m+j-i<=x/\x<m+j
          . rw [Ç (by omega),Ä (by omega),Ç (by omega)];congr 1;omega
          . rw [Ä (by omega),Ä (by omega),Ä (by omega)]
theorem Acg {N p m q:Nat}{l:List Ae}{pp qq:Int}(ep:pp=p)(eq:qq=q)(hp:p<m)(hq:m<q)(hb:q<100000)(hl:q<=l.length)(hN:l.length<=N) :
 ∃ l',RP l l' p q/\SN l l' p m q/\Ev (fun n=>Bv n cv N l pp (m:Int) qq) l':=by
 subst ep;subst eq
 obtain⟨k,l1,r1,k1,k2,e1,d1⟩:=Afh (cv:=cv) (N:=N) (m:=m) ((m-p)+(q-m)) (m-p) (q-m) l (by omega) (by omega) (by omega) (by omega) (by omega) (by omega) hN
 have w1:À ((m:Int)-p)=((m-p:Nat):Int):=wN (by omega) (by omega)
 have w2:À ((q:Int)-m)=((q-m:Nat):Int):=wN (by omega) (by omega)
 have w3:À ((m:Int)-k)=((m-k:Nat):Int):=wN (by omega) (by omega)
 have a1:m-(m-p)=p:=by omega
 have a2:m+(q-m)=q:=by omega
 rw [a1,a2] at r1 d1
 obtain⟨l2,r2,s2,e2⟩:=RI (cv:=cv) (N:=N) (a:=m-k) (b:=m) (c:=k) (l:=l1) w3 rfl rfl (by omega) (by omega) (by rw [r1.len];exact hN) (by rw [r1.len];omega)
 refine⟨l2,r1.trans (r2.mono (by omega) (by omega)),d1 l2 s2,?_⟩
 unfold Bv
 rw [w1,w2]
 exact e1.bind (e2.bind .pure)
theorem half {F:Nat->Int->Int->Option Int}{T:Nat->Bool}{lo hi:Nat}(h:∀ n i j:Nat,lo<=i->i<j->j<=hi->F (n+1) (i:Int) (j:Int)=bif T ((i+j) / 2) then F n (((i+j) / 2+1:Nat):Int) (j:Int) else F n (i:Int) (((i+j) / 2:Nat):Int))
 (h0:∀ n i:Nat,F (n+1) (i:Int) (i:Int)=some (i:Int)):∀ (s i j:Nat),j-i<=s->lo<=i->i<=j->j<=hi->(i=lo∨T (i-1)=true)->(j=hi∨T j=false) ->
 ∃ r:Nat,lo<=r/\r<=hi/\(r=lo∨T (r-1)=true)/\(r=hi∨T r=false)/\Ev (fun n=>F n (i:Int) (j:Int)) (r:Int):=by
 intro s
 induction s with
 |zero =>
  intro i j hs a k b d e
  have:i=j:=by omega
  subst this
  exact⟨i,a,b,d,e,.step (h0 · i) .pure⟩
 |succ s ih =>
  intro i j hs a k b d e
  by_cases f:i=j
  . subst f
    exact⟨i,a,b,d,e,.step (h0 · i) .pure⟩
  by_cases g:T ((i+j) / 2)=true
  . obtain⟨r,q1,q2,q3,q4,q5⟩:=ih ((i+j) / 2+1) j (by omega) (by omega) (by omega) b (.inr (by simpa using g)) e
    exact⟨r,q1,q2,q3,q4,.step (fun n=>h n i j a (by omega) b) (q5.congr fun n=>by rw [g];rfl)⟩
  . have c:T ((i+j) / 2)=false:=by simpa using g
    obtain⟨r,q1,q2,q3,q4,q5⟩:=ih i ((i+j) / 2) (by omega) a (by omega) (by omega) d (.inr c)
    exact⟨r,q1,q2,q3,q4,.step (fun n=>h n i j a (by omega) b) (q5.congr fun n=>by rw [c];rfl)⟩
theorem mv1 {N i:Nat}(hi:i<100000):∀ (s k:Nat) (l:List Ae),i-k=s->k<i->i<=l.length->l.length<=N ->
 ∃ l',RP l l' k i/\SN l l' k (k+1) i/\Ev (fun n=>AV n (i:Int) N (k:Int) l) l':=by
 intro s
 induction s with
 |zero=>intro k l a b;omega
 |succ s ih =>
  intro k l hs m e hN
  have w1:À ((i:Int)-1)=((i-1:Nat):Int):=wN (by omega) (by omega)
  by_cases f:k+1=i
  . refine⟨l,.refl,fun x=>?_,.step (fun n=>AV.eq_2 (n:=n) i N k l) (.of fun n=>?_)⟩
    . rw [Ä (by omega)]
      by_cases h:k+(i-(k+1))<=x/\x<i
      . rw [Ç h];congr 1;omega
      . rw [Ä h]
    . have:decide ((k:Int)<((i-1:Nat):Int))=false:=by simp;omega
      rw [w1,this];rfl
  have w2:À ((k:Int)+1)=((k+1:Nat):Int):=wN (by omega) (by omega)
  have r1:RP l (swp l k (k+1)) k i:=RG (by omega) (by omega) ⟨by omega,by omega⟩ ⟨by omega,by omega⟩
  obtain⟨l2,r2,s2,e2⟩:=ih (k+1) (swp l k (k+1)) (by omega) (by omega) (by rw [r1.len];exact e) (by rw [r1.len];exact hN)
  refine⟨l2,r1.trans (r2.mono (by omega) (by omega)),fun x=>?_,.step (fun n=>AV.eq_2 (n:=n) i N k l) (e2.congr fun n=>?_)⟩
  . have g:=fun y=>RH (l:=l) (i:=k) (j:=k+1) (by omega) (by omega) y
    rw [s2 x]
    by_cases a:k+1<=x/\x<k+1+(i-(k+1+1))
    . rw [Ç a,g,Ä (by omega),Ä (by omega),Ç (by omega)];congr 1;omega
    . rw [Ä a]
      by_cases b:k+1+(i-(k+1+1))<=x/\x<i
      . rw [Ç b,g,Ç (by omega),Ä (by omega),Ç (by omega)];congr 1;omega
      . rw [Ä b,g]
        by_cases d:x=k
        . rw [Ä (by omega),Ç d,Ç (by omega)];congr 1;omega
        . rw [Ä (by omega),Ä d,Ä (by omega),Ä (by omega)]
  . have c:decide ((k:Int)<((i-1:Nat):Int))=true:=by simp;omega
    rw [w1,w2,c]
    simp only [Ñ]
    rw [O4 (i:=k) (j:=k+1) (by omega) (by omega) hN rfl rfl]
theorem mv3 {N i:Nat}:∀ (s m:Nat) (l:List Ae),m-i=s->m<100000->i<=m->m<l.length->l.length<=N ->
 ∃ l',RP l l' i (m+1)/\SN l l' i m (m+1)/\Ev (fun n=>AU n (i:Int) N (m:Int) l) l':=by
 intro s
 induction s with
 |zero =>
  intro m l hs f a k hN
  refine⟨l,.refl,fun x=>?_,.step (fun n=>AU.eq_2 (n:=n) i N m l) (.of fun n=>?_)⟩
  . by_cases h:i<=x/\x<i+(m+1-m)
    . rw [Ç h];congr 1;omega
    . rw [Ä h,Ä (by omega)]
  . have:decide ((i:Int)<(m:Int))=false:=by simp;omega
    rw [this];rfl
 |succ s ih =>
  intro m l hs f a k hN
  have w2:À ((m:Int)-1)=((m-1:Nat):Int):=wN (by omega) (by omega)
  have r1:RP l (swp l m (m-1)) i (m+1):=RG (by omega) (by omega) ⟨by omega,by omega⟩ ⟨by omega,by omega⟩
  obtain⟨l2,r2,s2,e2⟩:=ih (m-1) (swp l m (m-1)) (by omega) (by omega) (by omega) (by rw [r1.len];omega) (by rw [r1.len];exact hN)
  refine⟨l2,r1.trans (r2.mono (by omega) (by omega)),fun x=>?_,.step (fun n=>AU.eq_2 (n:=n) i N m l) (e2.congr fun n=>?_)⟩
  . have g:=fun y=>RH (l:=l) (i:=m) (j:=m-1) (by omega) (by omega) y
    rw [s2 x]
    by_cases c:i<=x/\x<i+(m-1+1-(m-1))
    . rw [Ç c,g,Ç (by omega),Ç (by omega)];congr 1;omega
    . rw [Ä c]
      by_cases d:i+(m-1+1-(m-1))<=x/\x<m-1+1
      . rw [Ç d,g,Ä (by omega),Ä (by omega),Ä (by omega),Ç (by omega)];congr 1;omega
      . rw [Ä d,g,Ä (by omega)]
        by_cases e:x=m
        . rw [Ç e,Ä (by omega),Ç (by omega)];congr 1;omega
        . rw [Ä e,Ä (by omega),Ä (by omega)]
  . have b:decide ((i:Int)<(m:Int))=true:=by simp;omega
    rw [b,w2]
    simp only [Ñ]
    rw [O4 (i:=m) (j:=m-1) (by omega) (by omega) hN rfl rfl]
end Go.Sp
namespace Go.Sp
open Go Go.Vl
variable {cv:List Ad}
section
variable {l l':List Ae} {a b m:Nat}
theorem SR.join (h1:SR cv l a m)(h2:SR cv l m b)(h3:∀ i j,a<=i->i<m->m<=j->j<b->FO cv l j<=FO cv l i):SR cv l a b:=by
 intro i j d c e
 by_cases c1:j<m
 . exact h1 i j d c c1
 . by_cases c2:m<=i
   . exact h2 i j c2 c e
   . exact h3 i j d (by omega) (by omega) e
theorem SR.le (h:SR cv l a b){i j:Nat}(h1:a<=i)(h2:i<=j)(h3:j<b):FO cv l j<=FO cv l i:=by
 by_cases c:i=j
 . subst c;omega
 . exact h i j h1 (by omega) h3
theorem SR.keep {x y:Nat}(h:SR cv l x y)(r:RP l l' a b)(hx:y<=a∨b<=x):SR cv l' x y:=by
 intro i j c d e
 rw [Ix (r.out i (by omega)),Ix (r.out j (by omega))]
 exact h i j c d e
end
theorem SN.rk {l l':List Ae}{p m q:Nat}(h:SN l l' p m q)(x:Nat):FO cv l' x=if p<=x/\x<p+(q-m) then FO cv l (x+(m-p)) else if p+(q-m)<=x/\x<q then FO cv l (x-(q-m)) else FO cv l x:=by
 have e:=h x
 split
 . rw [Ç (by assumption)] at e;exact Ix e
 . rw [Ä (by assumption)] at e
   split
   . rw [Ç (by assumption)] at e;exact Ix e
   . rw [Ä (by assumption)] at e;exact Ix e
theorem SN.parts {l l':List Ae}{a b p m q:Nat}(h:SN l l' p m q)(s1:SR cv l a m)(s2:SR cv l m b)(ap:a<=p)(pm:p<=m)(mq:m<=q)(qb:q<=b)
 (c1:a<p->q<b->FO cv l q<=FO cv l (p-1)) (c2:p<m->m<q->FO cv l p<=FO cv l (q-1)) :
 SR cv l' a p/\SR cv l' p (p+(q-m))/\SR cv l' (p+(q-m)) q/\SR cv l' q b/\(∀ i j,a<=i->i<p+(q-m)->p+(q-m)<=j->j<b->FO cv l' j<=FO cv l' i):=by
 have e:=h.rk (cv:=cv)
 refine⟨fun i j d f g=>?_,fun i j d f g=>?_,fun i j d f g=>?_,fun i j d f g=>?_,fun i j d f g k=>?_⟩
 . rw [e,e,Ä (by omega),Ä (by omega),Ä (by omega),Ä (by omega)];exact s1 i j d f (by omega)
 . rw [e,e,Ç (by omega),Ç (by omega)];exact s2 _ _ (by omega) (by omega) (by omega)
 . rw [e,e,Ä (by omega),Ç (by omega),Ä (by omega),Ç (by omega)];exact s1 _ _ (by omega) (by omega) (by omega)
 . rw [e,e,Ä (by omega),Ä (by omega),Ä (by omega),Ä (by omega)];exact s2 i j (by omega) f g
 . rw [e,e,Ä (by omega)]
   by_cases ci:i<p
   . rw [Ä (c:=p<=i/\i<p+(q-m)) (by omega),Ä (c:=p+(q-m)<=i/\i<q) (by omega)]
     by_cases cj:j<q
     . rw [Ç (by omega)];exact s1.le d (by omega) (by omega)
     . rw [Ä (by omega)]
       have x1:=s2.le (i:=q) (j:=j) mq (by omega) k
       have x2:=s1.le (i:=i) (j:=p-1) d (by omega) (by omega)
       have x3:=c1 (by omega) (by omega)
       omega
   . rw [Ç (c:=p<=i/\i<p+(q-m)) (by omega)]
     by_cases cj:j<q
     . rw [Ç (by omega)]
       have x1:=s1.le (i:=p) (j:=j-(q-m)) ap (by omega) (by omega)
       have x2:=s2.le (i:=i+(m-p)) (j:=q-1) (by omega) (by omega) (by omega)
       have x3:=c2 (by omega) (by omega)
       omega
     . rw [Ä (by omega)];exact s2.le (by omega) (by omega) k
theorem XL {p q:Prop}[Decidable p][Decidable q]:(bif decide p then some (decide q) else some false)=some (decide (p/\q)):=by
 by_cases a:p<;>by_cases b:q<;>simp [a,b]
theorem VP {N:Nat}:∀ (s a m b:Nat) (l:List Ae),b-a<=s->a<m->m<b->b<100000->b<=l.length->l.length<=N->Rc cv l->SR cv l a m->SR cv l m b ->
 ∃ l',RP l l' a b/\SR cv l' a b/\Ev (fun k=>Am k cv N l (a:Int) (m:Int) (b:Int)) l':=by
 intro s
 induction s with
 |zero=>intro a m b l o t v;omega
 |succ s ih =>
  intro a m b l hs z A hb D hN ok s1 s2
  have w1:À ((m:Int)-a)=((m-a:Nat):Int):=wN (by omega) (by omega)
  have w2:À ((b:Int)-m)=((b-m:Nat):Int):=wN (by omega) (by omega)
  by_cases c1:m=a+1
  . have o:(((m-a:Nat):Int) == 1)=true:=by simp;omega
    obtain⟨r,q1,q2,q3,q4,q5⟩:=half (F:=fun n i j=>A2 n N l (a:Int) cv i j) (T:=fun h=>decide (FO cv l a-FO cv l h<0)) (lo:=m) (hi:=b) (by
     intro n i j o t v
     show A2 (n+1) N l (a:Int) cv i j=_
     have f:decide ((i:Int)<(j:Int))=true:=by simp;omega
     rw [A2.eq_2,f,Aas (i:=i) (j:=j) rfl (by omega)]
     simp only [Ñ]
     rw [OC (i:=(i+j) / 2) (j:=a) ok (by omega) (by omega) hN rfl rfl,wN (k:=(i+j) / 2+1) (by omega) (by omega)]) (by
     intro n i
     show A2 (n+1) N l (a:Int) cv i i=_
     have f:decide ((i:Int)<(i:Int))=false:=by simp
     rw [A2.eq_2,f];rfl) (b-m) m b (by omega) (by omega) (by omega) (by omega) (.inl rfl) (.inl rfl)
    obtain⟨l',r1,d1,e1⟩:=mv1 (N:=N) (i:=r) (by omega) (r-a) a l rfl (by omega) (by omega) hN
    have g:=d1.rk (cv:=cv)
    subst c1
    obtain⟨p1,p2,p3,p4,p5⟩:=d1.parts (cv:=cv) (a:=a) (b:=b) s1 s2 (by omega) (by omega) (by omega) (by omega) (fun h=>by omega) (fun h u=>by
     rcases q3 with q3|q3
     . omega
     . have:=Č q3;omega)
    refine⟨l',r1.mono (by omega) (by omega),SR.join p2 (SR.join p3 p4 fun i j o t v w=>?_) p5,.step (fun k=>Am.eq_2 (n:=k) cv N l a _ b) ?_⟩
    . rcases q4 with q4|q4
      . omega
      have q4:=of_decide_eq_false q4
      rw [g,g,Ä (by omega),Ä (by omega),Ä (by omega),Ç (by omega)]
      have x:=s2.le (i:=r) (j:=j) (by omega) (by omega) w
      have:i-(r-(a+1))=a:=by omega
      rw [this];omega
    . rw [w1,o]
      exact q5.bind (e1.bind .pure)
  have o:(((m-a:Nat):Int) == 1)=false:=by simp;omega
  by_cases c2:b=m+1
  . have t:(((b-m:Nat):Int) == 1)=true:=by simp;omega
    obtain⟨r,q1,q2,q3,q4,q5⟩:=half (F:=fun n i j=>A1 n N (m:Int) l cv i j) (T:=fun h=>!decide (FO cv l h-FO cv l m<0)) (lo:=a) (hi:=m) (by
     intro n i j o t v
     show A1 (n+1) N (m:Int) l cv i j=_
     have f:decide ((i:Int)<(j:Int))=true:=by simp;omega
     rw [A1.eq_2,f,Aas (i:=i) (j:=j) rfl (by omega)]
     simp only [Ñ]
     rw [OC (i:=m) (j:=(i+j) / 2) ok (by omega) (by omega) hN rfl rfl,wN (k:=(i+j) / 2+1) (by omega) (by omega)]) (by
     intro n i
     show A1 (n+1) N (m:Int) l cv i i=_
     have f:decide ((i:Int)<(i:Int))=false:=by simp
     rw [A1.eq_2,f];rfl) (m-a) a m (by omega) (by omega) (by omega) (by omega) (.inl rfl) (.inl rfl)
    obtain⟨l',r1,d1,e1⟩:=mv3 (N:=N) (i:=r) (m-r) m l rfl (by omega) (by omega) (by omega) hN
    have g:=d1.rk (cv:=cv)
    subst c2
    obtain⟨p1,p2,p3,p4,p5⟩:=d1.parts (cv:=cv) (a:=a) (b:=m+1) s1 s2 (by omega) (by omega) (by omega) (by omega) (fun h u=>by omega) (fun h u=>by
     rcases q4 with q4|q4
     . omega
     . have:=Č (by simpa using q4:decide (FO cv l r-FO cv l m<0)=true)
       have e:m+1-1=m:=by omega
       rw [e];omega)
    refine⟨l',r1.mono (by omega) (by omega),SR.join (SR.join p1 p2 fun i j o t v w=>?_) p3 p5,.step (fun k=>Am.eq_2 (n:=k) cv N l a m _) ?_⟩
    . rcases q3 with q3|q3
      . omega
      have q3:=of_decide_eq_false (by simpa using q3:decide (FO cv l (r-1)-FO cv l m<0)=false)
      rw [g,g,Ç (by omega),Ä (by omega),Ä (by omega)]
      have x:=s1.le (i:=i) (j:=r-1) (by omega) (by omega) (by omega)
      have:j+(m-r)=m:=by omega
      rw [this];omega
    . rw [w1,o,w2,t]
      exact q5.bind (e1.bind .pure)
  have t:(((b-m:Nat):Int) == 1)=false:=by simp;omega
  have wm:=Aas (x:=(a:Int)+b) (i:=a) (j:=b) rfl (by omega)
  generalize y:(a+b) / 2=mid at wm
  have B:a<mid:=by omega
  have C:mid<b:=by omega
  have wn:À ((mid:Int)+m)=((mid+m:Nat):Int):=wN (by omega) (by omega)
  have key:∀ lo hi:Nat,a<=lo->lo<=hi->hi<=m->hi<=mid∨m<=mid->mid+m-b<=lo->(lo=a∨lo+b=mid+m)->(hi=m∨hi=mid) ->
   ∃ r:Nat,lo<=r/\r<=hi/\(r=lo∨FO cv l (mid+m-r)<=FO cv l (r-1))/\(r=hi∨FO cv l r<=FO cv l (mid+m-r-1))/\Ev (fun n=>Av n N (a:Int) (b:Int) (m:Int) l cv (lo:Int) (hi:Int)) (r:Int):=by
   intro lo hi k1 k2 k3 k4 k5 k6 k7
   obtain⟨r,q1,q2,q3,q4,q5⟩:=half (F:=fun n i j=>Av n N (a:Int) (b:Int) (m:Int) l cv i j) (T:=fun c=>!decide (FO cv l c-FO cv l (mid+m-1-c)<0)) (lo:=lo) (hi:=hi) (by
    intro n i j o t v
    show Av (n+1) N (a:Int) (b:Int) (m:Int) l cv i j=_
    have f:decide ((i:Int)<(j:Int))=true:=by simp;omega
    rw [Av.eq_2,f,Aas (i:=i) (j:=j) rfl (by omega),wm,wn]
    simp only [Ñ]
    rw [wN (x:=((mid+m:Nat):Int)-1) (k:=mid+m-1) (by omega) (by omega),wN (x:=((mid+m-1:Nat):Int)-(((i+j) / 2:Nat):Int)) (k:=mid+m-1-(i+j) / 2) (by omega) (by omega)]
    rw [OC (i:=mid+m-1-(i+j) / 2) (j:=(i+j) / 2) ok (by omega) (by omega) hN rfl rfl,wN (x:=(((i+j) / 2:Nat):Int)+1) (k:=(i+j) / 2+1) (by omega) (by omega)]) (by
    intro n i
    show Av (n+1) N (a:Int) (b:Int) (m:Int) l cv i i=_
    have f:decide ((i:Int)<(i:Int))=false:=by simp
    rw [Av.eq_2,f];rfl) (hi-lo) lo hi (by omega) (by omega) (by omega) (by omega) (.inl rfl) (.inl rfl)
   refine⟨r,q1,q2,?_,?_,q5⟩
   . by_cases c:r=lo
     . exact .inl c
     . rcases q3 with q3|q3
       . exact absurd q3 c
       . have x:=of_decide_eq_false (by simpa using q3:decide (FO cv l (r-1)-FO cv l (mid+m-1-(r-1))<0)=false)
         have e:mid+m-1-(r-1)=mid+m-r:=by omega
         rw [e] at x
         exact .inr (by omega)
   . rcases q4 with q4|q4
     . exact .inl q4
     . have x:=Č (by simpa using q4:decide (FO cv l r-FO cv l (mid+m-1-r)<0)=true)
       have e:mid+m-1-r=mid+m-r-1:=by omega
       rw [e] at x
       exact .inr (by omega)
  have key2:∃ lo hi r:Nat,(bif decide ((mid:Int)<(m:Int)) then some (À (((mid+m:Nat):Int)-(b:Int)),(mid:Int)) else some ((a:Int),(m:Int)))=some ((lo:Int),(hi:Int))/\a<=r/\r<=m/\r<=mid/\m<=mid+m-r/\mid+m-r<=b/\(a<r->mid+m-r<b->FO cv l (mid+m-r)<=FO cv l (r-1))/\(r<m->m<mid+m-r->FO cv l r<=FO cv l (mid+m-r-1))/\Ev (fun n=>Av n N (a:Int) (b:Int) (m:Int) l cv (lo:Int) (hi:Int)) (r:Int):=by
   by_cases c:mid<m
   . obtain⟨r,q1,q2,q3,q4,q5⟩:=key (mid+m-b) mid (by omega) (by omega) (by omega) (by omega) (by omega) (by omega) (by omega)
     refine⟨mid+m-b,mid,r,?_,by omega,by omega,by omega,by omega,by omega,fun h u=>q3.elim (fun h=>by omega) id,fun h u=>q4.elim (fun h=>by omega) id,q5⟩
     rw [Ì (by omega),wN (k:=mid+m-b) (by omega) (by omega)];rfl
   . obtain⟨r,q1,q2,q3,q4,q5⟩:=key a m (by omega) (by omega) (by omega) (by omega) (by omega) (by omega) (by omega)
     refine⟨a,m,r,?_,by omega,by omega,by omega,by omega,by omega,fun h u=>q3.elim (fun h=>by omega) id,fun h u=>q4.elim (fun h=>by omega) id,q5⟩
     rw [Ë (by omega)];rfl
  obtain⟨lo,hi,r,f1,f2,f3,f4,f5,f6,f7,f8,f9⟩:=key2
  have wq:À (((mid+m:Nat):Int)-(r:Int))=((mid+m-r:Nat):Int):=wN (by omega) (by omega)
  have emid:r+(mid+m-r-m)=mid:=by omega
  generalize E:mid+m-r=q at *
  -- the rotation
  have rot:∃ l1,RP l l1 r q/\SN l l1 r m q/\Ev (fun n=>bif decide (r<m/\m<q) then (Bv n cv N l (r:Int) (m:Int) (q:Int)).bind fun d=>some d else some l) l1:=by
   by_cases c:r<m/\m<q
   . obtain⟨l1,r1,d1,e1⟩:=Acg (cv:=cv) (N:=N) (p:=r) (m:=m) (q:=q) (l:=l) rfl rfl c.1 c.2 (by omega) (by omega) hN
     refine⟨l1,r1,d1,?_⟩
     rw [Ì c]
     exact e1.bind .pure
   . refine⟨l,.refl,fun x=>?_,?_⟩
     . by_cases c3:r=m
       . subst c3
         by_cases h:r<=x/\x<r+(q-r)
         . rw [Ç h];congr 1;omega
         . rw [Ä h,Ä (by omega)]
       . rw [Ä (by omega)]
         by_cases h:r+(q-m)<=x/\x<q
         . rw [Ç h];congr 1;omega
         . rw [Ä h]
     . rw [Ë c];exact .pure
  obtain⟨l1,r1,d1,e1⟩:=rot
  obtain⟨p1,p2,p3,p4,p5⟩:=d1.parts (cv:=cv) (a:=a) (b:=b) s1 s2 f2 f3 f5 f6 f7 f8
  rw [emid] at p2 p3 p5
  have ok1:=ok.rp r1
  have left:∃ l2,RP l1 l2 a mid/\SR cv l2 a mid/\Ev (fun n=>bif decide (a<r/\r<mid) then (Am n cv N l1 (a:Int) (r:Int) (mid:Int)).bind fun d=>some d else some l1) l2:=by
   by_cases c:a<r/\r<mid
   . obtain⟨l2,r2,t2,e2⟩:=ih a r mid l1 (by omega) c.1 c.2 (by omega) (by rw [r1.len];omega) (by rw [r1.len];exact hN) ok1 p1 p2
     refine⟨l2,r2,t2,?_⟩
     rw [Ì c]
     exact e2.bind .pure
   . refine⟨l1,.refl,?_,?_⟩
     . by_cases c3:a=r
       . rw [c3];exact p2
       . have:r=mid:=by omega
         rw [<- this];exact p1
     . rw [Ë c];exact .pure
  obtain⟨l2,r2,t2,e2⟩:=left
  have ok2:=ok1.rp r2
  have right:∃ l3,RP l2 l3 mid b/\SR cv l3 mid b/\Ev (fun n=>bif decide (mid<q/\q<b) then (Am n cv N l2 (mid:Int) (q:Int) (b:Int)).bind fun d=>some d else some l2) l3:=by
   have p3':SR cv l2 mid q:=p3.keep r2 (.inr (by omega))
   have p4':SR cv l2 q b:=p4.keep r2 (.inr (by omega))
   by_cases c:mid<q/\q<b
   . obtain⟨l3,r3,t3,e3⟩:=ih mid q b l2 (by omega) c.1 c.2 (by omega) (by rw [r2.len,r1.len];omega) (by rw [r2.len,r1.len];exact hN) ok2 p3' p4'
     refine⟨l3,r3,t3,?_⟩
     rw [Ì c]
     exact e3.bind .pure
   . refine⟨l2,.refl,?_,?_⟩
     . by_cases c3:mid=q
       . rw [c3];exact p4'
       . have:q=b:=by omega
         rw [<- this];exact p3'
     . rw [Ë c];exact .pure
  obtain⟨l3,r3,t3,e3⟩:=right
  refine⟨l3,((r1.mono (by omega) (by omega)).trans (r2.mono (by omega) (by omega))).trans (r3.mono (by omega) (by omega)),SR.join (t2.keep r3 (.inl (by omega))) t3 fun i j k1 k2 k3 k4=>?_,.step (fun k=>Am.eq_2 (n:=k) cv N l a m b) ?_⟩
  . obtain⟨i2,k5,k6,k7⟩:=r2.inn i k1 k2
    obtain⟨j2,k8,k9,k10⟩:=r3.inn j k3 k4
    rw [Ix ((r3.out i (by omega)).trans k7),Ix (k10.trans (r2.out j2 (by omega)))]
    exact p5 i2 j2 k5 k6 k8 k9
  . rw [w1,o,w2,t,wm,wn,f1]
    simp only [Ï,Á]
    refine f9.bind ?_
    rw [wq]
    simp only [Int.ofNat_lt,XL,Á]
    refine e1.bind ?_
    refine e2.bind ?_
    refine e3.congr fun n=>?_
    rfl
section
variable {N n:Nat} {l d:List Ae}
theorem Sj {x b:Int}(h:(n:Int)<b):Ev (fun k=>A8 k (n:Int) cv N x b l) (x,b,l):=.step (fun k=>A8.eq_2 (n:=k) n cv N x b l) (.of fun k=>by rw [Ë (by omega)];rfl)
theorem Aaw {x b:Int}{r:Int×Int×List Ae}(h:b<=(n:Int))(e:Ev (fun k=>AA k cv N l x b) d)(e2:Ev (fun k=>A8 k (n:Int) cv N b (À (b+20)) d) r):Ev (fun k=>A8 k (n:Int) cv N x b l) r:=by
 refine .step (fun k=>A8.eq_2 (n:=k) n cv N x b l) ?_
 rw [Ì h]
 exact e.bind e2
theorem Y5 {s x b:Int}(h:(n:Int)<b):Ev (fun k=>A9 k (n:Int) cv N s x b l) (x,b,l):=.step (fun k=>A9.eq_2 (n:=k) n cv N s x b l) (.of fun k=>by rw [Ë (by omega)];rfl)
theorem Afo {s x b:Int}{r:Int×Int×List Ae}(h:b<=(n:Int))(e:Ev (fun k=>Am k cv N l x (À (x+s)) b) d)(e2:Ev (fun k=>A9 k (n:Int) cv N s b (À (b+(À (2*s)))) d) r):Ev (fun k=>A9 k (n:Int) cv N s x b l) r:=by
 refine .step (fun k=>A9.eq_2 (n:=k) n cv N s x b l) ?_
 rw [Ì h]
 exact e.bind e2
theorem Sk {s x b:Int}(h:(n:Int)<=s):Ev (fun k=>A3 k (n:Int) cv N s x b l) l:=.step (fun k=>A3.eq_2 (n:=k) n cv N s x b l) (.of fun k=>by rw [Ë (by omega)];rfl)
theorem Aek {s x b x2 b2:Int}{l5 l6 r:List Ae}(h:s<(n:Int))(e:Ev (fun k=>A9 k (n:Int) cv N s 0 (À (2*s)) l) (x2,b2,l5))
 (e2:Ev (fun k=>bif decide (À (x2+s)<(n:Int)) then Am k cv N l5 x2 (À (x2+s)) (n:Int) else some l5) l6) (e3:Ev (fun k=>A3 k (n:Int) cv N (À (s*2)) x2 b2 l6) r):Ev (fun k=>A3 k (n:Int) cv N s x b l) r:=by
 refine .step (fun k=>A3.eq_2 (n:=k) n cv N s x b l) ?_
 rw [Ì h]
 refine e.bind ?_
 cases a:decide (À (x2+s)<(n:Int))
 . rw [a] at e2
   obtain⟨K,c⟩:=e2
   have:l5=l6:=by simpa using c K (Ü _)
   subst this
   refine e3.congr fun k=>?_
   show (bif decide (À (x2+s)<(n:Int)) then _ else _)=_
   rw [a];rfl
 . rw [a] at e2
   refine (e2.bind e3).congr fun k=>?_
   show (bif decide (À (x2+s)<(n:Int)) then _ else _)=_
   rw [a];rfl
end
theorem WO {N n:Nat}{l:List Ae}(hn:n<=40)(hl:l.length=n)(hN:n<=N)(ok:Rc cv l):∃ l',RP l l' 0 n/\SR cv l' 0 n/\Ev (fun k=>B3 k cv N l (n:Int)) l':=by
 have fin:∀ {x b:Int} {l1 l2 l3:List Ae},Ev (fun k=>A8 k (n:Int) cv N 0 20 l) (x,b,l1)->Ev (fun k=>AA k cv N l1 x (n:Int)) l2->Ev (fun k=>A3 k (n:Int) cv N 20 x b l2) l3->Ev (fun k=>B3 k cv N l (n:Int)) l3:=by
  intro x b l1 l2 l3 e1 e2 e3
  unfold B3
  exact e1.bind (e2.bind (e3.bind .pure))
 by_cases f:n<20
 . obtain⟨l',r,s,e⟩:=P7 (cv:=cv) (N:=N) (a:=0) (b:=n) (l:=l) (by omega) (by omega) (by omega) ok (by omega)
   exact⟨l',r,s,fin (Sj (by omega)) e (Sk (by omega))⟩
 obtain⟨l1,r1,s1,e1⟩:=P7 (cv:=cv) (N:=N) (a:=0) (b:=20) (l:=l) (by omega) (by omega) (by omega) ok (by omega)
 have ok1:=ok.rp r1
 by_cases g:n<40
 . obtain⟨l2,r2,s2,e2⟩:=P7 (cv:=cv) (N:=N) (a:=20) (b:=n) (l:=l1) (by omega) (by omega) (by rw [r1.len];omega) ok1 (by rw [r1.len];omega)
   have s1':SR cv l2 0 20:=s1.keep r2 (.inl (by omega))
   have r12:RP l l2 0 n:=(r1.mono (by omega) (by omega)).trans (r2.mono (by omega) (by omega))
   by_cases c:n=20
   . subst c
     exact⟨l2,r12,s1',fin (Aaw (by omega) e1 (Sj (b:=À (20+20)) (by decide))) e2 (Sk (by omega))⟩
   . obtain⟨l3,r3,s3,e3⟩:=VP (cv:=cv) (N:=N) n 0 20 n l2 (by omega) (by omega) (by omega) (by omega) (by rw [r2.len,r1.len];omega) (by rw [r2.len,r1.len];omega) (ok1.rp r2) s1' s2
     have w40:À (20+20)=40:=by decide
     have w2:À (2*20)=40:=by decide
     have w0:À (0+20)=20:=by decide
     have w4:À (20*2)=40:=by decide
     refine⟨l3,r12.trans r3,s3,fin (Aaw (by omega) e1 (Sj (by rw [w40];omega))) e2 (Aek (x2:=0) (b2:=40) (l5:=l2) (l6:=l3) (by omega) (by rw [w2];exact Y5 (by omega)) ?_ (Sk (by rw [w4];omega)))⟩
     rw [w0,Ì (by omega)]
     exact e3
 . have d:n=40:=by omega
   subst d
   have w40:À (20+20)=40:=by decide
   have w60:À (40+20)=60:=by decide
   have w2:À (2*20)=40:=by decide
   have w0:À (0+20)=20:=by decide
   have w4:À (20*2)=40:=by decide
   obtain⟨l2,r2,s2,e2⟩:=P7 (cv:=cv) (N:=N) (a:=20) (b:=40) (l:=l1) (by omega) (by omega) (by rw [r1.len];omega) ok1 (by rw [r1.len];omega)
   have s1':SR cv l2 0 20:=s1.keep r2 (.inl (by omega))
   obtain⟨l3,r3,s3,e3⟩:=P7 (cv:=cv) (N:=N) (a:=40) (b:=40) (l:=l2) (by omega) (by omega) (by rw [r2.len,r1.len];omega) (ok1.rp r2) (by rw [r2.len,r1.len];omega)
   obtain⟨l4,r4,s4,e4⟩:=VP (cv:=cv) (N:=N) 40 0 20 40 l3 (by omega) (by omega) (by omega) (by omega) (by rw [r3.len,r2.len,r1.len];omega) (by rw [r3.len,r2.len,r1.len];omega) ((ok1.rp r2).rp r3) (s1'.keep r3 (.inl (by omega))) (s2.keep r3 (.inl (by omega)))
   refine⟨l4,(((r1.mono (by omega) (by omega)).trans (r2.mono (by omega) (by omega))).trans (r3.mono (by omega) (by omega))).trans r4,s4,fin (x:=40) (b:=60) (Aaw (by omega) e1 ?_) e3 (Aek (x2:=40) (b2:=80) (l5:=l4) (l6:=l4) (by omega) ?_ ?_ (Sk (by rw [w4];omega)))⟩
   . rw [w40]
     refine Aaw (by omega) e2 ?_
     rw [w60]
     exact Sj (by omega)
   . rw [w2]
     refine Afo (by omega) (by rw [w0];exact e4) ?_
     rw [w2]
     have:À (40+40)=80:=by decide
     rw [this]
     exact Y5 (by omega)
   . have:À (40+20)=60:=by decide
     rw [this,Ë (by omega)]
     exact .pure
theorem ZW {l:List Ae}(hn:l.length<=40)(ok:Rc cv l):∃ l',l'.Perm l/\SR cv l' 0 l'.length/\Ev (fun k=>BL k cv l.length l) l':=by
 obtain⟨l',r,s,e⟩:=WO (cv:=cv) (N:=l.length) hn rfl (Ü _) ok
 refine⟨l',r.perm,by rw [r.len];exact s,?_⟩
 unfold BL
 exact e.bind .pure
end Go.Sp
namespace Go.Sp
open Go
set_option maxRecDepth 100000
theorem Abh {ks:List Ad}{c:Ad}(h:B8 ks c=0):Ju c.Name=true/\1<=c.Kind/\c.Kind<=3/\GW c=false/\F1 c=0:=by
 unfold B8 at h
 split at h
 . cases h
 . split at h
   . cases h
   . split at h
     . cases h
     . split at h
       . cases h
       . rename_i a d e b
         exact⟨by simpa using a,by omega,by omega,by simpa using b,h⟩
theorem Qc {l:List Ad}:∀ (r:List Ad) (k:Nat),D7 l r k=0->∀ c∈r,∃ j,B8 (l.take j) c=0
 | [],_,_,c,hc=>by cases hc
 |x::r,k,h,c,hc=>by
  rw [D7] at h
  by_cases h1:B8 (l.take k) x=0
  . rw [Ä (by simpa using h1)] at h
    rcases List.mem_cons.1 hc with rfl|hc
    . exact⟨k,h1⟩
    . exact Qc r (k+1) h c hc
  . rw [Ç h1] at h;exact absurd h h1
structure Qu (c:Ad):Prop where
 kind:1<=c.Kind/\c.Kind<=3
 rank:0<=c.Rank/\c.Rank<=9
 known:0<=c.Known/\c.Known<=41666
 houses:(c.Kind<3->c.Houses=0)/\(c.Kind=3->1<=c.Houses/\c.Houses<=4095)
 one:CY [c]=0
 from_:(Ba c.From).2.2.E=0/\(Ba c.From).1=2
 to_:(Ba c.To).2.2.E=0/\(Ba c.To).1=2
 when_:(Ba c.When).2.2.E=0/\(Ba c.When).1=3
theorem Kb {e:Ah}{t:Int}(h:CQ e t=0):(Ba e).2.2.E=0/\(Ba e).1=t:=by
 refine⟨SV h,?_⟩
 unfold CQ at h
 rw [Ä (by simpa using SV h)] at h
 by_cases c:(Ba e).1=t
 . exact c
 . rw [Ç c] at h;cases h
theorem Ae6 {ks:List Ad}{c:Ad}(h:B8 ks c=0):Qu c:=by
 obtain⟨f,g,i,e,d⟩:=Abh h
 unfold GW at e
 have e:=of_decide_eq_false e
 have e1:CY [c]=0:=by
  unfold CY
  rw [Ä (by simp),D7]
  have:B8 (List.take 0 [c]) c=0:=by
   unfold B8
   rw [Ä (by rw [f];decide),Ä (by unfold F4;simp),Ä (by omega),Ä (by unfold GW;rw [Ë e];decide)]
   exact d
  rw [this];rfl
 unfold F1 at d
 by_cases a:CQ c.From 2=0
 . rw [Ä (by simpa using a)] at d
   by_cases b:CQ c.To 2=0
   . rw [Ä (by simpa using b)] at d
     exact⟨⟨g,i⟩,by omega,by omega,⟨by omega,by omega⟩,e1,Kb a,Kb b,Kb d⟩
   . rw [Ç b] at d;exact absurd d b
 . rw [Ç a] at d;exact absurd d a
theorem Qb {l:List Ad}(h:CY l=0):l.length<=40/\∀ c∈l,Qu c:=by
 unfold CY at h
 by_cases b:40<l.length
 . rw [Ç b] at h;cases h
 . rw [Ä b] at h
   refine⟨by omega,fun c d=>?_⟩
   obtain⟨j,e⟩:=Qc l 0 h c d
   exact Ae6 e
def O2 (d:Ap)(known:Int)(c:Ad):Bool:=decide (c.Known<=known)&&(Ho ⟨d,known⟩ c.When == 1)
theorem ZV {c:Ad}{d:Ap}{known:Int}(hc:Qu c)(hk:DL d known=0):VW c d known=(Ho ⟨d,known⟩ c.From,Ho ⟨d,known⟩ c.To,O2 d known c,0):=by
 unfold VW
 rw [Ä (by simpa using hc.one),Ä (by simpa using hk)];rfl
theorem VU {e:Ah}{d:Ap}{known:Int}(hk:DL d known=0)(hs:Fg e=true)(h:(Ba e).2.2.E=0/\(Ba e).1=2):0<=Ho ⟨d,known⟩ e/\Ho ⟨d,known⟩ e<=41667:=by
 have:=(OV Wg ⟨d,known⟩ (Yw (m:=⟨d,known⟩) hk) e hs h.1).2
 rw [h.2] at this
 exact in2 this
theorem Ye (c:Ad)(d:Ap)(known:Int)(hs:Jm c):Ev (fun n=>Ft n c d known) (VW c d known):=by
 have f:∀ x∈[c],Jm x:=fun x j=>by rw [List.mem_singleton.1 j];exact hs
 unfold Ft VW
 simp only [Á]
 by_cases g:CY [c]=0
 . obtain⟨f1,f2,f3⟩:=Ads g
   by_cases i:DL d known=0
   . have v1:∀ e,Fg e=true->(Ba e).2.2.E=0->U3 e ⟨d,known⟩=some (Ho ⟨d,known⟩ e):=fun e a b=>by unfold U3;rw [Ç ⟨a,b,i⟩]
     rw [Ä (by simpa using g),Ä (by simpa using i)]
     refine Ev.bind (IP [c] f) ?_
     rw [show (CY [c] != 0)=false by simpa using g]
     simp only [Ï]
     refine Ev.bind (M9 d known) ?_
     rw [show (DL d known != 0)=false by simpa using i]
     simp only [Ï,v1 _ hs.1 f1,v1 _ hs.2.1 f2,v1 _ hs.2.2 f3,Á]
     cases decide (c.Known<=known)<;>exact Ev.pure
   . rw [Ä (by simpa using g),Ç i]
     refine Ev.bind (IP [c] f) ?_
     rw [show (CY [c] != 0)=false by simpa using g]
     refine Ev.bind (M9 d known) ?_
     rw [show (DL d known != 0)=true by simpa using i]
     exact Ev.pure
 . rw [Ç g]
   refine Ev.bind (IP [c] f) ?_
   rw [show (CY [c] != 0)=true by simpa using g]
   exact Ev.pure
def JV (d:Ap)(known:Int):List Ad->Nat->List Ae
 | [],_=>[]
 |c::r,k=>(if O2 d known c=true then [⟨Ho ⟨d,known⟩ c.From,Ho ⟨d,known⟩ c.To,(k:Int)⟩] else [])++JV d known r (k+1)
theorem Tl (d:Ap)(known:Int):∀ (r:List Ad) (k:Nat),(JV d known r k).length<=r.length
 | [],_=>by simp [JV]
 |c::r,k=>by
  have:=Tl d known r (k+1)
  rw [JV,Ô,æ]
  split<;>simp<;>omega
theorem Pc {d:Ap}{known:Int}{x:Ae}:∀ (r:List Ad) (k:Nat),x∈JV d known r k↔∃ (i:Nat) (c:Ad),r[i]?=some c/\O2 d known c=true/\x=⟨Ho ⟨d,known⟩ c.From,Ho ⟨d,known⟩ c.To,((k+i:Nat):Int)⟩
 | [],k=>by simp [JV]
 |c::r,k=>by
  rw [JV,List.mem_append,Pc r (k+1)]
  constructor
  . rintro (h|⟨i,e,h1,h2,h3⟩)
    . by_cases ha:O2 d known c=true
      . rw [Ç ha] at h
        exact⟨0,c,rfl,ha,by simpa using h⟩
      . rw [Ä ha] at h;cases h
    . exact⟨i+1,e,by simpa using h1,h2,by rw [h3];congr 1;omega⟩
  . rintro⟨i,e,h1,h2,h3⟩
    cases i with
    |zero =>
     have:c=e:=by simpa using h1
     subst this
     left;rw [Ç h2,h3];simp
    |succ i=>right;exact⟨i,e,by simpa using h1,h2,by rw [h3];congr 1;omega⟩
theorem Afs {l:List Ae}{y:Ae}(h:l.length<=1000):CH 24 l [y]=some (l++[y]):=by
 unfold CH
 rw [Ç (by simp;omega)]
theorem Nk {l:List Ad}{d:Ap}{known:Int}(hl:l.length<=40)(hf:∀ c∈l,Qu c)(hs:∀ c∈l,Jm c)(hk:DL d known=0) :
 ∀ (r:List Ad) (k:Nat) (out:List Ae),l.drop k=r->k<=l.length->out.length<=k->Ev (fun n=>Ce n l d known out (k:Int)) (out++JV d known r k)
 | [],k,out,hr,h1,h2=>by
  have he:=MN hr h1
  refine Ev.step (f:=fun n=>some out) (fun n=>?_) (by rw [JV,Ĝ];exact Ev.pure)
  rw [Ce.eq_2,Ë (by omega)];rfl
 |c::r,k,out,hr,h1,h2=>by
  obtain⟨h3,h4⟩:=Ha hr
  have hc:c∈l:=í (i:=k) (by rw [hr];exact á)
  have e:∀ n,Ce (n+1) l d known out (k:Int)=(Ft n c d known).bind fun s=>bif s.2.2.1 then (CH 24 out [(Ae.mk s.1 s.2.1 (k:Int))]).bind fun l2=>Ce n l d known l2 ((k+1:Nat):Int) else Ce n l d known out ((k+1:Nat):Int):=fun n=>by
   rw [Ce.eq_2,Uz h4,Ñ,Sn hr,Á,Qw (by omega)]
  refine Ev.step e ((Ye c d known (hs c hc)).bind ?_)
  rw [ZV (hf c hc) hk,JV]
  cases ha:O2 d known c with
  |true =>
   simp only [Ñ,ø,Afs (show out.length<=1000 by omega),Á]
   rw [<- ð]
   exact Nk hl hf hs hk r (k+1) _ h3 (by omega) (by simp;omega)
  |false =>
   simp only [Ï,â,û,ć]
   exact Nk hl hf hs hk r (k+1) out h3 (by omega) (by omega)
structure Z2 (l:List Ad) (d:Ap) (known:Int) (s:List Ae):Prop where
 perm:s.Perm (JV d known l 0)
 sorted:SR l s 0 s.length
 ok:Rc l s
 len:s.length<=40
 rng:∀ x∈s,0<=x.from_/\x.from_<=41667/\0<=x.to_/\x.to_<=41667
def Nl (l:List Ad)(d:Ap)(known:Int):Int:=if CY l≠0 then CY l else DL d known
theorem Yc {l:List Ad}{d:Ap}{known:Int}(hf:∀ c∈l,Qu c):Rc l (JV d known l 0):=by
 intro x b
 obtain⟨i,c,a,f,e⟩:=(Pc l 0).1 b
 refine⟨c,?_,(hf c (Ò a)).rank⟩
 rw [e]
 show gi l ((0+i:Nat):Int)=_
 rw [giN,ò];exact a
theorem Yd {l:List Ad}{d:Ap}{known:Int}(hs:∀ c∈l,Jm c) :
 (Nl l d known≠0/\Ev (fun n=>Cs n l d known) ([],Nl l d known))∨(Nl l d known=0/\∃ s,Z2 l d known s/\Ev (fun n=>Cs n l d known) (s,0)):=by
 unfold Nl
 by_cases e:CY l=0
 . rw [Ä (by simpa using e)]
   by_cases f:DL d known=0
   . right
     refine⟨f,?_⟩
     obtain⟨o,g⟩:=Qb e
     have lp:=Nk o g hs f l 0 [] rfl (Ĉ _) (Ü _)
     rw [ć] at lp
     have rng:∀ x∈JV d known l 0,0<=x.from_/\x.from_<=41667/\0<=x.to_/\x.to_<=41667:=by
      intro x j
      obtain⟨i,c,q1,q2,q3⟩:=(Pc l 0).1 j
      have k:=Ò q1
      have a:=VU f (hs c k).1 (g c k).from_
      have b:=VU f (hs c k).2.1 (g c k).to_
      rw [q3]
      exact⟨a.1,a.2,b.1,b.2⟩
     have m:=Tl d known l 0
     obtain⟨s,p,so,es⟩:=ZW (cv:=l) (l:=JV d known l 0) (by omega) (Yc g)
     refine⟨s,⟨p,so,fun x j=>Yc g x (p.mem_iff.1 j),by rw [p.length_eq];omega,fun x j=>rng x (p.mem_iff.1 j)⟩,?_⟩
     unfold Cs
     refine (IP l hs).bind ?_
     rw [e]
     simp only [Đ,Ï]
     refine (M9 d known).bind ?_
     rw [f]
     simp only [Đ,Ï]
     refine lp.bind ?_
     cases q:(JV d known l 0).isEmpty with
     |true =>
      have:JV d known l 0=[]:=List.isEmpty_iff.1 q
      rw [this] at p
      rw [p.eq_nil]
      exact Ev.pure
     |false =>
      simp only [Ï]
      refine es.bind ?_
      rw [p.length_eq]
      simp only [Ă,Ñ]
      exact Ev.pure
   . left
     refine⟨f,?_⟩
     unfold Cs
     refine (IP l hs).bind ?_
     rw [e]
     simp only [Đ,Ï]
     refine (M9 d known).bind ?_
     rw [show (DL d known != 0)=true by simpa using f]
     exact Ev.pure
 . left
   rw [Ç e]
   refine⟨e,?_⟩
   unfold Cs
   refine (IP l hs).bind ?_
   rw [show (CY l != 0)=true by simpa using e]
   exact Ev.pure
end Go.Sp
namespace Go.Sp
open Go
set_option maxRecDepth 100000
def O3 (x:Ae)(day:Int):Bool:=decide (x.from_<=day/\day<=x.to_)
theorem R5 (x:Ae)(day:Int):De x day=some (O3 x day):=by
 unfold De O3
 rw [XL];rfl
def La (h o:Int):Int:=bif bits .and .i64 h o == 0 then h else bits .and .i64 h o
theorem Xi (h o:Int):Dm h o=some (La h o):=by
 unfold Dm La
 cases bits .and .i64 h o == 0<;>rfl
section
variable (l:List Ad) (act:Ae->Bool)
def Y7 (x:Ae):Int:=match gi l x.clause with
 |some c=>c.Kind
 |none=>0
def hsC (x:Ae):Int:=match gi l x.clause with
 |some c=>c.Houses
 |none=>0
def Uy (x:Ae):Bool:=Y7 l x == 3&&act x
def L5:List Ae->Int->Int
 | [],c=>c
 |x::r,c=>L5 r (bits .and .i64 c (hsC l x))
def Eb (ρ:Int)(x:Ae):Bool:=rk l x == ρ
def Ka:Nat->List Ae->Int->Int ⊕ Int
 |_,[],out=>.inl out
 |0,_::_,out=>.inl out
 |m+1,x::r,out =>
  bif ((x::r).takeWhile (Eb l (rk l x))).any (Uy l act) then
   (bif L5 l (((x::r).takeWhile (Eb l (rk l x))).filter (Uy l act)) 4095 == 0 then .inr 0
   else Ka m ((x::r).dropWhile (Eb l (rk l x))) (La out (L5 l (((x::r).takeWhile (Eb l (rk l x))).filter (Uy l act)) 4095)))
  else Ka m ((x::r).dropWhile (Eb l (rk l x))) out
def R8 (s:List Ae):Int:=match Ka l act s.length s 4095 with
 |.inl o=>o
 |.inr o=>o
def XP:List Ae->Int->Int->List Int->Int×List Int
 | [],_,st,by_=>(st,by_)
 |x::r,ρ,st,by_=>bif Y7 l x == 3||!act x||decide (rk l x<ρ) then XP r ρ st by_ else XP r (rk l x) (bif st == 0 then Y7 l x else bif st != Y7 l x then 3 else st) (by_++[x.clause])
def atV (s:List Ae):B0:=⟨(XP l act s (-1) 0 []).1,R8 l act s,Iy (XP l act s (-1) 0 []).2⟩
end
theorem Wz {α:Type}(p:α->Bool):∀ l:List α,l.drop (l.takeWhile p).length=l.dropWhile p
 | []=>rfl
 |x::l=>by
  rw [Ē,ġ]
  cases p x with
  |true=>simpa using Wz p l
  |false=>rfl
section
variable {l:List Ad} {act:Ae->Bool} {s:List Ae} {day:Int}
theorem Zf {x:Ae}(h:okC l x):∃ c,gi l x.clause=some c/\rk l x=c.Rank/\Y7 l x=c.Kind/\hsC l x=c.Houses:=by
 obtain⟨c,a,_⟩:=h
 refine⟨c,a,?_,?_,?_⟩
 . unfold rk;rw [a]
 . unfold Y7;rw [a]
 . unfold hsC;rw [a]
theorem Na (ok:Rc l s)(hl:s.length<=40)(H:∀ x∈s,O3 x day=act x)(x1:Ad):∀ (r:List Ae) (k:Nat) (c:Int) (b:Bool),s.drop k=r->k<=s.length ->
 Ev (fun n=>BS n s l x1 day (k:Int) c b) (((k+(r.takeWhile (Eb l x1.Rank)).length:Nat):Int),L5 l ((r.takeWhile (Eb l x1.Rank)).filter (Uy l act)) c,b||(r.takeWhile (Eb l x1.Rank)).any (Uy l act))
 | [],k,c,b,hr,hk=>by
  have he:=MN hr hk
  refine Ev.step (f:=fun n=>some ((k:Int),c,b)) (fun n=>?_) ?_
  . rw [BS.eq_2,Ë (by omega)];rfl
  . have:(((k+(([]:List Ae).takeWhile (Eb l x1.Rank)).length:Nat):Int),L5 l ((([]:List Ae).takeWhile (Eb l x1.Rank)).filter (Uy l act)) c,b||(([]:List Ae).takeWhile (Eb l x1.Rank)).any (Uy l act))=((k:Int),c,b):=by cases b<;>rfl
    rw [this];exact Ev.pure
 |x::r,k,c,b,hr,hk=>by
  obtain⟨a,j⟩:=Ha hr
  have d:x∈s:=í (i:=k) (by rw [hr];exact á)
  obtain⟨c0,g0,g1,g2,g3⟩:=Zf (ok x d)
  have tw:(x::r).takeWhile (Eb l x1.Rank)=if c0.Rank == x1.Rank then x::r.takeWhile (Eb l x1.Rank) else []:=by
   rw [Ē]
   unfold Eb
   rw [g1]
  have e:∀ n,BS (n+1) s l x1 day (k:Int) c b=bif c0.Rank == x1.Rank then (bif Uy l act x then BS n s l x1 day ((k+1:Nat):Int) (bits .and .i64 c c0.Houses) true else BS n s l x1 day ((k+1:Nat):Int) c b) else some ((k:Int),c,b):=fun n=>by
   rw [BS.eq_2,Uz j,Ñ,Sn hr]
   simp only [Á,g0,Qw (show k<4611686018427387904 by omega),R5,H x d]
   have:Uy l act x=(c0.Kind == 3&&act x):=by unfold Uy;rw [g2]
   rw [this]
   cases c0.Rank == x1.Rank<;>cases c0.Kind == 3<;>cases act x<;>rfl
  refine Ev.step e ?_
  rw [tw]
  cases m:c0.Rank == x1.Rank with
  |false =>
   simp only [Ï,â,û]
   have:((((k+([]:List Ae).length:Nat)):Int),L5 l (([]:List Ae).filter (Uy l act)) c,b||([]:List Ae).any (Uy l act))=((k:Int),c,b):=by cases b<;>rfl
   rw [this];exact Ev.pure
  |true =>
   simp only [Ñ,ø,æ,Ĭ]
   have ea:k+((r.takeWhile (Eb l x1.Rank)).length+1)=k+1+(r.takeWhile (Eb l x1.Rank)).length:=by omega
   rw [ea]
   cases g:Uy l act x with
   |true =>
    rw [List.filter_cons_of_pos g,L5,g3]
    have:=Na ok hl H x1 r (k+1) (bits .and .i64 c c0.Houses) true a (by omega)
    simpa using this
   |false =>
    rw [List.filter_cons_of_neg (by rw [g];decide),Bool.false_or]
    exact Na ok hl H x1 r (k+1) c b a (by omega)
theorem WG (ok:Rc l s)(hl:s.length<=40)(H:∀ x∈s,O3 x day=act x):∀ (m k:Nat) (out:Int),s.length-k<=m->k<=s.length->Ev (fun n=>Cd n s l day out (k:Int)) (Ka l act m (s.drop k) out):=by
 intro m
 induction m with
 |zero =>
  intro k out e c
  have d:k=s.length:=by omega
  refine Ev.step (f:=fun n=>some (.inl out)) (fun n=>?_) ?_
  . rw [Cd.eq_2,Ë (by omega)];rfl
  . rw [d,List.drop_length];exact Ev.pure
 |succ m ih =>
  intro k out e c
  cases a:s.drop k with
  |nil =>
   have d:=MN a c
   refine Ev.step (f:=fun n=>some (.inl out)) (fun n=>?_) Ev.pure
   rw [Cd.eq_2,Ë (by omega)];rfl
  |cons x r =>
   obtain⟨p,g⟩:=Ha a
   have j:x∈s:=í (i:=k) (by rw [a];exact á)
   obtain⟨c0,g0,g1,g2,g3⟩:=Zf (ok x j)
   have e2:=Na ok hl H c0 (x::r) k 4095 false a c
   rw [Ka,g1]
   have tl:((x::r).takeWhile (Eb l c0.Rank)).length≠0:=by
    rw [Ē,show Eb l c0.Rank x=true by unfold Eb;rw [g1];simp,Ç rfl];simp
   have tl2:((x::r).takeWhile (Eb l c0.Rank)).length<=(x::r).length:=(List.takeWhile_sublist _).length_le
   have dl:(x::r).length=s.length-k:=by rw [<- a,ù]
   have dw:s.drop (k+((x::r).takeWhile (Eb l c0.Rank)).length)=(x::r).dropWhile (Eb l c0.Rank):=by
    rw [<- ĥ,a,Wz]
   have nxt:=fun o=>ih (k+((x::r).takeWhile (Eb l c0.Rank)).length) o (by omega) (by omega)
   rw [dw] at nxt
   generalize (x::r).takeWhile (Eb l c0.Rank)=tw at *
   refine Ev.step (f:=fun n=>(BS n s l c0 day (k:Int) 4095 false).bind fun y1=>match y1 with
    |(i1,common,some_)=>bif some_ then (bif common == 0 then some (.inr 0) else Cd n s l day (La out common) i1) else Cd n s l day out i1) (fun n=>?_) ?_
   . rw [Cd.eq_2,Uz g,Ñ,Sn a]
     simp only [Á,g0]
     refine congrArg _ (funext fun y1=>?_)
     obtain⟨i1,common,b⟩:=y1
     simp only [Xi,Á]
     cases b<;>cases common == 0<;>rfl
   . refine e2.bind ?_
     simp only [Bool.false_or]
     cases q:tw.any (Uy l act) with
     |false=>exact nxt out
     |true =>
      simp only [Ñ]
      cases t:L5 l (tw.filter (Uy l act)) 4095 == 0 with
      |true=>exact Ev.pure
      |false=>exact nxt _
theorem XR (ok:Rc l s)(hl:s.length<=40)(H:∀ x∈s,O3 x day=act x):Ev (fun n=>HN n l s day) (R8 l act s):=by
 unfold HN R8
 have:=WG ok hl H s.length 0 4095 (by omega) (by omega)
 rw [List.drop_zero] at this
 refine this.bind ?_
 cases Ka l act s.length s 4095<;>exact Ev.pure
theorem ga9 {l:List Int}{y:Int}(h:l.length<=1000):CH 8 l [y]=some (l++[y]):=by
 unfold CH
 rw [Ç (by simp;omega)]
theorem V9 (ok:Rc l s)(hl:s.length<=40)(H:∀ x∈s,O3 x day=act x):∀ (r:List Ae) (k:Nat) (ρ st:Int) (by_:List Int),s.drop k=r->k<=s.length->by_.length<=k->Ev (fun n=>C8 n s l day ρ (k:Int) st by_) (XP l act r ρ st by_)
 | [],k,ρ,st,by_,hr,hk,hb=>by
  have he:=MN hr hk
  refine Ev.step (f:=fun n=>some (st,by_)) (fun n=>?_) Ev.pure
  rw [C8.eq_2,Ë (by omega)];rfl
 |x::r,k,ρ,st,by_,hr,hk,hb=>by
  obtain⟨h1,h2⟩:=Ha hr
  have hx:x∈s:=í (i:=k) (by rw [hr];exact á)
  obtain⟨c0,g0,g1,g2,g3⟩:=Zf (ok x hx)
  have e:∀ n,C8 (n+1) s l day ρ (k:Int) st by_=bif c0.Kind == 3||!act x||decide (c0.Rank<ρ) then C8 n s l day ρ ((k+1:Nat):Int) st by_ else C8 n s l day c0.Rank ((k+1:Nat):Int) (bif st == 0 then c0.Kind else bif st != c0.Kind then 3 else st) (by_++[x.clause]):=fun n=>by
   rw [C8.eq_2,Uz h2,Ñ,Sn hr]
   simp only [Á,g0,Qw (show k<4611686018427387904 by omega),R5,H x hx,ga9 (show by_.length<=1000 by omega)]
   cases c0.Kind == 3<;>cases act x<;>cases decide (c0.Rank<ρ)<;>cases st == 0<;>cases st != c0.Kind<;>rfl
  refine Ev.step e ?_
  rw [XP,g1,g2]
  cases c0.Kind == 3||!act x||decide (c0.Rank<ρ) with
  |true=>exact V9 ok hl H r (k+1) ρ st by_ h1 (by omega) (by omega)
  |false=>exact V9 ok hl H r (k+1) _ _ _ h1 (by omega) (by simp;omega)
theorem SC:∀ (r:List Ae) (ρ st:Int) (by_:List Int),(XP l act r ρ st by_).2.length<=by_.length+r.length
 | [],ρ,st,by_=>by rw [XP];simp
 |x::r,ρ,st,by_=>by
  rw [XP]
  cases Y7 l x == 3||!act x||decide (rk l x<ρ) with
  |true=>have:=SC r ρ st by_;simp only [Ñ,æ];omega
  |false=>have:=SC r (rk l x) (bif st == 0 then Y7 l x else bif st != Y7 l x then 3 else st) (by_++[x.clause]);simp only [Ï,æ,Ô,ì] at this ⊢;omega
theorem Afa (ok:Rc l s)(hl:s.length<=40)(H:∀ x∈s,O3 x day=act x):Ev (fun n=>Ik n l s day) (atV l act s):=by
 unfold Ik atV
 refine (XR ok hl H).bind ?_
 refine (V9 ok hl H s 0 (-1) 0 [] rfl (Ĉ _) (Ü _)).bind ?_
 have hb:=SC (l:=l) (act:=act) s (-1) 0 []
 generalize XP l act s (-1) 0 []=y at *
 obtain⟨st,by_⟩:=y
 cases a:by_.isEmpty with
 |true =>
  have:by_=[]:=List.isEmpty_iff.1 a
  subst this
  exact Ev.pure
 |false =>
  have b:Rp by_=some (Iy by_):=by
   unfold Rp
   simp only [ì] at hb
   rw [Ç (by omega)]
  simp only [a,Ï,b,Á]
  rw [(FL by_).length_eq]
  simp only [Ă,Ñ]
  exact Ev.pure
end
end Go.Sp
namespace Go.Sp
open Go
set_option maxRecDepth 100000
structure I3 where
 rk:Int
 kd:Int
 hs:Int
 act:Bool
 ix:Int
def Gu (a:I3):Bool:=a.kd != 3&&a.act
def Pq (a:I3):Bool:=a.kd == 3&&a.act
def I6:List I3->Int
 | []=>-1
 |a::r=>if Gu a=true/\I6 r<a.rk then a.rk else I6 r
def PW (I:List I3):List I3:=I.filter fun a=>Gu a&&a.rk == I6 I
def VT:Int->List I3->Int
 |st,[]=>st
 |st,a::r=>VT (bif st == 0 then a.kd else bif st != a.kd then 3 else st) r
def Nj (D:List I3):Int:=bif D.any (fun a=>a.kd == 1) then (bif D.any (fun a=>a.kd == 2) then 3 else 1) else bif D.any (fun a=>a.kd == 2) then 2 else 0
def Mk:List I3->Int->Int
 | [],c=>c
 |a::r,c=>Mk r (bits .and .i64 c a.hs)
def Jw (ρ:Int)(I:List I3):List I3:=I.filter fun a=>a.rk == ρ&&Pq a
def PA:Nat->List I3->Int->Int ⊕ Int
 |0,_,out=>.inl out
 |k+1,I,out=>bif (Jw (k:Int) I).isEmpty then PA k I out else bif Mk (Jw (k:Int) I) 4095 == 0 then .inr 0 else PA k I (La out (Mk (Jw (k:Int) I) 4095))
def Afk:Int ⊕ Int->Int
 |.inl o=>o
 |.inr o=>o
def MO (I:List I3):B0:=⟨Nj (PW I),Afk (PA 10 I 4095),Iy ((PW I).map (·.ix))⟩
def SI (I:List I3):Prop:=I.Pairwise fun a b=>b.rk<=a.rk
structure MX (a:I3):Prop where
 rk:0<=a.rk/\a.rk<=9
 kd:1<=a.kd/\a.kd<=3
theorem VL:∀ I:List I3,(∀ a∈I,MX a)->-1<=I6 I
 | [],_=>by rw [I6];omega
 |a::r,h=>by
  have:=VL r fun b hb=>h b (è _ hb)
  rw [I6];split<;>omega
theorem RD:∀ I:List I3,∀ a∈I,Gu a=true->a.rk<=I6 I
 |b::r,a,ha,hc=>by
  rw [I6]
  rcases List.mem_cons.1 ha with rfl|ha
  . split
    . omega
    . rename_i h
      by_cases h2:I6 r<a.rk
      . exact absurd ⟨hc,h2⟩ h
      . omega
  . have:=RD r a ha hc
    split<;>omega
theorem RC:∀ I:List I3,I6 I = -1∨∃ a∈I,Gu a=true/\a.rk=I6 I
 | []=>.inl rfl
 |b::r=>by
  rw [I6]
  split
  . rename_i h;exact .inr ⟨b,á,h.1,rfl⟩
  . rcases RC r with h|⟨a,h1,h2,h3⟩
    . exact .inl h
    . exact .inr ⟨a,è _ h1,h2,h3⟩
theorem VM {I J:List I3}(hJ:∀ a∈J,MX a)(h:∀ a∈I,Gu a=true->a∈J):I6 I<=I6 J:=by
 rcases RC I with e|⟨a,c,b,d⟩
 . rw [e];exact VL J hJ
 . rw [<- d];exact RD J a (h a c b) b
theorem WJ {I J:List I3}(p:I.Perm J)(h:∀ a∈I,MX a):I6 I=I6 J :=
 Int.le_antisymm (VM (fun a ha=>h a (p.mem_iff.2 ha)) fun a ha _=>p.mem_iff.1 ha) (VM h fun a ha _=>p.mem_iff.2 ha)
theorem Acd:∀ D:List I3,(∀ a∈D,a.kd=1∨a.kd=2)->VT 3 D=3
 | [],_=>rfl
 |a::r,h=>by
  rw [VT]
  have:(bif (3:Int) == 0 then a.kd else bif (3:Int) != a.kd then 3 else 3)=3:=by
   rcases h a á with e|e<;>rw [e]<;>rfl
  rw [this];exact Acd r fun b hb=>h b (è _ hb)
theorem Aeb:∀ D:List I3,(∀ a∈D,a.kd=1∨a.kd=2)->VT 1 D=bif D.any (fun a=>a.kd == 2) then 3 else 1
 | [],_=>rfl
 |a::r,h=>by
  rw [VT,Ĭ]
  have ih:=Aeb r fun b hb=>h b (è _ hb)
  have i3:=Acd r fun b hb=>h b (è _ hb)
  rcases h a á with e|e<;>rw [e]
  . exact ih
  . exact i3
theorem Aea:∀ D:List I3,(∀ a∈D,a.kd=1∨a.kd=2)->VT 2 D=bif D.any (fun a=>a.kd == 1) then 3 else 2
 | [],_=>rfl
 |a::r,h=>by
  rw [VT,Ĭ]
  have ih:=Aea r fun b hb=>h b (è _ hb)
  have i3:=Acd r fun b hb=>h b (è _ hb)
  rcases h a á with e|e<;>rw [e]
  . exact i3
  . exact ih
theorem Afg (D:List I3)(h:∀ a∈D,a.kd=1∨a.kd=2):VT 0 D=Nj D:=by
 cases D with
 |nil=>rfl
 |cons a r =>
  have c:=Aeb r fun b hb=>h b (è _ hb)
  have d:=Aea r fun b hb=>h b (è _ hb)
  rw [VT]
  unfold Nj
  rw [Ĭ,Ĭ]
  rcases h a á with e|e<;>rw [e]
  . exact c
  . refine d.trans ?_
    show _=bif (false||r.any fun a=>a.kd == 1) then _ else _
    rw [Bool.false_or];rfl
theorem Ur {α:Type}{p:α->Bool}{I J:List α}(h:I.Perm J):I.any p=J.any p:=by
 rw [Bool.eq_iff_iff,List.any_eq_true,List.any_eq_true]
 exact⟨fun ⟨a,b,c⟩=>⟨a,h.mem_iff.1 b,c⟩,fun ⟨a,b,c⟩=>⟨a,h.mem_iff.2 b,c⟩⟩
theorem Tj {D E:List I3}(h:D.Perm E):Nj D=Nj E:=by
 unfold Nj;rw [Ur h,Ur h]
theorem Ry {I J:List I3}(p:I.Perm J)(h:∀ a∈I,MX a):(PW I).Perm (PW J):=by
 unfold PW
 rw [WJ p h]
 exact p.filter _
def atI:List I3->Int->Int->List Int->Int×List Int
 | [],_,st,by_=>(st,by_)
 |a::r,ρ,st,by_=>bif a.kd == 3||!a.act||decide (a.rk<ρ) then atI r ρ st by_ else atI r a.rk (bif st == 0 then a.kd else bif st != a.kd then 3 else st) (by_++[a.ix])
theorem Ab3 (ρ:Int):∀ (I:List I3) (st:Int) (by_:List Int),(∀ a∈I,a.rk<=ρ)->atI I ρ st by_=(VT st (I.filter fun a=>Gu a&&a.rk == ρ),by_++(I.filter fun a=>Gu a&&a.rk == ρ).map (·.ix))
 | [],st,by_,_=>by simp [atI,VT]
 |a::r,st,by_,h=>by
  have ih:=fun st by_=>Ab3 ρ r st by_ fun b hb=>h b (è _ hb)
  have ha:=h a á
  rw [atI]
  cases hc:Gu a&&a.rk == ρ with
  |true =>
   rw [List.filter_cons_of_pos (p:=fun b:I3=>Gu b&&b.rk == ρ) hc,VT,Þ]
   rw [Æ] at hc
   have e:a.rk=ρ:=by simpa using hc.2
   have c:(a.kd == 3||!a.act||decide (a.rk<ρ))=false:=by
    have d:=hc.1
    unfold Gu at d
    rw [Ë (by omega)]
    cases c:a.kd == 3<;>cases ha:a.act<;>simp_all
   rw [c,Ï,e,ih,ð];rfl
  |false =>
   rw [List.filter_cons_of_neg (p:=fun b:I3=>Gu b&&b.rk == ρ) (by simp [hc])]
   have c:(a.kd == 3||!a.act||decide (a.rk<ρ))=true:=by
    by_cases f:a.rk=ρ
    . have:Gu a=false:=by
       cases d:Gu a with
       |false=>rfl
       |true=>rw [d,f] at hc;simp at hc
      unfold Gu at this
      cases c:a.kd == 3<;>cases ha:a.act<;>simp_all
    . rw [Ì (by omega)];simp
   rw [c,Ñ];exact ih st by_
theorem Ab4:∀ (I:List I3),SI I->(∀ a∈I,MX a)->atI I (-1) 0 []=(VT 0 (PW I),(PW I).map (·.ix))
 | [],_,_=>rfl
 |a::r,hs,hf=>by
  have hs1:=List.pairwise_cons.1 hs
  have ih:=Ab4 r hs1.2 fun b hb=>hf b (è _ hb)
  have fa:=hf a á
  have frk:=fa.rk
  rw [atI]
  cases hc:Gu a with
  |false =>
   have hk:(a.kd == 3||!a.act||decide (a.rk < -1))=true:=by
    unfold Gu at hc
    cases hk:a.kd == 3<;>cases d:a.act<;>simp_all
   have c:I6 (a::r)=I6 r:=by rw [I6,hc];simp
   rw [hk,Ñ,ih]
   unfold PW
   rw [c,List.filter_cons_of_neg (by simp [hc])]
  |true =>
   have hk:(a.kd == 3||!a.act||decide (a.rk < -1))=false:=by
    rw [Ë (by omega)]
    unfold Gu at hc
    cases hk:a.kd == 3<;>cases d:a.act<;>simp_all
   have c:I6 (a::r)=a.rk:=by
    have g:=RD (a::r) a á hc
    rcases RC (a::r) with e|⟨b,h2,_,f⟩
    . omega
    . rcases List.mem_cons.1 h2 with rfl|h2
      . exact f.symm
      . have:=hs1.1 b h2;omega
   rw [hk,Ï,Ab3 a.rk r _ _ hs1.1]
   unfold PW
   rw [c,List.filter_cons_of_pos (by rw [hc];simp),VT];rfl
theorem W6 (x:Int):BitVec.ofInt 64 (À x)=BitVec.ofInt 64 x:=by
 apply BitVec.eq_of_toInt_eq
 rw [BitVec.toInt_ofInt,BitVec.toInt_ofInt]
 unfold À;rw [IntKind.wrap_i64]
 simp only [Int.bmod]
 split<;>split<;>omega
theorem Zg (x:BitVec 64):BitVec.ofInt 64 (x.toNat:Int)=x:=by
 rw [BitVec.ofInt_natCast,BitVec.ofNat_toNat,BitVec.setWidth_eq]
theorem Zm (c a b:Int):bits .and .i64 (bits .and .i64 c a) b=bits .and .i64 (bits .and .i64 c b) a:=by
 show À ((BitVec.ofInt 64 (À ((BitVec.ofInt 64 c &&& BitVec.ofInt 64 a).toNat:Int)) &&& BitVec.ofInt 64 b).toNat:Int)=À ((BitVec.ofInt 64 (À ((BitVec.ofInt 64 c &&& BitVec.ofInt 64 b).toNat:Int)) &&& BitVec.ofInt 64 a).toNat:Int)
 rw [W6,W6,Zg,Zg,BitVec.and_assoc,BitVec.and_assoc,BitVec.and_comm (BitVec.ofInt 64 a)]
theorem XK {D E:List I3}(h:D.Perm E):∀ c,Mk D c=Mk E c:=by
 induction h with
 |nil=>exact fun _=>rfl
 |cons a _ ih=>exact fun c=>by rw [Mk,Mk];exact ih _
 |swap a b r=>exact fun c=>by rw [Mk,Mk,Mk,Mk,Zm]
 |trans _ _ d e=>exact fun c=>(d c).trans (e c)
theorem Xt {I J:List I3}(ρ:Int)(h:I.Perm J):(Jw ρ I).Perm (Jw ρ J):=h.filter _
theorem N7 {I J:List I3}:∀ (k:Nat),(∀ j:Nat,j<k->(Jw (j:Int) I).Perm (Jw (j:Int) J))->∀ out,PA k I out=PA k J out
 |0,_,_=>rfl
 |k+1,h,out=>by
  have ih:=N7 k fun j hj=>h j (by omega)
  have p:=h k (by omega)
  have e:(Jw (k:Int) I).isEmpty=(Jw (k:Int) J).isEmpty:=by rw [Bool.eq_iff_iff,List.isEmpty_iff,List.isEmpty_iff];exact⟨fun h=>by rw [h] at p;exact p.nil_eq.symm,fun h=>by rw [h] at p;exact p.eq_nil⟩
  rw [PA,PA,e,XK p,ih out,ih]
def MZ:Nat->List I3->Int->Int ⊕ Int
 |_,[],out=>.inl out
 |0,_::_,out=>.inl out
 |m+1,a::r,out =>
  bif ((a::r).takeWhile (fun b=>b.rk == a.rk)).any Pq then
   (bif Mk (((a::r).takeWhile (fun b=>b.rk == a.rk)).filter Pq) 4095 == 0 then .inr 0
   else MZ m ((a::r).dropWhile (fun b=>b.rk == a.rk)) (La out (Mk (((a::r).takeWhile (fun b=>b.rk == a.rk)).filter Pq) 4095)))
  else MZ m ((a::r).dropWhile (fun b=>b.rk == a.rk)) out
theorem Tc {ρ:Int}:∀ I:List I3,SI I->(∀ a∈I,a.rk<=ρ)->(I.takeWhile fun b=>b.rk == ρ).filter Pq=Jw ρ I/\(∀ a∈I.dropWhile (fun b=>b.rk == ρ),a.rk<ρ)/\SI (I.dropWhile fun b=>b.rk == ρ)/\(∀ a∈I.dropWhile (fun b=>b.rk == ρ),a∈I)/\∀ j:Int,j<ρ->Jw j (I.dropWhile fun b=>b.rk == ρ)=Jw j I
 | [],_,_=>⟨rfl,fun a ha=>by simp at ha,.nil,fun a ha=>by simp at ha,fun _ _=>rfl⟩
 |a::r,hs,hm=>by
  have hs1:=List.pairwise_cons.1 hs
  obtain⟨i1,i2,i3,i4,i5⟩:=Tc r hs1.2 fun b hb=>hm b (è _ hb)
  have ha:=hm a á
  cases hc:a.rk == ρ with
  |true =>
   have e:a.rk=ρ:=by simpa using hc
   rw [Ē,ġ,hc]
   simp only [ø]
   refine⟨?_,i2,i3,fun b hb=>è _ (i4 b hb),fun j c=>?_⟩
   . unfold Jw at i1 ⊢
     rw [List.filter_cons,List.filter_cons,i1,hc,Bool.true_and]
   . rw [i5 j c]
     unfold Jw
     rw [List.filter_cons_of_neg (by simp;omega)]
  |false =>
   have e:a.rk<ρ:=by
    have:a.rk≠ρ:=by simpa using hc
    omega
   rw [Ē,ġ,hc]
   simp only [â,û]
   refine⟨?_,fun b hb=>?_,hs,fun b hb=>hb,fun _ _=>trivial⟩
   . unfold Jw
     rw [List.filter_nil,eq_comm,List.filter_eq_nil_iff]
     intro b hb
     rcases List.mem_cons.1 hb with rfl|hb
     . simp [hc]
     . have:=hs1.1 b hb
       simp;omega
   . rcases List.mem_cons.1 hb with rfl|hb
     . exact e
     . have:=hs1.1 b hb;omega
theorem KS:∀ (k m:Nat) (I:List I3) (out:Int),SI I->(∀ a∈I,0<=a.rk/\a.rk<(k:Int))->I.length<=m->MZ m I out=PA k I out
 |0,m,I,out,_,h,_=>by
  cases I with
  |nil=>cases m<;>rfl
  |cons a r=>have:=h a á;omega
 |k+1,m,I,out,hs,h,hm=>by
  cases I with
  |nil =>
   have:=KS k m [] out hs (fun a ha=>by cases ha) hm
   rw [this];rfl
  |cons a r =>
   have ha:=h a á
   by_cases hk:a.rk=(k:Int)
   . cases m with
     |zero=>simp at hm
     |succ m =>
      have hle:∀ b∈a::r,b.rk<=(k:Int):=fun b hb=>by have:=h b hb;omega
      obtain⟨i1,i2,i3,i4,i5⟩:=Tc (a::r) hs hle
      have hdl:((a::r).dropWhile fun b=>b.rk == (k:Int)).length<=m:=by
       have:(a::r).dropWhile (fun b=>b.rk == (k:Int))=r.dropWhile (fun b=>b.rk == (k:Int)):=by rw [ġ,hk];simp
       rw [this]
       have:=(List.dropWhile_sublist (l:=r) fun b=>b.rk == (k:Int)).length_le
       simp at hm;omega
      have ih:=fun o=>KS k m _ o i3 (fun b hb=>⟨(h b (i4 b hb)).1,i2 b hb⟩) hdl
      have sm:=fun o=>N7 (I:=(a::r).dropWhile fun b=>b.rk == (k:Int)) (J:=a::r) k (fun j p=>by rw [i5 j (by omega)]) o
      have c:((a::r).takeWhile fun b=>b.rk == (k:Int)).any Pq = !(Jw (k:Int) (a::r)).isEmpty:=by
       rw [<- i1,Bool.eq_iff_iff,List.any_eq_true,å,<- Bool.not_eq_true,List.isEmpty_iff,List.filter_eq_nil_iff]
       exact⟨fun ⟨b,e,f⟩ d=>d b e f,fun d=>by
        apply Classical.byContradiction
        intro g
        exact d fun b hb i=>g ⟨b,hb,i⟩⟩
      rw [MZ,PA,hk,c,i1,ih,ih,sm,sm]
      cases (Jw (k:Int) (a::r)).isEmpty<;>rfl
   . have hle:∀ b∈a::r,b.rk<(k:Int):=fun b hb=>by
      rcases List.mem_cons.1 hb with rfl|hb
      . have:=ha.2;omega
      . have:=(List.pairwise_cons.1 hs).1 b hb
        have:=ha.2
        omega
     have n:Jw (k:Int) (a::r)=[]:=by
      unfold Jw
      rw [List.filter_eq_nil_iff]
      intro b hb
      have:=hle b hb
      simp;omega
     rw [PA,n,KS k m (a::r) out hs (fun b hb=>⟨(h b hb).1,hle b hb⟩) hm];rfl
theorem P3 {a b:List Int}(h:a.Perm b):Iy a=Iy b :=
 List.Perm.eq_of_pairwise (le:=fun x y:Int=>x<=y) (fun _ _ _ _ h1 h2=>Int.le_antisymm h1 h2) (GK a) (GK b) (((FL a).trans h).trans (FL b).symm)
theorem Vz {I J:List I3}(p:I.Perm J)(h:∀ a∈I,MX a):MO I=MO J:=by
 unfold MO
 rw [Tj (Ry p h),P3 ((Ry p h).map _),N7 10 (fun j _=>Xt _ p)]
section
variable (l:List Ad) (act:Ae->Bool)
def MB (x:Ae):I3:=⟨rk l x,Y7 l x,hsC l x,act x,x.clause⟩
theorem SD:∀ (s:List Ae) (ρ st:Int) (b:List Int),XP l act s ρ st b=atI (s.map (MB l act)) ρ st b
 | [],_,_,_=>rfl
 |x::r,ρ,st,b=>by
  rw [XP,Þ,atI,SD r,SD r];rfl
theorem Rr:∀ (s:List Ae) (c:Int),L5 l s c=Mk (s.map (MB l act)) c
 | [],_=>rfl
 |x::r,c=>by rw [L5,Þ,Mk,Rr r];rfl
theorem Va {α β:Type}(f:α->β)(p:α->Bool)(q:β->Bool)(h:∀ x,p x=q (f x)):∀ s:List α,(s.takeWhile p).map f=(s.map f).takeWhile q/\(s.dropWhile p).map f=(s.map f).dropWhile q/\(s.filter p).map f=(s.map f).filter q/\s.any p=(s.map f).any q
 | []=>⟨rfl,rfl,rfl,rfl⟩
 |x::r=>by
  obtain⟨h1,h2,h3,h4⟩:=Va f p q h r
  rw [Þ,Ē,Ē,ġ,ġ,List.filter_cons,List.filter_cons,Ĭ,Ĭ,<- h x,<- h4]
  cases p x
  . exact⟨rfl,rfl,h3,rfl⟩
  . exact⟨by simp [h1],by simp [h2],by simp [h3],rfl⟩
theorem LB:∀ (m:Nat) (s:List Ae) (out:Int),Ka l act m s out=MZ m (s.map (MB l act)) out
 |0,[],_=>rfl
 |0,_::_,_=>rfl
 |m+1,[],_=>rfl
 |m+1,x::r,out=>by
  obtain⟨h1,h2,_,_⟩:=Va (MB l act) (Eb l (rk l x)) (fun b:I3=>b.rk == rk l x) (fun _=>rfl) (x::r)
  obtain⟨_,_,h3,h4⟩:=Va (MB l act) (Uy l act) Pq (fun _=>rfl) ((x::r).takeWhile (Eb l (rk l x)))
  rw [Ka,Þ,MZ,LB m,LB m,Rr l act,h3,h4,h1,h2]
  rfl
end
theorem SR.itm {l:List Ad}{act:Ae->Bool}{s:List Ae}(h:SR l s 0 s.length):SI (s.map (MB l act)):=by
 unfold SI
 rw [List.pairwise_map,List.pairwise_iff_getElem]
 intro i j c b a
 have:=h i j (Ĉ _) a b
 unfold FO at this
 rw [Ã c,Ã b] at this
 exact this
theorem Ady {l:List Ad}{act:Ae->Bool}{s:List Ae}(h:SR l s 0 s.length)(hf:∀ a∈s.map (MB l act),MX a):atV l act s=MO (s.map (MB l act)):=by
 have e:∀ a∈PW (s.map (MB l act)),a.kd=1∨a.kd=2:=fun a b=>by
  unfold PW at b
  obtain⟨f,d⟩:=List.mem_filter.1 b
  have:=(hf a f).kd
  rw [Æ] at d
  have c:=d.1
  unfold Gu at c
  have:a.kd≠3:=by simp at c;exact c.1
  omega
 unfold atV R8 MO
 rw [SD,Ab4 _ h.itm hf,Afg _ e,LB,KS 10 _ _ _ h.itm (fun a b=>⟨(hf a b).rk.1,by have:=(hf a b).rk.2;omega⟩) (by simp)]
 cases PA 10 (s.map (MB l act)) 4095<;>rfl
def N5 (d:Ap)(known t:Int):List Ad->Nat->List I3
 | [],_=>[]
 |c::r,k=>(if O2 d known c=true then [⟨c.Rank,c.Kind,c.Houses,decide (Ho ⟨d,known⟩ c.From<=t/\t<=Ho ⟨d,known⟩ c.To),(k:Int)⟩] else [])++N5 d known t r (k+1)
theorem Wo {l:List Ad}{d:Ap}{known t:Int}:∀ (r:List Ad) (k:Nat),l.drop k=r->(JV d known r k).map (MB l fun x=>O3 x t)=N5 d known t r k
 | [],_,_=>rfl
 |c::r,k,h=>by
  obtain⟨h1,h2⟩:=Ha h
  rw [JV,N5,ā,Wo r (k+1) h1]
  congr 1
  split
  . have g:gi l (k:Int)=some c:=Sn h
    unfold MB rk Y7 hsC
    simp only [Þ,ï,g];rfl
  . rfl
theorem Rm {d:Ap}{known t:Int}:∀ (r:List Ad) (k:Nat),(∀ c∈r,Qu c)->∀ a∈N5 d known t r k,MX a
 | [],_,_,a,ha=>by cases ha
 |c::r,k,h,a,ha=>by
  rw [N5,List.mem_append] at ha
  rcases ha with ha|ha
  . split at ha
    . rw [Ė] at ha
      subst ha
      have:=h c á
      exact⟨this.rank,this.kind⟩
    . cases ha
  . exact Rm r (k+1) (fun c hc=>h c (è _ hc)) a ha
theorem Za {l:List Ad}{d:Ap}{known t:Int}{s:List Ae}(h:Z2 l d known s)(hf:∀ c∈l,Qu c):atV l (fun x=>O3 x t) s=MO (N5 d known t l 0):=by
 have e:=Wo (l:=l) (d:=d) (known:=known) (t:=t) l 0 rfl
 have p:=h.perm.map (MB l fun x=>O3 x t)
 rw [e] at p
 have b:∀ a∈s.map (MB l fun x=>O3 x t),MX a:=fun a f=>Rm l 0 hf a (p.mem_iff.1 f)
 rw [Ady h.sorted b]
 exact Vz p b
end Go.Sp
namespace Go.Sp
open Go
set_option maxRecDepth 100000
theorem PZ (ks:List Ad)(c:Ad):B8 ks c=0↔B8 [] c=0/\∀ p∈ks,p.Name≠c.Name:=by
 have d:F4 ks c.Name=false↔∀ p∈ks,p.Name≠c.Name:=by
  unfold F4
  rw [<- Bool.not_eq_true,List.any_eq_true]
  exact⟨fun h p b e=>h ⟨p,b,by simpa using e⟩,fun h ⟨p,b,e⟩=>h p b (by simpa using e)⟩
 have f:F4 [] c.Name=false:=rfl
 unfold B8
 rw [f,<- d]
 by_cases a:Ju c.Name=false
 . rw [Ç a,Ç a];simp
 . rw [Ä a,Ä a,Ä (show ¬ (false=true) by decide)]
   cases g:F4 ks c.Name with
   |true=>rw [Ç rfl];simp
   |false=>rw [Ä (show ¬ (false=true) by decide)];simp
theorem MR {l:List Ad}:∀ (r:List Ad) (k:Nat),l.drop k=r->(D7 l r k=0↔(∀ c∈r,B8 [] c=0)/\(∀ c∈r,∀ p∈l.take k,p.Name≠c.Name)/\r.Pairwise fun p c=>p.Name≠c.Name)
 | [],k,_=>by simp [D7]
 |x::r,k,h=>by
  obtain⟨h1,h2⟩:=Ha h
  have ih:=MR r (k+1) h1
  have tk:l.take (k+1)=l.take k++[x]:=by
   rw [List.take_add_one]
   have:=Sn h
   rw [giN] at this
   rw [this];rfl
  rw [D7]
  by_cases hc:B8 (l.take k) x=0
  . rw [Ä (by simpa using hc),ih,tk]
    obtain⟨c1,c2⟩:=(PZ _ _).1 hc
    constructor
    . rintro⟨a1,a2,a3⟩
      refine⟨fun c hc=>?_,fun c hc p hp=>?_,List.pairwise_cons.2 ⟨fun c hc=>a2 c hc x (List.mem_append_right _ á),a3⟩⟩
      . rcases List.mem_cons.1 hc with rfl|hc
        . exact c1
        . exact a1 c hc
      . rcases List.mem_cons.1 hc with rfl|hc
        . exact c2 p hp
        . exact a2 c hc p (ĉ _ hp)
    . rintro⟨a1,a2,a3⟩
      have a3:=List.pairwise_cons.1 a3
      refine⟨fun c hc=>a1 c (è _ hc),fun c a p hp=>?_,a3.2⟩
      rcases List.mem_append.1 hp with hp|hp
      . exact a2 c (è _ a) p hp
      . rw [Ė] at hp;subst hp;exact a3.1 c a
  . rw [Ç hc]
    refine⟨fun e=>absurd e hc,fun ⟨a1,a2,_⟩=>?_⟩
    exact absurd ((PZ _ _).2 ⟨a1 x á,a2 x á⟩) hc
theorem XH (l:List Ad):CY l=0↔l.length<=40/\(∀ c∈l,B8 [] c=0)/\l.Pairwise fun p c=>p.Name≠c.Name:=by
 unfold CY
 by_cases h:40<l.length
 . rw [Ç h];constructor
   . intro e;cases e
   . intro e;omega
 . rw [Ä h,MR l 0 rfl]
   simp only [List.take_zero,List.not_mem_nil,false_implies,implies_true,õ]
   exact⟨fun a=>⟨by omega,a⟩,fun a=>a.2⟩
end Go.Sp
namespace Go.Sp
open Go
set_option maxRecDepth 100000
def Ae7 (l:List Ad)(s:List Ae)(t:Int):B0:=atV l (fun x=>O3 x t) s
end Go.Sp

namespace Go.Sp
open Go
set_option maxRecDepth 100000
theorem Ace:QQ=some true:=by kernel_rfl
end Go.Sp
namespace Go.Sp
open Go
set_option maxRecDepth 100000
section
variable {l:List Ad} {d:Ap} {known:Int} {s:List Ae}
theorem Adx (h:Z2 l d known s)(e:Ev (fun n=>Cs n l d known) (s,0)){t:Int}(h0:0<=t)(h1:t<=41666):Ev (fun n=>Ep n l d t known) (Ae7 l s t,0):=by
 unfold Ep
 refine e.bind ?_
 simp only [Đ,Ï,Ë (show ¬ t<0 by omega),Ë (show ¬ 41666<t by omega),Á]
 exact (Afa h.ok h.len fun _ _=>rfl).bind Ev.pure
theorem Adu (e:Ev (fun n=>Cs n l d known) (s,0)){t:Int}(h0:t<0∨41666<t):Ev (fun n=>Ep n l d t known) (⟨0,0,[]⟩,1):=by
 unfold Ep
 refine e.bind ?_
 simp only [Đ,Ï]
 by_cases c:t<0
 . simp only [Ì c,Ñ,Á];exact Ev.pure
 . simp only [Ë c,Ï,Á,Ì (show 41666<t by omega),Ñ];exact Ev.pure
theorem Adw {x:Int}(hx:x≠0)(e:Ev (fun n=>Cs n l d known) ([],x))(t:Int):Ev (fun n=>Ep n l d t known) (⟨0,0,[]⟩,x):=by
 unfold Ep
 refine e.bind ?_
 rw [show (x != 0)=true by simpa using hx]
 exact Ev.pure
end
end Go.Sp

namespace Go.Sp
open Go
set_option maxRecDepth 100000
theorem Adv {l:List Ad}{d:Ap}{known:Int}(hs:∀ c∈l,Jm c)(hc:CY l=0)(t:Int) :
 Ev (fun n=>Ep n l d t known) (if DL d known≠0 then (⟨0,0,[]⟩,DL d known) else if t<0∨41666<t then (⟨0,0,[]⟩,1) else (MO (N5 d known t l 0),0)):=by
 have hE:Nl l d known=DL d known:=by unfold Nl;rw [Ä (by simpa using hc)]
 rcases Yd (d:=d) (known:=known) hs with⟨a,ev⟩|⟨a,s,hS,ev⟩
 . rw [hE] at a ev
   rw [Ç a]
   exact Adw a ev t
 . rw [hE] at a
   rw [Ä (by simpa using a)]
   by_cases b:t<0∨41666<t
   . rw [Ç b];exact Adu ev b
   . rw [Ä b,<- Za hS (Qb hc).2]
     exact Adx hS ev (by omega) (by omega)
end Go.Sp
namespace Go.Sp
open Go
set_option maxRecDepth 100000
theorem We (T k:Nat):(ag T k 0 4).E=L1 T ((ag T k 0 4).E.Kids.getD 0 noE).At ((ag T k 0 4).E.Kids.getD 1 noE).At (ag T k 0 4).E.At:=by kernel_rfl
theorem Wd {T:Nat}(h:T<=65535)(k:Nat):Ba (ag T k 0 4).E=Ba (L1 1 0 0 0):=by
 rw [We,QX h]
theorem UN (T k:Nat):Fg (ag T k 0 4).E=true:=by kernel_rfl
def MQ (T k:Nat):List Ad:=[HQ T k 0 1,HQ T k 1 2,HQ T k 2 1]
theorem Abe {T:Nat}(h:T<=65535)(k m:Nat):W0 (m+60) (ZP T k,⟨0,0⟩)=some (MQ T k,⟨0,0⟩):=by
 have p:Hn (ag T k 0 4).E=some (2,(Ba (L1 1 0 0 0)).2.1,⟨0,0⟩):=by
  unfold Hn
  rw [Ç (UN T k),Wd h k]
  kernel_rfl
 have r0:AF (m+60) (ZE T k,⟨0,0⟩) [] 0=AF (m+59) (ZE T k,⟨0,0⟩) [HQ T k 0 1] (À (0+1)) :=
  round (n:=m+59) (c1:=0) (x:=fmI T k 0) (s:=(1,true)) (x0:=ag T k 0 0) (x1:=ag T k 0 1) (x2:=ag T k 0 2) (x3:=ag T k 0 3) (x4:=ag T k 0 4) (x5:=ag T k 0 5) (by kernel_rfl) (by kernel_rfl) (by kernel_rfl) (by kernel_rfl) (by kernel_rfl) (by kernel_rfl) (by kernel_rfl) (by kernel_rfl) (by kernel_rfl) (by kernel_rfl) (by kernel_rfl) (by kernel_rfl) (by kernel_rfl)
   (Y6 (n:=m+55) (o1:=(Ba (ag T k 0 3).E).2.1) (o3:=(Ba (ag T k 0 5).E).2.1) (by kernel_rfl) p (by kernel_rfl)) (by kernel_rfl)
 have r1:AF (m+59) (ZE T k,⟨0,0⟩) [HQ T k 0 1] (À (0+1))=AF (m+58) (ZE T k,⟨0,0⟩) [HQ T k 0 1,HQ T k 1 2] (À (À (0+1)+1)) :=
  round (n:=m+58) (c1:=0) (x:=fmI T k 1) (s:=(2,true)) (x0:=ag T k 1 0) (x1:=ag T k 1 1) (x2:=ag T k 1 2) (x3:=ag T k 1 3) (x4:=ag T k 1 4) (x5:=ag T k 1 5) (by kernel_rfl) (by kernel_rfl) (by kernel_rfl) (by kernel_rfl) (by kernel_rfl) (by kernel_rfl) (by kernel_rfl) (by kernel_rfl) (by kernel_rfl) (by kernel_rfl) (by kernel_rfl) (by kernel_rfl) (by kernel_rfl)
   (Y6 (n:=m+54) (o1:=(Ba (ag T k 1 3).E).2.1) (o2:=(Ba (ag T k 1 4).E).2.1) (o3:=(Ba (ag T k 1 5).E).2.1) (by kernel_rfl) (by kernel_rfl) (by kernel_rfl)) (by kernel_rfl)
 have r2:AF (m+58) (ZE T k,⟨0,0⟩) [HQ T k 0 1,HQ T k 1 2] (À (À (0+1)+1))=AF (m+57) (ZE T k,⟨0,0⟩) (MQ T k) (À (À (À (0+1)+1)+1)) :=
  round (n:=m+57) (c1:=0) (x:=fmI T k 2) (s:=(1,true)) (x0:=ag T k 2 0) (x1:=ag T k 2 1) (x2:=ag T k 2 2) (x3:=ag T k 2 3) (x4:=ag T k 2 4) (x5:=ag T k 2 5) (by kernel_rfl) (by kernel_rfl) (by kernel_rfl) (by kernel_rfl) (by kernel_rfl) (by kernel_rfl) (by kernel_rfl) (by kernel_rfl) (by kernel_rfl) (by kernel_rfl) (by kernel_rfl) (by kernel_rfl) (by kernel_rfl)
   (Y6 (n:=m+53) (o1:=(Ba (ag T k 2 3).E).2.1) (o2:=(Ba (ag T k 2 4).E).2.1) (o3:=(Ba (ag T k 2 5).E).2.1) (by kernel_rfl) (by kernel_rfl) (by kernel_rfl)) (by kernel_rfl)
 have r3:AF (m+57) (ZE T k,⟨0,0⟩) (MQ T k) (À (À (À (0+1)+1)+1))=some (.inl (MQ T k)):=by
  have e:decide (À (À (À (0+1)+1)+1)<((ZE T k).length:Int))=false:=by kernel_rfl
  rw [AF]
  simp only [e,Ï]
 unfold W0
 rw [Adm]
 simp only [Á,Đ,Ï]
 rw [r0,r1,r2,r3]
 rfl
theorem NH {c:Ad}(h1:Ju c.Name=true)(h2:decide (c.Kind<1∨3<c.Kind)=false)(h3:GW c=false)(a:CQ c.From 2=0)(b:CQ c.To 2=0)(d:CQ c.When 3=0):B8 [] c=0:=by
 unfold B8
 rw [Ä (by rw [h1];decide),Ä (by unfold F4;simp),Ä (of_decide_eq_false h2),Ä (by rw [h3];decide)]
 unfold F1
 rw [Ä (by simpa using a),Ä (by simpa using b)]
 exact d
theorem WH {T:Nat}(h:T<=65535)(k:Nat):CQ (ag T k 0 4).E 2=0:=by
 have e:CQ (ag T k 0 4).E 2=CQ (L1 1 0 0 0) 2:=by unfold CQ;rw [Wd h k]
 exact e.trans (by kernel_rfl)
theorem Abo (T k:Nat):(HQ T k 0 1).To=(ag T k 0 4).E:=by kernel_rfl
theorem ZF {T:Nat}(h:T<=65535)(k:Nat):CQ (HQ T k 0 1).To 2=0:=by rw [Abo];exact WH h k
theorem Un {a b c:Ad}(h1:B8 [] a=0)(h2:B8 [] b=0)(h3:B8 [] c=0)(n1:a.Name≠b.Name)(n2:a.Name≠c.Name)(n3:b.Name≠c.Name):CY [a,b,c]=0:=by
 refine (XH _).2 ⟨by simp,fun x hx=>?_,?_⟩
 . simp only [List.mem_cons,List.not_mem_nil,or_false] at hx
   rcases hx with rfl|rfl|rfl
   . exact h1
   . exact h2
   . exact h3
 . simp [n1,n2,n3]
theorem neB {a b x y:Å}(h1:a=x)(h2:b=y)(h:x.data.toList.map (·.toNat)≠y.data.toList.map (·.toNat)):a≠b:=fun e=>h (by rw [<- h1,<- h2,e])
theorem XE {T:Nat}(h:T<=65535)(k:Nat):CY (MQ T k)=0 :=
 Un (NH (c:=HQ T k 0 1) (by kernel_rfl) (by kernel_rfl) (by kernel_rfl) (by kernel_rfl) (ZF h k) (by kernel_rfl)) (NH (c:=HQ T k 1 2) (by kernel_rfl) (by kernel_rfl) (by kernel_rfl) (by kernel_rfl) (by kernel_rfl) (by kernel_rfl)) (NH (c:=HQ T k 2 1) (by kernel_rfl) (by kernel_rfl) (by kernel_rfl) (by kernel_rfl) (by kernel_rfl) (by kernel_rfl))
  (neB (x:=⟨#[116,101,114,109]⟩) (y:=⟨#[119,105,115,104]⟩) (by kernel_rfl) (by kernel_rfl) (by decide)) (neB (x:=⟨#[116,101,114,109]⟩) (y:=⟨#[104,111,108,100]⟩) (by kernel_rfl) (by kernel_rfl) (by decide)) (neB (x:=⟨#[119,105,115,104]⟩) (y:=⟨#[104,111,108,100]⟩) (by kernel_rfl) (by kernel_rfl) (by decide))
theorem XD (T k:Nat):∀ c∈MQ T k,Jm c:=by
 intro c hc
 rcases List.mem_cons.1 hc with rfl|hc
 . exact⟨by kernel_rfl,by kernel_rfl,by kernel_rfl⟩
 . rcases List.mem_cons.1 hc with rfl|hc
   . exact⟨by kernel_rfl,by kernel_rfl,by kernel_rfl⟩
   . rw [Ė] at hc
     subst hc
     exact⟨by kernel_rfl,by kernel_rfl,by kernel_rfl⟩
end Go.Sp
namespace Go.Sp
open Go Go.Lx
set_option maxRecDepth 100000
theorem PU:∀ (m n:Nat),n<10 ^ (m+1)->(dec n).length<=m+1:=by
 intro m
 induction m with
 |zero=>intro n hn;rw [D6 (by simpa using hn)];simp
 |succ m ih =>
  intro n hn
  by_cases h:n<10
  . rw [D6 h];simp
  . rw [Ll h]
    have:=ih (n / 10) (by rw [Nat.pow_succ] at hn;omega)
    simp;omega
theorem Lk:∀ r:Fin 10,isDigit (UInt8.ofNat (48+r.val))=true/\(UInt8.ofNat (48+r.val)).toNat=48+r.val/\(1<=r.val->(UInt8.ofNat (48+r.val) == 48)=false):=by decide
theorem Mg:∀ (m n:Nat),n<=m->∀ c∈dec n,isDigit c=true:=by
 intro m
 induction m with
 |zero =>
  intro n hn c hc
  rw [D6 (by omega),Ė] at hc
  subst hc
  exact (Lk ⟨n,by omega⟩).1
 |succ m ih =>
  intro n hn c hc
  by_cases h:n<10
  . rw [D6 h,Ė] at hc
    subst hc
    exact (Lk ⟨n,h⟩).1
  . rw [Ll h,List.mem_append,Ė] at hc
    rcases hc with hc|rfl
    . exact ih (n / 10) (by omega) c hc
    . exact (Lk ⟨n % 10,by omega⟩).1
theorem UT:∀ (m n:Nat),n<=m->Dj (dec n)=n:=by
 intro m
 have one:∀ n,n<10->Dj (dec n)=n:=fun n h=>by
  rw [D6 h]
  show 10*0+((UInt8.ofNat (48+n)).toNat-48)=n
  rw [(Lk ⟨n,h⟩).2.1]
  show 10*0+(48+n-48)=n
  omega
 induction m with
 |zero=>intro n hn;exact one n (by omega)
 |succ m ih =>
  intro n hn
  by_cases h:n<10
  . exact one n h
  . rw [Ll h,Ob,ih (n / 10) (by omega),(Lk ⟨n % 10,by omega⟩).2.1]
    show 10*(n / 10)+(48+n % 10-48)=n
    omega
theorem Uh:∀ (m n:Nat),n<=m->1<=n->∃ c d,dec n=c::d/\(c == 48)=false:=by
 intro m
 induction m with
 |zero=>intro n h1 h2;omega
 |succ m ih =>
  intro n hn h1
  by_cases h:n<10
  . exact⟨_,[],D6 h,(Lk ⟨n,h⟩).2.2 h1⟩
  . obtain⟨c,d,e,hc⟩:=ih (n / 10) (by omega) (by omega)
    exact⟨c,d++[UInt8.ofNat (48+n % 10)],by rw [Ll h,e];rfl,hc⟩
theorem Ui (n:Nat):∃ c d,dec n=c::d:=by
 by_cases h:n<10
 . exact⟨_,[],D6 h⟩
 . obtain⟨c,d,e,_⟩:=Uh n n (Ü _) (by omega)
   exact⟨c,d,e⟩
theorem X9:∀ i:Fin 256,isDigit (UInt8.ofNat i.val)=true->BE (UInt8.ofNat i.val)=false/\Dr (UInt8.ofNat i.val)=false/\(UInt8.ofNat i.val == 35)=false:=by decide
theorem Mf {c:UInt8}(h:isDigit c=true):BE c=false/\Dr c=false/\c≠35:=by
 have e:UInt8.ofNat c.toNat=c:=UInt8.ofNat_toNat
 have:=X9 ⟨c.toNat,c.toNat_lt⟩
 simp only [e] at this
 obtain⟨h1,h2,h3⟩:=this h
 exact⟨h1,h2,by simpa using h3⟩
theorem Aan {T:Nat}(h:T<=65535):tok (dec T++FP)=.ok 2 [] T FP:=by
 obtain⟨c,d,e⟩:=Ui T
 have hc:isDigit c=true:=Mg T T (Ü _) c (by rw [e];exact á)
 have hn:number (dec T++FP)=.ok 2 [] (Dj (dec T)) FP:=by
  refine Re (Mg T T (Ü _)) (by kernel_rfl) (by kernel_rfl) ?_ fun h1=>?_
  . have:=PU 4 T (by omega);omega
  . have h10:¬ T<10:=fun h=>by rw [D6 h] at h1;simp at h1
    obtain⟨c2,d2,e2,h2⟩:=Uh T T (Ü _) (by omega)
    rw [e2]
    exact h2
 rw [UT T T (Ü _)] at hn
 rw [<- hn,e]
 show tok (c::(d++FP))=number (c::(d++FP))
 unfold tok
 simp only [(Mf hc).1,hc,â,û,ø]
def UU:Tok:=⟨0,0,[],0⟩
def aL:List Tok:=match Lx.tokens G7 with
 |.ok l=>l
 |.error _=>[]
def bL:List Tok:=match Lx.tokens FP with
 |.ok l=>l
 |.error _=>[]
theorem gA {N:Nat}{r t t':List UInt8}{x:Tok}{l:List Tok}(h:tok r=.ok x.kind x.s x.n t)(hs:skip false t=t')(g:Lx.Good N t' l)(ha:N-r.length=x.at_):Lx.Good N r (x::l):=by
 subst hs
 have:=Lx.Good.cons (n:=N) h g
 rw [ha] at this
 exact this
theorem Afx (p:Nat)(X:List UInt8)(h:p<=33):33+X.length-(G7.drop p++X).length=p:=by
 have e:G7.length=33:=rfl
 rw [Ô,ù,e];omega
theorem Adj {X:List UInt8}{l:List Tok}(hX:skip false X=X)(g:Lx.Good (33+X.length) X l):Lx.Good (33+X.length) (G7++X) (aL.take 10++l):=by
 have st:∀ (p e q i:Nat),p<=33->tok (G7.drop p++X)=.ok (aL.getD i UU).kind (aL.getD i UU).s (aL.getD i UU).n (G7.drop e++X)->skip false (G7.drop e++X)=G7.drop q++X->(aL.getD i UU).at_=p->∀ {m:List Tok},Lx.Good (33+X.length) (G7.drop q++X) m->Lx.Good (33+X.length) (G7.drop p++X) (aL.getD i UU::m):=fun p e q i hp h1 h2 h3 m hm=>gA h1 h2 hm ((Afx p X hp).trans h3.symm)
 have g9:=st 31 32 33 9 (by decide) (by kernel_rfl) hX (by kernel_rfl) (m:=l) g
 have g8:=st 24 30 31 8 (by decide) (by kernel_rfl) (by kernel_rfl) (by kernel_rfl) g9
 have g7:=st 23 24 24 7 (by decide) (by kernel_rfl) (by kernel_rfl) (by kernel_rfl) g8
 have g6:=st 21 22 23 6 (by decide) (by kernel_rfl) (by kernel_rfl) (by kernel_rfl) g7
 have g5:=st 15 21 21 5 (by decide) (by kernel_rfl) (by kernel_rfl) (by kernel_rfl) g6
 have g4:=st 14 15 15 4 (by decide) (by kernel_rfl) (by kernel_rfl) (by kernel_rfl) g5
 have g3:=st 12 13 14 3 (by decide) (by kernel_rfl) (by kernel_rfl) (by kernel_rfl) g4
 have g2:=st 10 11 12 2 (by decide) (by kernel_rfl) (by kernel_rfl) (by kernel_rfl) g3
 have g1:=st 5 9 10 1 (by decide) (by kernel_rfl) (by kernel_rfl) (by kernel_rfl) g2
 have g0:=st 0 4 5 0 (by decide) (by kernel_rfl) (by kernel_rfl) (by kernel_rfl) g1
 have e:aL.take 10=[aL.getD 0 UU,aL.getD 1 UU,aL.getD 2 UU,aL.getD 3 UU,aL.getD 4 UU,aL.getD 5 UU,aL.getD 6 UU,aL.getD 7 UU,aL.getD 8 UU,aL.getD 9 UU]:=by kernel_rfl
 rw [e]
 exact g0
theorem Adi:Lx.Good 143 FP bL:=by
 have h:Lx.tokens FP=.ok bL:=by kernel_rfl
 have:=HZ h
 rw [show skip false FP=FP by kernel_rfl] at this
 exact this
theorem WK {l:List UInt8}{ts:List Tok}(h:Lx.Good l.length (skip false l) ts):Lx.tokens l=.ok ts:=by
 cases e:Lx.tokens l with
 |ok t2=>rw [(HZ e).unique h]
 |error x =>
  obtain⟨p,q⟩:=x
  exact absurd (LK e) fun hb=>h.notBad hb
theorem Xk {T:Nat}(h:T<=65535):IG ⟨⟨G7++(dec T++FP)⟩⟩=some (ZP T (dec T).length,⟨0,0⟩):=by
 obtain⟨c,d,e⟩:=Ui T
 have hc:isDigit c=true:=Mg T T (Ü _) c (by rw [e];exact á)
 have hk:(dec T).length<=5:=PU 4 T (by omega)
 have bl:FP.length=143:=rfl
 have al:G7.length=33:=rfl
 have hX:skip false (dec T++FP)=dec T++FP:=by
  rw [e]
  exact WT (Mf hc).2.1 (Mf hc).2.2
 have gb:=Adi.shift (d:=33+(dec T).length) (by rw [bl];omega)
 have hN:143+(33+(dec T).length)=33+(dec T++FP).length:=by rw [Ô,bl];omega
 rw [hN] at gb
 have gn:Lx.Good (33+(dec T++FP).length) (dec T++FP) (⟨2,33,[],T⟩::bL.map (Lx.shift (33+(dec T).length))) :=
  gA (x:=⟨2,33,[],T⟩) (Aan h) (by kernel_rfl) gb (by show _-_=33;omega)
 have ga:=Adj hX gn
 have hs:skip false (G7++(dec T++FP))=G7++(dec T++FP):=by kernel_rfl
 have ht:Lx.tokens (G7++(dec T++FP))=.ok (aL.take 10++⟨2,33,[],T⟩::bL.map (Lx.shift (33+(dec T).length))):=by
  refine WK ?_
  rw [hs,Ô,al]
  exact ga
 unfold IG IH
 have sz:¬ 65536<(⟨⟨G7++(dec T++FP)⟩⟩:Å).size:=by
  show ¬ 65536<(G7++(dec T++FP)).length
  rw [Ô,Ô,al,bl];omega
 rw [Ä sz]
 show some (match Lx.tokens (G7++(dec T++FP)) with|.ok ts=>(ts.map ZR,(⟨0,0⟩:Ak))|.error (p,e)=>([],⟨(p:Int),(e:Int)⟩))=_
 rw [ht]
 have ea:(aL.take 10).map ZR=Afb:=by kernel_rfl
 have eb:bL.map ZR=Adt:=by kernel_rfl
 have es:∀ k:Nat,(bL.map (Lx.shift k)).map ZR=Adt.map fun x=>⟨x.Kind,x.At+(k:Nat),x.S,x.N⟩:=fun k=>by
  rw [<- eb,List.map_map,List.map_map];rfl
 simp only [ā,Þ,ea,es]
 rfl
end Go.Sp
namespace Go.Sp
open Go
set_option maxRecDepth 100000
section
variable (m:Ai) (T k:Nat)
theorem v0f:Ho m (HQ T k 0 1).From=m.d.Stored:=by kernel_rfl
theorem v0w:Ho m (HQ T k 0 1).When=1:=by kernel_rfl
theorem v1f:Ho m (HQ T k 1 2).From=Dk m 3 m.d.Owner:=by kernel_rfl
theorem v1t:Ho m (HQ T k 1 2).To=41667:=by kernel_rfl
theorem v1w:Ho m (HQ T k 1 2).When=K7 (decide (Dk m 3 m.d.Owner<41667)):=by kernel_rfl
theorem v2f:Ho m (HQ T k 2 1).From=Dk m 4 m.d.Owner:=by kernel_rfl
theorem v2t:Ho m (HQ T k 2 1).To=En (Dk m 5 m.d.Owner) (-1):=by kernel_rfl
theorem v2w:Ho m (HQ T k 2 1).When=K7 (decide (Dk m 4 m.d.Owner<41667)):=by kernel_rfl
theorem Yo {T:Nat}(h:T<=65535)(a b c:Int):Ho m (L1 T a b c)=En m.d.Stored (T:Int):=by
 have e:=QX h a b c
 unfold L1 at e ⊢
 rw [Ho,Ä (by decide),Ä (by decide),e]
 have e2:QA m [.mk 3 0 ⟨#[115,116,111,114,101,100]⟩ [] a,.mk 1 (T:Int) ⟨#[]⟩ [] b]=[m.d.Stored,(T:Int)]:=by kernel_rfl
 have e3:∀ x y:Int,Sd m (Ba (L1 1 0 0 0)).2.1.do_ [x,y]=En x y:=fun x y=>by kernel_rfl
 rw [e2]
 exact e3 _ _
theorem v0t {T:Nat}(h:T<=65535)(k:Nat):Ho m (HQ T k 0 1).To=En m.d.Stored (T:Int):=by
 rw [Abo,We,Yo m h]
end
def Gn (S A KA H KH L KL:Int):Ap:=⟨[⟨3,7,A,KA⟩,⟨4,7,H,KH⟩,⟨5,7,L,KL⟩],S,7⟩
theorem Aej (S A KA H KH L KL known:Int):Dk ⟨Gn S A KA H KH L KL,known⟩ 3 7=(if KA<=known then A else 41667)/\Dk ⟨Gn S A KA H KH L KL,known⟩ 4 7=(if KH<=known then H else 41667)/\Dk ⟨Gn S A KA H KH L KL,known⟩ 5 7=(if KL<=known then L else 41667):=by
 refine⟨?_,?_,?_⟩
 . by_cases h:KA<=known<;>simp [Dk,Gn,JI,ZA,QY,Zd,h]
 . by_cases h:KH<=known<;>simp [Dk,Gn,JI,ZA,QY,Zd,h]
 . by_cases h:KL<=known<;>simp [Dk,Gn,JI,ZA,QY,Zd,h]
theorem three (b0 a1 b1 a2 b2:Bool):(MO (([⟨2,1,0,b0,0⟩]:List I3)++((if a1=true then [⟨1,2,0,b1,1⟩] else [])++((if a2=true then [⟨3,1,0,b2,2⟩] else [])++[])))).State=(if (a2&&b2)=true then 1 else if b0=true then 1 else if (a1&&b1)=true then 2 else 0) /\
 (MO (([⟨2,1,0,b0,0⟩]:List I3)++((if a1=true then [⟨1,2,0,b1,1⟩] else [])++((if a2=true then [⟨3,1,0,b2,2⟩] else [])++[])))).Houses=4095:=by
 cases b0<;>cases a1<;>cases b1<;>cases a2<;>cases b2<;>exact⟨by kernel_rfl,by kernel_rfl⟩
theorem TT (b:Bool):(K7 b == 1)=b:=by cases b<;>rfl
theorem Js {x:Int}(h:0<=x/\x<=65535):As x=some (x.tmod 41667)/\0<=x.tmod 41667/\x.tmod 41667<=41666:=by
 refine⟨?_,Int.tmod_nonneg _ h.1,?_⟩
 . unfold As
   rw [CI (by omega) (by omega)]
 . have:=Int.tmod_lt_of_pos x (show (0:Int)<41667 by decide)
   omega
theorem Afq (m:Ai)(t:Int){T:Nat}(h:T<=65535)(k:Nat)(hk:0<=m.known):N5 m.d m.known t (MQ T k) 0 =
 [⟨2,1,0,decide (m.d.Stored<=t/\t<=En m.d.Stored (T:Int)),0⟩]++((if decide (Dk m 3 m.d.Owner<41667)=true then [⟨1,2,0,decide (Dk m 3 m.d.Owner<=t/\t<=41667),1⟩] else [])++((if decide (Dk m 4 m.d.Owner<41667)=true then [⟨3,1,0,decide (Dk m 4 m.d.Owner<=t/\t<=En (Dk m 5 m.d.Owner) (-1)),2⟩] else [])++[])):=by
 have kn0:(HQ T k 0 1).Known=0:=by kernel_rfl
 have kn1:(HQ T k 1 2).Known=0:=by kernel_rfl
 have kn2:(HQ T k 2 1).Known=0:=by kernel_rfl
 have a0:O2 m.d m.known (HQ T k 0 1)=true:=by
  unfold O2
  rw [kn0,Ì hk,show Ho ⟨m.d,m.known⟩ (HQ T k 0 1).When=1 from v0w ⟨m.d,m.known⟩ T k];rfl
 have a1:O2 m.d m.known (HQ T k 1 2)=decide (Dk m 3 m.d.Owner<41667):=by
  unfold O2
  rw [kn1,Ì hk,show Ho ⟨m.d,m.known⟩ (HQ T k 1 2).When=_ from v1w ⟨m.d,m.known⟩ T k,TT,Bool.true_and]
 have a2:O2 m.d m.known (HQ T k 2 1)=decide (Dk m 4 m.d.Owner<41667):=by
  unfold O2
  rw [kn2,Ì hk,show Ho ⟨m.d,m.known⟩ (HQ T k 2 1).When=_ from v2w ⟨m.d,m.known⟩ T k,TT,Bool.true_and]
 have r0:(HQ T k 0 1).Rank=2/\(HQ T k 0 1).Kind=1/\(HQ T k 0 1).Houses=0:=⟨by kernel_rfl,by kernel_rfl,by kernel_rfl⟩
 have r1:(HQ T k 1 2).Rank=1/\(HQ T k 1 2).Kind=2/\(HQ T k 1 2).Houses=0:=⟨by kernel_rfl,by kernel_rfl,by kernel_rfl⟩
 have r2:(HQ T k 2 1).Rank=3/\(HQ T k 2 1).Kind=1/\(HQ T k 2 1).Houses=0:=⟨by kernel_rfl,by kernel_rfl,by kernel_rfl⟩
 unfold MQ
 rw [N5,N5,N5,N5,a0,a1,a2,Ç rfl,r0.1,r0.2.1,r0.2.2,r1.1,r1.2.1,r1.2.2,r2.1,r2.2.1,r2.2.2]
 rw [show Ho ⟨m.d,m.known⟩ (HQ T k 0 1).From=_ from v0f ⟨m.d,m.known⟩ T k,show Ho ⟨m.d,m.known⟩ (HQ T k 0 1).To=_ from v0t ⟨m.d,m.known⟩ h k,show Ho ⟨m.d,m.known⟩ (HQ T k 1 2).From=_ from v1f ⟨m.d,m.known⟩ T k,show Ho ⟨m.d,m.known⟩ (HQ T k 1 2).To=_ from v1t ⟨m.d,m.known⟩ T k,show Ho ⟨m.d,m.known⟩ (HQ T k 2 1).From=_ from v2f ⟨m.d,m.known⟩ T k,show Ho ⟨m.d,m.known⟩ (HQ T k 2 1).To=_ from v2t ⟨m.d,m.known⟩ T k]
 rfl
end Go.Sp
namespace Go.Sp
open Go
set_option maxRecDepth 100000
theorem Abx {a b:List UInt8}(h:a.length+b.length<=1000000):MD ⟨⟨a⟩⟩ ⟨⟨b⟩⟩=some ⟨⟨a++b⟩⟩:=by
 unfold MD
 rw [Ç (by show a.length+b.length<=_;omega)]
 congr 1
theorem Abf {T:Nat}(h:T<=65535):Ev (fun n=>Cv n ⟨⟨G7++(Lx.dec T++FP)⟩⟩) (MQ T (Lx.dec T).length,⟨0,0⟩):=by
 refine⟨60,fun n hn=>?_⟩
 obtain⟨m,rfl⟩:∃ m,n=m+60:=⟨n-60,by omega⟩
 show Cv (m+60) _=_
 rw [Abd (Xk h)]
 exact Abe h _ m
theorem X7 {S A KA H KH L KL known:Int}(h0:0<=S/\S<=41666)(h1:0<=A/\A<=41666)(h2:0<=KA/\KA<=41666)(h3:0<=H/\H<=41666)(h4:0<=KH/\KH<=41666)(h5:0<=L/\L<=41666)(h6:0<=KL/\KL<=41666)(h7:0<=known/\known<=41666):DL (Gn S A KA H KH L KL) known=0:=by
 unfold DL Gn
 rw [Ä (by simp),Ç]
 refine⟨?_,h0.1,h0.2,h7.1,h7.2,(by show (0:Int)<=7;decide),(by show (7:Int)<=1000;decide)⟩
 simp only [ą,List.all_nil,Ğ,Æ]
 unfold okF
 refine⟨Ì ?_,Ì ?_,Ì ?_⟩
 . show (1:Int)<=3/\(3:Int)<=5/\(1:Int)<=7/\(7:Int)<=1000/\0<=A/\A<=41666/\0<=KA/\KA<=41666
   omega
 . show (1:Int)<=4/\(4:Int)<=5/\(1:Int)<=7/\(7:Int)<=1000/\0<=H/\H<=41666/\0<=KH/\KH<=41666
   omega
 . show (1:Int)<=5/\(5:Int)<=5/\(1:Int)<=7/\(7:Int)<=1000/\0<=L/\L<=41666/\0<=KL/\KL<=41666
   omega
theorem XZ {S A KA H KH L KL t known:Int}{T:Nat}(hT:T<=65535)(h0:0<=S/\S<=41666)(h1:0<=A/\A<=41666)(h2:0<=KA/\KA<=41666)(h3:0<=H/\H<=41666)(h4:0<=KH/\KH<=41666)(h5:0<=L/\L<=41666)(h6:0<=KL/\KL<=41666)(h7:0<=known/\known<=41666)(ht:0<=t/\t<=41666)(k:Nat) :
 ∃ a:B0,Ev (fun n=>Ep n (MQ T k) (Gn S A KA H KH L KL) t known) (a,0)/\a.Houses=4095 /\
  a.State=(if (KH<=known/\H<=t)/\¬ (KL<=known/\(if L-1 > 0 then L-1 else 0)<t) then 1 else if S<=t/\t<=(if 41667<S+T then 41667 else S+T) then 1 else if KA<=known/\A<=t then 2 else 0):=by
 have hk:=X7 h0 h1 h2 h3 h4 h5 h6 h7
 have hat:=Adv (l:=MQ T k) (d:=Gn S A KA H KH L KL) (known:=known) (XD T k) (XE hT k) t
 rw [Ä (by simpa using hk),Ä (by omega)] at hat
 refine⟨_,hat,?_⟩
 have hi:N5 (Gn S A KA H KH L KL) known t (MQ T k) 0=_:=Afq ⟨Gn S A KA H KH L KL,known⟩ t hT k h7.1
 rw [hi]
 obtain⟨q1,q2⟩:=three (decide ((Gn S A KA H KH L KL).Stored<=t/\t<=En (Gn S A KA H KH L KL).Stored (T:Int))) (decide (Dk ⟨Gn S A KA H KH L KL,known⟩ 3 (Gn S A KA H KH L KL).Owner<41667)) (decide (Dk ⟨Gn S A KA H KH L KL,known⟩ 3 (Gn S A KA H KH L KL).Owner<=t/\t<=41667)) (decide (Dk ⟨Gn S A KA H KH L KL,known⟩ 4 (Gn S A KA H KH L KL).Owner<41667)) (decide (Dk ⟨Gn S A KA H KH L KL,known⟩ 4 (Gn S A KA H KH L KL).Owner<=t/\t<=En (Dk ⟨Gn S A KA H KH L KL,known⟩ 5 (Gn S A KA H KH L KL).Owner) (-1)))
 refine⟨q2,q1.trans ?_⟩
 obtain⟨l3,l4,l5⟩:=Aej S A KA H KH L KL known
 have ow:(Gn S A KA H KH L KL).Owner=7:=rfl
 have st:(Gn S A KA H KH L KL).Stored=S:=rfl
 rw [ow,st,l3,l4,l5]
 have mv1:En S (T:Int)=(if 41667<S+T then 41667 else S+T):=by
  unfold En KG
  rw [Ä (by omega),Ä (by omega)]
 have c2:((decide ((if KH<=known then H else 41667)<41667)&&decide ((if KH<=known then H else 41667)<=t/\t<=En (if KL<=known then L else 41667) (-1)))=true)↔((KH<=known/\H<=t)/\¬ (KL<=known/\(if L-1 > 0 then L-1 else 0)<t)):=by
  rw [Æ,Í,Í]
  unfold En KG
  by_cases a:KH<=known
  . rw [Ç a]
    by_cases b:KL<=known
    . rw [Ç b,Ä (by omega)]
      by_cases c:L + -1<0
      . rw [Ç c,Ä (show ¬ L-1 > 0 by omega)];omega
      . rw [Ä c,Ä (by omega)]
        by_cases e:L-1 > 0
        . rw [Ç e];omega
        . rw [Ä e];omega
    . rw [Ä b,Ç rfl]
      constructor
      . rintro⟨_,x,_⟩;exact⟨⟨a,x⟩,fun y=>b y.1⟩
      . rintro⟨⟨_,x⟩,_⟩;exact⟨by omega,x,by omega⟩
  . rw [Ä a]
    constructor
    . rintro⟨x,_⟩;omega
    . rintro⟨⟨x,_⟩,_⟩;exact absurd x a
 have c1:((decide ((if KA<=known then A else 41667)<41667)&&decide ((if KA<=known then A else 41667)<=t/\t<=41667))=true)↔(KA<=known/\A<=t):=by
  rw [Æ,Í,Í]
  by_cases a:KA<=known
  . rw [Ç a];omega
  . rw [Ä a];omega
 have c0:(decide (S<=t/\t<=En S (T:Int))=true)↔(S<=t/\t<=(if 41667<S+T then 41667 else S+T)):=by
  rw [Í,mv1]
 simp only [c2,c1,c0]
theorem WN (s:Ef)(days:Int×Int)(r0:0<=s.Stored/\s.Stored<=65535)(r1:0<=s.Term/\s.Term<=65535)(r2:0<=s.Asked/\s.Asked<=65535)(r3:0<=s.Held/\s.Held<=65535)(r4:0<=s.Lifted/\s.Lifted<=65535)(r5:0<=s.KnownAsked/\s.KnownAsked<=65535)(r6:0<=s.KnownHeld/\s.KnownHeld<=65535)(r7:0<=s.KnownLifted/\s.KnownLifted<=65535)
 (r8:0<=days.1/\days.1<=65535) (r9:0<=days.2/\days.2<=65535):Ev (fun n=>Dq n s days) true:=by
 obtain⟨T,hT⟩:∃ T:Nat,s.Term=(T:Int):=⟨s.Term.toNat,by omega⟩
 have hT2:T<=65535:=by omega
 have wT:À s.Term=(T:Int):=by rw [CI (by omega) (by omega),hT]
 have hk:(Lx.dec T).length<=5:=PU 4 T (by omega)
 have bl:FP.length=143:=rfl
 have al:G7.length=33:=rfl
 unfold Dq
 rw [wT]
 refine (X8 T T (Ü _) (by omega)).bind ?_
 refine Ev.bind (a:=⟨⟨G7++Lx.dec T⟩⟩) (Ev.const (Eq.trans (b:=MD ⟨⟨G7⟩⟩ ⟨⟨Lx.dec T⟩⟩) (by kernel_rfl) (Abx (a:=G7) (b:=Lx.dec T) (by omega)))) ?_
 refine Ev.bind (a:=⟨⟨G7++(Lx.dec T++FP)⟩⟩) (Ev.const ?_) ?_
 . have:=Abx (a:=G7++Lx.dec T) (b:=FP) (by rw [Ô];omega)
   rw [ð] at this
   exact Eq.trans (b:=MD ⟨⟨G7++Lx.dec T⟩⟩ ⟨⟨FP⟩⟩) (by kernel_rfl) this
 refine (Abf hT2).bind ?_
 obtain⟨e0,l0⟩:=Js r0
 obtain⟨e2,l2⟩:=Js r2
 obtain⟨e3,l3⟩:=Js r3
 obtain⟨e4,l4⟩:=Js r4
 obtain⟨e5,l5⟩:=Js r5
 obtain⟨e6,l6⟩:=Js r6
 obtain⟨e7,l7⟩:=Js r7
 obtain⟨e8,l8⟩:=Js r8
 obtain⟨e9,l9⟩:=Js r9
 simp only [Ă,Bool.and_self,þ,Ï,e0,e2,e3,e4,e5,e6,e7,e8,e9,Á]
 generalize s.Stored.tmod 41667=S at *
 generalize s.Asked.tmod 41667=A at *
 generalize s.Held.tmod 41667=H at *
 generalize s.Lifted.tmod 41667=L at *
 generalize s.KnownAsked.tmod 41667=KA at *
 generalize s.KnownHeld.tmod 41667=KH at *
 generalize s.KnownLifted.tmod 41667=KL at *
 generalize days.1.tmod 41667=t at *
 generalize days.2.tmod 41667=known at *
 obtain⟨a,ha,hh,hs⟩:=XZ (t:=t) (known:=known) hT2 l0 l2 l5 l3 l6 l4 l7 l9 l8 (Lx.dec T).length
 have w1:À (S+(T:Int))=S+T:=CI (by omega) (by omega)
 have w2:À (L-1)=L-1:=CI (by omega) (by omega)
 have v1:(bif decide (KA<=known) then some (decide (A<=t)) else some false)=some (decide (KA<=known/\A<=t)):=XL
 have v2:(bif decide (S<=t) then some (decide (t<=(if 41667<S+(T:Int) then 41667 else S+T))) else some false)=some (decide (S<=t/\t<=(if 41667<S+(T:Int) then 41667 else S+T))):=XL
 have v3:(bif decide (KH<=known) then some (decide (H<=t)) else some false)=some (decide (KH<=known/\H<=t)):=XL
 have v4:(bif decide (KL<=known) then some (decide ((if L-1 > 0 then L-1 else 0)<t)) else some false)=some (decide (KL<=known/\(if L-1 > 0 then L-1 else 0)<t)):=XL
 rw [w1,w2,v1,v2,v3,v4]
 simp only [Á]
 have fin:∀ w:Int,a.State=w->Ev (fun n=>(Ep n (MQ T (Lx.dec T).length) (Gn S A KA H KH L KL) t known).bind fun a_1=>(((QQ).bind fun s4=>bif s4 then bif (a_1.2 == 0) then bif (a_1.1.State == w) then some (a_1.1.Houses == 4095) else some false else some false else some false):Option Bool).bind fun v41=>some v41) true:=by
  intro w hw
  refine ha.bind ?_
  simp only [Ace,Á,Ñ,Ă,hw,hh]
  exact Ev.pure
 by_cases p3:KH<=known/\H<=t
 . by_cases p4:KL<=known/\(if L-1 > 0 then L-1 else 0)<t
   . rw [Ä (fun h=>h.2 p4)] at hs
     by_cases p2:S<=t/\t<=(if 41667<S+(T:Int) then 41667 else S+T)
     . rw [Ç p2] at hs
       by_cases p1:KA<=known/\A<=t
       . simp only [Ì p1,Ì p2,Ì p3,Ì p4,Ñ,Ï,Á,þ];exact fin 1 hs
       . simp only [Ë p1,Ì p2,Ì p3,Ì p4,Ñ,Ï,Á,þ];exact fin 1 hs
     . rw [Ä p2] at hs
       by_cases p1:KA<=known/\A<=t
       . rw [Ç p1] at hs
         simp only [Ì p1,Ë p2,Ì p3,Ì p4,Ñ,Ï,Á,þ];exact fin 2 hs
       . rw [Ä p1] at hs
         simp only [Ë p1,Ë p2,Ì p3,Ì p4,Ñ,Ï,Á,þ];exact fin 0 hs
   . rw [Ç ⟨p3,p4⟩] at hs
     have key:∀ w:Int,Ev (fun n=>(bif decide (S<=t/\t<=(if 41667<S+(T:Int) then 41667 else S+T)) then some 1 else some w).bind fun _=>(Ep n (MQ T (Lx.dec T).length) (Gn S A KA H KH L KL) t known).bind fun a_1=>(((QQ).bind fun s4=>bif s4 then bif (a_1.2 == 0) then bif (a_1.1.State == 1) then some (a_1.1.Houses == 4095) else some false else some false else some false):Option Bool).bind fun v41=>some v41) true:=by
      intro w
      cases decide (S<=t/\t<=(if 41667<S+(T:Int) then 41667 else S+T))<;>exact fin 1 hs
     simp only [Ì p3,Ë p4,Ñ,Á,Ģ]
     cases decide (KA<=known/\A<=t)
     . exact key 0
     . exact key 2
 . rw [Ä (fun h=>p3 h.1)] at hs
   by_cases p2:S<=t/\t<=(if 41667<S+(T:Int) then 41667 else S+T)
   . rw [Ç p2] at hs
     by_cases p1:KA<=known/\A<=t
     . simp only [Ì p1,Ì p2,Ë p3,Ñ,Ï,Á];exact fin 1 hs
     . simp only [Ë p1,Ì p2,Ë p3,Ñ,Ï,Á];exact fin 1 hs
   . rw [Ä p2] at hs
     by_cases p1:KA<=known/\A<=t
     . rw [Ç p1] at hs
       simp only [Ì p1,Ë p2,Ë p3,Ñ,Ï,Á];exact fin 2 hs
     . rw [Ä p1] at hs
       simp only [Ë p1,Ë p2,Ë p3,Ï,Á];exact fin 0 hs
end Go.Sp
