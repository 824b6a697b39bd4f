/-
  The contracts of library functions that the lexer calls, laid at this program (written by the kit's own tools, in plain words). Library functions that the lexer calls, in the form that lifted walks use. The walks of the lexer: the program computes the plain functions. (Printed by lift.py.) The tokens of the one source that sanity compiles, run by the kernel. No program. What the lexer's functions answer, in the form that lifted walks use: Tokens, the reference's Tokens, Text. The walks of statute: Forms: the program computes the plain functions. (Printed by lift.py.) The walks of statute: Compile: the program computes the plain functions. (Printed by lift.py.) The walks of statute: the reference of statute: the program computes the plain functions. (Printed by lift.py.) The walks of duty: what the laws share. (Printed by lift.py.) The walks of duty: the specification of duty. (Printed by lift.py.) The walks of duty: DutyIsAsSpecified. (Printed by lift.py.)
-/
import Derived.Shelf.Small.Strs
import Derived.Shelf.Strings.Search3
import Derived.Shelf.Strings.Prefix
import Derived.Shelf.Strings.Fields
import Derived.Shelf.LaysC
import Derived.Shelf.Strconv.AtoiAll
import Derived.Test.YtehfpameijkafaaGreatDoorProg
import Derived.Test.YtehfpameijkafaaGreatDoorX6
import Derived.Test.YtehfpameijkafaaGreatDoorX9
import Derived.Test.YtehfpameijkafaaGreatDoorX11
import Derived.Test.YtehfpameijkafaaGreatDoorX12
import Derived.Test.YtehfpameijkafaaGreatDoorX13
set_option linter.unusedVariables false
set_option linter.unusedSimpArgs false
namespace Go.Proofs
open Go.Shelf
def Tryz.lays137_ren:Go.Shelf.Ren:=⟨fun|137=>156|217=>166|266=>176|n=>n,fun|9=>9|5=>5|3=>3|n=>n,fun|n=>n⟩
theorem Tryz.lays137:Go.Proofs.Lays.n137 Tryz.prog Tryz.lays137_ren:={
 mixed:=by kernel_rfl
 f137:=Tryz.func156.trans (congrArg some (by kernel_rfl))
 f217:=Tryz.func166.trans (congrArg some (by kernel_rfl))
 f266:=Tryz.func176.trans (congrArg some (by kernel_rfl))
 t3:=Tryz.underlying3
 a3:=Tryz.isAgg3
 z3:=Tryz.sizeOf3
 v3:=Tryz.zeroValue3
 t5:=Tryz.underlying5
 a5:=Tryz.isAgg5
 z5:=Tryz.sizeOf5
 v5:=Tryz.zeroValue5
 t9:=Tryz.underlying9
 a9:=Tryz.isAgg9
 z9:=Tryz.sizeOf9
 v9:=Tryz.zeroValue9 }
open Go.RowKit in
theorem Tryz.strings_IndexByte (s:ByteArray)(c:Int)(w:World) :
 Calls Tryz.prog 156 #[.string s,.int .u8 c] w fun e w'=>e=.returned (.int .i64 (Lib.indexByte s.data.toList c.toNat.toUInt8))/\w'=w:=Any.strings_IndexByte Tryz.lays137 s c w
def Tryz.laysC172_ren:Go.Shelf.Ren:=⟨fun|172=>168|244=>177|245=>178|247=>184|279=>185|280=>186|281=>187|282=>188|287=>191|316=>192|171=>194|205=>193|321=>200|322=>201|243=>202|246=>204|283=>205|284=>206|285=>207|286=>208|129=>131|317=>209|318=>210|319=>211|320=>212|337=>213|338=>214|n=>n,fun|9=>9|3=>3|75=>239|76=>240|4=>4|5=>5|167=>255|37=>133|0=>0|85=>256|2=>2|168=>258|53=>205|175=>266|46=>175|210=>270|127=>283|145=>286|143=>284|21=>21|171=>292|173=>294|212=>296|51=>203|20=>20|213=>297|232=>298|233=>299|80=>300|n=>n,fun|15=>3|16=>4|17=>5|18=>6|19=>7|n=>n⟩
theorem Tryz.laysC172:Go.Proofs.LaysC.n172 Tryz.prog Tryz.laysC172_ren:={
 mixed:=by kernel_rfl
 f129:=Tryz.func131.trans (congrArg some (by kernel_rfl))
 f171:=Tryz.func194.trans (congrArg some (by kernel_rfl))
 f172:=Tryz.func168.trans (congrArg some (by kernel_rfl))
 f205:=Tryz.func193.trans (congrArg some (by kernel_rfl))
 f243:=Tryz.func202.trans (congrArg some (by kernel_rfl))
 f244:=Tryz.func177.trans (congrArg some (by kernel_rfl))
 f245:=Tryz.func178.trans (congrArg some (by kernel_rfl))
 f246:=Tryz.func204.trans (congrArg some (by kernel_rfl))
 f247:=Tryz.func184.trans (congrArg some (by kernel_rfl))
 f279:=Tryz.func185.trans (congrArg some (by kernel_rfl))
 f280:=Tryz.func186.trans (congrArg some (by kernel_rfl))
 f281:=Tryz.func187.trans (congrArg some (by kernel_rfl))
 f282:=Tryz.func188.trans (congrArg some (by kernel_rfl))
 f283:=Tryz.func205.trans (congrArg some (by kernel_rfl))
 f284:=Tryz.func206.trans (congrArg some (by kernel_rfl))
 f285:=Tryz.func207.trans (congrArg some (by kernel_rfl))
 f286:=Tryz.func208.trans (congrArg some (by kernel_rfl))
 f287:=Tryz.func191.trans (congrArg some (by kernel_rfl))
 f316:=Tryz.func192.trans (congrArg some (by kernel_rfl))
 f317:=Tryz.func209.trans (congrArg some (by kernel_rfl))
 f318:=Tryz.func210.trans (congrArg some (by kernel_rfl))
 f319:=Tryz.func211.trans (congrArg some (by kernel_rfl))
 f320:=Tryz.func212.trans (congrArg some (by kernel_rfl))
 f321:=Tryz.func200.trans (congrArg some (by kernel_rfl))
 f322:=Tryz.func201.trans (congrArg some (by kernel_rfl))
 f337:=Tryz.func213.trans (congrArg some (by kernel_rfl))
 f338:=Tryz.func214.trans (congrArg some (by kernel_rfl))
 t0:=Tryz.underlying0
 a0:=Tryz.isAgg0
 z0:=Tryz.sizeOf0
 v0:=Tryz.zeroValue0
 t2:=Tryz.underlying2
 a2:=Tryz.isAgg2
 z2:=Tryz.sizeOf2
 v2:=Tryz.zeroValue2
 t3:=Tryz.underlying3
 a3:=Tryz.isAgg3
 z3:=Tryz.sizeOf3
 v3:=Tryz.zeroValue3
 t4:=Tryz.underlying4
 a4:=Tryz.isAgg4
 z4:=Tryz.sizeOf4
 v4:=Tryz.zeroValue4
 t5:=Tryz.underlying5
 a5:=Tryz.isAgg5
 z5:=Tryz.sizeOf5
 v5:=Tryz.zeroValue5
 t9:=Tryz.underlying9
 a9:=Tryz.isAgg9
 z9:=Tryz.sizeOf9
 v9:=Tryz.zeroValue9
 t20:=Tryz.underlying20
 a20:=Tryz.isAgg20
 z20:=Tryz.sizeOf20
 v20:=Tryz.zeroValue20
 t21:=Tryz.underlying21
 a21:=Tryz.isAgg21
 z21:=Tryz.sizeOf21
 v21:=Tryz.zeroValue21
 t37:=Tryz.underlying133
 a37:=Tryz.isAgg133
 z37:=Tryz.sizeOf133
 v37:=Tryz.zeroValue133
 t46:=Tryz.underlying175
 a46:=Tryz.isAgg175
 z46:=Tryz.sizeOf175
 v46:=Tryz.zeroValue175
 t51:=Tryz.underlying203
 a51:=Tryz.isAgg203
 z51:=Tryz.sizeOf203
 v51:=Tryz.zeroValue203
 t53:=Tryz.underlying205
 a53:=Tryz.isAgg205
 z53:=Tryz.sizeOf205
 v53:=Tryz.zeroValue205
 t75:=Tryz.underlying239
 a75:=Tryz.isAgg239
 z75:=Tryz.sizeOf239
 v75:=Tryz.zeroValue239
 t76:=Tryz.underlying240
 a76:=Tryz.isAgg240
 z76:=Tryz.sizeOf240
 v76:=Tryz.zeroValue240
 t85:=Tryz.underlying256
 a85:=Tryz.isAgg256
 z85:=Tryz.sizeOf256
 v85:=Tryz.zeroValue256
 t127:=Tryz.underlying283
 a127:=Tryz.isAgg283
 z127:=Tryz.sizeOf283
 v127:=Tryz.zeroValue283
 t143:=Tryz.underlying284
 a143:=Tryz.isAgg284
 z143:=Tryz.sizeOf284
 v143:=Tryz.zeroValue284
 t145:=Tryz.underlying286
 a145:=Tryz.isAgg286
 z145:=Tryz.sizeOf286
 v145:=Tryz.zeroValue286
 t167:=Tryz.underlying255
 a167:=Tryz.isAgg255
 z167:=Tryz.sizeOf255
 v167:=Tryz.zeroValue255
 t168:=Tryz.underlying258
 a168:=Tryz.isAgg258
 z168:=Tryz.sizeOf258
 v168:=Tryz.zeroValue258
 t171:=Tryz.underlying292
 a171:=Tryz.isAgg292
 z171:=Tryz.sizeOf292
 v171:=Tryz.zeroValue292
 t173:=Tryz.underlying294
 a173:=Tryz.isAgg294
 z173:=Tryz.sizeOf294
 v173:=Tryz.zeroValue294
 t175:=Tryz.underlying266
 a175:=Tryz.isAgg266
 z175:=Tryz.sizeOf266
 v175:=Tryz.zeroValue266
 t210:=Tryz.underlying270
 a210:=Tryz.isAgg270
 z210:=Tryz.sizeOf270
 v210:=Tryz.zeroValue270
 t212:=Tryz.underlying296
 a212:=Tryz.isAgg296
 z212:=Tryz.sizeOf296
 v212:=Tryz.zeroValue296
 t213:=Tryz.underlying297
 a213:=Tryz.isAgg297
 z213:=Tryz.sizeOf297
 t232:=Tryz.underlying298
 a232:=Tryz.isAgg298
 z232:=Tryz.sizeOf298
 v232:=Tryz.zeroValue298
 t233:=Tryz.underlying299
 a233:=Tryz.isAgg299
 z233:=Tryz.sizeOf299
 v233:=Tryz.zeroValue299
 g15:=by kernel_rfl
 g16:=by kernel_rfl
 g17:=by kernel_rfl
 g18:=by kernel_rfl
 g19:=by kernel_rfl
 t80:=Tryz.underlying300
 a80:=Tryz.isAgg300
 z80:=Tryz.sizeOf300
 v80:=Tryz.zeroValue300
 i0:=by kernel_rfl
 i2:=by kernel_rfl
 i3:=by kernel_rfl
 i4:=by kernel_rfl
 i5:=by kernel_rfl
 i9:=by kernel_rfl
 i20:=by kernel_rfl
 i21:=by kernel_rfl
 i37:=by kernel_rfl
 i46:=by kernel_rfl
 i51:=by kernel_rfl
 i53:=by kernel_rfl
 i75:=by kernel_rfl
 i76:=by kernel_rfl
 i80:=by kernel_rfl
 i85:=by kernel_rfl
 i127:=by kernel_rfl
 i143:=by kernel_rfl
 i145:=by kernel_rfl
 i167:=by kernel_rfl
 i168:=by kernel_rfl
 i171:=by kernel_rfl
 i173:=by kernel_rfl
 i175:=by kernel_rfl
 i210:=by kernel_rfl
 i212:=by kernel_rfl
 i232:=by kernel_rfl
 i233:=by kernel_rfl
 m15:=by kernel_rfl
 m16:=by kernel_rfl
 m17:=by kernel_rfl
 m18:=by kernel_rfl
 m19:=by kernel_rfl
 c0:=by kernel_rfl
 c2:=by kernel_rfl
 c3:=by kernel_rfl
 c4:=by kernel_rfl
 c5:=by kernel_rfl
 c9:=by kernel_rfl
 c20:=by kernel_rfl
 c21:=by kernel_rfl
 c37:=by kernel_rfl
 c46:=by kernel_rfl
 c51:=by kernel_rfl
 c53:=by kernel_rfl
 c75:=by kernel_rfl
 c76:=by kernel_rfl
 c80:=by kernel_rfl
 c85:=by kernel_rfl
 c127:=by kernel_rfl
 c143:=by kernel_rfl
 c145:=by kernel_rfl
 c167:=by kernel_rfl
 c168:=by kernel_rfl
 c171:=by kernel_rfl
 c173:=by kernel_rfl
 c175:=by kernel_rfl
 c210:=by kernel_rfl
 c212:=by kernel_rfl
 c213:=by kernel_rfl
 c232:=by kernel_rfl
 c233:=by kernel_rfl }
open Go.RowKit in
theorem Tryz.strconv_Atoi_ok (s:ByteArray)(hmax:s.size<=9223372036854775806)(v:Int)(h:Lib.atoiAll s.data.toList=.ok v)(w:World) :
 Calls Tryz.prog 168 #[.string s] w fun e w'=>e=.returned (.tuple #[.int .i64 v,.nilIface])/\(w'=w∨∃ t,w'=Lib.bytesWorld w 5 t):=Any.strconv_Atoi_ok Tryz.laysC172 s hmax v h w
open Go.RowKit in
theorem Tryz.strconv_Atoi_syntax (s:ByteArray)(hlim:s.size<=281474976710656)(h:Lib.atoiAll s.data.toList=.«syntax»)(ev:Value)(w:World)(hv:w.cell? ⟨3,0,none⟩=some ev)(hev:ev=.nilIface∨∃ te pe,ev=.iface te pe) :
 Calls Tryz.prog 168 #[.string s] w fun e w'=>∃ N,e=.returned (.tuple #[.int .i64 (0),.iface 258 (.pointer (some ⟨N,0,none⟩))])/\w.heap.size<=N/\w'.heap[N]?=some (.cells #[.string ⟨#[65,116,111,105]⟩,.string s,ev] 270 (0,0))/\Below w.heap.size w w':=Any.strconv_Atoi_syntax Tryz.laysC172 s hlim h ev w hv hev
open Go.RowKit in
theorem Tryz.strconv_Atoi_range (s:ByteArray)(hlim:s.size<=281474976710656)(h:Lib.atoiAll s.data.toList=.range)(ev:Value)(w:World)(hv:w.cell? ⟨4,0,none⟩=some ev)(hev:ev=.nilIface∨∃ te pe,ev=.iface te pe) :
 Calls Tryz.prog 168 #[.string s] w fun e w'=>∃ N,e=.returned (.tuple #[.int .i64 (Lib.atoiSat s.data.toList),.iface 258 (.pointer (some ⟨N,0,none⟩))])/\w.heap.size<=N/\w'.heap[N]?=some (.cells #[.string ⟨#[65,116,111,105]⟩,.string s,ev] 270 (0,0))/\Below w.heap.size w w':=Any.strconv_Atoi_range Tryz.laysC172 s hlim h ev w hv hev
def Tryz.lays144_ren:Go.Shelf.Ren:=⟨fun|144=>171|143=>182|219=>190|217=>166|225=>197|224=>198|267=>199|266=>176|314=>203|n=>n,fun|9=>9|4=>4|3=>3|5=>5|46=>175|146=>289|51=>203|n=>n,fun|1=>1|n=>n⟩
theorem Tryz.lays144:Go.Proofs.Lays.n144 Tryz.prog Tryz.lays144_ren:={
 mixed:=by kernel_rfl
 f143:=Tryz.func182.trans (congrArg some (by kernel_rfl))
 f144:=Tryz.func171.trans (congrArg some (by kernel_rfl))
 f217:=Tryz.func166.trans (congrArg some (by kernel_rfl))
 f219:=Tryz.func190.trans (congrArg some (by kernel_rfl))
 f224:=Tryz.func198.trans (congrArg some (by kernel_rfl))
 f225:=Tryz.func197.trans (congrArg some (by kernel_rfl))
 f266:=Tryz.func176.trans (congrArg some (by kernel_rfl))
 f267:=Tryz.func199.trans (congrArg some (by kernel_rfl))
 f314:=Tryz.func203.trans (congrArg some (by kernel_rfl))
 t3:=Tryz.underlying3
 a3:=Tryz.isAgg3
 z3:=Tryz.sizeOf3
 v3:=Tryz.zeroValue3
 t4:=Tryz.underlying4
 a4:=Tryz.isAgg4
 z4:=Tryz.sizeOf4
 v4:=Tryz.zeroValue4
 t5:=Tryz.underlying5
 a5:=Tryz.isAgg5
 z5:=Tryz.sizeOf5
 v5:=Tryz.zeroValue5
 t9:=Tryz.underlying9
 a9:=Tryz.isAgg9
 z9:=Tryz.sizeOf9
 v9:=Tryz.zeroValue9
 t46:=Tryz.underlying175
 a46:=Tryz.isAgg175
 z46:=Tryz.sizeOf175
 v46:=Tryz.zeroValue175
 t51:=Tryz.underlying203
 a51:=Tryz.isAgg203
 z51:=Tryz.sizeOf203
 v51:=Tryz.zeroValue203
 t146:=Tryz.underlying289
 a146:=Tryz.isAgg289
 z146:=Tryz.sizeOf289
 v146:=Tryz.zeroValue289
 g1:=by kernel_rfl }
open Go.RowKit Go.Lib in
theorem Tryz.strings_Contains_one (s:ByteArray)(c:UInt8)(w:World) :
 Calls Tryz.prog 171 #[.string s,.string ⟨#[c]⟩] w fun e w'=>e=.returned (.bool (decide (0<=Lib.indexByte s.data.toList c)))/\w'=w:=Any.strings_Contains_one Tryz.lays144 s c w
def Tryz.lays99_ren:Go.Shelf.Ren:=⟨fun|99=>170|206=>181|n=>n,fun|9=>9|4=>4|3=>3|n=>n,fun|n=>n⟩
theorem Tryz.lays99:Go.Proofs.Lays.n99 Tryz.prog Tryz.lays99_ren:={
 mixed:=by kernel_rfl
 f99:=Tryz.func170.trans (congrArg some (by kernel_rfl))
 f206:=Tryz.func181.trans (congrArg some (by kernel_rfl))
 t3:=Tryz.underlying3
 a3:=Tryz.isAgg3
 z3:=Tryz.sizeOf3
 v3:=Tryz.zeroValue3
 t4:=Tryz.underlying4
 a4:=Tryz.isAgg4
 z4:=Tryz.sizeOf4
 v4:=Tryz.zeroValue4
 t9:=Tryz.underlying9
 a9:=Tryz.isAgg9
 z9:=Tryz.sizeOf9
 v9:=Tryz.zeroValue9 }
open Go.RowKit Go.Lib in
theorem Tryz.strings_HasPrefix (s p:ByteArray)(w:World) :
 Calls Tryz.prog 170 #[.string s,.string p] w fun e w'=>e=.returned (.bool (Lib.hasPrefix s.data.toList p.data.toList))/\w'=w:=Any.strings_HasPrefix Tryz.lays99 s p w
def Tryz.lays157_ren:Go.Shelf.Ren:=⟨fun|157=>169|229=>179|199=>180|261=>189|311=>195|312=>196|n=>n,fun|9=>9|31=>169|3=>3|5=>5|4=>4|119=>251|0=>0|40=>253|152=>261|21=>21|154=>263|51=>203|141=>265|196=>275|193=>272|198=>277|49=>60|194=>273|201=>280|226=>287|46=>175|227=>288|n=>n,fun|0=>0|6=>2|n=>n⟩
theorem Tryz.lays157:Go.Proofs.Lays.n157 Tryz.prog Tryz.lays157_ren:={
 mixed:=by kernel_rfl
 f157:=Tryz.func169.trans (congrArg some (by kernel_rfl))
 f199:=Tryz.func180.trans (congrArg some (by kernel_rfl))
 f229:=Tryz.func179.trans (congrArg some (by kernel_rfl))
 f261:=Tryz.func189.trans (congrArg some (by kernel_rfl))
 f311:=Tryz.func195.trans (congrArg some (by kernel_rfl))
 f312:=Tryz.func196.trans (congrArg some (by kernel_rfl))
 t0:=Tryz.underlying0
 a0:=Tryz.isAgg0
 z0:=Tryz.sizeOf0
 v0:=Tryz.zeroValue0
 t3:=Tryz.underlying3
 a3:=Tryz.isAgg3
 z3:=Tryz.sizeOf3
 v3:=Tryz.zeroValue3
 t4:=Tryz.underlying4
 a4:=Tryz.isAgg4
 z4:=Tryz.sizeOf4
 v4:=Tryz.zeroValue4
 t5:=Tryz.underlying5
 a5:=Tryz.isAgg5
 z5:=Tryz.sizeOf5
 v5:=Tryz.zeroValue5
 t9:=Tryz.underlying9
 a9:=Tryz.isAgg9
 z9:=Tryz.sizeOf9
 v9:=Tryz.zeroValue9
 t21:=Tryz.underlying21
 a21:=Tryz.isAgg21
 z21:=Tryz.sizeOf21
 v21:=Tryz.zeroValue21
 t31:=Tryz.underlying169
 a31:=Tryz.isAgg169
 z31:=Tryz.sizeOf169
 v31:=Tryz.zeroValue169
 t40:=Tryz.underlying253
 a40:=Tryz.isAgg253
 z40:=Tryz.sizeOf253
 v40:=Tryz.zeroValue253
 t46:=Tryz.underlying175
 a46:=Tryz.isAgg175
 z46:=Tryz.sizeOf175
 v46:=Tryz.zeroValue175
 t49:=Tryz.underlying60
 a49:=Tryz.isAgg60
 z49:=Tryz.sizeOf60
 v49:=Tryz.zeroValue60
 t51:=Tryz.underlying203
 a51:=Tryz.isAgg203
 z51:=Tryz.sizeOf203
 v51:=Tryz.zeroValue203
 t119:=Tryz.underlying251
 a119:=Tryz.isAgg251
 z119:=Tryz.sizeOf251
 t141:=Tryz.underlying265
 a141:=Tryz.isAgg265
 z141:=Tryz.sizeOf265
 v141:=Tryz.zeroValue265
 t152:=Tryz.underlying261
 a152:=Tryz.isAgg261
 z152:=Tryz.sizeOf261
 v152:=Tryz.zeroValue261
 t154:=Tryz.underlying263
 a154:=Tryz.isAgg263
 z154:=Tryz.sizeOf263
 v154:=Tryz.zeroValue263
 t193:=Tryz.underlying272
 a193:=Tryz.isAgg272
 z193:=Tryz.sizeOf272
 v193:=Tryz.zeroValue272
 t194:=Tryz.underlying273
 a194:=Tryz.isAgg273
 z194:=Tryz.sizeOf273
 v194:=Tryz.zeroValue273
 t196:=Tryz.underlying275
 a196:=Tryz.isAgg275
 z196:=Tryz.sizeOf275
 v196:=Tryz.zeroValue275
 t198:=Tryz.underlying277
 a198:=Tryz.isAgg277
 z198:=Tryz.sizeOf277
 v198:=Tryz.zeroValue277
 t201:=Tryz.underlying280
 a201:=Tryz.isAgg280
 z201:=Tryz.sizeOf280
 v201:=Tryz.zeroValue280
 t226:=Tryz.underlying287
 a226:=Tryz.isAgg287
 z226:=Tryz.sizeOf287
 v226:=Tryz.zeroValue287
 t227:=Tryz.underlying288
 a227:=Tryz.isAgg288
 z227:=Tryz.sizeOf288
 v227:=Tryz.zeroValue288
 g0:=by kernel_rfl
 g6:=by kernel_rfl }
open Go.RowKit Go.Lib in
theorem Tryz.strings_Fields (s:ByteArray)(w:World)(hs:s.size<4294967281)(hascii:∀ (j:Nat) b,s.data.toList[j]?=some b->b.toNat<128)(htab:Lib.TabIs Tryz.prog w "strings.asciiSpace" .u8 Lib.asciiSpaceTab) :
 Calls Tryz.prog 169 #[.string s] w fun e w' =>
  e=.returned (.slice (some ⟨w.heap.size,0,none⟩) (Lib.fields s.data.toList).length (Lib.fields s.data.toList).length)/\w'=w.alloc (.cells ((Lib.fields s.data.toList).map fun l=>Value.string ⟨l.toArray⟩).toArray 9):=Any.strings_Fields Tryz.lays157 (by kernel_rfl) (by kernel_rfl) s w hs hascii htab
end Go.Proofs
namespace Go.Proofs.YtehfpameijkafaaGreatDoor
open Go.RowKit Go.Q Go.Vl Go.Sp
set_option maxRecDepth 100000
theorem XW (s:Æ)(c:Int)(r:Int)(h:Xo s c=some r):BZ Tryz.prog 156 [tP s,uP c] (iP r):=by
 obtain rfl:=Ag h
 exact fun σ=>VC.lits [.string s,.int .u8 c] _ fun w _=>(Tryz.strings_IndexByte s c w).mono fun _ _ h=>⟨h.1,by rw [h.2];exact Below.refl _ _⟩
theorem Acw (s p:Æ)(r:Bool)(h:Aa0 s p=some r):BZ Tryz.prog 170 [tP s,tP p] (bP r):=by
 obtain rfl:=Ag h
 exact fun σ=>VC.lits [.string s,.string p] _ fun w _=>(Tryz.strings_HasPrefix s p w).mono fun _ _ h=>⟨h.1,by rw [h.2];exact Below.refl _ _⟩
theorem Acx (s p:Æ)(r:Bool)(h:Xp s p=some r):BZ Tryz.prog 171 [tP s,tP p] (bP r):=by
 unfold Xp at h
 split at h
 . rename_i c e
   obtain rfl:=Ag h
   obtain rfl:p=⟨#[c]⟩:=by
    have:p=⟨⟨p.data.toList⟩⟩:=rfl
    rw [this,e]
   exact fun σ=>VC.lits [.string s,.string ⟨#[c]⟩] _ fun w _=>(Tryz.strings_Contains_one s c w).mono fun _ _ h=>⟨h.1,by rw [h.2];exact Below.refl _ _⟩
 . cases h
theorem Ahe {w:World}(h:Rz w):Lib.TabIs Tryz.prog w "strings.asciiSpace" .u8 Lib.asciiSpaceTab:=by
 obtain⟨⟨⟨T,o,a⟩,_⟩,_⟩:=h
 unfold Lib.TabIs World.var?
 rw [show Tryz.prog.globalNamed "strings.asciiSpace" = some 0 from by kernel_rfl]
 simp only [Á,a]
theorem WI (s:Æ)(r:List Æ)(h:Pb s=some r):BZ Tryz.prog 169 [tP s] (hP r Gc):=by
 unfold Pb at h
 split at h
 . rename_i e
   subst e
   obtain rfl:=Ag h
   refine VC.fin (fun Q a=>?_) rfl rfl
   have c:Lib.fields Tb.data.toList=Lx.long:=by decide +kernel
   have d:∀ (j:Nat) (b:UInt8),Tb.data.toList[j]?=some b->b.toNat<128:=fun j b hb=>(show ∀ b∈Tb.data.toList,b.toNat<128 by decide) b (Ð hb)
   have h:=VC.freshSl (P:=Tryz.prog) (f:=169) (σ:=[]) [.string Tb] (Lx.long.map fun l=>.string ⟨⟨l⟩⟩) 9 (by simp [Lx.long,Value.oneCell']) (by decide) fun w g=>by
    have:=Tryz.strings_Fields Tb w (by decide) d (Ahe g)
    rw [c] at this
    refine this.mono fun e w' h=>?_
    rw [Ñ]
    exact h
   rw [List.map_map] at h
   refine VC.mono h ?_
   rintro _ _ ⟨rfl,rfl⟩
   exact a _ rfl
 . cases h
theorem XM {w w':World}(h:w'=w∨∃ t,w'=Lib.bytesWorld w 5 t):Below w.heap.size w w':=by
 rcases h with rfl|⟨t,rfl⟩
 . exact Below.refl _ _
 . exact⟨rfl,rfl,rfl,by rw [Lib.bytesWorld_size];omega,fun j a=>Lib.bytesWorld_at_old w 5 t j a⟩
theorem fit {s:Æ}{u:Unit}(h:Rh s=some u):s.size<=1000000:=by
 unfold Rh at h
 split at h
 . assumption
 . cases h
theorem Acy (s:Æ){u:Unit}(hf:Rh s=some u)(h:Ri s=false):BZ Tryz.prog 168 [tP s] (.tup [iP (N7 s),.lit .nilIface]):=by
 have hs:=fit hf
 unfold Ri at h
 unfold N7
 split at h
 . rename_i v a
   rw [a]
   exact fun σ=>VC.litNil [.string s] _ fun w _=>(Tryz.strconv_Atoi_ok s (by omega) v a w).mono fun _ _ h=>⟨h.1,XM h.2⟩
 . cases h
theorem ZU (s:Æ){u:Unit}(hf:Rh s=some u)(h:Ri s=true):BZ Tryz.prog 168 [tP s] (.tup [iP (N7 s),.ifc]):=by
 have hs:=fit hf
 unfold Ri at h
 unfold N7
 intro σ
 cases c:Lib.atoiAll s.data.toList with
 | «syntax» =>
  refine VC.litErr [.string s] _ fun w f=>?_
  obtain⟨ev,a,b⟩:=f.2.1
  refine (Tryz.strconv_Atoi_syntax s (by omega) c ev w a b).mono ?_
  rintro e wc ⟨NN,rfl,_,_,d⟩
  exact⟨⟨_,_,rfl⟩,d⟩
 |range =>
  refine VC.litErr [.string s] _ fun w f=>?_
  obtain⟨ev,a,b⟩:=f.2.2
  refine (Tryz.strconv_Atoi_range s (by omega) c ev w a b).mono ?_
  rintro e wc ⟨NN,rfl,_,_,d⟩
  exact⟨⟨_,_,rfl⟩,d⟩
 |ok v=>rw [c] at h;cases h
end Go.Proofs.YtehfpameijkafaaGreatDoor
namespace Go.Proofs.YtehfpameijkafaaGreatDoor
open Go.RowKit Go.Q Go.Vl Go.Sp
set_option maxRecDepth 100000
set_option linter.unusedSimpArgs false
set_option maxHeartbeats 4000000
set_option linter.unusedVariables false
theorem ID (c:Int)(r:Int)(h:Hc c=some r):BZ Tryz.prog 157 [uP c] (iP r):=by
 unfold Hc at h
 refine vP ⟨[0,2,3,6,19,26],[]⟩ Tryz.func157 follows fun Q g=>?_
 refine cD 7 [] h (fun i h=>?_) fun i h=>?_
 cases h
 exact rt 2 [] g
 refine mE 0 [] h (fun v6=>⟨[(0,uP c),(2,iP 0),(6,bP v6)],[]⟩) ?_ fun y e hJ=>?_
 rintro v6 h
 refine mE 0 [] h (fun v61=>⟨[(0,uP c),(2,iP 0),(6,bP v61)],[]⟩) ?_ fun y1 e1 j=>?_
 rintro v61 h
 refine cD 0 [] h (fun m h=>?_) fun m h=>?_
 cases h
 exact rt 2 [] g
 refine mE 0 [] h (fun v19=>⟨[(0,uP c),(2,iP 0),(19,bP v19)],[]⟩) ?_ fun y2 e2 k=>?_
 rintro v19 h
 refine cD 0 [] h (fun n h=>?_) fun n h=>?_
 cases h
 exact rt 2 [] g
 refine mE 1 [] h (fun v26=>⟨[(2,iP 0),(26,bP v26)],[]⟩) ?_ fun y3 e3 a=>?_
 rintro v26 h
 refine cD 0 [] h (fun t h=>?_) fun t h=>?_
 cases h
 exact rt 2 [] g
 cases h
 exact rt 2 [] g
 refine cD 0 [] e3 (fun o e3=>?_) fun o e3=>?_
 exact mJ 0 [] (a _ (oj e3))
 refine cD 1 [] e3 (fun p e3=>?_) fun p e3=>?_
 exact mJ 0 [] (a _ (oj e3))
 refine cD 1 [] e3 (fun q e3=>?_) fun q e3=>?_
 exact mJ 0 [] (a _ (oj e3))
 exact mJ 1 [] (a _ (oj e3))
 rcases Aj e2 with⟨b,e2⟩|⟨b,e2⟩
 exact mJ 1 [(2,fo b)] (k _ (oj e2))
 exact mJ 1 [(2,fo b)] (k _ (oj e2))
 refine cD 0 [] e1 (fun s e1=>?_) fun s e1=>?_
 exact mJ 0 [] (j _ (oj e1))
 refine mE 0 [] e1 (fun v62=>⟨[(0,uP c),(2,iP 0),(6,bP v62)],[]⟩) ?_ fun y4 e4 l=>?_
 rintro v62 e1
 exact mJ 0 [] (j _ (oj e1))
 rcases Aj e4 with⟨d,e4⟩|⟨d,e4⟩
 exact mJ 1 [(2,fo d)] (l _ (oj e4))
 exact mJ 1 [(2,fo d)] (l _ (oj e4))
 rcases Aj e with⟨f,e⟩|⟨f,e⟩
 exact mJ 1 [(2,fo f)] (hJ _ (oj e))
 exact mJ 1 [(2,fo f)] (hJ _ (oj e))
theorem Je (n:Nat)(r_:Ao)(r:(Unit×Ao))(h:CF n r_=some r):DP Tryz.prog 142 [] [tP r_.src,iP r_.at_,oT r_.out] (.ret (.tup [])) [tP r.2.src,iP r.2.at_,oT r.2.out]:=by
 unfold CF at h
 refine vM ⟨[0,2,3,13,23,37,56],[(0,[9999,0,0,1,2,3,4,5,6,7,8,9]),(1,[9999,0,0,1,2,3,4,5,6,7,8,9]),(3,[9999,0,0,1,2,3,4,5,6,7,8,9,10]),(5,[9999,0,0,1,2,3,4,5,6,7,8,9,10])]⟩ Tryz.func142 follows fun Q j=>?_
 refine mI 0 [] h (fun r_1=>⟨[],[[tP r_.src,iP r_1,oT r_.out]]⟩) ?_ fun y e h hJ=>?_
 rintro r_1 h
 cases h
 exact rt 0 [] j
 refine lF 1 [] (A:=Int) (fun n r_2=>C8 n r_ r_2) (fun r_2=>⟨[(0,.ptr 0 0)],[[tP r_.src,iP r_2,oT r_.out]]⟩) r_.at_ e (fun _=>rfl) ?_
 rintro n r_2 e ih
 replace e:=(C8.eq_2 ..).symm.trans e
 refine cD 1 [] e (fun b e=>?_) fun b e=>?_
 obtain⟨c,k,e⟩:=Ab e
 refine cD 4 [(8,fb k)] e (fun d e=>?_) fun d e=>?_
 obtain⟨s,hs,e⟩:=Ab e
 obtain⟨n_,f,e⟩:=Ab e
 refine cD 2 [(8,fu hs),(0,fk (XW _ _ _ f))] e (fun g e=>?_) fun g e=>?_
 exact mJ 2 [] (ih _ e)
 exact mJ 1 [] (ih _ e)
 obtain⟨c1,a,e⟩:=Ab e
 refine cD 1 [(1,fk (ID _ _ a))] e (fun i e=>?_) fun i e=>?_
 exact mJ 1 [] (ih _ e)
 cases e
 cases h
 exact rt 0 [] j
 exact mJ 1 [] (hJ _ (oj e))
theorem Jd (n:Nat)(r_:Ao)(least:Int)(r:Int)(h:FK n r_ least=some r):DP Tryz.prog 167 [iP least] [tP r_.src,iP r_.at_,oT r_.out] (.ret (iP r)) [tP r_.src,iP r_.at_,oT r_.out]:=by
 unfold FK at h
 refine vM ⟨[0,1,4,5,27],[]⟩ Tryz.func167 follows fun Q g=>?_
 refine mE 2 [] h (fun to_=>⟨[(4,iP 0),(5,iP to_)],[[tP r_.src,iP r_.at_,oT r_.out]]⟩) ?_ fun y e hJ=>?_
 rintro to_ h
 cases h
 exact rt 1 [] g
 refine lF 1 [] (A:=Int) (fun n to_1=>E1 n r_ least to_1) (fun to_1=>⟨[(0,.ptr 0 0),(1,iP least),(4,iP 0),(5,iP to_1)],[[tP r_.src,iP r_.at_,oT r_.out]]⟩) r_.at_ e (fun _=>rfl) ?_
 rintro n to_1 e ih
 replace e:=(E1.eq_2 ..).symm.trans e
 refine mE 0 [] e (fun v27=>⟨[(0,.ptr 0 0),(1,iP least),(4,iP 0),(5,iP to_1),(27,bP v27)],[[tP r_.src,iP r_.at_,oT r_.out]]⟩) ?_ fun y1 e1 b=>?_
 rintro v27 e
 refine cD 0 [] e (fun i e=>?_) fun i e=>?_
 exact mJ 2 [] (ih _ e)
 exact mJ 1 [] (hJ _ (oj e))
 rcases Aj e1 with⟨a,e1⟩|⟨a,e1⟩
 obtain⟨c,f,e1⟩:=Ab e1
 obtain⟨c1,d,e1⟩:=Ab e1
 exact mJ 1 [(7,fo a),(5,fb f),(0,fk (ID _ _ d))] (b _ (oj e1))
 exact mJ 1 [(7,fo a)] (b _ (oj e1))
theorem Dv (r_:Ao)(kind:Int)(to_:Int)(s:Æ)(n_:Int)(r:(Int×Ao))(h:BU r_ kind to_ s n_=some r):DP Tryz.prog 144 [iP kind,iP to_,tP s,iP n_] [tP r_.src,iP r_.at_,oT r_.out] (.ret (iP r.1)) [tP r.2.src,iP r.2.at_,oT r.2.out]:=by
 unfold BU at h
 refine vM ⟨[0,1,2,3,4,10],[(1,[9999,0,0,1,2,3,4,5,6,7,8,9,10,11,12,13,14,15,16,17])]⟩ Tryz.func144 follows fun Q b=>?_
 obtain⟨l,c,h⟩:=Ab h
 obtain⟨l1,a,h⟩:=Ab h
 cases h
 exact rt 4 [(14,fB Cy c),(0,fa Cy a)] b
theorem Ns (n:Nat)(r_:Ao)(r:((Bool×Int)×Ao))(h:H0 n r_=some r):DP Tryz.prog 158 [] [tP r_.src,iP r_.at_,oT r_.out] (.ret (.tup [bP r.1.1,iP r.1.2])) [tP r.2.src,iP r.2.at_,oT r.2.out]:=by
 unfold H0 at h
 refine vM ⟨[0,2,3,4,15,24],[(1,[9999,0,0,1,2,3,4,5,6,7,8,9,10]),(6,[9999,1,0,0,1,2,3,4,5,6,7,8,9,10,11,12,13,14])]⟩ Tryz.func158 follows fun Q b=>?_
 obtain⟨c,g,h⟩:=Ab h
 obtain⟨c1,d,h⟩:=Ab h
 refine cD 2 [(10,fb g),(0,fk (ID _ _ d))] h (fun e h=>?_) fun e h=>?_
 cases h
 exact rt 1 [] b
 obtain⟨to_,a,h⟩:=Ab h
 refine cD 2 [(1,fm (Jd _ _ _ _ a))] h (fun f h=>?_) fun f h=>?_
 cases h
 exact rt 1 [] b
 obtain⟨s,hs,h⟩:=Ab h
 obtain⟨p,i,h⟩:=Ab h
 cases h
 exact rt 1 [(11,fu hs),(0,fm (Dv _ _ _ _ _ _ i))] b
theorem LJ (n:Nat)(r_:Ao)(r:((Bool×Int)×Ao))(h:G6 n r_=some r):DP Tryz.prog 159 [] [tP r_.src,iP r_.at_,oT r_.out] (.ret (.tup [bP r.1.1,iP r.1.2])) [tP r.2.src,iP r.2.at_,oT r.2.out]:=by
 unfold G6 at h
 refine vM ⟨[0,2,3,4,5,6,7,18,52],[(1,[9999,0,0,1,2,3,4,5,6,7,8,9,10]),(4,[9999,0,0,1,2,3,4,5,6,7,8,9,10])]⟩ Tryz.func159 follows fun Q i=>?_
 obtain⟨c,o,h⟩:=Ab h
 obtain⟨c1,j,h⟩:=Ab h
 refine cD 2 [(10,fb o),(0,fk (ID _ _ j))] h (fun k h=>?_) fun k h=>?_
 cases h
 exact rt 1 [] i
 obtain⟨to_,f,h⟩:=Ab h
 obtain⟨s,hs,h⟩:=Ab h
 refine wl 2 [(1,fm (Jd _ _ _ _ f)),(10,fu hs)] ?_
 obtain⟨_,m,h⟩:=Ab h
 replace h:=Aj h
 rcases h with⟨b,h⟩|⟨b,h⟩
 cases h
 exact rt 4 [(1,fk (ZU _ m b))] i
 refine mE 1 [(1,fk (Acy _ m b))] h (fun (n_,v52)=>⟨[(0,.ptr 0 0),(2,bP false),(3,iP 0),(4,iP to_),(6,iP n_),(52,bP v52)],[[tP r_.src,iP r_.at_,oT r_.out]]⟩) ?_ fun y e hJ=>?_
 rintro⟨n_,v52⟩ h
 refine cD 0 [] h (fun l h=>?_) fun l h=>?_
 cases h
 exact rt 1 [] i
 obtain⟨p,q,h⟩:=Ab h
 cases h
 exact rt 1 [(3,fm (Dv _ _ _ _ _ _ q))] i
 rcases Aj e with⟨a,e⟩|⟨a,e⟩
 exact mJ 1 [(7,fo a)] (hJ _ (oj e))
 rcases Aj e with⟨d,e⟩|⟨d,e⟩
 obtain⟨c2,g,e⟩:=Ab e
 exact mJ 1 [(7,fo a),(3,fo d),(1,fb g)] (hJ _ (oj e))
 exact mJ 1 [(7,fo a),(3,fo d)] (hJ _ (oj e))
theorem Np (n:Nat)(r_:Ao)(r:((Bool×Int)×Ao))(h:Hy n r_=some r):DP Tryz.prog 160 [] [tP r_.src,iP r_.at_,oT r_.out] (.ret (.tup [bP r.1.1,iP r.1.2])) [tP r.2.src,iP r.2.at_,oT r.2.out]:=by
 unfold Hy at h
 refine vM ⟨[0,2,3,4,5,6,7,17,25,34,45,54,65,74,80],[(1,[9999,0,0,1,2,3,4,5,6,7,8,9])]⟩ Tryz.func160 follows fun Q f=>?_
 obtain⟨c,E,h⟩:=Ab h
 refine cD 2 [(10,fb E)] h (fun g h=>?_) fun g h=>?_
 cases h
 exact rt 1 [] f
 refine mI 2 [] h (fun _=>⟨[(2,bP false),(3,iP 0)],[[tP r_.src,iP r_.at_,oT r_.out]]⟩) ?_ fun y e h hJ=>?_
 rintro _ h
 cases h
 exact rt 1 [] f
 refine lF 1 [] (A:=((List Int)×Int)) (fun n (b,k)=>Dt n r_ b k) (fun (b,k)=>⟨[(0,.ptr 0 0),(2,bP false),(3,iP 0),(4,oP b JO),(5,iP k)],[[tP r_.src,iP r_.at_,oT r_.out]]⟩) ([],(À (r_.at_+1))) e (fun _=>rfl) ?_
 rintro n ⟨b,k⟩ e ih
 replace e:=(Dt.eq_2 ..).symm.trans e
 refine cD 1 [(1,fl Py b)] e (fun i e=>?_) fun i e=>?_
 refine cD 2 [] e (fun q e=>?_) fun q e=>?_
 cases e
 cases h
 exact rt 1 [] f
 obtain⟨c1,s,e⟩:=Ab e
 refine cD 3 [(5,fb s)] e (fun t e=>?_) fun t e=>?_
 obtain⟨p,F,e⟩:=Ab e
 cases e
 cases h
 exact rt 1 [(4,fg Py (fun _=>rfl) b),(0,fm (Dv _ _ _ _ _ _ F))] f
 refine cD 1 [] e (fun u e=>?_) fun u e=>?_
 refine mE 3 [] e (fun pair=>⟨[(0,.ptr 0 0),(2,bP false),(3,iP 0),(4,oP b JO),(5,iP (À (k+1))),(7,iP pair)],[[tP r_.src,iP r_.at_,oT r_.out]]⟩) ?_ fun y1 e1 j=>?_
 rintro pair e
 refine cD 1 [] e (fun v e=>?_) fun v e=>?_
 cases e
 cases h
 exact rt 1 [] f
 obtain⟨c2,w,e⟩:=Ab e
 obtain⟨l,G,e⟩:=Ab e
 obtain⟨l1,x,e⟩:=Ab e
 exact mJ 2 [(2,fb w),(0,fB Py G),(0,fa Py x)] (ih (_,_) e)
 refine cD 0 [] e1 (fun z e1=>?_) fun z e1=>?_
 obtain⟨c3,m,e1⟩:=Ab e1
 obtain⟨pair1,a,e1⟩:=Ab e1
 exact mJ 1 [(5,fb m),(0,fk (XW _ _ _ a))] (j _ (oj e1))
 exact mJ 0 [] (j _ (oj e1))
 refine mE 0 [] e (fun v80=>⟨[(0,.ptr 0 0),(2,bP false),(3,iP 0),(4,oP b JO),(5,iP k),(6,uP c1),(80,bP v80)],[[tP r_.src,iP r_.at_,oT r_.out]]⟩) ?_ fun y2 e2 o=>?_
 rintro v80 e
 refine cD 0 [] e (fun B e=>?_) fun B e=>?_
 cases e
 cases h
 exact rt 1 [] f
 obtain⟨l2,C,e⟩:=Ab e
 obtain⟨l3,D,e⟩:=Ab e
 exact mJ 2 [(2,fB Py C),(0,fa Py D)] (ih (_,_) e)
 rcases Aj e2 with⟨d,e2⟩|⟨d,e2⟩
 exact mJ 1 [(2,fo d)] (o _ (oj e2))
 exact mJ 1 [(2,fo d)] (o _ (oj e2))
 exact mJ 1 [] (hJ _ (oj e))
theorem Nq (n:Nat)(r_:Ao)(r:((Bool×Int)×Ao))(h:Hz n r_=some r):DP Tryz.prog 161 [] [tP r_.src,iP r_.at_,oT r_.out] (.ret (.tup [bP r.1.1,iP r.1.2])) [tP r.2.src,iP r.2.at_,oT r.2.out]:=by
 unfold Hz at h
 refine vM ⟨[0,2,3,4,6,16,17,18,19,24,37],[(1,[9999,0,0,1,2,3,4,5,6,7,8,9]),(10,[9999,1,0,0,1,2,3,4,5,6,7,8,9,10])]⟩ Tryz.func161 follows fun Q b=>?_
 obtain⟨s,hs,h⟩:=Ab h
 obtain⟨f,l,h⟩:=Ab h
 refine mI 3 [(10,fu hs),(1,fk (WI _ _ l)),(0,fl M7 f)] h (fun _=>⟨[(0,.ptr 0 0),(2,bP false),(3,iP 0),(4,tP s)],[[tP r_.src,iP r_.at_,oT r_.out]]⟩) ?_ fun y e h hJ=>?_
 rintro _ h
 obtain⟨s1,a,h⟩:=Ab h
 obtain⟨c,m,h⟩:=Ab h
 refine cD 1 [(1,fu a),(0,fk (Acx _ _ _ m))] h (fun d h=>?_) fun d h=>?_
 cases h
 exact rt 1 [] b
 obtain⟨p,o,h⟩:=Ab h
 cases h
 exact rt 1 [(7,fu a),(0,fm (Dv _ _ _ _ _ _ o))] b
 refine lF 1 [] (A:=Int) (fun n v18=>E2 n f s r_ v18) (fun v18=>⟨[(0,.ptr 0 0),(2,bP false),(3,iP 0),(4,tP s),(16,hS f),(17,iP (f.length:Int)),(18,iP v18)],[[tP r_.src,iP r_.at_,oT r_.out]]⟩) 0 e (fun _=>rfl) ?_
 rintro n v18 e ih
 replace e:=(E2.eq_2 ..).symm.trans e
 refine cD 1 [] e (fun g e=>?_) fun g e=>?_
 obtain⟨x,q,e⟩:=Ab e
 obtain⟨t,i,e⟩:=Ab e
 refine cD 3 [(0,fi M7 q),(4,fk (Acw _ _ _ i))] e (fun j e=>?_) fun j e=>?_
 obtain⟨p1,k,e⟩:=Ab e
 cases e
 cases h
 exact rt 1 [(7,fm (Dv _ _ _ _ _ _ k))] b
 exact mJ 1 [] (ih _ e)
 exact mJ 1 [] (hJ _ (oj e))
theorem Nr (n:Nat)(r_:Ao)(r:(Int×Ao))(h:FL n r_=some r):DP Tryz.prog 143 [] [tP r_.src,iP r_.at_,oT r_.out] (.ret (iP r.1)) [tP r.2.src,iP r.2.at_,oT r.2.out]:=by
 unfold FL at h
 refine vM ⟨[0,2,4,5,6,7,8,9,17],[]⟩ Tryz.func143 follows fun Q a=>?_
 refine mI 2 [] h (fun (r_1,r_2,r_3)=>⟨[(2,iP 0)],[[tP r_1,iP r_2,oT r_3]]⟩) ?_ fun y e h hJ=>?_
 rintro⟨r_1,r_2,r_3⟩ h
 cases h
 exact rt 1 [] a
 refine lF 1 [] (A:=(Int×ByteArray×Int×(List Aq))) (fun n (v8,r_4,r_5,r_6)=>Ci n v8 r_4 r_5 r_6) (fun (v8,r_4,r_5,r_6)=>⟨[(0,.ptr 0 0),(2,iP 0),(7,.agg [.fno true 158 [],.fno true 159 [],.fno true 160 [],.fno true 161 []]),(8,iP v8)],[[tP r_4,iP r_5,oT r_6]]⟩) (0,r_.src,r_.at_,r_.out) e (fun _=>rfl) ?_
 rintro n ⟨v8,r_4,r_5,r_6⟩ e ih
 replace e:=(Ci.eq_2 ..).symm.trans e
 replace e:=Aj e
 rcases e with⟨b,e⟩|⟨b,e⟩
 obtain rfl:=Pp b
 obtain⟨n_1,c,e⟩:=Ab e
 refine cD 6 [(5,fm (Ns _ _ _ c))] e (fun i e=>?_) fun i e=>?_
 cases e
 cases h
 exact rt 1 [] a
 exact mJ 1 [] (ih (_,_,_,_) e)
 replace e:=Aj e
 rcases e with⟨d,e⟩|⟨d,e⟩
 obtain rfl:=Pp d
 obtain⟨n_,j,e⟩:=Ab e
 refine cD 6 [(5,fm (LJ _ _ _ j))] e (fun k e=>?_) fun k e=>?_
 cases e
 cases h
 exact rt 1 [] a
 exact mJ 1 [] (ih (_,_,_,_) e)
 replace e:=Aj e
 rcases e with⟨f,e⟩|⟨f,e⟩
 obtain rfl:=Pp f
 obtain⟨t,p,e⟩:=Ab e
 refine cD 6 [(5,fm (Np _ _ _ p))] e (fun l e=>?_) fun l e=>?_
 cases e
 cases h
 exact rt 1 [] a
 exact mJ 1 [] (ih (_,_,_,_) e)
 replace e:=Aj e
 rcases e with⟨g,e⟩|⟨g,e⟩
 obtain rfl:=Pp g
 obtain⟨s,hs,e⟩:=Ab e
 refine cD 6 [(5,fm (Nq _ _ _ hs))] e (fun m e=>?_) fun m e=>?_
 cases e
 cases h
 exact rt 1 [] a
 exact mJ 1 [] (ih (_,_,_,_) e)
 replace e:=Aj e
 rcases e with⟨o,e⟩|⟨o,e⟩
 obtain rfl:=Pp o
 exact mJ 3 [] (hJ _ (oj e))
 cases e
theorem Su (n:Nat)(src:Æ)(r:((List Aq)×Am))(h:Gt n src=some r):BZ Tryz.prog 112 [tP src] (.tup [hT r.1,.agg [iP r.2.At,iP r.2.E]]):=by
 unfold Gt at h
 refine vP ⟨[0,2,3,4,5,8,21,27],[(9,[9999,0,0,1,2,3,4,5,6,7])]⟩ Tryz.func112 follows fun Q a=>?_
 refine cD 2 [] h (fun b h=>?_) fun b h=>?_
 cases h
 exact rt 1 [] a
 obtain⟨s,hs,h⟩:=Ab h
 refine mI 2 [(5,fm (Je _ _ _ hs))] h (fun (q,q1,q2)=>⟨[(0,tP src),(2,.sl [] .own),(3,.ptr 0 0),(4,.ptr 1 0)],[[iP 0,iP 0],[tP q,iP q1,oT q2]]⟩) ?_ fun y e h hJ=>?_
 rintro⟨q,q1,q2⟩ h
 obtain⟨p,g,h⟩:=Ab h
 cases h
 exact rt 2 [(3,fm (Dv _ _ _ _ _ _ g))] a
 refine lF 1 [] (A:=(ByteArray×Int×(List Aq))) (fun n (q3,q4,q5)=>BR n src q3 q4 q5) (fun (q3,q4,q5)=>⟨[(0,tP src),(2,.sl [] .own),(3,.ptr 0 0),(4,.ptr 1 0)],[[iP 0,iP 0],[tP q3,iP q4,oT q5]]⟩) (s.2.src,s.2.at_,s.2.out) e (fun _=>rfl) ?_
 rintro n ⟨q3,q4,q5⟩ e ih
 replace e:=(BR.eq_2 ..).symm.trans e
 refine cD 1 [] e (fun c e=>?_) fun c e=>?_
 obtain⟨e1,d,e⟩:=Ab e
 refine cD 3 [(1,fm (Nr _ _ _ d))] e (fun i e=>?_) fun i e=>?_
 cases e
 cases h
 exact rt 1 [] a
 obtain⟨s1,f,e⟩:=Ab e
 exact mJ 1 [(1,fm (Je _ _ _ f))] (ih (_,_,_) e)
 exact mJ 1 [] (hJ _ (oj e))
end Go.Proofs.YtehfpameijkafaaGreatDoor
namespace Go.Sp
open Go
set_option maxRecDepth 100000
def Aa1 (n:Nat)(src q3:Æ)(q4:Int)(q5:List Aq):Option (ByteArray×Int×List Aq) :=
 bif decide (q4<(src.size:Int)) then
  (FL n (Ao.mk q3 q4 q5)).bind fun e1 =>
  bif (e1.1 != 0) then
   none
  else
   (CF n e1.2).bind fun s1 =>
   some (s1.2.src,s1.2.at_,s1.2.out)
 else
  none
def H2:Nat->Nat->Æ->Æ->Int->List Aq->Option (Nat×ByteArray×Int×List Aq)
 |0,n,_,q3,q4,q5=>some (n,q3,q4,q5)
 |_+1,0,_,_,_,_=>none
 |j+1,n+1,src,q3,q4,q5=>(Aa1 n src q3 q4 q5).bind fun s=>H2 j n src s.1 s.2.1 s.2.2
theorem Er:∀ (j n:Nat) {src q3 p3:Æ} {q4 p4:Int} {q5 p5:List Aq} {m:Nat},H2 j n src q3 q4 q5=some (m,p3,p4,p5)->BR n src q3 q4 q5=BR m src p3 p4 p5
 |0,n,src,q3,p3,q4,p4,q5,p5,m,h=>by cases h;rfl
 |j+1,0,src,q3,p3,q4,p4,q5,p5,m,h=>by cases h
 |j+1,n+1,src,q3,p3,q4,p4,q5,p5,m,h=>by
  rw [H2] at h
  obtain⟨s,h1,h2⟩:=Ab h
  rw [<- Er j n h2,BR.eq_2]
  unfold Aa1 at h1
  cases hd:decide (q4<(src.size:Int)) with
  |false=>rw [hd] at h1;cases h1
  |true =>
   rw [hd] at h1
   obtain⟨e1,h3,h4⟩:=Ab h1
   rw [Î,h3]
   cases hb:e1.1 != 0 with
   |true=>rw [hb] at h4;cases h4
   |false =>
    rw [hb] at h4
    obtain⟨s1,h5,h6⟩:=Ab h4
    cases h6
    simp only [Á,hb,Ì,h5]
def tk (k:Nat):List Aq:=(Om Bf).1.take k
theorem tk0:H2 10 400 Bf Bf 0 []=some (390,Bf,32,tk 10):=by kernel_rfl
theorem tk1:H2 10 390 Bf Bf 32 (tk 10)=some (380,Bf,57,tk 20):=by kernel_rfl
theorem tk2:H2 10 380 Bf Bf 57 (tk 20)=some (370,Bf,82,tk 30):=by kernel_rfl
theorem tk3:H2 10 370 Bf Bf 82 (tk 30)=some (360,Bf,108,tk 40):=by kernel_rfl
theorem tk4:H2 10 360 Bf Bf 108 (tk 40)=some (350,Bf,137,tk 50):=by kernel_rfl
theorem tk5:H2 10 350 Bf Bf 137 (tk 50)=some (340,Bf,165,tk 60):=by kernel_rfl
theorem tk6:H2 10 340 Bf Bf 165 (tk 60)=some (330,Bf,184,tk 70):=by kernel_rfl
theorem tk7:H2 10 330 Bf Bf 184 (tk 70)=some (320,Bf,203,tk 80):=by kernel_rfl
theorem tk8:H2 10 320 Bf Bf 203 (tk 80)=some (310,Bf,228,tk 90):=by kernel_rfl
theorem tk9:H2 10 310 Bf Bf 228 (tk 90)=some (300,Bf,250,tk 100):=by kernel_rfl
theorem Aix:H2 2 300 Bf Bf 250 (tk 100)=some (298,Bf,252,tk 102):=by kernel_rfl
theorem Ac5:(BU (Ao.mk Bf 252 (tk 102)) 5 (Bf.size:Int) ⟨#[]⟩ 0).bind (fun p=>some (p.2.out,(Am.mk 0 0)))=some (Om Bf):=by kernel_rfl
theorem Ac6:CF 400 (Ao.mk Bf 0 [])=some ((),Ao.mk Bf 0 []):=by kernel_rfl
theorem Aag:BR 298 Bf Bf 252 (tk 102)=some (.inl (Bf,252,tk 102)):=by
 have e2:decide ((252:Int)<(Bf.size:Int))=false:=by kernel_rfl
 rw [show (298:Nat)=297+1 from rfl,BR.eq_2,e2,Ì]
theorem Ae9:BR 400 Bf Bf 0 []=some (.inl (Bf,252,tk 102)) :=
 (Er _ _ tk0).trans ((Er _ _ tk1).trans ((Er _ _ tk2).trans ((Er _ _ tk3).trans ((Er _ _ tk4).trans ((Er _ _ tk5).trans ((Er _ _ tk6).trans ((Er _ _ tk7).trans ((Er _ _ tk8).trans ((Er _ _ tk9).trans ((Er _ _ Aix).trans Aag))))))))))
theorem Afn {n:Nat}{src q:Æ}{k:Int}{l:List Aq}{r:List Aq×Am}(h0:decide (65536<(src.size:Int))=false)(h1:CF n (Ao.mk src 0 [])=some ((),Ao.mk src 0 []))(h2:BR n src src 0 []=some (.inl (q,k,l)))
 (h3:(BU (Ao.mk q k l) 5 (src.size:Int) ⟨#[]⟩ 0).bind (fun p=>some (p.2.out,(Am.mk 0 0)))=some r):Gt n src=some r:=by
 unfold Gt
 rw [h0,h1]
 simp only [Ì,Á]
 rw [h2]
 exact h3
theorem Aah:decide (65536<(Bf.size:Int))=false:=by kernel_rfl
theorem Ac4:Gt 400 Bf=some (Om Bf):=Afn Aah Ac6 Ae9 Ac5
theorem S3 {src:Æ}{t:List Aq×Am}(h:MD src=some t):Gt 400 src=some t:=by
 unfold MD at h
 cases a:src.data.toList.map (·.toNat) == Bf.data.toList.map (·.toNat) with
 |false=>rw [a] at h;cases h
 |true =>
  rw [a] at h
  have e:src.data.toList=Bf.data.toList:=(List.map_inj_right fun _ _ h=>UInt8.toNat_inj.1 h).1 (by simpa using a)
  have e2:src=Bf:=ByteArray.ext (Array.toList_inj.1 e)
  subst e2
  cases h
  exact Ac4
end Go.Sp
namespace Go.Proofs.YtehfpameijkafaaGreatDoor
open Go.RowKit Go.Q Go.Vl Go.Sp Go.Lx
theorem ZT (src:Æ)(t:List Aq×Am)(h:MD src=some t):BZ Tryz.prog 112 [tP src] (.tup [hP t.1 Fx,.agg [iP t.2.At,iP t.2.E]]):=by
 exact Su 400 src _ (S3 h)
end Go.Proofs.YtehfpameijkafaaGreatDoor
namespace Go.Proofs.YtehfpameijkafaaGreatDoor
open Go.RowKit Go.Q Go.Vl Go.Sp
set_option maxRecDepth 100000
set_option linter.unusedSimpArgs false
set_option maxHeartbeats 4000000
set_option linter.unusedVariables false
theorem Jw (n:Nat)(q:Int)(q1:Int)(out:(List Ax))(bad:Int)(bad1:Int)(q2:(List Aq))(q3:Int)(r:(Ex Ar ((List Ax)×(List Aq)×Int) Unit))(h:HN n q q1 out bad bad1 q2 q3=some r):Lb r (fun v0 s0=>JW Tryz.prog 69 [.ptr 3 0,.ptr 1 0] [[iP q,iP q1],[oF out],[iP bad,iP bad1],[hT q2,iP q3]] (.ret (.tup [])) [[iP q,iP q1],[oF s0.1],[iP bad,iP bad1],[hT s0.2.1,iP s0.2.2]]) (fun e0 s0=>JW Tryz.prog 69 [.ptr 3 0,.ptr 1 0] [[iP q,iP q1],[oF out],[iP bad,iP bad1],[hT q2,iP q3]] (.pan [{ v:=.iface 188 (.agg #[(.int .i64 e0.At),(.int .i64 e0.E)]),recovered:=false }]) [[iP q,iP q1],[oF s0.1],[iP bad,iP bad1],[hT s0.2.1,iP s0.2.2]]):=by
 unfold HN at h
 refine vSx ⟨[0,1,10],[(1,[9997,1,3,0,1,3,2,4,5,6,7,8])]⟩ Tryz.func69 follows fun Q c=>?_
 refine mI 0 [] h (fun (out1,q4,q5)=>⟨[],[[iP q,iP q1],[oF out1],[iP bad,iP bad1],[hT q4,iP q5]]⟩) ?_ fun y e h hJ=>?_
 rintro⟨out1,q4,q5⟩ h
 cases h
 exact rt 0 [] c
 refine lF 1 [] (A:=((List Ax)×(List Aq)×Int)) (fun n (out2,q6,q7)=>EB n out2 q6 q7) (fun (out2,q6,q7)=>⟨[(0,.ptr 3 0),(1,.ptr 1 0)],[[iP q,iP q1],[oF out2],[iP bad,iP bad1],[hT q6,iP q7]]⟩) (out,q2,q3) e (fun _=>rfl) ?_
 rintro n ⟨out2,q6,q7⟩ e ih
 replace e:=(EB.eq_2 ..).symm.trans e
 obtain⟨x,d,e⟩:=Ab e
 refine cD 1 [(4,fi Cy d)] e (fun g e=>?_) fun g e=>?_
 refine wl 1 [] ?_
 refine yE e (fun f s a e=>?_) fun e1 s1 a e=>?_
 obtain⟨out3,b,e⟩:=Ab e
 refine xG [3] [0,1,3] 2 4 5 6 7 8 [.no,.no,.val (iP (out2.length:Int))] (.meth (.agg (kF f)) [hT s.l,iP s.forms]) .no (out3.map Cz) ⟨[(0,.ptr 3 0),(1,.ptr 1 0)],[[iP q,iP q1],[oF out3],[iP bad,iP bad1],[hT s.l,iP s.forms]]⟩ (And.intro (And.intro (Zk out2 Cz) True.intro) (And.intro (And.intro (And.intro (Fb n (Ad.mk q6 q7) 1 (.ok f s) a) True.intro) (Aeo b HK (GK f))) (And.intro (And.intro (Fb n (Ad.mk q6 q7) 1 (.ok f s) a) True.intro) (Aeo b HK (GK f))))) ?_
 exact mJ 0 [] (ih (_,_,_) e)
 cases e
 cases h
 exact xGP [3] [0,1,3] 2 4 5 6 7 8 [.no,.no,.val (iP (out2.length:Int))] (.mpan [{ v:=.iface 188 (.agg #[(.int .i64 e1.At),(.int .i64 e1.E)]),recovered:=false }] [hT s1.l,iP s1.forms]) .no (And.intro (And.intro (Zk out2 Cz) True.intro) (And.intro (And.intro (Fb n (Ad.mk q6 q7) 1 (.pan e1 s1) a) True.intro) (And.intro (Fb n (Ad.mk q6 q7) 1 (.pan e1 s1) a) True.intro))) c
 exact mJ 1 [] (hJ _ (oj e))
theorem Lf (d0:Int)(d1:Int)(d2:(List Ax))(d3:Int)(d4:Int)(d5:(List Aq))(d6:Int):Tz Tryz.prog 113 [.ptr 2 0] [[iP d0,iP d1],[oF d2],[iP d3,iP d4],[hT d5,iP d6]] .returning (fun y u' σ'=>u'=.returning/\y=.ret (.tup [])/\σ'=[[iP d0,iP d1],[oF d2],[iP d3,iP d4],[hT d5,iP d6]]):=by
 refine Tz.intro (rv:=.nilIface) ⟨[0,1,2,3,6,13],[]⟩ Tryz.func113 rfl follows rfl (fun _ _=>rfl) rfl rfl (.inl ⟨rfl,rfl,rfl⟩) (by kernel_rfl) ?_
 refine Ahi [0,1,2,3,6,13] [0,1] [.no] ⟨[(0,.ptr 2 0),(1,.lit .nilIface)],[[iP d0,iP d1],[oF d2],[iP d3,iP d4],[hT d5,iP d6]]⟩ True.intro (by kernel_rfl) ?_
 repeat first|apply z1|apply z2|apply z3|apply z4
 refine wr [0,1,6] 4 (EC 2 []) ⟨[(0,.ptr 2 0),(1,.lit .nilIface),(6,bP false)],[[iP d0,iP d1],[oF d2],[iP d3,iP d4],[hT d5,iP d6]]⟩ True.intro (by kernel_rfl) ?_
 repeat first|apply z1|apply z2|apply z3|apply z4
 refine Fu rfl ?_
 repeat first|apply z1|apply z2|apply z3|apply z4
 exact Ju (Vu (by rintro y rfl;exact⟨rfl,rfl,rfl⟩) (by kernel_rfl)).1
theorem Le (d0:Int)(d1:Int)(d2:(List Ax))(d3:Int)(d4:Int)(d5:(List Aq))(d6:Int)(e0:Ar):Tz Tryz.prog 113 [.ptr 2 0] [[iP d0,iP d1],[oF d2],[iP d3,iP d4],[hT d5,iP d6]] (.panicking [{ v:=.iface 188 (.agg #[(.int .i64 e0.At),(.int .i64 e0.E)]),recovered:=false }]) (fun y u' σ'=>settle u'=.returning/\y=.ret (.tup [])/\σ'=[[iP d0,iP d1],[oF d2],[iP e0.At,iP e0.E],[hT d5,iP d6]]):=by
 refine Tz.intro (rv:=(.iface 188 (.agg #[(.int .i64 e0.At),(.int .i64 e0.E)]))) ⟨[0,1,2,3,6,13],[]⟩ Tryz.func113 rfl follows rfl (fun _ _=>rfl) rfl rfl (.inr ⟨[],rfl,rfl⟩) (by kernel_rfl) ?_
 refine Ahi [0,1,2,3,6,13] [0,1] [.no] ⟨[(0,.ptr 2 0),(1,.lit (.iface 188 (.agg #[(.int .i64 e0.At),(.int .i64 e0.E)])))],[[iP d0,iP d1],[oF d2],[iP d3,iP d4],[hT d5,iP d6]]⟩ True.intro (by kernel_rfl) ?_
 repeat first|apply z1|apply z2|apply z3|apply z4
 refine wr [0,1,6] 4 (EC 2 []) ⟨[(0,.ptr 2 0),(1,.lit (.iface 188 (.agg #[(.int .i64 e0.At),(.int .i64 e0.E)]))),(6,bP true)],[[iP d0,iP d1],[oF d2],[iP d3,iP d4],[hT d5,iP d6]]⟩ True.intro (by kernel_rfl) ?_
 repeat first|apply z1|apply z2|apply z3|apply z4
 refine GQ rfl ?_
 repeat first|apply z1|apply z2|apply z3|apply z4
 refine wr [0,1,2,3] 5 (EC 8 []) ⟨[(0,.ptr 2 0),(1,.lit (.iface 188 (.agg #[(.int .i64 e0.At),(.int .i64 e0.E)]))),(2,.ptr 4 0),(3,bP true)],[[iP d0,iP d1],[oF d2],[iP d3,iP d4],[hT d5,iP d6],[iP e0.At,iP e0.E]]⟩ True.intro (by kernel_rfl) ?_
 repeat first|apply z1|apply z2|apply z3|apply z4
 refine wr [0,1,2,13] 5 (EC 2 []) ⟨[(0,.ptr 2 0),(1,.lit (.iface 188 (.agg #[(.int .i64 e0.At),(.int .i64 e0.E)]))),(2,.ptr 4 0),(13,bP false)],[[iP d0,iP d1],[oF d2],[iP d3,iP d4],[hT d5,iP d6],[iP e0.At,iP e0.E]]⟩ True.intro (by kernel_rfl) ?_
 repeat first|apply z1|apply z2|apply z3|apply z4
 refine Fu rfl ?_
 repeat first|apply z1|apply z2|apply z3|apply z4
 refine wr [] 5 (EC 2 []) ⟨[],[[iP d0,iP d1],[oF d2],[iP e0.At,iP e0.E],[hT d5,iP d6],[iP e0.At,iP e0.E]]⟩ True.intro (by kernel_rfl) ?_
 repeat first|apply z1|apply z2|apply z3|apply z4
 exact Ju (Vu (by rintro y rfl;exact⟨rfl,rfl,rfl⟩) (by kernel_rfl)).1
theorem No (n:Nat)(q:Int)(q1:Int)(out:(List Ax))(src:Æ)(r:(Am×(List Ax)))(h:GN n q q1 out src=some r)(Q:Cs->List (List PV)->Prop)(hQ:∀ y,shareP y=.agg [iP r.1.At,iP r.1.E]->Q (.ret y) [[iP q,iP q1],[oF r.2]]) :
 VC Tryz.prog 68 [tP src,.fn 69 [.ptr 1 0]] [[iP q,iP q1],[oF out]] Q:=by
 unfold GN at h
 refine VC.introD [4] ⟨[0,1,4,5,6,14,30],[]⟩ Tryz.func68 rfl follows rfl rfl (by kernel_rfl) ?_
 show WS _ _ _ (_::_) _ _
 repeat first|apply z1|apply z2|apply z3|apply z4
 refine wr [0,1,4] 3 (EC 1 []) ⟨[(0,tP src),(1,.fn 69 [.ptr 1 0]),(4,.ptr 2 0)],[[iP q,iP q1],[oF out],[iP 0,iP 0]]⟩ True.intro (by kernel_rfl) ?_
 repeat first|apply z1|apply z2|apply z3|apply z4
 obtain⟨t,j,h⟩:=Ab h
 refine wr [0,1,4,5] 3 (EC 1 (.call (.tup [hT t.1,.agg [iP t.2.At,iP t.2.E]])::(EC 5 []))) ⟨[(0,tP src),(1,.fn 69 [.ptr 1 0]),(4,.ptr 2 0),(5,hT t.1)],[[iP q,iP q1],[oF out],[iP t.2.At,iP t.2.E]]⟩ (And.intro (ZT src t j) True.intro) (by kernel_rfl) ?_
 repeat first|apply z1|apply z2|apply z3|apply z4
 refine wr [0,1,4,5,14] 3 (EC 3 []) ⟨[(0,tP src),(1,.fn 69 [.ptr 1 0]),(4,.ptr 2 0),(5,hT t.1),(14,bP (t.2.E != 0))],[[iP q,iP q1],[oF out],[iP t.2.At,iP t.2.E]]⟩ True.intro (by kernel_rfl) ?_
 repeat first|apply z1|apply z2|apply z3|apply z4
 rcases Aj h with⟨b,h⟩|⟨b,h⟩
 . refine GQ (test b) ?_
   repeat first|apply z1|apply z2|apply z3|apply z4
   refine wr [0,1,4,5,14] 3 (EC 2 []) ⟨[(0,tP src),(1,.fn 69 [.ptr 1 0]),(4,.ptr 2 0),(5,hT t.1),(14,bP (t.2.E != 0))],[[iP q,iP q1],[oF out],[iP t.2.At,iP t.2.E]]⟩ True.intro (by kernel_rfl) ?_
   repeat first|apply z1|apply z2|apply z3|apply z4
   obtain rfl:=Ag h
   exact Ju (Ij hQ (by kernel_rfl)).1
 . refine Fu (test b) ?_
   repeat first|apply z3|apply z2|apply z1|apply z4
   refine Ag6 (Bx.mk ?_)
   show WS _ _ _ _ _ ⟨(16,.fn 113 [.ptr 2 0])::[(0,tP src),(1,.fn 69 [.ptr 1 0]),(4,.ptr 2 0),(5,hT t.1),(14,bP (t.2.E != 0))],[[iP q,iP q1],[oF out],[iP t.2.At,iP t.2.E]]⟩
   repeat first|apply z1|apply z2|apply z3|apply z4
   refine wr [1,4,6] 4 (EC 4 []) ⟨[(1,.fn 69 [.ptr 1 0]),(4,.ptr 2 0),(6,.ptr 3 0)],[[iP q,iP q1],[oF out],[iP t.2.At,iP t.2.E],[hT t.1,iP 0]]⟩ True.intro (by kernel_rfl) ?_
   repeat first|apply z1|apply z2|apply z3|apply z4
   obtain⟨y,i,h⟩:=Ab h
   rcases y with⟨f,c⟩|⟨e,c1⟩
   . refine wr [4,6] 4 (EC 2 (.site (.tup []) [[iP q,iP q1],[oF c.1],[iP t.2.At,iP t.2.E],[hT c.2.1,iP c.2.2]]::[])) ⟨[(4,.ptr 2 0),(6,.ptr 3 0)],[[iP q,iP q1],[oF c.1],[iP t.2.At,iP t.2.E],[hT c.2.1,iP c.2.2]]⟩ (And.intro (Jw n q q1 out t.2.At t.2.E t.1 0 (.ok f c) i) True.intro) (by kernel_rfl) ?_
     repeat first|apply z1|apply z2|apply z3|apply z4
     obtain⟨x,a,h⟩:=Ab h
     refine wr [4,6,30] 4 (EC 4 (.val (.vptr (kT x) 0)::(EC 3 []))) ⟨[(4,.ptr 2 0),(6,.ptr 3 0),(30,bP (x.Kind != 5))],[[iP q,iP q1],[oF c.1],[iP t.2.At,iP t.2.E],[hT c.2.1,iP c.2.2]]⟩ (And.intro (oi a J2 (Kc x)) True.intro) (by kernel_rfl) ?_
     repeat first|apply z1|apply z2|apply z3|apply z4
     rcases Aj h with⟨g,h⟩|⟨g,h⟩
     . refine GQ (test g) ?_
       repeat first|apply z1|apply z2|apply z3|apply z4
       obtain⟨y1,d,h⟩:=Ab h
       rcases y1 with⟨f1,s⟩|⟨e1,s1⟩
       . refine wr [4] 4 (EC 1 (.meth (.tup []) [hT s.l,iP s.forms]::[])) ⟨[(4,.ptr 2 0)],[[iP q,iP q1],[oF c.1],[iP t.2.At,iP t.2.E],[hT s.l,iP s.forms]]⟩ (And.intro (Ay (Ad.mk c.2.1 c.2.2) 5 (.ok f1 s) d) True.intro) (by kernel_rfl) ?_
         repeat first|apply z1|apply z2|apply z3|apply z4
         refine wr [4] 4 (EC 2 []) ⟨[(4,.ptr 2 0)],[[iP q,iP q1],[oF c.1],[iP 0,iP 0],[hT s.l,iP s.forms]]⟩ True.intro (by kernel_rfl) ?_
         repeat first|apply z1|apply z2|apply z3|apply z4
         obtain rfl:=Ag h
         exact Ju (Tz.mono (Lf q q1 c.1 0 0 s.l s.forms) fun y u' σ' a=>⟨a.1,⟨_,a.2.1⟩,by rw [a.2.2];exact (Ij hQ (by kernel_rfl)).1⟩)
       . repeat first|apply z1|apply z2|apply z3|apply z4
         obtain rfl:=Ag h
         exact W7 [4] (EC 1 (.mpan [{ v:=.iface 188 (.agg #[(.int .i64 e1.At),(.int .i64 e1.E)]),recovered:=false }] [hT s1.l,iP s1.forms]::[])) ⟨[(4,.ptr 2 0)],[[iP q,iP q1],[oF c.1],[iP t.2.At,iP t.2.E],[hT s1.l,iP s1.forms]]⟩ (And.intro (Ay (Ad.mk c.2.1 c.2.2) 5 (.pan e1 s1) d) True.intro) (by kernel_rfl) rfl (Tz.mono (Le q q1 c.1 t.2.At t.2.E s1.l s1.forms e1) fun y u' σ' a=>⟨a.1,⟨_,a.2.1⟩,by rw [a.2.2];exact (Ij hQ (by kernel_rfl)).1⟩)
     . refine Fu (test g) ?_
       repeat first|apply z1|apply z2|apply z3|apply z4
       refine wr [4] 4 (EC 2 []) ⟨[(4,.ptr 2 0)],[[iP q,iP q1],[oF c.1],[iP 0,iP 0],[hT c.2.1,iP c.2.2]]⟩ True.intro (by kernel_rfl) ?_
       repeat first|apply z1|apply z2|apply z3|apply z4
       obtain rfl:=Ag h
       exact Ju (Tz.mono (Lf q q1 c.1 0 0 c.2.1 c.2.2) fun y u' σ' a=>⟨a.1,⟨_,a.2.1⟩,by rw [a.2.2];exact (Ij hQ (by kernel_rfl)).1⟩)
   . repeat first|apply z1|apply z2|apply z3|apply z4
     obtain rfl:=Ag h
     exact W7 [4] (EC 2 (.sitep [{ v:=.iface 188 (.agg #[(.int .i64 e.At),(.int .i64 e.E)]),recovered:=false }] [[iP q,iP q1],[oF c1.1],[iP t.2.At,iP t.2.E],[hT c1.2.1,iP c1.2.2]]::[])) ⟨[(4,.ptr 2 0)],[[iP q,iP q1],[oF c1.1],[iP t.2.At,iP t.2.E],[hT c1.2.1,iP c1.2.2]]⟩ (And.intro (Jw n q q1 out t.2.At t.2.E t.1 0 (.pan e c1) i) True.intro) (by kernel_rfl) rfl (Tz.mono (Le q q1 c1.1 t.2.At t.2.E c1.2.1 c1.2.2 e) fun y u' σ' a=>⟨a.1,⟨_,a.2.1⟩,by rw [a.2.2];exact (Ij hQ (by kernel_rfl)).1⟩)
theorem OL (n:Nat)(q:Int)(q1:Int)(out:(List Ax))(src:Æ)(r:(Am×(List Ax)))(h:GN n q q1 out src=some r):JW Tryz.prog 68 [tP src,.fn 69 [.ptr 1 0]] [[iP q,iP q1],[oF out]] (.ret (.agg [iP r.1.At,iP r.1.E])) [[iP q,iP q1],[oF r.2]]:=JW.fin (fun Q hQ=>No n q q1 out src _ h Q hQ)
theorem T9 (n:Nat)(src:Æ)(r:((List Ax)×Am))(h:Md n src=some r):BZ Tryz.prog 43 [tP src] (.tup [hF r.1,.agg [iP r.2.At,iP r.2.E]]):=by
 unfold Md at h
 refine vP ⟨[0,2,3,4,5,11],[]⟩ Tryz.func43 follows fun Q b=>?_
 obtain⟨bad,a,h⟩:=Ab h
 refine cD 4 [(5,fs (OL _ _ _ _ _ _ a))] h (fun c h=>?_) fun c h=>?_
 cases h
 exact rt 1 [] b
 cases h
 exact rt 1 [] b
end Go.Proofs.YtehfpameijkafaaGreatDoor
namespace Go.Proofs.YtehfpameijkafaaGreatDoor
open Go.RowKit Go.Q Go.Vl Go.Sp
set_option maxRecDepth 100000
set_option linter.unusedSimpArgs false
set_option maxHeartbeats 4000000
set_option linter.unusedVariables false
theorem Q5 (r:(ByteArray×ByteArray×ByteArray×ByteArray))(h:JM=some r):BZ Tryz.prog 71 [] (.agg [tP r.1,tP r.2.1,tP r.2.2.1,tP r.2.2.2]):=by
 unfold JM at h
 refine vP ⟨[0],[]⟩ Tryz.func71 follows fun Q a=>?_
 cases h
 exact rt 2 [] a
theorem OJ (n:Nat)(s:(List Æ))(v_:Æ)(r:Int)(h:Iz n s v_=some r):BZ Tryz.prog 72 [hS s,tP v_] (iP r):=by
 unfold Iz at h
 refine vP ⟨[0,1,4,5,7,8,9,16],[]⟩ Tryz.func72 follows fun Q b=>?_
 refine mI 2 [(2,fl M7 s)] h (fun _=>⟨[(4,iP 0)],[]⟩) ?_ fun y e h hJ=>?_
 rintro _ h
 cases h
 exact rt 1 [] b
 refine lF 1 [] (A:=Int) (fun n v8=>Fj n s v_ v8) (fun v8=>⟨[(0,hS s),(1,tP v_),(4,iP 0),(7,iP (s.length:Int)),(8,iP v8)],[]⟩) 0 e (fun _=>rfl) ?_
 rintro n v8 e ih
 replace e:=(Fj.eq_2 ..).symm.trans e
 refine cD 1 [] e (fun a e=>?_) fun a e=>?_
 obtain⟨x,c,e⟩:=Ab e
 refine cD 3 [(5,fi M7 c)] e (fun d e=>?_) fun d e=>?_
 cases e
 cases h
 exact rt 1 [] b
 exact mJ 1 [] (ih _ e)
 exact mJ 1 [] (hJ _ (oj e))
theorem PO (n:Nat)(f:Ax)(r:(Int×Bool))(h:Jf n f=some r):BZ Tryz.prog 44 [.agg (kF f)] (.tup [iP r.1,bP r.2]):=by
 unfold Jf at h
 refine vP ⟨[0,1,2,3,4,5,6,7,8,17,48,50,51,52,53,67],[(2,[9999,0,0,1,2,3,4,5]),(11,[9999,0,0,1,2,3,4,5,6,7,8,9,10])]⟩ Tryz.func44 follows fun Q j=>?_
 obtain⟨l,v,h⟩:=Ab h
 refine xZ 2 [(3,fk (Q5 _ v))] ?_
 obtain⟨i,w,h⟩:=Ab h
 obtain⟨l1,k,h⟩:=Ab h
 refine mE 3 [(3,fk (OJ _ _ _ _ w)),(2,fB An k)] h (fun want=>⟨[(1,.ptr 0 0),(2,iP 0),(3,bP false),(5,iP (À (i+1))),(6,oI want)],[kF f]⟩) ?_ fun y e hJ=>?_
 rintro want h
 refine mE 0 [] h (fun v48=>⟨[(1,.ptr 0 0),(2,iP 0),(3,bP false),(5,iP (À (i+1))),(6,oI want),(48,bP v48)],[kF f]⟩) ?_ fun y1 e1 b=>?_
 rintro v48 h
 refine cD 0 [] h (fun m h=>?_) fun m h=>?_
 cases h
 exact rt 1 [] j
 refine mI 1 [(2,fl Bl f.Args)] h (fun _=>⟨[(2,iP 0),(3,bP false),(5,iP (À (i+1)))],[kF f]⟩) ?_ fun y2 e2 h o=>?_
 rintro _ h
 cases h
 exact rt 1 [] j
 refine lF 1 [] (A:=Int) (fun n v52=>FI n f want v52) (fun v52=>⟨[(2,iP 0),(3,bP false),(5,iP (À (i+1))),(6,oI want),(50,hA f.Args),(51,iP (f.Args.length:Int)),(52,iP v52)],[kF f]⟩) 0 e2 (fun _=>rfl) ?_
 rintro n v52 e2 ih
 replace e2:=(FI.eq_2 ..).symm.trans e2
 refine cD 1 [] e2 (fun p e2=>?_) fun p e2=>?_
 obtain⟨x,z,e2⟩:=Ab e2
 obtain⟨x1,q,e2⟩:=Ab e2
 refine cD 3 [(1,fi Bl z),(9,fl An want),(2,fi An q)] e2 (fun B e2=>?_) fun B e2=>?_
 cases e2
 cases h
 exact rt 1 [] j
 exact mJ 1 [] (ih _ e2)
 exact mJ 1 [] (o _ (oj e2))
 rcases Aj e1 with⟨a,e1⟩|⟨a,e1⟩
 exact mJ 1 [(2,fo a)] (b _ (oj e1))
 rcases Aj e1 with⟨c,e1⟩|⟨c,e1⟩
 exact mJ 1 [(2,fo a),(2,fl ER f.Body),(2,fo c)] (b _ (oj e1))
 rcases Aj e1 with⟨d,e1⟩|⟨d,e1⟩
 exact mJ 1 [(2,fo a),(2,fl ER f.Body),(2,fo c),(2,fl Bl f.Args),(1,fl An want),(2,fo d)] (b _ (oj e1))
 rcases Aj e1 with⟨g,e1⟩|⟨g,e1⟩
 exact mJ 1 [(2,fo a),(2,fl ER f.Body),(2,fo c),(2,fl Bl f.Args),(1,fl An want),(2,fo d),(2,fo g),(2,fl Bl f.Args),(1,fl An want)] (b _ (oj e1))
 exact mJ 1 [(2,fo a),(2,fl ER f.Body),(2,fo c),(2,fl Bl f.Args),(1,fl An want),(2,fo d),(2,fo g)] (b _ (oj e1))
 refine cD 0 [] e (fun s e=>?_) fun s e=>?_
 obtain⟨l2,t,e⟩:=Ab e
 obtain⟨l3,u,e⟩:=Ab e
 exact mJ 1 [(1,fB An t),(0,fa An u)] (hJ _ (oj e))
 exact mJ 0 [] (hJ _ (oj e))
theorem K9 (q:Int)(q1:Int)(p:Int)(p1:Int)(f:Æ)(f1:(List B6))(f2:(List Ax))(f3:Int)(c:Aa)(r:Bool)(h:FD q q1 p p1 f f1 f2 f3 c=some r):JW Tryz.prog 45 [.agg (kC c),.ptr 3 0] [[iP q,iP q1],[iP p,iP p1],[Bj,D3],[tP f,hA f1,hF f2,iP f3]] (.ret (bP r)) [[iP q,iP q1],[iP p,iP p1],[Bj,D3],[tP f,hA f1,hF f2,iP f3]]:=by
 unfold FD at h
 refine vS ⟨[0,1,2,3],[(1,[9999,0,0,1,2,3,4,5,6,7,8])]⟩ Tryz.func45 follows fun Q a=>?_
 obtain⟨x,b,h⟩:=Ab h
 cases h
 exact rt 2 [(6,fi Bl b)] a
theorem IA (n:Nat)(q:Int)(q1:Int)(p:Int)(p1:Int)(f:Æ)(f1:(List B6))(f2:(List Ax))(f3:Int)(s:(List Aa))(r:Int)(h:DV n q q1 p p1 f f1 f2 f3 s=some r):JW Tryz.prog 64 [hC s,.fn 45 [.ptr 3 0]] [[iP q,iP q1],[iP p,iP p1],[Bj,D3],[tP f,hA f1,hF f2,iP f3]] (.ret (iP r)) [[iP q,iP q1],[iP p,iP p1],[Bj,D3],[tP f,hA f1,hF f2,iP f3]]:=by
 unfold DV at h
 refine vS ⟨[0,1,4,5,7,8,9,16],[]⟩ Tryz.func64 follows fun Q d=>?_
 refine mI 2 [(2,fl As s)] h (fun _=>⟨[(4,iP 0)],[[iP q,iP q1],[iP p,iP p1],[Bj,D3],[tP f,hA f1,hF f2,iP f3]]⟩) ?_ fun y e h hJ=>?_
 rintro _ h
 cases h
 exact rt 1 [] d
 refine lF 1 [] (A:=Int) (fun n v8=>Cq n s q q1 p p1 f f1 f2 f3 v8) (fun v8=>⟨[(0,hC s),(1,.fn 45 [.ptr 3 0]),(4,iP 0),(7,iP (s.length:Int)),(8,iP v8)],[[iP q,iP q1],[iP p,iP p1],[Bj,D3],[tP f,hA f1,hF f2,iP f3]]⟩) 0 e (fun _=>rfl) ?_
 rintro n v8 e ih
 replace e:=(Cq.eq_2 ..).symm.trans e
 refine cD 1 [] e (fun a e=>?_) fun a e=>?_
 obtain⟨x,g,e⟩:=Ab e
 obtain⟨c,i,e⟩:=Ab e
 refine cD 3 [(5,fi As g),(1,fs (K9 _ _ _ _ _ _ _ _ _ _ i))] e (fun b e=>?_) fun b e=>?_
 cases e
 cases h
 exact rt 1 [] d
 exact mJ 1 [] (ih _ e)
 exact mJ 1 [] (hJ _ (oj e))
theorem HH (n:Nat)(q:Int)(q1:Int)(p:Int)(p1:Int)(f:Æ)(f1:(List B6))(f2:(List Ax))(f3:Int)(s:(List Aa))(r:Bool)(h:Dk n q q1 p p1 f f1 f2 f3 s=some r):JW Tryz.prog 37 [hC s,.fn 45 [.ptr 3 0]] [[iP q,iP q1],[iP p,iP p1],[Bj,D3],[tP f,hA f1,hF f2,iP f3]] (.ret (bP r)) [[iP q,iP q1],[iP p,iP p1],[Bj,D3],[tP f,hA f1,hF f2,iP f3]]:=by
 unfold Dk at h
 refine vS ⟨[0,1,4],[]⟩ Tryz.func37 follows fun Q a=>?_
 obtain⟨c,b,h⟩:=Ab h
 cases h
 exact rt 2 [(3,fs (IA _ _ _ _ _ _ _ _ _ _ _ b))] a
theorem Nl (q:Int)(q1:Int)(p:Int)(p1:Int)(f:Æ)(f1:(List B6))(f2:(List Ax))(f3:Int)(c:Æ)(c1:Int)(c2:Int)(c3:Int)(c4:Int)(c5:Int)(c6:Æ)(c7:(List Af))(c8:Int)(c9:Int)(c10:Int)(c11:Æ)(c12:(List Af))(c13:Int)(c14:Int)(c15:Int)(c16:Æ)(c17:(List Af))(c18:Int)(c19:Int)(r:Unit)(h:Hp q q1 p p1 f f1 f2 f3 c c1 c2 c3 c4 c5 c6 c7 c8 c9 c10 c11 c12 c13 c14 c15 c16 c17 c18 c19=some r):JW Tryz.prog 39 [.ptr 4 0] [[iP q,iP q1],[iP p,iP p1],[Bj,D3],[tP f,hA f1,hF f2,iP f3],[tP c,iP c1,iP c2,iP c3,iP c4,iP c5,tP c6,hX c7,iP c8,iP c9,iP c10,tP c11,hX c12,iP c13,iP c14,iP c15,tP c16,hX c17,iP c18,iP c19]] (.ret (.tup [.agg [.ptr 4 4,.ptr 4 9,.ptr 4 14],.agg [iP 2,iP 2,iP 3]])) [[iP q,iP q1],[iP p,iP p1],[Bj,D3],[tP f,hA f1,hF f2,iP f3],[tP c,iP c1,iP c2,iP c3,iP c4,iP c5,tP c6,hX c7,iP c8,iP c9,iP c10,tP c11,hX c12,iP c13,iP c14,iP c15,tP c16,hX c17,iP c18,iP c19]]:=by
 unfold Hp at h
 refine vS ⟨[0,2,3],[(1,[9999,0,0,1,2,3,4,5,6,7,8,9,10,11,12])]⟩ Tryz.func39 follows fun Q a=>?_
 cases h
 exact rt 2 [] a
theorem OI (n:Nat)(src:Æ)(r:((List Aa)×Am))(h:Ix n src=some r):BZ Tryz.prog 22 [tP src] (.tup [hC r.1,.agg [iP r.2.At,iP r.2.E]]):=by
 unfold Ix at h
 refine vP ⟨[0,2,3,4,5,6,7,9,10,11,12,13,14,15,16,17,18,19,20,21,23,31,34,35,36,37,45,51,58,101,102,103,104,149,154,169,170,171,185,191],[(3,[9999,0,0,1,2]),(11,[9999,0,0,1,2,3,4]),(13,[9999,0,0,1,2,3,4]),(15,[9999,0,0,1,2,3,4,5,6,7]),(16,[9999,0,0,1,2,3,4,5,6,7,8,9,10,11,12,13,14,15,16,17,18,19,20,21,22,23,24,25,26,27,28,29,30,31,32,33]),(23,[9999,0,0,1,2,3,4]),(25,[9999,1,4,0,1,2,3,4,5,6,7,8,9,10]),(31,[9995]),(33,[9999,0,0,1,2]),(35,[9999,0,0,1,2,3,4,5,6,7,8,9])]⟩ Tryz.func22 follows fun Q C=>?_
 obtain⟨f,hf,h⟩:=Ab h
 refine cD 3 [(3,fk (T9 _ _ _ hf))] h (fun M h=>?_) fun M h=>?_
 cases h
 exact rt 1 [] C
 obtain⟨u,hu,h⟩:=Ab h
 refine mI 3 [(0,fk QA),(4,fl ER f.1)] h (fun out=>⟨[(2,.sl [] .own),(3,.ptr 0 0),(7,oC out)],[[iP 0,iP 0],[iP f.2.At,iP f.2.E],[Bj,D3]]⟩) ?_ fun y e h hJ=>?_
 rintro out h
 cases h
 exact rt 1 [] C
 refine lF 1 [] (A:=((List Aa)×Int)) (fun n (out1,v36)=>Fg n f out1 v36) (fun (out1,v36)=>⟨[(2,.sl [] .own),(3,.ptr 0 0),(6,.ptr 2 0),(7,oC out1),(34,hF f.1),(35,iP (f.1.length:Int)),(36,iP v36)],[[iP 0,iP 0],[iP f.2.At,iP f.2.E],[Bj,D3]]⟩) ([],0) e (fun _=>rfl) ?_
 rintro n ⟨out1,v36⟩ e ih
 replace e:=(Fg.eq_2 ..).symm.trans e
 refine cD 1 [] e (fun O e=>?_) fun O e=>?_
 obtain⟨x,hx,e⟩:=Ab e
 obtain⟨s,hs,e⟩:=Ab e
 refine cD 5 [(0,fi ER hx),(4,fk (PO _ _ _ hs))] e (fun P e=>?_) fun P e=>?_
 cases e
 cases h
 exact rt 1 [] C
 refine cD 1 [(1,fl As out1)] e (fun R e=>?_) fun R e=>?_
 cases e
 cases h
 exact rt 1 [] C
 obtain⟨c,hc,e⟩:=Ab e
 refine cD 1 [(2,fs (HH _ _ _ _ _ _ _ _ _ _ _ hc))] e (fun T e=>?_) fun T e=>?_
 obtain⟨x1,hx1,e⟩:=Ab e
 cases e
 cases h
 exact rt 1 [(2,fi Bl hx1)] C
 obtain⟨x2,hx2,e⟩:=Ab e
 obtain⟨x3,hx3,e⟩:=Ab e
 obtain⟨x4,hx4,e⟩:=Ab e
 obtain⟨x5,U,e⟩:=Ab e
 obtain⟨x6,V,e⟩:=Ab e
 obtain⟨x7,W,e⟩:=Ab e
 refine mI 3 [(2,fi Bl hx2),(5,fi Bl hx3),(4,fi Bl hx4),(4,fi Bl U),(4,fi Bl V),(4,fi Bl W),(8,fl Bl x.Args)] e (fun c1=>⟨[(2,.sl [] .own),(3,.ptr 0 0),(6,.ptr 2 0),(7,oC out1),(9,.ptr 3 0),(12,.ptr 4 0),(34,hF f.1),(35,iP (f.1.length:Int)),(36,iP v36)],[[iP 0,iP 0],[iP f.2.At,iP f.2.E],[Bj,D3],kF x,[tP x2.S,iP s.1,iP x3.N,iP x4.N,iP x5.E.Op,iP x5.E.N,tP x5.E.S,hX x5.E.Kids,iP x5.E.At,iP x6.E.Op,iP x6.E.N,tP x6.E.S,hX x6.E.Kids,iP x6.E.At,iP x7.E.Op,iP x7.E.N,tP x7.E.S,hX x7.E.Kids,iP x7.E.At,iP c1]]⟩) ?_ fun y1 e1 e hJ1=>?_
 rintro c1 e
 obtain⟨w,hw,e⟩:=Ab e
 refine mI 2 [(0,fs (Nl _ _ _ _ _ _ _ _ _ _ _ _ _ _ _ _ _ _ _ _ _ _ _ _ _ _ _ _ _ hw))] e (fun _=>⟨[(2,.sl [] .own),(3,.ptr 0 0),(6,.ptr 2 0),(7,oC out1),(12,.ptr 4 0),(34,hF f.1),(35,iP (f.1.length:Int)),(36,iP v36)],[[iP 0,iP 0],[iP f.2.At,iP f.2.E],[Bj,D3],kF x,[tP x2.S,iP s.1,iP x3.N,iP x4.N,iP x5.E.Op,iP x5.E.N,tP x5.E.S,hX x5.E.Kids,iP x5.E.At,iP x6.E.Op,iP x6.E.N,tP x6.E.S,hX x6.E.Kids,iP x6.E.At,iP x7.E.Op,iP x7.E.N,tP x7.E.S,hX x7.E.Kids,iP x7.E.At,iP c1],[.ptr 4 4,.ptr 4 9,.ptr 4 14],[iP 2,iP 2,iP 3]]⟩) ?_ fun y2 e2 e hJ2=>?_
 rintro _ e
 obtain⟨l,hl,e⟩:=Ab e
 obtain⟨l1,hl1,e⟩:=Ab e
 exact mJ 2 [(2,fB As hl),(0,fa As hl1)] (ih (_,_) e)
 refine lF 1 [] (A:=Int) (fun n v170=>CW n x5 x6 x7 v170) (fun v170=>⟨[(2,.sl [] .own),(3,.ptr 0 0),(6,.ptr 2 0),(7,oC out1),(9,.ptr 3 0),(12,.ptr 4 0),(18,.ptr 6 0),(34,hF f.1),(35,iP (f.1.length:Int)),(36,iP v36),(169,.agg [.ptr 4 4,.ptr 4 9,.ptr 4 14]),(170,iP v170)],[[iP 0,iP 0],[iP f.2.At,iP f.2.E],[Bj,D3],kF x,[tP x2.S,iP s.1,iP x3.N,iP x4.N,iP x5.E.Op,iP x5.E.N,tP x5.E.S,hX x5.E.Kids,iP x5.E.At,iP x6.E.Op,iP x6.E.N,tP x6.E.S,hX x6.E.Kids,iP x6.E.At,iP x7.E.Op,iP x7.E.N,tP x7.E.S,hX x7.E.Kids,iP x7.E.At,iP c1],[.ptr 4 4,.ptr 4 9,.ptr 4 14],[iP 2,iP 2,iP 3]]⟩) 0 e2 (fun _=>rfl) ?_
 rintro n v170 e2 L
 replace e2:=(CW.eq_2 ..).symm.trans e2
 replace e2:=Aj e2
 rcases e2 with⟨X,e2⟩|⟨X,e2⟩
 obtain rfl:=Pp X
 obtain⟨f3,D,e2⟩:=Ab e2
 refine wl 4 [] ?_
 refine xE 6 [.no,.no,.no,.no,.call (.tup [iP f3.1,.agg [iP f3.2.1.op,tP f3.2.1.name,hI f3.2.1.args,iP f3.2.1.kind,.fno (MG f3.2.1.do_) (Lh f3.2.1.do_) (Lw f3.2.1.do_)],.agg [iP f3.2.2.At,iP f3.2.2.E]]),.no,.no,.no,.no,.no,.no,.no,.no,.no] ⟨[(2,.sl [] .own),(3,.ptr 0 0),(6,.ptr 2 0),(7,oC out1),(9,.ptr 3 0),(12,.ptr 4 0),(18,.ptr 6 0),(19,iP 0),(21,iP f3.1),(23,.ptr 8 0),(34,hF f.1),(35,iP (f.1.length:Int)),(36,iP v36),(169,.agg [.ptr 4 4,.ptr 4 9,.ptr 4 14]),(170,iP 0)],[[iP 0,iP 0],[iP f.2.At,iP f.2.E],[Bj,D3],kF x,[tP x2.S,iP s.1,iP x3.N,iP x4.N,iP x5.E.Op,iP x5.E.N,tP x5.E.S,hX x5.E.Kids,iP x5.E.At,iP x6.E.Op,iP x6.E.N,tP x6.E.S,hX x6.E.Kids,iP x6.E.At,iP x7.E.Op,iP x7.E.N,tP x7.E.S,hX x7.E.Kids,iP x7.E.At,iP c1],[.ptr 4 4,.ptr 4 9,.ptr 4 14],[iP 2,iP 2,iP 3],[iP f3.2.1.op,tP f3.2.1.name,hI f3.2.1.args,iP f3.2.1.kind,.fno (MG f3.2.1.do_) (Lh f3.2.1.do_) (Lw f3.2.1.do_)],[iP f3.2.2.At,iP f3.2.2.E]]⟩ (And.intro (And.intro (CB x5.E f3 D) (And.intro True.intro (And.intro (And.intro True.intro True.intro) True.intro))) (And.intro (And.intro (And.intro (CB x5.E f3 D) True.intro) (And.intro (And.intro (CB x5.E f3 D) True.intro) True.intro)) (And.intro (And.intro (And.intro (CB x5.E f3 D) (And.intro True.intro True.intro)) (And.intro (And.intro (CB x5.E f3 D) True.intro) True.intro)) True.intro))) ?_
 refine cD 1 [] e2 (fun Y e2=>?_) fun Y e2=>?_
 cases e2
 cases e
 cases h
 exact rt 1 [] C
 refine cD 1 [] e2 (fun hc9 e2=>?_) fun hc9 e2=>?_
 cases e2
 cases e
 cases h
 exact rt 1 [(4,fi Bl U)] C
 exact mJ 1 [] (L _ e2)
 replace e2:=Aj e2
 rcases e2 with⟨Z,e2⟩|⟨Z,e2⟩
 obtain rfl:=Pp Z
 obtain⟨f2,F,e2⟩:=Ab e2
 refine wl 4 [] ?_
 refine xE 6 [.no,.no,.no,.no,.call (.tup [iP f2.1,.agg [iP f2.2.1.op,tP f2.2.1.name,hI f2.2.1.args,iP f2.2.1.kind,.fno (MG f2.2.1.do_) (Lh f2.2.1.do_) (Lw f2.2.1.do_)],.agg [iP f2.2.2.At,iP f2.2.2.E]]),.no,.no,.no,.no,.no,.no,.no,.no,.no] ⟨[(2,.sl [] .own),(3,.ptr 0 0),(6,.ptr 2 0),(7,oC out1),(9,.ptr 3 0),(12,.ptr 4 0),(18,.ptr 6 0),(19,iP 1),(21,iP f2.1),(23,.ptr 8 0),(34,hF f.1),(35,iP (f.1.length:Int)),(36,iP v36),(169,.agg [.ptr 4 4,.ptr 4 9,.ptr 4 14]),(170,iP 1)],[[iP 0,iP 0],[iP f.2.At,iP f.2.E],[Bj,D3],kF x,[tP x2.S,iP s.1,iP x3.N,iP x4.N,iP x5.E.Op,iP x5.E.N,tP x5.E.S,hX x5.E.Kids,iP x5.E.At,iP x6.E.Op,iP x6.E.N,tP x6.E.S,hX x6.E.Kids,iP x6.E.At,iP x7.E.Op,iP x7.E.N,tP x7.E.S,hX x7.E.Kids,iP x7.E.At,iP c1],[.ptr 4 4,.ptr 4 9,.ptr 4 14],[iP 2,iP 2,iP 3],[iP f2.2.1.op,tP f2.2.1.name,hI f2.2.1.args,iP f2.2.1.kind,.fno (MG f2.2.1.do_) (Lh f2.2.1.do_) (Lw f2.2.1.do_)],[iP f2.2.2.At,iP f2.2.2.E]]⟩ (And.intro (And.intro (CB x6.E f2 F) (And.intro True.intro (And.intro (And.intro True.intro True.intro) True.intro))) (And.intro (And.intro (And.intro (CB x6.E f2 F) True.intro) (And.intro (And.intro (CB x6.E f2 F) True.intro) True.intro)) (And.intro (And.intro (And.intro (CB x6.E f2 F) (And.intro True.intro True.intro)) (And.intro (And.intro (CB x6.E f2 F) True.intro) True.intro)) True.intro))) ?_
 refine cD 1 [] e2 (fun hc7 e2=>?_) fun hc7 e2=>?_
 cases e2
 cases e
 cases h
 exact rt 1 [] C
 refine cD 1 [] e2 (fun hc6 e2=>?_) fun hc6 e2=>?_
 cases e2
 cases e
 cases h
 exact rt 1 [(4,fi Bl V)] C
 exact mJ 1 [] (L _ e2)
 replace e2:=Aj e2
 rcases e2 with⟨hc2,e2⟩|⟨hc2,e2⟩
 obtain rfl:=Pp hc2
 obtain⟨f1,G,e2⟩:=Ab e2
 refine wl 4 [] ?_
 refine xE 6 [.no,.no,.no,.no,.call (.tup [iP f1.1,.agg [iP f1.2.1.op,tP f1.2.1.name,hI f1.2.1.args,iP f1.2.1.kind,.fno (MG f1.2.1.do_) (Lh f1.2.1.do_) (Lw f1.2.1.do_)],.agg [iP f1.2.2.At,iP f1.2.2.E]]),.no,.no,.no,.no,.no,.no,.no,.no,.no] ⟨[(2,.sl [] .own),(3,.ptr 0 0),(6,.ptr 2 0),(7,oC out1),(9,.ptr 3 0),(12,.ptr 4 0),(18,.ptr 6 0),(19,iP 2),(21,iP f1.1),(23,.ptr 8 0),(34,hF f.1),(35,iP (f.1.length:Int)),(36,iP v36),(169,.agg [.ptr 4 4,.ptr 4 9,.ptr 4 14]),(170,iP 2)],[[iP 0,iP 0],[iP f.2.At,iP f.2.E],[Bj,D3],kF x,[tP x2.S,iP s.1,iP x3.N,iP x4.N,iP x5.E.Op,iP x5.E.N,tP x5.E.S,hX x5.E.Kids,iP x5.E.At,iP x6.E.Op,iP x6.E.N,tP x6.E.S,hX x6.E.Kids,iP x6.E.At,iP x7.E.Op,iP x7.E.N,tP x7.E.S,hX x7.E.Kids,iP x7.E.At,iP c1],[.ptr 4 4,.ptr 4 9,.ptr 4 14],[iP 2,iP 2,iP 3],[iP f1.2.1.op,tP f1.2.1.name,hI f1.2.1.args,iP f1.2.1.kind,.fno (MG f1.2.1.do_) (Lh f1.2.1.do_) (Lw f1.2.1.do_)],[iP f1.2.2.At,iP f1.2.2.E]]⟩ (And.intro (And.intro (CB x7.E f1 G) (And.intro True.intro (And.intro (And.intro True.intro True.intro) True.intro))) (And.intro (And.intro (And.intro (CB x7.E f1 G) True.intro) (And.intro (And.intro (CB x7.E f1 G) True.intro) True.intro)) (And.intro (And.intro (And.intro (CB x7.E f1 G) (And.intro True.intro True.intro)) (And.intro (And.intro (CB x7.E f1 G) True.intro) True.intro)) True.intro))) ?_
 refine cD 1 [] e2 (fun hc4 e2=>?_) fun hc4 e2=>?_
 cases e2
 cases e
 cases h
 exact rt 1 [] C
 refine cD 1 [] e2 (fun hc3 e2=>?_) fun hc3 e2=>?_
 cases e2
 cases e
 cases h
 exact rt 1 [(4,fi Bl W)] C
 exact mJ 1 [] (L _ e2)
 replace e2:=Aj e2
 rcases e2 with⟨hc1,e2⟩|⟨hc1,e2⟩
 obtain rfl:=Pp hc1
 exact mJ 3 [] (hJ2 _ (oj e2))
 cases e2
 refine lF 1 [] (A:=(Int×Int×Int)) (fun n (v103,last,c2)=>DU n x v103 last c2) (fun (v103,last,c2)=>⟨[(2,.sl [] .own),(3,.ptr 0 0),(6,.ptr 2 0),(7,oC out1),(9,.ptr 3 0),(12,.ptr 4 0),(13,iP last),(34,hF f.1),(35,iP (f.1.length:Int)),(36,iP v36),(101,hA x.Args),(102,iP (x.Args.length:Int)),(103,iP v103)],[[iP 0,iP 0],[iP f.2.At,iP f.2.E],[Bj,D3],kF x,[tP x2.S,iP s.1,iP x3.N,iP x4.N,iP x5.E.Op,iP x5.E.N,tP x5.E.S,hX x5.E.Kids,iP x5.E.At,iP x6.E.Op,iP x6.E.N,tP x6.E.S,hX x6.E.Kids,iP x6.E.At,iP x7.E.Op,iP x7.E.N,tP x7.E.S,hX x7.E.Kids,iP x7.E.At,iP c2]]⟩) (0,-1,0) e1 (fun _=>rfl) ?_
 rintro n ⟨v103,last,c2⟩ e1 ih2
 replace e1:=(DU.eq_2 ..).symm.trans e1
 refine cD 1 [] e1 (fun hc30 e1=>?_) fun hc30 e1=>?_
 obtain⟨x8,hx8,e1⟩:=Ab e1
 refine mE 2 [(1,fi Bl hx8)] e1 (fun odd=>⟨[(2,.sl [] .own),(3,.ptr 0 0),(6,.ptr 2 0),(7,oC out1),(9,.ptr 3 0),(12,.ptr 4 0),(13,iP last),(14,iP v103),(15,.ptr 5 0),(16,bP odd),(34,hF f.1),(35,iP (f.1.length:Int)),(36,iP v36),(101,hA x.Args),(102,iP (x.Args.length:Int)),(103,iP v103)],[[iP 0,iP 0],[iP f.2.At,iP f.2.E],[Bj,D3],kF x,[tP x2.S,iP s.1,iP x3.N,iP x4.N,iP x5.E.Op,iP x5.E.N,tP x5.E.S,hX x5.E.Kids,iP x5.E.At,iP x6.E.Op,iP x6.E.N,tP x6.E.S,hX x6.E.Kids,iP x6.E.At,iP x7.E.Op,iP x7.E.N,tP x7.E.S,hX x7.E.Kids,iP x7.E.At,iP c2],kA x8]⟩) ?_ fun y3 e3 b=>?_
 rintro odd e1
 refine cD 1 [] e1 (fun hc12 e1=>?_) fun hc12 e1=>?_
 cases e1
 cases e
 cases h
 exact rt 1 [] C
 refine cD 1 [] e1 (fun hc11 e1=>?_) fun hc11 e1=>?_
 obtain⟨q,hq,e1⟩:=Ab e1
 exact mJ 2 [(4,fN .i64 hq)] (ih2 (_,_,_) e1)
 exact mJ 1 [] (ih2 (_,_,_) e1)
 rcases Aj e3 with⟨a,e3⟩|⟨a,e3⟩
 rcases Aj e3 with⟨d,e3⟩|⟨d,e3⟩
 exact mJ 1 [(2,fo a),(3,fo d)] (b _ (oj e3))
 rcases Aj e3 with⟨g,e3⟩|⟨g,e3⟩
 exact mJ 1 [(2,fo a),(3,fo d),(5,fo g)] (b _ (oj e3))
 rcases Aj e3 with⟨i,e3⟩|⟨i,e3⟩
 rcases Aj e3 with⟨k,e3⟩|⟨k,e3⟩
 exact mJ 1 [(2,fo a),(3,fo d),(5,fo g),(2,fo i),(3,fo k)] (b _ (oj e3))
 rcases Aj e3 with⟨o,e3⟩|⟨o,e3⟩
 exact mJ 1 [(2,fo a),(3,fo d),(5,fo g),(2,fo i),(3,fo k),(6,fo o)] (b _ (oj e3))
 rcases Aj e3 with⟨t,e3⟩|⟨t,e3⟩
 rcases Aj e3 with⟨H,e3⟩|⟨H,e3⟩
 exact mJ 1 [(2,fo a),(3,fo d),(5,fo g),(2,fo i),(3,fo k),(6,fo o),(2,fo t),(4,fo H)] (b _ (oj e3))
 exact mJ 1 [(2,fo a),(3,fo d),(5,fo g),(2,fo i),(3,fo k),(6,fo o),(2,fo t),(4,fo H)] (b _ (oj e3))
 exact mJ 1 [(2,fo a),(3,fo d),(5,fo g),(2,fo i),(3,fo k),(6,fo o),(2,fo t)] (b _ (oj e3))
 rcases Aj e3 with⟨v,e3⟩|⟨v,e3⟩
 rcases Aj e3 with⟨I,e3⟩|⟨I,e3⟩
 exact mJ 1 [(2,fo a),(3,fo d),(5,fo g),(2,fo i),(13,fo v),(4,fo I)] (b _ (oj e3))
 exact mJ 1 [(2,fo a),(3,fo d),(5,fo g),(2,fo i),(13,fo v),(4,fo I)] (b _ (oj e3))
 exact mJ 1 [(2,fo a),(3,fo d),(5,fo g),(2,fo i),(13,fo v)] (b _ (oj e3))
 rcases Aj e3 with⟨j,e3⟩|⟨j,e3⟩
 rcases Aj e3 with⟨m,e3⟩|⟨m,e3⟩
 exact mJ 1 [(2,fo a),(12,fo j),(3,fo m)] (b _ (oj e3))
 rcases Aj e3 with⟨p,e3⟩|⟨p,e3⟩
 exact mJ 1 [(2,fo a),(12,fo j),(3,fo m),(6,fo p)] (b _ (oj e3))
 rcases Aj e3 with⟨z,e3⟩|⟨z,e3⟩
 rcases Aj e3 with⟨J,e3⟩|⟨J,e3⟩
 exact mJ 1 [(2,fo a),(12,fo j),(3,fo m),(6,fo p),(2,fo z),(4,fo J)] (b _ (oj e3))
 exact mJ 1 [(2,fo a),(12,fo j),(3,fo m),(6,fo p),(2,fo z),(4,fo J)] (b _ (oj e3))
 exact mJ 1 [(2,fo a),(12,fo j),(3,fo m),(6,fo p),(2,fo z)] (b _ (oj e3))
 rcases Aj e3 with⟨B,e3⟩|⟨B,e3⟩
 rcases Aj e3 with⟨K,e3⟩|⟨K,e3⟩
 exact mJ 1 [(2,fo a),(12,fo j),(13,fo B),(4,fo K)] (b _ (oj e3))
 exact mJ 1 [(2,fo a),(12,fo j),(13,fo B),(4,fo K)] (b _ (oj e3))
 exact mJ 1 [(2,fo a),(12,fo j),(13,fo B)] (b _ (oj e3))
 exact mJ 1 [] (hJ1 _ (oj e1))
 exact mJ 1 [] (hJ _ (oj e))
end Go.Proofs.YtehfpameijkafaaGreatDoor
namespace Go.Proofs.YtehfpameijkafaaGreatDoor
open Go.RowKit Go.Q Go.Vl Go.Sp
set_option maxRecDepth 100000
set_option linter.unusedSimpArgs false
set_option maxHeartbeats 4000000
set_option linter.unusedVariables false
theorem NU (n:Nat)(d:Ai)(known:Int)(r:Int)(h:Gg n d known=some r):BZ Tryz.prog 56 [.agg (kD d),iP known] (iP r):=by
 unfold Gg at h
 refine vP ⟨[0,1,2,4,5,6,10,15,60,86],[]⟩ Tryz.func56 follows fun Q w=>?_
 refine cD 2 [(4,fl Bz d.Facts)] h (fun u h=>?_) fun u h=>?_
 cases h
 exact rt 1 [] w
 refine mI 1 [] h (fun _=>⟨[(1,iP known),(2,.ptr 0 0),(4,iP 0)],[kD d]⟩) ?_ fun y e h hJ=>?_
 rintro _ h
 refine mE 0 [] h (fun v86=>⟨[(4,iP 0),(86,bP v86)],[kD d]⟩) ?_ fun y1 e1 m=>?_
 rintro v86 h
 refine cD 0 [] h (fun B h=>?_) fun B h=>?_
 cases h
 exact rt 1 [] w
 cases h
 exact rt 1 [] w
 rcases Aj e1 with⟨i,e1⟩|⟨i,e1⟩
 exact mJ 1 [(3,fo i)] (m _ (oj e1))
 rcases Aj e1 with⟨o,e1⟩|⟨o,e1⟩
 exact mJ 1 [(3,fo i),(4,fo o)] (m _ (oj e1))
 rcases Aj e1 with⟨p,e1⟩|⟨p,e1⟩
 exact mJ 1 [(3,fo i),(4,fo o),(3,fo p)] (m _ (oj e1))
 rcases Aj e1 with⟨s,e1⟩|⟨s,e1⟩
 exact mJ 1 [(3,fo i),(4,fo o),(3,fo p),(3,fo s)] (m _ (oj e1))
 rcases Aj e1 with⟨t,e1⟩|⟨t,e1⟩
 exact mJ 1 [(3,fo i),(4,fo o),(3,fo p),(3,fo s),(4,fo t)] (m _ (oj e1))
 exact mJ 1 [(3,fo i),(4,fo o),(3,fo p),(3,fo s),(4,fo t)] (m _ (oj e1))
 refine lF 1 [] (A:=Int) (fun n k=>EJ n d k) (fun k=>⟨[(1,iP known),(2,.ptr 0 0),(4,iP 0),(5,iP k)],[kD d]⟩) 0 e (fun _=>rfl) ?_
 rintro n k e ih
 replace e:=(EJ.eq_2 ..).symm.trans e
 refine cD 1 [(3,fl Bz d.Facts)] e (fun v e=>?_) fun v e=>?_
 obtain⟨x,C,e⟩:=Ab e
 refine mE 2 [(3,fi Bz C)] e (fun v60=>⟨[(1,iP known),(2,.ptr 0 0),(4,iP 0),(5,iP k),(60,bP v60)],[kD d,kZ x]⟩) ?_ fun y2 e2 c=>?_
 rintro v60 e
 refine cD 0 [] e (fun z e=>?_) fun z e=>?_
 cases e
 cases h
 exact rt 1 [] w
 exact mJ 1 [] (ih _ e)
 rcases Aj e2 with⟨b,e2⟩|⟨b,e2⟩
 exact mJ 1 [(3,fo b)] (c _ (oj e2))
 rcases Aj e2 with⟨f,e2⟩|⟨f,e2⟩
 exact mJ 1 [(3,fo b),(4,fo f)] (c _ (oj e2))
 rcases Aj e2 with⟨j,e2⟩|⟨j,e2⟩
 exact mJ 1 [(3,fo b),(4,fo f),(4,fo j)] (c _ (oj e2))
 rcases Aj e2 with⟨a,e2⟩|⟨a,e2⟩
 exact mJ 1 [(3,fo b),(4,fo f),(4,fo j),(4,fo a)] (c _ (oj e2))
 rcases Aj e2 with⟨g,e2⟩|⟨g,e2⟩
 exact mJ 1 [(3,fo b),(4,fo f),(4,fo j),(4,fo a),(4,fo g)] (c _ (oj e2))
 rcases Aj e2 with⟨l,e2⟩|⟨l,e2⟩
 exact mJ 1 [(3,fo b),(4,fo f),(4,fo j),(4,fo a),(4,fo g),(4,fo l)] (c _ (oj e2))
 rcases Aj e2 with⟨q,e2⟩|⟨q,e2⟩
 exact mJ 1 [(3,fo b),(4,fo f),(4,fo j),(4,fo a),(4,fo g),(4,fo l),(4,fo q)] (c _ (oj e2))
 exact mJ 1 [(3,fo b),(4,fo f),(4,fo j),(4,fo a),(4,fo g),(4,fo l),(4,fo q)] (c _ (oj e2))
 exact mJ 1 [] (hJ _ (oj e))
theorem Sq (n:Nat)(s:Æ)(r:Bool)(h:Hw n s=some r):BZ Tryz.prog 77 [tP s] (bP r):=by
 unfold Hw at h
 refine vP ⟨[0,2,3,4,5,13,17,54],[]⟩ Tryz.func77 follows fun Q v=>?_
 refine mE 1 [] h (fun v13=>⟨[(0,tP s),(2,bP false),(13,bP v13)],[]⟩) ?_ fun y e hJ=>?_
 rintro v13 h
 refine cD 0 [] h (fun t h=>?_) fun t h=>?_
 cases h
 exact rt 1 [] v
 refine mI 1 [] h (fun _=>⟨[(2,bP false)],[]⟩) ?_ fun y1 e1 h w=>?_
 rintro _ h
 cases h
 exact rt 1 [] v
 refine lF 1 [] (A:=Int) (fun n k=>C2 n s k) (fun k=>⟨[(0,tP s),(2,bP false),(3,iP k)],[]⟩) 0 e1 (fun _=>rfl) ?_
 rintro n k e1 ih
 replace e1:=(C2.eq_2 ..).symm.trans e1
 refine cD 1 [] e1 (fun u e1=>?_) fun u e1=>?_
 obtain⟨c,z,e1⟩:=Ab e1
 refine mE 2 [(2,fb z)] e1 (fun letter=>⟨[(0,tP s),(2,bP false),(3,iP k),(4,uP c),(5,bP letter)],[]⟩) ?_ fun y2 e2 b=>?_
 rintro letter e1
 refine mE 0 [] e1 (fun v54=>⟨[(0,tP s),(2,bP false),(3,iP k),(54,bP v54)],[]⟩) ?_ fun y3 e3 j=>?_
 rintro v54 e1
 refine cD 0 [] e1 (fun x e1=>?_) fun x e1=>?_
 cases e1
 cases h
 exact rt 1 [] v
 exact mJ 1 [] (ih _ e1)
 rcases Aj e3 with⟨d,e3⟩|⟨d,e3⟩
 rcases Aj e3 with⟨l,e3⟩|⟨l,e3⟩
 exact mJ 1 [(2,fo d),(2,fo l)] (j _ (oj e3))
 rcases Aj e3 with⟨p,e3⟩|⟨p,e3⟩
 exact mJ 1 [(2,fo d),(2,fo l),(3,fo p)] (j _ (oj e3))
 exact mJ 1 [(2,fo d),(2,fo l),(3,fo p)] (j _ (oj e3))
 exact mJ 1 [(2,fo d)] (j _ (oj e3))
 rcases Aj e2 with⟨a,e2⟩|⟨a,e2⟩
 rcases Aj e2 with⟨f,e2⟩|⟨f,e2⟩
 exact mJ 1 [(2,fo a),(3,fo f)] (b _ (oj e2))
 rcases Aj e2 with⟨m,e2⟩|⟨m,e2⟩
 rcases Aj e2 with⟨q,e2⟩|⟨q,e2⟩
 exact mJ 1 [(2,fo a),(3,fo f),(2,fo m),(4,fo q)] (b _ (oj e2))
 exact mJ 1 [(2,fo a),(3,fo f),(2,fo m),(4,fo q)] (b _ (oj e2))
 exact mJ 1 [(2,fo a),(3,fo f),(2,fo m)] (b _ (oj e2))
 rcases Aj e2 with⟨o,e2⟩|⟨o,e2⟩
 rcases Aj e2 with⟨g,e2⟩|⟨g,e2⟩
 exact mJ 1 [(2,fo a),(6,fo o),(4,fo g)] (b _ (oj e2))
 exact mJ 1 [(2,fo a),(6,fo o),(4,fo g)] (b _ (oj e2))
 exact mJ 1 [(2,fo a),(6,fo o)] (b _ (oj e2))
 exact mJ 1 [] (w _ (oj e1))
 rcases Aj e with⟨i,e⟩|⟨i,e⟩
 exact mJ 1 [(3,fo i)] (hJ _ (oj e))
 exact mJ 1 [(3,fo i)] (hJ _ (oj e))
theorem T7 (n:Nat)(l:(List Aa))(s:Æ)(r:Bool)(h:Il n l s=some r):BZ Tryz.prog 78 [hC l,tP s] (bP r):=by
 unfold Il at h
 refine vP ⟨[0,1,4,5,9,18],[]⟩ Tryz.func78 follows fun Q b=>?_
 refine mI 2 [] h (fun _=>⟨[(4,bP false)],[]⟩) ?_ fun y e h hJ=>?_
 rintro _ h
 cases h
 exact rt 1 [] b
 refine lF 1 [] (A:=Int) (fun n k=>CE n l s k) (fun k=>⟨[(0,hC l),(1,tP s),(4,bP false),(5,iP k)],[]⟩) 0 e (fun _=>rfl) ?_
 rintro n k e ih
 replace e:=(CE.eq_2 ..).symm.trans e
 refine cD 1 [(2,fl As l)] e (fun a e=>?_) fun a e=>?_
 obtain⟨x,c,e⟩:=Ab e
 refine cD 2 [(2,fi As c)] e (fun d e=>?_) fun d e=>?_
 cases e
 cases h
 exact rt 1 [] b
 exact mJ 1 [] (ih _ e)
 exact mJ 1 [] (hJ _ (oj e))
theorem Pt (c:Aa)(k:Int)(r:Af)(h:HM c k=some r):BZ Tryz.prog 47 [.agg (kC c),iP k] (.agg (kX r)):=by
 unfold HM at h
 refine vP ⟨[0,1,2,4,6,10],[]⟩ Tryz.func47 follows fun Q a=>?_
 refine cD 2 [] h (fun b h=>?_) fun b h=>?_
 cases h
 exact rt 1 [] a
 refine cD 1 [] h (fun d h=>?_) fun d h=>?_
 cases h
 exact rt 1 [] a
 cases h
 exact rt 1 [] a
theorem PR (op:Int)(r:Int)(h:DX op=some r):BZ Tryz.prog 132 [iP op] (iP r):=by
 unfold DX at h
 refine vP ⟨[0,2,8,10,16,18],[]⟩ Tryz.func132 follows fun Q c=>?_
 refine mE 1 [] h (fun v8=>⟨[(0,iP op),(2,iP 0),(8,bP v8)],[]⟩) ?_ fun y e hJ=>?_
 rintro v8 h
 refine cD 0 [] h (fun f h=>?_) fun f h=>?_
 cases h
 exact rt 1 [] c
 refine cD 1 [] h (fun g h=>?_) fun g h=>?_
 cases h
 exact rt 1 [] c
 refine mE 0 [] h (fun v16=>⟨[(0,iP op),(2,iP 0),(16,bP v16)],[]⟩) ?_ fun y1 e1 d=>?_
 rintro v16 h
 refine cD 0 [] h (fun i h=>?_) fun i h=>?_
 cases h
 exact rt 1 [] c
 refine cD 1 [] h (fun j h=>?_) fun j h=>?_
 cases h
 exact rt 1 [] c
 cases h
 exact rt 1 [] c
 rcases Aj e1 with⟨a,e1⟩|⟨a,e1⟩
 exact mJ 1 [(2,fo a)] (d _ (oj e1))
 exact mJ 1 [(2,fo a)] (d _ (oj e1))
 rcases Aj e with⟨b,e⟩|⟨b,e⟩
 exact mJ 1 [(2,fo b)] (hJ _ (oj e))
 exact mJ 1 [(2,fo b)] (hJ _ (oj e))
theorem NT (name:Æ)(r:Int)(h:EU name=some r):BZ Tryz.prog 136 [tP name] (iP r):=by
 unfold EU at h
 refine vP ⟨[0,2,3,4,6,8,10,12],[]⟩ Tryz.func136 follows fun Q a=>?_
 refine cD 4 [] h (fun b h=>?_) fun b h=>?_
 cases h
 exact rt 1 [] a
 refine cD 1 [] h (fun c h=>?_) fun c h=>?_
 cases h
 exact rt 1 [] a
 refine cD 1 [] h (fun d h=>?_) fun d h=>?_
 cases h
 exact rt 1 [] a
 refine cD 1 [] h (fun e h=>?_) fun e h=>?_
 cases h
 exact rt 1 [] a
 refine cD 1 [] h (fun f h=>?_) fun f h=>?_
 cases h
 exact rt 1 [] a
 cases h
 exact rt 1 [] a
theorem UZ (name:Æ)(t:(List Int))(r:(Int×Int))(h:DY name t=some r):BZ Tryz.prog 133 [tP name,hI t] (.tup [iP r.1,iP r.2]):=by
 unfold DY at h
 refine vP ⟨[0,1,4,5,6,7,8,32,46,63,71,87],[(12,[9999,0,0,1,2,3,4,5,6,7,8,9,10,11,12,13,14,15])]⟩ Tryz.func133 follows fun Q B=>?_
 obtain⟨f,M,h⟩:=Ab h
 refine mE 2 [(3,fk (NT _ _ M))] h (fun one=>⟨[(0,tP name),(1,hI t),(4,iP 0),(5,iP 0),(6,bP (decide (0<f))),(7,bP one)],[]⟩) ?_ fun y e hJ=>?_
 rintro one h
 refine mE 0 [] h (fun two=>⟨[(0,tP name),(1,hI t),(4,iP 0),(5,iP 0),(6,bP (decide (0<f))),(7,bP one),(8,bP two)],[]⟩) ?_ fun y1 e1 C=>?_
 rintro two h
 refine mE 0 [] h (fun v32=>⟨[(0,tP name),(1,hI t),(4,iP 0),(5,iP 0),(6,bP (decide (0<f))),(7,bP one),(8,bP two),(32,bP v32)],[]⟩) ?_ fun y2 e2 D=>?_
 rintro v32 h
 refine cD 0 [] h (fun E h=>?_) fun E h=>?_
 cases h
 exact rt 1 [] B
 refine mE 0 [] h (fun v46=>⟨[(0,tP name),(1,hI t),(4,iP 0),(5,iP 0),(6,bP (decide (0<f))),(8,bP two),(46,bP v46)],[]⟩) ?_ fun y3 e3 g=>?_
 rintro v46 h
 refine cD 0 [] h (fun F h=>?_) fun F h=>?_
 cases h
 exact rt 1 [] B
 refine mE 0 [] h (fun v63=>⟨[(0,tP name),(1,hI t),(4,iP 0),(5,iP 0),(8,bP two),(63,bP v63)],[]⟩) ?_ fun y4 e4 i=>?_
 rintro v63 h
 refine cD 0 [] h (fun I h=>?_) fun I h=>?_
 cases h
 exact rt 1 [] B
 refine mE 0 [] h (fun v71=>⟨[(1,hI t),(4,iP 0),(5,iP 0),(8,bP two),(71,bP v71)],[]⟩) ?_ fun y5 e5 G=>?_
 rintro v71 h
 refine cD 0 [] h (fun J h=>?_) fun J h=>?_
 cases h
 exact rt 1 [] B
 refine mE 0 [] h (fun v87=>⟨[(1,hI t),(4,iP 0),(5,iP 0),(87,bP v87)],[]⟩) ?_ fun y6 e6 s=>?_
 rintro v87 h
 refine cD 0 [] h (fun N h=>?_) fun N h=>?_
 obtain⟨x,O,h⟩:=Ab h
 cases h
 exact rt 1 [(1,fi An O)] B
 cases h
 exact rt 1 [] B
 rcases Aj e6 with⟨o,e6⟩|⟨o,e6⟩
 obtain⟨x1,u,e6⟩:=Ab e6
 obtain⟨x2,H,e6⟩:=Ab e6
 rcases Aj e6 with⟨v,e6⟩|⟨v,e6⟩
 exact mJ 1 [(1,fo o),(1,fi An u),(2,fi An H),(3,fo v),(1,fi An u)] (s _ (oj e6))
 exact mJ 1 [(1,fo o),(1,fi An u),(2,fi An H),(3,fo v)] (s _ (oj e6))
 exact mJ 1 [(1,fo o)] (s _ (oj e6))
 rcases Aj e5 with⟨w,e5⟩|⟨w,e5⟩
 obtain⟨x3,K,e5⟩:=Ab e5
 exact mJ 1 [(2,fo w),(1,fi An K)] (G _ (oj e5))
 exact mJ 1 [(2,fo w)] (G _ (oj e5))
 rcases Aj e4 with⟨d,e4⟩|⟨d,e4⟩
 obtain⟨x4,p,e4⟩:=Ab e4
 rcases Aj e4 with⟨q,e4⟩|⟨q,e4⟩
 exact mJ 1 [(1,fo d),(1,fi An p),(3,fo q)] (i _ (oj e4))
 rcases Aj e4 with⟨z,e4⟩|⟨z,e4⟩
 exact mJ 1 [(1,fo d),(1,fi An p),(3,fo q),(2,fo z),(1,fi An p)] (i _ (oj e4))
 exact mJ 1 [(1,fo d),(1,fi An p),(3,fo q),(2,fo z)] (i _ (oj e4))
 rcases Aj e4 with⟨A,e4⟩|⟨A,e4⟩
 obtain⟨x5,L,e4⟩:=Ab e4
 exact mJ 1 [(1,fo d),(8,fo A),(1,fi An L)] (i _ (oj e4))
 exact mJ 1 [(1,fo d),(8,fo A)] (i _ (oj e4))
 rcases Aj e3 with⟨a,e3⟩|⟨a,e3⟩
 rcases Aj e3 with⟨b,e3⟩|⟨b,e3⟩
 exact mJ 1 [(1,fo a),(1,fl An t),(2,fo b)] (g _ (oj e3))
 rcases Aj e3 with⟨j,e3⟩|⟨j,e3⟩
 exact mJ 1 [(1,fo a),(1,fl An t),(2,fo b),(1,fo j),(1,fl An t)] (g _ (oj e3))
 exact mJ 1 [(1,fo a),(1,fl An t),(2,fo b),(1,fo j)] (g _ (oj e3))
 rcases Aj e3 with⟨k,e3⟩|⟨k,e3⟩
 exact mJ 1 [(1,fo a),(6,fo k),(1,fl An t)] (g _ (oj e3))
 exact mJ 1 [(1,fo a),(6,fo k)] (g _ (oj e3))
 rcases Aj e2 with⟨l,e2⟩|⟨l,e2⟩
 exact mJ 1 [(2,fo l)] (D _ (oj e2))
 exact mJ 1 [(2,fo l)] (D _ (oj e2))
 rcases Aj e1 with⟨m,e1⟩|⟨m,e1⟩
 exact mJ 1 [(2,fo m)] (C _ (oj e1))
 exact mJ 1 [(2,fo m)] (C _ (oj e1))
 rcases Aj e with⟨c,e⟩|⟨c,e⟩
 exact mJ 1 [(1,fo c)] (hJ _ (oj e))
 rcases Aj e with⟨n,e⟩|⟨n,e⟩
 exact mJ 1 [(1,fo c),(3,fo n)] (hJ _ (oj e))
 exact mJ 1 [(1,fo c),(3,fo n)] (hJ _ (oj e))
theorem Sl (op:Int)(t:(List Int))(r:Int)(h:Hv op t=some r):BZ Tryz.prog 134 [iP op,hI t] (iP r):=by
 unfold Hv at h
 refine vP ⟨[0,1,4,5,6,7,17,25,42,47,80,98,103,115,139,157],[(6,[9999,0,0,1,2,3,4,5,6,7,8,9,10,11,12,13,14,15,16])]⟩ Tryz.func134 follows fun Q q=>?_
 refine mE 2 [(2,fl An t)] h (fun v17=>⟨[(0,iP op),(1,hI t),(4,iP 0),(5,iP (t.length:Int)),(17,bP v17)],[]⟩) ?_ fun y e hJ=>?_
 rintro v17 h
 refine cD 0 [] h (fun V h=>?_) fun V h=>?_
 cases h
 exact rt 1 [] q
 refine mE 0 [] h (fun v25=>⟨[(0,iP op),(1,hI t),(4,iP 0),(5,iP (t.length:Int)),(25,bP v25)],[]⟩) ?_ fun y1 e1 W=>?_
 rintro v25 h
 refine cD 0 [] h (fun X h=>?_) fun X h=>?_
 cases h
 exact rt 1 [] q
 refine mE 0 [] h (fun v42=>⟨[(0,iP op),(1,hI t),(4,iP 0),(5,iP (t.length:Int)),(42,bP v42)],[]⟩) ?_ fun y2 e2 R=>?_
 rintro v42 h
 refine cD 0 [] h (fun Y h=>?_) fun Y h=>?_
 obtain⟨x,hx,h⟩:=Ab h
 cases h
 exact rt 1 [(1,fi An hx)] q
 refine cD 1 [] h (fun Z h=>?_) fun Z h=>?_
 cases h
 exact rt 1 [] q
 refine mE 0 [] h (fun numbers=>⟨[(0,iP op),(1,hI t),(4,iP 0),(6,bP numbers)],[]⟩) ?_ fun y3 e3 hJ3=>?_
 rintro numbers h
 refine mE 0 [] h (fun days=>⟨[(0,iP op),(1,hI t),(4,iP 0),(6,bP numbers),(7,bP days)],[]⟩) ?_ fun y4 e4 hJ4=>?_
 rintro days h
 refine mE 0 [] h (fun v80=>⟨[(0,iP op),(1,hI t),(4,iP 0),(6,bP numbers),(7,bP days),(80,bP v80)],[]⟩) ?_ fun y5 e5 I=>?_
 rintro v80 h
 refine cD 0 [] h (fun hc25 h=>?_) fun hc25 h=>?_
 cases h
 exact rt 1 [] q
 refine mE 0 [] h (fun v98=>⟨[(0,iP op),(1,hI t),(4,iP 0),(6,bP numbers),(7,bP days),(98,bP v98)],[]⟩) ?_ fun y6 e6 s=>?_
 rintro v98 h
 refine cD 0 [] h (fun hc20 h=>?_) fun hc20 h=>?_
 cases h
 exact rt 1 [] q
 refine mE 0 [] h (fun v103=>⟨[(0,iP op),(1,hI t),(4,iP 0),(6,bP numbers),(7,bP days),(103,bP v103)],[]⟩) ?_ fun y7 e7 hJ7=>?_
 rintro v103 h
 refine cD 0 [] h (fun hc18 h=>?_) fun hc18 h=>?_
 cases h
 exact rt 1 [] q
 refine mE 0 [] h (fun v115=>⟨[(0,iP op),(1,hI t),(4,iP 0),(6,bP numbers),(7,bP days),(115,bP v115)],[]⟩) ?_ fun y8 e8 J=>?_
 rintro v115 h
 refine cD 0 [] h (fun hc14 h=>?_) fun hc14 h=>?_
 cases h
 exact rt 1 [] q
 refine mE 0 [] h (fun v139=>⟨[(0,iP op),(1,hI t),(4,iP 0),(139,bP v139)],[]⟩) ?_ fun y9 e9 d=>?_
 rintro v139 h
 refine cD 0 [] h (fun hc5 h=>?_) fun hc5 h=>?_
 cases h
 exact rt 1 [] q
 refine mE 0 [] h (fun v157=>⟨[(4,iP 0),(157,bP v157)],[]⟩) ?_ fun y10 e10 f=>?_
 rintro v157 h
 refine cD 0 [] h (fun hc h=>?_) fun hc h=>?_
 cases h
 exact rt 1 [] q
 cases h
 exact rt 1 [] q
 rcases Aj e10 with⟨p,e10⟩|⟨p,e10⟩
 obtain⟨x1,hx1,e10⟩:=Ab e10
 rcases Aj e10 with⟨S,e10⟩|⟨S,e10⟩
 obtain⟨x2,hx2,e10⟩:=Ab e10
 exact mJ 1 [(2,fo p),(5,fi An hx1),(3,fo S),(1,fi An hx2)] (f _ (oj e10))
 exact mJ 1 [(2,fo p),(5,fi An hx1),(3,fo S)] (f _ (oj e10))
 rcases Aj e10 with⟨K,e10⟩|⟨K,e10⟩
 obtain⟨x3,hx3,e10⟩:=Ab e10
 rcases Aj e10 with⟨T,e10⟩|⟨T,e10⟩
 obtain⟨x4,hx4,e10⟩:=Ab e10
 exact mJ 1 [(2,fo p),(3,fo K),(1,fi An hx3),(3,fo T),(1,fi An hx4)] (f _ (oj e10))
 exact mJ 1 [(2,fo p),(3,fo K),(1,fi An hx3),(3,fo T)] (f _ (oj e10))
 exact mJ 1 [(2,fo p),(3,fo K)] (f _ (oj e10))
 rcases Aj e9 with⟨a,e9⟩|⟨a,e9⟩
 rcases Aj e9 with⟨u,e9⟩|⟨u,e9⟩
 exact mJ 1 [(2,fo a),(5,fo u)] (d _ (oj e9))
 rcases Aj e9 with⟨L,e9⟩|⟨L,e9⟩
 exact mJ 1 [(2,fo a),(5,fo u),(2,fo L)] (d _ (oj e9))
 obtain⟨x5,hx5,e9⟩:=Ab e9
 rcases Aj e9 with⟨U,e9⟩|⟨U,e9⟩
 obtain⟨x6,hx6,e9⟩:=Ab e9
 exact mJ 1 [(2,fo a),(5,fo u),(2,fo L),(1,fi An hx5),(2,fo U),(1,fi An hx6)] (d _ (oj e9))
 exact mJ 1 [(2,fo a),(5,fo u),(2,fo L),(1,fi An hx5),(2,fo U)] (d _ (oj e9))
 rcases Aj e9 with⟨b,e9⟩|⟨b,e9⟩
 rcases Aj e9 with⟨g,e9⟩|⟨g,e9⟩
 exact mJ 1 [(2,fo a),(3,fo b),(1,fo g)] (d _ (oj e9))
 rcases Aj e9 with⟨k,e9⟩|⟨k,e9⟩
 exact mJ 1 [(2,fo a),(3,fo b),(1,fo g),(2,fo k)] (d _ (oj e9))
 obtain⟨x7,hx7,e9⟩:=Ab e9
 rcases Aj e9 with⟨v,e9⟩|⟨v,e9⟩
 obtain⟨x8,hx8,e9⟩:=Ab e9
 exact mJ 1 [(2,fo a),(3,fo b),(1,fo g),(2,fo k),(1,fi An hx7),(2,fo v),(1,fi An hx8)] (d _ (oj e9))
 exact mJ 1 [(2,fo a),(3,fo b),(1,fo g),(2,fo k),(1,fi An hx7),(2,fo v)] (d _ (oj e9))
 exact mJ 1 [(2,fo a),(3,fo b)] (d _ (oj e9))
 rcases Aj e8 with⟨i,e8⟩|⟨i,e8⟩
 rcases Aj e8 with⟨l,e8⟩|⟨l,e8⟩
 rcases Aj e8 with⟨w,e8⟩|⟨w,e8⟩
 exact mJ 1 [(2,fo i),(3,fo l),(1,fo w)] (J _ (oj e8))
 exact mJ 1 [(2,fo i),(3,fo l),(1,fo w)] (J _ (oj e8))
 exact mJ 1 [(2,fo i),(3,fo l)] (J _ (oj e8))
 exact mJ 1 [(2,fo i)] (J _ (oj e8))
 rcases Aj e7 with⟨z,e7⟩|⟨z,e7⟩
 exact mJ 1 [(2,fo z)] (hJ7 _ (oj e7))
 exact mJ 1 [(2,fo z)] (hJ7 _ (oj e7))
 rcases Aj e6 with⟨c,e6⟩|⟨c,e6⟩
 obtain⟨x9,hx9,e6⟩:=Ab e6
 rcases Aj e6 with⟨A,e6⟩|⟨A,e6⟩
 obtain⟨x10,hx10,e6⟩:=Ab e6
 exact mJ 1 [(2,fo c),(5,fi An hx9),(3,fo A),(1,fi An hx10)] (s _ (oj e6))
 exact mJ 1 [(2,fo c),(5,fi An hx9),(3,fo A)] (s _ (oj e6))
 rcases Aj e6 with⟨m,e6⟩|⟨m,e6⟩
 obtain⟨x11,M,e6⟩:=Ab e6
 rcases Aj e6 with⟨B,e6⟩|⟨B,e6⟩
 obtain⟨x12,hx12,e6⟩:=Ab e6
 exact mJ 1 [(2,fo c),(3,fo m),(1,fi An M),(3,fo B),(1,fi An hx12)] (s _ (oj e6))
 exact mJ 1 [(2,fo c),(3,fo m),(1,fi An M),(3,fo B)] (s _ (oj e6))
 exact mJ 1 [(2,fo c),(3,fo m)] (s _ (oj e6))
 rcases Aj e5 with⟨j,e5⟩|⟨j,e5⟩
 exact mJ 1 [(2,fo j)] (I _ (oj e5))
 rcases Aj e5 with⟨n,e5⟩|⟨n,e5⟩
 exact mJ 1 [(2,fo j),(3,fo n)] (I _ (oj e5))
 rcases Aj e5 with⟨C,e5⟩|⟨C,e5⟩
 exact mJ 1 [(2,fo j),(3,fo n),(3,fo C)] (I _ (oj e5))
 exact mJ 1 [(2,fo j),(3,fo n),(3,fo C)] (I _ (oj e5))
 obtain⟨x13,N,e4⟩:=Ab e4
 rcases Aj e4 with⟨D,e4⟩|⟨D,e4⟩
 obtain⟨x14,hx14,e4⟩:=Ab e4
 exact mJ 1 [(1,fi An N),(2,fo D),(1,fi An hx14)] (hJ4 _ (oj e4))
 exact mJ 1 [(1,fi An N),(2,fo D)] (hJ4 _ (oj e4))
 obtain⟨x15,O,e3⟩:=Ab e3
 rcases Aj e3 with⟨E,e3⟩|⟨E,e3⟩
 obtain⟨x16,hx16,e3⟩:=Ab e3
 exact mJ 1 [(1,fi An O),(2,fo E),(1,fi An hx16)] (hJ3 _ (oj e3))
 exact mJ 1 [(1,fi An O),(2,fo E)] (hJ3 _ (oj e3))
 rcases Aj e2 with⟨o,e2⟩|⟨o,e2⟩
 obtain⟨x17,P,e2⟩:=Ab e2
 rcases Aj e2 with⟨F,e2⟩|⟨F,e2⟩
 obtain⟨x18,hx18,e2⟩:=Ab e2
 obtain⟨x19,hx19,e2⟩:=Ab e2
 exact mJ 1 [(2,fo o),(1,fi An P),(3,fo F),(1,fi An hx18),(2,fi An hx19)] (R _ (oj e2))
 exact mJ 1 [(2,fo o),(1,fi An P),(3,fo F)] (R _ (oj e2))
 exact mJ 1 [(2,fo o)] (R _ (oj e2))
 rcases Aj e1 with⟨G,e1⟩|⟨G,e1⟩
 obtain⟨x20,hx20,e1⟩:=Ab e1
 exact mJ 1 [(2,fo G),(1,fi An hx20)] (W _ (oj e1))
 exact mJ 1 [(2,fo G)] (W _ (oj e1))
 rcases Aj e with⟨H,e⟩|⟨H,e⟩
 obtain⟨x21,hx21,e⟩:=Ab e
 exact mJ 1 [(2,fo H),(1,fi An hx21)] (hJ _ (oj e))
 exact mJ 1 [(2,fo H)] (hJ _ (oj e))
theorem Sr (n0:Nat)
 (ih_ref33_Type:∀ m,m<=n0->∀ (e:Af) (r:CO),Bq m e=some r->BZ Tryz.prog 79 [.agg (kX e)] (.agg (kL r)))
 (n:Nat) (hn:n<=n0) (e:Af) (r:CO) (h:Bq (n+1) e=some r):BZ Tryz.prog 79 [.agg (kX e)] (.agg (kL r)):=by
 replace h:=(Bq.eq_2 ..).symm.trans h
 refine vP ⟨[0,1,2,3,4,5,6,7,8,9,10,32,41,53,61,66,75,76,78,81,82,84,87,89,101],[]⟩ Tryz.func79 follows fun Q w=>?_
 obtain⟨n_,z,h⟩:=Ab h
 refine mE 2 [(4,fk (PR _ _ z))] h (fun v32=>⟨[(1,.ptr 0 0),(2,.ptr 1 0),(32,bP v32)],[kX e,[iP 0,iP 0,iP 0]]⟩) ?_ fun y e1 hJ=>?_
 rintro v32 h
 refine cD 0 [] h (fun j h=>?_) fun j h=>?_
 cases h
 exact rt 1 [] w
 refine mI 2 [] h (fun t=>⟨[(1,.ptr 0 0),(2,.ptr 1 0),(4,oI t)],[kX e,[iP 0,iP 0,iP 0]]⟩) ?_ fun y1 e2 h B=>?_
 rintro t h
 refine mE 3 [] h (fun (out,err)=>⟨[(1,.ptr 0 0),(2,.ptr 1 0),(7,iP out),(8,iP err)],[kX e,[iP 0,iP 0,iP 0]]⟩) ?_ fun y2 e3 a=>?_
 rintro⟨out,err⟩ h
 refine cD 1 [] h (fun M h=>?_) fun M h=>?_
 cases h
 exact rt 1 [] w
 cases h
 exact rt 1 [] w
 refine cD 2 [] e3 (fun o e3=>?_) fun o e3=>?_
 refine mE 1 [] e3 (fun v75=>⟨[(1,.ptr 0 0),(2,.ptr 1 0),(7,iP 1),(8,iP 7),(75,bP v75)],[kX e,[iP 0,iP 0,iP 0]]⟩) ?_ fun y3 e4 p=>?_
 rintro v75 e3
 refine cD 0 [] e3 (fun C e3=>?_) fun C e3=>?_
 exact mJ 2 [] (a _ (oj e3))
 exact mJ 0 [] (a _ (oj e3))
 rcases Aj e4 with⟨g,e4⟩|⟨g,e4⟩
 exact mJ 1 [(3,fo g)] (p _ (oj e4))
 exact mJ 1 [(3,fo g)] (p _ (oj e4))
 refine cD 1 [] e3 (fun q e3=>?_) fun q e3=>?_
 exact mJ 1 [] (a _ (oj e3))
 refine cD 1 [] e3 (fun D e3=>?_) fun D e3=>?_
 refine cD 3 [] e3 (fun E e3=>?_) fun E e3=>?_
 exact mJ 1 [] (a _ (oj e3))
 refine mE 1 [] e3 (fun v84=>⟨[(1,.ptr 0 0),(2,.ptr 1 0),(7,iP 0),(8,iP 7),(81,tP e.S),(84,bP v84)],[kX e,[iP 0,iP 0,iP 0]]⟩) ?_ fun y4 e5 s=>?_
 rintro v84 e3
 refine cD 0 [] e3 (fun F e3=>?_) fun F e3=>?_
 exact mJ 1 [] (a _ (oj e3))
 refine cD 1 [] e3 (fun G e3=>?_) fun G e3=>?_
 exact mJ 1 [] (a _ (oj e3))
 exact mJ 1 [] (a _ (oj e3))
 refine cD 0 [] e5 (fun H e5=>?_) fun H e5=>?_
 exact mJ 0 [] (s _ (oj e5))
 exact mJ 1 [] (s _ (oj e5))
 refine cD 1 [] e3 (fun I e3=>?_) fun I e3=>?_
 obtain⟨c,J,e3⟩:=Ab e3
 exact mJ 3 [(3,fk (UZ _ _ _ J))] (a _ (oj e3))
 obtain⟨out1,i,e3⟩:=Ab e3
 exact mJ 1 [(3,fk (Sl _ _ _ i))] (a _ (oj e3))
 refine lR 1 [] (A:=((List Int)×Int)) (fun n (t1,k)=>DK n e t1 k) (fun (t1,k)=>⟨[(1,.ptr 0 0),(2,.ptr 1 0),(4,oI t1),(5,iP k)],[kX e,[iP 0,iP 0,iP 0]]⟩) ([],0) hn e2 (fun _=>rfl) ?_
 rintro n ⟨t1,k⟩ hn e2 ih
 replace e2:=(DK.eq_2 ..).symm.trans e2
 refine cD 1 [(3,fl AZ e.Kids)] e2 (fun u e2=>?_) fun u e2=>?_
 obtain⟨x,N,e2⟩:=Ab e2
 obtain⟨x1,K,e2⟩:=Ab e2
 refine cD 3 [(3,fi AZ N),(1,fk (ih_ref33_Type _ hn _ _ K))] e2 (fun v e2=>?_) fun v e2=>?_
 cases e2
 cases h
 exact rt 1 [] w
 obtain⟨l,O,e2⟩:=Ab e2
 obtain⟨l1,L,e2⟩:=Ab e2
 exact mJ 2 [(3,fB An O),(0,fa An L)] (ih (_,_) e2)
 exact mJ 1 [] (B _ (oj e2))
 rcases Aj e1 with⟨b,e1⟩|⟨b,e1⟩
 exact mJ 1 [(3,fo b)] (hJ _ (oj e1))
 rcases Aj e1 with⟨d,e1⟩|⟨d,e1⟩
 exact mJ 1 [(3,fo b),(4,fo d)] (hJ _ (oj e1))
 rcases Aj e1 with⟨f,e1⟩|⟨f,e1⟩
 exact mJ 1 [(3,fo b),(4,fo d),(2,fo f),(2,fl AZ e.Kids)] (hJ _ (oj e1))
 exact mJ 1 [(3,fo b),(4,fo d),(2,fo f)] (hJ _ (oj e1))
theorem LP:∀ n:Nat,(∀ m,m<=n->∀ (e:Af) (r:CO),Bq m e=some r->BZ Tryz.prog 79 [.agg (kX e)] (.agg (kL r)))
 |0=>(fun m hm e r h=>by
  obtain rfl:m=0:=by omega
  exact absurd h (by simp [Bq]))
 |n+1=>by
  have ih:=LP n
  exact fun m hm e r h=>by
   cases m with
   |zero=>exact absurd h (by simp [Bq])
   |succ m=>exact Sr n (ih) m (by omega) e _ h
theorem LF (n:Nat)(e:Af)(r:CO)(h:Bq n e=some r):BZ Tryz.prog 79 [.agg (kX e)] (.agg (kL r)) :=
 (LP n) n (ä _) e r h
theorem NV (n:Nat)(l:(List Aa))(r:Int)(h:Ha n l=some r):BZ Tryz.prog 55 [hC l] (iP r):=by
 unfold Ha at h
 refine vP ⟨[0,2,3,4,5,6,7,8,11,15,26,33,41,84,86,96,115],[(10,[9999,0,0,1,2,3,4,5,6])]⟩ Tryz.func55 follows fun Q C=>?_
 refine cD 2 [(2,fl As l)] h (fun G h=>?_) fun G h=>?_
 cases h
 exact rt 1 [] C
 refine mI 1 [] h (fun _=>⟨[(2,iP 0)],[]⟩) ?_ fun y e h hJ=>?_
 rintro _ h
 cases h
 exact rt 1 [] C
 refine lF 1 [] (A:=Int) (fun n i=>Ea n l i) (fun i=>⟨[(0,hC l),(2,iP 0),(3,iP i)],[]⟩) 0 e (fun _=>rfl) ?_
 rintro n i e ih
 replace e:=(Ea.eq_2 ..).symm.trans e
 refine cD 1 [(2,fl As l)] e (fun H e=>?_) fun H e=>?_
 obtain⟨x,T,e⟩:=Ab e
 obtain⟨name,D,e⟩:=Ab e
 refine cD 4 [(2,fi As T),(5,fk (Sq _ _ _ D))] e (fun I e=>?_) fun I e=>?_
 cases e
 cases h
 exact rt 1 [] C
 obtain⟨l1,M,e⟩:=Ab e
 obtain⟨again,z,e⟩:=Ab e
 refine cD 2 [(2,fsl As M),(2,fk (T7 _ _ _ _ z))] e (fun J e=>?_) fun J e=>?_
 cases e
 cases h
 exact rt 1 [] C
 refine mE 0 [] e (fun v41=>⟨[(0,hC l),(2,iP 0),(3,iP i),(4,.ptr 0 0),(41,bP v41)],[kC x]⟩) ?_ fun y1 e1 K=>?_
 rintro v41 e
 refine cD 0 [] e (fun L e=>?_) fun L e=>?_
 cases e
 cases h
 exact rt 1 [] C
 refine mE 0 [] e (fun v84=>⟨[(0,hC l),(2,iP 0),(3,iP i),(4,.ptr 0 0),(84,bP v84)],[kC x]⟩) ?_ fun y2 e2 f=>?_
 rintro v84 e
 refine cD 0 [] e (fun N e=>?_) fun N e=>?_
 cases e
 cases h
 exact rt 1 [] C
 refine mI 1 [] e (fun _=>⟨[(0,hC l),(2,iP 0),(3,iP i)],[kC x]⟩) ?_ fun y3 e3 e O=>?_
 rintro _ e
 exact mJ 1 [] (ih _ e)
 refine lF 1 [] (A:=Int) (fun n k=>BQ n x k) (fun k=>⟨[(0,hC l),(2,iP 0),(3,iP i),(4,.ptr 0 0),(7,iP k)],[kC x]⟩) 0 e3 (fun _=>rfl) ?_
 rintro n k e3 P
 replace e3:=(BQ.eq_2 ..).symm.trans e3
 refine cD 1 [] e3 (fun R e3=>?_) fun R e3=>?_
 obtain⟨p,U,e3⟩:=Ab e3
 obtain⟨t,V,e3⟩:=Ab e3
 refine cD 3 [(2,fk (Pt _ _ _ U)),(0,fk (LF _ _ _ V))] e3 (fun S e3=>?_) fun S e3=>?_
 cases e3
 cases e
 cases h
 exact rt 1 [] C
 refine mE 0 [] e3 (fun v115=>⟨[(0,hC l),(2,iP 0),(3,iP i),(4,.ptr 0 0),(7,iP k),(115,bP v115)],[kC x,kL t]⟩) ?_ fun y4 e4 s=>?_
 rintro v115 e3
 refine cD 0 [] e3 (fun W e3=>?_) fun W e3=>?_
 cases e3
 cases e
 cases h
 exact rt 1 [] C
 exact mJ 1 [] (P _ e3)
 rcases Aj e4 with⟨q,e4⟩|⟨q,e4⟩
 rcases Aj e4 with⟨B,e4⟩|⟨B,e4⟩
 exact mJ 1 [(2,fo q),(4,fo B)] (s _ (oj e4))
 rcases Aj e4 with⟨E,e4⟩|⟨E,e4⟩
 exact mJ 1 [(2,fo q),(4,fo B),(2,fo E)] (s _ (oj e4))
 exact mJ 1 [(2,fo q),(4,fo B),(2,fo E)] (s _ (oj e4))
 rcases Aj e4 with⟨F,e4⟩|⟨F,e4⟩
 exact mJ 1 [(2,fo q),(7,fo F)] (s _ (oj e4))
 exact mJ 1 [(2,fo q),(7,fo F)] (s _ (oj e4))
 exact mJ 1 [] (O _ (oj e3))
 rcases Aj e2 with⟨d,e2⟩|⟨d,e2⟩
 exact mJ 1 [(3,fo d)] (f _ (oj e2))
 rcases Aj e2 with⟨g,e2⟩|⟨g,e2⟩
 exact mJ 1 [(3,fo d),(4,fo g)] (f _ (oj e2))
 rcases Aj e2 with⟨a,e2⟩|⟨a,e2⟩
 exact mJ 1 [(3,fo d),(4,fo g),(4,fo a)] (f _ (oj e2))
 rcases Aj e2 with⟨b,e2⟩|⟨b,e2⟩
 exact mJ 1 [(3,fo d),(4,fo g),(4,fo a),(4,fo b)] (f _ (oj e2))
 rcases Aj e2 with⟨c,e2⟩|⟨c,e2⟩
 rcases Aj e2 with⟨j,e2⟩|⟨j,e2⟩
 exact mJ 1 [(3,fo d),(4,fo g),(4,fo a),(4,fo b),(3,fo c),(5,fo j)] (f _ (oj e2))
 rcases Aj e2 with⟨m,e2⟩|⟨m,e2⟩
 rcases Aj e2 with⟨u,e2⟩|⟨u,e2⟩
 exact mJ 1 [(3,fo d),(4,fo g),(4,fo a),(4,fo b),(3,fo c),(5,fo j),(3,fo m),(3,fo u)] (f _ (oj e2))
 exact mJ 1 [(3,fo d),(4,fo g),(4,fo a),(4,fo b),(3,fo c),(5,fo j),(3,fo m),(3,fo u)] (f _ (oj e2))
 exact mJ 1 [(3,fo d),(4,fo g),(4,fo a),(4,fo b),(3,fo c),(5,fo j),(3,fo m)] (f _ (oj e2))
 rcases Aj e2 with⟨o,e2⟩|⟨o,e2⟩
 rcases Aj e2 with⟨v,e2⟩|⟨v,e2⟩
 exact mJ 1 [(3,fo d),(4,fo g),(4,fo a),(4,fo b),(3,fo c),(9,fo o),(3,fo v)] (f _ (oj e2))
 exact mJ 1 [(3,fo d),(4,fo g),(4,fo a),(4,fo b),(3,fo c),(9,fo o),(3,fo v)] (f _ (oj e2))
 exact mJ 1 [(3,fo d),(4,fo g),(4,fo a),(4,fo b),(3,fo c),(9,fo o)] (f _ (oj e2))
 rcases Aj e1 with⟨w,e1⟩|⟨w,e1⟩
 exact mJ 1 [(3,fo w)] (K _ (oj e1))
 exact mJ 1 [(3,fo w)] (K _ (oj e1))
 exact mJ 1 [] (hJ _ (oj e))
theorem Va (n:Nat)(d:Ai)(known:Int)(kind:Int)(who:Int)(r:Int)(h:DZ n d known kind who=some r):BZ Tryz.prog 135 [.agg (kD d),iP known,iP kind,iP who] (iP r):=by
 unfold DZ at h
 refine vP ⟨[0,1,2,3,4,8,9,10,11,12,17,46],[]⟩ Tryz.func135 follows fun Q i=>?_
 refine mE 4 [] h (fun out=>⟨[(8,iP 0),(9,iP out)],[kD d]⟩) ?_ fun y e hJ=>?_
 rintro out h
 cases h
 exact rt 1 [] i
 refine lF 1 [] (A:=(Int×Int×Int)) (fun n (out1,best,k)=>Cu n d kind who known out1 best k) (fun (out1,best,k)=>⟨[(1,iP known),(2,iP kind),(3,iP who),(4,.ptr 0 0),(8,iP 0),(9,iP out1),(10,iP best),(11,iP k)],[kD d]⟩) (41667,-1,0) e (fun _=>rfl) ?_
 rintro n ⟨out1,best,k⟩ e ih
 replace e:=(Cu.eq_2 ..).symm.trans e
 refine cD 1 [(3,fl Bz d.Facts)] e (fun g e=>?_) fun g e=>?_
 obtain⟨x,j,e⟩:=Ab e
 refine mE 2 [(3,fi Bz j)] e (fun v46=>⟨[(1,iP known),(2,iP kind),(3,iP who),(4,.ptr 0 0),(8,iP 0),(9,iP out1),(10,iP best),(11,iP k),(12,.ptr 1 0),(46,bP v46)],[kD d,kZ x]⟩) ?_ fun y1 e1 b=>?_
 rintro v46 e
 refine cD 0 [] e (fun l e=>?_) fun l e=>?_
 exact mJ 3 [] (ih (_,_,_) e)
 exact mJ 1 [] (ih (_,_,_) e)
 rcases Aj e1 with⟨a,e1⟩|⟨a,e1⟩
 rcases Aj e1 with⟨c,e1⟩|⟨c,e1⟩
 rcases Aj e1 with⟨f,e1⟩|⟨f,e1⟩
 exact mJ 1 [(4,fo a),(5,fo c),(5,fo f)] (b _ (oj e1))
 exact mJ 1 [(4,fo a),(5,fo c),(5,fo f)] (b _ (oj e1))
 exact mJ 1 [(4,fo a),(5,fo c)] (b _ (oj e1))
 exact mJ 1 [(4,fo a)] (b _ (oj e1))
 exact mJ 1 [] (hJ _ (oj e))
theorem Q8 (a_:Int)(b:Int)(r:Int)(h:E8 a_ b=some r):BZ Tryz.prog 137 [iP a_,iP b] (iP r):=by
 unfold E8 at h
 refine vP ⟨[0,1,4,5,6,7,8,14,28,45],[]⟩ Tryz.func137 follows fun Q k=>?_
 refine mE 2 [] h (fun v14=>⟨[(0,iP a_),(1,iP b),(4,iP 0),(5,iP 999999999999999),(14,bP v14)],[]⟩) ?_ fun y e hJ=>?_
 rintro v14 h
 refine cD 0 [] h (fun l h=>?_) fun l h=>?_
 cases h
 exact rt 1 [] k
 obtain⟨q,n,h⟩:=Ab h
 refine mE 4 [(15,fz .i64 n)] h (fun n_=>⟨[(0,iP a_),(1,iP b),(4,iP 0),(8,iP n_)],[]⟩) ?_ fun y1 e1 j=>?_
 rintro n_ h
 refine mE 0 [] h (fun v45=>⟨[(4,iP 0),(8,iP n_),(45,bP v45)],[]⟩) ?_ fun y2 e2 c=>?_
 rintro v45 h
 refine cD 0 [] h (fun o h=>?_) fun o h=>?_
 cases h
 exact rt 1 [] k
 cases h
 exact rt 1 [] k
 rcases Aj e2 with⟨a,e2⟩|⟨a,e2⟩
 rcases Aj e2 with⟨d,e2⟩|⟨d,e2⟩
 exact mJ 1 [(2,fo a),(3,fo d)] (c _ (oj e2))
 rcases Aj e2 with⟨f,e2⟩|⟨f,e2⟩
 exact mJ 1 [(2,fo a),(3,fo d),(2,fo f)] (c _ (oj e2))
 exact mJ 1 [(2,fo a),(3,fo d),(2,fo f)] (c _ (oj e2))
 rcases Aj e2 with⟨g,e2⟩|⟨g,e2⟩
 exact mJ 1 [(2,fo a),(6,fo g)] (c _ (oj e2))
 exact mJ 1 [(2,fo a),(6,fo g)] (c _ (oj e2))
 refine cD 0 [] e1 (fun m e1=>?_) fun m e1=>?_
 exact mJ 1 [] (j _ (oj e1))
 exact mJ 0 [] (j _ (oj e1))
 rcases Aj e with⟨i,e⟩|⟨i,e⟩
 exact mJ 1 [(2,fo i)] (hJ _ (oj e))
 exact mJ 1 [(2,fo i)] (hJ _ (oj e))
theorem T8 (d:Int)(n_:Int)(r:Int)(h:ET d n_=some r):BZ Tryz.prog 138 [iP d,iP n_] (iP r):=by
 unfold ET at h
 refine vP ⟨[0,1,4,6],[]⟩ Tryz.func138 follows fun Q a=>?_
 refine cD 2 [] h (fun b h=>?_) fun b h=>?_
 cases h
 exact rt 1 [] a
 cases h
 exact rt 1 [] a
theorem Sm (n_:Int)(r:Int)(h:DC n_=some r):BZ Tryz.prog 139 [iP n_] (iP r):=by
 unfold DC at h
 refine vP ⟨[0,2],[]⟩ Tryz.func139 follows fun Q a=>?_
 cases h
 exact rt 2 [] a
theorem Gn (is_:Bool)(r:Int)(h:Ch is_=some r):BZ Tryz.prog 155 [bP is_] (iP r):=by
 unfold Ch at h
 refine vP ⟨[0,2,3],[]⟩ Tryz.func155 follows fun Q a=>?_
 refine cD 2 [] h (fun b h=>?_) fun b h=>?_
 cases h
 exact rt 1 [] a
 cases h
 exact rt 1 [] a
theorem Q9 (op:Int)(a_:Int)(b:Int)(r:Int)(h:HV op a_ b=some r):BZ Tryz.prog 140 [iP op,iP a_,iP b] (iP r):=by
 unfold HV at h
 refine vP ⟨[0,1,2,6,7,8,14,20,26,32],[]⟩ Tryz.func140 follows fun Q a=>?_
 refine cD 4 [] h (fun c h=>?_) fun c h=>?_
 obtain⟨t,m,h⟩:=Ab h
 cases h
 exact rt 1 [(3,fk (Gn _ _ m))] a
 refine cD 1 [] h (fun d h=>?_) fun d h=>?_
 obtain⟨t1,e,h⟩:=Ab h
 cases h
 exact rt 1 [(3,fk (Gn _ _ e))] a
 refine cD 1 [] h (fun f h=>?_) fun f h=>?_
 obtain⟨t2,g,h⟩:=Ab h
 cases h
 exact rt 1 [(3,fk (Gn _ _ g))] a
 refine cD 1 [] h (fun i h=>?_) fun i h=>?_
 obtain⟨t3,j,h⟩:=Ab h
 cases h
 exact rt 1 [(3,fk (Gn _ _ j))] a
 refine cD 1 [] h (fun n h=>?_) fun n h=>?_
 obtain⟨t4,k,h⟩:=Ab h
 cases h
 exact rt 1 [(3,fk (Gn _ _ k))] a
 obtain⟨t5,l,h⟩:=Ab h
 cases h
 exact rt 1 [(3,fk (Gn _ _ l))] a
theorem Ss (n0:Nat)
 (ih_ref33_Eval:∀ m,m<=n0->∀ (e:Af) (d:Ai) (known:Int) (r:Int),BJ m e d known=some r->BZ Tryz.prog 81 [.agg (kX e),.agg (kD d),iP known] (iP r))
 (n:Nat) (hn:n<=n0) (e:Af) (d:Ai) (known:Int) (r:Int) (h:BJ (n+1) e d known=some r):BZ Tryz.prog 81 [.agg (kX e),.agg (kD d),iP known] (iP r):=by
 replace h:=(BJ.eq_2 ..).symm.trans h
 refine vP ⟨[0,1,2,3,4,6,7,8,9,10,11,16,31,32,36,39,40,42,46,50,53,54,61,68,77,95,101,107,116,124,144,156,165,174,179],[(5,[9999,0,0,1,2,3,4,5,6,7,8,9,10,11]),(25,[9999,0,0,1,2,3,4,5,6,7]),(27,[9999,0,0,1,2,3,4,5,6,7]),(28,[9999,0,0,1,2,3,5,6,7,4,8,9]),(34,[9999,0,0,1,2,3,4,5,6,7]),(46,[9999,0,0,1,2,3,4,5,6,7]),(48,[9999,0,0,1,2,3,4,5,6,7]),(53,[9999,0,0,1,2,3,4,5,6,7,8,9])]⟩ Tryz.func81 follows fun Q a=>?_
 refine mE 3 [] h (fun x=>⟨[(2,iP known),(3,.ptr 0 0),(4,.ptr 1 0),(6,iP 0),(7,oI x)],[kX e,kD d]⟩) ?_ fun y e1 hJ=>?_
 rintro x h
 refine cD 3 [] h (fun j h=>?_) fun j h=>?_
 cases h
 exact rt 1 [] a
 refine cD 1 [] h (fun o h=>?_) fun o h=>?_
 refine cD 3 [] h (fun hc2 h=>?_) fun hc2 h=>?_
 cases h
 exact rt 1 [] a
 refine cD 1 [] h (fun hc1 h=>?_) fun hc1 h=>?_
 cases h
 exact rt 1 [] a
 refine cD 1 [] h (fun hc h=>?_) fun hc h=>?_
 cases h
 exact rt 1 [] a
 cases h
 exact rt 1 [] a
 refine cD 1 [] h (fun q h=>?_) fun q h=>?_
 refine cD 3 [] h (fun hc6 h=>?_) fun hc6 h=>?_
 obtain⟨x1,hx1,h⟩:=Ab h
 cases h
 exact rt 1 [(1,fi An hx1)] a
 refine cD 1 [] h (fun hc5 h=>?_) fun hc5 h=>?_
 obtain⟨x2,hx2,h⟩:=Ab h
 cases h
 exact rt 1 [(1,fi An hx2)] a
 refine cD 1 [] h (fun hc4 h=>?_) fun hc4 h=>?_
 obtain⟨x3,hx3,h⟩:=Ab h
 obtain⟨x4,hx4,h⟩:=Ab h
 cases h
 exact rt 1 [(1,fi An hx3),(2,fi An hx4)] a
 refine cD 1 [] h (fun hc3 h=>?_) fun hc3 h=>?_
 obtain⟨x5,hx5,h⟩:=Ab h
 obtain⟨x6,hx6,h⟩:=Ab h
 cases h
 exact rt 1 [(1,fi An hx5),(2,fi An hx6)] a
 obtain⟨x7,hx7,h⟩:=Ab h
 obtain⟨f,hf,h⟩:=Ab h
 obtain⟨l,hl,h⟩:=Ab h
 cases h
 exact rt 1 [(5,fi An hx7),(1,fk (NT _ _ hf)),(0,fk (Va _ _ _ _ _ _ hl))] a
 refine cD 1 [] h (fun s h=>?_) fun s h=>?_
 obtain⟨x8,hx8,h⟩:=Ab h
 cases h
 exact rt 1 [(1,fi An hx8)] a
 refine cD 1 [] h (fun t h=>?_) fun t h=>?_
 obtain⟨x9,hx9,h⟩:=Ab h
 cases h
 exact rt 1 [(1,fi An hx9)] a
 refine cD 1 [] h (fun u h=>?_) fun u h=>?_
 obtain⟨x10,v,h⟩:=Ab h
 obtain⟨x11,w,h⟩:=Ab h
 obtain⟨p,hp,h⟩:=Ab h
 cases h
 exact rt 1 [(1,fi An v),(2,fi An w),(1,fk (Q8 _ _ _ hp))] a
 refine mE 1 [] h (fun v116=>⟨[(3,.ptr 0 0),(6,iP 0),(7,oI x),(31,iP e.Op),(116,bP v116)],[kX e,kD d]⟩) ?_ fun y1 e2 z=>?_
 rintro v116 h
 refine cD 0 [] h (fun B h=>?_) fun B h=>?_
 obtain⟨x12,C,h⟩:=Ab h
 refine mE 2 [(1,fi An C)] h (fun n_=>⟨[(3,.ptr 0 0),(6,iP 0),(7,oI x),(9,iP n_)],[kX e,kD d]⟩) ?_ fun y2 e3 D=>?_
 rintro n_ h
 obtain⟨x13,E,h⟩:=Ab h
 obtain⟨left,g,h⟩:=Ab h
 obtain⟨x14,F,h⟩:=Ab h
 obtain⟨right,b,h⟩:=Ab h
 refine mE 2 [(2,fi AZ E),(1,fk (LF _ _ _ g)),(4,fi AZ F),(1,fk (LF _ _ _ b))] h (fun v144=>⟨[(3,.ptr 0 0),(6,iP 0),(7,oI x),(9,iP n_),(144,bP v144)],[kX e,kD d,kL left,kL right]⟩) ?_ fun y3 e4 G=>?_
 rintro v144 h
 refine cD 0 [] h (fun hc7 h=>?_) fun hc7 h=>?_
 obtain⟨x15,H,h⟩:=Ab h
 obtain⟨m_,hm_,h⟩:=Ab h
 cases h
 exact rt 1 [(1,fi An H),(2,fk (T8 _ _ _ hm_))] a
 obtain⟨x16,I,h⟩:=Ab h
 obtain⟨n_1,J,h⟩:=Ab h
 cases h
 exact rt 1 [(1,fi An I),(3,fk (Sm _ _ J))] a
 rcases Aj e4 with⟨i,e4⟩|⟨i,e4⟩
 exact mJ 1 [(3,fo i)] (G _ (oj e4))
 exact mJ 1 [(3,fo i)] (G _ (oj e4))
 refine cD 0 [] e3 (fun hc9 e3=>?_) fun hc9 e3=>?_
 exact mJ 1 [] (D _ (oj e3))
 exact mJ 0 [] (D _ (oj e3))
 refine cD 1 [] h (fun K h=>?_) fun K h=>?_
 obtain⟨x17,L,h⟩:=Ab h
 obtain⟨x18,M,h⟩:=Ab h
 cases h
 exact rt 1 [(1,fi An L),(2,fi An M)] a
 refine cD 1 [] h (fun N h=>?_) fun N h=>?_
 obtain⟨x19,O,h⟩:=Ab h
 obtain⟨x20,P,h⟩:=Ab h
 cases h
 exact rt 1 [(1,fi An O),(2,fi An P)] a
 refine cD 1 [] h (fun R h=>?_) fun R h=>?_
 obtain⟨x21,S,h⟩:=Ab h
 refine cD 1 [(1,fi An S)] h (fun T h=>?_) fun T h=>?_
 obtain⟨x22,U,h⟩:=Ab h
 cases h
 exact rt 1 [(1,fi An U)] a
 obtain⟨x23,V,h⟩:=Ab h
 cases h
 exact rt 1 [(1,fi An V)] a
 obtain⟨x24,W,h⟩:=Ab h
 obtain⟨x25,X,h⟩:=Ab h
 obtain⟨c,Y,h⟩:=Ab h
 cases h
 exact rt 1 [(3,fi An W),(2,fi An X),(1,fk (Q9 _ _ _ _ Y))] a
 refine cD 0 [] e2 (fun Z e2=>?_) fun Z e2=>?_
 exact mJ 0 [] (z _ (oj e2))
 exact mJ 1 [] (z _ (oj e2))
 refine lR 1 [] (A:=((List Int)×Int)) (fun n (x26,k)=>Di n e d known x26 k) (fun (x26,k)=>⟨[(2,iP known),(3,.ptr 0 0),(4,.ptr 1 0),(6,iP 0),(7,oI x26),(8,iP k)],[kX e,kD d]⟩) ([],0) hn e1 (fun _=>rfl) ?_
 rintro n ⟨x26,k⟩ hn e1 ih
 replace e1:=(Di.eq_2 ..).symm.trans e1
 refine cD 1 [(3,fl AZ e.Kids)] e1 (fun hc23 e1=>?_) fun hc23 e1=>?_
 obtain⟨x27,hx27,e1⟩:=Ab e1
 obtain⟨e5,he5,e1⟩:=Ab e1
 obtain⟨l1,hl1,e1⟩:=Ab e1
 obtain⟨l2,hl2,e1⟩:=Ab e1
 exact mJ 3 [(4,fi AZ hx27),(3,fk (ih_ref33_Eval _ hn _ _ _ _ he5)),(0,fB An hl1),(0,fa An hl2)] (ih (_,_) e1)
 exact mJ 1 [] (hJ _ (oj e1))
theorem LQ:∀ n:Nat,(∀ m,m<=n->∀ (e:Af) (d:Ai) (known:Int) (r:Int),BJ m e d known=some r->BZ Tryz.prog 81 [.agg (kX e),.agg (kD d),iP known] (iP r))
 |0=>(fun m hm e d known r h=>by
  obtain rfl:m=0:=by omega
  exact absurd h (by simp [BJ]))
 |n+1=>by
  have ih:=LQ n
  exact fun m hm e d known r h=>by
   cases m with
   |zero=>exact absurd h (by simp [BJ])
   |succ m=>exact Ss n (ih) m (by omega) e d known _ h
theorem Ic (n:Nat)(e:Af)(d:Ai)(known:Int)(r:Int)(h:BJ n e d known=some r):BZ Tryz.prog 81 [.agg (kX e),.agg (kD d),iP known] (iP r) :=
 (LQ n) n (ä _) e d known r h
theorem Pu (n:Nat)(c:Aa)(d:Ai)(known:Int)(r:Fy)(h:Jk n c d known=some r):BZ Tryz.prog 59 [.agg (kC c),.agg (kD d),iP known] (.agg (kN r)):=by
 unfold Jk at h
 refine vP ⟨[0,1,2,3,4,6,7,12,19],[(7,[9999,0,0,1,2,3,5,6,7,8,10,11,12,13,4,9,14,15,16,17,18,19,20,21,22,23])]⟩ Tryz.func59 follows fun Q f=>?_
 obtain⟨l,o,h⟩:=Ab h
 obtain⟨e,p,h⟩:=Ab h
 refine cD 3 [(4,fB As o),(0,fk (NV _ _ _ p))] h (fun g h=>?_) fun g h=>?_
 cases h
 exact rt 1 [] f
 obtain⟨e1,i,h⟩:=Ab h
 refine cD 2 [(2,fk (NU _ _ _ _ i))] h (fun j h=>?_) fun j h=>?_
 cases h
 exact rt 1 [] f
 refine mE 0 [] h (fun (q,q1,q2)=>⟨[(6,.ptr 2 0)],[kC c,kD d,[iP q,iP q1,bP q2,iP 0]]⟩) ?_ fun y e2 hJ=>?_
 rintro⟨q,q1,q2⟩ h
 cases h
 exact rt 0 [] f
 obtain⟨e3,a,e2⟩:=Ab e2
 obtain⟨e4,b,e2⟩:=Ab e2
 rcases Aj e2 with⟨k,e2⟩|⟨k,e2⟩
 obtain⟨e5,m,e2⟩:=Ab e2
 exact mJ 1 [(12,fk (Ic _ _ _ _ _ a)),(0,fk (Ic _ _ _ _ _ b)),(0,fo k),(4,fk (Ic _ _ _ _ _ m))] (hJ _ (oj e2))
 exact mJ 1 [(12,fk (Ic _ _ _ _ _ a)),(0,fk (Ic _ _ _ _ _ b)),(0,fo k)] (hJ _ (oj e2))
theorem Sn (n0:Nat)
 (ih_ref33_left:∀ m,m<=n0->∀ (e:Af) (n_:Int) (r:Int),C4 m e n_=some r->BZ Tryz.prog 46 [.agg (kX e),iP n_] (iP r))
 (n:Nat) (hn:n<=n0) (e:Af) (n_:Int) (r:Int) (h:C4 (n+1) e n_=some r):BZ Tryz.prog 46 [.agg (kX e),iP n_] (iP r):=by
 replace h:=(C4.eq_2 ..).symm.trans h
 refine vP ⟨[0,1,2,4,5,16],[]⟩ Tryz.func46 follows fun Q d=>?_
 refine mE 3 [] h (fun n_1=>⟨[(1,iP n_1),(4,iP 0)],[kX e]⟩) ?_ fun y e1 hJ=>?_
 rintro n_1 h
 cases h
 exact rt 1 [] d
 refine lR 1 [] (A:=(Int×Int)) (fun n (n_2,k)=>Dh n e n_2 k) (fun (n_2,k)=>⟨[(1,iP n_2),(2,.ptr 0 0),(4,iP 0),(5,iP k)],[kX e]⟩) ((À (n_-1)),0) hn e1 (fun _=>rfl) ?_
 rintro n ⟨n_2,k⟩ hn e1 ih
 replace e1:=(Dh.eq_2 ..).symm.trans e1
 refine mE 0 [] e1 (fun v16=>⟨[(1,iP n_2),(2,.ptr 0 0),(4,iP 0),(5,iP k),(16,bP v16)],[kX e]⟩) ?_ fun y1 e2 b=>?_
 rintro v16 e1
 refine cD 0 [] e1 (fun f e1=>?_) fun f e1=>?_
 obtain⟨x,g,e1⟩:=Ab e1
 obtain⟨n_3,c,e1⟩:=Ab e1
 exact mJ 3 [(3,fi AZ g),(2,fk (ih_ref33_left _ hn _ _ _ c))] (ih (_,_) e1)
 exact mJ 1 [] (hJ _ (oj e1))
 rcases Aj e2 with⟨a,e2⟩|⟨a,e2⟩
 exact mJ 1 [(3,fl AZ e.Kids),(1,fo a)] (b _ (oj e2))
 exact mJ 1 [(3,fl AZ e.Kids),(1,fo a)] (b _ (oj e2))
theorem LO:∀ n:Nat,(∀ m,m<=n->∀ (e:Af) (n_:Int) (r:Int),C4 m e n_=some r->BZ Tryz.prog 46 [.agg (kX e),iP n_] (iP r))
 |0=>(fun m hm e n_ r h=>by
  obtain rfl:m=0:=by omega
  exact absurd h (by simp [C4]))
 |n+1=>by
  have ih:=LO n
  exact fun m hm e n_ r h=>by
   cases m with
   |zero=>exact absurd h (by simp [C4])
   |succ m=>exact Sn n (ih) m (by omega) e n_ _ h
theorem UY (n:Nat)(e:Af)(n_:Int)(r:Int)(h:C4 n e n_=some r):BZ Tryz.prog 46 [.agg (kX e),iP n_] (iP r) :=
 (LO n) n (ä _) e n_ r h
theorem KB (n:Nat)(l:(List Aa))(n_:Int)(r:Bool)(h:Kh n l n_=some r):BZ Tryz.prog 25 [hC l,iP n_] (bP r):=by
 unfold Kh at h
 refine vP ⟨[0,1,4,5,6,9,17,25],[]⟩ Tryz.func25 follows fun Q q=>?_
 refine cD 2 [(2,fl As l)] h (fun g h=>?_) fun g h=>?_
 cases h
 exact rt 1 [] q
 refine mE 1 [] h (fun n_1=>⟨[(1,iP n_1),(4,bP false)],[]⟩) ?_ fun y e hJ=>?_
 rintro n_1 h
 cases h
 exact rt 1 [] q
 refine lF 1 [] (A:=(Int×Int)) (fun n (n_2,i)=>DD n l n_2 i) (fun (n_2,i)=>⟨[(0,hC l),(1,iP n_2),(4,bP false),(5,iP i)],[]⟩) (n_,0) e (fun _=>rfl) ?_
 rintro n ⟨n_2,i⟩ e ih
 replace e:=(DD.eq_2 ..).symm.trans e
 refine mE 0 [] e (fun v17=>⟨[(0,hC l),(1,iP n_2),(4,bP false),(5,iP i),(17,bP v17)],[]⟩) ?_ fun y1 e1 c=>?_
 rintro v17 e
 refine cD 0 [] e (fun j e=>?_) fun j e=>?_
 refine mE 2 [] e (fun n_3=>⟨[(0,hC l),(1,iP n_3),(4,bP false),(5,iP i)],[]⟩) ?_ fun y2 e2 m=>?_
 rintro n_3 e
 exact mJ 1 [] (ih (_,_) e)
 refine lF 1 [] (A:=(Int×Int)) (fun n (n_4,k)=>Cm n l i n_4 k) (fun (n_4,k)=>⟨[(0,hC l),(1,iP n_4),(4,bP false),(5,iP i),(6,iP k)],[]⟩) (n_2,0) e2 (fun _=>rfl) ?_
 rintro n ⟨n_4,k⟩ e2 o
 replace e2:=(Cm.eq_2 ..).symm.trans e2
 refine mE 0 [] e2 (fun v25=>⟨[(0,hC l),(1,iP n_4),(4,bP false),(5,iP i),(6,iP k),(25,bP v25)],[]⟩) ?_ fun y3 e3 d=>?_
 rintro v25 e2
 refine cD 0 [] e2 (fun s e2=>?_) fun s e2=>?_
 obtain⟨x,t,e2⟩:=Ab e2
 obtain⟨p,u,e2⟩:=Ab e2
 obtain⟨n_5,f,e2⟩:=Ab e2
 exact mJ 3 [(2,fi As t),(2,fk (Pt _ _ _ u)),(1,fk (UY _ _ _ _ f))] (o (_,_) e2)
 exact mJ 1 [] (m _ (oj e2))
 rcases Aj e3 with⟨a,e3⟩|⟨a,e3⟩
 exact mJ 1 [(2,fo a)] (d _ (oj e3))
 exact mJ 1 [(2,fo a)] (d _ (oj e3))
 exact mJ 1 [] (hJ _ (oj e))
 rcases Aj e1 with⟨b,e1⟩|⟨b,e1⟩
 exact mJ 1 [(2,fl As l),(1,fo b)] (c _ (oj e1))
 exact mJ 1 [(2,fl As l),(1,fo b)] (c _ (oj e1))
end Go.Proofs.YtehfpameijkafaaGreatDoor
namespace Go.Proofs.YtehfpameijkafaaGreatDoor
open Go.RowKit Go.Q Go.Vl Go.Sp
set_option maxRecDepth 100000
set_option linter.unusedSimpArgs false
set_option maxHeartbeats 4000000
set_option linter.unusedVariables false
theorem Ib (n:Nat)(a_:A7)(b:A7)(r:Bool)(h:HL n a_ b=some r):BZ Tryz.prog 18 [.agg (Rp a_),.agg (Rp b)] (bP r):=by
 unfold HL at h
 refine vP ⟨[0,1,2,3,4,5,26,31,44],[(6,[9999,0,0,1,2,3,4,5,6,7,8,9,10])]⟩ Tryz.func18 follows fun Q d=>?_
 refine mE 1 [] h (fun v26=>⟨[(2,.ptr 0 0),(3,.ptr 1 0),(4,bP false),(26,bP v26)],[Rp a_,Rp b]⟩) ?_ fun y e hJ=>?_
 rintro v26 h
 refine cD 0 [] h (fun f h=>?_) fun f h=>?_
 cases h
 exact rt 1 [] d
 refine mI 1 [] h (fun _=>⟨[(4,bP false)],[Rp a_,Rp b]⟩) ?_ fun y1 e1 h g=>?_
 rintro _ h
 cases h
 exact rt 1 [] d
 refine lF 1 [] (A:=Int) (fun n k=>E7 n a_ b k) (fun k=>⟨[(2,.ptr 0 0),(3,.ptr 1 0),(4,bP false),(5,iP k)],[Rp a_,Rp b]⟩) 0 e1 (fun _=>rfl) ?_
 rintro n k e1 ih
 replace e1:=(E7.eq_2 ..).symm.trans e1
 refine cD 1 [(3,fl An a_.By)] e1 (fun i e1=>?_) fun i e1=>?_
 obtain⟨x,l,e1⟩:=Ab e1
 obtain⟨x1,j,e1⟩:=Ab e1
 refine cD 2 [(3,fi An l),(4,fi An j)] e1 (fun m e1=>?_) fun m e1=>?_
 cases e1
 cases h
 exact rt 1 [] d
 exact mJ 1 [] (ih _ e1)
 exact mJ 1 [] (g _ (oj e1))
 rcases Aj e with⟨a,e⟩|⟨a,e⟩
 exact mJ 1 [(5,fo a)] (hJ _ (oj e))
 rcases Aj e with⟨c,e⟩|⟨c,e⟩
 exact mJ 1 [(5,fo a),(6,fo c)] (hJ _ (oj e))
 exact mJ 1 [(5,fo a),(6,fo c),(2,fl An a_.By),(2,fl An b.By)] (hJ _ (oj e))
theorem Bm (n:Nat)(a_:(List Al))(b:(List Al))(r:Bool)(h:CL n a_ b=some r):BZ Tryz.prog 19 [Yz a_,Yz b] (bP r):=by
 unfold CL at h
 refine vP ⟨[0,1,4,5,10,14,25],[(6,[9999,0,0,1,2,3,4,5,6,7,8])]⟩ Tryz.func19 follows fun Q a=>?_
 refine cD 2 [(2,fl Ct a_),(1,fl Ct b)] h (fun c h=>?_) fun c h=>?_
 cases h
 exact rt 1 [] a
 refine mI 1 [] h (fun _=>⟨[(4,bP false)],[]⟩) ?_ fun y e h hJ=>?_
 rintro _ h
 cases h
 exact rt 1 [] a
 refine lF 1 [] (A:=Int) (fun n k=>BI n a_ b k) (fun k=>⟨[(0,Yz a_),(1,Yz b),(4,bP false),(5,iP k)],[]⟩) 0 e (fun _=>rfl) ?_
 rintro n k e ih
 replace e:=(BI.eq_2 ..).symm.trans e
 refine cD 1 [(2,fl Ct a_)] e (fun d e=>?_) fun d e=>?_
 obtain⟨x,g,e⟩:=Ab e
 obtain⟨x1,f,e⟩:=Ab e
 refine cD 2 [(2,fi Ct g),(3,fi Ct f)] e (fun i e=>?_) fun i e=>?_
 cases e
 cases h
 exact rt 1 [] a
 exact mJ 1 [] (ih _ e)
 exact mJ 1 [] (hJ _ (oj e))
theorem WG (n:Nat)(l:(List Aa))(d:Ai)(r:Bool)(h:IN n l d=some r):BZ Tryz.prog 8 [hC l,.agg (kD d)] (bP r):=by
 unfold IN at h
 refine vP ⟨[0,1,3,4],[]⟩ Tryz.func8 follows fun Q i=>?_
 refine mE 1 [] h (fun v4=>⟨[(4,bP v4)],[kD d]⟩) ?_ fun y e hJ=>?_
 rintro v4 h
 cases h
 exact rt 0 [] i
 obtain⟨f,g,e⟩:=Ab e
 rcases Aj e with⟨c,e⟩|⟨c,e⟩
 rcases Aj e with⟨a,e⟩|⟨a,e⟩
 exact mJ 1 [(1,fk (KB _ _ _ _ g)),(0,fo c),(2,fl Bz d.Facts),(1,fo a)] (hJ _ (oj e))
 rcases Aj e with⟨b,e⟩|⟨b,e⟩
 exact mJ 1 [(1,fk (KB _ _ _ _ g)),(0,fo c),(2,fl Bz d.Facts),(1,fo a),(2,fl Bz d.Facts),(1,fo b),(2,fl Bz d.Facts)] (hJ _ (oj e))
 exact mJ 1 [(1,fk (KB _ _ _ _ g)),(0,fo c),(2,fl Bz d.Facts),(1,fo a),(2,fl Bz d.Facts),(1,fo b)] (hJ _ (oj e))
 exact mJ 1 [(1,fk (KB _ _ _ _ g)),(0,fo c)] (hJ _ (oj e))
theorem EF (n:Nat)(l:(List Aa))(d:Ai)(day:Int)(known:Int)(want:A7)(r:Bool)(h:H4 n l d day known want=some r):BZ Tryz.prog 26 [hC l,.agg (kD d),iP day,iP known,.agg (Rp want)] (bP r):=by
 unfold H4 at h
 refine vP ⟨[0,1,2,3,4,6,9,10,11,12],[]⟩ Tryz.func26 follows fun Q c=>?_
 obtain⟨a_,a,h⟩:=Ab h
 refine mE 2 [(7,fk (Vc _ _ _ _ _ _ a))] h (fun v10=>⟨[(10,bP v10)],[kD d,Rp want,[iP a_.1.State,iP a_.1.Houses,hI a_.1.By]]⟩) ?_ fun y e hJ=>?_
 rintro v10 h
 cases h
 exact rt 0 [] c
 rcases Aj e with⟨b,e⟩|⟨b,e⟩
 obtain⟨s,hs,e⟩:=Ab e
 exact mJ 1 [(2,fo b),(2,fk (Ib _ _ _ _ hs))] (hJ _ (oj e))
 exact mJ 1 [(2,fo b)] (hJ _ (oj e))
theorem MT (n:Nat)(l:(List Aa))(d:Ai)(day:Int)(known:Int)(want:A7)(r:Bool)(h:H4 n l d day known want=some r)(hw:want.By=[]):BZ Tryz.prog 26 [hC l,.agg (kD d),iP day,iP known,.agg [iP want.State,iP want.Houses,.sl [] .nil]] (bP r):=by
 have c:=EF n l d day known want r h
 rw [show Rp want=[iP want.State,iP want.Houses,hI want.By] from rfl,hw] at c
 intro σ w G vs b g m o q
 refine c σ w G vs b g (fun i e=>?_) o q
 have a:=m i e
 match i,e,a with
 |0,_,a=>exact a
 |1,_,a=>exact a
 |2,_,a=>exact a
 |3,_,a=>exact a
 |4,_,a =>
  revert a
  show V w G.U G.φ (.agg [iP want.State,iP want.Houses,.sl [] .nil]) _->V w G.U G.φ (.agg [iP want.State,iP want.Houses,.sl [] .shared]) _
  generalize vs.getD 4 Go.undef=z
  intro a
  cases a with
  |agg _ _ arr s t b =>
   refine .agg _ _ arr s (fun j f=>?_) b
   have:=t j f
   match j,f,this with
   |0,_,k=>exact k
   |1,_,k=>exact k
   |2,_,k=>exact CA (p:=.sl [] .nil) k
theorem Sv (n:Nat)(r:Bool)(h:KL n=some r):BZ Tryz.prog 9 [] (bP r):=by
 unfold KL at h
 refine vP ⟨[0,1,2,3,4,5,6,7,8,9,10,11,12,13,14,15],[]⟩ Tryz.func9 follows fun Q S=>?_
 obtain⟨c,T,h⟩:=Ab h
 obtain⟨l,U,h⟩:=Ab h
 refine mE 3 [(1,fk (OI _ _ _ T)),(7,fB Bz U)] h (fun one=>⟨[(0,bP false),(1,hC c.1),(3,.ptr 1 0),(4,bP one)],[[iP c.2.At,iP c.2.E],[hZ l,iP 10,iP 4]]⟩) ?_ fun y e hJ=>?_
 rintro one h
 refine mE 0 [] h (fun two=>⟨[(0,bP false),(1,hC c.1),(3,.ptr 1 0),(4,bP one),(5,bP two)],[[iP c.2.At,iP c.2.E],[hZ l,iP 10,iP 4]]⟩) ?_ fun y1 e1 B=>?_
 rintro two h
 obtain⟨s,hs,h⟩:=Ab h
 obtain⟨b,hb,h⟩:=Ab h
 obtain⟨l1,J,h⟩:=Ab h
 obtain⟨l2,K,h⟩:=Ab h
 obtain⟨l3,L,h⟩:=Ab h
 refine mE 5 [(2,fk (Iw _ _ _ _ _ hs)),(7,fk (NX _ _ _ _ _ hb)),(9,fk (JJ _ _ _ _ _ _ J)),(7,fk (JJ _ _ _ _ _ _ K)),(10,fB Ct L)] h (fun v0_=>⟨[(0,bP v0_)],[[iP c.2.At,iP c.2.E],[hZ l,iP 10,iP 4]]⟩) ?_ fun y2 e2 d=>?_
 rintro v0_ h
 cases h
 exact rt 0 [] S
 rcases Aj e2 with⟨a,e2⟩|⟨a,e2⟩
 rcases Aj e2 with⟨f,e2⟩|⟨f,e2⟩
 rcases Aj e2 with⟨g,e2⟩|⟨g,e2⟩
 obtain⟨s1,k,e2⟩:=Ab e2
 rcases Aj e2 with⟨j,e2⟩|⟨j,e2⟩
 rcases Aj e2 with⟨m,e2⟩|⟨m,e2⟩
 rcases Aj e2 with⟨p,e2⟩|⟨p,e2⟩
 rcases Aj e2 with⟨u,e2⟩|⟨u,e2⟩
 rcases Aj e2 with⟨v,e2⟩|⟨v,e2⟩
 rcases Aj e2 with⟨A,e2⟩|⟨A,e2⟩
 rcases Aj e2 with⟨w,e2⟩|⟨w,e2⟩
 exact mJ 1 [(1,fo a),(2,fo f),(3,fo g),(2,fk (Bm _ _ _ _ k)),(1,fo j),(3,fo m),(3,fo p),(3,fo u),(3,fo v),(3,fo A),(3,fo w)] (d _ (oj e2))
 exact mJ 1 [(1,fo a),(2,fo f),(3,fo g),(2,fk (Bm _ _ _ _ k)),(1,fo j),(3,fo m),(3,fo p),(3,fo u),(3,fo v),(3,fo A),(3,fo w)] (d _ (oj e2))
 exact mJ 1 [(1,fo a),(2,fo f),(3,fo g),(2,fk (Bm _ _ _ _ k)),(1,fo j),(3,fo m),(3,fo p),(3,fo u),(3,fo v),(3,fo A)] (d _ (oj e2))
 exact mJ 1 [(1,fo a),(2,fo f),(3,fo g),(2,fk (Bm _ _ _ _ k)),(1,fo j),(3,fo m),(3,fo p),(3,fo u),(3,fo v)] (d _ (oj e2))
 exact mJ 1 [(1,fo a),(2,fo f),(3,fo g),(2,fk (Bm _ _ _ _ k)),(1,fo j),(3,fo m),(3,fo p),(3,fo u)] (d _ (oj e2))
 exact mJ 1 [(1,fo a),(2,fo f),(3,fo g),(2,fk (Bm _ _ _ _ k)),(1,fo j),(3,fo m),(3,fo p)] (d _ (oj e2))
 exact mJ 1 [(1,fo a),(2,fo f),(3,fo g),(2,fk (Bm _ _ _ _ k)),(1,fo j),(3,fo m)] (d _ (oj e2))
 exact mJ 1 [(1,fo a),(2,fo f),(3,fo g),(2,fk (Bm _ _ _ _ k)),(1,fo j)] (d _ (oj e2))
 exact mJ 1 [(1,fo a),(2,fo f),(3,fo g)] (d _ (oj e2))
 exact mJ 1 [(1,fo a),(2,fo f)] (d _ (oj e2))
 exact mJ 1 [(1,fo a)] (d _ (oj e2))
 obtain⟨l4,C,e1⟩:=Ab e1
 obtain⟨i,M,e1⟩:=Ab e1
 rcases Aj e1 with⟨q,e1⟩|⟨q,e1⟩
 obtain⟨l5,G,e1⟩:=Ab e1
 obtain⟨i1,H,e1⟩:=Ab e1
 rcases Aj e1 with⟨x,e1⟩|⟨x,e1⟩
 obtain⟨l6,N,e1⟩:=Ab e1
 obtain⟨i2,O,e1⟩:=Ab e1
 exact mJ 1 [(2,fB An C),(1,fk (EF _ _ _ _ _ _ _ M)),(0,fo q),(2,fB An G),(1,fk (EF _ _ _ _ _ _ _ H)),(1,fo x),(2,fB An N),(1,fk (EF _ _ _ _ _ _ _ O))] (B _ (oj e1))
 exact mJ 1 [(2,fB An C),(1,fk (EF _ _ _ _ _ _ _ M)),(0,fo q),(2,fB An G),(1,fk (EF _ _ _ _ _ _ _ H)),(1,fo x)] (B _ (oj e1))
 exact mJ 1 [(2,fB An C),(1,fk (EF _ _ _ _ _ _ _ M)),(0,fo q)] (B _ (oj e1))
 rcases Aj e with⟨o,e⟩|⟨o,e⟩
 obtain⟨l7,D,e⟩:=Ab e
 obtain⟨i3,F,e⟩:=Ab e
 rcases Aj e with⟨t,e⟩|⟨t,e⟩
 obtain⟨i4,I,e⟩:=Ab e
 rcases Aj e with⟨z,e⟩|⟨z,e⟩
 obtain⟨l8,P,e⟩:=Ab e
 obtain⟨i5,R,e⟩:=Ab e
 exact mJ 1 [(3,fo o),(2,fB An D),(1,fk (EF _ _ _ _ _ _ _ F)),(1,fo t),(3,fk (MT _ _ _ _ _ _ _ I rfl)),(1,fo z),(2,fB An P),(1,fk (EF _ _ _ _ _ _ _ R))] (hJ _ (oj e))
 exact mJ 1 [(3,fo o),(2,fB An D),(1,fk (EF _ _ _ _ _ _ _ F)),(1,fo t),(3,fk (MT _ _ _ _ _ _ _ I rfl)),(1,fo z)] (hJ _ (oj e))
 exact mJ 1 [(3,fo o),(2,fB An D),(1,fk (EF _ _ _ _ _ _ _ F)),(1,fo t)] (hJ _ (oj e))
 exact mJ 1 [(3,fo o)] (hJ _ (oj e))
theorem LC (r:Bool)(h:Yi=some r):BZ Tryz.prog 9 [] (bP r):=Sv 60 r h
end Go.Proofs.YtehfpameijkafaaGreatDoor
namespace Go.Proofs.YtehfpameijkafaaGreatDoor
open Go.RowKit Go.Q Go.Vl Go.Sp
set_option maxRecDepth 100000
set_option linter.unusedSimpArgs false
set_option maxHeartbeats 4000000
set_option linter.unusedVariables false
theorem IC (n:Nat)(l:(List Aa))(d:Ai)(known:Int)(r:Int)(h:Dp n l d known=some r):BZ Tryz.prog 31 [hC l,.agg (kD d),iP known] (iP r):=by
 unfold Dp at h
 refine vP ⟨[0,1,2,4,6,7,11],[]⟩ Tryz.func31 follows fun Q a=>?_
 obtain⟨e,b,h⟩:=Ab h
 refine cD 3 [(3,fk (NV _ _ _ b))] h (fun c h=>?_) fun c h=>?_
 cases h
 exact rt 1 [] a
 obtain⟨k,f,h⟩:=Ab h
 cases h
 exact rt 1 [(2,fk (NU _ _ _ _ f))] a
theorem IB (n:Nat)(l:(List Aa))(d:Ai)(known:Int)(r:(List AE))(h:ES n l d known=some r):BZ Tryz.prog 33 [hC l,.agg (kD d),iP known] (Hg r):=by
 unfold ES at h
 refine vP ⟨[0,1,2,4,6,7,8,9,13],[(5,[9995])]⟩ Tryz.func33 follows fun Q c=>?_
 refine mE 3 [] h (fun out=>⟨[(6,.sl [] .own),(7,Afk out)],[kD d]⟩) ?_ fun y e hJ=>?_
 rintro out h
 cases h
 exact rt 1 [] c
 refine lF 1 [] (A:=((List AE)×Int)) (fun n (out1,k)=>DW n l d known out1 k) (fun (out1,k)=>⟨[(0,hC l),(2,iP known),(4,.ptr 0 0),(6,.sl [] .own),(7,Afk out1),(8,iP k)],[kD d]⟩) ([],0) e (fun _=>rfl) ?_
 rintro n ⟨out1,k⟩ e ih
 replace e:=(DW.eq_2 ..).symm.trans e
 refine cD 1 [(2,fl As l)] e (fun f e=>?_) fun f e=>?_
 obtain⟨x,g,e⟩:=Ab e
 obtain⟨s,hs,e⟩:=Ab e
 refine wl 1 [] ?_
 refine xE 2 [.no,.no,.val (.vptr (kC x) 0),.no,.no,.no,.call (.agg (kN s)),.no,.no] ⟨[(0,hC l),(2,iP known),(4,.ptr 0 0),(6,.sl [] .own),(7,Afk out1),(8,iP k),(9,.ptr 1 0)],[kD d,kN s]⟩ (And.intro (oi g GR (Hs x)) (And.intro (And.intro (Pu n x d known s hs) True.intro) (And.intro (And.intro (Pu n x d known s hs) True.intro) True.intro))) ?_
 obtain⟨l1,a,e⟩:=Ab e
 obtain⟨l2,b,e⟩:=Ab e
 exact mJ 2 [(8,fB De a),(0,fa De b)] (ih (_,_) e)
 exact mJ 1 [] (hJ _ (oj e))
theorem JG (s:AE)(day:Int)(r:Bool)(h:Ey s day=some r):BZ Tryz.prog 57 [.agg (Ahs s),iP day] (bP r):=by
 unfold Ey at h
 refine vP ⟨[0,1,2,4],[]⟩ Tryz.func57 follows fun Q c=>?_
 refine mE 1 [] h (fun v4=>⟨[(4,bP v4)],[Ahs s]⟩) ?_ fun y e hJ=>?_
 rintro v4 h
 cases h
 exact rt 0 [] c
 rcases Aj e with⟨b,e⟩|⟨b,e⟩
 rcases Aj e with⟨a,e⟩|⟨a,e⟩
 exact mJ 1 [(2,fo b),(5,fo a)] (hJ _ (oj e))
 exact mJ 1 [(2,fo b),(5,fo a)] (hJ _ (oj e))
 exact mJ 1 [(2,fo b)] (hJ _ (oj e))
theorem LD (a_:Int)(b:Int)(r:Int)(h:GS a_ b=some r):BZ Tryz.prog 80 [iP a_,iP b] (iP r):=by
 unfold GS at h
 refine vP ⟨[0,1,4],[]⟩ Tryz.func80 follows fun Q a=>?_
 cases h
 exact rt 2 [] a
theorem Sj (n:Nat)(l:(List Aa))(s:(List AE))(day:Int)(r:Int)(h:Ht n l s day=some r):BZ Tryz.prog 58 [hC l,Hg s,iP day] (iP r):=by
 unfold Ht at h
 refine vP ⟨[0,1,2,6,7,8,9,10,11,12,14,20,46,55,57,61],[]⟩ Tryz.func58 follows fun Q z=>?_
 refine mI 3 [] h (fun out=>⟨[(6,iP 0),(7,iP out)],[]⟩) ?_ fun y e h hJ=>?_
 rintro out h
 cases h
 exact rt 1 [] z
 refine lF 1 [] (A:=(Int×Int)) (fun n (out1,rank)=>C0 n l s day out1 rank) (fun (out1,rank)=>⟨[(0,hC l),(1,Hg s),(2,iP day),(6,iP 0),(7,iP out1),(8,iP rank)],[]⟩) (4095,9) e (fun _=>rfl) ?_
 rintro n ⟨out1,rank⟩ e ih
 replace e:=(C0.eq_2 ..).symm.trans e
 refine cD 1 [] e (fun o e=>?_) fun o e=>?_
 refine mE 4 [] e (fun (common,some_)=>⟨[(0,hC l),(1,Hg s),(2,iP day),(6,iP 0),(7,iP out1),(8,iP rank),(9,iP common),(10,bP some_)],[]⟩) ?_ fun y1 e1 p=>?_
 rintro⟨common,some_⟩ e
 refine cD 1 [] e (fun q e=>?_) fun q e=>?_
 exact mJ 2 [] (ih (_,_) e)
 refine cD 1 [] e (fun t e=>?_) fun t e=>?_
 cases e
 cases h
 exact rt 1 [] z
 obtain⟨b,hb,e⟩:=Ab e
 refine cD 1 [(2,fk (LD _ _ _ hb))] e (fun B e=>?_) fun B e=>?_
 obtain⟨out2,d,e⟩:=Ab e
 exact mJ 2 [(2,fk (LD _ _ _ d))] (ih (_,_) e)
 exact mJ 1 [] (ih (_,_) e)
 refine lF 1 [] (A:=(Int×Bool×Int)) (fun n (common1,some_1,k)=>BO n l s day rank common1 some_1 k) (fun (common1,some_1,k)=>⟨[(0,hC l),(1,Hg s),(2,iP day),(6,iP 0),(7,iP out1),(8,iP rank),(9,iP common1),(10,bP some_1),(11,iP k)],[]⟩) (4095,false,0) e1 (fun _=>rfl) ?_
 rintro n ⟨common1,some_1,k⟩ e1 j
 replace e1:=(BO.eq_2 ..).symm.trans e1
 refine cD 1 [(2,fl As l)] e1 (fun u e1=>?_) fun u e1=>?_
 obtain⟨x,C,e1⟩:=Ab e1
 obtain⟨is_,m,e1⟩:=Ab e1
 refine mE 2 [(2,fi De C),(2,fk (JG _ _ _ m))] e1 (fun v46=>⟨[(0,hC l),(1,Hg s),(2,iP day),(6,iP 0),(7,iP out1),(8,iP rank),(9,iP common1),(10,bP some_1),(11,iP k),(46,bP v46)],[]⟩) ?_ fun y2 e2 f=>?_
 rintro v46 e1
 refine cD 0 [] e1 (fun v e1=>?_) fun v e1=>?_
 obtain⟨x1,w,e1⟩:=Ab e1
 obtain⟨common2,a,e1⟩:=Ab e1
 exact mJ 3 [(3,fi As w),(2,fk (LD _ _ _ a))] (j (_,_,_) e1)
 exact mJ 1 [] (j (_,_,_) e1)
 rcases Aj e2 with⟨c,e2⟩|⟨c,e2⟩
 obtain⟨x2,g,e2⟩:=Ab e2
 rcases Aj e2 with⟨i,e2⟩|⟨i,e2⟩
 exact mJ 1 [(1,fo c),(2,fi As g),(4,fo i),(2,fi As g)] (f _ (oj e2))
 exact mJ 1 [(1,fo c),(2,fi As g),(4,fo i)] (f _ (oj e2))
 exact mJ 1 [(1,fo c)] (f _ (oj e2))
 exact mJ 1 [] (p _ (oj e1))
 exact mJ 1 [] (hJ _ (oj e))
theorem JY (n:Nat)(l:(List Aa))(s:(List AE))(day:Int)(r:A7)(h:Gf n l s day=some r):BZ Tryz.prog 32 [hC l,Hg s,iP day] (.agg (Rp r)):=by
 unfold Gf at h
 refine vP ⟨[0,1,2,6,7,8,9,10,11,12,13,14,18,35,51,77,102,104,109],[]⟩ Tryz.func32 follows fun Q S=>?_
 refine mE 3 [] h (fun rank=>⟨[(0,hC l),(1,Hg s),(2,iP day),(6,.ptr 0 0),(7,iP rank)],[[iP 0,iP 0,.sl [] .own]]⟩) ?_ fun y e hJ=>?_
 rintro rank h
 obtain⟨c,E,h⟩:=Ab h
 refine mE 4 [(3,fk (Sj _ _ _ _ _ E))] h (fun (keep,drop,out)=>⟨[(6,.ptr 0 0),(10,.ptr 1 0),(11,bP keep),(12,bP drop)],[[iP 0,iP 0,.sl [] .own],[iP 0,iP c,oI out]]⟩) ?_ fun y1 e1 F=>?_
 rintro⟨keep,drop,out⟩ h
 refine mE 1 [] h (fun out1=>⟨[(6,.ptr 0 0),(10,.ptr 1 0),(11,bP keep),(12,bP drop)],[[iP 0,iP 0,.sl [] .own],[iP out1,iP c,oI out]]⟩) ?_ fun y2 e2 p=>?_
 rintro out1 h
 refine mE 1 [] h (fun out2=>⟨[(6,.ptr 0 0),(10,.ptr 1 0),(11,bP keep),(12,bP drop)],[[iP 0,iP 0,.sl [] .own],[iP out2,iP c,oI out]]⟩) ?_ fun y3 e3 q=>?_
 rintro out2 h
 refine mE 0 [] h (fun v109=>⟨[(6,.ptr 0 0),(10,.ptr 1 0),(109,bP v109)],[[iP 0,iP 0,.sl [] .own],[iP out2,iP c,oI out]]⟩) ?_ fun y4 e4 t=>?_
 rintro v109 h
 refine cD 0 [] h (fun T h=>?_) fun T h=>?_
 cases h
 exact rt 2 [] S
 cases h
 exact rt 1 [] S
 rcases Aj e4 with⟨d,e4⟩|⟨d,e4⟩
 exact mJ 1 [(1,fo d)] (t _ (oj e4))
 exact mJ 1 [(1,fo d)] (t _ (oj e4))
 refine cD 0 [] e3 (fun G e3=>?_) fun G e3=>?_
 exact mJ 1 [] (q _ (oj e3))
 exact mJ 0 [] (q _ (oj e3))
 refine cD 0 [] e2 (fun H e2=>?_) fun H e2=>?_
 exact mJ 1 [] (p _ (oj e2))
 exact mJ 0 [] (p _ (oj e2))
 refine lF 1 [] (A:=(Bool×Bool×Int×(List Int))) (fun n (keep1,drop1,k,out3)=>Dn n l s day rank keep1 drop1 k out3) (fun (keep1,drop1,k,out3)=>⟨[(0,hC l),(1,Hg s),(2,iP day),(6,.ptr 0 0),(7,iP rank),(10,.ptr 1 0),(11,bP keep1),(12,bP drop1),(13,iP k)],[[iP 0,iP 0,.sl [] .own],[iP 0,iP c,oI out3]]⟩) (false,false,0,[]) e1 (fun _=>rfl) ?_
 rintro n ⟨keep1,drop1,k,out3⟩ e1 ih
 replace e1:=(Dn.eq_2 ..).symm.trans e1
 refine cD 1 [(2,fl As l)] e1 (fun I e1=>?_) fun I e1=>?_
 obtain⟨x,U,e1⟩:=Ab e1
 obtain⟨is_,u,e1⟩:=Ab e1
 refine mE 2 [(2,fi De U),(2,fk (JG _ _ _ u))] e1 (fun v77=>⟨[(0,hC l),(1,Hg s),(2,iP day),(6,.ptr 0 0),(7,iP rank),(10,.ptr 1 0),(11,bP keep1),(12,bP drop1),(13,iP k),(77,bP v77)],[[iP 0,iP 0,.sl [] .own],[iP 0,iP c,oI out3]]⟩) ?_ fun y5 e5 f=>?_
 rintro v77 e1
 refine cD 0 [] e1 (fun J e1=>?_) fun J e1=>?_
 obtain⟨l1,K,e1⟩:=Ab e1
 obtain⟨l2,L,e1⟩:=Ab e1
 refine mE 1 [(3,fB An K),(0,fa An L)] e1 (fun keep2=>⟨[(0,hC l),(1,Hg s),(2,iP day),(6,.ptr 0 0),(7,iP rank),(10,.ptr 1 0),(11,bP keep2),(12,bP drop1),(13,iP k)],[[iP 0,iP 0,.sl [] .own],[iP 0,iP c,oI l2]]⟩) ?_ fun y6 e6 v=>?_
 rintro keep2 e1
 refine mE 0 [] e1 (fun Tp=>⟨[(0,hC l),(1,Hg s),(2,iP day),(6,.ptr 0 0),(7,iP rank),(10,.ptr 1 0),(11,bP keep2),(12,bP Tp),(13,iP k)],[[iP 0,iP 0,.sl [] .own],[iP 0,iP c,oI l2]]⟩) ?_ fun y7 e7 w=>?_
 rintro Tp e1
 exact mJ 1 [] (ih (_,_,_,_) e1)
 rcases Aj e7 with⟨g,e7⟩|⟨g,e7⟩
 exact mJ 1 [(1,fo g)] (w _ (oj e7))
 obtain⟨x1,M,e7⟩:=Ab e7
 exact mJ 1 [(1,fo g),(2,fi As M)] (w _ (oj e7))
 rcases Aj e6 with⟨i,e6⟩|⟨i,e6⟩
 exact mJ 1 [(1,fo i)] (v _ (oj e6))
 obtain⟨x2,N,e6⟩:=Ab e6
 exact mJ 1 [(1,fo i),(2,fi As N)] (v _ (oj e6))
 exact mJ 1 [] (ih (_,_,_,_) e1)
 rcases Aj e5 with⟨b,e5⟩|⟨b,e5⟩
 obtain⟨x3,j,e5⟩:=Ab e5
 rcases Aj e5 with⟨m,e5⟩|⟨m,e5⟩
 exact mJ 1 [(1,fo b),(2,fi As j),(4,fo m),(2,fi As j)] (f _ (oj e5))
 exact mJ 1 [(1,fo b),(2,fi As j),(4,fo m)] (f _ (oj e5))
 exact mJ 1 [(1,fo b)] (f _ (oj e5))
 exact mJ 1 [] (F _ (oj e1))
 refine lF 1 [] (A:=(Int×Int)) (fun n (rank1,k1)=>Dm n l s day rank1 k1) (fun (rank1,k1)=>⟨[(0,hC l),(1,Hg s),(2,iP day),(6,.ptr 0 0),(7,iP rank1),(8,iP k1)],[[iP 0,iP 0,.sl [] .own]]⟩) (-1,0) e (fun _=>rfl) ?_
 rintro n ⟨rank1,k1⟩ e z
 replace e:=(Dm.eq_2 ..).symm.trans e
 refine cD 1 [(2,fl As l)] e (fun B e=>?_) fun B e=>?_
 obtain⟨x4,O,e⟩:=Ab e
 obtain⟨is_1,o,e⟩:=Ab e
 refine mE 2 [(2,fi De O),(2,fk (JG _ _ _ o))] e (fun v35=>⟨[(0,hC l),(1,Hg s),(2,iP day),(6,.ptr 0 0),(7,iP rank1),(8,iP k1),(35,bP v35)],[[iP 0,iP 0,.sl [] .own]]⟩) ?_ fun y8 e8 C=>?_
 rintro v35 e
 refine cD 0 [] e (fun D e=>?_) fun D e=>?_
 obtain⟨x5,P,e⟩:=Ab e
 exact mJ 2 [(3,fi As P)] (z (_,_) e)
 exact mJ 1 [] (z (_,_) e)
 rcases Aj e8 with⟨a,e8⟩|⟨a,e8⟩
 obtain⟨x6,R,e8⟩:=Ab e8
 exact mJ 1 [(1,fo a),(2,fi As R)] (C _ (oj e8))
 exact mJ 1 [(1,fo a)] (C _ (oj e8))
 exact mJ 1 [] (hJ _ (oj e))
theorem YO (n:Nat)(l:(List Aa))(d:Ai)(day:Int)(known:Int)(r:IM)(h:Ik n l d day known=some r):BZ Tryz.prog 14 [hC l,.agg (kD d),iP day,iP known] (.agg (kX9 r)):=by
 unfold Ik at h
 refine vP ⟨[0,1,2,3,5,8,9,15,23],[]⟩ Tryz.func14 follows fun Q b=>?_
 obtain⟨e,g,h⟩:=Ab h
 refine cD 3 [(5,fk (IC _ _ _ _ _ g))] h (fun c h=>?_) fun c h=>?_
 cases h
 exact rt 1 [] b
 refine mE 0 [] h (fun v23=>⟨[(0,hC l),(2,iP day),(3,iP known),(5,.ptr 0 0),(8,.ptr 1 0),(23,bP v23)],[kD d,[iP 0,iP 0,.sl [] .own,iP 0]]⟩) ?_ fun y e1 hJ=>?_
 rintro v23 h
 refine cD 0 [] h (fun i h=>?_) fun i h=>?_
 cases h
 exact rt 1 [] b
 obtain⟨s,hs,h⟩:=Ab h
 obtain⟨a_,f,h⟩:=Ab h
 cases h
 exact rt 1 [(4,fk (IB _ _ _ _ _ hs)),(1,fk (JY _ _ _ _ _ f))] b
 rcases Aj e1 with⟨a,e1⟩|⟨a,e1⟩
 exact mJ 1 [(2,fo a)] (hJ _ (oj e1))
 exact mJ 1 [(2,fo a)] (hJ _ (oj e1))
theorem JF (n:Nat)(s:(List AE))(day:Int)(r:Bool)(h:Ew n s day=some r):BZ Tryz.prog 34 [Hg s,iP day] (bP r):=by
 unfold Ew at h
 refine vP ⟨[0,1,4,5,9,28],[]⟩ Tryz.func34 follows fun Q f=>?_
 refine mI 2 [] h (fun _=>⟨[(4,bP false)],[]⟩) ?_ fun y e h hJ=>?_
 rintro _ h
 cases h
 exact rt 1 [] f
 refine lF 1 [] (A:=Int) (fun n k=>C1 n s day k) (fun k=>⟨[(0,Hg s),(1,iP day),(4,bP false),(5,iP k)],[]⟩) 0 e (fun _=>rfl) ?_
 rintro n k e ih
 replace e:=(C1.eq_2 ..).symm.trans e
 refine cD 1 [(2,fl De s)] e (fun c e=>?_) fun c e=>?_
 refine mE 1 [] e (fun v28=>⟨[(0,Hg s),(1,iP day),(4,bP false),(5,iP k),(28,bP v28)],[]⟩) ?_ fun y1 e1 b=>?_
 rintro v28 e
 refine cD 0 [] e (fun g e=>?_) fun g e=>?_
 cases e
 cases h
 exact rt 1 [] f
 exact mJ 1 [] (ih _ e)
 obtain⟨x,d,e1⟩:=Ab e1
 rcases Aj e1 with⟨a,e1⟩|⟨a,e1⟩
 exact mJ 1 [(2,fi De d),(4,fo a)] (b _ (oj e1))
 exact mJ 1 [(2,fi De d),(4,fo a),(2,fi De d)] (b _ (oj e1))
 exact mJ 1 [] (hJ _ (oj e))
theorem JZ (n:Nat)(l:(List Aa))(d:Ai)(known:Int)(r:Fk)(h:CN n l d known=some r):BZ Tryz.prog 15 [hC l,.agg (kD d),iP known] (.agg [Yz r.L,iP r.E]):=by
 unfold CN at h
 refine vP ⟨[0,1,2,4,6,7,8,9,10,11,12,13,19,27,40,74],[(14,[9999,0,0,1,2,3,4,5,6,7,8,9,10,11,12,13,14,15,16,17,18,19,20,21,22,23])]⟩ Tryz.func15 follows fun Q R=>?_
 obtain⟨e,T,h⟩:=Ab h
 refine cD 3 [(5,fk (IC _ _ _ _ _ T))] h (fun v h=>?_) fun v h=>?_
 cases h
 exact rt 1 [] R
 obtain⟨s,hs,h⟩:=Ab h
 refine wl 2 [(3,fk (IB _ _ _ _ _ hs))] ?_
 refine pvX (.tmp 9) ?_
 refine mE 1 [] h (fun out=>⟨[(6,.ptr 1 0),(9,.prv (out.map Au.vals))],[kD d,[.sl [] .own,iP 0]]⟩) ?_ fun y e1 hJ=>?_
 rintro out h
 refine poR Au CM (.tmp 9) out ?_
 cases h
 exact rt 1 [] R
 refine lF 1 [] (A:=((List Al)×Int)) (fun n (out1,day)=>AV n l s out1 day) (fun (out1,day)=>⟨[(0,hC l),(6,.ptr 1 0),(8,Hg s),(9,.prv (out1.map Au.vals)),(10,iP day)],[kD d,[.sl [] .own,iP 0]]⟩) ([],0) e1 (fun _=>rfl) ?_
 rintro n ⟨out1,day⟩ e1 ih
 replace e1:=(AV.eq_2 ..).symm.trans e1
 refine cD 1 [] e1 (fun F e1=>?_) fun F e1=>?_
 refine wl 1 [] ?_
 replace e1:=Aj e1
 rcases e1 with⟨D,e1⟩|⟨D,e1⟩
 have S:=e1
 obtain rfl:=Tn D
 have e1:=S
 clear S
 refine poR Au CM (.tmp 9) [] ?_
 refine wl 1 [] ?_
 refine pvX (.tmp 9) ?_
 obtain⟨x,U,e1⟩:=Ab e1
 obtain⟨l1,G,e1⟩:=Ab e1
 exact mJ 8 [(13,fk (JY _ _ _ _ _ U)),(35,fap Au (by simp) G)] (ih (_,_) e1)
 refine thR Au (.tmp 9) out1 _ rfl (Hb D) fun cap m_ _ H=>?_
 refine wl 1 [] ?_
 replace e1:=Aj e1
 rcases e1 with⟨I,e1⟩|⟨I,e1⟩
 refine unR Au (.tmp 9) out1 2 out1.length cap m_ (EN I) (JR (EN I) (Hb D)) H ?_
 refine mE 0 [] e1 (fun may=>⟨[(0,hC l),(6,.ptr 1 0),(8,Hg s),(9,.prv (out1.map Au.vals)),(10,iP day),(11,iP (out1.length:Int)),(12,bP may)],[kD d,[.sl [] .own,iP 0]]⟩) ?_ fun y1 e2 w=>?_
 rintro may e1
 refine cD 1 [] e1 (fun J e1=>?_) fun J e1=>?_
 replace e1:=Aj e1
 rcases e1 with⟨g,e1⟩|⟨g,e1⟩
 cases e1
 refine thR Au (.tmp 9) out1 _ rfl (Hb g) fun cap1 m_1 i z=>?_
 obtain⟨_,V,e1⟩:=Ab e1
 obtain⟨l2,K,e1⟩:=Ab e1
 refine wl 1 [(4,MS 2 4 out1.length (D7 V)),(1,fsM Au m_1 1 [(.int .i64 day)] K (Ö rfl) (fun _=>rfl))] ?_
 replace e1:=Aj e1
 rcases e1 with⟨j,e1⟩|⟨j,e1⟩
 refine unR Au (.tmp 9) l2 2 out1.length cap1 m_1 (EN j) (JR (EN j) (Hb g)) z ?_
 exact mJ 2 [] (ih (_,_) e1)
 cases e1
 obtain⟨x1,M,e1⟩:=Ab e1
 refine wl 1 [(3,fk (JY _ _ _ _ _ M))] ?_
 replace e1:=Aj e1
 rcases e1 with⟨a,e1⟩|⟨a,e1⟩
 cases e1
 refine thR Au (.tmp 9) out1 _ rfl (Hb a) fun cap2 m_2 i f=>?_
 refine mE 0 [] e1 (fun v74=>⟨[(0,hC l),(6,.ptr 1 0),(8,Hg s),(9,.asl 3 0 out1.length cap2),(10,iP day),(11,iP (out1.length:Int)),(13,.ptr 2 0),(74,bP v74)],[kD d,[.sl [] .own,iP 0],Rp x1,DQ (out1.map Au.vals) m_2]⟩) ?_ fun y2 e3 k=>?_
 rintro v74 e1
 refine cD 0 [] e1 (fun N e1=>?_) fun N e1=>?_
 obtain⟨_,O,e1⟩:=Ab e1
 obtain⟨l3,B,e1⟩:=Ab e1
 refine wl 1 [(4,MS 3 4 out1.length (D7 O)),(1,fsM Au m_2 1 [(.int .i64 day)] B (Ö rfl) (fun _=>rfl))] ?_
 replace e1:=Aj e1
 rcases e1 with⟨m,e1⟩|⟨m,e1⟩
 refine unR Au (.tmp 9) l3 3 out1.length cap2 m_2 (EN m) (JR (EN m) (Hb a)) f ?_
 exact mJ 1 [] (ih (_,_) e1)
 cases e1
 replace e1:=Aj e1
 rcases e1 with⟨o,e1⟩|⟨o,e1⟩
 refine unR Au (.tmp 9) out1 3 out1.length cap2 m_2 (EN o) (JR (EN o) (Hb a)) f ?_
 obtain⟨l4,C,e1⟩:=Ab e1
 exact mJ 2 [(9,fap Au (by simp) C)] (ih (_,_) e1)
 cases e1
 rcases Aj e3 with⟨b,e3⟩|⟨b,e3⟩
 obtain⟨_,p,e3⟩:=Ab e3
 obtain⟨x2,q,e3⟩:=Ab e3
 rcases Aj e3 with⟨t,e3⟩|⟨t,e3⟩
 exact mJ 1 [(2,fo b),(3,MS 3 4 out1.length (D7 p)),(1,flf Au m_2 2 q rfl),(4,fo t),(3,MS 3 4 out1.length (D7 p)),(1,flf Au m_2 3 q rfl)] (k _ (oj e3))
 exact mJ 1 [(2,fo b),(3,MS 3 4 out1.length (D7 p)),(1,flf Au m_2 2 q rfl),(4,fo t)] (k _ (oj e3))
 exact mJ 1 [(2,fo b)] (k _ (oj e3))
 rcases Aj e2 with⟨u,e2⟩|⟨u,e2⟩
 exact mJ 1 [(2,fo u)] (w _ (oj e2))
 obtain⟨c,P,e2⟩:=Ab e2
 exact mJ 1 [(2,fo u),(2,fk (JF _ _ _ _ P))] (w _ (oj e2))
 cases e1
 exact mJ 1 [] (hJ _ (oj e1))
theorem Sk (n:Nat)(l:(List Aa))(d:Ai)(known:Int)(r:Hu)(h:Fl n l d known=some r):BZ Tryz.prog 16 [hC l,.agg (kD d),iP known] (.agg (Afo r)):=by
 unfold Fl at h
 refine vP ⟨[0,1,2,4,6,7,8,9,10,17,26,36,54],[]⟩ Tryz.func16 follows fun Q m=>?_
 obtain⟨s,hs,h⟩:=Ab h
 refine cD 3 [(5,fk (JZ _ _ _ _ _ hs))] h (fun g h=>?_) fun g h=>?_
 cases h
 exact rt 1 [] m
 refine mE 2 [] h (fun (out,out1)=>⟨[(6,.ptr 1 0),(8,.ptr 3 0)],[kD d,[iP 0,iP 0,iP 0],[Yz s.L,iP s.E],[iP out,iP out1,iP 0]]⟩) ?_ fun y e hJ=>?_
 rintro⟨out,out1⟩ h
 cases h
 exact rt 1 [] m
 refine lF 1 [] (A:=(Int×Int×Int)) (fun n (k,out2,out3)=>BP n s d k out2 out3) (fun (k,out2,out3)=>⟨[(4,.ptr 0 0),(6,.ptr 1 0),(7,.ptr 2 0),(8,.ptr 3 0),(9,iP k)],[kD d,[iP 0,iP 0,iP 0],[Yz s.L,iP s.E],[iP out2,iP out3,iP 0]]⟩) (0,-1,41667) e (fun _=>rfl) ?_
 rintro n ⟨k,out2,out3⟩ e ih
 replace e:=(BP.eq_2 ..).symm.trans e
 refine cD 1 [(3,fl Ct s.L)] e (fun i e=>?_) fun i e=>?_
 obtain⟨x,o,e⟩:=Ab e
 refine mE 3 [(3,fi Ct o)] e (fun out4=>⟨[(4,.ptr 0 0),(6,.ptr 1 0),(7,.ptr 2 0),(8,.ptr 3 0),(9,iP k),(10,.ptr 4 0)],[kD d,[iP 0,iP 0,iP 0],[Yz s.L,iP s.E],[iP out4,iP out3,iP 0],kX8 x]⟩) ?_ fun y1 e1 f=>?_
 rintro out4 e
 refine mE 0 [] e (fun v54=>⟨[(4,.ptr 0 0),(6,.ptr 1 0),(7,.ptr 2 0),(8,.ptr 3 0),(9,iP k),(10,.ptr 4 0),(54,bP v54)],[kD d,[iP 0,iP 0,iP 0],[Yz s.L,iP s.E],[iP out4,iP out3,iP 0],kX8 x]⟩) ?_ fun y2 e2 b=>?_
 rintro v54 e
 refine cD 0 [] e (fun p e=>?_) fun p e=>?_
 exact mJ 2 [] (ih (_,_,_) e)
 exact mJ 1 [] (ih (_,_,_) e)
 rcases Aj e2 with⟨a,e2⟩|⟨a,e2⟩
 rcases Aj e2 with⟨c,e2⟩|⟨c,e2⟩
 exact mJ 1 [(3,fo a),(6,fo c)] (b _ (oj e2))
 exact mJ 1 [(3,fo a),(6,fo c)] (b _ (oj e2))
 exact mJ 1 [(3,fo a)] (b _ (oj e2))
 refine cD 0 [] e1 (fun j e1=>?_) fun j e1=>?_
 exact mJ 1 [] (f _ (oj e1))
 exact mJ 0 [] (f _ (oj e1))
 exact mJ 1 [] (hJ _ (oj e))
theorem Q7 (n:Nat)(l:(List Aa))(d:Ai)(known:Int)(later:Int)(r:Dg)(h:DJ n l d known later=some r):BZ Tryz.prog 17 [hC l,.agg (kD d),iP known,iP later] (.agg [iP r.N,iP r.E]):=by
 unfold DJ at h
 refine vP ⟨[0,1,2,3,5,8,9,10,11,12,13,14,15,16,17,23,31,43,63,83],[]⟩ Tryz.func17 follows fun Q q=>?_
 obtain⟨e,D,h⟩:=Ab h
 refine cD 3 [(5,fk (IC _ _ _ _ _ D))] h (fun u h=>?_) fun u h=>?_
 cases h
 exact rt 1 [] q
 obtain⟨f,F,h⟩:=Ab h
 refine cD 2 [(3,fk (IC _ _ _ _ _ F))] h (fun v h=>?_) fun v h=>?_
 cases h
 exact rt 1 [] q
 obtain⟨s,hs,h⟩:=Ab h
 obtain⟨t,G,h⟩:=Ab h
 refine mI 3 [(3,fk (IB _ _ _ _ _ hs)),(4,fk (IB _ _ _ _ _ G))] h (fun _=>⟨[(8,.ptr 1 0)],[kD d,[iP 0,iP 0]]⟩) ?_ fun y e1 h hJ=>?_
 rintro _ h
 cases h
 exact rt 1 [] q
 refine lF 1 [] (A:=Int) (fun n day=>BT n s t l day) (fun day=>⟨[(0,hC l),(8,.ptr 1 0),(11,Hg s),(12,Hg t),(13,iP day)],[kD d,[iP 0,iP 0]]⟩) 0 e1 (fun _=>rfl) ?_
 rintro n day e1 ih
 replace e1:=(BT.eq_2 ..).symm.trans e1
 refine cD 1 [] e1 (fun w e1=>?_) fun w e1=>?_
 refine mE 1 [] e1 (fun one=>⟨[(0,hC l),(8,.ptr 1 0),(11,Hg s),(12,Hg t),(13,iP day),(14,bP one)],[kD d,[iP 0,iP 0]]⟩) ?_ fun y1 e2 j=>?_
 rintro one e1
 refine mE 0 [] e1 (fun two=>⟨[(0,hC l),(8,.ptr 1 0),(11,Hg s),(12,Hg t),(13,iP day),(14,bP one),(15,bP two)],[kD d,[iP 0,iP 0]]⟩) ?_ fun y2 e3 k=>?_
 rintro two e1
 refine mE 0 [] e1 (fun v63=>⟨[(0,hC l),(8,.ptr 1 0),(11,Hg s),(12,Hg t),(13,iP day),(63,bP v63)],[kD d,[iP 0,iP 0]]⟩) ?_ fun y3 e4 m=>?_
 rintro v63 e1
 refine cD 0 [] e1 (fun z e1=>?_) fun z e1=>?_
 obtain⟨x,H,e1⟩:=Ab e1
 obtain⟨y4,B,e1⟩:=Ab e1
 refine mE 2 [(3,fk (JY _ _ _ _ _ H)),(5,fk (JY _ _ _ _ _ B))] e1 (fun v83=>⟨[(0,hC l),(8,.ptr 1 0),(11,Hg s),(12,Hg t),(13,iP day),(83,bP v83)],[kD d,[iP 0,iP 0],Rp x,Rp y4]⟩) ?_ fun y5 e5 o=>?_
 rintro v83 e1
 refine cD 0 [] e1 (fun I e1=>?_) fun I e1=>?_
 cases e1
 cases h
 exact rt 1 [] q
 exact mJ 1 [] (ih _ e1)
 rcases Aj e5 with⟨a,e5⟩|⟨a,e5⟩
 exact mJ 1 [(5,fo a)] (o _ (oj e5))
 exact mJ 1 [(5,fo a)] (o _ (oj e5))
 exact mJ 1 [] (ih _ e1)
 rcases Aj e4 with⟨b,e4⟩|⟨b,e4⟩
 exact mJ 1 [(1,fo b)] (m _ (oj e4))
 exact mJ 1 [(1,fo b)] (m _ (oj e4))
 rcases Aj e3 with⟨g,e3⟩|⟨g,e3⟩
 exact mJ 1 [(2,fo g)] (k _ (oj e3))
 obtain⟨c,C,e3⟩:=Ab e3
 exact mJ 1 [(2,fo g),(2,fk (JF _ _ _ _ C))] (k _ (oj e3))
 rcases Aj e2 with⟨i,e2⟩|⟨i,e2⟩
 exact mJ 1 [(2,fo i)] (j _ (oj e2))
 obtain⟨c1,p,e2⟩:=Ab e2
 exact mJ 1 [(2,fo i),(2,fk (JF _ _ _ _ p))] (j _ (oj e2))
 exact mJ 1 [] (hJ _ (oj e1))
end Go.Proofs.YtehfpameijkafaaGreatDoor
namespace Go.Proofs.YtehfpameijkafaaGreatDoor
open Go.RowKit Go.Q Go.Vl Go.Sp
set_option maxRecDepth 100000
set_option linter.unusedSimpArgs false
set_option maxHeartbeats 4000000
set_option linter.unusedVariables false
theorem JI (n:Nat)(l:(List Aa))(d:Ai)(days:(Int×Int×Int))(r:Bool)(h:D0 n l d days=some r):BZ Tryz.prog 3 [hC l,.agg (kD d),.agg [iP days.1,iP days.2.1,iP days.2.2]] (bP r):=by
 unfold D0 at h
 refine vP ⟨[0,1,2,4,5,6,7,8,9,10,11,12,13,14,15,16,17,18,19,20,24],[]⟩ Tryz.func3 follows fun Q G=>?_
 obtain⟨f,H,h⟩:=Ab h
 refine cD 2 [(5,fk (WG _ _ _ _ H))] h (fun B h=>?_) fun B h=>?_
 obtain⟨s,hs,h⟩:=Ab h
 cases h
 exact rt 1 [(0,fk (LC _ hs))] G
 obtain⟨a_,C,h⟩:=Ab h
 obtain⟨s1,D,h⟩:=Ab h
 obtain⟨b,hb,h⟩:=Ab h
 obtain⟨l1,F,h⟩:=Ab h
 obtain⟨at_,x,h⟩:=Ab h
 obtain⟨all,z,h⟩:=Ab h
 obtain⟨bounds,k,h⟩:=Ab h
 obtain⟨learned,i,h⟩:=Ab h
 refine mE 8 [(6,fk (Vc _ _ _ _ _ _ C)),(10,fk (Iw _ _ _ _ _ D)),(9,fk (NX _ _ _ _ _ hb)),(13,fk (JJ _ _ _ _ _ _ F)),(11,fk (YO _ _ _ _ _ _ x)),(6,fk (JZ _ _ _ _ _ z)),(6,fk (Sk _ _ _ _ _ k)),(8,fk (Q7 _ _ _ _ _ _ i))] h (fun one=>⟨[(6,bP false),(11,iP b.1),(12,iP b.2.1),(13,iP b.2.2),(14,iP l1.1),(15,iP l1.2),(18,.ptr 5 0),(19,.ptr 6 0),(20,bP one)],[kD d,[iP days.1,iP days.2.1,iP days.2.2],[iP a_.1.State,iP a_.1.Houses,hI a_.1.By],kX9 at_,[Yz all.L,iP all.E],Afo bounds,[iP learned.N,iP learned.E]]⟩) ?_ fun y e hJ=>?_
 rintro one h
 refine mE 0 [] h (fun v6=>⟨[(6,bP v6)],[kD d,[iP days.1,iP days.2.1,iP days.2.2],[iP a_.1.State,iP a_.1.Houses,hI a_.1.By],kX9 at_,[Yz all.L,iP all.E],Afo bounds,[iP learned.N,iP learned.E]]⟩) ?_ fun y1 e1 a=>?_
 rintro v6 h
 cases h
 exact rt 0 [] G
 obtain⟨s2,c,e1⟩:=Ab e1
 rcases Aj e1 with⟨u,e1⟩|⟨u,e1⟩
 rcases Aj e1 with⟨g,e1⟩|⟨g,e1⟩
 rcases Aj e1 with⟨j,e1⟩|⟨j,e1⟩
 rcases Aj e1 with⟨m,e1⟩|⟨m,e1⟩
 rcases Aj e1 with⟨p,e1⟩|⟨p,e1⟩
 rcases Aj e1 with⟨v,e1⟩|⟨v,e1⟩
 exact mJ 1 [(0,fk (LC _ c)),(0,fo u),(2,fo g),(5,fo j),(5,fo m),(5,fo p),(5,fo v)] (a _ (oj e1))
 exact mJ 1 [(0,fk (LC _ c)),(0,fo u),(2,fo g),(5,fo j),(5,fo m),(5,fo p),(5,fo v)] (a _ (oj e1))
 exact mJ 1 [(0,fk (LC _ c)),(0,fo u),(2,fo g),(5,fo j),(5,fo m),(5,fo p)] (a _ (oj e1))
 exact mJ 1 [(0,fk (LC _ c)),(0,fo u),(2,fo g),(5,fo j),(5,fo m)] (a _ (oj e1))
 exact mJ 1 [(0,fk (LC _ c)),(0,fo u),(2,fo g),(5,fo j)] (a _ (oj e1))
 exact mJ 1 [(0,fk (LC _ c)),(0,fo u),(2,fo g)] (a _ (oj e1))
 exact mJ 1 [(0,fk (LC _ c)),(0,fo u)] (a _ (oj e1))
 obtain⟨s3,q,e⟩:=Ab e
 rcases Aj e with⟨o,e⟩|⟨o,e⟩
 rcases Aj e with⟨t,e⟩|⟨t,e⟩
 obtain⟨s4,A,e⟩:=Ab e
 rcases Aj e with⟨w,e⟩|⟨w,e⟩
 exact mJ 1 [(3,fk (Ib _ _ _ _ q)),(0,fo o),(5,fo t),(3,fk (Bm _ _ _ _ A)),(1,fo w)] (hJ _ (oj e))
 exact mJ 1 [(3,fk (Ib _ _ _ _ q)),(0,fo o),(5,fo t),(3,fk (Bm _ _ _ _ A)),(1,fo w)] (hJ _ (oj e))
 exact mJ 1 [(3,fk (Ib _ _ _ _ q)),(0,fo o),(5,fo t)] (hJ _ (oj e))
 exact mJ 1 [(3,fk (Ib _ _ _ _ q)),(0,fo o)] (hJ _ (oj e))
end Go.Proofs.YtehfpameijkafaaGreatDoor
