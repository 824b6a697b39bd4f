/-
  The contracts of library functions that the lexer calls, laid at this program (written by the kit's own tools, in plain words). Library functions that the lexer calls, in the form that lifted walks use. The walks of the lexer: the program computes the plain functions. (Printed by lift.py.)
-/
import Derived.Shelf.Small.Strs
import Derived.Shelf.Strings.Search3
import Derived.Shelf.Strings.Prefix
import Derived.Shelf.Strings.Fields
import Derived.Shelf.LaysC
import Derived.Shelf.Strconv.AtoiAll
import Derived.Test.YtehfpameijkafaaGreatDoorProg
import Derived.Test.YtehfpameijkafaaGreatDoorW9
import Derived.Test.YtehfpameijkafaaGreatDoorW13
set_option linter.unusedVariables false
set_option linter.unusedSimpArgs false
namespace Go.Proofs
open Go.Shelf
def Tryz.lays137_ren:Go.Shelf.Ren:=⟨fun|137=>156|217=>166|266=>176|n=>n,fun|9=>9|5=>5|3=>3|n=>n,fun|n=>n⟩
theorem Tryz.lays137:Go.Proofs.Lays.n137 Tryz.prog Tryz.lays137_ren:={
 mixed:=by kernel_rfl
 f137:=Tryz.func156.trans (congrArg some (by kernel_rfl))
 f217:=Tryz.func166.trans (congrArg some (by kernel_rfl))
 f266:=Tryz.func176.trans (congrArg some (by kernel_rfl))
 t3:=Tryz.underlying3
 a3:=Tryz.isAgg3
 z3:=Tryz.sizeOf3
 v3:=Tryz.zeroValue3
 t5:=Tryz.underlying5
 a5:=Tryz.isAgg5
 z5:=Tryz.sizeOf5
 v5:=Tryz.zeroValue5
 t9:=Tryz.underlying9
 a9:=Tryz.isAgg9
 z9:=Tryz.sizeOf9
 v9:=Tryz.zeroValue9 }
open Go.RowKit in
theorem Tryz.strings_IndexByte (s:ByteArray)(c:Int)(w:World) :
 Calls Tryz.prog 156 #[.string s,.int .u8 c] w fun e w'=>e=.returned (.int .i64 (Lib.indexByte s.data.toList c.toNat.toUInt8))/\w'=w:=Any.strings_IndexByte Tryz.lays137 s c w
def Tryz.laysC172_ren:Go.Shelf.Ren:=⟨fun|172=>168|244=>177|245=>178|247=>184|279=>185|280=>186|281=>187|282=>188|287=>191|316=>192|171=>194|205=>193|321=>200|322=>201|243=>202|246=>204|283=>205|284=>206|285=>207|286=>208|129=>131|317=>209|318=>210|319=>211|320=>212|337=>213|338=>214|n=>n,fun|9=>9|3=>3|75=>239|76=>240|4=>4|5=>5|167=>255|37=>133|0=>0|85=>256|2=>2|168=>258|53=>205|175=>266|46=>175|210=>270|127=>283|145=>286|143=>284|21=>21|171=>292|173=>294|212=>296|51=>203|20=>20|213=>297|232=>298|233=>299|80=>300|n=>n,fun|15=>3|16=>4|17=>5|18=>6|19=>7|n=>n⟩
theorem Tryz.laysC172:Go.Proofs.LaysC.n172 Tryz.prog Tryz.laysC172_ren:={
 mixed:=by kernel_rfl
 f129:=Tryz.func131.trans (congrArg some (by kernel_rfl))
 f171:=Tryz.func194.trans (congrArg some (by kernel_rfl))
 f172:=Tryz.func168.trans (congrArg some (by kernel_rfl))
 f205:=Tryz.func193.trans (congrArg some (by kernel_rfl))
 f243:=Tryz.func202.trans (congrArg some (by kernel_rfl))
 f244:=Tryz.func177.trans (congrArg some (by kernel_rfl))
 f245:=Tryz.func178.trans (congrArg some (by kernel_rfl))
 f246:=Tryz.func204.trans (congrArg some (by kernel_rfl))
 f247:=Tryz.func184.trans (congrArg some (by kernel_rfl))
 f279:=Tryz.func185.trans (congrArg some (by kernel_rfl))
 f280:=Tryz.func186.trans (congrArg some (by kernel_rfl))
 f281:=Tryz.func187.trans (congrArg some (by kernel_rfl))
 f282:=Tryz.func188.trans (congrArg some (by kernel_rfl))
 f283:=Tryz.func205.trans (congrArg some (by kernel_rfl))
 f284:=Tryz.func206.trans (congrArg some (by kernel_rfl))
 f285:=Tryz.func207.trans (congrArg some (by kernel_rfl))
 f286:=Tryz.func208.trans (congrArg some (by kernel_rfl))
 f287:=Tryz.func191.trans (congrArg some (by kernel_rfl))
 f316:=Tryz.func192.trans (congrArg some (by kernel_rfl))
 f317:=Tryz.func209.trans (congrArg some (by kernel_rfl))
 f318:=Tryz.func210.trans (congrArg some (by kernel_rfl))
 f319:=Tryz.func211.trans (congrArg some (by kernel_rfl))
 f320:=Tryz.func212.trans (congrArg some (by kernel_rfl))
 f321:=Tryz.func200.trans (congrArg some (by kernel_rfl))
 f322:=Tryz.func201.trans (congrArg some (by kernel_rfl))
 f337:=Tryz.func213.trans (congrArg some (by kernel_rfl))
 f338:=Tryz.func214.trans (congrArg some (by kernel_rfl))
 t0:=Tryz.underlying0
 a0:=Tryz.isAgg0
 z0:=Tryz.sizeOf0
 v0:=Tryz.zeroValue0
 t2:=Tryz.underlying2
 a2:=Tryz.isAgg2
 z2:=Tryz.sizeOf2
 v2:=Tryz.zeroValue2
 t3:=Tryz.underlying3
 a3:=Tryz.isAgg3
 z3:=Tryz.sizeOf3
 v3:=Tryz.zeroValue3
 t4:=Tryz.underlying4
 a4:=Tryz.isAgg4
 z4:=Tryz.sizeOf4
 v4:=Tryz.zeroValue4
 t5:=Tryz.underlying5
 a5:=Tryz.isAgg5
 z5:=Tryz.sizeOf5
 v5:=Tryz.zeroValue5
 t9:=Tryz.underlying9
 a9:=Tryz.isAgg9
 z9:=Tryz.sizeOf9
 v9:=Tryz.zeroValue9
 t20:=Tryz.underlying20
 a20:=Tryz.isAgg20
 z20:=Tryz.sizeOf20
 v20:=Tryz.zeroValue20
 t21:=Tryz.underlying21
 a21:=Tryz.isAgg21
 z21:=Tryz.sizeOf21
 v21:=Tryz.zeroValue21
 t37:=Tryz.underlying133
 a37:=Tryz.isAgg133
 z37:=Tryz.sizeOf133
 v37:=Tryz.zeroValue133
 t46:=Tryz.underlying175
 a46:=Tryz.isAgg175
 z46:=Tryz.sizeOf175
 v46:=Tryz.zeroValue175
 t51:=Tryz.underlying203
 a51:=Tryz.isAgg203
 z51:=Tryz.sizeOf203
 v51:=Tryz.zeroValue203
 t53:=Tryz.underlying205
 a53:=Tryz.isAgg205
 z53:=Tryz.sizeOf205
 v53:=Tryz.zeroValue205
 t75:=Tryz.underlying239
 a75:=Tryz.isAgg239
 z75:=Tryz.sizeOf239
 v75:=Tryz.zeroValue239
 t76:=Tryz.underlying240
 a76:=Tryz.isAgg240
 z76:=Tryz.sizeOf240
 v76:=Tryz.zeroValue240
 t85:=Tryz.underlying256
 a85:=Tryz.isAgg256
 z85:=Tryz.sizeOf256
 v85:=Tryz.zeroValue256
 t127:=Tryz.underlying283
 a127:=Tryz.isAgg283
 z127:=Tryz.sizeOf283
 v127:=Tryz.zeroValue283
 t143:=Tryz.underlying284
 a143:=Tryz.isAgg284
 z143:=Tryz.sizeOf284
 v143:=Tryz.zeroValue284
 t145:=Tryz.underlying286
 a145:=Tryz.isAgg286
 z145:=Tryz.sizeOf286
 v145:=Tryz.zeroValue286
 t167:=Tryz.underlying255
 a167:=Tryz.isAgg255
 z167:=Tryz.sizeOf255
 v167:=Tryz.zeroValue255
 t168:=Tryz.underlying258
 a168:=Tryz.isAgg258
 z168:=Tryz.sizeOf258
 v168:=Tryz.zeroValue258
 t171:=Tryz.underlying292
 a171:=Tryz.isAgg292
 z171:=Tryz.sizeOf292
 v171:=Tryz.zeroValue292
 t173:=Tryz.underlying294
 a173:=Tryz.isAgg294
 z173:=Tryz.sizeOf294
 v173:=Tryz.zeroValue294
 t175:=Tryz.underlying266
 a175:=Tryz.isAgg266
 z175:=Tryz.sizeOf266
 v175:=Tryz.zeroValue266
 t210:=Tryz.underlying270
 a210:=Tryz.isAgg270
 z210:=Tryz.sizeOf270
 v210:=Tryz.zeroValue270
 t212:=Tryz.underlying296
 a212:=Tryz.isAgg296
 z212:=Tryz.sizeOf296
 v212:=Tryz.zeroValue296
 t213:=Tryz.underlying297
 a213:=Tryz.isAgg297
 z213:=Tryz.sizeOf297
 t232:=Tryz.underlying298
 a232:=Tryz.isAgg298
 z232:=Tryz.sizeOf298
 v232:=Tryz.zeroValue298
 t233:=Tryz.underlying299
 a233:=Tryz.isAgg299
 z233:=Tryz.sizeOf299
 v233:=Tryz.zeroValue299
 g15:=by kernel_rfl
 g16:=by kernel_rfl
 g17:=by kernel_rfl
 g18:=by kernel_rfl
 g19:=by kernel_rfl
 t80:=Tryz.underlying300
 a80:=Tryz.isAgg300
 z80:=Tryz.sizeOf300
 v80:=Tryz.zeroValue300
 i0:=by kernel_rfl
 i2:=by kernel_rfl
 i3:=by kernel_rfl
 i4:=by kernel_rfl
 i5:=by kernel_rfl
 i9:=by kernel_rfl
 i20:=by kernel_rfl
 i21:=by kernel_rfl
 i37:=by kernel_rfl
 i46:=by kernel_rfl
 i51:=by kernel_rfl
 i53:=by kernel_rfl
 i75:=by kernel_rfl
 i76:=by kernel_rfl
 i80:=by kernel_rfl
 i85:=by kernel_rfl
 i127:=by kernel_rfl
 i143:=by kernel_rfl
 i145:=by kernel_rfl
 i167:=by kernel_rfl
 i168:=by kernel_rfl
 i171:=by kernel_rfl
 i173:=by kernel_rfl
 i175:=by kernel_rfl
 i210:=by kernel_rfl
 i212:=by kernel_rfl
 i232:=by kernel_rfl
 i233:=by kernel_rfl
 m15:=by kernel_rfl
 m16:=by kernel_rfl
 m17:=by kernel_rfl
 m18:=by kernel_rfl
 m19:=by kernel_rfl
 c0:=by kernel_rfl
 c2:=by kernel_rfl
 c3:=by kernel_rfl
 c4:=by kernel_rfl
 c5:=by kernel_rfl
 c9:=by kernel_rfl
 c20:=by kernel_rfl
 c21:=by kernel_rfl
 c37:=by kernel_rfl
 c46:=by kernel_rfl
 c51:=by kernel_rfl
 c53:=by kernel_rfl
 c75:=by kernel_rfl
 c76:=by kernel_rfl
 c80:=by kernel_rfl
 c85:=by kernel_rfl
 c127:=by kernel_rfl
 c143:=by kernel_rfl
 c145:=by kernel_rfl
 c167:=by kernel_rfl
 c168:=by kernel_rfl
 c171:=by kernel_rfl
 c173:=by kernel_rfl
 c175:=by kernel_rfl
 c210:=by kernel_rfl
 c212:=by kernel_rfl
 c213:=by kernel_rfl
 c232:=by kernel_rfl
 c233:=by kernel_rfl }
open Go.RowKit in
theorem Tryz.strconv_Atoi_ok (s:ByteArray)(hmax:s.size<=9223372036854775806)(v:Int)(h:Lib.atoiAll s.data.toList=.ok v)(w:World) :
 Calls Tryz.prog 168 #[.string s] w fun e w'=>e=.returned (.tuple #[.int .i64 v,.nilIface])/\(w'=w∨∃ t,w'=Lib.bytesWorld w 5 t):=Any.strconv_Atoi_ok Tryz.laysC172 s hmax v h w
open Go.RowKit in
theorem Tryz.strconv_Atoi_syntax (s:ByteArray)(hlim:s.size<=281474976710656)(h:Lib.atoiAll s.data.toList=.«syntax»)(ev:Value)(w:World)(hv:w.cell? ⟨3,0,none⟩=some ev)(hev:ev=.nilIface∨∃ te pe,ev=.iface te pe) :
 Calls Tryz.prog 168 #[.string s] w fun e w'=>∃ N,e=.returned (.tuple #[.int .i64 (0),.iface 258 (.pointer (some ⟨N,0,none⟩))])/\w.heap.size<=N/\w'.heap[N]?=some (.cells #[.string ⟨#[65,116,111,105]⟩,.string s,ev] 270 (0,0))/\Below w.heap.size w w':=Any.strconv_Atoi_syntax Tryz.laysC172 s hlim h ev w hv hev
open Go.RowKit in
theorem Tryz.strconv_Atoi_range (s:ByteArray)(hlim:s.size<=281474976710656)(h:Lib.atoiAll s.data.toList=.range)(ev:Value)(w:World)(hv:w.cell? ⟨4,0,none⟩=some ev)(hev:ev=.nilIface∨∃ te pe,ev=.iface te pe) :
 Calls Tryz.prog 168 #[.string s] w fun e w'=>∃ N,e=.returned (.tuple #[.int .i64 (Lib.atoiSat s.data.toList),.iface 258 (.pointer (some ⟨N,0,none⟩))])/\w.heap.size<=N/\w'.heap[N]?=some (.cells #[.string ⟨#[65,116,111,105]⟩,.string s,ev] 270 (0,0))/\Below w.heap.size w w':=Any.strconv_Atoi_range Tryz.laysC172 s hlim h ev w hv hev
def Tryz.lays144_ren:Go.Shelf.Ren:=⟨fun|144=>171|143=>182|219=>190|217=>166|225=>197|224=>198|267=>199|266=>176|314=>203|n=>n,fun|9=>9|4=>4|3=>3|5=>5|46=>175|146=>289|51=>203|n=>n,fun|1=>1|n=>n⟩
theorem Tryz.lays144:Go.Proofs.Lays.n144 Tryz.prog Tryz.lays144_ren:={
 mixed:=by kernel_rfl
 f143:=Tryz.func182.trans (congrArg some (by kernel_rfl))
 f144:=Tryz.func171.trans (congrArg some (by kernel_rfl))
 f217:=Tryz.func166.trans (congrArg some (by kernel_rfl))
 f219:=Tryz.func190.trans (congrArg some (by kernel_rfl))
 f224:=Tryz.func198.trans (congrArg some (by kernel_rfl))
 f225:=Tryz.func197.trans (congrArg some (by kernel_rfl))
 f266:=Tryz.func176.trans (congrArg some (by kernel_rfl))
 f267:=Tryz.func199.trans (congrArg some (by kernel_rfl))
 f314:=Tryz.func203.trans (congrArg some (by kernel_rfl))
 t3:=Tryz.underlying3
 a3:=Tryz.isAgg3
 z3:=Tryz.sizeOf3
 v3:=Tryz.zeroValue3
 t4:=Tryz.underlying4
 a4:=Tryz.isAgg4
 z4:=Tryz.sizeOf4
 v4:=Tryz.zeroValue4
 t5:=Tryz.underlying5
 a5:=Tryz.isAgg5
 z5:=Tryz.sizeOf5
 v5:=Tryz.zeroValue5
 t9:=Tryz.underlying9
 a9:=Tryz.isAgg9
 z9:=Tryz.sizeOf9
 v9:=Tryz.zeroValue9
 t46:=Tryz.underlying175
 a46:=Tryz.isAgg175
 z46:=Tryz.sizeOf175
 v46:=Tryz.zeroValue175
 t51:=Tryz.underlying203
 a51:=Tryz.isAgg203
 z51:=Tryz.sizeOf203
 v51:=Tryz.zeroValue203
 t146:=Tryz.underlying289
 a146:=Tryz.isAgg289
 z146:=Tryz.sizeOf289
 v146:=Tryz.zeroValue289
 g1:=by kernel_rfl }
open Go.RowKit Go.Lib in
theorem Tryz.strings_Contains_one (s:ByteArray)(c:UInt8)(w:World) :
 Calls Tryz.prog 171 #[.string s,.string ⟨#[c]⟩] w fun e w'=>e=.returned (.bool (decide (0<=Lib.indexByte s.data.toList c)))/\w'=w:=Any.strings_Contains_one Tryz.lays144 s c w
def Tryz.lays99_ren:Go.Shelf.Ren:=⟨fun|99=>170|206=>181|n=>n,fun|9=>9|4=>4|3=>3|n=>n,fun|n=>n⟩
theorem Tryz.lays99:Go.Proofs.Lays.n99 Tryz.prog Tryz.lays99_ren:={
 mixed:=by kernel_rfl
 f99:=Tryz.func170.trans (congrArg some (by kernel_rfl))
 f206:=Tryz.func181.trans (congrArg some (by kernel_rfl))
 t3:=Tryz.underlying3
 a3:=Tryz.isAgg3
 z3:=Tryz.sizeOf3
 v3:=Tryz.zeroValue3
 t4:=Tryz.underlying4
 a4:=Tryz.isAgg4
 z4:=Tryz.sizeOf4
 v4:=Tryz.zeroValue4
 t9:=Tryz.underlying9
 a9:=Tryz.isAgg9
 z9:=Tryz.sizeOf9
 v9:=Tryz.zeroValue9 }
open Go.RowKit Go.Lib in
theorem Tryz.strings_HasPrefix (s p:ByteArray)(w:World) :
 Calls Tryz.prog 170 #[.string s,.string p] w fun e w'=>e=.returned (.bool (Lib.hasPrefix s.data.toList p.data.toList))/\w'=w:=Any.strings_HasPrefix Tryz.lays99 s p w
def Tryz.lays157_ren:Go.Shelf.Ren:=⟨fun|157=>169|229=>179|199=>180|261=>189|311=>195|312=>196|n=>n,fun|9=>9|31=>169|3=>3|5=>5|4=>4|119=>251|0=>0|40=>253|152=>261|21=>21|154=>263|51=>203|141=>265|196=>275|193=>272|198=>277|49=>60|194=>273|201=>280|226=>287|46=>175|227=>288|n=>n,fun|0=>0|6=>2|n=>n⟩
theorem Tryz.lays157:Go.Proofs.Lays.n157 Tryz.prog Tryz.lays157_ren:={
 mixed:=by kernel_rfl
 f157:=Tryz.func169.trans (congrArg some (by kernel_rfl))
 f199:=Tryz.func180.trans (congrArg some (by kernel_rfl))
 f229:=Tryz.func179.trans (congrArg some (by kernel_rfl))
 f261:=Tryz.func189.trans (congrArg some (by kernel_rfl))
 f311:=Tryz.func195.trans (congrArg some (by kernel_rfl))
 f312:=Tryz.func196.trans (congrArg some (by kernel_rfl))
 t0:=Tryz.underlying0
 a0:=Tryz.isAgg0
 z0:=Tryz.sizeOf0
 v0:=Tryz.zeroValue0
 t3:=Tryz.underlying3
 a3:=Tryz.isAgg3
 z3:=Tryz.sizeOf3
 v3:=Tryz.zeroValue3
 t4:=Tryz.underlying4
 a4:=Tryz.isAgg4
 z4:=Tryz.sizeOf4
 v4:=Tryz.zeroValue4
 t5:=Tryz.underlying5
 a5:=Tryz.isAgg5
 z5:=Tryz.sizeOf5
 v5:=Tryz.zeroValue5
 t9:=Tryz.underlying9
 a9:=Tryz.isAgg9
 z9:=Tryz.sizeOf9
 v9:=Tryz.zeroValue9
 t21:=Tryz.underlying21
 a21:=Tryz.isAgg21
 z21:=Tryz.sizeOf21
 v21:=Tryz.zeroValue21
 t31:=Tryz.underlying169
 a31:=Tryz.isAgg169
 z31:=Tryz.sizeOf169
 v31:=Tryz.zeroValue169
 t40:=Tryz.underlying253
 a40:=Tryz.isAgg253
 z40:=Tryz.sizeOf253
 v40:=Tryz.zeroValue253
 t46:=Tryz.underlying175
 a46:=Tryz.isAgg175
 z46:=Tryz.sizeOf175
 v46:=Tryz.zeroValue175
 t49:=Tryz.underlying60
 a49:=Tryz.isAgg60
 z49:=Tryz.sizeOf60
 v49:=Tryz.zeroValue60
 t51:=Tryz.underlying203
 a51:=Tryz.isAgg203
 z51:=Tryz.sizeOf203
 v51:=Tryz.zeroValue203
 t119:=Tryz.underlying251
 a119:=Tryz.isAgg251
 z119:=Tryz.sizeOf251
 t141:=Tryz.underlying265
 a141:=Tryz.isAgg265
 z141:=Tryz.sizeOf265
 v141:=Tryz.zeroValue265
 t152:=Tryz.underlying261
 a152:=Tryz.isAgg261
 z152:=Tryz.sizeOf261
 v152:=Tryz.zeroValue261
 t154:=Tryz.underlying263
 a154:=Tryz.isAgg263
 z154:=Tryz.sizeOf263
 v154:=Tryz.zeroValue263
 t193:=Tryz.underlying272
 a193:=Tryz.isAgg272
 z193:=Tryz.sizeOf272
 v193:=Tryz.zeroValue272
 t194:=Tryz.underlying273
 a194:=Tryz.isAgg273
 z194:=Tryz.sizeOf273
 v194:=Tryz.zeroValue273
 t196:=Tryz.underlying275
 a196:=Tryz.isAgg275
 z196:=Tryz.sizeOf275
 v196:=Tryz.zeroValue275
 t198:=Tryz.underlying277
 a198:=Tryz.isAgg277
 z198:=Tryz.sizeOf277
 v198:=Tryz.zeroValue277
 t201:=Tryz.underlying280
 a201:=Tryz.isAgg280
 z201:=Tryz.sizeOf280
 v201:=Tryz.zeroValue280
 t226:=Tryz.underlying287
 a226:=Tryz.isAgg287
 z226:=Tryz.sizeOf287
 v226:=Tryz.zeroValue287
 t227:=Tryz.underlying288
 a227:=Tryz.isAgg288
 z227:=Tryz.sizeOf288
 v227:=Tryz.zeroValue288
 g0:=by kernel_rfl
 g6:=by kernel_rfl }
open Go.RowKit Go.Lib in
theorem Tryz.strings_Fields (s:ByteArray)(w:World)(hs:s.size<4294967281)(hascii:∀ (j:Nat) b,s.data.toList[j]?=some b->b.toNat<128)(htab:Lib.TabIs Tryz.prog w "strings.asciiSpace" .u8 Lib.asciiSpaceTab) :
 Calls Tryz.prog 169 #[.string s] w fun e w' =>
  e=.returned (.slice (some ⟨w.heap.size,0,none⟩) (Lib.fields s.data.toList).length (Lib.fields s.data.toList).length)/\w'=w.alloc (.cells ((Lib.fields s.data.toList).map fun l=>Value.string ⟨l.toArray⟩).toArray 9):=Any.strings_Fields Tryz.lays157 (by kernel_rfl) (by kernel_rfl) s w hs hascii htab
end Go.Proofs
namespace Go.Proofs.YtehfpameijkafaaGreatDoor
open Go.RowKit Go.Q Go.Vl Go.Sp
set_option maxRecDepth 100000
theorem Xs (s:Æ)(c:Int)(r:Int)(h:MP s c=some r):CA Tryz.prog 156 [tP s,uP c] (iP r):=by
 obtain rfl:=Af h
 exact fun σ=>VC.lits [.string s,.int .u8 c] _ fun w _=>(Tryz.strings_IndexByte s c w).mono fun _ _ h=>⟨h.1,by rw [h.2];exact Below.refl _ _⟩
theorem Abt (s p:Æ)(r:Bool)(h:Wx s p=some r):CA Tryz.prog 170 [tP s,tP p] (bP r):=by
 obtain rfl:=Af h
 exact fun σ=>VC.lits [.string s,.string p] _ fun w _=>(Tryz.strings_HasPrefix s p w).mono fun _ _ h=>⟨h.1,by rw [h.2];exact Below.refl _ _⟩
theorem Abu (s p:Æ)(r:Bool)(h:Tv s p=some r):CA Tryz.prog 171 [tP s,tP p] (bP r):=by
 unfold Tv at h
 split at h
 . rename_i c e
   obtain rfl:=Af h
   obtain rfl:p=⟨#[c]⟩:=by
    have:p=⟨⟨p.data.toList⟩⟩:=rfl
    rw [this,e]
   exact fun σ=>VC.lits [.string s,.string ⟨#[c]⟩] _ fun w _=>(Tryz.strings_Contains_one s c w).mono fun _ _ h=>⟨h.1,by rw [h.2];exact Below.refl _ _⟩
 . cases h
theorem Afp {w:World}(h:QI w):Lib.TabIs Tryz.prog w "strings.asciiSpace" .u8 Lib.asciiSpaceTab:=by
 obtain⟨⟨⟨T,o,h0⟩,_⟩,_⟩:=h
 unfold Lib.TabIs World.var?
 rw [show Tryz.prog.globalNamed "strings.asciiSpace" = some 0 from by kernel_rfl]
 simp only [Á,h0]
theorem VS (s:Æ)(r:List Æ)(h:Mc s=some r):CA Tryz.prog 169 [tP s] (hP r FL):=by
 unfold Mc at h
 split at h
 . rename_i e
   subst e
   obtain rfl:=Af h
   refine VC.fin (fun Q hQ=>?_) rfl rfl
   have hf:Lib.fields Sr.data.toList=Lx.long:=by decide +kernel
   have ha:∀ (j:Nat) (b:UInt8),Sr.data.toList[j]?=some b->b.toNat<128:=fun j b hb=>(show ∀ b∈Sr.data.toList,b.toNat<128 by decide) b (Ò hb)
   have h:=VC.freshSl (P:=Tryz.prog) (f:=169) (σ:=[]) [.string Sr] (Lx.long.map fun l=>.string ⟨⟨l⟩⟩) 9 (by simp [Lx.long,Value.oneCell']) (by decide) fun w hg=>by
    have:=Tryz.strings_Fields Sr w (by decide) ha (Afp hg)
    rw [hf] at this
    refine this.mono fun e w' h=>?_
    rw [Í]
    exact h
   rw [List.map_map] at h
   refine VC.mono h ?_
   rintro _ _ ⟨rfl,rfl⟩
   exact hQ _ rfl
 . cases h
theorem Xh {w w':World}(h:w'=w∨∃ t,w'=Lib.bytesWorld w 5 t):Below w.heap.size w w':=by
 rcases h with rfl|⟨t,rfl⟩
 . exact Below.refl _ _
 . exact⟨rfl,rfl,rfl,by rw [Lib.bytesWorld_size];omega,fun j hj=>Lib.bytesWorld_at_old w 5 t j hj⟩
theorem fit {s:Æ}{u:Unit}(h:MQ s=some u):s.size<=1000000:=by
 unfold MQ at h
 split at h
 . assumption
 . cases h
theorem Abv (s:Æ){u:Unit}(hf:MQ s=some u)(h:O0 s=false):CA Tryz.prog 168 [tP s] (.tup [iP (L4 s),.lit .nilIface]):=by
 have hs:=fit hf
 unfold O0 at h
 unfold L4
 split at h
 . rename_i v hv
   rw [hv]
   exact fun σ=>VC.litNil [.string s] _ fun w _=>(Tryz.strconv_Atoi_ok s (by omega) v hv w).mono fun _ _ h=>⟨h.1,Xh h.2⟩
 . cases h
theorem Zl (s:Æ){u:Unit}(hf:MQ s=some u)(h:O0 s=true):CA Tryz.prog 168 [tP s] (.tup [iP (L4 s),.ifc]):=by
 have hs:=fit hf
 unfold O0 at h
 unfold L4
 intro σ
 cases hat:Lib.atoiAll s.data.toList with
 | «syntax» =>
  refine VC.litErr [.string s] _ fun w hg=>?_
  obtain⟨ev,hev1,hev2⟩:=hg.2.1
  refine (Tryz.strconv_Atoi_syntax s (by omega) hat ev w hev1 hev2).mono ?_
  rintro e wc ⟨NN,rfl,_,_,hbc⟩
  exact⟨⟨_,_,rfl⟩,hbc⟩
 |range =>
  refine VC.litErr [.string s] _ fun w hg=>?_
  obtain⟨ev,hev1,hev2⟩:=hg.2.2
  refine (Tryz.strconv_Atoi_range s (by omega) hat ev w hev1 hev2).mono ?_
  rintro e wc ⟨NN,rfl,_,_,hbc⟩
  exact⟨⟨_,_,rfl⟩,hbc⟩
 |ok v=>rw [hat] at h;cases h
end Go.Proofs.YtehfpameijkafaaGreatDoor
namespace Go.Proofs.YtehfpameijkafaaGreatDoor
open Go.RowKit Go.Q Go.Vl Go.Sp
set_option maxRecDepth 100000
set_option linter.unusedSimpArgs false
set_option maxHeartbeats 4000000
set_option linter.unusedVariables false
theorem Ig (c:Int)(r:Int)(h:EH c=some r):CA Tryz.prog 157 [uP c] (iP r):=by
 unfold EH at h
 refine vP ⟨[0,2,3,6,19,26],[]⟩ Tryz.func157 follows fun Q hQ=>?_
 refine cD 7 [] h (fun hc10 h=>?_) fun hc10 h=>?_
 cases h
 exact rt 2 [] hQ
 refine mE 0 [] h (fun v6=>⟨[(0,uP c),(2,iP 0),(6,bP v6)],[]⟩) ?_ fun y e hJ=>?_
 rintro v6 h
 refine mE 0 [] h (fun v61=>⟨[(0,uP c),(2,iP 0),(6,bP v61)],[]⟩) ?_ fun y1 e1 hJ1=>?_
 rintro v61 h
 refine cD 0 [] h (fun hc6 h=>?_) fun hc6 h=>?_
 cases h
 exact rt 2 [] hQ
 refine mE 0 [] h (fun v19=>⟨[(0,uP c),(2,iP 0),(19,bP v19)],[]⟩) ?_ fun y2 e2 hJ2=>?_
 rintro v19 h
 refine cD 0 [] h (fun hc4 h=>?_) fun hc4 h=>?_
 cases h
 exact rt 2 [] hQ
 refine mE 1 [] h (fun v26=>⟨[(2,iP 0),(26,bP v26)],[]⟩) ?_ fun y3 e3 hJ3=>?_
 rintro v26 h
 refine cD 0 [] h (fun hc h=>?_) fun hc h=>?_
 cases h
 exact rt 2 [] hQ
 cases h
 exact rt 2 [] hQ
 refine cD 0 [] e3 (fun hc3 e3=>?_) fun hc3 e3=>?_
 exact mJ 0 [] (hJ3 _ (oj e3))
 refine cD 1 [] e3 (fun hc2 e3=>?_) fun hc2 e3=>?_
 exact mJ 0 [] (hJ3 _ (oj e3))
 refine cD 1 [] e3 (fun hc1 e3=>?_) fun hc1 e3=>?_
 exact mJ 0 [] (hJ3 _ (oj e3))
 exact mJ 1 [] (hJ3 _ (oj e3))
 rcases Am e2 with⟨hc5,e2⟩|⟨hc5,e2⟩
 exact mJ 1 [(2,fo hc5)] (hJ2 _ (oj e2))
 exact mJ 1 [(2,fo hc5)] (hJ2 _ (oj e2))
 refine cD 0 [] e1 (fun hc8 e1=>?_) fun hc8 e1=>?_
 exact mJ 0 [] (hJ1 _ (oj e1))
 refine mE 0 [] e1 (fun v62=>⟨[(0,uP c),(2,iP 0),(6,bP v62)],[]⟩) ?_ fun y4 e4 hJ4=>?_
 rintro v62 e1
 exact mJ 0 [] (hJ1 _ (oj e1))
 rcases Am e4 with⟨hc7,e4⟩|⟨hc7,e4⟩
 exact mJ 1 [(2,fo hc7)] (hJ4 _ (oj e4))
 exact mJ 1 [(2,fo hc7)] (hJ4 _ (oj e4))
 rcases Am e with⟨hc9,e⟩|⟨hc9,e⟩
 exact mJ 1 [(2,fo hc9)] (hJ _ (oj e))
 exact mJ 1 [(2,fo hc9)] (hJ _ (oj e))
theorem I4 (n:Nat)(r_:Ak)(r:(Unit×Ak))(h:Ee n r_=some r):D9 Tryz.prog 142 [] [tP r_.src,iP r_.at_,oT r_.out] (.ret (.tup [])) [tP r.2.src,iP r.2.at_,oT r.2.out]:=by
 unfold Ee at h
 refine vM ⟨[0,2,3,13,23,37,56],[(0,[9999,0,0,1,2,3,4,5,6,7,8,9]),(1,[9999,0,0,1,2,3,4,5,6,7,8,9]),(3,[9999,0,0,1,2,3,4,5,6,7,8,9,10]),(5,[9999,0,0,1,2,3,4,5,6,7,8,9,10])]⟩ Tryz.func142 follows fun Q hQ=>?_
 refine mI 0 [] h (fun r_1=>⟨[],[[tP r_.src,iP r_1,oT r_.out]]⟩) ?_ fun y e h hJ=>?_
 rintro r_1 h
 cases h
 exact rt 0 [] hQ
 refine lF 1 [] (A:=Int) (fun n r_2=>AS n r_ r_2) (fun r_2=>⟨[(0,.ptr 0 0)],[[tP r_.src,iP r_2,oT r_.out]]⟩) r_.at_ e (fun _=>rfl) ?_
 rintro n r_2 e ih
 replace e:=(AS.eq_2 ..).symm.trans e
 refine cD 1 [] e (fun hc4 e=>?_) fun hc4 e=>?_
 obtain⟨c,hc,e⟩:=Ae e
 refine cD 4 [(8,fb hc)] e (fun hc3 e=>?_) fun hc3 e=>?_
 obtain⟨s,hs,e⟩:=Ae e
 obtain⟨n_,hn_,e⟩:=Ae e
 refine cD 2 [(8,fu hs),(0,fk (Xs _ _ _ hn_))] e (fun hc1 e=>?_) fun hc1 e=>?_
 exact mJ 2 [] (ih _ e)
 exact mJ 1 [] (ih _ e)
 obtain⟨c1,hc11,e⟩:=Ae e
 refine cD 1 [(1,fk (Ig _ _ hc11))] e (fun hc2 e=>?_) fun hc2 e=>?_
 exact mJ 1 [] (ih _ e)
 cases e
 cases h
 exact rt 0 [] hQ
 exact mJ 1 [] (hJ _ (oj e))
theorem I3 (n:Nat)(r_:Ak)(least:Int)(r:Int)(h:Ed n r_ least=some r):D9 Tryz.prog 167 [iP least] [tP r_.src,iP r_.at_,oT r_.out] (.ret (iP r)) [tP r_.src,iP r_.at_,oT r_.out]:=by
 unfold Ed at h
 refine vM ⟨[0,1,4,5,27],[]⟩ Tryz.func167 follows fun Q hQ=>?_
 refine mE 2 [] h (fun to_=>⟨[(4,iP 0),(5,iP to_)],[[tP r_.src,iP r_.at_,oT r_.out]]⟩) ?_ fun y e hJ=>?_
 rintro to_ h
 cases h
 exact rt 1 [] hQ
 refine lF 1 [] (A:=Int) (fun n to_1=>BF n r_ least to_1) (fun to_1=>⟨[(0,.ptr 0 0),(1,iP least),(4,iP 0),(5,iP to_1)],[[tP r_.src,iP r_.at_,oT r_.out]]⟩) r_.at_ e (fun _=>rfl) ?_
 rintro n to_1 e ih
 replace e:=(BF.eq_2 ..).symm.trans e
 refine mE 0 [] e (fun v27=>⟨[(0,.ptr 0 0),(1,iP least),(4,iP 0),(5,iP to_1),(27,bP v27)],[[tP r_.src,iP r_.at_,oT r_.out]]⟩) ?_ fun y1 e1 hJ1=>?_
 rintro v27 e
 refine cD 0 [] e (fun hc e=>?_) fun hc e=>?_
 exact mJ 2 [] (ih _ e)
 exact mJ 1 [] (hJ _ (oj e))
 rcases Am e1 with⟨hc1,e1⟩|⟨hc1,e1⟩
 obtain⟨c,hc2,e1⟩:=Ae e1
 obtain⟨c1,hc11,e1⟩:=Ae e1
 exact mJ 1 [(7,fo hc1),(5,fb hc2),(0,fk (Ig _ _ hc11))] (hJ1 _ (oj e1))
 exact mJ 1 [(7,fo hc1)] (hJ1 _ (oj e1))
theorem CY (r_:Ak)(kind:Int)(to_:Int)(s:Æ)(n_:Int)(r:(Int×Ak))(h:B8 r_ kind to_ s n_=some r):D9 Tryz.prog 144 [iP kind,iP to_,tP s,iP n_] [tP r_.src,iP r_.at_,oT r_.out] (.ret (iP r.1)) [tP r.2.src,iP r.2.at_,oT r.2.out]:=by
 unfold B8 at h
 refine vM ⟨[0,1,2,3,4,10],[(1,[9999,0,0,1,2,3,4,5,6,7,8,9,10,11,12,13,14,15,16,17])]⟩ Tryz.func144 follows fun Q hQ=>?_
 obtain⟨l,hl,h⟩:=Ae h
 obtain⟨l1,hl1,h⟩:=Ae h
 cases h
 exact rt 4 [(14,fB Cp hl),(0,fa Cp hl1)] hQ
theorem MB (n:Nat)(r_:Ak)(r:((Bool×Int)×Ak))(h:Eh n r_=some r):D9 Tryz.prog 158 [] [tP r_.src,iP r_.at_,oT r_.out] (.ret (.tup [bP r.1.1,iP r.1.2])) [tP r.2.src,iP r.2.at_,oT r.2.out]:=by
 unfold Eh at h
 refine vM ⟨[0,2,3,4,15,24],[(1,[9999,0,0,1,2,3,4,5,6,7,8,9,10]),(6,[9999,1,0,0,1,2,3,4,5,6,7,8,9,10,11,12,13,14])]⟩ Tryz.func158 follows fun Q hQ=>?_
 obtain⟨c,hc,h⟩:=Ae h
 obtain⟨c1,hc1,h⟩:=Ae h
 refine cD 2 [(10,fb hc),(0,fk (Ig _ _ hc1))] h (fun hc3 h=>?_) fun hc3 h=>?_
 cases h
 exact rt 1 [] hQ
 obtain⟨to_,hto_,h⟩:=Ae h
 refine cD 2 [(1,fm (I3 _ _ _ _ hto_))] h (fun hc2 h=>?_) fun hc2 h=>?_
 cases h
 exact rt 1 [] hQ
 obtain⟨s,hs,h⟩:=Ae h
 obtain⟨p,hp,h⟩:=Ae h
 cases h
 exact rt 1 [(11,fu hs),(0,fm (CY _ _ _ _ _ _ hp))] hQ
theorem Lk (n:Nat)(r_:Ak)(r:((Bool×Int)×Ak))(h:Dp n r_=some r):D9 Tryz.prog 159 [] [tP r_.src,iP r_.at_,oT r_.out] (.ret (.tup [bP r.1.1,iP r.1.2])) [tP r.2.src,iP r.2.at_,oT r.2.out]:=by
 unfold Dp at h
 refine vM ⟨[0,2,3,4,5,6,7,18,52],[(1,[9999,0,0,1,2,3,4,5,6,7,8,9,10]),(4,[9999,0,0,1,2,3,4,5,6,7,8,9,10])]⟩ Tryz.func159 follows fun Q hQ=>?_
 obtain⟨c,hc,h⟩:=Ae h
 obtain⟨c1,hc1,h⟩:=Ae h
 refine cD 2 [(10,fb hc),(0,fk (Ig _ _ hc1))] h (fun hc6 h=>?_) fun hc6 h=>?_
 cases h
 exact rt 1 [] hQ
 obtain⟨to_,hto_,h⟩:=Ae h
 obtain⟨s,hs,h⟩:=Ae h
 refine wl 2 [(1,fm (I3 _ _ _ _ hto_)),(10,fu hs)] ?_
 obtain⟨_,hf,h⟩:=Ae h
 replace h:=Am h
 rcases h with⟨hc2,h⟩|⟨hc2,h⟩
 cases h
 exact rt 4 [(1,fk (Zl _ hf hc2))] hQ
 refine mE 1 [(1,fk (Abv _ hf hc2))] h (fun (n_,v52)=>⟨[(0,.ptr 0 0),(2,bP false),(3,iP 0),(4,iP to_),(6,iP n_),(52,bP v52)],[[tP r_.src,iP r_.at_,oT r_.out]]⟩) ?_ fun y e hJ=>?_
 rintro⟨n_,v52⟩ h
 refine cD 0 [] h (fun hc3 h=>?_) fun hc3 h=>?_
 cases h
 exact rt 1 [] hQ
 obtain⟨p,hp,h⟩:=Ae h
 cases h
 exact rt 1 [(3,fm (CY _ _ _ _ _ _ hp))] hQ
 rcases Am e with⟨hc4,e⟩|⟨hc4,e⟩
 exact mJ 1 [(7,fo hc4)] (hJ _ (oj e))
 rcases Am e with⟨hc5,e⟩|⟨hc5,e⟩
 obtain⟨c2,hc21,e⟩:=Ae e
 exact mJ 1 [(7,fo hc4),(3,fo hc5),(1,fb hc21)] (hJ _ (oj e))
 exact mJ 1 [(7,fo hc4),(3,fo hc5)] (hJ _ (oj e))
theorem M8 (n:Nat)(r_:Ak)(r:((Bool×Int)×Ak))(h:Ec n r_=some r):D9 Tryz.prog 160 [] [tP r_.src,iP r_.at_,oT r_.out] (.ret (.tup [bP r.1.1,iP r.1.2])) [tP r.2.src,iP r.2.at_,oT r.2.out]:=by
 unfold Ec at h
 refine vM ⟨[0,2,3,4,5,6,7,17,25,34,45,54,65,74,80],[(1,[9999,0,0,1,2,3,4,5,6,7,8,9])]⟩ Tryz.func160 follows fun Q hQ=>?_
 obtain⟨c,hc,h⟩:=Ae h
 refine cD 2 [(10,fb hc)] h (fun hc11 h=>?_) fun hc11 h=>?_
 cases h
 exact rt 1 [] hQ
 refine mI 2 [] h (fun _=>⟨[(2,bP false),(3,iP 0)],[[tP r_.src,iP r_.at_,oT r_.out]]⟩) ?_ fun y e h hJ=>?_
 rintro _ h
 cases h
 exact rt 1 [] hQ
 refine lF 1 [] (A:=((List Int)×Int)) (fun n (b,k)=>AB n r_ b k) (fun (b,k)=>⟨[(0,.ptr 0 0),(2,bP false),(3,iP 0),(4,oP b Ju),(5,iP k)],[[tP r_.src,iP r_.at_,oT r_.out]]⟩) ([],(À (r_.at_+1))) e (fun _=>rfl) ?_
 rintro n ⟨b,k⟩ e ih
 replace e:=(AB.eq_2 ..).symm.trans e
 refine cD 1 [(1,fl OQ b)] e (fun hc10 e=>?_) fun hc10 e=>?_
 refine cD 2 [] e (fun hc9 e=>?_) fun hc9 e=>?_
 cases e
 cases h
 exact rt 1 [] hQ
 obtain⟨c1,hc1,e⟩:=Ae e
 refine cD 3 [(5,fb hc1)] e (fun hc8 e=>?_) fun hc8 e=>?_
 obtain⟨p,hp,e⟩:=Ae e
 cases e
 cases h
 exact rt 1 [(4,fg OQ (fun _=>rfl) b),(0,fm (CY _ _ _ _ _ _ hp))] hQ
 refine cD 1 [] e (fun hc7 e=>?_) fun hc7 e=>?_
 refine mE 3 [] e (fun pair=>⟨[(0,.ptr 0 0),(2,bP false),(3,iP 0),(4,oP b Ju),(5,iP (À (k+1))),(7,iP pair)],[[tP r_.src,iP r_.at_,oT r_.out]]⟩) ?_ fun y1 e1 hJ1=>?_
 rintro pair e
 refine cD 1 [] e (fun hc3 e=>?_) fun hc3 e=>?_
 cases e
 cases h
 exact rt 1 [] hQ
 obtain⟨c2,hc2,e⟩:=Ae e
 obtain⟨l,hl,e⟩:=Ae e
 obtain⟨l1,hl1,e⟩:=Ae e
 exact mJ 2 [(2,fb hc2),(0,fB OQ hl),(0,fa OQ hl1)] (ih (_,_) e)
 refine cD 0 [] e1 (fun hc4 e1=>?_) fun hc4 e1=>?_
 obtain⟨c3,hc31,e1⟩:=Ae e1
 obtain⟨pair1,hpair1,e1⟩:=Ae e1
 exact mJ 1 [(5,fb hc31),(0,fk (Xs _ _ _ hpair1))] (hJ1 _ (oj e1))
 exact mJ 0 [] (hJ1 _ (oj e1))
 refine mE 0 [] e (fun v80=>⟨[(0,.ptr 0 0),(2,bP false),(3,iP 0),(4,oP b Ju),(5,iP k),(6,uP c1),(80,bP v80)],[[tP r_.src,iP r_.at_,oT r_.out]]⟩) ?_ fun y2 e2 hJ2=>?_
 rintro v80 e
 refine cD 0 [] e (fun hc5 e=>?_) fun hc5 e=>?_
 cases e
 cases h
 exact rt 1 [] hQ
 obtain⟨l2,hl2,e⟩:=Ae e
 obtain⟨l3,hl3,e⟩:=Ae e
 exact mJ 2 [(2,fB OQ hl2),(0,fa OQ hl3)] (ih (_,_) e)
 rcases Am e2 with⟨hc6,e2⟩|⟨hc6,e2⟩
 exact mJ 1 [(2,fo hc6)] (hJ2 _ (oj e2))
 exact mJ 1 [(2,fo hc6)] (hJ2 _ (oj e2))
 exact mJ 1 [] (hJ _ (oj e))
theorem M9 (n:Nat)(r_:Ak)(r:((Bool×Int)×Ak))(h:Ef n r_=some r):D9 Tryz.prog 161 [] [tP r_.src,iP r_.at_,oT r_.out] (.ret (.tup [bP r.1.1,iP r.1.2])) [tP r.2.src,iP r.2.at_,oT r.2.out]:=by
 unfold Ef at h
 refine vM ⟨[0,2,3,4,6,16,17,18,19,24,37],[(1,[9999,0,0,1,2,3,4,5,6,7,8,9]),(10,[9999,1,0,0,1,2,3,4,5,6,7,8,9,10])]⟩ Tryz.func161 follows fun Q hQ=>?_
 obtain⟨s,hs,h⟩:=Ae h
 obtain⟨f,hf,h⟩:=Ae h
 refine mI 3 [(10,fu hs),(1,fk (VS _ _ hf)),(0,fl LV f)] h (fun _=>⟨[(0,.ptr 0 0),(2,bP false),(3,iP 0),(4,tP s)],[[tP r_.src,iP r_.at_,oT r_.out]]⟩) ?_ fun y e h hJ=>?_
 rintro _ h
 obtain⟨s1,hs1,h⟩:=Ae h
 obtain⟨c,hc,h⟩:=Ae h
 refine cD 1 [(1,fu hs1),(0,fk (Abu _ _ _ hc))] h (fun hc1 h=>?_) fun hc1 h=>?_
 cases h
 exact rt 1 [] hQ
 obtain⟨p,hp,h⟩:=Ae h
 cases h
 exact rt 1 [(7,fu hs1),(0,fm (CY _ _ _ _ _ _ hp))] hQ
 refine lF 1 [] (A:=Int) (fun n v18=>BX n f s r_ v18) (fun v18=>⟨[(0,.ptr 0 0),(2,bP false),(3,iP 0),(4,tP s),(16,hS f),(17,iP (f.length:Int)),(18,iP v18)],[[tP r_.src,iP r_.at_,oT r_.out]]⟩) 0 e (fun _=>rfl) ?_
 rintro n v18 e ih
 replace e:=(BX.eq_2 ..).symm.trans e
 refine cD 1 [] e (fun hc3 e=>?_) fun hc3 e=>?_
 obtain⟨x,hx,e⟩:=Ae e
 obtain⟨h_,hh_,e⟩:=Ae e
 refine cD 3 [(0,fi LV hx),(4,fk (Abt _ _ _ hh_))] e (fun hc2 e=>?_) fun hc2 e=>?_
 obtain⟨p1,hp1,e⟩:=Ae e
 cases e
 cases h
 exact rt 1 [(7,fm (CY _ _ _ _ _ _ hp1))] hQ
 exact mJ 1 [] (ih _ e)
 exact mJ 1 [] (hJ _ (oj e))
theorem MA (n:Nat)(r_:Ak)(r:(Int×Ak))(h:Eg n r_=some r):D9 Tryz.prog 143 [] [tP r_.src,iP r_.at_,oT r_.out] (.ret (iP r.1)) [tP r.2.src,iP r.2.at_,oT r.2.out]:=by
 unfold Eg at h
 refine vM ⟨[0,2,4,5,6,7,8,9,17],[]⟩ Tryz.func143 follows fun Q hQ=>?_
 refine mI 2 [] h (fun (r_1,r_2,r_3)=>⟨[(2,iP 0)],[[tP r_1,iP r_2,oT r_3]]⟩) ?_ fun y e h hJ=>?_
 rintro⟨r_1,r_2,r_3⟩ h
 cases h
 exact rt 1 [] hQ
 refine lF 1 [] (A:=(Int×ByteArray×Int×(List Ap))) (fun n (v8,r_4,r_5,r_6)=>Ar n v8 r_4 r_5 r_6) (fun (v8,r_4,r_5,r_6)=>⟨[(0,.ptr 0 0),(2,iP 0),(7,.agg [.fno true 158 [],.fno true 159 [],.fno true 160 [],.fno true 161 []]),(8,iP v8)],[[tP r_4,iP r_5,oT r_6]]⟩) (0,r_.src,r_.at_,r_.out) e (fun _=>rfl) ?_
 rintro n ⟨v8,r_4,r_5,r_6⟩ e ih
 replace e:=(Ar.eq_2 ..).symm.trans e
 replace e:=Am e
 rcases e with⟨hc7,e⟩|⟨hc7,e⟩
 obtain rfl:=OH hc7
 obtain⟨n_1,hn_1,e⟩:=Ae e
 refine cD 6 [(5,fm (MB _ _ _ hn_1))] e (fun hc8 e=>?_) fun hc8 e=>?_
 cases e
 cases h
 exact rt 1 [] hQ
 exact mJ 1 [] (ih (_,_,_,_) e)
 replace e:=Am e
 rcases e with⟨hc5,e⟩|⟨hc5,e⟩
 obtain rfl:=OH hc5
 obtain⟨n_,hn_,e⟩:=Ae e
 refine cD 6 [(5,fm (Lk _ _ _ hn_))] e (fun hc6 e=>?_) fun hc6 e=>?_
 cases e
 cases h
 exact rt 1 [] hQ
 exact mJ 1 [] (ih (_,_,_,_) e)
 replace e:=Am e
 rcases e with⟨hc3,e⟩|⟨hc3,e⟩
 obtain rfl:=OH hc3
 obtain⟨t,ht,e⟩:=Ae e
 refine cD 6 [(5,fm (M8 _ _ _ ht))] e (fun hc4 e=>?_) fun hc4 e=>?_
 cases e
 cases h
 exact rt 1 [] hQ
 exact mJ 1 [] (ih (_,_,_,_) e)
 replace e:=Am e
 rcases e with⟨hc1,e⟩|⟨hc1,e⟩
 obtain rfl:=OH hc1
 obtain⟨s,hs,e⟩:=Ae e
 refine cD 6 [(5,fm (M9 _ _ _ hs))] e (fun hc2 e=>?_) fun hc2 e=>?_
 cases e
 cases h
 exact rt 1 [] hQ
 exact mJ 1 [] (ih (_,_,_,_) e)
 replace e:=Am e
 rcases e with⟨hc,e⟩|⟨hc,e⟩
 obtain rfl:=OH hc
 exact mJ 3 [] (hJ _ (oj e))
 cases e
theorem R8 (n:Nat)(src:Æ)(r:((List Ap)×An))(h:Ik n src=some r):CA Tryz.prog 112 [tP src] (.tup [hT r.1,.agg [iP r.2.At,iP r.2.E]]):=by
 unfold Ik at h
 refine vP ⟨[0,2,3,4,5,8,21,27],[(9,[9999,0,0,1,2,3,4,5,6,7])]⟩ Tryz.func112 follows fun Q hQ=>?_
 refine cD 2 [] h (fun hc2 h=>?_) fun hc2 h=>?_
 cases h
 exact rt 1 [] hQ
 obtain⟨s,hs,h⟩:=Ae h
 refine mI 2 [(5,fm (I4 _ _ _ hs))] h (fun (q,q1,q2)=>⟨[(0,tP src),(2,.sl [] .own),(3,.ptr 0 0),(4,.ptr 1 0)],[[iP 0,iP 0],[tP q,iP q1,oT q2]]⟩) ?_ fun y e h hJ=>?_
 rintro⟨q,q1,q2⟩ h
 obtain⟨p,hp,h⟩:=Ae h
 cases h
 exact rt 2 [(3,fm (CY _ _ _ _ _ _ hp))] hQ
 refine lF 1 [] (A:=(ByteArray×Int×(List Ap))) (fun n (q3,q4,q5)=>Cr n src q3 q4 q5) (fun (q3,q4,q5)=>⟨[(0,tP src),(2,.sl [] .own),(3,.ptr 0 0),(4,.ptr 1 0)],[[iP 0,iP 0],[tP q3,iP q4,oT q5]]⟩) (s.2.src,s.2.at_,s.2.out) e (fun _=>rfl) ?_
 rintro n ⟨q3,q4,q5⟩ e ih
 replace e:=(Cr.eq_2 ..).symm.trans e
 refine cD 1 [] e (fun hc1 e=>?_) fun hc1 e=>?_
 obtain⟨e1,he1,e⟩:=Ae e
 refine cD 3 [(1,fm (MA _ _ _ he1))] e (fun hc e=>?_) fun hc e=>?_
 cases e
 cases h
 exact rt 1 [] hQ
 obtain⟨s1,hs1,e⟩:=Ae e
 exact mJ 1 [(1,fm (I4 _ _ _ hs1))] (ih (_,_,_) e)
 exact mJ 1 [] (hJ _ (oj e))
end Go.Proofs.YtehfpameijkafaaGreatDoor
