/-
  Texts joined: Shelf Num Fmt SJoin NumB Cut.
-/
import Derived.Shelf.Strings.Builder1
import Derived.Shelf.Strings.Builder2
import Derived.Shelf.Strings.OnBuilder
import Derived.Shelf.Strconv.Atoi
import Derived.Shelf.Strconv.Itoa0
import Derived.Shelf.Strconv.Itoa1
import Derived.Shelf.LaysM
import Derived.Shelf.Strconv.Itoa2
import Derived.Shelf.Strconv.Itoa3
import Derived.Shelf.Strconv.AtoiErrFast
import Derived.Shelf.Strconv.ParseIntEmpty
import Derived.Shelf.Strconv.AtoiFail
import Derived.Shelf.Strconv.Clone
import Derived.Shelf.Strconv.SyntaxError
import Derived.Shelf.LaysC
import Derived.Shelf.Strconv.ToError
import Derived.Shelf.Strconv.Lower
import Derived.Shelf.Strconv.ParseUint10
import Derived.Shelf.Strconv.ParseUint10Empty
import Derived.Shelf.Strconv.ParseUint10Any
import Derived.Shelf.Strconv.ParseInt10
import Derived.Shelf.Strconv.AtoiLong
import Derived.Shelf.Strconv.AtoiInnerAll
import Derived.Shelf.Strconv.RangeError
import Derived.Shelf.Strconv.ToErrorRange
import Derived.Shelf.Strconv.AtoiAll
import Derived.Shelf.Strings.Search1
import Derived.Shelf.Strings.Search2
import Derived.Shelf.Strings.Search3
import Derived.Shelf.Strings.Count
import Derived.Shelf.Strings.Split
import Derived.Shelf.Strings.SplitShaped
import Derived.Test.YtfengkmaphbofaaGreatDoorProg
import Derived.Test.YtfengkmaphbofaaGreatDoorJA
import Derived.Test.YtfengkmaphbofaaGreatDoorJE
import Derived.Lib.AppendIntMem
import Derived.Lib.ItoaLen
import Derived.Test.YtfengkmaphbofaaGreatDoorJH
import Derived.Lib.Join
import Derived.Lib.AtoiAll
import Derived.Lib.AtoiAllCases
import Derived.Lib.Split
import Derived.Lib.SplitLaws
import Derived.Lib.IndexMore
import Derived.Lib.IndexLaws
set_option maxHeartbeats 8000000
set_option linter.unusedSimpArgs false
set_option linter.unusedVariables false
namespace Go.Proofs
open Go.Shelf
def Tryz.EM :Go.Shelf.Ren:=⟨fun|171=>100|243=>126|246=>158|283=>187|284=>188|285=>189|286=>190|129=>201|317=>200|318=>202|319=>203|320=>204|337=>208|338=>209|n=>n,fun|3=>3|9=>9|2=>2|4=>4|171=>158|0=>0|53=>159|37=>32|5=>5|173=>162|212=>181|51=>171|20=>20|213=>182|46=>118|232=>189|233=>190|n=>n,fun|17=>5|18=>6|19=>7|n=>n⟩
theorem Tryz.laysM171 :Go.Proofs.LaysM.n171 Tryz.prog Tryz.EM:={
 mixed:=by kernel_rfl
 f129:=Tryz.func201.trans (congrArg some (by kernel_rfl))
 f171:=Tryz.func100.trans (congrArg some (by kernel_rfl))
 f243:=Tryz.func126.trans (congrArg some (by kernel_rfl))
 f246:=Tryz.func158.trans (congrArg some (by kernel_rfl))
 f283:=Tryz.func187.trans (congrArg some (by kernel_rfl))
 f284:=Tryz.func188.trans (congrArg some (by kernel_rfl))
 f285:=Tryz.func189.trans (congrArg some (by kernel_rfl))
 f286:=Tryz.func190.trans (congrArg some (by kernel_rfl))
 f317:=Tryz.func200.trans (congrArg some (by kernel_rfl))
 f318:=Tryz.func202.trans (congrArg some (by kernel_rfl))
 f319:=Tryz.func203.trans (congrArg some (by kernel_rfl))
 f320:=Tryz.func204.trans (congrArg some (by kernel_rfl))
 f337:=Tryz.func208.trans (congrArg some (by kernel_rfl))
 f338:=Tryz.func209.trans (congrArg some (by kernel_rfl))
 t0:=Tryz.underlying0
 a0:=Tryz.isAgg0
 z0:=Tryz.sizeOf0
 v0:=Tryz.zeroValue0
 t2:=Tryz.underlying2
 a2:=Tryz.isAgg2
 z2:=Tryz.sizeOf2
 v2:=Tryz.zeroValue2
 t3:=Tryz.underlying3
 a3:=Tryz.isAgg3
 z3:=Tryz.sizeOf3
 v3:=Tryz.zeroValue3
 t4:=Tryz.underlying4
 a4:=Tryz.isAgg4
 z4:=Tryz.sizeOf4
 v4:=Tryz.zeroValue4
 t5:=Tryz.underlying5
 a5:=Tryz.isAgg5
 z5:=Tryz.sizeOf5
 v5:=Tryz.zeroValue5
 t9:=Tryz.underlying9
 a9:=Tryz.isAgg9
 z9:=Tryz.sizeOf9
 v9:=Tryz.zeroValue9
 t20:=Tryz.underlying20
 a20:=Tryz.isAgg20
 z20:=Tryz.sizeOf20
 v20:=Tryz.zeroValue20
 t37:=Tryz.underlying32
 a37:=Tryz.isAgg32
 z37:=Tryz.sizeOf32
 v37:=Tryz.zeroValue32
 t46:=Tryz.underlying118
 a46:=Tryz.isAgg118
 z46:=Tryz.sizeOf118
 v46:=Tryz.zeroValue118
 t51:=Tryz.underlying171
 a51:=Tryz.isAgg171
 z51:=Tryz.sizeOf171
 v51:=Tryz.zeroValue171
 t53:=Tryz.underlying159
 a53:=Tryz.isAgg159
 z53:=Tryz.sizeOf159
 v53:=Tryz.zeroValue159
 t171:=Tryz.underlying158
 a171:=Tryz.isAgg158
 z171:=Tryz.sizeOf158
 v171:=Tryz.zeroValue158
 t173:=Tryz.underlying162
 a173:=Tryz.isAgg162
 z173:=Tryz.sizeOf162
 v173:=Tryz.zeroValue162
 t212:=Tryz.underlying181
 a212:=Tryz.isAgg181
 z212:=Tryz.sizeOf181
 v212:=Tryz.zeroValue181
 t213:=Tryz.underlying182
 a213:=Tryz.isAgg182
 z213:=Tryz.sizeOf182
 t232:=Tryz.underlying189
 a232:=Tryz.isAgg189
 z232:=Tryz.sizeOf189
 v232:=Tryz.zeroValue189
 t233:=Tryz.underlying190
 a233:=Tryz.isAgg190
 z233:=Tryz.sizeOf190
 v233:=Tryz.zeroValue190
 g17:=by kernel_rfl
 g18:=by kernel_rfl
 g19:=by kernel_rfl
 i0:=by kernel_rfl
 i2:=by kernel_rfl
 i3:=by kernel_rfl
 i4:=by kernel_rfl
 i5:=by kernel_rfl
 i9:=by kernel_rfl
 i20:=by kernel_rfl
 i37:=by kernel_rfl
 i46:=by kernel_rfl
 i51:=by kernel_rfl
 i53:=by kernel_rfl
 i171:=by kernel_rfl
 i173:=by kernel_rfl
 i212:=by kernel_rfl
 i232:=by kernel_rfl
 i233:=by kernel_rfl
 m17:=by kernel_rfl
 m18:=by kernel_rfl
 m19:=by kernel_rfl}
open Go.RowKit Go.Sort Go.Lib in
theorem Tryz.strconv_Itoa(n:Int)(h0: -9223372036854775808≤n)(h1:n≤9223372036854775807)(w:World)(htab:Lib.TabIs Tryz.prog w "internal/strconv.uint64pow10" .u64 Lib.pow10Tab):
 Calls Tryz.prog 100 #[.int .i64 n] w fun e w'=>e= .returned (.string ⟨(Lib.itoa n).toArray⟩)∧∃k os,w'=grow (w.drewN k) os:=Any.strconv_Itoa Tryz.laysM171 n h0 h1 w htab
def Tryz.EN :Go.Shelf.Ren:=⟨fun|172=>118|244=>144|245=>145|247=>174|279=>175|280=>176|281=>177|282=>178|287=>196|316=>197|171=>100|205=>198|321=>205|322=>206|243=>126|246=>158|283=>187|284=>188|285=>189|286=>190|129=>201|317=>200|318=>202|319=>203|320=>204|337=>208|338=>209|n=>n,fun|9=>9|3=>3|75=>107|76=>108|4=>4|5=>5|167=>147|37=>32|0=>0|85=>148|2=>2|168=>150|53=>159|175=>174|46=>118|210=>178|127=>145|145=>187|143=>185|21=>21|171=>158|173=>162|212=>181|51=>171|20=>20|213=>182|232=>189|233=>190|80=>126|n=>n,fun|15=>3|16=>4|17=>5|18=>6|19=>7|n=>n⟩
theorem Tryz.laysC172 :Go.Proofs.LaysC.n172 Tryz.prog Tryz.EN:={
 mixed:=by kernel_rfl
 f129:=Tryz.func201.trans (congrArg some (by kernel_rfl))
 f171:=Tryz.func100.trans (congrArg some (by kernel_rfl))
 f172:=Tryz.func118.trans (congrArg some (by kernel_rfl))
 f205:=Tryz.func198.trans (congrArg some (by kernel_rfl))
 f243:=Tryz.func126.trans (congrArg some (by kernel_rfl))
 f244:=Tryz.func144.trans (congrArg some (by kernel_rfl))
 f245:=Tryz.func145.trans (congrArg some (by kernel_rfl))
 f246:=Tryz.func158.trans (congrArg some (by kernel_rfl))
 f247:=Tryz.func174.trans (congrArg some (by kernel_rfl))
 f279:=Tryz.func175.trans (congrArg some (by kernel_rfl))
 f280:=Tryz.func176.trans (congrArg some (by kernel_rfl))
 f281:=Tryz.func177.trans (congrArg some (by kernel_rfl))
 f282:=Tryz.func178.trans (congrArg some (by kernel_rfl))
 f283:=Tryz.func187.trans (congrArg some (by kernel_rfl))
 f284:=Tryz.func188.trans (congrArg some (by kernel_rfl))
 f285:=Tryz.func189.trans (congrArg some (by kernel_rfl))
 f286:=Tryz.func190.trans (congrArg some (by kernel_rfl))
 f287:=Tryz.func196.trans (congrArg some (by kernel_rfl))
 f316:=Tryz.func197.trans (congrArg some (by kernel_rfl))
 f317:=Tryz.func200.trans (congrArg some (by kernel_rfl))
 f318:=Tryz.func202.trans (congrArg some (by kernel_rfl))
 f319:=Tryz.func203.trans (congrArg some (by kernel_rfl))
 f320:=Tryz.func204.trans (congrArg some (by kernel_rfl))
 f321:=Tryz.func205.trans (congrArg some (by kernel_rfl))
 f322:=Tryz.func206.trans (congrArg some (by kernel_rfl))
 f337:=Tryz.func208.trans (congrArg some (by kernel_rfl))
 f338:=Tryz.func209.trans (congrArg some (by kernel_rfl))
 t0:=Tryz.underlying0
 a0:=Tryz.isAgg0
 z0:=Tryz.sizeOf0
 v0:=Tryz.zeroValue0
 t2:=Tryz.underlying2
 a2:=Tryz.isAgg2
 z2:=Tryz.sizeOf2
 v2:=Tryz.zeroValue2
 t3:=Tryz.underlying3
 a3:=Tryz.isAgg3
 z3:=Tryz.sizeOf3
 v3:=Tryz.zeroValue3
 t4:=Tryz.underlying4
 a4:=Tryz.isAgg4
 z4:=Tryz.sizeOf4
 v4:=Tryz.zeroValue4
 t5:=Tryz.underlying5
 a5:=Tryz.isAgg5
 z5:=Tryz.sizeOf5
 v5:=Tryz.zeroValue5
 t9:=Tryz.underlying9
 a9:=Tryz.isAgg9
 z9:=Tryz.sizeOf9
 v9:=Tryz.zeroValue9
 t20:=Tryz.underlying20
 a20:=Tryz.isAgg20
 z20:=Tryz.sizeOf20
 v20:=Tryz.zeroValue20
 t21:=Tryz.underlying21
 a21:=Tryz.isAgg21
 z21:=Tryz.sizeOf21
 v21:=Tryz.zeroValue21
 t37:=Tryz.underlying32
 a37:=Tryz.isAgg32
 z37:=Tryz.sizeOf32
 v37:=Tryz.zeroValue32
 t46:=Tryz.underlying118
 a46:=Tryz.isAgg118
 z46:=Tryz.sizeOf118
 v46:=Tryz.zeroValue118
 t51:=Tryz.underlying171
 a51:=Tryz.isAgg171
 z51:=Tryz.sizeOf171
 v51:=Tryz.zeroValue171
 t53:=Tryz.underlying159
 a53:=Tryz.isAgg159
 z53:=Tryz.sizeOf159
 v53:=Tryz.zeroValue159
 t75:=Tryz.underlying107
 a75:=Tryz.isAgg107
 z75:=Tryz.sizeOf107
 v75:=Tryz.zeroValue107
 t76:=Tryz.underlying108
 a76:=Tryz.isAgg108
 z76:=Tryz.sizeOf108
 v76:=Tryz.zeroValue108
 t85:=Tryz.underlying148
 a85:=Tryz.isAgg148
 z85:=Tryz.sizeOf148
 v85:=Tryz.zeroValue148
 t127:=Tryz.underlying145
 a127:=Tryz.isAgg145
 z127:=Tryz.sizeOf145
 v127:=Tryz.zeroValue145
 t143:=Tryz.underlying185
 a143:=Tryz.isAgg185
 z143:=Tryz.sizeOf185
 v143:=Tryz.zeroValue185
 t145:=Tryz.underlying187
 a145:=Tryz.isAgg187
 z145:=Tryz.sizeOf187
 v145:=Tryz.zeroValue187
 t167:=Tryz.underlying147
 a167:=Tryz.isAgg147
 z167:=Tryz.sizeOf147
 v167:=Tryz.zeroValue147
 t168:=Tryz.underlying150
 a168:=Tryz.isAgg150
 z168:=Tryz.sizeOf150
 v168:=Tryz.zeroValue150
 t171:=Tryz.underlying158
 a171:=Tryz.isAgg158
 z171:=Tryz.sizeOf158
 v171:=Tryz.zeroValue158
 t173:=Tryz.underlying162
 a173:=Tryz.isAgg162
 z173:=Tryz.sizeOf162
 v173:=Tryz.zeroValue162
 t175:=Tryz.underlying174
 a175:=Tryz.isAgg174
 z175:=Tryz.sizeOf174
 v175:=Tryz.zeroValue174
 t210:=Tryz.underlying178
 a210:=Tryz.isAgg178
 z210:=Tryz.sizeOf178
 v210:=Tryz.zeroValue178
 t212:=Tryz.underlying181
 a212:=Tryz.isAgg181
 z212:=Tryz.sizeOf181
 v212:=Tryz.zeroValue181
 t213:=Tryz.underlying182
 a213:=Tryz.isAgg182
 z213:=Tryz.sizeOf182
 t232:=Tryz.underlying189
 a232:=Tryz.isAgg189
 z232:=Tryz.sizeOf189
 v232:=Tryz.zeroValue189
 t233:=Tryz.underlying190
 a233:=Tryz.isAgg190
 z233:=Tryz.sizeOf190
 v233:=Tryz.zeroValue190
 g15:=by kernel_rfl
 g16:=by kernel_rfl
 g17:=by kernel_rfl
 g18:=by kernel_rfl
 g19:=by kernel_rfl
 t80:=Tryz.underlying126
 a80:=Tryz.isAgg126
 z80:=Tryz.sizeOf126
 v80:=Tryz.zeroValue126
 i0:=by kernel_rfl
 i2:=by kernel_rfl
 i3:=by kernel_rfl
 i4:=by kernel_rfl
 i5:=by kernel_rfl
 i9:=by kernel_rfl
 i20:=by kernel_rfl
 i21:=by kernel_rfl
 i37:=by kernel_rfl
 i46:=by kernel_rfl
 i51:=by kernel_rfl
 i53:=by kernel_rfl
 i75:=by kernel_rfl
 i76:=by kernel_rfl
 i80:=by kernel_rfl
 i85:=by kernel_rfl
 i127:=by kernel_rfl
 i143:=by kernel_rfl
 i145:=by kernel_rfl
 i167:=by kernel_rfl
 i168:=by kernel_rfl
 i171:=by kernel_rfl
 i173:=by kernel_rfl
 i175:=by kernel_rfl
 i210:=by kernel_rfl
 i212:=by kernel_rfl
 i232:=by kernel_rfl
 i233:=by kernel_rfl
 m15:=by kernel_rfl
 m16:=by kernel_rfl
 m17:=by kernel_rfl
 m18:=by kernel_rfl
 m19:=by kernel_rfl
 c0:=by kernel_rfl
 c2:=by kernel_rfl
 c3:=by kernel_rfl
 c4:=by kernel_rfl
 c5:=by kernel_rfl
 c9:=by kernel_rfl
 c20:=by kernel_rfl
 c21:=by kernel_rfl
 c37:=by kernel_rfl
 c46:=by kernel_rfl
 c51:=by kernel_rfl
 c53:=by kernel_rfl
 c75:=by kernel_rfl
 c76:=by kernel_rfl
 c80:=by kernel_rfl
 c85:=by kernel_rfl
 c127:=by kernel_rfl
 c143:=by kernel_rfl
 c145:=by kernel_rfl
 c167:=by kernel_rfl
 c168:=by kernel_rfl
 c171:=by kernel_rfl
 c173:=by kernel_rfl
 c175:=by kernel_rfl
 c210:=by kernel_rfl
 c212:=by kernel_rfl
 c213:=by kernel_rfl
 c232:=by kernel_rfl
 c233:=by kernel_rfl}
open Go.RowKit in
theorem Tryz.strconv_Atoi_ok(s:ByteArray)(hmax:s.size≤9223372036854775806)(v:Int)(h:Lib.atoiAll s.data.toList= .ok v)(w:World):
 Calls Tryz.prog 118 #[.string s] w fun e w'=>e= .returned (.tuple #[.int .i64 v,.nilIface])∧(w'=w∨∃t,w'=Lib.bytesWorld w 5 t):=Any.strconv_Atoi_ok Tryz.laysC172 s hmax v h w
open Go.RowKit in
theorem Tryz.strconv_Atoi_syntax(s:ByteArray)(hlim:s.size≤281474976710656)(h:Lib.atoiAll s.data.toList= .«syntax»)(ev:Value)(w:World)(hv:w.cell? ⟨3,0,none⟩=some ev)(hev:ev= .nilIface∨∃te pe,ev= .iface te pe):
 Calls Tryz.prog 118 #[.string s] w fun e w'=>∃N,e= .returned (.tuple #[.int .i64 (0),.iface 150 (.pointer (some ⟨N,0,none⟩))])∧w.heap.size≤N∧w'.heap[N]? =some (.cells #[.string ⟨#[65,116,111,105]⟩,.string s,ev] 178 (0,0))∧Below w.heap.size w w':=Any.strconv_Atoi_syntax Tryz.laysC172 s hlim h ev w hv hev
open Go.RowKit in
theorem Tryz.strconv_Atoi_range(s:ByteArray)(hlim:s.size≤281474976710656)(h:Lib.atoiAll s.data.toList= .range)(ev:Value)(w:World)(hv:w.cell? ⟨4,0,none⟩=some ev)(hev:ev= .nilIface∨∃te pe,ev= .iface te pe):
 Calls Tryz.prog 118 #[.string s] w fun e w'=>∃N,e= .returned (.tuple #[.int .i64 (Lib.atoiSat s.data.toList),.iface 150 (.pointer (some ⟨N,0,none⟩))])∧w.heap.size≤N∧w'.heap[N]? =some (.cells #[.string ⟨#[65,116,111,105]⟩,.string s,ev] 178 (0,0))∧Below w.heap.size w w':=Any.strconv_Atoi_range Tryz.laysC172 s hlim h ev w hv hev
def Tryz.lays146_ren :Go.Shelf.Ren:=⟨fun|146=>35|221=>77|268=>115|138=>116|143=>117|195=>140|197=>141|218=>142|219=>143|260=>169|217=>170|225=>171|224=>172|267=>173|266=>194|314=>195|n=>n,fun|9=>9|31=>23|3=>3|4=>4|0=>0|105=>129|21=>21|5=>5|46=>118|119=>167|139=>170|138=>169|146=>172|51=>171|n=>n,fun|1=>0|3=>1|4=>2|n=>n⟩
theorem Tryz.lays146 :Go.Proofs.Lays.n146 Tryz.prog Tryz.lays146_ren:={
 mixed:=by kernel_rfl
 f138:=Tryz.func116.trans (congrArg some (by kernel_rfl))
 f143:=Tryz.func117.trans (congrArg some (by kernel_rfl))
 f146:=Tryz.func35.trans (congrArg some (by kernel_rfl))
 f195:=Tryz.func140.trans (congrArg some (by kernel_rfl))
 f197:=Tryz.func141.trans (congrArg some (by kernel_rfl))
 f217:=Tryz.func170.trans (congrArg some (by kernel_rfl))
 f218:=Tryz.func142.trans (congrArg some (by kernel_rfl))
 f219:=Tryz.func143.trans (congrArg some (by kernel_rfl))
 f221:=Tryz.func77.trans (congrArg some (by kernel_rfl))
 f224:=Tryz.func172.trans (congrArg some (by kernel_rfl))
 f225:=Tryz.func171.trans (congrArg some (by kernel_rfl))
 f260:=Tryz.func169.trans (congrArg some (by kernel_rfl))
 f266:=Tryz.func194.trans (congrArg some (by kernel_rfl))
 f267:=Tryz.func173.trans (congrArg some (by kernel_rfl))
 f268:=Tryz.func115.trans (congrArg some (by kernel_rfl))
 f314:=Tryz.func195.trans (congrArg some (by kernel_rfl))
 t0:=Tryz.underlying0
 a0:=Tryz.isAgg0
 z0:=Tryz.sizeOf0
 v0:=Tryz.zeroValue0
 t3:=Tryz.underlying3
 a3:=Tryz.isAgg3
 z3:=Tryz.sizeOf3
 v3:=Tryz.zeroValue3
 t4:=Tryz.underlying4
 a4:=Tryz.isAgg4
 z4:=Tryz.sizeOf4
 v4:=Tryz.zeroValue4
 t5:=Tryz.underlying5
 a5:=Tryz.isAgg5
 z5:=Tryz.sizeOf5
 v5:=Tryz.zeroValue5
 t9:=Tryz.underlying9
 a9:=Tryz.isAgg9
 z9:=Tryz.sizeOf9
 v9:=Tryz.zeroValue9
 t21:=Tryz.underlying21
 a21:=Tryz.isAgg21
 z21:=Tryz.sizeOf21
 v21:=Tryz.zeroValue21
 t31:=Tryz.underlying23
 a31:=Tryz.isAgg23
 z31:=Tryz.sizeOf23
 v31:=Tryz.zeroValue23
 t46:=Tryz.underlying118
 a46:=Tryz.isAgg118
 z46:=Tryz.sizeOf118
 v46:=Tryz.zeroValue118
 t51:=Tryz.underlying171
 a51:=Tryz.isAgg171
 z51:=Tryz.sizeOf171
 v51:=Tryz.zeroValue171
 t105:=Tryz.underlying129
 a105:=Tryz.isAgg129
 z105:=Tryz.sizeOf129
 v105:=Tryz.zeroValue129
 t119:=Tryz.underlying167
 a119:=Tryz.isAgg167
 z119:=Tryz.sizeOf167
 t138:=Tryz.underlying169
 a138:=Tryz.isAgg169
 z138:=Tryz.sizeOf169
 v138:=Tryz.zeroValue169
 t139:=Tryz.underlying170
 a139:=Tryz.isAgg170
 z139:=Tryz.sizeOf170
 v139:=Tryz.zeroValue170
 t146:=Tryz.underlying172
 a146:=Tryz.isAgg172
 z146:=Tryz.sizeOf172
 v146:=Tryz.zeroValue172
 g1:=by kernel_rfl
 g3:=by kernel_rfl
 g4:=by kernel_rfl}
open Go.RowKit Go.Lib in
theorem Tryz.strings_Split(s sep:ByteArray)(m:Int)(w:World)(hs:s.size<4294967281)(hm:w.cell? ⟨0,0,none⟩=some (.int .i64 m))(h1:1≤sep.size):
 Calls Tryz.prog 35 #[.string s,.string sep] w fun e w'=>
  e= .returned (.slice (some ⟨w.heap.size,0,none⟩) (Lib.countB s sep+1) (Lib.countB s sep+1))∧w'=w.alloc (.cells ((Lib.splitB sep 0 (Lib.countB s sep) s).map Value.string).toArray 9):=Any.strings_Split Tryz.lays146 (by kernel_rfl) s sep m w hs hm h1
end Go.Proofs
namespace Go.Proofs.YtfengkmaphbofaaGreatDoor
open Go.RowKit
section
open Lib renaming decDigits→a_,decDigits_one→c_,occAt→d_,itoa→n_,atoiAll→s_,parseUint10→t_,splitB→D_,parseMag→F_,countB→G_,indexB→H_,index→I_
open Value renaming oneCell'→b_
open Bool renaming false_eq_true→e_,and_eq_true→o_
open List renaming append_nil→f_,flatMap_cons→g_,drop_eq_getElem_cons→h_,flatMap_nil→i_,drop_eq_nil_of_le→p_,isPrefixOf→u_,drop_drop→v_,take_succ_cons→x_,length_append→y_,mem_singleton→z_,length_cons→A_
open Nat renaming reduceLeDiff→j_,reduceEqDiff→k_,reduceAdd→l_,reduceSub→m_,le_refl→q_,pow_le_pow_right→w_,strongRecOn→C_,pow_succ→E_
open UInt8 renaming ofNat→r_
attribute [local irreducible] sw sd sn
def kN(n:Int):ByteArray:=⟨(n_ n).toArray⟩
theorem RN{n:Int}(h0: -9223372036854775808≤n)(h1:n≤9223372036854775807):dN Tryz.prog 100 [li n] (.c false [.raw (.string (kN n))]):=N7 fun w vs hr ht=>by
 obtain⟨v,rfl,hv⟩:=Ru hr;obtain rfl:=jc hv;exact(Tryz.strconv_Itoa n h0 h1 w ht.pow).mono fun e w' ⟨he,k,os,hw⟩=>⟨he,by subst hw;exact Lib.below_grow _ w (q_ _) k os⟩
theorem BI{u:Nat}(h:¬u<10):a_ u=a_ (u / 10)++ [r_ (48+u % 10)]:=by
 rw[a_,dif_neg h]
theorem Uj{u:Nat}(h:u≤9223372036854775808):(a_ u).length≤21:=by
 by_cases h0:u=0
 ·subst h0;rw[c_ (by decide)];decide
 ·have:=Lib.itoa_length_le (-(u:Int)) (by omega) (by omega);rw[Lib.itoa_neg u (by omega)]at this;simp at this;omega
def mX(n0 n:Int)(o:List UInt8):Prop:=n.natAbs≤n0.natAbs∧(0≤n0→0≤n)∧(n0≤0→n≤0)∧(if n=0 then o=a_ n0.natAbs else a_ n.natAbs++o=a_ n0.natAbs)
theorem mX.start{n0:Int}(h:n0≠0):mX n0 n0 []:=⟨q_ _,id,id,by rw[if_neg h,f_]⟩
theorem mX.len{n0 n:Int}{o:List UInt8}(h:mX n0 n o)(hb:n0.natAbs≤9223372036854775808):o.length≤21:=by
 have hl:=Uj hb;obtain⟨_,_,_,h⟩:=h;split at h
 ·rw[h];exact hl
 ·rw[← h,y_]at hl;omega
theorem FV(n:Int):(n.tdiv 10).natAbs=n.natAbs / 10:=by rw[Int.natAbs_tdiv];rfl
theorem FU(n:Int):(0≤n→0≤n.tdiv 10)∧(n≤0→n.tdiv 10≤0):=by
 refine⟨fun h=>Int.tdiv_nonneg h (by decide),fun h=> ?_⟩;have:=Int.tdiv_nonneg (a:= -n) (b:=10) (by omega) (by decide);rw[Int.neg_tdiv]at this;omega
theorem mX.go{n0 n:Int}{o:List UInt8}(h:mX n0 n o)(hn:n≠0):mX n0 (n.tdiv 10) (r_ (48+n.natAbs % 10)::o):=by
 obtain⟨h1,h2,h3,h4⟩:=h;rw[if_neg hn]at h4;have ha:=FV n;have hsg:=FU n;refine⟨by omega,fun hp=> ?_,fun hp=> ?_, ?_⟩
 ·have:=h2 hp;omega
 ·have:=h3 hp;omega
 ·by_cases hs:n.natAbs<10
  ·have hz:n.tdiv 10=0:=by omega
   rw[if_pos hz,← h4,c_ hs,Nat.mod_eq_of_lt hs];rfl
  ·have hz:n.tdiv 10≠0:=by omega
   rw[if_neg hz,← h4,BI hs,ha];simp
theorem mX.fin{n0:Int}{o:List UInt8}(h:mX n0 0 o):o=a_ n0.natAbs:=by
 obtain⟨_,_,_,h⟩:=h;simpa using h
theorem H9{n:Int}(h:0≤n):kN n=⟨(a_ n.natAbs).toArray⟩:=by
 unfold kN n_;rw[if_neg (by omega)];have e:n.toNat=n.natAbs:=by omega
 rw[e]
theorem Qe{n:Int}(h:n<0):kN n=⟨(45::a_ n.natAbs).toArray⟩:=by
 unfold kN n_;rw[if_pos h]
theorem QO(a b:List UInt8):(⟨a.toArray⟩:ByteArray)++⟨b.toArray⟩=⟨(a++b).toArray⟩:=by
 apply ByteArray.ext;simp
theorem zl{d:Int}(h0:0≤d)(h1:d≤255):IntKind.u8.wrap d=d:=by
 simp[IntKind.wrap,IntKind.signed,IntKind.bits];omega
theorem Rl{α:Type}{x y:α}:(if(10:Int)=0 then x else y)=y:=if_neg (by decide)
def yE :IC:=(zd_ [zz_ 2 (.mov (.k (.string ⟨#[]⟩)))] (.seq (zd_ [zw_ 6 0,zm_ 7 .eql 6 0] (.cond (.t 7) (zd_ [zz_ 2 (.mov (.k (.string ⟨#[48]⟩)))] .ret) .skip)) (zd_ [zw_ 8 0,zm_ 9 .lss 8 0,zw_ 3 9] (zd_ [zz_ 4 (.mov (.k (.string ⟨#[]⟩)))] (.seq (.block 0 (.loop (.seq (zd_ [zw_ 10 0,zm_ 11 .neq 10 0] (.cond (.t 11) .skip (.exit 0))) (.block 1 (zd_ [zw_ 12 0,zm_ 13 .rem 12 10,zw_ 5 13] (.seq (zd_ [zw_ 14 5,zm_ 15 .lss 14 0] (.cond (.t 15) (.reg false [zw_ 16 5,zz_ 17 (.bin .sub (.k (.int .i64 0)) (.t 16)),zw_ 5 17]) .skip)) (zd_ [zw_ 18 5,zz_ 19 (.bin .add (.k (.int .i64 48)) (.t 18)),zz_ 20 (.cvi .u8 (.t 19)),zz_ 21 (.brow true 5 1 1 false [(.t 20)]),zz_ 22 (.cvs (.t 21)),zw_ 23 4,zl_ 24 .add 22 23,zw_ 4 24] (.reg false [zw_ 25 0,zm_ 26 .quo 25 10,zw_ 0 26])))))))) (.seq (zd_ [zw_ 27 3] (.cond (.t 27) (zd_ [zw_ 28 4,zz_ 29 (.bin .add (.k (.string ⟨#[45]⟩)) (.t 28)),zw_ 2 29] .ret) .skip)) (zd_ [zw_ 30 4,zw_ 2 30] .ret)))))))
theorem AZ :dG Tryz.prog (Tryz.f68.body.getD .skip)=some yE:=by kernel_rfl
theorem oV{a:UInt8}{o:List UInt8}(h:o.length≤21):((((⟨#[a]⟩:ByteArray).size+(⟨o.toArray⟩:ByteArray).size:Nat):Int) > IntKind.i64.max)=False:=by
 have e1:(⟨o.toArray⟩:ByteArray).size=o.length:=by simp[ByteArray.size]
 have e2:(⟨#[a]⟩:ByteArray).size=1:=rfl;have e3:IntKind.i64.max=9223372036854775807:=by decide
 rw[e1,e2,e3];simp;omega
theorem zF{a:UInt8}{o:List UInt8}(h:o.length≤21):(9223372036854775807<((((⟨#[a]⟩:ByteArray).size:Nat):Int)+(((⟨o.toArray⟩:ByteArray).size:Nat):Int)))=False:=by
 have e1:(⟨o.toArray⟩:ByteArray).size=o.length:=by simp[ByteArray.size]
 have e2:(⟨#[a]⟩:ByteArray).size=1:=rfl;rw[e1,e2];simp;omega
theorem oQ{n:Int}(h0: -9223372036854775808≤n)(h1:n≤9223372036854775807):dN Tryz.prog 68 [li n] (.c false [.raw (.string (kN n))]):=by
 refine gZ (fn:=Tryz.f68) (t:=2) (hc:=AZ) (h:= ?_);unfold yE;refine zb_ ?_;change AWP _ _ _ (st0 31 _);simp only[undef,stS,st0,stN,D.av,D.avN,cO,aS,dh,cZ,aK,eU,aJ,aI,List.map_cons,List.map_nil,List.replicate,List.cons_append,List.nil_append,A_,List.length_nil,l_,m_];by_cases hz:n=0
 ·subst hz;have hz':((0:Int)==0)=true:=rfl
  repeat' (first|(with_reducible first|refine bW ?_|refine bn ?_|refine bG ?_|refine bH ?_|refine bZ ?_|refine dQ ?_|refine bC ?_|refine bU ?_|refine aO ?_|refine aY ?_|refine bF ?_|refine aW ?_|refine bD ?_|refine aQ ?_|refine aV ?_)|((with_reducible refine aX ?_ ?_);rfl)|((with_reducible refine aZ ?_ ?_);rfl)|((with_reducible refine bg ?_ ?_);rfl)|(with_reducible (refine bf rfl ?_ ?_);all_goals(intro hb;have hb':=hb;(try simp only[pkC]at hb');try(exfalso;omega)))|(refine rg_ ?_;intro K hK)|(refine hq_ ?_;clear hK K)|refine ca_ ?_ ?_|((with_reducible refine dP ?_);simp(disch:=first|decide|omega) only[↓pkS,pkW,pkA,undef,g_,i_,f_,bJ,dS,lvD,dU,lcD,lvK,lcK,bI,dn,bK,ex,St.put,St.ev,kav,gdA,opI,dK,dW,dD,dR,dV,AV.toD,AC.toD,AV.nw,AC.nw,AC.one,b_,aG,ak,aB,aF,aN,aH,if_true,if_false,e_,dF,D.one,D.ones,D.sz,D.szs,l_,m_,j_,k_,reduceIte,pkN,aJ,aI,hz'])|(first|(with_reducible rfl)|(with_reducible refine bV ?_;kernel_rfl)|exact aA _|exact aC _|exact el_ln _|exact el_tk _ _|exact el_td _ _ _|omega|(simp;done)|(simp;omega))|((with_reducible refine cu ?_);simp[bM,dM,dJ,dY,AC.toD,aG,ak,aB,aF,b_,bP,aU,bT,bQ,cO,aS,dh,cZ,eF,eG,aJ,aI,hz'];first|done|rfl))
  exact dX ⟨_,rfl,by rw[H9 (by decide)];rw[show a_ (Int.natAbs 0)= [48] from by rw[c_ (by decide)];rfl];rfl,trivial⟩
 have hz':(n==0)=false:=by simp[hz]
 repeat' (first|(with_reducible first|refine bW ?_|refine bn ?_|refine bG ?_|refine bH ?_|refine bZ ?_|refine dQ ?_|refine bC ?_|refine bU ?_|refine aO ?_|refine aY ?_|refine bF ?_|refine aW ?_|refine bD ?_|refine aQ ?_|refine aV ?_)|((with_reducible refine aX ?_ ?_);rfl)|((with_reducible refine aZ ?_ ?_);rfl)|((with_reducible refine bg ?_ ?_);rfl)|(with_reducible (refine bf rfl ?_ ?_);all_goals(intro hb;have hb':=hb;(try simp only[pkC]at hb');try(exfalso;omega)))|(refine rg_ ?_;intro K hK)|(refine hq_ ?_;clear hK K)|refine ca_ ?_ ?_|((with_reducible refine dP ?_);simp(disch:=first|decide|omega) only[↓pkS,pkW,pkA,undef,g_,i_,f_,bJ,dS,lvD,dU,lcD,lvK,lcK,bI,dn,bK,ex,St.put,St.ev,kav,gdA,opI,dK,dW,dD,dR,dV,AV.toD,AC.toD,AV.nw,AC.nw,AC.one,b_,aG,ak,aB,aF,aN,aH,if_true,if_false,e_,dF,D.one,D.ones,D.sz,D.szs,l_,m_,j_,k_,reduceIte,pkN,aJ,aI,hz'])|(first|(with_reducible rfl)|(with_reducible refine bV ?_;kernel_rfl)|exact aA _|exact aC _|exact el_ln _|exact el_tk _ _|exact el_td _ _ _|omega|(simp;done)|(simp;omega))|((with_reducible refine cu ?_);simp[bM,dM,dJ,dY,AC.toD,aG,ak,aB,aF,b_,bP,aU,bT,bQ,cO,aS,dh,cZ,eF,eG,aJ,aI,hz'];first|done|rfl))
 refine fQ (X:=Int×List UInt8) (fun q=> [.v (.c false [.raw (.int .i64 q.1)]),.d,.d,.v (.c false [.raw (.bool (decide (n<0)))]),.v (.c false [.raw (.string ⟨q.2.toArray⟩)])]) (fun q=> []) (fun q bs=> []) (fun q=>mX n q.1 q.2) (fun q=>q.1.natAbs) (n,[]) (mX.start hz) ?_ ?_
 ·simp[fB,iE,fC,fD,AV.fits,AC.fits,FB,eX]
 rintro⟨m,o⟩ hv;simp only[FB,eX];have hv:mX n m o:=hv;have hab:=hv.1;by_cases hm:m=0
 ·subst hm;have hne:((0:Int) !=0)=false:=rfl;have ho:=hv.fin;have hlen:=hv.len (by omega);by_cases hb:n<0
  ·have hb':decide (n<0)=true:=decide_eq_true hb
   repeat' (first|(with_reducible first|refine bW ?_|refine bn ?_|refine bG ?_|refine bH ?_|refine bZ ?_|refine dQ ?_|refine bC ?_|refine bU ?_|refine aO ?_|refine aY ?_|refine bF ?_|refine aW ?_|refine bD ?_|refine aQ ?_|refine aV ?_)|((with_reducible refine aX ?_ ?_);rfl)|((with_reducible refine aZ ?_ ?_);rfl)|((with_reducible refine bg ?_ ?_);rfl)|(with_reducible (refine bf rfl ?_ ?_);all_goals(intro hb;have hb':=hb;(try simp only[pkC]at hb');try(exfalso;omega)))|(refine rg_ ?_;intro K hK)|(refine hq_ ?_;clear hK K)|refine ca_ ?_ ?_|((with_reducible refine dP ?_);simp(disch:=first|decide|omega) only[↓pkS,pkW,pkA,undef,g_,i_,f_,bJ,dS,lvD,dU,lcD,lvK,lcK,bI,dn,bK,ex,St.put,St.ev,kav,gdA,opI,dK,dW,dD,dR,dV,AV.toD,AC.toD,AV.nw,AC.nw,AC.one,b_,aG,ak,aB,aF,aN,aH,if_true,if_false,e_,dF,D.one,D.ones,D.sz,D.szs,l_,m_,j_,k_,reduceIte,pkN,aJ,aI,hne,hb',oV hlen,zF hlen])|(first|(with_reducible rfl)|(with_reducible refine bV ?_;kernel_rfl)|exact aA _|exact aC _|exact el_ln _|exact el_tk _ _|exact el_td _ _ _|omega|(simp;done)|(simp;omega))|((with_reducible refine cu ?_);simp[bM,dM,dJ,dY,AC.toD,aG,ak,aB,aF,b_,bP,aU,bT,bQ,cO,aS,dh,cZ,eF,eG,aJ,aI,hne,hb',oV hlen,zF hlen];first|done|rfl))
   exact dX ⟨_,rfl,by rw[Qe hb,← ho];rfl,trivial⟩
  ·have hb':decide (n<0)=false:=decide_eq_false hb
   repeat' (first|(with_reducible first|refine bW ?_|refine bn ?_|refine bG ?_|refine bH ?_|refine bZ ?_|refine dQ ?_|refine bC ?_|refine bU ?_|refine aO ?_|refine aY ?_|refine bF ?_|refine aW ?_|refine bD ?_|refine aQ ?_|refine aV ?_)|((with_reducible refine aX ?_ ?_);rfl)|((with_reducible refine aZ ?_ ?_);rfl)|((with_reducible refine bg ?_ ?_);rfl)|(with_reducible (refine bf rfl ?_ ?_);all_goals(intro hb;have hb':=hb;(try simp only[pkC]at hb');try(exfalso;omega)))|(refine rg_ ?_;intro K hK)|(refine hq_ ?_;clear hK K)|refine ca_ ?_ ?_|((with_reducible refine dP ?_);simp(disch:=first|decide|omega) only[↓pkS,pkW,pkA,undef,g_,i_,f_,bJ,dS,lvD,dU,lcD,lvK,lcK,bI,dn,bK,ex,St.put,St.ev,kav,gdA,opI,dK,dW,dD,dR,dV,AV.toD,AC.toD,AV.nw,AC.nw,AC.one,b_,aG,ak,aB,aF,aN,aH,if_true,if_false,e_,dF,D.one,D.ones,D.sz,D.szs,l_,m_,j_,k_,reduceIte,pkN,aJ,aI,hne,hb',oV hlen,zF hlen])|(first|(with_reducible rfl)|(with_reducible refine bV ?_;kernel_rfl)|exact aA _|exact aC _|exact el_ln _|exact el_tk _ _|exact el_td _ _ _|omega|(simp;done)|(simp;omega))|((with_reducible refine cu ?_);simp[bM,dM,dJ,dY,AC.toD,aG,ak,aB,aF,b_,bP,aU,bT,bQ,cO,aS,dh,cZ,eF,eG,aJ,aI,hne,hb',oV hlen,zF hlen];first|done|rfl))
   exact dX ⟨_,rfl,by rw[H9 (by omega),← ho];rfl,trivial⟩
 ·have hneq:(m !=0)=true:=by simp[hm]
  have hd0:(n.natAbs:Int)=0∨True:=Or.inr trivial;have hdv:=FV m;have hsg:=FU m;have hmo:m.tmod 10=m - 10*m.tdiv 10:=by have:=Int.tmod_add_mul_tdiv m 10;omega
  have hw1:IntKind.i64.wrap (m.tdiv 10)=m.tdiv 10:=jv (by omega) (by omega);have hlen:=hv.len (by omega);have hg:=hv.go hm;by_cases hs:m.tmod 10<0
  ·have hs':decide (m.tmod 10<0)=true:=decide_eq_true hs;have hw2:IntKind.i64.wrap (0 - m.tmod 10)=((m.natAbs % 10:Nat):Int):=by rw[jv (by omega) (by omega)];omega
   have hw3:IntKind.i64.wrap (48+((m.natAbs % 10:Nat):Int))=48+((m.natAbs % 10:Nat):Int):=jv (by omega) (by omega);have hw4:IntKind.u8.wrap (48+((m.natAbs % 10:Nat):Int))=48+((m.natAbs % 10:Nat):Int):=zl (by omega) (by omega);have hw5:(48+((m.natAbs % 10:Nat):Int)).toNat=48+m.natAbs % 10:=by omega
   repeat' (first|(with_reducible first|refine bW ?_|refine bn ?_|refine bG ?_|refine bH ?_|refine bZ ?_|refine dQ ?_|refine bC ?_|refine bU ?_|refine aO ?_|refine aY ?_|refine bF ?_|refine aW ?_|refine bD ?_|refine aQ ?_|refine aV ?_)|((with_reducible refine aX ?_ ?_);rfl)|((with_reducible refine aZ ?_ ?_);rfl)|((with_reducible refine bg ?_ ?_);rfl)|(with_reducible (refine bf rfl ?_ ?_);all_goals(intro hb;have hb':=hb;(try simp only[pkC]at hb');try(exfalso;omega)))|(refine rg_ ?_;intro K hK)|(refine hq_ ?_;clear hK K)|refine ca_ ?_ ?_|((with_reducible refine dP ?_);simp(disch:=first|decide|omega) only[↓pkS,pkW,pkA,undef,g_,i_,f_,bJ,dS,lvD,dU,lcD,lvK,lcK,bI,dn,bK,ex,St.put,St.ev,kav,gdA,opI,dK,dW,dD,dR,dV,AV.toD,AC.toD,AV.nw,AC.nw,AC.one,b_,aG,ak,aB,aF,aN,aH,if_true,if_false,e_,dF,D.one,D.ones,D.sz,D.szs,l_,m_,j_,k_,reduceIte,pkN,aJ,aI,Rl,hneq,hs',hw1,hw2,hw3,hw4,hw5,jk,oV hlen])|(first|(with_reducible rfl)|(with_reducible refine bV ?_;kernel_rfl)|exact aA _|exact aC _|exact el_ln _|exact el_tk _ _|exact el_td _ _ _|omega|(simp;done)|(simp;omega))|((with_reducible refine cu ?_);simp[bM,dM,dJ,dY,AC.toD,aG,ak,aB,aF,b_,bP,aU,bT,bQ,cO,aS,dh,cZ,eF,eG,aJ,aI,Rl,hneq,hs',hw1,hw2,hw3,hw4,hw5,jk,oV hlen];first|done|rfl))
   refine gU (m.tdiv 10,r_ (48+m.natAbs % 10)::o) ?_ hg (show(m.tdiv 10).natAbs<m.natAbs by omega);simp[fB,iE,fC,fD,AV.fits,AC.fits,FB,eX,QO]
  ·have hs':decide (m.tmod 10<0)=false:=decide_eq_false hs;have hw2:m.tmod 10=((m.natAbs % 10:Nat):Int):=by omega
   have hw3:IntKind.i64.wrap (48+((m.natAbs % 10:Nat):Int))=48+((m.natAbs % 10:Nat):Int):=jv (by omega) (by omega);have hw4:IntKind.u8.wrap (48+((m.natAbs % 10:Nat):Int))=48+((m.natAbs % 10:Nat):Int):=zl (by omega) (by omega);have hw5:(48+((m.natAbs % 10:Nat):Int)).toNat=48+m.natAbs % 10:=by omega
   repeat' (first|(with_reducible first|refine bW ?_|refine bn ?_|refine bG ?_|refine bH ?_|refine bZ ?_|refine dQ ?_|refine bC ?_|refine bU ?_|refine aO ?_|refine aY ?_|refine bF ?_|refine aW ?_|refine bD ?_|refine aQ ?_|refine aV ?_)|((with_reducible refine aX ?_ ?_);rfl)|((with_reducible refine aZ ?_ ?_);rfl)|((with_reducible refine bg ?_ ?_);rfl)|(with_reducible (refine bf rfl ?_ ?_);all_goals(intro hb;have hb':=hb;(try simp only[pkC]at hb');try(exfalso;omega)))|(refine rg_ ?_;intro K hK)|(refine hq_ ?_;clear hK K)|refine ca_ ?_ ?_|((with_reducible refine dP ?_);simp(disch:=first|decide|omega) only[↓pkS,pkW,pkA,undef,g_,i_,f_,bJ,dS,lvD,dU,lcD,lvK,lcK,bI,dn,bK,ex,St.put,St.ev,kav,gdA,opI,dK,dW,dD,dR,dV,AV.toD,AC.toD,AV.nw,AC.nw,AC.one,b_,aG,ak,aB,aF,aN,aH,if_true,if_false,e_,dF,D.one,D.ones,D.sz,D.szs,l_,m_,j_,k_,reduceIte,pkN,aJ,aI,Rl,hneq,hs',hw1,hw2,hw3,hw4,hw5,jk,oV hlen])|(first|(with_reducible rfl)|(with_reducible refine bV ?_;kernel_rfl)|exact aA _|exact aC _|exact el_ln _|exact el_tk _ _|exact el_td _ _ _|omega|(simp;done)|(simp;omega))|((with_reducible refine cu ?_);simp[bM,dM,dJ,dY,AC.toD,aG,ak,aB,aF,b_,bP,aU,bT,bQ,cO,aS,dh,cZ,eF,eG,aJ,aI,Rl,hneq,hs',hw1,hw2,hw3,hw4,hw5,jk,oV hlen];first|done|rfl))
   refine gU (m.tdiv 10,r_ (48+m.natAbs % 10)::o) ?_ hg (show(m.tdiv 10).natAbs<m.natAbs by omega);simp[fB,iE,fC,fD,AV.fits,AC.fits,FB,eX,QO]
theorem gW{α:Type}{f:α→D}{l:List α}{k:Nat}(h:k<l.length):(l.map f)[k]? =some (f l[k]):=by rw[List.getElem?_map,List.getElem?_eq_getElem h];rfl
theorem LK(s:ByteArray):s.data.toList.length=s.size:=by simp
def spB :ByteArray:=⟨#[32]⟩
end
section
open Lib renaming decDigits→a_,decDigits_one→c_,occAt→d_,itoa→n_,atoiAll→s_,parseUint10→t_,splitB→D_,parseMag→F_,countB→G_,indexB→H_,index→I_
open Value renaming oneCell'→b_
open Bool renaming false_eq_true→e_,and_eq_true→o_
open List renaming append_nil→f_,flatMap_cons→g_,drop_eq_getElem_cons→h_,flatMap_nil→i_,drop_eq_nil_of_le→p_,isPrefixOf→u_,drop_drop→v_,take_succ_cons→x_,length_append→y_,mem_singleton→z_,length_cons→A_
open Nat renaming reduceLeDiff→j_,reduceEqDiff→k_,reduceAdd→l_,reduceSub→m_,le_refl→q_,pow_le_pow_right→w_,strongRecOn→C_,pow_succ→E_
open UInt8 renaming ofNat→r_
theorem Ed{d:Nat}(h:d<10):(r_ (48+d)).toNat=48+d:=by
 simp[UInt8.toNat_ofNat'];omega
def UM(a:Nat)(c:UInt8):Nat:=a*10+(c.toNat - 48)
def gY(acc:Nat)(l:List UInt8):Nat:=l.foldl UM acc
theorem kZ(acc:Nat):gY acc []=acc:=rfl
theorem iK(acc:Nat)(c:UInt8)(r:List UInt8):gY acc (c::r)=gY (acc*10+(c.toNat - 48)) r:=by
 unfold gY;rw[List.foldl_cons];rfl
theorem sW(r l:List UInt8)(acc:Nat):gY acc (l++r)=gY (gY acc l) r:=by
 unfold gY;rw[List.foldl_append]
theorem BH(u:Nat):gY 0 (a_ u)=u:=by
 induction u using C_ with
 | ind u ih=>
   by_cases h:u<10
   ·rw[c_ h];rw[iK,kZ,Ed h];omega
   ·rw[BI h,sW,ih (u / 10) (by omega)];rw[iK,kZ,Ed (show u % 10<10 by omega)];omega
def oD(c:UInt8):Bool:=decide (48≤c.toNat) && decide (c.toNat≤57)
theorem EY(u:Nat):∀c∈a_ u,oD c=true:=by
 induction u using C_ with
 | ind u ih=>
   intro c hc;by_cases h:u<10
   ·rw[c_ h]at hc;simp only[z_]at hc;subst hc;simp only[oD,Ed h,o_,decide_eq_true_eq];omega
   ·rw[BI h]at hc;rcases List.mem_append.1 hc with hc|hc
    ·exact ih (u / 10) (by omega) c hc
    ·simp only[z_]at hc;subst hc;simp only[oD,Ed (show u % 10<10 by omega),o_,decide_eq_true_eq];omega
theorem QI(u:Nat):a_ u≠[]:=by
 by_cases h:u<10
 ·rw[c_ h];simp
 ·rw[BI h];simp
theorem Ui(m:Nat):∀{u:Nat},u<10 ^ (m+1)→(a_ u).length≤m+1:=by
 induction m with
 | zero=>
   intro u h;rw[c_ (by simpa using h)];simp
 | succ m ih=>
   intro u h;by_cases h1:u<10
   ·rw[c_ h1];simp
   ·rw[BI h1,y_];have:=ih (u:=u / 10) (by rw[E_]at h;omega);simp;omega
theorem BG :∀(l:List UInt8) (acc k:Nat),(∀c∈l,oD c=true)→acc<10 ^ k→gY acc l<10 ^ (k+l.length)
 | [],acc,k,_,h=>by rw[kZ];simpa using h
 | c::l,acc,k,hd,h=>by
   have h1:=hd c (by simp);simp only[oD,o_,decide_eq_true_eq]at h1;rw[iK];have:=BG l (acc*10+(c.toNat - 48)) (k+1) (fun x hx=>hd x (by simp[hx])) (by rw[E_];omega);rw[A_,show k+(l.length+1)=k+1+l.length by omega];exact this
theorem Ky :∀(l:List UInt8) (acc:Nat),(∀c∈l,oD c=true)→gY acc l<18446744073709551616→(∀k,k≤l.length→gY acc (l.take k)≤gY acc l)→t_ acc l= .ok (gY acc l)
 | [],acc,_,_,_=>rfl
 | c::l,acc,hd,hb,hm=>by
   have h1:=hd c (by simp);have hle:=hm 1 (by simp);simp only[oD,o_,decide_eq_true_eq]at h1;rw[x_,List.take_zero,iK,kZ,iK]at hle;rw[iK]at hb;rw[t_,if_pos h1,if_neg (by omega),if_neg (by omega),iK];refine Ky l _ (fun x hx=>hd x (by simp[hx])) hb fun k hk=> ?_
   have:=hm (k+1) (by simpa using hk);rw[x_,iK,iK]at this;exact this
theorem BF :∀(l:List UInt8) (acc:Nat),acc≤gY acc l
 | [],_=>q_ _
 | c::l,acc=>by
   rw[iK];exact Nat.le_trans (by omega) (BF l (acc*10+(c.toNat - 48)))
theorem UE(l:List UInt8)(hd:∀c∈l,oD c=true)(hb:gY 0 l<18446744073709551616):t_ 0 l= .ok (gY 0 l):=
 Ky l 0 hd hb fun k hk=>by
  have e:gY 0 l=gY (gY 0 (l.take k)) (l.drop k):=by rw[← sW,List.take_append_drop]
  rw[e];exact BF _ _
theorem PN{u:Nat}(h:u<18446744073709551616):F_ (a_ u)= .ok u:=by
 unfold F_;rw[if_neg (QI u),UE _ (EY u) (by rw[BH];exact h),BH]
theorem Lu(u:Nat):∃c r,a_ u=c::r∧48≤c.toNat∧c.toNat≤57:=by
 cases h:a_ u with
 |nil=>exact absurd h (QI u)
 | cons c r=>
   have:=EY u c (by rw[h];simp);simp only[oD,o_,decide_eq_true_eq]at this;exact⟨c,r,rfl,this⟩
theorem Aj{n:Int}(h:0≤n):n_ n=a_ n.natAbs:=by
 unfold n_;rw[if_neg (by omega)];have e:n.toNat=n.natAbs:=by omega
 rw[e]
theorem zC{n:Int}(h:n<0):n_ n=45::a_ n.natAbs:=by
 unfold n_;rw[if_pos h]
theorem NH{n:Int}(h0: -9223372036854775808≤n)(h1:n≤9223372036854775807):s_ (n_ n)= .ok n:=by
 by_cases h:n<0
 ·rw[zC h];have e:(45:UInt8).toNat=45:=rfl;simp only[s_,e,or_true,if_true];rw[PN (by omega)];simp only[not_true,false_and,if_false,true_and];rw[if_neg (by omega)];congr 1;omega
 ·rw[Aj (by omega)];obtain⟨c,r,hc,h2,h3⟩:=Lu n.natAbs;have hm:=PN (u:=n.natAbs) (by omega);rw[hc]at hm⊢;simp only[s_];rw[if_neg (by omega),hm];have e45:¬c.toNat=45:=by omega
  simp only[e45,not_false_iff,true_and,false_and,if_false];rw[if_neg (by omega)];congr 1;omega
theorem pU(n:Int):(kN n).data.toList=n_ n:=by simp[kN]
def rdN(lo hi:Int)(s:ByteArray):Int×Bool:=match s_ s.data.toList with
 | .ok n=>if lo≤n∧n≤hi∧kN n=s then(n,true)else(0,false)
 |_=>(0,false)
theorem vk{lo hi n:Int}{s:ByteArray}(h0: -9223372036854775808≤n)(h1:n≤9223372036854775807)(hl:lo≤n)(hh:n≤hi)(hs:kN n=s):rdN lo hi s=(n,true):=by
 subst hs;unfold rdN;rw[pU,NH h0 h1];simp only;simp[hl,hh]
theorem qV{lo hi:Int}{s:ByteArray}(h:∀n,lo≤n→n≤hi→kN n≠s):rdN lo hi s=(0,false):=by
 unfold rdN;split
 ·next n _=>rw[if_neg fun hc=>h n hc.1 hc.2.1 hc.2.2]
 ·rfl
theorem Dw(lo hi:Int)(s:ByteArray):(∃n,lo≤n∧n≤hi∧kN n=s∧rdN lo hi s=(n,true))∨((∀n,lo≤n→n≤hi→ -9223372036854775808≤n→n≤9223372036854775807→kN n≠s)∧rdN lo hi s=(0,false)):=by
 by_cases h:∃n,lo≤n∧n≤hi∧ -9223372036854775808≤n∧n≤9223372036854775807∧kN n=s
 ·obtain⟨n,h1,h2,h3,h4,h5⟩:=h;exact Or.inl ⟨n,h1,h2,h5,vk h3 h4 h1 h2 h5⟩
 ·refine Or.inr ⟨fun n h1 h2 h3 h4 h5=>h ⟨n,h1,h2,h3,h4,h5⟩, ?_⟩;unfold rdN;split
  ·next n hn=>
   rw[if_neg];rintro⟨a,b,c⟩;have:s_ (n_ n)= .ok n:=by rw[← pU,c];exact hn
   have hbd: -9223372036854775808≤n∧n≤9223372036854775807:=by
    have:=hn;exact Lib.atoiAll_bounds this
   exact h ⟨n,a,b,hbd.1,hbd.2,c⟩
  ·rfl
def Ak(s:ByteArray):Bool:=decide (0<s.size) && (s.data.toList.getD 0 0==45)
def kG(s:ByteArray):List UInt8:=if Ak s then s.data.toList.drop 1 else s.data.toList
def qj(s:ByteArray):Int:=if Ak s then -((gY 0 (kG s):Nat):Int)else((gY 0 (kG s):Nat):Int)
theorem GZ(n:Int):Ak (kN n)=decide (n<0):=by
 unfold Ak;rw[pU];by_cases h:n<0
 ·rw[zC h];have:0<(kN n).size:=by
   have:=congrArg List.length (pU n);rw[zC h]at this;simp at this;omega
  simp[this,h]
 ·rw[Aj (by omega)];obtain⟨c,r,hc,h2,h3⟩:=Lu n.natAbs;rw[hc];have:(c==45)=false:=by
   rw[beq_eq_false_iff_ne];intro e;subst e;have e45:(45:UInt8).toNat=45:=rfl;omega
  simp[h,this]
theorem BO(n:Int):kG (kN n)=a_ n.natAbs:=by
 unfold kG;rw[GZ,pU];by_cases h:n<0
 ·rw[if_pos (by simpa using h),zC h];rfl
 ·rw[if_neg (by simpa using h),Aj (by omega)]
theorem Ec(n:Int):qj (kN n)=n:=by
 unfold qj;rw[BO,BH,GZ];by_cases h:n<0
 ·rw[if_pos (by simpa using h)];omega
 ·rw[if_neg (by simpa using h)];omega
def rdS(m:Nat)(s:ByteArray):Int×Bool:=rdN (-((10 ^ m:Nat):Int)+1) (((10 ^ m:Nat):Int) - 1) s
theorem zu{m:Nat}{s:ByteArray}(hm:m≤18)(h:(kG s).length<1∨m<(kG s).length)(hm1:1≤m):rdS m s=(0,false):=by
 unfold rdS;refine qV fun n h1 h2 e=> ?_
 subst e;rw[BO]at h;rcases h with h|h
 ·have:=List.length_eq_zero_iff.1 (Nat.lt_one_iff.1 h);exact QI _ this
 ·obtain⟨k,rfl⟩:∃k,m=k+1:=⟨m - 1,by omega⟩
  have:=Ui k (u:=n.natAbs) (by omega);omega
theorem zx{m:Nat}{s:ByteArray}{c:UInt8}(hc:c∈kG s)(h:oD c=false):rdS m s=(0,false):=by
 unfold rdS;refine qV fun n h1 h2 e=> ?_
 subst e;rw[BO]at hc;have:=EY _ c hc;rw[h]at this;cases this
theorem J8{m:Nat}{s:ByteArray}(h:kN (qj s)≠s):rdS m s=(0,false):=by
 unfold rdS;refine qV fun n h1 h2 e=> ?_
 subst e;exact h (by rw[Ec])
theorem Oy{m:Nat}{s:ByteArray}(hm:m≤18)(hd:∀c∈kG s,oD c=true)(hl:(kG s).length≤m)(h:kN (qj s)=s):rdS m s=(qj s,true):=by
 have hlt:=BG (kG s) 0 0 hd (by simp);rw[Nat.zero_add]at hlt;have hp:10 ^ (kG s).length≤10 ^ m:=w_ (by decide) hl;have hb:10 ^ m≤10 ^ 18:=w_ (by decide) hm;have e18:(10:Nat) ^ 18=1000000000000000000:=by decide
 rw[e18]at hb;have h3:(qj s).natAbs=gY 0 (kG s):=by unfold qj;split<;>omega
 exact vk (by omega) (by omega) (by omega) (by omega) h
def cut(sep s:ByteArray):List ByteArray:=D_ sep 0 (G_ s sep) s
theorem EW(s:ByteArray)(a:Nat):(s.extract a s.size).data.toList=s.data.toList.drop a:=by
 rw[Lib.extract_to_end]
theorem RV(s:ByteArray){a b c:Nat}(h:c≤s.size)(hb:b≤c - a)(ha:a≤c):(s.extract a c).extract b (s.extract a c).size=s.extract (a+b) c:=by
 apply ByteArray.ext;simp;have:min (a+(min c s.size - a)) c=c:=by omega
 rw[this]
theorem Qk(s:ByteArray){a b c:Nat}(h:c≤s.size)(hb:b≤c - a)(ha:a≤c):(s.extract a c).extract 0 b=s.extract a (a+b):=by
 apply ByteArray.ext;simp;have:min (a+b) c=a+b:=by omega
 rw[this]
theorem E5(s sep:ByteArray){a i:Nat}(hs:1≤sep.size)(h1:a≤i)(h2:i+sep.size≤s.size)(hn:∀j,a≤j→j<i→d_ s.data.toList sep.data.toList j=false)(ho:d_ s.data.toList sep.data.toList i=true):
 cut sep (s.extract a s.size)=s.extract a i::cut sep (s.extract (i+sep.size) s.size):=by
 have hi:H_ (s.extract a s.size) sep=((i - a:Nat):Int):=by
  show I_ _ _=_;rw[EW];refine Lib.index_first (by simp;omega) ?_ ?_
  ·unfold d_ at ho⊢;rw[v_,show a+(i - a)=i by omega];exact ho
  ·intro j hj;have:=hn (a+j) (by omega) (by omega);unfold d_ at this⊢;rw[v_];exact this
 unfold cut;have e:(s.extract a s.size).extract (i - a+sep.size) (s.extract a s.size).size=s.extract (i+sep.size) s.size:=by
  rw[RV s (q_ _) (by omega) (by omega),show a+(i - a+sep.size)=i+sep.size by omega]
 rw[Lib.countB_hit _ _ _ hs hi,Nat.add_comm,Lib.splitB_hit _ _ _ _ _ hi,e,Nat.add_zero,Qk s (q_ _) (by omega) (by omega),show a+(i - a)=i by omega]
theorem vU(s sep:ByteArray){a:Nat}(hn:∀j,a≤j→j≤s.size→d_ s.data.toList sep.data.toList j=false)(ha:a≤s.size):
 cut sep (s.extract a s.size)= [s.extract a s.size]:=by
 have hi:H_ (s.extract a s.size) sep= -1:=by
  show I_ _ _=_;rw[EW];refine Lib.index_none ?_;intro j hj;have:=hn (a+j) (by omega) (by simp at hj;omega);unfold d_ at this⊢;rw[v_];exact this
 unfold cut;rw[Lib.countB_miss _ _ hi,Lib.splitB_zero]
theorem UG(s:ByteArray)(c:UInt8){j:Nat}(h:j<s.size):d_ s.data.toList [c] j=(c==s[j]):=by
 unfold d_;have hj:j<s.data.toList.length:=by simpa using h
 rw[h_ hj];simp[u_];rfl
theorem PD(s:ByteArray)(c:UInt8){j:Nat}(h:s.size≤j):d_ s.data.toList [c] j=false:=by
 unfold d_;rw[p_ (by simpa using h)];rfl
theorem UF(s:ByteArray)(c d:UInt8){j:Nat}(h:j+1<s.size):d_ s.data.toList [c,d] j=(c==s[j] && d==s[j+1]):=by
 unfold d_;have hj:j+1<s.data.toList.length:=by simpa using h
 rw[h_ (by omega),h_ hj];simp[u_];rfl
theorem Pz(s:ByteArray)(c d:UInt8){j:Nat}(h:s.size≤j+1):d_ s.data.toList [c,d] j=false:=by
 unfold d_;by_cases hj:s.size≤j
 ·rw[p_ (by simpa using hj)];rfl
 ·have hj':j<s.data.toList.length:=by simp;omega
  rw[h_ hj',p_ (by simp;omega)];simp[u_]
theorem Uk(sep s:ByteArray):cut sep s≠[]:=by
 unfold cut;cases G_ s sep with
 |zero=>simp[D_]
 | succ k=>
   unfold D_;split<;>simp
theorem rJ(s:ByteArray):s.extract 0 s.size=s:=by
 apply ByteArray.ext;simp
end
end Go.Proofs.YtfengkmaphbofaaGreatDoor
