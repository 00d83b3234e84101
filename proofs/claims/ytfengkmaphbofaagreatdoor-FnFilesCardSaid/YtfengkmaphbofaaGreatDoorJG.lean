/-
  Texts joined: Shelf Num Fmt SJoin NumB Cut.
-/
import Derived.Shelf.Strings.Builder1
import Derived.Shelf.Strings.Builder2
import Derived.Shelf.Strings.OnBuilder
import Derived.Shelf.Strconv.Atoi
import Derived.Shelf.Strconv.Itoa0
import Derived.Shelf.Strconv.Itoa1
import Derived.Shelf.LaysM
import Derived.Shelf.Strconv.Itoa2
import Derived.Shelf.Strconv.Itoa3
import Derived.Shelf.Strconv.AtoiErrFast
import Derived.Shelf.Strconv.ParseIntEmpty
import Derived.Shelf.Strconv.AtoiFail
import Derived.Shelf.Strconv.Clone
import Derived.Shelf.Strconv.SyntaxError
import Derived.Shelf.LaysC
import Derived.Shelf.Strconv.ToError
import Derived.Shelf.Strconv.Lower
import Derived.Shelf.Strconv.ParseUint10
import Derived.Shelf.Strconv.ParseUint10Empty
import Derived.Shelf.Strconv.ParseUint10Any
import Derived.Shelf.Strconv.ParseInt10
import Derived.Shelf.Strconv.AtoiLong
import Derived.Shelf.Strconv.AtoiInnerAll
import Derived.Shelf.Strconv.RangeError
import Derived.Shelf.Strconv.ToErrorRange
import Derived.Shelf.Strconv.AtoiAll
import Derived.Shelf.Strings.Search1
import Derived.Shelf.Strings.Search2
import Derived.Shelf.Strings.Search3
import Derived.Shelf.Strings.Count
import Derived.Shelf.Strings.Split
import Derived.Shelf.Strings.SplitShaped
import Derived.Test.YtfengkmaphbofaaGreatDoorProg
import Derived.Test.YtfengkmaphbofaaGreatDoorJA
import Derived.Test.YtfengkmaphbofaaGreatDoorJE
import Derived.Lib.AppendIntMem
import Derived.Lib.ItoaLen
import Derived.Test.YtfengkmaphbofaaGreatDoorJF
import Derived.Lib.Join
import Derived.Lib.AtoiAll
import Derived.Lib.AtoiAllCases
import Derived.Lib.Split
import Derived.Lib.SplitLaws
import Derived.Lib.IndexMore
import Derived.Lib.IndexLaws
set_option maxHeartbeats 8000000
set_option linter.unusedSimpArgs false
set_option linter.unusedVariables false
namespace Go.Proofs
open Go.Shelf
def Tryz.Ii :Go.Shelf.Ren:=⟨fun|171=>100|243=>126|246=>158|283=>187|284=>188|285=>189|286=>190|129=>201|317=>200|318=>202|319=>203|320=>204|337=>208|338=>209|n=>n,fun|3=>3|9=>9|2=>2|4=>4|171=>158|0=>0|53=>159|37=>32|5=>5|173=>162|212=>181|51=>171|20=>20|213=>182|46=>118|232=>189|233=>190|n=>n,fun|17=>5|18=>6|19=>7|n=>n⟩
theorem Tryz.laysM171 :Go.Proofs.LaysM.n171 Tryz.prog Tryz.Ii:={
 mixed:=by kernel_rfl
 f129:=Tryz.func201.trans (congrArg some (by kernel_rfl))
 f171:=Tryz.func100.trans (congrArg some (by kernel_rfl))
 f243:=Tryz.func126.trans (congrArg some (by kernel_rfl))
 f246:=Tryz.func158.trans (congrArg some (by kernel_rfl))
 f283:=Tryz.func187.trans (congrArg some (by kernel_rfl))
 f284:=Tryz.func188.trans (congrArg some (by kernel_rfl))
 f285:=Tryz.func189.trans (congrArg some (by kernel_rfl))
 f286:=Tryz.func190.trans (congrArg some (by kernel_rfl))
 f317:=Tryz.func200.trans (congrArg some (by kernel_rfl))
 f318:=Tryz.func202.trans (congrArg some (by kernel_rfl))
 f319:=Tryz.func203.trans (congrArg some (by kernel_rfl))
 f320:=Tryz.func204.trans (congrArg some (by kernel_rfl))
 f337:=Tryz.func208.trans (congrArg some (by kernel_rfl))
 f338:=Tryz.func209.trans (congrArg some (by kernel_rfl))
 t0:=Tryz.underlying0
 a0:=Tryz.isAgg0
 z0:=Tryz.sizeOf0
 v0:=Tryz.zeroValue0
 t2:=Tryz.underlying2
 a2:=Tryz.isAgg2
 z2:=Tryz.sizeOf2
 v2:=Tryz.zeroValue2
 t3:=Tryz.underlying3
 a3:=Tryz.isAgg3
 z3:=Tryz.sizeOf3
 v3:=Tryz.zeroValue3
 t4:=Tryz.underlying4
 a4:=Tryz.isAgg4
 z4:=Tryz.sizeOf4
 v4:=Tryz.zeroValue4
 t5:=Tryz.underlying5
 a5:=Tryz.isAgg5
 z5:=Tryz.sizeOf5
 v5:=Tryz.zeroValue5
 t9:=Tryz.underlying9
 a9:=Tryz.isAgg9
 z9:=Tryz.sizeOf9
 v9:=Tryz.zeroValue9
 t20:=Tryz.underlying20
 a20:=Tryz.isAgg20
 z20:=Tryz.sizeOf20
 v20:=Tryz.zeroValue20
 t37:=Tryz.underlying32
 a37:=Tryz.isAgg32
 z37:=Tryz.sizeOf32
 v37:=Tryz.zeroValue32
 t46:=Tryz.underlying118
 a46:=Tryz.isAgg118
 z46:=Tryz.sizeOf118
 v46:=Tryz.zeroValue118
 t51:=Tryz.underlying171
 a51:=Tryz.isAgg171
 z51:=Tryz.sizeOf171
 v51:=Tryz.zeroValue171
 t53:=Tryz.underlying159
 a53:=Tryz.isAgg159
 z53:=Tryz.sizeOf159
 v53:=Tryz.zeroValue159
 t171:=Tryz.underlying158
 a171:=Tryz.isAgg158
 z171:=Tryz.sizeOf158
 v171:=Tryz.zeroValue158
 t173:=Tryz.underlying162
 a173:=Tryz.isAgg162
 z173:=Tryz.sizeOf162
 v173:=Tryz.zeroValue162
 t212:=Tryz.underlying181
 a212:=Tryz.isAgg181
 z212:=Tryz.sizeOf181
 v212:=Tryz.zeroValue181
 t213:=Tryz.underlying182
 a213:=Tryz.isAgg182
 z213:=Tryz.sizeOf182
 t232:=Tryz.underlying189
 a232:=Tryz.isAgg189
 z232:=Tryz.sizeOf189
 v232:=Tryz.zeroValue189
 t233:=Tryz.underlying190
 a233:=Tryz.isAgg190
 z233:=Tryz.sizeOf190
 v233:=Tryz.zeroValue190
 g17:=by kernel_rfl
 g18:=by kernel_rfl
 g19:=by kernel_rfl
 i0:=by kernel_rfl
 i2:=by kernel_rfl
 i3:=by kernel_rfl
 i4:=by kernel_rfl
 i5:=by kernel_rfl
 i9:=by kernel_rfl
 i20:=by kernel_rfl
 i37:=by kernel_rfl
 i46:=by kernel_rfl
 i51:=by kernel_rfl
 i53:=by kernel_rfl
 i171:=by kernel_rfl
 i173:=by kernel_rfl
 i212:=by kernel_rfl
 i232:=by kernel_rfl
 i233:=by kernel_rfl
 m17:=by kernel_rfl
 m18:=by kernel_rfl
 m19:=by kernel_rfl}
open Go.RowKit Go.Sort Go.Lib in
theorem Tryz.strconv_Itoa(n:Int)(h0: -9223372036854775808≤n)(h1:n≤9223372036854775807)(w:World)(htab:Lib.TabIs Tryz.prog w "internal/strconv.uint64pow10" .u64 Lib.pow10Tab):
 Calls Tryz.prog 100 #[.int .i64 n] w fun e w'=>e= .returned (.string ⟨(Lib.itoa n).toArray⟩)∧∃k os,w'=grow (w.drewN k) os:=Any.strconv_Itoa Tryz.laysM171 n h0 h1 w htab
def Tryz.Ij :Go.Shelf.Ren:=⟨fun|172=>118|244=>144|245=>145|247=>174|279=>175|280=>176|281=>177|282=>178|287=>196|316=>197|171=>100|205=>198|321=>205|322=>206|243=>126|246=>158|283=>187|284=>188|285=>189|286=>190|129=>201|317=>200|318=>202|319=>203|320=>204|337=>208|338=>209|n=>n,fun|9=>9|3=>3|75=>107|76=>108|4=>4|5=>5|167=>147|37=>32|0=>0|85=>148|2=>2|168=>150|53=>159|175=>174|46=>118|210=>178|127=>145|145=>187|143=>185|21=>21|171=>158|173=>162|212=>181|51=>171|20=>20|213=>182|232=>189|233=>190|80=>126|n=>n,fun|15=>3|16=>4|17=>5|18=>6|19=>7|n=>n⟩
theorem Tryz.laysC172 :Go.Proofs.LaysC.n172 Tryz.prog Tryz.Ij:={
 mixed:=by kernel_rfl
 f129:=Tryz.func201.trans (congrArg some (by kernel_rfl))
 f171:=Tryz.func100.trans (congrArg some (by kernel_rfl))
 f172:=Tryz.func118.trans (congrArg some (by kernel_rfl))
 f205:=Tryz.func198.trans (congrArg some (by kernel_rfl))
 f243:=Tryz.func126.trans (congrArg some (by kernel_rfl))
 f244:=Tryz.func144.trans (congrArg some (by kernel_rfl))
 f245:=Tryz.func145.trans (congrArg some (by kernel_rfl))
 f246:=Tryz.func158.trans (congrArg some (by kernel_rfl))
 f247:=Tryz.func174.trans (congrArg some (by kernel_rfl))
 f279:=Tryz.func175.trans (congrArg some (by kernel_rfl))
 f280:=Tryz.func176.trans (congrArg some (by kernel_rfl))
 f281:=Tryz.func177.trans (congrArg some (by kernel_rfl))
 f282:=Tryz.func178.trans (congrArg some (by kernel_rfl))
 f283:=Tryz.func187.trans (congrArg some (by kernel_rfl))
 f284:=Tryz.func188.trans (congrArg some (by kernel_rfl))
 f285:=Tryz.func189.trans (congrArg some (by kernel_rfl))
 f286:=Tryz.func190.trans (congrArg some (by kernel_rfl))
 f287:=Tryz.func196.trans (congrArg some (by kernel_rfl))
 f316:=Tryz.func197.trans (congrArg some (by kernel_rfl))
 f317:=Tryz.func200.trans (congrArg some (by kernel_rfl))
 f318:=Tryz.func202.trans (congrArg some (by kernel_rfl))
 f319:=Tryz.func203.trans (congrArg some (by kernel_rfl))
 f320:=Tryz.func204.trans (congrArg some (by kernel_rfl))
 f321:=Tryz.func205.trans (congrArg some (by kernel_rfl))
 f322:=Tryz.func206.trans (congrArg some (by kernel_rfl))
 f337:=Tryz.func208.trans (congrArg some (by kernel_rfl))
 f338:=Tryz.func209.trans (congrArg some (by kernel_rfl))
 t0:=Tryz.underlying0
 a0:=Tryz.isAgg0
 z0:=Tryz.sizeOf0
 v0:=Tryz.zeroValue0
 t2:=Tryz.underlying2
 a2:=Tryz.isAgg2
 z2:=Tryz.sizeOf2
 v2:=Tryz.zeroValue2
 t3:=Tryz.underlying3
 a3:=Tryz.isAgg3
 z3:=Tryz.sizeOf3
 v3:=Tryz.zeroValue3
 t4:=Tryz.underlying4
 a4:=Tryz.isAgg4
 z4:=Tryz.sizeOf4
 v4:=Tryz.zeroValue4
 t5:=Tryz.underlying5
 a5:=Tryz.isAgg5
 z5:=Tryz.sizeOf5
 v5:=Tryz.zeroValue5
 t9:=Tryz.underlying9
 a9:=Tryz.isAgg9
 z9:=Tryz.sizeOf9
 v9:=Tryz.zeroValue9
 t20:=Tryz.underlying20
 a20:=Tryz.isAgg20
 z20:=Tryz.sizeOf20
 v20:=Tryz.zeroValue20
 t21:=Tryz.underlying21
 a21:=Tryz.isAgg21
 z21:=Tryz.sizeOf21
 v21:=Tryz.zeroValue21
 t37:=Tryz.underlying32
 a37:=Tryz.isAgg32
 z37:=Tryz.sizeOf32
 v37:=Tryz.zeroValue32
 t46:=Tryz.underlying118
 a46:=Tryz.isAgg118
 z46:=Tryz.sizeOf118
 v46:=Tryz.zeroValue118
 t51:=Tryz.underlying171
 a51:=Tryz.isAgg171
 z51:=Tryz.sizeOf171
 v51:=Tryz.zeroValue171
 t53:=Tryz.underlying159
 a53:=Tryz.isAgg159
 z53:=Tryz.sizeOf159
 v53:=Tryz.zeroValue159
 t75:=Tryz.underlying107
 a75:=Tryz.isAgg107
 z75:=Tryz.sizeOf107
 v75:=Tryz.zeroValue107
 t76:=Tryz.underlying108
 a76:=Tryz.isAgg108
 z76:=Tryz.sizeOf108
 v76:=Tryz.zeroValue108
 t85:=Tryz.underlying148
 a85:=Tryz.isAgg148
 z85:=Tryz.sizeOf148
 v85:=Tryz.zeroValue148
 t127:=Tryz.underlying145
 a127:=Tryz.isAgg145
 z127:=Tryz.sizeOf145
 v127:=Tryz.zeroValue145
 t143:=Tryz.underlying185
 a143:=Tryz.isAgg185
 z143:=Tryz.sizeOf185
 v143:=Tryz.zeroValue185
 t145:=Tryz.underlying187
 a145:=Tryz.isAgg187
 z145:=Tryz.sizeOf187
 v145:=Tryz.zeroValue187
 t167:=Tryz.underlying147
 a167:=Tryz.isAgg147
 z167:=Tryz.sizeOf147
 v167:=Tryz.zeroValue147
 t168:=Tryz.underlying150
 a168:=Tryz.isAgg150
 z168:=Tryz.sizeOf150
 v168:=Tryz.zeroValue150
 t171:=Tryz.underlying158
 a171:=Tryz.isAgg158
 z171:=Tryz.sizeOf158
 v171:=Tryz.zeroValue158
 t173:=Tryz.underlying162
 a173:=Tryz.isAgg162
 z173:=Tryz.sizeOf162
 v173:=Tryz.zeroValue162
 t175:=Tryz.underlying174
 a175:=Tryz.isAgg174
 z175:=Tryz.sizeOf174
 v175:=Tryz.zeroValue174
 t210:=Tryz.underlying178
 a210:=Tryz.isAgg178
 z210:=Tryz.sizeOf178
 v210:=Tryz.zeroValue178
 t212:=Tryz.underlying181
 a212:=Tryz.isAgg181
 z212:=Tryz.sizeOf181
 v212:=Tryz.zeroValue181
 t213:=Tryz.underlying182
 a213:=Tryz.isAgg182
 z213:=Tryz.sizeOf182
 t232:=Tryz.underlying189
 a232:=Tryz.isAgg189
 z232:=Tryz.sizeOf189
 v232:=Tryz.zeroValue189
 t233:=Tryz.underlying190
 a233:=Tryz.isAgg190
 z233:=Tryz.sizeOf190
 v233:=Tryz.zeroValue190
 g15:=by kernel_rfl
 g16:=by kernel_rfl
 g17:=by kernel_rfl
 g18:=by kernel_rfl
 g19:=by kernel_rfl
 t80:=Tryz.underlying126
 a80:=Tryz.isAgg126
 z80:=Tryz.sizeOf126
 v80:=Tryz.zeroValue126
 i0:=by kernel_rfl
 i2:=by kernel_rfl
 i3:=by kernel_rfl
 i4:=by kernel_rfl
 i5:=by kernel_rfl
 i9:=by kernel_rfl
 i20:=by kernel_rfl
 i21:=by kernel_rfl
 i37:=by kernel_rfl
 i46:=by kernel_rfl
 i51:=by kernel_rfl
 i53:=by kernel_rfl
 i75:=by kernel_rfl
 i76:=by kernel_rfl
 i80:=by kernel_rfl
 i85:=by kernel_rfl
 i127:=by kernel_rfl
 i143:=by kernel_rfl
 i145:=by kernel_rfl
 i167:=by kernel_rfl
 i168:=by kernel_rfl
 i171:=by kernel_rfl
 i173:=by kernel_rfl
 i175:=by kernel_rfl
 i210:=by kernel_rfl
 i212:=by kernel_rfl
 i232:=by kernel_rfl
 i233:=by kernel_rfl
 m15:=by kernel_rfl
 m16:=by kernel_rfl
 m17:=by kernel_rfl
 m18:=by kernel_rfl
 m19:=by kernel_rfl
 c0:=by kernel_rfl
 c2:=by kernel_rfl
 c3:=by kernel_rfl
 c4:=by kernel_rfl
 c5:=by kernel_rfl
 c9:=by kernel_rfl
 c20:=by kernel_rfl
 c21:=by kernel_rfl
 c37:=by kernel_rfl
 c46:=by kernel_rfl
 c51:=by kernel_rfl
 c53:=by kernel_rfl
 c75:=by kernel_rfl
 c76:=by kernel_rfl
 c80:=by kernel_rfl
 c85:=by kernel_rfl
 c127:=by kernel_rfl
 c143:=by kernel_rfl
 c145:=by kernel_rfl
 c167:=by kernel_rfl
 c168:=by kernel_rfl
 c171:=by kernel_rfl
 c173:=by kernel_rfl
 c175:=by kernel_rfl
 c210:=by kernel_rfl
 c212:=by kernel_rfl
 c213:=by kernel_rfl
 c232:=by kernel_rfl
 c233:=by kernel_rfl}
open Go.RowKit in
theorem Tryz.strconv_Atoi_ok(s:ByteArray)(hmax:s.size≤9223372036854775806)(v:Int)(h:Lib.atoiAll s.data.toList= .ok v)(w:World):
 Calls Tryz.prog 118 #[.string s] w fun e w'=>e= .returned (.tuple #[.int .i64 v,.nilIface])∧(w'=w∨∃t,w'=Lib.bytesWorld w 5 t):=Any.strconv_Atoi_ok Tryz.laysC172 s hmax v h w
open Go.RowKit in
theorem Tryz.strconv_Atoi_syntax(s:ByteArray)(hlim:s.size≤281474976710656)(h:Lib.atoiAll s.data.toList= .«syntax»)(ev:Value)(w:World)(hv:w.cell? ⟨3,0,none⟩=some ev)(hev:ev= .nilIface∨∃te pe,ev= .iface te pe):
 Calls Tryz.prog 118 #[.string s] w fun e w'=>∃N,e= .returned (.tuple #[.int .i64 (0),.iface 150 (.pointer (some ⟨N,0,none⟩))])∧w.heap.size≤N∧w'.heap[N]? =some (.cells #[.string ⟨#[65,116,111,105]⟩,.string s,ev] 178 (0,0))∧Below w.heap.size w w':=Any.strconv_Atoi_syntax Tryz.laysC172 s hlim h ev w hv hev
open Go.RowKit in
theorem Tryz.strconv_Atoi_range(s:ByteArray)(hlim:s.size≤281474976710656)(h:Lib.atoiAll s.data.toList= .range)(ev:Value)(w:World)(hv:w.cell? ⟨4,0,none⟩=some ev)(hev:ev= .nilIface∨∃te pe,ev= .iface te pe):
 Calls Tryz.prog 118 #[.string s] w fun e w'=>∃N,e= .returned (.tuple #[.int .i64 (Lib.atoiSat s.data.toList),.iface 150 (.pointer (some ⟨N,0,none⟩))])∧w.heap.size≤N∧w'.heap[N]? =some (.cells #[.string ⟨#[65,116,111,105]⟩,.string s,ev] 178 (0,0))∧Below w.heap.size w w':=Any.strconv_Atoi_range Tryz.laysC172 s hlim h ev w hv hev
def Tryz.lays146_ren :Go.Shelf.Ren:=⟨fun|146=>35|221=>77|268=>115|138=>116|143=>117|195=>140|197=>141|218=>142|219=>143|260=>169|217=>170|225=>171|224=>172|267=>173|266=>194|314=>195|n=>n,fun|9=>9|31=>23|3=>3|4=>4|0=>0|105=>129|21=>21|5=>5|46=>118|119=>167|139=>170|138=>169|146=>172|51=>171|n=>n,fun|1=>0|3=>1|4=>2|n=>n⟩
theorem Tryz.lays146 :Go.Proofs.Lays.n146 Tryz.prog Tryz.lays146_ren:={
 mixed:=by kernel_rfl
 f138:=Tryz.func116.trans (congrArg some (by kernel_rfl))
 f143:=Tryz.func117.trans (congrArg some (by kernel_rfl))
 f146:=Tryz.func35.trans (congrArg some (by kernel_rfl))
 f195:=Tryz.func140.trans (congrArg some (by kernel_rfl))
 f197:=Tryz.func141.trans (congrArg some (by kernel_rfl))
 f217:=Tryz.func170.trans (congrArg some (by kernel_rfl))
 f218:=Tryz.func142.trans (congrArg some (by kernel_rfl))
 f219:=Tryz.func143.trans (congrArg some (by kernel_rfl))
 f221:=Tryz.func77.trans (congrArg some (by kernel_rfl))
 f224:=Tryz.func172.trans (congrArg some (by kernel_rfl))
 f225:=Tryz.func171.trans (congrArg some (by kernel_rfl))
 f260:=Tryz.func169.trans (congrArg some (by kernel_rfl))
 f266:=Tryz.func194.trans (congrArg some (by kernel_rfl))
 f267:=Tryz.func173.trans (congrArg some (by kernel_rfl))
 f268:=Tryz.func115.trans (congrArg some (by kernel_rfl))
 f314:=Tryz.func195.trans (congrArg some (by kernel_rfl))
 t0:=Tryz.underlying0
 a0:=Tryz.isAgg0
 z0:=Tryz.sizeOf0
 v0:=Tryz.zeroValue0
 t3:=Tryz.underlying3
 a3:=Tryz.isAgg3
 z3:=Tryz.sizeOf3
 v3:=Tryz.zeroValue3
 t4:=Tryz.underlying4
 a4:=Tryz.isAgg4
 z4:=Tryz.sizeOf4
 v4:=Tryz.zeroValue4
 t5:=Tryz.underlying5
 a5:=Tryz.isAgg5
 z5:=Tryz.sizeOf5
 v5:=Tryz.zeroValue5
 t9:=Tryz.underlying9
 a9:=Tryz.isAgg9
 z9:=Tryz.sizeOf9
 v9:=Tryz.zeroValue9
 t21:=Tryz.underlying21
 a21:=Tryz.isAgg21
 z21:=Tryz.sizeOf21
 v21:=Tryz.zeroValue21
 t31:=Tryz.underlying23
 a31:=Tryz.isAgg23
 z31:=Tryz.sizeOf23
 v31:=Tryz.zeroValue23
 t46:=Tryz.underlying118
 a46:=Tryz.isAgg118
 z46:=Tryz.sizeOf118
 v46:=Tryz.zeroValue118
 t51:=Tryz.underlying171
 a51:=Tryz.isAgg171
 z51:=Tryz.sizeOf171
 v51:=Tryz.zeroValue171
 t105:=Tryz.underlying129
 a105:=Tryz.isAgg129
 z105:=Tryz.sizeOf129
 v105:=Tryz.zeroValue129
 t119:=Tryz.underlying167
 a119:=Tryz.isAgg167
 z119:=Tryz.sizeOf167
 t138:=Tryz.underlying169
 a138:=Tryz.isAgg169
 z138:=Tryz.sizeOf169
 v138:=Tryz.zeroValue169
 t139:=Tryz.underlying170
 a139:=Tryz.isAgg170
 z139:=Tryz.sizeOf170
 v139:=Tryz.zeroValue170
 t146:=Tryz.underlying172
 a146:=Tryz.isAgg172
 z146:=Tryz.sizeOf172
 v146:=Tryz.zeroValue172
 g1:=by kernel_rfl
 g3:=by kernel_rfl
 g4:=by kernel_rfl}
open Go.RowKit Go.Lib in
theorem Tryz.strings_Split(s sep:ByteArray)(m:Int)(w:World)(hs:s.size<4294967281)(hm:w.cell? ⟨0,0,none⟩=some (.int .i64 m))(h1:1≤sep.size):
 Calls Tryz.prog 35 #[.string s,.string sep] w fun e w'=>
  e= .returned (.slice (some ⟨w.heap.size,0,none⟩) (Lib.countB s sep+1) (Lib.countB s sep+1))∧w'=w.alloc (.cells ((Lib.splitB sep 0 (Lib.countB s sep) s).map Value.string).toArray 9):=Any.strings_Split Tryz.lays146 (by kernel_rfl) s sep m w hs hm h1
def Tryz.lays147_ren :Go.Shelf.Ren:=⟨fun|147=>58|221=>77|268=>115|138=>116|143=>117|195=>140|197=>141|218=>142|219=>143|260=>169|217=>170|225=>171|224=>172|267=>173|266=>194|314=>195|n=>n,fun|9=>9|3=>3|31=>23|4=>4|0=>0|105=>129|21=>21|5=>5|46=>118|119=>167|139=>170|138=>169|146=>172|51=>171|n=>n,fun|1=>0|3=>1|4=>2|n=>n⟩
theorem Tryz.lays147 :Go.Proofs.Lays.n147 Tryz.prog Tryz.lays147_ren:={
 mixed:=by kernel_rfl
 f138:=Tryz.func116.trans (congrArg some (by kernel_rfl))
 f143:=Tryz.func117.trans (congrArg some (by kernel_rfl))
 f147:=Tryz.func58.trans (congrArg some (by kernel_rfl))
 f195:=Tryz.func140.trans (congrArg some (by kernel_rfl))
 f197:=Tryz.func141.trans (congrArg some (by kernel_rfl))
 f217:=Tryz.func170.trans (congrArg some (by kernel_rfl))
 f218:=Tryz.func142.trans (congrArg some (by kernel_rfl))
 f219:=Tryz.func143.trans (congrArg some (by kernel_rfl))
 f221:=Tryz.func77.trans (congrArg some (by kernel_rfl))
 f224:=Tryz.func172.trans (congrArg some (by kernel_rfl))
 f225:=Tryz.func171.trans (congrArg some (by kernel_rfl))
 f260:=Tryz.func169.trans (congrArg some (by kernel_rfl))
 f266:=Tryz.func194.trans (congrArg some (by kernel_rfl))
 f267:=Tryz.func173.trans (congrArg some (by kernel_rfl))
 f268:=Tryz.func115.trans (congrArg some (by kernel_rfl))
 f314:=Tryz.func195.trans (congrArg some (by kernel_rfl))
 t0:=Tryz.underlying0
 a0:=Tryz.isAgg0
 z0:=Tryz.sizeOf0
 v0:=Tryz.zeroValue0
 t3:=Tryz.underlying3
 a3:=Tryz.isAgg3
 z3:=Tryz.sizeOf3
 v3:=Tryz.zeroValue3
 t4:=Tryz.underlying4
 a4:=Tryz.isAgg4
 z4:=Tryz.sizeOf4
 v4:=Tryz.zeroValue4
 t5:=Tryz.underlying5
 a5:=Tryz.isAgg5
 z5:=Tryz.sizeOf5
 v5:=Tryz.zeroValue5
 t9:=Tryz.underlying9
 a9:=Tryz.isAgg9
 z9:=Tryz.sizeOf9
 v9:=Tryz.zeroValue9
 t21:=Tryz.underlying21
 a21:=Tryz.isAgg21
 z21:=Tryz.sizeOf21
 v21:=Tryz.zeroValue21
 t31:=Tryz.underlying23
 a31:=Tryz.isAgg23
 z31:=Tryz.sizeOf23
 v31:=Tryz.zeroValue23
 t46:=Tryz.underlying118
 a46:=Tryz.isAgg118
 z46:=Tryz.sizeOf118
 v46:=Tryz.zeroValue118
 t51:=Tryz.underlying171
 a51:=Tryz.isAgg171
 z51:=Tryz.sizeOf171
 v51:=Tryz.zeroValue171
 t105:=Tryz.underlying129
 a105:=Tryz.isAgg129
 z105:=Tryz.sizeOf129
 v105:=Tryz.zeroValue129
 t119:=Tryz.underlying167
 a119:=Tryz.isAgg167
 z119:=Tryz.sizeOf167
 t138:=Tryz.underlying169
 a138:=Tryz.isAgg169
 z138:=Tryz.sizeOf169
 v138:=Tryz.zeroValue169
 t139:=Tryz.underlying170
 a139:=Tryz.isAgg170
 z139:=Tryz.sizeOf170
 v139:=Tryz.zeroValue170
 t146:=Tryz.underlying172
 a146:=Tryz.isAgg172
 z146:=Tryz.sizeOf172
 v146:=Tryz.zeroValue172
 g1:=by kernel_rfl
 g3:=by kernel_rfl
 g4:=by kernel_rfl}
open Go.RowKit Go.Lib in
theorem Tryz.strings_SplitN(s sep:ByteArray)(n:Nat)(m:Int)(w:World)(hs:s.size<4294967281)(hm:w.cell? ⟨0,0,none⟩=some (.int .i64 m))(h1:1≤sep.size)(hn:1≤n)(hn63:n≤9223372036854775807):
 Calls Tryz.prog 58 #[.string s,.string sep,.int .i64 n] w fun e w'=>
  e= .returned (.slice (some ⟨w.heap.size,0,none⟩) (Lib.splitB sep 0 (min n (s.size+1) - 1) s).length (min n (s.size+1)))∧w'=w.alloc (.cells (Lib.cellsOf (Lib.splitB sep 0 (min n (s.size+1) - 1) s) (min n (s.size+1))) 9):=Any.strings_SplitN Tryz.lays147 (by kernel_rfl) s sep n m w hs hm h1 hn hn63
end Go.Proofs
namespace Go.Proofs.YtfengkmaphbofaaGreatDoor
open Go.RowKit
section
open Value renaming oneCell'→a_
open Bool renaming false_eq_true→b_,and_eq_true→n_
open List renaming flatMap_cons→c_,flatMap_nil→d_,append_nil→i_,length_append→k_,length_cons→m_,length_nil→o_,cons_append→p_,map_cons→u_,nil_append→v_,map_nil→w_,replicate→x_,intercalate→y_,length_map→z_,getD_eq_getElem?_getD→C_,drop_drop→E_,take_succ_cons→G_,mem_singleton→I_,intersperse→J_,length→P_,getD→S_
open Nat renaming reduceLeDiff→e_,reduceEqDiff→f_,reduceAdd→g_,reduceSub→h_,le_refl→r_,pow_le_pow_right→F_,strongRecOn→L_,pow_succ→N_
open Lib renaming decDigits→j_,decDigits_one→l_,occAt→q_,itoa→s_,join→t_,atoiAll→B_,parseUint10→D_,itoa_length_le→H_,splitB→M_,parseMag→O_,countB→Q_,indexB→R_,index→T_
open UInt8 renaming ofNat→A_
attribute [local irreducible] sw sd sn
def dM(n:Int):ByteArray:=⟨(s_ n).toArray⟩
theorem jJ{n:Int}(h0: -9223372036854775808≤n)(h1:n≤9223372036854775807):(dM n).size≤21:=by
 have:=H_ n h0 h1;simpa[dM,ByteArray.size]using this
theorem O7{n:Int}(h0: -9223372036854775808≤n)(h1:n≤9223372036854775807):dK Tryz.prog 100 [li n] (.c false [.raw (.string (dM n))]):=RI fun w vs hr ht=>by
 obtain⟨v,rfl,hv⟩:=MR hr;obtain rfl:=ni hv;exact(Tryz.strconv_Itoa n h0 h1 w ht.pow).mono fun e w' ⟨he,k,os,hw⟩=>⟨he,by subst hw;exact Lib.below_grow _ w (r_ _) k os⟩
theorem Em{u:Nat}(h:¬u<10):j_ u=j_ (u / 10)++ [A_ (48+u % 10)]:=by
 rw[j_,dif_neg h]
theorem Yw{u:Nat}(h:u≤9223372036854775808):(j_ u).length≤21:=by
 by_cases h0:u=0
 ·subst h0;rw[l_ (by decide)];decide
 ·have:=H_ (-(u:Int)) (by omega) (by omega);rw[Lib.itoa_neg u (by omega)]at this;simp at this;omega
def pq(n0 n:Int)(o:List UInt8):Prop:=n.natAbs≤n0.natAbs∧(0≤n0→0≤n)∧(n0≤0→n≤0)∧(if n=0 then o=j_ n0.natAbs else j_ n.natAbs++o=j_ n0.natAbs)
theorem pq.start{n0:Int}(h:n0≠0):pq n0 n0 []:=⟨r_ _,id,id,by rw[if_neg h,i_]⟩
theorem pq.len{n0 n:Int}{o:List UInt8}(h:pq n0 n o)(hb:n0.natAbs≤9223372036854775808):o.length≤21:=by
 have hl:=Yw hb;obtain⟨_,_,_,h⟩:=h;split at h
 ·rw[h];exact hl
 ·rw[← h,k_]at hl;omega
theorem Jd(n:Int):(n.tdiv 10).natAbs=n.natAbs / 10:=by rw[Int.natAbs_tdiv];rfl
theorem Jc(n:Int):(0≤n→0≤n.tdiv 10)∧(n≤0→n.tdiv 10≤0):=by
 refine⟨fun h=>Int.tdiv_nonneg h (by decide),fun h=> ?_⟩;have:=Int.tdiv_nonneg (a:= -n) (b:=10) (by omega) (by decide);rw[Int.neg_tdiv]at this;omega
theorem pq.go{n0 n:Int}{o:List UInt8}(h:pq n0 n o)(hn:n≠0):pq n0 (n.tdiv 10) (A_ (48+n.natAbs % 10)::o):=by
 obtain⟨h1,h2,h3,h4⟩:=h;rw[if_neg hn]at h4;have ha:=Jd n;have hsg:=Jc n;refine⟨by omega,fun hp=> ?_,fun hp=> ?_, ?_⟩
 ·have:=h2 hp;omega
 ·have:=h3 hp;omega
 ·by_cases hs:n.natAbs<10
  ·have hz:n.tdiv 10=0:=by omega
   rw[if_pos hz,← h4,l_ hs,Nat.mod_eq_of_lt hs];rfl
  ·have hz:n.tdiv 10≠0:=by omega
   rw[if_neg hz,← h4,Em hs,ha];simp
theorem pq.fin{n0:Int}{o:List UInt8}(h:pq n0 0 o):o=j_ n0.natAbs:=by
 obtain⟨_,_,_,h⟩:=h;simpa using h
theorem Lh{n:Int}(h:0≤n):dM n=⟨(j_ n.natAbs).toArray⟩:=by
 unfold dM s_;rw[if_neg (by omega)];have e:n.toNat=n.natAbs:=by omega
 rw[e]
theorem UM{n:Int}(h:n<0):dM n=⟨(45::j_ n.natAbs).toArray⟩:=by
 unfold dM s_;rw[if_pos h]
theorem VD(a b:List UInt8):(⟨a.toArray⟩:ByteArray)++⟨b.toArray⟩=⟨(a++b).toArray⟩:=by
 apply ByteArray.ext;simp
theorem A8{d:Int}(h0:0≤d)(h1:d≤255):IntKind.u8.wrap d=d:=by
 simp[IntKind.wrap,IntKind.signed,IntKind.bits];omega
def Aa :IC:=(zd_ [zz_ 2 (.mov (.k (.string ⟨#[]⟩)))] (zd_ [zw_ 3 0,zq_ 4 100 3,zw_ 2 4] .ret))
theorem DU :bg Tryz.prog (Tryz.f61.body.getD .skip)=some Aa:=by kernel_rfl
theorem kN{n:Int}(h0: -9223372036854775808≤n)(h1:n≤9223372036854775807):dK Tryz.prog 61 [li n] (.c false [.raw (.string (dM n))]):=by
 refine gW (fn:=Tryz.f61) (t:=2) (hc:=DU) (h:= ?_);unfold Aa;refine zb_ ?_;change AWP _ _ _ (st0 5 _);simp only[undef,stS,st0,stN,D.av,D.avN,aW,aN,aY,aX,aO,iL,aK,aJ,u_,w_,x_,p_,v_,m_,o_,g_,h_];have hi:=O7 h0 h1
 repeat' (first|(with_reducible first|refine dG ?_|refine bK ?_|refine cO ?_|refine cZ ?_|refine dH ?_|refine eU ?_|refine bW ?_|refine dF ?_|refine aZ ?_|refine bG ?_|refine cu ?_|refine bD ?_|refine bZ ?_|refine bn ?_|refine bC ?_)|((with_reducible refine bF ?_ ?_);rfl)|((with_reducible refine bH ?_ ?_);rfl)|((with_reducible refine bJ ?_ ?_);rfl)|(with_reducible (refine bI rfl ?_ ?_);all_goals(intro hb;have hb':=hb;(try simp only[pkC]at hb');try(exfalso;omega)))|(refine rg_ ?_;intro K hK)|(refine hq_ ?_;clear hK K)|refine ca_ ?_ ?_|(refine cg_ ?_;first|refine cT_ hi ?_)|((with_reducible refine eF ?_);simp(disch:=first|decide|omega) only[↓pkS,pkW,pkA,undef,c_,d_,i_,dw,fG,lvD,fK,lcD,lvK,lcK,dh,dB,dA,ex,St.put,St.ev,kav,gdA,opI,dZ,fJ,dV,fF,fM,AV.toD,AC.toD,AV.nw,AC.nw,AC.one,a_,aA,aj,au,ay,bf,aV,if_true,if_false,b_,dW,D.one,D.ones,D.sz,D.szs,g_,h_,e_,f_,reduceIte,pkN,aK,aJ])|(first|(with_reducible rfl)|(with_reducible refine dD ?_;kernel_rfl)|exact aC _|exact aF _|exact el_ln _|exact el_tk _ _|exact el_td _ _ _|omega|(simp;done)|(simp;omega))|((with_reducible refine dI ?_);simp[aP,bP,bM,dL,AC.toD,aA,aj,au,ay,a_,aQ,aH,aU,aS,aW,aN,aY,aX,dQ,dR,aK,aJ];first|done|rfl))
 exact dS ⟨_,rfl,rfl,trivial⟩
theorem Wh{α:Type}{x y:α}:(if(10:Int)=0 then x else y)=y:=if_neg (by decide)
def zZ :IC:=(zd_ [zz_ 2 (.mov (.k (.string ⟨#[]⟩)))] (.seq (zd_ [zw_ 6 0,zm_ 7 .eql 6 0] (.cond (.t 7) (zd_ [zz_ 2 (.mov (.k (.string ⟨#[48]⟩)))] .ret) .skip)) (zd_ [zw_ 8 0,zm_ 9 .lss 8 0,zw_ 3 9] (zd_ [zz_ 4 (.mov (.k (.string ⟨#[]⟩)))] (.seq (.block 0 (.loop (.seq (zd_ [zw_ 10 0,zm_ 11 .neq 10 0] (.cond (.t 11) .skip (.exit 0))) (.block 1 (zd_ [zw_ 12 0,zm_ 13 .rem 12 10,zw_ 5 13] (.seq (zd_ [zw_ 14 5,zm_ 15 .lss 14 0] (.cond (.t 15) (.reg false [zw_ 16 5,zz_ 17 (.bin .sub (.k (.int .i64 0)) (.t 16)),zw_ 5 17]) .skip)) (zd_ [zw_ 18 5,zz_ 19 (.bin .add (.k (.int .i64 48)) (.t 18)),zz_ 20 (.cvi .u8 (.t 19)),zz_ 21 (.brow true 5 1 1 false [(.t 20)]),zz_ 22 (.cvs (.t 21)),zw_ 23 4,zl_ 24 .add 22 23,zw_ 4 24] (.reg false [zw_ 25 0,zm_ 26 .quo 25 10,zw_ 0 26])))))))) (.seq (zd_ [zw_ 27 3] (.cond (.t 27) (zd_ [zw_ 28 4,zz_ 29 (.bin .add (.k (.string ⟨#[45]⟩)) (.t 28)),zw_ 2 29] .ret) .skip)) (zd_ [zw_ 30 4,zw_ 2 30] .ret)))))))
theorem DT :bg Tryz.prog (Tryz.f68.body.getD .skip)=some zZ:=by kernel_rfl
theorem qO{a:UInt8}{o:List UInt8}(h:o.length≤21):((((⟨#[a]⟩:ByteArray).size+(⟨o.toArray⟩:ByteArray).size:Nat):Int) > IntKind.i64.max)=False:=by
 have e1:(⟨o.toArray⟩:ByteArray).size=o.length:=by simp[ByteArray.size]
 have e2:(⟨#[a]⟩:ByteArray).size=1:=rfl;have e3:IntKind.i64.max=9223372036854775807:=by decide
 rw[e1,e2,e3];simp;omega
theorem BI{a:UInt8}{o:List UInt8}(h:o.length≤21):(9223372036854775807<((((⟨#[a]⟩:ByteArray).size:Nat):Int)+(((⟨o.toArray⟩:ByteArray).size:Nat):Int)))=False:=by
 have e1:(⟨o.toArray⟩:ByteArray).size=o.length:=by simp[ByteArray.size]
 have e2:(⟨#[a]⟩:ByteArray).size=1:=rfl;rw[e1,e2];simp;omega
theorem iy{n:Int}(h0: -9223372036854775808≤n)(h1:n≤9223372036854775807):dK Tryz.prog 68 [li n] (.c false [.raw (.string (dM n))]):=by
 refine gW (fn:=Tryz.f68) (t:=2) (hc:=DT) (h:= ?_);unfold zZ;refine zb_ ?_;change AWP _ _ _ (st0 31 _);simp only[undef,stS,st0,stN,D.av,D.avN,aW,aN,aY,aX,aO,iL,aK,aJ,u_,w_,x_,p_,v_,m_,o_,g_,h_];by_cases hz:n=0
 ·subst hz;have hz':((0:Int)==0)=true:=rfl
  repeat' (first|(with_reducible first|refine dG ?_|refine bK ?_|refine cO ?_|refine cZ ?_|refine dH ?_|refine eU ?_|refine bW ?_|refine dF ?_|refine aZ ?_|refine bG ?_|refine cu ?_|refine bD ?_|refine bZ ?_|refine bn ?_|refine bC ?_)|((with_reducible refine bF ?_ ?_);rfl)|((with_reducible refine bH ?_ ?_);rfl)|((with_reducible refine bJ ?_ ?_);rfl)|(with_reducible (refine bI rfl ?_ ?_);all_goals(intro hb;have hb':=hb;(try simp only[pkC]at hb');try(exfalso;omega)))|(refine rg_ ?_;intro K hK)|(refine hq_ ?_;clear hK K)|refine ca_ ?_ ?_|((with_reducible refine eF ?_);simp(disch:=first|decide|omega) only[↓pkS,pkW,pkA,undef,c_,d_,i_,dw,fG,lvD,fK,lcD,lvK,lcK,dh,dB,dA,ex,St.put,St.ev,kav,gdA,opI,dZ,fJ,dV,fF,fM,AV.toD,AC.toD,AV.nw,AC.nw,AC.one,a_,aA,aj,au,ay,bf,aV,if_true,if_false,b_,dW,D.one,D.ones,D.sz,D.szs,g_,h_,e_,f_,reduceIte,pkN,aK,aJ,hz'])|(first|(with_reducible rfl)|(with_reducible refine dD ?_;kernel_rfl)|exact aC _|exact aF _|exact el_ln _|exact el_tk _ _|exact el_td _ _ _|omega|(simp;done)|(simp;omega))|((with_reducible refine dI ?_);simp[aP,bP,bM,dL,AC.toD,aA,aj,au,ay,a_,aQ,aH,aU,aS,aW,aN,aY,aX,dQ,dR,aK,aJ,hz'];first|done|rfl))
  exact dS ⟨_,rfl,by rw[Lh (by decide)];rw[show j_ (Int.natAbs 0)= [48] from by rw[l_ (by decide)];rfl];rfl,trivial⟩
 have hz':(n==0)=false:=by simp[hz]
 repeat' (first|(with_reducible first|refine dG ?_|refine bK ?_|refine cO ?_|refine cZ ?_|refine dH ?_|refine eU ?_|refine bW ?_|refine dF ?_|refine aZ ?_|refine bG ?_|refine cu ?_|refine bD ?_|refine bZ ?_|refine bn ?_|refine bC ?_)|((with_reducible refine bF ?_ ?_);rfl)|((with_reducible refine bH ?_ ?_);rfl)|((with_reducible refine bJ ?_ ?_);rfl)|(with_reducible (refine bI rfl ?_ ?_);all_goals(intro hb;have hb':=hb;(try simp only[pkC]at hb');try(exfalso;omega)))|(refine rg_ ?_;intro K hK)|(refine hq_ ?_;clear hK K)|refine ca_ ?_ ?_|((with_reducible refine eF ?_);simp(disch:=first|decide|omega) only[↓pkS,pkW,pkA,undef,c_,d_,i_,dw,fG,lvD,fK,lcD,lvK,lcK,dh,dB,dA,ex,St.put,St.ev,kav,gdA,opI,dZ,fJ,dV,fF,fM,AV.toD,AC.toD,AV.nw,AC.nw,AC.one,a_,aA,aj,au,ay,bf,aV,if_true,if_false,b_,dW,D.one,D.ones,D.sz,D.szs,g_,h_,e_,f_,reduceIte,pkN,aK,aJ,hz'])|(first|(with_reducible rfl)|(with_reducible refine dD ?_;kernel_rfl)|exact aC _|exact aF _|exact el_ln _|exact el_tk _ _|exact el_td _ _ _|omega|(simp;done)|(simp;omega))|((with_reducible refine dI ?_);simp[aP,bP,bM,dL,AC.toD,aA,aj,au,ay,a_,aQ,aH,aU,aS,aW,aN,aY,aX,dQ,dR,aK,aJ,hz'];first|done|rfl))
 refine iU (X:=Int×List UInt8) (fun q=> [.v (.c false [.raw (.int .i64 q.1)]),.d,.d,.v (.c false [.raw (.bool (decide (n<0)))]),.v (.c false [.raw (.string ⟨q.2.toArray⟩)])]) (fun q=> []) (fun q bs=> []) (fun q=>pq n q.1 q.2) (fun q=>q.1.natAbs) (n,[]) (pq.start hz) ?_ ?_
 ·simp[gI,iM,gq,gJ,AV.fits,AC.fits,FB,fP]
 rintro⟨m,o⟩ hv;simp only[FB,fP];have hv:pq n m o:=hv;have hab:=hv.1;by_cases hm:m=0
 ·subst hm;have hne:((0:Int) !=0)=false:=rfl;have ho:=hv.fin;have hlen:=hv.len (by omega);by_cases hb:n<0
  ·have hb':decide (n<0)=true:=decide_eq_true hb
   repeat' (first|(with_reducible first|refine dG ?_|refine bK ?_|refine cO ?_|refine cZ ?_|refine dH ?_|refine eU ?_|refine bW ?_|refine dF ?_|refine aZ ?_|refine bG ?_|refine cu ?_|refine bD ?_|refine bZ ?_|refine bn ?_|refine bC ?_)|((with_reducible refine bF ?_ ?_);rfl)|((with_reducible refine bH ?_ ?_);rfl)|((with_reducible refine bJ ?_ ?_);rfl)|(with_reducible (refine bI rfl ?_ ?_);all_goals(intro hb;have hb':=hb;(try simp only[pkC]at hb');try(exfalso;omega)))|(refine rg_ ?_;intro K hK)|(refine hq_ ?_;clear hK K)|refine ca_ ?_ ?_|((with_reducible refine eF ?_);simp(disch:=first|decide|omega) only[↓pkS,pkW,pkA,undef,c_,d_,i_,dw,fG,lvD,fK,lcD,lvK,lcK,dh,dB,dA,ex,St.put,St.ev,kav,gdA,opI,dZ,fJ,dV,fF,fM,AV.toD,AC.toD,AV.nw,AC.nw,AC.one,a_,aA,aj,au,ay,bf,aV,if_true,if_false,b_,dW,D.one,D.ones,D.sz,D.szs,g_,h_,e_,f_,reduceIte,pkN,aK,aJ,hne,hb',qO hlen,BI hlen])|(first|(with_reducible rfl)|(with_reducible refine dD ?_;kernel_rfl)|exact aC _|exact aF _|exact el_ln _|exact el_tk _ _|exact el_td _ _ _|omega|(simp;done)|(simp;omega))|((with_reducible refine dI ?_);simp[aP,bP,bM,dL,AC.toD,aA,aj,au,ay,a_,aQ,aH,aU,aS,aW,aN,aY,aX,dQ,dR,aK,aJ,hne,hb',qO hlen,BI hlen];first|done|rfl))
   exact dS ⟨_,rfl,by rw[UM hb,← ho];rfl,trivial⟩
  ·have hb':decide (n<0)=false:=decide_eq_false hb
   repeat' (first|(with_reducible first|refine dG ?_|refine bK ?_|refine cO ?_|refine cZ ?_|refine dH ?_|refine eU ?_|refine bW ?_|refine dF ?_|refine aZ ?_|refine bG ?_|refine cu ?_|refine bD ?_|refine bZ ?_|refine bn ?_|refine bC ?_)|((with_reducible refine bF ?_ ?_);rfl)|((with_reducible refine bH ?_ ?_);rfl)|((with_reducible refine bJ ?_ ?_);rfl)|(with_reducible (refine bI rfl ?_ ?_);all_goals(intro hb;have hb':=hb;(try simp only[pkC]at hb');try(exfalso;omega)))|(refine rg_ ?_;intro K hK)|(refine hq_ ?_;clear hK K)|refine ca_ ?_ ?_|((with_reducible refine eF ?_);simp(disch:=first|decide|omega) only[↓pkS,pkW,pkA,undef,c_,d_,i_,dw,fG,lvD,fK,lcD,lvK,lcK,dh,dB,dA,ex,St.put,St.ev,kav,gdA,opI,dZ,fJ,dV,fF,fM,AV.toD,AC.toD,AV.nw,AC.nw,AC.one,a_,aA,aj,au,ay,bf,aV,if_true,if_false,b_,dW,D.one,D.ones,D.sz,D.szs,g_,h_,e_,f_,reduceIte,pkN,aK,aJ,hne,hb',qO hlen,BI hlen])|(first|(with_reducible rfl)|(with_reducible refine dD ?_;kernel_rfl)|exact aC _|exact aF _|exact el_ln _|exact el_tk _ _|exact el_td _ _ _|omega|(simp;done)|(simp;omega))|((with_reducible refine dI ?_);simp[aP,bP,bM,dL,AC.toD,aA,aj,au,ay,a_,aQ,aH,aU,aS,aW,aN,aY,aX,dQ,dR,aK,aJ,hne,hb',qO hlen,BI hlen];first|done|rfl))
   exact dS ⟨_,rfl,by rw[Lh (by omega),← ho];rfl,trivial⟩
 ·have hneq:(m !=0)=true:=by simp[hm]
  have hd0:(n.natAbs:Int)=0∨True:=Or.inr trivial;have hdv:=Jd m;have hsg:=Jc m;have hmo:m.tmod 10=m - 10*m.tdiv 10:=by have:=Int.tmod_add_mul_tdiv m 10;omega
  have hw1:IntKind.i64.wrap (m.tdiv 10)=m.tdiv 10:=iY (by omega) (by omega);have hlen:=hv.len (by omega);have hg:=hv.go hm;by_cases hs:m.tmod 10<0
  ·have hs':decide (m.tmod 10<0)=true:=decide_eq_true hs;have hw2:IntKind.i64.wrap (0 - m.tmod 10)=((m.natAbs % 10:Nat):Int):=by rw[iY (by omega) (by omega)];omega
   have hw3:IntKind.i64.wrap (48+((m.natAbs % 10:Nat):Int))=48+((m.natAbs % 10:Nat):Int):=iY (by omega) (by omega);have hw4:IntKind.u8.wrap (48+((m.natAbs % 10:Nat):Int))=48+((m.natAbs % 10:Nat):Int):=A8 (by omega) (by omega);have hw5:(48+((m.natAbs % 10:Nat):Int)).toNat=48+m.natAbs % 10:=by omega
   repeat' (first|(with_reducible first|refine dG ?_|refine bK ?_|refine cO ?_|refine cZ ?_|refine dH ?_|refine eU ?_|refine bW ?_|refine dF ?_|refine aZ ?_|refine bG ?_|refine cu ?_|refine bD ?_|refine bZ ?_|refine bn ?_|refine bC ?_)|((with_reducible refine bF ?_ ?_);rfl)|((with_reducible refine bH ?_ ?_);rfl)|((with_reducible refine bJ ?_ ?_);rfl)|(with_reducible (refine bI rfl ?_ ?_);all_goals(intro hb;have hb':=hb;(try simp only[pkC]at hb');try(exfalso;omega)))|(refine rg_ ?_;intro K hK)|(refine hq_ ?_;clear hK K)|refine ca_ ?_ ?_|((with_reducible refine eF ?_);simp(disch:=first|decide|omega) only[↓pkS,pkW,pkA,undef,c_,d_,i_,dw,fG,lvD,fK,lcD,lvK,lcK,dh,dB,dA,ex,St.put,St.ev,kav,gdA,opI,dZ,fJ,dV,fF,fM,AV.toD,AC.toD,AV.nw,AC.nw,AC.one,a_,aA,aj,au,ay,bf,aV,if_true,if_false,b_,dW,D.one,D.ones,D.sz,D.szs,g_,h_,e_,f_,reduceIte,pkN,aK,aJ,Wh,hneq,hs',hw1,hw2,hw3,hw4,hw5,jW,qO hlen])|(first|(with_reducible rfl)|(with_reducible refine dD ?_;kernel_rfl)|exact aC _|exact aF _|exact el_ln _|exact el_tk _ _|exact el_td _ _ _|omega|(simp;done)|(simp;omega))|((with_reducible refine dI ?_);simp[aP,bP,bM,dL,AC.toD,aA,aj,au,ay,a_,aQ,aH,aU,aS,aW,aN,aY,aX,dQ,dR,aK,aJ,Wh,hneq,hs',hw1,hw2,hw3,hw4,hw5,jW,qO hlen];first|done|rfl))
   refine gY (m.tdiv 10,A_ (48+m.natAbs % 10)::o) ?_ hg (show(m.tdiv 10).natAbs<m.natAbs by omega);simp[gI,iM,gq,gJ,AV.fits,AC.fits,FB,fP,VD]
  ·have hs':decide (m.tmod 10<0)=false:=decide_eq_false hs;have hw2:m.tmod 10=((m.natAbs % 10:Nat):Int):=by omega
   have hw3:IntKind.i64.wrap (48+((m.natAbs % 10:Nat):Int))=48+((m.natAbs % 10:Nat):Int):=iY (by omega) (by omega);have hw4:IntKind.u8.wrap (48+((m.natAbs % 10:Nat):Int))=48+((m.natAbs % 10:Nat):Int):=A8 (by omega) (by omega);have hw5:(48+((m.natAbs % 10:Nat):Int)).toNat=48+m.natAbs % 10:=by omega
   repeat' (first|(with_reducible first|refine dG ?_|refine bK ?_|refine cO ?_|refine cZ ?_|refine dH ?_|refine eU ?_|refine bW ?_|refine dF ?_|refine aZ ?_|refine bG ?_|refine cu ?_|refine bD ?_|refine bZ ?_|refine bn ?_|refine bC ?_)|((with_reducible refine bF ?_ ?_);rfl)|((with_reducible refine bH ?_ ?_);rfl)|((with_reducible refine bJ ?_ ?_);rfl)|(with_reducible (refine bI rfl ?_ ?_);all_goals(intro hb;have hb':=hb;(try simp only[pkC]at hb');try(exfalso;omega)))|(refine rg_ ?_;intro K hK)|(refine hq_ ?_;clear hK K)|refine ca_ ?_ ?_|((with_reducible refine eF ?_);simp(disch:=first|decide|omega) only[↓pkS,pkW,pkA,undef,c_,d_,i_,dw,fG,lvD,fK,lcD,lvK,lcK,dh,dB,dA,ex,St.put,St.ev,kav,gdA,opI,dZ,fJ,dV,fF,fM,AV.toD,AC.toD,AV.nw,AC.nw,AC.one,a_,aA,aj,au,ay,bf,aV,if_true,if_false,b_,dW,D.one,D.ones,D.sz,D.szs,g_,h_,e_,f_,reduceIte,pkN,aK,aJ,Wh,hneq,hs',hw1,hw2,hw3,hw4,hw5,jW,qO hlen])|(first|(with_reducible rfl)|(with_reducible refine dD ?_;kernel_rfl)|exact aC _|exact aF _|exact el_ln _|exact el_tk _ _|exact el_td _ _ _|omega|(simp;done)|(simp;omega))|((with_reducible refine dI ?_);simp[aP,bP,bM,dL,AC.toD,aA,aj,au,ay,a_,aQ,aH,aU,aS,aW,aN,aY,aX,dQ,dR,aK,aJ,Wh,hneq,hs',hw1,hw2,hw3,hw4,hw5,jW,qO hlen];first|done|rfl))
   refine gY (m.tdiv 10,A_ (48+m.natAbs % 10)::o) ?_ hg (show(m.tdiv 10).natAbs<m.natAbs by omega);simp[gI,iM,gq,gJ,AV.fits,AC.fits,FB,fP,VD]
theorem bV{α:Type}{f:α→D}{l:List α}{k:Nat}(h:k<l.length):(l.map f)[k]? =some (f l[k]):=by rw[List.getElem?_map,List.getElem?_eq_getElem h];rfl
def lT(l:List ByteArray)(b:ByteArray):Nat→List UInt8
 |0=> []
 |k+1=>lT l b k++((if 0<k then b.data.toList else [])++(l.getD k ⟨#[]⟩).data.toList)
def jA(l:List ByteArray)(b:ByteArray):ByteArray:=⟨(lT l b l.length).toArray⟩
theorem JU(l:List ByteArray)(b:ByteArray):∀{k n:Nat},k≤n→(lT l b k).length≤(lT l b n).length
 | k,0,h=>by
   obtain rfl:k=0:=by omega
   exact r_ _
 | k,n+1,h=>by
   by_cases hk:k=n+1
   ·subst hk;exact r_ _
   ·have:=JU l b (k:=k) (n:=n) (by omega);simp only[lT,k_];omega
theorem Dc{l:List ByteArray}{b:ByteArray}{k:Nat}(h:k<l.length):lT l b (k+1)=lT l b k++((if 0<k then b.data.toList else [])++l[k].data.toList):=by
 simp[lT,C_,h]
theorem lZ(s:ByteArray):s.data.toList.length=s.size:=by simp
def xQ :IC:=(zd_ [zz_ 4 (.mov (.k (.string ⟨#[]⟩)))] (zd_ [zz_ 7 (.brow true 5 1 0 false []),zw_ 5 7] (.seq (zd_ [zk_ 6 0] (.block 0 (.loop (.seq (zd_ [zw_ 8 6,zw_ 9 0,zf_ 10 false 9,zl_ 11 .lss 8 10] (.cond (.t 11) .skip (.exit 0))) (.seq (.block 1 (.seq (zd_ [zw_ 14 6,zm_ 15 .gtr 14 0] (.cond (.t 15) (.reg false [zw_ 16 5,zw_ 17 1,zz_ 18 (.apps 5 (.t 16) (.t 17)),zw_ 5 18]) .skip)) (.reg false [zw_ 19 5,zw_ 20 0,zw_ 21 6,ze_ 22 1 20 21,zs_ 23 1 22,zz_ 24 (.apps 5 (.t 19) (.t 23)),zw_ 5 24]))) (.reg false [zw_ 12 6,zm_ 13 .add 12 1,zw_ 6 13])))))) (zd_ [zw_ 25 5,zz_ 26 (.cvs (.t 25)),zw_ 4 26] .ret))))
theorem AQ :bg Tryz.prog (Tryz.f67.body.getD .skip)=some xQ:=by kernel_rfl
theorem pO(l:List ByteArray)(b:ByteArray)(hb:(lT l b l.length).length≤1073741824)(hn:l.length≤4194304):dK Tryz.prog 67 [.sl (l.map ls),ls b] (.c false [.raw (.string (jA l b))]):=by
 refine gW (fn:=Tryz.f67) (t:=4) (hc:=AQ) (h:= ?_);unfold xQ;refine zb_ ?_;change AWP _ _ _ (st0 27 _);simp only[undef,stS,st0,stN,D.av,D.avN,aW,aN,aY,aX,aO,iL,aK,aJ,GCell.aG,GCell.aB,GCell.aI,u_,w_,x_,p_,v_,m_,o_,g_,h_]
 repeat' (first|(with_reducible first|refine dG ?_|refine bK ?_|refine cO ?_|refine cZ ?_|refine dH ?_|refine eU ?_|refine bW ?_|refine dF ?_|refine aZ ?_|refine bG ?_|refine cu ?_|refine bD ?_|refine bZ ?_|refine bn ?_|refine bC ?_)|((with_reducible refine bF ?_ ?_);rfl)|((with_reducible refine bH ?_ ?_);rfl)|((with_reducible refine bJ ?_ ?_);rfl)|(with_reducible (refine bI rfl ?_ ?_);all_goals(intro hb;have hb':=hb;(try simp only[pkC]at hb');try(exfalso;omega)))|(refine rg_ ?_;intro K hK)|(refine hq_ ?_;clear hK K)|refine ca_ ?_ ?_|((with_reducible refine eF ?_);simp(disch:=first|decide|omega) only[↓pkS,pkW,pkA,undef,c_,d_,i_,dw,fG,lvD,fK,lcD,lvK,lcK,dh,dB,dA,ex,St.put,St.ev,kav,gdA,opI,dZ,fJ,dV,fF,fM,AV.toD,AC.toD,AV.nw,AC.nw,AC.one,a_,aA,aj,au,ay,bf,aV,if_true,if_false,b_,dW,D.one,D.ones,D.sz,D.szs,g_,h_,e_,f_,reduceIte,pkN,aK,aJ,aO,GCell.aG,GCell.aB,GCell.aI,bV])|(first|(with_reducible rfl)|(with_reducible refine dD ?_;kernel_rfl)|exact aC _|exact aF _|exact el_ln _|exact el_tk _ _|exact el_td _ _ _|omega|(simp;done)|(simp;omega))|((with_reducible refine dI ?_);simp[aP,bP,bM,dL,AC.toD,aA,aj,au,ay,a_,aQ,aH,aU,aS,aW,aN,aY,aX,dQ,dR,aK,aJ,aO,GCell.aG,GCell.aB,GCell.aI,bV];first|done|rfl))
 refine iU (X:=Nat×Nat) (fun q=> [.k,.k,.d,.d,.d,.v (.c false [.own 0 q.2]),.v (.c false [.raw (.int .i64 (q.1:Nat))])]) (fun q=> [⟨(lT l b q.1).map lu8,5,1,q.2,true⟩]) (fun q bs=> []) (fun q=>q.1≤l.length) (fun q=>l.length - q.1) (0,0) (Nat.zero_le _) ?_ ?_
 ·simp[gI,iM,gq,gJ,AV.fits,AC.fits,FB,fP,lT]
 rintro⟨k,v⟩ hk;have hk:k≤l.length:=hk;simp only[FB,fP];by_cases hlt:k<l.length
 ·have hm:=JU l b (show k+1≤l.length by omega);have hs:=Dc (b:=b) hlt;have hsl:=congrArg P_ hs;by_cases h0:0<k
  ·have h0':decide ((k:Int) > 0)=true:=decide_eq_true (by omega);rw[if_pos h0]at hs hsl;simp only[k_,lZ]at hsl
   repeat' (first|(with_reducible first|refine dG ?_|refine bK ?_|refine cO ?_|refine cZ ?_|refine dH ?_|refine eU ?_|refine bW ?_|refine dF ?_|refine aZ ?_|refine bG ?_|refine cu ?_|refine bD ?_|refine bZ ?_|refine bn ?_|refine bC ?_)|((with_reducible refine bF ?_ ?_);rfl)|((with_reducible refine bH ?_ ?_);rfl)|((with_reducible refine bJ ?_ ?_);rfl)|(with_reducible (refine bI rfl ?_ ?_);all_goals(intro hb;have hb':=hb;(try simp only[pkC]at hb');try(exfalso;omega)))|(refine rg_ ?_;intro K hK)|(refine hq_ ?_;clear hK K)|refine ca_ ?_ ?_|((with_reducible refine eF ?_);simp(disch:=first|decide|omega) only[↓pkS,pkW,pkA,undef,c_,d_,i_,dw,fG,lvD,fK,lcD,lvK,lcK,dh,dB,dA,ex,St.put,St.ev,kav,gdA,opI,dZ,fJ,dV,fF,fM,AV.toD,AC.toD,AV.nw,AC.nw,AC.one,a_,aA,aj,au,ay,bf,aV,if_true,if_false,b_,dW,D.one,D.ones,D.sz,D.szs,g_,h_,e_,f_,reduceIte,pkN,aK,aJ,aO,GCell.aG,GCell.aB,GCell.aI,bV,h0',tZ,k_,z_])|(first|(with_reducible rfl)|(with_reducible refine dD ?_;kernel_rfl)|exact aC _|exact aF _|exact el_ln _|exact el_tk _ _|exact el_td _ _ _|omega|(simp;done)|(simp;omega))|((with_reducible refine dI ?_);simp[aP,bP,bM,dL,AC.toD,aA,aj,au,ay,a_,aQ,aH,aU,aS,aW,aN,aY,aX,dQ,dR,aK,aJ,aO,GCell.aG,GCell.aB,GCell.aI,bV,h0',tZ,k_,z_];first|done|rfl))
   refine gY (k+1,v+2) ?_ (show k+1≤l.length by omega) (show l.length - (k+1)<l.length - k by omega);simp[gI,iM,gq,gJ,AV.fits,AC.fits,FB,fP,hs,Ce]
  ·have h0':decide ((k:Int) > 0)=false:=decide_eq_false (by omega);rw[if_neg h0]at hs hsl;simp only[k_,lZ,o_]at hsl
   repeat' (first|(with_reducible first|refine dG ?_|refine bK ?_|refine cO ?_|refine cZ ?_|refine dH ?_|refine eU ?_|refine bW ?_|refine dF ?_|refine aZ ?_|refine bG ?_|refine cu ?_|refine bD ?_|refine bZ ?_|refine bn ?_|refine bC ?_)|((with_reducible refine bF ?_ ?_);rfl)|((with_reducible refine bH ?_ ?_);rfl)|((with_reducible refine bJ ?_ ?_);rfl)|(with_reducible (refine bI rfl ?_ ?_);all_goals(intro hb;have hb':=hb;(try simp only[pkC]at hb');try(exfalso;omega)))|(refine rg_ ?_;intro K hK)|(refine hq_ ?_;clear hK K)|refine ca_ ?_ ?_|((with_reducible refine eF ?_);simp(disch:=first|decide|omega) only[↓pkS,pkW,pkA,undef,c_,d_,i_,dw,fG,lvD,fK,lcD,lvK,lcK,dh,dB,dA,ex,St.put,St.ev,kav,gdA,opI,dZ,fJ,dV,fF,fM,AV.toD,AC.toD,AV.nw,AC.nw,AC.one,a_,aA,aj,au,ay,bf,aV,if_true,if_false,b_,dW,D.one,D.ones,D.sz,D.szs,g_,h_,e_,f_,reduceIte,pkN,aK,aJ,aO,GCell.aG,GCell.aB,GCell.aI,bV,h0',tZ,k_,z_])|(first|(with_reducible rfl)|(with_reducible refine dD ?_;kernel_rfl)|exact aC _|exact aF _|exact el_ln _|exact el_tk _ _|exact el_td _ _ _|omega|(simp;done)|(simp;omega))|((with_reducible refine dI ?_);simp[aP,bP,bM,dL,AC.toD,aA,aj,au,ay,a_,aQ,aH,aU,aS,aW,aN,aY,aX,dQ,dR,aK,aJ,aO,GCell.aG,GCell.aB,GCell.aI,bV,h0',tZ,k_,z_];first|done|rfl))
   refine gY (k+1,v+1) ?_ (show k+1≤l.length by omega) (show l.length - (k+1)<l.length - k by omega);simp[gI,iM,gq,gJ,AV.fits,AC.fits,FB,fP,hs,Ce]
 obtain rfl:k=l.length:=by omega
 repeat' (first|(with_reducible first|refine dG ?_|refine bK ?_|refine cO ?_|refine cZ ?_|refine dH ?_|refine eU ?_|refine bW ?_|refine dF ?_|refine aZ ?_|refine bG ?_|refine cu ?_|refine bD ?_|refine bZ ?_|refine bn ?_|refine bC ?_)|((with_reducible refine bF ?_ ?_);rfl)|((with_reducible refine bH ?_ ?_);rfl)|((with_reducible refine bJ ?_ ?_);rfl)|(with_reducible (refine bI rfl ?_ ?_);all_goals(intro hb;have hb':=hb;(try simp only[pkC]at hb');try(exfalso;omega)))|(refine rg_ ?_;intro K hK)|(refine hq_ ?_;clear hK K)|refine ca_ ?_ ?_|((with_reducible refine eF ?_);simp(disch:=first|decide|omega) only[↓pkS,pkW,pkA,undef,c_,d_,i_,dw,fG,lvD,fK,lcD,lvK,lcK,dh,dB,dA,ex,St.put,St.ev,kav,gdA,opI,dZ,fJ,dV,fF,fM,AV.toD,AC.toD,AV.nw,AC.nw,AC.one,a_,aA,aj,au,ay,bf,aV,if_true,if_false,b_,dW,D.one,D.ones,D.sz,D.szs,g_,h_,e_,f_,reduceIte,pkN,aK,aJ,aO,GCell.aG,GCell.aB,GCell.aI,bV,sZ])|(first|(with_reducible rfl)|(with_reducible refine dD ?_;kernel_rfl)|exact aC _|exact aF _|exact el_ln _|exact el_tk _ _|exact el_td _ _ _|omega|(simp;done)|(simp;omega))|((with_reducible refine dI ?_);simp[aP,bP,bM,dL,AC.toD,aA,aj,au,ay,a_,aQ,aH,aU,aS,aW,aN,aY,aX,dQ,dR,aK,aJ,aO,GCell.aG,GCell.aB,GCell.aI,bV,sZ];first|done|rfl))
 exact dS ⟨_,rfl,rfl,trivial⟩
theorem Eo{w:World}{x:GCell}{v:Value}(h:Rd w x.toD v):v= .agg #[.int .i64 x.id,.int .i64 x.ver,.int .i64 x.kind,.string x.name,.string x.code,.int .i64 x.n]:=by
 obtain⟨fp,cs,rfl,h2⟩:=SI x.aI h;obtain⟨rfl,rfl⟩:=GCell.opened.1 h2;rfl
theorem xg(x:GCell)(hw:x.toD.wf):dK Tryz.prog 60 [x.toD] (.c false [.raw (.bool (fQ x))]):=vk fun w vs hr=>by
 obtain⟨v,rfl,h1⟩:=MR hr;obtain rfl:=Eo h1;exact rP x hw w
theorem jG(x:GCell)(hw:x.toD.wf):dK Tryz.prog 23 [x.toD] (.c false [.raw (.bool (fQ x))]):=vk fun w vs hr=>by
 obtain⟨v,rfl,h1⟩:=MR hr;obtain rfl:=Eo h1;exact rO x hw w
def spB :ByteArray:=⟨#[32]⟩
def jX(s:ByteArray):ByteArray:=if(s.toList==(⟨#[]⟩:ByteArray).toList)=true then⟨#[45]⟩else s
def l7(x:GCell):List ByteArray:= [dM x.id,dM x.ver,dM x.kind,dM x.n,jX x.name,x.code]
def eu(x:GCell):ByteArray:=if fQ x=true then jA (l7 x) spB else⟨#[]⟩
theorem Qg(x:GCell):(l7 x).map ls= [ls (dM x.id),ls (dM x.ver),ls (dM x.kind),ls (dM x.n),ls (jX x.name),ls x.code]:=rfl
theorem XW(x:GCell):jA (l7 x) spB=dM x.id++spB++dM x.ver++spB++dM x.kind++spB++dM x.n++spB++jX x.name++spB++x.code:=by
 apply ByteArray.ext;simp[jA,lT,l7,S_]
theorem su{x:GCell}(h:fQ x=true):(1≤x.id∧x.id≤999)∧(1≤x.ver∧x.ver≤999)∧(1≤x.kind∧x.kind≤4)∧(0≤x.n∧x.n≤100):=by
 unfold fQ at h;simp only[n_]at h;obtain⟨⟨⟨h1,h2⟩,_⟩,h4⟩:=h;have hr:∀{n a b:Int},inR n a b=true→a≤n∧n≤b:=fun{n a b} h=>by simpa[inR]using h
 refine⟨hr h1,hr h2, ?_, ?_⟩
 ·unfold lM at h4
  repeat' split at h4
  all_goals first|(cases h4;done)|(simp_all;done)
 ·unfold lM at h4
  repeat' split at h4
  all_goals first|(cases h4;done)|(simp at h4;omega)|(simp only[n_]at h4;exact hr h4.2)
theorem yV{x:GCell}(h:fQ x=true)(hc:x.code.size≤1048576)(hm:x.name.size≤1048576):(lT (l7 x) spB (l7 x).length).length≤1073741824:=by
 obtain⟨h1,h2,h3,h4⟩:=su h;have e1:=jJ (n:=x.id) (by omega) (by omega);have e2:=jJ (n:=x.ver) (by omega) (by omega);have e3:=jJ (n:=x.kind) (by omega) (by omega);have e4:=jJ (n:=x.n) (by omega) (by omega);have e5:(jX x.name).size≤1048576:=by
  unfold jX;split
  ·decide
  ·exact hm
 have e6:spB.size=1:=rfl;simp only[l7,m_,o_,lT,k_,S_,List.getElem?_cons_zero,List.getElem?_cons_succ,Option.getD_some];simp;omega
def DV :IC:=(zd_ [zz_ 1 (.box (.t 0)),zz_ 2 (.mov (.k (.string ⟨#[]⟩)))] (.seq (zd_ [zr_ 4 6 1,zq_ 5 23 4,zz_ 6 (.not (.t 5))] (.cond (.t 6) (zd_ [zz_ 2 (.mov (.k (.string ⟨#[]⟩)))] .ret) .skip)) (zd_ [zt_ 7 3 1,zs_ 8 1 7,zw_ 3 8] (.seq (zd_ [zw_ 9 3,zz_ 10 (.bin .eql (.t 9) (.k (.string ⟨#[]⟩)))] (.cond (.t 10) (.reg false [zz_ 3 (.mov (.k (.string ⟨#[45]⟩)))]) .skip)) (.seq (.regN true false [] [zt_ 11 0 1,zs_ 12 1 11,zq_ 13 68 12,zt_ 14 1 1,zs_ 15 1 14,zq_ 16 68 15,zt_ 17 2 1,zs_ 18 1 17,zq_ 19 68 18,zt_ 20 5 1,zs_ 21 1 20,zq_ 22 68 21,zw_ 23 3,zt_ 24 4 1,zs_ 25 1 24,zz_ 26 (.brow false 9 1 6 false [(.t 13),(.t 16),(.t 19),(.t 22),(.t 23),(.t 25)]),zz_ 27 (.call 67 [(.t 26),(.k (.string ⟨#[32]⟩))]),zw_ 2 27]) .ret)))))
theorem Fz :bg Tryz.prog (Tryz.f51.body.getD .skip)=some DV:=by kernel_rfl
theorem mg(x:GCell)(hw:x.toD.wf)(hc:x.code.size≤1048576)(hm:x.name.size≤1048576):dK Tryz.prog 51 [x.toD] (.c false [.raw (.string (eu x))]):=by
 refine gW (fn:=Tryz.f51) (t:=2) (hc:=Fz) (h:= ?_);unfold DV;refine zb_ ?_;change AWP _ _ _ (st0 28 _);simp only[undef,stS,st0,stN,D.av,D.avN,aW,aN,aY,aX,aO,iL,aK,aJ,GCell.aG,GCell.aB,GCell.aI,u_,w_,x_,p_,v_,m_,o_,g_,h_];have hcl:=jG x hw;cases hv:fQ x with
 | false=>
   rw[hv]at hcl
   repeat' (first|(with_reducible first|refine dG ?_|refine bK ?_|refine cO ?_|refine cZ ?_|refine dH ?_|refine eU ?_|refine bW ?_|refine dF ?_|refine aZ ?_|refine bG ?_|refine cu ?_|refine bD ?_|refine bZ ?_|refine bn ?_|refine bC ?_)|((with_reducible refine bF ?_ ?_);rfl)|((with_reducible refine bH ?_ ?_);rfl)|((with_reducible refine bJ ?_ ?_);rfl)|(with_reducible (refine bI rfl ?_ ?_);all_goals(intro hb;have hb':=hb;(try simp only[pkC]at hb');try(exfalso;omega)))|(refine rg_ ?_;intro K hK)|((first|((with_reducible refine fZ false ?_ ?_);rfl)|((with_reducible refine fZ true ?_ ?_);rfl));intro K hK)|(refine hq_ ?_;clear hK K)|refine ca_ ?_ ?_|(refine cg_ ?_;first|refine cT_ hcl ?_)|((with_reducible refine eF ?_);simp(disch:=first|decide|omega) only[↓pkS,pkW,pkA,undef,c_,d_,i_,dw,fG,lvD,fK,lcD,lvK,lcK,dh,dB,dA,ex,St.put,St.ev,kav,gdA,opI,dZ,fJ,dV,fF,fM,AV.toD,AC.toD,AV.nw,AC.nw,AC.one,a_,aA,aj,au,ay,bf,aV,if_true,if_false,b_,dW,D.one,D.ones,D.sz,D.szs,g_,h_,e_,f_,reduceIte,pkN,aK,aJ,aO,GCell.aG,GCell.aB,GCell.aI,bV])|((with_reducible refine pF ?_);simp(disch:=first|decide|omega) only[↓pkR,pkD,pkA,undef,c_,d_,i_,dw,fG,lvD,fK,lcD,lvK,lcK,dh,dB,dA,ex,St.put,St.ev,kav,gdA,opI,dZ,fJ,dV,fF,fM,AV.toD,AC.toD,AV.nw,AC.nw,AC.one,a_,aA,aj,au,ay,bf,aV,if_true,if_false,b_,dW,D.one,D.ones,D.sz,D.szs,g_,h_,e_,f_,reduceIte,pkN,aK,aJ,aO,GCell.aG,GCell.aB,GCell.aI,bV])|(first|(with_reducible rfl)|(with_reducible refine dD ?_;kernel_rfl)|exact aC _|exact aF _|exact el_ln _|exact el_tk _ _|exact el_td _ _ _|omega|(simp;done)|(simp;omega))|((with_reducible refine dI ?_);simp[aP,bP,bM,dL,AC.toD,aA,aj,au,ay,a_,aQ,aH,aU,aS,aW,aN,aY,aX,dQ,dR,aK,aJ,aO,GCell.aG,GCell.aB,GCell.aI,bV];first|done|rfl))
   exact dS ⟨_,rfl,by unfold eu;rw[hv];rfl,trivial⟩
 | true=>
   rw[hv]at hcl;obtain⟨h1,h2,h3,h4⟩:=su hv;have hb:=yV hv hc hm;have f1:=iy (n:=x.id) (by omega) (by omega);have f2:=iy (n:=x.ver) (by omega) (by omega);have f3:=iy (n:=x.kind) (by omega) (by omega);have f4:=iy (n:=x.n) (by omega) (by omega);have hJ:dK Tryz.prog 67 [.sl [ls (dM x.id),ls (dM x.ver),ls (dM x.kind),ls (dM x.n),ls (jX x.name),ls x.code],ls spB] (.c false [.raw (.string (jA (l7 x) spB))]):=by
    have:=pO (l7 x) spB hb (by simp[l7]);rwa[Qg]at this
   clear hb;have hres:eu x=jA (l7 x) spB:=by unfold eu;rw[if_pos hv]
   cases hn:(x.name.toList==(⟨#[]⟩:ByteArray).toList)with
   | true=>
     have hnm:jX x.name=⟨#[45]⟩:=by unfold jX;rw[if_pos hn]
     rw[hnm]at hJ
     repeat' (first|(with_reducible first|refine dG ?_|refine bK ?_|refine cO ?_|refine cZ ?_|refine dH ?_|refine eU ?_|refine bW ?_|refine dF ?_|refine aZ ?_|refine bG ?_|refine cu ?_|refine bD ?_|refine bZ ?_|refine bn ?_|refine bC ?_)|((with_reducible refine bF ?_ ?_);rfl)|((with_reducible refine bH ?_ ?_);rfl)|((with_reducible refine bJ ?_ ?_);rfl)|(with_reducible (refine bI rfl ?_ ?_);all_goals(intro hb;have hb':=hb;(try simp only[pkC]at hb');try(exfalso;omega)))|(refine rg_ ?_;intro K hK)|((first|((with_reducible refine fZ false ?_ ?_);rfl)|((with_reducible refine fZ true ?_ ?_);rfl));intro K hK)|(refine hq_ ?_;clear hK K)|refine ca_ ?_ ?_|((with_reducible refine jY ?_);first|(refine dn hcl trivial ?_ ?_)|(refine dn f1 trivial (by simp[aP,bP,bM,dL,AC.toD,aA,aj,au,ay,a_,aQ,aH,aU,aS,aW,aN,aY,aX,dQ,dR,aK,aJ,aO,GCell.aG,GCell.aB,GCell.aI,bV,hn,spB,ls];first|done|rfl) ?_)|(refine dn f2 trivial (by simp[aP,bP,bM,dL,AC.toD,aA,aj,au,ay,a_,aQ,aH,aU,aS,aW,aN,aY,aX,dQ,dR,aK,aJ,aO,GCell.aG,GCell.aB,GCell.aI,bV,hn,spB,ls];first|done|rfl) ?_)|(refine dn f3 trivial (by simp[aP,bP,bM,dL,AC.toD,aA,aj,au,ay,a_,aQ,aH,aU,aS,aW,aN,aY,aX,dQ,dR,aK,aJ,aO,GCell.aG,GCell.aB,GCell.aI,bV,hn,spB,ls];first|done|rfl) ?_)|(refine dn f4 trivial (by simp[aP,bP,bM,dL,AC.toD,aA,aj,au,ay,a_,aQ,aH,aU,aS,aW,aN,aY,aX,dQ,dR,aK,aJ,aO,GCell.aG,GCell.aB,GCell.aI,bV,hn,spB,ls];first|done|rfl) ?_)|(refine dn hJ trivial ?_ ?_))|((with_reducible refine nO ?_);first|(refine bT hcl trivial ?_ ?_)|(refine bT f1 trivial (by simp[aP,bP,bM,dL,AC.toD,aA,aj,au,ay,a_,aQ,aH,aU,aS,aW,aN,aY,aX,dQ,dR,aK,aJ,aO,GCell.aG,GCell.aB,GCell.aI,bV,hn,spB,ls];first|done|rfl) ?_)|(refine bT f2 trivial (by simp[aP,bP,bM,dL,AC.toD,aA,aj,au,ay,a_,aQ,aH,aU,aS,aW,aN,aY,aX,dQ,dR,aK,aJ,aO,GCell.aG,GCell.aB,GCell.aI,bV,hn,spB,ls];first|done|rfl) ?_)|(refine bT f3 trivial (by simp[aP,bP,bM,dL,AC.toD,aA,aj,au,ay,a_,aQ,aH,aU,aS,aW,aN,aY,aX,dQ,dR,aK,aJ,aO,GCell.aG,GCell.aB,GCell.aI,bV,hn,spB,ls];first|done|rfl) ?_)|(refine bT f4 trivial (by simp[aP,bP,bM,dL,AC.toD,aA,aj,au,ay,a_,aQ,aH,aU,aS,aW,aN,aY,aX,dQ,dR,aK,aJ,aO,GCell.aG,GCell.aB,GCell.aI,bV,hn,spB,ls];first|done|rfl) ?_)|(refine bT hJ trivial ?_ ?_))|((with_reducible refine eF ?_);simp(disch:=first|decide|omega) only[↓pkS,pkW,pkA,undef,c_,d_,i_,dw,fG,lvD,fK,lcD,lvK,lcK,dh,dB,dA,ex,St.put,St.ev,kav,gdA,opI,dZ,fJ,dV,fF,fM,AV.toD,AC.toD,AV.nw,AC.nw,AC.one,a_,aA,aj,au,ay,bf,aV,if_true,if_false,b_,dW,D.one,D.ones,D.sz,D.szs,g_,h_,e_,f_,reduceIte,pkN,aK,aJ,aO,GCell.aG,GCell.aB,GCell.aI,bV,hn,spB,ls])|((with_reducible refine pF ?_);simp(disch:=first|decide|omega) only[↓pkR,pkD,pkA,undef,c_,d_,i_,dw,fG,lvD,fK,lcD,lvK,lcK,dh,dB,dA,ex,St.put,St.ev,kav,gdA,opI,dZ,fJ,dV,fF,fM,AV.toD,AC.toD,AV.nw,AC.nw,AC.one,a_,aA,aj,au,ay,bf,aV,if_true,if_false,b_,dW,D.one,D.ones,D.sz,D.szs,g_,h_,e_,f_,reduceIte,pkN,aK,aJ,aO,GCell.aG,GCell.aB,GCell.aI,bV,hn,spB,ls])|(first|(with_reducible rfl)|(with_reducible refine dD ?_;kernel_rfl)|exact aC _|exact aF _|exact el_ln _|exact el_tk _ _|exact el_td _ _ _|omega|(simp;done)|(simp;omega))|((with_reducible refine dI ?_);simp[aP,bP,bM,dL,AC.toD,aA,aj,au,ay,a_,aQ,aH,aU,aS,aW,aN,aY,aX,dQ,dR,aK,aJ,aO,GCell.aG,GCell.aB,GCell.aI,bV,hn,spB,ls];first|done|rfl))
     exact dS ⟨_,rfl,by rw[hres];rfl,trivial⟩
   | false=>
     have hnm:jX x.name=x.name:=by unfold jX;rw[if_neg (by rw[hn];decide)]
     rw[hnm]at hJ
     repeat' (first|(with_reducible first|refine dG ?_|refine bK ?_|refine cO ?_|refine cZ ?_|refine dH ?_|refine eU ?_|refine bW ?_|refine dF ?_|refine aZ ?_|refine bG ?_|refine cu ?_|refine bD ?_|refine bZ ?_|refine bn ?_|refine bC ?_)|((with_reducible refine bF ?_ ?_);rfl)|((with_reducible refine bH ?_ ?_);rfl)|((with_reducible refine bJ ?_ ?_);rfl)|(with_reducible (refine bI rfl ?_ ?_);all_goals(intro hb;have hb':=hb;(try simp only[pkC]at hb');try(exfalso;omega)))|(refine rg_ ?_;intro K hK)|((first|((with_reducible refine fZ false ?_ ?_);rfl)|((with_reducible refine fZ true ?_ ?_);rfl));intro K hK)|(refine hq_ ?_;clear hK K)|refine ca_ ?_ ?_|((with_reducible refine jY ?_);first|(refine dn hcl trivial ?_ ?_)|(refine dn f1 trivial (by simp[aP,bP,bM,dL,AC.toD,aA,aj,au,ay,a_,aQ,aH,aU,aS,aW,aN,aY,aX,dQ,dR,aK,aJ,aO,GCell.aG,GCell.aB,GCell.aI,bV,hn,spB,ls];first|done|rfl) ?_)|(refine dn f2 trivial (by simp[aP,bP,bM,dL,AC.toD,aA,aj,au,ay,a_,aQ,aH,aU,aS,aW,aN,aY,aX,dQ,dR,aK,aJ,aO,GCell.aG,GCell.aB,GCell.aI,bV,hn,spB,ls];first|done|rfl) ?_)|(refine dn f3 trivial (by simp[aP,bP,bM,dL,AC.toD,aA,aj,au,ay,a_,aQ,aH,aU,aS,aW,aN,aY,aX,dQ,dR,aK,aJ,aO,GCell.aG,GCell.aB,GCell.aI,bV,hn,spB,ls];first|done|rfl) ?_)|(refine dn f4 trivial (by simp[aP,bP,bM,dL,AC.toD,aA,aj,au,ay,a_,aQ,aH,aU,aS,aW,aN,aY,aX,dQ,dR,aK,aJ,aO,GCell.aG,GCell.aB,GCell.aI,bV,hn,spB,ls];first|done|rfl) ?_)|(refine dn hJ trivial ?_ ?_))|((with_reducible refine nO ?_);first|(refine bT hcl trivial ?_ ?_)|(refine bT f1 trivial (by simp[aP,bP,bM,dL,AC.toD,aA,aj,au,ay,a_,aQ,aH,aU,aS,aW,aN,aY,aX,dQ,dR,aK,aJ,aO,GCell.aG,GCell.aB,GCell.aI,bV,hn,spB,ls];first|done|rfl) ?_)|(refine bT f2 trivial (by simp[aP,bP,bM,dL,AC.toD,aA,aj,au,ay,a_,aQ,aH,aU,aS,aW,aN,aY,aX,dQ,dR,aK,aJ,aO,GCell.aG,GCell.aB,GCell.aI,bV,hn,spB,ls];first|done|rfl) ?_)|(refine bT f3 trivial (by simp[aP,bP,bM,dL,AC.toD,aA,aj,au,ay,a_,aQ,aH,aU,aS,aW,aN,aY,aX,dQ,dR,aK,aJ,aO,GCell.aG,GCell.aB,GCell.aI,bV,hn,spB,ls];first|done|rfl) ?_)|(refine bT f4 trivial (by simp[aP,bP,bM,dL,AC.toD,aA,aj,au,ay,a_,aQ,aH,aU,aS,aW,aN,aY,aX,dQ,dR,aK,aJ,aO,GCell.aG,GCell.aB,GCell.aI,bV,hn,spB,ls];first|done|rfl) ?_)|(refine bT hJ trivial ?_ ?_))|((with_reducible refine eF ?_);simp(disch:=first|decide|omega) only[↓pkS,pkW,pkA,undef,c_,d_,i_,dw,fG,lvD,fK,lcD,lvK,lcK,dh,dB,dA,ex,St.put,St.ev,kav,gdA,opI,dZ,fJ,dV,fF,fM,AV.toD,AC.toD,AV.nw,AC.nw,AC.one,a_,aA,aj,au,ay,bf,aV,if_true,if_false,b_,dW,D.one,D.ones,D.sz,D.szs,g_,h_,e_,f_,reduceIte,pkN,aK,aJ,aO,GCell.aG,GCell.aB,GCell.aI,bV,hn,spB,ls])|((with_reducible refine pF ?_);simp(disch:=first|decide|omega) only[↓pkR,pkD,pkA,undef,c_,d_,i_,dw,fG,lvD,fK,lcD,lvK,lcK,dh,dB,dA,ex,St.put,St.ev,kav,gdA,opI,dZ,fJ,dV,fF,fM,AV.toD,AC.toD,AV.nw,AC.nw,AC.one,a_,aA,aj,au,ay,bf,aV,if_true,if_false,b_,dW,D.one,D.ones,D.sz,D.szs,g_,h_,e_,f_,reduceIte,pkN,aK,aJ,aO,GCell.aG,GCell.aB,GCell.aI,bV,hn,spB,ls])|(first|(with_reducible rfl)|(with_reducible refine dD ?_;kernel_rfl)|exact aC _|exact aF _|exact el_ln _|exact el_tk _ _|exact el_td _ _ _|omega|(simp;done)|(simp;omega))|((with_reducible refine dI ?_);simp[aP,bP,bM,dL,AC.toD,aA,aj,au,ay,a_,aQ,aH,aU,aS,aW,aN,aY,aX,dQ,dR,aK,aJ,aO,GCell.aG,GCell.aB,GCell.aI,bV,hn,spB,ls];first|done|rfl))
     exact dS ⟨_,rfl,by rw[hres];rfl,trivial⟩
theorem kS{a b:ByteArray}(h:a.size+b.size≤9223372036854775807):(((a.size+b.size:Nat):Int) > IntKind.i64.max)=False:=by
 have e3:IntKind.i64.max=9223372036854775807:=by decide
 rw[e3];simp;omega
theorem kR{a b:ByteArray}(h:a.size+b.size≤9223372036854775807):(9223372036854775807<(((a.size:Nat):Int)+((b.size:Nat):Int)))=False:=by
 simp;omega
def DW :IC:=(zd_ [zz_ 1 (.box (.t 0)),zz_ 2 (.mov (.k (.string ⟨#[]⟩)))] (.seq (zd_ [zr_ 4 6 1,zq_ 5 60 4,zz_ 6 (.not (.t 5))] (.cond (.t 6) (zd_ [zz_ 2 (.mov (.k (.string ⟨#[]⟩)))] .ret) .skip)) (zd_ [zt_ 7 3 1,zs_ 8 1 7,zw_ 3 8] (.seq (zd_ [zw_ 9 3,zz_ 10 (.bin .eql (.t 9) (.k (.string ⟨#[]⟩)))] (.cond (.t 10) (.reg false [zz_ 3 (.mov (.k (.string ⟨#[45]⟩)))]) .skip)) (.seq (.regN true false [] [zt_ 11 0 1,zs_ 12 1 11,zq_ 13 61 12,zz_ 14 (.bin .add (.t 13) (.k (.string ⟨#[32]⟩))),zt_ 15 1 1,zs_ 16 1 15,zq_ 17 61 16,zl_ 18 .add 14 17,zz_ 19 (.bin .add (.t 18) (.k (.string ⟨#[32]⟩))),zt_ 20 2 1,zs_ 21 1 20,zq_ 22 61 21,zl_ 23 .add 19 22,zz_ 24 (.bin .add (.t 23) (.k (.string ⟨#[32]⟩))),zt_ 25 5 1,zs_ 26 1 25,zq_ 27 61 26,zl_ 28 .add 24 27,zz_ 29 (.bin .add (.t 28) (.k (.string ⟨#[32]⟩))),zw_ 30 3,zl_ 31 .add 29 30,zz_ 32 (.bin .add (.t 31) (.k (.string ⟨#[32]⟩))),zt_ 33 4 1,zs_ 34 1 33,zl_ 35 .add 32 34,zw_ 2 35]) .ret)))))
theorem FC :bg Tryz.prog (Tryz.f22.body.getD .skip)=some DW:=by kernel_rfl
theorem jc(x:GCell)(hw:x.toD.wf)(hc:x.code.size≤1048576)(hm:x.name.size≤1048576):dK Tryz.prog 22 [x.toD] (.c false [.raw (.string (eu x))]):=by
 refine gW (fn:=Tryz.f22) (t:=2) (hc:=FC) (h:= ?_);unfold DW;refine zb_ ?_;change AWP _ _ _ (st0 36 _);simp only[undef,stS,st0,stN,D.av,D.avN,aW,aN,aY,aX,aO,iL,aK,aJ,GCell.aG,GCell.aB,GCell.aI,u_,w_,x_,p_,v_,m_,o_,g_,h_];have hcl:=xg x hw;cases hv:fQ x with
 | false=>
   rw[hv]at hcl
   repeat' (first|(with_reducible first|refine dG ?_|refine bK ?_|refine cO ?_|refine cZ ?_|refine dH ?_|refine eU ?_|refine bW ?_|refine dF ?_|refine aZ ?_|refine bG ?_|refine cu ?_|refine bD ?_|refine bZ ?_|refine bn ?_|refine bC ?_)|((with_reducible refine bF ?_ ?_);rfl)|((with_reducible refine bH ?_ ?_);rfl)|((with_reducible refine bJ ?_ ?_);rfl)|(with_reducible (refine bI rfl ?_ ?_);all_goals(intro hb;have hb':=hb;(try simp only[pkC]at hb');try(exfalso;omega)))|(refine rg_ ?_;intro K hK)|((first|((with_reducible refine fZ false ?_ ?_);rfl)|((with_reducible refine fZ true ?_ ?_);rfl));intro K hK)|(refine hq_ ?_;clear hK K)|refine ca_ ?_ ?_|(refine cg_ ?_;first|refine cT_ hcl ?_)|((with_reducible refine eF ?_);simp(disch:=first|decide|omega) only[↓pkS,pkW,pkA,undef,c_,d_,i_,dw,fG,lvD,fK,lcD,lvK,lcK,dh,dB,dA,ex,St.put,St.ev,kav,gdA,opI,dZ,fJ,dV,fF,fM,AV.toD,AC.toD,AV.nw,AC.nw,AC.one,a_,aA,aj,au,ay,bf,aV,if_true,if_false,b_,dW,D.one,D.ones,D.sz,D.szs,g_,h_,e_,f_,reduceIte,pkN,aK,aJ,aO,GCell.aG,GCell.aB,GCell.aI,bV])|((with_reducible refine pF ?_);simp(disch:=first|decide|omega) only[↓pkR,pkD,pkA,undef,c_,d_,i_,dw,fG,lvD,fK,lcD,lvK,lcK,dh,dB,dA,ex,St.put,St.ev,kav,gdA,opI,dZ,fJ,dV,fF,fM,AV.toD,AC.toD,AV.nw,AC.nw,AC.one,a_,aA,aj,au,ay,bf,aV,if_true,if_false,b_,dW,D.one,D.ones,D.sz,D.szs,g_,h_,e_,f_,reduceIte,pkN,aK,aJ,aO,GCell.aG,GCell.aB,GCell.aI,bV])|(first|(with_reducible rfl)|(with_reducible refine dD ?_;kernel_rfl)|exact aC _|exact aF _|exact el_ln _|exact el_tk _ _|exact el_td _ _ _|omega|(simp;done)|(simp;omega))|((with_reducible refine dI ?_);simp[aP,bP,bM,dL,AC.toD,aA,aj,au,ay,a_,aQ,aH,aU,aS,aW,aN,aY,aX,dQ,dR,aK,aJ,aO,GCell.aG,GCell.aB,GCell.aI,bV];first|done|rfl))
   exact dS ⟨_,rfl,by unfold eu;rw[hv];rfl,trivial⟩
 | true=>
   rw[hv]at hcl;obtain⟨h1,h2,h3,h4⟩:=su hv;have hb:=yV hv hc hm;have f1:=kN (n:=x.id) (by omega) (by omega);have f2:=kN (n:=x.ver) (by omega) (by omega);have f3:=kN (n:=x.kind) (by omega) (by omega);have f4:=kN (n:=x.n) (by omega) (by omega);have e1:=jJ (n:=x.id) (by omega) (by omega);have e2:=jJ (n:=x.ver) (by omega) (by omega);have e3:=jJ (n:=x.kind) (by omega) (by omega);have e4:=jJ (n:=x.n) (by omega) (by omega);have e5:spB.size=1:=rfl;have e6:(⟨#[45]⟩:ByteArray).size=1:=rfl;clear hb;have hres:eu x=jA (l7 x) spB:=by unfold eu;rw[if_pos hv]
   cases hn:(x.name.toList==(⟨#[]⟩:ByteArray).toList)with
   | true=>
     have hnm:jX x.name=⟨#[45]⟩:=by unfold jX;rw[if_pos hn]
     rw[XW,hnm]at hres;have q0:=kS (a:=dM x.id) (b:=spB) (by first|omega|(simp only[ByteArray.size_append];omega));have r0:=kR (a:=dM x.id) (b:=spB) (by first|omega|(simp only[ByteArray.size_append];omega));have q1:=kS (a:=(dM x.id++spB)) (b:=dM x.ver) (by first|omega|(simp only[ByteArray.size_append];omega));have r1:=kR (a:=(dM x.id++spB)) (b:=dM x.ver) (by first|omega|(simp only[ByteArray.size_append];omega));have q2:=kS (a:=((dM x.id++spB)++dM x.ver)) (b:=spB) (by first|omega|(simp only[ByteArray.size_append];omega));have r2:=kR (a:=((dM x.id++spB)++dM x.ver)) (b:=spB) (by first|omega|(simp only[ByteArray.size_append];omega));have q3:=kS (a:=(((dM x.id++spB)++dM x.ver)++spB)) (b:=dM x.kind) (by first|omega|(simp only[ByteArray.size_append];omega));have r3:=kR (a:=(((dM x.id++spB)++dM x.ver)++spB)) (b:=dM x.kind) (by first|omega|(simp only[ByteArray.size_append];omega));have q4:=kS (a:=((((dM x.id++spB)++dM x.ver)++spB)++dM x.kind)) (b:=spB) (by first|omega|(simp only[ByteArray.size_append];omega));have r4:=kR (a:=((((dM x.id++spB)++dM x.ver)++spB)++dM x.kind)) (b:=spB) (by first|omega|(simp only[ByteArray.size_append];omega));have q5:=kS (a:=(((((dM x.id++spB)++dM x.ver)++spB)++dM x.kind)++spB)) (b:=dM x.n) (by first|omega|(simp only[ByteArray.size_append];omega));have r5:=kR (a:=(((((dM x.id++spB)++dM x.ver)++spB)++dM x.kind)++spB)) (b:=dM x.n) (by first|omega|(simp only[ByteArray.size_append];omega));have q6:=kS (a:=((((((dM x.id++spB)++dM x.ver)++spB)++dM x.kind)++spB)++dM x.n)) (b:=spB) (by first|omega|(simp only[ByteArray.size_append];omega));have r6:=kR (a:=((((((dM x.id++spB)++dM x.ver)++spB)++dM x.kind)++spB)++dM x.n)) (b:=spB) (by first|omega|(simp only[ByteArray.size_append];omega));have q7:=kS (a:=(((((((dM x.id++spB)++dM x.ver)++spB)++dM x.kind)++spB)++dM x.n)++spB)) (b:=(⟨#[45]⟩:ByteArray)) (by first|omega|(simp only[ByteArray.size_append];omega));have r7:=kR (a:=(((((((dM x.id++spB)++dM x.ver)++spB)++dM x.kind)++spB)++dM x.n)++spB)) (b:=(⟨#[45]⟩:ByteArray)) (by first|omega|(simp only[ByteArray.size_append];omega));have q8:=kS (a:=((((((((dM x.id++spB)++dM x.ver)++spB)++dM x.kind)++spB)++dM x.n)++spB)++(⟨#[45]⟩:ByteArray))) (b:=spB) (by first|omega|(simp only[ByteArray.size_append];omega));have r8:=kR (a:=((((((((dM x.id++spB)++dM x.ver)++spB)++dM x.kind)++spB)++dM x.n)++spB)++(⟨#[45]⟩:ByteArray))) (b:=spB) (by first|omega|(simp only[ByteArray.size_append];omega));have q9:=kS (a:=(((((((((dM x.id++spB)++dM x.ver)++spB)++dM x.kind)++spB)++dM x.n)++spB)++(⟨#[45]⟩:ByteArray))++spB)) (b:=x.code) (by first|omega|(simp only[ByteArray.size_append];omega));have r9:=kR (a:=(((((((((dM x.id++spB)++dM x.ver)++spB)++dM x.kind)++spB)++dM x.n)++spB)++(⟨#[45]⟩:ByteArray))++spB)) (b:=x.code) (by first|omega|(simp only[ByteArray.size_append];omega));simp only[spB]at q0 r0 q1 r1 q2 r2 q3 r3 q4 r4 q5 r5 q6 r6 q7 r7 q8 r8 q9 r9
     repeat' (first|(with_reducible first|refine dG ?_|refine bK ?_|refine cO ?_|refine cZ ?_|refine dH ?_|refine eU ?_|refine bW ?_|refine dF ?_|refine aZ ?_|refine bG ?_|refine cu ?_|refine bD ?_|refine bZ ?_|refine bn ?_|refine bC ?_)|((with_reducible refine bF ?_ ?_);rfl)|((with_reducible refine bH ?_ ?_);rfl)|((with_reducible refine bJ ?_ ?_);rfl)|(with_reducible (refine bI rfl ?_ ?_);all_goals(intro hb;have hb':=hb;(try simp only[pkC]at hb');try(exfalso;omega)))|(refine rg_ ?_;intro K hK)|((first|((with_reducible refine fZ false ?_ ?_);rfl)|((with_reducible refine fZ true ?_ ?_);rfl));intro K hK)|(refine hq_ ?_;clear hK K)|refine ca_ ?_ ?_|((with_reducible refine jY ?_);first|(refine dn hcl trivial ?_ ?_)|(refine dn f1 trivial (by simp[aP,bP,bM,dL,AC.toD,aA,aj,au,ay,a_,aQ,aH,aU,aS,aW,aN,aY,aX,dQ,dR,aK,aJ,aO,GCell.aG,GCell.aB,GCell.aI,bV,hn,q0,r0,q1,r1,q2,r2,q3,r3,q4,r4,q5,r5,q6,r6,q7,r7,q8,r8,q9,r9];first|done|rfl) ?_)|(refine dn f2 trivial (by simp[aP,bP,bM,dL,AC.toD,aA,aj,au,ay,a_,aQ,aH,aU,aS,aW,aN,aY,aX,dQ,dR,aK,aJ,aO,GCell.aG,GCell.aB,GCell.aI,bV,hn,q0,r0,q1,r1,q2,r2,q3,r3,q4,r4,q5,r5,q6,r6,q7,r7,q8,r8,q9,r9];first|done|rfl) ?_)|(refine dn f3 trivial (by simp[aP,bP,bM,dL,AC.toD,aA,aj,au,ay,a_,aQ,aH,aU,aS,aW,aN,aY,aX,dQ,dR,aK,aJ,aO,GCell.aG,GCell.aB,GCell.aI,bV,hn,q0,r0,q1,r1,q2,r2,q3,r3,q4,r4,q5,r5,q6,r6,q7,r7,q8,r8,q9,r9];first|done|rfl) ?_)|(refine dn f4 trivial (by simp[aP,bP,bM,dL,AC.toD,aA,aj,au,ay,a_,aQ,aH,aU,aS,aW,aN,aY,aX,dQ,dR,aK,aJ,aO,GCell.aG,GCell.aB,GCell.aI,bV,hn,q0,r0,q1,r1,q2,r2,q3,r3,q4,r4,q5,r5,q6,r6,q7,r7,q8,r8,q9,r9];first|done|rfl) ?_))|((with_reducible refine nO ?_);first|(refine bT hcl trivial ?_ ?_)|(refine bT f1 trivial (by simp[aP,bP,bM,dL,AC.toD,aA,aj,au,ay,a_,aQ,aH,aU,aS,aW,aN,aY,aX,dQ,dR,aK,aJ,aO,GCell.aG,GCell.aB,GCell.aI,bV,hn,q0,r0,q1,r1,q2,r2,q3,r3,q4,r4,q5,r5,q6,r6,q7,r7,q8,r8,q9,r9];first|done|rfl) ?_)|(refine bT f2 trivial (by simp[aP,bP,bM,dL,AC.toD,aA,aj,au,ay,a_,aQ,aH,aU,aS,aW,aN,aY,aX,dQ,dR,aK,aJ,aO,GCell.aG,GCell.aB,GCell.aI,bV,hn,q0,r0,q1,r1,q2,r2,q3,r3,q4,r4,q5,r5,q6,r6,q7,r7,q8,r8,q9,r9];first|done|rfl) ?_)|(refine bT f3 trivial (by simp[aP,bP,bM,dL,AC.toD,aA,aj,au,ay,a_,aQ,aH,aU,aS,aW,aN,aY,aX,dQ,dR,aK,aJ,aO,GCell.aG,GCell.aB,GCell.aI,bV,hn,q0,r0,q1,r1,q2,r2,q3,r3,q4,r4,q5,r5,q6,r6,q7,r7,q8,r8,q9,r9];first|done|rfl) ?_)|(refine bT f4 trivial (by simp[aP,bP,bM,dL,AC.toD,aA,aj,au,ay,a_,aQ,aH,aU,aS,aW,aN,aY,aX,dQ,dR,aK,aJ,aO,GCell.aG,GCell.aB,GCell.aI,bV,hn,q0,r0,q1,r1,q2,r2,q3,r3,q4,r4,q5,r5,q6,r6,q7,r7,q8,r8,q9,r9];first|done|rfl) ?_))|((with_reducible refine eF ?_);simp(disch:=first|decide|omega) only[↓pkS,pkW,pkA,undef,c_,d_,i_,dw,fG,lvD,fK,lcD,lvK,lcK,dh,dB,dA,ex,St.put,St.ev,kav,gdA,opI,dZ,fJ,dV,fF,fM,AV.toD,AC.toD,AV.nw,AC.nw,AC.one,a_,aA,aj,au,ay,bf,aV,if_true,if_false,b_,dW,D.one,D.ones,D.sz,D.szs,g_,h_,e_,f_,reduceIte,pkN,aK,aJ,aO,GCell.aG,GCell.aB,GCell.aI,bV,hn,q0,r0,q1,r1,q2,r2,q3,r3,q4,r4,q5,r5,q6,r6,q7,r7,q8,r8,q9,r9])|((with_reducible refine pF ?_);simp(disch:=first|decide|omega) only[↓pkR,pkD,pkA,undef,c_,d_,i_,dw,fG,lvD,fK,lcD,lvK,lcK,dh,dB,dA,ex,St.put,St.ev,kav,gdA,opI,dZ,fJ,dV,fF,fM,AV.toD,AC.toD,AV.nw,AC.nw,AC.one,a_,aA,aj,au,ay,bf,aV,if_true,if_false,b_,dW,D.one,D.ones,D.sz,D.szs,g_,h_,e_,f_,reduceIte,pkN,aK,aJ,aO,GCell.aG,GCell.aB,GCell.aI,bV,hn,q0,r0,q1,r1,q2,r2,q3,r3,q4,r4,q5,r5,q6,r6,q7,r7,q8,r8,q9,r9])|(first|(with_reducible rfl)|(with_reducible refine dD ?_;kernel_rfl)|exact aC _|exact aF _|exact el_ln _|exact el_tk _ _|exact el_td _ _ _|omega|(simp;done)|(simp;omega))|((with_reducible refine dI ?_);simp[aP,bP,bM,dL,AC.toD,aA,aj,au,ay,a_,aQ,aH,aU,aS,aW,aN,aY,aX,dQ,dR,aK,aJ,aO,GCell.aG,GCell.aB,GCell.aI,bV,hn,q0,r0,q1,r1,q2,r2,q3,r3,q4,r4,q5,r5,q6,r6,q7,r7,q8,r8,q9,r9];first|done|rfl))
     exact dS ⟨_,rfl,by rw[hres];rfl,trivial⟩
   | false=>
     have hnm:jX x.name=x.name:=by unfold jX;rw[if_neg (by rw[hn];decide)]
     rw[XW,hnm]at hres;have q0:=kS (a:=dM x.id) (b:=spB) (by first|omega|(simp only[ByteArray.size_append];omega));have r0:=kR (a:=dM x.id) (b:=spB) (by first|omega|(simp only[ByteArray.size_append];omega));have q1:=kS (a:=(dM x.id++spB)) (b:=dM x.ver) (by first|omega|(simp only[ByteArray.size_append];omega));have r1:=kR (a:=(dM x.id++spB)) (b:=dM x.ver) (by first|omega|(simp only[ByteArray.size_append];omega));have q2:=kS (a:=((dM x.id++spB)++dM x.ver)) (b:=spB) (by first|omega|(simp only[ByteArray.size_append];omega));have r2:=kR (a:=((dM x.id++spB)++dM x.ver)) (b:=spB) (by first|omega|(simp only[ByteArray.size_append];omega));have q3:=kS (a:=(((dM x.id++spB)++dM x.ver)++spB)) (b:=dM x.kind) (by first|omega|(simp only[ByteArray.size_append];omega));have r3:=kR (a:=(((dM x.id++spB)++dM x.ver)++spB)) (b:=dM x.kind) (by first|omega|(simp only[ByteArray.size_append];omega));have q4:=kS (a:=((((dM x.id++spB)++dM x.ver)++spB)++dM x.kind)) (b:=spB) (by first|omega|(simp only[ByteArray.size_append];omega));have r4:=kR (a:=((((dM x.id++spB)++dM x.ver)++spB)++dM x.kind)) (b:=spB) (by first|omega|(simp only[ByteArray.size_append];omega));have q5:=kS (a:=(((((dM x.id++spB)++dM x.ver)++spB)++dM x.kind)++spB)) (b:=dM x.n) (by first|omega|(simp only[ByteArray.size_append];omega));have r5:=kR (a:=(((((dM x.id++spB)++dM x.ver)++spB)++dM x.kind)++spB)) (b:=dM x.n) (by first|omega|(simp only[ByteArray.size_append];omega));have q6:=kS (a:=((((((dM x.id++spB)++dM x.ver)++spB)++dM x.kind)++spB)++dM x.n)) (b:=spB) (by first|omega|(simp only[ByteArray.size_append];omega));have r6:=kR (a:=((((((dM x.id++spB)++dM x.ver)++spB)++dM x.kind)++spB)++dM x.n)) (b:=spB) (by first|omega|(simp only[ByteArray.size_append];omega));have q7:=kS (a:=(((((((dM x.id++spB)++dM x.ver)++spB)++dM x.kind)++spB)++dM x.n)++spB)) (b:=x.name) (by first|omega|(simp only[ByteArray.size_append];omega));have r7:=kR (a:=(((((((dM x.id++spB)++dM x.ver)++spB)++dM x.kind)++spB)++dM x.n)++spB)) (b:=x.name) (by first|omega|(simp only[ByteArray.size_append];omega));have q8:=kS (a:=((((((((dM x.id++spB)++dM x.ver)++spB)++dM x.kind)++spB)++dM x.n)++spB)++x.name)) (b:=spB) (by first|omega|(simp only[ByteArray.size_append];omega));have r8:=kR (a:=((((((((dM x.id++spB)++dM x.ver)++spB)++dM x.kind)++spB)++dM x.n)++spB)++x.name)) (b:=spB) (by first|omega|(simp only[ByteArray.size_append];omega));have q9:=kS (a:=(((((((((dM x.id++spB)++dM x.ver)++spB)++dM x.kind)++spB)++dM x.n)++spB)++x.name)++spB)) (b:=x.code) (by first|omega|(simp only[ByteArray.size_append];omega));have r9:=kR (a:=(((((((((dM x.id++spB)++dM x.ver)++spB)++dM x.kind)++spB)++dM x.n)++spB)++x.name)++spB)) (b:=x.code) (by first|omega|(simp only[ByteArray.size_append];omega));simp only[spB]at q0 r0 q1 r1 q2 r2 q3 r3 q4 r4 q5 r5 q6 r6 q7 r7 q8 r8 q9 r9
     repeat' (first|(with_reducible first|refine dG ?_|refine bK ?_|refine cO ?_|refine cZ ?_|refine dH ?_|refine eU ?_|refine bW ?_|refine dF ?_|refine aZ ?_|refine bG ?_|refine cu ?_|refine bD ?_|refine bZ ?_|refine bn ?_|refine bC ?_)|((with_reducible refine bF ?_ ?_);rfl)|((with_reducible refine bH ?_ ?_);rfl)|((with_reducible refine bJ ?_ ?_);rfl)|(with_reducible (refine bI rfl ?_ ?_);all_goals(intro hb;have hb':=hb;(try simp only[pkC]at hb');try(exfalso;omega)))|(refine rg_ ?_;intro K hK)|((first|((with_reducible refine fZ false ?_ ?_);rfl)|((with_reducible refine fZ true ?_ ?_);rfl));intro K hK)|(refine hq_ ?_;clear hK K)|refine ca_ ?_ ?_|((with_reducible refine jY ?_);first|(refine dn hcl trivial ?_ ?_)|(refine dn f1 trivial (by simp[aP,bP,bM,dL,AC.toD,aA,aj,au,ay,a_,aQ,aH,aU,aS,aW,aN,aY,aX,dQ,dR,aK,aJ,aO,GCell.aG,GCell.aB,GCell.aI,bV,hn,q0,r0,q1,r1,q2,r2,q3,r3,q4,r4,q5,r5,q6,r6,q7,r7,q8,r8,q9,r9];first|done|rfl) ?_)|(refine dn f2 trivial (by simp[aP,bP,bM,dL,AC.toD,aA,aj,au,ay,a_,aQ,aH,aU,aS,aW,aN,aY,aX,dQ,dR,aK,aJ,aO,GCell.aG,GCell.aB,GCell.aI,bV,hn,q0,r0,q1,r1,q2,r2,q3,r3,q4,r4,q5,r5,q6,r6,q7,r7,q8,r8,q9,r9];first|done|rfl) ?_)|(refine dn f3 trivial (by simp[aP,bP,bM,dL,AC.toD,aA,aj,au,ay,a_,aQ,aH,aU,aS,aW,aN,aY,aX,dQ,dR,aK,aJ,aO,GCell.aG,GCell.aB,GCell.aI,bV,hn,q0,r0,q1,r1,q2,r2,q3,r3,q4,r4,q5,r5,q6,r6,q7,r7,q8,r8,q9,r9];first|done|rfl) ?_)|(refine dn f4 trivial (by simp[aP,bP,bM,dL,AC.toD,aA,aj,au,ay,a_,aQ,aH,aU,aS,aW,aN,aY,aX,dQ,dR,aK,aJ,aO,GCell.aG,GCell.aB,GCell.aI,bV,hn,q0,r0,q1,r1,q2,r2,q3,r3,q4,r4,q5,r5,q6,r6,q7,r7,q8,r8,q9,r9];first|done|rfl) ?_))|((with_reducible refine nO ?_);first|(refine bT hcl trivial ?_ ?_)|(refine bT f1 trivial (by simp[aP,bP,bM,dL,AC.toD,aA,aj,au,ay,a_,aQ,aH,aU,aS,aW,aN,aY,aX,dQ,dR,aK,aJ,aO,GCell.aG,GCell.aB,GCell.aI,bV,hn,q0,r0,q1,r1,q2,r2,q3,r3,q4,r4,q5,r5,q6,r6,q7,r7,q8,r8,q9,r9];first|done|rfl) ?_)|(refine bT f2 trivial (by simp[aP,bP,bM,dL,AC.toD,aA,aj,au,ay,a_,aQ,aH,aU,aS,aW,aN,aY,aX,dQ,dR,aK,aJ,aO,GCell.aG,GCell.aB,GCell.aI,bV,hn,q0,r0,q1,r1,q2,r2,q3,r3,q4,r4,q5,r5,q6,r6,q7,r7,q8,r8,q9,r9];first|done|rfl) ?_)|(refine bT f3 trivial (by simp[aP,bP,bM,dL,AC.toD,aA,aj,au,ay,a_,aQ,aH,aU,aS,aW,aN,aY,aX,dQ,dR,aK,aJ,aO,GCell.aG,GCell.aB,GCell.aI,bV,hn,q0,r0,q1,r1,q2,r2,q3,r3,q4,r4,q5,r5,q6,r6,q7,r7,q8,r8,q9,r9];first|done|rfl) ?_)|(refine bT f4 trivial (by simp[aP,bP,bM,dL,AC.toD,aA,aj,au,ay,a_,aQ,aH,aU,aS,aW,aN,aY,aX,dQ,dR,aK,aJ,aO,GCell.aG,GCell.aB,GCell.aI,bV,hn,q0,r0,q1,r1,q2,r2,q3,r3,q4,r4,q5,r5,q6,r6,q7,r7,q8,r8,q9,r9];first|done|rfl) ?_))|((with_reducible refine eF ?_);simp(disch:=first|decide|omega) only[↓pkS,pkW,pkA,undef,c_,d_,i_,dw,fG,lvD,fK,lcD,lvK,lcK,dh,dB,dA,ex,St.put,St.ev,kav,gdA,opI,dZ,fJ,dV,fF,fM,AV.toD,AC.toD,AV.nw,AC.nw,AC.one,a_,aA,aj,au,ay,bf,aV,if_true,if_false,b_,dW,D.one,D.ones,D.sz,D.szs,g_,h_,e_,f_,reduceIte,pkN,aK,aJ,aO,GCell.aG,GCell.aB,GCell.aI,bV,hn,q0,r0,q1,r1,q2,r2,q3,r3,q4,r4,q5,r5,q6,r6,q7,r7,q8,r8,q9,r9])|((with_reducible refine pF ?_);simp(disch:=first|decide|omega) only[↓pkR,pkD,pkA,undef,c_,d_,i_,dw,fG,lvD,fK,lcD,lvK,lcK,dh,dB,dA,ex,St.put,St.ev,kav,gdA,opI,dZ,fJ,dV,fF,fM,AV.toD,AC.toD,AV.nw,AC.nw,AC.one,a_,aA,aj,au,ay,bf,aV,if_true,if_false,b_,dW,D.one,D.ones,D.sz,D.szs,g_,h_,e_,f_,reduceIte,pkN,aK,aJ,aO,GCell.aG,GCell.aB,GCell.aI,bV,hn,q0,r0,q1,r1,q2,r2,q3,r3,q4,r4,q5,r5,q6,r6,q7,r7,q8,r8,q9,r9])|(first|(with_reducible rfl)|(with_reducible refine dD ?_;kernel_rfl)|exact aC _|exact aF _|exact el_ln _|exact el_tk _ _|exact el_td _ _ _|omega|(simp;done)|(simp;omega))|((with_reducible refine dI ?_);simp[aP,bP,bM,dL,AC.toD,aA,aj,au,ay,a_,aQ,aH,aU,aS,aW,aN,aY,aX,dQ,dR,aK,aJ,aO,GCell.aG,GCell.aB,GCell.aI,bV,hn,q0,r0,q1,r1,q2,r2,q3,r3,q4,r4,q5,r5,q6,r6,q7,r7,q8,r8,q9,r9];first|done|rfl))
     exact dS ⟨_,rfl,by rw[hres];rfl,trivial⟩
theorem wI(x y:List UInt8)(r:List (List UInt8))(sep:List UInt8):t_ (x::y::r) sep=x++(sep++t_ (y::r) sep):=by
 simp[t_,y_,J_]
theorem F9(sep x:List UInt8):∀(xs:List (List UInt8)),t_ (xs++ [x]) sep=t_ xs sep++((if 0<xs.length then sep else [])++x)
 | []=>by simp[t_,y_]
 | [y]=>by simp[t_,y_,J_]
 | y::z::r=>by
   have ih:=F9 sep x (z::r);simp only[p_]at ih⊢;rw[wI,wI,ih];simp
theorem Df(l:List ByteArray)(b:ByteArray):∀k,k≤l.length→lT l b k=t_ ((l.take k).map (·.data.toList)) b.data.toList
 |0,_=>by simp[lT,t_,y_]
 | k+1,h=>by
   rw[List.take_succ_eq_append_getElem (by omega),List.map_append,u_,w_,F9,← Df l b k (by omega),lT];simp[C_,show k<l.length by omega,Nat.min_eq_left (show k≤l.length by omega)]
theorem Dh(l:List ByteArray)(b:ByteArray):jA l b=⟨(t_ (l.map (·.data.toList)) b.data.toList).toArray⟩:=by
 unfold jA;rw[Df l b l.length (r_ _),List.take_length]
theorem Nk(l:List ByteArray)(b:ByteArray):(jA l b).size=(lT l b l.length).length:=by simp[jA,ByteArray.size]
end
section
open Value renaming oneCell'→a_
open Bool renaming false_eq_true→b_,and_eq_true→n_
open List renaming flatMap_cons→c_,flatMap_nil→d_,append_nil→i_,length_append→k_,length_cons→m_,length_nil→o_,cons_append→p_,map_cons→u_,nil_append→v_,map_nil→w_,replicate→x_,intercalate→y_,length_map→z_,getD_eq_getElem?_getD→C_,drop_drop→E_,take_succ_cons→G_,mem_singleton→I_,intersperse→J_,length→P_,getD→S_
open Nat renaming reduceLeDiff→e_,reduceEqDiff→f_,reduceAdd→g_,reduceSub→h_,le_refl→r_,pow_le_pow_right→F_,strongRecOn→L_,pow_succ→N_
open Lib renaming decDigits→j_,decDigits_one→l_,occAt→q_,itoa→s_,join→t_,atoiAll→B_,parseUint10→D_,itoa_length_le→H_,splitB→M_,parseMag→O_,countB→Q_,indexB→R_,index→T_
open UInt8 renaming ofNat→A_
theorem G7{d:Nat}(h:d<10):(A_ (48+d)).toNat=48+d:=by
 simp[UInt8.toNat_ofNat'];omega
def Y3(a:Nat)(c:UInt8):Nat:=a*10+(c.toNat - 48)
def iI(acc:Nat)(l:List UInt8):Nat:=l.foldl Y3 acc
theorem mW(acc:Nat):iI acc []=acc:=rfl
theorem jq(acc:Nat)(c:UInt8)(r:List UInt8):iI acc (c::r)=iI (acc*10+(c.toNat - 48)) r:=by
 unfold iI;rw[List.foldl_cons];rfl
theorem vS(r l:List UInt8)(acc:Nat):iI acc (l++r)=iI (iI acc l) r:=by
 unfold iI;rw[List.foldl_append]
theorem Ej(u:Nat):iI 0 (j_ u)=u:=by
 induction u using L_ with
 | ind u ih=>
   by_cases h:u<10
   ·rw[l_ h];rw[jq,mW,G7 h];omega
   ·rw[Em h,vS,ih (u / 10) (by omega)];rw[jq,mW,G7 (show u % 10<10 by omega)];omega
def pR(c:UInt8):Bool:=decide (48≤c.toNat) && decide (c.toNat≤57)
theorem yj(u:Nat):∀c∈j_ u,pR c=true:=by
 induction u using L_ with
 | ind u ih=>
   intro c hc;by_cases h:u<10
   ·rw[l_ h]at hc;simp only[I_]at hc;subst hc;simp only[pR,G7 h,n_,decide_eq_true_eq];omega
   ·rw[Em h]at hc;rcases List.mem_append.1 hc with hc|hc
    ·exact ih (u / 10) (by omega) c hc
    ·simp only[I_]at hc;subst hc;simp only[pR,G7 (show u % 10<10 by omega),n_,decide_eq_true_eq];omega
theorem Vk(u:Nat):j_ u≠[]:=by
 by_cases h:u<10
 ·rw[l_ h];simp
 ·rw[Em h];simp
theorem Yv(m:Nat):∀{u:Nat},u<10 ^ (m+1)→(j_ u).length≤m+1:=by
 induction m with
 | zero=>
   intro u h;rw[l_ (by simpa using h)];simp
 | succ m ih=>
   intro u h;by_cases h1:u<10
   ·rw[l_ h1];simp
   ·rw[Em h1,k_];have:=ih (u:=u / 10) (by rw[N_]at h;omega);simp;omega
theorem Ei :∀(l:List UInt8) (acc k:Nat),(∀c∈l,pR c=true)→acc<10 ^ k→iI acc l<10 ^ (k+l.length)
 | [],acc,k,_,h=>by rw[mW];simpa using h
 | c::l,acc,k,hd,h=>by
   have h1:=hd c (by simp);simp only[pR,n_,decide_eq_true_eq]at h1;rw[jq];have:=Ei l (acc*10+(c.toNat - 48)) (k+1) (fun x hx=>hd x (by simp[hx])) (by rw[N_];omega);rw[m_,show k+(l.length+1)=k+1+l.length by omega];exact this
theorem OC :∀(l:List UInt8) (acc:Nat),(∀c∈l,pR c=true)→iI acc l<18446744073709551616→(∀k,k≤l.length→iI acc (l.take k)≤iI acc l)→D_ acc l= .ok (iI acc l)
 | [],acc,_,_,_=>rfl
 | c::l,acc,hd,hb,hm=>by
   have h1:=hd c (by simp);have hle:=hm 1 (by simp);simp only[pR,n_,decide_eq_true_eq]at h1;rw[G_,List.take_zero,jq,mW,jq]at hle;rw[jq]at hb;rw[D_,if_pos h1,if_neg (by omega),if_neg (by omega),jq];refine OC l _ (fun x hx=>hd x (by simp[hx])) hb fun k hk=> ?_
   have:=hm (k+1) (by simpa using hk);rw[G_,jq,jq]at this;exact this
theorem Eh :∀(l:List UInt8) (acc:Nat),acc≤iI acc l
 | [],_=>r_ _
 | c::l,acc=>by
   rw[jq];exact Nat.le_trans (by omega) (Eh l (acc*10+(c.toNat - 48)))
theorem YT(l:List UInt8)(hd:∀c∈l,pR c=true)(hb:iI 0 l<18446744073709551616):D_ 0 l= .ok (iI 0 l):=
 OC l 0 hd hb fun k hk=>by
  have e:iI 0 l=iI (iI 0 (l.take k)) (l.drop k):=by rw[← vS,List.take_append_drop]
  rw[e];exact Eh _ _
theorem Ul{u:Nat}(h:u<18446744073709551616):O_ (j_ u)= .ok u:=by
 unfold O_;rw[if_neg (Vk u),YT _ (yj u) (by rw[Ej];exact h),Ej]
theorem PW(u:Nat):∃c r,j_ u=c::r∧48≤c.toNat∧c.toNat≤57:=by
 cases h:j_ u with
 |nil=>exact absurd h (Vk u)
 | cons c r=>
   have:=yj u c (by rw[h];simp);simp only[pR,n_,decide_eq_true_eq]at this;exact⟨c,r,rfl,this⟩
theorem xH{n:Int}(h:0≤n):s_ n=j_ n.natAbs:=by
 unfold s_;rw[if_neg (by omega)];have e:n.toNat=n.natAbs:=by omega
 rw[e]
theorem xI{n:Int}(h:n<0):s_ n=45::j_ n.natAbs:=by
 unfold s_;rw[if_pos h]
theorem Ro{n:Int}(h0: -9223372036854775808≤n)(h1:n≤9223372036854775807):B_ (s_ n)= .ok n:=by
 by_cases h:n<0
 ·rw[xI h];have e:(45:UInt8).toNat=45:=rfl;simp only[B_,e,or_true,if_true];rw[Ul (by omega)];simp only[not_true,false_and,if_false,true_and];rw[if_neg (by omega)];congr 1;omega
 ·rw[xH (by omega)];obtain⟨c,r,hc,h2,h3⟩:=PW n.natAbs;have hm:=Ul (u:=n.natAbs) (by omega);rw[hc]at hm⊢;simp only[B_];rw[if_neg (by omega),hm];have e45:¬c.toNat=45:=by omega
  simp only[e45,not_false_iff,true_and,false_and,if_false];rw[if_neg (by omega)];congr 1;omega
theorem pY(n:Int):(dM n).data.toList=s_ n:=by simp[dM]
def rdN(lo hi:Int)(s:ByteArray):Int×Bool:=match B_ s.data.toList with
 | .ok n=>if lo≤n∧n≤hi∧dM n=s then(n,true)else(0,false)
 |_=>(0,false)
theorem ug{lo hi n:Int}{s:ByteArray}(h0: -9223372036854775808≤n)(h1:n≤9223372036854775807)(hl:lo≤n)(hh:n≤hi)(hs:dM n=s):rdN lo hi s=(n,true):=by
 subst hs;unfold rdN;rw[pY,Ro h0 h1];simp only;simp[hl,hh]
theorem uh{lo hi:Int}{s:ByteArray}(h:∀n,lo≤n→n≤hi→dM n≠s):rdN lo hi s=(0,false):=by
 unfold rdN;split
 ·next n _=>rw[if_neg fun hc=>h n hc.1 hc.2.1 hc.2.2]
 ·rfl
theorem yP(lo hi:Int)(s:ByteArray):(∃n,lo≤n∧n≤hi∧dM n=s∧rdN lo hi s=(n,true))∨((∀n,lo≤n→n≤hi→ -9223372036854775808≤n→n≤9223372036854775807→dM n≠s)∧rdN lo hi s=(0,false)):=by
 by_cases h:∃n,lo≤n∧n≤hi∧ -9223372036854775808≤n∧n≤9223372036854775807∧dM n=s
 ·obtain⟨n,h1,h2,h3,h4,h5⟩:=h;exact Or.inl ⟨n,h1,h2,h5,ug h3 h4 h1 h2 h5⟩
 ·refine Or.inr ⟨fun n h1 h2 h3 h4 h5=>h ⟨n,h1,h2,h3,h4,h5⟩, ?_⟩;unfold rdN;split
  ·next n hn=>
   rw[if_neg];rintro⟨a,b,c⟩;have:B_ (s_ n)= .ok n:=by rw[← pY,c];exact hn
   have hbd: -9223372036854775808≤n∧n≤9223372036854775807:=by
    have:=hn;exact Lib.atoiAll_bounds this
   exact h ⟨n,a,b,hbd.1,hbd.2,c⟩
  ·rfl
def Dk(s:ByteArray):Bool:=decide (0<s.size) && (s.data.toList.getD 0 0==45)
def lI(s:ByteArray):List UInt8:=if Dk s then s.data.toList.drop 1 else s.data.toList
def sD(s:ByteArray):Int:=if Dk s then -((iI 0 (lI s):Nat):Int)else((iI 0 (lI s):Nat):Int)
theorem JW(n:Int):Dk (dM n)=decide (n<0):=by
 unfold Dk;rw[pY];by_cases h:n<0
 ·rw[xI h];have:0<(dM n).size:=by
   have:=congrArg P_ (pY n);rw[xI h]at this;simp at this;omega
  simp[this,h]
 ·rw[xH (by omega)];obtain⟨c,r,hc,h2,h3⟩:=PW n.natAbs;rw[hc];have:(c==45)=false:=by
   rw[beq_eq_false_iff_ne];intro e;subst e;have e45:(45:UInt8).toNat=45:=rfl;omega
  simp[h,this]
theorem ED(n:Int):lI (dM n)=j_ n.natAbs:=by
 unfold lI;rw[JW,pY];by_cases h:n<0
 ·rw[if_pos (by simpa using h),xI h];rfl
 ·rw[if_neg (by simpa using h),xH (by omega)]
theorem G6(n:Int):sD (dM n)=n:=by
 unfold sD;rw[ED,Ej,JW];by_cases h:n<0
 ·rw[if_pos (by simpa using h)];omega
 ·rw[if_neg (by simpa using h)];omega
def rdS(m:Nat)(s:ByteArray):Int×Bool:=rdN (-((10 ^ m:Nat):Int)+1) (((10 ^ m:Nat):Int) - 1) s
theorem Bh{m:Nat}{s:ByteArray}(hm:m≤18)(h:(lI s).length<1∨m<(lI s).length)(hm1:1≤m):rdS m s=(0,false):=by
 unfold rdS;refine uh fun n h1 h2 e=> ?_
 subst e;rw[ED]at h;rcases h with h|h
 ·have:=List.length_eq_zero_iff.1 (Nat.lt_one_iff.1 h);exact Vk _ this
 ·obtain⟨k,rfl⟩:∃k,m=k+1:=⟨m - 1,by omega⟩
  have:=Yv k (u:=n.natAbs) (by omega);omega
theorem Bj{m:Nat}{s:ByteArray}{c:UInt8}(hc:c∈lI s)(h:pR c=false):rdS m s=(0,false):=by
 unfold rdS;refine uh fun n h1 h2 e=> ?_
 subst e;rw[ED]at hc;have:=yj _ c hc;rw[h]at this;cases this
theorem Oq{m:Nat}{s:ByteArray}(h:dM (sD s)≠s):rdS m s=(0,false):=by
 unfold rdS;refine uh fun n h1 h2 e=> ?_
 subst e;exact h (by rw[G6])
theorem SK{m:Nat}{s:ByteArray}(hm:m≤18)(hd:∀c∈lI s,pR c=true)(hl:(lI s).length≤m)(h:dM (sD s)=s):rdS m s=(sD s,true):=by
 have hlt:=Ei (lI s) 0 0 hd (by simp);rw[Nat.zero_add]at hlt;have hp:10 ^ (lI s).length≤10 ^ m:=F_ (by decide) hl;have hb:10 ^ m≤10 ^ 18:=F_ (by decide) hm;have e18:(10:Nat) ^ 18=1000000000000000000:=by decide
 rw[e18]at hb;have h3:(sD s).natAbs=iI 0 (lI s):=by unfold sD;split<;>omega
 exact ug (by omega) (by omega) (by omega) (by omega) h
def cut(sep s:ByteArray):List ByteArray:=M_ sep 0 (Q_ s sep) s
theorem x9(s:ByteArray)(a:Nat):(s.extract a s.size).data.toList=s.data.toList.drop a:=by
 rw[Lib.extract_to_end]
theorem Xf(s:ByteArray){a b c:Nat}(h:c≤s.size)(hb:b≤c - a)(ha:a≤c):(s.extract a c).extract b (s.extract a c).size=s.extract (a+b) c:=by
 apply ByteArray.ext;simp;have:min (a+(min c s.size - a)) c=c:=by omega
 rw[this]
theorem UR(s:ByteArray){a b c:Nat}(h:c≤s.size)(hb:b≤c - a)(ha:a≤c):(s.extract a c).extract 0 b=s.extract a (a+b):=by
 apply ByteArray.ext;simp;have:min (a+b) c=a+b:=by omega
 rw[this]
theorem BH(s sep:ByteArray){a i:Nat}(hs:1≤sep.size)(h1:a≤i)(h2:i+sep.size≤s.size)(hn:∀j,a≤j→j<i→q_ s.data.toList sep.data.toList j=false)(ho:q_ s.data.toList sep.data.toList i=true):
 cut sep (s.extract a s.size)=s.extract a i::cut sep (s.extract (i+sep.size) s.size):=by
 have hi:R_ (s.extract a s.size) sep=((i - a:Nat):Int):=by
  show T_ _ _=_;rw[x9];refine Lib.index_first (by simp;omega) ?_ ?_
  ·unfold q_ at ho⊢;rw[E_,show a+(i - a)=i by omega];exact ho
  ·intro j hj;have:=hn (a+j) (by omega) (by omega);unfold q_ at this⊢;rw[E_];exact this
 unfold cut;have e:(s.extract a s.size).extract (i - a+sep.size) (s.extract a s.size).size=s.extract (i+sep.size) s.size:=by
  rw[Xf s (r_ _) (by omega) (by omega),show a+(i - a+sep.size)=i+sep.size by omega]
 rw[Lib.countB_hit _ _ _ hs hi,Nat.add_comm,Lib.splitB_hit _ _ _ _ _ hi,e,Nat.add_zero,UR s (r_ _) (by omega) (by omega),show a+(i - a)=i by omega]
theorem uT(s sep:ByteArray){a:Nat}(hn:∀j,a≤j→j≤s.size→q_ s.data.toList sep.data.toList j=false)(ha:a≤s.size):
 cut sep (s.extract a s.size)= [s.extract a s.size]:=by
 have hi:R_ (s.extract a s.size) sep= -1:=by
  show T_ _ _=_;rw[x9];refine Lib.index_none ?_;intro j hj;have:=hn (a+j) (by omega) (by simp at hj;omega);unfold q_ at this⊢;rw[E_];exact this
 unfold cut;rw[Lib.countB_miss _ _ hi,Lib.splitB_zero]
theorem Ud(s:ByteArray)(c:UInt8){j:Nat}(h:j<s.size):q_ s.data.toList [c] j=(c==s[j]):=by
 unfold q_;have hj:j<s.data.toList.length:=by simpa using h
 rw[List.drop_eq_getElem_cons hj];simp[List.isPrefixOf];rfl
theorem JF(s:ByteArray)(c:UInt8){j:Nat}(h:s.size≤j):q_ s.data.toList [c] j=false:=by
 unfold q_;rw[List.drop_eq_nil_of_le (by simpa using h)];rfl
theorem wO(sep s:ByteArray):cut sep s≠[]:=by
 unfold cut;cases Q_ s sep with
 |zero=>simp[M_]
 | succ k=>
   unfold M_;split<;>simp
theorem oK(s:ByteArray):s.extract 0 s.size=s:=by
 apply ByteArray.ext;simp
end
end Go.Proofs.YtfengkmaphbofaaGreatDoor
