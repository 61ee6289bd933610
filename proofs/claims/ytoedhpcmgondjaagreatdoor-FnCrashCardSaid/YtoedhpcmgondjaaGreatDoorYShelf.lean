import Derived.Shelf.Strings.Builder1
import Derived.Shelf.Small.Bits
import Derived.Shelf.Small.Strs
import Derived.Shelf.Strings.BuilderF
import Derived.Shelf.Strings.BuilderK
import Derived.Shelf.Strconv.Atoi
import Derived.Shelf.Strconv.Itoa0
import Derived.Shelf.Strconv.Itoa1
import Derived.Shelf.LaysM
import Derived.Shelf.Strconv.Itoa2
import Derived.Shelf.Strconv.Itoa3
import Derived.Shelf.Strconv.AtoiErrFast
import Derived.Shelf.Strconv.ParseIntEmpty
import Derived.Shelf.Strconv.AtoiFail
import Derived.Shelf.Strconv.Clone
import Derived.Shelf.Strconv.SyntaxError
import Derived.Shelf.LaysC
import Derived.Shelf.Strconv.ToError
import Derived.Shelf.Strconv.Lower
import Derived.Shelf.Strconv.ParseUint10
import Derived.Shelf.Strconv.ParseUint10Empty
import Derived.Shelf.Strconv.ParseUint10Any
import Derived.Shelf.Strconv.ParseInt10
import Derived.Shelf.Strconv.AtoiLong
import Derived.Shelf.Strconv.AtoiInnerAll
import Derived.Shelf.Strconv.RangeError
import Derived.Shelf.Strconv.ToErrorRange
import Derived.Shelf.Strconv.AtoiAll
import Derived.Shelf.Strconv.ErrVarAll
import Derived.Shelf.Strings.Search1
import Derived.Shelf.Strings.Search2
import Derived.Shelf.Strings.Search3
import Derived.Shelf.Strings.Count
import Derived.Shelf.Strings.Shaped
import Derived.Shelf.Strings.Split
import Derived.Shelf.Strings.SplitShaped
import Derived.Shelf.Unicode.DecodeSlow
import Derived.Test.YtoedhpcmgondjaaGreatDoorProg
set_option linter.all false
namespace Go.Proofs
open Go.Shelf Go.Proofs.Tryz
def Tryz.lays169_ren :Go.Shelf.Ren:=⟨fun|169=>97|n=>n,fun|70=>126|9=>9|0=>0|72=>128|37=>22|127=>159|3=>3|5=>5|n=>n,fun|n=>n⟩
theorem Tryz.lays169 :Go.Proofs.Lays.n169 prog Tryz.lays169_ren:= {
 mixed:=by kernel_rfl
 f169:=func97.trans (congrArg some (by kernel_rfl))
 t0:=underlying0
 a0:=Tryz.isAgg0
 z0:=Tryz.sizeOf0
 v0:=Tryz.zeroValue0
 t3:=underlying3
 a3:=Tryz.isAgg3
 z3:=Tryz.sizeOf3
 v3:=Tryz.zeroValue3
 t9:=underlying9
 a9:=Tryz.isAgg9
 z9:=Tryz.sizeOf9
 v9:=Tryz.zeroValue9
 t37:=underlying22
 a37:=Tryz.isAgg22
 z37:=Tryz.sizeOf22
 v37:=Tryz.zeroValue22
 t70:=underlying126
 a70:=Tryz.isAgg126
 z70:=Tryz.sizeOf126
 v70:=Tryz.zeroValue126
 t72:=underlying128
 a72:=Tryz.isAgg128
 z72:=Tryz.sizeOf128
 v72:=Tryz.zeroValue128
 t127:=underlying159
 a127:=Tryz.isAgg159
 z127:=Tryz.sizeOf159
 v127:=Tryz.zeroValue159 }
theorem Tryz.Builder_Extra_169 :Builder.Extra prog Tryz.lays169_ren:= {
 sizeBuilder:=by kernel_rfl
 liesBuilder:=by kernel_rfl
 t5:=underlying5
 a5:=Tryz.isAgg5
 z5:=Tryz.sizeOf5
 v5:=Tryz.zeroValue5
 infoByte:=by kernel_rfl
 cellsByte:=by kernel_rfl
 sizeByte:=by kernel_rfl
 neB5:=by decide }
def Tryz.U1 :Go.Shelf.Ren:=⟨fun|125=>265|128=>268|129=>250|n=>n,fun|46=>104|3=>3|51=>238|53=>223|4=>4|5=>5|9=>9|n=>n,fun|n=>n⟩
theorem Tryz.lays125 :Go.Proofs.Lays.n125 prog Tryz.U1:= {
 mixed:=by kernel_rfl
 f125:=func265.trans (congrArg some (by kernel_rfl))
 f128:=func268.trans (congrArg some (by kernel_rfl))
 f129:=func250.trans (congrArg some (by kernel_rfl))
 t3:=underlying3
 a3:=Tryz.isAgg3
 z3:=Tryz.sizeOf3
 v3:=Tryz.zeroValue3
 t4:=underlying4
 a4:=Tryz.isAgg4
 z4:=Tryz.sizeOf4
 v4:=Tryz.zeroValue4
 t5:=underlying5
 a5:=Tryz.isAgg5
 z5:=Tryz.sizeOf5
 v5:=Tryz.zeroValue5
 t9:=underlying9
 a9:=Tryz.isAgg9
 z9:=Tryz.sizeOf9
 v9:=Tryz.zeroValue9
 t46:=underlying104
 a46:=Tryz.isAgg104
 z46:=Tryz.sizeOf104
 v46:=Tryz.zeroValue104
 t51:=underlying238
 a51:=Tryz.isAgg238
 z51:=Tryz.sizeOf238
 v51:=Tryz.zeroValue238
 t53:=underlying223
 a53:=Tryz.isAgg223
 z53:=Tryz.sizeOf223
 v53:=Tryz.zeroValue223 }
theorem Tryz.bits_Len (x:Int)(w:World)(h0:0≤x)(h1:x≤18446744073709551615):
 Calls prog 265 #[.int .u64 x] w fun e w'=>e= .returned (.int .i64 (Lib.bitLen x.toNat))∧w'=w:=Any.bits_Len Tryz.lays125 x w h0 h1
def Tryz.UL :Go.Shelf.Ren:=⟨fun|137=>170|217=>196|266=>225|n=>n,fun|9=>9|5=>5|3=>3|n=>n,fun|n=>n⟩
theorem Tryz.lays137 :Go.Proofs.Lays.n137 prog Tryz.UL:= {
 mixed:=by kernel_rfl
 f137:=func170.trans (congrArg some (by kernel_rfl))
 f217:=func196.trans (congrArg some (by kernel_rfl))
 f266:=func225.trans (congrArg some (by kernel_rfl))
 t3:=underlying3
 a3:=Tryz.isAgg3
 z3:=Tryz.sizeOf3
 v3:=Tryz.zeroValue3
 t5:=underlying5
 a5:=Tryz.isAgg5
 z5:=Tryz.sizeOf5
 v5:=Tryz.zeroValue5
 t9:=underlying9
 a9:=Tryz.isAgg9
 z9:=Tryz.sizeOf9
 v9:=Tryz.zeroValue9 }
open Go.RowKit in
theorem Tryz.strings_IndexByte (s:ByteArray)(c:Int)(w:World):
 Calls prog 170 #[.string s,.int .u8 c] w fun e w'=>e= .returned (.int .i64 (Lib.indexByte s.data.toList c.toNat.toUInt8))∧w'=w:=Any.strings_IndexByte Tryz.lays137 s c w
open Go.RowKit in
theorem Tryz.Builder_String_any_k (B b:Nat)(l:List UInt8)(w:World)(h:Lib.IsBuilderF 128 5 B b (Lib.byteCells l) w)(a:B≤w.heap.size):
 Calls prog 97 #[.pointer (some ⟨b,0,none⟩)] w fun e w'=>e= .returned (.string ⟨l.toArray⟩)∧(Lib.IsBuilderF 128 5 B b (Lib.byteCells l) w'∧Below B w w'∧Lib.OthersKept 5 (some b) w w'):=Any.Builder_String_any_k Tryz.lays169 Tryz.Builder_Extra_169 B b l w h a
def Tryz.VO :Go.Shelf.Ren:=⟨fun|171=>138|243=>169|246=>195|283=>221|284=>222|285=>223|286=>224|129=>250|317=>249|318=>251|319=>252|320=>253|337=>266|338=>267|n=>n,fun|3=>3|9=>9|2=>2|4=>4|171=>229|0=>0|53=>223|37=>22|5=>5|173=>232|212=>251|51=>238|20=>20|213=>252|46=>104|232=>257|233=>258|n=>n,fun|17=>5|18=>6|19=>7|n=>n⟩
theorem Tryz.laysM171 :Go.Proofs.LaysM.n171 prog Tryz.VO:= {
 mixed:=by kernel_rfl
 f129:=func250.trans (congrArg some (by kernel_rfl))
 f171:=func138.trans (congrArg some (by kernel_rfl))
 f243:=func169.trans (congrArg some (by kernel_rfl))
 f246:=func195.trans (congrArg some (by kernel_rfl))
 f283:=func221.trans (congrArg some (by kernel_rfl))
 f284:=func222.trans (congrArg some (by kernel_rfl))
 f285:=func223.trans (congrArg some (by kernel_rfl))
 f286:=func224.trans (congrArg some (by kernel_rfl))
 f317:=func249.trans (congrArg some (by kernel_rfl))
 f318:=func251.trans (congrArg some (by kernel_rfl))
 f319:=func252.trans (congrArg some (by kernel_rfl))
 f320:=func253.trans (congrArg some (by kernel_rfl))
 f337:=func266.trans (congrArg some (by kernel_rfl))
 f338:=func267.trans (congrArg some (by kernel_rfl))
 t0:=underlying0
 a0:=Tryz.isAgg0
 z0:=Tryz.sizeOf0
 v0:=Tryz.zeroValue0
 t2:=underlying2
 a2:=Tryz.isAgg2
 z2:=Tryz.sizeOf2
 v2:=Tryz.zeroValue2
 t3:=underlying3
 a3:=Tryz.isAgg3
 z3:=Tryz.sizeOf3
 v3:=Tryz.zeroValue3
 t4:=underlying4
 a4:=Tryz.isAgg4
 z4:=Tryz.sizeOf4
 v4:=Tryz.zeroValue4
 t5:=underlying5
 a5:=Tryz.isAgg5
 z5:=Tryz.sizeOf5
 v5:=Tryz.zeroValue5
 t9:=underlying9
 a9:=Tryz.isAgg9
 z9:=Tryz.sizeOf9
 v9:=Tryz.zeroValue9
 t20:=underlying20
 a20:=Tryz.isAgg20
 z20:=Tryz.sizeOf20
 v20:=Tryz.zeroValue20
 t37:=underlying22
 a37:=Tryz.isAgg22
 z37:=Tryz.sizeOf22
 v37:=Tryz.zeroValue22
 t46:=underlying104
 a46:=Tryz.isAgg104
 z46:=Tryz.sizeOf104
 v46:=Tryz.zeroValue104
 t51:=underlying238
 a51:=Tryz.isAgg238
 z51:=Tryz.sizeOf238
 v51:=Tryz.zeroValue238
 t53:=underlying223
 a53:=Tryz.isAgg223
 z53:=Tryz.sizeOf223
 v53:=Tryz.zeroValue223
 t171:=underlying229
 a171:=Tryz.isAgg229
 z171:=Tryz.sizeOf229
 v171:=Tryz.zeroValue229
 t173:=underlying232
 a173:=Tryz.isAgg232
 z173:=Tryz.sizeOf232
 v173:=Tryz.zeroValue232
 t212:=underlying251
 a212:=Tryz.isAgg251
 z212:=Tryz.sizeOf251
 v212:=Tryz.zeroValue251
 t213:=underlying252
 a213:=Tryz.isAgg252
 z213:=Tryz.sizeOf252
 t232:=underlying257
 a232:=Tryz.isAgg257
 z232:=Tryz.sizeOf257
 v232:=Tryz.zeroValue257
 t233:=underlying258
 a233:=Tryz.isAgg258
 z233:=Tryz.sizeOf258
 v233:=Tryz.zeroValue258
 g17:=by kernel_rfl
 g18:=by kernel_rfl
 g19:=by kernel_rfl
 i0:=by kernel_rfl
 i2:=by kernel_rfl
 i3:=by kernel_rfl
 i4:=by kernel_rfl
 i5:=by kernel_rfl
 i9:=by kernel_rfl
 i20:=by kernel_rfl
 i37:=by kernel_rfl
 i46:=by kernel_rfl
 i51:=by kernel_rfl
 i53:=by kernel_rfl
 i171:=by kernel_rfl
 i173:=by kernel_rfl
 i212:=by kernel_rfl
 i232:=by kernel_rfl
 i233:=by kernel_rfl
 m17:=by kernel_rfl
 m18:=by kernel_rfl
 m19:=by kernel_rfl }
open Go.RowKit Go.Sort Go.Lib in
theorem Tryz.strconv_Itoa (n:Int)(h0: -9223372036854775808≤n)(h1:n≤9223372036854775807)(w:World)(a:Lib.TabIs prog w "internal/strconv.uint64pow10" .u64 Lib.pow10Tab):
 Calls prog 138 #[.int .i64 n] w fun e w'=>e= .returned (.string ⟨(Lib.itoa n).toArray⟩)∧∃k b,w'=grow (w.drewN k) b:=Any.strconv_Itoa Tryz.laysM171 n h0 h1 w a
def Tryz.V7 :Go.Shelf.Ren:=⟨fun|172=>137|244=>167|245=>168|247=>190|279=>191|280=>192|281=>193|282=>194|287=>218|316=>219|171=>138|205=>220|321=>247|322=>248|243=>169|246=>195|283=>221|284=>222|285=>223|286=>224|129=>250|317=>249|318=>251|319=>252|320=>253|337=>266|338=>267|n=>n,fun|9=>9|3=>3|75=>131|76=>132|4=>4|5=>5|167=>201|37=>22|0=>0|85=>202|2=>2|168=>204|53=>223|175=>224|46=>104|210=>227|127=>159|145=>249|143=>247|21=>21|171=>229|173=>232|212=>251|51=>238|20=>20|213=>252|232=>257|233=>258|80=>134|n=>n,fun|15=>1|16=>2|17=>5|18=>6|19=>7|n=>n⟩
theorem Tryz.laysC172 :Go.Proofs.LaysC.n172 prog Tryz.V7:= {
 mixed:=by kernel_rfl
 f129:=func250.trans (congrArg some (by kernel_rfl))
 f171:=func138.trans (congrArg some (by kernel_rfl))
 f172:=func137.trans (congrArg some (by kernel_rfl))
 f205:=func220.trans (congrArg some (by kernel_rfl))
 f243:=func169.trans (congrArg some (by kernel_rfl))
 f244:=func167.trans (congrArg some (by kernel_rfl))
 f245:=func168.trans (congrArg some (by kernel_rfl))
 f246:=func195.trans (congrArg some (by kernel_rfl))
 f247:=func190.trans (congrArg some (by kernel_rfl))
 f279:=func191.trans (congrArg some (by kernel_rfl))
 f280:=func192.trans (congrArg some (by kernel_rfl))
 f281:=func193.trans (congrArg some (by kernel_rfl))
 f282:=func194.trans (congrArg some (by kernel_rfl))
 f283:=func221.trans (congrArg some (by kernel_rfl))
 f284:=func222.trans (congrArg some (by kernel_rfl))
 f285:=func223.trans (congrArg some (by kernel_rfl))
 f286:=func224.trans (congrArg some (by kernel_rfl))
 f287:=func218.trans (congrArg some (by kernel_rfl))
 f316:=func219.trans (congrArg some (by kernel_rfl))
 f317:=func249.trans (congrArg some (by kernel_rfl))
 f318:=func251.trans (congrArg some (by kernel_rfl))
 f319:=func252.trans (congrArg some (by kernel_rfl))
 f320:=func253.trans (congrArg some (by kernel_rfl))
 f321:=func247.trans (congrArg some (by kernel_rfl))
 f322:=func248.trans (congrArg some (by kernel_rfl))
 f337:=func266.trans (congrArg some (by kernel_rfl))
 f338:=func267.trans (congrArg some (by kernel_rfl))
 t0:=underlying0
 a0:=Tryz.isAgg0
 z0:=Tryz.sizeOf0
 v0:=Tryz.zeroValue0
 t2:=underlying2
 a2:=Tryz.isAgg2
 z2:=Tryz.sizeOf2
 v2:=Tryz.zeroValue2
 t3:=underlying3
 a3:=Tryz.isAgg3
 z3:=Tryz.sizeOf3
 v3:=Tryz.zeroValue3
 t4:=underlying4
 a4:=Tryz.isAgg4
 z4:=Tryz.sizeOf4
 v4:=Tryz.zeroValue4
 t5:=underlying5
 a5:=Tryz.isAgg5
 z5:=Tryz.sizeOf5
 v5:=Tryz.zeroValue5
 t9:=underlying9
 a9:=Tryz.isAgg9
 z9:=Tryz.sizeOf9
 v9:=Tryz.zeroValue9
 t20:=underlying20
 a20:=Tryz.isAgg20
 z20:=Tryz.sizeOf20
 v20:=Tryz.zeroValue20
 t21:=underlying21
 a21:=Tryz.isAgg21
 z21:=Tryz.sizeOf21
 v21:=Tryz.zeroValue21
 t37:=underlying22
 a37:=Tryz.isAgg22
 z37:=Tryz.sizeOf22
 v37:=Tryz.zeroValue22
 t46:=underlying104
 a46:=Tryz.isAgg104
 z46:=Tryz.sizeOf104
 v46:=Tryz.zeroValue104
 t51:=underlying238
 a51:=Tryz.isAgg238
 z51:=Tryz.sizeOf238
 v51:=Tryz.zeroValue238
 t53:=underlying223
 a53:=Tryz.isAgg223
 z53:=Tryz.sizeOf223
 v53:=Tryz.zeroValue223
 t75:=underlying131
 a75:=Tryz.isAgg131
 z75:=Tryz.sizeOf131
 v75:=Tryz.zeroValue131
 t76:=underlying132
 a76:=Tryz.isAgg132
 z76:=Tryz.sizeOf132
 v76:=Tryz.zeroValue132
 t85:=underlying202
 a85:=Tryz.isAgg202
 z85:=Tryz.sizeOf202
 v85:=Tryz.zeroValue202
 t127:=underlying159
 a127:=Tryz.isAgg159
 z127:=Tryz.sizeOf159
 v127:=Tryz.zeroValue159
 t143:=underlying247
 a143:=Tryz.isAgg247
 z143:=Tryz.sizeOf247
 v143:=Tryz.zeroValue247
 t145:=underlying249
 a145:=Tryz.isAgg249
 z145:=Tryz.sizeOf249
 v145:=Tryz.zeroValue249
 t167:=underlying201
 a167:=Tryz.isAgg201
 z167:=Tryz.sizeOf201
 v167:=Tryz.zeroValue201
 t168:=underlying204
 a168:=Tryz.isAgg204
 z168:=Tryz.sizeOf204
 v168:=Tryz.zeroValue204
 t171:=underlying229
 a171:=Tryz.isAgg229
 z171:=Tryz.sizeOf229
 v171:=Tryz.zeroValue229
 t173:=underlying232
 a173:=Tryz.isAgg232
 z173:=Tryz.sizeOf232
 v173:=Tryz.zeroValue232
 t175:=underlying224
 a175:=Tryz.isAgg224
 z175:=Tryz.sizeOf224
 v175:=Tryz.zeroValue224
 t210:=underlying227
 a210:=Tryz.isAgg227
 z210:=Tryz.sizeOf227
 v210:=Tryz.zeroValue227
 t212:=underlying251
 a212:=Tryz.isAgg251
 z212:=Tryz.sizeOf251
 v212:=Tryz.zeroValue251
 t213:=underlying252
 a213:=Tryz.isAgg252
 z213:=Tryz.sizeOf252
 t232:=underlying257
 a232:=Tryz.isAgg257
 z232:=Tryz.sizeOf257
 v232:=Tryz.zeroValue257
 t233:=underlying258
 a233:=Tryz.isAgg258
 z233:=Tryz.sizeOf258
 v233:=Tryz.zeroValue258
 g15:=by kernel_rfl
 g16:=by kernel_rfl
 g17:=by kernel_rfl
 g18:=by kernel_rfl
 g19:=by kernel_rfl
 t80:=underlying134
 a80:=Tryz.isAgg134
 z80:=Tryz.sizeOf134
 v80:=Tryz.zeroValue134
 i0:=by kernel_rfl
 i2:=by kernel_rfl
 i3:=by kernel_rfl
 i4:=by kernel_rfl
 i5:=by kernel_rfl
 i9:=by kernel_rfl
 i20:=by kernel_rfl
 i21:=by kernel_rfl
 i37:=by kernel_rfl
 i46:=by kernel_rfl
 i51:=by kernel_rfl
 i53:=by kernel_rfl
 i75:=by kernel_rfl
 i76:=by kernel_rfl
 i80:=by kernel_rfl
 i85:=by kernel_rfl
 i127:=by kernel_rfl
 i143:=by kernel_rfl
 i145:=by kernel_rfl
 i167:=by kernel_rfl
 i168:=by kernel_rfl
 i171:=by kernel_rfl
 i173:=by kernel_rfl
 i175:=by kernel_rfl
 i210:=by kernel_rfl
 i212:=by kernel_rfl
 i232:=by kernel_rfl
 i233:=by kernel_rfl
 m15:=by kernel_rfl
 m16:=by kernel_rfl
 m17:=by kernel_rfl
 m18:=by kernel_rfl
 m19:=by kernel_rfl
 c0:=by kernel_rfl
 c2:=by kernel_rfl
 c3:=by kernel_rfl
 c4:=by kernel_rfl
 c5:=by kernel_rfl
 c9:=by kernel_rfl
 c20:=by kernel_rfl
 c21:=by kernel_rfl
 c37:=by kernel_rfl
 c46:=by kernel_rfl
 c51:=by kernel_rfl
 c53:=by kernel_rfl
 c75:=by kernel_rfl
 c76:=by kernel_rfl
 c80:=by kernel_rfl
 c85:=by kernel_rfl
 c127:=by kernel_rfl
 c143:=by kernel_rfl
 c145:=by kernel_rfl
 c167:=by kernel_rfl
 c168:=by kernel_rfl
 c171:=by kernel_rfl
 c173:=by kernel_rfl
 c175:=by kernel_rfl
 c210:=by kernel_rfl
 c212:=by kernel_rfl
 c213:=by kernel_rfl
 c232:=by kernel_rfl
 c233:=by kernel_rfl }
open Go.RowKit in
theorem Tryz.strconv_Atoi_ok (s:ByteArray)(a:s.size≤9223372036854775806)(v:Int)(h:Lib.atoiAll s.data.toList= .ok v)(w:World):
 Calls prog 137 #[.string s] w fun e w'=>e= .returned (.tuple #[.int .i64 v,.nilIface])∧(w'=w∨∃t,w'=Lib.bytesWorld w 5 t):=Any.strconv_Atoi_ok Tryz.laysC172 s a v h w
open Go.RowKit in
theorem Tryz.strconv_Atoi_syntax (s:ByteArray)(b:s.size≤281474976710656)(h:Lib.atoiAll s.data.toList= .«syntax»)(a:Value)(w:World)(c:w.cell? ⟨1,0,none⟩=some a)(d:a= .nilIface∨∃f g,a= .iface f g):
 Calls prog 137 #[.string s] w fun e w'=>∃N,e= .returned (.tuple #[.int .i64 (0),.iface 204 (.pointer (some ⟨N,0,none⟩))])∧w.heap.size≤N∧w'.heap[N]? =some (.cells #[.string ⟨#[65,116,111,105]⟩,.string s,a] 227 (0,0))∧Below w.heap.size w w':=Any.strconv_Atoi_syntax Tryz.laysC172 s b h a w c d
open Go.RowKit in
theorem Tryz.strconv_Atoi_range (s:ByteArray)(b:s.size≤281474976710656)(h:Lib.atoiAll s.data.toList= .range)(a:Value)(w:World)(c:w.cell? ⟨2,0,none⟩=some a)(d:a= .nilIface∨∃f g,a= .iface f g):
 Calls prog 137 #[.string s] w fun e w'=>∃N,e= .returned (.tuple #[.int .i64 (Lib.atoiSat s.data.toList),.iface 204 (.pointer (some ⟨N,0,none⟩))])∧w.heap.size≤N∧w'.heap[N]? =some (.cells #[.string ⟨#[65,116,111,105]⟩,.string s,a] 227 (0,0))∧Below w.heap.size w w':=Any.strconv_Atoi_range Tryz.laysC172 s b h a w c d
def Tryz.lays146_ren :Go.Shelf.Ren:=⟨fun|146=>70|221=>103|268=>141|138=>142|143=>143|195=>171|197=>172|218=>173|219=>174|260=>197|217=>196|225=>198|224=>199|267=>200|266=>225|314=>226|n=>n,fun|9=>9|31=>88|3=>3|4=>4|0=>0|105=>189|21=>21|5=>5|46=>104|119=>234|139=>237|138=>236|146=>239|51=>238|n=>n,fun|1=>0|3=>3|4=>4|n=>n⟩
theorem Tryz.lays146 :Go.Proofs.Lays.n146 prog Tryz.lays146_ren:= {
 mixed:=by kernel_rfl
 f138:=func142.trans (congrArg some (by kernel_rfl))
 f143:=func143.trans (congrArg some (by kernel_rfl))
 f146:=func70.trans (congrArg some (by kernel_rfl))
 f195:=func171.trans (congrArg some (by kernel_rfl))
 f197:=func172.trans (congrArg some (by kernel_rfl))
 f217:=func196.trans (congrArg some (by kernel_rfl))
 f218:=func173.trans (congrArg some (by kernel_rfl))
 f219:=func174.trans (congrArg some (by kernel_rfl))
 f221:=func103.trans (congrArg some (by kernel_rfl))
 f224:=func199.trans (congrArg some (by kernel_rfl))
 f225:=func198.trans (congrArg some (by kernel_rfl))
 f260:=func197.trans (congrArg some (by kernel_rfl))
 f266:=func225.trans (congrArg some (by kernel_rfl))
 f267:=func200.trans (congrArg some (by kernel_rfl))
 f268:=func141.trans (congrArg some (by kernel_rfl))
 f314:=func226.trans (congrArg some (by kernel_rfl))
 t0:=underlying0
 a0:=Tryz.isAgg0
 z0:=Tryz.sizeOf0
 v0:=Tryz.zeroValue0
 t3:=underlying3
 a3:=Tryz.isAgg3
 z3:=Tryz.sizeOf3
 v3:=Tryz.zeroValue3
 t4:=underlying4
 a4:=Tryz.isAgg4
 z4:=Tryz.sizeOf4
 v4:=Tryz.zeroValue4
 t5:=underlying5
 a5:=Tryz.isAgg5
 z5:=Tryz.sizeOf5
 v5:=Tryz.zeroValue5
 t9:=underlying9
 a9:=Tryz.isAgg9
 z9:=Tryz.sizeOf9
 v9:=Tryz.zeroValue9
 t21:=underlying21
 a21:=Tryz.isAgg21
 z21:=Tryz.sizeOf21
 v21:=Tryz.zeroValue21
 t31:=underlying88
 a31:=Tryz.isAgg88
 z31:=Tryz.sizeOf88
 v31:=Tryz.zeroValue88
 t46:=underlying104
 a46:=Tryz.isAgg104
 z46:=Tryz.sizeOf104
 v46:=Tryz.zeroValue104
 t51:=underlying238
 a51:=Tryz.isAgg238
 z51:=Tryz.sizeOf238
 v51:=Tryz.zeroValue238
 t105:=underlying189
 a105:=Tryz.isAgg189
 z105:=Tryz.sizeOf189
 v105:=Tryz.zeroValue189
 t119:=underlying234
 a119:=Tryz.isAgg234
 z119:=Tryz.sizeOf234
 t138:=underlying236
 a138:=Tryz.isAgg236
 z138:=Tryz.sizeOf236
 v138:=Tryz.zeroValue236
 t139:=underlying237
 a139:=Tryz.isAgg237
 z139:=Tryz.sizeOf237
 v139:=Tryz.zeroValue237
 t146:=underlying239
 a146:=Tryz.isAgg239
 z146:=Tryz.sizeOf239
 v146:=Tryz.zeroValue239
 g1:=by kernel_rfl
 g3:=by kernel_rfl
 g4:=by kernel_rfl }
open Go.RowKit Go.Lib in
theorem Tryz.strings_Split (s a:ByteArray)(m:Int)(w:World)(b:s.size<4294967281)(c:w.cell? ⟨0,0,none⟩=some (.int .i64 m))(h1:1≤a.size):
 Calls prog 70 #[.string s,.string a] w fun e w'=>
  e= .returned (.slice (some ⟨w.heap.size,0,none⟩) (Lib.countB s a+1) (Lib.countB s a+1))∧w'=w.alloc (.cells ((Lib.splitB a 0 (Lib.countB s a) s).map Value.string).toArray 9):=Any.strings_Split Tryz.lays146 (by kernel_rfl) s a m w b c h1
end Go.Proofs
