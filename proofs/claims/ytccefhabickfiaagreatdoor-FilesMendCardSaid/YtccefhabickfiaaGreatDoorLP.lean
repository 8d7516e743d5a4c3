/- Parts of the proof. -/
import Derived.Shelf.Small.Utf8
import Derived.Shelf.Small.Wraps
import Derived.Shelf.Strings.BuilderK
import Derived.Shelf.Utf8.RuneCount
import Derived.Shelf.Strconv.Itoa3
import Derived.Shelf.Strconv.ErrVarAll
import Derived.Shelf.Strings.Shaped
import Derived.Shelf.Strings.LastIndex
import Derived.Shelf.Strings.SplitShaped
import Derived.Shelf.Strings.Runes
import Derived.Shelf.Strings.Explode
import Derived.Shelf.Unicode.DecodeAny
import Derived.Shelf.Slices.SearchI
import Derived.Test.YtccefhabickfiaaGreatDoorProg
import Derived.Handy
import Derived.Deep.Onto
import Derived.Deep.RegionHeld3
import Derived.Deep.AppendLies
import Derived.Test.YtccefhabickfiaaGreatDoorXG8
import Derived.WalkLawsBesides
set_option linter.unusedSimpArgs false
set_option linter.defProp false
set_option linter.unusedVariables false
namespace Go.Proofs
open Go.Proofs.Tryz
open Go.Shelf
def Tryz.sortG_ren:Go.Shelf.Ren:=⟨fun | 6=>59 | 15=>84 | 14=>95 | 28=>124 | 29=>125 | 20=>132 | 21=>133 | 22=>134 | 23=>135 | 24=>136 | 25=>137 | 26=>138 | 27=>139 | 46=>172 | 47=>163 | 48=>164 | 49=>173 | 50=>174 | 57=>189 | n=>n,fun | 22=>75 | 24=>56 | 25=>128 | 3=>3 | 39=>151 | 0=>0 | 53=>182 | 55=>204 | 4=>4 | 46=>196 | 45=>195 | 50=>200 | 5=>5 | 9=>9 | 66=>240 | 70=>244 | 76=>269 | 77=>225 | n=>n,fun | n=>n⟩
def Tryz.sortG:Go.Proofs.SlLaysF0.n6 Tryz.prog Tryz.sortG_ren:={
 mixed:=by kernel_rfl
 f6:=⟨f59.name,by decide,func59.trans (congrArg some (by kernel_rfl))⟩
 f14:=⟨f95.name,by decide,func95.trans (congrArg some (by kernel_rfl))⟩
 f15:=func84.trans (congrArg some (by kernel_rfl))
 f20:=⟨f132.name,by decide,func132.trans (congrArg some (by kernel_rfl))⟩
 f21:=⟨f133.name,by decide,func133.trans (congrArg some (by kernel_rfl))⟩
 f22:=⟨f134.name,by decide,func134.trans (congrArg some (by kernel_rfl))⟩
 f23:=⟨f135.name,by decide,func135.trans (congrArg some (by kernel_rfl))⟩
 f24:=⟨f136.name,by decide,func136.trans (congrArg some (by kernel_rfl))⟩
 f25:=⟨f137.name,by decide,func137.trans (congrArg some (by kernel_rfl))⟩
 f26:=⟨f138.name,by decide,func138.trans (congrArg some (by kernel_rfl))⟩
 f27:=⟨f139.name,by decide,func139.trans (congrArg some (by kernel_rfl))⟩
 f28:=func124.trans (congrArg some (by kernel_rfl))
 f29:=func125.trans (congrArg some (by kernel_rfl))
 f46:=⟨f172.name,by decide,func172.trans (congrArg some (by kernel_rfl))⟩
 f47:=func163.trans (congrArg some (by kernel_rfl))
 f48:=func164.trans (congrArg some (by kernel_rfl))
 f49:=⟨f173.name,by decide,func173.trans (congrArg some (by kernel_rfl))⟩
 f50:=⟨f174.name,by decide,func174.trans (congrArg some (by kernel_rfl))⟩
 f57:=⟨f189.name,by decide,func189.trans (congrArg some (by kernel_rfl))⟩
 t0:=underlying0
 a0:=isAgg0
 z0:=sizeOf0
 v0:=zeroValue0
 t3:=underlying3
 a3:=isAgg3
 z3:=sizeOf3
 v3:=zeroValue3
 t4:=underlying4
 a4:=isAgg4
 z4:=sizeOf4
 v4:=zeroValue4
 t5:=underlying5
 a5:=isAgg5
 z5:=sizeOf5
 v5:=zeroValue5
 t9:=underlying9
 a9:=isAgg9
 z9:=sizeOf9
 v9:=zeroValue9
 t22:=underlying75
 a22:=isAgg75
 z22:=sizeOf75
 v22:=zeroValue75
 t25:=underlying128
 a25:=isAgg128
 z25:=sizeOf128
 v25:=zeroValue128
 t39:=underlying151
 a39:=isAgg151
 z39:=sizeOf151
 v39:=zeroValue151
 t45:=underlying195
 a45:=isAgg195
 z45:=sizeOf195
 v45:=zeroValue195
 t46:=underlying196
 a46:=isAgg196
 z46:=sizeOf196
 v46:=zeroValue196
 t50:=underlying200
 a50:=isAgg200
 z50:=sizeOf200
 v50:=zeroValue200
 t53:=underlying182
 a53:=isAgg182
 z53:=sizeOf182
 v53:=zeroValue182
 t55:=underlying204
 a55:=isAgg204
 z55:=sizeOf204
 v55:=zeroValue204
 t66:=underlying240
 a66:=isAgg240
 z66:=sizeOf240
 v66:=zeroValue240
 t70:=underlying244
 a70:=isAgg244
 z70:=sizeOf244
 v70:=zeroValue244
 t76:=underlying269
 a76:=isAgg269
 z76:=sizeOf269
 v76:=zeroValue269
 t77:=underlying225
 a77:=isAgg225
 z77:=sizeOf225
 v77:=zeroValue225 }
def Tryz.sortC_ren:Go.Shelf.Ren:=⟨fun | 6=>53 | 15=>84 | 14=>83 | 28=>124 | 29=>125 | 20=>116 | 21=>117 | 22=>118 | 23=>119 | 24=>120 | 25=>121 | 26=>122 | 27=>123 | 46=>162 | 47=>163 | 48=>164 | 49=>165 | 50=>166 | 57=>187 | n=>n,fun | 22=>32 | 24=>74 | 25=>120 | 3=>3 | 39=>151 | 0=>0 | 53=>182 | 55=>204 | 4=>4 | 46=>196 | 45=>195 | 50=>200 | 5=>5 | 9=>9 | 66=>240 | 70=>244 | 76=>269 | 77=>225 | n=>n,fun | n=>n⟩
def Tryz.sortC:Go.Proofs.SlLaysF0.n6 Tryz.prog Tryz.sortC_ren:={
 mixed:=by kernel_rfl
 f6:=⟨f53.name,by decide,func53.trans (congrArg some (by kernel_rfl))⟩
 f14:=⟨f83.name,by decide,func83.trans (congrArg some (by kernel_rfl))⟩
 f15:=func84.trans (congrArg some (by kernel_rfl))
 f20:=⟨f116.name,by decide,func116.trans (congrArg some (by kernel_rfl))⟩
 f21:=⟨f117.name,by decide,func117.trans (congrArg some (by kernel_rfl))⟩
 f22:=⟨f118.name,by decide,func118.trans (congrArg some (by kernel_rfl))⟩
 f23:=⟨f119.name,by decide,func119.trans (congrArg some (by kernel_rfl))⟩
 f24:=⟨f120.name,by decide,func120.trans (congrArg some (by kernel_rfl))⟩
 f25:=⟨f121.name,by decide,func121.trans (congrArg some (by kernel_rfl))⟩
 f26:=⟨f122.name,by decide,func122.trans (congrArg some (by kernel_rfl))⟩
 f27:=⟨f123.name,by decide,func123.trans (congrArg some (by kernel_rfl))⟩
 f28:=func124.trans (congrArg some (by kernel_rfl))
 f29:=func125.trans (congrArg some (by kernel_rfl))
 f46:=⟨f162.name,by decide,func162.trans (congrArg some (by kernel_rfl))⟩
 f47:=func163.trans (congrArg some (by kernel_rfl))
 f48:=func164.trans (congrArg some (by kernel_rfl))
 f49:=⟨f165.name,by decide,func165.trans (congrArg some (by kernel_rfl))⟩
 f50:=⟨f166.name,by decide,func166.trans (congrArg some (by kernel_rfl))⟩
 f57:=⟨f187.name,by decide,func187.trans (congrArg some (by kernel_rfl))⟩
 t0:=underlying0
 a0:=isAgg0
 z0:=sizeOf0
 v0:=zeroValue0
 t3:=underlying3
 a3:=isAgg3
 z3:=sizeOf3
 v3:=zeroValue3
 t4:=underlying4
 a4:=isAgg4
 z4:=sizeOf4
 v4:=zeroValue4
 t5:=underlying5
 a5:=isAgg5
 z5:=sizeOf5
 v5:=zeroValue5
 t9:=underlying9
 a9:=isAgg9
 z9:=sizeOf9
 v9:=zeroValue9
 t22:=underlying32
 a22:=isAgg32
 z22:=sizeOf32
 v22:=zeroValue32
 t25:=underlying120
 a25:=isAgg120
 z25:=sizeOf120
 v25:=zeroValue120
 t39:=underlying151
 a39:=isAgg151
 z39:=sizeOf151
 v39:=zeroValue151
 t45:=underlying195
 a45:=isAgg195
 z45:=sizeOf195
 v45:=zeroValue195
 t46:=underlying196
 a46:=isAgg196
 z46:=sizeOf196
 v46:=zeroValue196
 t50:=underlying200
 a50:=isAgg200
 z50:=sizeOf200
 v50:=zeroValue200
 t53:=underlying182
 a53:=isAgg182
 z53:=sizeOf182
 v53:=zeroValue182
 t55:=underlying204
 a55:=isAgg204
 z55:=sizeOf204
 v55:=zeroValue204
 t66:=underlying240
 a66:=isAgg240
 z66:=sizeOf240
 v66:=zeroValue240
 t70:=underlying244
 a70:=isAgg244
 z70:=sizeOf244
 v70:=zeroValue244
 t76:=underlying269
 a76:=isAgg269
 z76:=sizeOf269
 v76:=zeroValue269
 t77:=underlying225
 a77:=isAgg225
 z77:=sizeOf225
 v77:=zeroValue225 }
def Tryz.lays169_ren:Go.Shelf.Ren:=⟨fun | 169=>40 | n=>n,fun | 70=>84 | 9=>9 | 0=>0 | 72=>86 | 37=>41 | 127=>131 | 3=>3 | 5=>5 | n=>n,fun | n=>n⟩
def Tryz.lays169:Go.Proofs.Lays.n169 Tryz.prog Tryz.lays169_ren:={
 mixed:=by kernel_rfl
 f169:=func40.trans (congrArg some (by kernel_rfl))
 t0:=underlying0
 a0:=isAgg0
 z0:=sizeOf0
 v0:=zeroValue0
 t3:=underlying3
 a3:=isAgg3
 z3:=sizeOf3
 v3:=zeroValue3
 t9:=underlying9
 a9:=isAgg9
 z9:=sizeOf9
 v9:=zeroValue9
 t37:=underlying41
 a37:=isAgg41
 z37:=sizeOf41
 v37:=zeroValue41
 t70:=underlying84
 a70:=isAgg84
 z70:=sizeOf84
 v70:=zeroValue84
 t72:=underlying86
 a72:=isAgg86
 z72:=sizeOf86
 v72:=zeroValue86
 t127:=underlying131
 a127:=isAgg131
 z127:=sizeOf131
 v127:=zeroValue131 }
def Tryz.Builder_Extra_169:Builder.Extra Tryz.prog Tryz.lays169_ren:={
 sizeBuilder:=by kernel_rfl
 liesBuilder:=by kernel_rfl
 t5:=underlying5
 a5:=isAgg5
 z5:=sizeOf5
 v5:=zeroValue5
 infoByte:=by kernel_rfl
 cellsByte:=by kernel_rfl
 sizeByte:=by kernel_rfl
 neB5:=by decide }
def Tryz.lays166_ren:Go.Shelf.Ren:=⟨fun | 166=>36 | 240=>62 | 276=>96 | n=>n,fun | 0=>0 | 3=>3 | 4=>4 | 9=>9 | 20=>20 | 37=>41 | 70=>84 | 72=>86 | 75=>88 | 164=>169 | 5=>5 | 80=>91 | n=>n,fun | n=>n⟩
def Tryz.lays166:Go.Proofs.Lays.n166 Tryz.prog Tryz.lays166_ren:={
 mixed:=by kernel_rfl
 f166:=func36.trans (congrArg some (by kernel_rfl))
 f240:=func62.trans (congrArg some (by kernel_rfl))
 f276:=func96.trans (congrArg some (by kernel_rfl))
 t0:=underlying0
 a0:=isAgg0
 z0:=sizeOf0
 v0:=zeroValue0
 t3:=underlying3
 a3:=isAgg3
 z3:=sizeOf3
 v3:=zeroValue3
 t4:=underlying4
 a4:=isAgg4
 z4:=sizeOf4
 v4:=zeroValue4
 t9:=underlying9
 a9:=isAgg9
 z9:=sizeOf9
 v9:=zeroValue9
 t20:=underlying20
 a20:=isAgg20
 z20:=sizeOf20
 v20:=zeroValue20
 t37:=underlying41
 a37:=isAgg41
 z37:=sizeOf41
 v37:=zeroValue41
 t70:=underlying84
 a70:=isAgg84
 z70:=sizeOf84
 v70:=zeroValue84
 t72:=underlying86
 a72:=isAgg86
 z72:=sizeOf86
 v72:=zeroValue86
 t75:=underlying88
 a75:=isAgg88
 z75:=sizeOf88
 v75:=zeroValue88
 t164:=underlying169
 a164:=isAgg169
 z164:=sizeOf169
 v164:=zeroValue169 }
def Tryz.Builder_Extra_166:Builder.Extra Tryz.prog Tryz.lays166_ren:={
 sizeBuilder:=by kernel_rfl
 liesBuilder:=by kernel_rfl
 t5:=underlying5
 a5:=isAgg5
 z5:=sizeOf5
 v5:=zeroValue5
 infoByte:=by kernel_rfl
 cellsByte:=by kernel_rfl
 sizeByte:=by kernel_rfl
 neB5:=by decide }
def Tryz.Builder_WriteString_k (B b:Nat) (bs:List Value) (s:ByteArray) (w:World) (h:Lib.IsBuilderF 86 5 B b bs w) (hlen:bs.length+s.size<=140737488355328) (hBw:B<=w.heap.size):
 Calls Tryz.prog 36 #[.pointer (some ⟨b,0,none⟩),.string s] w λe w'=>e=.returned (.tuple #[.int .i64 s.size,.nilIface])/\(Lib.BuilderAtF 86 5 B b (.pointer (some ⟨b,0,none⟩)) (bs++Lib.strCells s) w'/\Go.RowKit.Below B w w'/\Lib.OthersKept 5 (some b) w w'):=Any.Builder_WriteString_k Tryz.lays166 Tryz.Builder_Extra_166 B b bs s w h hlen hBw
def Tryz.lays137_ren:Go.Shelf.Ren:=⟨fun | 137=>80 | 217=>114 | 266=>159 | n=>n,fun | 9=>9 | 5=>5 | 3=>3 | n=>n,fun | n=>n⟩
def Tryz.lays137:Go.Proofs.Lays.n137 Tryz.prog Tryz.lays137_ren:={
 mixed:=by kernel_rfl
 f137:=func80.trans (congrArg some (by kernel_rfl))
 f217:=func114.trans (congrArg some (by kernel_rfl))
 f266:=func159.trans (congrArg some (by kernel_rfl))
 t3:=underlying3
 a3:=isAgg3
 z3:=sizeOf3
 v3:=zeroValue3
 t5:=underlying5
 a5:=isAgg5
 z5:=sizeOf5
 v5:=zeroValue5
 t9:=underlying9
 a9:=isAgg9
 z9:=sizeOf9
 v9:=zeroValue9 }
open Go.RowKit in
theorem Tryz.strings_IndexByte (s:ByteArray) (c:Int) (w:World):
 Calls Tryz.prog 80 #[.string s,.int .u8 c] w λe w'=>e=.returned (.int .i64 (Lib.indexByte s.data.toList c.toNat.toUInt8))/\w'=w:=Any.strings_IndexByte Tryz.lays137 s c w
def Tryz.lays122_ren:Go.Shelf.Ren:=⟨fun | 122=>85 | 215=>126 | n=>n,fun | 3=>3 | 4=>4 | n=>n,fun | n=>n⟩
def Tryz.lays122:Go.Proofs.Lays.n122 Tryz.prog Tryz.lays122_ren:={
 mixed:=by kernel_rfl
 f122:=func85.trans (congrArg some (by kernel_rfl))
 f215:=func126.trans (congrArg some (by kernel_rfl))
 t3:=underlying3
 a3:=isAgg3
 z3:=sizeOf3
 v3:=zeroValue3
 t4:=underlying4
 a4:=isAgg4
 z4:=sizeOf4
 v4:=zeroValue4 }
open Go.RowKit in
theorem Tryz.cmp_Compare_int (x y:Int) (w:World):
 Calls Tryz.prog 85 #[.int .i64 x,.int .i64 y] w λe w'=>e=.returned (.int .i64 (Lib.compareInt x y))/\w'=w:=Any.cmp_Compare_int Tryz.lays122 x y w
open Go.RowKit in
theorem Tryz.Builder_String_any_k (B b:Nat) (l:List UInt8) (w:World) (h:Lib.IsBuilderF 86 5 B b (Lib.byteCells l) w) (hBw:B<=w.heap.size):
 Calls Tryz.prog 40 #[.pointer (some ⟨b,0,none⟩)] w λe w'=>e=.returned (.string ⟨l.toArray⟩)/\(Lib.IsBuilderF 86 5 B b (Lib.byteCells l) w'/\Below B w w'/\Lib.OthersKept 5 (some b) w w'):=Any.Builder_String_any_k Tryz.lays169 Tryz.Builder_Extra_169 B b l w h hBw
def Tryz.lays129_ren:Go.Shelf.Ren:=⟨fun | 129=>125 | n=>n,fun | 53=>204 | 3=>3 | 4=>4 | 46=>151 | 5=>5 | 9=>9 | n=>n,fun | n=>n⟩
def Tryz.lays129:Go.Proofs.Lays.n129 Tryz.prog Tryz.lays129_ren:={
 mixed:=by kernel_rfl
 f129:=func125.trans (congrArg some (by kernel_rfl))
 t3:=underlying3
 a3:=isAgg3
 z3:=sizeOf3
 v3:=zeroValue3
 t4:=underlying4
 a4:=isAgg4
 z4:=sizeOf4
 v4:=zeroValue4
 t5:=underlying5
 a5:=isAgg5
 z5:=sizeOf5
 v5:=zeroValue5
 t9:=underlying9
 a9:=isAgg9
 z9:=sizeOf9
 v9:=zeroValue9
 t46:=underlying151
 a46:=isAgg151
 z46:=sizeOf151
 v46:=zeroValue151
 t53:=underlying204
 a53:=isAgg204
 z53:=sizeOf204
 v53:=zeroValue204 }
def Tryz.bits_Len64 (x:Int) (w:World) (h0:0<=x) (h1:x<=18446744073709551615):
 Calls Tryz.prog 125 #[.int .u64 x] w λe w'=>e=.returned (.int .i64 (Lib.bitLen x.toNat))/\w'=w:=Any.bits_Len64 Tryz.lays129 x w h0 h1
def Tryz.lays317_ren:Go.Shelf.Ren:=⟨fun | 317=>175 | n=>n,fun | 3=>3 | 46=>151 | n=>n,fun | n=>n⟩
def Tryz.lays317:Go.Proofs.Lays.n317 Tryz.prog Tryz.lays317_ren:={
 mixed:=by kernel_rfl
 f317:=func175.trans (congrArg some (by kernel_rfl))
 t3:=underlying3
 a3:=isAgg3
 z3:=sizeOf3
 v3:=zeroValue3
 t46:=underlying151
 a46:=isAgg151
 z46:=sizeOf151
 v46:=zeroValue151 }
open Go.Lib in
theorem Tryz.internal_strconv_log10Pow2 (x:Nat) (h:x<=64) (w:World):
 Calls Tryz.prog 175 #[.int .i64 x] w λe w'=>e=.returned (.int .i64 (Lib.l10 x))/\w'=w:=Any.internal_strconv_log10Pow2 Tryz.lays317 x h w
def Tryz.laysC172_ren:Go.Shelf.Ren:=⟨fun | 172=>73 | 244=>106 | 245=>107 | 247=>148 | 279=>149 | 280=>150 | 281=>151 | 282=>152 | 287=>182 | 316=>183 | 171=>37 | 205=>184 | 321=>193 | 322=>194 | 243=>63 | 246=>97 | 283=>140 | 284=>141 | 285=>142 | 286=>143 | 129=>125 | 317=>175 | 318=>176 | 319=>177 | 320=>178 | 337=>190 | 338=>191 | n=>n,fun | 9=>9 | 3=>3 | 75=>88 | 76=>89 | 4=>4 | 5=>5 | 167=>229 | 37=>41 | 0=>0 | 85=>230 | 2=>2 | 168=>232 | 53=>204 | 175=>263 | 46=>151 | 210=>266 | 127=>131 | 145=>275 | 143=>273 | 21=>21 | 171=>220 | 173=>222 | 212=>258 | 51=>182 | 20=>20 | 213=>259 | 232=>276 | 233=>277 | 80=>91 | n=>n,fun | 15=>3 | 16=>4 | 17=>2 | 18=>5 | 19=>6 | n=>n⟩
def Tryz.laysC172:Go.Proofs.LaysC.n172 Tryz.prog Tryz.laysC172_ren:={
 mixed:=by kernel_rfl
 f129:=func125.trans (congrArg some (by kernel_rfl))
 f171:=func37.trans (congrArg some (by kernel_rfl))
 f172:=func73.trans (congrArg some (by kernel_rfl))
 f205:=func184.trans (congrArg some (by kernel_rfl))
 f243:=func63.trans (congrArg some (by kernel_rfl))
 f244:=func106.trans (congrArg some (by kernel_rfl))
 f245:=func107.trans (congrArg some (by kernel_rfl))
 f246:=func97.trans (congrArg some (by kernel_rfl))
 f247:=func148.trans (congrArg some (by kernel_rfl))
 f279:=func149.trans (congrArg some (by kernel_rfl))
 f280:=func150.trans (congrArg some (by kernel_rfl))
 f281:=func151.trans (congrArg some (by kernel_rfl))
 f282:=func152.trans (congrArg some (by kernel_rfl))
 f283:=func140.trans (congrArg some (by kernel_rfl))
 f284:=func141.trans (congrArg some (by kernel_rfl))
 f285:=func142.trans (congrArg some (by kernel_rfl))
 f286:=func143.trans (congrArg some (by kernel_rfl))
 f287:=func182.trans (congrArg some (by kernel_rfl))
 f316:=func183.trans (congrArg some (by kernel_rfl))
 f317:=func175.trans (congrArg some (by kernel_rfl))
 f318:=func176.trans (congrArg some (by kernel_rfl))
 f319:=func177.trans (congrArg some (by kernel_rfl))
 f320:=func178.trans (congrArg some (by kernel_rfl))
 f321:=func193.trans (congrArg some (by kernel_rfl))
 f322:=func194.trans (congrArg some (by kernel_rfl))
 f337:=func190.trans (congrArg some (by kernel_rfl))
 f338:=func191.trans (congrArg some (by kernel_rfl))
 t0:=underlying0
 a0:=isAgg0
 z0:=sizeOf0
 v0:=zeroValue0
 t2:=underlying2
 a2:=isAgg2
 z2:=sizeOf2
 v2:=zeroValue2
 t3:=underlying3
 a3:=isAgg3
 z3:=sizeOf3
 v3:=zeroValue3
 t4:=underlying4
 a4:=isAgg4
 z4:=sizeOf4
 v4:=zeroValue4
 t5:=underlying5
 a5:=isAgg5
 z5:=sizeOf5
 v5:=zeroValue5
 t9:=underlying9
 a9:=isAgg9
 z9:=sizeOf9
 v9:=zeroValue9
 t20:=underlying20
 a20:=isAgg20
 z20:=sizeOf20
 v20:=zeroValue20
 t21:=underlying21
 a21:=isAgg21
 z21:=sizeOf21
 v21:=zeroValue21
 t37:=underlying41
 a37:=isAgg41
 z37:=sizeOf41
 v37:=zeroValue41
 t46:=underlying151
 a46:=isAgg151
 z46:=sizeOf151
 v46:=zeroValue151
 t51:=underlying182
 a51:=isAgg182
 z51:=sizeOf182
 v51:=zeroValue182
 t53:=underlying204
 a53:=isAgg204
 z53:=sizeOf204
 v53:=zeroValue204
 t75:=underlying88
 a75:=isAgg88
 z75:=sizeOf88
 v75:=zeroValue88
 t76:=underlying89
 a76:=isAgg89
 z76:=sizeOf89
 v76:=zeroValue89
 t85:=underlying230
 a85:=isAgg230
 z85:=sizeOf230
 v85:=zeroValue230
 t127:=underlying131
 a127:=isAgg131
 z127:=sizeOf131
 v127:=zeroValue131
 t143:=underlying273
 a143:=isAgg273
 z143:=sizeOf273
 v143:=zeroValue273
 t145:=underlying275
 a145:=isAgg275
 z145:=sizeOf275
 v145:=zeroValue275
 t167:=underlying229
 a167:=isAgg229
 z167:=sizeOf229
 v167:=zeroValue229
 t168:=underlying232
 a168:=isAgg232
 z168:=sizeOf232
 v168:=zeroValue232
 t171:=underlying220
 a171:=isAgg220
 z171:=sizeOf220
 v171:=zeroValue220
 t173:=underlying222
 a173:=isAgg222
 z173:=sizeOf222
 v173:=zeroValue222
 t175:=underlying263
 a175:=isAgg263
 z175:=sizeOf263
 v175:=zeroValue263
 t210:=underlying266
 a210:=isAgg266
 z210:=sizeOf266
 v210:=zeroValue266
 t212:=underlying258
 a212:=isAgg258
 z212:=sizeOf258
 v212:=zeroValue258
 t213:=underlying259
 a213:=isAgg259
 z213:=sizeOf259
 t232:=underlying276
 a232:=isAgg276
 z232:=sizeOf276
 v232:=zeroValue276
 t233:=underlying277
 a233:=isAgg277
 z233:=sizeOf277
 v233:=zeroValue277
 g15:=by kernel_rfl
 g16:=by kernel_rfl
 g17:=by kernel_rfl
 g18:=by kernel_rfl
 g19:=by kernel_rfl
 t80:=underlying91
 a80:=isAgg91
 z80:=sizeOf91
 v80:=zeroValue91
 i0:=by kernel_rfl
 i2:=by kernel_rfl
 i3:=by kernel_rfl
 i4:=by kernel_rfl
 i5:=by kernel_rfl
 i9:=by kernel_rfl
 i20:=by kernel_rfl
 i21:=by kernel_rfl
 i37:=by kernel_rfl
 i46:=by kernel_rfl
 i51:=by kernel_rfl
 i53:=by kernel_rfl
 i75:=by kernel_rfl
 i76:=by kernel_rfl
 i80:=by kernel_rfl
 i85:=by kernel_rfl
 i127:=by kernel_rfl
 i143:=by kernel_rfl
 i145:=by kernel_rfl
 i167:=by kernel_rfl
 i168:=by kernel_rfl
 i171:=by kernel_rfl
 i173:=by kernel_rfl
 i175:=by kernel_rfl
 i210:=by kernel_rfl
 i212:=by kernel_rfl
 i232:=by kernel_rfl
 i233:=by kernel_rfl
 m15:=by kernel_rfl
 m16:=by kernel_rfl
 m17:=by kernel_rfl
 m18:=by kernel_rfl
 m19:=by kernel_rfl
 c0:=by kernel_rfl
 c2:=by kernel_rfl
 c3:=by kernel_rfl
 c4:=by kernel_rfl
 c5:=by kernel_rfl
 c9:=by kernel_rfl
 c20:=by kernel_rfl
 c21:=by kernel_rfl
 c37:=by kernel_rfl
 c46:=by kernel_rfl
 c51:=by kernel_rfl
 c53:=by kernel_rfl
 c75:=by kernel_rfl
 c76:=by kernel_rfl
 c80:=by kernel_rfl
 c85:=by kernel_rfl
 c127:=by kernel_rfl
 c143:=by kernel_rfl
 c145:=by kernel_rfl
 c167:=by kernel_rfl
 c168:=by kernel_rfl
 c171:=by kernel_rfl
 c173:=by kernel_rfl
 c175:=by kernel_rfl
 c210:=by kernel_rfl
 c212:=by kernel_rfl
 c213:=by kernel_rfl
 c232:=by kernel_rfl
 c233:=by kernel_rfl }
open Go.RowKit in
theorem Tryz.strconv_Atoi_ok (s:ByteArray) (hmax:s.size<=9223372036854775806) (v:Int) (h:Lib.atoiAll s.data.toList=.ok v) (w:World):
 Calls Tryz.prog 73 #[.string s] w λe w'=>e=.returned (.tuple #[.int .i64 v,.nilIface])/\(w'=w\/∃t,w'=Lib.bytesWorld w 5 t):=Any.strconv_Atoi_ok Tryz.laysC172 s hmax v h w
open Go.RowKit in
theorem Tryz.strconv_Atoi_syntax (s:ByteArray) (hlim:s.size<=281474976710656) (h:Lib.atoiAll s.data.toList=Lib.NumEnd.syntax) (ev:Value) (w:World) (hv:w.cell? ⟨3,0,none⟩=some ev) (hev:ev=.nilIface\/∃te pe,ev=.iface te pe):
 Calls Tryz.prog 73 #[.string s] w λe w'=>∃N,e=.returned (.tuple #[.int .i64 (0),.iface 232 (.pointer (some ⟨N,0,none⟩))])/\w.heap.size<=N/\w'.heap[N]?=some (.cells #[.string ⟨#[65,116,111,105]⟩,.string s,ev] 266 (0,0))/\Below w.heap.size w w':=Any.strconv_Atoi_syntax Tryz.laysC172 s hlim h ev w hv hev
open Go.RowKit in
theorem Tryz.strconv_Atoi_range (s:ByteArray) (hlim:s.size<=281474976710656) (h:Lib.atoiAll s.data.toList=.range) (ev:Value) (w:World) (hv:w.cell? ⟨4,0,none⟩=some ev) (hev:ev=.nilIface\/∃te pe,ev=.iface te pe):
 Calls Tryz.prog 73 #[.string s] w λe w'=>∃N,e=.returned (.tuple #[.int .i64 (Lib.atoiSat s.data.toList),.iface 232 (.pointer (some ⟨N,0,none⟩))])/\w.heap.size<=N/\w'.heap[N]?=some (.cells #[.string ⟨#[65,116,111,105]⟩,.string s,ev] 266 (0,0))/\Below w.heap.size w w':=Any.strconv_Atoi_range Tryz.laysC172 s hlim h ev w hv hev
def Tryz.lays143_ren:Go.Shelf.Ren:=⟨fun | 143=>75 | 219=>110 | 217=>114 | 225=>155 | 224=>154 | 267=>156 | 266=>159 | 314=>185 | n=>n,fun | 9=>9 | 3=>3 | 4=>4 | 5=>5 | 46=>151 | 146=>183 | 51=>182 | n=>n,fun | 1=>0 | n=>n⟩
def Tryz.lays143:Go.Proofs.Lays.n143 Tryz.prog Tryz.lays143_ren:={
 mixed:=by kernel_rfl
 f143:=func75.trans (congrArg some (by kernel_rfl))
 f217:=func114.trans (congrArg some (by kernel_rfl))
 f219:=func110.trans (congrArg some (by kernel_rfl))
 f224:=func154.trans (congrArg some (by kernel_rfl))
 f225:=func155.trans (congrArg some (by kernel_rfl))
 f266:=func159.trans (congrArg some (by kernel_rfl))
 f267:=func156.trans (congrArg some (by kernel_rfl))
 f314:=func185.trans (congrArg some (by kernel_rfl))
 t3:=underlying3
 a3:=isAgg3
 z3:=sizeOf3
 v3:=zeroValue3
 t4:=underlying4
 a4:=isAgg4
 z4:=sizeOf4
 v4:=zeroValue4
 t5:=underlying5
 a5:=isAgg5
 z5:=sizeOf5
 v5:=zeroValue5
 t9:=underlying9
 a9:=isAgg9
 z9:=sizeOf9
 v9:=zeroValue9
 t46:=underlying151
 a46:=isAgg151
 z46:=sizeOf151
 v46:=zeroValue151
 t51:=underlying182
 a51:=isAgg182
 z51:=sizeOf182
 v51:=zeroValue182
 t146:=underlying183
 a146:=isAgg183
 z146:=sizeOf183
 v146:=zeroValue183
 g1:=by kernel_rfl }
open Go.RowKit Go.Lib in
theorem Tryz.strings_Index_one (s:ByteArray) (c:UInt8) (w:World):
 Calls Tryz.prog 75 #[.string s,.string ⟨#[c]⟩] w λe w'=>e=.returned (.int .i64 (Lib.indexByte s.data.toList c))/\w'=w:=Any.strings_Index_one Tryz.lays143 s c w
def Tryz.lays144_ren:Go.Shelf.Ren:=⟨fun | 144=>109 | 143=>75 | 219=>110 | 217=>114 | 225=>155 | 224=>154 | 267=>156 | 266=>159 | 314=>185 | n=>n,fun | 9=>9 | 4=>4 | 3=>3 | 5=>5 | 46=>151 | 146=>183 | 51=>182 | n=>n,fun | 1=>0 | n=>n⟩
def Tryz.lays144:Go.Proofs.Lays.n144 Tryz.prog Tryz.lays144_ren:={
 mixed:=by kernel_rfl
 f143:=func75.trans (congrArg some (by kernel_rfl))
 f144:=func109.trans (congrArg some (by kernel_rfl))
 f217:=func114.trans (congrArg some (by kernel_rfl))
 f219:=func110.trans (congrArg some (by kernel_rfl))
 f224:=func154.trans (congrArg some (by kernel_rfl))
 f225:=func155.trans (congrArg some (by kernel_rfl))
 f266:=func159.trans (congrArg some (by kernel_rfl))
 f267:=func156.trans (congrArg some (by kernel_rfl))
 f314:=func185.trans (congrArg some (by kernel_rfl))
 t3:=underlying3
 a3:=isAgg3
 z3:=sizeOf3
 v3:=zeroValue3
 t4:=underlying4
 a4:=isAgg4
 z4:=sizeOf4
 v4:=zeroValue4
 t5:=underlying5
 a5:=isAgg5
 z5:=sizeOf5
 v5:=zeroValue5
 t9:=underlying9
 a9:=isAgg9
 z9:=sizeOf9
 v9:=zeroValue9
 t46:=underlying151
 a46:=isAgg151
 z46:=sizeOf151
 v46:=zeroValue151
 t51:=underlying182
 a51:=isAgg182
 z51:=sizeOf182
 v51:=zeroValue182
 t146:=underlying183
 a146:=isAgg183
 z146:=sizeOf183
 v146:=zeroValue183
 g1:=by kernel_rfl }
open Go.RowKit Go.Lib in
theorem Tryz.strings_Contains_one (s:ByteArray) (c:UInt8) (w:World):
 Calls Tryz.prog 109 #[.string s,.string ⟨#[c]⟩] w λe w'=>e=.returned (.bool (decide (0<=Lib.indexByte s.data.toList c)))/\w'=w:=Any.strings_Contains_one Tryz.lays144 s c w
def Tryz.lays148_ren:Go.Shelf.Ren:=⟨fun | 148=>45 | 222=>70 | 223=>71 | 269=>104 | n=>n,fun | 9=>9 | 3=>3 | 4=>4 | 5=>5 | 146=>183 | 51=>182 | 46=>151 | n=>n,fun | n=>n⟩
def Tryz.lays148:Go.Proofs.Lays.n148 Tryz.prog Tryz.lays148_ren:={
 mixed:=by kernel_rfl
 f148:=func45.trans (congrArg some (by kernel_rfl))
 f222:=func70.trans (congrArg some (by kernel_rfl))
 f223:=func71.trans (congrArg some (by kernel_rfl))
 f269:=func104.trans (congrArg some (by kernel_rfl))
 t3:=underlying3
 a3:=isAgg3
 z3:=sizeOf3
 v3:=zeroValue3
 t4:=underlying4
 a4:=isAgg4
 z4:=sizeOf4
 v4:=zeroValue4
 t5:=underlying5
 a5:=isAgg5
 z5:=sizeOf5
 v5:=zeroValue5
 t9:=underlying9
 a9:=isAgg9
 z9:=sizeOf9
 v9:=zeroValue9
 t46:=underlying151
 a46:=isAgg151
 z46:=sizeOf151
 v46:=zeroValue151
 t51:=underlying182
 a51:=isAgg182
 z51:=sizeOf182
 v51:=zeroValue182
 t146:=underlying183
 a146:=isAgg183
 z146:=sizeOf183
 v146:=zeroValue183 }
open Go.RowKit Go.Lib in
theorem Tryz.strings_LastIndex_one (s sub:ByteArray) (h1:sub.size=1) (hs:s.size<4611686018427387904) (w:World):
 Calls Tryz.prog 45 #[.string s,.string sub] w λe w'=>e=.returned (.int .i64 (Lib.lastIndexByte s ((sub[0]'(by omega)).toNat:Int)))/\w'=w:=Any.strings_LastIndex_one Tryz.lays148 s sub h1 hs w
def Tryz.lays146_ren:Go.Shelf.Ren:=⟨fun | 146=>72 | 221=>105 | 268=>146 | 138=>147 | 143=>75 | 195=>179 | 197=>180 | 218=>181 | 219=>110 | 260=>192 | 217=>114 | 225=>155 | 224=>154 | 267=>156 | 266=>159 | 314=>185 | n=>n,fun | 9=>9 | 31=>28 | 3=>3 | 4=>4 | 0=>0 | 105=>261 | 21=>21 | 5=>5 | 46=>151 | 119=>278 | 139=>281 | 138=>280 | 146=>183 | 51=>182 | n=>n,fun | 1=>0 | 3=>7 | 4=>8 | n=>n⟩
def Tryz.lays146:Go.Proofs.Lays.n146 Tryz.prog Tryz.lays146_ren:={
 mixed:=by kernel_rfl
 f138:=func147.trans (congrArg some (by kernel_rfl))
 f143:=func75.trans (congrArg some (by kernel_rfl))
 f146:=func72.trans (congrArg some (by kernel_rfl))
 f195:=func179.trans (congrArg some (by kernel_rfl))
 f197:=func180.trans (congrArg some (by kernel_rfl))
 f217:=func114.trans (congrArg some (by kernel_rfl))
 f218:=func181.trans (congrArg some (by kernel_rfl))
 f219:=func110.trans (congrArg some (by kernel_rfl))
 f221:=func105.trans (congrArg some (by kernel_rfl))
 f224:=func154.trans (congrArg some (by kernel_rfl))
 f225:=func155.trans (congrArg some (by kernel_rfl))
 f260:=func192.trans (congrArg some (by kernel_rfl))
 f266:=func159.trans (congrArg some (by kernel_rfl))
 f267:=func156.trans (congrArg some (by kernel_rfl))
 f268:=func146.trans (congrArg some (by kernel_rfl))
 f314:=func185.trans (congrArg some (by kernel_rfl))
 t0:=underlying0
 a0:=isAgg0
 z0:=sizeOf0
 v0:=zeroValue0
 t3:=underlying3
 a3:=isAgg3
 z3:=sizeOf3
 v3:=zeroValue3
 t4:=underlying4
 a4:=isAgg4
 z4:=sizeOf4
 v4:=zeroValue4
 t5:=underlying5
 a5:=isAgg5
 z5:=sizeOf5
 v5:=zeroValue5
 t9:=underlying9
 a9:=isAgg9
 z9:=sizeOf9
 v9:=zeroValue9
 t21:=underlying21
 a21:=isAgg21
 z21:=sizeOf21
 v21:=zeroValue21
 t31:=underlying28
 a31:=isAgg28
 z31:=sizeOf28
 v31:=zeroValue28
 t46:=underlying151
 a46:=isAgg151
 z46:=sizeOf151
 v46:=zeroValue151
 t51:=underlying182
 a51:=isAgg182
 z51:=sizeOf182
 v51:=zeroValue182
 t105:=underlying261
 a105:=isAgg261
 z105:=sizeOf261
 v105:=zeroValue261
 t119:=underlying278
 a119:=isAgg278
 z119:=sizeOf278
 t138:=underlying280
 a138:=isAgg280
 z138:=sizeOf280
 v138:=zeroValue280
 t139:=underlying281
 a139:=isAgg281
 z139:=sizeOf281
 v139:=zeroValue281
 t146:=underlying183
 a146:=isAgg183
 z146:=sizeOf183
 v146:=zeroValue183
 g1:=by kernel_rfl
 g3:=by kernel_rfl
 g4:=by kernel_rfl }
open Go.RowKit Go.Lib in
theorem Tryz.strings_Split (s sep:ByteArray) (m:Int) (w:World) (hs:s.size<4294967281) (hm:w.cell? ⟨0,0,none⟩=some (.int .i64 m)) (h1:1<=sep.size):
 Calls Tryz.prog 72 #[.string s,.string sep] w λe w'=>
  e=.returned (.slice (some ⟨w.heap.size,0,none⟩) (Lib.countB s sep+1) (Lib.countB s sep+1))/\w'=w.alloc (.cells ((Lib.splitB sep 0 (Lib.countB s sep) s).map Value.string).toArray 9):=Any.strings_Split Tryz.lays146 (by kernel_rfl) s sep m w hs hm h1
def Tryz.lays152_ren:Go.Shelf.Ren:=⟨fun | 152=>108 | 137=>80 | 119=>153 | 224=>154 | 225=>155 | 217=>114 | 266=>159 | n=>n,fun | 9=>9 | 21=>21 | 3=>3 | 4=>4 | 5=>5 | 0=>0 | 46=>151 | n=>n,fun | n=>n⟩
def Tryz.lays152:Go.Proofs.Lays.n152 Tryz.prog Tryz.lays152_ren:={
 mixed:=by kernel_rfl
 f119:=func153.trans (congrArg some (by kernel_rfl))
 f137:=func80.trans (congrArg some (by kernel_rfl))
 f152:=func108.trans (congrArg some (by kernel_rfl))
 f217:=func114.trans (congrArg some (by kernel_rfl))
 f224:=func154.trans (congrArg some (by kernel_rfl))
 f225:=func155.trans (congrArg some (by kernel_rfl))
 f266:=func159.trans (congrArg some (by kernel_rfl))
 t0:=underlying0
 a0:=isAgg0
 z0:=sizeOf0
 v0:=zeroValue0
 t3:=underlying3
 a3:=isAgg3
 z3:=sizeOf3
 v3:=zeroValue3
 t4:=underlying4
 a4:=isAgg4
 z4:=sizeOf4
 v4:=zeroValue4
 t5:=underlying5
 a5:=isAgg5
 z5:=sizeOf5
 v5:=zeroValue5
 t9:=underlying9
 a9:=isAgg9
 z9:=sizeOf9
 v9:=zeroValue9
 t21:=underlying21
 a21:=isAgg21
 z21:=sizeOf21
 v21:=zeroValue21
 t46:=underlying151
 a46:=isAgg151
 z46:=sizeOf151
 v46:=zeroValue151 }
open Go.RowKit Go.Lib in
theorem Tryz.strings_IndexRune_ascii (s:ByteArray) (r:Int) (w:World) (h0:0<=r) (h1:r<128):
 Calls Tryz.prog 108 #[.string s,.int .i32 r] w λe w'=>e=.returned (.int .i64 (Lib.indexByte s.data.toList r.toNat.toUInt8))/\w'=w:=Any.strings_IndexRune_ascii Tryz.lays152 s r w h0 h1
end Go.Proofs
namespace Go.Proofs
open Go.Proofs.Tryz
open Go.RowKit Go.Shelf Go.Lib Go.Vm.X Go.Vm Go.Sort
namespace S07
def mixed:Tryz.prog.follows Departure.mixedOrders=true:=by kernel_rfl
def Grw (w w':World):Prop:=∃q os',w'=grow (w.drewN q) os'
def Grw.refl (w:World):Grw w w:=⟨0,#[],by simp[grow_empty,World.drewN]⟩
def Grw.alloc {w w':World} (h:Grw w w') (o:Obj):Grw w (w'.alloc o):=by
 obtain⟨q,os,rfl⟩:=h;exact⟨q,os++#[o],by rw[alloc_eq_grow,grow_grow]⟩
def Grw.cell {w w':World} {p:Addr} {v:Value} (h:Grw w w') (hc:w.cell? p=some v):w'.cell? p=some v:=by
 obtain⟨q,os',rfl⟩:=h;rw[cell?_grow _ _ _ (by have:=World.block_lt_of_cell? w p hc;simpa[World.drewN] using this)];exact hc
def Grw.trans {w1 w2 w3:World} (h:Grw w1 w2) (k:Grw w2 w3):Grw w1 w3:=by
 obtain⟨q,os,rfl⟩:=h;obtain⟨q',os',rfl⟩:=k;exact⟨q+q',os++os',by simp[grow,World.drewN,kG,Array.append_assoc]⟩
def jxm (a b:Int):Lib.compareInt a b=c3 a b:=by
 unfold Lib.compareInt c3;by_cases h:a<b
 ·simp[h]
 ·by_cases h2:b<a<;>simp[h,h2]
def tM (a b:Int) (w:World):Calls Tryz.prog 85 #[.int .i64 a,.int .i64 b] w λe w'=>e=.returned (.int .i64 (c3 a b))/\w'=w:=
 (Tryz.cmp_Compare_int a b w).mono λe w' ⟨h,h2⟩=>⟨by rw[h,jxm],h2⟩
def oI:List (Int×Int)->Int
 | []=>0
 | x::l=>lx (c3 x.1 x.2) (oI l)
set_option maxHeartbeats 4000000 in
set_option maxRecDepth 100000 in
theorem j4r (a b x y:Int) (p c:Nat) (w:World) (h0:w.cell? ⟨p,0,none⟩=some (.int .i64 a)) (h1:w.cell? ⟨p,1,none⟩=some (.int .i64 b)) (h2:w.cell? ⟨p,2,none⟩=some (.int .i64 x)) (h3:w.cell? ⟨p,3,none⟩=some (.int .i64 y)):
  Calls Tryz.prog 55 #[.slice (some ⟨p,0,none⟩) 2 c] w λe w'=>e=.returned (.int .i64 (oI [(a,b),(x,y)]))/\Grw w w':=by
 have mixed:=mixed
 go_enter func55,ntmps55
 go_wp2
 go_loopg [8] 2 (λg s8 wr=>∃k:Nat,k<=2/\2-k<=g/\s8=.int .i64 k/\Grw w wr/\Aside ((1<=k->c3 a b=0)/\(2<=k->c3 x y=0)))
 case atStart=>exact⟨0,fM _,by omega,rfl,Grw.refl w,λh=>absurd h (by omega),λh=>absurd h (by omega)⟩
 case round=>
  obtain⟨k,hk,hg,rfl,hG,A⟩:=hrel;have g0:=hG.cell h0;have g1:=hG.cell h1;have g2:=hG.cell h2;have g3:=hG.cell h3;rcases(by omega:k=0\/k=1\/k=2) with rfl | rfl | rfl
  ·by_cases ha:c3 a b=0
   ·go_wp2_with (go_at_call 85;refine(tM _ _ _).mono ?_;rintro e w' ⟨rfl,rfl⟩)
    go_roundg 1
    case measure=>omega
    case rel=>exact⟨1,by omega,by omega,by go_num,hG.alloc _,λ_=>ha,λh=>absurd h (by omega)⟩
   ·go_wp2_with (go_at_call 85;refine(tM _ _ _).mono ?_;rintro e w' ⟨rfl,rfl⟩)
    go_ret
    exact⟨by simp[oI,lx,ha],hG.alloc _⟩
  ·have ha:=A.out.1 (by omega);by_cases hb:c3 x y=0
   ·go_wp2_with (go_at_call 85;refine(tM _ _ _).mono ?_;rintro e w' ⟨rfl,rfl⟩)
    go_roundg 0
    case measure=>omega
    case rel=>exact⟨2,by omega,by omega,by go_num,hG.alloc _,λ_=>ha,λ_=>hb⟩
   ·go_wp2_with (go_at_call 85;refine(tM _ _ _).mono ?_;rintro e w' ⟨rfl,rfl⟩)
    go_ret
    exact⟨by simp[oI,lx,ha,hb],hG.alloc _⟩
  ·have ha:=A.out.1 (by omega);have hb:=A.out.2 (by omega)
   go_wp2
   go_ret
   exact⟨by simp[oI,lx,ha,hb],hG⟩
set_option maxHeartbeats 4000000 in
set_option maxRecDepth 100000 in
theorem j4t (a b x y u v:Int) (p c:Nat) (w:World) (h0:w.cell? ⟨p,0,none⟩=some (.int .i64 a)) (h1:w.cell? ⟨p,1,none⟩=some (.int .i64 b)) (h2:w.cell? ⟨p,2,none⟩=some (.int .i64 x)) (h3:w.cell? ⟨p,3,none⟩=some (.int .i64 y))
  (h4:w.cell? ⟨p,4,none⟩=some (.int .i64 u)) (h5:w.cell? ⟨p,5,none⟩=some (.int .i64 v)):
  Calls Tryz.prog 55 #[.slice (some ⟨p,0,none⟩) 3 c] w λe w'=>e=.returned (.int .i64 (oI [(a,b),(x,y),(u,v)]))/\Grw w w':=by
 have mixed:=mixed
 go_enter func55,ntmps55
 go_wp2
 go_loopg [8] 3 (λg s8 wr=>∃k:Nat,k<=3/\3-k<=g/\s8=.int .i64 k/\Grw w wr/\Aside ((1<=k->c3 a b=0)/\(2<=k->c3 x y=0)/\(3<=k->c3 u v=0)))
 case atStart=>exact⟨0,fM _,by omega,rfl,Grw.refl w,λh=>absurd h (by omega),λh=>absurd h (by omega),λh=>absurd h (by omega)⟩
 case round=>
  obtain⟨k,hk,hg,rfl,hG,A⟩:=hrel;have g0:=hG.cell h0;have g1:=hG.cell h1;have g2:=hG.cell h2;have g3:=hG.cell h3;have g4:=hG.cell h4;have g5:=hG.cell h5;rcases(by omega:k=0\/k=1\/k=2\/k=3) with rfl | rfl | rfl | rfl
  ·by_cases ha:c3 a b=0
   ·go_wp2_with (go_at_call 85;refine(tM _ _ _).mono ?_;rintro e w' ⟨rfl,rfl⟩)
    go_roundg 2
    case measure=>omega
    case rel=>exact⟨1,by omega,by omega,by go_num,hG.alloc _,λ_=>ha,λh=>absurd h (by omega),λh=>absurd h (by omega)⟩
   ·go_wp2_with (go_at_call 85;refine(tM _ _ _).mono ?_;rintro e w' ⟨rfl,rfl⟩)
    go_ret
    exact⟨by simp[oI,lx,ha],hG.alloc _⟩
  ·have ha:=A.out.1 (by omega);by_cases hb:c3 x y=0
   ·go_wp2_with (go_at_call 85;refine(tM _ _ _).mono ?_;rintro e w' ⟨rfl,rfl⟩)
    go_roundg 1
    case measure=>omega
    case rel=>exact⟨2,by omega,by omega,by go_num,hG.alloc _,λ_=>ha,λ_=>hb,λh=>absurd h (by omega)⟩
   ·go_wp2_with (go_at_call 85;refine(tM _ _ _).mono ?_;rintro e w' ⟨rfl,rfl⟩)
    go_ret
    exact⟨by simp[oI,lx,ha,hb],hG.alloc _⟩
  ·have ha:=A.out.1 (by omega);have hb:=A.out.2.1 (by omega);by_cases hc:c3 u v=0
   ·go_wp2_with (go_at_call 85;refine(tM _ _ _).mono ?_;rintro e w' ⟨rfl,rfl⟩)
    go_roundg 0
    case measure=>omega
    case rel=>exact⟨3,by omega,by omega,by go_num,hG.alloc _,λ_=>ha,λ_=>hb,λ_=>hc⟩
   ·go_wp2_with (go_at_call 85;refine(tM _ _ _).mono ?_;rintro e w' ⟨rfl,rfl⟩)
    go_ret
    exact⟨by simp[oI,lx,ha,hb,hc],hG.alloc _⟩
  ·have ha:=A.out.1 (by omega);have hb:=A.out.2.1 (by omega);have hc:=A.out.2.2 (by omega)
   go_wp2
   go_ret
   exact⟨by simp[oI,lx,ha,hb,hc],hG⟩
def tT (W:World) (l:Array Value) (t:TypeId) (i:Nat) (v:Value) (h:l[i]?=some v):(W.alloc (.cells l t)).cell? ⟨W.heap.size,i,none⟩=some v:=by rw[World.cell?_alloc_new W _ _ i,h]
def j4q (Y:World) (s:Nat) (hs:Y.heap.size=s) (a b x y:Int) (t:TypeId):Calls Tryz.prog 55 #[.slice (some ⟨s,0,none⟩) 2 2] (Y.alloc (.cells #[.int .i64 a,.int .i64 b,.int .i64 x,.int .i64 y] t)) λe w'=>e=.returned (.int .i64 (oI [(a,b),(x,y)]))/\Grw (Y.alloc (.cells #[.int .i64 a,.int .i64 b,.int .i64 x,.int .i64 y] t)) w':=by
 subst hs;exact j4r _ _ _ _ _ _ _ (tT _ _ _ 0 _ rfl) (tT _ _ _ 1 _ rfl) (tT _ _ _ 2 _ rfl) (tT _ _ _ 3 _ rfl)
def j4s (Y:World) (s:Nat) (hs:Y.heap.size=s) (a b x y u v:Int) (t:TypeId):Calls Tryz.prog 55 #[.slice (some ⟨s,0,none⟩) 3 3] (Y.alloc (.cells #[.int .i64 a,.int .i64 b,.int .i64 x,.int .i64 y,.int .i64 u,.int .i64 v] t)) λe w'=>e=.returned (.int .i64 (oI [(a,b),(x,y),(u,v)]))/\Grw (Y.alloc (.cells #[.int .i64 a,.int .i64 b,.int .i64 x,.int .i64 y,.int .i64 u,.int .i64 v] t)) w':=by
 subst hs;exact j4t _ _ _ _ _ _ _ _ _ (tT _ _ _ 0 _ rfl) (tT _ _ _ 1 _ rfl) (tT _ _ _ 2 _ rfl) (tT _ _ _ 3 _ rfl) (tT _ _ _ 4 _ rfl) (tT _ _ _ 5 _ rfl)
def jl9 (a:Int):lx a 0=a:=by
 unfold lx;by_cases h:a=0<;>simp[h]
def Grw.al2 {w w':World} (o1 o2 o3:Obj) (h:Grw (((w.alloc o1).alloc o2).alloc o3) w'):Grw w w':=((((Grw.refl w).alloc o1).alloc o2).alloc o3).trans h
set_option maxHeartbeats 4000000 in
set_option maxRecDepth 100000 in
theorem cmpC_walk (x:bQ) (y:bQ) (w:World):Calls Tryz.prog 54 #[.agg #[.int .i64 x.1,.int .u8 x.2.1,.int .u8 x.2.2],.agg #[.int .i64 y.1,.int .u8 y.2.1,.int .u8 y.2.2]] w λe w'=>e=.returned (.int .i64 (lE x y))/\Grw w w':=by
 have mixed:=mixed
 go_enter func54,ntmps54
 go_wp2_with (go_at_call 55;refine(j4q _ _ (by simp) _ _ _ _ _).mono ?_;rintro e w' ⟨rfl,hG⟩)
 go_ret
 exact⟨by simp only[oI,jl9];rfl,hG.al2⟩
set_option maxHeartbeats 4000000 in
set_option maxRecDepth 100000 in
theorem cmpG_walk (x:dH) (y:dH) (w:World):Calls Tryz.prog 60 #[.agg #[.int .u8 x.1,.int .u8 x.2.1.1,.int .i64 x.2.1.2,.int .i64 x.2.2.1,.int .i64 x.2.2.2],.agg #[.int .u8 y.1,.int .u8 y.2.1.1,.int .i64 y.2.1.2,.int .i64 y.2.2.1,.int .i64 y.2.2.2]] w λe w'=>e=.returned (.int .i64 (jW x y))/\Grw w w':=by
 have mixed:=mixed
 go_enter func60,ntmps60
 go_wp2_with (go_at_call 55;refine(j4s _ _ (by simp) _ _ _ _ _ _ _).mono ?_;rintro e w' ⟨rfl,hG⟩)
 go_ret
 exact⟨by simp only[oI,jl9];rfl,hG.al2⟩
end S07
end Go.Proofs
namespace Go.Proofs
open Go.Proofs.Tryz
open Go.RowKit Go.Shelf Go.Lib Go.Vm.X Go.Vm Go.Sort
namespace S07
def Yl (w:World) (d:Nat):Below w.heap.size w { heap:=w.heap,tape:=w.tape,drawn:=d,os:=w.os,output:=w.output }:=⟨rfl,rfl,rfl,aU _,λ_ _=>rfl⟩
def jvg (w:World) (s:ByteArray) (p:Nat):Below w.heap.size w (w.iter s p):=by
 have h:(w.iter s p).heap=w.heap.push (.stringIter s p):=rfl;refine⟨rfl,rfl,rfl,?_,λk hk=>?_⟩
 ·rw[h,Gb];omega
 ·rw[h,Lj,aD (by omega)]
def Rg:∀(l:List UInt8) (c:UInt8),c∉l->Lib.indexByte l c= -1
 | [],c,_=>rfl
 | b::l,c,h=>by
   have h1:¬b=c:=λe=>h (by rw[e];exact bY)
   have h2:=Rg l c λe=>h (bX _ e)
   simp[Lib.indexByte,h1,h2]
set_option maxHeartbeats 2000000 in
set_option maxRecDepth 100000 in
theorem jzf (r:Int) (h0:128<=r) (h1:r<=1114111) (h2:r≠65533) (hv:r<55296\/57343<r) (w:World) (b0 b1:UInt8) (he:Utf8.encode r=⟨#[b0,b1]⟩) (hb:128<=b1.toNat):
  Calls Tryz.prog 108 #[.string ⟨#[32,120,121,117,100]⟩,.int .i32 r] w λe w'=>e=.returned (.int .i64 (-1))/\Below w.heap.size w w':=by
 have mixed:=mixed;have hcv:∀w,(convert 21 9 (.int .i32 r)).run Tryz.prog w=.ok (.string ⟨#[b0,b1]⟩) w:=λw=>by rw[<-he];exact run_convert_int_string w 21 9 .i32 r (by kernel_rfl) (by kernel_rfl)
 have e4:IntKind.i64.wrap 2=2:=by decide
 have q1:((⟨#[32,120,121,117,100]⟩:ByteArray)[1]'(by decide)).toNat=120:=by decide
 have q2:((⟨#[b0,b1]⟩:ByteArray)[1]'(by show 1<2;decide)).toNat=b1.toNat:=rfl;have q3:Lib.indexByte [121,117,100] b1= -1:=Rg _ _ λhm=>by
  have:∀x∈([121,117,100]:List UInt8),x.toNat<128:=by decide
  have:=this _ hm;omega
 have hb3:¬((120:Int)=(b1.toNat:Int)):=by omega
 have hb4:¬((b1.toNat:Int)=(120:Int)):=by omega
 rcases hv with hv | hv
 all_goals
  go_enter func108,ntmps108
  go_wp2_with (first | (exfalso;omega) | go_step3 | go_still mixed | (refine wp_loop_rounds 1 ?_;rw[rounds_succ]) | go_in)
  refine wp_region_still_lit mixed (by kernel_rfl) ?_;repeat still_step
  still_call (Any.strings_IndexByte { Tryz.lays152 with } _ _ _)
  repeat still_step
  refine wpStill_nil ?_;go_wp2_with (first | (exfalso;omega) | go_step3 | go_still mixed | (refine wp_loop_rounds 1 ?_;rw[rounds_succ]) | go_in)
  (try simp only[Exit.noGoto,Exit.inBlock,Exit.then])
  go_ret
  exact⟨rfl,Yl w _⟩
set_option maxHeartbeats 2000000 in
set_option maxRecDepth 100000 in
theorem jzg (r:Int) (h0:128<=r) (h1:r<=1114111) (h2:r≠65533) (hv:r<55296\/57343<r) (w:World) (b0 b1 b2:UInt8) (he:Utf8.encode r=⟨#[b0,b1,b2]⟩) (hb:128<=b2.toNat):
  Calls Tryz.prog 108 #[.string ⟨#[32,120,121,117,100]⟩,.int .i32 r] w λe w'=>e=.returned (.int .i64 (-1))/\Below w.heap.size w w':=by
 have mixed:=mixed;have hcv:∀w,(convert 21 9 (.int .i32 r)).run Tryz.prog w=.ok (.string ⟨#[b0,b1,b2]⟩) w:=λw=>by rw[<-he];exact run_convert_int_string w 21 9 .i32 r (by kernel_rfl) (by kernel_rfl)
 have e4:IntKind.i64.wrap 3=3:=by decide
 have q1:((⟨#[32,120,121,117,100]⟩:ByteArray)[2]'(by decide)).toNat=121:=by decide
 have q2:((⟨#[b0,b1,b2]⟩:ByteArray)[2]'(by show 2<3;decide)).toNat=b2.toNat:=rfl;have q3:Lib.indexByte [117,100] b2= -1:=Rg _ _ λhm=>by
  have:∀x∈([117,100]:List UInt8),x.toNat<128:=by decide
  have:=this _ hm;omega
 have hb3:¬((121:Int)=(b2.toNat:Int)):=by omega
 have hb4:¬((b2.toNat:Int)=(121:Int)):=by omega
 rcases hv with hv | hv
 all_goals
  go_enter func108,ntmps108
  go_wp2_with (first | (exfalso;omega) | go_step3 | go_still mixed | (refine wp_loop_rounds 1 ?_;rw[rounds_succ]) | go_in)
  refine wp_region_still_lit mixed (by kernel_rfl) ?_;repeat still_step
  still_call (Any.strings_IndexByte { Tryz.lays152 with } _ _ _)
  repeat still_step
  refine wpStill_nil ?_;go_wp2_with (first | (exfalso;omega) | go_step3 | go_still mixed | (refine wp_loop_rounds 1 ?_;rw[rounds_succ]) | go_in)
  (try simp only[Exit.noGoto,Exit.inBlock,Exit.then])
  go_ret
  exact⟨rfl,Yl w _⟩
set_option maxHeartbeats 2000000 in
set_option maxRecDepth 100000 in
theorem jzh (r:Int) (h0:128<=r) (h1:r<=1114111) (h2:r≠65533) (hv:r<55296\/57343<r) (w:World) (b0 b1 b2 b3:UInt8) (he:Utf8.encode r=⟨#[b0,b1,b2,b3]⟩) (hb:128<=b3.toNat):
  Calls Tryz.prog 108 #[.string ⟨#[32,120,121,117,100]⟩,.int .i32 r] w λe w'=>e=.returned (.int .i64 (-1))/\Below w.heap.size w w':=by
 have mixed:=mixed;have hcv:∀w,(convert 21 9 (.int .i32 r)).run Tryz.prog w=.ok (.string ⟨#[b0,b1,b2,b3]⟩) w:=λw=>by rw[<-he];exact run_convert_int_string w 21 9 .i32 r (by kernel_rfl) (by kernel_rfl)
 have e4:IntKind.i64.wrap 4=4:=by decide
 have q1:((⟨#[32,120,121,117,100]⟩:ByteArray)[3]'(by decide)).toNat=117:=by decide
 have q2:((⟨#[b0,b1,b2,b3]⟩:ByteArray)[3]'(by show 3<4;decide)).toNat=b3.toNat:=rfl;have q3:Lib.indexByte [100] b3= -1:=Rg _ _ λhm=>by
  have:∀x∈([100]:List UInt8),x.toNat<128:=by decide
  have:=this _ hm;omega
 have hb3:¬((117:Int)=(b3.toNat:Int)):=by omega
 have hb4:¬((b3.toNat:Int)=(117:Int)):=by omega
 rcases hv with hv | hv
 all_goals
  go_enter func108,ntmps108
  go_wp2_with (first | (exfalso;omega) | go_step3 | go_still mixed | (refine wp_loop_rounds 1 ?_;rw[rounds_succ]) | go_in)
  refine wp_region_still_lit mixed (by kernel_rfl) ?_;repeat still_step
  still_call (Any.strings_IndexByte { Tryz.lays152 with } _ _ _)
  repeat still_step
  refine wpStill_nil ?_;go_wp2_with (first | (exfalso;omega) | go_step3 | go_still mixed | (refine wp_loop_rounds 1 ?_;rw[rounds_succ]) | go_in)
  (try simp only[Exit.noGoto,Exit.inBlock,Exit.then])
  go_ret
  exact⟨rfl,Yl w _⟩
set_option maxHeartbeats 2000000 in
set_option maxRecDepth 100000 in
theorem jze (w:World):Calls Tryz.prog 108 #[.string ⟨#[32,120,121,117,100]⟩,.int .i32 65533] w λe w'=>e=.returned (.int .i64 (-1))/\Below w.heap.size w w':=by
 have mixed:=mixed;have hn0:∀ty,(Instr.next (.pointer (some ⟨w.heap.size,0,none⟩)) true ty).run Tryz.prog (w.iter ⟨#[32,120,121,117,100]⟩ 0)=.ok (.tuple #[.bool true,.int .i64 0,.int .i32 32]) (w.iter ⟨#[32,120,121,117,100]⟩ 1):=λty=>run_next_any (P:=Tryz.prog) w _ 0 ty (by decide)
 have hn1:∀ty,(Instr.next (.pointer (some ⟨w.heap.size,0,none⟩)) true ty).run Tryz.prog (w.iter ⟨#[32,120,121,117,100]⟩ 1)=.ok (.tuple #[.bool true,.int .i64 1,.int .i32 120]) (w.iter ⟨#[32,120,121,117,100]⟩ 2):=λty=>run_next_any (P:=Tryz.prog) w _ 1 ty (by decide)
 have hn2:∀ty,(Instr.next (.pointer (some ⟨w.heap.size,0,none⟩)) true ty).run Tryz.prog (w.iter ⟨#[32,120,121,117,100]⟩ 2)=.ok (.tuple #[.bool true,.int .i64 2,.int .i32 121]) (w.iter ⟨#[32,120,121,117,100]⟩ 3):=λty=>run_next_any (P:=Tryz.prog) w _ 2 ty (by decide)
 have hn3:∀ty,(Instr.next (.pointer (some ⟨w.heap.size,0,none⟩)) true ty).run Tryz.prog (w.iter ⟨#[32,120,121,117,100]⟩ 3)=.ok (.tuple #[.bool true,.int .i64 3,.int .i32 117]) (w.iter ⟨#[32,120,121,117,100]⟩ 4):=λty=>run_next_any (P:=Tryz.prog) w _ 3 ty (by decide)
 have hn4:∀ty,(Instr.next (.pointer (some ⟨w.heap.size,0,none⟩)) true ty).run Tryz.prog (w.iter ⟨#[32,120,121,117,100]⟩ 4)=.ok (.tuple #[.bool true,.int .i64 4,.int .i32 100]) (w.iter ⟨#[32,120,121,117,100]⟩ 5):=λty=>run_next_any (P:=Tryz.prog) w _ 4 ty (by decide)
 have hn5:∀ty,(Instr.next (.pointer (some ⟨w.heap.size,0,none⟩)) true ty).run Tryz.prog (w.iter ⟨#[32,120,121,117,100]⟩ 5)=.ok (.tuple #[.bool false]) (w.iter ⟨#[32,120,121,117,100]⟩ 5):=λty=>run_next_end (P:=Tryz.prog) w _ 5 ty (by decide)
 go_enter func108,ntmps108
 go_wp2_with (first | go_step3 | go_still mixed | (refine wp_loop_rounds 6 ?_;rw[rounds_succ]) | (rw[rounds_succ]) | go_in)
 go_ret
 exact⟨rfl,jvg w _ _⟩
def vB (r:Int):Int:=if r<128 then Lib.indexByte [32,120,121,117,100] r.toNat.toUInt8 else -1
def jyc (r:Int) (hv:Utf8.valid r=true) (h:128<=r):(∃b0 b1,Utf8.encode r=⟨#[b0,b1]⟩/\128<=b1.toNat)\/(∃b0 b1 b2,Utf8.encode r=⟨#[b0,b1,b2]⟩/\128<=b2.toNat)\/(∃b0 b1 b2 b3,Utf8.encode r=⟨#[b0,b1,b2,b3]⟩/\128<=b3.toNat):=by
 have hc:¬r.toNat<128:=by omega
 have hl:128<=(UInt8.ofNat (128+r.toNat%64)).toNat:=by simp;omega
 unfold Utf8.encode;simp only[hv,bR,hc,cO];split
 ·exact .inl ⟨_,_,rfl,hl⟩
 ·split
  ·exact .inr (.inl ⟨_,_,_,rfl,hl⟩)
  ·exact .inr (.inr ⟨_,_,_,_,rfl,hl⟩)
def je6 (r:Int):Utf8.valid r=true↔0<=r/\(r<55296\/57344<=r/\r<=1114111):=by
 unfold Utf8.valid;simp only[kD,aN,aH];omega
def jxy (s:ByteArray) (pos:Nat):Utf8.valid ((Utf8.decode s pos).1:Int)=true:=by
 unfold Utf8.decode;simp only;split
 ·rw[je6];simp only;omega
 ·split
  ·split
   ·rw[je6];simp only;omega
   ·decide
  ·split
   ·split
    ·rename_i h;simp only[aN] at h;exact h.2
    ·decide
   ·split
    ·split
     ·rename_i h;simp only[aN] at h;exact h.2
     ·decide
    ·decide
def jzj (r:Int) (hv:Utf8.valid r=true) (w:World):Calls Tryz.prog 108 #[.string ⟨#[32,120,121,117,100]⟩,.int .i32 r] w λe w'=>e=.returned (.int .i64 (vB r))/\Below w.heap.size w w':=by
 have hv2:=(je6 r).1 hv;by_cases h:r<128
 ·refine(Tryz.strings_IndexRune_ascii _ r w hv2.1 h).mono ?_;rintro e w' ⟨rfl,rfl⟩;refine⟨?_,Below.refl _ _⟩;unfold vB;rw[aK h]
 ·have e5:vB r= -1:=by unfold vB;rw[aD h]
  rw[e5];by_cases he:r=65533
  ·subst he;exact jze w
  ·have h1:r<=1114111:=by omega
   have hr:r<55296\/57343<r:=by omega
   rcases jyc r hv (by omega) with⟨b0,b1,g,hb⟩ | ⟨b0,b1,b2,g,hb⟩ | ⟨b0,b1,b2,b3,g,hb⟩
   ·exact jzf r (by omega) h1 he hr w b0 b1 g hb
   ·exact jzg r (by omega) h1 he hr w b0 b1 b2 g hb
   ·exact jzh r (by omega) h1 he hr w b0 b1 b2 b3 g hb
end S07
end Go.Proofs
namespace Go.Proofs
open Go.Proofs.Tryz
open Go.RowKit Go.Shelf Go.Lib Go.Vm.X Go.Vm Go.Sort
namespace S07
def nF (pos:Nat) (r:Int) (x:Int×Int):Int×Int:=
 if pos=0 then(max (vB r) 0,x.2)
 else if 1<pos/\48<=r/\r<=57/\x.2<=4096 then(x.1,10*x.2+ (r-48)) else x
def Eu (L:List Nat):Nat->Int×Int
 | 0=>(0,0)
 | n+1=>nF n (L.getD n 0:Nat) (Eu L n)
abbrev LW0 (w:World) (k c:Int):World:=(w.alloc (.cells #[.int .u8 0,.int .i64 0] 54)).alloc (.cells #[.int .u8 k,.int .i64 c] 54)
abbrev LW (w:World) (k c:Int) (s:ByteArray) (pos:Nat):World:=(LW0 w k c).iter s pos
def kal (s:ByteArray) (pos:Nat) (h:pos<s.size):1<=(Utf8.decode s pos).2:=by
 by_cases ha:(s[pos]'h).toNat<128
 ·rw[decode_ascii s pos h ha];exact aU _
 ·exact(decode_high s pos h (by omega)).2
def bytesN (s:ByteArray):List Nat:=s.data.toList.map UInt8.toNat
def bytesN_get (s:ByteArray) (i:Nat) (h:i<s.size):(bytesN s).getD i 0=(s[i]'h).toNat:=by
 unfold bytesN;rw[jF,jH,lZ,mA (show i<s.data.size from h)];rfl
def jkm:∀(l:List UInt8) (c:UInt8), -1<=Lib.indexByte l c/\Lib.indexByte l c<l.length
 | [],c=>by simp[Lib.indexByte]
 | b::l,c=>by
   obtain⟨h1,h2⟩:=jkm l c;simp only[Lib.indexByte,dG];split
   ·omega
   ·split<;>omega
def jkl (r:Int): -1<=vB r/\vB r<5:=by
 unfold vB;split
 ·have:=jkm [32,120,121,117,100] r.toNat.toUInt8;simpa using this
 ·decide
def lpFin (L:List Nat):Int×Int:=if 0<=Lib.indexByte (L.map UInt8.ofNat) 45 then((Eu L L.length).1, -(Eu L L.length).2) else Eu L L.length
def jhc (s:ByteArray):(bytesN s).map UInt8.ofNat=s.data.toList:=by
 unfold bytesN;rw[lO];have:(UInt8.ofNat∘UInt8.toNat)=id:=by funext x;simp
 rw[this,Ge]
structure LpR (s:ByteArray) (pos:Nat) (k c:Int):Prop where
 k0:0<=k
 k1:k<=4
 c0:0<=c
 c1:c<=40969
 asc:(∀i (h:i<s.size),(s[i]'h).toNat<128)->pos<=s.size/\(k,c)=Eu (bytesN s) pos
def LpR.step {s:ByteArray} {pos:Nat} {k c:Int} (h:LpR s pos k c) (hp:pos<s.size):
  LpR s (pos+ (Utf8.decode s pos).2) (nF pos (Utf8.decode s pos).1 (k,c)).1 (nF pos (Utf8.decode s pos).1 (k,c)).2:=by
 have hi:=jkl (Utf8.decode s pos).1;obtain⟨k0,k1,c0,c1,asc⟩:=h;refine⟨?_,?_,?_,?_,λha=>?_⟩
 ·unfold nF;split
  ·simp only;omega
  ·split<;>simp only<;>omega
 ·unfold nF;split
  ·simp only;omega
  ·split<;>simp only<;>omega
 ·unfold nF;split
  ·simp only;omega
  ·split
   ·simp only at *;omega
   ·exact c0
 ·unfold nF;split
  ·simp only;omega
  ·split
   ·simp only at *;omega
   ·exact c1
 ·obtain⟨h1,h2⟩:=asc ha;rw[decode_ascii s pos hp (ha pos hp)];refine⟨hp,?_⟩;simp only[Eu];rw[<-h2,bytesN_get s pos hp]
section
variable (w:World) (k c:Int) (s:ByteArray) (pos:Nat)
def Hx:(LW w k c s pos).heap=((w.heap.push (.cells #[.int .u8 0,.int .i64 0] 54)).push (.cells #[.int .u8 k,.int .i64 c] 54)).push (.stringIter s pos):=rfl
def juk:(LW w k c s pos).heap[w.heap.size]?=some (.cells #[.int .u8 0,.int .i64 0] 54):=by
 rw[Hx];simp only[Lj,Gb,aD (show ¬w.heap.size=w.heap.size+1+1 by omega),aD (show ¬w.heap.size=w.heap.size+1 by omega),bR]
def jul:(LW w k c s pos).heap[w.heap.size+1]?=some (.cells #[.int .u8 k,.int .i64 c] 54):=by
 rw[Hx];simp only[Lj,Gb,aD (show ¬w.heap.size+1=w.heap.size+1+1 by omega),bR]
def jy5 {W:World} {b i:Nat} {cs:Array Value} {t:TypeId} (h:W.heap[b]?=some (.cells cs t (0,0))):W.frozen? ⟨b,i,none⟩=false:=by
 simp[World.frozen?,h]
end
structure B2 (W:World) (b:Nat) (x y:Value):Prop where
 h:W.heap[b]?=some (.cells #[x,y] 54 (0,0))
def B2.c0 {W:World} {b:Nat} {x y:Value} (h:B2 W b x y):W.cell? ⟨b,0,none⟩=some x:=by simp[World.cell?,h.h]
def B2.c1 {W:World} {b:Nat} {x y:Value} (h:B2 W b x y):W.cell? ⟨b,1,none⟩=some y:=by simp[World.cell?,h.h]
def B2.fz {W:World} {b:Nat} {x y:Value} (h:B2 W b x y) (i:Nat):W.frozen? ⟨b,i,none⟩=false:=jy5 h.h
def B2.s0 {W:World} {b:Nat} {x y:Value} (h:B2 W b x y) (v:Value):B2 (W.setCell ⟨b,0,none⟩ v) b v y:=⟨by
 simp only[World.setCell,sQ,bR,h.h];rfl⟩
def B2.s1 {W:World} {b:Nat} {x y:Value} (h:B2 W b x y) (v:Value):B2 (W.setCell ⟨b,1,none⟩ v) b x v:=⟨by
 simp only[World.setCell,sQ,bR,h.h];rfl⟩
def oZ {W:World} {n b:Nat} (hb:n<=b) (a:Nat) (v:Value) {W0:World} (h:Below n W0 W):Below n W0 (W.setCell ⟨b,a,none⟩ v):=by
 refine⟨h.os,h.tape,h.output,?_,λk hk=>?_⟩
 ·simp only[World.setCell,Array.size_modify];exact h.size
 ·rw[<-h.block k hk];simp only[World.setCell,sQ];rw[aD (by omega)]
def jum (w:World) (k c:Int) (s:ByteArray) (pos:Nat):Below w.heap.size w (LW w k c s pos):=by
 refine⟨rfl,rfl,rfl,?_,λi hi=>?_⟩
 ·rw[Hx];simp only[Gb];omega
 ·rw[Hx];simp only[Lj,Gb];rw[aD (by omega),aD (by omega),aD (by omega)]
def jxw (s:ByteArray) (pos:Nat) (hp:pos<s.size):(Utf8.decode s pos).1<=4194303:=by
 unfold Utf8.decode;simp only
 repeat' split
 all_goals simp_all[Utf8.runeError]
 all_goals omega
structure LR (w W:World) (k c:Int) (s:ByteArray) (pos:Nat):Prop where
 b0:B2 W w.heap.size (.int .u8 0) (.int .i64 0)
 b1:B2 W (w.heap.size+1) (.int .u8 k) (.int .i64 c)
 it:W.heap[w.heap.size+1+1]?=some (.stringIter s pos)
 bl:Below w.heap.size w W
def LR.start (w:World) (s:ByteArray):LR w (LW w 0 0 s 0) 0 0 s 0:=⟨⟨juk w 0 0 s 0⟩,⟨jul w 0 0 s 0⟩,by rw[Hx];simp only[Lj,Gb,bR],jum w 0 0 s 0⟩
def LR.size {w W:World} {k c:Int} {s:ByteArray} {pos:Nat} (h:LR w W k c s pos):w.heap.size+2<W.heap.size:=(eJ.1 h.it).1
def LR.pos {w W:World} {k c:Int} {s:ByteArray} {pos:Nat} (h:LR w W k c s pos):W.iterPos (w.heap.size+1+1)=pos:=iterPos_of h.it
def LR.below {w W W2:World} {k c:Int} {s:ByteArray} {pos:Nat} (h:LR w W k c s pos) (hB:Below W.heap.size W W2):LR w W2 k c s pos:=by
 have hz:=h.size;exact⟨⟨(hB.block _ (by omega)).trans h.b0.h⟩,⟨(hB.block _ (by omega)).trans h.b1.h⟩,(hB.block _ (by omega)).trans h.it,h.bl.trans ⟨hB.os,hB.tape,hB.output,hB.size,λi hi=>hB.block i (by omega)⟩⟩
def LR.next {w W:World} {k c:Int} {s:ByteArray} {pos:Nat} (h:LR w W k c s pos) (hp:pos<s.size):∃W1,(∀ty,(Instr.next (.pointer (some ⟨w.heap.size+1+1,0,none⟩)) true ty).run Tryz.prog W=.ok (.tuple #[.bool true,.int .i64 pos,.int .i32 (Utf8.decode s pos).1]) W1)/\LR w W1 k c s (pos+ (Utf8.decode s pos).2):=
 ⟨_,λty=>run_next_any_at W _ s pos ty h.it hp,⟨(iterAt_other W _ _ s _ (by omega)).trans h.b0.h⟩,⟨(iterAt_other W _ _ s _ (by omega)).trans h.b1.h⟩,iterAt_heap W _ s pos _ h.it,below_iterAt h.bl (by omega) s _⟩
def LR.set {w W:World} {k c k' c':Int} {s:ByteArray} {pos:Nat} (h:LR w W k c s pos) (i:Nat) (v:Value) (hb:B2 (W.setCell ⟨w.heap.size+1,i,none⟩ v) (w.heap.size+1) (.int .u8 k') (.int .i64 c')):LR w (W.setCell ⟨w.heap.size+1,i,none⟩ v) k' c' s pos:=by
 have ho:∀j,j≠w.heap.size+1->(W.setCell ⟨w.heap.size+1,i,none⟩ v).heap[j]?=W.heap[j]?:=λj hj=>by
  simp only[World.setCell,sQ];rw[aD λe=>hj e.symm]
 exact⟨⟨(ho _ (by omega)).trans h.b0.h⟩,hb,(ho _ (by omega)).trans h.it,oZ (by omega) _ _ h.bl⟩
def LR.setk {w W:World} {k c:Int} {s:ByteArray} {pos:Nat} (h:LR w W k c s pos) (k':Int):∃W1,W.setCell ⟨w.heap.size+1,0,none⟩ (.int .u8 k')=W1/\LR w W1 k' c s pos:=⟨_,rfl,h.set 0 _ (h.b1.s0 _)⟩
def LR.setc {w W:World} {k c:Int} {s:ByteArray} {pos:Nat} (h:LR w W k c s pos) (c':Int):∃W1,W.setCell ⟨w.heap.size+1,1,none⟩ (.int .i64 c')=W1/\LR w W1 k c' s pos:=⟨_,rfl,h.set 1 _ (h.b1.s1 _)⟩
set_option maxHeartbeats 4000000 in
set_option maxRecDepth 100000 in
theorem lp_walk (s:ByteArray) (w:World)
  (T:Int->Int->ByteArray) (hT:∀k c,0<=k->k<=4-> -40969<=c->c<=40969->((∀i (h:i<s.size),(s[i]'h).toNat<128)->(k,c)=lpFin (bytesN s))->∀w',Below w.heap.size w w'->Calls Tryz.prog 65 #[.agg #[.int .u8 k,.int .i64 c]] w' λe w''=>e=.returned (.string (T k c))/\Below w'.heap.size w' w''):
  Calls Tryz.prog 74 #[.string s] w λe w'=>(∃k c,0<=k/\k<=4/\ -40969<=c/\c<=40969/\((∀i (h:i<s.size),(s[i]'h).toNat<128)->(k,c)=lpFin (bytesN s))/\
   e=.returned (if s.toList=[]\/(T k c).toList≠s.toList then .tuple #[.agg #[.int .u8 0,.int .i64 0],.int .i64 4] else .tuple #[.agg #[.int .u8 k,.int .i64 c],.int .i64 0]))/\Below w.heap.size w w':=by
 have mixed:=mixed
 go_enter func74,ntmps74
 go_wp2
 go_loopw [9] (λn w'=>∃(W:World) (pos:Nat) (k c:Int),W=w'/\LR w W k c s pos/\LpR s pos k c) (λ_ w'=>s.size-w'.iterPos (w.heap.size+1+1))
 case atStart=>exact⟨_,0,0,0,rfl,LR.start w s,by omega,by omega,by omega,by omega,λ_=>⟨fM _,rfl⟩⟩
 case round=>
  obtain⟨W,pos,k,c,rfl,hL,hr⟩:=hrel;by_cases hp:pos<s.size
  ·obtain⟨W1,hnx,hL1⟩:=hL.next hp;have hwd:=kal s pos hp;have hst:=hr.step hp;have hmx:=jxw s pos hp;by_cases h0:pos=0
   ·subst h0;have hv:=jxy s 0;have hb5:=jkl (Utf8.decode s 0).1;go_wp2_with (go_at_call 108;refine(jzj _ hv _).mono ?_;rintro e W2 ⟨rfl,hB⟩;have hL2:=hL1.below hB;have hk:=hL2.b1.c0;have hf:=hL2.b1.fz 0;obtain⟨W3,hs,hL3⟩:=hL2.setk (max (vB (Utf8.decode s 0).1) 0))
    refine⟨⟨_,_,_,_,rfl,hL3,hst⟩,?_⟩;rw[hL3.pos,hL.pos];omega
   ·have hc1:=hr.c1;have hc0:=hr.c0;have hk:=hL1.b1.c1;have hf:=hL1.b1.fz 1;have hpz:((pos:Int)==0)=false:=by simpa using h0
    have hskip:nF pos (Utf8.decode s pos).1 (k,c)=(k,c)->(∃(W:World) (pos':Nat) (k' c':Int),W=W1/\LR w W k' c' s pos'/\LpR s pos' k' c')/\s.size-W1.iterPos (w.heap.size+1+1)<s.size-W.iterPos (w.heap.size+1+1):=λh=>by
     rw[h] at hst;refine⟨⟨_,_,_,_,rfl,hL1,hst⟩,?_⟩;rw[hL1.pos,hL.pos];omega
    generalize (Utf8.decode s pos).2=wd at *;generalize (Utf8.decode s pos).1=r at *;by_cases h1:1<pos
    ·by_cases h2:(r:Int)=45
     ·go_wp2
      exact hskip (by unfold nF;rw[aD h0,aD (by omega)])
     ·by_cases h3:(48:Int)<=r
      ·by_cases h4:(r:Int)<=57
       ·by_cases h5:c<=4096
        ·have e1:wrap64 (10*c)=10*c:=by unfold wrap64;omega
         have e2:wrap64 (10*c+ ((r:Int)-48))=10*c+ ((r:Int)-48):=by unfold wrap64;omega
         have e3:wrap32 ((r:Int)-48)=(r:Int)-48:=by unfold wrap32;omega
         have e4:wrap64 ((r:Int)-48)=(r:Int)-48:=by unfold wrap64;omega
         have hst':LpR s (pos+wd) k (10*c+ ((r:Int)-48)):=by
          have:nF pos r (k,c)=(k,10*c+ ((r:Int)-48)):=by unfold nF;rw[aD h0,aK ⟨h1,h3,h4,h5⟩]
          rw[this] at hst;exact hst
         obtain⟨W2,hs,hL2⟩:=hL1.setc (10*c+ ((r:Int)-48))
         go_wp2
         refine⟨⟨_,_,_,_,rfl,hL2,hst'⟩,?_⟩;rw[hL2.pos,hL.pos];omega
        ·go_wp2
         exact hskip (by unfold nF;rw[aD h0,aD (by omega)])
       ·go_wp2
        exact hskip (by unfold nF;rw[aD h0,aD (by omega)])
      ·go_wp2
       exact hskip (by unfold nF;rw[aD h0,aD (by omega)])
    ·go_wp2
     exact hskip (by unfold nF;rw[aD h0,aD (by omega)])
  ·have hnx:∀ty,(Instr.next (.pointer (some ⟨w.heap.size+1+1,0,none⟩)) true ty).run Tryz.prog W=.ok (.tuple #[.bool false]) W:=λty=>run_next_end_at W _ s pos ty hL.it hp
   have hk0:=hL.b1.c0;have hk1:=hL.b1.c1;have hf:=hL.b1.fz 1;obtain⟨W2,hs,hL2⟩:=hL.setc (-c);by_cases hm:0<=Lib.indexByte s.data.toList 45
   ·skip
    have e1:wrap64 (-c)= -c:=by have:=hr.c0;have:=hr.c1;unfold wrap64;omega
    have hfin:0<=k/\k<=4/\ -40969<=(-c)/\(-c)<=40969/\((∀i (h:i<s.size),(s[i]'h).toNat<128)->(k,(-c))=lpFin (bytesN s)):=by
     have q1:=hr.k0;have q2:=hr.k1;have q3:=hr.c0;have q4:=hr.c1
     refine⟨q1,q2,by omega,by omega,λha=>?_⟩;obtain⟨z1,z2⟩:=hr.asc ha;have z3:pos=(bytesN s).length:=by unfold bytesN;rw[dM,gS];show pos=s.size;omega
     unfold lpFin;rw[jhc,aK hm,<-z3,<-z2]
    have hk2:=hL2.b1.c0;have hk3:=hL2.b1.c1;by_cases hs0:s.toList=[]
    ·skip
     obtain⟨b0,b1,_,hb⟩:=hL2;have f0:=b0.c0;have f1:=b0.c1;have f2:=b0.fz 0;have f4:=(b0.s0 (.int .u8 0)).c1;have f5:=(b0.s0 (.int .u8 0)).fz 1;have f6:=((b0.s0 (.int .u8 0)).s1 (.int .i64 0)).c0;have f7:=((b0.s0 (.int .u8 0)).s1 (.int .i64 0)).c1;have g0:=b1.c0;have g1:=b1.c1;have f8:=(b0.s0 (.int .u8 k)).c1;have f9:=(b0.s0 (.int .u8 k)).fz 1;have f10:=((b0.s0 (.int .u8 k)).s1 (.int .i64 (-c))).c0;have f11:=((b0.s0 (.int .u8 k)).s1 (.int .i64 (-c))).c1
     go_wp2_with (go_at_call 109;refine(Tryz.strings_Contains_one _ _ _).mono ?_;rintro e w' ⟨rfl,rfl⟩)
     (try simp only[Exit.inBlock,Exit.then])
     refine bodyPost_ret (by simp[results,results74,go_sem,f6,f7];try rfl) rfl ?_;refine⟨⟨k,(-c),hfin.1,hfin.2.1,hfin.2.2.1,hfin.2.2.2.1,hfin.2.2.2.2,?_⟩,?_⟩
     ·rw[aK (.inl hs0)]
     ·exact oZ (aU _) _ _ (oZ (aU _) _ _ hb)
    ·skip
     go_wp2_with (first | (go_at_call 109;refine(Tryz.strings_Contains_one _ _ _).mono ?_;rintro e w' ⟨rfl,rfl⟩) | (go_at_call 65;refine(hT k (-c) hfin.1 hfin.2.1 hfin.2.2.1 hfin.2.2.2.1 hfin.2.2.2.2 _ hL2.bl).mono ?_;rintro e w2 ⟨rfl,hB⟩;obtain⟨b0,b1,_,hb⟩:=hL2.below hB;have f0:=b0.c0;have f1:=b0.c1;have f2:=b0.fz 0;have f4:=(b0.s0 (.int .u8 0)).c1;have f5:=(b0.s0 (.int .u8 0)).fz 1;have f6:=((b0.s0 (.int .u8 0)).s1 (.int .i64 0)).c0;have f7:=((b0.s0 (.int .u8 0)).s1 (.int .i64 0)).c1;have g0:=b1.c0;have g1:=b1.c1;have f8:=(b0.s0 (.int .u8 k)).c1;have f9:=(b0.s0 (.int .u8 k)).fz 1;have f10:=((b0.s0 (.int .u8 k)).s1 (.int .i64 (-c))).c0;have f11:=((b0.s0 (.int .u8 k)).s1 (.int .i64 (-c))).c1))
     ·skip
      rename_i hq;have ht:¬(T k (-c)).toList=s.toList:=by simpa[hs0] using hq
      (try simp only[Exit.inBlock,Exit.then])
      refine bodyPost_ret (by simp[results,results74,go_sem,f6,f7];try rfl) rfl ?_;refine⟨⟨k,(-c),hfin.1,hfin.2.1,hfin.2.2.1,hfin.2.2.2.1,hfin.2.2.2.2,?_⟩,?_⟩
      ·rw[aK (.inr ht)]
      ·exact oZ (aU _) _ _ (oZ (aU _) _ _ hb)
     ·skip
      rename_i hq;have ht:(T k (-c)).toList=s.toList:=by simpa[hs0] using hq
      (try simp only[Exit.inBlock,Exit.then])
      refine bodyPost_ret (by simp[results,results74,go_sem,f10,f11];try rfl) rfl ?_;refine⟨⟨k,(-c),hfin.1,hfin.2.1,hfin.2.2.1,hfin.2.2.2.1,hfin.2.2.2.2,?_⟩,?_⟩
      ·rw[aD (λh=>h.elim hs0 λh=>h ht)]
      ·exact oZ (aU _) _ _ (oZ (aU _) _ _ hb)
   ·skip
    have hfin:0<=k/\k<=4/\ -40969<=c/\c<=40969/\((∀i (h:i<s.size),(s[i]'h).toNat<128)->(k,c)=lpFin (bytesN s)):=by
     have q1:=hr.k0;have q2:=hr.k1;have q3:=hr.c0;have q4:=hr.c1
     refine⟨q1,q2,by omega,by omega,λha=>?_⟩;obtain⟨z1,z2⟩:=hr.asc ha;have z3:pos=(bytesN s).length:=by unfold bytesN;rw[dM,gS];show pos=s.size;omega
     unfold lpFin;rw[jhc,aD hm,<-z3,<-z2]
    by_cases hs0:s.toList=[]
    ·skip
     obtain⟨b0,b1,_,hb⟩:=hL;have f0:=b0.c0;have f1:=b0.c1;have f2:=b0.fz 0;have f4:=(b0.s0 (.int .u8 0)).c1;have f5:=(b0.s0 (.int .u8 0)).fz 1;have f6:=((b0.s0 (.int .u8 0)).s1 (.int .i64 0)).c0;have f7:=((b0.s0 (.int .u8 0)).s1 (.int .i64 0)).c1;have g0:=b1.c0;have g1:=b1.c1;have f8:=(b0.s0 (.int .u8 k)).c1;have f9:=(b0.s0 (.int .u8 k)).fz 1;have f10:=((b0.s0 (.int .u8 k)).s1 (.int .i64 c)).c0;have f11:=((b0.s0 (.int .u8 k)).s1 (.int .i64 c)).c1
     go_wp2_with (go_at_call 109;refine(Tryz.strings_Contains_one _ _ _).mono ?_;rintro e w' ⟨rfl,rfl⟩)
     (try simp only[Exit.inBlock,Exit.then])
     refine bodyPost_ret (by simp[results,results74,go_sem,f6,f7];try rfl) rfl ?_;refine⟨⟨k,c,hfin.1,hfin.2.1,hfin.2.2.1,hfin.2.2.2.1,hfin.2.2.2.2,?_⟩,?_⟩
     ·rw[aK (.inl hs0)]
     ·exact oZ (aU _) _ _ (oZ (aU _) _ _ hb)
    ·skip
     go_wp2_with (first | (go_at_call 109;refine(Tryz.strings_Contains_one _ _ _).mono ?_;rintro e w' ⟨rfl,rfl⟩) | (go_at_call 65;refine(hT k c hfin.1 hfin.2.1 hfin.2.2.1 hfin.2.2.2.1 hfin.2.2.2.2 _ hL.bl).mono ?_;rintro e w2 ⟨rfl,hB⟩;obtain⟨b0,b1,_,hb⟩:=hL.below hB;have f0:=b0.c0;have f1:=b0.c1;have f2:=b0.fz 0;have f4:=(b0.s0 (.int .u8 0)).c1;have f5:=(b0.s0 (.int .u8 0)).fz 1;have f6:=((b0.s0 (.int .u8 0)).s1 (.int .i64 0)).c0;have f7:=((b0.s0 (.int .u8 0)).s1 (.int .i64 0)).c1;have g0:=b1.c0;have g1:=b1.c1;have f8:=(b0.s0 (.int .u8 k)).c1;have f9:=(b0.s0 (.int .u8 k)).fz 1;have f10:=((b0.s0 (.int .u8 k)).s1 (.int .i64 c)).c0;have f11:=((b0.s0 (.int .u8 k)).s1 (.int .i64 c)).c1))
     ·skip
      rename_i hq;have ht:¬(T k c).toList=s.toList:=by simpa[hs0] using hq
      (try simp only[Exit.inBlock,Exit.then])
      refine bodyPost_ret (by simp[results,results74,go_sem,f6,f7];try rfl) rfl ?_;refine⟨⟨k,c,hfin.1,hfin.2.1,hfin.2.2.1,hfin.2.2.2.1,hfin.2.2.2.2,?_⟩,?_⟩
      ·rw[aK (.inr ht)]
      ·exact oZ (aU _) _ _ (oZ (aU _) _ _ hb)
     ·skip
      rename_i hq;have ht:(T k c).toList=s.toList:=by simpa[hs0] using hq
      (try simp only[Exit.inBlock,Exit.then])
      refine bodyPost_ret (by simp[results,results74,go_sem,f10,f11];try rfl) rfl ?_;refine⟨⟨k,c,hfin.1,hfin.2.1,hfin.2.2.1,hfin.2.2.2.1,hfin.2.2.2.2,?_⟩,?_⟩
      ·rw[aD (λh=>h.elim hs0 λh=>h ht)]
      ·exact oZ (aU _) _ _ (oZ (aU _) _ _ hb)
end S07
end Go.Proofs
