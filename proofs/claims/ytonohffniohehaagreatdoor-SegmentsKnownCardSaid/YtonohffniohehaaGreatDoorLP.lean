/-
  DERIVED: THE SHELF's CONTRACTS AT THIS DUMP, IN PLAIN WORDS (tools/lay-plain.mjs out of 'TryzShelf.lean', which tools/lay-shelf.mjs wrote): THE SAME DECLARATIONS UNDER THE SAME NAMES: 'import', 'namespace', 'open', 'def', 'theorem' AND NOTHING ELSE: no command of the shelf's: FOR A HAND-IN. Each laying: the table of numbers ('.._ren') and one theorem, a field a fact of the dump's own or the kernel's comparison; each contract: ONE APPLICATION.
  Segments: the comparisons of segments and of creases, walked.
  strings.IndexRune of five letters, at a rune that is no ASCII: -1. (Printed by a program: one walk per length.)
  lines.Parse, walked.
-/
import Derived.Shelf.Small.Utf8
import Derived.Shelf.Small.Wraps
import Derived.Shelf.Strconv.Itoa1
import Derived.Shelf.Strconv.ErrVarAll
import Derived.Shelf.Strings.Shaped
import Derived.Shelf.Strings.SplitShaped
import Derived.Shelf.Strings.Runes
import Derived.Shelf.Strings.Explode
import Derived.Shelf.Unicode.DecodeAny
import Derived.Shelf.Slices.SearchI
import Derived.Test.YtonohffniohehaaGreatDoorProg
import Derived.Handy
import Derived.Deep.Onto
import Derived.Deep.RegionHeld3
import Derived.Deep.AppendLies
import Derived.Test.YtonohffniohehaaGreatDoorXG8
import Derived.WalkLawsBesides
set_option linter.unusedSimpArgs false
set_option linter.unusedVariables false
set_option linter.unusedSectionVars false
set_option linter.unnecessarySimpa false
namespace Go.Proofs
open Go.Shelf
def Tryz.sortG_ren:Go.Shelf.Ren:=⟨fun | 6=>39 | 15=>74 | 14=>73 | 28=>103 | 29=>104 | 20=>95 | 21=>96 | 22=>97 | 23=>98 | 24=>99 | 25=>100 | 26=>101 | 27=>102 | 46=>138 | 47=>139 | 48=>140 | 49=>141 | 50=>142 | 57=>160 | n=>n,fun | 22=>51 | 24=>29 | 25=>101 | 3=>3 | 39=>151 | 0=>0 | 53=>186 | 55=>188 | 4=>4 | 46=>179 | 45=>178 | 50=>183 | 5=>5 | 9=>9 | 66=>220 | 70=>224 | 76=>244 | 77=>165 | n=>n,fun | n=>n⟩
theorem Tryz.sortG:Go.Proofs.SlLaysF0.n6 Tryz.prog Tryz.sortG_ren:={
 mixed:=by kernel_rfl
 f6:=⟨Tryz.f39.name,by decide,Tryz.func39.trans (congrArg some (by kernel_rfl))⟩
 f14:=⟨Tryz.f73.name,by decide,Tryz.func73.trans (congrArg some (by kernel_rfl))⟩
 f15:=Tryz.func74.trans (congrArg some (by kernel_rfl))
 f20:=⟨Tryz.f95.name,by decide,Tryz.func95.trans (congrArg some (by kernel_rfl))⟩
 f21:=⟨Tryz.f96.name,by decide,Tryz.func96.trans (congrArg some (by kernel_rfl))⟩
 f22:=⟨Tryz.f97.name,by decide,Tryz.func97.trans (congrArg some (by kernel_rfl))⟩
 f23:=⟨Tryz.f98.name,by decide,Tryz.func98.trans (congrArg some (by kernel_rfl))⟩
 f24:=⟨Tryz.f99.name,by decide,Tryz.func99.trans (congrArg some (by kernel_rfl))⟩
 f25:=⟨Tryz.f100.name,by decide,Tryz.func100.trans (congrArg some (by kernel_rfl))⟩
 f26:=⟨Tryz.f101.name,by decide,Tryz.func101.trans (congrArg some (by kernel_rfl))⟩
 f27:=⟨Tryz.f102.name,by decide,Tryz.func102.trans (congrArg some (by kernel_rfl))⟩
 f28:=Tryz.func103.trans (congrArg some (by kernel_rfl))
 f29:=Tryz.func104.trans (congrArg some (by kernel_rfl))
 f46:=⟨Tryz.f138.name,by decide,Tryz.func138.trans (congrArg some (by kernel_rfl))⟩
 f47:=Tryz.func139.trans (congrArg some (by kernel_rfl))
 f48:=Tryz.func140.trans (congrArg some (by kernel_rfl))
 f49:=⟨Tryz.f141.name,by decide,Tryz.func141.trans (congrArg some (by kernel_rfl))⟩
 f50:=⟨Tryz.f142.name,by decide,Tryz.func142.trans (congrArg some (by kernel_rfl))⟩
 f57:=⟨Tryz.f160.name,by decide,Tryz.func160.trans (congrArg some (by kernel_rfl))⟩
 t0:=Tryz.underlying0
 a0:=Tryz.isAgg0
 z0:=Tryz.sizeOf0
 v0:=Tryz.zeroValue0
 t3:=Tryz.underlying3
 a3:=Tryz.isAgg3
 z3:=Tryz.sizeOf3
 v3:=Tryz.zeroValue3
 t4:=Tryz.underlying4
 a4:=Tryz.isAgg4
 z4:=Tryz.sizeOf4
 v4:=Tryz.zeroValue4
 t5:=Tryz.underlying5
 a5:=Tryz.isAgg5
 z5:=Tryz.sizeOf5
 v5:=Tryz.zeroValue5
 t9:=Tryz.underlying9
 a9:=Tryz.isAgg9
 z9:=Tryz.sizeOf9
 v9:=Tryz.zeroValue9
 t22:=Tryz.underlying51
 a22:=Tryz.isAgg51
 z22:=Tryz.sizeOf51
 v22:=Tryz.zeroValue51
 t25:=Tryz.underlying101
 a25:=Tryz.isAgg101
 z25:=Tryz.sizeOf101
 v25:=Tryz.zeroValue101
 t39:=Tryz.underlying151
 a39:=Tryz.isAgg151
 z39:=Tryz.sizeOf151
 v39:=Tryz.zeroValue151
 t45:=Tryz.underlying178
 a45:=Tryz.isAgg178
 z45:=Tryz.sizeOf178
 v45:=Tryz.zeroValue178
 t46:=Tryz.underlying179
 a46:=Tryz.isAgg179
 z46:=Tryz.sizeOf179
 v46:=Tryz.zeroValue179
 t50:=Tryz.underlying183
 a50:=Tryz.isAgg183
 z50:=Tryz.sizeOf183
 v50:=Tryz.zeroValue183
 t53:=Tryz.underlying186
 a53:=Tryz.isAgg186
 z53:=Tryz.sizeOf186
 v53:=Tryz.zeroValue186
 t55:=Tryz.underlying188
 a55:=Tryz.isAgg188
 z55:=Tryz.sizeOf188
 v55:=Tryz.zeroValue188
 t66:=Tryz.underlying220
 a66:=Tryz.isAgg220
 z66:=Tryz.sizeOf220
 v66:=Tryz.zeroValue220
 t70:=Tryz.underlying224
 a70:=Tryz.isAgg224
 z70:=Tryz.sizeOf224
 v70:=Tryz.zeroValue224
 t76:=Tryz.underlying244
 a76:=Tryz.isAgg244
 z76:=Tryz.sizeOf244
 v76:=Tryz.zeroValue244
 t77:=Tryz.underlying165
 a77:=Tryz.isAgg165
 z77:=Tryz.sizeOf165
 v77:=Tryz.zeroValue165 }
def Tryz.sortC_ren:Go.Shelf.Ren:=⟨fun | 6=>44 | 15=>74 | 14=>76 | 28=>103 | 29=>104 | 20=>106 | 21=>107 | 22=>108 | 23=>109 | 24=>110 | 25=>111 | 26=>112 | 27=>113 | 46=>143 | 47=>139 | 48=>140 | 49=>144 | 50=>145 | 57=>161 | n=>n,fun | 22=>47 | 24=>86 | 25=>106 | 3=>3 | 39=>151 | 0=>0 | 53=>186 | 55=>188 | 4=>4 | 46=>179 | 45=>178 | 50=>183 | 5=>5 | 9=>9 | 66=>220 | 70=>224 | 76=>244 | 77=>165 | n=>n,fun | n=>n⟩
theorem Tryz.sortC:Go.Proofs.SlLaysF0.n6 Tryz.prog Tryz.sortC_ren:={
 mixed:=by kernel_rfl
 f6:=⟨Tryz.f44.name,by decide,Tryz.func44.trans (congrArg some (by kernel_rfl))⟩
 f14:=⟨Tryz.f76.name,by decide,Tryz.func76.trans (congrArg some (by kernel_rfl))⟩
 f15:=Tryz.func74.trans (congrArg some (by kernel_rfl))
 f20:=⟨Tryz.f106.name,by decide,Tryz.func106.trans (congrArg some (by kernel_rfl))⟩
 f21:=⟨Tryz.f107.name,by decide,Tryz.func107.trans (congrArg some (by kernel_rfl))⟩
 f22:=⟨Tryz.f108.name,by decide,Tryz.func108.trans (congrArg some (by kernel_rfl))⟩
 f23:=⟨Tryz.f109.name,by decide,Tryz.func109.trans (congrArg some (by kernel_rfl))⟩
 f24:=⟨Tryz.f110.name,by decide,Tryz.func110.trans (congrArg some (by kernel_rfl))⟩
 f25:=⟨Tryz.f111.name,by decide,Tryz.func111.trans (congrArg some (by kernel_rfl))⟩
 f26:=⟨Tryz.f112.name,by decide,Tryz.func112.trans (congrArg some (by kernel_rfl))⟩
 f27:=⟨Tryz.f113.name,by decide,Tryz.func113.trans (congrArg some (by kernel_rfl))⟩
 f28:=Tryz.func103.trans (congrArg some (by kernel_rfl))
 f29:=Tryz.func104.trans (congrArg some (by kernel_rfl))
 f46:=⟨Tryz.f143.name,by decide,Tryz.func143.trans (congrArg some (by kernel_rfl))⟩
 f47:=Tryz.func139.trans (congrArg some (by kernel_rfl))
 f48:=Tryz.func140.trans (congrArg some (by kernel_rfl))
 f49:=⟨Tryz.f144.name,by decide,Tryz.func144.trans (congrArg some (by kernel_rfl))⟩
 f50:=⟨Tryz.f145.name,by decide,Tryz.func145.trans (congrArg some (by kernel_rfl))⟩
 f57:=⟨Tryz.f161.name,by decide,Tryz.func161.trans (congrArg some (by kernel_rfl))⟩
 t0:=Tryz.underlying0
 a0:=Tryz.isAgg0
 z0:=Tryz.sizeOf0
 v0:=Tryz.zeroValue0
 t3:=Tryz.underlying3
 a3:=Tryz.isAgg3
 z3:=Tryz.sizeOf3
 v3:=Tryz.zeroValue3
 t4:=Tryz.underlying4
 a4:=Tryz.isAgg4
 z4:=Tryz.sizeOf4
 v4:=Tryz.zeroValue4
 t5:=Tryz.underlying5
 a5:=Tryz.isAgg5
 z5:=Tryz.sizeOf5
 v5:=Tryz.zeroValue5
 t9:=Tryz.underlying9
 a9:=Tryz.isAgg9
 z9:=Tryz.sizeOf9
 v9:=Tryz.zeroValue9
 t22:=Tryz.underlying47
 a22:=Tryz.isAgg47
 z22:=Tryz.sizeOf47
 v22:=Tryz.zeroValue47
 t25:=Tryz.underlying106
 a25:=Tryz.isAgg106
 z25:=Tryz.sizeOf106
 v25:=Tryz.zeroValue106
 t39:=Tryz.underlying151
 a39:=Tryz.isAgg151
 z39:=Tryz.sizeOf151
 v39:=Tryz.zeroValue151
 t45:=Tryz.underlying178
 a45:=Tryz.isAgg178
 z45:=Tryz.sizeOf178
 v45:=Tryz.zeroValue178
 t46:=Tryz.underlying179
 a46:=Tryz.isAgg179
 z46:=Tryz.sizeOf179
 v46:=Tryz.zeroValue179
 t50:=Tryz.underlying183
 a50:=Tryz.isAgg183
 z50:=Tryz.sizeOf183
 v50:=Tryz.zeroValue183
 t53:=Tryz.underlying186
 a53:=Tryz.isAgg186
 z53:=Tryz.sizeOf186
 v53:=Tryz.zeroValue186
 t55:=Tryz.underlying188
 a55:=Tryz.isAgg188
 z55:=Tryz.sizeOf188
 v55:=Tryz.zeroValue188
 t66:=Tryz.underlying220
 a66:=Tryz.isAgg220
 z66:=Tryz.sizeOf220
 v66:=Tryz.zeroValue220
 t70:=Tryz.underlying224
 a70:=Tryz.isAgg224
 z70:=Tryz.sizeOf224
 v70:=Tryz.zeroValue224
 t76:=Tryz.underlying244
 a76:=Tryz.isAgg244
 z76:=Tryz.sizeOf244
 v76:=Tryz.zeroValue244
 t77:=Tryz.underlying165
 a77:=Tryz.isAgg165
 z77:=Tryz.sizeOf165
 v77:=Tryz.zeroValue165 }
def Tryz.lays122_ren:Go.Shelf.Ren:=⟨fun | 122=>75 | 215=>105 | n=>n,fun | 3=>3 | 4=>4 | n=>n,fun | n=>n⟩
theorem Tryz.lays122:Go.Proofs.Lays.n122 Tryz.prog Tryz.lays122_ren:={
 mixed:=by kernel_rfl
 f122:=Tryz.func75.trans (congrArg some (by kernel_rfl))
 f215:=Tryz.func105.trans (congrArg some (by kernel_rfl))
 t3:=Tryz.underlying3
 a3:=Tryz.isAgg3
 z3:=Tryz.sizeOf3
 v3:=Tryz.zeroValue3
 t4:=Tryz.underlying4
 a4:=Tryz.isAgg4
 z4:=Tryz.sizeOf4
 v4:=Tryz.zeroValue4 }
open Go.RowKit in
theorem Tryz.cmp_Compare_int (x y:Int) (w:World):
 Calls Tryz.prog 75 #[.int .i64 x,.int .i64 y] w fun e w'=>e=.returned (.int .i64 (Lib.compareInt x y))∧w'=w:=Any.cmp_Compare_int Tryz.lays122 x y w
def Tryz.lays129_ren:Go.Shelf.Ren:=⟨fun | 129=>104 | n=>n,fun | 53=>188 | 3=>3 | 4=>4 | 46=>151 | 5=>5 | 9=>9 | n=>n,fun | n=>n⟩
theorem Tryz.lays129:Go.Proofs.Lays.n129 Tryz.prog Tryz.lays129_ren:={
 mixed:=by kernel_rfl
 f129:=Tryz.func104.trans (congrArg some (by kernel_rfl))
 t3:=Tryz.underlying3
 a3:=Tryz.isAgg3
 z3:=Tryz.sizeOf3
 v3:=Tryz.zeroValue3
 t4:=Tryz.underlying4
 a4:=Tryz.isAgg4
 z4:=Tryz.sizeOf4
 v4:=Tryz.zeroValue4
 t5:=Tryz.underlying5
 a5:=Tryz.isAgg5
 z5:=Tryz.sizeOf5
 v5:=Tryz.zeroValue5
 t9:=Tryz.underlying9
 a9:=Tryz.isAgg9
 z9:=Tryz.sizeOf9
 v9:=Tryz.zeroValue9
 t46:=Tryz.underlying151
 a46:=Tryz.isAgg151
 z46:=Tryz.sizeOf151
 v46:=Tryz.zeroValue151
 t53:=Tryz.underlying188
 a53:=Tryz.isAgg188
 z53:=Tryz.sizeOf188
 v53:=Tryz.zeroValue188 }
theorem Tryz.bits_Len64 (x:Int) (w:World) (h0:0≤x) (h1:x≤18446744073709551615):
 Calls Tryz.prog 104 #[.int .u64 x] w fun e w'=>e=.returned (.int .i64 (Lib.bitLen x.toNat))∧w'=w:=Any.bits_Len64 Tryz.lays129 x w h0 h1
def Tryz.lays317_ren:Go.Shelf.Ren:=⟨fun | 317=>165 | n=>n,fun | 3=>3 | 46=>151 | n=>n,fun | n=>n⟩
theorem Tryz.lays317:Go.Proofs.Lays.n317 Tryz.prog Tryz.lays317_ren:={
 mixed:=by kernel_rfl
 f317:=Tryz.func165.trans (congrArg some (by kernel_rfl))
 t3:=Tryz.underlying3
 a3:=Tryz.isAgg3
 z3:=Tryz.sizeOf3
 v3:=Tryz.zeroValue3
 t46:=Tryz.underlying151
 a46:=Tryz.isAgg151
 z46:=Tryz.sizeOf151
 v46:=Tryz.zeroValue151 }
open Go.Lib in
theorem Tryz.internal_strconv_log10Pow2 (x:Nat) (h:x≤64) (w:World):
 Calls Tryz.prog 165 #[.int .i64 x] w fun e w'=>e=.returned (.int .i64 (Lib.l10 x))∧w'=w:=Any.internal_strconv_log10Pow2 Tryz.lays317 x h w
def Tryz.laysC172_ren:Go.Shelf.Ren:=⟨fun | 172=>53 | 244=>81 | 245=>82 | 247=>121 | 279=>122 | 280=>123 | 281=>124 | 282=>125 | 287=>149 | 316=>150 | 171=>57 | 205=>151 | 321=>163 | 322=>164 | 243=>85 | 246=>128 | 283=>154 | 284=>155 | 285=>156 | 286=>157 | 129=>104 | 317=>165 | 318=>166 | 319=>167 | 320=>168 | 337=>169 | 338=>170 | n=>n,fun | 9=>9 | 3=>3 | 75=>116 | 76=>117 | 4=>4 | 5=>5 | 167=>200 | 37=>44 | 0=>0 | 85=>201 | 2=>2 | 168=>203 | 53=>188 | 175=>231 | 46=>151 | 210=>235 | 127=>249 | 145=>252 | 143=>250 | 21=>21 | 171=>239 | 173=>241 | 212=>254 | 51=>186 | 20=>20 | 213=>255 | 232=>260 | 233=>261 | 80=>262 | n=>n,fun | 15=>3 | 16=>4 | 17=>5 | 18=>8 | 19=>9 | n=>n⟩
theorem Tryz.laysC172:Go.Proofs.LaysC.n172 Tryz.prog Tryz.laysC172_ren:={
 mixed:=by kernel_rfl
 f129:=Tryz.func104.trans (congrArg some (by kernel_rfl))
 f171:=Tryz.func57.trans (congrArg some (by kernel_rfl))
 f172:=Tryz.func53.trans (congrArg some (by kernel_rfl))
 f205:=Tryz.func151.trans (congrArg some (by kernel_rfl))
 f243:=Tryz.func85.trans (congrArg some (by kernel_rfl))
 f244:=Tryz.func81.trans (congrArg some (by kernel_rfl))
 f245:=Tryz.func82.trans (congrArg some (by kernel_rfl))
 f246:=Tryz.func128.trans (congrArg some (by kernel_rfl))
 f247:=Tryz.func121.trans (congrArg some (by kernel_rfl))
 f279:=Tryz.func122.trans (congrArg some (by kernel_rfl))
 f280:=Tryz.func123.trans (congrArg some (by kernel_rfl))
 f281:=Tryz.func124.trans (congrArg some (by kernel_rfl))
 f282:=Tryz.func125.trans (congrArg some (by kernel_rfl))
 f283:=Tryz.func154.trans (congrArg some (by kernel_rfl))
 f284:=Tryz.func155.trans (congrArg some (by kernel_rfl))
 f285:=Tryz.func156.trans (congrArg some (by kernel_rfl))
 f286:=Tryz.func157.trans (congrArg some (by kernel_rfl))
 f287:=Tryz.func149.trans (congrArg some (by kernel_rfl))
 f316:=Tryz.func150.trans (congrArg some (by kernel_rfl))
 f317:=Tryz.func165.trans (congrArg some (by kernel_rfl))
 f318:=Tryz.func166.trans (congrArg some (by kernel_rfl))
 f319:=Tryz.func167.trans (congrArg some (by kernel_rfl))
 f320:=Tryz.func168.trans (congrArg some (by kernel_rfl))
 f321:=Tryz.func163.trans (congrArg some (by kernel_rfl))
 f322:=Tryz.func164.trans (congrArg some (by kernel_rfl))
 f337:=Tryz.func169.trans (congrArg some (by kernel_rfl))
 f338:=Tryz.func170.trans (congrArg some (by kernel_rfl))
 t0:=Tryz.underlying0
 a0:=Tryz.isAgg0
 z0:=Tryz.sizeOf0
 v0:=Tryz.zeroValue0
 t2:=Tryz.underlying2
 a2:=Tryz.isAgg2
 z2:=Tryz.sizeOf2
 v2:=Tryz.zeroValue2
 t3:=Tryz.underlying3
 a3:=Tryz.isAgg3
 z3:=Tryz.sizeOf3
 v3:=Tryz.zeroValue3
 t4:=Tryz.underlying4
 a4:=Tryz.isAgg4
 z4:=Tryz.sizeOf4
 v4:=Tryz.zeroValue4
 t5:=Tryz.underlying5
 a5:=Tryz.isAgg5
 z5:=Tryz.sizeOf5
 v5:=Tryz.zeroValue5
 t9:=Tryz.underlying9
 a9:=Tryz.isAgg9
 z9:=Tryz.sizeOf9
 v9:=Tryz.zeroValue9
 t20:=Tryz.underlying20
 a20:=Tryz.isAgg20
 z20:=Tryz.sizeOf20
 v20:=Tryz.zeroValue20
 t21:=Tryz.underlying21
 a21:=Tryz.isAgg21
 z21:=Tryz.sizeOf21
 v21:=Tryz.zeroValue21
 t37:=Tryz.underlying44
 a37:=Tryz.isAgg44
 z37:=Tryz.sizeOf44
 v37:=Tryz.zeroValue44
 t46:=Tryz.underlying151
 a46:=Tryz.isAgg151
 z46:=Tryz.sizeOf151
 v46:=Tryz.zeroValue151
 t51:=Tryz.underlying186
 a51:=Tryz.isAgg186
 z51:=Tryz.sizeOf186
 v51:=Tryz.zeroValue186
 t53:=Tryz.underlying188
 a53:=Tryz.isAgg188
 z53:=Tryz.sizeOf188
 v53:=Tryz.zeroValue188
 t75:=Tryz.underlying116
 a75:=Tryz.isAgg116
 z75:=Tryz.sizeOf116
 v75:=Tryz.zeroValue116
 t76:=Tryz.underlying117
 a76:=Tryz.isAgg117
 z76:=Tryz.sizeOf117
 v76:=Tryz.zeroValue117
 t85:=Tryz.underlying201
 a85:=Tryz.isAgg201
 z85:=Tryz.sizeOf201
 v85:=Tryz.zeroValue201
 t127:=Tryz.underlying249
 a127:=Tryz.isAgg249
 z127:=Tryz.sizeOf249
 v127:=Tryz.zeroValue249
 t143:=Tryz.underlying250
 a143:=Tryz.isAgg250
 z143:=Tryz.sizeOf250
 v143:=Tryz.zeroValue250
 t145:=Tryz.underlying252
 a145:=Tryz.isAgg252
 z145:=Tryz.sizeOf252
 v145:=Tryz.zeroValue252
 t167:=Tryz.underlying200
 a167:=Tryz.isAgg200
 z167:=Tryz.sizeOf200
 v167:=Tryz.zeroValue200
 t168:=Tryz.underlying203
 a168:=Tryz.isAgg203
 z168:=Tryz.sizeOf203
 v168:=Tryz.zeroValue203
 t171:=Tryz.underlying239
 a171:=Tryz.isAgg239
 z171:=Tryz.sizeOf239
 v171:=Tryz.zeroValue239
 t173:=Tryz.underlying241
 a173:=Tryz.isAgg241
 z173:=Tryz.sizeOf241
 v173:=Tryz.zeroValue241
 t175:=Tryz.underlying231
 a175:=Tryz.isAgg231
 z175:=Tryz.sizeOf231
 v175:=Tryz.zeroValue231
 t210:=Tryz.underlying235
 a210:=Tryz.isAgg235
 z210:=Tryz.sizeOf235
 v210:=Tryz.zeroValue235
 t212:=Tryz.underlying254
 a212:=Tryz.isAgg254
 z212:=Tryz.sizeOf254
 v212:=Tryz.zeroValue254
 t213:=Tryz.underlying255
 a213:=Tryz.isAgg255
 z213:=Tryz.sizeOf255
 t232:=Tryz.underlying260
 a232:=Tryz.isAgg260
 z232:=Tryz.sizeOf260
 v232:=Tryz.zeroValue260
 t233:=Tryz.underlying261
 a233:=Tryz.isAgg261
 z233:=Tryz.sizeOf261
 v233:=Tryz.zeroValue261
 g15:=by kernel_rfl
 g16:=by kernel_rfl
 g17:=by kernel_rfl
 g18:=by kernel_rfl
 g19:=by kernel_rfl
 t80:=Tryz.underlying262
 a80:=Tryz.isAgg262
 z80:=Tryz.sizeOf262
 v80:=Tryz.zeroValue262
 i0:=by kernel_rfl
 i2:=by kernel_rfl
 i3:=by kernel_rfl
 i4:=by kernel_rfl
 i5:=by kernel_rfl
 i9:=by kernel_rfl
 i20:=by kernel_rfl
 i21:=by kernel_rfl
 i37:=by kernel_rfl
 i46:=by kernel_rfl
 i51:=by kernel_rfl
 i53:=by kernel_rfl
 i75:=by kernel_rfl
 i76:=by kernel_rfl
 i80:=by kernel_rfl
 i85:=by kernel_rfl
 i127:=by kernel_rfl
 i143:=by kernel_rfl
 i145:=by kernel_rfl
 i167:=by kernel_rfl
 i168:=by kernel_rfl
 i171:=by kernel_rfl
 i173:=by kernel_rfl
 i175:=by kernel_rfl
 i210:=by kernel_rfl
 i212:=by kernel_rfl
 i232:=by kernel_rfl
 i233:=by kernel_rfl
 m15:=by kernel_rfl
 m16:=by kernel_rfl
 m17:=by kernel_rfl
 m18:=by kernel_rfl
 m19:=by kernel_rfl
 c0:=by kernel_rfl
 c2:=by kernel_rfl
 c3:=by kernel_rfl
 c4:=by kernel_rfl
 c5:=by kernel_rfl
 c9:=by kernel_rfl
 c20:=by kernel_rfl
 c21:=by kernel_rfl
 c37:=by kernel_rfl
 c46:=by kernel_rfl
 c51:=by kernel_rfl
 c53:=by kernel_rfl
 c75:=by kernel_rfl
 c76:=by kernel_rfl
 c80:=by kernel_rfl
 c85:=by kernel_rfl
 c127:=by kernel_rfl
 c143:=by kernel_rfl
 c145:=by kernel_rfl
 c167:=by kernel_rfl
 c168:=by kernel_rfl
 c171:=by kernel_rfl
 c173:=by kernel_rfl
 c175:=by kernel_rfl
 c210:=by kernel_rfl
 c212:=by kernel_rfl
 c213:=by kernel_rfl
 c232:=by kernel_rfl
 c233:=by kernel_rfl }
open Go.RowKit in
theorem Tryz.strconv_Atoi_ok (s:ByteArray) (hmax:s.size≤9223372036854775806) (v:Int) (h:Lib.atoiAll s.data.toList=.ok v) (w:World):
 Calls Tryz.prog 53 #[.string s] w fun e w'=>e=.returned (.tuple #[.int .i64 v,.nilIface])∧(w'=w∨∃t,w'=Lib.bytesWorld w 5 t):=Any.strconv_Atoi_ok Tryz.laysC172 s hmax v h w
open Go.RowKit in
theorem Tryz.strconv_Atoi_syntax (s:ByteArray) (hlim:s.size≤281474976710656) (h:Lib.atoiAll s.data.toList=Lib.NumEnd.syntax) (ev:Value) (w:World) (hv:w.cell? ⟨3,0,none⟩=some ev) (hev:ev=.nilIface∨∃te pe,ev=.iface te pe):
 Calls Tryz.prog 53 #[.string s] w fun e w'=>∃N,e=.returned (.tuple #[.int .i64 (0),.iface 203 (.pointer (some ⟨N,0,none⟩))])∧w.heap.size≤N∧w'.heap[N]?=some (.cells #[.string ⟨#[65,116,111,105]⟩,.string s,ev] 235 (0,0))∧Below w.heap.size w w':=Any.strconv_Atoi_syntax Tryz.laysC172 s hlim h ev w hv hev
open Go.RowKit in
theorem Tryz.strconv_Atoi_range (s:ByteArray) (hlim:s.size≤281474976710656) (h:Lib.atoiAll s.data.toList=.range) (ev:Value) (w:World) (hv:w.cell? ⟨4,0,none⟩=some ev) (hev:ev=.nilIface∨∃te pe,ev=.iface te pe):
 Calls Tryz.prog 53 #[.string s] w fun e w'=>∃N,e=.returned (.tuple #[.int .i64 (Lib.atoiSat s.data.toList),.iface 203 (.pointer (some ⟨N,0,none⟩))])∧w.heap.size≤N∧w'.heap[N]?=some (.cells #[.string ⟨#[65,116,111,105]⟩,.string s,ev] 235 (0,0))∧Below w.heap.size w w':=Any.strconv_Atoi_range Tryz.laysC172 s hlim h ev w hv hev
def Tryz.lays143_ren:Go.Shelf.Ren:=⟨fun | 143=>54 | 219=>83 | 217=>126 | 225=>120 | 224=>119 | 267=>127 | 266=>152 | 314=>153 | n=>n,fun | 9=>9 | 3=>3 | 4=>4 | 5=>5 | 46=>151 | 146=>237 | 51=>186 | n=>n,fun | 1=>1 | n=>n⟩
theorem Tryz.lays143:Go.Proofs.Lays.n143 Tryz.prog Tryz.lays143_ren:={
 mixed:=by kernel_rfl
 f143:=Tryz.func54.trans (congrArg some (by kernel_rfl))
 f217:=Tryz.func126.trans (congrArg some (by kernel_rfl))
 f219:=Tryz.func83.trans (congrArg some (by kernel_rfl))
 f224:=Tryz.func119.trans (congrArg some (by kernel_rfl))
 f225:=Tryz.func120.trans (congrArg some (by kernel_rfl))
 f266:=Tryz.func152.trans (congrArg some (by kernel_rfl))
 f267:=Tryz.func127.trans (congrArg some (by kernel_rfl))
 f314:=Tryz.func153.trans (congrArg some (by kernel_rfl))
 t3:=Tryz.underlying3
 a3:=Tryz.isAgg3
 z3:=Tryz.sizeOf3
 v3:=Tryz.zeroValue3
 t4:=Tryz.underlying4
 a4:=Tryz.isAgg4
 z4:=Tryz.sizeOf4
 v4:=Tryz.zeroValue4
 t5:=Tryz.underlying5
 a5:=Tryz.isAgg5
 z5:=Tryz.sizeOf5
 v5:=Tryz.zeroValue5
 t9:=Tryz.underlying9
 a9:=Tryz.isAgg9
 z9:=Tryz.sizeOf9
 v9:=Tryz.zeroValue9
 t46:=Tryz.underlying151
 a46:=Tryz.isAgg151
 z46:=Tryz.sizeOf151
 v46:=Tryz.zeroValue151
 t51:=Tryz.underlying186
 a51:=Tryz.isAgg186
 z51:=Tryz.sizeOf186
 v51:=Tryz.zeroValue186
 t146:=Tryz.underlying237
 a146:=Tryz.isAgg237
 z146:=Tryz.sizeOf237
 v146:=Tryz.zeroValue237
 g1:=by kernel_rfl }
open Go.RowKit Go.Lib in
theorem Tryz.strings_Index_one (s:ByteArray) (c:UInt8) (w:World):
 Calls Tryz.prog 54 #[.string s,.string ⟨#[c]⟩] w fun e w'=>e=.returned (.int .i64 (Lib.indexByte s.data.toList c))∧w'=w:=Any.strings_Index_one Tryz.lays143 s c w
def Tryz.lays144_ren:Go.Shelf.Ren:=⟨fun | 144=>80 | 143=>54 | 219=>83 | 217=>126 | 225=>120 | 224=>119 | 267=>127 | 266=>152 | 314=>153 | n=>n,fun | 9=>9 | 4=>4 | 3=>3 | 5=>5 | 46=>151 | 146=>237 | 51=>186 | n=>n,fun | 1=>1 | n=>n⟩
theorem Tryz.lays144:Go.Proofs.Lays.n144 Tryz.prog Tryz.lays144_ren:={
 mixed:=by kernel_rfl
 f143:=Tryz.func54.trans (congrArg some (by kernel_rfl))
 f144:=Tryz.func80.trans (congrArg some (by kernel_rfl))
 f217:=Tryz.func126.trans (congrArg some (by kernel_rfl))
 f219:=Tryz.func83.trans (congrArg some (by kernel_rfl))
 f224:=Tryz.func119.trans (congrArg some (by kernel_rfl))
 f225:=Tryz.func120.trans (congrArg some (by kernel_rfl))
 f266:=Tryz.func152.trans (congrArg some (by kernel_rfl))
 f267:=Tryz.func127.trans (congrArg some (by kernel_rfl))
 f314:=Tryz.func153.trans (congrArg some (by kernel_rfl))
 t3:=Tryz.underlying3
 a3:=Tryz.isAgg3
 z3:=Tryz.sizeOf3
 v3:=Tryz.zeroValue3
 t4:=Tryz.underlying4
 a4:=Tryz.isAgg4
 z4:=Tryz.sizeOf4
 v4:=Tryz.zeroValue4
 t5:=Tryz.underlying5
 a5:=Tryz.isAgg5
 z5:=Tryz.sizeOf5
 v5:=Tryz.zeroValue5
 t9:=Tryz.underlying9
 a9:=Tryz.isAgg9
 z9:=Tryz.sizeOf9
 v9:=Tryz.zeroValue9
 t46:=Tryz.underlying151
 a46:=Tryz.isAgg151
 z46:=Tryz.sizeOf151
 v46:=Tryz.zeroValue151
 t51:=Tryz.underlying186
 a51:=Tryz.isAgg186
 z51:=Tryz.sizeOf186
 v51:=Tryz.zeroValue186
 t146:=Tryz.underlying237
 a146:=Tryz.isAgg237
 z146:=Tryz.sizeOf237
 v146:=Tryz.zeroValue237
 g1:=by kernel_rfl }
open Go.RowKit Go.Lib in
theorem Tryz.strings_Contains_one (s:ByteArray) (c:UInt8) (w:World):
 Calls Tryz.prog 80 #[.string s,.string ⟨#[c]⟩] w fun e w'=>e=.returned (.bool (decide (0≤Lib.indexByte s.data.toList c)))∧w'=w:=Any.strings_Contains_one Tryz.lays144 s c w
def Tryz.lays146_ren:Go.Shelf.Ren:=⟨fun | 146=>51 | 221=>78 | 268=>115 | 138=>116 | 143=>54 | 195=>146 | 197=>147 | 218=>148 | 219=>83 | 260=>162 | 217=>126 | 225=>120 | 224=>119 | 267=>127 | 266=>152 | 314=>153 | n=>n,fun | 9=>9 | 31=>78 | 3=>3 | 4=>4 | 0=>0 | 105=>229 | 21=>21 | 5=>5 | 46=>151 | 119=>256 | 139=>259 | 138=>258 | 146=>237 | 51=>186 | n=>n,fun | 1=>1 | 3=>6 | 4=>7 | n=>n⟩
theorem Tryz.lays146:Go.Proofs.Lays.n146 Tryz.prog Tryz.lays146_ren:={
 mixed:=by kernel_rfl
 f138:=Tryz.func116.trans (congrArg some (by kernel_rfl))
 f143:=Tryz.func54.trans (congrArg some (by kernel_rfl))
 f146:=Tryz.func51.trans (congrArg some (by kernel_rfl))
 f195:=Tryz.func146.trans (congrArg some (by kernel_rfl))
 f197:=Tryz.func147.trans (congrArg some (by kernel_rfl))
 f217:=Tryz.func126.trans (congrArg some (by kernel_rfl))
 f218:=Tryz.func148.trans (congrArg some (by kernel_rfl))
 f219:=Tryz.func83.trans (congrArg some (by kernel_rfl))
 f221:=Tryz.func78.trans (congrArg some (by kernel_rfl))
 f224:=Tryz.func119.trans (congrArg some (by kernel_rfl))
 f225:=Tryz.func120.trans (congrArg some (by kernel_rfl))
 f260:=Tryz.func162.trans (congrArg some (by kernel_rfl))
 f266:=Tryz.func152.trans (congrArg some (by kernel_rfl))
 f267:=Tryz.func127.trans (congrArg some (by kernel_rfl))
 f268:=Tryz.func115.trans (congrArg some (by kernel_rfl))
 f314:=Tryz.func153.trans (congrArg some (by kernel_rfl))
 t0:=Tryz.underlying0
 a0:=Tryz.isAgg0
 z0:=Tryz.sizeOf0
 v0:=Tryz.zeroValue0
 t3:=Tryz.underlying3
 a3:=Tryz.isAgg3
 z3:=Tryz.sizeOf3
 v3:=Tryz.zeroValue3
 t4:=Tryz.underlying4
 a4:=Tryz.isAgg4
 z4:=Tryz.sizeOf4
 v4:=Tryz.zeroValue4
 t5:=Tryz.underlying5
 a5:=Tryz.isAgg5
 z5:=Tryz.sizeOf5
 v5:=Tryz.zeroValue5
 t9:=Tryz.underlying9
 a9:=Tryz.isAgg9
 z9:=Tryz.sizeOf9
 v9:=Tryz.zeroValue9
 t21:=Tryz.underlying21
 a21:=Tryz.isAgg21
 z21:=Tryz.sizeOf21
 v21:=Tryz.zeroValue21
 t31:=Tryz.underlying78
 a31:=Tryz.isAgg78
 z31:=Tryz.sizeOf78
 v31:=Tryz.zeroValue78
 t46:=Tryz.underlying151
 a46:=Tryz.isAgg151
 z46:=Tryz.sizeOf151
 v46:=Tryz.zeroValue151
 t51:=Tryz.underlying186
 a51:=Tryz.isAgg186
 z51:=Tryz.sizeOf186
 v51:=Tryz.zeroValue186
 t105:=Tryz.underlying229
 a105:=Tryz.isAgg229
 z105:=Tryz.sizeOf229
 v105:=Tryz.zeroValue229
 t119:=Tryz.underlying256
 a119:=Tryz.isAgg256
 z119:=Tryz.sizeOf256
 t138:=Tryz.underlying258
 a138:=Tryz.isAgg258
 z138:=Tryz.sizeOf258
 v138:=Tryz.zeroValue258
 t139:=Tryz.underlying259
 a139:=Tryz.isAgg259
 z139:=Tryz.sizeOf259
 v139:=Tryz.zeroValue259
 t146:=Tryz.underlying237
 a146:=Tryz.isAgg237
 z146:=Tryz.sizeOf237
 v146:=Tryz.zeroValue237
 g1:=by kernel_rfl
 g3:=by kernel_rfl
 g4:=by kernel_rfl }
open Go.RowKit Go.Lib in
theorem Tryz.strings_Split (s sep:ByteArray) (m:Int) (w:World) (hs:s.size<4294967281) (hm:w.cell? ⟨1,0,none⟩=some (.int .i64 m)) (h1:1≤sep.size):
 Calls Tryz.prog 51 #[.string s,.string sep] w fun e w'=>
  e=.returned (.slice (some ⟨w.heap.size,0,none⟩) (Lib.countB s sep+1) (Lib.countB s sep+1))∧w'=w.alloc (.cells ((Lib.splitB sep 0 (Lib.countB s sep) s).map Value.string).toArray 9):=Any.strings_Split Tryz.lays146 (by kernel_rfl) s sep m w hs hm h1
def Tryz.lays152_ren:Go.Shelf.Ren:=⟨fun | 152=>79 | 137=>117 | 119=>118 | 224=>119 | 225=>120 | 217=>126 | 266=>152 | n=>n,fun | 9=>9 | 21=>21 | 3=>3 | 4=>4 | 5=>5 | 0=>0 | 46=>151 | n=>n,fun | n=>n⟩
theorem Tryz.lays152:Go.Proofs.Lays.n152 Tryz.prog Tryz.lays152_ren:={
 mixed:=by kernel_rfl
 f119:=Tryz.func118.trans (congrArg some (by kernel_rfl))
 f137:=Tryz.func117.trans (congrArg some (by kernel_rfl))
 f152:=Tryz.func79.trans (congrArg some (by kernel_rfl))
 f217:=Tryz.func126.trans (congrArg some (by kernel_rfl))
 f224:=Tryz.func119.trans (congrArg some (by kernel_rfl))
 f225:=Tryz.func120.trans (congrArg some (by kernel_rfl))
 f266:=Tryz.func152.trans (congrArg some (by kernel_rfl))
 t0:=Tryz.underlying0
 a0:=Tryz.isAgg0
 z0:=Tryz.sizeOf0
 v0:=Tryz.zeroValue0
 t3:=Tryz.underlying3
 a3:=Tryz.isAgg3
 z3:=Tryz.sizeOf3
 v3:=Tryz.zeroValue3
 t4:=Tryz.underlying4
 a4:=Tryz.isAgg4
 z4:=Tryz.sizeOf4
 v4:=Tryz.zeroValue4
 t5:=Tryz.underlying5
 a5:=Tryz.isAgg5
 z5:=Tryz.sizeOf5
 v5:=Tryz.zeroValue5
 t9:=Tryz.underlying9
 a9:=Tryz.isAgg9
 z9:=Tryz.sizeOf9
 v9:=Tryz.zeroValue9
 t21:=Tryz.underlying21
 a21:=Tryz.isAgg21
 z21:=Tryz.sizeOf21
 v21:=Tryz.zeroValue21
 t46:=Tryz.underlying151
 a46:=Tryz.isAgg151
 z46:=Tryz.sizeOf151
 v46:=Tryz.zeroValue151 }
open Go.RowKit Go.Lib in
theorem Tryz.strings_IndexRune_ascii (s:ByteArray) (r:Int) (w:World) (h0:0≤r) (h1:r<128):
 Calls Tryz.prog 79 #[.string s,.int .i32 r] w fun e w'=>e=.returned (.int .i64 (Lib.indexByte s.data.toList r.toNat.toUInt8))∧w'=w:=Any.strings_IndexRune_ascii Tryz.lays152 s r w h0 h1
end Go.Proofs
namespace Go.Proofs
open Go.RowKit Go.Shelf Go.Lib Go.Vm.X Go.Vm Go.Sort
namespace S07
theorem mixed:Tryz.prog.follows Departure.mixedOrders=true:=by kernel_rfl
def Grw (w w':World):Prop:=∃q os',w'=grow (w.drewN q) os'
theorem Grw.refl (w:World):Grw w w:=⟨0,#[],by simp[grow_empty,World.drewN]⟩
theorem Grw.alloc {w w':World} (h:Grw w w') (o:Obj):Grw w (w'.alloc o):=by
 obtain⟨q,os,rfl⟩:=h
 exact⟨q,os++#[o],by rw[alloc_eq_grow,grow_grow]⟩
theorem Grw.cell {w w':World} {p:Addr} {v:Value} (h:Grw w w') (hc:w.cell? p=some v):w'.cell? p=some v:=by
 obtain⟨q,os',rfl⟩:=h
 rw[cell?_grow _ _ _ (by have:=World.block_lt_of_cell? w p hc;simpa[World.drewN] using this)]
 exact hc
theorem Grw.trans {w1 w2 w3:World} (h:Grw w1 w2) (k:Grw w2 w3):Grw w1 w3:=by
 obtain⟨q,os,rfl⟩:=h
 obtain⟨q',os',rfl⟩:=k
 exact⟨q+q',os++os',by simp[grow,World.drewN,Nat.add_assoc,Array.append_assoc]⟩
theorem ki0 (a b:Int):Lib.compareInt a b=c3 a b:=by
 unfold Lib.compareInt c3
 by_cases h:a<b
 ·simp[h]
 ·by_cases h2:b<a<;>simp[h,h2]
theorem jox (a b:Int) (w:World):Calls Tryz.prog 75 #[.int .i64 a,.int .i64 b] w fun e w'=>e=.returned (.int .i64 (c3 a b))∧w'=w:=
 (Tryz.cmp_Compare_int a b w).mono fun e w' ⟨h,h2⟩=>⟨by rw[h,ki0],h2⟩
def j6i:List (Int×Int)→Int
 | []=>0
 | x::l=>lx (c3 x.1 x.2) (j6i l)
set_option maxHeartbeats 4000000 in
set_option maxRecDepth 100000 in
theorem kaw (a b x y:Int) (p c:Nat) (w:World) (h0:w.cell? ⟨p,0,none⟩=some (.int .i64 a)) (h1:w.cell? ⟨p,1,none⟩=some (.int .i64 b)) (h2:w.cell? ⟨p,2,none⟩=some (.int .i64 x)) (h3:w.cell? ⟨p,3,none⟩=some (.int .i64 y)):
  Calls Tryz.prog 41 #[.slice (some ⟨p,0,none⟩) 2 c] w fun e w'=>e=.returned (.int .i64 (j6i [(a,b),(x,y)]))∧Grw w w':=by
 have mixed:=mixed
 go_enter Tryz.func41,Tryz.ntmps41
 go_wp2
 go_loopg [8] 2 (fun g s8 wr=>∃k:Nat,k≤2∧2-k≤g∧s8=.int .i64 k∧Grw w wr∧Aside ((1≤k→c3 a b=0)∧(2≤k→c3 x y=0)))
 case atStart=>exact⟨0,Nat.zero_le _,by omega,rfl,Grw.refl w,fun h=>absurd h (by omega),fun h=>absurd h (by omega)⟩
 case round=>
  obtain⟨k,hk,hg,rfl,hG,A⟩:=hrel
  have g0:=hG.cell h0
  have g1:=hG.cell h1
  have g2:=hG.cell h2
  have g3:=hG.cell h3
  rcases(by omega:k=0∨k=1∨k=2) with rfl | rfl | rfl
  ·by_cases ha:c3 a b=0
   ·go_wp2_with (go_at_call 75;refine(jox _ _ _).mono ?_;rintro e w' ⟨rfl,rfl⟩)
    go_roundg 1
    case measure=>omega
    case rel=>exact⟨1,by omega,by omega,by go_num,hG.alloc _,fun _=>ha,fun h=>absurd h (by omega)⟩
   ·go_wp2_with (go_at_call 75;refine(jox _ _ _).mono ?_;rintro e w' ⟨rfl,rfl⟩)
    go_ret
    exact⟨by simp[j6i,lx,ha],hG.alloc _⟩
  ·have ha:=A.out.1 (by omega)
   by_cases hb:c3 x y=0
   ·go_wp2_with (go_at_call 75;refine(jox _ _ _).mono ?_;rintro e w' ⟨rfl,rfl⟩)
    go_roundg 0
    case measure=>omega
    case rel=>exact⟨2,by omega,by omega,by go_num,hG.alloc _,fun _=>ha,fun _=>hb⟩
   ·go_wp2_with (go_at_call 75;refine(jox _ _ _).mono ?_;rintro e w' ⟨rfl,rfl⟩)
    go_ret
    exact⟨by simp[j6i,lx,ha,hb],hG.alloc _⟩
  ·have ha:=A.out.1 (by omega)
   have hb:=A.out.2 (by omega)
   go_wp2
   go_ret
   exact⟨by simp[j6i,lx,ha,hb],hG⟩
set_option maxHeartbeats 4000000 in
set_option maxRecDepth 100000 in
theorem kau (a b x y u v:Int) (p c:Nat) (w:World) (h0:w.cell? ⟨p,0,none⟩=some (.int .i64 a)) (h1:w.cell? ⟨p,1,none⟩=some (.int .i64 b)) (h2:w.cell? ⟨p,2,none⟩=some (.int .i64 x)) (h3:w.cell? ⟨p,3,none⟩=some (.int .i64 y))
  (h4:w.cell? ⟨p,4,none⟩=some (.int .i64 u)) (h5:w.cell? ⟨p,5,none⟩=some (.int .i64 v)):
  Calls Tryz.prog 41 #[.slice (some ⟨p,0,none⟩) 3 c] w fun e w'=>e=.returned (.int .i64 (j6i [(a,b),(x,y),(u,v)]))∧Grw w w':=by
 have mixed:=mixed
 go_enter Tryz.func41,Tryz.ntmps41
 go_wp2
 go_loopg [8] 3 (fun g s8 wr=>∃k:Nat,k≤3∧3-k≤g∧s8=.int .i64 k∧Grw w wr∧Aside ((1≤k→c3 a b=0)∧(2≤k→c3 x y=0)∧(3≤k→c3 u v=0)))
 case atStart=>exact⟨0,Nat.zero_le _,by omega,rfl,Grw.refl w,fun h=>absurd h (by omega),fun h=>absurd h (by omega),fun h=>absurd h (by omega)⟩
 case round=>
  obtain⟨k,hk,hg,rfl,hG,A⟩:=hrel
  have g0:=hG.cell h0
  have g1:=hG.cell h1
  have g2:=hG.cell h2
  have g3:=hG.cell h3
  have g4:=hG.cell h4
  have g5:=hG.cell h5
  rcases(by omega:k=0∨k=1∨k=2∨k=3) with rfl | rfl | rfl | rfl
  ·by_cases ha:c3 a b=0
   ·go_wp2_with (go_at_call 75;refine(jox _ _ _).mono ?_;rintro e w' ⟨rfl,rfl⟩)
    go_roundg 2
    case measure=>omega
    case rel=>exact⟨1,by omega,by omega,by go_num,hG.alloc _,fun _=>ha,fun h=>absurd h (by omega),fun h=>absurd h (by omega)⟩
   ·go_wp2_with (go_at_call 75;refine(jox _ _ _).mono ?_;rintro e w' ⟨rfl,rfl⟩)
    go_ret
    exact⟨by simp[j6i,lx,ha],hG.alloc _⟩
  ·have ha:=A.out.1 (by omega)
   by_cases hb:c3 x y=0
   ·go_wp2_with (go_at_call 75;refine(jox _ _ _).mono ?_;rintro e w' ⟨rfl,rfl⟩)
    go_roundg 1
    case measure=>omega
    case rel=>exact⟨2,by omega,by omega,by go_num,hG.alloc _,fun _=>ha,fun _=>hb,fun h=>absurd h (by omega)⟩
   ·go_wp2_with (go_at_call 75;refine(jox _ _ _).mono ?_;rintro e w' ⟨rfl,rfl⟩)
    go_ret
    exact⟨by simp[j6i,lx,ha,hb],hG.alloc _⟩
  ·have ha:=A.out.1 (by omega)
   have hb:=A.out.2.1 (by omega)
   by_cases hc:c3 u v=0
   ·go_wp2_with (go_at_call 75;refine(jox _ _ _).mono ?_;rintro e w' ⟨rfl,rfl⟩)
    go_roundg 0
    case measure=>omega
    case rel=>exact⟨3,by omega,by omega,by go_num,hG.alloc _,fun _=>ha,fun _=>hb,fun _=>hc⟩
   ·go_wp2_with (go_at_call 75;refine(jox _ _ _).mono ?_;rintro e w' ⟨rfl,rfl⟩)
    go_ret
    exact⟨by simp[j6i,lx,ha,hb,hc],hG.alloc _⟩
  ·have ha:=A.out.1 (by omega)
   have hb:=A.out.2.1 (by omega)
   have hc:=A.out.2.2 (by omega)
   go_wp2
   go_ret
   exact⟨by simp[j6i,lx,ha,hb,hc],hG⟩
theorem kc8 (W:World) (l:Array Value) (t:TypeId) (i:Nat) (v:Value) (h:l[i]?=some v):(W.alloc (.cells l t)).cell? ⟨W.heap.size,i,none⟩=some v:=by rw[World.cell?_alloc_new W _ _ i,h]
theorem kax (Y:World) (s:Nat) (hs:Y.heap.size=s) (a b x y:Int) (t:TypeId):Calls Tryz.prog 41 #[.slice (some ⟨s,0,none⟩) 2 2] (Y.alloc (.cells #[.int .i64 a,.int .i64 b,.int .i64 x,.int .i64 y] t)) fun e w'=>e=.returned (.int .i64 (j6i [(a,b),(x,y)]))∧Grw (Y.alloc (.cells #[.int .i64 a,.int .i64 b,.int .i64 x,.int .i64 y] t)) w':=by
 subst hs
 exact kaw _ _ _ _ _ _ _ (kc8 _ _ _ 0 _ rfl) (kc8 _ _ _ 1 _ rfl) (kc8 _ _ _ 2 _ rfl) (kc8 _ _ _ 3 _ rfl)
theorem kav (Y:World) (s:Nat) (hs:Y.heap.size=s) (a b x y u v:Int) (t:TypeId):Calls Tryz.prog 41 #[.slice (some ⟨s,0,none⟩) 3 3] (Y.alloc (.cells #[.int .i64 a,.int .i64 b,.int .i64 x,.int .i64 y,.int .i64 u,.int .i64 v] t)) fun e w'=>e=.returned (.int .i64 (j6i [(a,b),(x,y),(u,v)]))∧Grw (Y.alloc (.cells #[.int .i64 a,.int .i64 b,.int .i64 x,.int .i64 y,.int .i64 u,.int .i64 v] t)) w':=by
 subst hs
 exact kau _ _ _ _ _ _ _ _ _ (kc8 _ _ _ 0 _ rfl) (kc8 _ _ _ 1 _ rfl) (kc8 _ _ _ 2 _ rfl) (kc8 _ _ _ 3 _ rfl) (kc8 _ _ _ 4 _ rfl) (kc8 _ _ _ 5 _ rfl)
theorem klz (a:Int):lx a 0=a:=by
 unfold lx
 by_cases h:a=0<;>simp[h]
theorem Grw.al2 {w w':World} (o1 o2 o3:Obj) (h:Grw (((w.alloc o1).alloc o2).alloc o3) w'):Grw w w':=((((Grw.refl w).alloc o1).alloc o2).alloc o3).trans h
set_option maxHeartbeats 4000000 in
set_option maxRecDepth 100000 in
theorem cmpC_walk (x:jc1) (y:jc1) (w:World):Calls Tryz.prog 45 #[.agg #[.int .i64 x.1,.int .u8 x.2.1,.int .u8 x.2.2],.agg #[.int .i64 y.1,.int .u8 y.2.1,.int .u8 y.2.2]] w fun e w'=>e=.returned (.int .i64 (cfC x y))∧Grw w w':=by
 have mixed:=mixed
 go_enter Tryz.func45,Tryz.ntmps45
 go_wp2_with (go_at_call 41;refine(kax _ _ (by simp) _ _ _ _ _).mono ?_;rintro e w' ⟨rfl,hG⟩)
 go_ret
 exact⟨by simp only[j6i,klz];rfl,hG.al2⟩
set_option maxHeartbeats 4000000 in
set_option maxRecDepth 100000 in
theorem cmpG_walk (x:kgn) (y:kgn) (w:World):Calls Tryz.prog 40 #[.agg #[.int .u8 x.1,.int .u8 x.2.1.1,.int .i64 x.2.1.2,.int .i64 x.2.2.1,.int .i64 x.2.2.2],.agg #[.int .u8 y.1,.int .u8 y.2.1.1,.int .i64 y.2.1.2,.int .i64 y.2.2.1,.int .i64 y.2.2.2]] w fun e w'=>e=.returned (.int .i64 (cfG x y))∧Grw w w':=by
 have mixed:=mixed
 go_enter Tryz.func40,Tryz.ntmps40
 go_wp2_with (go_at_call 41;refine(kav _ _ (by simp) _ _ _ _ _ _ _).mono ?_;rintro e w' ⟨rfl,hG⟩)
 go_ret
 exact⟨by simp only[j6i,klz];rfl,hG.al2⟩
end S07
end Go.Proofs
namespace Go.Proofs
open Go.RowKit Go.Shelf Go.Lib Go.Vm.X Go.Vm Go.Sort
namespace S07
theorem jpo (w:World) (d:Nat):Below w.heap.size w { heap:=w.heap,tape:=w.tape,drawn:=d,os:=w.os,output:=w.output }:=⟨rfl,rfl,rfl,Nat.le_refl _,fun _ _=>rfl⟩
theorem j8v (w:World) (s:ByteArray) (p:Nat):Below w.heap.size w (w.iter s p):=by
 have h:(w.iter s p).heap=w.heap.push (.stringIter s p):=rfl
 refine⟨rfl,rfl,rfl,?_,fun k hk=>?_⟩
 ·rw[h,Array.size_push];omega
 ·rw[h,Array.getElem?_push,if_neg (by omega)]
theorem jzr:∀(l:List UInt8) (c:UInt8),c∉l→Lib.indexByte l c= -1
 | [],c,_=>rfl
 | b::l,c,h=>by
   have h1:¬b=c:=fun e=>h (by rw[e];exact List.mem_cons_self)
   have h2:=jzr l c fun e=>h (List.mem_cons_of_mem _ e)
   simp[Lib.indexByte,h1,h2]
set_option maxHeartbeats 2000000 in
set_option maxRecDepth 100000 in
theorem kio (r:Int) (h0:128≤r) (h1:r≤1114111) (h2:r≠65533) (hv:r<55296∨57343<r) (w:World) (b0 b1:UInt8) (he:Utf8.encode r=⟨#[b0,b1]⟩) (hb:128≤b1.toNat):
  Calls Tryz.prog 79 #[.string ⟨#[32,120,121,117,100]⟩,.int .i32 r] w fun e w'=>e=.returned (.int .i64 (-1))∧Below w.heap.size w w':=by
 have mixed:=mixed
 have hcv:∀w,(convert 21 9 (.int .i32 r)).run Tryz.prog w=.ok (.string ⟨#[b0,b1]⟩) w:=fun w=>by rw[←he];exact run_convert_int_string w 21 9 .i32 r (by kernel_rfl) (by kernel_rfl)
 have e4:IntKind.i64.wrap 2=2:=by decide
 have q1:((⟨#[32,120,121,117,100]⟩:ByteArray)[1]'(by decide)).toNat=120:=by decide
 have q2:((⟨#[b0,b1]⟩:ByteArray)[1]'(by show 1<2;decide)).toNat=b1.toNat:=rfl
 have q3:Lib.indexByte [121,117,100] b1= -1:=jzr _ _ fun hm=>by
  have:∀x∈([121,117,100]:List UInt8),x.toNat<128:=by decide
  have:=this _ hm
  omega
 have hb3:¬((120:Int)=(b1.toNat:Int)):=by omega
 have hb4:¬((b1.toNat:Int)=(120:Int)):=by omega
 rcases hv with hv | hv
 all_goals
  go_enter Tryz.func79,Tryz.ntmps79
  go_wp2_with (first | (exfalso;omega) | go_step3 | go_still mixed | (refine wp_loop_rounds 1 ?_;rw[rounds_succ]) | go_in)
  refine wp_region_still_lit mixed (by kernel_rfl) ?_
  repeat still_step
  still_call (Any.strings_IndexByte { Tryz.lays152 with } _ _ _)
  repeat still_step
  refine wpStill_nil ?_
  go_wp2_with (first | (exfalso;omega) | go_step3 | go_still mixed | (refine wp_loop_rounds 1 ?_;rw[rounds_succ]) | go_in)
  (try simp only[Exit.noGoto,Exit.inBlock,Exit.then])
  go_ret
  exact⟨rfl,jpo w _⟩
set_option maxHeartbeats 2000000 in
set_option maxRecDepth 100000 in
theorem kim (r:Int) (h0:128≤r) (h1:r≤1114111) (h2:r≠65533) (hv:r<55296∨57343<r) (w:World) (b0 b1 b2:UInt8) (he:Utf8.encode r=⟨#[b0,b1,b2]⟩) (hb:128≤b2.toNat):
  Calls Tryz.prog 79 #[.string ⟨#[32,120,121,117,100]⟩,.int .i32 r] w fun e w'=>e=.returned (.int .i64 (-1))∧Below w.heap.size w w':=by
 have mixed:=mixed
 have hcv:∀w,(convert 21 9 (.int .i32 r)).run Tryz.prog w=.ok (.string ⟨#[b0,b1,b2]⟩) w:=fun w=>by rw[←he];exact run_convert_int_string w 21 9 .i32 r (by kernel_rfl) (by kernel_rfl)
 have e4:IntKind.i64.wrap 3=3:=by decide
 have q1:((⟨#[32,120,121,117,100]⟩:ByteArray)[2]'(by decide)).toNat=121:=by decide
 have q2:((⟨#[b0,b1,b2]⟩:ByteArray)[2]'(by show 2<3;decide)).toNat=b2.toNat:=rfl
 have q3:Lib.indexByte [117,100] b2= -1:=jzr _ _ fun hm=>by
  have:∀x∈([117,100]:List UInt8),x.toNat<128:=by decide
  have:=this _ hm
  omega
 have hb3:¬((121:Int)=(b2.toNat:Int)):=by omega
 have hb4:¬((b2.toNat:Int)=(121:Int)):=by omega
 rcases hv with hv | hv
 all_goals
  go_enter Tryz.func79,Tryz.ntmps79
  go_wp2_with (first | (exfalso;omega) | go_step3 | go_still mixed | (refine wp_loop_rounds 1 ?_;rw[rounds_succ]) | go_in)
  refine wp_region_still_lit mixed (by kernel_rfl) ?_
  repeat still_step
  still_call (Any.strings_IndexByte { Tryz.lays152 with } _ _ _)
  repeat still_step
  refine wpStill_nil ?_
  go_wp2_with (first | (exfalso;omega) | go_step3 | go_still mixed | (refine wp_loop_rounds 1 ?_;rw[rounds_succ]) | go_in)
  (try simp only[Exit.noGoto,Exit.inBlock,Exit.then])
  go_ret
  exact⟨rfl,jpo w _⟩
set_option maxHeartbeats 2000000 in
set_option maxRecDepth 100000 in
theorem kil (r:Int) (h0:128≤r) (h1:r≤1114111) (h2:r≠65533) (hv:r<55296∨57343<r) (w:World) (b0 b1 b2 b3:UInt8) (he:Utf8.encode r=⟨#[b0,b1,b2,b3]⟩) (hb:128≤b3.toNat):
  Calls Tryz.prog 79 #[.string ⟨#[32,120,121,117,100]⟩,.int .i32 r] w fun e w'=>e=.returned (.int .i64 (-1))∧Below w.heap.size w w':=by
 have mixed:=mixed
 have hcv:∀w,(convert 21 9 (.int .i32 r)).run Tryz.prog w=.ok (.string ⟨#[b0,b1,b2,b3]⟩) w:=fun w=>by rw[←he];exact run_convert_int_string w 21 9 .i32 r (by kernel_rfl) (by kernel_rfl)
 have e4:IntKind.i64.wrap 4=4:=by decide
 have q1:((⟨#[32,120,121,117,100]⟩:ByteArray)[3]'(by decide)).toNat=117:=by decide
 have q2:((⟨#[b0,b1,b2,b3]⟩:ByteArray)[3]'(by show 3<4;decide)).toNat=b3.toNat:=rfl
 have q3:Lib.indexByte [100] b3= -1:=jzr _ _ fun hm=>by
  have:∀x∈([100]:List UInt8),x.toNat<128:=by decide
  have:=this _ hm
  omega
 have hb3:¬((117:Int)=(b3.toNat:Int)):=by omega
 have hb4:¬((b3.toNat:Int)=(117:Int)):=by omega
 rcases hv with hv | hv
 all_goals
  go_enter Tryz.func79,Tryz.ntmps79
  go_wp2_with (first | (exfalso;omega) | go_step3 | go_still mixed | (refine wp_loop_rounds 1 ?_;rw[rounds_succ]) | go_in)
  refine wp_region_still_lit mixed (by kernel_rfl) ?_
  repeat still_step
  still_call (Any.strings_IndexByte { Tryz.lays152 with } _ _ _)
  repeat still_step
  refine wpStill_nil ?_
  go_wp2_with (first | (exfalso;omega) | go_step3 | go_still mixed | (refine wp_loop_rounds 1 ?_;rw[rounds_succ]) | go_in)
  (try simp only[Exit.noGoto,Exit.inBlock,Exit.then])
  go_ret
  exact⟨rfl,jpo w _⟩
set_option maxHeartbeats 2000000 in
set_option maxRecDepth 100000 in
theorem kip (w:World):Calls Tryz.prog 79 #[.string ⟨#[32,120,121,117,100]⟩,.int .i32 65533] w fun e w'=>e=.returned (.int .i64 (-1))∧Below w.heap.size w w':=by
 have mixed:=mixed
 have hn0:∀ty,(Instr.next (.pointer (some ⟨w.heap.size,0,none⟩)) true ty).run Tryz.prog (w.iter ⟨#[32,120,121,117,100]⟩ 0)=.ok (.tuple #[.bool true,.int .i64 0,.int .i32 32]) (w.iter ⟨#[32,120,121,117,100]⟩ 1):=fun ty=>run_next_any (P:=Tryz.prog) w _ 0 ty (by decide)
 have hn1:∀ty,(Instr.next (.pointer (some ⟨w.heap.size,0,none⟩)) true ty).run Tryz.prog (w.iter ⟨#[32,120,121,117,100]⟩ 1)=.ok (.tuple #[.bool true,.int .i64 1,.int .i32 120]) (w.iter ⟨#[32,120,121,117,100]⟩ 2):=fun ty=>run_next_any (P:=Tryz.prog) w _ 1 ty (by decide)
 have hn2:∀ty,(Instr.next (.pointer (some ⟨w.heap.size,0,none⟩)) true ty).run Tryz.prog (w.iter ⟨#[32,120,121,117,100]⟩ 2)=.ok (.tuple #[.bool true,.int .i64 2,.int .i32 121]) (w.iter ⟨#[32,120,121,117,100]⟩ 3):=fun ty=>run_next_any (P:=Tryz.prog) w _ 2 ty (by decide)
 have hn3:∀ty,(Instr.next (.pointer (some ⟨w.heap.size,0,none⟩)) true ty).run Tryz.prog (w.iter ⟨#[32,120,121,117,100]⟩ 3)=.ok (.tuple #[.bool true,.int .i64 3,.int .i32 117]) (w.iter ⟨#[32,120,121,117,100]⟩ 4):=fun ty=>run_next_any (P:=Tryz.prog) w _ 3 ty (by decide)
 have hn4:∀ty,(Instr.next (.pointer (some ⟨w.heap.size,0,none⟩)) true ty).run Tryz.prog (w.iter ⟨#[32,120,121,117,100]⟩ 4)=.ok (.tuple #[.bool true,.int .i64 4,.int .i32 100]) (w.iter ⟨#[32,120,121,117,100]⟩ 5):=fun ty=>run_next_any (P:=Tryz.prog) w _ 4 ty (by decide)
 have hn5:∀ty,(Instr.next (.pointer (some ⟨w.heap.size,0,none⟩)) true ty).run Tryz.prog (w.iter ⟨#[32,120,121,117,100]⟩ 5)=.ok (.tuple #[.bool false]) (w.iter ⟨#[32,120,121,117,100]⟩ 5):=fun ty=>run_next_end (P:=Tryz.prog) w _ 5 ty (by decide)
 go_enter Tryz.func79,Tryz.ntmps79
 go_wp2_with (first | go_step3 | go_still mixed | (refine wp_loop_rounds 6 ?_;rw[rounds_succ]) | (rw[rounds_succ]) | go_in)
 go_ret
 exact⟨rfl,j8v w _ _⟩
def kem (r:Int):Int:=if r<128 then Lib.indexByte [32,120,121,117,100] r.toNat.toUInt8 else -1
theorem keu (r:Int) (hv:Utf8.valid r=true) (h:128≤r):(∃b0 b1,Utf8.encode r=⟨#[b0,b1]⟩∧128≤b1.toNat)∨(∃b0 b1 b2,Utf8.encode r=⟨#[b0,b1,b2]⟩∧128≤b2.toNat)∨(∃b0 b1 b2 b3,Utf8.encode r=⟨#[b0,b1,b2,b3]⟩∧128≤b3.toNat):=by
 have hc:¬r.toNat<128:=by omega
 have hl:128≤(UInt8.ofNat (128+r.toNat%64)).toNat:=by simp;omega
 unfold Utf8.encode
 simp only[hv,if_true,hc,if_false]
 split
 ·exact .inl ⟨_,_,rfl,hl⟩
 ·split
  ·exact .inr (.inl ⟨_,_,_,rfl,hl⟩)
  ·exact .inr (.inr ⟨_,_,_,_,rfl,hl⟩)
theorem jua (r:Int):Utf8.valid r=true↔0≤r∧(r<55296∨57344≤r∧r≤1114111):=by
 unfold Utf8.valid
 simp only[Bool.or_eq_true,Bool.and_eq_true,decide_eq_true_eq]
 omega
theorem kb6 (s:ByteArray) (pos:Nat):Utf8.valid ((Utf8.decode s pos).1:Int)=true:=by
 unfold Utf8.decode
 simp only
 split
 ·rw[jua];simp only;omega
 ·split
  ·split
   ·rw[jua];simp only;omega
   ·decide
  ·split
   ·split
    ·rename_i h
     simp only[Bool.and_eq_true] at h
     exact h.2
    ·decide
   ·split
    ·split
     ·rename_i h
      simp only[Bool.and_eq_true] at h
      exact h.2
     ·decide
    ·decide
theorem kel (r:Int) (hv:Utf8.valid r=true) (w:World):Calls Tryz.prog 79 #[.string ⟨#[32,120,121,117,100]⟩,.int .i32 r] w fun e w'=>e=.returned (.int .i64 (kem r))∧Below w.heap.size w w':=by
 have hv2:=(jua r).1 hv
 by_cases h:r<128
 ·refine(Tryz.strings_IndexRune_ascii _ r w hv2.1 h).mono ?_
  rintro e w' ⟨rfl,rfl⟩
  refine⟨?_,Below.refl _ _⟩
  unfold kem
  rw[if_pos h]
 ·have e5:kem r= -1:=by unfold kem;rw[if_neg h]
  rw[e5]
  by_cases he:r=65533
  ·subst he;exact kip w
  ·have h1:r≤1114111:=by omega
   have hr:r<55296∨57343<r:=by omega
   rcases keu r hv (by omega) with⟨b0,b1,g,hb⟩ | ⟨b0,b1,b2,g,hb⟩ | ⟨b0,b1,b2,b3,g,hb⟩
   ·exact kio r (by omega) h1 he hr w b0 b1 g hb
   ·exact kim r (by omega) h1 he hr w b0 b1 b2 g hb
   ·exact kil r (by omega) h1 he hr w b0 b1 b2 b3 g hb
end S07
end Go.Proofs
namespace Go.Proofs
open Go.RowKit Go.Shelf Go.Lib Go.Vm.X Go.Vm Go.Sort
namespace S07
def jjb (pos:Nat) (r:Int) (x:Int×Int):Int×Int:=
 if pos=0 then(max (kem r) 0,x.2)
 else if 1<pos∧48≤r∧r≤57∧x.2≤4096 then(x.1,10*x.2+ (r-48)) else x
def kju (L:List Nat):Nat→Int×Int
 | 0=>(0,0)
 | n+1=>jjb n (L.getD n 0:Nat) (kju L n)
abbrev LW0 (w:World) (k c:Int):World:=(w.alloc (.cells #[.int .u8 0,.int .i64 0] 27)).alloc (.cells #[.int .u8 k,.int .i64 c] 27)
abbrev LW (w:World) (k c:Int) (s:ByteArray) (pos:Nat):World:=(LW0 w k c).iter s pos
theorem j9h (s:ByteArray) (pos:Nat) (h:pos<s.size):1≤(Utf8.decode s pos).2:=by
 by_cases ha:(s[pos]'h).toNat<128
 ·rw[decode_ascii s pos h ha]
  exact Nat.le_refl _
 ·exact(decode_high s pos h (by omega)).2
def bytesN (s:ByteArray):List Nat:=s.data.toList.map UInt8.toNat
theorem bytesN_get (s:ByteArray) (i:Nat) (h:i<s.size):(bytesN s).getD i 0=(s[i]'h).toNat:=by
 unfold bytesN
 rw[List.getD_eq_getElem?_getD,List.getElem?_map,Array.getElem?_toList,Array.getElem?_eq_getElem (show i<s.data.size from h)]
 rfl
theorem kf7:∀(l:List UInt8) (c:UInt8), -1≤Lib.indexByte l c∧Lib.indexByte l c<l.length
 | [],c=>by simp[Lib.indexByte]
 | b::l,c=>by
   obtain⟨h1,h2⟩:=kf7 l c
   simp only[Lib.indexByte,List.length_cons]
   split
   ·omega
   ·split<;>omega
theorem kbm (r:Int): -1≤kem r∧kem r<5:=by
 unfold kem
 split
 ·have:=kf7 [32,120,121,117,100] r.toNat.toUInt8
  simpa using this
 ·decide
def lpFin (L:List Nat):Int×Int:=if 0≤Lib.indexByte (L.map UInt8.ofNat) 45 then((kju L L.length).1, -(kju L L.length).2) else kju L L.length
theorem j27 (s:ByteArray):(bytesN s).map UInt8.ofNat=s.data.toList:=by
 unfold bytesN
 rw[List.map_map]
 have:(UInt8.ofNat∘UInt8.toNat)=id:=by funext x;simp
 rw[this,List.map_id]
structure LpR (s:ByteArray) (pos:Nat) (k c:Int):Prop where
 k0:0≤k
 k1:k≤4
 c0:0≤c
 c1:c≤40969
 asc:(∀i (h:i<s.size),(s[i]'h).toNat<128)→pos≤s.size∧(k,c)=kju (bytesN s) pos
theorem LpR.step {s:ByteArray} {pos:Nat} {k c:Int} (h:LpR s pos k c) (hp:pos<s.size):
  LpR s (pos+ (Utf8.decode s pos).2) (jjb pos (Utf8.decode s pos).1 (k,c)).1 (jjb pos (Utf8.decode s pos).1 (k,c)).2:=by
 have hi:=kbm (Utf8.decode s pos).1
 obtain⟨k0,k1,c0,c1,asc⟩:=h
 refine⟨?_,?_,?_,?_,fun ha=>?_⟩
 ·unfold jjb;split
  ·simp only;omega
  ·split<;>simp only<;>omega
 ·unfold jjb;split
  ·simp only;omega
  ·split<;>simp only<;>omega
 ·unfold jjb;split
  ·simp only;omega
  ·split
   ·simp only at *;omega
   ·exact c0
 ·unfold jjb;split
  ·simp only;omega
  ·split
   ·simp only at *;omega
   ·exact c1
 ·obtain⟨h1,h2⟩:=asc ha
  rw[decode_ascii s pos hp (ha pos hp)]
  refine⟨hp,?_⟩
  simp only[kju]
  rw[←h2,bytesN_get s pos hp]
section
variable (w:World) (k c:Int) (s:ByteArray) (pos:Nat)
theorem jwh:(LW w k c s pos).heap=((w.heap.push (.cells #[.int .u8 0,.int .i64 0] 27)).push (.cells #[.int .u8 k,.int .i64 c] 27)).push (.stringIter s pos):=rfl
theorem kr9:(LW w k c s pos).heap[w.heap.size]?=some (.cells #[.int .u8 0,.int .i64 0] 27):=by
 rw[jwh]
 simp only[Array.getElem?_push,Array.size_push,if_neg (show ¬w.heap.size=w.heap.size+1+1 by omega),if_neg (show ¬w.heap.size=w.heap.size+1 by omega),if_true]
theorem kr8:(LW w k c s pos).heap[w.heap.size+1]?=some (.cells #[.int .u8 k,.int .i64 c] 27):=by
 rw[jwh]
 simp only[Array.getElem?_push,Array.size_push,if_neg (show ¬w.heap.size+1=w.heap.size+1+1 by omega),if_true]
theorem krw {W:World} {b i:Nat} {cs:Array Value} {t:TypeId} (h:W.heap[b]?=some (.cells cs t (0,0))):W.frozen? ⟨b,i,none⟩=false:=by
 simp[World.frozen?,h]
end
structure B2 (W:World) (b:Nat) (x y:Value):Prop where
 h:W.heap[b]?=some (.cells #[x,y] 27 (0,0))
theorem B2.c0 {W:World} {b:Nat} {x y:Value} (h:B2 W b x y):W.cell? ⟨b,0,none⟩=some x:=by simp[World.cell?,h.h]
theorem B2.c1 {W:World} {b:Nat} {x y:Value} (h:B2 W b x y):W.cell? ⟨b,1,none⟩=some y:=by simp[World.cell?,h.h]
theorem B2.fz {W:World} {b:Nat} {x y:Value} (h:B2 W b x y) (i:Nat):W.frozen? ⟨b,i,none⟩=false:=krw h.h
theorem B2.s0 {W:World} {b:Nat} {x y:Value} (h:B2 W b x y) (v:Value):B2 (W.setCell ⟨b,0,none⟩ v) b v y:=⟨by
 simp only[World.setCell,Array.getElem?_modify,if_true,h.h]
 rfl⟩
theorem B2.s1 {W:World} {b:Nat} {x y:Value} (h:B2 W b x y) (v:Value):B2 (W.setCell ⟨b,1,none⟩ v) b x v:=⟨by
 simp only[World.setCell,Array.getElem?_modify,if_true,h.h]
 rfl⟩
theorem jdi {W:World} {n b:Nat} (hb:n≤b) (a:Nat) (v:Value) {W0:World} (h:Below n W0 W):Below n W0 (W.setCell ⟨b,a,none⟩ v):=by
 refine⟨h.os,h.tape,h.output,?_,fun k hk=>?_⟩
 ·simp only[World.setCell,Array.size_modify];exact h.size
 ·rw[←h.block k hk]
  simp only[World.setCell,Array.getElem?_modify]
  rw[if_neg (by omega)]
theorem kff (w:World) (k c:Int) (s:ByteArray) (pos:Nat):Below w.heap.size w (LW w k c s pos):=by
 refine⟨rfl,rfl,rfl,?_,fun i hi=>?_⟩
 ·rw[jwh];simp only[Array.size_push];omega
 ·rw[jwh];simp only[Array.getElem?_push,Array.size_push]
  rw[if_neg (by omega),if_neg (by omega),if_neg (by omega)]
theorem kom (s:ByteArray) (pos:Nat) (hp:pos<s.size):(Utf8.decode s pos).1≤4194303:=by
 unfold Utf8.decode
 simp only
 repeat' split
 all_goals simp_all[Utf8.runeError]
 all_goals omega
structure LR (w W:World) (k c:Int) (s:ByteArray) (pos:Nat):Prop where
 b0:B2 W w.heap.size (.int .u8 0) (.int .i64 0)
 b1:B2 W (w.heap.size+1) (.int .u8 k) (.int .i64 c)
 it:W.heap[w.heap.size+1+1]?=some (.stringIter s pos)
 bl:Below w.heap.size w W
theorem LR.start (w:World) (s:ByteArray):LR w (LW w 0 0 s 0) 0 0 s 0:=⟨⟨kr9 w 0 0 s 0⟩,⟨kr8 w 0 0 s 0⟩,by rw[jwh];simp only[Array.getElem?_push,Array.size_push,if_true],kff w 0 0 s 0⟩
theorem LR.size {w W:World} {k c:Int} {s:ByteArray} {pos:Nat} (h:LR w W k c s pos):w.heap.size+2<W.heap.size:=(Array.getElem?_eq_some_iff.1 h.it).1
theorem LR.pos {w W:World} {k c:Int} {s:ByteArray} {pos:Nat} (h:LR w W k c s pos):W.iterPos (w.heap.size+1+1)=pos:=iterPos_of h.it
theorem LR.below {w W W2:World} {k c:Int} {s:ByteArray} {pos:Nat} (h:LR w W k c s pos) (hB:Below W.heap.size W W2):LR w W2 k c s pos:=by
 have hz:=h.size
 exact⟨⟨(hB.block _ (by omega)).trans h.b0.h⟩,⟨(hB.block _ (by omega)).trans h.b1.h⟩,(hB.block _ (by omega)).trans h.it,h.bl.trans ⟨hB.os,hB.tape,hB.output,hB.size,fun i hi=>hB.block i (by omega)⟩⟩
theorem LR.next {w W:World} {k c:Int} {s:ByteArray} {pos:Nat} (h:LR w W k c s pos) (hp:pos<s.size):∃W1,(∀ty,(Instr.next (.pointer (some ⟨w.heap.size+1+1,0,none⟩)) true ty).run Tryz.prog W=.ok (.tuple #[.bool true,.int .i64 pos,.int .i32 (Utf8.decode s pos).1]) W1)∧LR w W1 k c s (pos+ (Utf8.decode s pos).2):=
 ⟨_,fun ty=>run_next_any_at W _ s pos ty h.it hp,⟨(iterAt_other W _ _ s _ (by omega)).trans h.b0.h⟩,⟨(iterAt_other W _ _ s _ (by omega)).trans h.b1.h⟩,iterAt_heap W _ s pos _ h.it,below_iterAt h.bl (by omega) s _⟩
theorem LR.set {w W:World} {k c k' c':Int} {s:ByteArray} {pos:Nat} (h:LR w W k c s pos) (i:Nat) (v:Value) (hb:B2 (W.setCell ⟨w.heap.size+1,i,none⟩ v) (w.heap.size+1) (.int .u8 k') (.int .i64 c')):LR w (W.setCell ⟨w.heap.size+1,i,none⟩ v) k' c' s pos:=by
 have ho:∀j,j≠w.heap.size+1→(W.setCell ⟨w.heap.size+1,i,none⟩ v).heap[j]?=W.heap[j]?:=fun j hj=>by
  simp only[World.setCell,Array.getElem?_modify]
  rw[if_neg fun e=>hj e.symm]
 exact⟨⟨(ho _ (by omega)).trans h.b0.h⟩,hb,(ho _ (by omega)).trans h.it,jdi (by omega) _ _ h.bl⟩
theorem LR.setk {w W:World} {k c:Int} {s:ByteArray} {pos:Nat} (h:LR w W k c s pos) (k':Int):∃W1,W.setCell ⟨w.heap.size+1,0,none⟩ (.int .u8 k')=W1∧LR w W1 k' c s pos:=⟨_,rfl,h.set 0 _ (h.b1.s0 _)⟩
theorem LR.setc {w W:World} {k c:Int} {s:ByteArray} {pos:Nat} (h:LR w W k c s pos) (c':Int):∃W1,W.setCell ⟨w.heap.size+1,1,none⟩ (.int .i64 c')=W1∧LR w W1 k c' s pos:=⟨_,rfl,h.set 1 _ (h.b1.s1 _)⟩
set_option maxHeartbeats 4000000 in
set_option maxRecDepth 100000 in
theorem lp_walk (s:ByteArray) (w:World)
  (T:Int→Int→ByteArray) (hT:∀k c,0≤k→k≤4→ -40969≤c→c≤40969→((∀i (h:i<s.size),(s[i]'h).toNat<128)→(k,c)=lpFin (bytesN s))→∀w',Below w.heap.size w w'→Calls Tryz.prog 56 #[.agg #[.int .u8 k,.int .i64 c]] w' fun e w''=>e=.returned (.string (T k c))∧Below w'.heap.size w' w''):
  Calls Tryz.prog 52 #[.string s] w fun e w'=>(∃k c,0≤k∧k≤4∧ -40969≤c∧c≤40969∧((∀i (h:i<s.size),(s[i]'h).toNat<128)→(k,c)=lpFin (bytesN s))∧
   e=.returned (if s.toList=[]∨(T k c).toList≠s.toList then .tuple #[.agg #[.int .u8 0,.int .i64 0],.int .i64 4] else .tuple #[.agg #[.int .u8 k,.int .i64 c],.int .i64 0]))∧Below w.heap.size w w':=by
 have mixed:=mixed
 go_enter Tryz.func52,Tryz.ntmps52
 go_wp2
 go_loopw [9] (fun n w'=>∃(W:World) (pos:Nat) (k c:Int),W=w'∧LR w W k c s pos∧LpR s pos k c) (fun _ w'=>s.size-w'.iterPos (w.heap.size+1+1))
 case atStart=>exact⟨_,0,0,0,rfl,LR.start w s,by omega,by omega,by omega,by omega,fun _=>⟨Nat.zero_le _,rfl⟩⟩
 case round=>
  obtain⟨W,pos,k,c,rfl,hL,hr⟩:=hrel
  by_cases hp:pos<s.size
  ·obtain⟨W1,hnx,hL1⟩:=hL.next hp
   have hwd:=j9h s pos hp
   have hst:=hr.step hp
   have hmx:=kom s pos hp
   by_cases h0:pos=0
   ·subst h0
    have hv:=kb6 s 0
    have hb5:=kbm (Utf8.decode s 0).1
    go_wp2_with (go_at_call 79;refine(kel _ hv _).mono ?_;rintro e W2 ⟨rfl,hB⟩;have hL2:=hL1.below hB;have hk:=hL2.b1.c0;have hf:=hL2.b1.fz 0;obtain⟨W3,hs,hL3⟩:=hL2.setk (max (kem (Utf8.decode s 0).1) 0))
    refine⟨⟨_,_,_,_,rfl,hL3,hst⟩,?_⟩
    rw[hL3.pos,hL.pos];omega
   ·have hc1:=hr.c1
    have hc0:=hr.c0
    have hk:=hL1.b1.c1
    have hf:=hL1.b1.fz 1
    have hpz:((pos:Int)==0)=false:=by simpa using h0
    have hskip:jjb pos (Utf8.decode s pos).1 (k,c)=(k,c)→(∃(W:World) (pos':Nat) (k' c':Int),W=W1∧LR w W k' c' s pos'∧LpR s pos' k' c')∧s.size-W1.iterPos (w.heap.size+1+1)<s.size-W.iterPos (w.heap.size+1+1):=fun h=>by
     rw[h] at hst
     refine⟨⟨_,_,_,_,rfl,hL1,hst⟩,?_⟩
     rw[hL1.pos,hL.pos];omega
    generalize (Utf8.decode s pos).2=wd at *
    generalize (Utf8.decode s pos).1=r at *
    by_cases h1:1<pos
    ·by_cases h2:(r:Int)=45
     ·go_wp2
      exact hskip (by unfold jjb;rw[if_neg h0,if_neg (by omega)])
     ·by_cases h3:(48:Int)≤r
      ·by_cases h4:(r:Int)≤57
       ·by_cases h5:c≤4096
        ·have e1:wrap64 (10*c)=10*c:=by unfold wrap64;omega
         have e2:wrap64 (10*c+ ((r:Int)-48))=10*c+ ((r:Int)-48):=by unfold wrap64;omega
         have e3:wrap32 ((r:Int)-48)=(r:Int)-48:=by unfold wrap32;omega
         have e4:wrap64 ((r:Int)-48)=(r:Int)-48:=by unfold wrap64;omega
         have hst':LpR s (pos+wd) k (10*c+ ((r:Int)-48)):=by
          have:jjb pos r (k,c)=(k,10*c+ ((r:Int)-48)):=by unfold jjb;rw[if_neg h0,if_pos ⟨h1,h3,h4,h5⟩]
          rw[this] at hst;exact hst
         obtain⟨W2,hs,hL2⟩:=hL1.setc (10*c+ ((r:Int)-48))
         go_wp2
         refine⟨⟨_,_,_,_,rfl,hL2,hst'⟩,?_⟩
         rw[hL2.pos,hL.pos];omega
        ·go_wp2
         exact hskip (by unfold jjb;rw[if_neg h0,if_neg (by omega)])
       ·go_wp2
        exact hskip (by unfold jjb;rw[if_neg h0,if_neg (by omega)])
      ·go_wp2
       exact hskip (by unfold jjb;rw[if_neg h0,if_neg (by omega)])
    ·go_wp2
     exact hskip (by unfold jjb;rw[if_neg h0,if_neg (by omega)])
  ·have hnx:∀ty,(Instr.next (.pointer (some ⟨w.heap.size+1+1,0,none⟩)) true ty).run Tryz.prog W=.ok (.tuple #[.bool false]) W:=fun ty=>run_next_end_at W _ s pos ty hL.it hp
   have hk0:=hL.b1.c0
   have hk1:=hL.b1.c1
   have hf:=hL.b1.fz 1
   obtain⟨W2,hs,hL2⟩:=hL.setc (-c)
   by_cases hm:0≤Lib.indexByte s.data.toList 45
   ·skip
    have e1:wrap64 (-c)= -c:=by have:=hr.c0;have:=hr.c1;unfold wrap64;omega
    have hfin:0≤k∧k≤4∧ -40969≤(-c)∧(-c)≤40969∧((∀i (h:i<s.size),(s[i]'h).toNat<128)→(k,(-c))=lpFin (bytesN s)):=by
     have q1:=hr.k0;have q2:=hr.k1;have q3:=hr.c0;have q4:=hr.c1
     refine⟨q1,q2,by omega,by omega,fun ha=>?_⟩
     obtain⟨z1,z2⟩:=hr.asc ha
     have z3:pos=(bytesN s).length:=by unfold bytesN;rw[List.length_map,Array.length_toList];show pos=s.size;omega
     unfold lpFin
     rw[j27,if_pos hm,←z3,←z2]
    have hk2:=hL2.b1.c0
    have hk3:=hL2.b1.c1
    by_cases hs0:s.toList=[]
    ·skip
     obtain⟨b0,b1,_,hb⟩:=hL2;have f0:=b0.c0;have f1:=b0.c1;have f2:=b0.fz 0;have f4:=(b0.s0 (.int .u8 0)).c1;have f5:=(b0.s0 (.int .u8 0)).fz 1;have f6:=((b0.s0 (.int .u8 0)).s1 (.int .i64 0)).c0;have f7:=((b0.s0 (.int .u8 0)).s1 (.int .i64 0)).c1;have g0:=b1.c0;have g1:=b1.c1;have f8:=(b0.s0 (.int .u8 k)).c1;have f9:=(b0.s0 (.int .u8 k)).fz 1;have f10:=((b0.s0 (.int .u8 k)).s1 (.int .i64 (-c))).c0;have f11:=((b0.s0 (.int .u8 k)).s1 (.int .i64 (-c))).c1
     go_wp2_with (go_at_call 80;refine(Tryz.strings_Contains_one _ _ _).mono ?_;rintro e w' ⟨rfl,rfl⟩)
     (try simp only[Exit.inBlock,Exit.then])
     refine bodyPost_ret (by simp[results,Tryz.results52,go_sem,f6,f7];try rfl) rfl ?_
     refine⟨⟨k,(-c),hfin.1,hfin.2.1,hfin.2.2.1,hfin.2.2.2.1,hfin.2.2.2.2,?_⟩,?_⟩
     ·rw[if_pos (.inl hs0)]
     ·exact jdi (Nat.le_refl _) _ _ (jdi (Nat.le_refl _) _ _ hb)
    ·skip
     go_wp2_with (first | (go_at_call 80;refine(Tryz.strings_Contains_one _ _ _).mono ?_;rintro e w' ⟨rfl,rfl⟩) | (go_at_call 56;refine(hT k (-c) hfin.1 hfin.2.1 hfin.2.2.1 hfin.2.2.2.1 hfin.2.2.2.2 _ hL2.bl).mono ?_;rintro e w2 ⟨rfl,hB⟩;obtain⟨b0,b1,_,hb⟩:=hL2.below hB;have f0:=b0.c0;have f1:=b0.c1;have f2:=b0.fz 0;have f4:=(b0.s0 (.int .u8 0)).c1;have f5:=(b0.s0 (.int .u8 0)).fz 1;have f6:=((b0.s0 (.int .u8 0)).s1 (.int .i64 0)).c0;have f7:=((b0.s0 (.int .u8 0)).s1 (.int .i64 0)).c1;have g0:=b1.c0;have g1:=b1.c1;have f8:=(b0.s0 (.int .u8 k)).c1;have f9:=(b0.s0 (.int .u8 k)).fz 1;have f10:=((b0.s0 (.int .u8 k)).s1 (.int .i64 (-c))).c0;have f11:=((b0.s0 (.int .u8 k)).s1 (.int .i64 (-c))).c1))
     ·skip
      rename_i hq
      have ht:¬(T k (-c)).toList=s.toList:=by simpa[hs0] using hq
      (try simp only[Exit.inBlock,Exit.then])
      refine bodyPost_ret (by simp[results,Tryz.results52,go_sem,f6,f7];try rfl) rfl ?_
      refine⟨⟨k,(-c),hfin.1,hfin.2.1,hfin.2.2.1,hfin.2.2.2.1,hfin.2.2.2.2,?_⟩,?_⟩
      ·rw[if_pos (.inr ht)]
      ·exact jdi (Nat.le_refl _) _ _ (jdi (Nat.le_refl _) _ _ hb)
     ·skip
      rename_i hq
      have ht:(T k (-c)).toList=s.toList:=by simpa[hs0] using hq
      (try simp only[Exit.inBlock,Exit.then])
      refine bodyPost_ret (by simp[results,Tryz.results52,go_sem,f10,f11];try rfl) rfl ?_
      refine⟨⟨k,(-c),hfin.1,hfin.2.1,hfin.2.2.1,hfin.2.2.2.1,hfin.2.2.2.2,?_⟩,?_⟩
      ·rw[if_neg (fun h=>h.elim hs0 fun h=>h ht)]
      ·exact jdi (Nat.le_refl _) _ _ (jdi (Nat.le_refl _) _ _ hb)
   ·skip
    have hfin:0≤k∧k≤4∧ -40969≤c∧c≤40969∧((∀i (h:i<s.size),(s[i]'h).toNat<128)→(k,c)=lpFin (bytesN s)):=by
     have q1:=hr.k0;have q2:=hr.k1;have q3:=hr.c0;have q4:=hr.c1
     refine⟨q1,q2,by omega,by omega,fun ha=>?_⟩
     obtain⟨z1,z2⟩:=hr.asc ha
     have z3:pos=(bytesN s).length:=by unfold bytesN;rw[List.length_map,Array.length_toList];show pos=s.size;omega
     unfold lpFin
     rw[j27,if_neg hm,←z3,←z2]
    by_cases hs0:s.toList=[]
    ·skip
     obtain⟨b0,b1,_,hb⟩:=hL;have f0:=b0.c0;have f1:=b0.c1;have f2:=b0.fz 0;have f4:=(b0.s0 (.int .u8 0)).c1;have f5:=(b0.s0 (.int .u8 0)).fz 1;have f6:=((b0.s0 (.int .u8 0)).s1 (.int .i64 0)).c0;have f7:=((b0.s0 (.int .u8 0)).s1 (.int .i64 0)).c1;have g0:=b1.c0;have g1:=b1.c1;have f8:=(b0.s0 (.int .u8 k)).c1;have f9:=(b0.s0 (.int .u8 k)).fz 1;have f10:=((b0.s0 (.int .u8 k)).s1 (.int .i64 c)).c0;have f11:=((b0.s0 (.int .u8 k)).s1 (.int .i64 c)).c1
     go_wp2_with (go_at_call 80;refine(Tryz.strings_Contains_one _ _ _).mono ?_;rintro e w' ⟨rfl,rfl⟩)
     (try simp only[Exit.inBlock,Exit.then])
     refine bodyPost_ret (by simp[results,Tryz.results52,go_sem,f6,f7];try rfl) rfl ?_
     refine⟨⟨k,c,hfin.1,hfin.2.1,hfin.2.2.1,hfin.2.2.2.1,hfin.2.2.2.2,?_⟩,?_⟩
     ·rw[if_pos (.inl hs0)]
     ·exact jdi (Nat.le_refl _) _ _ (jdi (Nat.le_refl _) _ _ hb)
    ·skip
     go_wp2_with (first | (go_at_call 80;refine(Tryz.strings_Contains_one _ _ _).mono ?_;rintro e w' ⟨rfl,rfl⟩) | (go_at_call 56;refine(hT k c hfin.1 hfin.2.1 hfin.2.2.1 hfin.2.2.2.1 hfin.2.2.2.2 _ hL.bl).mono ?_;rintro e w2 ⟨rfl,hB⟩;obtain⟨b0,b1,_,hb⟩:=hL.below hB;have f0:=b0.c0;have f1:=b0.c1;have f2:=b0.fz 0;have f4:=(b0.s0 (.int .u8 0)).c1;have f5:=(b0.s0 (.int .u8 0)).fz 1;have f6:=((b0.s0 (.int .u8 0)).s1 (.int .i64 0)).c0;have f7:=((b0.s0 (.int .u8 0)).s1 (.int .i64 0)).c1;have g0:=b1.c0;have g1:=b1.c1;have f8:=(b0.s0 (.int .u8 k)).c1;have f9:=(b0.s0 (.int .u8 k)).fz 1;have f10:=((b0.s0 (.int .u8 k)).s1 (.int .i64 c)).c0;have f11:=((b0.s0 (.int .u8 k)).s1 (.int .i64 c)).c1))
     ·skip
      rename_i hq
      have ht:¬(T k c).toList=s.toList:=by simpa[hs0] using hq
      (try simp only[Exit.inBlock,Exit.then])
      refine bodyPost_ret (by simp[results,Tryz.results52,go_sem,f6,f7];try rfl) rfl ?_
      refine⟨⟨k,c,hfin.1,hfin.2.1,hfin.2.2.1,hfin.2.2.2.1,hfin.2.2.2.2,?_⟩,?_⟩
      ·rw[if_pos (.inr ht)]
      ·exact jdi (Nat.le_refl _) _ _ (jdi (Nat.le_refl _) _ _ hb)
     ·skip
      rename_i hq
      have ht:(T k c).toList=s.toList:=by simpa[hs0] using hq
      (try simp only[Exit.inBlock,Exit.then])
      refine bodyPost_ret (by simp[results,Tryz.results52,go_sem,f10,f11];try rfl) rfl ?_
      refine⟨⟨k,c,hfin.1,hfin.2.1,hfin.2.2.1,hfin.2.2.2.1,hfin.2.2.2.2,?_⟩,?_⟩
      ·rw[if_neg (fun h=>h.elim hs0 fun h=>h ht)]
      ·exact jdi (Nat.le_refl _) _ _ (jdi (Nat.le_refl _) _ _ hb)
end S07
end Go.Proofs
