/-
  DERIVED: THE SHELF's CONTRACTS AT THIS DUMP, IN PLAIN WORDS (tools/lay-plain.mjs out of 'TryzShelf.lean', which tools/lay-shelf.mjs wrote): THE SAME DECLARATIONS UNDER THE SAME NAMES: 'import', 'namespace', 'open', 'def', 'theorem' AND NOTHING ELSE: no command of the shelf's: FOR A HAND-IN. Each laying: the table of numbers ('.._ren') and one theorem, a field a fact of the dump's own or the kernel's comparison; each contract: ONE APPLICATION.
  Nets: the law's beside, has and kar, walked.
  (N).Of, walked: the hinges of the tree, and those that are added behind them.
  (N).Of, walked: its loops.
-/
import Derived.Shelf.Strings.OnBuilder
import Derived.Shelf.Small.Wraps
import Derived.Shelf.Strings.BuilderK
import Derived.Shelf.Utf8.RuneCount
import Derived.Shelf.Strconv.Atoi
import Derived.Shelf.Strconv.Itoa3
import Derived.Shelf.Strconv.AtoiFail
import Derived.Shelf.Strconv.ParseUint10Any
import Derived.Shelf.Strconv.ToErrorRange
import Derived.Shelf.Strings.Shaped
import Derived.Shelf.Strings.SplitShaped
import Derived.Shelf.Strings.Explode
import Derived.Shelf.Unicode.DecodeAny
import Derived.Shelf.Slices.Turned
import Derived.Shelf.Slices.SearchI
import Derived.Test.YtahplmacekfjgaaGreatDoorProg
import Derived.Deep.RegionHeld3
import Derived.Test.YtahplmacekfjgaaGreatDoorNOf
set_option linter.unusedSimpArgs false
set_option linter.unusedVariables false
set_option linter.unusedSectionVars false
set_option linter.unnecessarySimpa false
namespace Go.Proofs
open Go.Shelf
def Tryz.sortS_ren:Go.Shelf.Ren:=⟨fun | 6=>72 | 15=>95 | 14=>94 | 28=>122 | 29=>123 | 20=>114 | 21=>115 | 22=>116 | 23=>117 | 24=>118 | 25=>119 | 26=>120 | 27=>121 | 46=>144 | 47=>145 | 48=>146 | 49=>147 | 50=>148 | 57=>161 | n=>n,fun | 22=>26 | 24=>35 | 25=>71 | 3=>3 | 39=>130 | 0=>0 | 53=>160 | 55=>23 | 4=>4 | 46=>154 | 45=>153 | 50=>112 | 5=>5 | 9=>9 | 66=>181 | 70=>185 | 76=>194 | 77=>195 | n=>n,fun | n=>n⟩
theorem Tryz.sortS:Go.Proofs.SlLaysF0.n6 Tryz.prog Tryz.sortS_ren:={
 mixed:=by kernel_rfl
 f6:=⟨Tryz.f72.name,by decide,Tryz.func72.trans (congrArg some (by kernel_rfl))⟩
 f14:=⟨Tryz.f94.name,by decide,Tryz.func94.trans (congrArg some (by kernel_rfl))⟩
 f15:=Tryz.func95.trans (congrArg some (by kernel_rfl))
 f20:=⟨Tryz.f114.name,by decide,Tryz.func114.trans (congrArg some (by kernel_rfl))⟩
 f21:=⟨Tryz.f115.name,by decide,Tryz.func115.trans (congrArg some (by kernel_rfl))⟩
 f22:=⟨Tryz.f116.name,by decide,Tryz.func116.trans (congrArg some (by kernel_rfl))⟩
 f23:=⟨Tryz.f117.name,by decide,Tryz.func117.trans (congrArg some (by kernel_rfl))⟩
 f24:=⟨Tryz.f118.name,by decide,Tryz.func118.trans (congrArg some (by kernel_rfl))⟩
 f25:=⟨Tryz.f119.name,by decide,Tryz.func119.trans (congrArg some (by kernel_rfl))⟩
 f26:=⟨Tryz.f120.name,by decide,Tryz.func120.trans (congrArg some (by kernel_rfl))⟩
 f27:=⟨Tryz.f121.name,by decide,Tryz.func121.trans (congrArg some (by kernel_rfl))⟩
 f28:=Tryz.func122.trans (congrArg some (by kernel_rfl))
 f29:=Tryz.func123.trans (congrArg some (by kernel_rfl))
 f46:=⟨Tryz.f144.name,by decide,Tryz.func144.trans (congrArg some (by kernel_rfl))⟩
 f47:=Tryz.func145.trans (congrArg some (by kernel_rfl))
 f48:=Tryz.func146.trans (congrArg some (by kernel_rfl))
 f49:=⟨Tryz.f147.name,by decide,Tryz.func147.trans (congrArg some (by kernel_rfl))⟩
 f50:=⟨Tryz.f148.name,by decide,Tryz.func148.trans (congrArg some (by kernel_rfl))⟩
 f57:=⟨Tryz.f161.name,by decide,Tryz.func161.trans (congrArg some (by kernel_rfl))⟩
 t0:=Tryz.underlying0
 a0:=Tryz.isAgg0
 z0:=Tryz.sizeOf0
 v0:=Tryz.zeroValue0
 t3:=Tryz.underlying3
 a3:=Tryz.isAgg3
 z3:=Tryz.sizeOf3
 v3:=Tryz.zeroValue3
 t4:=Tryz.underlying4
 a4:=Tryz.isAgg4
 z4:=Tryz.sizeOf4
 v4:=Tryz.zeroValue4
 t5:=Tryz.underlying5
 a5:=Tryz.isAgg5
 z5:=Tryz.sizeOf5
 v5:=Tryz.zeroValue5
 t9:=Tryz.underlying9
 a9:=Tryz.isAgg9
 z9:=Tryz.sizeOf9
 v9:=Tryz.zeroValue9
 t22:=Tryz.underlying26
 a22:=Tryz.isAgg26
 z22:=Tryz.sizeOf26
 v22:=Tryz.zeroValue26
 t25:=Tryz.underlying71
 a25:=Tryz.isAgg71
 z25:=Tryz.sizeOf71
 v25:=Tryz.zeroValue71
 t39:=Tryz.underlying130
 a39:=Tryz.isAgg130
 z39:=Tryz.sizeOf130
 v39:=Tryz.zeroValue130
 t45:=Tryz.underlying153
 a45:=Tryz.isAgg153
 z45:=Tryz.sizeOf153
 v45:=Tryz.zeroValue153
 t46:=Tryz.underlying154
 a46:=Tryz.isAgg154
 z46:=Tryz.sizeOf154
 v46:=Tryz.zeroValue154
 t50:=Tryz.underlying112
 a50:=Tryz.isAgg112
 z50:=Tryz.sizeOf112
 v50:=Tryz.zeroValue112
 t53:=Tryz.underlying160
 a53:=Tryz.isAgg160
 z53:=Tryz.sizeOf160
 v53:=Tryz.zeroValue160
 t55:=Tryz.underlying23
 a55:=Tryz.isAgg23
 z55:=Tryz.sizeOf23
 v55:=Tryz.zeroValue23
 t66:=Tryz.underlying181
 a66:=Tryz.isAgg181
 z66:=Tryz.sizeOf181
 v66:=Tryz.zeroValue181
 t70:=Tryz.underlying185
 a70:=Tryz.isAgg185
 z70:=Tryz.sizeOf185
 v70:=Tryz.zeroValue185
 t76:=Tryz.underlying194
 a76:=Tryz.isAgg194
 z76:=Tryz.sizeOf194
 v76:=Tryz.zeroValue194
 t77:=Tryz.underlying195
 a77:=Tryz.isAgg195
 z77:=Tryz.sizeOf195
 v77:=Tryz.zeroValue195 }
def Tryz.sortH_ren:Go.Shelf.Ren:=⟨fun | 6=>73 | 15=>95 | 14=>96 | 28=>122 | 29=>123 | 20=>124 | 21=>125 | 22=>126 | 23=>127 | 24=>128 | 25=>129 | 26=>130 | 27=>131 | 46=>149 | 47=>145 | 48=>146 | 49=>150 | 50=>151 | 57=>162 | n=>n,fun | 22=>27 | 24=>39 | 25=>77 | 3=>3 | 39=>130 | 0=>0 | 53=>160 | 55=>23 | 4=>4 | 46=>154 | 45=>153 | 50=>112 | 5=>5 | 9=>9 | 66=>181 | 70=>185 | 76=>194 | 77=>195 | n=>n,fun | n=>n⟩
theorem Tryz.sortH:Go.Proofs.SlLaysF0.n6 Tryz.prog Tryz.sortH_ren:={
 mixed:=by kernel_rfl
 f6:=⟨Tryz.f73.name,by decide,Tryz.func73.trans (congrArg some (by kernel_rfl))⟩
 f14:=⟨Tryz.f96.name,by decide,Tryz.func96.trans (congrArg some (by kernel_rfl))⟩
 f15:=Tryz.func95.trans (congrArg some (by kernel_rfl))
 f20:=⟨Tryz.f124.name,by decide,Tryz.func124.trans (congrArg some (by kernel_rfl))⟩
 f21:=⟨Tryz.f125.name,by decide,Tryz.func125.trans (congrArg some (by kernel_rfl))⟩
 f22:=⟨Tryz.f126.name,by decide,Tryz.func126.trans (congrArg some (by kernel_rfl))⟩
 f23:=⟨Tryz.f127.name,by decide,Tryz.func127.trans (congrArg some (by kernel_rfl))⟩
 f24:=⟨Tryz.f128.name,by decide,Tryz.func128.trans (congrArg some (by kernel_rfl))⟩
 f25:=⟨Tryz.f129.name,by decide,Tryz.func129.trans (congrArg some (by kernel_rfl))⟩
 f26:=⟨Tryz.f130.name,by decide,Tryz.func130.trans (congrArg some (by kernel_rfl))⟩
 f27:=⟨Tryz.f131.name,by decide,Tryz.func131.trans (congrArg some (by kernel_rfl))⟩
 f28:=Tryz.func122.trans (congrArg some (by kernel_rfl))
 f29:=Tryz.func123.trans (congrArg some (by kernel_rfl))
 f46:=⟨Tryz.f149.name,by decide,Tryz.func149.trans (congrArg some (by kernel_rfl))⟩
 f47:=Tryz.func145.trans (congrArg some (by kernel_rfl))
 f48:=Tryz.func146.trans (congrArg some (by kernel_rfl))
 f49:=⟨Tryz.f150.name,by decide,Tryz.func150.trans (congrArg some (by kernel_rfl))⟩
 f50:=⟨Tryz.f151.name,by decide,Tryz.func151.trans (congrArg some (by kernel_rfl))⟩
 f57:=⟨Tryz.f162.name,by decide,Tryz.func162.trans (congrArg some (by kernel_rfl))⟩
 t0:=Tryz.underlying0
 a0:=Tryz.isAgg0
 z0:=Tryz.sizeOf0
 v0:=Tryz.zeroValue0
 t3:=Tryz.underlying3
 a3:=Tryz.isAgg3
 z3:=Tryz.sizeOf3
 v3:=Tryz.zeroValue3
 t4:=Tryz.underlying4
 a4:=Tryz.isAgg4
 z4:=Tryz.sizeOf4
 v4:=Tryz.zeroValue4
 t5:=Tryz.underlying5
 a5:=Tryz.isAgg5
 z5:=Tryz.sizeOf5
 v5:=Tryz.zeroValue5
 t9:=Tryz.underlying9
 a9:=Tryz.isAgg9
 z9:=Tryz.sizeOf9
 v9:=Tryz.zeroValue9
 t22:=Tryz.underlying27
 a22:=Tryz.isAgg27
 z22:=Tryz.sizeOf27
 v22:=Tryz.zeroValue27
 t25:=Tryz.underlying77
 a25:=Tryz.isAgg77
 z25:=Tryz.sizeOf77
 v25:=Tryz.zeroValue77
 t39:=Tryz.underlying130
 a39:=Tryz.isAgg130
 z39:=Tryz.sizeOf130
 v39:=Tryz.zeroValue130
 t45:=Tryz.underlying153
 a45:=Tryz.isAgg153
 z45:=Tryz.sizeOf153
 v45:=Tryz.zeroValue153
 t46:=Tryz.underlying154
 a46:=Tryz.isAgg154
 z46:=Tryz.sizeOf154
 v46:=Tryz.zeroValue154
 t50:=Tryz.underlying112
 a50:=Tryz.isAgg112
 z50:=Tryz.sizeOf112
 v50:=Tryz.zeroValue112
 t53:=Tryz.underlying160
 a53:=Tryz.isAgg160
 z53:=Tryz.sizeOf160
 v53:=Tryz.zeroValue160
 t55:=Tryz.underlying23
 a55:=Tryz.isAgg23
 z55:=Tryz.sizeOf23
 v55:=Tryz.zeroValue23
 t66:=Tryz.underlying181
 a66:=Tryz.isAgg181
 z66:=Tryz.sizeOf181
 v66:=Tryz.zeroValue181
 t70:=Tryz.underlying185
 a70:=Tryz.isAgg185
 z70:=Tryz.sizeOf185
 v70:=Tryz.zeroValue185
 t76:=Tryz.underlying194
 a76:=Tryz.isAgg194
 z76:=Tryz.sizeOf194
 v76:=Tryz.zeroValue194
 t77:=Tryz.underlying195
 a77:=Tryz.isAgg195
 z77:=Tryz.sizeOf195
 v77:=Tryz.zeroValue195 }
def Tryz.lays156_ren:Go.Shelf.Ren:=⟨fun | 156=>39 | 165=>64 | 166=>38 | 169=>41 | 240=>63 | 241=>84 | 276=>83 | 277=>113 | n=>n,fun | 31=>82 | 9=>9 | 3=>3 | 4=>4 | 0=>0 | 20=>20 | 72=>81 | 76=>85 | 70=>78 | 37=>79 | 75=>84 | 127=>111 | 164=>128 | 5=>5 | 80=>90 | n=>n,fun | n=>n⟩
theorem Tryz.lays156:Go.Proofs.Lays.n156 Tryz.prog Tryz.lays156_ren:={
 mixed:=by kernel_rfl
 f156:=Tryz.func39.trans (congrArg some (by kernel_rfl))
 f165:=Tryz.func64.trans (congrArg some (by kernel_rfl))
 f166:=Tryz.func38.trans (congrArg some (by kernel_rfl))
 f169:=Tryz.func41.trans (congrArg some (by kernel_rfl))
 f240:=Tryz.func63.trans (congrArg some (by kernel_rfl))
 f241:=Tryz.func84.trans (congrArg some (by kernel_rfl))
 f276:=Tryz.func83.trans (congrArg some (by kernel_rfl))
 f277:=Tryz.func113.trans (congrArg some (by kernel_rfl))
 t0:=Tryz.underlying0
 a0:=Tryz.isAgg0
 z0:=Tryz.sizeOf0
 v0:=Tryz.zeroValue0
 t3:=Tryz.underlying3
 a3:=Tryz.isAgg3
 z3:=Tryz.sizeOf3
 v3:=Tryz.zeroValue3
 t4:=Tryz.underlying4
 a4:=Tryz.isAgg4
 z4:=Tryz.sizeOf4
 v4:=Tryz.zeroValue4
 t9:=Tryz.underlying9
 a9:=Tryz.isAgg9
 z9:=Tryz.sizeOf9
 v9:=Tryz.zeroValue9
 t20:=Tryz.underlying20
 a20:=Tryz.isAgg20
 z20:=Tryz.sizeOf20
 v20:=Tryz.zeroValue20
 t31:=Tryz.underlying82
 a31:=Tryz.isAgg82
 z31:=Tryz.sizeOf82
 v31:=Tryz.zeroValue82
 t37:=Tryz.underlying79
 a37:=Tryz.isAgg79
 z37:=Tryz.sizeOf79
 v37:=Tryz.zeroValue79
 t70:=Tryz.underlying78
 a70:=Tryz.isAgg78
 z70:=Tryz.sizeOf78
 v70:=Tryz.zeroValue78
 t72:=Tryz.underlying81
 a72:=Tryz.isAgg81
 z72:=Tryz.sizeOf81
 v72:=Tryz.zeroValue81
 t75:=Tryz.underlying84
 a75:=Tryz.isAgg84
 z75:=Tryz.sizeOf84
 v75:=Tryz.zeroValue84
 t76:=Tryz.underlying85
 a76:=Tryz.isAgg85
 z76:=Tryz.sizeOf85
 v76:=Tryz.zeroValue85
 t127:=Tryz.underlying111
 a127:=Tryz.isAgg111
 z127:=Tryz.sizeOf111
 v127:=Tryz.zeroValue111
 t164:=Tryz.underlying128
 a164:=Tryz.isAgg128
 z164:=Tryz.sizeOf128
 v164:=Tryz.zeroValue128 }
theorem Tryz.Builder_Extra_156:Builder.Extra Tryz.prog Tryz.lays156_ren:={
 sizeBuilder:=by kernel_rfl
 liesBuilder:=by kernel_rfl
 t5:=Tryz.underlying5
 a5:=Tryz.isAgg5
 z5:=Tryz.sizeOf5
 v5:=Tryz.zeroValue5
 infoByte:=by kernel_rfl
 cellsByte:=by kernel_rfl
 sizeByte:=by kernel_rfl
 neB5:=by decide }
open Go.RowKit in
theorem Tryz.strings_Join (bk o c:Nat) (xs:List ByteArray) (sep:ByteArray) (w:World) (hcells:∀(j:Nat) x,xs[j]?=some x→w.cell? ⟨bk,o+j,none⟩=some (.string x)) (hbk:bk<w.heap.size) (hN:xs.length≤140737488355328) (hcap:xs.length≤c) (jbh:(Lib.join (xs.map (·.data.toList)) sep.data.toList).length≤140737488355328):
 Calls Tryz.prog 39 #[.slice (some ⟨bk,o,none⟩) xs.length c,.string sep] w fun e w'=>e=.returned (.string ⟨(Lib.join (xs.map (·.data.toList)) sep.data.toList).toArray⟩)∧Below w.heap.size w w':=Any.strings_Join Tryz.lays156 Tryz.Builder_Extra_156 bk o c xs sep w hcells hbk hN hcap jbh
def Tryz.lays122_ren:Go.Shelf.Ren:=⟨fun | 122=>29 | 215=>61 | n=>n,fun | 3=>3 | 4=>4 | n=>n,fun | n=>n⟩
theorem Tryz.lays122:Go.Proofs.Lays.n122 Tryz.prog Tryz.lays122_ren:={
 mixed:=by kernel_rfl
 f122:=Tryz.func29.trans (congrArg some (by kernel_rfl))
 f215:=Tryz.func61.trans (congrArg some (by kernel_rfl))
 t3:=Tryz.underlying3
 a3:=Tryz.isAgg3
 z3:=Tryz.sizeOf3
 v3:=Tryz.zeroValue3
 t4:=Tryz.underlying4
 a4:=Tryz.isAgg4
 z4:=Tryz.sizeOf4
 v4:=Tryz.zeroValue4 }
open Go.RowKit in
theorem Tryz.cmp_Compare_int (x y:Int) (w:World):
 Calls Tryz.prog 29 #[.int .i64 x,.int .i64 y] w fun e w'=>e=.returned (.int .i64 (Lib.compareInt x y))∧w'=w:=Any.cmp_Compare_int Tryz.lays122 x y w
def Tryz.lays129_ren:Go.Shelf.Ren:=⟨fun | 129=>123 | n=>n,fun | 53=>23 | 3=>3 | 4=>4 | 46=>130 | 5=>5 | 9=>9 | n=>n,fun | n=>n⟩
theorem Tryz.lays129:Go.Proofs.Lays.n129 Tryz.prog Tryz.lays129_ren:={
 mixed:=by kernel_rfl
 f129:=Tryz.func123.trans (congrArg some (by kernel_rfl))
 t3:=Tryz.underlying3
 a3:=Tryz.isAgg3
 z3:=Tryz.sizeOf3
 v3:=Tryz.zeroValue3
 t4:=Tryz.underlying4
 a4:=Tryz.isAgg4
 z4:=Tryz.sizeOf4
 v4:=Tryz.zeroValue4
 t5:=Tryz.underlying5
 a5:=Tryz.isAgg5
 z5:=Tryz.sizeOf5
 v5:=Tryz.zeroValue5
 t9:=Tryz.underlying9
 a9:=Tryz.isAgg9
 z9:=Tryz.sizeOf9
 v9:=Tryz.zeroValue9
 t46:=Tryz.underlying130
 a46:=Tryz.isAgg130
 z46:=Tryz.sizeOf130
 v46:=Tryz.zeroValue130
 t53:=Tryz.underlying23
 a53:=Tryz.isAgg23
 z53:=Tryz.sizeOf23
 v53:=Tryz.zeroValue23 }
theorem Tryz.bits_Len64 (x:Int) (w:World) (h0:0≤x) (h1:x≤18446744073709551615):
 Calls Tryz.prog 123 #[.int .u64 x] w fun e w'=>e=.returned (.int .i64 (Lib.bitLen x.toNat))∧w'=w:=Any.bits_Len64 Tryz.lays129 x w h0 h1
def Tryz.lays317_ren:Go.Shelf.Ren:=⟨fun | 317=>133 | n=>n,fun | 3=>3 | 46=>130 | n=>n,fun | n=>n⟩
theorem Tryz.lays317:Go.Proofs.Lays.n317 Tryz.prog Tryz.lays317_ren:={
 mixed:=by kernel_rfl
 f317:=Tryz.func133.trans (congrArg some (by kernel_rfl))
 t3:=Tryz.underlying3
 a3:=Tryz.isAgg3
 z3:=Tryz.sizeOf3
 v3:=Tryz.zeroValue3
 t46:=Tryz.underlying130
 a46:=Tryz.isAgg130
 z46:=Tryz.sizeOf130
 v46:=Tryz.zeroValue130 }
open Go.Lib in
theorem Tryz.internal_strconv_log10Pow2 (x:Nat) (h:x≤64) (w:World):
 Calls Tryz.prog 133 #[.int .i64 x] w fun e w'=>e=.returned (.int .i64 (Lib.l10 x))∧w'=w:=Any.internal_strconv_log10Pow2 Tryz.lays317 x h w
def Tryz.lays221_ren:Go.Shelf.Ren:=⟨fun | 221=>79 | 268=>104 | 138=>105 | 143=>106 | 195=>137 | 197=>138 | 218=>139 | 219=>140 | 260=>154 | 217=>155 | 225=>156 | 224=>157 | 267=>158 | 266=>163 | 314=>164 | n=>n,fun | 9=>9 | 3=>3 | 31=>82 | 4=>4 | 0=>0 | 105=>172 | 21=>21 | 5=>5 | 46=>130 | 119=>200 | 139=>203 | 138=>202 | 146=>204 | 51=>160 | n=>n,fun | 1=>3 | 3=>6 | 4=>7 | n=>n⟩
theorem Tryz.lays221:Go.Proofs.Lays.n221 Tryz.prog Tryz.lays221_ren:={
 mixed:=by kernel_rfl
 f138:=Tryz.func105.trans (congrArg some (by kernel_rfl))
 f143:=Tryz.func106.trans (congrArg some (by kernel_rfl))
 f195:=Tryz.func137.trans (congrArg some (by kernel_rfl))
 f197:=Tryz.func138.trans (congrArg some (by kernel_rfl))
 f217:=Tryz.func155.trans (congrArg some (by kernel_rfl))
 f218:=Tryz.func139.trans (congrArg some (by kernel_rfl))
 f219:=Tryz.func140.trans (congrArg some (by kernel_rfl))
 f221:=Tryz.func79.trans (congrArg some (by kernel_rfl))
 f224:=Tryz.func157.trans (congrArg some (by kernel_rfl))
 f225:=Tryz.func156.trans (congrArg some (by kernel_rfl))
 f260:=Tryz.func154.trans (congrArg some (by kernel_rfl))
 f266:=Tryz.func163.trans (congrArg some (by kernel_rfl))
 f267:=Tryz.func158.trans (congrArg some (by kernel_rfl))
 f268:=Tryz.func104.trans (congrArg some (by kernel_rfl))
 f314:=Tryz.func164.trans (congrArg some (by kernel_rfl))
 t0:=Tryz.underlying0
 a0:=Tryz.isAgg0
 z0:=Tryz.sizeOf0
 v0:=Tryz.zeroValue0
 t3:=Tryz.underlying3
 a3:=Tryz.isAgg3
 z3:=Tryz.sizeOf3
 v3:=Tryz.zeroValue3
 t4:=Tryz.underlying4
 a4:=Tryz.isAgg4
 z4:=Tryz.sizeOf4
 v4:=Tryz.zeroValue4
 t5:=Tryz.underlying5
 a5:=Tryz.isAgg5
 z5:=Tryz.sizeOf5
 v5:=Tryz.zeroValue5
 t9:=Tryz.underlying9
 a9:=Tryz.isAgg9
 z9:=Tryz.sizeOf9
 v9:=Tryz.zeroValue9
 t21:=Tryz.underlying21
 a21:=Tryz.isAgg21
 z21:=Tryz.sizeOf21
 v21:=Tryz.zeroValue21
 t31:=Tryz.underlying82
 a31:=Tryz.isAgg82
 z31:=Tryz.sizeOf82
 v31:=Tryz.zeroValue82
 t46:=Tryz.underlying130
 a46:=Tryz.isAgg130
 z46:=Tryz.sizeOf130
 v46:=Tryz.zeroValue130
 t51:=Tryz.underlying160
 a51:=Tryz.isAgg160
 z51:=Tryz.sizeOf160
 v51:=Tryz.zeroValue160
 t105:=Tryz.underlying172
 a105:=Tryz.isAgg172
 z105:=Tryz.sizeOf172
 v105:=Tryz.zeroValue172
 t119:=Tryz.underlying200
 a119:=Tryz.isAgg200
 z119:=Tryz.sizeOf200
 t138:=Tryz.underlying202
 a138:=Tryz.isAgg202
 z138:=Tryz.sizeOf202
 v138:=Tryz.zeroValue202
 t139:=Tryz.underlying203
 a139:=Tryz.isAgg203
 z139:=Tryz.sizeOf203
 v139:=Tryz.zeroValue203
 t146:=Tryz.underlying204
 a146:=Tryz.isAgg204
 z146:=Tryz.sizeOf204
 v146:=Tryz.zeroValue204
 g1:=by kernel_rfl
 g3:=by kernel_rfl
 g4:=by kernel_rfl }
open Go.RowKit Go.Lib in
theorem Tryz.strings_genSplit (s sep:ByteArray) (sv:Nat) (n:Int) (N:Nat) (m:Int) (w:World) (hs:s.size<4294967281) (hm:w.cell? ⟨3,0,none⟩=some (.int .i64 m)) (h1:1≤sep.size) (hsv:sv≤sep.size) (hn0:n≠0) (hn63:n≤9223372036854775807) (hN:(N:Int)=min (if n<0 then(Lib.countB s sep:Int)+1 else n) ((s.size:Int)+1)):
 Calls Tryz.prog 79 #[.string s,.string sep,.int .i64 sv,.int .i64 n] w fun e w'=>
  e=.returned (.slice (some ⟨w.heap.size,0,none⟩) (Lib.splitB sep sv (N-1) s).length N)∧w'=w.alloc (.cells (Lib.cellsOf (Lib.splitB sep sv (N-1) s) N) 9):=Any.strings_genSplit Tryz.lays221 (by kernel_rfl) s sep sv n N m w hs hm h1 hsv hn0 hn63 hN
def Tryz.lays146_ren:Go.Shelf.Ren:=⟨fun | 146=>55 | 221=>79 | 268=>104 | 138=>105 | 143=>106 | 195=>137 | 197=>138 | 218=>139 | 219=>140 | 260=>154 | 217=>155 | 225=>156 | 224=>157 | 267=>158 | 266=>163 | 314=>164 | n=>n,fun | 9=>9 | 31=>82 | 3=>3 | 4=>4 | 0=>0 | 105=>172 | 21=>21 | 5=>5 | 46=>130 | 119=>200 | 139=>203 | 138=>202 | 146=>204 | 51=>160 | n=>n,fun | 1=>3 | 3=>6 | 4=>7 | n=>n⟩
theorem Tryz.lays146:Go.Proofs.Lays.n146 Tryz.prog Tryz.lays146_ren:={
 mixed:=by kernel_rfl
 f138:=Tryz.func105.trans (congrArg some (by kernel_rfl))
 f143:=Tryz.func106.trans (congrArg some (by kernel_rfl))
 f146:=Tryz.func55.trans (congrArg some (by kernel_rfl))
 f195:=Tryz.func137.trans (congrArg some (by kernel_rfl))
 f197:=Tryz.func138.trans (congrArg some (by kernel_rfl))
 f217:=Tryz.func155.trans (congrArg some (by kernel_rfl))
 f218:=Tryz.func139.trans (congrArg some (by kernel_rfl))
 f219:=Tryz.func140.trans (congrArg some (by kernel_rfl))
 f221:=Tryz.func79.trans (congrArg some (by kernel_rfl))
 f224:=Tryz.func157.trans (congrArg some (by kernel_rfl))
 f225:=Tryz.func156.trans (congrArg some (by kernel_rfl))
 f260:=Tryz.func154.trans (congrArg some (by kernel_rfl))
 f266:=Tryz.func163.trans (congrArg some (by kernel_rfl))
 f267:=Tryz.func158.trans (congrArg some (by kernel_rfl))
 f268:=Tryz.func104.trans (congrArg some (by kernel_rfl))
 f314:=Tryz.func164.trans (congrArg some (by kernel_rfl))
 t0:=Tryz.underlying0
 a0:=Tryz.isAgg0
 z0:=Tryz.sizeOf0
 v0:=Tryz.zeroValue0
 t3:=Tryz.underlying3
 a3:=Tryz.isAgg3
 z3:=Tryz.sizeOf3
 v3:=Tryz.zeroValue3
 t4:=Tryz.underlying4
 a4:=Tryz.isAgg4
 z4:=Tryz.sizeOf4
 v4:=Tryz.zeroValue4
 t5:=Tryz.underlying5
 a5:=Tryz.isAgg5
 z5:=Tryz.sizeOf5
 v5:=Tryz.zeroValue5
 t9:=Tryz.underlying9
 a9:=Tryz.isAgg9
 z9:=Tryz.sizeOf9
 v9:=Tryz.zeroValue9
 t21:=Tryz.underlying21
 a21:=Tryz.isAgg21
 z21:=Tryz.sizeOf21
 v21:=Tryz.zeroValue21
 t31:=Tryz.underlying82
 a31:=Tryz.isAgg82
 z31:=Tryz.sizeOf82
 v31:=Tryz.zeroValue82
 t46:=Tryz.underlying130
 a46:=Tryz.isAgg130
 z46:=Tryz.sizeOf130
 v46:=Tryz.zeroValue130
 t51:=Tryz.underlying160
 a51:=Tryz.isAgg160
 z51:=Tryz.sizeOf160
 v51:=Tryz.zeroValue160
 t105:=Tryz.underlying172
 a105:=Tryz.isAgg172
 z105:=Tryz.sizeOf172
 v105:=Tryz.zeroValue172
 t119:=Tryz.underlying200
 a119:=Tryz.isAgg200
 z119:=Tryz.sizeOf200
 t138:=Tryz.underlying202
 a138:=Tryz.isAgg202
 z138:=Tryz.sizeOf202
 v138:=Tryz.zeroValue202
 t139:=Tryz.underlying203
 a139:=Tryz.isAgg203
 z139:=Tryz.sizeOf203
 v139:=Tryz.zeroValue203
 t146:=Tryz.underlying204
 a146:=Tryz.isAgg204
 z146:=Tryz.sizeOf204
 v146:=Tryz.zeroValue204
 g1:=by kernel_rfl
 g3:=by kernel_rfl
 g4:=by kernel_rfl }
open Go.RowKit Go.Lib in
theorem Tryz.strings_Split (s sep:ByteArray) (m:Int) (w:World) (hs:s.size<4294967281) (hm:w.cell? ⟨3,0,none⟩=some (.int .i64 m)) (h1:1≤sep.size):
 Calls Tryz.prog 55 #[.string s,.string sep] w fun e w'=>
  e=.returned (.slice (some ⟨w.heap.size,0,none⟩) (Lib.countB s sep+1) (Lib.countB s sep+1))∧w'=w.alloc (.cells ((Lib.splitB sep 0 (Lib.countB s sep) s).map Value.string).toArray 9):=Any.strings_Split Tryz.lays146 (by kernel_rfl) s sep m w hs hm h1
end Go.Proofs
namespace Go.Proofs
open Go.RowKit Go.Shelf Go.Lib Go.Vm.X Go.Vm
namespace N38
theorem mixed:Tryz.prog.follows Departure.mixedOrders=true:=by kernel_rfl
theorem jcq {W:World} {a:Addr} {v:Value} (o:Obj) (h:W.cell? a=some v):(W.alloc o).cell? a=some v:=
 (World.cell?_of_block (Go.RowKit.Below.heap_alloc W o a.block (World.block_lt_of_cell? _ _ h))).trans h
theorem j6l (W:World) (v u:Value) (t:TypeId):(W.alloc (.cells #[v,u] t)).cell? ⟨W.heap.size,0,none⟩=some v∧(W.alloc (.cells #[v,u] t)).cell? ⟨W.heap.size,1,none⟩=some u:=
 ⟨World.cell?_alloc_new W _ _ 0,World.cell?_alloc_new W _ _ 1⟩
theorem jh9 {n:Nat} {w w':World} (d:Nat) (h:Below n w w'):Below n w (w'.drewN d):=⟨h.os,h.tape,h.output,h.size,h.block⟩
def khw (w:World) (b o:Nat) (S:List SqT):Prop:=∀j (h:j<S.length),w.cell? ⟨b,o+j*2,none⟩=some (.int .i64 S[j].1)∧w.cell? ⟨b,o+j*2+1,none⟩=some (.int .i64 S[j].2)
def kjj (w:World) (b o:Nat) (H:List HgT):Prop:=∀j (h:j<H.length),w.cell? ⟨b,o+j*4,none⟩=some (.int .i64 H[j].1.1)∧w.cell? ⟨b,o+j*4+1,none⟩=some (.int .i64 H[j].1.2)∧w.cell? ⟨b,o+j*4+2,none⟩=some (.bool H[j].2.1)∧w.cell? ⟨b,o+j*4+3,none⟩=some (.int .i8 H[j].2.2)
set_option maxHeartbeats 1000000 in
theorem kje (x y:Int) (hx: -1000≤x∧x≤1000) (w:World):Calls Tryz.prog 26 #[.agg #[.int .i64 x,.int .i64 y],.int .i64 0] w fun e w'=>e=.returned (.agg #[.int .i64 (x+1),.int .i64 y])∧Below w.heap.size w w':=by
 have mixed:=mixed
 go_enter Tryz.func26,Tryz.ntmps26
 go_wp2
 go_returns
 refine⟨?_,?_⟩
 ·go_unwrap
 ·go_grown
set_option maxHeartbeats 1000000 in
theorem kjd (x y:Int) (hy: -1000≤y∧y≤1000) (w:World):Calls Tryz.prog 26 #[.agg #[.int .i64 x,.int .i64 y],.int .i64 1] w fun e w'=>e=.returned (.agg #[.int .i64 x,.int .i64 (y+1)])∧Below w.heap.size w w':=by
 have mixed:=mixed
 go_enter Tryz.func26,Tryz.ntmps26
 go_wp2
 go_returns
 refine⟨?_,?_⟩
 ·go_unwrap
 ·go_grown
set_option maxHeartbeats 4000000 in
set_option maxRecDepth 100000 in
theorem has (b o n c:Nat) (S:List SqT) (x y:Int) (w:World) (hn:n=S.length) (hbig:n≤1000) (hS:khw w b o S):Calls Tryz.prog 25 #[.slice (some ⟨b,o,none⟩) n c,.agg #[.int .i64 x,.int .i64 y]] w fun e w'=>e=.returned (.bool (decide ((x,y)∈S)))∧Below w.heap.size w w':=by
 have mixed:=mixed
 go_enter Tryz.func25,Tryz.ntmps25
 go_wp2
 go_loopg [5] n (fun g s5 wr=>∃k:Nat,k≤n∧n-k≤g∧s5=.int .i64 k∧(∃d:Nat,wr=(w.alloc (.cells #[.int .i64 x,.int .i64 y] 35)).drewN d)∧Aside (∀j,j<k→∀h:j<S.length,S[j]≠(x,y)))
 case atStart=>exact⟨0,Nat.zero_le _,by omega,rfl,⟨0,rfl⟩,fun j hj=>absurd hj (Nat.not_lt_zero _)⟩
 case round=>
  obtain⟨k,hk,hg,rfl,⟨d,rfl⟩,A⟩:=hrel
  by_cases hlt:k<n
  ·obtain⟨g1,g2⟩:=hS k (by omega)
   generalize hx1:S[k].1=x1 at g1
   generalize hx2:S[k].2=x2 at g2
   have B:Aside (S[k]=(x1,x2)):=Prod.ext hx1 hx2
   clear hx1 hx2 hS
   have g1':=jcq (.cells #[.int .i64 x,.int .i64 y] 35) g1
   have g2':=jcq (.cells #[.int .i64 x,.int .i64 y] 35) g2
   obtain⟨e1,e2⟩:=j6l w (.int .i64 x) (.int .i64 y) 35
   have k0:(0:Int)≤(k:Int):=by omega
   have k1:(k:Int)< (S.length:Int):=by omega
   have mem:Aside (x1=x∧x2=y→(x,y)∈S):=fun⟨h1,h2⟩=>by rw[←h1,←h2,←B.out];exact List.getElem_mem _
   have go:∀_:¬(x1=x∧x2=y),Aside (∀j,j<k+1→∀h:j<S.length,S[j]≠(x,y)):=fun hne j hj h e=>by
    by_cases e2:j=k
    ·subst e2
     rw[B.out,Prod.mk.injEq] at e
     exact hne e
    ·exact A.out j (by omega) h e
   by_cases hx:x1=x
   ·by_cases hy:x2=y
    ·have M:Aside ((x,y)∈S):=mem.out ⟨hx,hy⟩
     clear mem go A B
     subst hx;subst hy
     go_wp2
     go_region_held3 (fun w'=>w'.cell? ⟨b,o+k*2,none⟩=some (.int .i64 x1)∧w'.cell? ⟨b,o+k*2+1,none⟩=some (.int .i64 x2)∧w'.cell? ⟨w.heap.size,0,none⟩=some (.int .i64 x1)∧w'.cell? ⟨w.heap.size,1,none⟩=some (.int .i64 x2)) (go_keep) (fail)
     go_wp2
     go_ret
     exact⟨by simp[M.out],jh9 (d+1) ((Below.refl _ w).alloc (Nat.le_refl _) _)⟩
    ·have G:=go fun h=>hy h.2
     clear mem go A B
     subst hx
     go_wp2
     go_region_held3 (fun w'=>w'.cell? ⟨b,o+k*2,none⟩=some (.int .i64 x1)∧w'.cell? ⟨b,o+k*2+1,none⟩=some (.int .i64 x2)∧w'.cell? ⟨w.heap.size,0,none⟩=some (.int .i64 x1)∧w'.cell? ⟨w.heap.size,1,none⟩=some (.int .i64 y)) (go_keep) (fail)
     go_wp2
     go_roundg (n-(k+1))
     case measure=>omega
     case rel=>exact⟨k+1,by omega,by omega,by go_num,⟨d+1,rfl⟩,G⟩
   ·have G:=go fun h=>hx h.1
    clear mem go A B
    go_wp2
    go_region_held3 (fun w'=>w'.cell? ⟨b,o+k*2,none⟩=some (.int .i64 x1)∧w'.cell? ⟨b,o+k*2+1,none⟩=some (.int .i64 x2)∧w'.cell? ⟨w.heap.size,0,none⟩=some (.int .i64 x)∧w'.cell? ⟨w.heap.size,1,none⟩=some (.int .i64 y)) (go_keep) (fail)
    go_wp2
    go_roundg (n-(k+1))
    case measure=>omega
    case rel=>exact⟨k+1,by omega,by omega,by go_num,⟨d+1,rfl⟩,G⟩
  ·have hkn:k=S.length:=by omega
   clear hS
   have M:Aside (¬(x,y)∈S):=fun hm=>by
    obtain⟨j,hj,e⟩:=List.mem_iff_getElem.1 hm
    exact A.out j (by omega) hj e
   clear A
   go_wp2
   go_ret
   exact⟨by simp[M.out],jh9 d ((Below.refl _ w).alloc (Nat.le_refl _) _)⟩
theorem j6w {H:List HgT} {x y:Int} {u:Bool} {k:Nat} (hk:k<H.length) (h:H[k].1=(x,y)∧H[k].2.1=u):jju H (x,y) u=true:=jp3.2 ⟨_,List.getElem_mem hk,h.1,h.2⟩
theorem j32 {H:List HgT} {x y:Int} {u:Bool} (h:∀j,∀hj:j<H.length,¬(H[j].1=(x,y)∧H[j].2.1=u)):jju H (x,y) u=false:=by
 cases e:jju H (x,y) u with
 | false=>rfl
 | true=>
   obtain⟨g,hg,h1,h2⟩:=jp3.1 e
   obtain⟨j,hj,rfl⟩:=List.mem_iff_getElem.1 hg
   exact absurd ⟨h1,h2⟩ (h j hj)
set_option maxHeartbeats 1000000 in
theorem kcu (x y:Int) (u:Bool) (c:Nat) (p:Option Addr) (w:World):Calls Tryz.prog 27 #[.slice p 0 c,.agg #[.int .i64 x,.int .i64 y],.bool u] w fun e w'=>e=.returned (.bool false)∧Below w.heap.size w w':=by
 have mixed:=mixed
 go_enter Tryz.func27,Tryz.ntmps27
 go_wp2
 go_rounds 1
 all_goals (go_ret;refine⟨rfl,?_⟩;go_grown)
set_option maxHeartbeats 4000000 in
set_option maxRecDepth 100000 in
theorem kar (b o n c:Nat) (H:List HgT) (x y:Int) (u:Bool) (w:World) (hn:n=H.length) (hbig:n≤1000) (hH:kjj w b o H):Calls Tryz.prog 27 #[.slice (some ⟨b,o,none⟩) n c,.agg #[.int .i64 x,.int .i64 y],.bool u] w fun e w'=>e=.returned (.bool (jju H (x,y) u))∧Below w.heap.size w w':=by
 have mixed:=mixed
 go_enter Tryz.func27,Tryz.ntmps27
 go_wp2
 go_loopg [7] n (fun g s5 wr=>∃k:Nat,k≤n∧n-k≤g∧s5=.int .i64 k∧(∃d:Nat,wr=(w.alloc (.cells #[.int .i64 x,.int .i64 y] 35)).drewN d)∧Aside (∀j,j<k→∀h:j<H.length,¬(H[j].1=(x,y)∧H[j].2.1=u)))
 case atStart=>exact⟨0,Nat.zero_le _,by omega,rfl,⟨0,rfl⟩,fun j hj=>absurd hj (Nat.not_lt_zero _)⟩
 case round=>
  obtain⟨k,hk,hg,rfl,⟨d,rfl⟩,A⟩:=hrel
  by_cases hlt:k<n
  ·obtain⟨g1,g2,g3,_⟩:=hH k (by omega)
   have hkl:k<H.length:=by omega
   generalize hx1:H[k].1.1=x1 at g1
   generalize hx2:H[k].1.2=x2 at g2
   generalize hv:H[k].2.1=v at g3
   have B:Aside (H[k].1=(x1,x2)∧H[k].2.1=v):=⟨Prod.ext hx1 hx2,hv⟩
   clear hx1 hx2 hv hH
   have g1':=jcq (.cells #[.int .i64 x,.int .i64 y] 35) g1
   have g2':=jcq (.cells #[.int .i64 x,.int .i64 y] 35) g2
   have g3':=jcq (.cells #[.int .i64 x,.int .i64 y] 35) g3
   obtain⟨e1,e2⟩:=j6l w (.int .i64 x) (.int .i64 y) 35
   have k0:(0:Int)≤(k:Int):=by omega
   have k1:(k:Int)< (H.length:Int):=by omega
   have mem:Aside (x1=x∧x2=y→v=u→jju H (x,y) u=true):=fun⟨h1,h2⟩ h3=>j6w hkl ⟨by rw[B.out.1,h1,h2],by rw[B.out.2,h3]⟩
   have go:∀_:¬((x1=x∧x2=y)∧v=u),Aside (∀j,j<k+1→∀h:j<H.length,¬(H[j].1=(x,y)∧H[j].2.1=u)):=fun hne j hj h e=>by
    by_cases e2:j=k
    ·subst e2
     rw[B.out.1,B.out.2,Prod.mk.injEq] at e
     exact hne e
    ·exact A.out j (by omega) h e
   by_cases hx:x1=x
   ·by_cases hy:x2=y
    ·by_cases hu:v=u
     ·have M:Aside (jju H (x,y) u=true):=mem.out ⟨hx,hy⟩ hu
      clear mem go A B
      subst hx;subst hy;subst hu
      cases v
      ·go_wp2
       go_region_held3 (fun w'=>w'.cell? ⟨b,o+k*4,none⟩=some (.int .i64 x1)∧w'.cell? ⟨b,o+k*4+1,none⟩=some (.int .i64 x2)∧w'.cell? ⟨b,o+k*4+2,none⟩=some (.bool false)∧w'.cell? ⟨w.heap.size,0,none⟩=some (.int .i64 x1)∧w'.cell? ⟨w.heap.size,1,none⟩=some (.int .i64 x2)) (go_keep) (fail)
       go_wp2
       go_ret
       exact⟨by rw[M.out];rfl,jh9 (d+1) ((Below.refl _ w).alloc (Nat.le_refl _) _)⟩
      ·go_wp2
       go_region_held3 (fun w'=>w'.cell? ⟨b,o+k*4,none⟩=some (.int .i64 x1)∧w'.cell? ⟨b,o+k*4+1,none⟩=some (.int .i64 x2)∧w'.cell? ⟨b,o+k*4+2,none⟩=some (.bool true)∧w'.cell? ⟨w.heap.size,0,none⟩=some (.int .i64 x1)∧w'.cell? ⟨w.heap.size,1,none⟩=some (.int .i64 x2)) (go_keep) (fail)
       go_wp2
       go_ret
       exact⟨by rw[M.out];rfl,jh9 (d+1) ((Below.refl _ w).alloc (Nat.le_refl _) _)⟩
     ·have G:=go fun h=>hu h.2
      clear mem go A B
      subst hx;subst hy
      obtain rfl:v= !u:=by cases v<;>cases u<;>simp_all
      clear hu
      cases u
      ·simp only[Bool.not_false] at *
       go_wp2
       go_region_held3 (fun w'=>w'.cell? ⟨b,o+k*4,none⟩=some (.int .i64 x1)∧w'.cell? ⟨b,o+k*4+1,none⟩=some (.int .i64 x2)∧w'.cell? ⟨b,o+k*4+2,none⟩=some (.bool true)∧w'.cell? ⟨w.heap.size,0,none⟩=some (.int .i64 x1)∧w'.cell? ⟨w.heap.size,1,none⟩=some (.int .i64 x2)) (go_keep) (fail)
       go_wp2
       go_roundg (n-(k+1))
       case measure=>omega
       case rel=>exact⟨k+1,by omega,by omega,by go_num,⟨d+1,rfl⟩,G⟩
      ·simp only[Bool.not_true] at *
       go_wp2
       go_region_held3 (fun w'=>w'.cell? ⟨b,o+k*4,none⟩=some (.int .i64 x1)∧w'.cell? ⟨b,o+k*4+1,none⟩=some (.int .i64 x2)∧w'.cell? ⟨b,o+k*4+2,none⟩=some (.bool false)∧w'.cell? ⟨w.heap.size,0,none⟩=some (.int .i64 x1)∧w'.cell? ⟨w.heap.size,1,none⟩=some (.int .i64 x2)) (go_keep) (fail)
       go_wp2
       go_roundg (n-(k+1))
       case measure=>omega
       case rel=>exact⟨k+1,by omega,by omega,by go_num,⟨d+1,rfl⟩,G⟩
    ·have G:=go fun h=>hy h.1.2
     clear mem go A B
     subst hx
     go_wp2
     go_region
     go_wp2
     go_roundg (n-(k+1))
     case measure=>omega
     case rel=>exact⟨k+1,by omega,by omega,by go_num,⟨d+1,rfl⟩,G⟩
   ·have G:=go fun h=>hx h.1.1
    clear mem go A B
    go_wp2
    go_region
    go_wp2
    go_roundg (n-(k+1))
    case measure=>omega
    case rel=>exact⟨k+1,by omega,by omega,by go_num,⟨d+1,rfl⟩,G⟩
  ·have hkn:k=H.length:=by omega
   clear hH
   have M:Aside (jju H (x,y) u=false):=j32 fun j hj=>A.out j (by omega) hj
   clear A
   go_wp2
   go_ret
   exact⟨by rw[M.out];rfl,jh9 d ((Below.refl _ w).alloc (Nat.le_refl _) _)⟩
end N38
end Go.Proofs
namespace Go.Proofs
open Go.RowKit Go.Shelf Go.Lib Go.Vm.X Go.Vm
namespace N38
def hgC (g:HgT):List Value:=[.int .i64 g.1.1,.int .i64 g.1.2,.bool g.2.1,.int .i8 g.2.2]
def jti (H:List HgT):List Value:=H.flatMap hgC
theorem jrh (H:List HgT):(jti H).length=H.length*4:=by
 induction H with
 | nil=>rfl
 | cons g H ih=>show(hgC g++jti H).length=_;rw[List.length_append,ih];simp[hgC];omega
theorem j2n (H K:List HgT):jti (H++K)=jti H++jti K:=List.flatMap_append ..
theorem j9r (H:List HgT) {j k:Nat} (hj:j<H.length) (hk:k<4):(jti H)[j*4+k]?=(hgC H[j])[k]?:=by
 induction H generalizing j with
 | nil=>simp at hj
 | cons g H ih=>
   show(hgC g++jti H)[j*4+k]?=_
   cases j with
   | zero=>rw[List.getElem?_append_left (by simp[hgC];omega)];simp
   | succ j=>
     have:=ih (j:=j) (by simpa using hj)
     rw[List.getElem?_append_right (by simp[hgC];omega),show(j+1)*4+k-(hgC g).length=j*4+k by simp[hgC];omega,this]
     simp
structure Kn (W:World) (bx bn sb so hb ho sc hcap:Nat) (ao:Option Addr) (c bb:Int) (S:List SqT) (H:List HgT):Prop where
 c1:W.cell? ⟨bx,1,none⟩=some (.int .u64 c)
 c2:W.cell? ⟨bx,2,none⟩=some (.int .u64 bb)
 n0:W.cell? ⟨bn,0,none⟩=some (.slice (some ⟨sb,so,none⟩) S.length sc)
 n1:W.cell? ⟨bn,1,none⟩=some (.slice ao H.length hcap)
 sq:khw W sb so S
 came:Came W 4 ao hb ho H.length hcap (jti H)
 max:hcap≤maxLen
 xb:0<hcap→bx≠hb
 nb:0<hcap→bn≠hb
 sbn:0<hcap→sb≠hb
section
variable {W w w':World} {bx bn sb so hb ho sc hcap:Nat} {ao:Option Addr} {c bb:Int} {S:List SqT} {H:List HgT} {hv:Value} {m:Nat} {ks:List Value}
abbrev On (W:World) (hb ho hcap:Nat) (ao:Option Addr) (H:List HgT) (w:World) (hv:Value) (m:Nat) (ks:List Value):Prop:=Onto W 39 4 ao hb ho H.length hcap (jti H) w hv m ks
theorem Kn.old (k:Kn W bx bn sb so hb ho sc hcap ao c bb S H) (h:On W hb ho hcap ao H w hv m ks) {g o:Nat} {v:Value} (hc:W.cell? ⟨g,o,none⟩=some v) (hne:0<hcap→g≠hb):w.cell? ⟨g,o,none⟩=some v:=by
 have hlt:g<W.heap.size:=World.block_lt_of_cell? _ _ hc
 rw[h.old hlt fun j h1 h2 e=>?_]
 ·exact hc
 ·have:0<hcap:=by
   rcases Nat.eq_zero_or_pos hcap with h0 | h0
   ·subst h0;simp at h2
   ·exact h0
  exact hne this e.1
theorem Kn.sqAt (k:Kn W bx bn sb so hb ho sc hcap ao c bb S H) (h:On W hb ho hcap ao H w hv m ks):khw w sb so S:=fun j hj=>⟨k.old h (k.sq j hj).1 k.sbn,k.old h (k.sq j hj).2 k.sbn⟩
theorem Kn.hgAt (k:Kn W bx bn sb so hb ho sc hcap ao c bb S H) (h:On W hb ho hcap ao H w hv m ks):kjj w hb ho H:=fun j hj=>by
 have hl:=k.came.le
 have hlt:=k.came.lt (by omega)
 have g:∀q (v:Value),q<4→(hgC H[j])[q]?=some v→w.cell? ⟨hb,ho+ (j*4+q),none⟩=some v:=fun q v hq hv=>by
  have e:=j9r H hj hq
  rw[hv] at e
  rw[h.old hlt fun j' h1 h2 e=>by have:=e.2;omega]
  exact k.came.olds _ _ e
 exact⟨g 0 _ (by omega) rfl,g 1 _ (by omega) rfl,g 2 _ (by omega) rfl,g 3 _ (by omega) rfl⟩
abbrev Ec (bx bn sb so sc hcap:Nat) (ao:Option Addr) (c bb:Int) (S:List SqT) (H:List HgT) (k:Nat) (x1 x2:Int) (w:World):Prop:=
 w.cell? ⟨bx,1,none⟩=some (.int .u64 c)∧w.cell? ⟨bx,2,none⟩=some (.int .u64 bb)∧w.cell? ⟨bn,0,none⟩=some (.slice (some ⟨sb,so,none⟩) S.length sc)∧w.cell? ⟨bn,1,none⟩=some (.slice ao H.length hcap)∧
 w.cell? ⟨sb,so+k*2,none⟩=some (.int .i64 x1)∧w.cell? ⟨sb,so+k*2+1,none⟩=some (.int .i64 x2)
theorem Kn.ec (k:Kn W bx bn sb so hb ho sc hcap ao c bb S H) {i:Nat} {x1 x2:Int} (hi:∃h:i<S.length,S[i]=(x1,x2)) (h:On W hb ho hcap ao H w hv m ks):Ec bx bn sb so sc hcap ao c bb S H i x1 x2 w:=by
 obtain⟨hi,e⟩:=hi
 have:=k.sqAt h i hi
 rw[e] at this
 exact⟨k.old h k.c1 k.xb,k.old h k.c2 k.xb,k.old h k.n0 k.nb,k.old h k.n1 k.nb,this.1,this.2⟩
abbrev En (W:World) (bx bn sb so hb ho sc hcap:Nat) (ao:Option Addr) (c bb:Int) (S:List SqT) (H:List HgT) (k:Nat) (x1 x2:Int) (hv:Value) (m:Nat) (ks:List Value) (w:World):Prop:=
 w.cell? ⟨bx,1,none⟩=some (.int .u64 c)∧w.cell? ⟨bx,2,none⟩=some (.int .u64 bb)∧w.cell? ⟨bn,0,none⟩=some (.slice (some ⟨sb,so,none⟩) S.length sc)∧w.cell? ⟨bn,1,none⟩=some (.slice ao H.length hcap)∧
 w.cell? ⟨sb,so+k*2,none⟩=some (.int .i64 x1)∧w.cell? ⟨sb,so+k*2+1,none⟩=some (.int .i64 x2)∧On W hb ho hcap ao H w hv m ks∧w.tape=W.tape
theorem Kn.en (k:Kn W bx bn sb so hb ho sc hcap ao c bb S H) {i:Nat} {x1 x2:Int} (hi:∃h:i<S.length,S[i]=(x1,x2)) (h:On W hb ho hcap ao H w hv m ks) (ht:w.tape=W.tape):En W bx bn sb so hb ho sc hcap ao c bb S H i x1 x2 hv m ks w:=by
 obtain⟨h1,h2,h3,h4,h5,h6⟩:=k.ec hi h
 exact⟨h1,h2,h3,h4,h5,h6,h,ht⟩
theorem Kn.enD (k:Kn W bx bn sb so hb ho sc hcap ao c bb S H) {i:Nat} {x1 x2:Int} (hi:∃h:i<S.length,S[i]=(x1,x2)) (h:On W hb ho hcap ao H w hv m ks) (ht:w.tape=W.tape):En W bx bn sb so hb ho sc hcap ao c bb S H i x1 x2 hv m ks w.drew:=
 k.en hi (h.drew k.came) ht
theorem Kn.enB (k:Kn W bx bn sb so hb ho sc hcap ao c bb S H) {i:Nat} {x1 x2:Int} (hi:∃h:i<S.length,S[i]=(x1,x2)) (h:On W hb ho hcap ao H w hv m ks) (ht:w.tape=W.tape) (hB:Below w.heap.size w w'):En W bx bn sb so hb ho sc hcap ao c bb S H i x1 x2 hv m ks w':=
 k.en hi (h.below k.came hB) (hB.tape.trans ht)
end
theorem kha:(Tryz.prog.info? 39).map (fun i=>(i.zero,i.size,i.bytes))=some (some (.agg #[.int .i64 0,.int .i64 0,.bool false,.int .i8 0]),4,24):=by kernel_rfl
section
variable {W:World} {bx bn sb so hb ho sc hcap:Nat} {ao:Option Addr} {c bb:Int} {S:List SqT} {H:List HgT} {hv:Value} {m:Nat} {ks:List Value}
theorem hgd (k:Kn W bx bn sb so hb ho sc hcap ao c bb S H) (hl:H.length≤1000) {w:World} (h:On W hb ho hcap ao H w hv m ks) (x y:Int) (u:Bool):Calls Tryz.prog 27 #[.slice ao H.length hcap,.agg #[.int .i64 x,.int .i64 y],.bool u] w fun e w'=>e=.returned (.bool (jju H (x,y) u))∧Below w.heap.size w w':=by
 rcases Nat.eq_zero_or_pos H.length with h0 | h0
 ·have:H=[]:=List.length_eq_zero_iff.1 h0
  subst this
  exact kcu x y u hcap ao w
 ·have hc:=k.came.le
  rw[k.came.addr (by omega)]
  exact kar hb ho H.length hcap H x y u w rfl hl (k.hgAt h)
end
end N38
end Go.Proofs
namespace Go.Proofs
open Go.RowKit Go.Shelf Go.Lib Go.Vm.X Go.Vm
namespace N38
def stq (S:List SqT) (H:List HgT) (c bb:Int) (k q:Nat):List HgT×Int:=jxp S H c bb (prs (S.take k)++([false,true].take q).map fun u=>(S.getD k (0,0),u))
theorem kbn {S:List SqT} {H:List HgT} {c bb:Int} {k:Nat} (hk:k<S.length):stq S H c bb k 2=stq S H c bb (k+1) 0:=by
 unfold stq
 congr 1
 have h1:S.take (k+1)=S.take k++[S[k]]:=by rw[List.take_add_one,List.getElem?_eq_getElem hk];rfl
 have e:S.getD k (0,0)=S[k]:=by rw[List.getD,List.getElem?_eq_getElem hk];rfl
 rw[h1,e]
 simp only[prs,List.flatMap_append,List.flatMap_cons,List.flatMap_nil,List.append_nil,List.take_zero,List.map_nil,List.map_cons,List.take_succ_cons]
theorem j8o {S:List SqT} {H:List HgT} {c bb:Int} {k q:Nat} (hq:q<2):stq S H c bb k (q+1)=jdn S H c bb (stq S H c bb k q) (S.getD k (0,0),q==1):=by
 unfold stq jxp
 rcases(by omega:q=0∨q=1) with rfl | rfl<;>simp
theorem kbo {S:List SqT} {H:List HgT} {c bb:Int}:(stq S H c bb S.length 0).1=ofL S H c bb:=by
 unfold stq ofL
 simp
theorem j6g {S:List SqT} {H:List HgT} {c bb:Int} {st:List HgT×Int} {p:SqT×Bool}:st.2≤(jdn S H c bb st p).2∧(jdn S H c bb st p).2≤st.2+1∧(jdn S H c bb st p).1.length≤st.1.length+1∧∃X,(jdn S H c bb st p).1=st.1++X:=by
 unfold jdn
 split
 ·split
  ·exact⟨by simp only;omega,by simp only;omega,by simp,_,rfl⟩
  ·exact⟨by simp only;omega,by simp only;omega,by simp only;omega,[],by simp⟩
 ·exact⟨by omega,by omega,by omega,[],by simp⟩
theorem j66 {S:List SqT} {H:List HgT} {c bb:Int}:∀(l:List (SqT×Bool)) (st:List HgT×Int),st.2≤(l.foldl (jdn S H c bb) st).2∧(l.foldl (jdn S H c bb) st).2≤st.2+l.length∧(l.foldl (jdn S H c bb) st).1.length≤st.1.length+l.length
 | [],st=>by simp
 | p::l,st=>by
   have h:=j6g (S:=S) (H:=H) (c:=c) (bb:=bb) (st:=st) (p:=p)
   have:=j66 (S:=S) (H:=H) (c:=c) (bb:=bb) l (jdn S H c bb st p)
   simp only[List.foldl_cons,List.length_cons]
   omega
theorem kep {S:List SqT} {H:List HgT} {c bb:Int} {k q:Nat} (hk:k≤S.length) (hq:q≤2) (hS:S.length≤64):0≤(stq S H c bb k q).2∧(stq S H c bb k q).2≤200∧(stq S H c bb k q).1.length≤H.length+200:=by
 have:=j66 (S:=S) (H:=H) (c:=c) (bb:=bb) (prs (S.take k)++([false,true].take q).map fun u=>(S.getD k (0,0),u)) (H,0)
 have hl:(prs (S.take k)++([false,true].take q).map fun u=>(S.getD k (0,0),u)).length≤200:=by
  rw[List.length_append,jz0]
  simp
  omega
 unfold stq jxp
 simp only at this
 omega
theorem jcf {w w':World} {a:Addr} {v:Value} (h:Below w.heap.size w w') (hc:w.cell? a=some v):w'.cell? a=some v:=(World.cell?_of_block (h.block _ (World.block_lt_of_cell? _ _ hc))).trans hc
theorem jyx {w w':World} {a:Addr} {v:Value} (h:Below w.heap.size w w') (hc:w.cell? a=some v) (hf:w.frozen? a=false):w'.frozen? a=false:=(World.frozen?_of_block (h.block _ (World.block_lt_of_cell? _ _ hc))).trans hf
theorem j1c {x:Int} (h: -128≤x∧x≤127):IntKind.i8.wrap x=x:=by
 simp[IntKind.wrap,IntKind.bits,IntKind.signed];omega
def kj5 (xv:Value) (bx bt:Nat) (c bb:Int) (S:List SqT) (H:List HgT) (R:Ending→World→Prop) (W0:World):Prop:=
 Calls Tryz.prog 24 #[.agg #[xv,.int .u64 c,.int .u64 bb]] W0 fun e W1=>∃sb so sc ao hb ho hcap,e=.returned (.agg #[.slice (some ⟨sb,so,none⟩) S.length sc,.slice ao H.length hcap])∧Below W0.heap.size W0 W1∧khw W1 sb so S∧
  Came W1 4 ao hb ho H.length hcap (jti H)∧hcap≤maxLen∧(0<hcap→W0.heap.size≤hb)∧(0<hcap→sb≠hb)∧
  ∀W2 bn hv m ks,bn=W1.heap.size→On (W1.alloc (.cells #[.slice (some ⟨sb,so,none⟩) S.length sc,.slice ao H.length hcap] 29)) hb ho hcap ao H W2 hv m ks→W2.tape=W1.tape→jti H++ks=jti (ofL S H c bb)→
   Calls Tryz.prog 28 #[.slice (some ⟨sb,so,none⟩) S.length sc,hv] W2 fun e2 W3=>∃qa qn qc,e2=.returned (.slice qa qn qc)∧Below W2.heap.size W2 W3∧
    ∀W4:World,W4.os=W3.os→W4.tape=W3.tape→W4.output=W3.output→W3.heap.size≤W4.heap.size→(∀x,x<W3.heap.size→x≠bt→W4.heap[x]?=W3.heap[x]?)→R (.returned (.agg #[.slice (some ⟨sb,so,none⟩) S.length sc,.slice qa qn qc])) W4
set_option maxHeartbeats 8000000 in
set_option maxRecDepth 100000 in
theorem of_walk {xv:Value} {c bb:Int} {S:List SqT} {H:List HgT} {R:Ending→World→Prop} (w:World) (hl:H.length≤1000) (hS:S.length≤64) (hsm:∀s∈S,(-1000≤s.1∧s.1≤1000)∧(-1000≤s.2∧s.2≤1000))
  (hc0:0≤c∧c≤18446744073709551615) (hb0:0≤bb∧bb≤18446744073709551615)
  (hT:kj5 xv w.heap.size (w.heap.size+1) c bb S H R ((w.alloc (.cells #[xv,.int .u64 c,.int .u64 bb] 25)).alloc (.cells #[.slice none 0 0,.slice none 0 0] 29))):
  Calls Tryz.prog 6 #[.agg #[xv,.int .u64 c,.int .u64 bb]] w R:=by
 have mixed:=mixed
 obtain⟨i0,hi0,hz0,hz1,hz2⟩:=info_parts kha
 go_enter Tryz.func6,Tryz.ntmps6
 go_wp2_with (go_at_call 24;refine hT.mono ?_;rintro e W1 ⟨sb,so,sc,ao,hb,ho,hcap,rfl,hB,hsq,hcame,hmax,hfresh,hsb,hfin⟩)
 have hsz:((w.alloc (.cells #[xv,.int .u64 c,.int .u64 bb] 25)).alloc (.cells #[.slice none 0 0,.slice none 0 0] 29)).heap.size=w.heap.size+2:=by simp
 have hs1:=hB.size
 rw[hsz] at hB hfresh hs1
 have x1:W1.cell? ⟨w.heap.size,1,none⟩=some (.int .u64 c)∧W1.cell? ⟨w.heap.size,2,none⟩=some (.int .u64 bb):=by
  constructor
  ·rw[hB.cell (p:=⟨w.heap.size,1,none⟩) (by simp)]
   exact jcq _ (World.cell?_alloc_new w _ _ 1)
  ·rw[hB.cell (p:=⟨w.heap.size,2,none⟩) (by simp)]
   exact jcq _ (World.cell?_alloc_new w _ _ 2)
 have zb:∀i,i<2→W1.cell? ⟨w.heap.size+1,i,none⟩=some (.slice none 0 0)∧W1.frozen? ⟨w.heap.size+1,i,none⟩=false:=fun i hi=>by
  have e:(w.alloc (.cells #[xv,.int .u64 c,.int .u64 bb] 25)).heap.size=w.heap.size+1:=by simp
  have h1:=World.cell?_alloc_new (w.alloc (.cells #[xv,.int .u64 c,.int .u64 bb] 25)) #[.slice none 0 0,.slice none 0 0] 29 i
  have h2:=World.frozen?_alloc_new (w.alloc (.cells #[xv,.int .u64 c,.int .u64 bb] 25)) #[.slice none 0 0,.slice none 0 0] 29 i
  rw[e] at h1 h2
  have h3:=hB.block (w.heap.size+1) (by omega)
  constructor
  ·rw[World.cell?_of_block (a:=⟨w.heap.size+1,i,none⟩) h3,h1]
   rcases(by omega:i=0∨i=1) with rfl | rfl<;>rfl
  ·rw[World.frozen?_of_block (a:=⟨w.heap.size+1,i,none⟩) h3,h2]
 obtain⟨y1,y2⟩:=j6l W1 (.slice (some ⟨sb,so,none⟩) S.length sc) (.slice ao H.length hcap) 29
 have K:Kn (W1.alloc (.cells #[.slice (some ⟨sb,so,none⟩) S.length sc,.slice ao H.length hcap] 29)) w.heap.size W1.heap.size sb so hb ho sc hcap ao c bb S H:=
  ⟨jcq _ x1.1,jcq _ x1.2,y1,y2,fun j hj=>⟨jcq _ (hsq j hj).1,jcq _ (hsq j hj).2⟩,
    ⟨hcame.le,hcame.addr,fun h=>by have:=hcame.lt h;simp;omega,hcame.oldsLen,fun j u h=>jcq _ (hcame.olds j u h),fun j hj=>by
      have h1:=hcame.spare j hj
      obtain⟨v,hv⟩:=Option.isSome_iff_exists.1 h1.1
      refine⟨by rw[jcq _ hv];rfl,?_⟩
      rw[World.frozen?_of_block (Go.RowKit.Below.heap_alloc W1 _ _ (World.block_lt_of_cell? _ _ hv))]
      exact h1.2⟩,hmax,fun h e=>by have:=hfresh h;omega,fun h e=>by have:=hcame.lt h;omega,hsb⟩
 have start:On (W1.alloc (.cells #[.slice (some ⟨sb,so,none⟩) S.length sc,.slice ao H.length hcap] 29)) hb ho hcap ao H (W1.alloc (.cells #[.slice (some ⟨sb,so,none⟩) S.length sc,.slice ao H.length hcap] 29)) (.slice ao H.length hcap) 0 []:=Onto.start K.came
 have zw:∀i,i<2→(W1.alloc (.cells #[.slice (some ⟨sb,so,none⟩) S.length sc,.slice ao H.length hcap] 29)).cell? ⟨w.heap.size+1,i,none⟩=some (.slice none 0 0)∧(W1.alloc (.cells #[.slice (some ⟨sb,so,none⟩) S.length sc,.slice ao H.length hcap] 29)).frozen? ⟨w.heap.size+1,i,none⟩=false:=fun i hi=>
  ⟨jcq _ (zb i hi).1,(World.frozen?_of_block (Go.RowKit.Below.heap_alloc W1 _ _ (World.block_lt_of_cell? _ _ (zb i hi).1))).trans (zb i hi).2⟩
 clear hT x1 y1 y2 zb
 obtain⟨W,hW⟩:∃W,W1.alloc (.cells #[.slice (some ⟨sb,so,none⟩) S.length sc,.slice ao H.length hcap] 29)=W:=⟨_,rfl⟩
 have hWt:W.tape=W1.tape:=by rw[←hW];rfl
 rw[hW] at K start hfin zw ⊢
 go_loopg [4,5,6] S.length (fun g s4 s5 s6 wr=>∃(k m:Nat) (ks:List Value),k≤S.length∧S.length-k≤g∧s6=.int .i64 k∧s5=.int .i64 (stq S H c bb k 0).2∧On W hb ho hcap ao H wr s4 m ks∧wr.tape=W.tape∧Aside (jti H++ks=jti (stq S H c bb k 0).1))
 case atStart=>exact⟨0,0,[],Nat.zero_le _,by omega,rfl,rfl,start,rfl,by rw[List.append_nil];rfl⟩
 case round=>
  obtain⟨k,m,ks,hk,hg,rfl,rfl,hon,htp,A⟩:=hrel
  by_cases hlt:k<S.length
  ·obtain⟨x1,x2,hx12⟩:∃x1 x2,S[k]=(x1,x2):=⟨_,_,rfl⟩
   have hik:∃h:k<S.length,S[k]=(x1,x2):=⟨hlt,hx12⟩
   have hgd0:S.getD k (0,0)=(x1,x2):=by rw[List.getD,List.getElem?_eq_getElem hlt];exact hx12
   have hsm1:(-1000≤x1∧x1≤1000)∧(-1000≤x2∧x2≤1000):=by have:=hsm _ (List.getElem_mem hlt);rw[hx12] at this;exact this
   obtain⟨hx,hy⟩:=hsm1
   have k0:(0:Int)≤(k:Int):=by omega
   have k1:(k:Int)< (S.length:Int):=by omega
   obtain⟨f1,f2,f3,f4,f5,f6⟩:=K.ec hik hon
   go_wp2
   go_loopg [4,5,7] 2 (fun g s4 s5 s7 wr=>∃(q m:Nat) (ks:List Value),q≤2∧2-q≤g∧s7=.int .i64 q∧s5=.int .i64 (stq S H c bb k q).2∧On W hb ho hcap ao H wr s4 m ks∧wr.tape=W.tape∧Aside (jti H++ks=jti (stq S H c bb k q).1))
   case atStart=>exact⟨0,m,ks,by omega,by omega,rfl,rfl,hon,htp,A⟩
   case round=>
    clear f1 f2 f3 f4 f5 f6 hon htp A
    obtain⟨q,m,ks,hq,hg2,rfl,rfl,hon,htp,A⟩:=hrel
    obtain⟨f1,f2,f3,f4,f5,f6⟩:=K.ec hik hon
    by_cases hq2:q<2
    ·have hst:=j8o (S:=S) (H:=H) (c:=c) (bb:=bb) (k:=k) hq2
     rw[hgd0] at hst
     obtain⟨b1,b2,b3⟩:=kep (S:=S) (H:=H) (c:=c) (bb:=bb) (k:=k) (q:=q) hk hq hS
     rcases(by omega:q=0∨q=1) with rfl | rfl
     ·have hE:∀ {w' hv m ks},On W hb ho hcap ao H w' hv m ks→Calls Tryz.prog 25 #[.slice (some ⟨sb,so,none⟩) S.length sc,.agg #[.int .i64 (x1+1),.int .i64 (x2)]] w' fun e w2=>e=.returned (.bool (decide ((x1+1,x2)∈S)))∧Below w'.heap.size w' w2:=fun h=>has sb so S.length sc S _ _ _ rfl (by omega) (K.sqAt h)
      have hG:∀ {w' hv m ks},On W hb ho hcap ao H w' hv m ks→Calls Tryz.prog 27 #[.slice ao H.length hcap,.agg #[.int .i64 x1,.int .i64 x2],.bool false] w' fun e w2=>e=.returned (.bool (jju H (x1,x2) false))∧Below w'.heap.size w' w2:=fun h=>hgd K hl h x1 x2 false
      obtain⟨n0,hn0⟩:∃n0,(stq S H c bb k 0).2=n0:=⟨_,rfl⟩
      rw[hn0] at b1 b2 ⊢
      generalize hu4:u4=hv at hon ⊢
      have hm:m≤200:=by
       have h1:=hon.ksLen
       have h2:=congrArg List.length A.out
       rw[List.length_append,jrh,jrh] at h2
       omega
      by_cases hh:(x1+1,x2)∈S
      ·rw[decide_eq_true hh] at hE
       by_cases hk2:jju H (x1,x2) false=true
       ·rw[hk2] at hG
        go_wp2
        go_region_held3 (fun w'=>w'.cell? ⟨w.heap.size,1,none⟩=some (.int .u64 c)∧w'.cell? ⟨w.heap.size,2,none⟩=some (.int .u64 bb)∧w'.cell? ⟨W1.heap.size,0,none⟩=some (.slice (some ⟨sb,so,none⟩) S.length sc)∧w'.cell? ⟨W1.heap.size,1,none⟩=some (.slice ao H.length hcap)∧w'.cell? ⟨sb,so+k*2,none⟩=some (.int .i64 x1)∧w'.cell? ⟨sb,so+k*2+1,none⟩=some (.int .i64 x2)∧On W hb ho hcap ao H w' hv m ks∧w'.tape=W.tape)
         (first | exact K.enD hik hon htp | (go_split_ands;exact K.enB hik (by assumption) (by assumption) (by assumption)))
         (first | (go_at_call 26;refine(kje x1 x2 hx _).mono ?_;rintro e w' ⟨rfl,hB2⟩) | (go_at_call 25;go_split_ands;refine(hE (by assumption)).mono ?_;rintro e w' ⟨rfl,hB2⟩) | (go_at_call 27;go_split_ands;refine(hG (by assumption)).mono ?_;rintro e w' ⟨rfl,hB2⟩))
        have hst2:stq S H c bb k (0+1)=stq S H c bb k 0:=by rw[hst,jdn,if_neg fun h=>by have:=h.2;simp only[Nat.reduceBEq] at this;rw[hk2] at this;cases this]
        go_wp2
        go_split_ands
        go_roundg (2-(0+1))
        case measure=>omega
        case rel=>exact⟨0+1,m,ks,by omega,by omega,by go_num,by rw[hst2,hn0],by assumption,by assumption,by rw[hst2];exact A⟩
       ·have hk3:jju H (x1,x2) false=false:=by simpa using hk2
        rw[hk3] at hG
        go_wp2
        go_region_held3 (fun w'=>w'.cell? ⟨w.heap.size,1,none⟩=some (.int .u64 c)∧w'.cell? ⟨w.heap.size,2,none⟩=some (.int .u64 bb)∧w'.cell? ⟨W1.heap.size,0,none⟩=some (.slice (some ⟨sb,so,none⟩) S.length sc)∧w'.cell? ⟨W1.heap.size,1,none⟩=some (.slice ao H.length hcap)∧w'.cell? ⟨sb,so+k*2,none⟩=some (.int .i64 x1)∧w'.cell? ⟨sb,so+k*2+1,none⟩=some (.int .i64 x2)∧On W hb ho hcap ao H w' hv m ks∧w'.tape=W.tape)
         (first | exact K.enD hik hon htp | (go_split_ands;exact K.enB hik (by assumption) (by assumption) (by assumption)))
         (first | (go_at_call 26;refine(kje x1 x2 hx _).mono ?_;rintro e w' ⟨rfl,hB2⟩) | (go_at_call 25;go_split_ands;refine(hE (by assumption)).mono ?_;rintro e w' ⟨rfl,hB2⟩) | (go_at_call 27;go_split_ands;refine(hG (by assumption)).mono ?_;rintro e w' ⟨rfl,hB2⟩))
        go_split_ands
        go_wp2
        ·rename_i hbit
         have hshr:∀u:World,(Op.shift .shr .u64 bb .i64 (n0.tmod 62)).run Tryz.prog u=.ok (.int .u64 (bb.fdiv (2^ (min (n0.tmod 62).toNat 64)))) u:=fun u=>by
          have:=Int.tmod_nonneg 62 b1
          unfold Op.shift
          rw[if_neg (by omega)]
          rfl
         go_region_held3 (fun w'=>w'.cell? ⟨w.heap.size,1,none⟩=some (.int .u64 c)∧w'.cell? ⟨w.heap.size,2,none⟩=some (.int .u64 bb)∧w'.cell? ⟨W1.heap.size,0,none⟩=some (.slice (some ⟨sb,so,none⟩) S.length sc)∧w'.cell? ⟨W1.heap.size,1,none⟩=some (.slice ao H.length hcap)∧w'.cell? ⟨sb,so+k*2,none⟩=some (.int .i64 x1)∧w'.cell? ⟨sb,so+k*2+1,none⟩=some (.int .i64 x2)) (first | go_keep | exact K.ec hik honto)
          ((refine jkn (P:=Tryz.prog) (by rfl) _ _ 27 (by rfl) K.came hmax i0 _ 24 Tryz.underlying27 hi0 hz0 hz1 hz2 (by rfl) (by omega) (v:=hv) (m:=m) (ks:=ks) (by rfl) (Onto.drew (Onto.alloc (by assumption) K.came _) K.came) (by assumption) ⟨_,0,none⟩ 1 _ (by rfl) (by rfl) (World.news_of_block (heap_alloc_new _ _)) (by simp[Value.oneCell']) (by simp only[maxLen];omega) (by omega) ?_;intro v2 w2 honto htp2))
         have hw8:IntKind.i8.wrap (IntKind.i8.wrap (((bb.fdiv (2^min (n0.tmod 62).toNat 64)).tmod 4).tmod 3)-1)=jqd bb n0:=by
          have:=jwl (b:=bb) (by assumption) n0
          unfold jqd at this ⊢
          generalize ((bb.fdiv (2^min (n0.tmod 62).toNat 64)).tmod 4).tmod 3=z at this ⊢
          rw[j1c (x:=z) (by omega),j1c (by omega)]
         rw[hw8] at honto ⊢
         have hst3:stq S H c bb k (0+1)=((stq S H c bb k 0).1++[((x1,x2),(false,jqd bb n0))],n0+1):=by
          rw[hst,jdn,if_pos ⟨by exact hh,by exact hk3⟩,if_pos (by rw[hn0];exact hbit),hn0]
          rfl
         have A2:Aside (jti H++(ks++hgC ((x1,x2),(false,jqd bb n0)))=jti (stq S H c bb k (0+1)).1):=by
          rw[hst3,j2n,←List.append_assoc,A.out]
          rfl
         clear hw8 hshr
         go_wp2
         go_roundg (2-(0+1))
         case measure=>omega
         case rel=>exact⟨0+1,m+1,_,by omega,by omega,by go_num,by rw[hst3],honto,htp2,A2⟩
        ·rename_i hbit
         have hst3:stq S H c bb k (0+1)=((stq S H c bb k 0).1,n0+1):=by
          rw[hst,jdn,if_pos ⟨by exact hh,by exact hk3⟩,if_neg (by rw[hn0];exact fun h=>by rw[show kjc c n0=false from hbit] at h;cases h),hn0]
         go_roundg (2-(0+1))
         case measure=>omega
         case rel=>exact⟨0+1,m,ks,by omega,by omega,by go_num,by rw[hst3],by assumption,by assumption,by rw[hst3];exact A⟩
      ·rw[decide_eq_false hh] at hE
       have hst2:stq S H c bb k (0+1)=stq S H c bb k 0:=by rw[hst,jdn,if_neg fun h=>hh (by exact h.1)]
       go_wp2
       refine wp_region_held_drew (S:=fun w'=>w'.cell? ⟨w.heap.size,1,none⟩=some (.int .u64 c)∧w'.cell? ⟨w.heap.size,2,none⟩=some (.int .u64 bb)∧w'.cell? ⟨W1.heap.size,0,none⟩=some (.slice (some ⟨sb,so,none⟩) S.length sc)∧w'.cell? ⟨W1.heap.size,1,none⟩=some (.slice ao H.length hcap)∧w'.cell? ⟨sb,so+k*2,none⟩=some (.int .i64 x1)∧w'.cell? ⟨sb,so+k*2+1,none⟩=some (.int .i64 x2)∧On W hb ho hcap ao H w' hv m ks∧w'.tape=W.tape) (by kernel_rfl) (K.enD hik hon htp) (fun hHeld=>?_)
       refine wpAnyH_take (i:=0) (oi:=⟨some 23,_,_,_,_,none⟩) (v:=?_) rfl (by kernel_rfl) (by kernel_rfl) (by kernel_rfl) (fun _ _ _ h=>h) (Or.inl ⟨by rfl,?_⟩) (by assumption) ?_
       rotate_left
       ·intro w hSw;(try dsimp only at hSw);go_simp;try with_reducible rfl
       try simp only[Act.put,List.setIfInBounds_toArray,List.set_cons_zero,List.set_cons_succ]
       refine wpAnyH_take (i:=1) (oi:=⟨some 24,_,_,_,_,none⟩) (v:=?_) rfl (by kernel_rfl) (by kernel_rfl) (by kernel_rfl) (fun _ _ _ h=>h) (Or.inl ⟨by rfl,?_⟩) (by assumption) ?_
       rotate_left
       ·intro w hSw;(try dsimp only at hSw);go_simp;try with_reducible rfl
       try simp only[Act.put,List.setIfInBounds_toArray,List.set_cons_zero,List.set_cons_succ]
       refine wpAnyH_take (i:=2) (oi:=⟨some 25,_,_,_,_,none⟩) (v:=?_) rfl (by kernel_rfl) (by kernel_rfl) (by kernel_rfl) (fun _ _ _ h=>h) (Or.inl ⟨by rfl,?_⟩) (by assumption) ?_
       rotate_left
       ·intro w hSw;(try dsimp only at hSw);go_simp;try with_reducible rfl
       try simp only[Act.put,List.setIfInBounds_toArray,List.set_cons_zero,List.set_cons_succ]
       refine wpAnyH_take (i:=3) (oi:=⟨some 26,_,_,_,_,none⟩) (v:=?_) rfl (by kernel_rfl) (by kernel_rfl) (by kernel_rfl) (fun _ _ _ h=>h) (Or.inl ⟨by rfl,?_⟩) (by assumption) ?_
       rotate_left
       ·intro w hSw;(try dsimp only at hSw);go_simp;try with_reducible rfl
       try simp only[Act.put,List.setIfInBounds_toArray,List.set_cons_zero,List.set_cons_succ]
       refine wpAnyH_take (i:=4) (oi:=⟨some 27,_,_,_,_,none⟩) (v:=?_) rfl (by kernel_rfl) (by kernel_rfl) (by kernel_rfl) (fun _ _ _ h=>h) (Or.inl ⟨by rfl,?_⟩) (by assumption) ?_
       rotate_left
       ·intro w hSw;(try dsimp only at hSw);go_simp;try with_reducible rfl
       try simp only[Act.put,List.setIfInBounds_toArray,List.set_cons_zero,List.set_cons_succ]
       refine wpAnyH_take (i:=5) (oi:=⟨some 28,_,_,_,_,none⟩) (v:=?_) rfl (by kernel_rfl) (by kernel_rfl) (by kernel_rfl) (fun _ _ _ h=>h) (Or.inl ⟨by rfl,?_⟩) (by assumption) ?_
       rotate_left
       ·intro w hSw;(try dsimp only at hSw);go_simp;try with_reducible rfl
       try simp only[Act.put,List.setIfInBounds_toArray,List.set_cons_zero,List.set_cons_succ]
       refine wpAnyH_take (i:=6) (oi:=⟨some 29,_,_,_,_,none⟩) (v:=?_) rfl (by kernel_rfl) (by kernel_rfl) (by kernel_rfl) (fun _ _ _ h=>h) (Or.inl ⟨by rfl,?_⟩) (by assumption) ?_
       rotate_left
       ·intro w hSw;(try dsimp only at hSw);go_simp;try with_reducible rfl
       try simp only[Act.put,List.setIfInBounds_toArray,List.set_cons_zero,List.set_cons_succ]
       refine wpAnyH_take (i:=7) (oi:=⟨some 30,_,_,_,_,none⟩) (v:=?_) rfl (by kernel_rfl) (by kernel_rfl) (by kernel_rfl) (fun _ _ _ h=>h) (Or.inl ⟨by rfl,?_⟩) (by assumption) ?_
       rotate_left
       ·intro w hSw;(try dsimp only at hSw);go_simp;try with_reducible rfl
       try simp only[Act.put,List.setIfInBounds_toArray,List.set_cons_zero,List.set_cons_succ]
       refine wpAnyH_ready (rs:=[8]) (by kernel_rfl) (by simp) ?_
       refine AllReadyH.cons (o:=⟨some 31,_,_,_,_,none⟩) rfl (fun K2 hK2=>?_) AllReadyH.nil
       go_simp
       (go_at_call 26;refine(kje x1 x2 hx _).mono ?_;rintro e w' ⟨rfl,hB2⟩)
       go_wp2_with fail
       refine hK2.out _ _ ?_ (fun hHeld=>?_)
       ·go_split_ands;exact K.enB hik (by assumption) (by assumption) (by assumption)
       clear hK2 K2
       try simp only[Act.put,List.setIfInBounds_toArray,List.set_cons_zero,List.set_cons_succ]
       refine wpAnyH_ready (rs:=[9]) (by kernel_rfl) (by simp) ?_
       refine AllReadyH.cons (o:=⟨some 32,_,_,_,_,none⟩) rfl (fun K2 hK2=>?_) AllReadyH.nil
       go_simp
       (go_at_call 25;go_split_ands;refine(hE (by assumption)).mono ?_;rintro e w' ⟨rfl,hB2⟩)
       go_wp2_with fail
       refine hK2.out _ _ ?_ (fun hHeld=>?_)
       ·go_split_ands;exact K.enB hik (by assumption) (by assumption) (by assumption)
       clear hK2 K2
       try simp only[Act.put,List.setIfInBounds_toArray,List.set_cons_zero,List.set_cons_succ]
       refine wpAnyH_take (i:=10) (oi:=⟨some 33,_,_,_,_,none⟩) (v:=?_) rfl (by kernel_rfl) (by kernel_rfl) (by kernel_rfl) (fun _ _ _ h=>h) (Or.inl ⟨by rfl,?_⟩) (by assumption) ?_
       rotate_left
       ·intro w hSw;(try dsimp only at hSw);go_simp;try with_reducible rfl
       try simp only[Act.put,List.setIfInBounds_toArray,List.set_cons_zero,List.set_cons_succ]
       refine wpAnyH_take (i:=11) (oi:=⟨some 34,_,_,_,_,none⟩) (v:=?_) rfl (by kernel_rfl) (by kernel_rfl) (by kernel_rfl) (fun _ _ _ h=>h) (Or.inl ⟨by rfl,?_⟩) (by assumption) ?_
       rotate_left
       ·intro w hSw;(try dsimp only at hSw);go_simp;try with_reducible rfl
       try simp only[Act.put,List.setIfInBounds_toArray,List.set_cons_zero,List.set_cons_succ]
       refine wpAnyH_take (listed:=#[true,true,true,true,true,true,true,true,true,true,true,true,false,false,false,false,false,false,false,false,false,false,false]) (i:=12) (oi:=⟨some 35,_,_,_,_,some (11,false)⟩) (v:=undef) rfl (by kernel_rfl) (by kernel_rfl) (by kernel_rfl) (fun _ _ _ h=>h) (Or.inr ⟨by rfl,rfl⟩) (by assumption) ?_
       try simp only[Act.put,List.setIfInBounds_toArray,List.set_cons_zero,List.set_cons_succ]
       refine wpAnyH_take (listed:=#[true,true,true,true,true,true,true,true,true,true,true,true,true,false,false,false,false,false,false,false,false,false,false]) (i:=13) (oi:=⟨some 36,_,_,_,_,some (11,false)⟩) (v:=undef) rfl (by kernel_rfl) (by kernel_rfl) (by kernel_rfl) (fun _ _ _ h=>h) (Or.inr ⟨by rfl,rfl⟩) (by assumption) ?_
       try simp only[Act.put,List.setIfInBounds_toArray,List.set_cons_zero,List.set_cons_succ]
       refine wpAnyH_take (listed:=#[true,true,true,true,true,true,true,true,true,true,true,true,true,true,false,false,false,false,false,false,false,false,false]) (i:=14) (oi:=⟨some 37,_,_,_,_,some (11,false)⟩) (v:=undef) rfl (by kernel_rfl) (by kernel_rfl) (by kernel_rfl) (fun _ _ _ h=>h) (Or.inr ⟨by rfl,rfl⟩) (by assumption) ?_
       try simp only[Act.put,List.setIfInBounds_toArray,List.set_cons_zero,List.set_cons_succ]
       refine wpAnyH_take (listed:=#[true,true,true,true,true,true,true,true,true,true,true,true,true,true,true,false,false,false,false,false,false,false,false]) (i:=15) (oi:=⟨some 38,_,_,_,_,some (11,false)⟩) (v:=undef) rfl (by kernel_rfl) (by kernel_rfl) (by kernel_rfl) (fun _ _ _ h=>h) (Or.inr ⟨by rfl,rfl⟩) (by assumption) ?_
       try simp only[Act.put,List.setIfInBounds_toArray,List.set_cons_zero,List.set_cons_succ]
       refine wpAnyH_take (listed:=#[true,true,true,true,true,true,true,true,true,true,true,true,true,true,true,true,false,false,false,false,false,false,false]) (i:=16) (oi:=⟨some 39,_,_,_,_,some (11,false)⟩) (v:=undef) rfl (by kernel_rfl) (by kernel_rfl) (by kernel_rfl) (fun _ _ _ h=>h) (Or.inr ⟨by rfl,rfl⟩) (by assumption) ?_
       try simp only[Act.put,List.setIfInBounds_toArray,List.set_cons_zero,List.set_cons_succ]
       refine wpAnyH_take (listed:=#[true,true,true,true,true,true,true,true,true,true,true,true,true,true,true,true,true,false,false,false,false,false,false]) (i:=17) (oi:=⟨some 40,_,_,_,_,some (11,false)⟩) (v:=undef) rfl (by kernel_rfl) (by kernel_rfl) (by kernel_rfl) (fun _ _ _ h=>h) (Or.inr ⟨by rfl,rfl⟩) (by assumption) ?_
       try simp only[Act.put,List.setIfInBounds_toArray,List.set_cons_zero,List.set_cons_succ]
       refine wpAnyH_take (listed:=#[true,true,true,true,true,true,true,true,true,true,true,true,true,true,true,true,true,true,false,false,false,false,false]) (i:=18) (oi:=⟨some 41,_,_,_,_,some (11,false)⟩) (v:=undef) rfl (by kernel_rfl) (by kernel_rfl) (by kernel_rfl) (fun _ _ _ h=>h) (Or.inr ⟨by rfl,rfl⟩) (by assumption) ?_
       try simp only[Act.put,List.setIfInBounds_toArray,List.set_cons_zero,List.set_cons_succ]
       refine wpAnyH_take (listed:=#[true,true,true,true,true,true,true,true,true,true,true,true,true,true,true,true,true,true,true,false,false,false,false]) (i:=19) (oi:=⟨some 42,_,_,_,_,some (11,false)⟩) (v:=undef) rfl (by kernel_rfl) (by kernel_rfl) (by kernel_rfl) (fun _ _ _ h=>h) (Or.inr ⟨by rfl,rfl⟩) (by assumption) ?_
       try simp only[Act.put,List.setIfInBounds_toArray,List.set_cons_zero,List.set_cons_succ]
       refine wpAnyH_take (listed:=#[true,true,true,true,true,true,true,true,true,true,true,true,true,true,true,true,true,true,true,true,false,false,false]) (i:=20) (oi:=⟨some 43,_,_,_,_,some (11,false)⟩) (v:=undef) rfl (by kernel_rfl) (by kernel_rfl) (by kernel_rfl) (fun _ _ _ h=>h) (Or.inr ⟨by rfl,rfl⟩) (by assumption) ?_
       try simp only[Act.put,List.setIfInBounds_toArray,List.set_cons_zero,List.set_cons_succ]
       refine wpAnyH_take (listed:=#[true,true,true,true,true,true,true,true,true,true,true,true,true,true,true,true,true,true,true,true,true,false,false]) (i:=21) (oi:=⟨some 44,_,_,_,_,some (11,false)⟩) (v:=undef) rfl (by kernel_rfl) (by kernel_rfl) (by kernel_rfl) (fun _ _ _ h=>h) (Or.inr ⟨by rfl,rfl⟩) (by assumption) ?_
       try simp only[Act.put,List.setIfInBounds_toArray,List.set_cons_zero,List.set_cons_succ]
       refine wpAnyH_take (i:=22) (oi:=⟨some 45,_,_,_,_,none⟩) (v:=?_) rfl (by kernel_rfl) (by kernel_rfl) (by kernel_rfl) (fun _ _ _ h=>h) (Or.inl ⟨by rfl,?_⟩) (by assumption) ?_
       rotate_left
       ·intro w hSw;(try dsimp only at hSw);go_simp;try with_reducible rfl
       try simp only[Act.put,List.setIfInBounds_toArray,List.set_cons_zero,List.set_cons_succ]
       refine wpAnyH_done (by kernel_rfl) ?_ _
       go_wp2
       go_split_ands
       go_roundg (2-(0+1))
       case measure=>omega
       case rel=>exact⟨0+1,m,ks,by omega,by omega,by go_num,by rw[hst2,hn0],by assumption,by assumption,by rw[hst2];exact A⟩
     ·have hE:∀ {w' hv m ks},On W hb ho hcap ao H w' hv m ks→Calls Tryz.prog 25 #[.slice (some ⟨sb,so,none⟩) S.length sc,.agg #[.int .i64 (x1),.int .i64 (x2+1)]] w' fun e w2=>e=.returned (.bool (decide ((x1,x2+1)∈S)))∧Below w'.heap.size w' w2:=fun h=>has sb so S.length sc S _ _ _ rfl (by omega) (K.sqAt h)
      have hG:∀ {w' hv m ks},On W hb ho hcap ao H w' hv m ks→Calls Tryz.prog 27 #[.slice ao H.length hcap,.agg #[.int .i64 x1,.int .i64 x2],.bool true] w' fun e w2=>e=.returned (.bool (jju H (x1,x2) true))∧Below w'.heap.size w' w2:=fun h=>hgd K hl h x1 x2 true
      obtain⟨n0,hn0⟩:∃n0,(stq S H c bb k 1).2=n0:=⟨_,rfl⟩
      rw[hn0] at b1 b2 ⊢
      generalize hu4:u4=hv at hon ⊢
      have hm:m≤200:=by
       have h1:=hon.ksLen
       have h2:=congrArg List.length A.out
       rw[List.length_append,jrh,jrh] at h2
       omega
      by_cases hh:(x1,x2+1)∈S
      ·rw[decide_eq_true hh] at hE
       by_cases hk2:jju H (x1,x2) true=true
       ·rw[hk2] at hG
        go_wp2
        go_region_held3 (fun w'=>w'.cell? ⟨w.heap.size,1,none⟩=some (.int .u64 c)∧w'.cell? ⟨w.heap.size,2,none⟩=some (.int .u64 bb)∧w'.cell? ⟨W1.heap.size,0,none⟩=some (.slice (some ⟨sb,so,none⟩) S.length sc)∧w'.cell? ⟨W1.heap.size,1,none⟩=some (.slice ao H.length hcap)∧w'.cell? ⟨sb,so+k*2,none⟩=some (.int .i64 x1)∧w'.cell? ⟨sb,so+k*2+1,none⟩=some (.int .i64 x2)∧On W hb ho hcap ao H w' hv m ks∧w'.tape=W.tape)
         (first | exact K.enD hik hon htp | (go_split_ands;exact K.enB hik (by assumption) (by assumption) (by assumption)))
         (first | (go_at_call 26;refine(kjd x1 x2 hy _).mono ?_;rintro e w' ⟨rfl,hB2⟩) | (go_at_call 25;go_split_ands;refine(hE (by assumption)).mono ?_;rintro e w' ⟨rfl,hB2⟩) | (go_at_call 27;go_split_ands;refine(hG (by assumption)).mono ?_;rintro e w' ⟨rfl,hB2⟩))
        have hst2:stq S H c bb k (1+1)=stq S H c bb k 1:=by rw[hst,jdn,if_neg fun h=>by have:=h.2;simp only[Nat.reduceBEq] at this;rw[hk2] at this;cases this]
        go_wp2
        go_split_ands
        go_roundg (2-(1+1))
        case measure=>omega
        case rel=>exact⟨1+1,m,ks,by omega,by omega,by go_num,by rw[hst2,hn0],by assumption,by assumption,by rw[hst2];exact A⟩
       ·have hk3:jju H (x1,x2) true=false:=by simpa using hk2
        rw[hk3] at hG
        go_wp2
        go_region_held3 (fun w'=>w'.cell? ⟨w.heap.size,1,none⟩=some (.int .u64 c)∧w'.cell? ⟨w.heap.size,2,none⟩=some (.int .u64 bb)∧w'.cell? ⟨W1.heap.size,0,none⟩=some (.slice (some ⟨sb,so,none⟩) S.length sc)∧w'.cell? ⟨W1.heap.size,1,none⟩=some (.slice ao H.length hcap)∧w'.cell? ⟨sb,so+k*2,none⟩=some (.int .i64 x1)∧w'.cell? ⟨sb,so+k*2+1,none⟩=some (.int .i64 x2)∧On W hb ho hcap ao H w' hv m ks∧w'.tape=W.tape)
         (first | exact K.enD hik hon htp | (go_split_ands;exact K.enB hik (by assumption) (by assumption) (by assumption)))
         (first | (go_at_call 26;refine(kjd x1 x2 hy _).mono ?_;rintro e w' ⟨rfl,hB2⟩) | (go_at_call 25;go_split_ands;refine(hE (by assumption)).mono ?_;rintro e w' ⟨rfl,hB2⟩) | (go_at_call 27;go_split_ands;refine(hG (by assumption)).mono ?_;rintro e w' ⟨rfl,hB2⟩))
        go_split_ands
        go_wp2
        ·rename_i hbit
         have hshr:∀u:World,(Op.shift .shr .u64 bb .i64 (n0.tmod 62)).run Tryz.prog u=.ok (.int .u64 (bb.fdiv (2^ (min (n0.tmod 62).toNat 64)))) u:=fun u=>by
          have:=Int.tmod_nonneg 62 b1
          unfold Op.shift
          rw[if_neg (by omega)]
          rfl
         go_region_held3 (fun w'=>w'.cell? ⟨w.heap.size,1,none⟩=some (.int .u64 c)∧w'.cell? ⟨w.heap.size,2,none⟩=some (.int .u64 bb)∧w'.cell? ⟨W1.heap.size,0,none⟩=some (.slice (some ⟨sb,so,none⟩) S.length sc)∧w'.cell? ⟨W1.heap.size,1,none⟩=some (.slice ao H.length hcap)∧w'.cell? ⟨sb,so+k*2,none⟩=some (.int .i64 x1)∧w'.cell? ⟨sb,so+k*2+1,none⟩=some (.int .i64 x2)) (first | go_keep | exact K.ec hik honto)
          ((refine jkn (P:=Tryz.prog) (by rfl) _ _ 27 (by rfl) K.came hmax i0 _ 24 Tryz.underlying27 hi0 hz0 hz1 hz2 (by rfl) (by omega) (v:=hv) (m:=m) (ks:=ks) (by rfl) (Onto.drew (Onto.alloc (by assumption) K.came _) K.came) (by assumption) ⟨_,0,none⟩ 1 _ (by rfl) (by rfl) (World.news_of_block (heap_alloc_new _ _)) (by simp[Value.oneCell']) (by simp only[maxLen];omega) (by omega) ?_;intro v2 w2 honto htp2))
         have hw8:IntKind.i8.wrap (IntKind.i8.wrap (((bb.fdiv (2^min (n0.tmod 62).toNat 64)).tmod 4).tmod 3)-1)=jqd bb n0:=by
          have:=jwl (b:=bb) (by assumption) n0
          unfold jqd at this ⊢
          generalize ((bb.fdiv (2^min (n0.tmod 62).toNat 64)).tmod 4).tmod 3=z at this ⊢
          rw[j1c (x:=z) (by omega),j1c (by omega)]
         rw[hw8] at honto ⊢
         have hst3:stq S H c bb k (1+1)=((stq S H c bb k 1).1++[((x1,x2),(true,jqd bb n0))],n0+1):=by
          rw[hst,jdn,if_pos ⟨by exact hh,by exact hk3⟩,if_pos (by rw[hn0];exact hbit),hn0]
          rfl
         have A2:Aside (jti H++(ks++hgC ((x1,x2),(true,jqd bb n0)))=jti (stq S H c bb k (1+1)).1):=by
          rw[hst3,j2n,←List.append_assoc,A.out]
          rfl
         clear hw8 hshr
         go_wp2
         go_roundg (2-(1+1))
         case measure=>omega
         case rel=>exact⟨1+1,m+1,_,by omega,by omega,by go_num,by rw[hst3],honto,htp2,A2⟩
        ·rename_i hbit
         have hst3:stq S H c bb k (1+1)=((stq S H c bb k 1).1,n0+1):=by
          rw[hst,jdn,if_pos ⟨by exact hh,by exact hk3⟩,if_neg (by rw[hn0];exact fun h=>by rw[show kjc c n0=false from hbit] at h;cases h),hn0]
         go_roundg (2-(1+1))
         case measure=>omega
         case rel=>exact⟨1+1,m,ks,by omega,by omega,by go_num,by rw[hst3],by assumption,by assumption,by rw[hst3];exact A⟩
      ·rw[decide_eq_false hh] at hE
       have hst2:stq S H c bb k (1+1)=stq S H c bb k 1:=by rw[hst,jdn,if_neg fun h=>hh (by exact h.1)]
       go_wp2
       refine wp_region_held_drew (S:=fun w'=>w'.cell? ⟨w.heap.size,1,none⟩=some (.int .u64 c)∧w'.cell? ⟨w.heap.size,2,none⟩=some (.int .u64 bb)∧w'.cell? ⟨W1.heap.size,0,none⟩=some (.slice (some ⟨sb,so,none⟩) S.length sc)∧w'.cell? ⟨W1.heap.size,1,none⟩=some (.slice ao H.length hcap)∧w'.cell? ⟨sb,so+k*2,none⟩=some (.int .i64 x1)∧w'.cell? ⟨sb,so+k*2+1,none⟩=some (.int .i64 x2)∧On W hb ho hcap ao H w' hv m ks∧w'.tape=W.tape) (by kernel_rfl) (K.enD hik hon htp) (fun hHeld=>?_)
       refine wpAnyH_take (i:=0) (oi:=⟨some 23,_,_,_,_,none⟩) (v:=?_) rfl (by kernel_rfl) (by kernel_rfl) (by kernel_rfl) (fun _ _ _ h=>h) (Or.inl ⟨by rfl,?_⟩) (by assumption) ?_
       rotate_left
       ·intro w hSw;(try dsimp only at hSw);go_simp;try with_reducible rfl
       try simp only[Act.put,List.setIfInBounds_toArray,List.set_cons_zero,List.set_cons_succ]
       refine wpAnyH_take (i:=1) (oi:=⟨some 24,_,_,_,_,none⟩) (v:=?_) rfl (by kernel_rfl) (by kernel_rfl) (by kernel_rfl) (fun _ _ _ h=>h) (Or.inl ⟨by rfl,?_⟩) (by assumption) ?_
       rotate_left
       ·intro w hSw;(try dsimp only at hSw);go_simp;try with_reducible rfl
       try simp only[Act.put,List.setIfInBounds_toArray,List.set_cons_zero,List.set_cons_succ]
       refine wpAnyH_take (i:=2) (oi:=⟨some 25,_,_,_,_,none⟩) (v:=?_) rfl (by kernel_rfl) (by kernel_rfl) (by kernel_rfl) (fun _ _ _ h=>h) (Or.inl ⟨by rfl,?_⟩) (by assumption) ?_
       rotate_left
       ·intro w hSw;(try dsimp only at hSw);go_simp;try with_reducible rfl
       try simp only[Act.put,List.setIfInBounds_toArray,List.set_cons_zero,List.set_cons_succ]
       refine wpAnyH_take (i:=3) (oi:=⟨some 26,_,_,_,_,none⟩) (v:=?_) rfl (by kernel_rfl) (by kernel_rfl) (by kernel_rfl) (fun _ _ _ h=>h) (Or.inl ⟨by rfl,?_⟩) (by assumption) ?_
       rotate_left
       ·intro w hSw;(try dsimp only at hSw);go_simp;try with_reducible rfl
       try simp only[Act.put,List.setIfInBounds_toArray,List.set_cons_zero,List.set_cons_succ]
       refine wpAnyH_take (i:=4) (oi:=⟨some 27,_,_,_,_,none⟩) (v:=?_) rfl (by kernel_rfl) (by kernel_rfl) (by kernel_rfl) (fun _ _ _ h=>h) (Or.inl ⟨by rfl,?_⟩) (by assumption) ?_
       rotate_left
       ·intro w hSw;(try dsimp only at hSw);go_simp;try with_reducible rfl
       try simp only[Act.put,List.setIfInBounds_toArray,List.set_cons_zero,List.set_cons_succ]
       refine wpAnyH_take (i:=5) (oi:=⟨some 28,_,_,_,_,none⟩) (v:=?_) rfl (by kernel_rfl) (by kernel_rfl) (by kernel_rfl) (fun _ _ _ h=>h) (Or.inl ⟨by rfl,?_⟩) (by assumption) ?_
       rotate_left
       ·intro w hSw;(try dsimp only at hSw);go_simp;try with_reducible rfl
       try simp only[Act.put,List.setIfInBounds_toArray,List.set_cons_zero,List.set_cons_succ]
       refine wpAnyH_take (i:=6) (oi:=⟨some 29,_,_,_,_,none⟩) (v:=?_) rfl (by kernel_rfl) (by kernel_rfl) (by kernel_rfl) (fun _ _ _ h=>h) (Or.inl ⟨by rfl,?_⟩) (by assumption) ?_
       rotate_left
       ·intro w hSw;(try dsimp only at hSw);go_simp;try with_reducible rfl
       try simp only[Act.put,List.setIfInBounds_toArray,List.set_cons_zero,List.set_cons_succ]
       refine wpAnyH_take (i:=7) (oi:=⟨some 30,_,_,_,_,none⟩) (v:=?_) rfl (by kernel_rfl) (by kernel_rfl) (by kernel_rfl) (fun _ _ _ h=>h) (Or.inl ⟨by rfl,?_⟩) (by assumption) ?_
       rotate_left
       ·intro w hSw;(try dsimp only at hSw);go_simp;try with_reducible rfl
       try simp only[Act.put,List.setIfInBounds_toArray,List.set_cons_zero,List.set_cons_succ]
       refine wpAnyH_ready (rs:=[8]) (by kernel_rfl) (by simp) ?_
       refine AllReadyH.cons (o:=⟨some 31,_,_,_,_,none⟩) rfl (fun K2 hK2=>?_) AllReadyH.nil
       go_simp
       (go_at_call 26;refine(kjd x1 x2 hy _).mono ?_;rintro e w' ⟨rfl,hB2⟩)
       go_wp2_with fail
       refine hK2.out _ _ ?_ (fun hHeld=>?_)
       ·go_split_ands;exact K.enB hik (by assumption) (by assumption) (by assumption)
       clear hK2 K2
       try simp only[Act.put,List.setIfInBounds_toArray,List.set_cons_zero,List.set_cons_succ]
       refine wpAnyH_ready (rs:=[9]) (by kernel_rfl) (by simp) ?_
       refine AllReadyH.cons (o:=⟨some 32,_,_,_,_,none⟩) rfl (fun K2 hK2=>?_) AllReadyH.nil
       go_simp
       (go_at_call 25;go_split_ands;refine(hE (by assumption)).mono ?_;rintro e w' ⟨rfl,hB2⟩)
       go_wp2_with fail
       refine hK2.out _ _ ?_ (fun hHeld=>?_)
       ·go_split_ands;exact K.enB hik (by assumption) (by assumption) (by assumption)
       clear hK2 K2
       try simp only[Act.put,List.setIfInBounds_toArray,List.set_cons_zero,List.set_cons_succ]
       refine wpAnyH_take (i:=10) (oi:=⟨some 33,_,_,_,_,none⟩) (v:=?_) rfl (by kernel_rfl) (by kernel_rfl) (by kernel_rfl) (fun _ _ _ h=>h) (Or.inl ⟨by rfl,?_⟩) (by assumption) ?_
       rotate_left
       ·intro w hSw;(try dsimp only at hSw);go_simp;try with_reducible rfl
       try simp only[Act.put,List.setIfInBounds_toArray,List.set_cons_zero,List.set_cons_succ]
       refine wpAnyH_take (i:=11) (oi:=⟨some 34,_,_,_,_,none⟩) (v:=?_) rfl (by kernel_rfl) (by kernel_rfl) (by kernel_rfl) (fun _ _ _ h=>h) (Or.inl ⟨by rfl,?_⟩) (by assumption) ?_
       rotate_left
       ·intro w hSw;(try dsimp only at hSw);go_simp;try with_reducible rfl
       try simp only[Act.put,List.setIfInBounds_toArray,List.set_cons_zero,List.set_cons_succ]
       refine wpAnyH_take (listed:=#[true,true,true,true,true,true,true,true,true,true,true,true,false,false,false,false,false,false,false,false,false,false,false]) (i:=12) (oi:=⟨some 35,_,_,_,_,some (11,false)⟩) (v:=undef) rfl (by kernel_rfl) (by kernel_rfl) (by kernel_rfl) (fun _ _ _ h=>h) (Or.inr ⟨by rfl,rfl⟩) (by assumption) ?_
       try simp only[Act.put,List.setIfInBounds_toArray,List.set_cons_zero,List.set_cons_succ]
       refine wpAnyH_take (listed:=#[true,true,true,true,true,true,true,true,true,true,true,true,true,false,false,false,false,false,false,false,false,false,false]) (i:=13) (oi:=⟨some 36,_,_,_,_,some (11,false)⟩) (v:=undef) rfl (by kernel_rfl) (by kernel_rfl) (by kernel_rfl) (fun _ _ _ h=>h) (Or.inr ⟨by rfl,rfl⟩) (by assumption) ?_
       try simp only[Act.put,List.setIfInBounds_toArray,List.set_cons_zero,List.set_cons_succ]
       refine wpAnyH_take (listed:=#[true,true,true,true,true,true,true,true,true,true,true,true,true,true,false,false,false,false,false,false,false,false,false]) (i:=14) (oi:=⟨some 37,_,_,_,_,some (11,false)⟩) (v:=undef) rfl (by kernel_rfl) (by kernel_rfl) (by kernel_rfl) (fun _ _ _ h=>h) (Or.inr ⟨by rfl,rfl⟩) (by assumption) ?_
       try simp only[Act.put,List.setIfInBounds_toArray,List.set_cons_zero,List.set_cons_succ]
       refine wpAnyH_take (listed:=#[true,true,true,true,true,true,true,true,true,true,true,true,true,true,true,false,false,false,false,false,false,false,false]) (i:=15) (oi:=⟨some 38,_,_,_,_,some (11,false)⟩) (v:=undef) rfl (by kernel_rfl) (by kernel_rfl) (by kernel_rfl) (fun _ _ _ h=>h) (Or.inr ⟨by rfl,rfl⟩) (by assumption) ?_
       try simp only[Act.put,List.setIfInBounds_toArray,List.set_cons_zero,List.set_cons_succ]
       refine wpAnyH_take (listed:=#[true,true,true,true,true,true,true,true,true,true,true,true,true,true,true,true,false,false,false,false,false,false,false]) (i:=16) (oi:=⟨some 39,_,_,_,_,some (11,false)⟩) (v:=undef) rfl (by kernel_rfl) (by kernel_rfl) (by kernel_rfl) (fun _ _ _ h=>h) (Or.inr ⟨by rfl,rfl⟩) (by assumption) ?_
       try simp only[Act.put,List.setIfInBounds_toArray,List.set_cons_zero,List.set_cons_succ]
       refine wpAnyH_take (listed:=#[true,true,true,true,true,true,true,true,true,true,true,true,true,true,true,true,true,false,false,false,false,false,false]) (i:=17) (oi:=⟨some 40,_,_,_,_,some (11,false)⟩) (v:=undef) rfl (by kernel_rfl) (by kernel_rfl) (by kernel_rfl) (fun _ _ _ h=>h) (Or.inr ⟨by rfl,rfl⟩) (by assumption) ?_
       try simp only[Act.put,List.setIfInBounds_toArray,List.set_cons_zero,List.set_cons_succ]
       refine wpAnyH_take (listed:=#[true,true,true,true,true,true,true,true,true,true,true,true,true,true,true,true,true,true,false,false,false,false,false]) (i:=18) (oi:=⟨some 41,_,_,_,_,some (11,false)⟩) (v:=undef) rfl (by kernel_rfl) (by kernel_rfl) (by kernel_rfl) (fun _ _ _ h=>h) (Or.inr ⟨by rfl,rfl⟩) (by assumption) ?_
       try simp only[Act.put,List.setIfInBounds_toArray,List.set_cons_zero,List.set_cons_succ]
       refine wpAnyH_take (listed:=#[true,true,true,true,true,true,true,true,true,true,true,true,true,true,true,true,true,true,true,false,false,false,false]) (i:=19) (oi:=⟨some 42,_,_,_,_,some (11,false)⟩) (v:=undef) rfl (by kernel_rfl) (by kernel_rfl) (by kernel_rfl) (fun _ _ _ h=>h) (Or.inr ⟨by rfl,rfl⟩) (by assumption) ?_
       try simp only[Act.put,List.setIfInBounds_toArray,List.set_cons_zero,List.set_cons_succ]
       refine wpAnyH_take (listed:=#[true,true,true,true,true,true,true,true,true,true,true,true,true,true,true,true,true,true,true,true,false,false,false]) (i:=20) (oi:=⟨some 43,_,_,_,_,some (11,false)⟩) (v:=undef) rfl (by kernel_rfl) (by kernel_rfl) (by kernel_rfl) (fun _ _ _ h=>h) (Or.inr ⟨by rfl,rfl⟩) (by assumption) ?_
       try simp only[Act.put,List.setIfInBounds_toArray,List.set_cons_zero,List.set_cons_succ]
       refine wpAnyH_take (listed:=#[true,true,true,true,true,true,true,true,true,true,true,true,true,true,true,true,true,true,true,true,true,false,false]) (i:=21) (oi:=⟨some 44,_,_,_,_,some (11,false)⟩) (v:=undef) rfl (by kernel_rfl) (by kernel_rfl) (by kernel_rfl) (fun _ _ _ h=>h) (Or.inr ⟨by rfl,rfl⟩) (by assumption) ?_
       try simp only[Act.put,List.setIfInBounds_toArray,List.set_cons_zero,List.set_cons_succ]
       refine wpAnyH_take (i:=22) (oi:=⟨some 45,_,_,_,_,none⟩) (v:=?_) rfl (by kernel_rfl) (by kernel_rfl) (by kernel_rfl) (fun _ _ _ h=>h) (Or.inl ⟨by rfl,?_⟩) (by assumption) ?_
       rotate_left
       ·intro w hSw;(try dsimp only at hSw);go_simp;try with_reducible rfl
       try simp only[Act.put,List.setIfInBounds_toArray,List.set_cons_zero,List.set_cons_succ]
       refine wpAnyH_done (by kernel_rfl) ?_ _
       go_wp2
       go_split_ands
       go_roundg (2-(1+1))
       case measure=>omega
       case rel=>exact⟨1+1,m,ks,by omega,by omega,by go_num,by rw[hst2,hn0],by assumption,by assumption,by rw[hst2];exact A⟩
    ·obtain rfl:q=2:=by omega
     have h2:=kbn (S:=S) (H:=H) (c:=c) (bb:=bb) hlt
     rw[h2] at A ⊢
     go_wp2
     go_roundg (S.length-(k+1))
     case measure=>omega
     case rel=>exact⟨k+1,m,ks,by omega,by omega,by go_num,rfl,hon,htp,A⟩
  ·obtain rfl:k=S.length:=by omega
   have hks:jti H++ks=jti (ofL S H c bb):=by rw[←kbo];exact A.out
   have hlast:=hfin wr.drew W1.heap.size _ m ks rfl (Onto.drew hon K.came) (htp.trans hWt) hks
   obtain⟨z1,z2⟩:=zw 0 (by omega)
   obtain⟨z3,z4⟩:=zw 1 (by omega)
   have hbt:0<hcap→w.heap.size+1≠hb:=fun h e=>by have:=hfresh h;omega
   have q1:=K.old hon z1 hbt
   have q3:=K.old hon z3 hbt
   have q2:=(hon.frozen _ (World.block_lt_of_cell? _ _ z1)).trans z2
   have q4:=(hon.frozen _ (World.block_lt_of_cell? _ _ z3)).trans z4
   have q0:=K.old hon K.n0 K.nb
   have hne:W1.heap.size≠w.heap.size+1:=by omega
   have keepS:∀(u:World) (v1 v2:Value),u.cell? ⟨W1.heap.size,0,none⟩=some (.slice (some ⟨sb,so,none⟩) S.length sc)→((u.setCell ⟨w.heap.size+1,0,none⟩ v1).setCell ⟨w.heap.size+1,1,none⟩ v2).cell? ⟨W1.heap.size,0,none⟩=some (.slice (some ⟨sb,so,none⟩) S.length sc):=fun u v1 v2 h=>by
    rw[World.cell?_setCell_other (h:=fun e=>hne (congrArg Addr.block e).symm),World.cell?_setCell_other (h:=fun e=>hne (congrArg Addr.block e).symm)]
    exact h
   clear z1 z2 z3 z4 zw hfin
   go_wp2
   go_region_held3 (fun w'=>w'.cell? ⟨W1.heap.size,0,none⟩=some (.slice (some ⟨sb,so,none⟩) S.length sc)) (first | go_keep | (go_split_ands;exact jcf hB2 (by assumption)) | (go_split_ands;exact keepS _ _ _ (by assumption)) | exact keepS _ _ _ (by assumption))
    ((go_at_call 28;refine hlast.mono ?_;rintro e w3 ⟨qa,qn,qc,rfl,hB2,hR⟩;have p1:=jcf hB2 (w:=wr.drew) q1;have p2:=jyx hB2 (w:=wr.drew) q1 q2;have p3:=jcf hB2 (w:=wr.drew) q3;have p4:=jyx hB2 (w:=wr.drew) q3 q4))
   go_wp2
   have ne01:(⟨w.heap.size+1,0,none⟩:Addr)≠⟨w.heap.size+1,1,none⟩:=fun e=>by cases e
   have r0:((w3.setCell ⟨w.heap.size+1,0,none⟩ (.slice (some ⟨sb,so,none⟩) S.length sc)).setCell ⟨w.heap.size+1,1,none⟩ (.slice qa qn qc)).cell? ⟨w.heap.size+1,0,none⟩=some (.slice (some ⟨sb,so,none⟩) S.length sc):=by
    rw[World.cell?_setCell_other (h:=fun e=>ne01 e.symm)]
    exact World.cell?_setCell_same' _ _ _ (by rw[p1];rfl)
   have r1:((w3.setCell ⟨w.heap.size+1,0,none⟩ (.slice (some ⟨sb,so,none⟩) S.length sc)).setCell ⟨w.heap.size+1,1,none⟩ (.slice qa qn qc)).cell? ⟨w.heap.size+1,1,none⟩=some (.slice qa qn qc):=
    World.cell?_setCell_same' _ _ _ (by rw[World.cell?_setCell_other (h:=ne01),p3];rfl)
   (try simp only[Exit.inBlock,Exit.then])
   refine bodyPost_ret (v:=.agg #[.slice (some ⟨sb,so,none⟩) S.length sc,.slice qa qn qc]) (by simp[results,Tryz.results6,go_sem,r0,r1];try rfl) rfl ?_
   refine hR _ rfl rfl rfl (by simp[World.setCell]) fun x hx hxb=>?_
   rw[Go.RowKit.Below.heap_setCell _ _ _ x hxb,Go.RowKit.Below.heap_setCell _ _ _ x hxb]
end N38
end Go.Proofs
