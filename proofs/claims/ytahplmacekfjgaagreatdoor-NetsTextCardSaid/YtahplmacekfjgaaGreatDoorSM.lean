/-
  strings.SplitAfter.
  DERIVED: THE SHELF's CONTRACTS AT THIS DUMP, IN PLAIN WORDS (tools/lay-plain.mjs out of 'TryzShelf.lean', which tools/lay-shelf.mjs wrote): THE SAME DECLARATIONS UNDER THE SAME NAMES: 'import', 'namespace', 'open', 'def', 'theorem' AND NOTHING ELSE: no command of the shelf's: FOR A HAND-IN. Each laying: the table of numbers ('.._ren') and one theorem, a field a fact of the dump's own or the kernel's comparison; each contract: ONE APPLICATION.
  Nets: the jkm functions of the chapter.
-/
import Derived.Shelf.Strconv.ErrVarAll
import Derived.Shelf.Strconv.ParseUint10At
import Derived.Shelf.Strings.BuilderCap
import Derived.Test.YtahplmacekfjgaaGreatDoorVmP
import Derived.Test.YtahplmacekfjgaaGreatDoorVmWU
import Derived.Test.YtahplmacekfjgaaGreatDoorTt
import Derived.Test.YtahplmacekfjgaaGreatDoorTy
import Derived.Shelf.SlSortCmp.NoneTotal
set_option linter.unusedSimpArgs false
set_option linter.unusedVariables false
set_option linter.unusedSectionVars false
set_option linter.unnecessarySimpa false
namespace Go.Proofs
open Go.RowKit Go.Shelf Go.Lib
namespace N38
set_option maxHeartbeats 1000000 in
theorem splitAfter (s sep:ByteArray) (m:Int) (w:World) (hs:s.size<4294967281) (hm:w.cell? ⟨3,0,none⟩=some (.int .i64 m)) (h1:1≤sep.size):
  Calls Tryz.prog 54 #[.string s,.string sep] w fun e w'=>e=.returned (.slice (some ⟨w.heap.size,0,none⟩) (Lib.countB s sep+1) (Lib.countB s sep+1))∧w'=w.alloc (.cells ((Lib.splitB sep sep.size (Lib.countB s sep) s).map Value.string).toArray 9):=by
 have mixed:=Tryz.lays146.mixed
 have hl:(Lib.splitB sep sep.size (Lib.countB s sep) s).length=Lib.countB s sep+1:=Lib.splitB_all sep h1 sep.size _ s rfl
 have hc:=Lib.countB_le sep h1 s.size s (Nat.le_refl _)
 have key:=Tryz.strings_genSplit s sep sep.size (-1) (Lib.countB s sep+1) m w hs hm h1 (Nat.le_refl _) (by decide) (by decide) (by rw[if_pos (by decide)];omega)
 go_enter Tryz.func54,Tryz.ntmps54
 go_wp2_with (go_at_call 79;refine key.mono ?_;rintro e w' ⟨rfl,rfl⟩)
 go_ret
 refine⟨rfl,?_⟩
 congr 2
 unfold Lib.cellsOf
 rw[hl,Nat.sub_self,List.replicate_zero,List.append_nil]
end N38
end Go.Proofs
namespace Go.Proofs
open Go.Shelf
def Tryz.laysC172_ren:Go.Shelf.Ren:=⟨fun | 172=>57 | 244=>81 | 245=>82 | 247=>108 | 279=>109 | 280=>110 | 281=>111 | 282=>112 | 287=>141 | 316=>142 | 171=>21 | 205=>143 | 321=>159 | 322=>160 | 243=>53 | 246=>78 | 283=>100 | 284=>101 | 285=>102 | 286=>103 | 129=>123 | 317=>133 | 318=>134 | 319=>135 | 320=>136 | 337=>152 | 338=>153 | n=>n,fun | 9=>9 | 3=>3 | 75=>84 | 76=>85 | 4=>4 | 5=>5 | 167=>145 | 37=>79 | 0=>0 | 85=>146 | 2=>2 | 168=>148 | 53=>23 | 175=>175 | 46=>130 | 210=>179 | 127=>111 | 145=>193 | 143=>191 | 21=>21 | 171=>137 | 173=>140 | 212=>169 | 51=>160 | 20=>20 | 213=>170 | 232=>198 | 233=>199 | 80=>90 | n=>n,fun | 15=>1 | 16=>2 | 17=>0 | 18=>4 | 19=>5 | n=>n⟩
theorem Tryz.laysC172:Go.Proofs.LaysC.n172 Tryz.prog Tryz.laysC172_ren:={
 mixed:=by kernel_rfl
 f129:=Tryz.func123.trans (congrArg some (by kernel_rfl))
 f171:=Tryz.func21.trans (congrArg some (by kernel_rfl))
 f172:=Tryz.func57.trans (congrArg some (by kernel_rfl))
 f205:=Tryz.func143.trans (congrArg some (by kernel_rfl))
 f243:=Tryz.func53.trans (congrArg some (by kernel_rfl))
 f244:=Tryz.func81.trans (congrArg some (by kernel_rfl))
 f245:=Tryz.func82.trans (congrArg some (by kernel_rfl))
 f246:=Tryz.func78.trans (congrArg some (by kernel_rfl))
 f247:=Tryz.func108.trans (congrArg some (by kernel_rfl))
 f279:=Tryz.func109.trans (congrArg some (by kernel_rfl))
 f280:=Tryz.func110.trans (congrArg some (by kernel_rfl))
 f281:=Tryz.func111.trans (congrArg some (by kernel_rfl))
 f282:=Tryz.func112.trans (congrArg some (by kernel_rfl))
 f283:=Tryz.func100.trans (congrArg some (by kernel_rfl))
 f284:=Tryz.func101.trans (congrArg some (by kernel_rfl))
 f285:=Tryz.func102.trans (congrArg some (by kernel_rfl))
 f286:=Tryz.func103.trans (congrArg some (by kernel_rfl))
 f287:=Tryz.func141.trans (congrArg some (by kernel_rfl))
 f316:=Tryz.func142.trans (congrArg some (by kernel_rfl))
 f317:=Tryz.func133.trans (congrArg some (by kernel_rfl))
 f318:=Tryz.func134.trans (congrArg some (by kernel_rfl))
 f319:=Tryz.func135.trans (congrArg some (by kernel_rfl))
 f320:=Tryz.func136.trans (congrArg some (by kernel_rfl))
 f321:=Tryz.func159.trans (congrArg some (by kernel_rfl))
 f322:=Tryz.func160.trans (congrArg some (by kernel_rfl))
 f337:=Tryz.func152.trans (congrArg some (by kernel_rfl))
 f338:=Tryz.func153.trans (congrArg some (by kernel_rfl))
 t0:=Tryz.underlying0
 a0:=Tryz.isAgg0
 z0:=Tryz.sizeOf0
 v0:=Tryz.zeroValue0
 t2:=Tryz.underlying2
 a2:=Tryz.isAgg2
 z2:=Tryz.sizeOf2
 v2:=Tryz.zeroValue2
 t3:=Tryz.underlying3
 a3:=Tryz.isAgg3
 z3:=Tryz.sizeOf3
 v3:=Tryz.zeroValue3
 t4:=Tryz.underlying4
 a4:=Tryz.isAgg4
 z4:=Tryz.sizeOf4
 v4:=Tryz.zeroValue4
 t5:=Tryz.underlying5
 a5:=Tryz.isAgg5
 z5:=Tryz.sizeOf5
 v5:=Tryz.zeroValue5
 t9:=Tryz.underlying9
 a9:=Tryz.isAgg9
 z9:=Tryz.sizeOf9
 v9:=Tryz.zeroValue9
 t20:=Tryz.underlying20
 a20:=Tryz.isAgg20
 z20:=Tryz.sizeOf20
 v20:=Tryz.zeroValue20
 t21:=Tryz.underlying21
 a21:=Tryz.isAgg21
 z21:=Tryz.sizeOf21
 v21:=Tryz.zeroValue21
 t37:=Tryz.underlying79
 a37:=Tryz.isAgg79
 z37:=Tryz.sizeOf79
 v37:=Tryz.zeroValue79
 t46:=Tryz.underlying130
 a46:=Tryz.isAgg130
 z46:=Tryz.sizeOf130
 v46:=Tryz.zeroValue130
 t51:=Tryz.underlying160
 a51:=Tryz.isAgg160
 z51:=Tryz.sizeOf160
 v51:=Tryz.zeroValue160
 t53:=Tryz.underlying23
 a53:=Tryz.isAgg23
 z53:=Tryz.sizeOf23
 v53:=Tryz.zeroValue23
 t75:=Tryz.underlying84
 a75:=Tryz.isAgg84
 z75:=Tryz.sizeOf84
 v75:=Tryz.zeroValue84
 t76:=Tryz.underlying85
 a76:=Tryz.isAgg85
 z76:=Tryz.sizeOf85
 v76:=Tryz.zeroValue85
 t85:=Tryz.underlying146
 a85:=Tryz.isAgg146
 z85:=Tryz.sizeOf146
 v85:=Tryz.zeroValue146
 t127:=Tryz.underlying111
 a127:=Tryz.isAgg111
 z127:=Tryz.sizeOf111
 v127:=Tryz.zeroValue111
 t143:=Tryz.underlying191
 a143:=Tryz.isAgg191
 z143:=Tryz.sizeOf191
 v143:=Tryz.zeroValue191
 t145:=Tryz.underlying193
 a145:=Tryz.isAgg193
 z145:=Tryz.sizeOf193
 v145:=Tryz.zeroValue193
 t167:=Tryz.underlying145
 a167:=Tryz.isAgg145
 z167:=Tryz.sizeOf145
 v167:=Tryz.zeroValue145
 t168:=Tryz.underlying148
 a168:=Tryz.isAgg148
 z168:=Tryz.sizeOf148
 v168:=Tryz.zeroValue148
 t171:=Tryz.underlying137
 a171:=Tryz.isAgg137
 z171:=Tryz.sizeOf137
 v171:=Tryz.zeroValue137
 t173:=Tryz.underlying140
 a173:=Tryz.isAgg140
 z173:=Tryz.sizeOf140
 v173:=Tryz.zeroValue140
 t175:=Tryz.underlying175
 a175:=Tryz.isAgg175
 z175:=Tryz.sizeOf175
 v175:=Tryz.zeroValue175
 t210:=Tryz.underlying179
 a210:=Tryz.isAgg179
 z210:=Tryz.sizeOf179
 v210:=Tryz.zeroValue179
 t212:=Tryz.underlying169
 a212:=Tryz.isAgg169
 z212:=Tryz.sizeOf169
 v212:=Tryz.zeroValue169
 t213:=Tryz.underlying170
 a213:=Tryz.isAgg170
 z213:=Tryz.sizeOf170
 t232:=Tryz.underlying198
 a232:=Tryz.isAgg198
 z232:=Tryz.sizeOf198
 v232:=Tryz.zeroValue198
 t233:=Tryz.underlying199
 a233:=Tryz.isAgg199
 z233:=Tryz.sizeOf199
 v233:=Tryz.zeroValue199
 g15:=by kernel_rfl
 g16:=by kernel_rfl
 g17:=by kernel_rfl
 g18:=by kernel_rfl
 g19:=by kernel_rfl
 t80:=Tryz.underlying90
 a80:=Tryz.isAgg90
 z80:=Tryz.sizeOf90
 v80:=Tryz.zeroValue90
 i0:=by kernel_rfl
 i2:=by kernel_rfl
 i3:=by kernel_rfl
 i4:=by kernel_rfl
 i5:=by kernel_rfl
 i9:=by kernel_rfl
 i20:=by kernel_rfl
 i21:=by kernel_rfl
 i37:=by kernel_rfl
 i46:=by kernel_rfl
 i51:=by kernel_rfl
 i53:=by kernel_rfl
 i75:=by kernel_rfl
 i76:=by kernel_rfl
 i80:=by kernel_rfl
 i85:=by kernel_rfl
 i127:=by kernel_rfl
 i143:=by kernel_rfl
 i145:=by kernel_rfl
 i167:=by kernel_rfl
 i168:=by kernel_rfl
 i171:=by kernel_rfl
 i173:=by kernel_rfl
 i175:=by kernel_rfl
 i210:=by kernel_rfl
 i212:=by kernel_rfl
 i232:=by kernel_rfl
 i233:=by kernel_rfl
 m15:=by kernel_rfl
 m16:=by kernel_rfl
 m17:=by kernel_rfl
 m18:=by kernel_rfl
 m19:=by kernel_rfl
 c0:=by kernel_rfl
 c2:=by kernel_rfl
 c3:=by kernel_rfl
 c4:=by kernel_rfl
 c5:=by kernel_rfl
 c9:=by kernel_rfl
 c20:=by kernel_rfl
 c21:=by kernel_rfl
 c37:=by kernel_rfl
 c46:=by kernel_rfl
 c51:=by kernel_rfl
 c53:=by kernel_rfl
 c75:=by kernel_rfl
 c76:=by kernel_rfl
 c80:=by kernel_rfl
 c85:=by kernel_rfl
 c127:=by kernel_rfl
 c143:=by kernel_rfl
 c145:=by kernel_rfl
 c167:=by kernel_rfl
 c168:=by kernel_rfl
 c171:=by kernel_rfl
 c173:=by kernel_rfl
 c175:=by kernel_rfl
 c210:=by kernel_rfl
 c212:=by kernel_rfl
 c213:=by kernel_rfl
 c232:=by kernel_rfl
 c233:=by kernel_rfl }
open Go.RowKit in
theorem Tryz.strconv_Atoi_ok (s:ByteArray) (hmax:s.size≤9223372036854775806) (v:Int) (h:Lib.atoiAll s.data.toList=.ok v) (w:World):
 Calls Tryz.prog 57 #[.string s] w fun e w'=>e=.returned (.tuple #[.int .i64 v,.nilIface])∧(w'=w∨∃t,w'=Lib.bytesWorld w 5 t):=Any.strconv_Atoi_ok Tryz.laysC172 s hmax v h w
open Go.RowKit in
theorem Tryz.strconv_Atoi_syntax (s:ByteArray) (hlim:s.size≤281474976710656) (h:Lib.atoiAll s.data.toList=Lib.NumEnd.syntax) (ev:Value) (w:World) (hv:w.cell? ⟨1,0,none⟩=some ev) (hev:ev=.nilIface∨∃te pe,ev=.iface te pe):
 Calls Tryz.prog 57 #[.string s] w fun e w'=>∃N,e=.returned (.tuple #[.int .i64 (0),.iface 148 (.pointer (some ⟨N,0,none⟩))])∧w.heap.size≤N∧w'.heap[N]?=some (.cells #[.string ⟨#[65,116,111,105]⟩,.string s,ev] 179 (0,0))∧Below w.heap.size w w':=Any.strconv_Atoi_syntax Tryz.laysC172 s hlim h ev w hv hev
open Go.RowKit in
theorem Tryz.strconv_Atoi_range (s:ByteArray) (hlim:s.size≤281474976710656) (h:Lib.atoiAll s.data.toList=.range) (ev:Value) (w:World) (hv:w.cell? ⟨2,0,none⟩=some ev) (hev:ev=.nilIface∨∃te pe,ev=.iface te pe):
 Calls Tryz.prog 57 #[.string s] w fun e w'=>∃N,e=.returned (.tuple #[.int .i64 (Lib.atoiSat s.data.toList),.iface 148 (.pointer (some ⟨N,0,none⟩))])∧w.heap.size≤N∧w'.heap[N]?=some (.cells #[.string ⟨#[65,116,111,105]⟩,.string s,ev] 179 (0,0))∧Below w.heap.size w w':=Any.strconv_Atoi_range Tryz.laysC172 s hlim h ev w hv hev
end Go.Proofs
namespace Go.Proofs.YtahplmacekfjgaaGreatDoor
namespace Vm
open Go Go.Vm Go.Vm.W Go.Vm.X
set_option maxRecDepth 100000
attribute [local irreducible] W WO SpecQ jq3
theorem jha {m1 m2:jky} {f:FuncId} {az:List AV} {g:Tr Blk→Nat→Nat→Out} (h:m1 f az=some g):jh3 m1 m2 f az=some g:=by unfold jh3;rw[h]
theorem jau {m1 m2:jky} {f:FuncId} {az:List AV} {g:Tr Blk→Nat→Nat→Out} (h1:m1 f az=none) (h:m2 f az=some g):jh3 m1 m2 f az=some g:=by unfold jh3;rw[h1];exact h
theorem kel {B:Base}:jgm Tryz.prog gl B (kbj 123):=kbi ⟨Tryz.f123,Tryz.func123,by kernel_rfl,by kernel_rfl⟩ fun x w h0 h1=>Tryz.bits_Len64 x w h0 h1
theorem kek {B:Base}:jgm Tryz.prog gl B (kbh 133):=kbg ⟨Tryz.f133,Tryz.func133,by kernel_rfl,by kernel_rfl⟩ fun x h w=>Tryz.internal_strconv_log10Pow2 x h w
def mm0:jky:=jh3 (kbj 123) (kbh 133)
theorem j6m {B:Base}:jgm Tryz.prog gl B mm0:=jfd kel kek
noncomputable abbrev R0 (mx:Int) (n:Nat):=jq3 (BB mx) mm0 prog n
noncomputable def jkm (mx:Int):jky:=jh3 (tOf (R0 mx 7) 6 24 28) (jh3 (j3h (R0 mx 7) 8 16 21) (jh3 (job 2 (svK tSQ cfS okS) 72 31) (jh3 (job 4 (svK tHG cfH okH) 73 35) (jh3 (kbj 123) (jh3 (kbh 133) (jh3 (jzn 57 148) (jh3 (jt4 55) (jpj 54))))))))
theorem kfh (p:Option Addr) (c:Nat) (w:World):Calls Tryz.prog 72 #[.slice p 0 c,.func (.func 31) #[] #[]] w fun e w'=>e=.returned (.tuple #[])∧w'=w:=AnyF.slices_SortFunc_none (ρ:=Tryz.sortS_ren) { Tryz.sortS with } p c _ w
theorem kfg (p:Option Addr) (c:Nat) (w:World):Calls Tryz.prog 73 #[.slice p 0 c,.func (.func 35) #[] #[]] w fun e w'=>e=.returned (.tuple #[])∧w'=w:=AnyF.slices_SortFunc_none (ρ:=Tryz.sortH_ren) { Tryz.sortH with } p c _ w
theorem kjz:Go.Vm.W.RowK Tryz.prog 2 (svK tSQ cfS okS) 72 31:=j5v (ρ:=Tryz.sortS_ren) Tryz.sortS (t:=tSQ) rfl Tryz.isAgg35 Tryz.sizeOf35 kjy eqS (enters_of Tryz.func31 (by kernel_rfl) rfl) fun x y w=>N38.cmpS_walk x.1 x.2 y.1 y.2 w
theorem kj0:Go.Vm.W.RowK Tryz.prog 4 (svK tHG cfH okH) 73 35:=j5v (ρ:=Tryz.sortH_ren) Tryz.sortH (t:=tHG) rfl Tryz.isAgg39 Tryz.sizeOf39 kjp eqH (enters_of Tryz.func35 (by kernel_rfl) rfl) fun x y w=>N38.cmpH_walk x.1.1 x.1.2 x.2.1 x.2.2 y.1.1 y.1.2 y.2.1 y.2.2 w
theorem kip (it:Int→ByteArray) (S:List SqT) (H:List HgT):N38.txH it S H H.length=tlT it S H:=by unfold N38.txH;rw[List.take_length];rfl
theorem kbe (mx:Int):jgm Tryz.prog gl (BB mx) (jkm mx):=
 jfd (keh (xt:=25) (tN:=29) (tH:=39) (jr3 j6m mixed jvg 7).1 (jr3 j6m mixed jvg 7).2 ⟨Tryz.f6,Tryz.func6,by kernel_rfl,by kernel_rfl⟩ fun xv c bb S H R w h1 h2 h3 h4 h5 h6=>N38.of_walk w h1 h2 h3 h4 h5 h6)
 (jfd (j8k (jr3 j6m mixed jvg 7).1 ⟨Tryz.f8,Tryz.func8,by kernel_rfl,by kernel_rfl⟩
   (fun it S H sb so sc hb ho hc ao w h1 h2 h3 h4 h5 h6 h7 h8=>(N38.text_walk w h1 h2 h3 h4 h5 h6 h7 h8).mono fun e w' ⟨q1,q2⟩=>⟨by rw[q1,kip],q2⟩)
   fun sv hv c w hc h=>N38.text_walk0 sv hv c w hc h)
 (jfd (jw7 ⟨Tryz.f72,Tryz.func72,by kernel_rfl,by kernel_rfl⟩ kfh kjz)
   (jfd (jw7 ⟨Tryz.f73,Tryz.func73,by kernel_rfl,by kernel_rfl⟩ kfg kj0)
     (jfd kel (jfd kek
     (jfd (j8m ⟨Tryz.f57,Tryz.func57,by kernel_rfl,by kernel_rfl⟩ (gs:=1) (gr:=2) rfl rfl (by kernel_rfl) (by kernel_rfl) Tryz.strconv_Atoi_ok Tryz.strconv_Atoi_syntax Tryz.strconv_Atoi_range)
     (jfd (j5b ⟨Tryz.f55,Tryz.func55,by kernel_rfl,by kernel_rfl⟩ (g1:=3) rfl (by kernel_rfl) Tryz.strings_Split)
       (j3i ⟨Tryz.f54,Tryz.func54,by kernel_rfl,by kernel_rfl⟩ (g1:=3) rfl (by kernel_rfl) N38.splitAfter))))))))
end Vm
end Go.Proofs.YtahplmacekfjgaaGreatDoor
