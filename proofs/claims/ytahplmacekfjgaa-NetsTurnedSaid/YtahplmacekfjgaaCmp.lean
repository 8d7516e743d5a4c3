/-
  DERIVED: THE SHELF's CONTRACTS AT THIS DUMP, IN PLAIN WORDS (tools/lay-plain.mjs out of 'TryShelf.lean', which tools/lay-shelf.mjs wrote): THE SAME DECLARATIONS UNDER THE SAME NAMES: 'import', 'namespace', 'open', 'def', 'theorem' AND NOTHING ELSE: no command of the shelf's: FOR A HAND-IN. Each laying: the table of numbers ('.._ren') and one theorem, a field a fact of the dump's own or the kernel's comparison; each contract: ONE APPLICATION.
  Nets: the comparisons of squares and of hinges, walked.
  Nets: the comparison of hinges, walked.
-/
import Derived.Shelf.Small.Wraps
import Derived.Shelf.Slices.Turned
import Derived.Shelf.Slices.SearchI
import Derived.Test.YtahplmacekfjgaaWk
set_option linter.unusedSimpArgs false
set_option linter.unusedVariables false
set_option linter.unusedSectionVars false
set_option linter.unnecessarySimpa false
namespace Go.Proofs
open Go.Shelf
def Try.sortS_ren:Go.Shelf.Ren:=⟨fun | 6=>50 | 15=>69 | 14=>68 | 28=>83 | 29=>84 | 20=>75 | 21=>76 | 22=>77 | 23=>78 | 24=>79 | 25=>80 | 26=>81 | 27=>82 | 46=>94 | 47=>95 | 48=>96 | 49=>97 | 50=>98 | 57=>102 | n=>n,fun | 22=>26 | 24=>47 | 25=>89 | 3=>3 | 39=>105 | 0=>0 | 53=>121 | 55=>23 | 4=>4 | 46=>115 | 45=>114 | 50=>87 | 5=>5 | 9=>9 | 66=>129 | 70=>133 | 76=>137 | 77=>138 | n=>n,fun | n=>n⟩
theorem Try.sortS:Go.Proofs.SlLaysF0.n6 Try.prog Try.sortS_ren:={
 mixed:=by kernel_rfl
 f6:=⟨Try.f50.name,by decide,Try.func50.trans (congrArg some (by kernel_rfl))⟩
 f14:=⟨Try.f68.name,by decide,Try.func68.trans (congrArg some (by kernel_rfl))⟩
 f15:=Try.func69.trans (congrArg some (by kernel_rfl))
 f20:=⟨Try.f75.name,by decide,Try.func75.trans (congrArg some (by kernel_rfl))⟩
 f21:=⟨Try.f76.name,by decide,Try.func76.trans (congrArg some (by kernel_rfl))⟩
 f22:=⟨Try.f77.name,by decide,Try.func77.trans (congrArg some (by kernel_rfl))⟩
 f23:=⟨Try.f78.name,by decide,Try.func78.trans (congrArg some (by kernel_rfl))⟩
 f24:=⟨Try.f79.name,by decide,Try.func79.trans (congrArg some (by kernel_rfl))⟩
 f25:=⟨Try.f80.name,by decide,Try.func80.trans (congrArg some (by kernel_rfl))⟩
 f26:=⟨Try.f81.name,by decide,Try.func81.trans (congrArg some (by kernel_rfl))⟩
 f27:=⟨Try.f82.name,by decide,Try.func82.trans (congrArg some (by kernel_rfl))⟩
 f28:=Try.func83.trans (congrArg some (by kernel_rfl))
 f29:=Try.func84.trans (congrArg some (by kernel_rfl))
 f46:=⟨Try.f94.name,by decide,Try.func94.trans (congrArg some (by kernel_rfl))⟩
 f47:=Try.func95.trans (congrArg some (by kernel_rfl))
 f48:=Try.func96.trans (congrArg some (by kernel_rfl))
 f49:=⟨Try.f97.name,by decide,Try.func97.trans (congrArg some (by kernel_rfl))⟩
 f50:=⟨Try.f98.name,by decide,Try.func98.trans (congrArg some (by kernel_rfl))⟩
 f57:=⟨Try.f102.name,by decide,Try.func102.trans (congrArg some (by kernel_rfl))⟩
 t0:=Try.underlying0
 a0:=Try.isAgg0
 z0:=Try.sizeOf0
 v0:=Try.zeroValue0
 t3:=Try.underlying3
 a3:=Try.isAgg3
 z3:=Try.sizeOf3
 v3:=Try.zeroValue3
 t4:=Try.underlying4
 a4:=Try.isAgg4
 z4:=Try.sizeOf4
 v4:=Try.zeroValue4
 t5:=Try.underlying5
 a5:=Try.isAgg5
 z5:=Try.sizeOf5
 v5:=Try.zeroValue5
 t9:=Try.underlying9
 a9:=Try.isAgg9
 z9:=Try.sizeOf9
 v9:=Try.zeroValue9
 t22:=Try.underlying26
 a22:=Try.isAgg26
 z22:=Try.sizeOf26
 v22:=Try.zeroValue26
 t25:=Try.underlying89
 a25:=Try.isAgg89
 z25:=Try.sizeOf89
 v25:=Try.zeroValue89
 t39:=Try.underlying105
 a39:=Try.isAgg105
 z39:=Try.sizeOf105
 v39:=Try.zeroValue105
 t45:=Try.underlying114
 a45:=Try.isAgg114
 z45:=Try.sizeOf114
 v45:=Try.zeroValue114
 t46:=Try.underlying115
 a46:=Try.isAgg115
 z46:=Try.sizeOf115
 v46:=Try.zeroValue115
 t50:=Try.underlying87
 a50:=Try.isAgg87
 z50:=Try.sizeOf87
 v50:=Try.zeroValue87
 t53:=Try.underlying121
 a53:=Try.isAgg121
 z53:=Try.sizeOf121
 v53:=Try.zeroValue121
 t55:=Try.underlying23
 a55:=Try.isAgg23
 z55:=Try.sizeOf23
 v55:=Try.zeroValue23
 t66:=Try.underlying129
 a66:=Try.isAgg129
 z66:=Try.sizeOf129
 v66:=Try.zeroValue129
 t70:=Try.underlying133
 a70:=Try.isAgg133
 z70:=Try.sizeOf133
 v70:=Try.zeroValue133
 t76:=Try.underlying137
 a76:=Try.isAgg137
 z76:=Try.sizeOf137
 v76:=Try.zeroValue137
 t77:=Try.underlying138
 a77:=Try.isAgg138
 z77:=Try.sizeOf138
 v77:=Try.zeroValue138 }
def Try.sortH_ren:Go.Shelf.Ren:=⟨fun | 6=>51 | 15=>69 | 14=>70 | 28=>83 | 29=>84 | 20=>85 | 21=>86 | 22=>87 | 23=>88 | 24=>89 | 25=>90 | 26=>91 | 27=>92 | 46=>99 | 47=>95 | 48=>96 | 49=>100 | 50=>101 | 57=>103 | n=>n,fun | 22=>27 | 24=>50 | 25=>98 | 3=>3 | 39=>105 | 0=>0 | 53=>121 | 55=>23 | 4=>4 | 46=>115 | 45=>114 | 50=>87 | 5=>5 | 9=>9 | 66=>129 | 70=>133 | 76=>137 | 77=>138 | n=>n,fun | n=>n⟩
theorem Try.sortH:Go.Proofs.SlLaysF0.n6 Try.prog Try.sortH_ren:={
 mixed:=by kernel_rfl
 f6:=⟨Try.f51.name,by decide,Try.func51.trans (congrArg some (by kernel_rfl))⟩
 f14:=⟨Try.f70.name,by decide,Try.func70.trans (congrArg some (by kernel_rfl))⟩
 f15:=Try.func69.trans (congrArg some (by kernel_rfl))
 f20:=⟨Try.f85.name,by decide,Try.func85.trans (congrArg some (by kernel_rfl))⟩
 f21:=⟨Try.f86.name,by decide,Try.func86.trans (congrArg some (by kernel_rfl))⟩
 f22:=⟨Try.f87.name,by decide,Try.func87.trans (congrArg some (by kernel_rfl))⟩
 f23:=⟨Try.f88.name,by decide,Try.func88.trans (congrArg some (by kernel_rfl))⟩
 f24:=⟨Try.f89.name,by decide,Try.func89.trans (congrArg some (by kernel_rfl))⟩
 f25:=⟨Try.f90.name,by decide,Try.func90.trans (congrArg some (by kernel_rfl))⟩
 f26:=⟨Try.f91.name,by decide,Try.func91.trans (congrArg some (by kernel_rfl))⟩
 f27:=⟨Try.f92.name,by decide,Try.func92.trans (congrArg some (by kernel_rfl))⟩
 f28:=Try.func83.trans (congrArg some (by kernel_rfl))
 f29:=Try.func84.trans (congrArg some (by kernel_rfl))
 f46:=⟨Try.f99.name,by decide,Try.func99.trans (congrArg some (by kernel_rfl))⟩
 f47:=Try.func95.trans (congrArg some (by kernel_rfl))
 f48:=Try.func96.trans (congrArg some (by kernel_rfl))
 f49:=⟨Try.f100.name,by decide,Try.func100.trans (congrArg some (by kernel_rfl))⟩
 f50:=⟨Try.f101.name,by decide,Try.func101.trans (congrArg some (by kernel_rfl))⟩
 f57:=⟨Try.f103.name,by decide,Try.func103.trans (congrArg some (by kernel_rfl))⟩
 t0:=Try.underlying0
 a0:=Try.isAgg0
 z0:=Try.sizeOf0
 v0:=Try.zeroValue0
 t3:=Try.underlying3
 a3:=Try.isAgg3
 z3:=Try.sizeOf3
 v3:=Try.zeroValue3
 t4:=Try.underlying4
 a4:=Try.isAgg4
 z4:=Try.sizeOf4
 v4:=Try.zeroValue4
 t5:=Try.underlying5
 a5:=Try.isAgg5
 z5:=Try.sizeOf5
 v5:=Try.zeroValue5
 t9:=Try.underlying9
 a9:=Try.isAgg9
 z9:=Try.sizeOf9
 v9:=Try.zeroValue9
 t22:=Try.underlying27
 a22:=Try.isAgg27
 z22:=Try.sizeOf27
 v22:=Try.zeroValue27
 t25:=Try.underlying98
 a25:=Try.isAgg98
 z25:=Try.sizeOf98
 v25:=Try.zeroValue98
 t39:=Try.underlying105
 a39:=Try.isAgg105
 z39:=Try.sizeOf105
 v39:=Try.zeroValue105
 t45:=Try.underlying114
 a45:=Try.isAgg114
 z45:=Try.sizeOf114
 v45:=Try.zeroValue114
 t46:=Try.underlying115
 a46:=Try.isAgg115
 z46:=Try.sizeOf115
 v46:=Try.zeroValue115
 t50:=Try.underlying87
 a50:=Try.isAgg87
 z50:=Try.sizeOf87
 v50:=Try.zeroValue87
 t53:=Try.underlying121
 a53:=Try.isAgg121
 z53:=Try.sizeOf121
 v53:=Try.zeroValue121
 t55:=Try.underlying23
 a55:=Try.isAgg23
 z55:=Try.sizeOf23
 v55:=Try.zeroValue23
 t66:=Try.underlying129
 a66:=Try.isAgg129
 z66:=Try.sizeOf129
 v66:=Try.zeroValue129
 t70:=Try.underlying133
 a70:=Try.isAgg133
 z70:=Try.sizeOf133
 v70:=Try.zeroValue133
 t76:=Try.underlying137
 a76:=Try.isAgg137
 z76:=Try.sizeOf137
 v76:=Try.zeroValue137
 t77:=Try.underlying138
 a77:=Try.isAgg138
 z77:=Try.sizeOf138
 v77:=Try.zeroValue138 }
def Try.lays122_ren:Go.Shelf.Ren:=⟨fun | 122=>53 | 215=>71 | n=>n,fun | 3=>3 | 4=>4 | n=>n,fun | n=>n⟩
theorem Try.lays122:Go.Proofs.Lays.n122 Try.prog Try.lays122_ren:={
 mixed:=by kernel_rfl
 f122:=Try.func53.trans (congrArg some (by kernel_rfl))
 f215:=Try.func71.trans (congrArg some (by kernel_rfl))
 t3:=Try.underlying3
 a3:=Try.isAgg3
 z3:=Try.sizeOf3
 v3:=Try.zeroValue3
 t4:=Try.underlying4
 a4:=Try.isAgg4
 z4:=Try.sizeOf4
 v4:=Try.zeroValue4 }
open Go.RowKit in
theorem Try.cmp_Compare_int (x y:Int) (w:World):
 Calls Try.prog 53 #[.int .i64 x,.int .i64 y] w fun e w'=>e=.returned (.int .i64 (Lib.compareInt x y))∧w'=w:=Any.cmp_Compare_int Try.lays122 x y w
end Go.Proofs
namespace Go.Proofs
open Go.RowKit Go.Shelf Go.Lib Go.Vm.X Go.Vm Go.Sort
namespace N38
def Grw (w w':World):Prop:=∃q os',w'=grow (w.drewN q) os'
theorem Grw.refl (w:World):Grw w w:=⟨0,#[],by simp[grow_empty,World.drewN]⟩
theorem Grw.alloc {w w':World} (h:Grw w w') (o:Obj):Grw w (w'.alloc o):=by
 obtain⟨q,os,rfl⟩:=h
 exact⟨q,os++#[o],by rw[alloc_eq_grow,grow_grow]⟩
theorem Grw.drewN {w w':World} (h:Grw w w') (d:Nat):Grw w (w'.drewN d):=by
 obtain⟨q,os,rfl⟩:=h
 exact⟨q+d,os,by simp[grow,World.drewN,Nat.add_assoc]⟩
theorem Grw.drew {w w':World} (h:Grw w w'):Grw w w'.drew:=h.drewN 1
theorem cmpI_eq (a b:Int):Lib.compareInt a b=c3 a b:=by
 unfold Lib.compareInt c3
 by_cases h:a<b
 ·simp[h]
 ·by_cases h2:b<a<;>simp[h,h2]
set_option maxHeartbeats 4000000 in
set_option maxRecDepth 100000 in
theorem or_walk (a b:Int) (p c:Nat) (w:World) (h0:w.cell? ⟨p,0,none⟩=some (.int .i64 a)) (h1:w.cell? ⟨p,1,none⟩=some (.int .i64 b)):Calls Try.prog 52 #[.slice (some ⟨p,0,none⟩) 2 c] w fun e w'=>e=.returned (.int .i64 (if a=0 then b else a))∧∃d:Nat,w'=w.drewN d:=by
 have mixed:=mixed
 go_enter Try.func52,Try.ntmps52
 go_wp2
 go_loopg [8] 2 (fun g s8 wr=>∃k:Nat,k≤2∧2-k≤g∧s8=.int .i64 k∧(∃d:Nat,wr=w.drewN d)∧Aside ((1≤k→a=0)∧(2≤k→b=0)))
 case atStart=>exact⟨0,Nat.zero_le _,by omega,rfl,⟨0,rfl⟩,fun h=>absurd h (by omega),fun h=>absurd h (by omega)⟩
 case round=>
  obtain⟨k,hk,hg,rfl,⟨d,rfl⟩,A⟩:=hrel
  rcases(by omega:k=0∨k=1∨k=2) with rfl | rfl | rfl
  ·by_cases ha:a=0
   ·go_wp2
    go_roundg 1
    case measure=>omega
    case rel=>exact⟨1,by omega,by omega,by go_num,⟨d,rfl⟩,fun _=>ha,fun h=>absurd h (by omega)⟩
   ·go_wp2
    go_ret
    exact⟨by first | rfl | (rw[if_neg ha];rfl) | simp[ha],d,rfl⟩
  ·have ha:=A.out.1 (by omega)
   by_cases hb:b=0
   ·go_wp2
    go_roundg 0
    case measure=>omega
    case rel=>exact⟨2,by omega,by omega,by go_num,⟨d,rfl⟩,fun _=>ha,fun _=>hb⟩
   ·go_wp2
    go_ret
    exact⟨by first | rfl | (rw[if_pos ha];rfl) | simp[ha],d,rfl⟩
  ·have ha:=A.out.1 (by omega)
   have hb:=A.out.2 (by omega)
   go_wp2
   go_ret
   exact⟨by first | rfl | (rw[if_pos ha,hb];rfl) | simp[ha,hb],d,rfl⟩
structure Two (w:World) (x y u v:Int) (w':World):Prop where
 c0:w'.cell? ⟨w.heap.size,0,none⟩=some (.int .i64 x)
 c1:w'.cell? ⟨w.heap.size,1,none⟩=some (.int .i64 y)
 c2:w'.cell? ⟨w.heap.size+1,0,none⟩=some (.int .i64 u)
 c3:w'.cell? ⟨w.heap.size+1,1,none⟩=some (.int .i64 v)
 g:Grw w w'
theorem cell_dr {w:World} {p:Addr} {v:Value} (h:w.cell? p=some v):w.drew.cell? p=some v:=h
def orI (a b:Int):Int:=if a=0 then b else a
theorem Grw.cell {w w':World} {p:Addr} {v:Value} (h:Grw w w') (hc:w.cell? p=some v):w'.cell? p=some v:=by
 obtain⟨q,os',rfl⟩:=h
 rw[cell?_grow _ _ _ (by have:=World.block_lt_of_cell? w p hc;simpa[World.drewN] using this)]
 exact hc
theorem Grw.trans {w1 w2 w3:World} (h:Grw w1 w2) (k:Grw w2 w3):Grw w1 w3:=by
 obtain⟨q,os,rfl⟩:=h
 obtain⟨q',os',rfl⟩:=k
 exact⟨q+q',os++os',by simp[grow,World.drewN,Nat.add_assoc,Array.append_assoc]⟩
theorem Grw.al (w:World) (o:Obj):Grw w (w.alloc o):=(Grw.refl w).alloc o
theorem Grw.ald (w:World) (o:Obj):Grw w.drew (w.alloc o).drew:=(Grw.refl w.drew).alloc o
theorem or_last (Y:World) (s:Nat) (hs:Y.heap.size=s) (a b:Int):Calls Try.prog 52 #[.slice (some ⟨s,0,none⟩) 2 2] ((Y.alloc (.cells #[.int .i64 a,.int .i64 b] 3)).drew) fun e w'=>e=.returned (.int .i64 (orI a b))∧Grw ((Y.alloc (.cells #[.int .i64 a,.int .i64 b] 3)).drew) w':=by
 subst hs
 exact(or_walk a b _ _ _ (cell_dr (new2 Y _ _ _).1) (cell_dr (new2 Y _ _ _).2)).mono fun e w' ⟨h,d,hw⟩=>⟨h,by rw[hw];exact(Grw.refl _).drewN _⟩
abbrev E4 (w:World) (x y u v:Int) (w':World):Prop:=w'.cell? ⟨w.heap.size,0,none⟩=some (.int .i64 x)∧w'.cell? ⟨w.heap.size,1,none⟩=some (.int .i64 y)∧w'.cell? ⟨w.heap.size+1,0,none⟩=some (.int .i64 u)∧w'.cell? ⟨w.heap.size+1,1,none⟩=some (.int .i64 v)∧Grw w w'
theorem E4.step {w:World} {x y u v:Int} {w1 w2:World} (k:Grw w1 w2) (h:E4 w x y u v w1):E4 w x y u v w2:=by
 obtain⟨h0,h1,h2,h3,h8⟩:=h
 exact⟨k.cell h0,k.cell h1,k.cell h2,k.cell h3,h8.trans k⟩
set_option maxHeartbeats 4000000 in
set_option maxRecDepth 100000 in
theorem cmpS_walk (x y u v:Int) (w:World):Calls Try.prog 37 #[.agg #[.int .i64 x,.int .i64 y],.agg #[.int .i64 u,.int .i64 v]] w fun e w'=>e=.returned (.int .i64 (cfS (x,y) (u,v)))∧Grw w w':=by
 have mixed:=mixed
 have hT:Two w x y u v ((w.alloc (.cells #[.int .i64 x,.int .i64 y] 47)).alloc (.cells #[.int .i64 u,.int .i64 v] 47)):=by
  obtain⟨e0,e1⟩:=new2 w (.int .i64 x) (.int .i64 y) 47
  obtain⟨e2,e3⟩:=new2 (w.alloc (.cells #[.int .i64 x,.int .i64 y] 47)) (.int .i64 u) (.int .i64 v) 47
  have hs:(w.alloc (.cells #[.int .i64 x,.int .i64 y] 47)).heap.size=w.heap.size+1:=by simp
  rw[hs] at e2 e3
  exact⟨cell_al _ e0,cell_al _ e1,e2,e3,((Grw.refl w).alloc _).alloc _⟩
 have q0:=cell_dr hT.c0
 have q1:=cell_dr hT.c1
 have q2:=cell_dr hT.c2
 have q3:=cell_dr hT.c3
 have q4:=hT.g.drew
 clear hT
 have h52:=or_last ((w.alloc (.cells #[.int .i64 x,.int .i64 y] 47)).alloc (.cells #[.int .i64 u,.int .i64 v] 47)) (w.heap.size+1+1) (by simp)
 go_enter Try.func37,Try.ntmps37
 go_wp2
 go_region_held3 (fun w'=>w'.cell? ⟨w.heap.size,0,none⟩=some (.int .i64 x)∧w'.cell? ⟨w.heap.size,1,none⟩=some (.int .i64 y)∧w'.cell? ⟨w.heap.size+1,0,none⟩=some (.int .i64 u)∧w'.cell? ⟨w.heap.size+1,1,none⟩=some (.int .i64 v)∧Grw w w')
  (first | (with_reducible exact⟨q0,q1,q2,q3,q4⟩) | (with_reducible assumption) | (with_reducible exact E4.step (Grw.ald _ _) (by assumption)) | (with_reducible exact E4.step (by assumption) (by assumption)))
  (first | (go_at_call 53;refine(Try.cmp_Compare_int _ _ _).mono ?_;rintro e w' ⟨rfl,rfl⟩) | (go_at_call 52;refine(h52 _ _).mono ?_;rintro e w' ⟨rfl,hG⟩))
 go_split_ands
 go_wp2
 go_ret
 refine⟨?_,by assumption⟩
 rw[cmpI_eq,cmpI_eq]
 unfold cfS orI
 by_cases h:c3 y v=0<;>simp[h]
set_option maxHeartbeats 1000000 in
theorem way_walk (x y:Int) (u:Bool) (b:Int) (w:World):Calls Try.prog 54 #[.agg #[.int .i64 x,.int .i64 y,.bool u,.int .i8 b]] w fun e w'=>e=.returned (.int .i64 (bif u then 1 else 0))∧Grw w w':=by
 have mixed:=mixed
 cases u
 all_goals
  go_enter Try.func54,Try.ntmps54
  go_wp2
  go_ret
  refine⟨rfl,?_⟩
  first | exact(Grw.refl w).alloc _ | exact((Grw.refl w).alloc _).drewN _
theorem new4 (W:World) (a b c d:Value) (ty:Nat):(W.alloc (.cells #[a,b,c,d] ty)).cell? ⟨W.heap.size,0,none⟩=some a∧(W.alloc (.cells #[a,b,c,d] ty)).cell? ⟨W.heap.size,1,none⟩=some b∧(W.alloc (.cells #[a,b,c,d] ty)).cell? ⟨W.heap.size,2,none⟩=some c∧(W.alloc (.cells #[a,b,c,d] ty)).cell? ⟨W.heap.size,3,none⟩=some d:=
 ⟨World.cell?_alloc_new W _ _ 0,World.cell?_alloc_new W _ _ 1,World.cell?_alloc_new W _ _ 2,World.cell?_alloc_new W _ _ 3⟩
theorem or_last2 (Y:World) (a b:Int):Calls Try.prog 52 #[.slice (some ⟨Y.heap.size,0,none⟩) 2 2] (Y.alloc (.cells #[.int .i64 a,.int .i64 b] 3)) fun e w'=>e=.returned (.int .i64 (orI a b))∧Grw (Y.alloc (.cells #[.int .i64 a,.int .i64 b] 3)) w':=
 (or_walk a b _ _ _ (new2 Y _ _ _).1 (new2 Y _ _ _).2).mono fun e w' ⟨h,d,hw⟩=>⟨h,by rw[hw];exact(Grw.refl _).drewN _⟩
abbrev E8 (w:World) (x y:Int) (u:Bool) (b x' y':Int) (u':Bool) (b':Int) (w':World):Prop:=
 w'.cell? ⟨w.heap.size,0,none⟩=some (.int .i64 x)∧w'.cell? ⟨w.heap.size,1,none⟩=some (.int .i64 y)∧w'.cell? ⟨w.heap.size,2,none⟩=some (.bool u)∧w'.cell? ⟨w.heap.size,3,none⟩=some (.int .i8 b)∧
 w'.cell? ⟨w.heap.size+1,0,none⟩=some (.int .i64 x')∧w'.cell? ⟨w.heap.size+1,1,none⟩=some (.int .i64 y')∧w'.cell? ⟨w.heap.size+1,2,none⟩=some (.bool u')∧w'.cell? ⟨w.heap.size+1,3,none⟩=some (.int .i8 b')∧Grw w w'
theorem E8.step {w:World} {x y:Int} {u:Bool} {b x' y':Int} {u':Bool} {b':Int} {w1 w2:World} (k:Grw w1 w2) (h:E8 w x y u b x' y' u' b' w1):E8 w x y u b x' y' u' b' w2:=by
 obtain⟨h0,h1,h2,h3,h4,h5,h6,h7,h8⟩:=h
 exact⟨k.cell h0,k.cell h1,k.cell h2,k.cell h3,k.cell h4,k.cell h5,k.cell h6,k.cell h7,h8.trans k⟩
end N38
end Go.Proofs
namespace Go.Proofs
open Go.RowKit Go.Shelf Go.Lib Go.Vm.X Go.Vm Go.Sort
namespace N38
set_option maxHeartbeats 4000000 in
set_option maxRecDepth 100000 in
theorem cmpH_walk (x y:Int) (u:Bool) (b x' y':Int) (u':Bool) (b':Int) (w:World):Calls Try.prog 38 #[.agg #[.int .i64 x,.int .i64 y,.bool u,.int .i8 b],.agg #[.int .i64 x',.int .i64 y',.bool u',.int .i8 b']] w fun e w'=>e=.returned (.int .i64 (cfH ((x,y),(u,b)) ((x',y'),(u',b'))))∧Grw w w':=by
 have mixed:=mixed
 have hT:E8 w x y u b x' y' u' b' ((w.alloc (.cells #[.int .i64 x,.int .i64 y,.bool u,.int .i8 b] 50)).alloc (.cells #[.int .i64 x',.int .i64 y',.bool u',.int .i8 b'] 50)).drew:=by
  obtain⟨e0,e1,e2,e3⟩:=new4 w (.int .i64 x) (.int .i64 y) (.bool u) (.int .i8 b) 50
  obtain⟨f0,f1,f2,f3⟩:=new4 (w.alloc (.cells #[.int .i64 x,.int .i64 y,.bool u,.int .i8 b] 50)) (.int .i64 x') (.int .i64 y') (.bool u') (.int .i8 b') 50
  have hs:(w.alloc (.cells #[.int .i64 x,.int .i64 y,.bool u,.int .i8 b] 50)).heap.size=w.heap.size+1:=by simp
  rw[hs] at f0 f1 f2 f3
  exact⟨cell_dr (cell_al _ e0),cell_dr (cell_al _ e1),cell_dr (cell_al _ e2),cell_dr (cell_al _ e3),cell_dr f0,cell_dr f1,cell_dr f2,cell_dr f3,(((Grw.refl w).alloc _).alloc _).drew⟩
 obtain⟨q0,q1,q2,q3,q4,q5,q6,q7,q8⟩:=hT
 go_enter Try.func38,Try.ntmps38
 go_wp2
 go_region_held3 (fun w'=>w'.cell? ⟨w.heap.size,0,none⟩=some (.int .i64 x)∧w'.cell? ⟨w.heap.size,1,none⟩=some (.int .i64 y)∧w'.cell? ⟨w.heap.size,2,none⟩=some (.bool u)∧w'.cell? ⟨w.heap.size,3,none⟩=some (.int .i8 b)∧w'.cell? ⟨w.heap.size+1,0,none⟩=some (.int .i64 x')∧w'.cell? ⟨w.heap.size+1,1,none⟩=some (.int .i64 y')∧w'.cell? ⟨w.heap.size+1,2,none⟩=some (.bool u')∧w'.cell? ⟨w.heap.size+1,3,none⟩=some (.int .i8 b')∧Grw w w')
  (first | (with_reducible exact⟨q0,q1,q2,q3,q4,q5,q6,q7,q8⟩) | (with_reducible assumption) | (with_reducible exact E8.step (by assumption) (by assumption)) | (with_reducible exact E8.step (Grw.al _ _) (by assumption)))
  (first | (go_at_call 53;refine(Try.cmp_Compare_int _ _ _).mono ?_;rintro e w' ⟨rfl,rfl⟩) | (go_at_call 37;refine(cmpS_walk _ _ _ _ _).mono ?_;rintro e w' ⟨rfl,hG⟩) | (go_at_call 54;refine(way_walk _ _ _ _ _).mono ?_;rintro e w' ⟨rfl,hG⟩) | (go_at_call 52;refine(or_last2 _ _ _).mono ?_;rintro e w' ⟨rfl,hG⟩))
 all_goals
  go_split_ands
  go_wp2
  go_ret
  refine⟨?_,by assumption⟩
  rw[cmpI_eq]
  unfold cfH wayI orI
  by_cases h:cfS (x,y) (x',y')=0<;>simp[h]
end N38
end Go.Proofs
