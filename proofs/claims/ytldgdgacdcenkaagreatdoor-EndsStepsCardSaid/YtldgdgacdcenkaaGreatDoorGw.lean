/-
  slices.Grow of nil: walked.
-/
import Derived.Test.YtldgdgacdcenkaaGreatDoorRep
import Derived.Test.YtldgdgacdcenkaaGreatDoorVmY4
set_option linter.unusedSimpArgs false
set_option linter.unusedVariables false
namespace Go.Proofs
open Go.RowKit Go.Shelf Go.Lib Go.Vm.W
namespace Gw
theorem wrap_of {x:Int} (h:0≤x∧x≤10000000):IntKind.i64.wrap x=x:=by rw[IntKind.wrap_i64];omega
set_option maxHeartbeats 4000000 in
set_option maxRecDepth 100000 in
theorem zero64 (w:World):Calls Tryz.prog 64 #[.slice none 0 0,.int .i64 (0:Nat)] w fun e w'=>e=.returned (.slice none 0 0)∧w'=w:=by
 go_enter Tryz.func64,Tryz.ntmps64
 go_wp2
 go_ret
 exact⟨rfl,rfl⟩
set_option maxHeartbeats 4000000 in
set_option maxRecDepth 100000 in
theorem grow64 (n:Nat) (w:World) (hn:0<n) (hn2:n≤1000001):Calls Tryz.prog 64 #[.slice none 0 0,.int .i64 n] w fun e w'=>∃v,e=.returned v∧FreshR w w' [] v:=by
 obtain⟨i0,hi0,hz0,hzs,hzb⟩:=Rep.i3
 have mixed:=Rep.mixed
 have hold:(Builtin.firstCells i0.size 0 (.slice none 0 0)).run Tryz.prog w.drew=.ok ([]:List Value).toArray w.drew:=by
  rw[hzs];exact run_firstCells_none w.drew 1 0 0 0
 have hrz:∀ty,(Builtin.append_ #[25,3] ty #[.slice none 0 0,.int .i64 n]).run Tryz.prog w=_:=fun ty=>
  Lib.run_append_grow_zeros w 25 3 ty 3 i0 _ .i64 .i64 Rep.und Tryz.underlying3 hi0 hz0 none 0 0 [] hold n (by omega) (by omega) (by omega) (by omega) (by rw[hzb];omega) (by rw[hzb];exact growslice_fits (by omega) (by omega))
 have h1:(0:Int)< (n:Int):=by omega
 have h2:¬((n:Int)<0):=by omega
 have hw:IntKind.i64.wrap (n:Int)=n:=wrap_of (by omega)
 go_enter Tryz.func64,Tryz.ntmps64
 go_wp2_with (at_builtin;refine Lib.wpList_append_run _ rfl _ _ _ _ rfl _ _ rfl rfl _ _ (hrz _) ?_)
 go_ret
 have g1:=grownCap_ge w n 0 3
 have g2:=grownCap_le_maxLen w n 0 3 (by unfold maxLen;omega)
 unfold maxLen at g2
 refine⟨_,rfl,grownCap w n 0 3,Builtin.zeroCells #[.int .i64 0] n++Builtin.zeroCells #[.int .i64 0] (grownCap w n 0 3-n),3,rfl,Nat.zero_le _,by omega,by show(w.heap.push _)[w.heap.size]?=_;rw[Array.getElem?_push,if_pos rfl],by simp[Builtin.zeroCells];omega,(fun j h=>by simp at h),rfl,rfl,rfl,by show w.heap.size≤(w.heap.push _).size;rw[Array.size_push];omega,fun x hx=>by show(w.heap.push _)[x]?=_;rw[Array.getElem?_push,if_neg (by omega)]⟩
theorem i57:∃i0,Tryz.prog.info? 57=some i0∧i0.zero=some (.int .u8 0)∧i0.size=1∧i0.bytes=1:=by
 have h:(Tryz.prog.info? 57).map (fun i=>(i.zero,i.size,i.bytes))=some (some (.int .u8 0),1,1):=by kernel_rfl
 cases hi:Tryz.prog.info? 57 with
 | none=>rw[hi] at h;cases h
 | some i=>
   rw[hi] at h
   simp only[Option.map_some,Option.some.injEq,Prod.mk.injEq] at h
   exact⟨i,rfl,h⟩
set_option maxHeartbeats 4000000 in
set_option maxRecDepth 100000 in
theorem zero65 (w:World):Calls Tryz.prog 65 #[.slice none 0 0,.int .i64 (0:Nat)] w fun e w'=>e=.returned (.slice none 0 0)∧w'=w:=by
 go_enter Tryz.func65,Tryz.ntmps65
 go_wp2
 go_ret
 exact⟨rfl,rfl⟩
set_option maxHeartbeats 4000000 in
set_option maxRecDepth 100000 in
theorem grow65 (n:Nat) (w:World) (hn:0<n) (hn2:n≤1000001):Calls Tryz.prog 65 #[.slice none 0 0,.int .i64 n] w fun e w'=>∃v,e=.returned v∧FreshR w w' [] v:=by
 obtain⟨i0,hi0,hz0,hzs,hzb⟩:=i57
 have mixed:=Rep.mixed
 have hold:(Builtin.firstCells i0.size 0 (.slice none 0 0)).run Tryz.prog w.drew=.ok ([]:List Value).toArray w.drew:=by
  rw[hzs];exact run_firstCells_none w.drew 1 0 0 0
 have hrz:∀ty,(Builtin.append_ #[26,3] ty #[.slice none 0 0,.int .i64 n]).run Tryz.prog w=_:=fun ty=>
  Lib.run_append_grow_zeros w 26 3 ty 57 i0 _ .i64 .i64 Tryz.underlying26 Tryz.underlying3 hi0 hz0 none 0 0 [] hold n (by omega) (by omega) (by omega) (by omega) (by rw[hzb];omega) (by rw[hzb];exact growslice_fits (by omega) (by omega))
 have h1:(0:Int)< (n:Int):=by omega
 have h2:¬((n:Int)<0):=by omega
 have hw:IntKind.i64.wrap (n:Int)=n:=wrap_of (by omega)
 go_enter Tryz.func65,Tryz.ntmps65
 go_wp2_with (at_builtin;refine Lib.wpList_append_run _ rfl _ _ _ _ rfl _ _ rfl rfl _ _ (hrz _) ?_)
 go_ret
 have g1:=grownCap_ge w n 0 57
 have g2:=grownCap_le_maxLen w n 0 57 (by unfold maxLen;omega)
 unfold maxLen at g2
 refine⟨_,rfl,grownCap w n 0 57,Builtin.zeroCells #[.int .u8 0] n++Builtin.zeroCells #[.int .u8 0] (grownCap w n 0 57-n),57,rfl,Nat.zero_le _,by omega,by show(w.heap.push _)[w.heap.size]?=_;rw[Array.getElem?_push,if_pos rfl],by simp[Builtin.zeroCells];omega,(fun j h=>by simp at h),rfl,rfl,rfl,by show w.heap.size≤(w.heap.push _).size;rw[Array.size_push];omega,fun x hx=>by show(w.heap.push _)[x]?=_;rw[Array.getElem?_push,if_neg (by omega)]⟩
end Gw
end Go.Proofs
