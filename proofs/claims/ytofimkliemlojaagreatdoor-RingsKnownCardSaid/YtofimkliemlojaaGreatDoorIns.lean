/-
  Some facts on the seat's types.
  slices.Grow of nil: walked.
  slices.Grow (of nil), Insert and Replace at []int of this program: what they leave.
-/
import Derived.Shelf.Spec.SlicesInsertGrow
import Derived.Test.YtofimkliemlojaaGreatDoorVmY4
import Derived.Test.YtofimkliemlojaaGreatDoorSh
set_option linter.unusedSimpArgs false
set_option linter.unusedVariables false
set_option linter.unusedSectionVars false
set_option linter.unnecessarySimpa false
namespace Go.Proofs
open Go.RowKit Go.Shelf Go.Lib
namespace Rep
theorem kpe:(Tryz.prog.info? 3).map (fun i=>(i.zero,i.size,i.bytes))=some (some (.int .i64 0),1,8):=by kernel_rfl
theorem i3:∃i0,Tryz.prog.info? 3=some i0∧i0.zero=some (.int .i64 0)∧i0.size=1∧i0.bytes=8:=by
 have h:=kpe
 cases hi:Tryz.prog.info? 3 with
 | none=>rw[hi] at h;cases h
 | some i=>
   rw[hi] at h
   simp only[Option.map_some,Option.some.injEq,Prod.mk.injEq] at h
   exact⟨i,rfl,h⟩
theorem sizeOf3:∀w,(Go.sizeOf 3).run Tryz.prog w=.ok 1 w:=fun w=>by
 obtain⟨i0,h0,_,h1,_⟩:=i3
 simp[sizeOf,typeInfo,h0,h1,Sem.run_bind]
theorem mixed:Tryz.prog.follows Departure.mixedOrders=true:=by kernel_rfl
theorem und:Tryz.prog.underlying 22=some (.slice 3):=Tryz.underlying22
theorem j4i {x:Int} (h:0≤x∧x≤10000000):IntKind.i64.wrap x=x:=by rw[IntKind.wrap_i64];omega
end Rep
end Go.Proofs
namespace Go.Proofs
open Go.RowKit Go.Shelf Go.Lib Go.Vm.W
namespace Gw
theorem j4i {x:Int} (h:0≤x∧x≤10000000):IntKind.i64.wrap x=x:=by rw[IntKind.wrap_i64];omega
set_option maxHeartbeats 4000000 in
set_option maxRecDepth 100000 in
theorem zero85 (w:World):Calls Tryz.prog 85 #[.slice none 0 0,.int .i64 (0:Nat)] w fun e w'=>e=.returned (.slice none 0 0)∧w'=w:=by
 go_enter Tryz.func85,Tryz.ntmps85
 go_wp2
 go_ret
 exact⟨rfl,rfl⟩
set_option maxHeartbeats 4000000 in
set_option maxRecDepth 100000 in
theorem grow85 (n:Nat) (w:World) (hn:0<n) (hn2:n≤1000001):Calls Tryz.prog 85 #[.slice none 0 0,.int .i64 n] w fun e w'=>∃v,e=.returned v∧jn3 w w' [] v:=by
 obtain⟨i0,hi0,hz0,hzs,hzb⟩:=Rep.i3
 have mixed:=Rep.mixed
 have hold:(Builtin.firstCells i0.size 0 (.slice none 0 0)).run Tryz.prog w.drew=.ok ([]:List Value).toArray w.drew:=by
  rw[hzs];exact run_firstCells_none w.drew 1 0 0 0
 have hrz:∀ty,(Builtin.append_ #[22,3] ty #[.slice none 0 0,.int .i64 n]).run Tryz.prog w=_:=fun ty=>
  Lib.run_append_grow_zeros w 22 3 ty 3 i0 _ .i64 .i64 Rep.und Tryz.underlying3 hi0 hz0 none 0 0 [] hold n (by omega) (by omega) (by omega) (by omega) (by rw[hzb];omega) (by rw[hzb];exact growslice_fits (by omega) (by omega))
 have h1:(0:Int)< (n:Int):=by omega
 have h2:¬((n:Int)<0):=by omega
 have hw:IntKind.i64.wrap (n:Int)=n:=j4i (by omega)
 go_enter Tryz.func85,Tryz.ntmps85
 go_wp2_with (at_builtin;refine Lib.wpList_append_run _ rfl _ _ _ _ rfl _ _ rfl rfl _ _ (hrz _) ?_)
 go_ret
 have g1:=grownCap_ge w n 0 3
 have g2:=grownCap_le_maxLen w n 0 3 (by unfold maxLen;omega)
 unfold maxLen at g2
 refine⟨_,rfl,grownCap w n 0 3,Builtin.zeroCells #[.int .i64 0] n++Builtin.zeroCells #[.int .i64 0] (grownCap w n 0 3-n),3,rfl,Nat.zero_le _,by omega,by show(w.heap.push _)[w.heap.size]?=_;rw[Array.getElem?_push,if_pos rfl],by simp[Builtin.zeroCells];omega,(fun j h=>by simp at h),rfl,rfl,rfl,by show w.heap.size≤(w.heap.push _).size;rw[Array.size_push];omega,fun x hx=>by show(w.heap.push _)[x]?=_;rw[Array.getElem?_push,if_neg (by omega)]⟩
theorem i57:∃i0,Tryz.prog.info? 43=some i0∧i0.zero=some (.int .u8 0)∧i0.size=1∧i0.bytes=1:=by
 have h:(Tryz.prog.info? 43).map (fun i=>(i.zero,i.size,i.bytes))=some (some (.int .u8 0),1,1):=by kernel_rfl
 cases hi:Tryz.prog.info? 43 with
 | none=>rw[hi] at h;cases h
 | some i=>
   rw[hi] at h
   simp only[Option.map_some,Option.some.injEq,Prod.mk.injEq] at h
   exact⟨i,rfl,h⟩
set_option maxHeartbeats 4000000 in
set_option maxRecDepth 100000 in
theorem zero86 (w:World):Calls Tryz.prog 86 #[.slice none 0 0,.int .i64 (0:Nat)] w fun e w'=>e=.returned (.slice none 0 0)∧w'=w:=by
 go_enter Tryz.func86,Tryz.ntmps86
 go_wp2
 go_ret
 exact⟨rfl,rfl⟩
set_option maxHeartbeats 4000000 in
set_option maxRecDepth 100000 in
theorem grow86 (n:Nat) (w:World) (hn:0<n) (hn2:n≤1000001):Calls Tryz.prog 86 #[.slice none 0 0,.int .i64 n] w fun e w'=>∃v,e=.returned v∧jn3 w w' [] v:=by
 obtain⟨i0,hi0,hz0,hzs,hzb⟩:=i57
 have mixed:=Rep.mixed
 have hold:(Builtin.firstCells i0.size 0 (.slice none 0 0)).run Tryz.prog w.drew=.ok ([]:List Value).toArray w.drew:=by
  rw[hzs];exact run_firstCells_none w.drew 1 0 0 0
 have hrz:∀ty,(Builtin.append_ #[23,3] ty #[.slice none 0 0,.int .i64 n]).run Tryz.prog w=_:=fun ty=>
  Lib.run_append_grow_zeros w 23 3 ty 43 i0 _ .i64 .i64 Tryz.underlying23 Tryz.underlying3 hi0 hz0 none 0 0 [] hold n (by omega) (by omega) (by omega) (by omega) (by rw[hzb];omega) (by rw[hzb];exact growslice_fits (by omega) (by omega))
 have h1:(0:Int)< (n:Int):=by omega
 have h2:¬((n:Int)<0):=by omega
 have hw:IntKind.i64.wrap (n:Int)=n:=j4i (by omega)
 go_enter Tryz.func86,Tryz.ntmps86
 go_wp2_with (at_builtin;refine Lib.wpList_append_run _ rfl _ _ _ _ rfl _ _ rfl rfl _ _ (hrz _) ?_)
 go_ret
 have g1:=grownCap_ge w n 0 43
 have g2:=grownCap_le_maxLen w n 0 43 (by unfold maxLen;omega)
 unfold maxLen at g2
 refine⟨_,rfl,grownCap w n 0 43,Builtin.zeroCells #[.int .u8 0] n++Builtin.zeroCells #[.int .u8 0] (grownCap w n 0 43-n),43,rfl,Nat.zero_le _,by omega,by show(w.heap.push _)[w.heap.size]?=_;rw[Array.getElem?_push,if_pos rfl],by simp[Builtin.zeroCells];omega,(fun j h=>by simp at h),rfl,rfl,rfl,by show w.heap.size≤(w.heap.push _).size;rw[Array.size_push];omega,fun x hx=>by show(w.heap.push _)[x]?=_;rw[Array.getElem?_push,if_neg (by omega)]⟩
end Gw
end Go.Proofs
namespace Go.Proofs
open Go.RowKit Go.Shelf Go.Lib Go.Vm.W
namespace InsC
theorem kjp {L:List Int} {j:Nat} {v:Value} (h:(L.map (Value.int .i64))[j]?=some v):∃hj:j<L.length,v=.int .i64 L[j]:=by
 rw[List.getElem?_map] at h
 cases hq:L[j]? with
 | none=>rw[hq] at h;cases h
 | some x=>
   rw[hq] at h
   obtain⟨h1,h2⟩:=List.getElem?_eq_some_iff.1 hq
   cases h
   exact⟨h1,by rw[h2]⟩
theorem jrl {L:List Int}:∀v∈L.map (Value.int .i64),v.oneCell'=true:=fun v hv=>by
 obtain⟨x,_,rfl⟩:=List.mem_map.1 hv
 rfl
section
variable {w:World} {b off n c:Nat} {L:List Int} (h:kc2 w b off n c L)
include h
theorem jgx:∀j v,(L.map (Value.int .i64))[j]?=some v→w.cell? ⟨b,off+j,none⟩=some v:=fun j v hv=>by
 obtain⟨cs,e,fr,h1,_,_,_,_,_,h7⟩:=h
 obtain⟨hj,rfl⟩:=kjp hv
 simp only[World.cell?,h1,Option.isSome_none,Bool.false_eq_true,if_false]
 exact h7 j hj
theorem j4p:∀j,j<c→(w.cell? ⟨b,off+j,none⟩).isSome=true:=fun j hj=>by
 obtain⟨cs,e,fr,h1,h2,_⟩:=h
 simp only[World.cell?,h1,Option.isSome_none,Bool.false_eq_true,if_false]
 rw[Array.getElem?_eq_getElem (by omega)]
 rfl
theorem j1v:∀q,off≤q→w.frozen? ⟨b,q,none⟩=false:=fun q hq=>by
 obtain⟨cs,e,fr,h1,_,h3,_⟩:=h
 have:=h3 q hq
 simp only[World.frozen?,h1]
 simp only[Bool.and_eq_false_iff,decide_eq_false_iff_not]
 omega
theorem j6n:∃e k,w.shape? b=some (e,k)∧off+c≤k:=by
 obtain⟨cs,e,fr,h1,h2,_⟩:=h
 exact⟨e,cs.size,by simp[World.shape?,h1],h2⟩
theorem jr1:L.length=n∧n≤c∧c≤9223372036854775807∧b<w.heap.size:=by
 obtain⟨cs,e,fr,h1,_,_,h4,h5,h6,_⟩:=h
 exact⟨h4,h5,h6,(Array.getElem?_eq_some_iff.1 h1).1⟩
end
theorem j7m {L V:List Int} {i k j:Nat} (hi:i≤L.length) (hk:k≤L.length) (h:j< (jxy L i k V).length):(jxy L i k V)[j]?=if j<i then L[j]? else if j<i+V.length then V[j-i]? else L[k+ (j-(i+V.length))]?:=by
 unfold jxy
 by_cases h1:j<i
 ·rw[if_pos h1,List.append_assoc,List.getElem?_append_left (by simp;omega),List.getElem?_take,if_pos h1]
 ·rw[if_neg h1]
  by_cases h2:j<i+V.length
  ·rw[if_pos h2,List.append_assoc,List.getElem?_append_right (by simp;omega),List.getElem?_append_left (by simp;omega)]
   congr 1
   simp;omega
  ·rw[if_neg h2,List.getElem?_append_right (by simp;omega),List.getElem?_drop]
   congr 1
   simp;omega
theorem j5i {L V:List Int} {i k:Nat} (hi:i≤L.length) (hk:k≤L.length):(jxy L i k V).length=i+V.length+ (L.length-k):=by
 unfold jxy;simp;omega
theorem j5k {w W:World} {b off n c i k:Nat} {L V:List Int} (h:kc2 w b off n c L) (hi:i≤k) (hk:k≤n) (hr:i+V.length+ (n-k)≤c) (hW:W.heap=w.heap) (ho:W.os=w.os) (ht:W.tape=w.tape) (hu:W.output=w.output) {m:Nat} (hm:m=i+V.length+ (n-k)):
  kna w ((W.setCells b (off+ (i+V.length)) ((L.map (Value.int .i64)).drop k)).setCells b (off+i) (V.map (Value.int .i64))) b off c (jxy L i k V) (.slice (some ⟨b,off,none⟩) m c):=by
 obtain⟨cs,e,fr,h1,h2,h3,h4,h5,h6,h7⟩:=h
 have hl:=j5i (L:=L) (V:=V) (i:=i) (k:=k) (by omega) (by omega)
 obtain⟨a1,a2,a3,a4,a5,cs1,a6,a7,a8⟩:=Go.Vm.setCells_facts b ((L.map (Value.int .i64)).drop k) (off+ (i+V.length)) W cs e fr (by rw[hW];exact h1)
 obtain⟨b1,b2,b3,b4,b5,cs2,b6,b7,b8⟩:=Go.Vm.setCells_facts b (V.map (Value.int .i64)) (off+i) _ cs1 e fr a6
 refine⟨by rw[hl,hm,h4],by rw[hl];omega,b1.trans (a1.trans ho),b2.trans (a2.trans ht),b3.trans (a3.trans hu),b4.trans (a4.trans (by rw[hW])),fun x hx=>(b5 x hx).trans ((a5 x hx).trans (by rw[hW])),fun cs' e' fr' hc=>?_⟩
 rw[h1] at hc
 cases hc
 refine⟨cs2,b6,by rw[b7,a7],fun j hj=>?_⟩
 have hg:=j7m (L:=L) (V:=V) (i:=i) (k:=k) (by omega) (by omega) hj
 rw[List.getElem?_eq_getElem hj] at hg
 rw[hl] at hj
 rw[b8 _ (by omega)]
 by_cases g1:j<i
 ·rw[if_neg (by omega),a8 _ (by omega),if_neg (by omega),h7 j (by omega)]
  rw[if_pos g1,List.getElem?_eq_getElem (by omega)] at hg
  rw[Option.some.inj hg]
 ·rw[if_neg g1] at hg
  by_cases g2:j<i+V.length
  ·rw[if_pos ⟨by omega,by simp;omega⟩]
   rw[if_pos g2,List.getElem?_eq_getElem (by omega)] at hg
   rw[List.getElem?_map,show off+j-(off+i)=j-i by omega,List.getElem?_eq_getElem (by omega),Option.some.inj hg]
   rfl
  ·rw[if_neg (by simp;omega),a8 _ (by omega),if_pos ⟨by omega,by simp;omega⟩]
   rw[if_neg g2,List.getElem?_eq_getElem (by omega)] at hg
   rw[List.getElem?_drop,List.getElem?_map,show k+ (off+j-(off+ (i+V.length)))=k+ (j-(i+V.length)) by omega,List.getElem?_eq_getElem (by omega),Option.some.inj hg]
   rfl
theorem jzb (n:Nat):(Builtin.zeroCells (Value.int .i64 0).cells n).size=n:=by simp[Builtin.zeroCells,Value.cells]
theorem j7z {w w':World} (h1:w'.os=w.os) (h2:w'.tape=w.tape) (h3:w'.output=w.output) (h4:w.heap.size≤w'.heap.size) (h5:∀x,x<w.heap.size→w'.heap[x]?=w.heap[x]?):Below w.heap.size w w':=⟨h1,h2,h3,h4,h5⟩
theorem j0o {w W:World} {ROW:Array Value} {G:Nat} {N:List Int} {m:Nat} (hW:W.heap=w.heap.push (.cells ROW 3)) (ho:W.os=w.os) (ht:W.tape=w.tape) (hu:W.output=w.output) (hG:G≤ROW.size) (h1:N.length≤G) (h2:G≤9223372036854775807) (hm:m=N.length)
  (hc:∀j (h:j<N.length),ROW[j]?=some (.int .i64 N[j])):jn3 w W N (.slice (some ⟨w.heap.size,0,none⟩) m G):=
 ⟨G,ROW,3,by rw[hm],h1,h2,by rw[hW];simp,hG,hc,j7z ho ht hu (by rw[hW];simp) fun x hx=>by rw[hW,Array.getElem?_push,if_neg (by omega)]⟩
theorem kb7 {w W W2:World} {ROW:Array Value} {G i k n:Nat} {L V:List Int} {m:Nat} (hW:W.heap=w.heap.push (.cells ROW 3)) (ho:W.os=w.os) (ht:W.tape=w.tape) (hu:W.output=w.output) (hG:G≤ROW.size) (hn:L.length=n) (hi:i≤k) (hk:k≤n)
  (hm:m=i+V.length+ (n-k)) (h1:m≤G) (h2:G≤9223372036854775807) (hc:∀j (h:j<L.length),j<i→ROW[j]?=some (.int .i64 L[j]))
  (hW2:W2.heap=(W.setCells w.heap.size i (V.map (Value.int .i64))).heap) (ho2:W2.os=W.os) (ht2:W2.tape=W.tape) (hu2:W2.output=W.output):
  jn3 w (W2.setCells w.heap.size (i+V.length) ((L.map (Value.int .i64)).drop k)) (jxy L i k V) (.slice (some ⟨w.heap.size,0,none⟩) m G):=by
 have hl:=j5i (L:=L) (V:=V) (i:=i) (k:=k) (by omega) (by omega)
 obtain⟨a1,a2,a3,a4,a5,cs1,a6,a7,a8⟩:=Go.Vm.setCells_facts w.heap.size (V.map (Value.int .i64)) i W ROW 3 (0,0) (by rw[hW];simp)
 obtain⟨b1,b2,b3,b4,b5,cs2,b6,b7,b8⟩:=Go.Vm.setCells_facts w.heap.size ((L.map (Value.int .i64)).drop k) (i+V.length) W2 cs1 3 (0,0) (by rw[hW2];exact a6)
 refine⟨G,cs2,3,by rw[hl,hm,hn],by rw[hl];omega,h2,b6,by omega,fun j hj=>?_,j7z (b1.trans (ho2.trans ho)) (b2.trans (ht2.trans ht)) (b3.trans (hu2.trans hu)) (by rw[b4,hW2,a4,hW];simp) fun x hx=>?_⟩
 ·have hg:=j7m (L:=L) (V:=V) (i:=i) (k:=k) (by omega) (by omega) hj
  rw[List.getElem?_eq_getElem hj] at hg
  rw[hl] at hj
  rw[b8 _ (by omega)]
  by_cases g1:j<i
  ·rw[if_neg (by omega),a8 _ (by omega),if_neg (by omega),hc j (by omega) g1]
   rw[if_pos g1,List.getElem?_eq_getElem (by omega)] at hg
   rw[Option.some.inj hg]
  ·rw[if_neg g1] at hg
   by_cases g2:j<i+V.length
   ·rw[if_neg (by omega),a8 _ (by omega),if_pos ⟨by omega,by simp;omega⟩]
    rw[if_pos g2,List.getElem?_eq_getElem (by omega)] at hg
    rw[List.getElem?_map,List.getElem?_eq_getElem (by omega),Option.some.inj hg]
    rfl
   ·rw[if_pos ⟨by omega,by simp;omega⟩]
    rw[if_neg g2,List.getElem?_eq_getElem (by omega)] at hg
    rw[List.getElem?_drop,List.getElem?_map,List.getElem?_eq_getElem (by omega),Option.some.inj hg]
    rfl
 ·rw[b5 x (by omega),hW2,a5 x (by omega),hW,Array.getElem?_push,if_neg (by omega)]
theorem jzm (b:Nat):∀(vs:List Value) (o:Nat) (w:World),(w.setCells b o vs).os=w.os∧(w.setCells b o vs).tape=w.tape∧(w.setCells b o vs).output=w.output
 | [],_,_=>⟨rfl,rfl,rfl⟩
 | v::vs,o,w=>by
   have h0:(w.setCell ⟨b,o,none⟩ v).os=w.os∧(w.setCell ⟨b,o,none⟩ v).tape=w.tape∧(w.setCell ⟨b,o,none⟩ v).output=w.output:=by
    unfold World.setCell
    split<;>exact⟨rfl,rfl,rfl⟩
   obtain⟨h1,h2,h3⟩:=jzm b vs (o+1) (w.setCell ⟨b,o,none⟩ v)
   exact⟨h1.trans h0.1,h2.trans h0.2.1,h3.trans h0.2.2⟩
theorem grown {w:World} {n c:Nat} (hn:n≤2000000):n≤grownCap w n c 3∧grownCap w n c 3≤9223372036854775807:=by
 refine⟨grownCap_ge w _ _ _,?_⟩
 have:=grownCap_le_maxLen w n c 3 (by unfold maxLen;omega)
 unfold maxLen at this
 omega
theorem kat {A B:List Value} {z:Nat} {j:Nat} (h:j<A.length+B.length):((A++B).toArray++Builtin.zeroCells (Value.int .i64 0).cells z)[j]?=(A++B)[j]?:=by
 rw[Array.getElem?_append_left (by simp;omega)]
 simp
theorem kg4 {A:List Value} {y z:Nat} {j:Nat} (h:j<A.length):(A.toArray++Builtin.zeroCells (Value.int .i64 0).cells y++Builtin.zeroCells (Value.int .i64 0).cells z)[j]?=A[j]?:=by
 rw[Array.getElem?_append_left (by simp;omega),Array.getElem?_append_left (by simp;omega)]
 simp
theorem e3:Tryz.laysNm221_ren.t 3=3:=by kernel_rfl
theorem ins_c (i:Nat):ko5 Tryz.prog 48 i i fun x y=>#[x,.int .i64 i,y]:=by
 intro b off n c vb voff m vc L V w hL hV hne _ hin hn hm hn6 hm3 _
 obtain⟨l1,l2,l3,l4⟩:=jr1 hL
 obtain⟨v1,v2,v3,v4⟩:=jr1 hV
 have jbg:=j5i (L:=L) (V:=V) (i:=i) (k:=i) (by omega) (by omega)
 by_cases hi:i<n
 ·by_cases hroom:n+m≤c
  ·obtain⟨tA,kA,sA,sA2⟩:=j6n hV
   obtain⟨tB,kB,sB,sB2⟩:=j6n hL
   refine(Any2.slices_Insert_int_shift Tryz.laysNm221 b off n c i vb voff m vc (L.map (Value.int .i64)) (V.map (Value.int .i64)) w hi hm hroom l3 (fun e=>hne e.symm) (by simpa using l1) (by simpa using v1) (jgx hL) (fun j hj=>j4p hL j (by omega)) (fun j hj=>j1v hL _ (by omega))
    (jgx hV) jrl jrl tA tB kA kB sA sB (by omega) (j1v hV _ (by omega)) (j1v hV _ (by omega))).mono ?_
   rintro e w' ⟨rfl,rfl⟩
   refine⟨_,rfl,.inl ?_⟩
   have:=j5k (W:=w.drew) (V:=V) hL (Nat.le_refl i) hin (by omega) rfl rfl rfl rfl (m:=n+m) (by omega)
   rw[v1] at this
   exact this
  ·refine(Any2.slices_Insert_int_grow Tryz.laysNm221 b off n c i vb voff m vc (L.map (Value.int .i64)) (V.map (Value.int .i64)) w hi hm l2 (by omega) (by omega) (by simpa using l1) (by simpa using v1) (jgx hL) (jgx hV) jrl jrl).mono ?_
   rintro e w' ⟨rfl,rfl⟩
   refine⟨_,rfl,.inr ?_⟩
   have g:=grown (w:=w) (n:=n+m) (c:=c) (by omega)
   have g1:=g.1
   have g2:=g.2
   have:=kb7 (w:=w) (L:=L) (V:=V) (i:=i) (k:=i) (n:=n) (m:=n+m) (G:=grownCap w (n+m) c 3) (W:=(w.alloc (.cells (((L.map (Value.int .i64)).take i).toArray++Builtin.zeroCells (Value.int .i64 0).cells (n+m-i)++Builtin.zeroCells (Value.int .i64 0).cells (grownCap w (n+m) c 3-(n+m))) 3)).drew)
    (W2:=((w.alloc (.cells (((L.map (Value.int .i64)).take i).toArray++Builtin.zeroCells (Value.int .i64 0).cells (n+m-i)++Builtin.zeroCells (Value.int .i64 0).cells (grownCap w (n+m) c 3-(n+m))) 3)).drew.setCells w.heap.size i (V.map (Value.int .i64))).drew)
    rfl rfl rfl rfl (by simp[jzb];omega) l1 (Nat.le_refl i) hin (by omega) g.1 g.2 (fun j hj hji=>by
     rw[kg4 (by simp;omega),List.getElem?_take,if_pos hji,List.getElem?_map,List.getElem?_eq_getElem hj];rfl) rfl (jzm _ _ _ _).1 (jzm _ _ _ _).2.1 (jzm _ _ _ _).2.2
   rw[v1] at this
   exact this
 ·obtain rfl:i=n:=by omega
  have hnil:jxy L i i V=L++V:=by
   unfold jxy
   rw[List.take_of_length_le (by omega),List.drop_of_length_le (by omega),List.append_nil]
  by_cases hroom:i+m≤c
  ·refine(Any2.slices_Insert_int_end_room Tryz.laysNm221 b off i c vb voff m vc (V.map (Value.int .i64)) w hm hroom l3 (by simpa using v1) (fun j hj=>by rw[Nat.add_assoc];exact j4p hL _ (by omega)) (fun j hj=>j1v hL _ (by omega)) (jgx hV) jrl).mono ?_
   rintro e w' ⟨rfl,rfl⟩
   refine⟨_,rfl,.inl ?_⟩
   have:=j5k (W:=w) (V:=V) hL (Nat.le_refl i) hin (by omega) rfl rfl rfl rfl (m:=i+m) (by omega)
   rw[List.drop_of_length_le (by simp;omega)] at this
   exact this
  ·refine(Any2.slices_Insert_int_end_grow Tryz.laysNm221 (some ⟨b,off,none⟩) i c vb voff m vc (L.map (Value.int .i64)) (V.map (Value.int .i64)) w hm l2 (by omega) (by omega) (by simpa using l1) (by simpa using v1) (fun h=>by cases h) (fun a ha j v hv=>by
    cases ha;rw[Addr.add_lit];exact jgx hL j v hv) (jgx hV) jrl).mono ?_
   rintro e w' ⟨rfl,rfl⟩
   simp only[e3]
   have g:=grown (w:=w) (n:=i+m) (c:=c) (by omega)
   have g1:=g.1
   have g2:=g.2
   refine⟨_,rfl,.inr (j0o rfl rfl rfl rfl (by simp[jzb];omega) (by omega) g.2 (by omega) fun j hj=>?_)⟩
   rw[kat (by simp;omega),←List.map_append,List.getElem?_map]
   simp only[hnil] at hj ⊢
   rw[List.getElem?_eq_getElem hj]
   rfl
theorem ins_0 (vb voff m vc:Nat) (V:List Int) (w:World) (hV:kc2 w vb voff m vc V) (hm:0<m) (hm3:m≤1000):Calls Tryz.prog 48 #[.slice none 0 0,.int .i64 (0:Nat),.slice (some ⟨vb,voff,none⟩) m vc] w fun e w'=>∃v,e=.returned v∧jn3 w w' V v:=by
 obtain⟨v1,v2,v3,v4⟩:=jr1 hV
 refine(Any2.slices_Insert_int_end_grow Tryz.laysNm221 none 0 0 vb voff m vc [] (V.map (Value.int .i64)) w hm (Nat.le_refl _) (by omega) (by omega) rfl (by simpa using v1) (fun _=>rfl) (fun a ha=>by cases ha) (jgx hV) jrl).mono ?_
 rintro e w' ⟨rfl,rfl⟩
 simp only[e3]
 have g:=grown (w:=w) (n:=0+m) (c:=0) (by omega)
 have g1:=g.1
 have g2:=g.2
 refine⟨_,rfl,j0o rfl rfl rfl rfl (by simp[jzb];omega) (by omega) g.2 (by omega) fun j hj=>?_⟩
 rw[kat (by simp;omega),List.nil_append,List.getElem?_map,List.getElem?_eq_getElem hj]
 rfl
theorem ins_00:ko6 Tryz.prog 48:=by
 intro B off c VB voff m vc V w hL hV hne hm hm3
 obtain⟨v1,v2,v3,v4⟩:=jr1 hV
 by_cases hroom:0+m≤c
 ·have hL:=hL (by omega)
  obtain⟨l1,l2,l3,l4⟩:=jr1 hL
  refine(Any2.slices_Insert_int_end_room Tryz.laysNm221 B off 0 c VB voff m vc (V.map (Value.int .i64)) w hm hroom l3 (by simpa using v1) (fun j hj=>by rw[Nat.add_assoc];exact j4p hL _ (by omega)) (fun j hj=>j1v hL _ (by omega)) (jgx hV) jrl).mono ?_
  rintro e w' ⟨rfl,rfl⟩
  refine⟨_,rfl,.inl ?_⟩
  have:=j5k (W:=w) (V:=V) hL (Nat.le_refl 0) (Nat.le_refl 0) (by omega) rfl rfl rfl rfl (m:=0+m) (by omega)
  rw[List.drop_of_length_le (by simp)] at this
  have e:jxy [] 0 0 V=V:=by simp[jxy]
  rw[e] at this
  exact this
 ·refine(Any2.slices_Insert_int_end_grow Tryz.laysNm221 (some ⟨B,off,none⟩) 0 c VB voff m vc [] (V.map (Value.int .i64)) w hm (Nat.zero_le _) (by omega) (by omega) rfl (by simpa using v1) (fun h=>by cases h) (fun a ha j v hv=>by simp at hv) (jgx hV) jrl).mono ?_
  rintro e w' ⟨rfl,rfl⟩
  simp only[e3]
  have g:=grown (w:=w) (n:=0+m) (c:=c) (by omega)
  have g1:=g.1
  have g2:=g.2
  refine⟨_,rfl,.inr (j0o rfl rfl rfl rfl (by simp[jzb];omega) (by omega) g.2 (by omega) fun j hj=>?_)⟩
  rw[kat (by simp;omega),List.nil_append,List.getElem?_map,List.getElem?_eq_getElem hj]
  rfl
end InsC
end Go.Proofs
