/-
  Nets: the comparisons of squares and of hinges, walked.
  Nets: the comparison of hinges, walked.
-/
import Derived.Test.YtahplmacekfjgaaGreatDoorWk
set_option linter.unusedSimpArgs false
set_option linter.unusedVariables false
set_option linter.unusedSectionVars false
set_option linter.unnecessarySimpa false
namespace Go.Proofs
open Go.RowKit Go.Shelf Go.Lib Go.Vm.X Go.Vm Go.Sort
namespace N38
def Grw (w w':World):Prop:=∃q os',w'=grow (w.drewN q) os'
theorem Grw.refl (w:World):Grw w w:=⟨0,#[],by simp[grow_empty,World.drewN]⟩
theorem Grw.alloc {w w':World} (h:Grw w w') (o:Obj):Grw w (w'.alloc o):=by
 obtain⟨q,os,rfl⟩:=h
 exact⟨q,os++#[o],by rw[alloc_eq_grow,grow_grow]⟩
theorem Grw.drewN {w w':World} (h:Grw w w') (d:Nat):Grw w (w'.drewN d):=by
 obtain⟨q,os,rfl⟩:=h
 exact⟨q+d,os,by simp[grow,World.drewN,Nat.add_assoc]⟩
theorem Grw.drew {w w':World} (h:Grw w w'):Grw w w'.drew:=h.drewN 1
theorem j0s (a b:Int):Lib.compareInt a b=c3 a b:=by
 unfold Lib.compareInt c3
 by_cases h:a<b
 ·simp[h]
 ·by_cases h2:b<a<;>simp[h,h2]
set_option maxHeartbeats 4000000 in
set_option maxRecDepth 100000 in
theorem j6d (a b:Int) (p c:Nat) (w:World) (h0:w.cell? ⟨p,0,none⟩=some (.int .i64 a)) (h1:w.cell? ⟨p,1,none⟩=some (.int .i64 b)):Calls Tryz.prog 34 #[.slice (some ⟨p,0,none⟩) 2 c] w fun e w'=>e=.returned (.int .i64 (if a=0 then b else a))∧∃d:Nat,w'=w.drewN d:=by
 have mixed:=mixed
 go_enter Tryz.func34,Tryz.ntmps34
 go_wp2
 go_loopg [8] 2 (fun g s8 wr=>∃k:Nat,k≤2∧2-k≤g∧s8=.int .i64 k∧(∃d:Nat,wr=w.drewN d)∧Aside ((1≤k→a=0)∧(2≤k→b=0)))
 case atStart=>exact⟨0,Nat.zero_le _,by omega,rfl,⟨0,rfl⟩,fun h=>absurd h (by omega),fun h=>absurd h (by omega)⟩
 case round=>
  obtain⟨k,hk,hg,rfl,⟨d,rfl⟩,A⟩:=hrel
  rcases(by omega:k=0∨k=1∨k=2) with rfl | rfl | rfl
  ·by_cases ha:a=0
   ·go_wp2
    go_roundg 1
    case measure=>omega
    case rel=>exact⟨1,by omega,by omega,by go_num,⟨d,rfl⟩,fun _=>ha,fun h=>absurd h (by omega)⟩
   ·go_wp2
    go_ret
    exact⟨by first | rfl | (rw[if_neg ha];rfl) | simp[ha],d,rfl⟩
  ·have ha:=A.out.1 (by omega)
   by_cases hb:b=0
   ·go_wp2
    go_roundg 0
    case measure=>omega
    case rel=>exact⟨2,by omega,by omega,by go_num,⟨d,rfl⟩,fun _=>ha,fun _=>hb⟩
   ·go_wp2
    go_ret
    exact⟨by first | rfl | (rw[if_pos ha];rfl) | simp[ha],d,rfl⟩
  ·have ha:=A.out.1 (by omega)
   have hb:=A.out.2 (by omega)
   go_wp2
   go_ret
   exact⟨by first | rfl | (rw[if_pos ha,hb];rfl) | simp[ha,hb],d,rfl⟩
structure Two (w:World) (x y u v:Int) (w':World):Prop where
 c0:w'.cell? ⟨w.heap.size,0,none⟩=some (.int .i64 x)
 c1:w'.cell? ⟨w.heap.size,1,none⟩=some (.int .i64 y)
 c2:w'.cell? ⟨w.heap.size+1,0,none⟩=some (.int .i64 u)
 c3:w'.cell? ⟨w.heap.size+1,1,none⟩=some (.int .i64 v)
 g:Grw w w'
theorem jfh {w:World} {p:Addr} {v:Value} (h:w.cell? p=some v):w.drew.cell? p=some v:=h
def orI (a b:Int):Int:=if a=0 then b else a
theorem Grw.cell {w w':World} {p:Addr} {v:Value} (h:Grw w w') (hc:w.cell? p=some v):w'.cell? p=some v:=by
 obtain⟨q,os',rfl⟩:=h
 rw[cell?_grow _ _ _ (by have:=World.block_lt_of_cell? w p hc;simpa[World.drewN] using this)]
 exact hc
theorem Grw.trans {w1 w2 w3:World} (h:Grw w1 w2) (k:Grw w2 w3):Grw w1 w3:=by
 obtain⟨q,os,rfl⟩:=h
 obtain⟨q',os',rfl⟩:=k
 exact⟨q+q',os++os',by simp[grow,World.drewN,Nat.add_assoc,Array.append_assoc]⟩
theorem Grw.al (w:World) (o:Obj):Grw w (w.alloc o):=(Grw.refl w).alloc o
theorem Grw.ald (w:World) (o:Obj):Grw w.drew (w.alloc o).drew:=(Grw.refl w.drew).alloc o
theorem kb7 (Y:World) (s:Nat) (hs:Y.heap.size=s) (a b:Int):Calls Tryz.prog 34 #[.slice (some ⟨s,0,none⟩) 2 2] ((Y.alloc (.cells #[.int .i64 a,.int .i64 b] 3)).drew) fun e w'=>e=.returned (.int .i64 (orI a b))∧Grw ((Y.alloc (.cells #[.int .i64 a,.int .i64 b] 3)).drew) w':=by
 subst hs
 exact(j6d a b _ _ _ (jfh (j6l Y _ _ _).1) (jfh (j6l Y _ _ _).2)).mono fun e w' ⟨h,d,hw⟩=>⟨h,by rw[hw];exact(Grw.refl _).drewN _⟩
abbrev E4 (w:World) (x y u v:Int) (w':World):Prop:=w'.cell? ⟨w.heap.size,0,none⟩=some (.int .i64 x)∧w'.cell? ⟨w.heap.size,1,none⟩=some (.int .i64 y)∧w'.cell? ⟨w.heap.size+1,0,none⟩=some (.int .i64 u)∧w'.cell? ⟨w.heap.size+1,1,none⟩=some (.int .i64 v)∧Grw w w'
theorem E4.step {w:World} {x y u v:Int} {w1 w2:World} (k:Grw w1 w2) (h:E4 w x y u v w1):E4 w x y u v w2:=by
 obtain⟨h0,h1,h2,h3,h8⟩:=h
 exact⟨k.cell h0,k.cell h1,k.cell h2,k.cell h3,h8.trans k⟩
set_option maxHeartbeats 4000000 in
set_option maxRecDepth 100000 in
theorem cmpS_walk (x y u v:Int) (w:World):Calls Tryz.prog 31 #[.agg #[.int .i64 x,.int .i64 y],.agg #[.int .i64 u,.int .i64 v]] w fun e w'=>e=.returned (.int .i64 (cfS (x,y) (u,v)))∧Grw w w':=by
 have mixed:=mixed
 have hT:Two w x y u v ((w.alloc (.cells #[.int .i64 x,.int .i64 y] 35)).alloc (.cells #[.int .i64 u,.int .i64 v] 35)):=by
  obtain⟨e0,e1⟩:=j6l w (.int .i64 x) (.int .i64 y) 35
  obtain⟨e2,e3⟩:=j6l (w.alloc (.cells #[.int .i64 x,.int .i64 y] 35)) (.int .i64 u) (.int .i64 v) 35
  have hs:(w.alloc (.cells #[.int .i64 x,.int .i64 y] 35)).heap.size=w.heap.size+1:=by simp
  rw[hs] at e2 e3
  exact⟨jcq _ e0,jcq _ e1,e2,e3,((Grw.refl w).alloc _).alloc _⟩
 have q0:=jfh hT.c0
 have q1:=jfh hT.c1
 have q2:=jfh hT.c2
 have q3:=jfh hT.c3
 have q4:=hT.g.drew
 clear hT
 have h52:=kb7 ((w.alloc (.cells #[.int .i64 x,.int .i64 y] 35)).alloc (.cells #[.int .i64 u,.int .i64 v] 35)) (w.heap.size+1+1) (by simp)
 go_enter Tryz.func31,Tryz.ntmps31
 go_wp2
 go_region_held3 (fun w'=>w'.cell? ⟨w.heap.size,0,none⟩=some (.int .i64 x)∧w'.cell? ⟨w.heap.size,1,none⟩=some (.int .i64 y)∧w'.cell? ⟨w.heap.size+1,0,none⟩=some (.int .i64 u)∧w'.cell? ⟨w.heap.size+1,1,none⟩=some (.int .i64 v)∧Grw w w')
  (first | (with_reducible exact⟨q0,q1,q2,q3,q4⟩) | (with_reducible assumption) | (with_reducible exact E4.step (Grw.ald _ _) (by assumption)) | (with_reducible exact E4.step (by assumption) (by assumption)))
  (first | (go_at_call 29;refine(Tryz.cmp_Compare_int _ _ _).mono ?_;rintro e w' ⟨rfl,rfl⟩) | (go_at_call 34;refine(h52 _ _).mono ?_;rintro e w' ⟨rfl,hG⟩))
 go_split_ands
 go_wp2
 go_ret
 refine⟨?_,by assumption⟩
 rw[j0s,j0s]
 unfold cfS orI
 by_cases h:c3 y v=0<;>simp[h]
set_option maxHeartbeats 1000000 in
theorem ju5 (x y:Int) (u:Bool) (b:Int) (w:World):Calls Tryz.prog 40 #[.agg #[.int .i64 x,.int .i64 y,.bool u,.int .i8 b]] w fun e w'=>e=.returned (.int .i64 (bif u then 1 else 0))∧Grw w w':=by
 have mixed:=mixed
 cases u
 all_goals
  go_enter Tryz.func40,Tryz.ntmps40
  go_wp2
  go_ret
  refine⟨rfl,?_⟩
  first | exact(Grw.refl w).alloc _ | exact((Grw.refl w).alloc _).drewN _
theorem kiz (W:World) (a b c d:Value) (ty:Nat):(W.alloc (.cells #[a,b,c,d] ty)).cell? ⟨W.heap.size,0,none⟩=some a∧(W.alloc (.cells #[a,b,c,d] ty)).cell? ⟨W.heap.size,1,none⟩=some b∧(W.alloc (.cells #[a,b,c,d] ty)).cell? ⟨W.heap.size,2,none⟩=some c∧(W.alloc (.cells #[a,b,c,d] ty)).cell? ⟨W.heap.size,3,none⟩=some d:=
 ⟨World.cell?_alloc_new W _ _ 0,World.cell?_alloc_new W _ _ 1,World.cell?_alloc_new W _ _ 2,World.cell?_alloc_new W _ _ 3⟩
theorem j80 (Y:World) (a b:Int):Calls Tryz.prog 34 #[.slice (some ⟨Y.heap.size,0,none⟩) 2 2] (Y.alloc (.cells #[.int .i64 a,.int .i64 b] 3)) fun e w'=>e=.returned (.int .i64 (orI a b))∧Grw (Y.alloc (.cells #[.int .i64 a,.int .i64 b] 3)) w':=
 (j6d a b _ _ _ (j6l Y _ _ _).1 (j6l Y _ _ _).2).mono fun e w' ⟨h,d,hw⟩=>⟨h,by rw[hw];exact(Grw.refl _).drewN _⟩
abbrev E8 (w:World) (x y:Int) (u:Bool) (b x' y':Int) (u':Bool) (b':Int) (w':World):Prop:=
 w'.cell? ⟨w.heap.size,0,none⟩=some (.int .i64 x)∧w'.cell? ⟨w.heap.size,1,none⟩=some (.int .i64 y)∧w'.cell? ⟨w.heap.size,2,none⟩=some (.bool u)∧w'.cell? ⟨w.heap.size,3,none⟩=some (.int .i8 b)∧
 w'.cell? ⟨w.heap.size+1,0,none⟩=some (.int .i64 x')∧w'.cell? ⟨w.heap.size+1,1,none⟩=some (.int .i64 y')∧w'.cell? ⟨w.heap.size+1,2,none⟩=some (.bool u')∧w'.cell? ⟨w.heap.size+1,3,none⟩=some (.int .i8 b')∧Grw w w'
theorem E8.step {w:World} {x y:Int} {u:Bool} {b x' y':Int} {u':Bool} {b':Int} {w1 w2:World} (k:Grw w1 w2) (h:E8 w x y u b x' y' u' b' w1):E8 w x y u b x' y' u' b' w2:=by
 obtain⟨h0,h1,h2,h3,h4,h5,h6,h7,h8⟩:=h
 exact⟨k.cell h0,k.cell h1,k.cell h2,k.cell h3,k.cell h4,k.cell h5,k.cell h6,k.cell h7,h8.trans k⟩
end N38
end Go.Proofs
namespace Go.Proofs
open Go.RowKit Go.Shelf Go.Lib Go.Vm.X Go.Vm Go.Sort
namespace N38
set_option maxHeartbeats 4000000 in
set_option maxRecDepth 100000 in
theorem cmpH_walk (x y:Int) (u:Bool) (b x' y':Int) (u':Bool) (b':Int) (w:World):Calls Tryz.prog 35 #[.agg #[.int .i64 x,.int .i64 y,.bool u,.int .i8 b],.agg #[.int .i64 x',.int .i64 y',.bool u',.int .i8 b']] w fun e w'=>e=.returned (.int .i64 (cfH ((x,y),(u,b)) ((x',y'),(u',b'))))∧Grw w w':=by
 have mixed:=mixed
 have hT:E8 w x y u b x' y' u' b' ((w.alloc (.cells #[.int .i64 x,.int .i64 y,.bool u,.int .i8 b] 39)).alloc (.cells #[.int .i64 x',.int .i64 y',.bool u',.int .i8 b'] 39)).drew:=by
  obtain⟨e0,e1,e2,e3⟩:=kiz w (.int .i64 x) (.int .i64 y) (.bool u) (.int .i8 b) 39
  obtain⟨f0,f1,f2,f3⟩:=kiz (w.alloc (.cells #[.int .i64 x,.int .i64 y,.bool u,.int .i8 b] 39)) (.int .i64 x') (.int .i64 y') (.bool u') (.int .i8 b') 39
  have hs:(w.alloc (.cells #[.int .i64 x,.int .i64 y,.bool u,.int .i8 b] 39)).heap.size=w.heap.size+1:=by simp
  rw[hs] at f0 f1 f2 f3
  exact⟨jfh (jcq _ e0),jfh (jcq _ e1),jfh (jcq _ e2),jfh (jcq _ e3),jfh f0,jfh f1,jfh f2,jfh f3,(((Grw.refl w).alloc _).alloc _).drew⟩
 obtain⟨q0,q1,q2,q3,q4,q5,q6,q7,q8⟩:=hT
 go_enter Tryz.func35,Tryz.ntmps35
 go_wp2
 go_region_held3 (fun w'=>w'.cell? ⟨w.heap.size,0,none⟩=some (.int .i64 x)∧w'.cell? ⟨w.heap.size,1,none⟩=some (.int .i64 y)∧w'.cell? ⟨w.heap.size,2,none⟩=some (.bool u)∧w'.cell? ⟨w.heap.size,3,none⟩=some (.int .i8 b)∧w'.cell? ⟨w.heap.size+1,0,none⟩=some (.int .i64 x')∧w'.cell? ⟨w.heap.size+1,1,none⟩=some (.int .i64 y')∧w'.cell? ⟨w.heap.size+1,2,none⟩=some (.bool u')∧w'.cell? ⟨w.heap.size+1,3,none⟩=some (.int .i8 b')∧Grw w w')
  (first | (with_reducible exact⟨q0,q1,q2,q3,q4,q5,q6,q7,q8⟩) | (with_reducible assumption) | (with_reducible exact E8.step (by assumption) (by assumption)) | (with_reducible exact E8.step (Grw.al _ _) (by assumption)))
  (first | (go_at_call 29;refine(Tryz.cmp_Compare_int _ _ _).mono ?_;rintro e w' ⟨rfl,rfl⟩) | (go_at_call 31;refine(cmpS_walk _ _ _ _ _).mono ?_;rintro e w' ⟨rfl,hG⟩) | (go_at_call 40;refine(ju5 _ _ _ _ _).mono ?_;rintro e w' ⟨rfl,hG⟩) | (go_at_call 34;refine(j80 _ _ _).mono ?_;rintro e w' ⟨rfl,hG⟩))
 all_goals
  go_split_ands
  go_wp2
  go_ret
  refine⟨?_,by assumption⟩
  rw[j0s]
  unfold cfH ked orI
  by_cases h:cfS (x,y) (x',y')=0<;>simp[h]
end N38
end Go.Proofs
