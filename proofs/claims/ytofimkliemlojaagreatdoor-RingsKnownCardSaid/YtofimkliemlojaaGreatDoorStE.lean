/-
  strips.Ends: the one function of the chapter that ranges over a function.
-/
import Derived.Shelf.Abstract
import Derived.WalkKit
import Derived.OwnWalkIn
import Derived.TacticsInMore
import Derived.LoopNIn
import Derived.LoopIn
import Derived.Test.YtofimkliemlojaaGreatDoorProg
import Derived.RangeFuncBox
set_option linter.unusedSimpArgs false
set_option linter.unusedVariables false
set_option linter.unusedSectionVars false
set_option linter.unnecessarySimpa false
namespace Go.Proofs
open Go.RowKit Go.Shelf
attribute [local go_sem] Oper.semAt_some
namespace St
def eAt (L:List Int):Nat→Int
 | 0=>0
 | i+1=>eAt L i+L.getD i 0* (1-2* ((i:Int)%2))
def endsL (L:List Int):List Int:=(List.range (L.length+1)).map (eAt L)
theorem kch {L:List Int} (hL:∀x∈L,1≤x∧x≤64):∀i,i≤L.length→ -(64*i:Int)≤eAt L i∧eAt L i≤64*i
 | 0,_=>by simp[eAt]
 | i+1,h=>by
   have ih:=kch hL i (by omega)
   have hx:=hL (L.getD i 0) (by rw[List.getD_eq_getElem?_getD,List.getElem?_eq_getElem (by omega)];exact List.getElem_mem _)
   unfold eAt
   rcases(by omega:(i:Int)%2=0∨(i:Int)%2=1) with e | e<;>rw[e]<;>omega
theorem j3g (L:List Int) (i:Nat):(List.range (i+1)).map (eAt L)++[eAt L (i+1)]=(List.range (i+2)).map (eAt L):=by
 rw[List.range_succ (n:=i+1),List.map_append]
 rfl
theorem ke7 {L:List Int} {k:Nat} (h:k≤L.length+1):(List.range k).map (eAt L) <+:endsL L:=by
 unfold endsL
 refine⟨(List.range' k (L.length+1-k)).map (eAt L),?_⟩
 rw[←List.map_append]
 congr 1
 rw[List.range_eq_range',List.range_eq_range']
 have:=List.range'_append_1 (s:=0) (m:=k) (n:=L.length+1-k)
 rw[Nat.zero_add] at this
 rw[this]
 congr 1
 omega
theorem wrap_in {x:Int} (h: -9223372036854775808≤x∧x≤9223372036854775807):wrap64 x=x:=by
 unfold wrap64
 omega
theorem ke9 {L:List Int} (hL:∀x∈L,1≤x∧x≤64) {i:Nat} (h:i<L.length) (hi:i≤L.length) (hi32:(i:Int)<1000000):wrap64 (eAt L i+wrap64 (L[i] * (1-2* ((i:Int)%2))))=eAt L (i+1):=by
 have hx:=hL _ (List.getElem_mem h)
 have hb:=kch hL i hi
 have hg:L.getD i 0=L[i]:=by rw[List.getD_eq_getElem?_getD,List.getElem?_eq_getElem h];rfl
 show _=eAt L i+L.getD i 0* (1-2* ((i:Int)%2))
 rw[hg]
 generalize L[i]=x at hx ⊢
 have jbg:(i:Int)<1000000:=hi32
 rcases(by omega:(i:Int)%2=0∨(i:Int)%2=1) with e | e<;>rw[e]<;>rw[wrap_in (x:=x*_) (by omega),wrap_in (by omega)]
def Kp (n₀ Bn:Nat) (W W':World):Prop:=Below n₀ W W'∧∀v,W.cell? ⟨Bn,0,none⟩=some v→W'.cell? ⟨Bn,0,none⟩=some v
def kdb (n₀:Nat) (W:World) (b o:Nat) (L:List Int):Prop:=b<n₀∧∀i (h:i<L.length),W.cell? ⟨b,o+i,none⟩=some (.int .i64 L[i])
set_option maxRecDepth 100000 in
set_option maxHeartbeats 1000000 in
theorem koj (F:Fence) (n:Nat) (h57:F.fn 124) (hro:F.round=none) (hn:1≤n) (l Bn n₀ b o c:Nat) (L:List Int) (hL:∀x∈L,1≤x∧x≤64) (hl:L.length≤32) (J Jx:List Int→World→Prop)
  (hY:∀pre x W,J pre W→pre.length<L.length+1→YieldAt F (n-1) Tryz.prog l #[.int .i64 x] W fun e W'=>
    (e=.returned (.bool true)∧J (pre++[x]) W'∧Kp n₀ Bn W W')∨(e=.returned (.bool false)∧Jx (pre++[x]) W'))
  (W:World) (hc:W.cell? ⟨Bn,0,none⟩=some (.slice (some ⟨b,o,none⟩) L.length c)) (hE:kdb n₀ W b o L) (h0:J [] W):
  CallsIn F n Tryz.prog 124 #[.func (.yield l) #[] #[],.pointer (some ⟨Bn,0,none⟩)] W fun e W'=>(∃v,e=.returned v)∧
   ((∃ys,ys=endsL L∧J ys W')∨(∃pre,pre <+:endsL L∧Jx pre W')):=by
 refine callsIn_of_wp Tryz.func124 rfl h57 ?_ hro
 simp only[Tryz.ntmps124,List.size_toArray,List.length_cons,List.length_nil,Nat.reduceAdd,Nat.reduceSub,Array.replicate_succ,Array.replicate_zero,List.push_toArray,List.append_toArray,List.nil_append,List.cons_append]
 obtain⟨fn,tmps,assign,body,hy,hR⟩:=hY [] 0 W h0 (by simp)
 gi_wp2
 refine hR.mono ?_
 rintro e W3 (⟨rfl,hJ3,hk3⟩ | ⟨rfl,hJx3⟩)
 ·have hc3:=hk3.2 _ hc
  have hE3:kdb n₀ W3 b o L:=⟨hE.1,fun i h=>(hk3.1.cell (p:=⟨b,o+i,none⟩) hE.1).trans (hE.2 i h)⟩
  gi_wp2
  gi_loopw [13,3] (fun vi va wr=>∃i:Nat,vi=.int .i64 i∧va=.int .i64 (eAt L i)∧i≤L.length∧J ((List.range (i+1)).map (eAt L)) wr∧kdb n₀ wr b o L)
   (fun vi va wr=>match vi with | .int _ i=>L.length-i.toNat | _=>0)
  case atStart=>exact⟨0,rfl,rfl,by omega,hJ3,hE3⟩
  case round=>
   obtain⟨i,rfl,rfl,hi,hJi,hEi⟩:=hrel
   by_cases hlt:i<L.length
   ·have he:=hEi.2 i hlt
    have hbd:=kch hL i hi
    have hx:=hL _ (List.getElem_mem hlt)
    obtain⟨fn,tmps,assign,body,hy,hR⟩:=hY _ (wrap64 (eAt L i+wrap64 (L[i] * (1-2* ((i:Int)%2))))) wr hJi (by simp;omega)
    gi_wp2
    refine hR.mono ?_
    rw[ke9 hL hlt hi (by omega)]
    rintro e W4 (⟨rfl,hJ4,hk4⟩ | ⟨rfl,hJx4⟩)
    ·gi_wp2
     go_roundw
     case rel=>exact⟨i+1,by simp,rfl,by omega,by rw[←j3g];exact hJ4,hEi.1,fun k h=>(hk4.1.cell (p:=⟨b,o+k,none⟩) hEi.1).trans (hEi.2 k h)⟩
     case measure=>simp;omega
    ·gi_wp2
     refine bodyPost_ret (results_none rfl _ _ _) rfl ?_
     exact⟨⟨_,rfl⟩,.inr ⟨_,by rw[j3g];exact ke7 (by omega),hJx4⟩⟩
   ·have hie:i=L.length:=by omega
    subst hie
    gi_wp2
    go_end0
    exact⟨⟨_,rfl⟩,.inl ⟨_,rfl,hJi⟩⟩
 ·gi_wp2
  refine bodyPost_ret (results_none rfl _ _ _) rfl ?_
  exact⟨⟨_,rfl⟩,.inr ⟨[0],⟨_,by unfold endsL;rw[List.range_succ_eq_map];rfl⟩,hJx3⟩⟩
end St
end Go.Proofs
namespace Go.Proofs
open Go.RowKit Go.Shelf
attribute [local go_sem] Oper.semAt_some
namespace St
theorem j5z {W:World} {B:Nat} {v:Value} {t:TypeId} (h:W.heap[B]?=some (.cells #[v] t (0,0))):W.cell? ⟨B,0,none⟩=some v∧W.frozen? ⟨B,0,none⟩=false:=by
 constructor<;>simp[World.cell?,World.frozen?,h]
theorem j7x (W:World) (v:Value) (t:TypeId):(W.alloc (.cells #[v] t)).cell? ⟨W.heap.size,0,none⟩=some v∧(W.alloc (.cells #[v] t)).frozen? ⟨W.heap.size,0,none⟩=false:=
 j5z (World.alloc_heap_new W _)
theorem jnr {W:World} {a:Addr} {v:Value} (o:Obj) (h:W.cell? a=some v):(W.alloc o).cell? a=some v:=cell_kept h (World.grownBy_alloc W o none) (fun r e=>by cases e)
theorem j3b {W:World} {a:Addr} {v:Value} (o:Obj) (h:W.cell? a=some v) (hf:W.frozen? a=false):(W.alloc o).frozen? a=false:=(frozen_kept h (World.grownBy_alloc W o none) (fun r e=>by cases e)).trans hf
set_option maxRecDepth 100000 in
set_option maxHeartbeats 1000000 in
theorem koi (F:Fence) (n:Nat) (h33:F.fn 118) (hro:F.round=none) (vl vk:Value) (w:World):
  CallsIn F n Tryz.prog 118 #[.agg #[vl,vk]] w fun e w'=>e=.returned (.func (.func 124) #[] #[.pointer (some ⟨w.heap.size,0,none⟩)])∧w'=w.alloc (.cells #[vl,vk] 40):=by
 refine callsIn_of_wp Tryz.func118 rfl h33 ?_ hro
 simp only[Tryz.ntmps118,List.size_toArray,List.length_cons,List.length_nil,Nat.reduceAdd,Nat.reduceSub,Array.replicate_succ,Array.replicate_zero,List.push_toArray,List.append_toArray,List.nil_append,List.cons_append]
 gi_wp2
 go_ret
 exact⟨rfl,rfl⟩
theorem kep (F:Fence) (n:Nat) (h57:F.fn 124) (hro:F.round=none) (hn:1≤n) (Bn n₀ b o c:Nat) (L:List Int) (hL:∀x∈L,1≤x∧x≤64) (hl:L.length≤32) (w:World) (hBn:Bn<w.heap.size) (hn₀:n₀≤w.heap.size)
  (hc:w.cell? ⟨Bn,0,none⟩=some (.slice (some ⟨b,o,none⟩) L.length c)) (hE:kdb n₀ w b o L):
  SeqStopsK F n Tryz.prog 124 #[.pointer (some ⟨Bn,0,none⟩)] (fun x:Int=>#[Value.int .i64 x]) (Kp n₀ Bn) (fun ys=>ys=endsL L) (fun pre=>pre <+:endsL L) (L.length+1) w:=fun l J Jx W hW _ _ hY h0=>
 koj F n h57 hro hn l Bn n₀ b o c L hL hl J Jx hY W ((hW.cell (p:=⟨Bn,0,none⟩) hBn).trans hc) ⟨hE.1,fun i h=>(hW.cell (p:=⟨b,o+i,none⟩) (Nat.lt_of_lt_of_le hE.1 hn₀)).trans (hE.2 i h)⟩ h0
theorem kph {n₀ Bn:Nat} {A B C:World} (h:Kp n₀ Bn A B) (k:Kp n₀ Bn B C):Kp n₀ Bn A C:=⟨h.1.trans k.1,fun v hv=>k.2 v (h.2 v hv)⟩
theorem kpi {n₀ Bn:Nat} {w:World} (hn:n₀≤w.heap.size) (W:World) (l:Nat) (o o':Obj) (hl:w.heap.size≤l) (h:W.heap[l]?=some o) (hc:o.isCells=false) (hw:o.isWalk=false):Kp n₀ Bn W (W.putObj l o'):=
 ⟨belowK_b hn W l o o' hl h hc hw,fun v hv=>cell_kept hv (grownBy_putObj' W l o') (fun r e=>by cases e;exact⟨o,h,hc⟩)⟩
theorem khh (W:World) (v:Value) (t:TypeId):∀j u,[v][j]?=some u→(W.alloc (.cells #[v] t)).cell? ((⟨W.heap.size,0,none⟩:Addr).add j)=some u:=by
 intro j u hu
 match j,hu with
 | 0,hu=>
   simp only[List.getElem?_cons_zero,Option.some.injEq] at hu
   subst hu
   rw[Addr.add_lit]
   exact(j7x W v t).1
theorem j64 {base e:Nat} {g n cap:Nat} {xs:List Value} {A B:World} {row:Option Nat} (hs:A.ownsRow base e 1 (.slice (some ⟨g,0,none⟩) n cap) n xs) (hg:A.grownBy B row) (hr:∀r,row=some r→∃o:Obj,A.heap[r]?=some o∧o.isCells=false):
  B.ownsRow base e 1 (.slice (some ⟨g,0,none⟩) n cap) n xs:=by
 refine hs.kept hg (.inr ?_)
 intro h
 obtain⟨o,h1,h2⟩:=hr g h.symm
 rcases hs.2 with⟨h3,_⟩ | ⟨g',cap',cur,h3,_,h4,_⟩
 ·cases h3
 ·simp only[Value.slice.injEq,Option.some.injEq,Addr.mk.injEq,and_true,true_and] at h3
  rw[h3.1,h4] at h1
  cases h1
  cases h2
theorem khe {base e:Nat} {g cap:Nat}:Own (fun(pre:List Int) W=>W.ownsRow base e 1 (.slice (some ⟨g,0,none⟩) pre.length cap) pre.length (pre.map (Value.int .i64))):=by
 intro s A B row hs hg hr
 exact j64 hs hg hr
set_option maxRecDepth 100000 in
set_option maxHeartbeats 2000000 in
theorem kil (F:Fence) (n:Nat) (h14:F.fn 40) (h15:F.fn 104) (h33:F.fn 118) (h57:F.fn 124) (hro:F.round=none) (hn:3≤n) (b o c:Nat) (vk:Value) (L:List Int) (hL:∀x∈L,1≤x∧x≤64) (hl:L.length≤32) (w:World)
  (hC:∀W,Below w.heap.size w W→CallsIn F (n-1) Tryz.prog 40 #[.agg #[.slice (some ⟨b,o,none⟩) L.length c,vk]] W fun e W'=>e=.returned (.int .i64 0)∧Below W.heap.size W W')
  (hE:kdb w.heap.size w b o L):
  CallsIn F n Tryz.prog 104 #[.agg #[.slice (some ⟨b,o,none⟩) L.length c,vk]] w fun e W'=>∃N,e=.returned (.tuple #[.slice (some ⟨N,0,none⟩) (L.length+1) (L.length+1),.int .i64 0])∧w.heap.size≤N∧
   (∃t,W'.heap[N]?=some (.cells ((endsL L).map (Value.int .i64)).toArray t (0,0)))∧Below w.heap.size w W':=by
 have h1:1≤n:=by omega
 refine callsIn_of_wp_marks Tryz.func104 rfl h15 ?_ hro
 simp only[Tryz.ntmps104,List.size_toArray,List.length_cons,List.length_nil,Nat.reduceAdd,Nat.reduceSub,Array.replicate_succ,Array.replicate_zero,List.push_toArray,List.append_toArray,List.nil_append,List.cons_append]
 gi_wp2
 have hBx:Below w.heap.size w (w.alloc (.cells #[.slice (some ⟨b,o,none⟩) L.length c,vk] 40)):=(Below.refl _ w).alloc (Nat.le_refl _) _
 refine(hC _ hBx).mono ?_
 rintro e w1 ⟨rfl,hB1⟩
 have hb0:w1.cell? ⟨w.heap.size,0,none⟩=some (.slice (some ⟨b,o,none⟩) L.length c):=by
  rw[hB1.cell (p:=⟨w.heap.size,0,none⟩) (by simp)]
  simp only[World.cell?,World.alloc_heap_new]
  rfl
 have hb1:w1.cell? ⟨w.heap.size,1,none⟩=some vk:=by
  rw[hB1.cell (p:=⟨w.heap.size,1,none⟩) (by simp)]
  simp only[World.cell?,World.alloc_heap_new]
  rfl
 have hs1:=hB1.size
 rw[World.size_alloc] at hs1
 have hmk:∀u:World,(Instr.makeSlice 22 (.int .i64 0) (.int .i64 ((L.length:Int)+1))).run Tryz.prog u=.ok (.slice (some ⟨u.heap.size,0,none⟩) 0 (L.length+1)) (u.alloc (.cells (madeCells #[.int .i64 0] (L.length+1)) 3)):=fun u=>by
  have:=run_makeSlice (P:=Tryz.prog) u 22 3 Tryz.t3 (.int .i64 0) Tryz.underlying22 (by kernel_rfl) (by kernel_rfl) .i64 .i64 0 ((L.length:Int)+1) (by omega) (by omega) (by show((L.length:Int)+1).toNat*1≤_;omega) (by show((8:Nat):Int)*_≤_;omega) (by omega)
  simpa[show Tryz.t3.size=1 from rfl,Value.cells] using this
 have hb0':=jnr (.cells #[.slice (some ⟨w1.heap.size,0,none⟩) 0 (L.length+1)] 22) (jnr (.cells (madeCells #[.int .i64 0] (L.length+1)) 3) hb0)
 have hb1':=jnr (.cells #[.slice (some ⟨w1.heap.size,0,none⟩) 0 (L.length+1)] 22) (jnr (.cells (madeCells #[.int .i64 0] (L.length+1)) 3) hb1)
 gi_wp2_with (gi_at_call 118;refine(koi F (n-1) h33 hro _ _ _).mono ?_;rintro e w' ⟨rfl,rfl⟩)
 obtain⟨W2,hW2⟩:∃W2,W2=(((w1.alloc (.cells (madeCells #[.int .i64 0] (L.length+1)) 3)).alloc (.cells #[.slice (some ⟨w1.heap.size,0,none⟩) 0 (L.length+1)] 22)).alloc (.cells #[.slice (some ⟨b,o,none⟩) L.length c,vk] 40)):=⟨_,rfl⟩
 have hs2:W2.heap.size=w1.heap.size+3:=by rw[hW2];simp
 have hoc:W2.cell? ⟨w1.heap.size+1,0,none⟩=some (.slice (some ⟨w1.heap.size,0,none⟩) 0 (L.length+1))∧W2.frozen? ⟨w1.heap.size+1,0,none⟩=false:=by
  have h:=j7x (w1.alloc (.cells (madeCells #[.int .i64 0] (L.length+1)) 3)) (.slice (some ⟨w1.heap.size,0,none⟩) 0 (L.length+1)) 22
  rw[World.size_alloc] at h
  rw[hW2]
  exact⟨jnr _ h.1,j3b _ h.1 h.2⟩
 have hrow:W2.ownsRow w.heap.size 3 1 (.slice (some ⟨w1.heap.size,0,none⟩) 0 (L.length+1)) 0 []:=by
  rw[hW2]
  exact((World.ownsRow_made w1 _ (L.length+1) (by omega) (by simp[maxLen];omega) (by rw[size_madeCells];simp)).alloc _).alloc _
 have hbx:W2.cell? ⟨w1.heap.size+2,0,none⟩=some (.slice (some ⟨b,o,none⟩) L.length c):=by
  rw[hW2]
  have:=World.alloc_heap_new ((w1.alloc (.cells (madeCells #[.int .i64 0] (L.length+1)) 3)).alloc (.cells #[.slice (some ⟨w1.heap.size,0,none⟩) 0 (L.length+1)] 22)) (.cells #[.slice (some ⟨b,o,none⟩) L.length c,vk] 40)
  simp only[World.size_alloc] at this
  simp only[World.cell?,this]
  rfl
 have hB2:Below w.heap.size w W2:=by
  rw[hW2]
  exact(((hBx.trans (hB1.mono (by simp))).alloc (by omega) _).alloc (by simp;omega) _).alloc (by simp;omega) _
 rw[←hW2]
 refine wpIn_rangeFunc_ownF hro h1 (gf:=124) (lb:=#[.pointer (some ⟨w1.heap.size+2,0,none⟩)]) rfl h57 (enters_of Tryz.func124 (by kernel_rfl) rfl)
  (kep F (n-1) h57 hro (by omega) (w1.heap.size+2) w.heap.size b o c L hL hl W2 (by omega) (by omega) hbx ⟨hE.1,fun i h=>(hB2.cell (p:=⟨b,o+i,none⟩) hE.1).trans (hE.2 i h)⟩) kph (kpi (by omega)) (Below.refl _ _) (fun _=>rfl)
  (fun pre W=>(W.cell? ⟨w1.heap.size+1,0,none⟩=some (.slice (some ⟨w1.heap.size,0,none⟩) pre.length (L.length+1))∧W.frozen? ⟨w1.heap.size+1,0,none⟩=false)∧
    W.ownsRow w.heap.size 3 1 (.slice (some ⟨w1.heap.size,0,none⟩) pre.length (L.length+1)) pre.length (pre.map (Value.int .i64))∧Below w.heap.size w W)
  (fun _ _ _=>False)
  (OwnFrom.and (Own.from (fun s A B row hs hg hr=>⟨cell_kept hs.1 hg hr,(frozen_kept hs.1 hg hr).trans hs.2⟩) _) (OwnFrom.and (Own.from khe _) (ownFrom_below (Nat.le_refl _) (by omega))))
  (fun _ _ _ _ _ hs _ _=>hs)
  ⟨hoc,hrow,hB2⟩
  (fun x=>{ tmps:=#[.agg #[.slice (some ⟨b,o,none⟩) L.length c,vk],.pointer (some ⟨w.heap.size,0,none⟩),.slice none 0 0,.int .i64 0,.int .i64 0,.pointer (some ⟨w1.heap.size+1,0,none⟩),.int .i64 x,.agg #[.slice (some ⟨b,o,none⟩) L.length c,vk],.int .i64 0,.int .i64 0,.bool false,undef,.pointer (some ⟨w.heap.size,0,none⟩),.slice (some ⟨b,o,none⟩) L.length c,.int .i64 L.length,.int .i64 (L.length+1),.slice (some ⟨w1.heap.size,0,none⟩) 0 (L.length+1),.agg #[.slice (some ⟨b,o,none⟩) L.length c,vk],.func (.func 124) #[] #[.pointer (some ⟨w1.heap.size+2,0,none⟩)],.int .i64 x,undef,undef,undef,undef,undef],defers:=[] }) ?assign ?body ?done ?stop
 case assign=>
  intro l x W K hK
  gi_wp2
  exact hK
 case body=>
  rintro l pre x W ⟨⟨hc,hf⟩,hr,hB⟩ hp
  have hnew:=World.alloc_heap_new W (.cells #[.int .i64 x] 3)
  have hcA:∀Wa:World,(W.alloc (.cells #[.int .i64 x] 3)).grownBy Wa (some w1.heap.size)→Wa.cell? ⟨w1.heap.size+1,0,none⟩=some (.slice (some ⟨w1.heap.size,0,none⟩) pre.length (L.length+1))∧Wa.frozen? ⟨w1.heap.size+1,0,none⟩=false:=fun Wa hg=>
   ⟨hg.cell (jnr (.cells #[.int .i64 x] 3) hc) (by simp),(World.frozen?_of_block (hg.block _ (World.block_lt_of_cell? _ _ (jnr (.cells #[.int .i64 x] 3) hc)) (by simp))).trans (j3b _ hc hf)⟩
  gi_wp2_with (gi_at_builtin;refine wpListIn_append_fits _ rfl _ _ 22 rfl w.heap.size 3 Tryz.t3 1 Tryz.underlying22 (by kernel_rfl) rfl w1.heap.size pre.length (L.length+1) _ rfl (hr.alloc _) ⟨W.heap.size,0,none⟩ 1 1 [.int .i64 x] rfl rfl (khh W _ _) (by intro u hu;simp at hu;subst hu;rfl) (by omega) ?_;intro Wa hown hg;obtain⟨hcA1,hfA1⟩:=hcA Wa hg)
  have hgs:Wa.grownBy (Wa.setCell ⟨w1.heap.size+1,0,none⟩ (.slice (some ⟨w1.heap.size,0,none⟩) (pre.length+1) (L.length+1))) (some (w1.heap.size+1)):=grownBy_setCell' _ _ _
  have hWs:=hB.size
  have hcells:∀(j:Nat) (o:Obj),some w1.heap.size=some j→(W.alloc (.cells #[.int .i64 x] 3)).heap[j]?=some o→o.isCells=true:=by
   intro j o hj ho
   cases hj
   rcases(hr.alloc (.cells #[.int .i64 x] 3)).2 with⟨h3,_⟩ | ⟨g',cap',cur,h3,_,h4,_⟩
   ·cases h3
   ·simp only[Value.slice.injEq,Option.some.injEq,Addr.mk.injEq,and_true,true_and] at h3
    rw[h3.1,h4] at ho
    cases ho
    rfl
  have hBW:Below w.heap.size W (Wa.setCell ⟨w1.heap.size+1,0,none⟩ (.slice (some ⟨w1.heap.size,0,none⟩) (pre.length+1) (L.length+1))):=
   ((((Below.refl _ W).alloc hWs _).grown hg (by simp;omega) (fun k e=>by cases e;omega))).setCell (p:=⟨w1.heap.size+1,0,none⟩) (by show _≤w1.heap.size+1;omega) _
  refine⟨((KeepsOthers.alloc W _).trans (KeepsOthers.of_grownBy hg hcells)).trans (KeepsOthers.setCell _ _ _),⟨hBW,fun v hv=>hgs.cell (hg.cell (jnr _ hv) (by simp)) (by simp)⟩,⟨?_,?_⟩,?_,hB.trans hBW⟩
  ·rw[List.length_append]
   exact World.cell?_setCell_same' _ _ _ (by rw[hcA1];rfl)
  ·rw[World.frozen?_setCell]
   exact hfA1
  ·rw[List.length_append,List.map_append]
   exact hown.kept hgs (.inr (by simp[Value.ownBlock]))
 case done=>
  rintro D ys W hD rfl ⟨⟨hc,_⟩,hr,hB⟩ hK
  gi_wp2
  refine⟨by simp,.inl ⟨_,_,rfl,run_takeDeferred hK,?_⟩⟩
  have hl2:(endsL L).length=L.length+1:=by simp[endsL]
  rw[hl2] at hr ⊢
  have hr2:=j64 hr (grownBy_putObj' W D (.deferred none)) (fun r e=>by cases e;exact⟨_,hK,rfl⟩)
  refine⟨_,results_tmp2 rfl _ _ _,w1.heap.size,rfl,by omega,?_,hB.trans (belowK_b (w:=w) (Nat.le_refl _) W D _ _ (by omega) hK rfl rfl)⟩
  rcases hr2.2 with⟨h3,_⟩ | ⟨g',cap',cur,h3,_,h4,_,_,h5,h6⟩
  ·cases h3
  ·simp only[Value.slice.injEq,Option.some.injEq,Addr.mk.injEq,and_true,true_and] at h3
   obtain⟨rfl,rfl⟩:=h3
   refine⟨3,?_⟩
   rw[h4]
   have:cur=((endsL L).map (Value.int .i64)).toArray:=by
    apply Array.toList_inj.1
    rw[←h6,List.take_of_length_le (by simp[h5])]
   rw[this]
 case stop=>
  rintro D c pre W _ _ h _
  exact h.elim
end St
end Go.Proofs
namespace Go.Proofs
open Go.RowKit Go.Shelf
attribute [local go_sem] Oper.semAt_some
namespace St
set_option maxRecDepth 100000 in
set_option maxHeartbeats 1000000 in
theorem kms (F:Fence) (n:Nat) (h14:F.fn 40) (h15:F.fn 104) (hro:F.round=none) (hn:3≤n) (vl vk:Value) (x:Int) (hx:x≠0) (w:World)
  (hC:∀W,Below w.heap.size w W→CallsIn F (n-1) Tryz.prog 40 #[.agg #[vl,vk]] W fun e W'=>e=.returned (.int .i64 x)∧Below W.heap.size W W'):
  CallsIn F n Tryz.prog 104 #[.agg #[vl,vk]] w fun e W'=>e=.returned (.tuple #[.slice none 0 0,.int .i64 x])∧Below w.heap.size w W':=by
 refine callsIn_of_wp Tryz.func104 rfl h15 ?_ hro
 simp only[Tryz.ntmps104,List.size_toArray,List.length_cons,List.length_nil,Nat.reduceAdd,Nat.reduceSub,Array.replicate_succ,Array.replicate_zero,List.push_toArray,List.append_toArray,List.nil_append,List.cons_append]
 gi_wp2
 have hBx:Below w.heap.size w (w.alloc (.cells #[vl,vk] 40)):=(Below.refl _ w).alloc (Nat.le_refl _) _
 refine⟨fun _=>by omega,(hC _ hBx).mono ?_⟩
 rintro e w1 ⟨rfl,hB1⟩
 gi_wp2
 refine bodyPost_ret (results_tmp2 rfl _ _ _) rfl ?_
 exact⟨rfl,hBx.trans (hB1.mono (by simp))⟩
theorem ends_c1 (b o c:Nat) (vk:Value) (L:List Int) (hL:∀x∈L,1≤x∧x≤64) (hl:L.length≤32) (w:World)
  (hC:∀W,Below w.heap.size w W→Calls Tryz.prog 40 #[.agg #[.slice (some ⟨b,o,none⟩) L.length c,vk]] W fun e W'=>e=.returned (.int .i64 0)∧Below W.heap.size W W')
  (hb:b<w.heap.size) (hE:∀i (h:i<L.length),w.cell? ⟨b,o+i,none⟩=some (.int .i64 L[i])):
  Calls Tryz.prog 104 #[.agg #[.slice (some ⟨b,o,none⟩) L.length c,vk]] w fun e W'=>∃N,e=.returned (.tuple #[.slice (some ⟨N,0,none⟩) (endsL L).length (endsL L).length,.int .i64 0])∧w.heap.size≤N∧
   (∃t,W'.heap[N]?=some (.cells ((endsL L).map (Value.int .i64)).toArray t (0,0)))∧Below w.heap.size w W':=by
 have hl2:(endsL L).length=L.length+1:=by simp[endsL]
 rw[hl2]
 exact(callsIn_wide (n:=3)).1 (kil Fence.wide 3 trivial trivial trivial trivial rfl (by omega) b o c vk L hL hl w (fun W hB=>(callsIn_wide (n:=2)).2 (hC W hB)) ⟨hb,hE⟩)
theorem ends_c2 (vl vk:Value) (e:Int) (w:World) (he:e≠0) (hC:∀W,Below w.heap.size w W→Calls Tryz.prog 40 #[.agg #[vl,vk]] W fun en W'=>en=.returned (.int .i64 e)∧Below W.heap.size W W'):
  Calls Tryz.prog 104 #[.agg #[vl,vk]] w fun en W'=>en=.returned (.tuple #[.slice none 0 0,.int .i64 e])∧Below w.heap.size w W':=
 (callsIn_wide (n:=3)).1 (kms Fence.wide 3 trivial trivial rfl (by omega) vl vk e he w (fun W hB=>(callsIn_wide (n:=2)).2 (hC W hB)))
end St
end Go.Proofs
