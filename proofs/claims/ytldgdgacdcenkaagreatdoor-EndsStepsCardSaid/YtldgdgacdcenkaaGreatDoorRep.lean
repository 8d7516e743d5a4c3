/-
  slices.Replace at []int, where more is put than taken: walked.
  slices.Replace at []int, where more is put than taken: walked.
-/
import Derived.Shelf.Spec.SlicesInsertGrow
import Derived.Test.YtldgdgacdcenkaaGreatDoorProg
set_option linter.unusedSimpArgs false
set_option linter.unusedVariables false
namespace Go.Proofs
open Go.RowKit Go.Shelf Go.Lib
namespace Rep
theorem size3:(Tryz.prog.info? 3).map (·.size)=some 1:=by kernel_rfl
theorem inf3:(Tryz.prog.info? 3).map (fun i=>(i.zero,i.size,i.bytes))=some (some (.int .i64 0),1,8):=by kernel_rfl
theorem i3:∃i0,Tryz.prog.info? 3=some i0∧i0.zero=some (.int .i64 0)∧i0.size=1∧i0.bytes=8:=by
 have h:=inf3
 cases hi:Tryz.prog.info? 3 with
 | none=>rw[hi] at h;cases h
 | some i=>
   rw[hi] at h
   simp only[Option.map_some,Option.some.injEq,Prod.mk.injEq] at h
   exact⟨i,rfl,h⟩
theorem sizeOf3:∀w,(Go.sizeOf 3).run Tryz.prog w=.ok 1 w:=fun w=>by
 obtain⟨i0,h0,_,h1,_⟩:=i3
 simp[sizeOf,typeInfo,h0,h1,Sem.run_bind]
theorem mixed:Tryz.prog.follows Departure.mixedOrders=true:=by kernel_rfl
theorem und:Tryz.prog.underlying 25=some (.slice 3):=Tryz.underlying25
theorem wrap_of {x:Int} (h:0≤x∧x≤10000000):IntKind.i64.wrap x=x:=by rw[IntKind.wrap_i64];omega
theorem overlaps_no (w:World) {vb voff b q m vc lb cb:Nat} (hvb:b≠vb) (tA tB:TypeId) (kA kB:Nat) (hsb:w.shape? b=some (tB,kB)) (hsa:w.shape? vb=some (tA,kA)) (hkA:kA≠0) (hfb:w.frozen? ⟨b,q,none⟩=false) (hfe:w.frozen? ⟨b,kB,none⟩=false):
  (callFunc 75 #[.slice (some ⟨b,q,none⟩) lb cb,.slice (some ⟨vb,voff,none⟩) m vc]).run Tryz.prog w=.ok (.value (.bool false)) w:=by
 rw[run_callFunc_extern Tryz.func75 (by kernel_rfl) (by kernel_rfl) (by kernel_rfl) (e:=Extern.SlicesOverlaps.overlaps #[25,25] #[4]) (by kernel_rfl),
  Lib.run_overlaps_apart w 25 4 3 und 1 sizeOf3 ⟨b,q,none⟩ ⟨vb,voff,none⟩ lb cb m vc hvb tB tA kB kA hsb hsa hkA hfb hfe]
 rfl
section
variable (b off n c i vb voff m vc:Nat) (cs vs:List Value) (w:World)
set_option maxHeartbeats 4000000 in
set_option maxRecDepth 100000 in
theorem end_room (hi:i<n) (hmn:n≤i+m) (hnc:n≤c) (hroom:i+m≤c) (hsm:n+m≤2000000) (hvl:vs.length=m)
  (hsp:∀j,j<m→(w.cell? ⟨b,off+i+j,none⟩).isSome=true) (hfz:∀j,j<m→w.frozen? ⟨b,off+i+j,none⟩=false)
  (hvs:∀j v,vs[j]?=some v→w.cell? ⟨vb,voff+j,none⟩=some v) (h1v:∀v∈vs,v.oneCell'=true):
  Calls Tryz.prog 62 #[.slice (some ⟨b,off,none⟩) n c,.int .i64 i,.int .i64 n,.slice (some ⟨vb,voff,none⟩) m vc] w fun e w'=>
   e=.returned (.slice (some ⟨b,off,none⟩) (i+m) c)∧w'=w.setCells b (off+i) vs:=by
 have mixed:=mixed
 obtain⟨i0,hi0,hz0,hzs,hzb⟩:=i3
 have hm:0<m:=by omega
 have hz2:¬((i:Int)=(n:Int)):=by omega
 have hin:(i:Int)≤(n:Int):=by omega
 have hsrc:Src Tryz.prog i0.size 25 (.slice (some ⟨vb,voff,none⟩) m vc) m vs w:=by
  rw[hzs]
  exact Src.ofSlice w und ⟨vb,voff,none⟩ m vc vs (by omega) (fun j u hj=>by rw[Addr.add_lit];exact hvs j u hj) h1v
 rw[hzs] at hsrc
 have hlt:¬((i:Int)+ (m:Int)< (n:Int)):=by omega
 have hlt2:¬(((i+m:Nat):Int)< (n:Int)):=by omega
 go_enter Tryz.func62,Tryz.ntmps62
 go_wp2_with (at_builtin;refine wpList_append_room1 _ rfl _ _ 25 25 rfl 3 _ _ und inf3 b off i c rfl _ rfl m vs hsrc hroom (by rw[hvl];exact hsp) (by rw[hvl];exact hfz) ?_)
 go_ret
 exact⟨rfl,rfl⟩
set_option maxHeartbeats 4000000 in
set_option maxRecDepth 100000 in
theorem end_grow (hi:i<n) (hmn:n≤i+m) (hnc:n≤c) (hroom:c<i+m) (hsm:n+m≤2000000) (hcl:cs.length=n) (hvl:vs.length=m)
  (hcs:∀j v,cs[j]?=some v→w.cell? ⟨b,off+j,none⟩=some v) (hvs:∀j v,vs[j]?=some v→w.cell? ⟨vb,voff+j,none⟩=some v) (h1v:∀v∈vs,v.oneCell'=true):
  Calls Tryz.prog 62 #[.slice (some ⟨b,off,none⟩) n c,.int .i64 i,.int .i64 n,.slice (some ⟨vb,voff,none⟩) m vc] w fun e w'=>
   e=.returned (.slice (some ⟨w.heap.size,0,none⟩) (i+m) (grownCap w (i+m) c 3))∧
   w'=w.drew.alloc (.cells ((cs.take i++vs).toArray++Builtin.zeroCells (Value.int .i64 0).cells (grownCap w (i+m) c 3-(i+m))) 3):=by
 have mixed:=mixed
 obtain⟨i0,hi0,hz0,hzs,hzb⟩:=i3
 have hm:0<m:=by omega
 have hz2:¬((i:Int)=(n:Int)):=by omega
 have hin:(i:Int)≤(n:Int):=by omega
 have hsrc:Src Tryz.prog i0.size 25 (.slice (some ⟨vb,voff,none⟩) m vc) m vs w:=by
  rw[hzs]
  exact Src.ofSlice w und ⟨vb,voff,none⟩ m vc vs (by omega) (fun j u hj=>by rw[Addr.add_lit];exact hvs j u hj) h1v
 have hlt:¬((i:Int)+ (m:Int)< (n:Int)):=by omega
 have hlt2:¬(((i+m:Nat):Int)< (n:Int)):=by omega
 have hold:(Builtin.firstCells i0.size i (.slice (some ⟨b,off,none⟩) i c)).run Tryz.prog w.drew=.ok (cs.take i).toArray w.drew:=by
  rw[hzs]
  exact run_firstCells_some w.drew 1 i ⟨b,off,none⟩ i c (cs.take i) (by rw[List.length_take];omega) (fun j v hj=>by
   rw[Addr.add_lit]
   rw[List.getElem?_take] at hj
   split at hj
   ·exact hcs j v hj
   ·cases hj)
 have hrun:∀ty,(Builtin.append_ #[25,25] ty #[.slice (some ⟨b,off,none⟩) i c,.slice (some ⟨vb,voff,none⟩) m vc]).run Tryz.prog w=_:=fun ty=>
  run_append_grow_src w 25 25 ty 3 i0 _ und hi0 hz0 (some ⟨b,off,none⟩) i c (cs.take i) hold _ m vs hsrc hroom (by omega) (by rw[hzb];exact growslice_fits hroom (by omega))
 go_enter Tryz.func62,Tryz.ntmps62
 go_wp2_with (at_builtin;refine Lib.wpList_append_run _ rfl _ _ _ _ rfl _ _ rfl rfl _ _ (hrun _) ?_)
 all_goals (go_ret;exact⟨rfl,rfl⟩)
set_option maxHeartbeats 4000000 in
set_option maxRecDepth 100000 in
theorem mid_room (k:Nat) (hi:i<k) (hk:k<n) (hmk:k<i+m) (hroom:i+m+ (n-k)≤c) (hsm:n+m≤2000000) (hc63:c≤9223372036854775807) (hvb:b≠vb) (hcl:cs.length=n) (hvl:vs.length=m)
  (hcs:∀j v,cs[j]?=some v→w.cell? ⟨b,off+j,none⟩=some v) (hsp:∀j,j<i+m+ (n-k)→(w.cell? ⟨b,off+j,none⟩).isSome=true) (hfz:∀j,j<i+m+ (n-k)→w.frozen? ⟨b,off+j,none⟩=false)
  (hvs:∀j v,vs[j]?=some v→w.cell? ⟨vb,voff+j,none⟩=some v) (h1c:∀v∈cs,v.oneCell'=true) (h1v:∀v∈vs,v.oneCell'=true)
  (tA tB:TypeId) (kA kB:Nat) (hsa:w.shape? vb=some (tA,kA)) (hsb:w.shape? b=some (tB,kB)) (hkA:kA≠0) (hfe:w.frozen? ⟨b,kB,none⟩=false):
  Calls Tryz.prog 62 #[.slice (some ⟨b,off,none⟩) n c,.int .i64 i,.int .i64 k,.slice (some ⟨vb,voff,none⟩) m vc] w fun e w'=>
   e=.returned (.slice (some ⟨b,off,none⟩) (i+m+ (n-k)) c)∧w'=(w.drew.drew.setCells b (off+ (i+m)) (cs.drop k)).setCells b (off+i) vs:=by
 have mixed:=mixed
 have hz1:¬((i:Int)=(k:Int)):=by omega
 have hz2:¬((k:Int)=(n:Int)):=by omega
 have hin:(i:Int)≤(n:Int):=by omega
 have hik:(i:Int)≤(k:Int):=by omega
 have hkn:(k:Int)≤(n:Int):=by omega
 have hic:(i:Int)≤(c:Int):=by omega
 have hkc:(k:Int)≤(c:Int):=by omega
 have hnc:(n:Int)≤(c:Int):=by omega
 have hi0:(0:Int)≤(i:Int):=by omega
 have hicN:i≤c:=by omega
 have hkcN:k≤c:=by omega
 have hov:=fun lb cb=>overlaps_no (voff:=voff) w.drew (q:=off+ (i+m)) (m:=m) (vc:=vc) (lb:=lb) (cb:=cb) hvb tA tB kA kB hsb hsa hkA (hfz (i+m) (by omega) |> fun h=>by simpa using h) hfe
 have hdl:(cs.drop k).length=n-k:=by rw[List.length_drop,hcl]
 have hw1:IntKind.i64.wrap ((i:Int)+ (m:Int))=(i:Int)+ (m:Int):=wrap_of (by omega)
 have hw2:IntKind.i64.wrap ((i:Int)+ (m:Int)+ ((n-k:Nat):Int))=(i:Int)+ (m:Int)+ ((n-k:Nat):Int):=wrap_of (by omega)
 have hb1:(0:Int)≤(i:Int)+ (m:Int):=by omega
 have hb6:(0:Int)≤(i:Int)+ (m:Int)+ ((n-k:Nat):Int):=by omega
 have htn:((i:Int)+ (m:Int)).toNat=i+m:=by omega
 have htn2:((i:Int)+ (m:Int)+ ((n-k:Nat):Int)).toNat=i+m+ (n-k):=by omega
 have hle:¬((i:Int)+ (m:Int)≤(k:Int)):=by omega
 have hb3:(i:Int)≤(i:Int)+ (m:Int)+ ((n-k:Nat):Int):=by omega
 have hb5:¬((c:Int)< (i:Int)+ (m:Int)+ ((n-k:Nat):Int)):=by omega
 have hb7:((i:Int)+ (m:Int)+ ((n-k:Nat):Int))≤(c:Int):=by omega
 have hb8:(i:Int)+ (m:Int)≤(i:Int)+ (m:Int)+ ((n-k:Nat):Int):=by omega
 have hb2:¬(c=i+m):=by omega
 have hb4:¬(c=i):=by omega
 have hb9:¬(c=k):=by omega
 have hcp1:∀ty dc sc,(Builtin.copy_ #[25,25] ty #[.slice (some ⟨b,off+ (i+m),none⟩) (n-k) dc,.slice (some ⟨b,off+k,none⟩) (n-k) sc]).run Tryz.prog w.drew.drew=.ok (goInt (cs.drop k).length) (w.drew.drew.setCells b (off+ (i+m)) (cs.drop k)):=fun ty dc sc=>
  run_copy_cells w.drew.drew _ _ ty 3 b (off+ (i+m)) (n-k) dc ⟨b,off+k,none⟩ (n-k) sc (cs.drop k) und size3 (by rw[hdl];simp only[Nat.min_def];split<;>omega)
   (fun j v hj=>by rw[Addr.add_lit,Nat.add_assoc];exact hcs (k+j) v (by rwa[List.getElem?_drop] at hj))
   (fun j hj=>by rw[Nat.add_assoc];exact hsp _ (by omega)) (fun j hj=>by rw[Nat.add_assoc];exact hfz _ (by omega)) (fun v hv=>h1c v (List.mem_of_mem_drop hv))
 obtain⟨W1,hW1⟩:∃W1,W1=w.drew.drew.setCells b (off+ (i+m)) (cs.drop k):=⟨_,rfl⟩
 have hsp1:∀q,q<i+m+ (n-k)→(W1.cell? ⟨b,off+q,none⟩).isSome=true:=fun q hq=>by
  rw[hW1]
  exact isSome_setCells b _ _ _ (fun j hj=>by rw[Nat.add_assoc];exact hsp _ (by omega)) _ (hsp q hq)
 have hcp2:∀(W:World),(∀x,W.cell? x=W1.cell? x)→(∀x,W.frozen? x=W1.frozen? x)→∀ty dc,(Builtin.copy_ #[25,25] ty #[.slice (some ⟨b,off+i,none⟩) (i+m+ (n-k)-i) dc,.slice (some ⟨vb,voff,none⟩) m vc]).run Tryz.prog W=.ok (goInt vs.length) (W.setCells b (off+i) vs):=fun W hWc hWf ty dc=>
  run_copy_cells W _ _ ty 3 b (off+i) (i+m+ (n-k)-i) dc ⟨vb,voff,none⟩ m vc vs und size3 (by rw[hvl];simp only[Nat.min_def];split<;>omega)
   (fun j v hj=>by
     rw[Addr.add_lit,hWc,hW1,World.cell?_setCells_out b _ _ _ _ (fun h _=>absurd h.symm hvb)]
     exact hvs j v hj)
   (fun j hj=>by rw[hWc,Nat.add_assoc];exact hsp1 _ (by omega)) (fun j hj=>by rw[hWf,hW1,World.frozen?_setCells,Nat.add_assoc];exact hfz _ (by omega)) h1v
 rw[←hW1] at hcp1
 go_enter Tryz.func62,Tryz.ntmps62
 go_wp2_with (simp only[hov])
 go_region_law_o (refine step_copy_runI rfl _ _ 25 25 rfl _ _ (by simp[Act.eval,Act.put]) (by simp[Act.eval,Act.put]) (hcp1 _ _ _) ?_)
 all_goals
  go_wp2_with (simp only[hov])
  go_region_law_o (refine step_copy_runI rfl _ _ 25 25 rfl _ _ (by simp[Act.eval,Act.put]) (by simp[Act.eval,Act.put]) (hcp1 _ _ _) ?_)
  go_wp2_with (at_builtin;refine wpList_copy_runI _ rfl _ _ 25 25 rfl _ _ rfl rfl (hcp2 _ (fun _=>rfl) (fun _=>rfl) _ _) ?_)
  go_ret
  first | exact⟨rfl,rfl⟩ | exact⟨rfl,by rw[hW1]⟩
end
end Rep
end Go.Proofs
namespace Go.Proofs
open Go.RowKit Go.Shelf Go.Lib
namespace Rep
section
variable (b off n c i vb voff m vc:Nat) (cs vs:List Value) (w:World)
set_option maxHeartbeats 8000000 in
set_option maxRecDepth 100000 in
theorem mid_grow (k N:Nat) (hN:N=i+m+ (n-k)) (hi:i<k) (hk:k<n) (hmk:k<i+m) (hnc:n≤c) (hroom:c<N) (hsm:n+m≤2000000) (hcl:cs.length=n) (hvl:vs.length=m)
  (hcs:∀j v,cs[j]?=some v→w.cell? ⟨b,off+j,none⟩=some v) (hvs:∀j v,vs[j]?=some v→w.cell? ⟨vb,voff+j,none⟩=some v) (h1c:∀v∈cs,v.oneCell'=true) (h1v:∀v∈vs,v.oneCell'=true):
  Calls Tryz.prog 62 #[.slice (some ⟨b,off,none⟩) n c,.int .i64 i,.int .i64 k,.slice (some ⟨vb,voff,none⟩) m vc] w fun e w'=>
   e=.returned (.slice (some ⟨w.heap.size,0,none⟩) N (grownCap w.drew N c 3))∧
   w'=(((w.drew.alloc (.cells ((cs.take i).toArray++Builtin.zeroCells (Value.int .i64 0).cells (N-i)++Builtin.zeroCells (Value.int .i64 0).cells (grownCap w.drew N c 3-N)) 3)).drew.setCells w.heap.size i vs).drew).setCells w.heap.size (i+m) (cs.drop k):=by
 have mixed:=mixed
 obtain⟨i0,hi0,hz0,hzs,hzb⟩:=i3
 have hz1:¬((i:Int)=(k:Int)):=by omega
 have hz2:¬((k:Int)=(n:Int)):=by omega
 have hbw:b<w.heap.size:=block_lt_of_cell (hcs 0 _ (List.getElem?_eq_getElem (by omega)))
 have hvw:vb<w.heap.size:=block_lt_of_cell (hvs 0 _ (List.getElem?_eq_getElem (by omega)))
 have hin:(i:Int)≤(n:Int):=by omega
 have hik:(i:Int)≤(k:Int):=by omega
 have hkn:(k:Int)≤(n:Int):=by omega
 have hic:(i:Int)≤(c:Int):=by omega
 have hkc:(k:Int)≤(c:Int):=by omega
 have hi00:(0:Int)≤(i:Int):=by omega
 have hw1:IntKind.i64.wrap ((i:Int)+ (m:Int))=(i:Int)+ (m:Int):=wrap_of (by omega)
 have hw2:IntKind.i64.wrap ((i:Int)+ (m:Int)+ ((n-k:Nat):Int))=(N:Int):=by rw[wrap_of (by omega)];omega
 have hgt:(c:Int)< (N:Int):=by omega
 have hkk:(N:Int)-(i:Int)=((N-i:Nat):Int):=by omega
 have hw3:IntKind.i64.wrap ((N:Int)-(i:Int))=(N:Int)-(i:Int):=wrap_of (by omega)
 have hik2:i+ (N-i)=N:=by omega
 have hold:(Builtin.firstCells i0.size i (.slice (some ⟨b,off,none⟩) i c)).run Tryz.prog w.drew.drew=.ok (cs.take i).toArray w.drew.drew:=by
  rw[hzs]
  exact run_firstCells_some w.drew.drew 1 i ⟨b,off,none⟩ i c (cs.take i) (by rw[List.length_take];omega) (fun j v hj=>by
   rw[Addr.add_lit]
   rw[List.getElem?_take] at hj
   split at hj
   ·exact hcs j v hj
   ·cases hj)
 have hrz:∀ty,(Builtin.append_ #[25,3] ty #[.slice (some ⟨b,off,none⟩) i c,.int .i64 ((N:Int)-(i:Int))]).run Tryz.prog w.drew=
   .ok (.slice (some ⟨w.heap.size,0,none⟩) N (grownCap w.drew N c 3)) (w.drew.drew.alloc (.cells ((cs.take i).toArray++Builtin.zeroCells (Value.int .i64 0).cells (N-i)++Builtin.zeroCells (Value.int .i64 0).cells (grownCap w.drew N c 3-N)) 3)):=fun ty=>by
  have h:=Lib.run_append_grow_zeros w.drew 25 3 ty 3 i0 _ .i64 .i64 und Tryz.underlying3 hi0 hz0 (some ⟨b,off,none⟩) i c (cs.take i) hold (N-i) (by omega) (by omega) (by omega) (by omega) (by rw[hzb];omega) (by rw[hzb,hik2];exact growslice_fits hroom (by omega))
  rw[hik2] at h
  rw[hkk]
  exact h
 obtain⟨G,hG⟩:∃G,G=grownCap w.drew N c 3:=⟨_,rfl⟩
 obtain⟨ROW,hROW⟩:∃ROW:Array Value,ROW=(cs.take i).toArray++Builtin.zeroCells (Value.int .i64 0).cells (N-i)++Builtin.zeroCells (Value.int .i64 0).cells (G-N):=⟨_,rfl⟩
 rw[←hG] at hrz ⊢
 rw[←hROW] at hrz ⊢
 have hRl:N≤ROW.size:=by
  rw[hROW]
  simp[Builtin.zeroCells,Value.cells]
  omega
 obtain⟨W1,hW1⟩:∃W1,W1=w.drew.drew.alloc (.cells ROW 3):=⟨_,rfl⟩
 rw[←hW1] at hrz
 have hN2:∀j,j<N→(W1.cell? ⟨w.heap.size,j,none⟩).isSome=true:=fun j hj=>by
  rw[hW1,World.cell?_alloc_at (w:=w.drew.drew) ROW _ w.heap.size j rfl,Array.getElem?_eq_getElem (by omega)];rfl
 have hNf:∀j,W1.frozen? ⟨w.heap.size,j,none⟩=false:=fun j=>by rw[hW1];exact World.frozen?_alloc_at (w:=w.drew.drew) ROW _ w.heap.size j rfl
 have hOb:∀j v,w.cell? ⟨b,j,none⟩=some v→W1.cell? ⟨b,j,none⟩=some v:=fun j v h=>by rw[hW1,World.cell?_alloc_past (w:=w.drew.drew) _ b j hbw];exact h
 have hOv:∀j v,w.cell? ⟨vb,j,none⟩=some v→W1.cell? ⟨vb,j,none⟩=some v:=fun j v h=>by rw[hW1,World.cell?_alloc_past (w:=w.drew.drew) _ vb j hvw];exact h
 have hcpA:∀(W:World),(∀x,W.cell? x=W1.cell? x)→(∀x,W.frozen? x=W1.frozen? x)→∀ty dc,(Builtin.copy_ #[25,25] ty #[.slice (some ⟨w.heap.size,i,none⟩) (N-i) dc,.slice (some ⟨vb,voff,none⟩) m vc]).run Tryz.prog W=.ok (goInt vs.length) (W.setCells w.heap.size i vs):=fun W hWc hWf ty dc=>
  run_copy_cells W _ _ ty 3 w.heap.size i (N-i) dc ⟨vb,voff,none⟩ m vc vs und size3 (by rw[hvl];simp only[Nat.min_def];split<;>omega)
   (fun j v hj=>by rw[Addr.add_lit,hWc];exact hOv _ v (hvs j v hj))
   (fun j hj=>by rw[hWc];exact hN2 _ (by omega)) (fun j hj=>by rw[hWf];exact hNf _) h1v
 have hGn:N≤G:=by rw[hG];exact grownCap_ge w.drew _ _ _
 have hG63:G≤9223372036854775807:=by
  have:=grownCap_le_maxLen w.drew N c 3 (by unfold maxLen;omega)
  rw[←hG] at this
  unfold maxLen at this
  omega
 have hGi:¬(G=i):=by omega
 have hGim:¬(G=i+m):=by omega
 have hci:¬(c=i):=by omega
 have hck:¬(c=k):=by omega
 have hbN:b≠w.heap.size:=by omega
 have hdl:(cs.drop k).length=n-k:=by rw[List.length_drop,hcl]
 have hcpB:∀(W:World),(∀x,W.cell? x=(W1.setCells w.heap.size i vs).cell? x)→(∀x,W.frozen? x=(W1.setCells w.heap.size i vs).frozen? x)→∀ty dc sc,(Builtin.copy_ #[25,25] ty #[.slice (some ⟨w.heap.size,i+m,none⟩) (N-(i+m)) dc,.slice (some ⟨b,off+k,none⟩) (n-k) sc]).run Tryz.prog W=.ok (goInt (cs.drop k).length) (W.setCells w.heap.size (i+m) (cs.drop k)):=fun W hWc hWf ty dc sc=>
  run_copy_cells W _ _ ty 3 w.heap.size (i+m) (N-(i+m)) dc ⟨b,off+k,none⟩ (n-k) sc (cs.drop k) und size3 (by rw[hdl];simp only[Nat.min_def];split<;>omega)
   (fun j v hj=>by
     rw[Addr.add_lit,hWc,World.cell?_setCells_out _ _ _ _ _ (fun h _=>absurd h hbN),Nat.add_assoc]
     exact hOb _ v (hcs (k+j) v (by rwa[List.getElem?_drop] at hj)))
   (fun j hj=>by rw[hWc];exact isSome_setCells _ _ _ _ (fun t ht=>hN2 _ (by omega)) _ (hN2 _ (by omega)))
   (fun j hj=>by rw[hWf,World.frozen?_setCells];exact hNf _) (fun v hv=>h1c v (List.mem_of_mem_drop hv))
 subst hW1
 have hE1:∀x,((w.alloc (.cells ROW 3)).drew.drew).cell? x=(w.drew.drew.alloc (.cells ROW 3)).cell? x:=fun x=>rfl
 have hE2:∀x,((w.alloc (.cells ROW 3)).drew.drew).frozen? x=(w.drew.drew.alloc (.cells ROW 3)).frozen? x:=fun x=>rfl
 have hF1:∀x,(((w.alloc (.cells ROW 3)).drew.drew.setCells w.heap.size i vs).drew).cell? x=((w.drew.drew.alloc (.cells ROW 3)).setCells w.heap.size i vs).cell? x:=fun x=>rfl
 have hF2:∀x,(((w.alloc (.cells ROW 3)).drew.drew.setCells w.heap.size i vs).drew).frozen? x=((w.drew.drew.alloc (.cells ROW 3)).setCells w.heap.size i vs).frozen? x:=fun x=>rfl
 have hb1:(0:Int)≤(i:Int)+ (m:Int):=by omega
 have hiN:(i:Int)≤(N:Int):=by omega
 have himN:(i:Int)+ (m:Int)≤(N:Int):=by omega
 have htn:((i:Int)+ (m:Int)).toNat=i+m:=by omega
 clear hkk hik2 hold hROW hG hRl hN
 go_enter Tryz.func62,Tryz.ntmps62
 go_wp2
 go_region_law_o (refine step_copy_runI rfl _ _ 25 25 rfl (.slice (some ⟨w.heap.size,i+m,none⟩) (N-(i+m)) (G-(i+m))) (.slice (some ⟨b,off+k,none⟩) (n-k) (c-k)) (by simp[Act.eval,Act.put]) (by simp[Act.eval,Act.put]) (hcpB _ hF1 hF2 3 (G-(i+m)) (c-k)) ?_)
 all_goals
  go_wp2_with (first
   | (at_builtin;refine Lib.wpList_append_run _ rfl _ _ _ _ rfl _ _ rfl rfl _ _ (hrz _) ?_)
   | (at_builtin;refine wpList_copy_runI _ rfl _ _ 25 25 rfl _ _ rfl rfl (hcpA _ hE1 hE2 _ _) ?_)
   | (at_builtin;refine wpList_copy_runI _ rfl _ _ 25 25 rfl _ _ rfl rfl (hcpB _ (fun _=>rfl) (fun _=>rfl) _ _ _) ?_))
  go_region_law_o (refine step_copy_runI rfl _ _ 25 25 rfl (.slice (some ⟨w.heap.size,i+m,none⟩) (N-(i+m)) (G-(i+m))) (.slice (some ⟨b,off+k,none⟩) (n-k) (c-k)) (by simp[Act.eval,Act.put]) (by simp[Act.eval,Act.put]) (hcpB _ hF1 hF2 3 (G-(i+m)) (c-k)) ?_)
  go_wp2
  go_ret
  exact⟨rfl,rfl⟩
end
end Rep
end Go.Proofs
