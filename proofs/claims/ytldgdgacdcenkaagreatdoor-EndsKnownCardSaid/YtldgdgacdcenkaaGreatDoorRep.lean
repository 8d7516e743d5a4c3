/-
  slices.Replace at []int, where more is put than taken: walked.
  slices.Replace at []int, where more is put than taken: walked.
  slices.Grow of nil: walked.
  slices.Grow (of nil), Insert and Replace at []int of this program: what they leave.
-/
import Derived.Shelf.Spec.SlicesInsertGrow
import Derived.Test.YtldgdgacdcenkaaGreatDoorVmY4
import Derived.Test.YtldgdgacdcenkaaGreatDoorSh
set_option linter.unusedSimpArgs false
set_option linter.unusedVariables false
set_option linter.unusedSectionVars false
set_option linter.unnecessarySimpa false
namespace Go.Proofs
open Go.RowKit Go.Shelf Go.Lib
namespace Rep
theorem j6n:(Tryz.prog.info? 3).map (·.size)=some 1:=by kernel_rfl
theorem kg2:(Tryz.prog.info? 3).map (fun i=>(i.zero,i.size,i.bytes))=some (some (.int .i64 0),1,8):=by kernel_rfl
theorem i3:∃i0,Tryz.prog.info? 3=some i0∧i0.zero=some (.int .i64 0)∧i0.size=1∧i0.bytes=8:=by
 have h:=kg2
 cases hi:Tryz.prog.info? 3 with
 | none=>rw[hi] at h;cases h
 | some i=>
   rw[hi] at h
   simp only[Option.map_some,Option.some.injEq,Prod.mk.injEq] at h
   exact⟨i,rfl,h⟩
theorem sizeOf3:∀w,(Go.sizeOf 3).run Tryz.prog w=.ok 1 w:=fun w=>by
 obtain⟨i0,h0,_,h1,_⟩:=i3
 simp[sizeOf,typeInfo,h0,h1,Sem.run_bind]
theorem mixed:Tryz.prog.follows Departure.mixedOrders=true:=by kernel_rfl
theorem und:Tryz.prog.underlying 25=some (.slice 3):=Tryz.underlying25
theorem jhw {x:Int} (h:0≤x∧x≤10000000):IntKind.i64.wrap x=x:=by rw[IntKind.wrap_i64];omega
theorem jw4 (w:World) {vb voff b q m vc lb cb:Nat} (hvb:b≠vb) (tA tB:TypeId) (kA kB:Nat) (hsb:w.shape? b=some (tB,kB)) (hsa:w.shape? vb=some (tA,kA)) (hkA:kA≠0) (hfb:w.frozen? ⟨b,q,none⟩=false) (hfe:w.frozen? ⟨b,kB,none⟩=false):
  (callFunc 75 #[.slice (some ⟨b,q,none⟩) lb cb,.slice (some ⟨vb,voff,none⟩) m vc]).run Tryz.prog w=.ok (.value (.bool false)) w:=by
 rw[run_callFunc_extern Tryz.func75 (by kernel_rfl) (by kernel_rfl) (by kernel_rfl) (e:=Extern.SlicesOverlaps.overlaps #[25,25] #[4]) (by kernel_rfl),
  Lib.run_overlaps_apart w 25 4 3 und 1 sizeOf3 ⟨b,q,none⟩ ⟨vb,voff,none⟩ lb cb m vc hvb tB tA kB kA hsb hsa hkA hfb hfe]
 rfl
section
variable (b off n c i vb voff m vc:Nat) (cs vs:List Value) (w:World)
set_option maxHeartbeats 4000000 in
set_option maxRecDepth 100000 in
theorem end_room (hi:i<n) (hmn:n≤i+m) (hnc:n≤c) (hroom:i+m≤c) (hsm:n+m≤2000000) (hvl:vs.length=m)
  (hsp:∀j,j<m→(w.cell? ⟨b,off+i+j,none⟩).isSome=true) (hfz:∀j,j<m→w.frozen? ⟨b,off+i+j,none⟩=false)
  (hvs:∀j v,vs[j]?=some v→w.cell? ⟨vb,voff+j,none⟩=some v) (h1v:∀v∈vs,v.oneCell'=true):
  Calls Tryz.prog 62 #[.slice (some ⟨b,off,none⟩) n c,.int .i64 i,.int .i64 n,.slice (some ⟨vb,voff,none⟩) m vc] w fun e w'=>
   e=.returned (.slice (some ⟨b,off,none⟩) (i+m) c)∧w'=w.setCells b (off+i) vs:=by
 have mixed:=mixed
 obtain⟨i0,hi0,hz0,hzs,hzb⟩:=i3
 have hm:0<m:=by omega
 have hz2:¬((i:Int)=(n:Int)):=by omega
 have hin:(i:Int)≤(n:Int):=by omega
 have hsrc:Src Tryz.prog i0.size 25 (.slice (some ⟨vb,voff,none⟩) m vc) m vs w:=by
  rw[hzs]
  exact Src.ofSlice w und ⟨vb,voff,none⟩ m vc vs (by omega) (fun j u hj=>by rw[Addr.add_lit];exact hvs j u hj) h1v
 rw[hzs] at hsrc
 have hlt:¬((i:Int)+ (m:Int)< (n:Int)):=by omega
 have hlt2:¬(((i+m:Nat):Int)< (n:Int)):=by omega
 go_enter Tryz.func62,Tryz.ntmps62
 go_wp2_with (at_builtin;refine wpList_append_room1 _ rfl _ _ 25 25 rfl 3 _ _ und kg2 b off i c rfl _ rfl m vs hsrc hroom (by rw[hvl];exact hsp) (by rw[hvl];exact hfz) ?_)
 go_ret
 exact⟨rfl,rfl⟩
set_option maxHeartbeats 4000000 in
set_option maxRecDepth 100000 in
theorem end_grow (hi:i<n) (hmn:n≤i+m) (hnc:n≤c) (hroom:c<i+m) (hsm:n+m≤2000000) (hcl:cs.length=n) (hvl:vs.length=m)
  (hcs:∀j v,cs[j]?=some v→w.cell? ⟨b,off+j,none⟩=some v) (hvs:∀j v,vs[j]?=some v→w.cell? ⟨vb,voff+j,none⟩=some v) (h1v:∀v∈vs,v.oneCell'=true):
  Calls Tryz.prog 62 #[.slice (some ⟨b,off,none⟩) n c,.int .i64 i,.int .i64 n,.slice (some ⟨vb,voff,none⟩) m vc] w fun e w'=>
   e=.returned (.slice (some ⟨w.heap.size,0,none⟩) (i+m) (grownCap w (i+m) c 3))∧
   w'=w.drew.alloc (.cells ((cs.take i++vs).toArray++Builtin.zeroCells (Value.int .i64 0).cells (grownCap w (i+m) c 3-(i+m))) 3):=by
 have mixed:=mixed
 obtain⟨i0,hi0,hz0,hzs,hzb⟩:=i3
 have hm:0<m:=by omega
 have hz2:¬((i:Int)=(n:Int)):=by omega
 have hin:(i:Int)≤(n:Int):=by omega
 have hsrc:Src Tryz.prog i0.size 25 (.slice (some ⟨vb,voff,none⟩) m vc) m vs w:=by
  rw[hzs]
  exact Src.ofSlice w und ⟨vb,voff,none⟩ m vc vs (by omega) (fun j u hj=>by rw[Addr.add_lit];exact hvs j u hj) h1v
 have hlt:¬((i:Int)+ (m:Int)< (n:Int)):=by omega
 have hlt2:¬(((i+m:Nat):Int)< (n:Int)):=by omega
 have hold:(Builtin.firstCells i0.size i (.slice (some ⟨b,off,none⟩) i c)).run Tryz.prog w.drew=.ok (cs.take i).toArray w.drew:=by
  rw[hzs]
  exact run_firstCells_some w.drew 1 i ⟨b,off,none⟩ i c (cs.take i) (by rw[List.length_take];omega) (fun j v hj=>by
   rw[Addr.add_lit]
   rw[List.getElem?_take] at hj
   split at hj
   ·exact hcs j v hj
   ·cases hj)
 have hrun:∀ty,(Builtin.append_ #[25,25] ty #[.slice (some ⟨b,off,none⟩) i c,.slice (some ⟨vb,voff,none⟩) m vc]).run Tryz.prog w=_:=fun ty=>
  run_append_grow_src w 25 25 ty 3 i0 _ und hi0 hz0 (some ⟨b,off,none⟩) i c (cs.take i) hold _ m vs hsrc hroom (by omega) (by rw[hzb];exact growslice_fits hroom (by omega))
 go_enter Tryz.func62,Tryz.ntmps62
 go_wp2_with (at_builtin;refine Lib.wpList_append_run _ rfl _ _ _ _ rfl _ _ rfl rfl _ _ (hrun _) ?_)
 all_goals (go_ret;exact⟨rfl,rfl⟩)
set_option maxHeartbeats 4000000 in
set_option maxRecDepth 100000 in
theorem mid_room (k:Nat) (hi:i<k) (hk:k<n) (hmk:k<i+m) (hroom:i+m+ (n-k)≤c) (hsm:n+m≤2000000) (hc63:c≤9223372036854775807) (hvb:b≠vb) (hcl:cs.length=n) (hvl:vs.length=m)
  (hcs:∀j v,cs[j]?=some v→w.cell? ⟨b,off+j,none⟩=some v) (hsp:∀j,j<i+m+ (n-k)→(w.cell? ⟨b,off+j,none⟩).isSome=true) (hfz:∀j,j<i+m+ (n-k)→w.frozen? ⟨b,off+j,none⟩=false)
  (hvs:∀j v,vs[j]?=some v→w.cell? ⟨vb,voff+j,none⟩=some v) (h1c:∀v∈cs,v.oneCell'=true) (h1v:∀v∈vs,v.oneCell'=true)
  (tA tB:TypeId) (kA kB:Nat) (hsa:w.shape? vb=some (tA,kA)) (hsb:w.shape? b=some (tB,kB)) (hkA:kA≠0) (hfe:w.frozen? ⟨b,kB,none⟩=false):
  Calls Tryz.prog 62 #[.slice (some ⟨b,off,none⟩) n c,.int .i64 i,.int .i64 k,.slice (some ⟨vb,voff,none⟩) m vc] w fun e w'=>
   e=.returned (.slice (some ⟨b,off,none⟩) (i+m+ (n-k)) c)∧w'=(w.drew.drew.setCells b (off+ (i+m)) (cs.drop k)).setCells b (off+i) vs:=by
 have mixed:=mixed
 have hz1:¬((i:Int)=(k:Int)):=by omega
 have hz2:¬((k:Int)=(n:Int)):=by omega
 have hin:(i:Int)≤(n:Int):=by omega
 have hik:(i:Int)≤(k:Int):=by omega
 have hkn:(k:Int)≤(n:Int):=by omega
 have hic:(i:Int)≤(c:Int):=by omega
 have hkc:(k:Int)≤(c:Int):=by omega
 have hnc:(n:Int)≤(c:Int):=by omega
 have hi0:(0:Int)≤(i:Int):=by omega
 have hicN:i≤c:=by omega
 have hkcN:k≤c:=by omega
 have hov:=fun lb cb=>jw4 (voff:=voff) w.drew (q:=off+ (i+m)) (m:=m) (vc:=vc) (lb:=lb) (cb:=cb) hvb tA tB kA kB hsb hsa hkA (hfz (i+m) (by omega) |> fun h=>by simpa using h) hfe
 have hdl:(cs.drop k).length=n-k:=by rw[List.length_drop,hcl]
 have hw1:IntKind.i64.wrap ((i:Int)+ (m:Int))=(i:Int)+ (m:Int):=jhw (by omega)
 have hw2:IntKind.i64.wrap ((i:Int)+ (m:Int)+ ((n-k:Nat):Int))=(i:Int)+ (m:Int)+ ((n-k:Nat):Int):=jhw (by omega)
 have hb1:(0:Int)≤(i:Int)+ (m:Int):=by omega
 have hb6:(0:Int)≤(i:Int)+ (m:Int)+ ((n-k:Nat):Int):=by omega
 have htn:((i:Int)+ (m:Int)).toNat=i+m:=by omega
 have htn2:((i:Int)+ (m:Int)+ ((n-k:Nat):Int)).toNat=i+m+ (n-k):=by omega
 have hle:¬((i:Int)+ (m:Int)≤(k:Int)):=by omega
 have hb3:(i:Int)≤(i:Int)+ (m:Int)+ ((n-k:Nat):Int):=by omega
 have hb5:¬((c:Int)< (i:Int)+ (m:Int)+ ((n-k:Nat):Int)):=by omega
 have hb7:((i:Int)+ (m:Int)+ ((n-k:Nat):Int))≤(c:Int):=by omega
 have hb8:(i:Int)+ (m:Int)≤(i:Int)+ (m:Int)+ ((n-k:Nat):Int):=by omega
 have hb2:¬(c=i+m):=by omega
 have hb4:¬(c=i):=by omega
 have hb9:¬(c=k):=by omega
 have hcp1:∀ty dc sc,(Builtin.copy_ #[25,25] ty #[.slice (some ⟨b,off+ (i+m),none⟩) (n-k) dc,.slice (some ⟨b,off+k,none⟩) (n-k) sc]).run Tryz.prog w.drew.drew=.ok (goInt (cs.drop k).length) (w.drew.drew.setCells b (off+ (i+m)) (cs.drop k)):=fun ty dc sc=>
  run_copy_cells w.drew.drew _ _ ty 3 b (off+ (i+m)) (n-k) dc ⟨b,off+k,none⟩ (n-k) sc (cs.drop k) und j6n (by rw[hdl];simp only[Nat.min_def];split<;>omega)
   (fun j v hj=>by rw[Addr.add_lit,Nat.add_assoc];exact hcs (k+j) v (by rwa[List.getElem?_drop] at hj))
   (fun j hj=>by rw[Nat.add_assoc];exact hsp _ (by omega)) (fun j hj=>by rw[Nat.add_assoc];exact hfz _ (by omega)) (fun v hv=>h1c v (List.mem_of_mem_drop hv))
 obtain⟨W1,hW1⟩:∃W1,W1=w.drew.drew.setCells b (off+ (i+m)) (cs.drop k):=⟨_,rfl⟩
 have hsp1:∀q,q<i+m+ (n-k)→(W1.cell? ⟨b,off+q,none⟩).isSome=true:=fun q hq=>by
  rw[hW1]
  exact isSome_setCells b _ _ _ (fun j hj=>by rw[Nat.add_assoc];exact hsp _ (by omega)) _ (hsp q hq)
 have hcp2:∀(W:World),(∀x,W.cell? x=W1.cell? x)→(∀x,W.frozen? x=W1.frozen? x)→∀ty dc,(Builtin.copy_ #[25,25] ty #[.slice (some ⟨b,off+i,none⟩) (i+m+ (n-k)-i) dc,.slice (some ⟨vb,voff,none⟩) m vc]).run Tryz.prog W=.ok (goInt vs.length) (W.setCells b (off+i) vs):=fun W hWc hWf ty dc=>
  run_copy_cells W _ _ ty 3 b (off+i) (i+m+ (n-k)-i) dc ⟨vb,voff,none⟩ m vc vs und j6n (by rw[hvl];simp only[Nat.min_def];split<;>omega)
   (fun j v hj=>by
     rw[Addr.add_lit,hWc,hW1,World.cell?_setCells_out b _ _ _ _ (fun h _=>absurd h.symm hvb)]
     exact hvs j v hj)
   (fun j hj=>by rw[hWc,Nat.add_assoc];exact hsp1 _ (by omega)) (fun j hj=>by rw[hWf,hW1,World.frozen?_setCells,Nat.add_assoc];exact hfz _ (by omega)) h1v
 rw[←hW1] at hcp1
 go_enter Tryz.func62,Tryz.ntmps62
 go_wp2_with (simp only[hov])
 go_region_law_o (refine step_copy_runI rfl _ _ 25 25 rfl _ _ (by simp[Act.eval,Act.put]) (by simp[Act.eval,Act.put]) (hcp1 _ _ _) ?_)
 all_goals
  go_wp2_with (simp only[hov])
  go_region_law_o (refine step_copy_runI rfl _ _ 25 25 rfl _ _ (by simp[Act.eval,Act.put]) (by simp[Act.eval,Act.put]) (hcp1 _ _ _) ?_)
  go_wp2_with (at_builtin;refine wpList_copy_runI _ rfl _ _ 25 25 rfl _ _ rfl rfl (hcp2 _ (fun _=>rfl) (fun _=>rfl) _ _) ?_)
  go_ret
  first | exact⟨rfl,rfl⟩ | exact⟨rfl,by rw[hW1]⟩
end
end Rep
end Go.Proofs
namespace Go.Proofs
open Go.RowKit Go.Shelf Go.Lib
namespace Rep
section
variable (b off n c i vb voff m vc:Nat) (cs vs:List Value) (w:World)
set_option maxHeartbeats 8000000 in
set_option maxRecDepth 100000 in
theorem mid_grow (k N:Nat) (hN:N=i+m+ (n-k)) (hi:i<k) (hk:k<n) (hmk:k<i+m) (hnc:n≤c) (hroom:c<N) (hsm:n+m≤2000000) (hcl:cs.length=n) (hvl:vs.length=m)
  (hcs:∀j v,cs[j]?=some v→w.cell? ⟨b,off+j,none⟩=some v) (hvs:∀j v,vs[j]?=some v→w.cell? ⟨vb,voff+j,none⟩=some v) (h1c:∀v∈cs,v.oneCell'=true) (h1v:∀v∈vs,v.oneCell'=true):
  Calls Tryz.prog 62 #[.slice (some ⟨b,off,none⟩) n c,.int .i64 i,.int .i64 k,.slice (some ⟨vb,voff,none⟩) m vc] w fun e w'=>
   e=.returned (.slice (some ⟨w.heap.size,0,none⟩) N (grownCap w.drew N c 3))∧
   w'=(((w.drew.alloc (.cells ((cs.take i).toArray++Builtin.zeroCells (Value.int .i64 0).cells (N-i)++Builtin.zeroCells (Value.int .i64 0).cells (grownCap w.drew N c 3-N)) 3)).drew.setCells w.heap.size i vs).drew).setCells w.heap.size (i+m) (cs.drop k):=by
 have mixed:=mixed
 obtain⟨i0,hi0,hz0,hzs,hzb⟩:=i3
 have hz1:¬((i:Int)=(k:Int)):=by omega
 have hz2:¬((k:Int)=(n:Int)):=by omega
 have hbw:b<w.heap.size:=block_lt_of_cell (hcs 0 _ (List.getElem?_eq_getElem (by omega)))
 have hvw:vb<w.heap.size:=block_lt_of_cell (hvs 0 _ (List.getElem?_eq_getElem (by omega)))
 have hin:(i:Int)≤(n:Int):=by omega
 have hik:(i:Int)≤(k:Int):=by omega
 have hkn:(k:Int)≤(n:Int):=by omega
 have hic:(i:Int)≤(c:Int):=by omega
 have hkc:(k:Int)≤(c:Int):=by omega
 have hi00:(0:Int)≤(i:Int):=by omega
 have hw1:IntKind.i64.wrap ((i:Int)+ (m:Int))=(i:Int)+ (m:Int):=jhw (by omega)
 have hw2:IntKind.i64.wrap ((i:Int)+ (m:Int)+ ((n-k:Nat):Int))=(N:Int):=by rw[jhw (by omega)];omega
 have hgt:(c:Int)< (N:Int):=by omega
 have hkk:(N:Int)-(i:Int)=((N-i:Nat):Int):=by omega
 have hw3:IntKind.i64.wrap ((N:Int)-(i:Int))=(N:Int)-(i:Int):=jhw (by omega)
 have hik2:i+ (N-i)=N:=by omega
 have hold:(Builtin.firstCells i0.size i (.slice (some ⟨b,off,none⟩) i c)).run Tryz.prog w.drew.drew=.ok (cs.take i).toArray w.drew.drew:=by
  rw[hzs]
  exact run_firstCells_some w.drew.drew 1 i ⟨b,off,none⟩ i c (cs.take i) (by rw[List.length_take];omega) (fun j v hj=>by
   rw[Addr.add_lit]
   rw[List.getElem?_take] at hj
   split at hj
   ·exact hcs j v hj
   ·cases hj)
 have hrz:∀ty,(Builtin.append_ #[25,3] ty #[.slice (some ⟨b,off,none⟩) i c,.int .i64 ((N:Int)-(i:Int))]).run Tryz.prog w.drew=
   .ok (.slice (some ⟨w.heap.size,0,none⟩) N (grownCap w.drew N c 3)) (w.drew.drew.alloc (.cells ((cs.take i).toArray++Builtin.zeroCells (Value.int .i64 0).cells (N-i)++Builtin.zeroCells (Value.int .i64 0).cells (grownCap w.drew N c 3-N)) 3)):=fun ty=>by
  have h:=Lib.run_append_grow_zeros w.drew 25 3 ty 3 i0 _ .i64 .i64 und Tryz.underlying3 hi0 hz0 (some ⟨b,off,none⟩) i c (cs.take i) hold (N-i) (by omega) (by omega) (by omega) (by omega) (by rw[hzb];omega) (by rw[hzb,hik2];exact growslice_fits hroom (by omega))
  rw[hik2] at h
  rw[hkk]
  exact h
 obtain⟨G,hG⟩:∃G,G=grownCap w.drew N c 3:=⟨_,rfl⟩
 obtain⟨ROW,hROW⟩:∃ROW:Array Value,ROW=(cs.take i).toArray++Builtin.zeroCells (Value.int .i64 0).cells (N-i)++Builtin.zeroCells (Value.int .i64 0).cells (G-N):=⟨_,rfl⟩
 rw[←hG] at hrz ⊢
 rw[←hROW] at hrz ⊢
 have hRl:N≤ROW.size:=by
  rw[hROW]
  simp[Builtin.zeroCells,Value.cells]
  omega
 obtain⟨W1,hW1⟩:∃W1,W1=w.drew.drew.alloc (.cells ROW 3):=⟨_,rfl⟩
 rw[←hW1] at hrz
 have hN2:∀j,j<N→(W1.cell? ⟨w.heap.size,j,none⟩).isSome=true:=fun j hj=>by
  rw[hW1,World.cell?_alloc_at (w:=w.drew.drew) ROW _ w.heap.size j rfl,Array.getElem?_eq_getElem (by omega)];rfl
 have hNf:∀j,W1.frozen? ⟨w.heap.size,j,none⟩=false:=fun j=>by rw[hW1];exact World.frozen?_alloc_at (w:=w.drew.drew) ROW _ w.heap.size j rfl
 have hOb:∀j v,w.cell? ⟨b,j,none⟩=some v→W1.cell? ⟨b,j,none⟩=some v:=fun j v h=>by rw[hW1,World.cell?_alloc_past (w:=w.drew.drew) _ b j hbw];exact h
 have hOv:∀j v,w.cell? ⟨vb,j,none⟩=some v→W1.cell? ⟨vb,j,none⟩=some v:=fun j v h=>by rw[hW1,World.cell?_alloc_past (w:=w.drew.drew) _ vb j hvw];exact h
 have hcpA:∀(W:World),(∀x,W.cell? x=W1.cell? x)→(∀x,W.frozen? x=W1.frozen? x)→∀ty dc,(Builtin.copy_ #[25,25] ty #[.slice (some ⟨w.heap.size,i,none⟩) (N-i) dc,.slice (some ⟨vb,voff,none⟩) m vc]).run Tryz.prog W=.ok (goInt vs.length) (W.setCells w.heap.size i vs):=fun W hWc hWf ty dc=>
  run_copy_cells W _ _ ty 3 w.heap.size i (N-i) dc ⟨vb,voff,none⟩ m vc vs und j6n (by rw[hvl];simp only[Nat.min_def];split<;>omega)
   (fun j v hj=>by rw[Addr.add_lit,hWc];exact hOv _ v (hvs j v hj))
   (fun j hj=>by rw[hWc];exact hN2 _ (by omega)) (fun j hj=>by rw[hWf];exact hNf _) h1v
 have hGn:N≤G:=by rw[hG];exact grownCap_ge w.drew _ _ _
 have hG63:G≤9223372036854775807:=by
  have:=grownCap_le_maxLen w.drew N c 3 (by unfold maxLen;omega)
  rw[←hG] at this
  unfold maxLen at this
  omega
 have hGi:¬(G=i):=by omega
 have hGim:¬(G=i+m):=by omega
 have hci:¬(c=i):=by omega
 have hck:¬(c=k):=by omega
 have hbN:b≠w.heap.size:=by omega
 have hdl:(cs.drop k).length=n-k:=by rw[List.length_drop,hcl]
 have hcpB:∀(W:World),(∀x,W.cell? x=(W1.setCells w.heap.size i vs).cell? x)→(∀x,W.frozen? x=(W1.setCells w.heap.size i vs).frozen? x)→∀ty dc sc,(Builtin.copy_ #[25,25] ty #[.slice (some ⟨w.heap.size,i+m,none⟩) (N-(i+m)) dc,.slice (some ⟨b,off+k,none⟩) (n-k) sc]).run Tryz.prog W=.ok (goInt (cs.drop k).length) (W.setCells w.heap.size (i+m) (cs.drop k)):=fun W hWc hWf ty dc sc=>
  run_copy_cells W _ _ ty 3 w.heap.size (i+m) (N-(i+m)) dc ⟨b,off+k,none⟩ (n-k) sc (cs.drop k) und j6n (by rw[hdl];simp only[Nat.min_def];split<;>omega)
   (fun j v hj=>by
     rw[Addr.add_lit,hWc,World.cell?_setCells_out _ _ _ _ _ (fun h _=>absurd h hbN),Nat.add_assoc]
     exact hOb _ v (hcs (k+j) v (by rwa[List.getElem?_drop] at hj)))
   (fun j hj=>by rw[hWc];exact isSome_setCells _ _ _ _ (fun t ht=>hN2 _ (by omega)) _ (hN2 _ (by omega)))
   (fun j hj=>by rw[hWf,World.frozen?_setCells];exact hNf _) (fun v hv=>h1c v (List.mem_of_mem_drop hv))
 subst hW1
 have hE1:∀x,((w.alloc (.cells ROW 3)).drew.drew).cell? x=(w.drew.drew.alloc (.cells ROW 3)).cell? x:=fun x=>rfl
 have hE2:∀x,((w.alloc (.cells ROW 3)).drew.drew).frozen? x=(w.drew.drew.alloc (.cells ROW 3)).frozen? x:=fun x=>rfl
 have hF1:∀x,(((w.alloc (.cells ROW 3)).drew.drew.setCells w.heap.size i vs).drew).cell? x=((w.drew.drew.alloc (.cells ROW 3)).setCells w.heap.size i vs).cell? x:=fun x=>rfl
 have hF2:∀x,(((w.alloc (.cells ROW 3)).drew.drew.setCells w.heap.size i vs).drew).frozen? x=((w.drew.drew.alloc (.cells ROW 3)).setCells w.heap.size i vs).frozen? x:=fun x=>rfl
 have hb1:(0:Int)≤(i:Int)+ (m:Int):=by omega
 have hiN:(i:Int)≤(N:Int):=by omega
 have himN:(i:Int)+ (m:Int)≤(N:Int):=by omega
 have htn:((i:Int)+ (m:Int)).toNat=i+m:=by omega
 clear hkk hik2 hold hROW hG hRl hN
 go_enter Tryz.func62,Tryz.ntmps62
 go_wp2
 go_region_law_o (refine step_copy_runI rfl _ _ 25 25 rfl (.slice (some ⟨w.heap.size,i+m,none⟩) (N-(i+m)) (G-(i+m))) (.slice (some ⟨b,off+k,none⟩) (n-k) (c-k)) (by simp[Act.eval,Act.put]) (by simp[Act.eval,Act.put]) (hcpB _ hF1 hF2 3 (G-(i+m)) (c-k)) ?_)
 all_goals
  go_wp2_with (first
   | (at_builtin;refine Lib.wpList_append_run _ rfl _ _ _ _ rfl _ _ rfl rfl _ _ (hrz _) ?_)
   | (at_builtin;refine wpList_copy_runI _ rfl _ _ 25 25 rfl _ _ rfl rfl (hcpA _ hE1 hE2 _ _) ?_)
   | (at_builtin;refine wpList_copy_runI _ rfl _ _ 25 25 rfl _ _ rfl rfl (hcpB _ (fun _=>rfl) (fun _=>rfl) _ _ _) ?_))
  go_region_law_o (refine step_copy_runI rfl _ _ 25 25 rfl (.slice (some ⟨w.heap.size,i+m,none⟩) (N-(i+m)) (G-(i+m))) (.slice (some ⟨b,off+k,none⟩) (n-k) (c-k)) (by simp[Act.eval,Act.put]) (by simp[Act.eval,Act.put]) (hcpB _ hF1 hF2 3 (G-(i+m)) (c-k)) ?_)
  go_wp2
  go_ret
  exact⟨rfl,rfl⟩
end
end Rep
end Go.Proofs
namespace Go.Proofs
open Go.RowKit Go.Shelf Go.Lib Go.Vm.W
namespace Gw
theorem jhw {x:Int} (h:0≤x∧x≤10000000):IntKind.i64.wrap x=x:=by rw[IntKind.wrap_i64];omega
set_option maxHeartbeats 4000000 in
set_option maxRecDepth 100000 in
theorem zero64 (w:World):Calls Tryz.prog 64 #[.slice none 0 0,.int .i64 (0:Nat)] w fun e w'=>e=.returned (.slice none 0 0)∧w'=w:=by
 go_enter Tryz.func64,Tryz.ntmps64
 go_wp2
 go_ret
 exact⟨rfl,rfl⟩
set_option maxHeartbeats 4000000 in
set_option maxRecDepth 100000 in
theorem grow64 (n:Nat) (w:World) (hn:0<n) (hn2:n≤1000001):Calls Tryz.prog 64 #[.slice none 0 0,.int .i64 n] w fun e w'=>∃v,e=.returned v∧jj0 w w' [] v:=by
 obtain⟨i0,hi0,hz0,hzs,hzb⟩:=Rep.i3
 have mixed:=Rep.mixed
 have hold:(Builtin.firstCells i0.size 0 (.slice none 0 0)).run Tryz.prog w.drew=.ok ([]:List Value).toArray w.drew:=by
  rw[hzs];exact run_firstCells_none w.drew 1 0 0 0
 have hrz:∀ty,(Builtin.append_ #[25,3] ty #[.slice none 0 0,.int .i64 n]).run Tryz.prog w=_:=fun ty=>
  Lib.run_append_grow_zeros w 25 3 ty 3 i0 _ .i64 .i64 Rep.und Tryz.underlying3 hi0 hz0 none 0 0 [] hold n (by omega) (by omega) (by omega) (by omega) (by rw[hzb];omega) (by rw[hzb];exact growslice_fits (by omega) (by omega))
 have h1:(0:Int)< (n:Int):=by omega
 have h2:¬((n:Int)<0):=by omega
 have hw:IntKind.i64.wrap (n:Int)=n:=jhw (by omega)
 go_enter Tryz.func64,Tryz.ntmps64
 go_wp2_with (at_builtin;refine Lib.wpList_append_run _ rfl _ _ _ _ rfl _ _ rfl rfl _ _ (hrz _) ?_)
 go_ret
 have g1:=grownCap_ge w n 0 3
 have g2:=grownCap_le_maxLen w n 0 3 (by unfold maxLen;omega)
 unfold maxLen at g2
 refine⟨_,rfl,grownCap w n 0 3,Builtin.zeroCells #[.int .i64 0] n++Builtin.zeroCells #[.int .i64 0] (grownCap w n 0 3-n),3,rfl,Nat.zero_le _,by omega,by show(w.heap.push _)[w.heap.size]?=_;rw[Array.getElem?_push,if_pos rfl],by simp[Builtin.zeroCells];omega,(fun j h=>by simp at h),rfl,rfl,rfl,by show w.heap.size≤(w.heap.push _).size;rw[Array.size_push];omega,fun x hx=>by show(w.heap.push _)[x]?=_;rw[Array.getElem?_push,if_neg (by omega)]⟩
theorem i57:∃i0,Tryz.prog.info? 57=some i0∧i0.zero=some (.int .u8 0)∧i0.size=1∧i0.bytes=1:=by
 have h:(Tryz.prog.info? 57).map (fun i=>(i.zero,i.size,i.bytes))=some (some (.int .u8 0),1,1):=by kernel_rfl
 cases hi:Tryz.prog.info? 57 with
 | none=>rw[hi] at h;cases h
 | some i=>
   rw[hi] at h
   simp only[Option.map_some,Option.some.injEq,Prod.mk.injEq] at h
   exact⟨i,rfl,h⟩
set_option maxHeartbeats 4000000 in
set_option maxRecDepth 100000 in
theorem zero65 (w:World):Calls Tryz.prog 65 #[.slice none 0 0,.int .i64 (0:Nat)] w fun e w'=>e=.returned (.slice none 0 0)∧w'=w:=by
 go_enter Tryz.func65,Tryz.ntmps65
 go_wp2
 go_ret
 exact⟨rfl,rfl⟩
set_option maxHeartbeats 4000000 in
set_option maxRecDepth 100000 in
theorem grow65 (n:Nat) (w:World) (hn:0<n) (hn2:n≤1000001):Calls Tryz.prog 65 #[.slice none 0 0,.int .i64 n] w fun e w'=>∃v,e=.returned v∧jj0 w w' [] v:=by
 obtain⟨i0,hi0,hz0,hzs,hzb⟩:=i57
 have mixed:=Rep.mixed
 have hold:(Builtin.firstCells i0.size 0 (.slice none 0 0)).run Tryz.prog w.drew=.ok ([]:List Value).toArray w.drew:=by
  rw[hzs];exact run_firstCells_none w.drew 1 0 0 0
 have hrz:∀ty,(Builtin.append_ #[26,3] ty #[.slice none 0 0,.int .i64 n]).run Tryz.prog w=_:=fun ty=>
  Lib.run_append_grow_zeros w 26 3 ty 57 i0 _ .i64 .i64 Tryz.underlying26 Tryz.underlying3 hi0 hz0 none 0 0 [] hold n (by omega) (by omega) (by omega) (by omega) (by rw[hzb];omega) (by rw[hzb];exact growslice_fits (by omega) (by omega))
 have h1:(0:Int)< (n:Int):=by omega
 have h2:¬((n:Int)<0):=by omega
 have hw:IntKind.i64.wrap (n:Int)=n:=jhw (by omega)
 go_enter Tryz.func65,Tryz.ntmps65
 go_wp2_with (at_builtin;refine Lib.wpList_append_run _ rfl _ _ _ _ rfl _ _ rfl rfl _ _ (hrz _) ?_)
 go_ret
 have g1:=grownCap_ge w n 0 57
 have g2:=grownCap_le_maxLen w n 0 57 (by unfold maxLen;omega)
 unfold maxLen at g2
 refine⟨_,rfl,grownCap w n 0 57,Builtin.zeroCells #[.int .u8 0] n++Builtin.zeroCells #[.int .u8 0] (grownCap w n 0 57-n),57,rfl,Nat.zero_le _,by omega,by show(w.heap.push _)[w.heap.size]?=_;rw[Array.getElem?_push,if_pos rfl],by simp[Builtin.zeroCells];omega,(fun j h=>by simp at h),rfl,rfl,rfl,by show w.heap.size≤(w.heap.push _).size;rw[Array.size_push];omega,fun x hx=>by show(w.heap.push _)[x]?=_;rw[Array.getElem?_push,if_neg (by omega)]⟩
end Gw
end Go.Proofs
namespace Go.Proofs
open Go.RowKit Go.Shelf Go.Lib Go.Vm.W
namespace InsC
theorem kb5 {L:List Int} {j:Nat} {v:Value} (h:(L.map (Value.int .i64))[j]?=some v):∃hj:j<L.length,v=.int .i64 L[j]:=by
 rw[List.getElem?_map] at h
 cases hq:L[j]? with
 | none=>rw[hq] at h;cases h
 | some x=>
   rw[hq] at h
   obtain⟨h1,h2⟩:=List.getElem?_eq_some_iff.1 hq
   cases h
   exact⟨h1,by rw[h2]⟩
theorem jgn {L:List Int}:∀v∈L.map (Value.int .i64),v.oneCell'=true:=fun v hv=>by
 obtain⟨x,_,rfl⟩:=List.mem_map.1 hv
 rfl
section
variable {w:World} {b off n c:Nat} {L:List Int} (h:j77 w b off n c L)
include h
theorem jcq:∀j v,(L.map (Value.int .i64))[j]?=some v→w.cell? ⟨b,off+j,none⟩=some v:=fun j v hv=>by
 obtain⟨cs,e,fr,h1,_,_,_,_,_,h7⟩:=h
 obtain⟨hj,rfl⟩:=kb5 hv
 simp only[World.cell?,h1,Option.isSome_none,Bool.false_eq_true,if_false]
 exact h7 j hj
theorem jr9:∀j,j<c→(w.cell? ⟨b,off+j,none⟩).isSome=true:=fun j hj=>by
 obtain⟨cs,e,fr,h1,h2,_⟩:=h
 simp only[World.cell?,h1,Option.isSome_none,Bool.false_eq_true,if_false]
 rw[Array.getElem?_eq_getElem (by omega)]
 rfl
theorem jn8:∀q,off≤q→w.frozen? ⟨b,q,none⟩=false:=fun q hq=>by
 obtain⟨cs,e,fr,h1,_,h3,_⟩:=h
 have:=h3 q hq
 simp only[World.frozen?,h1]
 simp only[Bool.and_eq_false_iff,decide_eq_false_iff_not]
 omega
theorem jnv:∃e k,w.shape? b=some (e,k)∧off+c≤k:=by
 obtain⟨cs,e,fr,h1,h2,_⟩:=h
 exact⟨e,cs.size,by simp[World.shape?,h1],h2⟩
theorem jlp:L.length=n∧n≤c∧c≤9223372036854775807∧b<w.heap.size:=by
 obtain⟨cs,e,fr,h1,_,_,h4,h5,h6,_⟩:=h
 exact⟨h4,h5,h6,(Array.getElem?_eq_some_iff.1 h1).1⟩
end
theorem jzo {L V:List Int} {i k j:Nat} (hi:i≤L.length) (hk:k≤L.length) (h:j< (jhv L i k V).length):(jhv L i k V)[j]?=if j<i then L[j]? else if j<i+V.length then V[j-i]? else L[k+ (j-(i+V.length))]?:=by
 unfold jhv
 by_cases h1:j<i
 ·rw[if_pos h1,List.append_assoc,List.getElem?_append_left (by simp;omega),List.getElem?_take,if_pos h1]
 ·rw[if_neg h1]
  by_cases h2:j<i+V.length
  ·rw[if_pos h2,List.append_assoc,List.getElem?_append_right (by simp;omega),List.getElem?_append_left (by simp;omega)]
   congr 1
   simp;omega
  ·rw[if_neg h2,List.getElem?_append_right (by simp;omega),List.getElem?_drop]
   congr 1
   simp;omega
theorem jss {L V:List Int} {i k:Nat} (hi:i≤L.length) (hk:k≤L.length):(jhv L i k V).length=i+V.length+ (L.length-k):=by
 unfold jhv;simp;omega
theorem jsz {w W:World} {b off n c i k:Nat} {L V:List Int} (h:j77 w b off n c L) (hi:i≤k) (hk:k≤n) (hr:i+V.length+ (n-k)≤c) (hW:W.heap=w.heap) (ho:W.os=w.os) (ht:W.tape=w.tape) (hu:W.output=w.output) {m:Nat} (hm:m=i+V.length+ (n-k)):
  kfs w ((W.setCells b (off+ (i+V.length)) ((L.map (Value.int .i64)).drop k)).setCells b (off+i) (V.map (Value.int .i64))) b off c (jhv L i k V) (.slice (some ⟨b,off,none⟩) m c):=by
 obtain⟨cs,e,fr,h1,h2,h3,h4,h5,h6,h7⟩:=h
 have hl:=jss (L:=L) (V:=V) (i:=i) (k:=k) (by omega) (by omega)
 obtain⟨a1,a2,a3,a4,a5,cs1,a6,a7,a8⟩:=Go.Vm.setCells_facts b ((L.map (Value.int .i64)).drop k) (off+ (i+V.length)) W cs e fr (by rw[hW];exact h1)
 obtain⟨b1,b2,b3,b4,b5,cs2,b6,b7,b8⟩:=Go.Vm.setCells_facts b (V.map (Value.int .i64)) (off+i) _ cs1 e fr a6
 refine⟨by rw[hl,hm,h4],by rw[hl];omega,b1.trans (a1.trans ho),b2.trans (a2.trans ht),b3.trans (a3.trans hu),b4.trans (a4.trans (by rw[hW])),fun x hx=>(b5 x hx).trans ((a5 x hx).trans (by rw[hW])),fun cs' e' fr' hc=>?_⟩
 rw[h1] at hc
 cases hc
 refine⟨cs2,b6,by rw[b7,a7],fun j hj=>?_⟩
 have hg:=jzo (L:=L) (V:=V) (i:=i) (k:=k) (by omega) (by omega) hj
 rw[List.getElem?_eq_getElem hj] at hg
 rw[hl] at hj
 rw[b8 _ (by omega)]
 by_cases g1:j<i
 ·rw[if_neg (by omega),a8 _ (by omega),if_neg (by omega),h7 j (by omega)]
  rw[if_pos g1,List.getElem?_eq_getElem (by omega)] at hg
  rw[Option.some.inj hg]
 ·rw[if_neg g1] at hg
  by_cases g2:j<i+V.length
  ·rw[if_pos ⟨by omega,by simp;omega⟩]
   rw[if_pos g2,List.getElem?_eq_getElem (by omega)] at hg
   rw[List.getElem?_map,show off+j-(off+i)=j-i by omega,List.getElem?_eq_getElem (by omega),Option.some.inj hg]
   rfl
  ·rw[if_neg (by simp;omega),a8 _ (by omega),if_pos ⟨by omega,by simp;omega⟩]
   rw[if_neg g2,List.getElem?_eq_getElem (by omega)] at hg
   rw[List.getElem?_drop,List.getElem?_map,show k+ (off+j-(off+ (i+V.length)))=k+ (j-(i+V.length)) by omega,List.getElem?_eq_getElem (by omega),Option.some.inj hg]
   rfl
theorem jn7 (n:Nat):(Builtin.zeroCells (Value.int .i64 0).cells n).size=n:=by simp[Builtin.zeroCells,Value.cells]
theorem jz1 {w w':World} (h1:w'.os=w.os) (h2:w'.tape=w.tape) (h3:w'.output=w.output) (h4:w.heap.size≤w'.heap.size) (h5:∀x,x<w.heap.size→w'.heap[x]?=w.heap[x]?):Below w.heap.size w w':=⟨h1,h2,h3,h4,h5⟩
theorem js7 {w W:World} {ROW:Array Value} {G:Nat} {N:List Int} {m:Nat} (hW:W.heap=w.heap.push (.cells ROW 3)) (ho:W.os=w.os) (ht:W.tape=w.tape) (hu:W.output=w.output) (hG:G≤ROW.size) (h1:N.length≤G) (h2:G≤9223372036854775807) (hm:m=N.length)
  (hc:∀j (h:j<N.length),ROW[j]?=some (.int .i64 N[j])):jj0 w W N (.slice (some ⟨w.heap.size,0,none⟩) m G):=
 ⟨G,ROW,3,by rw[hm],h1,h2,by rw[hW];simp,hG,hc,jz1 ho ht hu (by rw[hW];simp) fun x hx=>by rw[hW,Array.getElem?_push,if_neg (by omega)]⟩
theorem jva {w W W2:World} {ROW:Array Value} {G i k n:Nat} {L V:List Int} {m:Nat} (hW:W.heap=w.heap.push (.cells ROW 3)) (ho:W.os=w.os) (ht:W.tape=w.tape) (hu:W.output=w.output) (hG:G≤ROW.size) (hn:L.length=n) (hi:i≤k) (hk:k≤n)
  (hm:m=i+V.length+ (n-k)) (h1:m≤G) (h2:G≤9223372036854775807) (hc:∀j (h:j<L.length),j<i→ROW[j]?=some (.int .i64 L[j]))
  (hW2:W2.heap=(W.setCells w.heap.size i (V.map (Value.int .i64))).heap) (ho2:W2.os=W.os) (ht2:W2.tape=W.tape) (hu2:W2.output=W.output):
  jj0 w (W2.setCells w.heap.size (i+V.length) ((L.map (Value.int .i64)).drop k)) (jhv L i k V) (.slice (some ⟨w.heap.size,0,none⟩) m G):=by
 have hl:=jss (L:=L) (V:=V) (i:=i) (k:=k) (by omega) (by omega)
 obtain⟨a1,a2,a3,a4,a5,cs1,a6,a7,a8⟩:=Go.Vm.setCells_facts w.heap.size (V.map (Value.int .i64)) i W ROW 3 (0,0) (by rw[hW];simp)
 obtain⟨b1,b2,b3,b4,b5,cs2,b6,b7,b8⟩:=Go.Vm.setCells_facts w.heap.size ((L.map (Value.int .i64)).drop k) (i+V.length) W2 cs1 3 (0,0) (by rw[hW2];exact a6)
 refine⟨G,cs2,3,by rw[hl,hm,hn],by rw[hl];omega,h2,b6,by omega,fun j hj=>?_,jz1 (b1.trans (ho2.trans ho)) (b2.trans (ht2.trans ht)) (b3.trans (hu2.trans hu)) (by rw[b4,hW2,a4,hW];simp) fun x hx=>?_⟩
 ·have hg:=jzo (L:=L) (V:=V) (i:=i) (k:=k) (by omega) (by omega) hj
  rw[List.getElem?_eq_getElem hj] at hg
  rw[hl] at hj
  rw[b8 _ (by omega)]
  by_cases g1:j<i
  ·rw[if_neg (by omega),a8 _ (by omega),if_neg (by omega),hc j (by omega) g1]
   rw[if_pos g1,List.getElem?_eq_getElem (by omega)] at hg
   rw[Option.some.inj hg]
  ·rw[if_neg g1] at hg
   by_cases g2:j<i+V.length
   ·rw[if_neg (by omega),a8 _ (by omega),if_pos ⟨by omega,by simp;omega⟩]
    rw[if_pos g2,List.getElem?_eq_getElem (by omega)] at hg
    rw[List.getElem?_map,List.getElem?_eq_getElem (by omega),Option.some.inj hg]
    rfl
   ·rw[if_pos ⟨by omega,by simp;omega⟩]
    rw[if_neg g2,List.getElem?_eq_getElem (by omega)] at hg
    rw[List.getElem?_drop,List.getElem?_map,List.getElem?_eq_getElem (by omega),Option.some.inj hg]
    rfl
 ·rw[b5 x (by omega),hW2,a5 x (by omega),hW,Array.getElem?_push,if_neg (by omega)]
theorem jj6 (b:Nat):∀(vs:List Value) (o:Nat) (w:World),(w.setCells b o vs).os=w.os∧(w.setCells b o vs).tape=w.tape∧(w.setCells b o vs).output=w.output
 | [],_,_=>⟨rfl,rfl,rfl⟩
 | v::vs,o,w=>by
   have h0:(w.setCell ⟨b,o,none⟩ v).os=w.os∧(w.setCell ⟨b,o,none⟩ v).tape=w.tape∧(w.setCell ⟨b,o,none⟩ v).output=w.output:=by
    unfold World.setCell
    split<;>exact⟨rfl,rfl,rfl⟩
   obtain⟨h1,h2,h3⟩:=jj6 b vs (o+1) (w.setCell ⟨b,o,none⟩ v)
   exact⟨h1.trans h0.1,h2.trans h0.2.1,h3.trans h0.2.2⟩
theorem grown {w:World} {n c:Nat} (hn:n≤2000000):n≤grownCap w n c 3∧grownCap w n c 3≤9223372036854775807:=by
 refine⟨grownCap_ge w _ _ _,?_⟩
 have:=grownCap_le_maxLen w n c 3 (by unfold maxLen;omega)
 unfold maxLen at this
 omega
theorem j22 {A B:List Value} {z:Nat} {j:Nat} (h:j<A.length+B.length):((A++B).toArray++Builtin.zeroCells (Value.int .i64 0).cells z)[j]?=(A++B)[j]?:=by
 rw[Array.getElem?_append_left (by simp;omega)]
 simp
theorem j21 {A:List Value} {y z:Nat} {j:Nat} (h:j<A.length):(A.toArray++Builtin.zeroCells (Value.int .i64 0).cells y++Builtin.zeroCells (Value.int .i64 0).cells z)[j]?=A[j]?:=by
 rw[Array.getElem?_append_left (by simp;omega),Array.getElem?_append_left (by simp;omega)]
 simp
theorem e3:Tryz.laysNm221_ren.t 3=3:=by kernel_rfl
theorem ins_c (i:Nat):kfr Tryz.prog 61 i i fun x y=>#[x,.int .i64 i,y]:=by
 intro b off n c vb voff m vc L V w hL hV hne _ hin hn hm hn6 hm3 _
 obtain⟨l1,l2,l3,l4⟩:=jlp hL
 obtain⟨v1,v2,v3,v4⟩:=jlp hV
 have jbj:=jss (L:=L) (V:=V) (i:=i) (k:=i) (by omega) (by omega)
 by_cases hi:i<n
 ·by_cases hroom:n+m≤c
  ·obtain⟨tA,kA,sA,sA2⟩:=jnv hV
   obtain⟨tB,kB,sB,sB2⟩:=jnv hL
   refine(Any2.slices_Insert_int_shift Tryz.laysNm221 b off n c i vb voff m vc (L.map (Value.int .i64)) (V.map (Value.int .i64)) w hi hm hroom l3 (fun e=>hne e.symm) (by simpa using l1) (by simpa using v1) (jcq hL) (fun j hj=>jr9 hL j (by omega)) (fun j hj=>jn8 hL _ (by omega))
    (jcq hV) jgn jgn tA tB kA kB sA sB (by omega) (jn8 hV _ (by omega)) (jn8 hV _ (by omega))).mono ?_
   rintro e w' ⟨rfl,rfl⟩
   refine⟨_,rfl,.inl ?_⟩
   have:=jsz (W:=w.drew) (V:=V) hL (Nat.le_refl i) hin (by omega) rfl rfl rfl rfl (m:=n+m) (by omega)
   rw[v1] at this
   exact this
  ·refine(Any2.slices_Insert_int_grow Tryz.laysNm221 b off n c i vb voff m vc (L.map (Value.int .i64)) (V.map (Value.int .i64)) w hi hm l2 (by omega) (by omega) (by simpa using l1) (by simpa using v1) (jcq hL) (jcq hV) jgn jgn).mono ?_
   rintro e w' ⟨rfl,rfl⟩
   refine⟨_,rfl,.inr ?_⟩
   have g:=grown (w:=w) (n:=n+m) (c:=c) (by omega)
   have g1:=g.1
   have g2:=g.2
   have:=jva (w:=w) (L:=L) (V:=V) (i:=i) (k:=i) (n:=n) (m:=n+m) (G:=grownCap w (n+m) c 3) (W:=(w.alloc (.cells (((L.map (Value.int .i64)).take i).toArray++Builtin.zeroCells (Value.int .i64 0).cells (n+m-i)++Builtin.zeroCells (Value.int .i64 0).cells (grownCap w (n+m) c 3-(n+m))) 3)).drew)
    (W2:=((w.alloc (.cells (((L.map (Value.int .i64)).take i).toArray++Builtin.zeroCells (Value.int .i64 0).cells (n+m-i)++Builtin.zeroCells (Value.int .i64 0).cells (grownCap w (n+m) c 3-(n+m))) 3)).drew.setCells w.heap.size i (V.map (Value.int .i64))).drew)
    rfl rfl rfl rfl (by simp[jn7];omega) l1 (Nat.le_refl i) hin (by omega) g.1 g.2 (fun j hj hji=>by
     rw[j21 (by simp;omega),List.getElem?_take,if_pos hji,List.getElem?_map,List.getElem?_eq_getElem hj];rfl) rfl (jj6 _ _ _ _).1 (jj6 _ _ _ _).2.1 (jj6 _ _ _ _).2.2
   rw[v1] at this
   exact this
 ·obtain rfl:i=n:=by omega
  have hnil:jhv L i i V=L++V:=by
   unfold jhv
   rw[List.take_of_length_le (by omega),List.drop_of_length_le (by omega),List.append_nil]
  by_cases hroom:i+m≤c
  ·refine(Any2.slices_Insert_int_end_room Tryz.laysNm221 b off i c vb voff m vc (V.map (Value.int .i64)) w hm hroom l3 (by simpa using v1) (fun j hj=>by rw[Nat.add_assoc];exact jr9 hL _ (by omega)) (fun j hj=>jn8 hL _ (by omega)) (jcq hV) jgn).mono ?_
   rintro e w' ⟨rfl,rfl⟩
   refine⟨_,rfl,.inl ?_⟩
   have:=jsz (W:=w) (V:=V) hL (Nat.le_refl i) hin (by omega) rfl rfl rfl rfl (m:=i+m) (by omega)
   rw[List.drop_of_length_le (by simp;omega)] at this
   exact this
  ·refine(Any2.slices_Insert_int_end_grow Tryz.laysNm221 (some ⟨b,off,none⟩) i c vb voff m vc (L.map (Value.int .i64)) (V.map (Value.int .i64)) w hm l2 (by omega) (by omega) (by simpa using l1) (by simpa using v1) (fun h=>by cases h) (fun a ha j v hv=>by
    cases ha;rw[Addr.add_lit];exact jcq hL j v hv) (jcq hV) jgn).mono ?_
   rintro e w' ⟨rfl,rfl⟩
   simp only[e3]
   have g:=grown (w:=w) (n:=i+m) (c:=c) (by omega)
   have g1:=g.1
   have g2:=g.2
   refine⟨_,rfl,.inr (js7 rfl rfl rfl rfl (by simp[jn7];omega) (by omega) g.2 (by omega) fun j hj=>?_)⟩
   rw[j22 (by simp;omega),←List.map_append,List.getElem?_map]
   simp only[hnil] at hj ⊢
   rw[List.getElem?_eq_getElem hj]
   rfl
theorem ins_0 (vb voff m vc:Nat) (V:List Int) (w:World) (hV:j77 w vb voff m vc V) (hm:0<m) (hm3:m≤1000):Calls Tryz.prog 61 #[.slice none 0 0,.int .i64 (0:Nat),.slice (some ⟨vb,voff,none⟩) m vc] w fun e w'=>∃v,e=.returned v∧jj0 w w' V v:=by
 obtain⟨v1,v2,v3,v4⟩:=jlp hV
 refine(Any2.slices_Insert_int_end_grow Tryz.laysNm221 none 0 0 vb voff m vc [] (V.map (Value.int .i64)) w hm (Nat.le_refl _) (by omega) (by omega) rfl (by simpa using v1) (fun _=>rfl) (fun a ha=>by cases ha) (jcq hV) jgn).mono ?_
 rintro e w' ⟨rfl,rfl⟩
 simp only[e3]
 have g:=grown (w:=w) (n:=0+m) (c:=0) (by omega)
 have g1:=g.1
 have g2:=g.2
 refine⟨_,rfl,js7 rfl rfl rfl rfl (by simp[jn7];omega) (by omega) g.2 (by omega) fun j hj=>?_⟩
 rw[j22 (by simp;omega),List.nil_append,List.getElem?_map,List.getElem?_eq_getElem hj]
 rfl
theorem rep_c (i k:Nat) (hik:i≠k):kfr Tryz.prog 62 i k fun x y=>#[x,.int .i64 i,.int .i64 k,y]:=by
 intro b off n c vb voff m vc L V w hL hV hne hi hkn hn hm hn6 hm3 hmk
 obtain⟨l1,l2,l3,l4⟩:=jlp hL
 obtain⟨v1,v2,v3,v4⟩:=jlp hV
 have jbj:=jss (L:=L) (V:=V) (i:=i) (k:=k) (by omega) (by omega)
 have hlt:i<k:=by omega
 by_cases hk:k<n
 ·by_cases hroom:i+m+ (n-k)≤c
  ·obtain⟨tA,kA,sA,sA2⟩:=jnv hV
   obtain⟨tB,kB,sB,sB2⟩:=jnv hL
   refine(Rep.mid_room b off n c i vb voff m vc (L.map (Value.int .i64)) (V.map (Value.int .i64)) w k hlt hk (by omega) hroom (by omega) l3 hne (by simpa using l1) (by simpa using v1) (jcq hL) (fun j hj=>jr9 hL j (by omega)) (fun j hj=>jn8 hL _ (by omega))
    (jcq hV) jgn jgn tA tB kA kB sA sB (by omega) (jn8 hL _ (by omega))).mono ?_
   rintro e w' ⟨rfl,rfl⟩
   refine⟨_,rfl,.inl ?_⟩
   have:=jsz (W:=w.drew.drew) (V:=V) hL hi hkn (by omega) rfl rfl rfl rfl (m:=i+m+ (n-k)) (by omega)
   rw[v1] at this
   exact this
  ·refine(Rep.mid_grow b off n c i vb voff m vc (L.map (Value.int .i64)) (V.map (Value.int .i64)) w k _ rfl hlt hk (by omega) l2 (by omega) (by omega) (by simpa using l1) (by simpa using v1) (jcq hL) (jcq hV) jgn jgn).mono ?_
   rintro e w' ⟨rfl,rfl⟩
   refine⟨_,rfl,.inr ?_⟩
   have g:=grown (w:=w.drew) (n:=i+m+ (n-k)) (c:=c) (by omega)
   have g1:=g.1
   have:=jva (w:=w) (L:=L) (V:=V) (i:=i) (k:=k) (n:=n) (m:=i+m+ (n-k)) (G:=grownCap w.drew (i+m+ (n-k)) c 3) (W:=(w.drew.alloc (.cells (((L.map (Value.int .i64)).take i).toArray++Builtin.zeroCells (Value.int .i64 0).cells (i+m+ (n-k)-i)++Builtin.zeroCells (Value.int .i64 0).cells (grownCap w.drew (i+m+ (n-k)) c 3-(i+m+ (n-k)))) 3)).drew)
    (W2:=((w.drew.alloc (.cells (((L.map (Value.int .i64)).take i).toArray++Builtin.zeroCells (Value.int .i64 0).cells (i+m+ (n-k)-i)++Builtin.zeroCells (Value.int .i64 0).cells (grownCap w.drew (i+m+ (n-k)) c 3-(i+m+ (n-k)))) 3)).drew.setCells w.heap.size i (V.map (Value.int .i64))).drew)
    rfl rfl rfl rfl (by simp[jn7];omega) l1 hi hkn (by omega) g.1 g.2 (fun j hj hji=>by
     rw[j21 (by simp;omega),List.getElem?_take,if_pos hji,List.getElem?_map,List.getElem?_eq_getElem hj];rfl) rfl (jj6 _ _ _ _).1 (jj6 _ _ _ _).2.1 (jj6 _ _ _ _).2.2
   rw[v1] at this
   exact this
 ·obtain rfl:k=n:=by omega
  have hnil:jhv L i k V=L.take i++V:=by
   unfold jhv
   rw[List.drop_of_length_le (by omega),List.append_nil]
  by_cases hroom:i+m≤c
  ·refine(Rep.end_room b off k c i vb voff m vc (V.map (Value.int .i64)) w hlt (by omega) l2 hroom (by omega) (by simpa using v1) (fun j hj=>by rw[Nat.add_assoc];exact jr9 hL _ (by omega)) (fun j hj=>jn8 hL _ (by omega)) (jcq hV) jgn).mono ?_
   rintro e w' ⟨rfl,rfl⟩
   refine⟨_,rfl,.inl ?_⟩
   have:=jsz (W:=w) (V:=V) hL hi hkn (by omega) rfl rfl rfl rfl (m:=i+m) (by omega)
   rw[List.drop_of_length_le (by simp;omega)] at this
   exact this
  ·refine(Rep.end_grow b off k c i vb voff m vc (L.map (Value.int .i64)) (V.map (Value.int .i64)) w hlt (by omega) l2 (by omega) (by omega) (by simpa using l1) (by simpa using v1) (jcq hL) (jcq hV) jgn).mono ?_
   rintro e w' ⟨rfl,rfl⟩
   have g:=grown (w:=w) (n:=i+m) (c:=c) (by omega)
   have g1:=g.1
   have g2:=g.2
   refine⟨_,rfl,.inr (js7 rfl rfl rfl rfl (by simp[jn7];omega) (by omega) g.2 (by omega) fun j hj=>?_)⟩
   rw[j22 (by simp;omega),←List.map_take,←List.map_append,List.getElem?_map]
   simp only[hnil] at hj ⊢
   rw[List.getElem?_eq_getElem hj]
   rfl
end InsC
end Go.Proofs
