/-
  slices.Compare at []int: walked.
  slices.SortFunc at [][]int with slices.Compare: what it leaves.
  slices.SortFunc at no element.
-/
import Derived.Test.YtofimkliemlojaaGreatDoorVmY4
import Derived.Test.YtofimkliemlojaaGreatDoorSh
set_option linter.unusedSimpArgs false
set_option linter.unusedVariables false
set_option linter.unusedSectionVars false
set_option linter.unnecessarySimpa false
namespace Go.Proofs
open Go.RowKit Go.Shelf Go.Lib Go.Vm.W
namespace Cp
theorem jr8:∀ {xs ys:List Int} (k:Nat),(∀j,j<k→j<xs.length∧j<ys.length∧xs[j]! =ys[j]!)→je2 xs ys=je2 (xs.drop k) (ys.drop k)
 | xs,ys,0,_=>by simp
 | [],ys,k+1,h=>by have:=(h 0 (by omega)).1;simp at this
 | x::xs,[],k+1,h=>by have:=(h 0 (by omega)).2.1;simp at this
 | x::xs,y::ys,k+1,h=>by
   have h0:=(h 0 (by omega)).2.2
   simp at h0
   subst h0
   simp only[je2,List.drop_succ_cons,Int.lt_irrefl,if_false]
   exact jr8 k fun j hj=>by
    have:=h (j+1) (by omega)
    simpa using this
theorem kiq {xs ys:List Int} {k:Nat} (hx:k<xs.length) (hy:k<ys.length) (h:∀j,j<k→xs[j]! =ys[j]!) (hne:xs[k]! ≠ys[k]!):je2 xs ys=Lib.compareInt xs[k]! ys[k]! :=by
 rw[jr8 k fun j hj=>⟨by omega,by omega,h j hj⟩,List.drop_eq_getElem_cons hx,List.drop_eq_getElem_cons hy]
 rw[getElem!_pos xs k hx,getElem!_pos ys k hy] at hne ⊢
 unfold je2 Lib.compareInt
 split
 ·rfl
 ·split
  ·rfl
  ·omega
theorem mixed:Tryz.prog.follows Departure.mixedOrders=true:=by kernel_rfl
set_option maxHeartbeats 4000000 in
set_option maxRecDepth 100000 in
theorem cmp52 (b1 o1 n c b2 o2 m d:Nat) (xs ys:List Int) (w:World) (hx:n=xs.length) (hy:m=ys.length) (hbig:n≤4611686018427387904) (hbig2:m≤4611686018427387904) (hc1:∀j,j<xs.length→w.cell? ⟨b1,o1+j,none⟩=some (.int .i64 xs[j]!)) (hc2:∀j,j<ys.length→w.cell? ⟨b2,o2+j,none⟩=some (.int .i64 ys[j]!)):
  Calls Tryz.prog 52 #[.slice (some ⟨b1,o1,none⟩) n c,.slice (some ⟨b2,o2,none⟩) m d] w fun e w'=>e=.returned (.int .i64 (je2 xs ys))∧w'=w:=by
 have mixed:=mixed
 go_enter Tryz.func52,Tryz.ntmps52
 go_wp2
 go_loopg [11] n (fun g s11 wr=>∃k:Nat,k≤n∧n-k≤g∧s11=.int .i64 k∧wr=w∧Aside (∀j,j<k→j<ys.length∧xs[j]! =ys[j]!))
 case atStart=>exact⟨0,Nat.zero_le _,by omega,rfl,rfl,fun j hj=>absurd hj (Nat.not_lt_zero _)⟩
 case round=>
  obtain⟨k,hk,hg,rfl,rfl,A⟩:=hrel
  by_cases hlt:k<n
  ·have g1:wr.cell? ⟨b1,o1+k,none⟩=some (.int .i64 xs[k]!):=hc1 k (by omega)
   by_cases hm:k<m
   ·have g2:wr.cell? ⟨b2,o2+k,none⟩=some (.int .i64 ys[k]!):=hc2 k (by omega)
    clear hc1 hc2
    generalize hxk:xs[k]! =x at g1
    generalize hyk:ys[k]! =y at g2
    have B:Aside (xs[k]! =x∧ys[k]! =y):=⟨hxk,hyk⟩
    clear hxk hyk
    by_cases hxy:x=y
    ·go_wp2
     go_roundg (n-(k+1))
     case measure=>omega
     case rel=>
      refine⟨k+1,by omega,by omega,by go_num,rfl,(show Aside _ from fun j hj=>?_)⟩
      by_cases e:j=k
      ·subst e
       rw[B.out.1,B.out.2];exact⟨by omega,hxy⟩
      ·exact A.out j (by omega)
    ·have e:=kiq (xs:=xs) (ys:=ys) (k:=k) (by omega) (by omega) (fun j hj=>(A.out j hj).2) (by rw[B.out.1,B.out.2];exact hxy)
     rw[B.out.1,B.out.2] at e
     have E:Aside (je2 xs ys=Lib.compareInt x y):=e
     clear e
     by_cases h1:x<y
     ·go_wp2
      go_ret
      refine⟨?_,rfl⟩
      rw[E.out];simp[Lib.compareInt,h1]
     ·have h2:y<x:=by omega
      go_wp2
      go_ret
      refine⟨?_,rfl⟩
      rw[E.out];simp[Lib.compareInt,h1,h2]
   ·clear hc1 hc2
    have:k=ys.length:=by
     by_cases h0:k=0
     ·omega
     ·have:=(A.out (k-1) (by omega)).1;omega
    subst this
    have e:=jr8 (xs:=xs) (ys:=ys) ys.length fun j hj=>⟨by omega,(A.out j hj)⟩
    rw[List.drop_of_length_le (Nat.le_refl _),List.drop_eq_getElem_cons (by omega)] at e
    have E:Aside (je2 xs ys=1):=by rw[Aside];rw[e];rfl
    clear e
    go_wp2
    go_ret
    exact⟨by rw[E.out];rfl,rfl⟩
  ·have:k=xs.length:=by omega
   subst this
   clear hc1 hc2
   have e:=jr8 (xs:=xs) (ys:=ys) xs.length fun j hj=>⟨hj,A.out j hj⟩
   rw[List.drop_of_length_le (Nat.le_refl _)] at e
   by_cases hm:xs.length<m
   ·rw[List.drop_eq_getElem_cons (by omega)] at e
    have E:Aside (je2 xs ys= -1):=by rw[Aside];rw[e];rfl
    clear e
    go_wp2
    go_ret
    exact⟨by rw[E.out];rfl,rfl⟩
   ·rw[List.drop_of_length_le (by omega)] at e
    have E:Aside (je2 xs ys=0):=by rw[Aside];rw[e];rfl
    clear e
    go_wp2
    go_ret
    exact⟨by rw[E.out];rfl,rfl⟩
end Cp
end Go.Proofs
namespace Go.Proofs
open Go.RowKit Go.Shelf Go.Lib Go.Sort Go.Vm.W
namespace Srt
def ixC (L:List (List Int)) (i:Nat):List Int:=L.getD i (L.headD [])
def cfL (L:List (List Int)) (i j:Nat):Int:=je2 (ixC L i) (ixC L j)
def ordL (L:List (List Int)):List Nat:=(pdq (ltOf (cfL L)) (Array.range L.length) 0 L.length (Lib.bitLen L.length) true true).toList
theorem kn7 {L:List (List Int)} {x y:Nat}:ltOf (cfL L) x y=true↔je2 (ixC L x) (ixC L y)<0:=by unfold ltOf;exact decide_eq_true_iff
theorem kkf {L:List (List Int)} {x y:Nat}:ltOf (cfL L) x y=false↔0≤je2 (ixC L x) (ixC L y):=by
 unfold ltOf
 rw[decide_eq_false_iff_not]
 exact Int.not_lt
theorem swo (L:List (List Int)):SWO (ltOf (cfL L)) where
 irrefl x:=kkf.2 (by rw[jkz];omega)
 trans x y z h k:=kn7.2 (jtd (kn7.1 h) (kn7.1 k))
 ntrans x y z h k:=by
  have h:=kkf.1 h
  have k:=kkf.1 k
  have e1:=jha (ixC L y) (ixC L x)
  have e2:=jha (ixC L z) (ixC L y)
  have e3:=jha (ixC L z) (ixC L x)
  have:=jr9 (x:=ixC L z) (y:=ixC L y) (z:=ixC L x) (by omega) (by omega)
  exact kkf.2 (by omega)
theorem jv7 (L:List (List Int)):(ordL L).length=L.length∧(ordL L).Perm (List.range L.length)∧(ordL L).Pairwise fun i j=>je2 (ixC L i) (ixC L j)≤0:=by
 have h:=pdq_sorts (ltOf (cfL L)) (swo L) (Array.range L.length) 0 L.length (Lib.bitLen L.length) true true (Nat.zero_le _) (by simp) (Or.inl rfl)
 obtain⟨⟨h1,_,h3⟩,h4⟩:=h
 have hs:(pdq (ltOf (cfL L)) (Array.range L.length) 0 L.length (Lib.bitLen L.length) true true).size=L.length:=by rw[h1];simp
 have e1:ordL L=(pdq (ltOf (cfL L)) (Array.range L.length) 0 L.length (Lib.bitLen L.length) true true).toList:=rfl
 generalize pdq (ltOf (cfL L)) (Array.range L.length) 0 L.length (Lib.bitLen L.length) true true=D at *
 have e2:D.extract 0 L.length=D:=by
  rw[←hs];simp
 have e3:(Array.range L.length).extract 0 L.length=Array.range L.length:=by
  have:(Array.range L.length).size=L.length:=by simp
  conv=>lhs;rw[←this]
  simp
 rw[e2,e3] at h3
 refine⟨by rw[e1];simpa using hs,by rw[e1];simpa using h3,?_⟩
 rw[e1,List.pairwise_iff_getElem]
 intro i j hi hj hij
 have hj':j<D.size:=by simpa using hj
 have hi':i<D.size:=by simpa using hi
 have:=h4 i j (Nat.zero_le _) hij (by omega)
 rw[getElem!_pos D i hi',getElem!_pos D j hj'] at this
 have this:=kkf.1 this
 rw[jha] at this
 simp only[Array.getElem_toList]
 omega
theorem ord_ok (L:List (List Int)):(ordL L).length=L.length∧∀i∈ordL L,i<L.length:=by
 obtain⟨h1,h2,_⟩:=jv7 L
 exact⟨h1,fun i hi=>List.mem_range.1 (h2.subset hi)⟩
theorem ord_sort (L:List (List Int)):pick [] L (ordL L)=jpk L:=by
 obtain⟨h1,h2,h3⟩:=jv7 L
 have hix:∀i,i<L.length→L.getD i []=ixC L i:=fun i hi=>by
  unfold ixC
  rw[List.getD_eq_getElem?_getD,List.getD_eq_getElem?_getD,List.getElem?_eq_getElem hi];rfl
 refine j18 ?_ (jmp L) ?_
 ·unfold pick
  rw[List.pairwise_map]
  refine List.Pairwise.imp_of_mem ?_ h3
  intro a b ha hb h
  rw[hix a (List.mem_range.1 (h2.subset ha)),hix b (List.mem_range.1 (h2.subset hb))]
  exact h
 ·refine List.Perm.trans ?_ (jkc L).symm
  have:=h2.map fun i=>L.getD i []
  refine this.trans ?_
  rw[show(List.range L.length).map (fun i=>L.getD i [])=L from ?_]
  refine List.ext_getElem? fun i=>?_
  rw[List.getElem?_map]
  by_cases hi:i<L.length
  ·rw[List.getElem?_range hi,Option.map_some,List.getD_eq_getElem?_getD,List.getElem?_eq_getElem hi];rfl
  ·rw[List.getElem?_eq_none (by simpa using hi),List.getElem?_eq_none (by omega)];rfl
theorem jy1 {enc:Nat→Value} {w:World} {blk off m:Nat} {dk:Array Nat} {os:Array Obj} {a:Addr} (hne:a.block≠blk) (hlt:a.block<w.heap.size):(sortWorld enc w blk off m dk os).cell? a=w.cell? a:=by
 unfold sortWorld
 rw[cell?_grow _ _ _ (by simpa[putRow,mapBlock,Sort.ahead] using hlt)]
 simp only[World.cell?,putRow,mapBlock,Sort.ahead,Array.getElem?_modify,if_neg (fun e=>hne (Eq.symm e))]
def jtb (V:List Value) (i:Nat):Value:=V.getD i (V.headD (.slice none 0 0))
theorem sorts:ko4 Tryz.prog ordL 51 52:=by
 intro blk off n c V L w hV hL hn hn6 hnc hcell hsl
 have key:∀i:Nat,∃j v l,V[j]?=some v∧L[j]?=some l∧jtb V i=v∧ixC L i=l:=fun i=>by
  by_cases hi:i<n
  ·exact⟨i,V[i],L[i],List.getElem?_eq_getElem (by omega),List.getElem?_eq_getElem (by omega),by unfold jtb;rw[List.getD_eq_getElem?_getD,List.getElem?_eq_getElem (by omega)];rfl,by unfold ixC;rw[List.getD_eq_getElem?_getD,List.getElem?_eq_getElem (by omega)];rfl⟩
  ·refine⟨0,V[0],L[0],List.getElem?_eq_getElem (by omega),List.getElem?_eq_getElem (by omega),?_,?_⟩
   ·unfold jtb
    rw[List.getD_eq_getElem?_getD,List.getElem?_eq_none (by omega),Option.getD_none]
    cases V with
    | nil=>simp at hV;omega
    | cons v V=>rfl
   ·unfold ixC
    rw[List.getD_eq_getElem?_getD,List.getElem?_eq_none (by omega),Option.getD_none]
    cases L with
    | nil=>simp at hL;omega
    | cons v V=>rfl
 have hblk:blk<w.heap.size:=by
  obtain⟨j,v,l,h1,h2,_⟩:=key 0
  exact block_lt_of_cell (hcell j v h1).1
 have h:=Any.slices_SortFunc_eq Tryz.sortL (jtb V) (fun i=>by
   obtain⟨j,v,l,h1,h2,h3,h4⟩:=key i
   obtain⟨vb,vo,vc,e1,_⟩:=hsl j v l h1 h2
   rw[h3,e1];rfl) (cfL L) (swo L) 52 #[] blk off c (Array.range n) w (enters_of Tryz.func52 (by kernel_rfl) rfl)
  (fun m os dk hdk x y=>by
    obtain⟨j,v,l,h1,h2,h3,h4⟩:=key x
    obtain⟨j',v',l',k1,k2,k3,k4⟩:=key y
    obtain⟨vb,vo,vc,rfl,e1,e0,e2,e3⟩:=hsl j v l h1 h2
    obtain⟨vb',vo',vc',rfl,f1,f0,f2,f3⟩:=hsl j' v' l' k1 k2
    unfold cfL
    rw[h3,k3,h4,k4]
    have lt1:vb<w.heap.size:=block_lt_of_cell (e3 0 e1)
    have lt2:vb'<w.heap.size:=block_lt_of_cell (f3 0 f1)
    refine(Cp.cmp52 vb vo l.length vc vb' vo' l'.length vc' l l' _ rfl rfl (by omega) (by omega) (fun j hj=>?_) (fun j hj=>?_)).mono ?_
    ·rw[jy1 e2 lt1,e3 j hj,getElem!_pos l j hj]
    ·rw[jy1 f2 lt2,f3 j hj,getElem!_pos l' j hj]
    ·rintro e w' ⟨rfl,rfl⟩
     exact⟨rfl,0,#[],by rw[grow_empty];rfl⟩)
  (fun j hj=>by
    have hj':j<n:=by simpa using hj
    rw[getElem!_pos _ j hj,Array.getElem_range]
    unfold jtb
    have:=hcell j V[j] (List.getElem?_eq_getElem (by omega))
    rw[List.getD_eq_getElem?_getD,List.getElem?_eq_getElem (by omega)]
    exact this) hblk (by simp;omega)
 simp only[Array.size_range] at h
 refine h.mono ?_
 rintro e w' ⟨rfl,k,os,rfl⟩
 obtain⟨o1,o2,o3⟩:=jv7 L
 have e1:(pdq (ltOf (cfL L)) (Array.range n) 0 n (Lib.bitLen n) true true).toList=ordL L:=by unfold ordL;rw[hL]
 generalize pdq (ltOf (cfL L)) (Array.range n) 0 n (Lib.bitLen n) true true=D at *
 have hD:D.size=n:=by
  have:D.toList.length=n:=by rw[e1,o1,hL]
  simpa using this
 refine⟨rfl,rfl,rfl,rfl,by simp[sortWorld,putRow,mapBlock,Sort.ahead],fun x hx hne=>?_,fun cs e fr hb=>?_⟩
 ·unfold sortWorld
  rw[heap_grow_old _ _ (by simpa[putRow,mapBlock,Sort.ahead] using hx)]
  simp only[putRow,mapBlock,Sort.ahead,Array.getElem?_modify,if_neg (fun e=>hne (Eq.symm e))]
 ·refine⟨putCells (jtb V) off D cs,?_,by simp[putCells],fun j hj=>?_⟩
  ·unfold sortWorld
   rw[heap_grow_old _ _ (by simpa[putRow,mapBlock,Sort.ahead] using hblk)]
   simp only[putRow,mapBlock,Sort.ahead,Array.getElem?_modify,if_true,hb,Option.map_some,onCells]
  ·have hpl:(pick (.slice none 0 0) V (ordL L)).length=n:=by rw[jrf];omega
   rw[hpl]
   simp only[putCells,Array.getElem?_mapIdx,Array.getElem?_eq_getElem hj,Option.map_some,hD]
   by_cases hc:off≤j∧j<off+n
   ·rw[if_pos hc,if_pos hc,getElem!_pos D (j-off) (by omega)]
    unfold pick
    rw[List.getElem?_map,←e1,Array.getElem?_toList,Array.getElem?_eq_getElem (by omega),Option.map_some]
    have hm:D[j-off] <n:=by
     have:D[j-off]∈ordL L:=by rw[←e1];exact Array.getElem_mem_toList _
     have:=List.mem_range.1 (o2.subset this)
     omega
    unfold jtb
    rw[List.getD_eq_getElem?_getD,List.getD_eq_getElem?_getD,List.getElem?_eq_getElem (by omega)]
    rfl
   ·rw[if_neg hc,if_neg hc]
end Srt
end Go.Proofs
namespace Go.Proofs
namespace Srt
theorem none51 (p:Option Addr) (c:Nat) (w:World):Calls Tryz.prog 51 #[.slice p 0 c,.func (.func 52) #[] #[]] w fun e w'=>e=.returned (.tuple #[])∧w'=w:=AnyF.slices_SortFunc_none (ρ:=Tryz.sortL_ren) { Tryz.sortL with } p c _ w
end Srt
end Go.Proofs
