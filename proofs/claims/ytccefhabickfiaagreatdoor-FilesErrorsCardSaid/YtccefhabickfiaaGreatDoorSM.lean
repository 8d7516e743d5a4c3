/-
  Files: the told functions of the chapter.
-/
import Derived.Test.YtccefhabickfiaaGreatDoorVmP
import Derived.Test.YtccefhabickfiaaGreatDoorVmWU
import Derived.Test.YtccefhabickfiaaGreatDoorEn
import Derived.Shelf.SlSortCmp.NoneTotal
set_option linter.unusedSimpArgs false
set_option linter.unusedVariables false
set_option linter.unusedSectionVars false
set_option linter.unnecessarySimpa false
namespace Go.Proofs.YtccefhabickfiaaGreatDoor
namespace Vm
open Go Go.Vm Go.Vm.W Go.Vm.X
set_option maxRecDepth 100000
attribute [local irreducible] W WO SpecQ pD
theorem u9 {m1 m2:kT} {f:FuncId} {az:List AV} {g:Tr Blk->Nat->Nat->eQ} (h:m1 f az=some g):tG m1 m2 f az=some g:=by unfold tG;rw[h]
theorem gO {m1 m2:kT} {f:FuncId} {az:List AV} {g:Tr Blk->Nat->Nat->eQ} (h1:m1 f az=none) (h:m2 f az=some g):tG m1 m2 f az=some g:=by unfold tG;rw[h1];exact h
theorem j5c {B:Base}:rB Tryz.prog gl B (jec 125):=kow ⟨Tryz.f125,Tryz.func125,by kernel_rfl,by kernel_rfl⟩ λx w h0 h1=>Tryz.bits_Len64 x w h0 h1
theorem j5f {B:Base}:rB Tryz.prog gl B (jed 175):=kox ⟨Tryz.f175,Tryz.func175,by kernel_rfl,by kernel_rfl⟩ λx h w=>Tryz.internal_strconv_log10Pow2 x h w
theorem kja (p:Option Addr) (c:Nat) (w:World):Calls Tryz.prog 59 #[.slice p 0 c,.func (.func 60) #[] #[]] w λe w'=>e=.returned (.tuple #[])/\w'=w:=AnyF.slices_SortFunc_none (ρ:=Tryz.sortG_ren) { Tryz.sortG with } p c _ w
theorem ki9 (p:Option Addr) (c:Nat) (w:World):Calls Tryz.prog 53 #[.slice p 0 c,.func (.func 54) #[] #[]] w λe w'=>e=.returned (.tuple #[])/\w'=w:=AnyF.slices_SortFunc_none (ρ:=Tryz.sortC_ren) { Tryz.sortC with } p c _ w
theorem knk:Go.Vm.W.RowK Tryz.prog 5 (S4 jee jJ pN) 59 60:=j39 (ρ:=Tryz.sortG_ren) Tryz.sortG (t:=jee) rfl Tryz.isAgg56 Tryz.sizeOf56 jcd eqG (enters_of Tryz.func60 (by kernel_rfl) rfl) λx y w=>S07.cmpG_walk x y w
theorem knj:Go.Vm.W.RowK Tryz.prog 3 (S4 jqv jP d7) 53 54:=j39 (ρ:=Tryz.sortC_ren) Tryz.sortC (t:=jqv) rfl Tryz.isAgg74 Tryz.sizeOf74 jd8 eqC (enters_of Tryz.func54 (by kernel_rfl) rfl) λx y w=>S07.cmpC_walk x y w
theorem j5j {B:Base}:rB Tryz.prog gl B (jef 11):=ko0 ⟨Tryz.f11,Tryz.func11,by kernel_rfl,by kernel_rfl⟩ λs hs w=>F11.sum_walk s hs w
theorem j5h {B:Base}:rB Tryz.prog gl B (S6 5 (S4 jee jJ pN) 59 60):=j5i ⟨Tryz.f59,Tryz.func59,by kernel_rfl,by kernel_rfl⟩ kja knk
noncomputable def mT:kT:=tG (S6 5 (S4 jee jJ pN) 59 60) (tG (jec 125) (tG (jed 175) (jef 11)))
theorem jup {B:Base}:rB Tryz.prog gl B mT:=v7 j5h (v7 j5c (v7 j5f j5j))
noncomputable abbrev R0 (mx:Int) (n:Nat):=pD (BB mx) mT prog n
noncomputable def told (mx:Int):kT:=tG (S6 5 (S4 jee jJ pN) 59 60) (tG (S6 3 (S4 jqv jP d7) 53 54) (tG (jec 125) (tG (jed 175) (tG (jhq 72) (tG (jeb 73 232) (tG (jl4 75) (tG (tLP (R0 mx 8) 74 65) (tG (jef 11) (tG (jl5 45) (jhp (R0 mx 24) 19 35 37 38 39))))))))))
theorem kiu (s:ByteArray) (w:World) (t:ByteArray) (hA:∀i (h:i<s.size),(s[i]'h).toNat<128)
  (hT:∀w',RowKit.Below w.heap.size w w'->Calls Tryz.prog 65 #[.agg #[.int .u8 (S07.lpFin (S07.bytesN s)).1,.int .i64 (S07.lpFin (S07.bytesN s)).2]] w' λe w''=>e=.returned (.string t)/\RowKit.Below w'.heap.size w' w''):
  Calls Tryz.prog 74 #[.string s] w λe w'=>e=.returned (if s.toList=[]\/t.toList≠s.toList then .tuple #[.agg #[.int .u8 0,.int .i64 0],.int .i64 4] else .tuple #[.agg #[.int .u8 (S07.lpFin (S07.bytesN s)).1,.int .i64 (S07.lpFin (S07.bytesN s)).2],.int .i64 0])/\RowKit.Below w.heap.size w w':=by
 refine(S07.lp_walk s w (λ_ _=>t) λk c _ _ _ _ h w' hB=>?_).mono ?_
 ·obtain⟨rfl,rfl⟩:=Prod.mk.inj (h hA);exact hT w' hB
 ·rintro e w' ⟨⟨k,c,_,_,_,_,h,rfl⟩,hB⟩;obtain⟨rfl,rfl⟩:=Prod.mk.inj (h hA);exact⟨rfl,hB⟩
theorem kiv (s:ByteArray) (w:World) (T:Int->Int->ByteArray) (hA:¬ ∀i (h:i<s.size),(s[i]'h).toNat<128) (h1:∀k c,s9 k c->asc ((T k c).data.toList.map UInt8.toNat)=true)
  (h2:∀k c,s9 k c->∀w',RowKit.Below w.heap.size w w'->Calls Tryz.prog 65 #[.agg #[.int .u8 k,.int .i64 c]] w' λe w''=>e=.returned (.string (T k c))/\RowKit.Below w'.heap.size w' w''):
  Calls Tryz.prog 74 #[.string s] w λe w'=>e=.returned (.tuple #[.agg #[.int .u8 0,.int .i64 0],.int .i64 4])/\RowKit.Below w.heap.size w w':=by
 refine(S07.lp_walk s w T λk c a1 a2 a3 a4 _ w' hB=>h2 k c ⟨a1,a2,a3,a4⟩ w' hB).mono ?_;rintro e w' ⟨⟨k,c,a1,a2,a3,a4,_,rfl⟩,hB⟩;have hne:(T k c).toList≠s.toList:=λe=>hA λi hi=>by
  have h3:=h1 k c ⟨a1,a2,a3,a4⟩;have e2:(T k c).data.toList=s.data.toList:=by rw[<-jm4,<-jm4,e]
  rw[e2] at h3;have h4:=cI.1 h3 ((s[i]'hi).toNat) (bC.2 ⟨s[i]'hi,Array.mem_toList_iff.2 (Array.getElem_mem (xs:=s.data) hi),rfl⟩);simp only[Nat.blt,bE,aQ] at h4;omega
 refine⟨?_,hB⟩;rw[aK (.inr hne)]
theorem jim (mx:Int):rB Tryz.prog gl (BB mx) (told mx):=
 v7 j5h
  (v7 (j5i ⟨Tryz.f53,Tryz.func53,by kernel_rfl,by kernel_rfl⟩ ki9 knj)
    (v7 j5c (v7 j5f
    (v7 (koz ⟨Tryz.f72,Tryz.func72,by kernel_rfl,by kernel_rfl⟩ (g1:=0) rfl (by kernel_rfl) Tryz.strings_Split)
    (v7 (kon ⟨Tryz.f73,Tryz.func73,by kernel_rfl,by kernel_rfl⟩ (gs:=3) (gr:=4) rfl rfl (by kernel_rfl) (by kernel_rfl) Tryz.strconv_Atoi_ok Tryz.strconv_Atoi_syntax Tryz.strconv_Atoi_range)
    (v7 (kor ⟨Tryz.f75,Tryz.func75,by kernel_rfl,by kernel_rfl⟩ Tryz.strings_Index_one)
      (v7 (kot (jhe jup mixed N8 8).1 (jhe jup mixed N8 8).2 ⟨Tryz.f74,Tryz.func74,by kernel_rfl,by kernel_rfl⟩ kiu kiv)
      (v7 j5j (v7 (kov ⟨Tryz.f45,Tryz.func45,by kernel_rfl,by kernel_rfl⟩ λs sub h1 hs w=>Tryz.strings_LastIndex_one s sub h1 hs w)
      (kop (jhe jup mixed N8 24).1 ⟨Tryz.f19,Tryz.func19,by kernel_rfl,by kernel_rfl⟩))))))))))
end Vm
end Go.Proofs.YtccefhabickfiaaGreatDoor
