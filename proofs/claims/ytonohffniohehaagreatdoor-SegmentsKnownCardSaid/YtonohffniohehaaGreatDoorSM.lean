/-
  Segments: the told functions of the chapter.
-/
import Derived.Test.YtonohffniohehaaGreatDoorVmP
import Derived.Test.YtonohffniohehaaGreatDoorVmWU
import Derived.Test.YtonohffniohehaaGreatDoorTT
import Derived.Shelf.SlSortCmp.NoneTotal
set_option linter.unusedSimpArgs false
set_option linter.unusedVariables false
set_option linter.unusedSectionVars false
set_option linter.unnecessarySimpa false
namespace Go.Proofs.YtonohffniohehaaGreatDoor
namespace Vm
open Go Go.Vm Go.Vm.W Go.Vm.X
set_option maxRecDepth 100000
attribute [local irreducible] W WO SpecQ js8
theorem jjy {m1 m2:jn7} {f:FuncId} {az:List AV} {g:Tr Blk→Nat→Nat→Out} (h:m1 f az=some g):jjz m1 m2 f az=some g:=by unfold jjz;rw[h]
theorem ja6 {m1 m2:jn7} {f:FuncId} {az:List AV} {g:Tr Blk→Nat→Nat→Out} (h1:m1 f az=none) (h:m2 f az=some g):jjz m1 m2 f az=some g:=by unfold jjz;rw[h1];exact h
theorem kkd {B:Base}:jhz Tryz.prog gl B (kgz 104):=kgy ⟨Tryz.f104,Tryz.func104,by kernel_rfl,by kernel_rfl⟩ fun x w h0 h1=>Tryz.bits_Len64 x w h0 h1
theorem kkb {B:Base}:jhz Tryz.prog gl B (kgx 165):=kgw ⟨Tryz.f165,Tryz.func165,by kernel_rfl,by kernel_rfl⟩ fun x h w=>Tryz.internal_strconv_log10Pow2 x h w
def mm0:jn7:=jjz (kgz 104) (kgx 165)
theorem kf0 {B:Base}:jhz Tryz.prog gl B mm0:=jht kkd kkb
noncomputable abbrev R0 (mx:Int) (n:Nat):=js8 (BB mx) mm0 prog n
noncomputable def told (mx:Int):jn7:=jjz (jqb 5 (svK ko2 cfG okG) 39 40) (jjz (jqb 3 (svK ko3 cfC okC) 44 45) (jjz (kgz 104) (jjz (kgx 165) (jjz (jxh 51) (jjz (j32 53 203) (jjz (kkg 54) (tLP (R0 mx 8) 52 56)))))))
theorem klx (p:Option Addr) (c:Nat) (w:World):Calls Tryz.prog 39 #[.slice p 0 c,.func (.func 40) #[] #[]] w fun e w'=>e=.returned (.tuple #[])∧w'=w:=AnyF.slices_SortFunc_none (ρ:=Tryz.sortG_ren) { Tryz.sortG with } p c _ w
theorem klw (p:Option Addr) (c:Nat) (w:World):Calls Tryz.prog 44 #[.slice p 0 c,.func (.func 45) #[] #[]] w fun e w'=>e=.returned (.tuple #[])∧w'=w:=AnyF.slices_SortFunc_none (ρ:=Tryz.sortC_ren) { Tryz.sortC with } p c _ w
theorem ksn:Go.Vm.W.RowK Tryz.prog 5 (svK ko2 cfG okG) 39 40:=kad (ρ:=Tryz.sortG_ren) Tryz.sortG (t:=ko2) rfl Tryz.isAgg29 Tryz.sizeOf29 kq6 eqG (enters_of Tryz.func40 (by kernel_rfl) rfl) fun x y w=>S07.cmpG_walk x y w
theorem kso:Go.Vm.W.RowK Tryz.prog 3 (svK ko3 cfC okC) 44 45:=kad (ρ:=Tryz.sortC_ren) Tryz.sortC (t:=ko3) rfl Tryz.isAgg86 Tryz.sizeOf86 kq7 eqC (enters_of Tryz.func45 (by kernel_rfl) rfl) fun x y w=>S07.cmpC_walk x y w
theorem khu (s:ByteArray) (w:World) (t:ByteArray) (hA:∀i (h:i<s.size),(s[i]'h).toNat<128)
  (hT:∀w',RowKit.Below w.heap.size w w'→Calls Tryz.prog 56 #[.agg #[.int .u8 (S07.lpFin (S07.bytesN s)).1,.int .i64 (S07.lpFin (S07.bytesN s)).2]] w' fun e w''=>e=.returned (.string t)∧RowKit.Below w'.heap.size w' w''):
  Calls Tryz.prog 52 #[.string s] w fun e w'=>e=.returned (if s.toList=[]∨t.toList≠s.toList then .tuple #[.agg #[.int .u8 0,.int .i64 0],.int .i64 4] else .tuple #[.agg #[.int .u8 (S07.lpFin (S07.bytesN s)).1,.int .i64 (S07.lpFin (S07.bytesN s)).2],.int .i64 0])∧RowKit.Below w.heap.size w w':=by
 refine(S07.lp_walk s w (fun _ _=>t) fun k c _ _ _ _ h w' hB=>?_).mono ?_
 ·obtain⟨rfl,rfl⟩:=Prod.mk.inj (h hA)
  exact hT w' hB
 ·rintro e w' ⟨⟨k,c,_,_,_,_,h,rfl⟩,hB⟩
  obtain⟨rfl,rfl⟩:=Prod.mk.inj (h hA)
  exact⟨rfl,hB⟩
theorem kd8 (s:ByteArray) (w:World) (T:Int→Int→ByteArray) (hA:¬ ∀i (h:i<s.size),(s[i]'h).toNat<128) (h1:∀k c,j8m k c→asc ((T k c).data.toList.map UInt8.toNat)=true)
  (h2:∀k c,j8m k c→∀w',RowKit.Below w.heap.size w w'→Calls Tryz.prog 56 #[.agg #[.int .u8 k,.int .i64 c]] w' fun e w''=>e=.returned (.string (T k c))∧RowKit.Below w'.heap.size w' w''):
  Calls Tryz.prog 52 #[.string s] w fun e w'=>e=.returned (.tuple #[.agg #[.int .u8 0,.int .i64 0],.int .i64 4])∧RowKit.Below w.heap.size w w':=by
 refine(S07.lp_walk s w T fun k c a1 a2 a3 a4 _ w' hB=>h2 k c ⟨a1,a2,a3,a4⟩ w' hB).mono ?_
 rintro e w' ⟨⟨k,c,a1,a2,a3,a4,_,rfl⟩,hB⟩
 have hne:(T k c).toList≠s.toList:=fun e=>hA fun i hi=>by
  have h3:=h1 k c ⟨a1,a2,a3,a4⟩
  have e2:(T k c).data.toList=s.data.toList:=by rw[←ji1,←ji1,e]
  rw[e2] at h3
  have h4:=List.all_eq_true.1 h3 ((s[i]'hi).toNat) (List.mem_map.2 ⟨s[i]'hi,Array.mem_toList_iff.2 (Array.getElem_mem (xs:=s.data) hi),rfl⟩)
  simp only[Nat.blt,jae,decide_eq_true_eq] at h4
  omega
 refine⟨?_,hB⟩
 rw[if_pos (.inr hne)]
theorem kgu (mx:Int):jhz Tryz.prog gl (BB mx) (told mx):=
 jht (j08 ⟨Tryz.f39,Tryz.func39,by kernel_rfl,by kernel_rfl⟩ klx ksn)
  (jht (j08 ⟨Tryz.f44,Tryz.func44,by kernel_rfl,by kernel_rfl⟩ klw kso)
    (jht kkd (jht kkb
    (jht (j9u ⟨Tryz.f51,Tryz.func51,by kernel_rfl,by kernel_rfl⟩ (g1:=1) rfl (by kernel_rfl) Tryz.strings_Split)
    (jht (kdn ⟨Tryz.f53,Tryz.func53,by kernel_rfl,by kernel_rfl⟩ (gs:=3) (gr:=4) rfl rfl (by kernel_rfl) (by kernel_rfl) Tryz.strconv_Atoi_ok Tryz.strconv_Atoi_syntax Tryz.strconv_Atoi_range)
    (jht (kg0 ⟨Tryz.f54,Tryz.func54,by kernel_rfl,by kernel_rfl⟩ Tryz.strings_Index_one)
      (kke (jur kf0 mixed ju1 8).1 (jur kf0 mixed ju1 8).2 ⟨Tryz.f52,Tryz.func52,by kernel_rfl,by kernel_rfl⟩ khu kd8)))))))
end Vm
end Go.Proofs.YtonohffniohehaaGreatDoor
