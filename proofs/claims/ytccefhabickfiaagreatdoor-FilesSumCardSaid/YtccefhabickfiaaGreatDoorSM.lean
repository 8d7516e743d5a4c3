/-
  Files: the told functions of the chapter.
-/
import Derived.Test.YtccefhabickfiaaGreatDoorVmP
import Derived.Test.YtccefhabickfiaaGreatDoorVmWU
import Derived.Test.YtccefhabickfiaaGreatDoorEn
import Derived.Shelf.SlSortCmp.NoneTotal
set_option linter.unusedSimpArgs false
set_option linter.unusedVariables false
set_option linter.unusedSectionVars false
set_option linter.unnecessarySimpa false
namespace Go.Proofs.YtccefhabickfiaaGreatDoor
namespace Vm
open Go Go.Vm Go.Vm.W Go.Vm.X
set_option maxRecDepth 100000
attribute [local irreducible] W WO SpecQ runM
theorem memoOr_l {m1 m2:Memo} {f:FuncId} {az:List AV} {g:Tr Blk→Nat→Nat→Out} (h:m1 f az=some g):memoOr m1 m2 f az=some g:=by unfold memoOr;rw[h]
theorem memoOr_r {m1 m2:Memo} {f:FuncId} {az:List AV} {g:Tr Blk→Nat→Nat→Out} (h1:m1 f az=none) (h:m2 f az=some g):memoOr m1 m2 f az=some g:=by unfold memoOr;rw[h1];exact h
theorem tLenZ {B:Base}:MemoOK Tryz.prog gl B (tLen 125):=tLen_ok ⟨Tryz.f125,Tryz.func125,by kernel_rfl,by kernel_rfl⟩ fun x w h0 h1=>Tryz.bits_Len64 x w h0 h1
theorem tLogZ {B:Base}:MemoOK Tryz.prog gl B (tLog 175):=tLog_ok ⟨Tryz.f175,Tryz.func175,by kernel_rfl,by kernel_rfl⟩ fun x h w=>Tryz.internal_strconv_log10Pow2 x h w
theorem none59 (p:Option Addr) (c:Nat) (w:World):Calls Tryz.prog 59 #[.slice p 0 c,.func (.func 60) #[] #[]] w fun e w'=>e=.returned (.tuple #[])∧w'=w:=AnyF.slices_SortFunc_none (ρ:=Tryz.sortG_ren) { Tryz.sortG with } p c _ w
theorem none53 (p:Option Addr) (c:Nat) (w:World):Calls Tryz.prog 53 #[.slice p 0 c,.func (.func 54) #[] #[]] w fun e w'=>e=.returned (.tuple #[])∧w'=w:=AnyF.slices_SortFunc_none (ρ:=Tryz.sortC_ren) { Tryz.sortC with } p c _ w
theorem rowG:Go.Vm.W.RowK Tryz.prog 5 (svK tSEG cfG okG) 59 60:=rowK_of (ρ:=Tryz.sortG_ren) Tryz.sortG (t:=tSEG) rfl Tryz.isAgg56 Tryz.sizeOf56 swoG eqG (enters_of Tryz.func60 (by kernel_rfl) rfl) fun x y w=>S07.cmpG_walk x y w
theorem rowC:Go.Vm.W.RowK Tryz.prog 3 (svK tCRE cfC okC) 53 54:=rowK_of (ρ:=Tryz.sortC_ren) Tryz.sortC (t:=tCRE) rfl Tryz.isAgg74 Tryz.sizeOf74 swoC eqC (enters_of Tryz.func54 (by kernel_rfl) rfl) fun x y w=>S07.cmpC_walk x y w
theorem tSumZ {B:Base}:MemoOK Tryz.prog gl B (tSum 11):=tSum_ok ⟨Tryz.f11,Tryz.func11,by kernel_rfl,by kernel_rfl⟩ fun s hs w=>F11.sum_walk s hs w
theorem tSegZ {B:Base}:MemoOK Tryz.prog gl B (tSortK 5 (svK tSEG cfG okG) 59 60):=tSortK_ok ⟨Tryz.f59,Tryz.func59,by kernel_rfl,by kernel_rfl⟩ none59 rowG
noncomputable def mm0:Memo:=memoOr (tSortK 5 (svK tSEG cfG okG) 59 60) (memoOr (tLen 125) (memoOr (tLog 175) (tSum 11)))
theorem mm0_ok {B:Base}:MemoOK Tryz.prog gl B mm0:=memoOr_ok tSegZ (memoOr_ok tLenZ (memoOr_ok tLogZ tSumZ))
noncomputable abbrev R0 (mx:Int) (n:Nat):=runM (BB mx) mm0 prog n
noncomputable def told (mx:Int):Memo:=memoOr (tSortK 5 (svK tSEG cfG okG) 59 60) (memoOr (tSortK 3 (svK tCRE cfC okC) 53 54) (memoOr (tLen 125) (memoOr (tLog 175) (memoOr (tSplit 72) (memoOr (tAtoi 73 232) (memoOr (tIdx 75) (memoOr (tLP (R0 mx 8) 74 65) (memoOr (tSum 11) (memoOr (tLast 45) (tEnc (R0 mx 24) 19 35 37 38 39))))))))))
theorem lp_told (s:ByteArray) (w:World) (t:ByteArray) (hA:∀i (h:i<s.size),(s[i]'h).toNat<128)
  (hT:∀w',RowKit.Below w.heap.size w w'→Calls Tryz.prog 65 #[.agg #[.int .u8 (S07.lpFin (S07.bytesN s)).1,.int .i64 (S07.lpFin (S07.bytesN s)).2]] w' fun e w''=>e=.returned (.string t)∧RowKit.Below w'.heap.size w' w''):
  Calls Tryz.prog 74 #[.string s] w fun e w'=>e=.returned (if s.toList=[]∨t.toList≠s.toList then .tuple #[.agg #[.int .u8 0,.int .i64 0],.int .i64 4] else .tuple #[.agg #[.int .u8 (S07.lpFin (S07.bytesN s)).1,.int .i64 (S07.lpFin (S07.bytesN s)).2],.int .i64 0])∧RowKit.Below w.heap.size w w':=by
 refine(S07.lp_walk s w (fun _ _=>t) fun k c _ _ _ _ h w' hB=>?_).mono ?_
 ·obtain⟨rfl,rfl⟩:=Prod.mk.inj (h hA)
  exact hT w' hB
 ·rintro e w' ⟨⟨k,c,_,_,_,_,h,rfl⟩,hB⟩
  obtain⟨rfl,rfl⟩:=Prod.mk.inj (h hA)
  exact⟨rfl,hB⟩
theorem lp_told2 (s:ByteArray) (w:World) (T:Int→Int→ByteArray) (hA:¬ ∀i (h:i<s.size),(s[i]'h).toNat<128) (h1:∀k c,inLn k c→asc ((T k c).data.toList.map UInt8.toNat)=true)
  (h2:∀k c,inLn k c→∀w',RowKit.Below w.heap.size w w'→Calls Tryz.prog 65 #[.agg #[.int .u8 k,.int .i64 c]] w' fun e w''=>e=.returned (.string (T k c))∧RowKit.Below w'.heap.size w' w''):
  Calls Tryz.prog 74 #[.string s] w fun e w'=>e=.returned (.tuple #[.agg #[.int .u8 0,.int .i64 0],.int .i64 4])∧RowKit.Below w.heap.size w w':=by
 refine(S07.lp_walk s w T fun k c a1 a2 a3 a4 _ w' hB=>h2 k c ⟨a1,a2,a3,a4⟩ w' hB).mono ?_
 rintro e w' ⟨⟨k,c,a1,a2,a3,a4,_,rfl⟩,hB⟩
 have hne:(T k c).toList≠s.toList:=fun e=>hA fun i hi=>by
  have h3:=h1 k c ⟨a1,a2,a3,a4⟩
  have e2:(T k c).data.toList=s.data.toList:=by rw[←toList_data,←toList_data,e]
  rw[e2] at h3
  have h4:=List.all_eq_true.1 h3 ((s[i]'hi).toNat) (List.mem_map.2 ⟨s[i]'hi,Array.mem_toList_iff.2 (Array.getElem_mem (xs:=s.data) hi),rfl⟩)
  simp only[Nat.blt,ble_dec,decide_eq_true_eq] at h4
  omega
 refine⟨?_,hB⟩
 rw[if_pos (.inr hne)]
theorem told_ok (mx:Int):MemoOK Tryz.prog gl (BB mx) (told mx):=
 memoOr_ok tSegZ
  (memoOr_ok (tSortK_ok ⟨Tryz.f53,Tryz.func53,by kernel_rfl,by kernel_rfl⟩ none53 rowC)
    (memoOr_ok tLenZ (memoOr_ok tLogZ
    (memoOr_ok (tSplit_ok ⟨Tryz.f72,Tryz.func72,by kernel_rfl,by kernel_rfl⟩ (g1:=0) rfl (by kernel_rfl) Tryz.strings_Split)
    (memoOr_ok (tAtoi_ok ⟨Tryz.f73,Tryz.func73,by kernel_rfl,by kernel_rfl⟩ (gs:=3) (gr:=4) rfl rfl (by kernel_rfl) (by kernel_rfl) Tryz.strconv_Atoi_ok Tryz.strconv_Atoi_syntax Tryz.strconv_Atoi_range)
    (memoOr_ok (tIdx_ok ⟨Tryz.f75,Tryz.func75,by kernel_rfl,by kernel_rfl⟩ Tryz.strings_Index_one)
      (memoOr_ok (tLP_ok (runM_ok mm0_ok mixed prog_ok 8).1 (runM_ok mm0_ok mixed prog_ok 8).2 ⟨Tryz.f74,Tryz.func74,by kernel_rfl,by kernel_rfl⟩ lp_told lp_told2)
      (memoOr_ok tSumZ (memoOr_ok (tLast_ok ⟨Tryz.f45,Tryz.func45,by kernel_rfl,by kernel_rfl⟩ fun s sub h1 hs w=>Tryz.strings_LastIndex_one s sub h1 hs w)
      (tEnc_ok (runM_ok mm0_ok mixed prog_ok 24).1 ⟨Tryz.f19,Tryz.func19,by kernel_rfl,by kernel_rfl⟩))))))))))
end Vm
end Go.Proofs.YtccefhabickfiaaGreatDoor
