/-
  Segments: the told functions of the chapter.
-/
import Derived.Test.YtonohffniohehaaGreatDoorVmP
import Derived.Test.YtonohffniohehaaGreatDoorVmWU
import Derived.Test.YtonohffniohehaaGreatDoorTT
import Derived.Shelf.SlSortCmp.NoneTotal
set_option linter.unusedSimpArgs false
set_option linter.unusedVariables false
set_option linter.unusedSectionVars false
set_option linter.unnecessarySimpa false
namespace Go.Proofs.YtonohffniohehaaGreatDoor
namespace Vm
open Go Go.Vm Go.Vm.W Go.Vm.X
set_option maxRecDepth 100000
attribute [local irreducible] W WO SpecQ runM
theorem memoOr_l {m1 m2:Memo} {f:FuncId} {az:List AV} {g:Tr Blk→Nat→Nat→Out} (h:m1 f az=some g):memoOr m1 m2 f az=some g:=by unfold memoOr;rw[h]
theorem memoOr_r {m1 m2:Memo} {f:FuncId} {az:List AV} {g:Tr Blk→Nat→Nat→Out} (h1:m1 f az=none) (h:m2 f az=some g):memoOr m1 m2 f az=some g:=by unfold memoOr;rw[h1];exact h
theorem tLenZ {B:Base}:MemoOK Tryz.prog gl B (tLen 104):=tLen_ok ⟨Tryz.f104,Tryz.func104,by kernel_rfl,by kernel_rfl⟩ fun x w h0 h1=>Tryz.bits_Len64 x w h0 h1
theorem tLogZ {B:Base}:MemoOK Tryz.prog gl B (tLog 165):=tLog_ok ⟨Tryz.f165,Tryz.func165,by kernel_rfl,by kernel_rfl⟩ fun x h w=>Tryz.internal_strconv_log10Pow2 x h w
def mm0:Memo:=memoOr (tLen 104) (tLog 165)
theorem mm0_ok {B:Base}:MemoOK Tryz.prog gl B mm0:=memoOr_ok tLenZ tLogZ
noncomputable abbrev R0 (mx:Int) (n:Nat):=runM (BB mx) mm0 prog n
noncomputable def told (mx:Int):Memo:=memoOr (tSortK 5 (svK tSEG cfG okG) 39 40) (memoOr (tSortK 3 (svK tCRE cfC okC) 44 45) (memoOr (tLen 104) (memoOr (tLog 165) (memoOr (tSplit 51) (memoOr (tAtoi 53 203) (memoOr (tIdx 54) (tLP (R0 mx 8) 52 56)))))))
theorem none39 (p:Option Addr) (c:Nat) (w:World):Calls Tryz.prog 39 #[.slice p 0 c,.func (.func 40) #[] #[]] w fun e w'=>e=.returned (.tuple #[])∧w'=w:=AnyF.slices_SortFunc_none (ρ:=Tryz.sortG_ren) { Tryz.sortG with } p c _ w
theorem none44 (p:Option Addr) (c:Nat) (w:World):Calls Tryz.prog 44 #[.slice p 0 c,.func (.func 45) #[] #[]] w fun e w'=>e=.returned (.tuple #[])∧w'=w:=AnyF.slices_SortFunc_none (ρ:=Tryz.sortC_ren) { Tryz.sortC with } p c _ w
theorem rowG:Go.Vm.W.RowK Tryz.prog 5 (svK tSEG cfG okG) 39 40:=rowK_of (ρ:=Tryz.sortG_ren) Tryz.sortG (t:=tSEG) rfl Tryz.isAgg29 Tryz.sizeOf29 swoG eqG (enters_of Tryz.func40 (by kernel_rfl) rfl) fun x y w=>S07.cmpG_walk x y w
theorem rowC:Go.Vm.W.RowK Tryz.prog 3 (svK tCRE cfC okC) 44 45:=rowK_of (ρ:=Tryz.sortC_ren) Tryz.sortC (t:=tCRE) rfl Tryz.isAgg86 Tryz.sizeOf86 swoC eqC (enters_of Tryz.func45 (by kernel_rfl) rfl) fun x y w=>S07.cmpC_walk x y w
theorem lp_told (s:ByteArray) (w:World) (t:ByteArray) (hA:∀i (h:i<s.size),(s[i]'h).toNat<128)
  (hT:∀w',RowKit.Below w.heap.size w w'→Calls Tryz.prog 56 #[.agg #[.int .u8 (S07.lpFin (S07.bytesN s)).1,.int .i64 (S07.lpFin (S07.bytesN s)).2]] w' fun e w''=>e=.returned (.string t)∧RowKit.Below w'.heap.size w' w''):
  Calls Tryz.prog 52 #[.string s] w fun e w'=>e=.returned (if s.toList=[]∨t.toList≠s.toList then .tuple #[.agg #[.int .u8 0,.int .i64 0],.int .i64 4] else .tuple #[.agg #[.int .u8 (S07.lpFin (S07.bytesN s)).1,.int .i64 (S07.lpFin (S07.bytesN s)).2],.int .i64 0])∧RowKit.Below w.heap.size w w':=by
 refine(S07.lp_walk s w (fun hp w'=>?_) (fun _ _=>t) fun k c _ _ _ _ h w' hB=>?_).mono ?_
 ·have hd:=decode_ascii s 0 hp (hA 0 hp)
  have h1:(((Utf8.decode s 0).1:Nat):Int)<128:=by rw[hd];exact_mod_cast hA 0 hp
  exact Tryz.strings_IndexRune_ascii _ _ w' (by omega) h1
 ·obtain⟨rfl,rfl⟩:=Prod.mk.inj (h hA)
  exact hT w' hB
 ·rintro e w' ⟨⟨k,c,_,_,_,_,h,rfl⟩,hB⟩
  obtain⟨rfl,rfl⟩:=Prod.mk.inj (h hA)
  exact⟨rfl,hB⟩
theorem told_ok (mx:Int):MemoOK Tryz.prog gl (BB mx) (told mx):=
 memoOr_ok (tSortK_ok ⟨Tryz.f39,Tryz.func39,by kernel_rfl,by kernel_rfl⟩ none39 rowG)
  (memoOr_ok (tSortK_ok ⟨Tryz.f44,Tryz.func44,by kernel_rfl,by kernel_rfl⟩ none44 rowC)
    (memoOr_ok tLenZ (memoOr_ok tLogZ
    (memoOr_ok (tSplit_ok ⟨Tryz.f51,Tryz.func51,by kernel_rfl,by kernel_rfl⟩ (g1:=1) rfl (by kernel_rfl) Tryz.strings_Split)
    (memoOr_ok (tAtoi_ok ⟨Tryz.f53,Tryz.func53,by kernel_rfl,by kernel_rfl⟩ (gs:=3) (gr:=4) rfl rfl (by kernel_rfl) (by kernel_rfl) Tryz.strconv_Atoi_ok Tryz.strconv_Atoi_syntax Tryz.strconv_Atoi_range)
    (memoOr_ok (tIdx_ok ⟨Tryz.f54,Tryz.func54,by kernel_rfl,by kernel_rfl⟩ Tryz.strings_Index_one)
      (tLP_ok (runM_ok mm0_ok mixed prog_ok 8).1 (runM_ok mm0_ok mixed prog_ok 8).2 ⟨Tryz.f52,Tryz.func52,by kernel_rfl,by kernel_rfl⟩ lp_told)))))))
end Vm
end Go.Proofs.YtonohffniohehaaGreatDoor
