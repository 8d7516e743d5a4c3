/-
  Nets: the told functions of the chapter.
-/
import Derived.Test.YtahplmacekfjgaaVmP
import Derived.Test.YtahplmacekfjgaaVmWU
import Derived.Test.YtahplmacekfjgaaCmp
import Derived.Shelf.SlSortCmp.NoneTotal
set_option linter.unusedSimpArgs false
set_option linter.unusedVariables false
set_option linter.unusedSectionVars false
set_option linter.unnecessarySimpa false
namespace Go.Proofs.Ytahplmacekfjgaa
namespace Vm
open Go Go.Vm Go.Vm.W Go.Vm.X
set_option maxRecDepth 100000
attribute [local irreducible] W WO SpecQ runM
theorem memoOr_l {m1 m2:Memo} {f:FuncId} {az:List AV} {g:Tr Blk→Nat→Nat→Out} (h:m1 f az=some g):memoOr m1 m2 f az=some g:=by unfold memoOr;rw[h]
theorem memoOr_r {m1 m2:Memo} {f:FuncId} {az:List AV} {g:Tr Blk→Nat→Nat→Out} (h1:m1 f az=none) (h:m2 f az=some g):memoOr m1 m2 f az=some g:=by unfold memoOr;rw[h1];exact h
def mm0:Memo:=fun _ _=>none
theorem mm0_ok {B:Base}:MemoOK Try.prog gl B mm0:=fun f az g h=>by cases h
noncomputable abbrev R0 (mx:Int) (n:Nat):=runM (BB mx) mm0 prog n
noncomputable def told (mx:Int):Memo:=memoOr (tOf (R0 mx 3) 6 23 28) (memoOr (tSortK 2 (svK tSQ cfS okS) 50 37) (tSortK 4 (svK tHG cfH okH) 51 38))
theorem none50 (p:Option Addr) (c:Nat) (w:World):Calls Try.prog 50 #[.slice p 0 c,.func (.func 37) #[] #[]] w fun e w'=>e=.returned (.tuple #[])∧w'=w:=AnyF.slices_SortFunc_none (ρ:=Try.sortS_ren) { Try.sortS with } p c _ w
theorem none51 (p:Option Addr) (c:Nat) (w:World):Calls Try.prog 51 #[.slice p 0 c,.func (.func 38) #[] #[]] w fun e w'=>e=.returned (.tuple #[])∧w'=w:=AnyF.slices_SortFunc_none (ρ:=Try.sortH_ren) { Try.sortH with } p c _ w
theorem rowS:Go.Vm.W.RowK Try.prog 2 (svK tSQ cfS okS) 50 37:=rowK_of (ρ:=Try.sortS_ren) Try.sortS (t:=tSQ) rfl Try.isAgg47 Try.sizeOf47 swoS eqS (enters_of Try.func37 (by kernel_rfl) rfl) fun x y w=>N38.cmpS_walk x.1 x.2 y.1 y.2 w
theorem rowH:Go.Vm.W.RowK Try.prog 4 (svK tHG cfH okH) 51 38:=rowK_of (ρ:=Try.sortH_ren) Try.sortH (t:=tHG) rfl Try.isAgg50 Try.sizeOf50 swoH eqH (enters_of Try.func38 (by kernel_rfl) rfl) fun x y w=>N38.cmpH_walk x.1.1 x.1.2 x.2.1 x.2.2 y.1.1 y.1.2 y.2.1 y.2.2 w
theorem told_ok (mx:Int):MemoOK Try.prog gl (BB mx) (told mx):=
 memoOr_ok (tOf_ok (xt:=25) (tN:=29) (tH:=50) (runM_ok mm0_ok mixed prog_ok 3).1 (runM_ok mm0_ok mixed prog_ok 3).2 ⟨Try.f6,Try.func6,by kernel_rfl,by kernel_rfl⟩ fun xv c bb S H R w h1 h2 h3 h4 h5 h6=>N38.of_walk w h1 h2 h3 h4 h5 h6)
 (memoOr_ok (tSortK_ok ⟨Try.f50,Try.func50,by kernel_rfl,by kernel_rfl⟩ none50 rowS)
   (tSortK_ok ⟨Try.f51,Try.func51,by kernel_rfl,by kernel_rfl⟩ none51 rowH))
end Vm
end Go.Proofs.Ytahplmacekfjgaa
