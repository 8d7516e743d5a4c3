/- Files: the told functions of the chapter. -/
import Derived.Test.YtccefhabickfiaaGreatDoorVmP
import Derived.Test.YtccefhabickfiaaGreatDoorVmWU
import Derived.Test.YtccefhabickfiaaGreatDoorEn
import Derived.Shelf.SlSortCmp.NoneTotal
set_option linter.unusedSimpArgs false
set_option linter.unusedVariables false
namespace Go.Proofs.YtccefhabickfiaaGreatDoor
namespace Vm
open Go Go.Vm Go.Vm.W Go.Vm.X
set_option maxRecDepth 100000
attribute [local irreducible] W WO SpecQ nF
theorem xE {m1 m2:iP} {f:FuncId} {az:List AV} {g:Tr Blk->Nat->Nat->dR} (h:m1 f az=some g):qD m1 m2 f az=some g:=by unfold qD;rw[h]
theorem fF {m1 m2:iP} {f:FuncId} {az:List AV} {g:Tr Blk->Nat->Nat->dR} (h1:m1 f az=none) (h:m2 f az=some g):qD m1 m2 f az=some g:=by unfold qD;rw[h1];exact h
theorem j4x {B:Base}:oE Tryz.prog gl B (jc7 125):=kny ⟨Tryz.f125,Tryz.func125,by kernel_rfl,by kernel_rfl⟩ λx w h0 h1=>Tryz.bits_Len64 x w h0 h1
theorem j40 {B:Base}:oE Tryz.prog gl B (jc8 175):=knz ⟨Tryz.f175,Tryz.func175,by kernel_rfl,by kernel_rfl⟩ λx h w=>Tryz.internal_strconv_log10Pow2 x h w
theorem kif (p:Option Addr) (c:Nat) (w:World):Calls Tryz.prog 59 #[.slice p 0 c,.func (.func 60) #[] #[]] w λe w'=>e=.returned (.tuple #[])/\w'=w:=AnyF.slices_SortFunc_none (ρ:=Tryz.sortG_ren) { Tryz.sortG with } p c _ w
theorem kie (p:Option Addr) (c:Nat) (w:World):Calls Tryz.prog 53 #[.slice p 0 c,.func (.func 54) #[] #[]] w λe w'=>e=.returned (.tuple #[])/\w'=w:=AnyF.slices_SortFunc_none (ρ:=Tryz.sortC_ren) { Tryz.sortC with } p c _ w
theorem kmn:Go.Vm.W.RowK Tryz.prog 5 (B7 jc9 jO qY) 59 60:=j3q (ρ:=Tryz.sortG_ren) Tryz.sortG (t:=jc9) rfl Tryz.isAgg56 Tryz.sizeOf56 jfv eqG (enters_of Tryz.func60 (by kernel_rfl) rfl) λx y w=>S07.cmpG_walk x y w
theorem kmm:Go.Vm.W.RowK Tryz.prog 3 (B7 jpc kG G9) 53 54:=j3q (ρ:=Tryz.sortC_ren) Tryz.sortC (t:=jpc) rfl Tryz.isAgg74 Tryz.sizeOf74 jjl eqC (enters_of Tryz.func54 (by kernel_rfl) rfl) λx y w=>S07.cmpC_walk x y w
theorem j44 {B:Base}:oE Tryz.prog gl B (jda 11):=kn2 ⟨Tryz.f11,Tryz.func11,by kernel_rfl,by kernel_rfl⟩ λs hs w=>F11.sum_walk s hs w
theorem j42 {B:Base}:oE Tryz.prog gl B (B9 5 (B7 jc9 jO qY) 59 60):=j43 ⟨Tryz.f59,Tryz.func59,by kernel_rfl,by kernel_rfl⟩ kif kmn
noncomputable def kU:iP:=qD (B9 5 (B7 jc9 jO qY) 59 60) (qD (jc7 125) (qD (jc8 175) (jda 11)))
theorem jtu {B:Base}:oE Tryz.prog gl B kU:=xF j42 (xF j4x (xF j40 j44))
noncomputable abbrev R0 (mx:Int) (n:Nat):=nF (BB mx) kU prog n
noncomputable def told (mx:Int):iP:=qD (B9 5 (B7 jc9 jO qY) 59 60) (qD (B9 3 (B7 jpc kG G9) 53 54) (qD (jc7 125) (qD (jc8 175) (qD (jfx 72) (qD (jc6 73 232) (qD (jjn 75) (qD (tLP (R0 mx 8) 74 65) (qD (jda 11) (qD (jjo 45) (jfw (R0 mx 24) 19 35 37 38 39))))))))))
theorem kh2 (s:ByteArray) (w:World) (t:ByteArray) (hA:∀i (h:i<s.size),(s[i]'h).toNat<128)
  (hT:∀w',RowKit.Below w.heap.size w w'->Calls Tryz.prog 65 #[.agg #[.int .u8 (S07.lpFin (S07.bytesN s)).1,.int .i64 (S07.lpFin (S07.bytesN s)).2]] w' λe w''=>e=.returned (.string t)/\RowKit.Below w'.heap.size w' w''):
  Calls Tryz.prog 74 #[.string s] w λe w'=>e=.returned (if s.toList=[]\/t.toList≠s.toList then .tuple #[.agg #[.int .u8 0,.int .i64 0],.int .i64 4] else .tuple #[.agg #[.int .u8 (S07.lpFin (S07.bytesN s)).1,.int .i64 (S07.lpFin (S07.bytesN s)).2],.int .i64 0])/\RowKit.Below w.heap.size w w':=by
 refine(S07.lp_walk s w (λ_ _=>t) λk c _ _ _ _ h w' hB=>?_).mono ?_
 ·obtain⟨rfl,rfl⟩:=Prod.mk.inj (h hA);exact hT w' hB
 ·rintro e w' ⟨⟨k,c,_,_,_,_,h,rfl⟩,hB⟩;obtain⟨rfl,rfl⟩:=Prod.mk.inj (h hA);exact⟨rfl,hB⟩
theorem kh3 (s:ByteArray) (w:World) (T:Int->Int->ByteArray) (hA:¬ ∀i (h:i<s.size),(s[i]'h).toNat<128) (h1:∀k c,xB k c->asc ((T k c).data.toList.map UInt8.toNat)=true)
  (h2:∀k c,xB k c->∀w',RowKit.Below w.heap.size w w'->Calls Tryz.prog 65 #[.agg #[.int .u8 k,.int .i64 c]] w' λe w''=>e=.returned (.string (T k c))/\RowKit.Below w'.heap.size w' w''):
  Calls Tryz.prog 74 #[.string s] w λe w'=>e=.returned (.tuple #[.agg #[.int .u8 0,.int .i64 0],.int .i64 4])/\RowKit.Below w.heap.size w w':=by
 refine(S07.lp_walk s w T λk c a1 a2 a3 a4 _ w' hB=>h2 k c ⟨a1,a2,a3,a4⟩ w' hB).mono ?_;rintro e w' ⟨⟨k,c,a1,a2,a3,a4,_,rfl⟩,hB⟩;have hne:(T k c).toList≠s.toList:=λe=>hA λi hi=>by
  have h3:=h1 k c ⟨a1,a2,a3,a4⟩;have e2:(T k c).data.toList=s.data.toList:=by rw[<-jj9,<-jj9,e]
  rw[e2] at h3;have h4:=cJ.1 h3 ((s[i]'hi).toNat) (bH.2 ⟨s[i]'hi,Array.mem_toList_iff.2 (Array.getElem_mem (xs:=s.data) hi),rfl⟩);simp only[Nat.blt,bB,aO] at h4;omega
 refine⟨?_,hB⟩;rw[aH (.inr hne)]
theorem jqo (mx:Int):oE Tryz.prog gl (BB mx) (told mx):=
 xF j42
  (xF (j43 ⟨Tryz.f53,Tryz.func53,by kernel_rfl,by kernel_rfl⟩ kie kmm)
    (xF j4x (xF j40
    (xF (kn1 ⟨Tryz.f72,Tryz.func72,by kernel_rfl,by kernel_rfl⟩ (g1:=0) rfl (by kernel_rfl) Tryz.strings_Split)
    (xF (knp ⟨Tryz.f73,Tryz.func73,by kernel_rfl,by kernel_rfl⟩ (gs:=3) (gr:=4) rfl rfl (by kernel_rfl) (by kernel_rfl) Tryz.strconv_Atoi_ok Tryz.strconv_Atoi_syntax Tryz.strconv_Atoi_range)
    (xF (knt ⟨Tryz.f75,Tryz.func75,by kernel_rfl,by kernel_rfl⟩ Tryz.strings_Index_one)
      (xF (knv (jfm jtu mixed O7 8).1 (jfm jtu mixed O7 8).2 ⟨Tryz.f74,Tryz.func74,by kernel_rfl,by kernel_rfl⟩ kh2 kh3)
      (xF j44 (xF (knx ⟨Tryz.f45,Tryz.func45,by kernel_rfl,by kernel_rfl⟩ λs sub h1 hs w=>Tryz.strings_LastIndex_one s sub h1 hs w)
      (knr (jfm jtu mixed O7 24).1 ⟨Tryz.f19,Tryz.func19,by kernel_rfl,by kernel_rfl⟩))))))))))
end Vm
end Go.Proofs.YtccefhabickfiaaGreatDoor
