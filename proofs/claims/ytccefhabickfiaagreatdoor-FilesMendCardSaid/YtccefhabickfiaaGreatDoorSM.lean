/- Parts of the proof. -/
import Derived.Test.YtccefhabickfiaaGreatDoorVmP
import Derived.Test.YtccefhabickfiaaGreatDoorVmWU
import Derived.Test.YtccefhabickfiaaGreatDoorEn
import Derived.Shelf.SlSortCmp.NoneTotal
set_option linter.unusedSimpArgs false
set_option linter.defProp false
set_option linter.unusedVariables false
namespace Go.Proofs.YtccefhabickfiaaGreatDoor
namespace Vm
open Go Go.Vm Go.Vm.W Go.Vm.X
set_option maxRecDepth 100000
attribute [local irreducible] W WO SpecQ iH
def pJ {m1 m2:dX} {f:FuncId} {az:List AV} {g:Tr Blk->Nat->Nat->bN} (h:m1 f az=some g):kS m1 m2 f az=some g:=by unfold kS;rw[h]
def cS {m1 m2:dX} {f:FuncId} {az:List AV} {g:Tr Blk->Nat->Nat->bN} (h1:m1 f az=none) (h:m2 f az=some g):kS m1 m2 f az=some g:=by unfold kS;rw[h1];exact h
def jqh {B:Base}:iX Tryz.prog gl B (Cf 125):=j8p ⟨Tryz.f125,Tryz.func125,by kernel_rfl,by kernel_rfl⟩ λx w h0 h1=>Tryz.bits_Len64 x w h0 h1
def jqk {B:Base}:iX Tryz.prog gl B (Cg 175):=j8q ⟨Tryz.f175,Tryz.func175,by kernel_rfl,by kernel_rfl⟩ λx h w=>Tryz.internal_strconv_log10Pow2 x h w
def j1b (p:Option Addr) (c:Nat) (w:World):Calls Tryz.prog 59 #[.slice p 0 c,.func (.func 60) #[] #[]] w λe w'=>e=.returned (.tuple #[])/\w'=w:=AnyF.slices_SortFunc_none (ρ:=Tryz.sortG_ren) { Tryz.sortG with } p c _ w
def j1a (p:Option Addr) (c:Nat) (w:World):Calls Tryz.prog 53 #[.slice p 0 c,.func (.func 54) #[] #[]] w λe w'=>e=.returned (.tuple #[])/\w'=w:=AnyF.slices_SortFunc_none (ρ:=Tryz.sortC_ren) { Tryz.sortC with } p c _ w
def j62:Go.Vm.W.RowK Tryz.prog 5 (tE Ch jW vI) 59 60:=jo3 (ρ:=Tryz.sortG_ren) Tryz.sortG (t:=Ch) rfl Tryz.isAgg56 Tryz.sizeOf56 jd0 eqG (enters_of Tryz.func60 (by kernel_rfl) rfl) λx y w=>S07.cmpG_walk x y w
def j61:Go.Vm.W.RowK Tryz.prog 3 (tE Vn lE Ff) 53 54:=jo3 (ρ:=Tryz.sortC_ren) Tryz.sortC (t:=Vn) rfl Tryz.isAgg74 Tryz.sizeOf74 jdz eqC (enters_of Tryz.func54 (by kernel_rfl) rfl) λx y w=>S07.cmpC_walk x y w
def jqo {B:Base}:iX Tryz.prog gl B (Ci 11):=j8t ⟨Tryz.f11,Tryz.func11,by kernel_rfl,by kernel_rfl⟩ λs hs w=>F11.sum_walk s hs w
def jqm {B:Base}:iX Tryz.prog gl B (tG 5 (tE Ch jW vI) 59 60):=jqn ⟨Tryz.f59,Tryz.func59,by kernel_rfl,by kernel_rfl⟩ j1b j62
noncomputable def fV:dX:=kS (tG 5 (tE Ch jW vI) 59 60) (kS (Cf 125) (kS (Cg 175) (Ci 11)))
def jbz {B:Base}:iX Tryz.prog gl B fV:=pK jqm (pK jqh (pK jqk jqo))
noncomputable abbrev R0 (mx:Int) (n:Nat):=iH (BB mx) fV prog n
noncomputable def told (mx:Int):dX:=kS (tG 5 (tE Ch jW vI) 59 60) (kS (tG 3 (tE Vn lE Ff) 53 54) (kS (Cf 125) (kS (Cg 175) (kS (Hb 72) (kS (Ce 73 232) (kS (Nd 75) (kS (Nf (R0 mx 8) 74 65) (kS (Ci 11) (kS (Ng 45) (Gz (R0 mx 24) 19 35 37 38 39))))))))))
def j0x (s:ByteArray) (w:World) (t:ByteArray) (hA:∀i (h:i<s.size),(s[i]'h).toNat<128)
  (hT:∀w',RowKit.Below w.heap.size w w'->Calls Tryz.prog 65 #[.agg #[.int .u8 (S07.lpFin (S07.bytesN s)).1,.int .i64 (S07.lpFin (S07.bytesN s)).2]] w' λe w''=>e=.returned (.string t)/\RowKit.Below w'.heap.size w' w''):
  Calls Tryz.prog 74 #[.string s] w λe w'=>e=.returned (if s.toList=[]\/t.toList≠s.toList then .tuple #[.agg #[.int .u8 0,.int .i64 0],.int .i64 4] else .tuple #[.agg #[.int .u8 (S07.lpFin (S07.bytesN s)).1,.int .i64 (S07.lpFin (S07.bytesN s)).2],.int .i64 0])/\RowKit.Below w.heap.size w w':=by
 refine(S07.lp_walk s w (λ_ _=>t) λk c _ _ _ _ h w' hB=>?_).mono ?_
 ·obtain⟨rfl,rfl⟩:=Prod.mk.inj (h hA);exact hT w' hB
 ·rintro e w' ⟨⟨k,c,_,_,_,_,h,rfl⟩,hB⟩;obtain⟨rfl,rfl⟩:=Prod.mk.inj (h hA);exact⟨rfl,hB⟩
def j0y (s:ByteArray) (w:World) (T:Int->Int->ByteArray) (hA:¬ ∀i (h:i<s.size),(s[i]'h).toNat<128) (h1:∀k c,pF k c->asc ((T k c).data.toList.map UInt8.toNat)=true)
  (h2:∀k c,pF k c->∀w',RowKit.Below w.heap.size w w'->Calls Tryz.prog 65 #[.agg #[.int .u8 k,.int .i64 c]] w' λe w''=>e=.returned (.string (T k c))/\RowKit.Below w'.heap.size w' w''):
  Calls Tryz.prog 74 #[.string s] w λe w'=>e=.returned (.tuple #[.agg #[.int .u8 0,.int .i64 0],.int .i64 4])/\RowKit.Below w.heap.size w w':=by
 refine(S07.lp_walk s w T λk c a1 a2 a3 a4 _ w' hB=>h2 k c ⟨a1,a2,a3,a4⟩ w' hB).mono ?_;rintro e w' ⟨⟨k,c,a1,a2,a3,a4,_,rfl⟩,hB⟩;have hne:(T k c).toList≠s.toList:=λe=>hA λi hi=>by
  have h3:=h1 k c ⟨a1,a2,a3,a4⟩;have e2:(T k c).data.toList=s.data.toList:=by rw[<-Nv,<-Nv,e]
  rw[e2] at h3;have h4:=bS.1 h3 ((s[i]'hi).toNat) (bU.2 ⟨s[i]'hi,Array.mem_toList_iff.2 (Array.getElem_mem (xs:=s.data) hi),rfl⟩);simp only[Nat.blt,aP,aH] at h4;omega
 refine⟨?_,hB⟩;rw[aK (.inr hne)]
def j9z (mx:Int):iX Tryz.prog gl (BB mx) (told mx):=
 pK jqm
  (pK (jqn ⟨Tryz.f53,Tryz.func53,by kernel_rfl,by kernel_rfl⟩ j1a j61)
    (pK jqh (pK jqk
    (pK (j8s ⟨Tryz.f72,Tryz.func72,by kernel_rfl,by kernel_rfl⟩ (g1:=0) rfl (by kernel_rfl) Tryz.strings_Split)
    (pK (j8g ⟨Tryz.f73,Tryz.func73,by kernel_rfl,by kernel_rfl⟩ (gs:=3) (gr:=4) rfl rfl (by kernel_rfl) (by kernel_rfl) Tryz.strconv_Atoi_ok Tryz.strconv_Atoi_syntax Tryz.strconv_Atoi_range)
    (pK (j8k ⟨Tryz.f75,Tryz.func75,by kernel_rfl,by kernel_rfl⟩ Tryz.strings_Index_one)
      (pK (j8m (Gl jbz mixed Fl 8).1 (Gl jbz mixed Fl 8).2 ⟨Tryz.f74,Tryz.func74,by kernel_rfl,by kernel_rfl⟩ j0x j0y)
      (pK jqo (pK (j8o ⟨Tryz.f45,Tryz.func45,by kernel_rfl,by kernel_rfl⟩ λs sub h1 hs w=>Tryz.strings_LastIndex_one s sub h1 hs w)
      (j8i (Gl jbz mixed Fl 24).1 ⟨Tryz.f19,Tryz.func19,by kernel_rfl,by kernel_rfl⟩))))))))))
end Vm
end Go.Proofs.YtccefhabickfiaaGreatDoor
