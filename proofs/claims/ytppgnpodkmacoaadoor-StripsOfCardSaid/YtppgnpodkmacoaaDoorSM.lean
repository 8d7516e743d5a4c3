/-
  Strips: the told functions of the chapter.
-/
import Derived.Test.YtppgnpodkmacoaaDoorVmP
import Derived.Test.YtppgnpodkmacoaaDoorVmWJ
import Derived.Test.YtppgnpodkmacoaaDoorVmWS
import Derived.Test.YtppgnpodkmacoaaDoorVmWU
import Derived.Test.YtppgnpodkmacoaaDoorSt
import Derived.Test.YtppgnpodkmacoaaDoorSh
set_option linter.unusedSimpArgs false
set_option linter.unusedVariables false

namespace Go.Proofs.YtppgnpodkmacoaaDoor
namespace Vm
open Go Go.Vm Go.Vm.W
set_option maxRecDepth 100000
attribute [local irreducible] W WO SpecQ runM
def mm0 : Memo := fun _ _ => none
theorem mm0_ok {B : Base} : MemoOK Tryd.prog gl B mm0 := fun f az g h => by cases h
noncomputable abbrev R0 (mx : Int) (n : Nat) := runM (BB mx) mm0 prog n
noncomputable def told (mx : Int) : Memo := memoOr (tEnds (R0 mx 3) 15 14 St.endsL) (memoOr (tAtoi 29 115) (memoOr (tSplit 27) (memoOr (tJoin 32) (memoOr (tLen 80) (tLog 79)))))
noncomputable abbrev RN (mx : Int) (n : Nat) := runM (BB mx) (told mx) prog n
abbrev SV (mx : Int) (n : Nat) (f : FuncId) (az : List AV) (v : AV) : Prop := SpecQ (BB mx) (RN mx n) f az [] (fun u N => u = v ∧ N = [])
theorem told_ok (mx : Int) : MemoOK Tryd.prog gl (BB mx) (told mx) :=
  memoOr_ok (tEnds_ok (runM_ok mm0_ok mixed prog_ok 3).1 ⟨Tryd.f15, Tryd.func15, by kernel_rfl, by kernel_rfl⟩ St.ends_c1 St.ends_c2)
  (memoOr_ok (tAtoi_ok ⟨Tryd.f29, Tryd.func29, by kernel_rfl, by kernel_rfl⟩ (gs := 2) (gr := 3) rfl rfl (by kernel_rfl) (by kernel_rfl) Tryd.strconv_Atoi_ok Tryd.strconv_Atoi_syntax Tryd.strconv_Atoi_range)
  (memoOr_ok (tSplit_ok ⟨Tryd.f27, Tryd.func27, by kernel_rfl, by kernel_rfl⟩ (g1 := 5) rfl (by kernel_rfl) Tryd.strings_Split)
  (memoOr_ok (tJoin_ok ⟨Tryd.f32, Tryd.func32, by kernel_rfl, by kernel_rfl⟩ Tryd.strings_Join_none Tryd.strings_Join)
  (memoOr_ok (tLen_ok ⟨Tryd.f80, Tryd.func80, by kernel_rfl, by kernel_rfl⟩ Tryd.bits_Len64)
    (tLog_ok ⟨Tryd.f79, Tryd.func79, by kernel_rfl, by kernel_rfl⟩ Tryd.internal_strconv_log10Pow2)))))
end Vm
end Go.Proofs.YtppgnpodkmacoaaDoor
