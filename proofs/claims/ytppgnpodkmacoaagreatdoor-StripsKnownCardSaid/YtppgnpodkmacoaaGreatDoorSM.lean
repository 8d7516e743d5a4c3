/-
  Strips: the told functions of the chapter.
-/
import Derived.Test.YtppgnpodkmacoaaGreatDoorVmP
import Derived.Test.YtppgnpodkmacoaaGreatDoorVmWJ
import Derived.Test.YtppgnpodkmacoaaGreatDoorVmWS
import Derived.Test.YtppgnpodkmacoaaGreatDoorVmWU
import Derived.Test.YtppgnpodkmacoaaGreatDoorSt
import Derived.Test.YtppgnpodkmacoaaGreatDoorSh
set_option linter.unusedSimpArgs false
set_option linter.unusedVariables false

namespace Go.Proofs.YtppgnpodkmacoaaGreatDoor
namespace Vm
open Go Go.Vm Go.Vm.W
set_option maxRecDepth 100000
attribute [local irreducible] W WO SpecQ runM
def mm0 : Memo := fun _ _ => none
theorem mm0_ok {B : Base} : MemoOK Tryz.prog gl B mm0 := fun f az g h => by cases h
noncomputable abbrev R0 (mx : Int) (n : Nat) := runM (BB mx) mm0 prog n
noncomputable def told (mx : Int) : Memo := memoOr (tEnds (R0 mx 3) 10 23 St.endsL) (memoOr (tAtoi 47 116) (memoOr (tSplit 45) (memoOr (tJoin 48) (memoOr (tLen 82) (tLog 81)))))
noncomputable abbrev RN (mx : Int) (n : Nat) := runM (BB mx) (told mx) prog n
abbrev SV (mx : Int) (n : Nat) (f : FuncId) (az : List AV) (v : AV) : Prop := SpecQ (BB mx) (RN mx n) f az [] (fun u N => u = v ∧ N = [])
theorem told_ok (mx : Int) : MemoOK Tryz.prog gl (BB mx) (told mx) :=
  memoOr_ok (tEnds_ok (runM_ok mm0_ok mixed prog_ok 3).1 ⟨Tryz.f10, Tryz.func10, by kernel_rfl, by kernel_rfl⟩ St.ends_c1 St.ends_c2)
  (memoOr_ok (tAtoi_ok ⟨Tryz.f47, Tryz.func47, by kernel_rfl, by kernel_rfl⟩ (gs := 3) (gr := 4) rfl rfl (by kernel_rfl) (by kernel_rfl) Tryz.strconv_Atoi_ok Tryz.strconv_Atoi_syntax Tryz.strconv_Atoi_range)
  (memoOr_ok (tSplit_ok ⟨Tryz.f45, Tryz.func45, by kernel_rfl, by kernel_rfl⟩ (g1 := 5) rfl (by kernel_rfl) Tryz.strings_Split)
  (memoOr_ok (tJoin_ok ⟨Tryz.f48, Tryz.func48, by kernel_rfl, by kernel_rfl⟩ Tryz.strings_Join_none Tryz.strings_Join)
  (memoOr_ok (tLen_ok ⟨Tryz.f82, Tryz.func82, by kernel_rfl, by kernel_rfl⟩ Tryz.bits_Len64)
    (tLog_ok ⟨Tryz.f81, Tryz.func81, by kernel_rfl, by kernel_rfl⟩ Tryz.internal_strconv_log10Pow2)))))
end Vm
end Go.Proofs.YtppgnpodkmacoaaGreatDoor
