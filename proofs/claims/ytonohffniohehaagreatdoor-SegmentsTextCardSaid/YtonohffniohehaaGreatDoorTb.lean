/-
  Segments, texts: the numbers from 1 on. (Printed by a program.)
  Segments, texts: the numbers from 2049 on. (Printed by a program.)
  Segments, texts: all numbers. (Printed by a program.)
-/
import Derived.Test.YtonohffniohehaaGreatDoorTa
set_option linter.unusedSimpArgs false
set_option linter.unusedVariables false
set_option linter.unusedSectionVars false
set_option linter.unnecessarySimpa false
namespace Go.Vm
namespace X
open W
set_option maxRecDepth 100000
theorem num3_0:((List.range 256).all fun k=>okN ((k:Int)+ (1)))=true:=by kernel_rfl
theorem num3_1:((List.range 256).all fun k=>okN ((k:Int)+ (257)))=true:=by kernel_rfl
theorem num3_2:((List.range 256).all fun k=>okN ((k:Int)+ (513)))=true:=by kernel_rfl
theorem num3_3:((List.range 256).all fun k=>okN ((k:Int)+ (769)))=true:=by kernel_rfl
theorem num3_4:((List.range 256).all fun k=>okN ((k:Int)+ (1025)))=true:=by kernel_rfl
theorem num3_5:((List.range 256).all fun k=>okN ((k:Int)+ (1281)))=true:=by kernel_rfl
theorem num3_6:((List.range 256).all fun k=>okN ((k:Int)+ (1537)))=true:=by kernel_rfl
theorem num3_7:((List.range 256).all fun k=>okN ((k:Int)+ (1793)))=true:=by kernel_rfl
end X
end Go.Vm
namespace Go.Vm
namespace X
open W
set_option maxRecDepth 100000
theorem num4_0:((List.range 256).all fun k=>okN ((k:Int)+ (2049)))=true:=by kernel_rfl
theorem num4_1:((List.range 256).all fun k=>okN ((k:Int)+ (2305)))=true:=by kernel_rfl
theorem num4_2:((List.range 256).all fun k=>okN ((k:Int)+ (2561)))=true:=by kernel_rfl
theorem num4_3:((List.range 256).all fun k=>okN ((k:Int)+ (2817)))=true:=by kernel_rfl
theorem num4_4:((List.range 256).all fun k=>okN ((k:Int)+ (3073)))=true:=by kernel_rfl
theorem num4_5:((List.range 256).all fun k=>okN ((k:Int)+ (3329)))=true:=by kernel_rfl
theorem num4_6:((List.range 256).all fun k=>okN ((k:Int)+ (3585)))=true:=by kernel_rfl
theorem num4_7:((List.range 256).all fun k=>okN ((k:Int)+ (3841)))=true:=by kernel_rfl
end X
end Go.Vm
namespace Go.Vm
namespace X
open W
theorem num_at {a:Int} {m:Nat} (h:((List.range m).all fun k=>okN ((k:Int)+a))=true) {n:Int} (h1:a≤n) (h2:n<a+m):okN n=true:=by
 have:=List.all_eq_true.1 h (n-a).toNat (List.mem_range.2 (by omega))
 rw[show(((n-a).toNat:Nat):Int)+a=n by omega] at this
 exact this
theorem num_all {n:Int} (h1: -4096≤n) (h2:n≤4096):okN n=true:=by
 by_cases g1_0:n < -3840
 ·exact num_at num1_0 (by omega) (by omega)
 by_cases g1_1:n < -3584
 ·exact num_at num1_1 (by omega) (by omega)
 by_cases g1_2:n < -3328
 ·exact num_at num1_2 (by omega) (by omega)
 by_cases g1_3:n < -3072
 ·exact num_at num1_3 (by omega) (by omega)
 by_cases g1_4:n < -2816
 ·exact num_at num1_4 (by omega) (by omega)
 by_cases g1_5:n < -2560
 ·exact num_at num1_5 (by omega) (by omega)
 by_cases g1_6:n < -2304
 ·exact num_at num1_6 (by omega) (by omega)
 by_cases g1_7:n < -2047
 ·exact num_at num1_7 (by omega) (by omega)
 by_cases g2_0:n < -1791
 ·exact num_at num2_0 (by omega) (by omega)
 by_cases g2_1:n < -1535
 ·exact num_at num2_1 (by omega) (by omega)
 by_cases g2_2:n < -1279
 ·exact num_at num2_2 (by omega) (by omega)
 by_cases g2_3:n < -1023
 ·exact num_at num2_3 (by omega) (by omega)
 by_cases g2_4:n < -767
 ·exact num_at num2_4 (by omega) (by omega)
 by_cases g2_5:n < -511
 ·exact num_at num2_5 (by omega) (by omega)
 by_cases g2_6:n < -255
 ·exact num_at num2_6 (by omega) (by omega)
 by_cases g2_7:n<1
 ·exact num_at num2_7 (by omega) (by omega)
 by_cases g3_0:n<257
 ·exact num_at num3_0 (by omega) (by omega)
 by_cases g3_1:n<513
 ·exact num_at num3_1 (by omega) (by omega)
 by_cases g3_2:n<769
 ·exact num_at num3_2 (by omega) (by omega)
 by_cases g3_3:n<1025
 ·exact num_at num3_3 (by omega) (by omega)
 by_cases g3_4:n<1281
 ·exact num_at num3_4 (by omega) (by omega)
 by_cases g3_5:n<1537
 ·exact num_at num3_5 (by omega) (by omega)
 by_cases g3_6:n<1793
 ·exact num_at num3_6 (by omega) (by omega)
 by_cases g3_7:n<2049
 ·exact num_at num3_7 (by omega) (by omega)
 by_cases g4_0:n<2305
 ·exact num_at num4_0 (by omega) (by omega)
 by_cases g4_1:n<2561
 ·exact num_at num4_1 (by omega) (by omega)
 by_cases g4_2:n<2817
 ·exact num_at num4_2 (by omega) (by omega)
 by_cases g4_3:n<3073
 ·exact num_at num4_3 (by omega) (by omega)
 by_cases g4_4:n<3329
 ·exact num_at num4_4 (by omega) (by omega)
 by_cases g4_5:n<3585
 ·exact num_at num4_5 (by omega) (by omega)
 by_cases g4_6:n<3841
 ·exact num_at num4_6 (by omega) (by omega)
 exact num_at num4_7 (by omega) (by omega)
end X
end Go.Vm
