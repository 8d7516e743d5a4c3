/-
  Segments, texts: the numbers from -4096 on. (Printed by a program.)
  Segments, texts: the numbers from -2047 on. (Printed by a program.)
  Segments, texts: the numbers from 1 on. (Printed by a program.)
  Segments, texts: the numbers from 2049 on. (Printed by a program.)
-/
import Derived.Test.YtccefhabickfiaaGreatDoorTa
set_option linter.unusedSimpArgs false
set_option linter.unusedVariables false
set_option linter.unusedSectionVars false
set_option linter.unnecessarySimpa false
namespace Go.Vm
namespace X
open W
set_option maxRecDepth 100000
theorem jf1:((List.range 256).all λk=>iC ((k:Int)+ (-4096)))=true:=by kernel_rfl
theorem jf2:((List.range 256).all λk=>iC ((k:Int)+ (-3840)))=true:=by kernel_rfl
theorem jf3:((List.range 256).all λk=>iC ((k:Int)+ (-3584)))=true:=by kernel_rfl
theorem jf4:((List.range 256).all λk=>iC ((k:Int)+ (-3328)))=true:=by kernel_rfl
theorem jf5:((List.range 256).all λk=>iC ((k:Int)+ (-3072)))=true:=by kernel_rfl
theorem jf6:((List.range 256).all λk=>iC ((k:Int)+ (-2816)))=true:=by kernel_rfl
theorem jf7:((List.range 256).all λk=>iC ((k:Int)+ (-2560)))=true:=by kernel_rfl
theorem jf8:((List.range 257).all λk=>iC ((k:Int)+ (-2304)))=true:=by kernel_rfl
end X
end Go.Vm
namespace Go.Vm
namespace X
open W
set_option maxRecDepth 100000
theorem jf9:((List.range 256).all λk=>iC ((k:Int)+ (-2047)))=true:=by kernel_rfl
theorem jga:((List.range 256).all λk=>iC ((k:Int)+ (-1791)))=true:=by kernel_rfl
theorem jgb:((List.range 256).all λk=>iC ((k:Int)+ (-1535)))=true:=by kernel_rfl
theorem jgc:((List.range 256).all λk=>iC ((k:Int)+ (-1279)))=true:=by kernel_rfl
theorem jgd:((List.range 256).all λk=>iC ((k:Int)+ (-1023)))=true:=by kernel_rfl
theorem jge:((List.range 256).all λk=>iC ((k:Int)+ (-767)))=true:=by kernel_rfl
theorem jgf:((List.range 256).all λk=>iC ((k:Int)+ (-511)))=true:=by kernel_rfl
theorem jgg:((List.range 256).all λk=>iC ((k:Int)+ (-255)))=true:=by kernel_rfl
end X
end Go.Vm
namespace Go.Vm
namespace X
open W
set_option maxRecDepth 100000
theorem jgh:((List.range 256).all λk=>iC ((k:Int)+ (1)))=true:=by kernel_rfl
theorem jgi:((List.range 256).all λk=>iC ((k:Int)+ (257)))=true:=by kernel_rfl
theorem jgj:((List.range 256).all λk=>iC ((k:Int)+ (513)))=true:=by kernel_rfl
theorem jgk:((List.range 256).all λk=>iC ((k:Int)+ (769)))=true:=by kernel_rfl
theorem jgl:((List.range 256).all λk=>iC ((k:Int)+ (1025)))=true:=by kernel_rfl
theorem jgm:((List.range 256).all λk=>iC ((k:Int)+ (1281)))=true:=by kernel_rfl
theorem jgn:((List.range 256).all λk=>iC ((k:Int)+ (1537)))=true:=by kernel_rfl
theorem jgo:((List.range 256).all λk=>iC ((k:Int)+ (1793)))=true:=by kernel_rfl
end X
end Go.Vm
namespace Go.Vm
namespace X
open W
set_option maxRecDepth 100000
theorem jgp:((List.range 256).all λk=>iC ((k:Int)+ (2049)))=true:=by kernel_rfl
theorem jgq:((List.range 256).all λk=>iC ((k:Int)+ (2305)))=true:=by kernel_rfl
theorem jgr:((List.range 256).all λk=>iC ((k:Int)+ (2561)))=true:=by kernel_rfl
theorem jgs:((List.range 256).all λk=>iC ((k:Int)+ (2817)))=true:=by kernel_rfl
theorem jgt:((List.range 256).all λk=>iC ((k:Int)+ (3073)))=true:=by kernel_rfl
theorem jgu:((List.range 256).all λk=>iC ((k:Int)+ (3329)))=true:=by kernel_rfl
theorem jgv:((List.range 256).all λk=>iC ((k:Int)+ (3585)))=true:=by kernel_rfl
theorem jgw:((List.range 256).all λk=>iC ((k:Int)+ (3841)))=true:=by kernel_rfl
end X
end Go.Vm
