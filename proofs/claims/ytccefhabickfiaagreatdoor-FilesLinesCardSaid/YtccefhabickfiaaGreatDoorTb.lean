/- Segments, texts: the numbers from -4096 on. (Printed by a program.) -/
import Derived.Test.YtccefhabickfiaaGreatDoorTa
set_option linter.unusedSimpArgs false
set_option linter.unusedVariables false
namespace Go.Vm
namespace X
open W
set_option maxRecDepth 100000
theorem jni:((List.range 256).all λk=>gK ((k:Int)+ (-4096)))=true:=by kernel_rfl
theorem jnj:((List.range 256).all λk=>gK ((k:Int)+ (-3840)))=true:=by kernel_rfl
theorem jnk:((List.range 256).all λk=>gK ((k:Int)+ (-3584)))=true:=by kernel_rfl
theorem jnl:((List.range 256).all λk=>gK ((k:Int)+ (-3328)))=true:=by kernel_rfl
theorem jnm:((List.range 256).all λk=>gK ((k:Int)+ (-3072)))=true:=by kernel_rfl
theorem jnn:((List.range 256).all λk=>gK ((k:Int)+ (-2816)))=true:=by kernel_rfl
theorem jno:((List.range 256).all λk=>gK ((k:Int)+ (-2560)))=true:=by kernel_rfl
theorem jnp:((List.range 257).all λk=>gK ((k:Int)+ (-2304)))=true:=by kernel_rfl
theorem jnq:((List.range 256).all λk=>gK ((k:Int)+ (-2047)))=true:=by kernel_rfl
theorem jnr:((List.range 256).all λk=>gK ((k:Int)+ (-1791)))=true:=by kernel_rfl
theorem jns:((List.range 256).all λk=>gK ((k:Int)+ (-1535)))=true:=by kernel_rfl
theorem jnt:((List.range 256).all λk=>gK ((k:Int)+ (-1279)))=true:=by kernel_rfl
theorem jnu:((List.range 256).all λk=>gK ((k:Int)+ (-1023)))=true:=by kernel_rfl
theorem jnv:((List.range 256).all λk=>gK ((k:Int)+ (-767)))=true:=by kernel_rfl
theorem jnw:((List.range 256).all λk=>gK ((k:Int)+ (-511)))=true:=by kernel_rfl
theorem jnx:((List.range 256).all λk=>gK ((k:Int)+ (-255)))=true:=by kernel_rfl
theorem jny:((List.range 256).all λk=>gK ((k:Int)+ (1)))=true:=by kernel_rfl
theorem jnz:((List.range 256).all λk=>gK ((k:Int)+ (257)))=true:=by kernel_rfl
theorem jn0:((List.range 256).all λk=>gK ((k:Int)+ (513)))=true:=by kernel_rfl
theorem jn1:((List.range 256).all λk=>gK ((k:Int)+ (769)))=true:=by kernel_rfl
theorem jn2:((List.range 256).all λk=>gK ((k:Int)+ (1025)))=true:=by kernel_rfl
theorem jn3:((List.range 256).all λk=>gK ((k:Int)+ (1281)))=true:=by kernel_rfl
theorem jn4:((List.range 256).all λk=>gK ((k:Int)+ (1537)))=true:=by kernel_rfl
theorem jn5:((List.range 256).all λk=>gK ((k:Int)+ (1793)))=true:=by kernel_rfl
theorem jn6:((List.range 256).all λk=>gK ((k:Int)+ (2049)))=true:=by kernel_rfl
theorem jn7:((List.range 256).all λk=>gK ((k:Int)+ (2305)))=true:=by kernel_rfl
theorem jn8:((List.range 256).all λk=>gK ((k:Int)+ (2561)))=true:=by kernel_rfl
theorem jn9:((List.range 256).all λk=>gK ((k:Int)+ (2817)))=true:=by kernel_rfl
theorem joa:((List.range 256).all λk=>gK ((k:Int)+ (3073)))=true:=by kernel_rfl
theorem job:((List.range 256).all λk=>gK ((k:Int)+ (3329)))=true:=by kernel_rfl
theorem joc:((List.range 256).all λk=>gK ((k:Int)+ (3585)))=true:=by kernel_rfl
theorem jod:((List.range 256).all λk=>gK ((k:Int)+ (3841)))=true:=by kernel_rfl
end X
end Go.Vm
