/- Parts of the proof. -/
import Derived.Test.YtccefhabickfiaaGreatDoorTa
namespace Go.Vm
namespace X
open W
set_option maxRecDepth 100000
theorem j1d:((List.range 256).all λk=>eU ((k:Int)+ (-4096)))=true:=by kernel_rfl
theorem j1e:((List.range 256).all λk=>eU ((k:Int)+ (-3840)))=true:=by kernel_rfl
theorem j1f:((List.range 256).all λk=>eU ((k:Int)+ (-3584)))=true:=by kernel_rfl
theorem j1g:((List.range 256).all λk=>eU ((k:Int)+ (-3328)))=true:=by kernel_rfl
theorem j1h:((List.range 256).all λk=>eU ((k:Int)+ (-3072)))=true:=by kernel_rfl
theorem j1i:((List.range 256).all λk=>eU ((k:Int)+ (-2816)))=true:=by kernel_rfl
theorem j1j:((List.range 256).all λk=>eU ((k:Int)+ (-2560)))=true:=by kernel_rfl
theorem j1k:((List.range 257).all λk=>eU ((k:Int)+ (-2304)))=true:=by kernel_rfl
theorem j1l:((List.range 256).all λk=>eU ((k:Int)+ (-2047)))=true:=by kernel_rfl
theorem j1m:((List.range 256).all λk=>eU ((k:Int)+ (-1791)))=true:=by kernel_rfl
theorem j1n:((List.range 256).all λk=>eU ((k:Int)+ (-1535)))=true:=by kernel_rfl
theorem j1o:((List.range 256).all λk=>eU ((k:Int)+ (-1279)))=true:=by kernel_rfl
theorem j1p:((List.range 256).all λk=>eU ((k:Int)+ (-1023)))=true:=by kernel_rfl
theorem j1q:((List.range 256).all λk=>eU ((k:Int)+ (-767)))=true:=by kernel_rfl
theorem j1r:((List.range 256).all λk=>eU ((k:Int)+ (-511)))=true:=by kernel_rfl
theorem j1s:((List.range 256).all λk=>eU ((k:Int)+ (-255)))=true:=by kernel_rfl
theorem j1t:((List.range 256).all λk=>eU ((k:Int)+ (1)))=true:=by kernel_rfl
theorem j1u:((List.range 256).all λk=>eU ((k:Int)+ (257)))=true:=by kernel_rfl
theorem j1v:((List.range 256).all λk=>eU ((k:Int)+ (513)))=true:=by kernel_rfl
theorem j1w:((List.range 256).all λk=>eU ((k:Int)+ (769)))=true:=by kernel_rfl
theorem j1x:((List.range 256).all λk=>eU ((k:Int)+ (1025)))=true:=by kernel_rfl
theorem j1y:((List.range 256).all λk=>eU ((k:Int)+ (1281)))=true:=by kernel_rfl
theorem j1z:((List.range 256).all λk=>eU ((k:Int)+ (1537)))=true:=by kernel_rfl
theorem j10:((List.range 256).all λk=>eU ((k:Int)+ (1793)))=true:=by kernel_rfl
theorem j13:((List.range 256).all λk=>eU ((k:Int)+ (2049)))=true:=by kernel_rfl
theorem j14:((List.range 256).all λk=>eU ((k:Int)+ (2305)))=true:=by kernel_rfl
theorem j15:((List.range 256).all λk=>eU ((k:Int)+ (2561)))=true:=by kernel_rfl
theorem j16:((List.range 256).all λk=>eU ((k:Int)+ (2817)))=true:=by kernel_rfl
theorem j17:((List.range 256).all λk=>eU ((k:Int)+ (3073)))=true:=by kernel_rfl
theorem j18:((List.range 256).all λk=>eU ((k:Int)+ (3329)))=true:=by kernel_rfl
theorem j19:((List.range 256).all λk=>eU ((k:Int)+ (3585)))=true:=by kernel_rfl
theorem j2a:((List.range 256).all λk=>eU ((k:Int)+ (3841)))=true:=by kernel_rfl
end X
end Go.Vm
