/-
  Segments, texts: what is asked of a number's text.
  Segments, texts: the numbers from -4096 on. (Printed by a program.)
  Segments, texts: the numbers from -2047 on. (Printed by a program.)
-/
import Derived.Test.YtonohffniohehaaGreatDoorQ7
set_option linter.unusedSimpArgs false
set_option linter.unusedVariables false
set_option linter.unusedSectionVars false
set_option linter.unnecessarySimpa false
namespace Go.Vm
namespace X
open W
def isNum (s:List Nat):Bool:=s.all (fun b=>b.ble 57&&(45).ble b&& !(b.beq 46)&& !(b.beq 47))&&(1).ble s.length&&s.length.ble 5
def lpIs (k:Int) (b:Nat) (n:Int) (s:List Nat):Bool:=match Go.Proofs.S07.lpFin (b::32::s) with
 | (a,c)=>ieq a k&&ieq c n
def eqNL:List Nat→List Nat→Bool
 | [],[]=>true
 | a::l,b::m=>a.beq b&&eqNL l m
 | _,_=>false
def okN (n:Int):Bool:=match strconv_Itoa fuel n with
 | some s=>(match ref01_Decimal fuel n with | some t=>eqNL t s | none=>false)&&(match strconv_Atoi fuel s with | some (a,b)=>ieq a n&&b | none=>false)&&isNum s&&lpIs 1 120 n s&&lpIs 2 121 n s&&lpIs 3 117 n s&&lpIs 4 100 n s
 | none=>false
end X
end Go.Vm
namespace Go.Vm
namespace X
open W
set_option maxRecDepth 100000
theorem num1_0:((List.range 256).all fun k=>okN ((k:Int)+ (-4096)))=true:=by kernel_rfl
theorem num1_1:((List.range 256).all fun k=>okN ((k:Int)+ (-3840)))=true:=by kernel_rfl
theorem num1_2:((List.range 256).all fun k=>okN ((k:Int)+ (-3584)))=true:=by kernel_rfl
theorem num1_3:((List.range 256).all fun k=>okN ((k:Int)+ (-3328)))=true:=by kernel_rfl
theorem num1_4:((List.range 256).all fun k=>okN ((k:Int)+ (-3072)))=true:=by kernel_rfl
theorem num1_5:((List.range 256).all fun k=>okN ((k:Int)+ (-2816)))=true:=by kernel_rfl
theorem num1_6:((List.range 256).all fun k=>okN ((k:Int)+ (-2560)))=true:=by kernel_rfl
theorem num1_7:((List.range 257).all fun k=>okN ((k:Int)+ (-2304)))=true:=by kernel_rfl
end X
end Go.Vm
namespace Go.Vm
namespace X
open W
set_option maxRecDepth 100000
theorem num2_0:((List.range 256).all fun k=>okN ((k:Int)+ (-2047)))=true:=by kernel_rfl
theorem num2_1:((List.range 256).all fun k=>okN ((k:Int)+ (-1791)))=true:=by kernel_rfl
theorem num2_2:((List.range 256).all fun k=>okN ((k:Int)+ (-1535)))=true:=by kernel_rfl
theorem num2_3:((List.range 256).all fun k=>okN ((k:Int)+ (-1279)))=true:=by kernel_rfl
theorem num2_4:((List.range 256).all fun k=>okN ((k:Int)+ (-1023)))=true:=by kernel_rfl
theorem num2_5:((List.range 256).all fun k=>okN ((k:Int)+ (-767)))=true:=by kernel_rfl
theorem num2_6:((List.range 256).all fun k=>okN ((k:Int)+ (-511)))=true:=by kernel_rfl
theorem num2_7:((List.range 256).all fun k=>okN ((k:Int)+ (-255)))=true:=by kernel_rfl
end X
end Go.Vm
