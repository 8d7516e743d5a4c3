/-
  The program's text for the machine. (Printed by a program.)
-/
import Derived.Test.YtgncjbodicabnaaDoorVmWH
import Derived.Test.YtgncjbodicabnaaDoorVmP
import Derived.KernelRfl
set_option linter.unusedSimpArgs false
set_option linter.unusedVariables false

namespace Go.Proofs.YtgncjbodicabnaaDoor
namespace Vm
open Go Go.Vm Go.Vm.W Go.Vm.Swift
noncomputable section
set_option maxRecDepth 100000
/-- crimp/moves.Inverse -/
def u12 : Fu := fn K2.z [(pA (pA p0)), (pA (pB p0)), (pA (pC p0)), (pA (pD p0)), (pA (pE p0)), (pA (pF p0)), (pA (pG p0)), (pA (pH p0)), (pB (pA p0)), (pB (pB p0)), (pB (pC p0)), (pB (pD p0))] (cSeq (cReg ((m1 wBox (gA (gA g0)) (pA (pB p0))) <|
 ((oAlloc [(.int .u8 0), (.int .i64 0), (.int .i64 0)] (pA (pC p0))) <|
 ((o1 vMov (gK (.int .i64 0)) (pA (pD p0))) <|
 oEnd)))) (cSeq (cSeq (cReg ((m1 (wLoadN 3) (gA (gB g0)) (pB (pA p0))) <|
 ((oCall 34 [(gB (gA g0))] (pB (pB p0))) <|
 ((o2 vNeq (gB (gB g0)) (gK (.int .i64 0)) (pB (pC p0))) <|
 oEnd)))) (cIf (gB (gC g0)) (cSeq (cReg ((oSlow K2.gt ⟨(some 11), none, (.p (.build [(.int .u8 0), (.int .i64 0), (.int .i64 0)] [])), false, []⟩ (pB (pD p0))) <|
 ((oStore 3 (gA (gC g0)) (gB (gD g0))) <|
 ((o1 vMov (gK (.int .i64 1)) (pA (pD p0))) <|
 oEnd)))) (cExit 0)) cSkip)) (cSeq (cReg ((o1 vFad0 (gA (gB g0)) (pB (pE p0))) <|
 ((m1 wLoad1 (gB (gE g0)) (pB (pF p0))) <|
 ((o2 (vIadA 8 4) (gK (.ptr 0 0)) (gB (gF g0)) (pB (pG p0))) <|
 ((m1 (wLoadN 4) (gB (gG g0)) (pB (pH p0))) <|
 ((oAlloc [(.int .i64 0), (.int .i64 0), (.int .i64 0), (.int .i64 0)] (pA (pE p0))) <|
 ((oStore 4 (gA (gE g0)) (gB (gH g0))) <|
 oEnd))))))) (cSeq (cReg ((o1 vFad0 (gA (gE g0)) (pC (pA p0))) <|
 ((m1 wLoad1 (gC (gA g0)) (pC (pB p0))) <|
 ((o1 (vFad 2) (gA (gE g0)) (pC (pC p0))) <|
 ((m1 wLoad1 (gC (gC g0)) (pC (pD p0))) <|
 ((o1 (vFad 1) (gA (gE g0)) (pC (pE p0))) <|
 ((m1 wLoad1 (gC (gE g0)) (pC (pF p0))) <|
 ((o1 (vFad 3) (gA (gE g0)) (pC (pG p0))) <|
 ((m1 wLoad1 (gC (gG g0)) (pC (pH p0))) <|
 ((oSlow K2.gt ⟨(some 24), none, (.p (.build [(.int .i64 0), (.int .i64 0), (.int .i64 0), (.int .i64 0)] [(0, 1, (.t 17)), (1, 1, (.t 19)), (2, 1, (.t 21)), (3, 1, (.t 23))])), false, []⟩ (pD (pA p0))) <|
 ((oAlloc [(.int .i64 0), (.int .i64 0), (.int .i64 0), (.int .i64 0)] (pA (pF p0))) <|
 ((oStore 4 (gA (gF g0)) (gD (gA g0))) <|
 oEnd)))))))))))) (cSeq (cReg ((m1 (wLoadN 4) (gA (gF g0)) (pD (pC p0))) <|
 ((o1 (vFad 1) (gA (gB g0)) (pD (pD p0))) <|
 ((m1 wLoad1 (gD (gD g0)) (pD (pE p0))) <|
 ((oSlow K2.gt ⟨(some 29), none, (.p (.neg (.t 28))), false, []⟩ (pD (pF p0))) <|
 ((o1 (vFad 2) (gA (gB g0)) (pD (pG p0))) <|
 ((m1 wLoad1 (gD (gG g0)) (pD (pH p0))) <|
 ((oSlow K2.gt ⟨(some 32), none, (.p (.neg (.t 31))), false, []⟩ (pE (pA p0))) <|
 ((oCall 37 [(gD (gC g0)), (gD (gF g0)), (gE (gA g0))] (pE (pB p0))) <|
 ((o1 vMov (gE (gB g0)) (pD (pB p0))) <|
 ((o1 (vExt 0) (gD (gB g0)) (pE (pC p0))) <|
 ((o1 (vExt 1) (gD (gB g0)) (pE (pD p0))) <|
 ((o1 vMov (gE (gC g0)) (pA (pG p0))) <|
 ((o1 vMov (gE (gD g0)) (pA (pH p0))) <|
 oEnd)))))))))))))) (cSeq (cReg ((m1 (wLoadN 4) (gA (gF g0)) (pE (pE p0))) <|
 ((oCall 39 [(gE (gE g0))] (pE (pF p0))) <|
 ((o1 vMov (gA (gG g0)) (pE (pG p0))) <|
 ((o1 vMov (gA (gH g0)) (pE (pH p0))) <|
 ((oSlow K2.gt ⟨(some 40), none, (.p (.build [(.int .u8 0), (.int .i64 0), (.int .i64 0)] [(0, 1, (.t 37)), (1, 1, (.t 38)), (2, 1, (.t 39))])), false, []⟩ (pF (pA p0))) <|
 ((oCall 38 [(gF (gA g0))] (pF (pB p0))) <|
 ((o1 (vExt 0) (gF (gB g0)) (pF (pC p0))) <|
 ((o1 (vExt 1) (gF (gB g0)) (pF (pD p0))) <|
 ((oStore 3 (gA (gC g0)) (gF (gC g0))) <|
 ((o1 vMov (gF (gD g0)) (pA (pD p0))) <|
 oEnd))))))))))) (cExit 0))))))) [(rA 3 (gA (gC g0))), (rT (gA (gD g0)))]
theorem u12_ok : denA k12 = u12 := dA2 rfl rfl (dF rfl rfl rfl (dS (dR (dc rfl (dc (by kernel_rfl) (dc rfl dn)))) (dS (dS (dR (dc rfl (dc rfl (dc rfl dn)))) (dI rfl rfl (dS (dR (dc (by kernel_rfl) (dc rfl (dc rfl dn)))) dT) dK)) (dS (dR (dc rfl (dc rfl (dc rfl (dc rfl (dc (by kernel_rfl) (dc rfl dn))))))) (dS (dR (dc rfl (dc rfl (dc rfl (dc rfl (dc rfl (dc rfl (dc rfl (dc rfl (dc (by kernel_rfl) (dc (by kernel_rfl) (dc rfl dn)))))))))))) (dS (dR (dc rfl (dc rfl (dc rfl (dc (by kernel_rfl) (dc rfl (dc rfl (dc (by kernel_rfl) (dc rfl (dc rfl (dc rfl (dc rfl (dc rfl (dc rfl dn)))))))))))))) (dS (dR (dc rfl (dc rfl (dc rfl (dc rfl (dc (by kernel_rfl) (dc rfl (dc rfl (dc rfl (dc rfl (dc rfl dn))))))))))) dT)))))))
/-- crimp/crimplaw02.lives -/
def u14 : Fu := fn K3.z [(pA (pA (pA p0))), (pA (pA (pB p0))), (pA (pA (pC p0))), (pA (pA (pD p0))), (pA (pA (pE p0))), (pA (pA (pF p0))), (pA (pA (pG p0))), (pA (pA (pH p0))), (pA (pB (pA p0))), (pA (pB (pB p0))), (pA (pB (pC p0))), (pA (pB (pD p0)))] (cSeq (cReg ((o1 vMov (gK (.bool false)) (pA (pA (pA p0)))) <|
 oEnd)) (cSeq (cSeq (cReg ((oCall 40 [(gK (.int .u8 1)), (gK (.int .i64 3))] (pA (pC (pD p0)))) <|
 ((oCall 36 [(gK (.int .u8 4)), (gK (.int .i64 6)), (gK (.int .i64 0))] (pA (pC (pE p0)))) <|
 ((o2 (vEqf true true [1, 1, 1]) (gA (gC (gD g0))) (gA (gC (gE g0))) (pA (pC (pF p0)))) <|
 ((o1 vMov (gA (gC (gF g0))) (pA (pC (pG p0)))) <|
 ((oGuard (gA (gC (gG g0))) false (pA (pC (pH p0))) (oCall 40 [(gK (.int .u8 2)), (gK (.int .i64 3))] (pA (pC (pH p0))))) <|
 ((oGuard (gA (gC (gG g0))) false (pA (pD (pA p0))) (oCall 36 [(gK (.int .u8 6)), (gK (.int .i64 0)), (gK (.int .i64 6))] (pA (pD (pA p0))))) <|
 ((oGuard (gA (gC (gG g0))) false (pA (pD (pB p0))) (o2 (vEqf true true [1, 1, 1]) (gA (gC (gH g0))) (gA (gD (gA g0))) (pA (pD (pB p0))))) <|
 ((oSlow K3.gt ⟨(some 26), none, (.p (.pick (.t 22) (.c (.bool true)) (.t 25))), false, []⟩ (pA (pD (pC p0)))) <|
 ((o1 vMov (gA (gD (gC g0))) (pA (pD (pD p0)))) <|
 ((oGuard (gA (gD (gD g0))) false (pA (pD (pE p0))) (oCall 40 [(gK (.int .u8 3)), (gK (.int .i64 3))] (pA (pD (pE p0))))) <|
 ((oGuard (gA (gD (gD g0))) false (pA (pD (pF p0))) (oCall 36 [(gK (.int .u8 5)), (gK (.int .i64 3)), (gK (.int .i64 3))] (pA (pD (pF p0))))) <|
 ((oGuard (gA (gD (gD g0))) false (pA (pD (pG p0))) (o2 (vEqf true true [1, 1, 1]) (gA (gD (gE g0))) (gA (gD (gF g0))) (pA (pD (pG p0))))) <|
 ((oSlow K3.gt ⟨(some 31), none, (.p (.pick (.t 27) (.c (.bool true)) (.t 30))), false, []⟩ (pA (pD (pH p0)))) <|
 ((o1 vMov (gA (gD (gH g0))) (pA (pE (pA p0)))) <|
 ((oGuard (gA (gE (gA g0))) false (pA (pE (pB p0))) (oCall 40 [(gK (.int .u8 4)), (gK (.int .i64 3))] (pA (pE (pB p0))))) <|
 ((oGuard (gA (gE (gA g0))) false (pA (pE (pC p0))) (oCall 36 [(gK (.int .u8 7)), (gK (.int .i64 (-3))), (gK (.int .i64 3))] (pA (pE (pC p0))))) <|
 ((oGuard (gA (gE (gA g0))) false (pA (pE (pD p0))) (o2 (vEqf true true [1, 1, 1]) (gA (gE (gB g0))) (gA (gE (gC g0))) (pA (pE (pD p0))))) <|
 ((oSlow K3.gt ⟨(some 36), none, (.p (.pick (.t 32) (.c (.bool true)) (.t 35))), false, []⟩ (pA (pE (pE p0)))) <|
 oEnd))))))))))))))))))) (cIf (gA (gE (gE g0))) (cSeq (cReg ((o1 vMov (gK (.bool false)) (pA (pA (pA p0)))) <|
 oEnd)) (cExit 0)) cSkip)) (cSeq (cReg ((oCall 40 [(gK (.int .u8 1)), (gK (.int .i64 0))] (pA (pE (pG p0)))) <|
 ((oCall 40 [(gK (.int .u8 1)), (gK (.int .i64 2))] (pA (pE (pH p0)))) <|
 ((oCall 15 [(gA (gE (gG g0))), (gA (gE (gH g0)))] (pA (pF (pA p0)))) <|
 ((o1 vMov (gA (gF (gA g0))) (pA (pE (pF p0)))) <|
 ((o1 (vExt 0) (gA (gE (gF g0))) (pA (pF (pB p0)))) <|
 ((o1 (vExt 1) (gA (gE (gF g0))) (pA (pF (pC p0)))) <|
 ((oAlloc [(.int .u8 0), (.int .i64 0), (.int .i64 0)] (pA (pA (pB p0)))) <|
 ((oStore 3 (gA (gA (gB g0))) (gA (gF (gB g0)))) <|
 ((o1 vMov (gA (gF (gC g0))) (pA (pA (pC p0)))) <|
 oEnd)))))))))) (cSeq (cReg ((oCall 40 [(gK (.int .u8 1)), (gK (.int .i64 0))] (pA (pF (pE p0)))) <|
 ((oCall 40 [(gK (.int .u8 2)), (gK (.int .i64 0))] (pA (pF (pF p0)))) <|
 ((oCall 15 [(gA (gF (gE g0))), (gA (gF (gF g0)))] (pA (pF (pG p0)))) <|
 ((o1 vMov (gA (gF (gG g0))) (pA (pF (pD p0)))) <|
 ((o1 (vExt 0) (gA (gF (gD g0))) (pA (pF (pH p0)))) <|
 ((o1 (vExt 1) (gA (gF (gD g0))) (pA (pG (pA p0)))) <|
 ((oAlloc [(.int .u8 0), (.int .i64 0), (.int .i64 0)] (pA (pA (pD p0)))) <|
 ((oStore 3 (gA (gA (gD g0))) (gA (gF (gH g0)))) <|
 ((o1 vMov (gA (gG (gA g0))) (pA (pA (pE p0)))) <|
 oEnd)))))))))) (cSeq (cReg ((oCall 40 [(gK (.int .u8 1)), (gK (.int .i64 0))] (pA (pG (pC p0)))) <|
 ((oCall 40 [(gK (.int .u8 3)), (gK (.int .i64 0))] (pA (pG (pD p0)))) <|
 ((oCall 15 [(gA (gG (gC g0))), (gA (gG (gD g0)))] (pA (pG (pE p0)))) <|
 ((o1 vMov (gA (gG (gE g0))) (pA (pG (pB p0)))) <|
 ((o1 (vExt 0) (gA (gG (gB g0))) (pA (pG (pF p0)))) <|
 ((o1 (vExt 1) (gA (gG (gB g0))) (pA (pG (pG p0)))) <|
 ((oAlloc [(.int .u8 0), (.int .i64 0), (.int .i64 0)] (pA (pA (pF p0)))) <|
 ((oStore 3 (gA (gA (gF g0))) (gA (gG (gF g0)))) <|
 ((o1 vMov (gA (gG (gG g0))) (pA (pA (pG p0)))) <|
 oEnd)))))))))) (cSeq (cReg ((oCall 36 [(gK (.int .u8 1)), (gK (.int .i64 2)), (gK (.int .i64 4))] (pA (pH (pA p0)))) <|
 ((oCall 12 [(gA (gH (gA g0)))] (pA (pH (pB p0)))) <|
 ((o1 vMov (gA (gH (gB g0))) (pA (pG (pH p0)))) <|
 ((o1 (vExt 0) (gA (gG (gH g0))) (pA (pH (pC p0)))) <|
 ((o1 (vExt 1) (gA (gG (gH g0))) (pA (pH (pD p0)))) <|
 ((oAlloc [(.int .u8 0), (.int .i64 0), (.int .i64 0)] (pA (pA (pH p0)))) <|
 ((oStore 3 (gA (gA (gH g0))) (gA (gH (gC g0)))) <|
 ((o1 vMov (gA (gH (gD g0))) (pA (pB (pA p0)))) <|
 oEnd))))))))) (cSeq (cReg ((oCall 36 [(gK (.int .u8 1)), (gK (.int .i64 2)), (gK (.int .i64 4))] (pA (pH (pF p0)))) <|
 ((oSlow K3.gt ⟨(some 62), none, (.p (.build [(.int .i64 0), (.int .i64 0)] [(0, 1, (.c (.int .i64 3))), (1, 1, (.c (.int .i64 1)))])), false, []⟩ (pA (pH (pG p0)))) <|
 ((oCall 18 [(gA (gH (gF g0))), (gA (gH (gG g0)))] (pA (pH (pH p0)))) <|
 ((o1 vMov (gA (gH (gH g0))) (pA (pH (pE p0)))) <|
 ((o1 (vExt 0) (gA (gH (gE g0))) (pB (pA (pA p0)))) <|
 ((o1 (vExt 1) (gA (gH (gE g0))) (pB (pA (pB p0)))) <|
 ((oAlloc [(.int .i64 0), (.int .i64 0)] (pA (pB (pB p0)))) <|
 ((oStore 2 (gA (gB (gB g0))) (gB (gA (gA g0)))) <|
 ((o1 vMov (gB (gA (gB g0))) (pA (pB (pC p0)))) <|
 oEnd)))))))))) (cSeq (cReg ((oCall 36 [(gK (.int .u8 1)), (gK (.int .i64 2)), (gK (.int .i64 4))] (pB (pA (pD p0)))) <|
 ((oSlow K3.gt ⟨(some 68), none, (.p (.build [(.int .u8 0), (.int .i64 0)] [(0, 1, (.c (.int .u8 1))), (1, 1, (.c (.int .i64 1)))])), false, []⟩ (pB (pA (pE p0)))) <|
 ((oCall 21 [(gB (gA (gD g0))), (gB (gA (gE g0)))] (pB (pA (pF p0)))) <|
 ((o1 vMov (gB (gA (gF g0))) (pB (pA (pC p0)))) <|
 ((o1 (vExt 0) (gB (gA (gC g0))) (pB (pA (pG p0)))) <|
 ((o1 (vExt 1) (gB (gA (gC g0))) (pB (pA (pH p0)))) <|
 ((oAlloc [(.int .u8 0), (.int .i64 0)] (pA (pB (pD p0)))) <|
 ((oStore 2 (gA (gB (gD g0))) (gB (gA (gG g0)))) <|
 ((o1 vMov (gB (gA (gH g0))) (pA (pB (pE p0)))) <|
 oEnd)))))))))) (cSeq (cReg ((oCall 36 [(gK (.int .u8 1)), (gK (.int .i64 2)), (gK (.int .i64 4))] (pB (pB (pB p0)))) <|
 ((oSlow K3.gt ⟨(some 74), none, (.p (.build [(.int .u8 0), (.int .i64 0)] [(0, 1, (.c (.int .u8 3))), (1, 1, (.c (.int .i64 1)))])), false, []⟩ (pB (pB (pC p0)))) <|
 ((oCall 21 [(gB (gB (gB g0))), (gB (gB (gC g0)))] (pB (pB (pD p0)))) <|
 ((o1 vMov (gB (gB (gD g0))) (pB (pB (pA p0)))) <|
 ((o1 (vExt 0) (gB (gB (gA g0))) (pB (pB (pE p0)))) <|
 ((o1 (vExt 1) (gB (gB (gA g0))) (pB (pB (pF p0)))) <|
 ((oAlloc [(.int .u8 0), (.int .i64 0)] (pA (pB (pF p0)))) <|
 ((oStore 2 (gA (gB (gF g0))) (gB (gB (gE g0)))) <|
 ((o1 vMov (gB (gB (gF g0))) (pA (pB (pG p0)))) <|
 oEnd)))))))))) (cSeq (cReg ((oCall 30 [(gK (.str [48, 32, 49, 32, 48]))] (pB (pB (pH p0)))) <|
 ((o1 vMov (gB (gB (gH g0))) (pB (pB (pG p0)))) <|
 ((o1 (vExt 0) (gB (gB (gG g0))) (pB (pC (pA p0)))) <|
 ((o1 (vExt 1) (gB (gB (gG g0))) (pB (pC (pB p0)))) <|
 ((oAlloc [(.int .u8 0), (.int .i64 0), (.int .i64 0)] (pA (pB (pH p0)))) <|
 ((oStore 3 (gA (gB (gH g0))) (gB (gC (gA g0)))) <|
 ((o1 vMov (gB (gC (gB g0))) (pA (pC (pA p0)))) <|
 oEnd)))))))) (cSeq (cReg ((oCall 36 [(gK (.int .u8 0)), (gK (.int .i64 16384)), (gK (.int .i64 0))] (pB (pC (pD p0)))) <|
 ((oCall 36 [(gK (.int .u8 0)), (gK (.int .i64 2)), (gK (.int .i64 0))] (pB (pC (pE p0)))) <|
 ((oCall 15 [(gB (gC (gD g0))), (gB (gC (gE g0)))] (pB (pC (pF p0)))) <|
 ((o1 vMov (gB (gC (gF g0))) (pB (pC (pC p0)))) <|
 ((o1 (vExt 0) (gB (gC (gC g0))) (pB (pC (pG p0)))) <|
 ((o1 (vExt 1) (gB (gC (gC g0))) (pB (pC (pH p0)))) <|
 ((oAlloc [(.int .u8 0), (.int .i64 0), (.int .i64 0)] (pA (pC (pB p0)))) <|
 ((oStore 3 (gA (gC (gB g0))) (gB (gC (gG g0)))) <|
 ((o1 vMov (gB (gC (gH g0))) (pA (pC (pC p0)))) <|
 oEnd)))))))))) (cSeq (cReg ((m1 (wLoadN 3) (gA (gA (gB g0))) (pB (pD (pA p0)))) <|
 ((oCallQ 36 [(gK (.int .u8 0)), (gK (.int .i64 4)), (gK (.int .i64 0))] (pB (pD (pB p0)))) <|
 ((o2 (vEqf false true [1, 1, 1]) (gB (gD (gA g0))) (gB (gD (gB g0))) (pB (pD (pC p0)))) <|
 ((o1 vMov (gB (gD (gC g0))) (pB (pD (pD p0)))) <|
 ((oGuard (gB (gD (gD g0))) true (pB (pD (pE p0))) (m1 (wLoadN 3) (gA (gA (gD g0))) (pB (pD (pE p0))))) <|
 ((oGuard (gB (gD (gD g0))) true (pB (pD (pF p0))) (oCallQ 36 [(gK (.int .u8 2)), (gK (.int .i64 0)), (gK (.int .i64 0))] (pB (pD (pF p0))))) <|
 ((oGuard (gB (gD (gD g0))) true (pB (pD (pG p0))) (o2 (vEqf false true [1, 1, 1]) (gB (gD (gE g0))) (gB (gD (gF g0))) (pB (pD (pG p0))))) <|
 ((oSlow K3.gt ⟨(some 95), none, (.p (.pick (.t 91) (.t 94) (.c (.bool false)))), false, []⟩ (pB (pD (pH p0)))) <|
 ((o1 vMov (gB (gD (gH g0))) (pB (pE (pA p0)))) <|
 ((oGuard (gB (gE (gA g0))) true (pB (pE (pB p0))) (m1 (wLoadN 3) (gA (gA (gF g0))) (pB (pE (pB p0))))) <|
 ((oGuard (gB (gE (gA g0))) true (pB (pE (pC p0))) (oCallQ 36 [(gK (.int .u8 1)), (gK (.int .i64 0)), (gK (.int .i64 0))] (pB (pE (pC p0))))) <|
 ((oGuard (gB (gE (gA g0))) true (pB (pE (pD p0))) (o2 (vEqf false true [1, 1, 1]) (gB (gE (gB g0))) (gB (gE (gC g0))) (pB (pE (pD p0))))) <|
 ((oSlow K3.gt ⟨(some 100), none, (.p (.pick (.t 96) (.t 99) (.c (.bool false)))), false, []⟩ (pB (pE (pE p0)))) <|
 ((o1 vMov (gB (gE (gE g0))) (pB (pE (pF p0)))) <|
 ((oGuard (gB (gE (gF g0))) true (pB (pE (pG p0))) (m1 (wLoadN 3) (gA (gA (gH g0))) (pB (pE (pG p0))))) <|
 ((oGuard (gB (gE (gF g0))) true (pB (pE (pH p0))) (oCallQ 36 [(gK (.int .u8 3)), (gK (.int .i64 (-4))), (gK (.int .i64 2))] (pB (pE (pH p0))))) <|
 ((oGuard (gB (gE (gF g0))) true (pB (pF (pA p0))) (o2 (vEqf false true [1, 1, 1]) (gB (gE (gG g0))) (gB (gE (gH g0))) (pB (pF (pA p0))))) <|
 ((oSlow K3.gt ⟨(some 105), none, (.p (.pick (.t 101) (.t 104) (.c (.bool false)))), false, []⟩ (pB (pF (pB p0)))) <|
 ((o1 vMov (gB (gF (gB g0))) (pB (pF (pC p0)))) <|
 ((oGuard (gB (gF (gC g0))) true (pB (pF (pD p0))) (m1 (wLoadN 2) (gA (gB (gB g0))) (pB (pF (pD p0))))) <|
 ((oGuard (gB (gF (gC g0))) true (pB (pF (pE p0))) (oSlow K3.gt ⟨(some 108), (some (106, true)), (.p (.build [(.int .i64 0), (.int .i64 0)] [(0, 1, (.c (.int .i64 3))), (1, 1, (.c (.int .i64 11)))])), false, []⟩ (pB (pF (pE p0))))) <|
 ((oGuard (gB (gF (gC g0))) true (pB (pF (pF p0))) (o2 (vEqf false true [1, 1]) (gB (gF (gD g0))) (gB (gF (gE g0))) (pB (pF (pF p0))))) <|
 ((oSlow K3.gt ⟨(some 110), none, (.p (.pick (.t 106) (.t 109) (.c (.bool false)))), false, []⟩ (pB (pF (pG p0)))) <|
 ((o1 vMov (gB (gF (gG g0))) (pB (pF (pH p0)))) <|
 ((oGuard (gB (gF (gH g0))) true (pB (pG (pA p0))) (o1 vMov (gA (gB (gC g0))) (pB (pG (pA p0))))) <|
 ((oGuard (gB (gF (gH g0))) true (pB (pG (pB p0))) (o2 vEql (gB (gG (gA g0))) (gK (.int .i64 0)) (pB (pG (pB p0))))) <|
 ((oSlow K3.gt ⟨(some 114), none, (.p (.pick (.t 111) (.t 113) (.c (.bool false)))), false, []⟩ (pB (pG (pC p0)))) <|
 ((o1 vMov (gB (gG (gC g0))) (pB (pG (pD p0)))) <|
 ((oGuard (gB (gG (gD g0))) true (pB (pG (pE p0))) (m1 (wLoadN 2) (gA (gB (gD g0))) (pB (pG (pE p0))))) <|
 ((oGuard (gB (gG (gD g0))) true (pB (pG (pF p0))) (oSlow K3.gt ⟨(some 117), (some (115, true)), (.p (.build [(.int .u8 0), (.int .i64 0)] [(0, 1, (.c (.int .u8 2))), (1, 1, (.c (.int .i64 5)))])), false, []⟩ (pB (pG (pF p0))))) <|
 ((oGuard (gB (gG (gD g0))) true (pB (pG (pG p0))) (o2 (vEqf false true [1, 1]) (gB (gG (gE g0))) (gB (gG (gF g0))) (pB (pG (pG p0))))) <|
 ((oSlow K3.gt ⟨(some 119), none, (.p (.pick (.t 115) (.t 118) (.c (.bool false)))), false, []⟩ (pB (pG (pH p0)))) <|
 ((o1 vMov (gB (gG (gH g0))) (pB (pH (pA p0)))) <|
 ((oGuard (gB (gH (gA g0))) true (pB (pH (pB p0))) (o1 vMov (gA (gB (gE g0))) (pB (pH (pB p0))))) <|
 ((oGuard (gB (gH (gA g0))) true (pB (pH (pC p0))) (o2 vEql (gB (gH (gB g0))) (gK (.int .i64 0)) (pB (pH (pC p0))))) <|
 ((oSlow K3.gt ⟨(some 123), none, (.p (.pick (.t 120) (.t 122) (.c (.bool false)))), false, []⟩ (pB (pH (pD p0)))) <|
 ((o1 vMov (gB (gH (gD g0))) (pB (pH (pE p0)))) <|
 ((oGuard (gB (gH (gE g0))) true (pB (pH (pF p0))) (m1 (wLoadN 2) (gA (gB (gF g0))) (pB (pH (pF p0))))) <|
 ((oGuard (gB (gH (gE g0))) true (pB (pH (pG p0))) (oSlow K3.gt ⟨(some 126), (some (124, true)), (.p (.build [(.int .u8 0), (.int .i64 0)] [(0, 1, (.c (.int .u8 4))), (1, 1, (.c (.int .i64 3)))])), false, []⟩ (pB (pH (pG p0))))) <|
 ((oGuard (gB (gH (gE g0))) true (pB (pH (pH p0))) (o2 (vEqf false true [1, 1]) (gB (gH (gF g0))) (gB (gH (gG g0))) (pB (pH (pH p0))))) <|
 ((oSlow K3.gt ⟨(some 128), none, (.p (.pick (.t 124) (.t 127) (.c (.bool false)))), false, []⟩ (pC (pA (pA p0)))) <|
 ((o1 vMov (gC (gA (gA g0))) (pC (pA (pB p0)))) <|
 ((oGuard (gC (gA (gB g0))) true (pC (pA (pC p0))) (o1 vMov (gA (gB (gG g0))) (pC (pA (pC p0))))) <|
 ((oGuard (gC (gA (gB g0))) true (pC (pA (pD p0))) (o2 vEql (gC (gA (gC g0))) (gK (.int .i64 0)) (pC (pA (pD p0))))) <|
 ((oSlow K3.gt ⟨(some 132), none, (.p (.pick (.t 129) (.t 131) (.c (.bool false)))), false, []⟩ (pC (pA (pE p0)))) <|
 ((o1 vMov (gC (gA (gE g0))) (pC (pA (pF p0)))) <|
 ((oGuard (gC (gA (gF g0))) true (pC (pA (pG p0))) (oCall 36 [(gK (.int .u8 0)), (gK (.int .i64 1)), (gK (.int .i64 0))] (pC (pA (pG p0))))) <|
 ((oGuard (gC (gA (gF g0))) true (pC (pA (pH p0))) (oCall 34 [(gC (gA (gG g0)))] (pC (pA (pH p0))))) <|
 ((oGuard (gC (gA (gF g0))) true (pC (pB (pA p0))) (o2 vEql (gC (gA (gH g0))) (gK (.int .i64 1)) (pC (pB (pA p0))))) <|
 ((oSlow K3.gt ⟨(some 137), none, (.p (.pick (.t 133) (.t 136) (.c (.bool false)))), false, []⟩ (pC (pB (pB p0)))) <|
 ((o1 vMov (gC (gB (gB g0))) (pC (pB (pC p0)))) <|
 ((oGuard (gC (gB (gC g0))) true (pC (pB (pD p0))) (o1 vMov (gA (gC (gA g0))) (pC (pB (pD p0))))) <|
 ((oGuard (gC (gB (gC g0))) true (pC (pB (pE p0))) (o2 vEql (gC (gB (gD g0))) (gK (.int .i64 4)) (pC (pB (pE p0))))) <|
 ((oSlow K3.gt ⟨(some 141), none, (.p (.pick (.t 138) (.t 140) (.c (.bool false)))), false, []⟩ (pC (pB (pF p0)))) <|
 ((o1 vMov (gC (gB (gF g0))) (pC (pB (pG p0)))) <|
 ((oGuard (gC (gB (gG g0))) true (pC (pB (pH p0))) (o1 vMov (gA (gC (gC g0))) (pC (pB (pH p0))))) <|
 ((oGuard (gC (gB (gG g0))) true (pC (pC (pA p0))) (o2 vEql (gC (gB (gH g0))) (gK (.int .i64 3)) (pC (pC (pA p0))))) <|
 ((oSlow K3.gt ⟨(some 145), none, (.p (.pick (.t 142) (.t 144) (.c (.bool false)))), false, []⟩ (pC (pC (pB p0)))) <|
 ((o1 vMov (gC (gC (gB g0))) (pC (pC (pC p0)))) <|
 ((oGuard (gC (gC (gC g0))) true (pC (pC (pD p0))) (oCall 17 [] (pC (pC (pD p0))))) <|
 ((oGuard (gC (gC (gC g0))) true (pC (pC (pE p0))) (oCall 36 [(gK (.int .u8 0)), (gK (.int .i64 0)), (gK (.int .i64 0))] (pC (pC (pE p0))))) <|
 ((oGuard (gC (gC (gC g0))) true (pC (pC (pF p0))) (o2 (vEqf false true [1, 1, 1]) (gC (gC (gD g0))) (gC (gC (gE g0))) (pC (pC (pF p0))))) <|
 ((oSlow K3.gt ⟨(some 150), none, (.p (.pick (.t 146) (.t 149) (.c (.bool false)))), false, []⟩ (pC (pC (pG p0)))) <|
 ((o1 vMov (gC (gC (gG g0))) (pA (pA (pA p0)))) <|
 oEnd))))))))))))))))))))))))))))))))))))))))))))))))))))))))))))))))) (cExit 0))))))))))))) [(rT (gA (gA (gA g0))))]
theorem u14_ok : denA k14 = u14 := dA3 rfl rfl rfl (dF rfl rfl rfl (dS (dR (dc rfl dn)) (dS (dS (dR (dc rfl (dc rfl (dc rfl (dc rfl (dc (by kernel_rfl) (dc (by kernel_rfl) (dc (by kernel_rfl) (dc (by kernel_rfl) (dc rfl (dc (by kernel_rfl) (dc (by kernel_rfl) (dc (by kernel_rfl) (dc (by kernel_rfl) (dc rfl (dc (by kernel_rfl) (dc (by kernel_rfl) (dc (by kernel_rfl) (dc (by kernel_rfl) dn))))))))))))))))))) (dI rfl rfl (dS (dR (dc rfl dn)) dT) dK)) (dS (dR (dc rfl (dc rfl (dc rfl (dc rfl (dc rfl (dc rfl (dc (by kernel_rfl) (dc rfl (dc rfl dn)))))))))) (dS (dR (dc rfl (dc rfl (dc rfl (dc rfl (dc rfl (dc rfl (dc (by kernel_rfl) (dc rfl (dc rfl dn)))))))))) (dS (dR (dc rfl (dc rfl (dc rfl (dc rfl (dc rfl (dc rfl (dc (by kernel_rfl) (dc rfl (dc rfl dn)))))))))) (dS (dR (dc rfl (dc rfl (dc rfl (dc rfl (dc rfl (dc (by kernel_rfl) (dc rfl (dc rfl dn))))))))) (dS (dR (dc rfl (dc (by kernel_rfl) (dc rfl (dc rfl (dc rfl (dc rfl (dc (by kernel_rfl) (dc rfl (dc rfl dn)))))))))) (dS (dR (dc rfl (dc (by kernel_rfl) (dc rfl (dc rfl (dc rfl (dc rfl (dc (by kernel_rfl) (dc rfl (dc rfl dn)))))))))) (dS (dR (dc rfl (dc (by kernel_rfl) (dc rfl (dc rfl (dc rfl (dc rfl (dc (by kernel_rfl) (dc rfl (dc rfl dn)))))))))) (dS (dR (dc rfl (dc rfl (dc rfl (dc rfl (dc (by kernel_rfl) (dc rfl (dc rfl dn)))))))) (dS (dR (dc rfl (dc rfl (dc rfl (dc rfl (dc rfl (dc rfl (dc (by kernel_rfl) (dc rfl (dc rfl dn)))))))))) (dS (dR (dc rfl (dc rfl (dc rfl (dc rfl (dc (by kernel_rfl) (dc (by kernel_rfl) (dc (by kernel_rfl) (dc (by kernel_rfl) (dc rfl (dc (by kernel_rfl) (dc (by kernel_rfl) (dc (by kernel_rfl) (dc (by kernel_rfl) (dc rfl (dc (by kernel_rfl) (dc (by kernel_rfl) (dc (by kernel_rfl) (dc (by kernel_rfl) (dc rfl (dc (by kernel_rfl) (dc (by kernel_rfl) (dc (by kernel_rfl) (dc (by kernel_rfl) (dc rfl (dc (by kernel_rfl) (dc (by kernel_rfl) (dc (by kernel_rfl) (dc rfl (dc (by kernel_rfl) (dc (by kernel_rfl) (dc (by kernel_rfl) (dc (by kernel_rfl) (dc rfl (dc (by kernel_rfl) (dc (by kernel_rfl) (dc (by kernel_rfl) (dc rfl (dc (by kernel_rfl) (dc (by kernel_rfl) (dc (by kernel_rfl) (dc (by kernel_rfl) (dc rfl (dc (by kernel_rfl) (dc (by kernel_rfl) (dc (by kernel_rfl) (dc rfl (dc (by kernel_rfl) (dc (by kernel_rfl) (dc (by kernel_rfl) (dc (by kernel_rfl) (dc rfl (dc (by kernel_rfl) (dc (by kernel_rfl) (dc (by kernel_rfl) (dc rfl (dc (by kernel_rfl) (dc (by kernel_rfl) (dc (by kernel_rfl) (dc rfl (dc (by kernel_rfl) (dc (by kernel_rfl) (dc (by kernel_rfl) (dc (by kernel_rfl) (dc rfl dn))))))))))))))))))))))))))))))))))))))))))))))))))))))))))))))))) dT)))))))))))))
/-- crimp/moves.Then -/
def u15 : Fu := fn K2.z [(pA (pA p0)), (pA (pB p0)), (pA (pC p0)), (pA (pD p0)), (pA (pE p0)), (pA (pF p0)), (pA (pG p0)), (pA (pH p0)), (pB (pA p0)), (pB (pB p0)), (pB (pC p0)), (pB (pD p0))] (cSeq (cReg ((m1 wBox (gA (gA g0)) (pA (pC p0))) <|
 ((m1 wBox (gA (gB g0)) (pA (pD p0))) <|
 ((oAlloc [(.int .u8 0), (.int .i64 0), (.int .i64 0)] (pA (pE p0))) <|
 ((o1 vMov (gK (.int .i64 0)) (pA (pF p0))) <|
 oEnd))))) (cSeq (cSeq (cReg ((m1 (wLoadN 3) (gA (gC g0)) (pB (pA p0))) <|
 ((oCall 34 [(gB (gA g0))] (pB (pB p0))) <|
 ((o2 vNeq (gB (gB g0)) (gK (.int .i64 0)) (pB (pC p0))) <|
 ((o1 vMov (gB (gC g0)) (pB (pD p0))) <|
 ((oGuard (gB (gD g0)) false (pB (pE p0)) (m1 (wLoadN 3) (gA (gD g0)) (pB (pE p0)))) <|
 ((oGuard (gB (gD g0)) false (pB (pF p0)) (oCall 34 [(gB (gE g0))] (pB (pF p0)))) <|
 ((oGuard (gB (gD g0)) false (pB (pG p0)) (o2 vNeq (gB (gF g0)) (gK (.int .i64 0)) (pB (pG p0)))) <|
 ((oSlow K2.gt ⟨(some 15), none, (.p (.pick (.t 11) (.c (.bool true)) (.t 14))), false, []⟩ (pB (pH p0))) <|
 oEnd))))))))) (cIf (gB (gH g0)) (cSeq (cReg ((oSlow K2.gt ⟨(some 16), none, (.p (.build [(.int .u8 0), (.int .i64 0), (.int .i64 0)] [])), false, []⟩ (pC (pA p0))) <|
 ((oStore 3 (gA (gE g0)) (gC (gA g0))) <|
 ((o1 vMov (gK (.int .i64 1)) (pA (pF p0))) <|
 oEnd)))) (cExit 0)) cSkip)) (cSeq (cReg ((o1 vFad0 (gA (gD g0)) (pC (pC p0))) <|
 ((m1 wLoad1 (gC (gC g0)) (pC (pD p0))) <|
 ((o2 (vIadA 8 4) (gK (.ptr 0 0)) (gC (gD g0)) (pC (pE p0))) <|
 ((m1 (wLoadN 4) (gC (gE g0)) (pC (pF p0))) <|
 ((o1 (vFad 1) (gA (gC g0)) (pC (pG p0))) <|
 ((m1 wLoad1 (gC (gG g0)) (pC (pH p0))) <|
 ((o1 (vFad 2) (gA (gC g0)) (pD (pA p0))) <|
 ((m1 wLoad1 (gD (gA g0)) (pD (pB p0))) <|
 ((oCall 37 [(gC (gF g0)), (gC (gH g0)), (gD (gB g0))] (pD (pC p0))) <|
 ((o1 vMov (gD (gC g0)) (pC (pB p0))) <|
 ((o1 (vExt 0) (gC (gB g0)) (pD (pD p0))) <|
 ((o1 (vExt 1) (gC (gB g0)) (pD (pE p0))) <|
 ((o1 vMov (gD (gD g0)) (pA (pG p0))) <|
 ((o1 vMov (gD (gE g0)) (pA (pH p0))) <|
 oEnd))))))))))))))) (cSeq (cReg ((o1 vFad0 (gA (gC g0)) (pD (pF p0))) <|
 ((m1 wLoad1 (gD (gF g0)) (pD (pG p0))) <|
 ((o2 (vIadA 8 4) (gK (.ptr 0 0)) (gD (gG g0)) (pD (pH p0))) <|
 ((m1 (wLoadN 4) (gD (gH g0)) (pE (pA p0))) <|
 ((o1 vFad0 (gA (gD g0)) (pE (pB p0))) <|
 ((m1 wLoad1 (gE (gB g0)) (pE (pC p0))) <|
 ((o2 (vIadA 8 4) (gK (.ptr 0 0)) (gE (gC g0)) (pE (pD p0))) <|
 ((m1 (wLoadN 4) (gE (gD g0)) (pE (pE p0))) <|
 ((oCallQ 41 [(gE (gA g0)), (gE (gE g0))] (pE (pF p0))) <|
 ((oCallQ 39 [(gE (gF g0))] (pE (pG p0))) <|
 ((o1 vMov (gA (gG g0)) (pE (pH p0))) <|
 ((o1 (vFad 1) (gA (gD g0)) (pF (pA p0))) <|
 ((m1 wLoad1 (gF (gA g0)) (pF (pB p0))) <|
 ((o2 vAdd (gE (gH g0)) (gF (gB g0)) (pF (pC p0))) <|
 ((o1 vMov (gA (gH g0)) (pF (pD p0))) <|
 ((o1 (vFad 2) (gA (gD g0)) (pF (pE p0))) <|
 ((m1 wLoad1 (gF (gE g0)) (pF (pF p0))) <|
 ((o2 vAdd (gF (gD g0)) (gF (gF g0)) (pF (pG p0))) <|
 ((oSlow K2.gt ⟨(some 47), none, (.p (.build [(.int .u8 0), (.int .i64 0), (.int .i64 0)] [(0, 1, (.t 38)), (1, 1, (.t 42)), (2, 1, (.t 46))])), false, []⟩ (pF (pH p0))) <|
 ((oCall 38 [(gF (gH g0))] (pG (pA p0))) <|
 ((o1 (vExt 0) (gG (gA g0)) (pG (pB p0))) <|
 ((o1 (vExt 1) (gG (gA g0)) (pG (pC p0))) <|
 ((oStore 3 (gA (gE g0)) (gG (gB g0))) <|
 ((o1 vMov (gG (gC g0)) (pA (pF p0))) <|
 oEnd))))))))))))))))))))))))) (cExit 0))))) [(rA 3 (gA (gE g0))), (rT (gA (gF g0)))]
theorem u15_ok : denA k15 = u15 := dA2 rfl rfl (dF rfl rfl rfl (dS (dR (dc rfl (dc rfl (dc (by kernel_rfl) (dc rfl dn))))) (dS (dS (dR (dc rfl (dc rfl (dc rfl (dc rfl (dc (by kernel_rfl) (dc (by kernel_rfl) (dc (by kernel_rfl) (dc (by kernel_rfl) dn))))))))) (dI rfl rfl (dS (dR (dc (by kernel_rfl) (dc rfl (dc rfl dn)))) dT) dK)) (dS (dR (dc rfl (dc rfl (dc rfl (dc rfl (dc rfl (dc rfl (dc rfl (dc rfl (dc rfl (dc rfl (dc rfl (dc rfl (dc rfl (dc rfl dn))))))))))))))) (dS (dR (dc rfl (dc rfl (dc rfl (dc rfl (dc rfl (dc rfl (dc rfl (dc rfl (dc rfl (dc rfl (dc rfl (dc rfl (dc rfl (dc rfl (dc rfl (dc rfl (dc rfl (dc rfl (dc (by kernel_rfl) (dc rfl (dc rfl (dc rfl (dc rfl (dc rfl dn))))))))))))))))))))))))) dT)))))
/-- crimp/moves.Identity -/
def u17 : Fu := fn K1.z [(pA p0), (pB p0)] (cSeq (cReg ((oAlloc [(.int .u8 0), (.int .i64 0), (.int .i64 0)] (pA p0)) <|
 oEnd)) (cSeq (cReg ((oSlow K1.gt ⟨(some 1), none, (.p (.build [(.int .u8 0), (.int .i64 0), (.int .i64 0)] [])), false, []⟩ (pB p0)) <|
 ((oStore 3 (gA g0) (gB g0)) <|
 oEnd))) (cExit 0))) [(rA 3 (gA g0))]
theorem u17_ok : denA k17 = u17 := dA1 rfl (dF rfl rfl rfl (dS (dR (dc (by kernel_rfl) dn)) (dS (dR (dc (by kernel_rfl) (dc rfl dn))) dT)))
/-- crimp/moves.Point -/
def u18 : Fu := fn K2.z [(pA (pA p0)), (pA (pB p0)), (pA (pC p0)), (pA (pD p0)), (pA (pE p0)), (pA (pF p0)), (pA (pG p0)), (pA (pH p0)), (pB (pA p0)), (pB (pB p0)), (pB (pC p0)), (pB (pD p0))] (cSeq (cReg ((m1 wBox (gA (gA g0)) (pA (pC p0))) <|
 ((m1 wBox (gA (gB g0)) (pA (pD p0))) <|
 ((oAlloc [(.int .i64 0), (.int .i64 0)] (pA (pE p0))) <|
 ((o1 vMov (gK (.int .i64 0)) (pA (pF p0))) <|
 oEnd))))) (cSeq (cSeq (cReg ((m1 (wLoadN 3) (gA (gC g0)) (pB (pB p0))) <|
 ((oCall 34 [(gB (gB g0))] (pB (pC p0))) <|
 ((o2 vNeq (gB (gC g0)) (gK (.int .i64 0)) (pB (pD p0))) <|
 ((o1 vMov (gB (gD g0)) (pB (pE p0))) <|
 ((oGuard (gB (gE g0)) false (pB (pF p0)) (m1 (wLoadN 2) (gA (gD g0)) (pB (pF p0)))) <|
 ((oGuard (gB (gE g0)) false (pB (pG p0)) (oCall 42 [(gB (gF g0))] (pB (pG p0)))) <|
 ((oGuard (gB (gE g0)) false (pB (pH p0)) (o2 vNeq (gB (gG g0)) (gK (.int .i64 0)) (pB (pH p0)))) <|
 ((oSlow K2.gt ⟨(some 16), none, (.p (.pick (.t 12) (.c (.bool true)) (.t 15))), false, []⟩ (pC (pA p0))) <|
 oEnd))))))))) (cIf (gC (gA g0)) (cSeq (cReg ((oSlow K2.gt ⟨(some 17), none, (.p (.build [(.int .i64 0), (.int .i64 0)] [])), false, []⟩ (pC (pB p0))) <|
 ((oStore 2 (gA (gE g0)) (gC (gB g0))) <|
 ((o1 vMov (gK (.int .i64 1)) (pA (pF p0))) <|
 oEnd)))) (cExit 0)) cSkip)) (cSeq (cReg ((o1 vFad0 (gA (gC g0)) (pC (pD p0))) <|
 ((m1 wLoad1 (gC (gD g0)) (pC (pE p0))) <|
 ((o2 (vIadA 8 4) (gK (.ptr 0 0)) (gC (gE g0)) (pC (pF p0))) <|
 ((m1 (wLoadN 4) (gC (gF g0)) (pC (pG p0))) <|
 ((o1 vFad0 (gA (gD g0)) (pC (pH p0))) <|
 ((m1 wLoad1 (gC (gH g0)) (pD (pA p0))) <|
 ((o1 (vFad 1) (gA (gD g0)) (pD (pB p0))) <|
 ((m1 wLoad1 (gD (gB g0)) (pD (pC p0))) <|
 ((oCall 37 [(gC (gG g0)), (gD (gA g0)), (gD (gC g0))] (pD (pD p0))) <|
 ((o1 vMov (gD (gD g0)) (pC (pC p0))) <|
 ((o1 (vExt 0) (gC (gC g0)) (pD (pE p0))) <|
 ((o1 (vExt 1) (gC (gC g0)) (pD (pF p0))) <|
 ((o1 vMov (gD (gE g0)) (pA (pG p0))) <|
 ((o1 vMov (gD (gF g0)) (pA (pH p0))) <|
 oEnd))))))))))))))) (cSeq (cReg ((o1 vMov (gA (gG g0)) (pD (pG p0))) <|
 ((o1 (vFad 1) (gA (gC g0)) (pD (pH p0))) <|
 ((m1 wLoad1 (gD (gH g0)) (pE (pA p0))) <|
 ((o2 (vBin .mul) (gK (.int .i64 2)) (gE (gA g0)) (pE (pB p0))) <|
 ((o2 vAdd (gD (gG g0)) (gE (gB g0)) (pE (pC p0))) <|
 ((o1 vMov (gA (gH g0)) (pE (pD p0))) <|
 ((o1 (vFad 2) (gA (gC g0)) (pE (pE p0))) <|
 ((m1 wLoad1 (gE (gE g0)) (pE (pF p0))) <|
 ((o2 (vBin .mul) (gK (.int .i64 2)) (gE (gF g0)) (pE (pG p0))) <|
 ((o2 vAdd (gE (gD g0)) (gE (gG g0)) (pE (pH p0))) <|
 ((oSlow K2.gt ⟨(some 40), none, (.p (.build [(.int .i64 0), (.int .i64 0)] [(0, 1, (.t 34)), (1, 1, (.t 39))])), false, []⟩ (pF (pA p0))) <|
 ((oAlloc [(.int .i64 0), (.int .i64 0)] (pB (pA p0))) <|
 ((oStore 2 (gB (gA g0)) (gF (gA g0))) <|
 oEnd)))))))))))))) (cSeq (cSeq (cReg ((m1 (wLoadN 2) (gB (gA g0)) (pF (pB p0))) <|
 ((oCall 42 [(gF (gB g0))] (pF (pC p0))) <|
 ((o2 vNeq (gF (gC g0)) (gK (.int .i64 0)) (pF (pD p0))) <|
 oEnd)))) (cIf (gF (gD g0)) (cSeq (cReg ((oSlow K2.gt ⟨(some 44), none, (.p (.build [(.int .i64 0), (.int .i64 0)] [])), false, []⟩ (pF (pE p0))) <|
 ((oStore 2 (gA (gE g0)) (gF (gE g0))) <|
 ((o1 vMov (gK (.int .i64 3)) (pA (pF p0))) <|
 oEnd)))) (cExit 0)) cSkip)) (cSeq (cReg ((m1 (wLoadN 2) (gB (gA g0)) (pF (pF p0))) <|
 ((oStore 2 (gA (gE g0)) (gF (gF g0))) <|
 ((o1 vMov (gK (.int .i64 0)) (pA (pF p0))) <|
 oEnd)))) (cExit 0))))))) [(rA 2 (gA (gE g0))), (rT (gA (gF g0)))]
theorem u18_ok : denA k18 = u18 := dA2 rfl rfl (dF rfl rfl rfl (dS (dR (dc rfl (dc rfl (dc (by kernel_rfl) (dc rfl dn))))) (dS (dS (dR (dc rfl (dc rfl (dc rfl (dc rfl (dc (by kernel_rfl) (dc (by kernel_rfl) (dc (by kernel_rfl) (dc (by kernel_rfl) dn))))))))) (dI rfl rfl (dS (dR (dc (by kernel_rfl) (dc rfl (dc rfl dn)))) dT) dK)) (dS (dR (dc rfl (dc rfl (dc rfl (dc rfl (dc rfl (dc rfl (dc rfl (dc rfl (dc rfl (dc rfl (dc rfl (dc rfl (dc rfl (dc rfl dn))))))))))))))) (dS (dR (dc rfl (dc rfl (dc rfl (dc rfl (dc rfl (dc rfl (dc rfl (dc rfl (dc rfl (dc rfl (dc (by kernel_rfl) (dc (by kernel_rfl) (dc rfl dn)))))))))))))) (dS (dS (dR (dc rfl (dc rfl (dc rfl dn)))) (dI rfl rfl (dS (dR (dc (by kernel_rfl) (dc rfl (dc rfl dn)))) dT) dK)) (dS (dR (dc rfl (dc rfl (dc rfl dn)))) dT)))))))
/-- crimp/moves.Line -/
def u21 : Fu := fn K3.z [(pA (pA (pA p0))), (pA (pA (pB p0))), (pA (pA (pC p0))), (pA (pA (pD p0))), (pA (pA (pE p0))), (pA (pA (pF p0))), (pA (pA (pG p0))), (pA (pA (pH p0))), (pA (pB (pA p0))), (pA (pB (pB p0))), (pA (pB (pC p0))), (pA (pB (pD p0)))] (cSeq (cReg ((m1 wBox (gA (gA (gA g0))) (pA (pA (pC p0)))) <|
 ((m1 wBox (gA (gA (gB g0))) (pA (pA (pD p0)))) <|
 ((oAlloc [(.int .u8 0), (.int .i64 0)] (pA (pA (pE p0)))) <|
 ((o1 vMov (gK (.int .i64 0)) (pA (pA (pF p0)))) <|
 oEnd))))) (cSeq (cSeq (cReg ((m1 (wLoadN 3) (gA (gA (gC g0))) (pA (pB (pH p0)))) <|
 ((oCall 34 [(gA (gB (gH g0)))] (pA (pC (pA p0)))) <|
 ((o2 vNeq (gA (gC (gA g0))) (gK (.int .i64 0)) (pA (pC (pB p0)))) <|
 ((o1 vMov (gA (gC (gB g0))) (pA (pC (pC p0)))) <|
 ((oGuard (gA (gC (gC g0))) false (pA (pC (pD p0))) (m1 (wLoadN 2) (gA (gA (gD g0))) (pA (pC (pD p0))))) <|
 ((oGuard (gA (gC (gC g0))) false (pA (pC (pE p0))) (oCall 28 [(gA (gC (gD g0)))] (pA (pC (pE p0))))) <|
 ((oGuard (gA (gC (gC g0))) false (pA (pC (pF p0))) (o2 vNeq (gA (gC (gE g0))) (gK (.int .i64 0)) (pA (pC (pF p0))))) <|
 ((oSlow K3.gt ⟨(some 22), none, (.p (.pick (.t 18) (.c (.bool true)) (.t 21))), false, []⟩ (pA (pC (pG p0)))) <|
 oEnd))))))))) (cIf (gA (gC (gG g0))) (cSeq (cReg ((oSlow K3.gt ⟨(some 23), none, (.p (.build [(.int .u8 0), (.int .i64 0)] [])), false, []⟩ (pA (pC (pH p0)))) <|
 ((oStore 2 (gA (gA (gE g0))) (gA (gC (gH g0)))) <|
 ((o1 vMov (gK (.int .i64 1)) (pA (pA (pF p0)))) <|
 oEnd)))) (cExit 0)) cSkip)) (cSeq (cReg ((o1 vFad0 (gA (gA (gC g0))) (pA (pD (pA p0)))) <|
 ((m1 wLoad1 (gA (gD (gA g0))) (pA (pD (pB p0)))) <|
 ((o2 (vIadA 8 4) (gK (.ptr 0 0)) (gA (gD (gB g0))) (pA (pD (pC p0)))) <|
 ((m1 (wLoadN 4) (gA (gD (gC g0))) (pA (pD (pD p0)))) <|
 ((oSlow K3.gt ⟨(some 28), none, (.p (.mkfn (.func 37) [(.t 27)] [])), false, []⟩ (pA (pD (pE p0)))) <|
 ((o1 vMov (gA (gD (gE g0))) (pA (pA (pG p0)))) <|
 oEnd))))))) (cSeq (cReg ((o1 vMov (gA (gA (gG g0))) (pA (pD (pG p0)))) <|
 ((o1 vFad0 (gA (gA (gD g0))) (pA (pD (pH p0)))) <|
 ((m1 wLoad1 (gA (gD (gH g0))) (pA (pE (pA p0)))) <|
 ((oCall 43 [(gA (gE (gA g0)))] (pA (pE (pB p0)))) <|
 ((o1 (vExt 0) (gA (gE (gB g0))) (pA (pE (pC p0)))) <|
 ((o1 (vExt 1) (gA (gE (gB g0))) (pA (pE (pD p0)))) <|
 ((oCallD (gA (gD (gG g0))) [(gA (gE (gC g0))), (gA (gE (gD g0)))] (pA (pE (pE p0)))) <|
 ((o1 vMov (gA (gE (gE g0))) (pA (pD (pF p0)))) <|
 ((o1 (vExt 0) (gA (gD (gF g0))) (pA (pE (pF p0)))) <|
 ((o1 (vExt 1) (gA (gD (gF g0))) (pA (pE (pG p0)))) <|
 ((o1 vMov (gA (gE (gF g0))) (pA (pA (pH p0)))) <|
 ((o1 vMov (gA (gE (gG g0))) (pA (pB (pA p0)))) <|
 oEnd))))))))))))) (cSeq (cSeq (cReg ((o1 vMov (gK (.int .u8 1)) (pA (pB (pB p0)))) <|
 oEnd)) (cBlock 1 (cLoop (cSeq (cSeq (cReg ((o1 vMov (gA (gB (gB g0))) (pA (pE (pH p0)))) <|
 ((o2 vLeq (gA (gE (gH g0))) (gK (.int .u8 4)) (pA (pF (pA p0)))) <|
 oEnd))) (cIf (gA (gF (gA g0))) cSkip (cExit 1))) (cSeq (cBlock 2 (cSeq (cReg ((o1 vMov (gA (gB (gB g0))) (pA (pF (pE p0)))) <|
 ((oCall 43 [(gA (gF (gE g0)))] (pA (pF (pF p0)))) <|
 ((o1 vMov (gA (gF (gF g0))) (pA (pF (pD p0)))) <|
 ((o1 (vExt 0) (gA (gF (gD g0))) (pA (pF (pG p0)))) <|
 ((o1 (vExt 1) (gA (gF (gD g0))) (pA (pF (pH p0)))) <|
 ((o1 vMov (gA (gF (gG g0))) (pA (pB (pC p0)))) <|
 ((o1 vMov (gA (gF (gH g0))) (pA (pB (pD p0)))) <|
 oEnd)))))))) (cSeq (cReg ((oSlow K3.gt ⟨(some 48), none, (.h (.bsl 1 2 [(.int .i64 0), (.int .i64 0)] [(0, 1, (.c (.int .i64 1))), (1, 1, (.c (.int .i64 (-1))))])), false, []⟩ (pA (pG (pA p0)))) <|
 ((o1 vLen (gA (gG (gA g0))) (pA (pG (pB p0)))) <|
 ((o1 vMov (gK (.int .i64 0)) (pA (pG (pC p0)))) <|
 oEnd)))) (cBlock 3 (cLoop (cSeq (cReg ((o2 vLss (gA (gG (gC g0))) (gA (gG (gB g0))) (pA (pG (pD p0)))) <|
 oEnd)) (cSeq (cIf (gA (gG (gD g0))) cSkip (cExit 3)) (cSeq (cBlock 4 (cSeq (cReg ((o2 (vIadS 1) (gA (gG (gA g0))) (gA (gG (gC g0))) (pA (pG (pE p0)))) <|
 ((m1 wLoad1 (gA (gG (gE g0))) (pA (pG (pF p0)))) <|
 ((o1 vMov (gA (gG (gF g0))) (pA (pB (pF p0)))) <|
 oEnd)))) (cSeq (cReg ((o1 vMov (gA (gA (gH g0))) (pA (pG (pG p0)))) <|
 ((o1 vMov (gA (gB (gF g0))) (pA (pG (pH p0)))) <|
 ((o1 vMov (gA (gB (gC g0))) (pA (pH (pA p0)))) <|
 ((o2 (vBin .mul) (gA (gG (gH g0))) (gA (gH (gA g0))) (pA (pH (pB p0)))) <|
 ((o2 vEql (gA (gG (gG g0))) (gA (gH (gB g0))) (pA (pH (pC p0)))) <|
 ((o1 vMov (gA (gH (gC g0))) (pA (pH (pD p0)))) <|
 ((oGuard (gA (gH (gD g0))) true (pA (pH (pE p0))) (o1 vMov (gA (gB (gA g0))) (pA (pH (pE p0))))) <|
 ((oGuard (gA (gH (gD g0))) true (pA (pH (pF p0))) (o1 vMov (gA (gB (gF g0))) (pA (pH (pF p0))))) <|
 ((oGuard (gA (gH (gD g0))) true (pA (pH (pG p0))) (o1 vMov (gA (gB (gD g0))) (pA (pH (pG p0))))) <|
 ((oGuard (gA (gH (gD g0))) true (pA (pH (pH p0))) (o2 (vBin .mul) (gA (gH (gF g0))) (gA (gH (gG g0))) (pA (pH (pH p0))))) <|
 ((oGuard (gA (gH (gD g0))) true (pB (pA (pA p0))) (o2 vEql (gA (gH (gE g0))) (gA (gH (gH g0))) (pB (pA (pA p0))))) <|
 ((oSlow K3.gt ⟨(some 65), none, (.p (.pick (.t 59) (.t 64) (.c (.bool false)))), false, []⟩ (pB (pA (pB p0)))) <|
 oEnd))))))))))))) (cIf (gB (gA (gB g0))) (cSeq (cReg ((o1 vMov (gA (gB (gB g0))) (pB (pA (pC p0)))) <|
 ((o1 vMov (gA (gB (gF g0))) (pB (pA (pD p0)))) <|
 ((o1 (vFad 1) (gA (gA (gD g0))) (pB (pA (pE p0)))) <|
 ((m1 wLoad1 (gB (gA (gE g0))) (pB (pA (pF p0)))) <|
 ((o2 (vBin .mul) (gB (gA (gD g0))) (gB (gA (gF g0))) (pB (pA (pG p0)))) <|
 ((o1 vMov (gA (gB (gC g0))) (pB (pA (pH p0)))) <|
 ((o1 (vFad 1) (gA (gA (gC g0))) (pB (pB (pA p0)))) <|
 ((m1 wLoad1 (gB (gB (gA g0))) (pB (pB (pB p0)))) <|
 ((o2 (vBin .mul) (gB (gA (gH g0))) (gB (gB (gB g0))) (pB (pB (pC p0)))) <|
 ((o2 vAdd (gB (gA (gG g0))) (gB (gB (gC g0))) (pB (pB (pD p0)))) <|
 ((o1 vMov (gA (gB (gD g0))) (pB (pB (pE p0)))) <|
 ((o1 (vFad 2) (gA (gA (gC g0))) (pB (pB (pF p0)))) <|
 ((m1 wLoad1 (gB (gB (gF g0))) (pB (pB (pG p0)))) <|
 ((o2 (vBin .mul) (gB (gB (gE g0))) (gB (gB (gG g0))) (pB (pB (pH p0)))) <|
 ((o2 vAdd (gB (gB (gD g0))) (gB (gB (gH g0))) (pB (pC (pA p0)))) <|
 ((oSlow K3.gt ⟨(some 81), none, (.p (.build [(.int .u8 0), (.int .i64 0)] [(0, 1, (.t 66)), (1, 1, (.t 80))])), false, []⟩ (pB (pC (pB p0)))) <|
 ((oAlloc [(.int .u8 0), (.int .i64 0)] (pA (pB (pG p0)))) <|
 ((oStore 2 (gA (gB (gG g0))) (gB (gC (gB g0)))) <|
 oEnd))))))))))))))))))) (cSeq (cSeq (cReg ((m1 (wLoadN 2) (gA (gB (gG g0))) (pB (pC (pC p0)))) <|
 ((oCall 28 [(gB (gC (gC g0)))] (pB (pC (pD p0)))) <|
 ((o2 vNeq (gB (gC (gD g0))) (gK (.int .i64 0)) (pB (pC (pE p0)))) <|
 oEnd)))) (cIf (gB (gC (gE g0))) (cSeq (cReg ((oSlow K3.gt ⟨(some 85), none, (.p (.build [(.int .u8 0), (.int .i64 0)] [])), false, []⟩ (pB (pC (pF p0)))) <|
 ((oStore 2 (gA (gA (gE g0))) (gB (gC (gF g0)))) <|
 ((o1 vMov (gK (.int .i64 3)) (pA (pA (pF p0)))) <|
 oEnd)))) (cExit 0)) cSkip)) (cSeq (cReg ((m1 (wLoadN 2) (gA (gB (gG g0))) (pB (pC (pG p0)))) <|
 ((oStore 2 (gA (gA (gE g0))) (gB (gC (gG g0)))) <|
 ((o1 vMov (gK (.int .i64 0)) (pA (pA (pF p0)))) <|
 oEnd)))) (cExit 0)))) cSkip)))) (cReg ((o2 vAdd (gA (gG (gC g0))) (gK (.int .i64 1)) (pB (pC (pH p0)))) <|
 ((o1 vMov (gB (gC (gH g0))) (pA (pG (pC p0)))) <|
 oEnd))))))))))) (cReg ((o1 vMov (gA (gB (gB g0))) (pA (pF (pB p0)))) <|
 ((o2 vAdd (gA (gF (gB g0))) (gK (.int .u8 1)) (pA (pF (pC p0)))) <|
 ((o1 vMov (gA (gF (gC g0))) (pA (pB (pB p0)))) <|
 oEnd))))))))) (cSeq (cReg ((oSlow K3.gt ⟨(some 88), none, (.p (.build [(.int .u8 0), (.int .i64 0)] [])), false, []⟩ (pB (pD (pA p0)))) <|
 ((oStore 2 (gA (gA (gE g0))) (gB (gD (gA g0)))) <|
 ((o1 vMov (gK (.int .i64 3)) (pA (pA (pF p0)))) <|
 oEnd)))) (cExit 0))))))) [(rA 2 (gA (gA (gE g0)))), (rT (gA (gA (gF g0))))]
theorem u21_ok : denA k21 = u21 := dA3 rfl rfl rfl (dF rfl rfl rfl (dS (dR (dc rfl (dc rfl (dc (by kernel_rfl) (dc rfl dn))))) (dS (dS (dR (dc rfl (dc rfl (dc rfl (dc rfl (dc (by kernel_rfl) (dc (by kernel_rfl) (dc (by kernel_rfl) (dc (by kernel_rfl) dn))))))))) (dI rfl rfl (dS (dR (dc (by kernel_rfl) (dc rfl (dc rfl dn)))) dT) dK)) (dS (dR (dc rfl (dc rfl (dc rfl (dc rfl (dc (by kernel_rfl) (dc rfl dn))))))) (dS (dR (dc rfl (dc rfl (dc rfl (dc rfl (dc rfl (dc rfl (dc rfl (dc rfl (dc rfl (dc rfl (dc rfl (dc rfl dn))))))))))))) (dS (dS (dR (dc rfl dn)) (dB (dL (dS (dS (dR (dc rfl (dc rfl dn))) (dI rfl rfl dK dX)) (dS (dB (dS (dR (dc rfl (dc rfl (dc rfl (dc rfl (dc rfl (dc rfl (dc rfl dn)))))))) (dS (dR (dc (by kernel_rfl) (dc rfl (dc rfl dn)))) (dB (dL (dS (dR (dc rfl dn)) (dS (dI rfl rfl dK dX) (dS (dB (dS (dR (dc rfl (dc rfl (dc rfl dn)))) (dS (dR (dc rfl (dc rfl (dc rfl (dc rfl (dc rfl (dc rfl (dc (by kernel_rfl) (dc (by kernel_rfl) (dc (by kernel_rfl) (dc (by kernel_rfl) (dc (by kernel_rfl) (dc (by kernel_rfl) dn))))))))))))) (dI rfl rfl (dS (dR (dc rfl (dc rfl (dc rfl (dc rfl (dc rfl (dc rfl (dc rfl (dc rfl (dc rfl (dc rfl (dc rfl (dc rfl (dc rfl (dc rfl (dc rfl (dc (by kernel_rfl) (dc (by kernel_rfl) (dc rfl dn))))))))))))))))))) (dS (dS (dR (dc rfl (dc rfl (dc rfl dn)))) (dI rfl rfl (dS (dR (dc (by kernel_rfl) (dc rfl (dc rfl dn)))) dT) dK)) (dS (dR (dc rfl (dc rfl (dc rfl dn)))) dT))) dK)))) (dR (dc rfl (dc rfl dn))))))))))) (dR (dc rfl (dc rfl (dc rfl dn))))))))) (dS (dR (dc (by kernel_rfl) (dc rfl (dc rfl dn)))) dT)))))))
/-- crimp/moves.Of -/
def u26 : Fu := fn K2.z [(pA (pA p0)), (pA (pB p0)), (pA (pC p0)), (pA (pD p0)), (pA (pE p0)), (pA (pF p0)), (pA (pG p0)), (pA (pH p0)), (pB (pA p0)), (pB (pB p0)), (pB (pC p0)), (pB (pD p0))] (cSeq (cReg ((m1 wBox (gA (gA g0)) (pA (pB p0))) <|
 ((oAlloc [(.int .u8 0), (.int .i64 0), (.int .i64 0)] (pA (pC p0))) <|
 ((o1 vMov (gK (.int .i64 0)) (pA (pD p0))) <|
 oEnd)))) (cSeq (cSeq (cReg ((m1 (wLoadN 2) (gA (gB g0)) (pA (pE p0))) <|
 ((oCall 28 [(gA (gE g0))] (pA (pF p0))) <|
 ((o2 vNeq (gA (gF g0)) (gK (.int .i64 0)) (pA (pG p0))) <|
 oEnd)))) (cIf (gA (gG g0)) (cSeq (cReg ((oSlow K2.gt ⟨(some 7), none, (.p (.build [(.int .u8 0), (.int .i64 0), (.int .i64 0)] [])), false, []⟩ (pA (pH p0))) <|
 ((oStore 3 (gA (gC g0)) (gA (gH g0))) <|
 ((o1 vMov (gK (.int .i64 1)) (pA (pD p0))) <|
 oEnd)))) (cExit 0)) cSkip)) (cSeq (cSeq (cReg ((o1 vFad0 (gA (gB g0)) (pB (pA p0))) <|
 ((m1 wLoad1 (gB (gA g0)) (pB (pB p0))) <|
 oEnd))) (cBlock 1 (cSeq (cReg ((o2 vEql (gB (gB g0)) (gK (.int .u8 1)) (pB (pD p0))) <|
 ((o1 vMov (gB (gD g0)) (pB (pC p0))) <|
 oEnd))) (cIf (gB (gC g0)) (cSeq (cReg ((o1 (vFad 1) (gA (gB g0)) (pB (pE p0))) <|
 ((m1 wLoad1 (gB (gE g0)) (pB (pF p0))) <|
 ((o2 (vBin .mul) (gK (.int .i64 2)) (gB (gF g0)) (pB (pG p0))) <|
 ((oSlow K2.gt ⟨(some 15), none, (.p (.build [(.int .u8 0), (.int .i64 0), (.int .i64 0)] [(0, 1, (.c (.int .u8 4))), (1, 1, (.t 14)), (2, 1, (.c (.int .i64 0)))])), false, []⟩ (pB (pH p0))) <|
 ((oStore 3 (gA (gC g0)) (gB (gH g0))) <|
 ((o1 vMov (gK (.int .i64 0)) (pA (pD p0))) <|
 oEnd))))))) (cExit 0)) (cSeq (cReg ((o2 vEql (gB (gB g0)) (gK (.int .u8 2)) (pC (pB p0))) <|
 ((o1 vMov (gC (gB g0)) (pC (pA p0))) <|
 oEnd))) (cIf (gC (gA g0)) (cSeq (cReg ((o1 (vFad 1) (gA (gB g0)) (pC (pC p0))) <|
 ((m1 wLoad1 (gC (gC g0)) (pC (pD p0))) <|
 ((o2 (vBin .mul) (gK (.int .i64 2)) (gC (gD g0)) (pC (pE p0))) <|
 ((oSlow K2.gt ⟨(some 21), none, (.p (.build [(.int .u8 0), (.int .i64 0), (.int .i64 0)] [(0, 1, (.c (.int .u8 6))), (1, 1, (.c (.int .i64 0))), (2, 1, (.t 20))])), false, []⟩ (pC (pF p0))) <|
 ((oStore 3 (gA (gC g0)) (gC (gF g0))) <|
 ((o1 vMov (gK (.int .i64 0)) (pA (pD p0))) <|
 oEnd))))))) (cExit 0)) (cSeq (cReg ((o2 vEql (gB (gB g0)) (gK (.int .u8 3)) (pC (pH p0))) <|
 ((o1 vMov (gC (gH g0)) (pC (pG p0))) <|
 oEnd))) (cIf (gC (gG g0)) (cSeq (cReg ((o1 (vFad 1) (gA (gB g0)) (pD (pA p0))) <|
 ((m1 wLoad1 (gD (gA g0)) (pD (pB p0))) <|
 ((o1 (vFad 1) (gA (gB g0)) (pD (pC p0))) <|
 ((m1 wLoad1 (gD (gC g0)) (pD (pD p0))) <|
 ((oSlow K2.gt ⟨(some 28), none, (.p (.build [(.int .u8 0), (.int .i64 0), (.int .i64 0)] [(0, 1, (.c (.int .u8 5))), (1, 1, (.t 25)), (2, 1, (.t 27))])), false, []⟩ (pD (pE p0))) <|
 ((oStore 3 (gA (gC g0)) (gD (gE g0))) <|
 ((o1 vMov (gK (.int .i64 0)) (pA (pD p0))) <|
 oEnd)))))))) (cExit 0)) cSkip)))))))) (cSeq (cReg ((o1 (vFad 1) (gA (gB g0)) (pD (pF p0))) <|
 ((m1 wLoad1 (gD (gF g0)) (pD (pG p0))) <|
 ((oSlow K2.gt ⟨(some 31), none, (.p (.neg (.t 30))), false, []⟩ (pD (pH p0))) <|
 ((o1 (vFad 1) (gA (gB g0)) (pE (pA p0))) <|
 ((m1 wLoad1 (gE (gA g0)) (pE (pB p0))) <|
 ((oSlow K2.gt ⟨(some 34), none, (.p (.build [(.int .u8 0), (.int .i64 0), (.int .i64 0)] [(0, 1, (.c (.int .u8 7))), (1, 1, (.t 31)), (2, 1, (.t 33))])), false, []⟩ (pE (pC p0))) <|
 ((oStore 3 (gA (gC g0)) (gE (gC g0))) <|
 ((o1 vMov (gK (.int .i64 0)) (pA (pD p0))) <|
 oEnd))))))))) (cExit 0))))) [(rA 3 (gA (gC g0))), (rT (gA (gD g0)))]
theorem u26_ok : denA k26 = u26 := dA2 rfl rfl (dF rfl rfl rfl (dS (dR (dc rfl (dc (by kernel_rfl) (dc rfl dn)))) (dS (dS (dR (dc rfl (dc rfl (dc rfl dn)))) (dI rfl rfl (dS (dR (dc (by kernel_rfl) (dc rfl (dc rfl dn)))) dT) dK)) (dS (dS (dR (dc rfl (dc rfl dn))) (dB (dS (dR (dc rfl (dc rfl dn))) (dI rfl rfl (dS (dR (dc rfl (dc rfl (dc rfl (dc (by kernel_rfl) (dc rfl (dc rfl dn))))))) dT) (dS (dR (dc rfl (dc rfl dn))) (dI rfl rfl (dS (dR (dc rfl (dc rfl (dc rfl (dc (by kernel_rfl) (dc rfl (dc rfl dn))))))) dT) (dS (dR (dc rfl (dc rfl dn))) (dI rfl rfl (dS (dR (dc rfl (dc rfl (dc rfl (dc rfl (dc (by kernel_rfl) (dc rfl (dc rfl dn)))))))) dT) dK)))))))) (dS (dR (dc rfl (dc rfl (dc (by kernel_rfl) (dc rfl (dc rfl (dc (by kernel_rfl) (dc rfl (dc rfl dn))))))))) dT)))))
/-- crimp/lines.Check -/
def u28 : Fu := fn K2.z [(pA (pA p0)), (pA (pB p0)), (pA (pC p0)), (pA (pD p0)), (pA (pE p0)), (pA (pF p0)), (pA (pG p0)), (pA (pH p0)), (pB (pA p0)), (pB (pB p0)), (pB (pC p0)), (pB (pD p0))] (cSeq (cReg ((m1 wBox (gA (gA g0)) (pA (pB p0))) <|
 ((o1 vMov (gK (.int .i64 0)) (pA (pC p0))) <|
 oEnd))) (cSeq (cSeq (cReg ((o1 vFad0 (gA (gB g0)) (pA (pD p0))) <|
 ((m1 wLoad1 (gA (gD g0)) (pA (pE p0))) <|
 ((o2 vLss (gA (gE g0)) (gK (.int .u8 1)) (pA (pF p0))) <|
 ((o1 vMov (gA (gF g0)) (pA (pG p0))) <|
 ((oGuard (gA (gG g0)) false (pA (pH p0)) (o1 vFad0 (gA (gB g0)) (pA (pH p0)))) <|
 ((oGuard (gA (gG g0)) false (pB (pA p0)) (m1 wLoad1 (gA (gH g0)) (pB (pA p0)))) <|
 ((oGuard (gA (gG g0)) false (pB (pB p0)) (o2 vGtr (gB (gA g0)) (gK (.int .u8 4)) (pB (pB p0)))) <|
 ((oSlow K2.gt ⟨(some 10), none, (.p (.pick (.t 6) (.c (.bool true)) (.t 9))), false, []⟩ (pB (pC p0))) <|
 ((o1 vMov (gB (gC g0)) (pB (pD p0))) <|
 ((oGuard (gB (gD g0)) false (pB (pE p0)) (o1 (vFad 1) (gA (gB g0)) (pB (pE p0)))) <|
 ((oGuard (gB (gD g0)) false (pB (pF p0)) (m1 wLoad1 (gB (gE g0)) (pB (pF p0)))) <|
 ((oGuard (gB (gD g0)) false (pB (pG p0)) (o2 vLss (gB (gF g0)) (gK (.int .i64 (-4096))) (pB (pG p0)))) <|
 ((oSlow K2.gt ⟨(some 15), none, (.p (.pick (.t 11) (.c (.bool true)) (.t 14))), false, []⟩ (pB (pH p0))) <|
 ((o1 vMov (gB (gH g0)) (pC (pA p0))) <|
 ((oGuard (gC (gA g0)) false (pC (pB p0)) (o1 (vFad 1) (gA (gB g0)) (pC (pB p0)))) <|
 ((oGuard (gC (gA g0)) false (pC (pC p0)) (m1 wLoad1 (gC (gB g0)) (pC (pC p0)))) <|
 ((oGuard (gC (gA g0)) false (pC (pD p0)) (o2 vGtr (gC (gC g0)) (gK (.int .i64 4096)) (pC (pD p0)))) <|
 ((oSlow K2.gt ⟨(some 20), none, (.p (.pick (.t 16) (.c (.bool true)) (.t 19))), false, []⟩ (pC (pE p0))) <|
 oEnd))))))))))))))))))) (cIf (gC (gE g0)) (cSeq (cReg ((o1 vMov (gK (.int .i64 1)) (pA (pC p0))) <|
 oEnd)) (cExit 0)) cSkip)) (cSeq (cReg ((o1 vMov (gK (.int .i64 0)) (pA (pC p0))) <|
 oEnd)) (cExit 0)))) [(rT (gA (gC g0)))]
theorem u28_ok : denA k28 = u28 := dA2 rfl rfl (dF rfl rfl rfl (dS (dR (dc rfl (dc rfl dn))) (dS (dS (dR (dc rfl (dc rfl (dc rfl (dc rfl (dc (by kernel_rfl) (dc (by kernel_rfl) (dc (by kernel_rfl) (dc (by kernel_rfl) (dc rfl (dc (by kernel_rfl) (dc (by kernel_rfl) (dc (by kernel_rfl) (dc (by kernel_rfl) (dc rfl (dc (by kernel_rfl) (dc (by kernel_rfl) (dc (by kernel_rfl) (dc (by kernel_rfl) dn))))))))))))))))))) (dI rfl rfl (dS (dR (dc rfl dn)) dT) dK)) (dS (dR (dc rfl dn)) dT))))
/-- crimp/moves.Parse -/
def u30 : Fu := fn K2.z [(pA (pA p0)), (pA (pB p0)), (pA (pC p0)), (pA (pD p0)), (pA (pE p0)), (pA (pF p0)), (pA (pG p0)), (pA (pH p0)), (pB (pA p0)), (pB (pB p0)), (pB (pC p0)), (pB (pD p0))] (cSeq (cReg ((oAlloc [(.int .u8 0), (.int .i64 0), (.int .i64 0)] (pA (pC p0))) <|
 ((o1 vMov (gK (.int .i64 0)) (pA (pD p0))) <|
 oEnd))) (cSeq (cReg ((o1 vMov (gA (gA g0)) (pB (pE p0))) <|
 ((oCall 48 [(gB (gE g0)), (gK (.str [32]))] (pB (pF p0))) <|
 ((o1 vMov (gB (gF g0)) (pA (pE p0))) <|
 oEnd)))) (cSeq (cSeq (cReg ((o1 vMov (gA (gE g0)) (pB (pG p0))) <|
 ((o1 vLen (gB (gG g0)) (pB (pH p0))) <|
 ((o2 vNeq (gB (gH g0)) (gK (.int .i64 3)) (pC (pA p0))) <|
 oEnd)))) (cIf (gC (gA g0)) (cSeq (cReg ((oSlow K2.gt ⟨(some 17), none, (.p (.build [(.int .u8 0), (.int .i64 0), (.int .i64 0)] [])), false, []⟩ (pC (pB p0))) <|
 ((oStore 3 (gA (gC g0)) (gC (gB g0))) <|
 ((o1 vMov (gK (.int .i64 4)) (pA (pD p0))) <|
 oEnd)))) (cExit 0)) cSkip)) (cSeq (cReg ((o1 vMov (gA (gE g0)) (pC (pD p0))) <|
 ((o2 (vIadS 1) (gC (gD g0)) (gK (.int .i64 0)) (pC (pE p0))) <|
 ((m1 wLoad1 (gC (gE g0)) (pC (pF p0))) <|
 ((oCall 49 [(gC (gF g0)), (gK (.int .i64 10)), (gK (.int .i64 8))] (pC (pG p0))) <|
 ((o1 vMov (gC (gG g0)) (pC (pC p0))) <|
 ((o1 (vExt 0) (gC (gC g0)) (pC (pH p0))) <|
 ((o1 (vExt 1) (gC (gC g0)) (pD (pA p0))) <|
 ((o1 vMov (gC (gH g0)) (pA (pF p0))) <|
 ((o1 vMov (gD (gA g0)) (pA (pG p0))) <|
 oEnd)))))))))) (cSeq (cReg ((o1 vMov (gA (gE g0)) (pD (pC p0))) <|
 ((o2 (vIadS 1) (gD (gC g0)) (gK (.int .i64 1)) (pD (pD p0))) <|
 ((m1 wLoad1 (gD (gD g0)) (pD (pE p0))) <|
 ((oCall 50 [(gD (gE g0))] (pD (pF p0))) <|
 ((o1 vMov (gD (gF g0)) (pD (pB p0))) <|
 ((o1 (vExt 0) (gD (gB g0)) (pD (pG p0))) <|
 ((o1 (vExt 1) (gD (gB g0)) (pD (pH p0))) <|
 ((o1 vMov (gD (gG g0)) (pA (pH p0))) <|
 ((o1 vMov (gD (gH g0)) (pB (pA p0))) <|
 oEnd)))))))))) (cSeq (cReg ((o1 vMov (gA (gE g0)) (pE (pB p0))) <|
 ((o2 (vIadS 1) (gE (gB g0)) (gK (.int .i64 2)) (pE (pC p0))) <|
 ((m1 wLoad1 (gE (gC g0)) (pE (pD p0))) <|
 ((oCall 50 [(gE (gD g0))] (pE (pE p0))) <|
 ((o1 vMov (gE (gE g0)) (pE (pA p0))) <|
 ((o1 (vExt 0) (gE (gA g0)) (pE (pF p0))) <|
 ((o1 (vExt 1) (gE (gA g0)) (pE (pG p0))) <|
 ((o1 vMov (gE (gF g0)) (pB (pB p0))) <|
 ((o1 vMov (gE (gG g0)) (pB (pC p0))) <|
 oEnd)))))))))) (cSeq (cReg ((o1 vMov (gA (gF g0)) (pE (pH p0))) <|
 ((o1 (vCvi .u8) (gE (gH g0)) (pF (pA p0))) <|
 ((o1 vMov (gA (gH g0)) (pF (pB p0))) <|
 ((o1 vMov (gB (gB g0)) (pF (pC p0))) <|
 ((oSlow K2.gt ⟨(some 43), none, (.p (.build [(.int .u8 0), (.int .i64 0), (.int .i64 0)] [(0, 1, (.t 40)), (1, 1, (.t 41)), (2, 1, (.t 42))])), false, []⟩ (pF (pD p0))) <|
 ((oAlloc [(.int .u8 0), (.int .i64 0), (.int .i64 0)] (pB (pD p0))) <|
 ((oStore 3 (gB (gD g0)) (gF (gD g0))) <|
 oEnd)))))))) (cSeq (cSeq (cReg ((o1 vMov (gA (gG g0)) (pF (pE p0))) <|
 ((o2 (vEqn true 0) (gF (gE g0)) (gK .nili) (pF (pF p0))) <|
 ((o1 vMov (gF (gF g0)) (pF (pG p0))) <|
 ((oGuard (gF (gG g0)) false (pF (pH p0)) (o1 vMov (gB (gA g0)) (pF (pH p0)))) <|
 ((oGuard (gF (gG g0)) false (pG (pA p0)) (o2 (vEqn true 0) (gF (gH g0)) (gK .nili) (pG (pA p0)))) <|
 ((oSlow K2.gt ⟨(some 49), none, (.p (.pick (.t 46) (.c (.bool true)) (.t 48))), false, []⟩ (pG (pB p0))) <|
 ((o1 vMov (gG (gB g0)) (pG (pC p0))) <|
 ((oGuard (gG (gC g0)) false (pG (pD p0)) (o1 vMov (gB (gC g0)) (pG (pD p0)))) <|
 ((oGuard (gG (gC g0)) false (pG (pE p0)) (o2 (vEqn true 0) (gG (gD g0)) (gK .nili) (pG (pE p0)))) <|
 ((oSlow K2.gt ⟨(some 53), none, (.p (.pick (.t 50) (.c (.bool true)) (.t 52))), false, []⟩ (pG (pF p0))) <|
 ((o1 vMov (gG (gF g0)) (pG (pG p0))) <|
 ((oGuard (gG (gG g0)) false (pG (pH p0)) (m1 (wLoadN 3) (gB (gD g0)) (pG (pH p0)))) <|
 ((oGuard (gG (gG g0)) false (pH (pA p0)) (oCall 31 [(gG (gH g0))] (pH (pA p0)))) <|
 ((oGuard (gG (gG g0)) false (pH (pB p0)) (o1 vMov (gA (gA g0)) (pH (pB p0)))) <|
 ((oGuard (gG (gG g0)) false (pH (pC p0)) (o2 vNeq (gH (gA g0)) (gH (gB g0)) (pH (pC p0)))) <|
 ((oSlow K2.gt ⟨(some 59), none, (.p (.pick (.t 54) (.c (.bool true)) (.t 58))), false, []⟩ (pH (pD p0))) <|
 oEnd))))))))))))))))) (cIf (gH (gD g0)) (cSeq (cReg ((oSlow K2.gt ⟨(some 60), none, (.p (.build [(.int .u8 0), (.int .i64 0), (.int .i64 0)] [])), false, []⟩ (pH (pE p0))) <|
 ((oStore 3 (gA (gC g0)) (gH (gE g0))) <|
 ((o1 vMov (gK (.int .i64 4)) (pA (pD p0))) <|
 oEnd)))) (cExit 0)) cSkip)) (cSeq (cReg ((m1 (wLoadN 3) (gB (gD g0)) (pH (pF p0))) <|
 ((oStore 3 (gA (gC g0)) (gH (gF g0))) <|
 ((o1 vMov (gK (.int .i64 0)) (pA (pD p0))) <|
 oEnd)))) (cExit 0)))))))))) [(rA 3 (gA (gC g0))), (rT (gA (gD g0)))]
theorem u30_ok : denA k30 = u30 := dA2 rfl rfl (dF rfl rfl rfl (dS (dR (dc (by kernel_rfl) (dc rfl dn))) (dS (dR (dc rfl (dc rfl (dc rfl dn)))) (dS (dS (dR (dc rfl (dc rfl (dc rfl dn)))) (dI rfl rfl (dS (dR (dc (by kernel_rfl) (dc rfl (dc rfl dn)))) dT) dK)) (dS (dR (dc rfl (dc rfl (dc rfl (dc rfl (dc rfl (dc rfl (dc rfl (dc rfl (dc rfl dn)))))))))) (dS (dR (dc rfl (dc rfl (dc rfl (dc rfl (dc rfl (dc rfl (dc rfl (dc rfl (dc rfl dn)))))))))) (dS (dR (dc rfl (dc rfl (dc rfl (dc rfl (dc rfl (dc rfl (dc rfl (dc rfl (dc rfl dn)))))))))) (dS (dR (dc rfl (dc rfl (dc rfl (dc rfl (dc (by kernel_rfl) (dc (by kernel_rfl) (dc rfl dn)))))))) (dS (dS (dR (dc rfl (dc rfl (dc rfl (dc (by kernel_rfl) (dc (by kernel_rfl) (dc (by kernel_rfl) (dc rfl (dc (by kernel_rfl) (dc (by kernel_rfl) (dc (by kernel_rfl) (dc rfl (dc (by kernel_rfl) (dc (by kernel_rfl) (dc (by kernel_rfl) (dc (by kernel_rfl) (dc (by kernel_rfl) dn))))))))))))))))) (dI rfl rfl (dS (dR (dc (by kernel_rfl) (dc rfl (dc rfl dn)))) dT) dK)) (dS (dR (dc rfl (dc rfl (dc rfl dn)))) dT))))))))))
/-- crimp/moves.Text -/
def u31 : Fu := fn K2.z [(pA (pA p0)), (pA (pB p0)), (pA (pC p0)), (pA (pD p0)), (pA (pE p0)), (pA (pF p0)), (pA (pG p0)), (pA (pH p0)), (pB (pA p0)), (pB (pB p0)), (pB (pC p0)), (pB (pD p0))] (cSeq (cReg ((m1 wBox (gA (gA g0)) (pA (pB p0))) <|
 ((o1 vMov (gK (.str [])) (pA (pC p0))) <|
 oEnd))) (cSeq (cSeq (cReg ((m1 (wLoadN 3) (gA (gB g0)) (pA (pD p0))) <|
 ((oCall 34 [(gA (gD g0))] (pA (pE p0))) <|
 ((o2 vNeq (gA (gE g0)) (gK (.int .i64 0)) (pA (pF p0))) <|
 oEnd)))) (cIf (gA (gF g0)) (cSeq (cReg ((o1 vMov (gK (.str [])) (pA (pC p0))) <|
 oEnd)) (cExit 0)) cSkip)) (cSeq (cReg ((o1 vFad0 (gA (gB g0)) (pA (pG p0))) <|
 ((m1 wLoad1 (gA (gG g0)) (pA (pH p0))) <|
 ((o1 (vCvi .i64) (gA (gH g0)) (pB (pA p0))) <|
 ((oCallQ 51 [(gB (gA g0))] (pB (pB p0))) <|
 ((o2 vAdd (gB (gB g0)) (gK (.str [32])) (pB (pC p0))) <|
 ((o1 (vFad 1) (gA (gB g0)) (pB (pD p0))) <|
 ((m1 wLoad1 (gB (gD g0)) (pB (pE p0))) <|
 ((oCallQ 51 [(gB (gE g0))] (pB (pF p0))) <|
 ((o2 vAdd (gB (gC g0)) (gB (gF g0)) (pB (pG p0))) <|
 ((o2 vAdd (gB (gG g0)) (gK (.str [32])) (pB (pH p0))) <|
 ((o1 (vFad 2) (gA (gB g0)) (pC (pA p0))) <|
 ((m1 wLoad1 (gC (gA g0)) (pC (pB p0))) <|
 ((oCall 51 [(gC (gB g0))] (pC (pC p0))) <|
 ((o2 vAdd (gB (gH g0)) (gC (gC g0)) (pC (pD p0))) <|
 ((o1 vMov (gC (gD g0)) (pA (pC p0))) <|
 oEnd)))))))))))))))) (cExit 0)))) [(rT (gA (gC g0)))]
theorem u31_ok : denA k31 = u31 := dA2 rfl rfl (dF rfl rfl rfl (dS (dR (dc rfl (dc rfl dn))) (dS (dS (dR (dc rfl (dc rfl (dc rfl dn)))) (dI rfl rfl (dS (dR (dc rfl dn)) dT) dK)) (dS (dR (dc rfl (dc rfl (dc rfl (dc rfl (dc rfl (dc rfl (dc rfl (dc rfl (dc rfl (dc rfl (dc rfl (dc rfl (dc rfl (dc rfl (dc rfl dn)))))))))))))))) dT))))
/-- crimp/moves.Check -/
def u34 : Fu := fn K2.z [(pA (pA p0)), (pA (pB p0)), (pA (pC p0)), (pA (pD p0)), (pA (pE p0)), (pA (pF p0)), (pA (pG p0)), (pA (pH p0)), (pB (pA p0)), (pB (pB p0)), (pB (pC p0)), (pB (pD p0))] (cSeq (cReg ((m1 wBox (gA (gA g0)) (pA (pB p0))) <|
 ((o1 vMov (gK (.int .i64 0)) (pA (pC p0))) <|
 oEnd))) (cSeq (cSeq (cReg ((o1 vFad0 (gA (gB g0)) (pA (pD p0))) <|
 ((m1 wLoad1 (gA (gD g0)) (pA (pE p0))) <|
 ((o1 (vCvi .i64) (gA (gE g0)) (pA (pF p0))) <|
 ((o2 vGeq (gA (gF g0)) (gK (.int .i64 8)) (pA (pG p0))) <|
 ((o1 vMov (gA (gG g0)) (pA (pH p0))) <|
 ((oGuard (gA (gH g0)) false (pB (pA p0)) (o1 (vFad 1) (gA (gB g0)) (pB (pA p0)))) <|
 ((oGuard (gA (gH g0)) false (pB (pB p0)) (m1 wLoad1 (gB (gA g0)) (pB (pB p0)))) <|
 ((oGuard (gA (gH g0)) false (pB (pC p0)) (oCall 53 [(gB (gB g0))] (pB (pC p0)))) <|
 ((oSlow K2.gt ⟨(some 11), none, (.p (.pick (.t 7) (.c (.bool true)) (.t 10))), false, []⟩ (pB (pD p0))) <|
 ((o1 vMov (gB (gD g0)) (pB (pE p0))) <|
 ((oGuard (gB (gE g0)) false (pB (pF p0)) (o1 (vFad 2) (gA (gB g0)) (pB (pF p0)))) <|
 ((oGuard (gB (gE g0)) false (pB (pG p0)) (m1 wLoad1 (gB (gF g0)) (pB (pG p0)))) <|
 ((oGuard (gB (gE g0)) false (pB (pH p0)) (oCall 53 [(gB (gG g0))] (pB (pH p0)))) <|
 ((oSlow K2.gt ⟨(some 16), none, (.p (.pick (.t 12) (.c (.bool true)) (.t 15))), false, []⟩ (pC (pA p0))) <|
 ((o1 vMov (gC (gA g0)) (pC (pB p0))) <|
 ((oGuard (gC (gB g0)) false (pC (pC p0)) (o1 (vFad 1) (gA (gB g0)) (pC (pC p0)))) <|
 ((oGuard (gC (gB g0)) false (pC (pD p0)) (m1 wLoad1 (gC (gC g0)) (pC (pD p0)))) <|
 ((oGuard (gC (gB g0)) false (pC (pE p0)) (o1 (vFad 2) (gA (gB g0)) (pC (pE p0)))) <|
 ((oGuard (gC (gB g0)) false (pC (pF p0)) (m1 wLoad1 (gC (gE g0)) (pC (pF p0)))) <|
 ((oGuard (gC (gB g0)) false (pC (pG p0)) (o2 vAdd (gC (gD g0)) (gC (gF g0)) (pC (pG p0)))) <|
 ((oGuard (gC (gB g0)) false (pC (pH p0)) (o2 (vBin .rem) (gC (gG g0)) (gK (.int .i64 2)) (pC (pH p0)))) <|
 ((oGuard (gC (gB g0)) false (pD (pA p0)) (o2 vNeq (gC (gH g0)) (gK (.int .i64 0)) (pD (pA p0)))) <|
 ((oSlow K2.gt ⟨(some 25), none, (.p (.pick (.t 17) (.c (.bool true)) (.t 24))), false, []⟩ (pD (pB p0))) <|
 oEnd)))))))))))))))))))))))) (cIf (gD (gB g0)) (cSeq (cReg ((o1 vMov (gK (.int .i64 1)) (pA (pC p0))) <|
 oEnd)) (cExit 0)) cSkip)) (cSeq (cReg ((o1 vMov (gK (.int .i64 0)) (pA (pC p0))) <|
 oEnd)) (cExit 0)))) [(rT (gA (gC g0)))]
theorem u34_ok : denA k34 = u34 := dA2 rfl rfl (dF rfl rfl rfl (dS (dR (dc rfl (dc rfl dn))) (dS (dS (dR (dc rfl (dc rfl (dc rfl (dc rfl (dc rfl (dc (by kernel_rfl) (dc (by kernel_rfl) (dc (by kernel_rfl) (dc (by kernel_rfl) (dc rfl (dc (by kernel_rfl) (dc (by kernel_rfl) (dc (by kernel_rfl) (dc (by kernel_rfl) (dc rfl (dc (by kernel_rfl) (dc (by kernel_rfl) (dc (by kernel_rfl) (dc (by kernel_rfl) (dc (by kernel_rfl) (dc (by kernel_rfl) (dc (by kernel_rfl) (dc (by kernel_rfl) dn)))))))))))))))))))))))) (dI rfl rfl (dS (dR (dc rfl dn)) dT) dK)) (dS (dR (dc rfl dn)) dT))))
/-- crimp/crimplaw02.move -/
def u36 : Fu := fn K2.z [(pA (pA p0)), (pA (pB p0)), (pA (pC p0)), (pA (pD p0)), (pA (pE p0)), (pA (pF p0)), (pA (pG p0)), (pA (pH p0)), (pB (pA p0)), (pB (pB p0)), (pB (pC p0))] (cSeq (cReg ((oAlloc [(.int .u8 0), (.int .i64 0), (.int .i64 0)] (pA (pG p0))) <|
 oEnd)) (cSeq (cReg ((o1 vMov (gA (gA g0)) (pA (pH p0))) <|
 ((o1 vMov (gA (gB g0)) (pB (pA p0))) <|
 ((o1 vMov (gA (gC g0)) (pB (pB p0))) <|
 ((oSlow K2.gt ⟨(some 10), none, (.p (.build [(.int .u8 0), (.int .i64 0), (.int .i64 0)] [(0, 1, (.t 7)), (1, 1, (.t 8)), (2, 1, (.t 9))])), false, []⟩ (pB (pC p0))) <|
 ((oStore 3 (gA (gG g0)) (gB (gC g0))) <|
 oEnd)))))) (cExit 0))) [(rA 3 (gA (gG g0)))]
theorem u36_ok : denA k36 = u36 := dA2 rfl rfl (dF rfl rfl rfl (dS (dR (dc (by kernel_rfl) dn)) (dS (dR (dc rfl (dc rfl (dc rfl (dc (by kernel_rfl) (dc rfl dn)))))) dT)))
/-- (crimp/moves.matrix).of -/
def u37 : Fu := fn K2.z [(pA (pA p0)), (pA (pB p0)), (pA (pC p0)), (pA (pD p0)), (pA (pE p0)), (pA (pF p0)), (pA (pG p0)), (pA (pH p0)), (pB (pA p0)), (pB (pB p0)), (pB (pC p0)), (pB (pD p0))] (cSeq (cReg ((m1 wBox (gA (gA g0)) (pA (pD p0))) <|
 ((o1 vMov (gK (.int .i64 0)) (pA (pG p0))) <|
 ((o1 vMov (gK (.int .i64 0)) (pA (pH p0))) <|
 oEnd)))) (cSeq (cReg ((o1 vFad0 (gA (gD g0)) (pB (pA p0))) <|
 ((m1 wLoad1 (gB (gA g0)) (pB (pB p0))) <|
 ((o1 vMov (gA (gB g0)) (pB (pC p0))) <|
 ((o2 (vBin .mul) (gB (gB g0)) (gB (gC g0)) (pB (pD p0))) <|
 ((o1 (vFad 1) (gA (gD g0)) (pB (pE p0))) <|
 ((m1 wLoad1 (gB (gE g0)) (pB (pF p0))) <|
 ((o1 vMov (gA (gC g0)) (pB (pG p0))) <|
 ((o2 (vBin .mul) (gB (gF g0)) (gB (gG g0)) (pB (pH p0))) <|
 ((o2 vAdd (gB (gD g0)) (gB (gH g0)) (pC (pA p0))) <|
 ((o1 (vFad 2) (gA (gD g0)) (pC (pB p0))) <|
 ((m1 wLoad1 (gC (gB g0)) (pC (pC p0))) <|
 ((o1 vMov (gA (gB g0)) (pC (pD p0))) <|
 ((o2 (vBin .mul) (gC (gC g0)) (gC (gD g0)) (pC (pE p0))) <|
 ((o1 (vFad 3) (gA (gD g0)) (pC (pF p0))) <|
 ((m1 wLoad1 (gC (gF g0)) (pC (pG p0))) <|
 ((o1 vMov (gA (gC g0)) (pC (pH p0))) <|
 ((o2 (vBin .mul) (gC (gG g0)) (gC (gH g0)) (pD (pA p0))) <|
 ((o2 vAdd (gC (gE g0)) (gD (gA g0)) (pD (pB p0))) <|
 ((o1 vMov (gC (gA g0)) (pA (pG p0))) <|
 ((o1 vMov (gD (gB g0)) (pA (pH p0))) <|
 oEnd))))))))))))))))))))) (cExit 0))) [(rT (gA (gG g0))), (rT (gA (gH g0)))]
theorem u37_ok : denA k37 = u37 := dA2 rfl rfl (dF rfl rfl rfl (dS (dR (dc rfl (dc rfl (dc rfl dn)))) (dS (dR (dc rfl (dc rfl (dc rfl (dc rfl (dc rfl (dc rfl (dc rfl (dc rfl (dc rfl (dc rfl (dc rfl (dc rfl (dc rfl (dc rfl (dc rfl (dc rfl (dc rfl (dc rfl (dc rfl (dc rfl dn))))))))))))))))))))) dT)))
/-- crimp/moves.limited -/
def u38 : Fu := fn K2.z [(pA (pA p0)), (pA (pB p0)), (pA (pC p0)), (pA (pD p0)), (pA (pE p0)), (pA (pF p0)), (pA (pG p0)), (pA (pH p0)), (pB (pA p0))] (cSeq (cReg ((m1 wBox (gA (gA g0)) (pA (pB p0))) <|
 ((oAlloc [(.int .u8 0), (.int .i64 0), (.int .i64 0)] (pA (pC p0))) <|
 ((o1 vMov (gK (.int .i64 0)) (pA (pD p0))) <|
 oEnd)))) (cSeq (cSeq (cReg ((m1 (wLoadN 3) (gA (gB g0)) (pA (pE p0))) <|
 ((oCall 34 [(gA (gE g0))] (pA (pF p0))) <|
 ((o2 vNeq (gA (gF g0)) (gK (.int .i64 0)) (pA (pG p0))) <|
 oEnd)))) (cIf (gA (gG g0)) (cSeq (cReg ((oSlow K2.gt ⟨(some 7), none, (.p (.build [(.int .u8 0), (.int .i64 0), (.int .i64 0)] [])), false, []⟩ (pA (pH p0))) <|
 ((oStore 3 (gA (gC g0)) (gA (gH g0))) <|
 ((o1 vMov (gK (.int .i64 3)) (pA (pD p0))) <|
 oEnd)))) (cExit 0)) cSkip)) (cSeq (cReg ((m1 (wLoadN 3) (gA (gB g0)) (pB (pA p0))) <|
 ((oStore 3 (gA (gC g0)) (gB (gA g0))) <|
 ((o1 vMov (gK (.int .i64 0)) (pA (pD p0))) <|
 oEnd)))) (cExit 0)))) [(rA 3 (gA (gC g0))), (rT (gA (gD g0)))]
theorem u38_ok : denA k38 = u38 := dA2 rfl rfl (dF rfl rfl rfl (dS (dR (dc rfl (dc (by kernel_rfl) (dc rfl dn)))) (dS (dS (dR (dc rfl (dc rfl (dc rfl dn)))) (dI rfl rfl (dS (dR (dc (by kernel_rfl) (dc rfl (dc rfl dn)))) dT) dK)) (dS (dR (dc rfl (dc rfl (dc rfl dn)))) dT))))
/-- crimp/moves.number -/
def u39 : Fu := fn K2.z [(pA (pA p0)), (pA (pB p0)), (pA (pC p0)), (pA (pD p0)), (pA (pE p0)), (pA (pF p0)), (pA (pG p0)), (pA (pH p0)), (pB (pA p0)), (pB (pB p0)), (pB (pC p0)), (pB (pD p0))] (cSeq (cReg ((m1 wBox (gA (gA g0)) (pA (pB p0))) <|
 ((o1 vMov (gK (.int .u8 0)) (pA (pC p0))) <|
 oEnd))) (cSeq (cSeq (cReg ((m1 (wLoadN 32) (gK (.ptr 0 0)) (pA (pF p0))) <|
 ((o1 vMov (gK (.int .i64 0)) (pA (pG p0))) <|
 oEnd))) (cBlock 1 (cLoop (cSeq (cReg ((o2 vLss (gA (gG g0)) (gK (.int .i64 8)) (pA (pH p0))) <|
 oEnd)) (cSeq (cIf (gA (gH g0)) cSkip (cExit 1)) (cSeq (cBlock 2 (cSeq (cReg ((o1 vMov (gA (gG g0)) (pB (pA p0))) <|
 ((oSlow K2.gt ⟨(some 9), none, (.p (.idxA true 8 4 (.t 5) (.t 6))), false, []⟩ (pB (pB p0))) <|
 ((oAlloc [(.int .i64 0), (.int .i64 0), (.int .i64 0), (.int .i64 0)] (pA (pE p0))) <|
 ((o1 vMov (gB (gA g0)) (pA (pD p0))) <|
 ((oStore 4 (gA (gE g0)) (gB (gB g0))) <|
 oEnd)))))) (cSeq (cReg ((m1 (wLoadN 4) (gA (gE g0)) (pB (pC p0))) <|
 ((m1 (wLoadN 4) (gA (gB g0)) (pB (pD p0))) <|
 ((o2 (vEqf false true [1, 1, 1, 1]) (gB (gC g0)) (gB (gD g0)) (pB (pE p0))) <|
 oEnd)))) (cIf (gB (gE g0)) (cSeq (cReg ((o1 vMov (gA (gD g0)) (pB (pF p0))) <|
 ((o1 (vCvi .u8) (gB (gF g0)) (pB (pG p0))) <|
 ((o1 vMov (gB (gG g0)) (pA (pC p0))) <|
 oEnd)))) (cExit 0)) cSkip)))) (cReg ((o2 vAdd (gA (gG g0)) (gK (.int .i64 1)) (pB (pH p0))) <|
 ((o1 vMov (gB (gH g0)) (pA (pG p0))) <|
 oEnd))))))))) (cSeq (cReg ((o1 vMov (gK (.int .u8 0)) (pA (pC p0))) <|
 oEnd)) (cExit 0)))) [(rT (gA (gC g0)))]
theorem u39_ok : denA k39 = u39 := dA2 rfl rfl (dF rfl rfl rfl (dS (dR (dc rfl (dc rfl dn))) (dS (dS (dR (dc rfl (dc rfl dn))) (dB (dL (dS (dR (dc rfl dn)) (dS (dI rfl rfl dK dX) (dS (dB (dS (dR (dc rfl (dc (by kernel_rfl) (dc (by kernel_rfl) (dc rfl (dc rfl dn)))))) (dS (dR (dc rfl (dc rfl (dc rfl dn)))) (dI rfl rfl (dS (dR (dc rfl (dc rfl (dc rfl dn)))) dT) dK)))) (dR (dc rfl (dc rfl dn))))))))) (dS (dR (dc rfl dn)) dT))))
/-- crimp/crimplaw02.in -/
def u40 : Fu := fn K2.z [(pA (pA p0)), (pA (pB p0)), (pA (pC p0)), (pA (pD p0)), (pA (pE p0)), (pA (pF p0)), (pA (pG p0)), (pA (pH p0)), (pB (pA p0)), (pB (pB p0)), (pB (pC p0)), (pB (pD p0))] (cSeq (cReg ((oAlloc [(.int .u8 0), (.int .i64 0), (.int .i64 0)] (pA (pE p0))) <|
 oEnd)) (cSeq (cReg ((o1 vMov (gA (gA g0)) (pB (pA p0))) <|
 ((o1 vMov (gA (gB g0)) (pB (pB p0))) <|
 ((oSlow K2.gt ⟨(some 10), none, (.p (.build [(.int .u8 0), (.int .i64 0)] [(0, 1, (.t 8)), (1, 1, (.t 9))])), false, []⟩ (pB (pC p0))) <|
 ((oCall 26 [(gB (gC g0))] (pB (pD p0))) <|
 ((o1 vMov (gB (gD g0)) (pA (pH p0))) <|
 ((o1 (vExt 0) (gA (gH g0)) (pB (pE p0))) <|
 ((o1 (vExt 1) (gA (gH g0)) (pB (pF p0))) <|
 ((oAlloc [(.int .u8 0), (.int .i64 0), (.int .i64 0)] (pA (pF p0))) <|
 ((oStore 3 (gA (gF g0)) (gB (gE g0))) <|
 ((o1 vMov (gB (gF g0)) (pA (pG p0))) <|
 oEnd))))))))))) (cSeq (cReg ((m1 (wLoadN 3) (gA (gF g0)) (pB (pG p0))) <|
 ((oStore 3 (gA (gE g0)) (gB (gG g0))) <|
 oEnd))) (cExit 0)))) [(rA 3 (gA (gE g0)))]
theorem u40_ok : denA k40 = u40 := dA2 rfl rfl (dF rfl rfl rfl (dS (dR (dc (by kernel_rfl) dn)) (dS (dR (dc rfl (dc rfl (dc (by kernel_rfl) (dc rfl (dc rfl (dc rfl (dc rfl (dc (by kernel_rfl) (dc rfl (dc rfl dn))))))))))) (dS (dR (dc rfl (dc rfl dn))) dT))))
/-- (crimp/moves.matrix).then -/
def u41 : Fu := fn K2.z [(pA (pA p0)), (pA (pB p0)), (pA (pC p0)), (pA (pD p0)), (pA (pE p0)), (pA (pF p0)), (pA (pG p0)), (pA (pH p0)), (pB (pA p0)), (pB (pB p0)), (pB (pC p0)), (pB (pD p0))] (cSeq (cReg ((m1 wBox (gA (gA g0)) (pA (pC p0))) <|
 ((m1 wBox (gA (gB g0)) (pA (pD p0))) <|
 ((oAlloc [(.int .i64 0), (.int .i64 0), (.int .i64 0), (.int .i64 0)] (pA (pE p0))) <|
 oEnd)))) (cSeq (cReg ((m1 (wLoadN 4) (gA (gD g0)) (pB (pC p0))) <|
 ((o1 vFad0 (gA (gC g0)) (pB (pD p0))) <|
 ((m1 wLoad1 (gB (gD g0)) (pB (pE p0))) <|
 ((o1 (vFad 2) (gA (gC g0)) (pB (pF p0))) <|
 ((m1 wLoad1 (gB (gF g0)) (pB (pG p0))) <|
 ((oCall 37 [(gB (gC g0)), (gB (gE g0)), (gB (gG g0))] (pB (pH p0))) <|
 ((o1 vMov (gB (gH g0)) (pB (pB p0))) <|
 ((o1 (vExt 0) (gB (gB g0)) (pC (pA p0))) <|
 ((o1 (vExt 1) (gB (gB g0)) (pC (pB p0))) <|
 ((o1 vMov (gC (gA g0)) (pA (pF p0))) <|
 ((o1 vMov (gC (gB g0)) (pA (pG p0))) <|
 oEnd)))))))))))) (cSeq (cReg ((m1 (wLoadN 4) (gA (gD g0)) (pC (pD p0))) <|
 ((o1 (vFad 1) (gA (gC g0)) (pC (pE p0))) <|
 ((m1 wLoad1 (gC (gE g0)) (pC (pF p0))) <|
 ((o1 (vFad 3) (gA (gC g0)) (pC (pG p0))) <|
 ((m1 wLoad1 (gC (gG g0)) (pC (pH p0))) <|
 ((oCall 37 [(gC (gD g0)), (gC (gF g0)), (gC (gH g0))] (pD (pA p0))) <|
 ((o1 vMov (gD (gA g0)) (pC (pC p0))) <|
 ((o1 (vExt 0) (gC (gC g0)) (pD (pB p0))) <|
 ((o1 (vExt 1) (gC (gC g0)) (pD (pC p0))) <|
 ((o1 vMov (gD (gB g0)) (pA (pH p0))) <|
 ((o1 vMov (gD (gC g0)) (pB (pA p0))) <|
 oEnd)))))))))))) (cSeq (cReg ((o1 vMov (gA (gF g0)) (pD (pD p0))) <|
 ((o1 vMov (gA (gH g0)) (pD (pE p0))) <|
 ((o1 vMov (gA (gG g0)) (pD (pF p0))) <|
 ((o1 vMov (gB (gA g0)) (pD (pG p0))) <|
 ((oSlow K2.gt ⟨(some 31), none, (.p (.build [(.int .i64 0), (.int .i64 0), (.int .i64 0), (.int .i64 0)] [(0, 1, (.t 27)), (1, 1, (.t 28)), (2, 1, (.t 29)), (3, 1, (.t 30))])), false, []⟩ (pD (pH p0))) <|
 ((oStore 4 (gA (gE g0)) (gD (gH g0))) <|
 oEnd))))))) (cExit 0))))) [(rA 4 (gA (gE g0)))]
theorem u41_ok : denA k41 = u41 := dA2 rfl rfl (dF rfl rfl rfl (dS (dR (dc rfl (dc rfl (dc (by kernel_rfl) dn)))) (dS (dR (dc rfl (dc rfl (dc rfl (dc rfl (dc rfl (dc rfl (dc rfl (dc rfl (dc rfl (dc rfl (dc rfl dn)))))))))))) (dS (dR (dc rfl (dc rfl (dc rfl (dc rfl (dc rfl (dc rfl (dc rfl (dc rfl (dc rfl (dc rfl (dc rfl dn)))))))))))) (dS (dR (dc rfl (dc rfl (dc rfl (dc rfl (dc (by kernel_rfl) (dc rfl dn))))))) dT)))))
/-- crimp/lines.CheckPoint -/
def u42 : Fu := fn K2.z [(pA (pA p0)), (pA (pB p0)), (pA (pC p0)), (pA (pD p0)), (pA (pE p0)), (pA (pF p0)), (pA (pG p0)), (pA (pH p0)), (pB (pA p0)), (pB (pB p0)), (pB (pC p0)), (pB (pD p0))] (cSeq (cReg ((m1 wBox (gA (gA g0)) (pA (pB p0))) <|
 ((o1 vMov (gK (.int .i64 0)) (pA (pC p0))) <|
 oEnd))) (cSeq (cSeq (cReg ((o1 vFad0 (gA (gB g0)) (pA (pD p0))) <|
 ((m1 wLoad1 (gA (gD g0)) (pA (pE p0))) <|
 ((o2 vLss (gA (gE g0)) (gK (.int .i64 (-65536))) (pA (pF p0))) <|
 ((o1 vMov (gA (gF g0)) (pA (pG p0))) <|
 ((oGuard (gA (gG g0)) false (pA (pH p0)) (o1 vFad0 (gA (gB g0)) (pA (pH p0)))) <|
 ((oGuard (gA (gG g0)) false (pB (pA p0)) (m1 wLoad1 (gA (gH g0)) (pB (pA p0)))) <|
 ((oGuard (gA (gG g0)) false (pB (pB p0)) (o2 vGtr (gB (gA g0)) (gK (.int .i64 65536)) (pB (pB p0)))) <|
 ((oSlow K2.gt ⟨(some 10), none, (.p (.pick (.t 6) (.c (.bool true)) (.t 9))), false, []⟩ (pB (pC p0))) <|
 ((o1 vMov (gB (gC g0)) (pB (pD p0))) <|
 ((oGuard (gB (gD g0)) false (pB (pE p0)) (o1 (vFad 1) (gA (gB g0)) (pB (pE p0)))) <|
 ((oGuard (gB (gD g0)) false (pB (pF p0)) (m1 wLoad1 (gB (gE g0)) (pB (pF p0)))) <|
 ((oGuard (gB (gD g0)) false (pB (pG p0)) (o2 vLss (gB (gF g0)) (gK (.int .i64 (-65536))) (pB (pG p0)))) <|
 ((oSlow K2.gt ⟨(some 15), none, (.p (.pick (.t 11) (.c (.bool true)) (.t 14))), false, []⟩ (pB (pH p0))) <|
 ((o1 vMov (gB (gH g0)) (pC (pA p0))) <|
 ((oGuard (gC (gA g0)) false (pC (pB p0)) (o1 (vFad 1) (gA (gB g0)) (pC (pB p0)))) <|
 ((oGuard (gC (gA g0)) false (pC (pC p0)) (m1 wLoad1 (gC (gB g0)) (pC (pC p0)))) <|
 ((oGuard (gC (gA g0)) false (pC (pD p0)) (o2 vGtr (gC (gC g0)) (gK (.int .i64 65536)) (pC (pD p0)))) <|
 ((oSlow K2.gt ⟨(some 20), none, (.p (.pick (.t 16) (.c (.bool true)) (.t 19))), false, []⟩ (pC (pE p0))) <|
 oEnd))))))))))))))))))) (cIf (gC (gE g0)) (cSeq (cReg ((o1 vMov (gK (.int .i64 1)) (pA (pC p0))) <|
 oEnd)) (cExit 0)) cSkip)) (cSeq (cReg ((o1 vMov (gK (.int .i64 0)) (pA (pC p0))) <|
 oEnd)) (cExit 0)))) [(rT (gA (gC g0)))]
theorem u42_ok : denA k42 = u42 := dA2 rfl rfl (dF rfl rfl rfl (dS (dR (dc rfl (dc rfl dn))) (dS (dS (dR (dc rfl (dc rfl (dc rfl (dc rfl (dc (by kernel_rfl) (dc (by kernel_rfl) (dc (by kernel_rfl) (dc (by kernel_rfl) (dc rfl (dc (by kernel_rfl) (dc (by kernel_rfl) (dc (by kernel_rfl) (dc (by kernel_rfl) (dc rfl (dc (by kernel_rfl) (dc (by kernel_rfl) (dc (by kernel_rfl) (dc (by kernel_rfl) dn))))))))))))))))))) (dI rfl rfl (dS (dR (dc rfl dn)) dT) dK)) (dS (dR (dc rfl dn)) dT))))
/-- crimp/moves.across -/
def u43 : Fu := fn K2.z [(pA (pA p0)), (pA (pB p0)), (pA (pC p0)), (pA (pD p0)), (pA (pE p0)), (pA (pF p0)), (pA (pG p0)), (pA (pH p0)), (pB (pA p0)), (pB (pB p0)), (pB (pC p0)), (pB (pD p0))] (cSeq (cReg ((o1 vMov (gK (.int .i64 0)) (pA (pC p0))) <|
 ((o1 vMov (gK (.int .i64 0)) (pA (pD p0))) <|
 oEnd))) (cSeq (cReg ((oSlow K2.gt ⟨(some 5), none, (.p (.build [(.int .i64 0), (.int .i64 0)] [(0, 1, (.c (.int .i64 1))), (1, 1, (.c (.int .i64 0)))])), false, []⟩ (pA (pF p0))) <|
 ((oSlow K2.gt ⟨(some 6), none, (.p (.build [(.int .i64 0), (.int .i64 0)] [(0, 1, (.c (.int .i64 0))), (1, 1, (.c (.int .i64 1)))])), false, []⟩ (pA (pG p0))) <|
 ((oSlow K2.gt ⟨(some 7), none, (.p (.build [(.int .i64 0), (.int .i64 0)] [(0, 1, (.c (.int .i64 1))), (1, 1, (.c (.int .i64 1)))])), false, []⟩ (pA (pH p0))) <|
 ((oSlow K2.gt ⟨(some 8), none, (.p (.build [(.int .i64 0), (.int .i64 0)] [(0, 1, (.c (.int .i64 (-1)))), (1, 1, (.c (.int .i64 1)))])), false, []⟩ (pB (pA p0))) <|
 ((oSlow K2.gt ⟨(some 9), none, (.p (.build [(.int .i64 0), (.int .i64 0), (.int .i64 0), (.int .i64 0), (.int .i64 0), (.int .i64 0), (.int .i64 0), (.int .i64 0), (.int .i64 0), (.int .i64 0)] [(2, 2, (.t 5)), (4, 2, (.t 6)), (6, 2, (.t 7)), (8, 2, (.t 8))])), false, []⟩ (pB (pB p0))) <|
 ((o1 vMov (gA (gA g0)) (pB (pC p0))) <|
 ((oSlow K2.gt ⟨(some 11), none, (.p (.idxA true 5 2 (.t 9) (.t 10))), false, []⟩ (pB (pD p0))) <|
 ((oAlloc [(.int .i64 0), (.int .i64 0)] (pA (pE p0))) <|
 ((oStore 2 (gA (gE g0)) (gB (gD g0))) <|
 oEnd)))))))))) (cSeq (cReg ((o2 (vIadA 2 1) (gA (gE g0)) (gK (.int .i64 0)) (pB (pE p0))) <|
 ((m1 wLoad1 (gB (gE g0)) (pB (pF p0))) <|
 ((o2 (vIadA 2 1) (gA (gE g0)) (gK (.int .i64 1)) (pB (pG p0))) <|
 ((m1 wLoad1 (gB (gG g0)) (pB (pH p0))) <|
 ((o1 vMov (gB (gF g0)) (pA (pC p0))) <|
 ((o1 vMov (gB (gH g0)) (pA (pD p0))) <|
 oEnd))))))) (cExit 0)))) [(rT (gA (gC g0))), (rT (gA (gD g0)))]
theorem u43_ok : denA k43 = u43 := dA2 rfl rfl (dF rfl rfl rfl (dS (dR (dc rfl (dc rfl dn))) (dS (dR (dc (by kernel_rfl) (dc (by kernel_rfl) (dc (by kernel_rfl) (dc (by kernel_rfl) (dc (by kernel_rfl) (dc rfl (dc (by kernel_rfl) (dc (by kernel_rfl) (dc rfl dn)))))))))) (dS (dR (dc rfl (dc rfl (dc rfl (dc rfl (dc rfl (dc rfl dn))))))) dT))))
/-- strings.Split -/
def u48 : Fu := fn K1.z [(pA p0), (pB p0), (pC p0), (pD p0), (pE p0), (pF p0), (pG p0), (pH p0)] (cSeq (cReg ((o1 vMov (gK .nils) (pE p0)) <|
 oEnd)) (cSeq (cReg ((o1 vMov (gA g0) (pF p0)) <|
 ((o1 vMov (gB g0) (pG p0)) <|
 ((oCall 54 [(gF g0), (gG g0), (gK (.int .i64 0)), (gK (.int .i64 (-1)))] (pH p0)) <|
 ((o1 vMov (gH g0) (pE p0)) <|
 oEnd))))) (cExit 0))) [(rT (gE g0))]
theorem u48_ok : denA k48 = u48 := dA1 rfl (dF rfl rfl rfl (dS (dR (dc rfl dn)) (dS (dR (dc rfl (dc rfl (dc rfl (dc rfl dn))))) dT)))
/-- strconv.ParseUint -/
def u49 : Fu := fn K2.z [(pA (pA p0)), (pA (pB p0)), (pA (pC p0)), (pA (pD p0)), (pA (pE p0)), (pA (pF p0)), (pA (pG p0)), (pA (pH p0)), (pB (pA p0)), (pB (pB p0)), (pB (pC p0)), (pB (pD p0))] (cSeq (cReg ((o1 vMov (gK (.int .u64 0)) (pA (pG p0))) <|
 ((o1 vMov (gK .nili) (pA (pH p0))) <|
 oEnd))) (cSeq (cReg ((o1 vMov (gA (gA g0)) (pB (pD p0))) <|
 ((o1 vMov (gA (gB g0)) (pB (pE p0))) <|
 ((o1 vMov (gA (gC g0)) (pB (pF p0))) <|
 ((oCall 55 [(gB (gD g0)), (gB (gE g0)), (gB (gF g0))] (pB (pG p0))) <|
 ((o1 vMov (gB (gG g0)) (pB (pC p0))) <|
 ((o1 (vExt 0) (gB (gC g0)) (pB (pH p0))) <|
 ((o1 (vExt 1) (gB (gC g0)) (pC (pA p0))) <|
 ((o1 vMov (gB (gH g0)) (pB (pA p0))) <|
 ((o1 vMov (gC (gA g0)) (pB (pB p0))) <|
 oEnd)))))))))) (cSeq (cSeq (cReg ((o1 vMov (gB (gB g0)) (pC (pB p0))) <|
 ((o2 (vEqn true 0) (gC (gB g0)) (gK .nili) (pC (pC p0))) <|
 oEnd))) (cIf (gC (gC g0)) (cSeq (cReg ((o1 vMov (gB (gA g0)) (pC (pD p0))) <|
 ((o1 vMov (gA (gA g0)) (pC (pE p0))) <|
 ((o1 vMov (gA (gB g0)) (pC (pF p0))) <|
 ((o1 vMov (gA (gC g0)) (pC (pG p0))) <|
 ((o1 vMov (gB (gB g0)) (pC (pH p0))) <|
 ((oCall 56 [(gK (.str [80, 97, 114, 115, 101, 85, 105, 110, 116])), (gC (gE g0)), (gC (gF g0)), (gC (gG g0)), (gC (gH g0))] (pD (pA p0))) <|
 ((o1 vMov (gC (gD g0)) (pA (pG p0))) <|
 ((o1 vMov (gD (gA g0)) (pA (pH p0))) <|
 oEnd))))))))) (cExit 0)) cSkip)) (cSeq (cReg ((o1 vMov (gB (gA g0)) (pD (pB p0))) <|
 ((o1 vMov (gD (gB g0)) (pA (pG p0))) <|
 ((o1 vMov (gK .nili) (pA (pH p0))) <|
 oEnd)))) (cExit 0))))) [(rT (gA (gG g0))), (rT (gA (gH g0)))]
theorem u49_ok : denA k49 = u49 := dA2 rfl rfl (dF rfl rfl rfl (dS (dR (dc rfl (dc rfl dn))) (dS (dR (dc rfl (dc rfl (dc rfl (dc rfl (dc rfl (dc rfl (dc rfl (dc rfl (dc rfl dn)))))))))) (dS (dS (dR (dc rfl (dc rfl dn))) (dI rfl rfl (dS (dR (dc rfl (dc rfl (dc rfl (dc rfl (dc rfl (dc rfl (dc rfl (dc rfl dn))))))))) dT) dK)) (dS (dR (dc rfl (dc rfl (dc rfl dn)))) dT)))))
/-- strconv.Atoi -/
def u50 : Fu := fn K2.z [(pA (pA p0)), (pA (pB p0)), (pA (pC p0)), (pA (pD p0)), (pA (pE p0)), (pA (pF p0)), (pA (pG p0)), (pA (pH p0)), (pB (pA p0)), (pB (pB p0)), (pB (pC p0)), (pB (pD p0))] (cSeq (cReg ((o1 vMov (gK (.int .i64 0)) (pA (pC p0))) <|
 ((o1 vMov (gK .nili) (pA (pD p0))) <|
 oEnd))) (cSeq (cReg ((o1 vMov (gA (gA g0)) (pA (pH p0))) <|
 ((oCall 57 [(gA (gH g0))] (pB (pA p0))) <|
 ((o1 vMov (gB (gA g0)) (pA (pG p0))) <|
 ((o1 (vExt 0) (gA (gG g0)) (pB (pB p0))) <|
 ((o1 (vExt 1) (gA (gG g0)) (pB (pC p0))) <|
 ((o1 vMov (gB (gB g0)) (pA (pE p0))) <|
 ((o1 vMov (gB (gC g0)) (pA (pF p0))) <|
 oEnd)))))))) (cSeq (cSeq (cReg ((o1 vMov (gA (gF g0)) (pB (pD p0))) <|
 ((o2 (vEqn true 0) (gB (gD g0)) (gK .nili) (pB (pE p0))) <|
 oEnd))) (cIf (gB (gE g0)) (cSeq (cReg ((o1 vMov (gA (gE g0)) (pB (pF p0))) <|
 ((o1 vMov (gA (gA g0)) (pB (pG p0))) <|
 ((o1 vMov (gA (gF g0)) (pB (pH p0))) <|
 ((oCall 56 [(gK (.str [65, 116, 111, 105])), (gB (gG g0)), (gK (.int .i64 0)), (gK (.int .i64 0)), (gB (gH g0))] (pC (pA p0))) <|
 ((o1 vMov (gB (gF g0)) (pA (pC p0))) <|
 ((o1 vMov (gC (gA g0)) (pA (pD p0))) <|
 oEnd))))))) (cExit 0)) cSkip)) (cSeq (cReg ((o1 vMov (gA (gE g0)) (pC (pB p0))) <|
 ((o1 vMov (gC (gB g0)) (pA (pC p0))) <|
 ((o1 vMov (gK .nili) (pA (pD p0))) <|
 oEnd)))) (cExit 0))))) [(rT (gA (gC g0))), (rT (gA (gD g0)))]
theorem u50_ok : denA k50 = u50 := dA2 rfl rfl (dF rfl rfl rfl (dS (dR (dc rfl (dc rfl dn))) (dS (dR (dc rfl (dc rfl (dc rfl (dc rfl (dc rfl (dc rfl (dc rfl dn)))))))) (dS (dS (dR (dc rfl (dc rfl dn))) (dI rfl rfl (dS (dR (dc rfl (dc rfl (dc rfl (dc rfl (dc rfl (dc rfl dn))))))) dT) dK)) (dS (dR (dc rfl (dc rfl (dc rfl dn)))) dT)))))
/-- strconv.Itoa -/
def u51 : Fu := fn K1.z [(pA p0), (pB p0), (pC p0), (pD p0), (pE p0)] (cSeq (cReg ((o1 vMov (gK (.str [])) (pC p0)) <|
 oEnd)) (cSeq (cReg ((o1 vMov (gA g0) (pD p0)) <|
 ((oCall 58 [(gD g0)] (pE p0)) <|
 ((o1 vMov (gE g0) (pC p0)) <|
 oEnd)))) (cExit 0))) [(rT (gC g0))]
theorem u51_ok : denA k51 = u51 := dA1 rfl (dF rfl rfl rfl (dS (dR (dc rfl dn)) (dS (dR (dc rfl (dc rfl (dc rfl dn)))) dT)))
/-- crimp/moves.beyond -/
def u53 : Fu := fn K2.z [(pA (pA p0)), (pA (pB p0)), (pA (pC p0)), (pA (pD p0)), (pA (pE p0)), (pA (pF p0)), (pA (pG p0)), (pA (pH p0)), (pB (pA p0))] (cSeq (cReg ((o1 vMov (gK (.bool false)) (pA (pC p0))) <|
 oEnd)) (cSeq (cReg ((o1 vMov (gA (gA g0)) (pA (pD p0))) <|
 ((o2 vLss (gA (gD g0)) (gK (.int .i64 (-16384))) (pA (pE p0))) <|
 ((o1 vMov (gA (gE g0)) (pA (pF p0))) <|
 ((oGuard (gA (gF g0)) false (pA (pG p0)) (o1 vMov (gA (gA g0)) (pA (pG p0)))) <|
 ((oGuard (gA (gF g0)) false (pA (pH p0)) (o2 vGtr (gA (gG g0)) (gK (.int .i64 16384)) (pA (pH p0)))) <|
 ((oSlow K2.gt ⟨(some 8), none, (.p (.pick (.t 5) (.c (.bool true)) (.t 7))), false, []⟩ (pB (pA p0))) <|
 ((o1 vMov (gB (gA g0)) (pA (pC p0))) <|
 oEnd)))))))) (cExit 0))) [(rT (gA (gC g0)))]
theorem u53_ok : denA k53 = u53 := dA2 rfl rfl (dF rfl rfl rfl (dS (dR (dc rfl dn)) (dS (dR (dc rfl (dc rfl (dc rfl (dc (by kernel_rfl) (dc (by kernel_rfl) (dc (by kernel_rfl) (dc rfl dn)))))))) dT)))
/-- strings.genSplit -/
def u54 : Fu := fn K3.z [(pA (pA (pA p0))), (pA (pA (pB p0))), (pA (pA (pC p0))), (pA (pA (pD p0))), (pA (pA (pE p0))), (pA (pA (pF p0))), (pA (pA (pG p0))), (pA (pA (pH p0))), (pA (pB (pA p0))), (pA (pB (pB p0))), (pA (pB (pC p0))), (pA (pB (pD p0)))] (cSeq (cReg ((o1 vMov (gK .nils) (pA (pB (pA p0)))) <|
 oEnd)) (cSeq (cSeq (cReg ((o1 vMov (gA (gA (gD g0))) (pA (pB (pE p0)))) <|
 ((o2 vEql (gA (gB (gE g0))) (gK (.int .i64 0)) (pA (pB (pF p0)))) <|
 oEnd))) (cIf (gA (gB (gF g0))) (cSeq (cReg ((o1 vMov (gK .nils) (pA (pB (pA p0)))) <|
 oEnd)) (cExit 0)) cSkip)) (cSeq (cSeq (cReg ((o1 vMov (gA (gA (gB g0))) (pA (pB (pG p0)))) <|
 ((o2 vEql (gA (gB (gG g0))) (gK (.str [])) (pA (pB (pH p0)))) <|
 oEnd))) (cIf (gA (gB (gH g0))) (cSeq (cReg ((o1 vMov (gA (gA (gA g0))) (pA (pC (pA p0)))) <|
 ((o1 vMov (gA (gA (gD g0))) (pA (pC (pB p0)))) <|
 ((oCall 59 [(gA (gC (gA g0))), (gA (gC (gB g0)))] (pA (pC (pC p0)))) <|
 ((o1 vMov (gA (gC (gC g0))) (pA (pB (pA p0)))) <|
 oEnd))))) (cExit 0)) cSkip)) (cSeq (cSeq (cReg ((o1 vMov (gA (gA (gD g0))) (pA (pC (pD p0)))) <|
 ((o2 vLss (gA (gC (gD g0))) (gK (.int .i64 0)) (pA (pC (pE p0)))) <|
 oEnd))) (cIf (gA (gC (gE g0))) (cReg ((o1 vMov (gA (gA (gA g0))) (pA (pC (pF p0)))) <|
 ((o1 vMov (gA (gA (gB g0))) (pA (pC (pG p0)))) <|
 ((oCall 60 [(gA (gC (gF g0))), (gA (gC (gG g0)))] (pA (pC (pH p0)))) <|
 ((o2 vAdd (gA (gC (gH g0))) (gK (.int .i64 1)) (pA (pD (pA p0)))) <|
 ((o1 vMov (gA (gD (gA g0))) (pA (pA (pD p0)))) <|
 oEnd)))))) cSkip)) (cSeq (cReg ((o1 vMov (gA (gA (gD g0))) (pA (pD (pB p0)))) <|
 ((o1 vMov (gA (gA (gA g0))) (pA (pD (pC p0)))) <|
 ((o1 vLenS (gA (gD (gC g0))) (pA (pD (pD p0)))) <|
 ((o2 vAdd (gA (gD (gD g0))) (gK (.int .i64 1)) (pA (pD (pE p0)))) <|
 ((oSlow K3.gt ⟨(some 29), none, (.p (.mins (.t 25) [(.t 28)])), false, []⟩ (pA (pD (pF p0)))) <|
 ((o1 vMov (gA (gD (gF g0))) (pA (pA (pD p0)))) <|
 oEnd))))))) (cSeq (cReg ((o1 vMov (gA (gA (gD g0))) (pA (pD (pG p0)))) <|
 ((oSlow K3.gt ⟨(some 31), none, (.h (.mksl 1 16 [(.str [])] (.t 30) (.t 30))), false, []⟩ (pA (pD (pH p0)))) <|
 ((o1 vMov (gA (gD (gH g0))) (pA (pB (pB p0)))) <|
 oEnd)))) (cSeq (cReg ((o1 vMov (gA (gA (gD g0))) (pA (pE (pA p0)))) <|
 ((o2 vSub (gA (gE (gA g0))) (gK (.int .i64 1)) (pA (pE (pB p0)))) <|
 ((o1 vMov (gA (gE (gB g0))) (pA (pA (pD p0)))) <|
 oEnd)))) (cSeq (cReg ((o1 vMov (gK (.int .i64 0)) (pA (pB (pC p0)))) <|
 oEnd)) (cSeq (cBlock 1 (cLoop (cSeq (cSeq (cReg ((o1 vMov (gA (gB (gC g0))) (pA (pE (pC p0)))) <|
 ((o1 vMov (gA (gA (gD g0))) (pA (pE (pD p0)))) <|
 ((o2 vLss (gA (gE (gC g0))) (gA (gE (gD g0))) (pA (pE (pE p0)))) <|
 oEnd)))) (cIf (gA (gE (gE g0))) cSkip (cExit 1))) (cBlock 2 (cSeq (cReg ((o1 vMov (gA (gA (gA g0))) (pA (pE (pF p0)))) <|
 ((o1 vMov (gA (gA (gB g0))) (pA (pE (pG p0)))) <|
 ((oCall 61 [(gA (gE (gF g0))), (gA (gE (gG g0)))] (pA (pE (pH p0)))) <|
 ((o1 vMov (gA (gE (gH g0))) (pA (pB (pD p0)))) <|
 oEnd))))) (cSeq (cSeq (cReg ((o1 vMov (gA (gB (gD g0))) (pA (pF (pA p0)))) <|
 ((o2 vLss (gA (gF (gA g0))) (gK (.int .i64 0)) (pA (pF (pB p0)))) <|
 oEnd))) (cIf (gA (gF (gB g0))) (cExit 1) cSkip)) (cSeq (cReg ((o1 vMov (gA (gB (gB g0))) (pA (pF (pC p0)))) <|
 ((o1 vMov (gA (gB (gC g0))) (pA (pF (pD p0)))) <|
 ((o1 vMov (gA (gA (gA g0))) (pA (pF (pE p0)))) <|
 ((o1 vMov (gA (gB (gD g0))) (pA (pF (pF p0)))) <|
 ((o1 vMov (gA (gA (gC g0))) (pA (pF (pG p0)))) <|
 ((o2 vAdd (gA (gF (gF g0))) (gA (gF (gG g0))) (pA (pF (pH p0)))) <|
 ((oSlow K3.gt ⟨(some 48), none, (.p (.slT (.t 44) none (some (.t 47)))), false, []⟩ (pA (pG (pA p0)))) <|
 ((o2 (vIadS 1) (gA (gF (gC g0))) (gA (gF (gD g0))) (pA (pG (pB p0)))) <|
 ((oStore 1 (gA (gG (gB g0))) (gA (gG (gA g0)))) <|
 oEnd)))))))))) (cSeq (cReg ((o1 vMov (gA (gA (gA g0))) (pA (pG (pC p0)))) <|
 ((o1 vMov (gA (gB (gD g0))) (pA (pG (pD p0)))) <|
 ((o1 vMov (gA (gA (gB g0))) (pA (pG (pE p0)))) <|
 ((o1 vLenS (gA (gG (gE g0))) (pA (pG (pF p0)))) <|
 ((o2 vAdd (gA (gG (gD g0))) (gA (gG (gF g0))) (pA (pG (pG p0)))) <|
 ((oSlow K3.gt ⟨(some 55), none, (.p (.slT (.t 50) (some (.t 54)) none)), false, []⟩ (pA (pG (pH p0)))) <|
 ((o1 vMov (gA (gG (gH g0))) (pA (pA (pA p0)))) <|
 oEnd)))))))) (cReg ((o1 vMov (gA (gB (gC g0))) (pA (pH (pA p0)))) <|
 ((o2 vAdd (gA (gH (gA g0))) (gK (.int .i64 1)) (pA (pH (pB p0)))) <|
 ((o1 vMov (gA (gH (gB g0))) (pA (pB (pC p0)))) <|
 oEnd)))))))))))) (cSeq (cReg ((o1 vMov (gA (gB (gB g0))) (pA (pH (pC p0)))) <|
 ((o1 vMov (gA (gB (gC g0))) (pA (pH (pD p0)))) <|
 ((o1 vMov (gA (gA (gA g0))) (pA (pH (pE p0)))) <|
 ((o2 (vIadS 1) (gA (gH (gC g0))) (gA (gH (gD g0))) (pA (pH (pF p0)))) <|
 ((oStore 1 (gA (gH (gF g0))) (gA (gH (gE g0)))) <|
 oEnd)))))) (cSeq (cReg ((o1 vMov (gA (gB (gB g0))) (pA (pH (pG p0)))) <|
 ((o1 vMov (gA (gB (gC g0))) (pA (pH (pH p0)))) <|
 ((o2 vAdd (gA (gH (gH g0))) (gK (.int .i64 1)) (pB (pA (pA p0)))) <|
 ((oSlow K3.gt ⟨(some 65), none, (.p (.slS 1 (.t 62) none (some (.t 64)) none)), false, []⟩ (pB (pA (pB p0)))) <|
 ((o1 vMov (gB (gA (gB g0))) (pA (pB (pA p0)))) <|
 oEnd)))))) (cExit 0)))))))))))) [(rT (gA (gB (gA g0))))]
theorem u54_ok : denA k54 = u54 := dA3 rfl rfl rfl (dF rfl rfl rfl (dS (dR (dc rfl dn)) (dS (dS (dR (dc rfl (dc rfl dn))) (dI rfl rfl (dS (dR (dc rfl dn)) dT) dK)) (dS (dS (dR (dc rfl (dc rfl dn))) (dI rfl rfl (dS (dR (dc rfl (dc rfl (dc rfl (dc rfl dn))))) dT) dK)) (dS (dS (dR (dc rfl (dc rfl dn))) (dI rfl rfl (dR (dc rfl (dc rfl (dc rfl (dc rfl (dc rfl dn)))))) dK)) (dS (dR (dc rfl (dc rfl (dc rfl (dc rfl (dc (by kernel_rfl) (dc rfl dn))))))) (dS (dR (dc rfl (dc (by kernel_rfl) (dc rfl dn)))) (dS (dR (dc rfl (dc rfl (dc rfl dn)))) (dS (dR (dc rfl dn)) (dS (dB (dL (dS (dS (dR (dc rfl (dc rfl (dc rfl dn)))) (dI rfl rfl dK dX)) (dB (dS (dR (dc rfl (dc rfl (dc rfl (dc rfl dn))))) (dS (dS (dR (dc rfl (dc rfl dn))) (dI rfl rfl dX dK)) (dS (dR (dc rfl (dc rfl (dc rfl (dc rfl (dc rfl (dc rfl (dc (by kernel_rfl) (dc rfl (dc rfl dn)))))))))) (dS (dR (dc rfl (dc rfl (dc rfl (dc rfl (dc rfl (dc (by kernel_rfl) (dc rfl dn)))))))) (dR (dc rfl (dc rfl (dc rfl dn)))))))))))) (dS (dR (dc rfl (dc rfl (dc rfl (dc rfl (dc rfl dn)))))) (dS (dR (dc rfl (dc rfl (dc rfl (dc (by kernel_rfl) (dc rfl dn)))))) dT))))))))))))
/-- internal/strconv.ParseUint -/
def u55 : Fu := fn K3.z [(pA (pA (pA p0))), (pA (pA (pB p0))), (pA (pA (pC p0))), (pA (pA (pD p0))), (pA (pA (pE p0))), (pA (pA (pF p0))), (pA (pA (pG p0))), (pA (pA (pH p0))), (pA (pB (pA p0))), (pA (pB (pB p0))), (pA (pB (pC p0))), (pA (pB (pD p0)))] (cSeq (cReg ((o1 vMov (gK (.int .u64 0)) (pA (pA (pG p0)))) <|
 ((o1 vMov (gK .nili) (pA (pA (pH p0)))) <|
 oEnd))) (cSeq (cSeq (cReg ((o1 vMov (gA (gA (gA g0))) (pA (pC (pC p0)))) <|
 ((o2 vEql (gA (gC (gC g0))) (gK (.str [])) (pA (pC (pD p0)))) <|
 oEnd))) (cIf (gA (gC (gD g0))) (cSeq (cReg ((o1 (vMkif 105) (gK (.int .i64 2)) (pA (pC (pE p0)))) <|
 ((o1 vMov (gK (.int .u64 0)) (pA (pA (pG p0)))) <|
 ((o1 vMov (gA (gC (gE g0))) (pA (pA (pH p0)))) <|
 oEnd)))) (cExit 0)) cSkip)) (cSeq (cReg ((o1 vMov (gA (gA (gB g0))) (pA (pC (pF p0)))) <|
 ((o2 vEql (gA (gC (gF g0))) (gK (.int .i64 0)) (pA (pC (pG p0)))) <|
 ((o1 vMov (gA (gC (gG g0))) (pA (pB (pA p0)))) <|
 oEnd)))) (cSeq (cReg ((o1 vMov (gA (gA (gA g0))) (pA (pC (pH p0)))) <|
 ((o1 vMov (gA (gC (gH g0))) (pA (pB (pB p0)))) <|
 oEnd))) (cSeq (cBlock 1 (cSeq (cReg ((o1 vMov (gA (gA (gB g0))) (pA (pD (pC p0)))) <|
 ((o2 vLeq (gK (.int .i64 2)) (gA (gD (gC g0))) (pA (pD (pD p0)))) <|
 ((o1 vMov (gA (gD (gD g0))) (pA (pD (pE p0)))) <|
 ((oGuard (gA (gD (gE g0))) true (pA (pD (pF p0))) (o1 vMov (gA (gA (gB g0))) (pA (pD (pF p0))))) <|
 ((oGuard (gA (gD (gE g0))) true (pA (pD (pG p0))) (o2 vLeq (gA (gD (gF g0))) (gK (.int .i64 36)) (pA (pD (pG p0))))) <|
 ((oSlow K3.gt ⟨(some 31), none, (.p (.pick (.t 28) (.t 30) (.c (.bool false)))), false, []⟩ (pA (pD (pH p0)))) <|
 ((o1 vMov (gA (gD (gH g0))) (pA (pD (pB p0)))) <|
 oEnd)))))))) (cIf (gA (gD (gB g0))) cSkip (cSeq (cReg ((o1 vMov (gA (gA (gB g0))) (pA (pE (pB p0)))) <|
 ((o2 vEql (gA (gE (gB g0))) (gK (.int .i64 0)) (pA (pE (pC p0)))) <|
 ((o1 vMov (gA (gE (gC g0))) (pA (pE (pA p0)))) <|
 oEnd)))) (cIf (gA (gE (gA g0))) (cSeq (cReg ((o1 vMov (gK (.int .i64 10)) (pA (pA (pB p0)))) <|
 oEnd)) (cSeq (cReg ((o1 vMov (gA (gA (gA g0))) (pA (pE (pD p0)))) <|
 ((o2 vIdxS (gA (gE (gD g0))) (gK (.int .i64 0)) (pA (pE (pE p0)))) <|
 ((o2 vEql (gA (gE (gE g0))) (gK (.int .u8 48)) (pA (pE (pF p0)))) <|
 oEnd)))) (cIf (gA (gE (gF g0))) (cBlock 2 (cSeq (cReg ((o1 vMov (gA (gA (gA g0))) (pA (pF (pB p0)))) <|
 ((o1 vLenS (gA (gF (gB g0))) (pA (pF (pC p0)))) <|
 ((o2 vGeq (gA (gF (gC g0))) (gK (.int .i64 3)) (pA (pF (pD p0)))) <|
 ((o1 vMov (gA (gF (gD g0))) (pA (pF (pE p0)))) <|
 ((oGuard (gA (gF (gE g0))) true (pA (pF (pF p0))) (o1 vMov (gA (gA (gA g0))) (pA (pF (pF p0))))) <|
 ((oGuard (gA (gF (gE g0))) true (pA (pF (pG p0))) (o2 vIdxS (gA (gF (gF g0))) (gK (.int .i64 1)) (pA (pF (pG p0))))) <|
 ((oGuard (gA (gF (gE g0))) true (pA (pF (pH p0))) (oCall 62 [(gA (gF (gG g0)))] (pA (pF (pH p0))))) <|
 ((oGuard (gA (gF (gE g0))) true (pA (pG (pA p0))) (o2 vEql (gA (gF (gH g0))) (gK (.int .u8 98)) (pA (pG (pA p0))))) <|
 ((oSlow K3.gt ⟨(some 49), none, (.p (.pick (.t 44) (.t 48) (.c (.bool false)))), false, []⟩ (pA (pG (pB p0)))) <|
 ((o1 vMov (gA (gG (gB g0))) (pA (pF (pA p0)))) <|
 oEnd))))))))))) (cIf (gA (gF (gA g0))) (cSeq (cReg ((o1 vMov (gK (.int .i64 2)) (pA (pA (pB p0)))) <|
 oEnd)) (cReg ((o1 vMov (gA (gA (gA g0))) (pA (pG (pC p0)))) <|
 ((oSlow K3.gt ⟨(some 51), none, (.p (.slT (.t 50) (some (.c (.int .i64 2))) none)), false, []⟩ (pA (pG (pD p0)))) <|
 ((o1 vMov (gA (gG (gD g0))) (pA (pA (pA p0)))) <|
 oEnd))))) (cSeq (cReg ((o1 vMov (gA (gA (gA g0))) (pA (pG (pF p0)))) <|
 ((o1 vLenS (gA (gG (gF g0))) (pA (pG (pG p0)))) <|
 ((o2 vGeq (gA (gG (gG g0))) (gK (.int .i64 3)) (pA (pG (pH p0)))) <|
 ((o1 vMov (gA (gG (gH g0))) (pA (pH (pA p0)))) <|
 ((oGuard (gA (gH (gA g0))) true (pA (pH (pB p0))) (o1 vMov (gA (gA (gA g0))) (pA (pH (pB p0))))) <|
 ((oGuard (gA (gH (gA g0))) true (pA (pH (pC p0))) (o2 vIdxS (gA (gH (gB g0))) (gK (.int .i64 1)) (pA (pH (pC p0))))) <|
 ((oGuard (gA (gH (gA g0))) true (pA (pH (pD p0))) (oCall 62 [(gA (gH (gC g0)))] (pA (pH (pD p0))))) <|
 ((oGuard (gA (gH (gA g0))) true (pA (pH (pE p0))) (o2 vEql (gA (gH (gD g0))) (gK (.int .u8 111)) (pA (pH (pE p0))))) <|
 ((oSlow K3.gt ⟨(some 61), none, (.p (.pick (.t 56) (.t 60) (.c (.bool false)))), false, []⟩ (pA (pH (pF p0)))) <|
 ((o1 vMov (gA (gH (gF g0))) (pA (pG (pE p0)))) <|
 oEnd))))))))))) (cIf (gA (gG (gE g0))) (cSeq (cReg ((o1 vMov (gK (.int .i64 8)) (pA (pA (pB p0)))) <|
 oEnd)) (cReg ((o1 vMov (gA (gA (gA g0))) (pA (pH (pG p0)))) <|
 ((oSlow K3.gt ⟨(some 63), none, (.p (.slT (.t 62) (some (.c (.int .i64 2))) none)), false, []⟩ (pA (pH (pH p0)))) <|
 ((o1 vMov (gA (gH (gH g0))) (pA (pA (pA p0)))) <|
 oEnd))))) (cSeq (cReg ((o1 vMov (gA (gA (gA g0))) (pB (pA (pB p0)))) <|
 ((o1 vLenS (gB (gA (gB g0))) (pB (pA (pC p0)))) <|
 ((o2 vGeq (gB (gA (gC g0))) (gK (.int .i64 3)) (pB (pA (pD p0)))) <|
 ((o1 vMov (gB (gA (gD g0))) (pB (pA (pE p0)))) <|
 ((oGuard (gB (gA (gE g0))) true (pB (pA (pF p0))) (o1 vMov (gA (gA (gA g0))) (pB (pA (pF p0))))) <|
 ((oGuard (gB (gA (gE g0))) true (pB (pA (pG p0))) (o2 vIdxS (gB (gA (gF g0))) (gK (.int .i64 1)) (pB (pA (pG p0))))) <|
 ((oGuard (gB (gA (gE g0))) true (pB (pA (pH p0))) (oCall 62 [(gB (gA (gG g0)))] (pB (pA (pH p0))))) <|
 ((oGuard (gB (gA (gE g0))) true (pB (pB (pA p0))) (o2 vEql (gB (gA (gH g0))) (gK (.int .u8 120)) (pB (pB (pA p0))))) <|
 ((oSlow K3.gt ⟨(some 73), none, (.p (.pick (.t 68) (.t 72) (.c (.bool false)))), false, []⟩ (pB (pB (pB p0)))) <|
 ((o1 vMov (gB (gB (gB g0))) (pB (pA (pA p0)))) <|
 oEnd))))))))))) (cIf (gB (gA (gA g0))) (cSeq (cReg ((o1 vMov (gK (.int .i64 16)) (pA (pA (pB p0)))) <|
 oEnd)) (cReg ((o1 vMov (gA (gA (gA g0))) (pB (pB (pC p0)))) <|
 ((oSlow K3.gt ⟨(some 75), none, (.p (.slT (.t 74) (some (.c (.int .i64 2))) none)), false, []⟩ (pB (pB (pD p0)))) <|
 ((o1 vMov (gB (gB (gD g0))) (pA (pA (pA p0)))) <|
 oEnd))))) (cSeq (cReg ((o1 vMov (gK (.int .i64 8)) (pA (pA (pB p0)))) <|
 oEnd)) (cReg ((o1 vMov (gA (gA (gA g0))) (pA (pE (pG p0)))) <|
 ((oSlow K3.gt ⟨(some 39), none, (.p (.slT (.t 38) (some (.c (.int .i64 1))) none)), false, []⟩ (pA (pE (pH p0)))) <|
 ((o1 vMov (gA (gE (gH g0))) (pA (pA (pA p0)))) <|
 oEnd)))))))))))) cSkip))) (cSeq (cReg ((o1 (vMkif 105) (gK (.int .i64 3)) (pA (pD (pA p0)))) <|
 ((o1 vMov (gK (.int .u64 0)) (pA (pA (pG p0)))) <|
 ((o1 vMov (gA (gD (gA g0))) (pA (pA (pH p0)))) <|
 oEnd)))) (cExit 0))))))) (cSeq (cSeq (cReg ((o1 vMov (gA (gA (gC g0))) (pB (pB (pE p0)))) <|
 ((o2 vEql (gB (gB (gE g0))) (gK (.int .i64 0)) (pB (pB (pF p0)))) <|
 oEnd))) (cIf (gB (gB (gF g0))) (cReg ((o1 vMov (gK (.int .i64 64)) (pA (pA (pC p0)))) <|
 oEnd)) (cSeq (cReg ((o1 vMov (gA (gA (gC g0))) (pB (pB (pG p0)))) <|
 ((o2 vLss (gB (gB (gG g0))) (gK (.int .i64 0)) (pB (pB (pH p0)))) <|
 ((o1 vMov (gB (gB (gH g0))) (pB (pC (pA p0)))) <|
 ((oGuard (gB (gC (gA g0))) false (pB (pC (pB p0))) (o1 vMov (gA (gA (gC g0))) (pB (pC (pB p0))))) <|
 ((oGuard (gB (gC (gA g0))) false (pB (pC (pC p0))) (o2 vGtr (gB (gC (gB g0))) (gK (.int .i64 64)) (pB (pC (pC p0))))) <|
 ((oSlow K3.gt ⟨(some 83), none, (.p (.pick (.t 80) (.c (.bool true)) (.t 82))), false, []⟩ (pB (pC (pD p0)))) <|
 oEnd))))))) (cIf (gB (gC (gD g0))) (cSeq (cReg ((o1 (vMkif 105) (gK (.int .i64 4)) (pB (pC (pE p0)))) <|
 ((o1 vMov (gK (.int .u64 0)) (pA (pA (pG p0)))) <|
 ((o1 vMov (gB (gC (gE g0))) (pA (pA (pH p0)))) <|
 oEnd)))) (cExit 0)) cSkip)))) (cSeq (cReg ((o1 vMov (gK (.int .u64 0)) (pA (pB (pC p0)))) <|
 oEnd)) (cSeq (cSeq (cReg ((o1 vMov (gA (gA (gB g0))) (pB (pC (pF p0)))) <|
 oEnd)) (cBlock 3 (cSeq (cReg ((o2 vEql (gB (gC (gF g0))) (gK (.int .i64 10)) (pB (pD (pD p0)))) <|
 ((o1 vMov (gB (gD (gD g0))) (pB (pD (pC p0)))) <|
 oEnd))) (cIf (gB (gD (gC g0))) (cReg ((o1 vMov (gK (.int .u64 1844674407370955162)) (pA (pB (pC p0)))) <|
 oEnd)) (cSeq (cReg ((o2 vEql (gB (gC (gF g0))) (gK (.int .i64 16)) (pB (pD (pF p0)))) <|
 ((o1 vMov (gB (gD (gF g0))) (pB (pD (pE p0)))) <|
 oEnd))) (cIf (gB (gD (gE g0))) (cReg ((o1 vMov (gK (.int .u64 1152921504606846976)) (pA (pB (pC p0)))) <|
 oEnd)) (cReg ((o1 vMov (gA (gA (gB g0))) (pB (pC (pG p0)))) <|
 ((o1 (vCvi .u64) (gB (gC (gG g0))) (pB (pC (pH p0)))) <|
 ((o2 (vBin .quo) (gK (.int .u64 18446744073709551615)) (gB (gC (gH g0))) (pB (pD (pA p0)))) <|
 ((o2 vAdd (gB (gD (gA g0))) (gK (.int .u64 1)) (pB (pD (pB p0)))) <|
 ((o1 vMov (gB (gD (gB g0))) (pA (pB (pC p0)))) <|
 oEnd)))))))))))) (cSeq (cReg ((o1 vMov (gA (gA (gC g0))) (pB (pD (pG p0)))) <|
 ((o1 (vCvi .u64) (gB (gD (gG g0))) (pB (pD (pH p0)))) <|
 ((o2 (vBin .shl) (gK (.int .u64 1)) (gB (gD (gH g0))) (pB (pE (pA p0)))) <|
 ((o2 vSub (gB (gE (gA g0))) (gK (.int .u64 1)) (pB (pE (pB p0)))) <|
 ((o1 vMov (gB (gE (gB g0))) (pA (pB (pD p0)))) <|
 oEnd)))))) (cSeq (cReg ((o1 vMov (gK (.bool false)) (pA (pB (pE p0)))) <|
 oEnd)) (cSeq (cReg ((o1 vMov (gK (.int .u64 0)) (pA (pB (pF p0)))) <|
 oEnd)) (cSeq (cSeq (cReg ((o1 vMov (gA (gA (gA g0))) (pB (pE (pC p0)))) <|
 ((oSlow K3.gt ⟨(some 99), none, (.h (.s2b (.t 98))), false, []⟩ (pB (pE (pD p0)))) <|
 ((o1 vLen (gB (gE (gD g0))) (pB (pE (pE p0)))) <|
 ((o1 vMov (gK (.int .i64 0)) (pB (pE (pF p0)))) <|
 oEnd))))) (cBlock 4 (cLoop (cSeq (cReg ((o2 vLss (gB (gE (gF g0))) (gB (gE (gE g0))) (pB (pE (pG p0)))) <|
 oEnd)) (cSeq (cIf (gB (gE (gG g0))) cSkip (cExit 4)) (cSeq (cBlock 5 (cSeq (cReg ((o2 (vIadS 1) (gB (gE (gD g0))) (gB (gE (gF g0))) (pB (pE (pH p0)))) <|
 ((m1 wLoad1 (gB (gE (gH g0))) (pB (pF (pA p0)))) <|
 ((o1 vMov (gB (gF (gA g0))) (pA (pB (pH p0)))) <|
 oEnd)))) (cSeq (cReg ((o1 vMov (gK (.int .u8 0)) (pA (pC (pA p0)))) <|
 oEnd)) (cSeq (cBlock 6 (cSeq (cReg ((o1 vMov (gA (gB (gH g0))) (pB (pF (pD p0)))) <|
 ((o2 vEql (gB (gF (gD g0))) (gK (.int .u8 95)) (pB (pF (pE p0)))) <|
 ((o1 vMov (gB (gF (gE g0))) (pB (pF (pF p0)))) <|
 ((oGuard (gB (gF (gF g0))) true (pB (pF (pG p0))) (o1 vMov (gA (gB (gA g0))) (pB (pF (pG p0))))) <|
 ((oSlow K3.gt ⟨(some 111), none, (.p (.pick (.t 109) (.t 110) (.c (.bool false)))), false, []⟩ (pB (pF (pH p0)))) <|
 ((o1 vMov (gB (gF (gH g0))) (pB (pF (pC p0)))) <|
 oEnd))))))) (cIf (gB (gF (gC g0))) (cSeq (cReg ((o1 vMov (gK (.bool true)) (pA (pB (pE p0)))) <|
 oEnd)) (cExit 5)) (cSeq (cReg ((o1 vMov (gA (gB (gH g0))) (pB (pG (pB p0)))) <|
 ((o2 vLeq (gK (.int .u8 48)) (gB (gG (gB g0))) (pB (pG (pC p0)))) <|
 ((o1 vMov (gB (gG (gC g0))) (pB (pG (pD p0)))) <|
 ((oGuard (gB (gG (gD g0))) true (pB (pG (pE p0))) (o1 vMov (gA (gB (gH g0))) (pB (pG (pE p0))))) <|
 ((oGuard (gB (gG (gD g0))) true (pB (pG (pF p0))) (o2 vLeq (gB (gG (gE g0))) (gK (.int .u8 57)) (pB (pG (pF p0))))) <|
 ((oSlow K3.gt ⟨(some 118), none, (.p (.pick (.t 115) (.t 117) (.c (.bool false)))), false, []⟩ (pB (pG (pG p0)))) <|
 ((o1 vMov (gB (gG (gG g0))) (pB (pG (pA p0)))) <|
 oEnd)))))))) (cIf (gB (gG (gA g0))) (cReg ((o1 vMov (gA (gB (gH g0))) (pB (pG (pH p0)))) <|
 ((o2 vSub (gB (gG (gH g0))) (gK (.int .u8 48)) (pB (pH (pA p0)))) <|
 ((o1 vMov (gB (gH (gA g0))) (pA (pC (pA p0)))) <|
 oEnd)))) (cSeq (cReg ((o1 vMov (gA (gB (gH g0))) (pB (pH (pC p0)))) <|
 ((oCall 62 [(gB (gH (gC g0)))] (pB (pH (pD p0)))) <|
 ((o2 vLeq (gK (.int .u8 97)) (gB (gH (gD g0))) (pB (pH (pE p0)))) <|
 ((o1 vMov (gB (gH (gE g0))) (pB (pH (pF p0)))) <|
 ((oGuard (gB (gH (gF g0))) true (pB (pH (pG p0))) (o1 vMov (gA (gB (gH g0))) (pB (pH (pG p0))))) <|
 ((oGuard (gB (gH (gF g0))) true (pB (pH (pH p0))) (oCall 62 [(gB (gH (gG g0)))] (pB (pH (pH p0))))) <|
 ((oGuard (gB (gH (gF g0))) true (pC (pA (pA p0))) (o2 vLeq (gB (gH (gH g0))) (gK (.int .u8 122)) (pC (pA (pA p0))))) <|
 ((oSlow K3.gt ⟨(some 129), none, (.p (.pick (.t 125) (.t 128) (.c (.bool false)))), false, []⟩ (pC (pA (pB p0)))) <|
 ((o1 vMov (gC (gA (gB g0))) (pB (pH (pB p0)))) <|
 oEnd)))))))))) (cIf (gB (gH (gB g0))) (cReg ((o1 vMov (gA (gB (gH g0))) (pC (pA (pC p0)))) <|
 ((oCall 62 [(gC (gA (gC g0)))] (pC (pA (pD p0)))) <|
 ((o2 vSub (gC (gA (gD g0))) (gK (.int .u8 97)) (pC (pA (pE p0)))) <|
 ((o2 vAdd (gC (gA (gE g0))) (gK (.int .u8 10)) (pC (pA (pF p0)))) <|
 ((o1 vMov (gC (gA (gF g0))) (pA (pC (pA p0)))) <|
 oEnd)))))) (cSeq (cReg ((o1 (vMkif 105) (gK (.int .i64 2)) (pB (pF (pB p0)))) <|
 ((o1 vMov (gK (.int .u64 0)) (pA (pA (pG p0)))) <|
 ((o1 vMov (gB (gF (gB g0))) (pA (pA (pH p0)))) <|
 oEnd)))) (cExit 0))))))))) (cSeq (cSeq (cReg ((o1 vMov (gA (gC (gA g0))) (pC (pA (pG p0)))) <|
 ((o1 vMov (gA (gA (gB g0))) (pC (pA (pH p0)))) <|
 ((o1 (vCvi .u8) (gC (gA (gH g0))) (pC (pB (pA p0)))) <|
 ((o2 vGeq (gC (gA (gG g0))) (gC (gB (gA g0))) (pC (pB (pB p0)))) <|
 oEnd))))) (cIf (gC (gB (gB g0))) (cSeq (cReg ((o1 (vMkif 105) (gK (.int .i64 2)) (pC (pB (pC p0)))) <|
 ((o1 vMov (gK (.int .u64 0)) (pA (pA (pG p0)))) <|
 ((o1 vMov (gC (gB (gC g0))) (pA (pA (pH p0)))) <|
 oEnd)))) (cExit 0)) cSkip)) (cSeq (cSeq (cReg ((o1 vMov (gA (gB (gF g0))) (pC (pB (pD p0)))) <|
 ((o1 vMov (gA (gB (gC g0))) (pC (pB (pE p0)))) <|
 ((o2 vGeq (gC (gB (gD g0))) (gC (gB (gE g0))) (pC (pB (pF p0)))) <|
 oEnd)))) (cIf (gC (gB (gF g0))) (cSeq (cReg ((o1 vMov (gA (gB (gD g0))) (pC (pB (pG p0)))) <|
 ((o1 (vMkif 105) (gK (.int .i64 1)) (pC (pB (pH p0)))) <|
 ((o1 vMov (gC (gB (gG g0))) (pA (pA (pG p0)))) <|
 ((o1 vMov (gC (gB (gH g0))) (pA (pA (pH p0)))) <|
 oEnd))))) (cExit 0)) cSkip)) (cSeq (cReg ((o1 vMov (gA (gB (gF g0))) (pC (pC (pA p0)))) <|
 ((o1 vMov (gA (gA (gB g0))) (pC (pC (pB p0)))) <|
 ((o1 (vCvi .u64) (gC (gC (gB g0))) (pC (pC (pC p0)))) <|
 ((o2 (vBin .mul) (gC (gC (gA g0))) (gC (gC (gC g0))) (pC (pC (pD p0)))) <|
 ((o1 vMov (gC (gC (gD g0))) (pA (pB (pF p0)))) <|
 oEnd)))))) (cSeq (cReg ((o1 vMov (gA (gB (gF g0))) (pC (pC (pE p0)))) <|
 ((o1 vMov (gA (gC (gA g0))) (pC (pC (pF p0)))) <|
 ((o1 (vCvi .u64) (gC (gC (gF g0))) (pC (pC (pG p0)))) <|
 ((o2 vAdd (gC (gC (gE g0))) (gC (gC (gG g0))) (pC (pC (pH p0)))) <|
 ((o1 vMov (gC (gC (gH g0))) (pA (pC (pB p0)))) <|
 oEnd)))))) (cSeq (cSeq (cReg ((o1 vMov (gA (gC (gB g0))) (pC (pD (pA p0)))) <|
 ((o1 vMov (gA (gB (gF g0))) (pC (pD (pB p0)))) <|
 ((o2 vLss (gC (gD (gA g0))) (gC (gD (gB g0))) (pC (pD (pC p0)))) <|
 ((o1 vMov (gC (gD (gC g0))) (pC (pD (pD p0)))) <|
 ((oGuard (gC (gD (gD g0))) false (pC (pD (pE p0))) (o1 vMov (gA (gC (gB g0))) (pC (pD (pE p0))))) <|
 ((oGuard (gC (gD (gD g0))) false (pC (pD (pF p0))) (o1 vMov (gA (gB (gD g0))) (pC (pD (pF p0))))) <|
 ((oGuard (gC (gD (gD g0))) false (pC (pD (pG p0))) (o2 vGtr (gC (gD (gE g0))) (gC (gD (gF g0))) (pC (pD (pG p0))))) <|
 ((oSlow K3.gt ⟨(some 159), none, (.p (.pick (.t 155) (.c (.bool true)) (.t 158))), false, []⟩ (pC (pD (pH p0)))) <|
 oEnd))))))))) (cIf (gC (gD (gH g0))) (cSeq (cReg ((o1 vMov (gA (gB (gD g0))) (pC (pE (pA p0)))) <|
 ((o1 (vMkif 105) (gK (.int .i64 1)) (pC (pE (pB p0)))) <|
 ((o1 vMov (gC (gE (gA g0))) (pA (pA (pG p0)))) <|
 ((o1 vMov (gC (gE (gB g0))) (pA (pA (pH p0)))) <|
 oEnd))))) (cExit 0)) cSkip)) (cReg ((o1 vMov (gA (gC (gB g0))) (pC (pE (pC p0)))) <|
 ((o1 vMov (gC (gE (gC g0))) (pA (pB (pF p0)))) <|
 oEnd)))))))))))) (cReg ((o2 vAdd (gB (gE (gF g0))) (gK (.int .i64 1)) (pC (pE (pD p0)))) <|
 ((o1 vMov (gC (gE (gD g0))) (pB (pE (pF p0)))) <|
 oEnd))))))))) (cSeq (cSeq (cReg ((o1 vMov (gA (gB (gE g0))) (pC (pE (pE p0)))) <|
 ((o1 vMov (gC (gE (gE g0))) (pC (pE (pF p0)))) <|
 ((oGuard (gC (gE (gF g0))) true (pC (pE (pG p0))) (o1 vMov (gA (gB (gB g0))) (pC (pE (pG p0))))) <|
 ((oGuard (gC (gE (gF g0))) true (pC (pE (pH p0))) (oCall 63 [(gC (gE (gG g0)))] (pC (pE (pH p0))))) <|
 ((oGuard (gC (gE (gF g0))) true (pC (pF (pA p0))) (o1 vNot (gC (gE (gH g0))) (pC (pF (pA p0))))) <|
 ((oSlow K3.gt ⟨(some 169), none, (.p (.pick (.t 165) (.t 168) (.c (.bool false)))), false, []⟩ (pC (pF (pB p0)))) <|
 oEnd))))))) (cIf (gC (gF (gB g0))) (cSeq (cReg ((o1 (vMkif 105) (gK (.int .i64 2)) (pC (pF (pC p0)))) <|
 ((o1 vMov (gK (.int .u64 0)) (pA (pA (pG p0)))) <|
 ((o1 vMov (gC (gF (gC g0))) (pA (pA (pH p0)))) <|
 oEnd)))) (cExit 0)) cSkip)) (cSeq (cReg ((o1 vMov (gA (gB (gF g0))) (pC (pF (pD p0)))) <|
 ((o1 vMov (gC (gF (gD g0))) (pA (pA (pG p0)))) <|
 ((o1 vMov (gK .nili) (pA (pA (pH p0)))) <|
 oEnd)))) (cExit 0))))))))))))))) [(rT (gA (gA (gG g0)))), (rT (gA (gA (gH g0))))]
theorem u55_ok : denA k55 = u55 := dA3 rfl rfl rfl (dF rfl rfl rfl (dS (dR (dc rfl (dc rfl dn))) (dS (dS (dR (dc rfl (dc rfl dn))) (dI rfl rfl (dS (dR (dc rfl (dc rfl (dc rfl dn)))) dT) dK)) (dS (dR (dc rfl (dc rfl (dc rfl dn)))) (dS (dR (dc rfl (dc rfl dn))) (dS (dB (dS (dR (dc rfl (dc rfl (dc rfl (dc (by kernel_rfl) (dc (by kernel_rfl) (dc (by kernel_rfl) (dc rfl dn)))))))) (dI rfl rfl dK (dS (dR (dc rfl (dc rfl (dc rfl dn)))) (dI rfl rfl (dS (dR (dc rfl dn)) (dS (dR (dc rfl (dc rfl (dc rfl dn)))) (dI rfl rfl (dB (dS (dR (dc rfl (dc rfl (dc rfl (dc rfl (dc (by kernel_rfl) (dc (by kernel_rfl) (dc (by kernel_rfl) (dc (by kernel_rfl) (dc (by kernel_rfl) (dc rfl dn))))))))))) (dI rfl rfl (dS (dR (dc rfl dn)) (dR (dc rfl (dc (by kernel_rfl) (dc rfl dn))))) (dS (dR (dc rfl (dc rfl (dc rfl (dc rfl (dc (by kernel_rfl) (dc (by kernel_rfl) (dc (by kernel_rfl) (dc (by kernel_rfl) (dc (by kernel_rfl) (dc rfl dn))))))))))) (dI rfl rfl (dS (dR (dc rfl dn)) (dR (dc rfl (dc (by kernel_rfl) (dc rfl dn))))) (dS (dR (dc rfl (dc rfl (dc rfl (dc rfl (dc (by kernel_rfl) (dc (by kernel_rfl) (dc (by kernel_rfl) (dc (by kernel_rfl) (dc (by kernel_rfl) (dc rfl dn))))))))))) (dI rfl rfl (dS (dR (dc rfl dn)) (dR (dc rfl (dc (by kernel_rfl) (dc rfl dn))))) (dS (dR (dc rfl dn)) (dR (dc rfl (dc (by kernel_rfl) (dc rfl dn)))))))))))) dK))) (dS (dR (dc rfl (dc rfl (dc rfl dn)))) dT)))))) (dS (dS (dR (dc rfl (dc rfl dn))) (dI rfl rfl (dR (dc rfl dn)) (dS (dR (dc rfl (dc rfl (dc rfl (dc (by kernel_rfl) (dc (by kernel_rfl) (dc (by kernel_rfl) dn))))))) (dI rfl rfl (dS (dR (dc rfl (dc rfl (dc rfl dn)))) dT) dK)))) (dS (dR (dc rfl dn)) (dS (dS (dR (dc rfl dn)) (dB (dS (dR (dc rfl (dc rfl dn))) (dI rfl rfl (dR (dc rfl dn)) (dS (dR (dc rfl (dc rfl dn))) (dI rfl rfl (dR (dc rfl dn)) (dR (dc rfl (dc rfl (dc rfl (dc rfl (dc rfl dn)))))))))))) (dS (dR (dc rfl (dc rfl (dc rfl (dc rfl (dc rfl dn)))))) (dS (dR (dc rfl dn)) (dS (dR (dc rfl dn)) (dS (dS (dR (dc rfl (dc (by kernel_rfl) (dc rfl (dc rfl dn))))) (dB (dL (dS (dR (dc rfl dn)) (dS (dI rfl rfl dK dX) (dS (dB (dS (dR (dc rfl (dc rfl (dc rfl dn)))) (dS (dR (dc rfl dn)) (dS (dB (dS (dR (dc rfl (dc rfl (dc rfl (dc (by kernel_rfl) (dc (by kernel_rfl) (dc rfl dn))))))) (dI rfl rfl (dS (dR (dc rfl dn)) dX) (dS (dR (dc rfl (dc rfl (dc rfl (dc (by kernel_rfl) (dc (by kernel_rfl) (dc (by kernel_rfl) (dc rfl dn)))))))) (dI rfl rfl (dR (dc rfl (dc rfl (dc rfl dn)))) (dS (dR (dc rfl (dc rfl (dc rfl (dc rfl (dc (by kernel_rfl) (dc (by kernel_rfl) (dc (by kernel_rfl) (dc (by kernel_rfl) (dc rfl dn)))))))))) (dI rfl rfl (dR (dc rfl (dc rfl (dc rfl (dc rfl (dc rfl dn)))))) (dS (dR (dc rfl (dc rfl (dc rfl dn)))) dT)))))))) (dS (dS (dR (dc rfl (dc rfl (dc rfl (dc rfl dn))))) (dI rfl rfl (dS (dR (dc rfl (dc rfl (dc rfl dn)))) dT) dK)) (dS (dS (dR (dc rfl (dc rfl (dc rfl dn)))) (dI rfl rfl (dS (dR (dc rfl (dc rfl (dc rfl (dc rfl dn))))) dT) dK)) (dS (dR (dc rfl (dc rfl (dc rfl (dc rfl (dc rfl dn)))))) (dS (dR (dc rfl (dc rfl (dc rfl (dc rfl (dc rfl dn)))))) (dS (dS (dR (dc rfl (dc rfl (dc rfl (dc rfl (dc (by kernel_rfl) (dc (by kernel_rfl) (dc (by kernel_rfl) (dc (by kernel_rfl) dn))))))))) (dI rfl rfl (dS (dR (dc rfl (dc rfl (dc rfl (dc rfl dn))))) dT) dK)) (dR (dc rfl (dc rfl dn)))))))))))) (dR (dc rfl (dc rfl dn))))))))) (dS (dS (dR (dc rfl (dc rfl (dc (by kernel_rfl) (dc (by kernel_rfl) (dc (by kernel_rfl) (dc (by kernel_rfl) dn))))))) (dI rfl rfl (dS (dR (dc rfl (dc rfl (dc rfl dn)))) dT) dK)) (dS (dR (dc rfl (dc rfl (dc rfl dn)))) dT)))))))))))))))
/-- strconv.toError -/
def u56 : Fu := fn K2.z [(pA (pA p0)), (pA (pB p0)), (pA (pC p0)), (pA (pD p0)), (pA (pE p0)), (pA (pF p0)), (pA (pG p0)), (pA (pH p0)), (pB (pA p0)), (pB (pB p0)), (pB (pC p0)), (pB (pD p0))] (cSeq (cReg ((o1 vMov (gK .nili) (pB (pC p0))) <|
 oEnd)) (cSeq (cSeq (cReg ((o1 vMov (gA (gE g0)) (pB (pD p0))) <|
 oEnd)) (cBlock 1 (cSeq (cReg ((o1 (vMkif 105) (gK (.int .i64 2)) (pB (pF p0))) <|
 ((oSlow K2.gt ⟨(some 14), none, (.h .bad), false, []⟩ (pB (pG p0))) <|
 ((o1 vMov (gB (gG g0)) (pB (pE p0))) <|
 oEnd)))) (cIf (gB (gE g0)) (cSeq (cReg ((o1 vMov (gA (gA g0)) (pB (pH p0))) <|
 ((o1 vMov (gA (gB g0)) (pC (pA p0))) <|
 ((oCall 64 [(gB (gH g0)), (gC (gA g0))] (pC (pB p0))) <|
 ((o1 (vMkif 109) (gC (gB g0)) (pC (pC p0))) <|
 ((o1 vMov (gC (gC g0)) (pB (pC p0))) <|
 oEnd)))))) (cExit 0)) (cSeq (cReg ((o1 (vMkif 105) (gK (.int .i64 1)) (pC (pE p0))) <|
 ((oSlow K2.gt ⟨(some 21), none, (.h .bad), false, []⟩ (pC (pF p0))) <|
 ((o1 vMov (gC (gF g0)) (pC (pD p0))) <|
 oEnd)))) (cIf (gC (gD g0)) (cSeq (cReg ((o1 vMov (gA (gA g0)) (pC (pG p0))) <|
 ((o1 vMov (gA (gB g0)) (pC (pH p0))) <|
 ((oCall 65 [(gC (gG g0)), (gC (gH g0))] (pD (pA p0))) <|
 ((o1 (vMkif 109) (gD (gA g0)) (pD (pB p0))) <|
 ((o1 vMov (gD (gB g0)) (pB (pC p0))) <|
 oEnd)))))) (cExit 0)) (cSeq (cReg ((o1 (vMkif 105) (gK (.int .i64 3)) (pD (pD p0))) <|
 ((oSlow K2.gt ⟨(some 28), none, (.h .bad), false, []⟩ (pD (pE p0))) <|
 ((o1 vMov (gD (gE g0)) (pD (pC p0))) <|
 oEnd)))) (cIf (gD (gC g0)) (cSeq (cReg ((o1 vMov (gA (gA g0)) (pD (pF p0))) <|
 ((o1 vMov (gA (gB g0)) (pD (pG p0))) <|
 ((o1 vMov (gA (gC g0)) (pD (pH p0))) <|
 ((oCall 66 [(gD (gF g0)), (gD (gG g0)), (gD (gH g0))] (pE (pA p0))) <|
 ((o1 (vMkif 109) (gE (gA g0)) (pE (pB p0))) <|
 ((o1 vMov (gE (gB g0)) (pB (pC p0))) <|
 oEnd))))))) (cExit 0)) (cSeq (cReg ((o1 (vMkif 105) (gK (.int .i64 4)) (pE (pD p0))) <|
 ((oSlow K2.gt ⟨(some 36), none, (.h .bad), false, []⟩ (pE (pE p0))) <|
 ((o1 vMov (gE (gE g0)) (pE (pC p0))) <|
 oEnd)))) (cIf (gE (gC g0)) (cSeq (cReg ((o1 vMov (gA (gA g0)) (pE (pF p0))) <|
 ((o1 vMov (gA (gB g0)) (pE (pG p0))) <|
 ((o1 vMov (gA (gD g0)) (pE (pH p0))) <|
 ((oCall 67 [(gE (gF g0)), (gE (gG g0)), (gE (gH g0))] (pF (pA p0))) <|
 ((o1 (vMkif 109) (gF (gA g0)) (pF (pB p0))) <|
 ((o1 vMov (gF (gB g0)) (pB (pC p0))) <|
 oEnd))))))) (cExit 0)) cSkip)))))))))) (cSeq (cReg ((o1 vMov (gA (gE g0)) (pF (pC p0))) <|
 ((o1 vMov (gF (gC g0)) (pB (pC p0))) <|
 oEnd))) (cExit 0)))) [(rT (gB (gC g0)))]
theorem u56_ok : denA k56 = u56 := dA2 rfl rfl (dF rfl rfl rfl (dS (dR (dc rfl dn)) (dS (dS (dR (dc rfl dn)) (dB (dS (dR (dc rfl (dc (by kernel_rfl) (dc rfl dn)))) (dI rfl rfl (dS (dR (dc rfl (dc rfl (dc rfl (dc rfl (dc rfl dn)))))) dT) (dS (dR (dc rfl (dc (by kernel_rfl) (dc rfl dn)))) (dI rfl rfl (dS (dR (dc rfl (dc rfl (dc rfl (dc rfl (dc rfl dn)))))) dT) (dS (dR (dc rfl (dc (by kernel_rfl) (dc rfl dn)))) (dI rfl rfl (dS (dR (dc rfl (dc rfl (dc rfl (dc rfl (dc rfl (dc rfl dn))))))) dT) (dS (dR (dc rfl (dc (by kernel_rfl) (dc rfl dn)))) (dI rfl rfl (dS (dR (dc rfl (dc rfl (dc rfl (dc rfl (dc rfl (dc rfl dn))))))) dT) dK)))))))))) (dS (dR (dc rfl (dc rfl dn))) dT))))
/-- internal/strconv.Atoi -/
def u57 : Fu := fn K3.z [(pA (pA (pA p0))), (pA (pA (pB p0))), (pA (pA (pC p0))), (pA (pA (pD p0))), (pA (pA (pE p0))), (pA (pA (pF p0))), (pA (pA (pG p0))), (pA (pA (pH p0))), (pA (pB (pA p0))), (pA (pB (pB p0))), (pA (pB (pC p0))), (pA (pB (pD p0)))] (cSeq (cReg ((o1 vMov (gK (.int .i64 0)) (pA (pA (pC p0)))) <|
 ((o1 vMov (gK .nili) (pA (pA (pD p0)))) <|
 oEnd))) (cSeq (cReg ((o1 vMov (gA (gA (gA g0))) (pA (pB (pD p0)))) <|
 ((o1 vLenS (gA (gB (gD g0))) (pA (pB (pE p0)))) <|
 ((o1 vMov (gA (gB (gE g0))) (pA (pA (pE p0)))) <|
 oEnd)))) (cSeq (cSeq (cReg ((o1 vMov (gK (.bool false)) (pA (pB (pF p0)))) <|
 ((oGuard (gA (gB (gF g0))) true (pA (pB (pG p0))) (o1 vMov (gA (gA (gE g0))) (pA (pB (pG p0))))) <|
 ((oGuard (gA (gB (gF g0))) true (pA (pB (pH p0))) (o2 vLss (gK (.int .i64 0)) (gA (gB (gG g0))) (pA (pB (pH p0))))) <|
 ((oGuard (gA (gB (gF g0))) true (pA (pC (pA p0))) (o1 vMov (gA (gB (gH g0))) (pA (pC (pA p0))))) <|
 ((oGuard (gA (gC (gA g0))) true (pA (pC (pB p0))) (o1 vMov (gA (gA (gE g0))) (pA (pC (pB p0))))) <|
 ((oGuard (gA (gC (gA g0))) true (pA (pC (pC p0))) (o2 vLss (gA (gC (gB g0))) (gK (.int .i64 10)) (pA (pC (pC p0))))) <|
 ((oGuard (gA (gB (gF g0))) true (pA (pC (pD p0))) (oSlow K3.gt ⟨(some 19), (some (13, true)), (.p (.pick (.t 16) (.t 18) (.c (.bool false)))), false, []⟩ (pA (pC (pD p0))))) <|
 ((oSlow K3.gt ⟨(some 20), none, (.p (.pick (.t 13) (.t 19) (.c (.bool false)))), false, []⟩ (pA (pC (pE p0)))) <|
 ((o1 vMov (gA (gC (gE g0))) (pA (pC (pF p0)))) <|
 ((oGuard (gA (gC (gF g0))) false (pA (pC (pG p0))) (o1 vMov (gK (.bool true)) (pA (pC (pG p0))))) <|
 ((oGuard (gA (gC (gG g0))) true (pA (pC (pH p0))) (o1 vMov (gA (gA (gE g0))) (pA (pC (pH p0))))) <|
 ((oGuard (gA (gC (gG g0))) true (pA (pD (pA p0))) (o2 vLss (gK (.int .i64 0)) (gA (gC (gH g0))) (pA (pD (pA p0))))) <|
 ((oGuard (gA (gC (gG g0))) true (pA (pD (pB p0))) (o1 vMov (gA (gD (gA g0))) (pA (pD (pB p0))))) <|
 ((oGuard (gA (gD (gB g0))) true (pA (pD (pC p0))) (o1 vMov (gA (gA (gE g0))) (pA (pD (pC p0))))) <|
 ((oGuard (gA (gD (gB g0))) true (pA (pD (pD p0))) (o2 vLss (gA (gD (gC g0))) (gK (.int .i64 19)) (pA (pD (pD p0))))) <|
 ((oGuard (gA (gC (gG g0))) true (pA (pD (pE p0))) (oSlow K3.gt ⟨(some 28), (some (22, true)), (.p (.pick (.t 25) (.t 27) (.c (.bool false)))), false, []⟩ (pA (pD (pE p0))))) <|
 ((oGuard (gA (gC (gF g0))) false (pA (pD (pF p0))) (oSlow K3.gt ⟨(some 29), (some (21, false)), (.p (.pick (.t 22) (.t 28) (.c (.bool false)))), false, []⟩ (pA (pD (pF p0))))) <|
 ((oSlow K3.gt ⟨(some 30), none, (.p (.pick (.t 21) (.c (.bool true)) (.t 29))), false, []⟩ (pA (pD (pG p0)))) <|
 oEnd))))))))))))))))))) (cIf (gA (gD (gG g0))) (cSeq (cReg ((o1 vMov (gA (gA (gA g0))) (pA (pD (pH p0)))) <|
 ((o1 vMov (gA (gD (gH g0))) (pA (pA (pF p0)))) <|
 oEnd))) (cSeq (cSeq (cReg ((o1 vMov (gA (gA (gA g0))) (pA (pE (pA p0)))) <|
 ((o2 vIdxS (gA (gE (gA g0))) (gK (.int .i64 0)) (pA (pE (pB p0)))) <|
 ((o2 vEql (gA (gE (gB g0))) (gK (.int .u8 45)) (pA (pE (pC p0)))) <|
 ((o1 vMov (gA (gE (gC g0))) (pA (pE (pD p0)))) <|
 ((oGuard (gA (gE (gD g0))) false (pA (pE (pE p0))) (o1 vMov (gA (gA (gA g0))) (pA (pE (pE p0))))) <|
 ((oGuard (gA (gE (gD g0))) false (pA (pE (pF p0))) (o2 vIdxS (gA (gE (gE g0))) (gK (.int .i64 0)) (pA (pE (pF p0))))) <|
 ((oGuard (gA (gE (gD g0))) false (pA (pE (pG p0))) (o2 vEql (gA (gE (gF g0))) (gK (.int .u8 43)) (pA (pE (pG p0))))) <|
 ((oSlow K3.gt ⟨(some 39), none, (.p (.pick (.t 35) (.c (.bool true)) (.t 38))), false, []⟩ (pA (pE (pH p0)))) <|
 oEnd))))))))) (cIf (gA (gE (gH g0))) (cSeq (cReg ((o1 vMov (gA (gA (gA g0))) (pA (pF (pA p0)))) <|
 ((oSlow K3.gt ⟨(some 41), none, (.p (.slT (.t 40) (some (.c (.int .i64 1))) none)), false, []⟩ (pA (pF (pB p0)))) <|
 ((o1 vMov (gA (gF (gB g0))) (pA (pA (pA p0)))) <|
 oEnd)))) (cSeq (cReg ((o1 vMov (gA (gA (gA g0))) (pA (pF (pC p0)))) <|
 ((o1 vLenS (gA (gF (gC g0))) (pA (pF (pD p0)))) <|
 ((o2 vLss (gA (gF (gD g0))) (gK (.int .i64 1)) (pA (pF (pE p0)))) <|
 oEnd)))) (cIf (gA (gF (gE g0))) (cSeq (cReg ((o1 (vMkif 105) (gK (.int .i64 2)) (pA (pF (pF p0)))) <|
 ((o1 vMov (gK (.int .i64 0)) (pA (pA (pC p0)))) <|
 ((o1 vMov (gA (gF (gF g0))) (pA (pA (pD p0)))) <|
 oEnd)))) (cExit 0)) cSkip))) cSkip)) (cSeq (cReg ((o1 vMov (gK (.int .i64 0)) (pA (pA (pG p0)))) <|
 oEnd)) (cSeq (cSeq (cReg ((o1 vMov (gA (gA (gA g0))) (pA (pF (pG p0)))) <|
 ((oSlow K3.gt ⟨(some 47), none, (.h (.s2b (.t 46))), false, []⟩ (pA (pF (pH p0)))) <|
 ((o1 vLen (gA (gF (gH g0))) (pA (pG (pA p0)))) <|
 ((o1 vMov (gK (.int .i64 0)) (pA (pG (pB p0)))) <|
 oEnd))))) (cBlock 1 (cLoop (cSeq (cReg ((o2 vLss (gA (gG (gB g0))) (gA (gG (gA g0))) (pA (pG (pC p0)))) <|
 oEnd)) (cSeq (cIf (gA (gG (gC g0))) cSkip (cExit 1)) (cSeq (cBlock 2 (cSeq (cReg ((o2 (vIadS 1) (gA (gF (gH g0))) (gA (gG (gB g0))) (pA (pG (pD p0)))) <|
 ((m1 wLoad1 (gA (gG (gD g0))) (pA (pG (pE p0)))) <|
 ((o1 vMov (gA (gG (gE g0))) (pA (pB (pA p0)))) <|
 oEnd)))) (cSeq (cReg ((o1 vMov (gA (gB (gA g0))) (pA (pG (pF p0)))) <|
 ((o2 vSub (gA (gG (gF g0))) (gK (.int .u8 48)) (pA (pG (pG p0)))) <|
 ((o1 vMov (gA (gG (gG g0))) (pA (pB (pA p0)))) <|
 oEnd)))) (cSeq (cSeq (cReg ((o1 vMov (gA (gB (gA g0))) (pA (pG (pH p0)))) <|
 ((o2 vGtr (gA (gG (gH g0))) (gK (.int .u8 9)) (pA (pH (pA p0)))) <|
 oEnd))) (cIf (gA (gH (gA g0))) (cSeq (cReg ((o1 (vMkif 105) (gK (.int .i64 2)) (pA (pH (pB p0)))) <|
 ((o1 vMov (gK (.int .i64 0)) (pA (pA (pC p0)))) <|
 ((o1 vMov (gA (gH (gB g0))) (pA (pA (pD p0)))) <|
 oEnd)))) (cExit 0)) cSkip)) (cReg ((o1 vMov (gA (gA (gG g0))) (pA (pH (pC p0)))) <|
 ((o2 (vBin .mul) (gA (gH (gC g0))) (gK (.int .i64 10)) (pA (pH (pD p0)))) <|
 ((o1 vMov (gA (gB (gA g0))) (pA (pH (pE p0)))) <|
 ((o1 (vCvi .i64) (gA (gH (gE g0))) (pA (pH (pF p0)))) <|
 ((o2 vAdd (gA (gH (gD g0))) (gA (gH (gF g0))) (pA (pH (pG p0)))) <|
 ((o1 vMov (gA (gH (gG g0))) (pA (pA (pG p0)))) <|
 oEnd))))))))))) (cReg ((o2 vAdd (gA (gG (gB g0))) (gK (.int .i64 1)) (pA (pH (pH p0)))) <|
 ((o1 vMov (gA (gH (gH g0))) (pA (pG (pB p0)))) <|
 oEnd))))))))) (cSeq (cSeq (cReg ((o1 vMov (gA (gA (gF g0))) (pB (pA (pA p0)))) <|
 ((o2 vIdxS (gB (gA (gA g0))) (gK (.int .i64 0)) (pB (pA (pB p0)))) <|
 ((o2 vEql (gB (gA (gB g0))) (gK (.int .u8 45)) (pB (pA (pC p0)))) <|
 oEnd)))) (cIf (gB (gA (gC g0))) (cReg ((o1 vMov (gA (gA (gG g0))) (pB (pA (pD p0)))) <|
 ((oSlow K3.gt ⟨(some 68), none, (.p (.neg (.t 67))), false, []⟩ (pB (pA (pE p0)))) <|
 ((o1 vMov (gB (gA (gE g0))) (pA (pA (pG p0)))) <|
 oEnd)))) cSkip)) (cSeq (cReg ((o1 vMov (gA (gA (gG g0))) (pB (pA (pF p0)))) <|
 ((o1 vMov (gB (gA (gF g0))) (pA (pA (pC p0)))) <|
 ((o1 vMov (gK .nili) (pA (pA (pD p0)))) <|
 oEnd)))) (cExit 0))))))) cSkip)) (cSeq (cReg ((o1 vMov (gA (gA (gA g0))) (pB (pA (pH p0)))) <|
 ((oCall 68 [(gB (gA (gH g0))), (gK (.int .i64 10)), (gK (.int .i64 0))] (pB (pB (pA p0)))) <|
 ((o1 vMov (gB (gB (gA g0))) (pB (pA (pG p0)))) <|
 ((o1 (vExt 0) (gB (gA (gG g0))) (pB (pB (pB p0)))) <|
 ((o1 (vExt 1) (gB (gA (gG g0))) (pB (pB (pC p0)))) <|
 ((o1 vMov (gB (gB (gB g0))) (pA (pB (pB p0)))) <|
 ((o1 vMov (gB (gB (gC g0))) (pA (pB (pC p0)))) <|
 oEnd)))))))) (cSeq (cReg ((o1 vMov (gA (gB (gB g0))) (pB (pB (pD p0)))) <|
 ((o1 vMov (gA (gB (gC g0))) (pB (pB (pE p0)))) <|
 ((o1 vMov (gB (gB (gD g0))) (pA (pA (pC p0)))) <|
 ((o1 vMov (gB (gB (gE g0))) (pA (pA (pD p0)))) <|
 oEnd))))) (cExit 0)))))) [(rT (gA (gA (gC g0)))), (rT (gA (gA (gD g0))))]
theorem u57_ok : denA k57 = u57 := dA3 rfl rfl rfl (dF rfl rfl rfl (dS (dR (dc rfl (dc rfl dn))) (dS (dR (dc rfl (dc rfl (dc rfl dn)))) (dS (dS (dR (dc rfl (dc (by kernel_rfl) (dc (by kernel_rfl) (dc (by kernel_rfl) (dc (by kernel_rfl) (dc (by kernel_rfl) (dc (by kernel_rfl) (dc (by kernel_rfl) (dc rfl (dc (by kernel_rfl) (dc (by kernel_rfl) (dc (by kernel_rfl) (dc (by kernel_rfl) (dc (by kernel_rfl) (dc (by kernel_rfl) (dc (by kernel_rfl) (dc (by kernel_rfl) (dc (by kernel_rfl) dn))))))))))))))))))) (dI rfl rfl (dS (dR (dc rfl (dc rfl dn))) (dS (dS (dR (dc rfl (dc rfl (dc rfl (dc rfl (dc (by kernel_rfl) (dc (by kernel_rfl) (dc (by kernel_rfl) (dc (by kernel_rfl) dn))))))))) (dI rfl rfl (dS (dR (dc rfl (dc (by kernel_rfl) (dc rfl dn)))) (dS (dR (dc rfl (dc rfl (dc rfl dn)))) (dI rfl rfl (dS (dR (dc rfl (dc rfl (dc rfl dn)))) dT) dK))) dK)) (dS (dR (dc rfl dn)) (dS (dS (dR (dc rfl (dc (by kernel_rfl) (dc rfl (dc rfl dn))))) (dB (dL (dS (dR (dc rfl dn)) (dS (dI rfl rfl dK dX) (dS (dB (dS (dR (dc rfl (dc rfl (dc rfl dn)))) (dS (dR (dc rfl (dc rfl (dc rfl dn)))) (dS (dS (dR (dc rfl (dc rfl dn))) (dI rfl rfl (dS (dR (dc rfl (dc rfl (dc rfl dn)))) dT) dK)) (dR (dc rfl (dc rfl (dc rfl (dc rfl (dc rfl (dc rfl dn))))))))))) (dR (dc rfl (dc rfl dn))))))))) (dS (dS (dR (dc rfl (dc rfl (dc rfl dn)))) (dI rfl rfl (dR (dc rfl (dc (by kernel_rfl) (dc rfl dn)))) dK)) (dS (dR (dc rfl (dc rfl (dc rfl dn)))) dT)))))) dK)) (dS (dR (dc rfl (dc rfl (dc rfl (dc rfl (dc rfl (dc rfl (dc rfl dn)))))))) (dS (dR (dc rfl (dc rfl (dc rfl (dc rfl dn))))) dT))))))
/-- internal/strconv.Itoa -/
def u58 : Fu := fn K1.z [(pA p0), (pB p0), (pC p0), (pD p0), (pE p0)] (cSeq (cReg ((o1 vMov (gK (.str [])) (pC p0)) <|
 oEnd)) (cSeq (cReg ((o1 vMov (gA g0) (pD p0)) <|
 ((oCall 69 [(gD g0), (gK (.int .i64 10))] (pE p0)) <|
 ((o1 vMov (gE g0) (pC p0)) <|
 oEnd)))) (cExit 0))) [(rT (gC g0))]
theorem u58_ok : denA k58 = u58 := dA1 rfl (dF rfl rfl rfl (dS (dR (dc rfl dn)) (dS (dR (dc rfl (dc rfl (dc rfl dn)))) dT)))
/-- strings.explode -/
def u59 : Fu := fn K2.z [(pA (pA p0)), (pA (pB p0)), (pA (pC p0)), (pA (pD p0)), (pA (pE p0)), (pA (pF p0)), (pA (pG p0)), (pA (pH p0)), (pB (pA p0)), (pB (pB p0)), (pB (pC p0)), (pB (pD p0))] (cSeq (cReg ((o1 vMov (gK .nils) (pA (pE p0))) <|
 oEnd)) (cSeq (cReg ((o1 vMov (gA (gA g0)) (pB (pC p0))) <|
 ((oCall 70 [(gB (gC g0))] (pB (pD p0))) <|
 ((o1 vMov (gB (gD g0)) (pA (pF p0))) <|
 oEnd)))) (cSeq (cSeq (cReg ((o1 vMov (gA (gB g0)) (pB (pE p0))) <|
 ((o2 vLss (gB (gE g0)) (gK (.int .i64 0)) (pB (pF p0))) <|
 ((o1 vMov (gB (gF g0)) (pB (pG p0))) <|
 ((oGuard (gB (gG g0)) false (pB (pH p0)) (o1 vMov (gA (gB g0)) (pB (pH p0)))) <|
 ((oGuard (gB (gG g0)) false (pC (pA p0)) (o1 vMov (gA (gF g0)) (pC (pA p0)))) <|
 ((oGuard (gB (gG g0)) false (pC (pB p0)) (o2 vGtr (gB (gH g0)) (gC (gA g0)) (pC (pB p0)))) <|
 ((oSlow K2.gt ⟨(some 18), none, (.p (.pick (.t 14) (.c (.bool true)) (.t 17))), false, []⟩ (pC (pC p0))) <|
 oEnd)))))))) (cIf (gC (gC g0)) (cReg ((o1 vMov (gA (gF g0)) (pC (pD p0))) <|
 ((o1 vMov (gC (gD g0)) (pA (pB p0))) <|
 oEnd))) cSkip)) (cSeq (cReg ((o1 vMov (gA (gB g0)) (pC (pE p0))) <|
 ((oSlow K2.gt ⟨(some 21), none, (.h (.mksl 1 16 [(.str [])] (.t 20) (.t 20))), false, []⟩ (pC (pF p0))) <|
 ((o1 vMov (gC (gF g0)) (pA (pG p0))) <|
 oEnd)))) (cSeq (cSeq (cReg ((o1 vMov (gK (.int .i64 0)) (pA (pH p0))) <|
 oEnd)) (cBlock 1 (cLoop (cSeq (cSeq (cReg ((o1 vMov (gA (gH g0)) (pC (pG p0))) <|
 ((o1 vMov (gA (gB g0)) (pC (pH p0))) <|
 ((o2 vSub (gC (gH g0)) (gK (.int .i64 1)) (pD (pA p0))) <|
 ((o2 vLss (gC (gG g0)) (gD (gA g0)) (pD (pB p0))) <|
 oEnd))))) (cIf (gD (gB g0)) cSkip (cExit 1))) (cSeq (cBlock 2 (cSeq (cReg ((o1 vMov (gA (gA g0)) (pD (pF p0))) <|
 ((oCall 71 [(gD (gF g0))] (pD (pG p0))) <|
 ((o1 vMov (gD (gG g0)) (pD (pE p0))) <|
 ((o1 (vExt 0) (gD (gE g0)) (pD (pH p0))) <|
 ((o1 (vExt 1) (gD (gE g0)) (pE (pA p0))) <|
 ((o1 vMov (gD (gH g0)) (pB (pA p0))) <|
 ((o1 vMov (gE (gA g0)) (pB (pB p0))) <|
 oEnd)))))))) (cSeq (cReg ((o1 vMov (gA (gG g0)) (pE (pB p0))) <|
 ((o1 vMov (gA (gH g0)) (pE (pC p0))) <|
 ((o1 vMov (gA (gA g0)) (pE (pD p0))) <|
 ((o1 vMov (gB (gB g0)) (pE (pE p0))) <|
 ((oSlow K2.gt ⟨(some 37), none, (.p (.slT (.t 35) none (some (.t 36)))), false, []⟩ (pE (pF p0))) <|
 ((o2 (vIadS 1) (gE (gB g0)) (gE (gC g0)) (pE (pG p0))) <|
 ((oStore 1 (gE (gG g0)) (gE (gF g0))) <|
 oEnd)))))))) (cReg ((o1 vMov (gA (gA g0)) (pE (pH p0))) <|
 ((o1 vMov (gB (gB g0)) (pF (pA p0))) <|
 ((oSlow K2.gt ⟨(some 41), none, (.p (.slT (.t 39) (some (.t 40)) none)), false, []⟩ (pF (pB p0))) <|
 ((o1 vMov (gF (gB g0)) (pA (pA p0))) <|
 oEnd)))))))) (cReg ((o1 vMov (gA (gH g0)) (pD (pC p0))) <|
 ((o2 vAdd (gD (gC g0)) (gK (.int .i64 1)) (pD (pD p0))) <|
 ((o1 vMov (gD (gD g0)) (pA (pH p0))) <|
 oEnd))))))))) (cSeq (cSeq (cReg ((o1 vMov (gA (gB g0)) (pF (pC p0))) <|
 ((o2 vGtr (gF (gC g0)) (gK (.int .i64 0)) (pF (pD p0))) <|
 oEnd))) (cIf (gF (gD g0)) (cReg ((o1 vMov (gA (gG g0)) (pF (pE p0))) <|
 ((o1 vMov (gA (gB g0)) (pF (pF p0))) <|
 ((o2 vSub (gF (gF g0)) (gK (.int .i64 1)) (pF (pG p0))) <|
 ((o1 vMov (gA (gA g0)) (pF (pH p0))) <|
 ((o2 (vIadS 1) (gF (gE g0)) (gF (gG g0)) (pG (pA p0))) <|
 ((oStore 1 (gG (gA g0)) (gF (gH g0))) <|
 oEnd))))))) cSkip)) (cSeq (cReg ((o1 vMov (gA (gG g0)) (pG (pB p0))) <|
 ((o1 vMov (gG (gB g0)) (pA (pE p0))) <|
 oEnd))) (cExit 0)))))))) [(rT (gA (gE g0)))]
theorem u59_ok : denA k59 = u59 := dA2 rfl rfl (dF rfl rfl rfl (dS (dR (dc rfl dn)) (dS (dR (dc rfl (dc rfl (dc rfl dn)))) (dS (dS (dR (dc rfl (dc rfl (dc rfl (dc (by kernel_rfl) (dc (by kernel_rfl) (dc (by kernel_rfl) (dc (by kernel_rfl) dn)))))))) (dI rfl rfl (dR (dc rfl (dc rfl dn))) dK)) (dS (dR (dc rfl (dc (by kernel_rfl) (dc rfl dn)))) (dS (dS (dR (dc rfl dn)) (dB (dL (dS (dS (dR (dc rfl (dc rfl (dc rfl (dc rfl dn))))) (dI rfl rfl dK dX)) (dS (dB (dS (dR (dc rfl (dc rfl (dc rfl (dc rfl (dc rfl (dc rfl (dc rfl dn)))))))) (dS (dR (dc rfl (dc rfl (dc rfl (dc rfl (dc (by kernel_rfl) (dc rfl (dc rfl dn)))))))) (dR (dc rfl (dc rfl (dc (by kernel_rfl) (dc rfl dn)))))))) (dR (dc rfl (dc rfl (dc rfl dn))))))))) (dS (dS (dR (dc rfl (dc rfl dn))) (dI rfl rfl (dR (dc rfl (dc rfl (dc rfl (dc rfl (dc rfl (dc rfl dn))))))) dK)) (dS (dR (dc rfl (dc rfl dn))) dT))))))))
/-- strings.Count -/
def u60 : Fu := fn K2.z [(pA (pA p0)), (pA (pB p0)), (pA (pC p0)), (pA (pD p0)), (pA (pE p0)), (pA (pF p0)), (pA (pG p0)), (pA (pH p0)), (pB (pA p0)), (pB (pB p0)), (pB (pC p0)), (pB (pD p0))] (cSeq (cReg ((o1 vMov (gK (.int .i64 0)) (pA (pE p0))) <|
 oEnd)) (cSeq (cSeq (cReg ((o1 vMov (gA (gB g0)) (pA (pH p0))) <|
 ((o1 vLenS (gA (gH g0)) (pB (pA p0))) <|
 ((o2 vEql (gB (gA g0)) (gK (.int .i64 0)) (pB (pB p0))) <|
 oEnd)))) (cIf (gB (gB g0)) (cSeq (cReg ((o1 vMov (gA (gA g0)) (pB (pC p0))) <|
 ((oCall 70 [(gB (gC g0))] (pB (pD p0))) <|
 ((o2 vAdd (gB (gD g0)) (gK (.int .i64 1)) (pB (pE p0))) <|
 ((o1 vMov (gB (gE g0)) (pA (pE p0))) <|
 oEnd))))) (cExit 0)) cSkip)) (cSeq (cSeq (cReg ((o1 vMov (gA (gB g0)) (pB (pF p0))) <|
 ((o1 vLenS (gB (gF g0)) (pB (pG p0))) <|
 ((o2 vEql (gB (gG g0)) (gK (.int .i64 1)) (pB (pH p0))) <|
 oEnd)))) (cIf (gB (gH g0)) (cSeq (cReg ((o1 vMov (gA (gA g0)) (pC (pA p0))) <|
 ((o1 vMov (gA (gB g0)) (pC (pB p0))) <|
 ((o2 vIdxS (gC (gB g0)) (gK (.int .i64 0)) (pC (pC p0))) <|
 ((oSlow K2.gt ⟨(some 19), none, (.h (.xrow 1 [(.t 16), (.t 18)])), false, []⟩ (pC (pD p0))) <|
 ((o1 vMov (gC (gD g0)) (pA (pE p0))) <|
 oEnd)))))) (cExit 0)) cSkip)) (cSeq (cReg ((o1 vMov (gK (.int .i64 0)) (pA (pF p0))) <|
 oEnd)) (cBlock 1 (cLoop (cBlock 2 (cSeq (cReg ((o1 vMov (gA (gA g0)) (pC (pE p0))) <|
 ((o1 vMov (gA (gB g0)) (pC (pF p0))) <|
 ((oCall 61 [(gC (gE g0)), (gC (gF g0))] (pC (pG p0))) <|
 ((o1 vMov (gC (gG g0)) (pA (pG p0))) <|
 oEnd))))) (cSeq (cSeq (cReg ((o1 vMov (gA (gG g0)) (pC (pH p0))) <|
 ((o2 vEql (gC (gH g0)) (gK (.int .i64 (-1))) (pD (pA p0))) <|
 oEnd))) (cIf (gD (gA g0)) (cSeq (cReg ((o1 vMov (gA (gF g0)) (pD (pB p0))) <|
 ((o1 vMov (gD (gB g0)) (pA (pE p0))) <|
 oEnd))) (cExit 0)) cSkip)) (cSeq (cReg ((o1 vMov (gA (gF g0)) (pD (pC p0))) <|
 ((o2 vAdd (gD (gC g0)) (gK (.int .i64 1)) (pD (pD p0))) <|
 ((o1 vMov (gD (gD g0)) (pA (pF p0))) <|
 oEnd)))) (cReg ((o1 vMov (gA (gA g0)) (pD (pE p0))) <|
 ((o1 vMov (gA (gG g0)) (pD (pF p0))) <|
 ((o1 vMov (gA (gB g0)) (pD (pG p0))) <|
 ((o1 vLenS (gD (gG g0)) (pD (pH p0))) <|
 ((o2 vAdd (gD (gF g0)) (gD (gH g0)) (pE (pA p0))) <|
 ((oSlow K2.gt ⟨(some 33), none, (.p (.slT (.t 28) (some (.t 32)) none)), false, []⟩ (pE (pB p0))) <|
 ((o1 vMov (gE (gB g0)) (pA (pA p0))) <|
 oEnd)))))))))))))))))) [(rT (gA (gE g0)))]
theorem u60_ok : denA k60 = u60 := dA2 rfl rfl (dF rfl rfl rfl (dS (dR (dc rfl dn)) (dS (dS (dR (dc rfl (dc rfl (dc rfl dn)))) (dI rfl rfl (dS (dR (dc rfl (dc rfl (dc rfl (dc rfl dn))))) dT) dK)) (dS (dS (dR (dc rfl (dc rfl (dc rfl dn)))) (dI rfl rfl (dS (dR (dc rfl (dc rfl (dc rfl (dc (by kernel_rfl) (dc rfl dn)))))) dT) dK)) (dS (dR (dc rfl dn)) (dB (dL (dB (dS (dR (dc rfl (dc rfl (dc rfl (dc rfl dn))))) (dS (dS (dR (dc rfl (dc rfl dn))) (dI rfl rfl (dS (dR (dc rfl (dc rfl dn))) dT) dK)) (dS (dR (dc rfl (dc rfl (dc rfl dn)))) (dR (dc rfl (dc rfl (dc rfl (dc rfl (dc rfl (dc (by kernel_rfl) (dc rfl dn)))))))))))))))))))
/-- strings.Index -/
def u61 : Fu := fn K1.z [(pA p0), (pB p0), (pC p0), (pD p0), (pE p0), (pF p0), (pG p0), (pH p0)] (cSeq (cReg ((o1 vMov (gK (.int .i64 0)) (pE p0)) <|
 oEnd)) (cSeq (cReg ((o1 vMov (gA g0) (pF p0)) <|
 ((o1 vMov (gB g0) (pG p0)) <|
 ((oCall 73 [(gF g0), (gG g0)] (pH p0)) <|
 ((o1 vMov (gH g0) (pE p0)) <|
 oEnd))))) (cExit 0))) [(rT (gE g0))]
theorem u61_ok : denA k61 = u61 := dA1 rfl (dF rfl rfl rfl (dS (dR (dc rfl dn)) (dS (dR (dc rfl (dc rfl (dc rfl (dc rfl dn))))) dT)))
/-- internal/strconv.lower -/
def u62 : Fu := fn K1.z [(pA p0), (pB p0), (pC p0), (pD p0), (pE p0)] (cSeq (cReg ((o1 vMov (gK (.int .u8 0)) (pC p0)) <|
 oEnd)) (cSeq (cReg ((o1 vMov (gA g0) (pD p0)) <|
 ((o2 (vBin .or) (gD g0) (gK (.int .u8 32)) (pE p0)) <|
 ((o1 vMov (gE g0) (pC p0)) <|
 oEnd)))) (cExit 0))) [(rT (gC g0))]
theorem u62_ok : denA k62 = u62 := dA1 rfl (dF rfl rfl rfl (dS (dR (dc rfl dn)) (dS (dR (dc rfl (dc rfl (dc rfl dn)))) dT)))
/-- internal/strconv.underscoreOK -/
def u63 : Fu := fn K3.z [(pA (pA (pA p0))), (pA (pA (pB p0))), (pA (pA (pC p0))), (pA (pA (pD p0))), (pA (pA (pE p0))), (pA (pA (pF p0))), (pA (pA (pG p0))), (pA (pA (pH p0))), (pA (pB (pA p0))), (pA (pB (pB p0))), (pA (pB (pC p0))), (pA (pB (pD p0)))] (cSeq (cReg ((o1 vMov (gK (.bool false)) (pA (pA (pC p0)))) <|
 oEnd)) (cSeq (cReg ((o1 vMov (gK (.int .i32 94)) (pA (pA (pD p0)))) <|
 oEnd)) (cSeq (cReg ((o1 vMov (gK (.int .i64 0)) (pA (pA (pE p0)))) <|
 oEnd)) (cSeq (cSeq (cReg ((o1 vMov (gA (gA (gA g0))) (pA (pA (pG p0)))) <|
 ((o1 vLenS (gA (gA (gG g0))) (pA (pA (pH p0)))) <|
 ((o2 vGeq (gA (gA (gH g0))) (gK (.int .i64 1)) (pA (pB (pA p0)))) <|
 ((o1 vMov (gA (gB (gA g0))) (pA (pB (pB p0)))) <|
 ((oGuard (gA (gB (gB g0))) true (pA (pB (pC p0))) (o1 vMov (gA (gA (gA g0))) (pA (pB (pC p0))))) <|
 ((oGuard (gA (gB (gB g0))) true (pA (pB (pD p0))) (o2 vIdxS (gA (gB (gC g0))) (gK (.int .i64 0)) (pA (pB (pD p0))))) <|
 ((oGuard (gA (gB (gB g0))) true (pA (pB (pE p0))) (o2 vEql (gA (gB (gD g0))) (gK (.int .u8 45)) (pA (pB (pE p0))))) <|
 ((oGuard (gA (gB (gB g0))) true (pA (pB (pF p0))) (o1 vMov (gA (gB (gE g0))) (pA (pB (pF p0))))) <|
 ((oGuard (gA (gB (gF g0))) false (pA (pB (pG p0))) (o1 vMov (gA (gA (gA g0))) (pA (pB (pG p0))))) <|
 ((oGuard (gA (gB (gF g0))) false (pA (pB (pH p0))) (o2 vIdxS (gA (gB (gG g0))) (gK (.int .i64 0)) (pA (pB (pH p0))))) <|
 ((oGuard (gA (gB (gF g0))) false (pA (pC (pA p0))) (o2 vEql (gA (gB (gH g0))) (gK (.int .u8 43)) (pA (pC (pA p0))))) <|
 ((oGuard (gA (gB (gB g0))) true (pA (pC (pB p0))) (oSlow K3.gt ⟨(some 17), (some (9, true)), (.p (.pick (.t 13) (.c (.bool true)) (.t 16))), false, []⟩ (pA (pC (pB p0))))) <|
 ((oSlow K3.gt ⟨(some 18), none, (.p (.pick (.t 9) (.t 17) (.c (.bool false)))), false, []⟩ (pA (pC (pC p0)))) <|
 oEnd)))))))))))))) (cIf (gA (gC (gC g0))) (cReg ((o1 vMov (gA (gA (gA g0))) (pA (pC (pD p0)))) <|
 ((oSlow K3.gt ⟨(some 20), none, (.p (.slT (.t 19) (some (.c (.int .i64 1))) none)), false, []⟩ (pA (pC (pE p0)))) <|
 ((o1 vMov (gA (gC (gE g0))) (pA (pA (pA p0)))) <|
 oEnd)))) cSkip)) (cSeq (cReg ((o1 vMov (gK (.bool false)) (pA (pA (pF p0)))) <|
 oEnd)) (cSeq (cSeq (cReg ((o1 vMov (gA (gA (gA g0))) (pA (pC (pF p0)))) <|
 ((o1 vLenS (gA (gC (gF g0))) (pA (pC (pG p0)))) <|
 ((o2 vGeq (gA (gC (gG g0))) (gK (.int .i64 2)) (pA (pC (pH p0)))) <|
 ((o1 vMov (gA (gC (gH g0))) (pA (pD (pA p0)))) <|
 ((oGuard (gA (gD (gA g0))) true (pA (pD (pB p0))) (o1 vMov (gA (gA (gA g0))) (pA (pD (pB p0))))) <|
 ((oGuard (gA (gD (gA g0))) true (pA (pD (pC p0))) (o2 vIdxS (gA (gD (gB g0))) (gK (.int .i64 0)) (pA (pD (pC p0))))) <|
 ((oGuard (gA (gD (gA g0))) true (pA (pD (pD p0))) (o2 vEql (gA (gD (gC g0))) (gK (.int .u8 48)) (pA (pD (pD p0))))) <|
 ((oSlow K3.gt ⟨(some 28), none, (.p (.pick (.t 24) (.t 27) (.c (.bool false)))), false, []⟩ (pA (pD (pE p0)))) <|
 ((o1 vMov (gA (gD (gE g0))) (pA (pD (pF p0)))) <|
 ((oGuard (gA (gD (gF g0))) true (pA (pD (pG p0))) (o1 vMov (gA (gA (gA g0))) (pA (pD (pG p0))))) <|
 ((oGuard (gA (gD (gF g0))) true (pA (pD (pH p0))) (o2 vIdxS (gA (gD (gG g0))) (gK (.int .i64 1)) (pA (pD (pH p0))))) <|
 ((oGuard (gA (gD (gF g0))) true (pA (pE (pA p0))) (oCall 62 [(gA (gD (gH g0)))] (pA (pE (pA p0))))) <|
 ((oGuard (gA (gD (gF g0))) true (pA (pE (pB p0))) (o2 vEql (gA (gE (gA g0))) (gK (.int .u8 98)) (pA (pE (pB p0))))) <|
 ((oGuard (gA (gD (gF g0))) true (pA (pE (pC p0))) (o1 vMov (gA (gE (gB g0))) (pA (pE (pC p0))))) <|
 ((oGuard (gA (gE (gC g0))) false (pA (pE (pD p0))) (o1 vMov (gA (gA (gA g0))) (pA (pE (pD p0))))) <|
 ((oGuard (gA (gE (gC g0))) false (pA (pE (pE p0))) (o2 vIdxS (gA (gE (gD g0))) (gK (.int .i64 1)) (pA (pE (pE p0))))) <|
 ((oGuard (gA (gE (gC g0))) false (pA (pE (pF p0))) (oCall 62 [(gA (gE (gE g0)))] (pA (pE (pF p0))))) <|
 ((oGuard (gA (gE (gC g0))) false (pA (pE (pG p0))) (o2 vEql (gA (gE (gF g0))) (gK (.int .u8 111)) (pA (pE (pG p0))))) <|
 ((oGuard (gA (gD (gF g0))) true (pA (pE (pH p0))) (oSlow K3.gt ⟨(some 39), (some (29, true)), (.p (.pick (.t 34) (.c (.bool true)) (.t 38))), false, []⟩ (pA (pE (pH p0))))) <|
 ((oGuard (gA (gD (gF g0))) true (pA (pF (pA p0))) (o1 vMov (gA (gE (gH g0))) (pA (pF (pA p0))))) <|
 ((oGuard (gA (gF (gA g0))) false (pA (pF (pB p0))) (o1 vMov (gA (gA (gA g0))) (pA (pF (pB p0))))) <|
 ((oGuard (gA (gF (gA g0))) false (pA (pF (pC p0))) (o2 vIdxS (gA (gF (gB g0))) (gK (.int .i64 1)) (pA (pF (pC p0))))) <|
 ((oGuard (gA (gF (gA g0))) false (pA (pF (pD p0))) (oCall 62 [(gA (gF (gC g0)))] (pA (pF (pD p0))))) <|
 ((oGuard (gA (gF (gA g0))) false (pA (pF (pE p0))) (o2 vEql (gA (gF (gD g0))) (gK (.int .u8 120)) (pA (pF (pE p0))))) <|
 ((oGuard (gA (gD (gF g0))) true (pA (pF (pF p0))) (oSlow K3.gt ⟨(some 45), (some (29, true)), (.p (.pick (.t 40) (.c (.bool true)) (.t 44))), false, []⟩ (pA (pF (pF p0))))) <|
 ((oSlow K3.gt ⟨(some 46), none, (.p (.pick (.t 29) (.t 45) (.c (.bool false)))), false, []⟩ (pA (pF (pG p0)))) <|
 oEnd))))))))))))))))))))))))))) (cIf (gA (gF (gG g0))) (cSeq (cReg ((o1 vMov (gK (.int .i64 2)) (pA (pA (pE p0)))) <|
 oEnd)) (cSeq (cReg ((o1 vMov (gK (.int .i32 48)) (pA (pA (pD p0)))) <|
 oEnd)) (cReg ((o1 vMov (gA (gA (gA g0))) (pA (pF (pH p0)))) <|
 ((o2 vIdxS (gA (gF (gH g0))) (gK (.int .i64 1)) (pA (pG (pA p0)))) <|
 ((oCall 62 [(gA (gG (gA g0)))] (pA (pG (pB p0)))) <|
 ((o2 vEql (gA (gG (gB g0))) (gK (.int .u8 120)) (pA (pG (pC p0)))) <|
 ((o1 vMov (gA (gG (gC g0))) (pA (pA (pF p0)))) <|
 oEnd)))))))) cSkip)) (cSeq (cBlock 1 (cLoop (cSeq (cSeq (cReg ((o1 vMov (gA (gA (gE g0))) (pA (pG (pD p0)))) <|
 ((o1 vMov (gA (gA (gA g0))) (pA (pG (pE p0)))) <|
 ((o1 vLenS (gA (gG (gE g0))) (pA (pG (pF p0)))) <|
 ((o2 vLss (gA (gG (gD g0))) (gA (gG (gF g0))) (pA (pG (pG p0)))) <|
 oEnd))))) (cIf (gA (gG (gG g0))) cSkip (cExit 1))) (cSeq (cBlock 2 (cSeq (cSeq (cReg ((o1 vMov (gA (gA (gA g0))) (pA (pH (pB p0)))) <|
 ((o1 vMov (gA (gA (gE g0))) (pA (pH (pC p0)))) <|
 ((o2 vIdxS (gA (gH (gB g0))) (gA (gH (gC g0))) (pA (pH (pD p0)))) <|
 ((o2 vLeq (gK (.int .u8 48)) (gA (gH (gD g0))) (pA (pH (pE p0)))) <|
 ((o1 vMov (gA (gH (gE g0))) (pA (pH (pF p0)))) <|
 ((oGuard (gA (gH (gF g0))) true (pA (pH (pG p0))) (o1 vMov (gA (gA (gA g0))) (pA (pH (pG p0))))) <|
 ((oGuard (gA (gH (gF g0))) true (pA (pH (pH p0))) (o1 vMov (gA (gA (gE g0))) (pA (pH (pH p0))))) <|
 ((oGuard (gA (gH (gF g0))) true (pB (pA (pA p0))) (o2 vIdxS (gA (gH (gG g0))) (gA (gH (gH g0))) (pB (pA (pA p0))))) <|
 ((oGuard (gA (gH (gF g0))) true (pB (pA (pB p0))) (o2 vLeq (gB (gA (gA g0))) (gK (.int .u8 57)) (pB (pA (pB p0))))) <|
 ((oSlow K3.gt ⟨(some 66), none, (.p (.pick (.t 61) (.t 65) (.c (.bool false)))), false, []⟩ (pB (pA (pC p0)))) <|
 ((o1 vMov (gB (gA (gC g0))) (pB (pA (pD p0)))) <|
 ((oGuard (gB (gA (gD g0))) false (pB (pA (pE p0))) (o1 vMov (gA (gA (gF g0))) (pB (pA (pE p0))))) <|
 ((oGuard (gB (gA (gD g0))) false (pB (pA (pF p0))) (o1 vMov (gB (gA (gE g0))) (pB (pA (pF p0))))) <|
 ((oGuard (gB (gA (gF g0))) true (pB (pA (pG p0))) (o1 vMov (gA (gA (gA g0))) (pB (pA (pG p0))))) <|
 ((oGuard (gB (gA (gF g0))) true (pB (pA (pH p0))) (o1 vMov (gA (gA (gE g0))) (pB (pA (pH p0))))) <|
 ((oGuard (gB (gA (gF g0))) true (pB (pB (pA p0))) (o2 vIdxS (gB (gA (gG g0))) (gB (gA (gH g0))) (pB (pB (pA p0))))) <|
 ((oGuard (gB (gA (gF g0))) true (pB (pB (pB p0))) (oCall 62 [(gB (gB (gA g0)))] (pB (pB (pB p0))))) <|
 ((oGuard (gB (gA (gF g0))) true (pB (pB (pC p0))) (o2 vLeq (gK (.int .u8 97)) (gB (gB (gB g0))) (pB (pB (pC p0))))) <|
 ((oGuard (gB (gA (gD g0))) false (pB (pB (pD p0))) (oSlow K3.gt ⟨(some 75), (some (67, false)), (.p (.pick (.t 69) (.t 74) (.c (.bool false)))), false, []⟩ (pB (pB (pD p0))))) <|
 ((oGuard (gB (gA (gD g0))) false (pB (pB (pE p0))) (o1 vMov (gB (gB (gD g0))) (pB (pB (pE p0))))) <|
 ((oGuard (gB (gB (gE g0))) true (pB (pB (pF p0))) (o1 vMov (gA (gA (gA g0))) (pB (pB (pF p0))))) <|
 ((oGuard (gB (gB (gE g0))) true (pB (pB (pG p0))) (o1 vMov (gA (gA (gE g0))) (pB (pB (pG p0))))) <|
 ((oGuard (gB (gB (gE g0))) true (pB (pB (pH p0))) (o2 vIdxS (gB (gB (gF g0))) (gB (gB (gG g0))) (pB (pB (pH p0))))) <|
 ((oGuard (gB (gB (gE g0))) true (pB (pC (pA p0))) (oCall 62 [(gB (gB (gH g0)))] (pB (pC (pA p0))))) <|
 ((oGuard (gB (gB (gE g0))) true (pB (pC (pB p0))) (o2 vLeq (gB (gC (gA g0))) (gK (.int .u8 102)) (pB (pC (pB p0))))) <|
 ((oGuard (gB (gA (gD g0))) false (pB (pC (pC p0))) (oSlow K3.gt ⟨(some 82), (some (67, false)), (.p (.pick (.t 76) (.t 81) (.c (.bool false)))), false, []⟩ (pB (pC (pC p0))))) <|
 ((oSlow K3.gt ⟨(some 83), none, (.p (.pick (.t 67) (.c (.bool true)) (.t 82))), false, []⟩ (pB (pC (pD p0)))) <|
 oEnd)))))))))))))))))))))))))))) (cIf (gB (gC (gD g0))) (cSeq (cReg ((o1 vMov (gK (.int .i32 48)) (pA (pA (pD p0)))) <|
 oEnd)) (cExit 2)) cSkip)) (cSeq (cSeq (cReg ((o1 vMov (gA (gA (gA g0))) (pB (pC (pE p0)))) <|
 ((o1 vMov (gA (gA (gE g0))) (pB (pC (pF p0)))) <|
 ((o2 vIdxS (gB (gC (gE g0))) (gB (gC (gF g0))) (pB (pC (pG p0)))) <|
 ((o2 vEql (gB (gC (gG g0))) (gK (.int .u8 95)) (pB (pC (pH p0)))) <|
 oEnd))))) (cIf (gB (gC (gH g0))) (cSeq (cSeq (cReg ((o1 vMov (gA (gA (gD g0))) (pB (pD (pA p0)))) <|
 ((o2 vNeq (gB (gD (gA g0))) (gK (.int .i32 48)) (pB (pD (pB p0)))) <|
 oEnd))) (cIf (gB (gD (gB g0))) (cSeq (cReg ((o1 vMov (gK (.bool false)) (pA (pA (pC p0)))) <|
 oEnd)) (cExit 0)) cSkip)) (cSeq (cReg ((o1 vMov (gK (.int .i32 95)) (pA (pA (pD p0)))) <|
 oEnd)) (cExit 2))) cSkip)) (cSeq (cSeq (cReg ((o1 vMov (gA (gA (gD g0))) (pB (pD (pC p0)))) <|
 ((o2 vEql (gB (gD (gC g0))) (gK (.int .i32 95)) (pB (pD (pD p0)))) <|
 oEnd))) (cIf (gB (gD (gD g0))) (cSeq (cReg ((o1 vMov (gK (.bool false)) (pA (pA (pC p0)))) <|
 oEnd)) (cExit 0)) cSkip)) (cReg ((o1 vMov (gK (.int .i32 33)) (pA (pA (pD p0)))) <|
 oEnd)))))) (cReg ((o1 vMov (gA (gA (gE g0))) (pA (pG (pH p0)))) <|
 ((o2 vAdd (gA (gG (gH g0))) (gK (.int .i64 1)) (pA (pH (pA p0)))) <|
 ((o1 vMov (gA (gH (gA g0))) (pA (pA (pE p0)))) <|
 oEnd)))))))) (cSeq (cReg ((o1 vMov (gA (gA (gD g0))) (pB (pD (pE p0)))) <|
 ((o2 vNeq (gB (gD (gE g0))) (gK (.int .i32 95)) (pB (pD (pF p0)))) <|
 ((o1 vMov (gB (gD (gF g0))) (pA (pA (pC p0)))) <|
 oEnd)))) (cExit 0))))))))) [(rT (gA (gA (gC g0))))]
theorem u63_ok : denA k63 = u63 := dA3 rfl rfl rfl (dF rfl rfl rfl (dS (dR (dc rfl dn)) (dS (dR (dc rfl dn)) (dS (dR (dc rfl dn)) (dS (dS (dR (dc rfl (dc rfl (dc rfl (dc rfl (dc (by kernel_rfl) (dc (by kernel_rfl) (dc (by kernel_rfl) (dc (by kernel_rfl) (dc (by kernel_rfl) (dc (by kernel_rfl) (dc (by kernel_rfl) (dc (by kernel_rfl) (dc (by kernel_rfl) dn)))))))))))))) (dI rfl rfl (dR (dc rfl (dc (by kernel_rfl) (dc rfl dn)))) dK)) (dS (dR (dc rfl dn)) (dS (dS (dR (dc rfl (dc rfl (dc rfl (dc rfl (dc (by kernel_rfl) (dc (by kernel_rfl) (dc (by kernel_rfl) (dc (by kernel_rfl) (dc rfl (dc (by kernel_rfl) (dc (by kernel_rfl) (dc (by kernel_rfl) (dc (by kernel_rfl) (dc (by kernel_rfl) (dc (by kernel_rfl) (dc (by kernel_rfl) (dc (by kernel_rfl) (dc (by kernel_rfl) (dc (by kernel_rfl) (dc (by kernel_rfl) (dc (by kernel_rfl) (dc (by kernel_rfl) (dc (by kernel_rfl) (dc (by kernel_rfl) (dc (by kernel_rfl) (dc (by kernel_rfl) dn))))))))))))))))))))))))))) (dI rfl rfl (dS (dR (dc rfl dn)) (dS (dR (dc rfl dn)) (dR (dc rfl (dc rfl (dc rfl (dc rfl (dc rfl dn)))))))) dK)) (dS (dB (dL (dS (dS (dR (dc rfl (dc rfl (dc rfl (dc rfl dn))))) (dI rfl rfl dK dX)) (dS (dB (dS (dS (dR (dc rfl (dc rfl (dc rfl (dc rfl (dc rfl (dc (by kernel_rfl) (dc (by kernel_rfl) (dc (by kernel_rfl) (dc (by kernel_rfl) (dc (by kernel_rfl) (dc rfl (dc (by kernel_rfl) (dc (by kernel_rfl) (dc (by kernel_rfl) (dc (by kernel_rfl) (dc (by kernel_rfl) (dc (by kernel_rfl) (dc (by kernel_rfl) (dc (by kernel_rfl) (dc (by kernel_rfl) (dc (by kernel_rfl) (dc (by kernel_rfl) (dc (by kernel_rfl) (dc (by kernel_rfl) (dc (by kernel_rfl) (dc (by kernel_rfl) (dc (by kernel_rfl) dn)))))))))))))))))))))))))))) (dI rfl rfl (dS (dR (dc rfl dn)) dX) dK)) (dS (dS (dR (dc rfl (dc rfl (dc rfl (dc rfl dn))))) (dI rfl rfl (dS (dS (dR (dc rfl (dc rfl dn))) (dI rfl rfl (dS (dR (dc rfl dn)) dT) dK)) (dS (dR (dc rfl dn)) dX)) dK)) (dS (dS (dR (dc rfl (dc rfl dn))) (dI rfl rfl (dS (dR (dc rfl dn)) dT) dK)) (dR (dc rfl dn)))))) (dR (dc rfl (dc rfl (dc rfl dn)))))))) (dS (dR (dc rfl (dc rfl (dc rfl dn)))) dT)))))))))
/-- strconv.syntaxError -/
def u64 : Fu := fn K2.z [(pA (pA p0)), (pA (pB p0)), (pA (pC p0)), (pA (pD p0)), (pA (pE p0)), (pA (pF p0)), (pA (pG p0)), (pA (pH p0)), (pB (pA p0)), (pB (pB p0)), (pB (pC p0))] (cSeq (cReg ((o1 vMov (gK .nilp) (pA (pE p0))) <|
 oEnd)) (cSeq (cReg ((o1 vMov (gA (gA g0)) (pA (pF p0))) <|
 ((o1 vMov (gA (gB g0)) (pA (pG p0))) <|
 ((oCallQ 74 [(gA (gG g0))] (pA (pH p0))) <|
 ((m1 wLoad1 (gK (.ptr 1 0)) (pB (pA p0))) <|
 ((oSlow K2.gt ⟨(some 9), none, (.p (.build [(.str []), (.str []), .nili] [(0, 1, (.t 5)), (1, 1, (.t 7)), (2, 1, (.t 8))])), false, []⟩ (pB (pB p0))) <|
 ((m1 wBox (gB (gB g0)) (pB (pC p0))) <|
 ((o1 vMov (gB (gC g0)) (pA (pE p0))) <|
 oEnd)))))))) (cExit 0))) [(rT (gA (gE g0)))]
theorem u64_ok : denA k64 = u64 := dA2 rfl rfl (dF rfl rfl rfl (dS (dR (dc rfl dn)) (dS (dR (dc rfl (dc rfl (dc rfl (dc rfl (dc (by kernel_rfl) (dc rfl (dc rfl dn)))))))) dT)))
/-- strconv.rangeError -/
def u65 : Fu := fn K2.z [(pA (pA p0)), (pA (pB p0)), (pA (pC p0)), (pA (pD p0)), (pA (pE p0)), (pA (pF p0)), (pA (pG p0)), (pA (pH p0)), (pB (pA p0)), (pB (pB p0)), (pB (pC p0))] (cSeq (cReg ((o1 vMov (gK .nilp) (pA (pE p0))) <|
 oEnd)) (cSeq (cReg ((o1 vMov (gA (gA g0)) (pA (pF p0))) <|
 ((o1 vMov (gA (gB g0)) (pA (pG p0))) <|
 ((oCallQ 74 [(gA (gG g0))] (pA (pH p0))) <|
 ((m1 wLoad1 (gK (.ptr 2 0)) (pB (pA p0))) <|
 ((oSlow K2.gt ⟨(some 9), none, (.p (.build [(.str []), (.str []), .nili] [(0, 1, (.t 5)), (1, 1, (.t 7)), (2, 1, (.t 8))])), false, []⟩ (pB (pB p0))) <|
 ((m1 wBox (gB (gB g0)) (pB (pC p0))) <|
 ((o1 vMov (gB (gC g0)) (pA (pE p0))) <|
 oEnd)))))))) (cExit 0))) [(rT (gA (gE g0)))]
theorem u65_ok : denA k65 = u65 := dA2 rfl rfl (dF rfl rfl rfl (dS (dR (dc rfl dn)) (dS (dR (dc rfl (dc rfl (dc rfl (dc rfl (dc (by kernel_rfl) (dc rfl (dc rfl dn)))))))) dT)))
/-- strconv.baseError -/
def u66 : Fu := fn K2.z [(pA (pA p0)), (pA (pB p0)), (pA (pC p0)), (pA (pD p0)), (pA (pE p0)), (pA (pF p0)), (pA (pG p0)), (pA (pH p0)), (pB (pA p0)), (pB (pB p0)), (pB (pC p0)), (pB (pD p0))] (cSeq (cReg ((o1 vMov (gK .nilp) (pA (pG p0))) <|
 oEnd)) (cSeq (cReg ((o1 vMov (gA (gA g0)) (pA (pH p0))) <|
 ((o1 vMov (gA (gB g0)) (pB (pA p0))) <|
 ((oCall 74 [(gB (gA g0))] (pB (pB p0))) <|
 ((o1 vMov (gA (gC g0)) (pB (pC p0))) <|
 ((oCall 51 [(gB (gC g0))] (pB (pD p0))) <|
 ((o2 vAdd (gK (.str [105, 110, 118, 97, 108, 105, 100, 32, 98, 97, 115, 101, 32])) (gB (gD g0)) (pB (pE p0))) <|
 ((oCall 75 [(gB (gE g0))] (pB (pF p0))) <|
 ((oSlow K2.gt ⟨(some 14), none, (.p (.build [(.str []), (.str []), .nili] [(0, 1, (.t 7)), (1, 1, (.t 9)), (2, 1, (.t 13))])), false, []⟩ (pB (pG p0))) <|
 ((m1 wBox (gB (gG g0)) (pB (pH p0))) <|
 ((o1 vMov (gB (gH g0)) (pA (pG p0))) <|
 oEnd))))))))))) (cExit 0))) [(rT (gA (gG g0)))]
theorem u66_ok : denA k66 = u66 := dA2 rfl rfl (dF rfl rfl rfl (dS (dR (dc rfl dn)) (dS (dR (dc rfl (dc rfl (dc rfl (dc rfl (dc rfl (dc rfl (dc rfl (dc (by kernel_rfl) (dc rfl (dc rfl dn))))))))))) dT)))
/-- strconv.bitSizeError -/
def u67 : Fu := fn K2.z [(pA (pA p0)), (pA (pB p0)), (pA (pC p0)), (pA (pD p0)), (pA (pE p0)), (pA (pF p0)), (pA (pG p0)), (pA (pH p0)), (pB (pA p0)), (pB (pB p0)), (pB (pC p0)), (pB (pD p0))] (cSeq (cReg ((o1 vMov (gK .nilp) (pA (pG p0))) <|
 oEnd)) (cSeq (cReg ((o1 vMov (gA (gA g0)) (pA (pH p0))) <|
 ((o1 vMov (gA (gB g0)) (pB (pA p0))) <|
 ((oCall 74 [(gB (gA g0))] (pB (pB p0))) <|
 ((o1 vMov (gA (gC g0)) (pB (pC p0))) <|
 ((oCall 51 [(gB (gC g0))] (pB (pD p0))) <|
 ((o2 vAdd (gK (.str [105, 110, 118, 97, 108, 105, 100, 32, 98, 105, 116, 32, 115, 105, 122, 101, 32])) (gB (gD g0)) (pB (pE p0))) <|
 ((oCall 75 [(gB (gE g0))] (pB (pF p0))) <|
 ((oSlow K2.gt ⟨(some 14), none, (.p (.build [(.str []), (.str []), .nili] [(0, 1, (.t 7)), (1, 1, (.t 9)), (2, 1, (.t 13))])), false, []⟩ (pB (pG p0))) <|
 ((m1 wBox (gB (gG g0)) (pB (pH p0))) <|
 ((o1 vMov (gB (gH g0)) (pA (pG p0))) <|
 oEnd))))))))))) (cExit 0))) [(rT (gA (gG g0)))]
theorem u67_ok : denA k67 = u67 := dA2 rfl rfl (dF rfl rfl rfl (dS (dR (dc rfl dn)) (dS (dR (dc rfl (dc rfl (dc rfl (dc rfl (dc rfl (dc rfl (dc rfl (dc (by kernel_rfl) (dc rfl (dc rfl dn))))))))))) dT)))
/-- internal/strconv.ParseInt -/
def u68 : Fu := fn K3.z [(pA (pA (pA p0))), (pA (pA (pB p0))), (pA (pA (pC p0))), (pA (pA (pD p0))), (pA (pA (pE p0))), (pA (pA (pF p0))), (pA (pA (pG p0))), (pA (pA (pH p0))), (pA (pB (pA p0))), (pA (pB (pB p0))), (pA (pB (pC p0))), (pA (pB (pD p0)))] (cSeq (cReg ((o1 vMov (gK (.int .i64 0)) (pA (pA (pG p0)))) <|
 ((o1 vMov (gK .nili) (pA (pA (pH p0)))) <|
 oEnd))) (cSeq (cSeq (cReg ((o1 vMov (gA (gA (gA g0))) (pA (pB (pE p0)))) <|
 ((o2 vEql (gA (gB (gE g0))) (gK (.str [])) (pA (pB (pF p0)))) <|
 oEnd))) (cIf (gA (gB (gF g0))) (cSeq (cReg ((o1 (vMkif 105) (gK (.int .i64 2)) (pA (pB (pG p0)))) <|
 ((o1 vMov (gK (.int .i64 0)) (pA (pA (pG p0)))) <|
 ((o1 vMov (gA (gB (gG g0))) (pA (pA (pH p0)))) <|
 oEnd)))) (cExit 0)) cSkip)) (cSeq (cReg ((o1 vMov (gK (.bool false)) (pA (pB (pA p0)))) <|
 oEnd)) (cSeq (cSeq (cReg ((o1 vMov (gA (gA (gA g0))) (pA (pB (pH p0)))) <|
 ((o2 vIdxS (gA (gB (gH g0))) (gK (.int .i64 0)) (pA (pC (pA p0)))) <|
 oEnd))) (cBlock 1 (cSeq (cReg ((o2 vEql (gA (gC (gA g0))) (gK (.int .u8 43)) (pA (pC (pC p0)))) <|
 ((o1 vMov (gA (gC (gC g0))) (pA (pC (pB p0)))) <|
 oEnd))) (cIf (gA (gC (gB g0))) (cReg ((o1 vMov (gA (gA (gA g0))) (pA (pC (pD p0)))) <|
 ((oSlow K3.gt ⟨(some 20), none, (.p (.slT (.t 19) (some (.c (.int .i64 1))) none)), false, []⟩ (pA (pC (pE p0)))) <|
 ((o1 vMov (gA (gC (gE g0))) (pA (pA (pA p0)))) <|
 oEnd)))) (cSeq (cReg ((o2 vEql (gA (gC (gA g0))) (gK (.int .u8 45)) (pA (pC (pG p0)))) <|
 ((o1 vMov (gA (gC (gG g0))) (pA (pC (pF p0)))) <|
 oEnd))) (cIf (gA (gC (gF g0))) (cSeq (cReg ((o1 vMov (gA (gA (gA g0))) (pA (pC (pH p0)))) <|
 ((oSlow K3.gt ⟨(some 24), none, (.p (.slT (.t 23) (some (.c (.int .i64 1))) none)), false, []⟩ (pA (pD (pA p0)))) <|
 ((o1 vMov (gA (gD (gA g0))) (pA (pA (pA p0)))) <|
 oEnd)))) (cReg ((o1 vMov (gK (.bool true)) (pA (pB (pA p0)))) <|
 oEnd))) cSkip)))))) (cSeq (cReg ((o1 vMov (gK (.int .u64 0)) (pA (pB (pB p0)))) <|
 oEnd)) (cSeq (cReg ((o1 vMov (gA (gA (gA g0))) (pA (pD (pC p0)))) <|
 ((o1 vMov (gA (gA (gB g0))) (pA (pD (pD p0)))) <|
 ((o1 vMov (gA (gA (gC g0))) (pA (pD (pE p0)))) <|
 ((oCall 55 [(gA (gD (gC g0))), (gA (gD (gD g0))), (gA (gD (gE g0)))] (pA (pD (pF p0)))) <|
 ((o1 vMov (gA (gD (gF g0))) (pA (pD (pB p0)))) <|
 ((o1 (vExt 0) (gA (gD (gB g0))) (pA (pD (pG p0)))) <|
 ((o1 (vExt 1) (gA (gD (gB g0))) (pA (pD (pH p0)))) <|
 ((o1 vMov (gA (gD (gG g0))) (pA (pB (pB p0)))) <|
 ((o1 vMov (gA (gD (gH g0))) (pA (pA (pH p0)))) <|
 oEnd)))))))))) (cSeq (cSeq (cReg ((o1 vMov (gA (gA (gH g0))) (pA (pE (pA p0)))) <|
 ((o2 (vEqn true 0) (gA (gE (gA g0))) (gK .nili) (pA (pE (pB p0)))) <|
 ((o1 vMov (gA (gE (gB g0))) (pA (pE (pC p0)))) <|
 ((oGuard (gA (gE (gC g0))) true (pA (pE (pD p0))) (o1 vMov (gA (gA (gH g0))) (pA (pE (pD p0))))) <|
 ((oGuard (gA (gE (gC g0))) true (pA (pE (pE p0))) (o1 (vMkif 105) (gK (.int .i64 1)) (pA (pE (pE p0))))) <|
 ((oGuard (gA (gE (gC g0))) true (pA (pE (pF p0))) (oSlow K3.gt ⟨(some 37), (some (34, true)), (.h .bad), false, []⟩ (pA (pE (pF p0))))) <|
 ((oSlow K3.gt ⟨(some 38), none, (.p (.pick (.t 34) (.t 37) (.c (.bool false)))), false, []⟩ (pA (pE (pG p0)))) <|
 oEnd)))))))) (cIf (gA (gE (gG g0))) (cSeq (cReg ((o1 vMov (gA (gA (gH g0))) (pA (pE (pH p0)))) <|
 ((o1 vMov (gK (.int .i64 0)) (pA (pA (pG p0)))) <|
 ((o1 vMov (gA (gE (gH g0))) (pA (pA (pH p0)))) <|
 oEnd)))) (cExit 0)) cSkip)) (cSeq (cSeq (cReg ((o1 vMov (gA (gA (gC g0))) (pA (pF (pA p0)))) <|
 ((o2 vEql (gA (gF (gA g0))) (gK (.int .i64 0)) (pA (pF (pB p0)))) <|
 oEnd))) (cIf (gA (gF (gB g0))) (cReg ((o1 vMov (gK (.int .i64 64)) (pA (pA (pC p0)))) <|
 oEnd)) cSkip)) (cSeq (cReg ((o1 vMov (gA (gA (gC g0))) (pA (pF (pC p0)))) <|
 ((o2 vSub (gA (gF (gC g0))) (gK (.int .i64 1)) (pA (pF (pD p0)))) <|
 ((o1 (vCvi .u64) (gA (gF (gD g0))) (pA (pF (pE p0)))) <|
 ((o2 (vBin .shl) (gK (.int .u64 1)) (gA (gF (gE g0))) (pA (pF (pF p0)))) <|
 ((o1 vMov (gA (gF (gF g0))) (pA (pB (pC p0)))) <|
 oEnd)))))) (cSeq (cSeq (cReg ((o1 vMov (gA (gB (gA g0))) (pA (pF (pG p0)))) <|
 ((o1 vNot (gA (gF (gG g0))) (pA (pF (pH p0)))) <|
 ((o1 vMov (gA (gF (gH g0))) (pA (pG (pA p0)))) <|
 ((oGuard (gA (gG (gA g0))) true (pA (pG (pB p0))) (o1 vMov (gA (gB (gB g0))) (pA (pG (pB p0))))) <|
 ((oGuard (gA (gG (gA g0))) true (pA (pG (pC p0))) (o1 vMov (gA (gB (gC g0))) (pA (pG (pC p0))))) <|
 ((oGuard (gA (gG (gA g0))) true (pA (pG (pD p0))) (o2 vGeq (gA (gG (gB g0))) (gA (gG (gC g0))) (pA (pG (pD p0))))) <|
 ((oSlow K3.gt ⟨(some 52), none, (.p (.pick (.t 48) (.t 51) (.c (.bool false)))), false, []⟩ (pA (pG (pE p0)))) <|
 oEnd)))))))) (cIf (gA (gG (gE g0))) (cSeq (cReg ((o1 vMov (gA (gB (gC g0))) (pA (pG (pF p0)))) <|
 ((o2 vSub (gA (gG (gF g0))) (gK (.int .u64 1)) (pA (pG (pG p0)))) <|
 ((o1 (vCvi .i64) (gA (gG (gG g0))) (pA (pG (pH p0)))) <|
 ((o1 (vMkif 105) (gK (.int .i64 1)) (pA (pH (pA p0)))) <|
 ((o1 vMov (gA (gG (gH g0))) (pA (pA (pG p0)))) <|
 ((o1 vMov (gA (gH (gA g0))) (pA (pA (pH p0)))) <|
 oEnd))))))) (cExit 0)) cSkip)) (cSeq (cSeq (cReg ((o1 vMov (gA (gB (gA g0))) (pA (pH (pB p0)))) <|
 ((o1 vMov (gA (gH (gB g0))) (pA (pH (pC p0)))) <|
 ((oGuard (gA (gH (gC g0))) true (pA (pH (pD p0))) (o1 vMov (gA (gB (gB g0))) (pA (pH (pD p0))))) <|
 ((oGuard (gA (gH (gC g0))) true (pA (pH (pE p0))) (o1 vMov (gA (gB (gC g0))) (pA (pH (pE p0))))) <|
 ((oGuard (gA (gH (gC g0))) true (pA (pH (pF p0))) (o2 vGtr (gA (gH (gD g0))) (gA (gH (gE g0))) (pA (pH (pF p0))))) <|
 ((oSlow K3.gt ⟨(some 62), none, (.p (.pick (.t 58) (.t 61) (.c (.bool false)))), false, []⟩ (pA (pH (pG p0)))) <|
 oEnd))))))) (cIf (gA (gH (gG g0))) (cSeq (cReg ((o1 vMov (gA (gB (gC g0))) (pA (pH (pH p0)))) <|
 ((o1 (vCvi .i64) (gA (gH (gH g0))) (pB (pA (pA p0)))) <|
 ((oSlow K3.gt ⟨(some 65), none, (.p (.neg (.t 64))), false, []⟩ (pB (pA (pB p0)))) <|
 ((o1 (vMkif 105) (gK (.int .i64 1)) (pB (pA (pC p0)))) <|
 ((o1 vMov (gB (gA (gB g0))) (pA (pA (pG p0)))) <|
 ((o1 vMov (gB (gA (gC g0))) (pA (pA (pH p0)))) <|
 oEnd))))))) (cExit 0)) cSkip)) (cSeq (cReg ((o1 vMov (gA (gB (gB g0))) (pB (pA (pD p0)))) <|
 ((o1 (vCvi .i64) (gB (gA (gD g0))) (pB (pA (pE p0)))) <|
 ((o1 vMov (gB (gA (gE g0))) (pA (pB (pD p0)))) <|
 oEnd)))) (cSeq (cSeq (cReg ((o1 vMov (gA (gB (gA g0))) (pB (pA (pF p0)))) <|
 oEnd)) (cIf (gB (gA (gF g0))) (cReg ((o1 vMov (gA (gB (gD g0))) (pB (pA (pG p0)))) <|
 ((oSlow K3.gt ⟨(some 71), none, (.p (.neg (.t 70))), false, []⟩ (pB (pA (pH p0)))) <|
 ((o1 vMov (gB (gA (gH g0))) (pA (pB (pD p0)))) <|
 oEnd)))) cSkip)) (cSeq (cReg ((o1 vMov (gA (gB (gD g0))) (pB (pB (pA p0)))) <|
 ((o1 vMov (gB (gB (gA g0))) (pA (pA (pG p0)))) <|
 ((o1 vMov (gK .nili) (pA (pA (pH p0)))) <|
 oEnd)))) (cExit 0))))))))))))))) [(rT (gA (gA (gG g0)))), (rT (gA (gA (gH g0))))]
theorem u68_ok : denA k68 = u68 := dA3 rfl rfl rfl (dF rfl rfl rfl (dS (dR (dc rfl (dc rfl dn))) (dS (dS (dR (dc rfl (dc rfl dn))) (dI rfl rfl (dS (dR (dc rfl (dc rfl (dc rfl dn)))) dT) dK)) (dS (dR (dc rfl dn)) (dS (dS (dR (dc rfl (dc rfl dn))) (dB (dS (dR (dc rfl (dc rfl dn))) (dI rfl rfl (dR (dc rfl (dc (by kernel_rfl) (dc rfl dn)))) (dS (dR (dc rfl (dc rfl dn))) (dI rfl rfl (dS (dR (dc rfl (dc (by kernel_rfl) (dc rfl dn)))) (dR (dc rfl dn))) dK)))))) (dS (dR (dc rfl dn)) (dS (dR (dc rfl (dc rfl (dc rfl (dc rfl (dc rfl (dc rfl (dc rfl (dc rfl (dc rfl dn)))))))))) (dS (dS (dR (dc rfl (dc rfl (dc rfl (dc (by kernel_rfl) (dc (by kernel_rfl) (dc (by kernel_rfl) (dc (by kernel_rfl) dn)))))))) (dI rfl rfl (dS (dR (dc rfl (dc rfl (dc rfl dn)))) dT) dK)) (dS (dS (dR (dc rfl (dc rfl dn))) (dI rfl rfl (dR (dc rfl dn)) dK)) (dS (dR (dc rfl (dc rfl (dc rfl (dc rfl (dc rfl dn)))))) (dS (dS (dR (dc rfl (dc rfl (dc rfl (dc (by kernel_rfl) (dc (by kernel_rfl) (dc (by kernel_rfl) (dc (by kernel_rfl) dn)))))))) (dI rfl rfl (dS (dR (dc rfl (dc rfl (dc rfl (dc rfl (dc rfl (dc rfl dn))))))) dT) dK)) (dS (dS (dR (dc rfl (dc rfl (dc (by kernel_rfl) (dc (by kernel_rfl) (dc (by kernel_rfl) (dc (by kernel_rfl) dn))))))) (dI rfl rfl (dS (dR (dc rfl (dc rfl (dc (by kernel_rfl) (dc rfl (dc rfl (dc rfl dn))))))) dT) dK)) (dS (dR (dc rfl (dc rfl (dc rfl dn)))) (dS (dS (dR (dc rfl dn)) (dI rfl rfl (dR (dc rfl (dc (by kernel_rfl) (dc rfl dn)))) dK)) (dS (dR (dc rfl (dc rfl (dc rfl dn)))) dT)))))))))))))))
/-- internal/strconv.FormatInt -/
def u69 : Fu := fn K2.z [(pA (pA p0)), (pA (pB p0)), (pA (pC p0)), (pA (pD p0)), (pA (pE p0)), (pA (pF p0)), (pA (pG p0)), (pA (pH p0)), (pB (pA p0)), (pB (pB p0)), (pB (pC p0)), (pB (pD p0))] (cSeq (cReg ((o1 vMov (gK (.str [])) (pA (pE p0))) <|
 oEnd)) (cSeq (cSeq (cReg ((o1 vMov (gA (gB g0)) (pB (pC p0))) <|
 ((o2 vEql (gB (gC g0)) (gK (.int .i64 10)) (pB (pD p0))) <|
 oEnd))) (cIf (gB (gD g0)) (cSeq (cSeq (cReg ((o1 vMov (gA (gA g0)) (pB (pE p0))) <|
 ((o2 vLeq (gK (.int .i64 0)) (gB (gE g0)) (pB (pF p0))) <|
 ((o1 vMov (gB (gF g0)) (pB (pG p0))) <|
 ((oGuard (gB (gG g0)) true (pB (pH p0)) (o1 vMov (gA (gA g0)) (pB (pH p0)))) <|
 ((oGuard (gB (gG g0)) true (pC (pA p0)) (o2 vLss (gB (gH g0)) (gK (.int .i64 100)) (pC (pA p0)))) <|
 ((oSlow K2.gt ⟨(some 17), none, (.p (.pick (.t 14) (.t 16) (.c (.bool false)))), false, []⟩ (pC (pB p0))) <|
 oEnd))))))) (cIf (gC (gB g0)) (cSeq (cReg ((o1 vMov (gA (gA g0)) (pC (pC p0))) <|
 ((oCall 76 [(gC (gC g0))] (pC (pD p0))) <|
 ((o1 vMov (gC (gD g0)) (pA (pE p0))) <|
 oEnd)))) (cExit 0)) cSkip)) (cSeq (cReg ((oAlloc [(.int .u8 0), (.int .u8 0), (.int .u8 0), (.int .u8 0), (.int .u8 0), (.int .u8 0), (.int .u8 0), (.int .u8 0), (.int .u8 0), (.int .u8 0), (.int .u8 0), (.int .u8 0), (.int .u8 0), (.int .u8 0), (.int .u8 0), (.int .u8 0), (.int .u8 0), (.int .u8 0), (.int .u8 0), (.int .u8 0), (.int .u8 0), (.int .u8 0), (.int .u8 0), (.int .u8 0)] (pA (pF p0))) <|
 oEnd)) (cSeq (cReg ((o1 vMov (gA (gA g0)) (pC (pE p0))) <|
 ((o1 (vCvi .u64) (gC (gE g0)) (pC (pF p0))) <|
 ((o1 vMov (gC (gF g0)) (pA (pG p0))) <|
 oEnd)))) (cSeq (cSeq (cReg ((o1 vMov (gA (gA g0)) (pC (pG p0))) <|
 ((o2 vLss (gC (gG g0)) (gK (.int .i64 0)) (pC (pH p0))) <|
 oEnd))) (cIf (gC (gH g0)) (cReg ((o1 vMov (gA (gG g0)) (pD (pA p0))) <|
 ((oSlow K2.gt ⟨(some 25), none, (.p (.neg (.t 24))), false, []⟩ (pD (pB p0))) <|
 ((o1 vMov (gD (gB g0)) (pA (pG p0))) <|
 oEnd)))) cSkip)) (cSeq (cReg ((o1 vMov (gA (gG g0)) (pD (pC p0))) <|
 ((oCall 77 [(gD (gC g0))] (pD (pD p0))) <|
 ((o1 vMov (gD (gD g0)) (pA (pH p0))) <|
 oEnd)))) (cSeq (cReg ((o1 vMov (gA (gH g0)) (pD (pE p0))) <|
 ((o2 vAdd (gK (.int .i64 1)) (gD (gE g0)) (pD (pF p0))) <|
 ((oSlow K2.gt ⟨(some 30), none, (.h (.slA 24 1 (.t 5) (some (.c (.int .i64 1))) (some (.t 29)) none)), false, []⟩ (pD (pG p0))) <|
 ((o1 vMov (gA (gG g0)) (pD (pH p0))) <|
 ((oCall 78 [(gD (gG g0)), (gD (gH g0))] (pE (pA p0))) <|
 oEnd)))))) (cSeq (cSeq (cReg ((o1 vMov (gA (gA g0)) (pE (pB p0))) <|
 ((o2 vLss (gE (gB g0)) (gK (.int .i64 0)) (pE (pC p0))) <|
 oEnd))) (cIf (gE (gC g0)) (cSeq (cReg ((o2 (vIadA 24 1) (gA (gF g0)) (gK (.int .i64 0)) (pE (pD p0))) <|
 ((oStore 1 (gE (gD g0)) (gK (.int .u8 45))) <|
 oEnd))) (cSeq (cReg ((o1 vMov (gA (gH g0)) (pE (pE p0))) <|
 ((o2 vAdd (gK (.int .i64 1)) (gE (gE g0)) (pE (pF p0))) <|
 ((oSlow K2.gt ⟨(some 38), none, (.h (.slA 24 1 (.t 5) none (some (.t 37)) none)), false, []⟩ (pE (pG p0))) <|
 ((oSlow K2.gt ⟨(some 39), none, (.h (.b2s (.t 38))), false, []⟩ (pE (pH p0))) <|
 ((o1 vMov (gE (gH g0)) (pA (pE p0))) <|
 oEnd)))))) (cExit 0))) cSkip)) (cSeq (cReg ((o1 vMov (gA (gH g0)) (pF (pA p0))) <|
 ((o2 vAdd (gK (.int .i64 1)) (gF (gA g0)) (pF (pB p0))) <|
 ((oSlow K2.gt ⟨(some 42), none, (.h (.slA 24 1 (.t 5) (some (.c (.int .i64 1))) (some (.t 41)) none)), false, []⟩ (pF (pC p0))) <|
 ((oSlow K2.gt ⟨(some 43), none, (.h (.b2s (.t 42))), false, []⟩ (pF (pD p0))) <|
 ((o1 vMov (gF (gD g0)) (pA (pE p0))) <|
 oEnd)))))) (cExit 0))))))))) cSkip)) (cSeq (cReg ((o1 vMov (gA (gA g0)) (pF (pF p0))) <|
 ((o1 (vCvi .u64) (gF (gF g0)) (pF (pG p0))) <|
 ((o1 vMov (gA (gB g0)) (pF (pH p0))) <|
 ((o1 vMov (gA (gA g0)) (pG (pA p0))) <|
 ((o2 vLss (gG (gA g0)) (gK (.int .i64 0)) (pG (pB p0))) <|
 ((oCall 79 [(gK .nils), (gF (gG g0)), (gF (gH g0)), (gG (gB g0)), (gK (.bool false))] (pG (pC p0))) <|
 ((o1 vMov (gG (gC g0)) (pF (pE p0))) <|
 ((o1 (vExt 0) (gF (gE g0)) (pG (pD p0))) <|
 ((o1 (vExt 1) (gF (gE g0)) (pG (pE p0))) <|
 ((o1 vMov (gG (gD g0)) (pB (pA p0))) <|
 ((o1 vMov (gG (gE g0)) (pB (pB p0))) <|
 oEnd)))))))))))) (cSeq (cReg ((o1 vMov (gB (gB g0)) (pG (pF p0))) <|
 ((o1 vMov (gG (gF g0)) (pA (pE p0))) <|
 oEnd))) (cExit 0))))) [(rT (gA (gE g0)))]
theorem u69_ok : denA k69 = u69 := dA2 rfl rfl (dF rfl rfl rfl (dS (dR (dc rfl dn)) (dS (dS (dR (dc rfl (dc rfl dn))) (dI rfl rfl (dS (dS (dR (dc rfl (dc rfl (dc rfl (dc (by kernel_rfl) (dc (by kernel_rfl) (dc (by kernel_rfl) dn))))))) (dI rfl rfl (dS (dR (dc rfl (dc rfl (dc rfl dn)))) dT) dK)) (dS (dR (dc (by kernel_rfl) dn)) (dS (dR (dc rfl (dc rfl (dc rfl dn)))) (dS (dS (dR (dc rfl (dc rfl dn))) (dI rfl rfl (dR (dc rfl (dc (by kernel_rfl) (dc rfl dn)))) dK)) (dS (dR (dc rfl (dc rfl (dc rfl dn)))) (dS (dR (dc rfl (dc rfl (dc (by kernel_rfl) (dc rfl (dc rfl dn)))))) (dS (dS (dR (dc rfl (dc rfl dn))) (dI rfl rfl (dS (dR (dc rfl (dc rfl dn))) (dS (dR (dc rfl (dc rfl (dc (by kernel_rfl) (dc (by kernel_rfl) (dc rfl dn)))))) dT)) dK)) (dS (dR (dc rfl (dc rfl (dc (by kernel_rfl) (dc (by kernel_rfl) (dc rfl dn)))))) dT)))))))) dK)) (dS (dR (dc rfl (dc rfl (dc rfl (dc rfl (dc rfl (dc rfl (dc rfl (dc rfl (dc rfl (dc rfl (dc rfl dn)))))))))))) (dS (dR (dc rfl (dc rfl dn))) dT)))))
/-- unicode/utf8.RuneCountInString -/
def u70 : Fu := fn K2.z [(pA (pA p0)), (pA (pB p0)), (pA (pC p0)), (pA (pD p0)), (pA (pE p0)), (pA (pF p0)), (pA (pG p0)), (pA (pH p0)), (pB (pA p0)), (pB (pB p0))] (cSeq (cReg ((o1 vMov (gK (.int .i64 0)) (pA (pC p0))) <|
 oEnd)) (cSeq (cSeq (cReg ((o1 vMov (gA (gA g0)) (pA (pD p0))) <|
 ((oSlow K2.gt ⟨(some 4), none, (.h (.range (.t 3))), false, []⟩ (pA (pE p0))) <|
 oEnd))) (cBlock 1 (cLoop (cSeq (cReg ((oSlow K2.gt ⟨(some 5), none, (.h (.next (.t 4))), false, []⟩ (pA (pF p0))) <|
 ((o1 (vExt 0) (gA (gF g0)) (pA (pG p0))) <|
 oEnd))) (cSeq (cIf (gA (gG g0)) cSkip (cExit 1)) (cBlock 2 (cReg ((o1 vMov (gA (gC g0)) (pA (pH p0))) <|
 ((o2 vAdd (gA (gH g0)) (gK (.int .i64 1)) (pB (pA p0))) <|
 ((o1 vMov (gB (gA g0)) (pA (pC p0))) <|
 oEnd)))))))))) (cSeq (cReg ((o1 vMov (gA (gC g0)) (pB (pB p0))) <|
 ((o1 vMov (gB (gB g0)) (pA (pC p0))) <|
 oEnd))) (cExit 0)))) [(rT (gA (gC g0)))]
theorem u70_ok : denA k70 = u70 := dA2 rfl rfl (dF rfl rfl rfl (dS (dR (dc rfl dn)) (dS (dS (dR (dc rfl (dc (by kernel_rfl) dn))) (dB (dL (dS (dR (dc (by kernel_rfl) (dc rfl dn))) (dS (dI rfl rfl dK dX) (dB (dR (dc rfl (dc rfl (dc rfl dn)))))))))) (dS (dR (dc rfl (dc rfl dn))) dT))))
/-- unicode/utf8.DecodeRuneInString -/
def u71 : Fu := fn K2.z [(pA (pA p0)), (pA (pB p0)), (pA (pC p0)), (pA (pD p0)), (pA (pE p0)), (pA (pF p0)), (pA (pG p0)), (pA (pH p0)), (pB (pA p0)), (pB (pB p0)), (pB (pC p0)), (pB (pD p0))] (cSeq (cReg ((o1 vMov (gK (.int .i32 0)) (pA (pC p0))) <|
 ((o1 vMov (gK (.int .i64 0)) (pA (pD p0))) <|
 oEnd))) (cSeq (cSeq (cReg ((o1 vMov (gA (gA g0)) (pA (pE p0))) <|
 ((o2 vNeq (gA (gE g0)) (gK (.str [])) (pA (pF p0))) <|
 ((o1 vMov (gA (gF g0)) (pA (pG p0))) <|
 ((oGuard (gA (gG g0)) true (pA (pH p0)) (o1 vMov (gA (gA g0)) (pA (pH p0)))) <|
 ((oGuard (gA (gG g0)) true (pB (pA p0)) (o2 vIdxS (gA (gH g0)) (gK (.int .i64 0)) (pB (pA p0)))) <|
 ((oGuard (gA (gG g0)) true (pB (pB p0)) (o2 vLss (gB (gA g0)) (gK (.int .u8 128)) (pB (pB p0)))) <|
 ((oSlow K2.gt ⟨(some 10), none, (.p (.pick (.t 6) (.t 9) (.c (.bool false)))), false, []⟩ (pB (pC p0))) <|
 oEnd)))))))) (cIf (gB (gC g0)) (cSeq (cReg ((o1 vMov (gA (gA g0)) (pB (pD p0))) <|
 ((o2 vIdxS (gB (gD g0)) (gK (.int .i64 0)) (pB (pE p0))) <|
 ((o1 (vCvi .i32) (gB (gE g0)) (pB (pF p0))) <|
 ((o1 vMov (gB (gF g0)) (pA (pC p0))) <|
 ((o1 vMov (gK (.int .i64 1)) (pA (pD p0))) <|
 oEnd)))))) (cExit 0)) (cReg ((o1 vMov (gA (gA g0)) (pB (pH p0))) <|
 ((oCall 80 [(gB (gH g0))] (pC (pA p0))) <|
 ((o1 vMov (gC (gA g0)) (pB (pG p0))) <|
 ((o1 (vExt 0) (gB (gG g0)) (pC (pB p0))) <|
 ((o1 (vExt 1) (gB (gG g0)) (pC (pC p0))) <|
 ((o1 vMov (gC (gB g0)) (pA (pC p0))) <|
 ((o1 vMov (gC (gC g0)) (pA (pD p0))) <|
 oEnd)))))))))) (cExit 0))) [(rT (gA (gC g0))), (rT (gA (gD g0)))]
theorem u71_ok : denA k71 = u71 := dA2 rfl rfl (dF rfl rfl rfl (dS (dR (dc rfl (dc rfl dn))) (dS (dS (dR (dc rfl (dc rfl (dc rfl (dc (by kernel_rfl) (dc (by kernel_rfl) (dc (by kernel_rfl) (dc (by kernel_rfl) dn)))))))) (dI rfl rfl (dS (dR (dc rfl (dc rfl (dc rfl (dc rfl (dc rfl dn)))))) dT) (dR (dc rfl (dc rfl (dc rfl (dc rfl (dc rfl (dc rfl (dc rfl dn)))))))))) dT)))
/-- internal/stringslite.Index -/
def u73 : Fu := fn K3.z [(pA (pA (pA p0))), (pA (pA (pB p0))), (pA (pA (pC p0))), (pA (pA (pD p0))), (pA (pA (pE p0))), (pA (pA (pF p0))), (pA (pA (pG p0))), (pA (pA (pH p0))), (pA (pB (pA p0))), (pA (pB (pB p0))), (pA (pB (pC p0))), (pA (pB (pD p0)))] (cSeq (cReg ((o1 vMov (gK (.int .i64 0)) (pA (pA (pE p0)))) <|
 oEnd)) (cSeq (cReg ((o1 vMov (gA (gA (gB g0))) (pA (pB (pG p0)))) <|
 ((o1 vLenS (gA (gB (gG g0))) (pA (pB (pH p0)))) <|
 ((o1 vMov (gA (gB (gH g0))) (pA (pA (pF p0)))) <|
 oEnd)))) (cSeq (cBlock 1 (cSeq (cReg ((o1 vMov (gA (gA (gF g0))) (pA (pC (pB p0)))) <|
 ((o2 vEql (gA (gC (gB g0))) (gK (.int .i64 0)) (pA (pC (pC p0)))) <|
 ((o1 vMov (gA (gC (gC g0))) (pA (pC (pD p0)))) <|
 ((oGuard (gA (gC (gD g0))) false (pA (pC (pE p0))) (o1 vMov (gA (gA (gB g0))) (pA (pC (pE p0))))) <|
 ((oGuard (gA (gC (gD g0))) false (pA (pC (pF p0))) (o1 vMov (gA (gA (gA g0))) (pA (pC (pF p0))))) <|
 ((oGuard (gA (gC (gD g0))) false (pA (pC (pG p0))) (o2 vEql (gA (gC (gE g0))) (gA (gC (gF g0))) (pA (pC (pG p0))))) <|
 ((oSlow K3.gt ⟨(some 23), none, (.p (.pick (.t 19) (.c (.bool true)) (.t 22))), false, []⟩ (pA (pC (pH p0)))) <|
 ((o1 vMov (gA (gC (gH g0))) (pA (pC (pA p0)))) <|
 oEnd))))))))) (cIf (gA (gC (gA g0))) (cSeq (cReg ((o1 vMov (gK (.int .i64 0)) (pA (pA (pE p0)))) <|
 oEnd)) (cExit 0)) (cSeq (cReg ((o1 vMov (gA (gA (gF g0))) (pA (pD (pB p0)))) <|
 ((o2 vEql (gA (gD (gB g0))) (gK (.int .i64 1)) (pA (pD (pC p0)))) <|
 ((o1 vMov (gA (gD (gC g0))) (pA (pD (pA p0)))) <|
 oEnd)))) (cIf (gA (gD (gA g0))) (cSeq (cReg ((o1 vMov (gA (gA (gA g0))) (pA (pD (pD p0)))) <|
 ((o1 vMov (gA (gA (gB g0))) (pA (pD (pE p0)))) <|
 ((o2 vIdxS (gA (gD (gE g0))) (gK (.int .i64 0)) (pA (pD (pF p0)))) <|
 ((oCall 81 [(gA (gD (gD g0))), (gA (gD (gF g0)))] (pA (pD (pG p0)))) <|
 ((o1 vMov (gA (gD (gG g0))) (pA (pA (pE p0)))) <|
 oEnd)))))) (cExit 0)) (cSeq (cReg ((o1 vMov (gA (gA (gF g0))) (pA (pE (pA p0)))) <|
 ((o1 vMov (gA (gA (gA g0))) (pA (pE (pB p0)))) <|
 ((o1 vLenS (gA (gE (gB g0))) (pA (pE (pC p0)))) <|
 ((o2 vGeq (gA (gE (gA g0))) (gA (gE (gC g0))) (pA (pE (pD p0)))) <|
 ((o1 vMov (gA (gE (gD g0))) (pA (pD (pH p0)))) <|
 oEnd)))))) (cIf (gA (gD (gH g0))) (cSeq (cReg ((o1 vMov (gK (.int .i64 (-1))) (pA (pA (pE p0)))) <|
 oEnd)) (cExit 0)) (cSeq (cReg ((o1 vMov (gA (gA (gF g0))) (pA (pE (pF p0)))) <|
 ((m1 wLoad1 (gK (.ptr 3 0)) (pA (pE (pG p0)))) <|
 ((o2 vLeq (gA (gE (gF g0))) (gA (gE (gG g0))) (pA (pE (pH p0)))) <|
 ((o1 vMov (gA (gE (gH g0))) (pA (pF (pA p0)))) <|
 ((oGuard (gA (gF (gA g0))) true (pA (pF (pB p0))) (o1 vMov (gA (gA (gA g0))) (pA (pF (pB p0))))) <|
 ((oGuard (gA (gF (gA g0))) true (pA (pF (pC p0))) (o1 vLenS (gA (gF (gB g0))) (pA (pF (pC p0))))) <|
 ((oGuard (gA (gF (gA g0))) true (pA (pF (pD p0))) (o2 vLeq (gA (gF (gC g0))) (gK (.int .i64 64)) (pA (pF (pD p0))))) <|
 ((oSlow K3.gt ⟨(some 44), none, (.p (.pick (.t 40) (.t 43) (.c (.bool false)))), false, []⟩ (pA (pF (pE p0)))) <|
 ((o1 vMov (gA (gF (gE g0))) (pA (pE (pE p0)))) <|
 oEnd)))))))))) (cIf (gA (gE (gE g0))) (cSeq (cReg ((o1 vMov (gA (gA (gA g0))) (pA (pF (pF p0)))) <|
 ((o1 vMov (gA (gA (gB g0))) (pA (pF (pG p0)))) <|
 ((oSlow K3.gt ⟨(some 47), none, (.h .bad), false, []⟩ (pA (pF (pH p0)))) <|
 ((o1 vMov (gA (gF (gH g0))) (pA (pA (pE p0)))) <|
 oEnd))))) (cExit 0)) cSkip))))))))) (cSeq (cReg ((o1 vMov (gA (gA (gB g0))) (pA (pG (pA p0)))) <|
 ((o2 vIdxS (gA (gG (gA g0))) (gK (.int .i64 0)) (pA (pG (pB p0)))) <|
 ((o1 vMov (gA (gG (gB g0))) (pA (pA (pG p0)))) <|
 oEnd)))) (cSeq (cReg ((o1 vMov (gA (gA (gB g0))) (pA (pG (pC p0)))) <|
 ((o2 vIdxS (gA (gG (gC g0))) (gK (.int .i64 1)) (pA (pG (pD p0)))) <|
 ((o1 vMov (gA (gG (gD g0))) (pA (pA (pH p0)))) <|
 oEnd)))) (cSeq (cReg ((o1 vMov (gK (.int .i64 0)) (pA (pB (pA p0)))) <|
 oEnd)) (cSeq (cReg ((o1 vMov (gA (gA (gA g0))) (pA (pG (pE p0)))) <|
 ((o1 vLenS (gA (gG (gE g0))) (pA (pG (pF p0)))) <|
 ((o1 vMov (gA (gA (gF g0))) (pA (pG (pG p0)))) <|
 ((o2 vSub (gA (gG (gF g0))) (gA (gG (gG g0))) (pA (pG (pH p0)))) <|
 ((o2 vAdd (gA (gG (gH g0))) (gK (.int .i64 1)) (pA (pH (pA p0)))) <|
 ((o1 vMov (gA (gH (gA g0))) (pA (pB (pB p0)))) <|
 oEnd))))))) (cSeq (cReg ((o1 vMov (gK (.int .i64 0)) (pA (pB (pC p0)))) <|
 oEnd)) (cSeq (cBlock 2 (cLoop (cSeq (cSeq (cReg ((o1 vMov (gA (gB (gA g0))) (pA (pH (pB p0)))) <|
 ((o1 vMov (gA (gB (gB g0))) (pA (pH (pC p0)))) <|
 ((o2 vLss (gA (gH (gB g0))) (gA (gH (gC g0))) (pA (pH (pD p0)))) <|
 oEnd)))) (cIf (gA (gH (gD g0))) cSkip (cExit 2))) (cBlock 3 (cSeq (cSeq (cReg ((o1 vMov (gA (gA (gA g0))) (pA (pH (pE p0)))) <|
 ((o1 vMov (gA (gB (gA g0))) (pA (pH (pF p0)))) <|
 ((o2 vIdxS (gA (gH (gE g0))) (gA (gH (gF g0))) (pA (pH (pG p0)))) <|
 ((o1 vMov (gA (gA (gG g0))) (pA (pH (pH p0)))) <|
 ((o2 vNeq (gA (gH (gG g0))) (gA (gH (gH g0))) (pB (pA (pA p0)))) <|
 oEnd)))))) (cIf (gB (gA (gA g0))) (cSeq (cReg ((o1 vMov (gA (gA (gA g0))) (pB (pA (pB p0)))) <|
 ((o1 vMov (gA (gB (gA g0))) (pB (pA (pC p0)))) <|
 ((o2 vAdd (gB (gA (gC g0))) (gK (.int .i64 1)) (pB (pA (pD p0)))) <|
 ((o1 vMov (gA (gB (gB g0))) (pB (pA (pE p0)))) <|
 ((oSlow K3.gt ⟨(some 69), none, (.p (.slT (.t 65) (some (.t 67)) (some (.t 68)))), false, []⟩ (pB (pA (pF p0)))) <|
 ((o1 vMov (gA (gA (gG g0))) (pB (pA (pG p0)))) <|
 ((oCall 81 [(gB (gA (gF g0))), (gB (gA (gG g0)))] (pB (pA (pH p0)))) <|
 ((o1 vMov (gB (gA (gH g0))) (pA (pB (pD p0)))) <|
 oEnd))))))))) (cSeq (cSeq (cReg ((o1 vMov (gA (gB (gD g0))) (pB (pB (pA p0)))) <|
 ((o2 vLss (gB (gB (gA g0))) (gK (.int .i64 0)) (pB (pB (pB p0)))) <|
 oEnd))) (cIf (gB (gB (gB g0))) (cSeq (cReg ((o1 vMov (gK (.int .i64 (-1))) (pA (pA (pE p0)))) <|
 oEnd)) (cExit 0)) cSkip)) (cReg ((o1 vMov (gA (gB (gA g0))) (pB (pB (pC p0)))) <|
 ((o1 vMov (gA (gB (gD g0))) (pB (pB (pD p0)))) <|
 ((o2 vAdd (gB (gB (gD g0))) (gK (.int .i64 1)) (pB (pB (pE p0)))) <|
 ((o2 vAdd (gB (gB (gC g0))) (gB (gB (gE g0))) (pB (pB (pF p0)))) <|
 ((o1 vMov (gB (gB (gF g0))) (pA (pB (pA p0)))) <|
 oEnd)))))))) cSkip)) (cSeq (cSeq (cReg ((o1 vMov (gA (gA (gA g0))) (pB (pB (pG p0)))) <|
 ((o1 vMov (gA (gB (gA g0))) (pB (pB (pH p0)))) <|
 ((o2 vAdd (gB (gB (gH g0))) (gK (.int .i64 1)) (pB (pC (pA p0)))) <|
 ((o2 vIdxS (gB (gB (gG g0))) (gB (gC (gA g0))) (pB (pC (pB p0)))) <|
 ((o1 vMov (gA (gA (gH g0))) (pB (pC (pC p0)))) <|
 ((o2 vEql (gB (gC (gB g0))) (gB (gC (gC g0))) (pB (pC (pD p0)))) <|
 ((o1 vMov (gB (gC (gD g0))) (pB (pC (pE p0)))) <|
 ((oGuard (gB (gC (gE g0))) true (pB (pC (pF p0))) (o1 vMov (gA (gA (gA g0))) (pB (pC (pF p0))))) <|
 ((oGuard (gB (gC (gE g0))) true (pB (pC (pG p0))) (o1 vMov (gA (gB (gA g0))) (pB (pC (pG p0))))) <|
 ((oGuard (gB (gC (gE g0))) true (pB (pC (pH p0))) (o1 vMov (gA (gB (gA g0))) (pB (pC (pH p0))))) <|
 ((oGuard (gB (gC (gE g0))) true (pB (pD (pA p0))) (o1 vMov (gA (gA (gF g0))) (pB (pD (pA p0))))) <|
 ((oGuard (gB (gC (gE g0))) true (pB (pD (pB p0))) (o2 vAdd (gB (gC (gH g0))) (gB (gD (gA g0))) (pB (pD (pB p0))))) <|
 ((oGuard (gB (gC (gE g0))) true (pB (pD (pC p0))) (oSlow K3.gt ⟨(some 90), (some (84, true)), (.p (.slT (.t 85) (some (.t 86)) (some (.t 89)))), false, []⟩ (pB (pD (pC p0))))) <|
 ((oGuard (gB (gC (gE g0))) true (pB (pD (pD p0))) (o1 vMov (gA (gA (gB g0))) (pB (pD (pD p0))))) <|
 ((oGuard (gB (gC (gE g0))) true (pB (pD (pE p0))) (o2 vEql (gB (gD (gC g0))) (gB (gD (gD g0))) (pB (pD (pE p0))))) <|
 ((oSlow K3.gt ⟨(some 93), none, (.p (.pick (.t 84) (.t 92) (.c (.bool false)))), false, []⟩ (pB (pD (pF p0)))) <|
 oEnd))))))))))))))))) (cIf (gB (gD (gF g0))) (cSeq (cReg ((o1 vMov (gA (gB (gA g0))) (pB (pD (pG p0)))) <|
 ((o1 vMov (gB (gD (gG g0))) (pA (pA (pE p0)))) <|
 oEnd))) (cExit 0)) cSkip)) (cSeq (cReg ((o1 vMov (gA (gB (gA g0))) (pB (pD (pH p0)))) <|
 ((o2 vAdd (gB (gD (gH g0))) (gK (.int .i64 1)) (pB (pE (pA p0)))) <|
 ((o1 vMov (gB (gE (gA g0))) (pA (pB (pA p0)))) <|
 oEnd)))) (cSeq (cReg ((o1 vMov (gA (gB (gC g0))) (pB (pE (pB p0)))) <|
 ((o2 vAdd (gB (gE (gB g0))) (gK (.int .i64 1)) (pB (pE (pC p0)))) <|
 ((o1 vMov (gB (gE (gC g0))) (pA (pB (pC p0)))) <|
 oEnd)))) (cSeq (cReg ((o1 vMov (gA (gA (gF g0))) (pB (pE (pD p0)))) <|
 ((m1 wLoad1 (gK (.ptr 3 0)) (pB (pE (pE p0)))) <|
 ((o2 vLeq (gB (gE (gD g0))) (gB (gE (gE g0))) (pB (pE (pF p0)))) <|
 ((o1 vMov (gB (gE (gF g0))) (pB (pE (pG p0)))) <|
 ((oGuard (gB (gE (gG g0))) true (pB (pE (pH p0))) (o1 vMov (gA (gB (gC g0))) (pB (pE (pH p0))))) <|
 ((oGuard (gB (gE (gG g0))) true (pB (pF (pA p0))) (o1 vMov (gA (gB (gA g0))) (pB (pF (pA p0))))) <|
 ((oGuard (gB (gE (gG g0))) true (pB (pF (pB p0))) (oCall 83 [(gB (gF (gA g0)))] (pB (pF (pB p0))))) <|
 ((oGuard (gB (gE (gG g0))) true (pB (pF (pC p0))) (o2 vGtr (gB (gE (gH g0))) (gB (gF (gB g0))) (pB (pF (pC p0))))) <|
 ((oSlow K3.gt ⟨(some 107), none, (.p (.pick (.t 102) (.t 106) (.c (.bool false)))), false, []⟩ (pB (pF (pD p0)))) <|
 oEnd)))))))))) (cIf (gB (gF (gD g0))) (cSeq (cReg ((o1 vMov (gA (gA (gA g0))) (pB (pF (pE p0)))) <|
 ((o1 vMov (gA (gB (gA g0))) (pB (pF (pF p0)))) <|
 ((oSlow K3.gt ⟨(some 110), none, (.p (.slT (.t 108) (some (.t 109)) none)), false, []⟩ (pB (pF (pG p0)))) <|
 ((o1 vMov (gA (gA (gB g0))) (pB (pF (pH p0)))) <|
 ((oSlow K3.gt ⟨(some 112), none, (.h .bad), false, []⟩ (pB (pG (pA p0)))) <|
 ((o1 vMov (gB (gG (gA g0))) (pA (pB (pE p0)))) <|
 oEnd))))))) (cSeq (cSeq (cReg ((o1 vMov (gA (gB (gE g0))) (pB (pG (pB p0)))) <|
 ((o2 vGeq (gB (gG (gB g0))) (gK (.int .i64 0)) (pB (pG (pC p0)))) <|
 oEnd))) (cIf (gB (gG (gC g0))) (cSeq (cReg ((o1 vMov (gA (gB (gE g0))) (pB (pG (pD p0)))) <|
 ((o1 vMov (gA (gB (gA g0))) (pB (pG (pE p0)))) <|
 ((o2 vAdd (gB (gG (gD g0))) (gB (gG (gE g0))) (pB (pG (pF p0)))) <|
 ((o1 vMov (gB (gG (gF g0))) (pA (pA (pE p0)))) <|
 oEnd))))) (cExit 0)) cSkip)) (cSeq (cReg ((o1 vMov (gK (.int .i64 (-1))) (pA (pA (pE p0)))) <|
 oEnd)) (cExit 0)))) (cSeq (cReg ((o1 vMov (gA (gA (gF g0))) (pB (pG (pG p0)))) <|
 ((m1 wLoad1 (gK (.ptr 3 0)) (pB (pG (pH p0)))) <|
 ((o2 vGtr (gB (gG (gG g0))) (gB (gG (gH g0))) (pB (pH (pA p0)))) <|
 ((o1 vMov (gB (gH (gA g0))) (pB (pH (pB p0)))) <|
 ((oGuard (gB (gH (gB g0))) true (pB (pH (pC p0))) (o1 vMov (gA (gB (gC g0))) (pB (pH (pC p0))))) <|
 ((oGuard (gB (gH (gB g0))) true (pB (pH (pD p0))) (o1 vMov (gA (gB (gA g0))) (pB (pH (pD p0))))) <|
 ((oGuard (gB (gH (gB g0))) true (pB (pH (pE p0))) (o2 (vBin .shr) (gB (gH (gD g0))) (gK (.int .u64 4)) (pB (pH (pE p0))))) <|
 ((oGuard (gB (gH (gB g0))) true (pB (pH (pF p0))) (o2 vAdd (gK (.int .i64 4)) (gB (gH (gE g0))) (pB (pH (pF p0))))) <|
 ((oGuard (gB (gH (gB g0))) true (pB (pH (pG p0))) (o2 vGeq (gB (gH (gC g0))) (gB (gH (gF g0))) (pB (pH (pG p0))))) <|
 ((oSlow K3.gt ⟨(some 127), none, (.p (.pick (.t 121) (.t 126) (.c (.bool false)))), false, []⟩ (pB (pH (pH p0)))) <|
 ((o1 vMov (gB (gH (gH g0))) (pC (pA (pA p0)))) <|
 ((oGuard (gC (gA (gA g0))) true (pC (pA (pB p0))) (o1 vMov (gA (gB (gA g0))) (pC (pA (pB p0))))) <|
 ((oGuard (gC (gA (gA g0))) true (pC (pA (pC p0))) (o1 vMov (gA (gB (gB g0))) (pC (pA (pC p0))))) <|
 ((oGuard (gC (gA (gA g0))) true (pC (pA (pD p0))) (o2 vLss (gC (gA (gB g0))) (gC (gA (gC g0))) (pC (pA (pD p0))))) <|
 ((oSlow K3.gt ⟨(some 132), none, (.p (.pick (.t 128) (.t 131) (.c (.bool false)))), false, []⟩ (pC (pA (pE p0)))) <|
 oEnd)))))))))))))))) (cIf (gC (gA (gE g0))) (cSeq (cReg ((o1 vMov (gA (gA (gA g0))) (pC (pA (pF p0)))) <|
 ((o1 vMov (gA (gB (gA g0))) (pC (pA (pG p0)))) <|
 ((oSlow K3.gt ⟨(some 135), none, (.p (.slT (.t 133) (some (.t 134)) none)), false, []⟩ (pC (pA (pH p0)))) <|
 ((o1 vMov (gA (gA (gB g0))) (pC (pB (pA p0)))) <|
 ((oCall 84 [(gC (gA (gH g0))), (gC (gB (gA g0)))] (pC (pB (pB p0)))) <|
 ((o1 vMov (gC (gB (gB g0))) (pA (pB (pF p0)))) <|
 oEnd))))))) (cSeq (cSeq (cReg ((o1 vMov (gA (gB (gF g0))) (pC (pB (pC p0)))) <|
 ((o2 vLss (gC (gB (gC g0))) (gK (.int .i64 0)) (pC (pB (pD p0)))) <|
 oEnd))) (cIf (gC (gB (gD g0))) (cSeq (cReg ((o1 vMov (gK (.int .i64 (-1))) (pA (pA (pE p0)))) <|
 oEnd)) (cExit 0)) cSkip)) (cSeq (cReg ((o1 vMov (gA (gB (gA g0))) (pC (pB (pE p0)))) <|
 ((o1 vMov (gA (gB (gF g0))) (pC (pB (pF p0)))) <|
 ((o2 vAdd (gC (gB (gE g0))) (gC (gB (gF g0))) (pC (pB (pG p0)))) <|
 ((o1 vMov (gC (gB (gG g0))) (pA (pA (pE p0)))) <|
 oEnd))))) (cExit 0)))) cSkip)))))))))))) (cSeq (cReg ((o1 vMov (gK (.int .i64 (-1))) (pA (pA (pE p0)))) <|
 oEnd)) (cExit 0))))))))))) [(rT (gA (gA (gE g0))))]
theorem u73_ok : denA k73 = u73 := dA3 rfl rfl rfl (dF rfl rfl rfl (dS (dR (dc rfl dn)) (dS (dR (dc rfl (dc rfl (dc rfl dn)))) (dS (dB (dS (dR (dc rfl (dc rfl (dc rfl (dc (by kernel_rfl) (dc (by kernel_rfl) (dc (by kernel_rfl) (dc (by kernel_rfl) (dc rfl dn))))))))) (dI rfl rfl (dS (dR (dc rfl dn)) dT) (dS (dR (dc rfl (dc rfl (dc rfl dn)))) (dI rfl rfl (dS (dR (dc rfl (dc rfl (dc rfl (dc rfl (dc rfl dn)))))) dT) (dS (dR (dc rfl (dc rfl (dc rfl (dc rfl (dc rfl dn)))))) (dI rfl rfl (dS (dR (dc rfl dn)) dT) (dS (dR (dc rfl (dc rfl (dc rfl (dc rfl (dc (by kernel_rfl) (dc (by kernel_rfl) (dc (by kernel_rfl) (dc (by kernel_rfl) (dc rfl dn)))))))))) (dI rfl rfl (dS (dR (dc rfl (dc rfl (dc (by kernel_rfl) (dc rfl dn))))) dT) dK))))))))) (dS (dR (dc rfl (dc rfl (dc rfl dn)))) (dS (dR (dc rfl (dc rfl (dc rfl dn)))) (dS (dR (dc rfl dn)) (dS (dR (dc rfl (dc rfl (dc rfl (dc rfl (dc rfl (dc rfl dn))))))) (dS (dR (dc rfl dn)) (dS (dB (dL (dS (dS (dR (dc rfl (dc rfl (dc rfl dn)))) (dI rfl rfl dK dX)) (dB (dS (dS (dR (dc rfl (dc rfl (dc rfl (dc rfl (dc rfl dn)))))) (dI rfl rfl (dS (dR (dc rfl (dc rfl (dc rfl (dc rfl (dc (by kernel_rfl) (dc rfl (dc rfl (dc rfl dn))))))))) (dS (dS (dR (dc rfl (dc rfl dn))) (dI rfl rfl (dS (dR (dc rfl dn)) dT) dK)) (dR (dc rfl (dc rfl (dc rfl (dc rfl (dc rfl dn)))))))) dK)) (dS (dS (dR (dc rfl (dc rfl (dc rfl (dc rfl (dc rfl (dc rfl (dc rfl (dc (by kernel_rfl) (dc (by kernel_rfl) (dc (by kernel_rfl) (dc (by kernel_rfl) (dc (by kernel_rfl) (dc (by kernel_rfl) (dc (by kernel_rfl) (dc (by kernel_rfl) (dc (by kernel_rfl) dn))))))))))))))))) (dI rfl rfl (dS (dR (dc rfl (dc rfl dn))) dT) dK)) (dS (dR (dc rfl (dc rfl (dc rfl dn)))) (dS (dR (dc rfl (dc rfl (dc rfl dn)))) (dS (dR (dc rfl (dc rfl (dc rfl (dc rfl (dc (by kernel_rfl) (dc (by kernel_rfl) (dc (by kernel_rfl) (dc (by kernel_rfl) (dc (by kernel_rfl) dn)))))))))) (dI rfl rfl (dS (dR (dc rfl (dc rfl (dc (by kernel_rfl) (dc rfl (dc (by kernel_rfl) (dc rfl dn))))))) (dS (dS (dR (dc rfl (dc rfl dn))) (dI rfl rfl (dS (dR (dc rfl (dc rfl (dc rfl (dc rfl dn))))) dT) dK)) (dS (dR (dc rfl dn)) dT))) (dS (dR (dc rfl (dc rfl (dc rfl (dc rfl (dc (by kernel_rfl) (dc (by kernel_rfl) (dc (by kernel_rfl) (dc (by kernel_rfl) (dc (by kernel_rfl) (dc (by kernel_rfl) (dc rfl (dc (by kernel_rfl) (dc (by kernel_rfl) (dc (by kernel_rfl) (dc (by kernel_rfl) dn)))))))))))))))) (dI rfl rfl (dS (dR (dc rfl (dc rfl (dc (by kernel_rfl) (dc rfl (dc rfl (dc rfl dn))))))) (dS (dS (dR (dc rfl (dc rfl dn))) (dI rfl rfl (dS (dR (dc rfl dn)) dT) dK)) (dS (dR (dc rfl (dc rfl (dc rfl (dc rfl dn))))) dT))) dK)))))))))))) (dS (dR (dc rfl dn)) dT)))))))))))
/-- internal/stringslite.Clone -/
def u74 : Fu := fn K2.z [(pA (pA p0)), (pA (pB p0)), (pA (pC p0)), (pA (pD p0)), (pA (pE p0)), (pA (pF p0)), (pA (pG p0)), (pA (pH p0)), (pB (pA p0)), (pB (pB p0)), (pB (pC p0)), (pB (pD p0))] (cSeq (cReg ((o1 vMov (gK (.str [])) (pA (pC p0))) <|
 oEnd)) (cSeq (cSeq (cReg ((o1 vMov (gA (gA g0)) (pA (pE p0))) <|
 ((o1 vLenS (gA (gE g0)) (pA (pF p0))) <|
 ((o2 vEql (gA (gF g0)) (gK (.int .i64 0)) (pA (pG p0))) <|
 oEnd)))) (cIf (gA (gG g0)) (cSeq (cReg ((o1 vMov (gK (.str [])) (pA (pC p0))) <|
 oEnd)) (cExit 0)) cSkip)) (cSeq (cReg ((o1 vMov (gA (gA g0)) (pA (pH p0))) <|
 ((o1 vLenS (gA (gH g0)) (pB (pA p0))) <|
 ((oSlow K2.gt ⟨(some 9), none, (.h (.mksl 1 1 [(.int .u8 0)] (.t 8) (.t 8))), false, []⟩ (pB (pB p0))) <|
 ((o1 vMov (gB (gB g0)) (pA (pD p0))) <|
 oEnd))))) (cSeq (cReg ((o1 vMov (gA (gD g0)) (pB (pC p0))) <|
 ((o1 vMov (gA (gA g0)) (pB (pD p0))) <|
 ((oSlow K2.gt ⟨(some 12), none, (.h (.copy 1 (.t 10) (.t 11))), false, []⟩ (pB (pE p0))) <|
 oEnd)))) (cSeq (cReg ((o1 vMov (gA (gD g0)) (pB (pF p0))) <|
 ((o2 (vIadS 1) (gB (gF g0)) (gK (.int .i64 0)) (pB (pG p0))) <|
 ((o1 vMov (gA (gD g0)) (pB (pH p0))) <|
 ((o1 vLen (gB (gH g0)) (pC (pA p0))) <|
 ((oSlow K2.gt ⟨(some 17), none, (.h .bad), false, []⟩ (pC (pB p0))) <|
 ((o1 vMov (gC (gB g0)) (pA (pC p0))) <|
 oEnd))))))) (cExit 0)))))) [(rT (gA (gC g0)))]
theorem u74_ok : denA k74 = u74 := dA2 rfl rfl (dF rfl rfl rfl (dS (dR (dc rfl dn)) (dS (dS (dR (dc rfl (dc rfl (dc rfl dn)))) (dI rfl rfl (dS (dR (dc rfl dn)) dT) dK)) (dS (dR (dc rfl (dc rfl (dc (by kernel_rfl) (dc rfl dn))))) (dS (dR (dc rfl (dc rfl (dc (by kernel_rfl) dn)))) (dS (dR (dc rfl (dc rfl (dc rfl (dc rfl (dc (by kernel_rfl) (dc rfl dn))))))) dT))))))
/-- errors.New -/
def u75 : Fu := fn K1.z [(pA p0), (pB p0), (pC p0), (pD p0), (pE p0), (pF p0), (pG p0)] (cSeq (cReg ((o1 vMov (gK .nili) (pC p0)) <|
 oEnd)) (cSeq (cReg ((o1 vMov (gA g0) (pD p0)) <|
 ((oSlow K1.gt ⟨(some 4), none, (.p (.build [(.str [])] [(0, 1, (.t 3))])), false, []⟩ (pE p0)) <|
 ((m1 wBox (gE g0) (pF p0)) <|
 ((o1 (vMkif 130) (gF g0) (pG p0)) <|
 ((o1 vMov (gG g0) (pC p0)) <|
 oEnd)))))) (cExit 0))) [(rT (gC g0))]
theorem u75_ok : denA k75 = u75 := dA1 rfl (dF rfl rfl rfl (dS (dR (dc rfl dn)) (dS (dR (dc rfl (dc (by kernel_rfl) (dc rfl (dc rfl (dc rfl dn)))))) dT)))
/-- internal/strconv.small -/
def u76 : Fu := fn K2.z [(pA (pA p0)), (pA (pB p0)), (pA (pC p0)), (pA (pD p0)), (pA (pE p0)), (pA (pF p0)), (pA (pG p0)), (pA (pH p0)), (pB (pA p0)), (pB (pB p0)), (pB (pC p0)), (pB (pD p0))] (cSeq (cReg ((o1 vMov (gK (.str [])) (pA (pC p0))) <|
 oEnd)) (cSeq (cSeq (cReg ((o1 vMov (gA (gA g0)) (pA (pD p0))) <|
 ((o2 vLss (gA (gD g0)) (gK (.int .i64 10)) (pA (pE p0))) <|
 oEnd))) (cIf (gA (gE g0)) (cSeq (cReg ((o1 vMov (gA (gA g0)) (pA (pF p0))) <|
 ((o1 vMov (gA (gA g0)) (pA (pG p0))) <|
 ((o2 vAdd (gA (gG g0)) (gK (.int .i64 1)) (pA (pH p0))) <|
 ((oSlow K2.gt ⟨(some 8), none, (.p (.slT (.c (.str [48, 49, 50, 51, 52, 53, 54, 55, 56, 57, 97, 98, 99, 100, 101, 102, 103, 104, 105, 106, 107, 108, 109, 110, 111, 112, 113, 114, 115, 116, 117, 118, 119, 120, 121, 122])) (some (.t 5)) (some (.t 7)))), false, []⟩ (pB (pA p0))) <|
 ((o1 vMov (gB (gA g0)) (pA (pC p0))) <|
 oEnd)))))) (cExit 0)) cSkip)) (cSeq (cReg ((o1 vMov (gA (gA g0)) (pB (pB p0))) <|
 ((o2 (vBin .mul) (gB (gB g0)) (gK (.int .i64 2)) (pB (pC p0))) <|
 ((o1 vMov (gA (gA g0)) (pB (pD p0))) <|
 ((o2 (vBin .mul) (gB (gD g0)) (gK (.int .i64 2)) (pB (pE p0))) <|
 ((o2 vAdd (gB (gE g0)) (gK (.int .i64 2)) (pB (pF p0))) <|
 ((oSlow K2.gt ⟨(some 14), none, (.p (.slT (.c (.str [48, 48, 48, 49, 48, 50, 48, 51, 48, 52, 48, 53, 48, 54, 48, 55, 48, 56, 48, 57, 49, 48, 49, 49, 49, 50, 49, 51, 49, 52, 49, 53, 49, 54, 49, 55, 49, 56, 49, 57, 50, 48, 50, 49, 50, 50, 50, 51, 50, 52, 50, 53, 50, 54, 50, 55, 50, 56, 50, 57, 51, 48, 51, 49, 51, 50, 51, 51, 51, 52, 51, 53, 51, 54, 51, 55, 51, 56, 51, 57, 52, 48, 52, 49, 52, 50, 52, 51, 52, 52, 52, 53, 52, 54, 52, 55, 52, 56, 52, 57, 53, 48, 53, 49, 53, 50, 53, 51, 53, 52, 53, 53, 53, 54, 53, 55, 53, 56, 53, 57, 54, 48, 54, 49, 54, 50, 54, 51, 54, 52, 54, 53, 54, 54, 54, 55, 54, 56, 54, 57, 55, 48, 55, 49, 55, 50, 55, 51, 55, 52, 55, 53, 55, 54, 55, 55, 55, 56, 55, 57, 56, 48, 56, 49, 56, 50, 56, 51, 56, 52, 56, 53, 56, 54, 56, 55, 56, 56, 56, 57, 57, 48, 57, 49, 57, 50, 57, 51, 57, 52, 57, 53, 57, 54, 57, 55, 57, 56, 57, 57])) (some (.t 10)) (some (.t 13)))), false, []⟩ (pB (pG p0))) <|
 ((o1 vMov (gB (gG g0)) (pA (pC p0))) <|
 oEnd)))))))) (cExit 0)))) [(rT (gA (gC g0)))]
theorem u76_ok : denA k76 = u76 := dA2 rfl rfl (dF rfl rfl rfl (dS (dR (dc rfl dn)) (dS (dS (dR (dc rfl (dc rfl dn))) (dI rfl rfl (dS (dR (dc rfl (dc rfl (dc rfl (dc (by kernel_rfl) (dc rfl dn)))))) dT) dK)) (dS (dR (dc rfl (dc rfl (dc rfl (dc rfl (dc rfl (dc (by kernel_rfl) (dc rfl dn)))))))) dT))))
/-- internal/strconv.numDigits -/
def u77 : Fu := fn K2.z [(pA (pA p0)), (pA (pB p0)), (pA (pC p0)), (pA (pD p0)), (pA (pE p0)), (pA (pF p0)), (pA (pG p0)), (pA (pH p0)), (pB (pA p0)), (pB (pB p0)), (pB (pC p0)), (pB (pD p0))] (cSeq (cReg ((o1 vMov (gK (.int .i64 0)) (pA (pC p0))) <|
 oEnd)) (cSeq (cReg ((o1 vMov (gA (gA g0)) (pA (pE p0))) <|
 ((oCall 86 [(gA (gE g0))] (pA (pF p0))) <|
 ((oCall 85 [(gA (gF g0))] (pA (pG p0))) <|
 ((o1 vMov (gA (gG g0)) (pA (pD p0))) <|
 oEnd))))) (cSeq (cReg ((o1 vMov (gA (gD g0)) (pA (pH p0))) <|
 ((o1 vMov (gA (gA g0)) (pB (pA p0))) <|
 ((o1 vMov (gA (gD g0)) (pB (pB p0))) <|
 ((o2 (vIadA 20 1) (gK (.ptr 4 0)) (gB (gB g0)) (pB (pC p0))) <|
 ((m1 wLoad1 (gB (gC g0)) (pB (pD p0))) <|
 ((o2 vGeq (gB (gA g0)) (gB (gD g0)) (pB (pE p0))) <|
 ((oCall 87 [(gB (gE g0))] (pB (pF p0))) <|
 ((o2 vAdd (gA (gH g0)) (gB (gF g0)) (pB (pG p0))) <|
 ((o1 vMov (gB (gG g0)) (pA (pC p0))) <|
 oEnd)))))))))) (cExit 0)))) [(rT (gA (gC g0)))]
theorem u77_ok : denA k77 = u77 := dA2 rfl rfl (dF rfl rfl rfl (dS (dR (dc rfl dn)) (dS (dR (dc rfl (dc rfl (dc rfl (dc rfl dn))))) (dS (dR (dc rfl (dc rfl (dc rfl (dc rfl (dc rfl (dc rfl (dc rfl (dc rfl (dc rfl dn)))))))))) dT))))
/-- internal/strconv.formatBase10 -/
def u78 : Fu := fn K3.z [(pA (pA (pA p0))), (pA (pA (pB p0))), (pA (pA (pC p0))), (pA (pA (pD p0))), (pA (pA (pE p0))), (pA (pA (pF p0))), (pA (pA (pG p0))), (pA (pA (pH p0))), (pA (pB (pA p0))), (pA (pB (pB p0))), (pA (pB (pC p0))), (pA (pB (pD p0)))] (cSeq (cReg ((o1 vMov (gA (gA (gA g0))) (pA (pC (pB p0)))) <|
 ((o1 vLen (gA (gC (gB g0))) (pA (pC (pC p0)))) <|
 ((o1 vMov (gA (gC (gC g0))) (pA (pA (pE p0)))) <|
 oEnd)))) (cSeq (cBlock 1 (cLoop (cSeq (cSeq (cReg ((o1 vMov (gA (gA (gE g0))) (pA (pC (pD p0)))) <|
 ((o2 vGeq (gA (gC (gD g0))) (gK (.int .i64 8)) (pA (pC (pE p0)))) <|
 oEnd))) (cIf (gA (gC (gE g0))) cSkip (cExit 1))) (cBlock 2 (cSeq (cReg ((o1 vMov (gA (gA (gB g0))) (pA (pC (pF p0)))) <|
 ((o2 (vBin .rem) (gA (gC (gF g0))) (gK (.int .u64 100000000)) (pA (pC (pG p0)))) <|
 ((o1 (vCvi .u32) (gA (gC (gG g0))) (pA (pC (pH p0)))) <|
 ((o1 vMov (gA (gC (gH g0))) (pA (pA (pF p0)))) <|
 oEnd))))) (cSeq (cReg ((o1 vMov (gA (gA (gB g0))) (pA (pD (pA p0)))) <|
 ((o2 (vBin .quo) (gA (gD (gA g0))) (gK (.int .u64 100000000)) (pA (pD (pB p0)))) <|
 ((o1 vMov (gA (gD (gB g0))) (pA (pA (pB p0)))) <|
 oEnd)))) (cSeq (cReg ((o1 vMov (gA (gA (gF g0))) (pA (pD (pC p0)))) <|
 ((o2 (vBin .quo) (gA (gD (gC g0))) (gK (.int .u32 10000)) (pA (pD (pD p0)))) <|
 ((o1 vMov (gA (gA (gF g0))) (pA (pD (pE p0)))) <|
 ((o2 (vBin .rem) (gA (gD (gE g0))) (gK (.int .u32 10000)) (pA (pD (pF p0)))) <|
 ((o1 vMov (gA (gD (gD g0))) (pA (pA (pG p0)))) <|
 ((o1 vMov (gA (gD (gF g0))) (pA (pA (pH p0)))) <|
 oEnd))))))) (cSeq (cReg ((o1 vMov (gA (gA (gH g0))) (pA (pD (pG p0)))) <|
 ((o2 (vBin .quo) (gA (gD (gG g0))) (gK (.int .u32 100)) (pA (pD (pH p0)))) <|
 ((o2 (vBin .mul) (gA (gD (gH g0))) (gK (.int .u32 2)) (pA (pE (pA p0)))) <|
 ((o1 vMov (gA (gA (gH g0))) (pA (pE (pB p0)))) <|
 ((o2 (vBin .rem) (gA (gE (gB g0))) (gK (.int .u32 100)) (pA (pE (pC p0)))) <|
 ((o2 (vBin .mul) (gA (gE (gC g0))) (gK (.int .u32 2)) (pA (pE (pD p0)))) <|
 ((o1 vMov (gA (gE (gA g0))) (pA (pB (pA p0)))) <|
 ((o1 vMov (gA (gE (gD g0))) (pA (pB (pB p0)))) <|
 oEnd))))))))) (cSeq (cReg ((o1 vMov (gA (gA (gG g0))) (pA (pE (pE p0)))) <|
 ((o2 (vBin .quo) (gA (gE (gE g0))) (gK (.int .u32 100)) (pA (pE (pF p0)))) <|
 ((o2 (vBin .mul) (gA (gE (gF g0))) (gK (.int .u32 2)) (pA (pE (pG p0)))) <|
 ((o1 vMov (gA (gA (gG g0))) (pA (pE (pH p0)))) <|
 ((o2 (vBin .rem) (gA (gE (gH g0))) (gK (.int .u32 100)) (pA (pF (pA p0)))) <|
 ((o2 (vBin .mul) (gA (gF (gA g0))) (gK (.int .u32 2)) (pA (pF (pB p0)))) <|
 ((o1 vMov (gA (gE (gG g0))) (pA (pB (pC p0)))) <|
 ((o1 vMov (gA (gF (gB g0))) (pA (pB (pD p0)))) <|
 oEnd))))))))) (cSeq (cReg ((o1 vMov (gA (gA (gA g0))) (pA (pF (pC p0)))) <|
 ((o1 vMov (gA (gA (gE g0))) (pA (pF (pD p0)))) <|
 ((o2 vSub (gA (gF (gD g0))) (gK (.int .i64 1)) (pA (pF (pE p0)))) <|
 ((o1 vMov (gA (gA (gA g0))) (pA (pF (pF p0)))) <|
 ((o1 vMov (gA (gA (gE g0))) (pA (pF (pG p0)))) <|
 ((o2 vSub (gA (gF (gG g0))) (gK (.int .i64 2)) (pA (pF (pH p0)))) <|
 ((o1 vMov (gA (gB (gB g0))) (pA (pG (pA p0)))) <|
 ((o2 vAdd (gA (gG (gA g0))) (gK (.int .u32 1)) (pA (pG (pB p0)))) <|
 ((o2 vIdxS (gK (.str [48, 48, 48, 49, 48, 50, 48, 51, 48, 52, 48, 53, 48, 54, 48, 55, 48, 56, 48, 57, 49, 48, 49, 49, 49, 50, 49, 51, 49, 52, 49, 53, 49, 54, 49, 55, 49, 56, 49, 57, 50, 48, 50, 49, 50, 50, 50, 51, 50, 52, 50, 53, 50, 54, 50, 55, 50, 56, 50, 57, 51, 48, 51, 49, 51, 50, 51, 51, 51, 52, 51, 53, 51, 54, 51, 55, 51, 56, 51, 57, 52, 48, 52, 49, 52, 50, 52, 51, 52, 52, 52, 53, 52, 54, 52, 55, 52, 56, 52, 57, 53, 48, 53, 49, 53, 50, 53, 51, 53, 52, 53, 53, 53, 54, 53, 55, 53, 56, 53, 57, 54, 48, 54, 49, 54, 50, 54, 51, 54, 52, 54, 53, 54, 54, 54, 55, 54, 56, 54, 57, 55, 48, 55, 49, 55, 50, 55, 51, 55, 52, 55, 53, 55, 54, 55, 55, 55, 56, 55, 57, 56, 48, 56, 49, 56, 50, 56, 51, 56, 52, 56, 53, 56, 54, 56, 55, 56, 56, 56, 57, 57, 48, 57, 49, 57, 50, 57, 51, 57, 52, 57, 53, 57, 54, 57, 55, 57, 56, 57, 57])) (gA (gG (gB g0))) (pA (pG (pC p0)))) <|
 ((o1 vMov (gA (gB (gB g0))) (pA (pG (pD p0)))) <|
 ((o2 vIdxS (gK (.str [48, 48, 48, 49, 48, 50, 48, 51, 48, 52, 48, 53, 48, 54, 48, 55, 48, 56, 48, 57, 49, 48, 49, 49, 49, 50, 49, 51, 49, 52, 49, 53, 49, 54, 49, 55, 49, 56, 49, 57, 50, 48, 50, 49, 50, 50, 50, 51, 50, 52, 50, 53, 50, 54, 50, 55, 50, 56, 50, 57, 51, 48, 51, 49, 51, 50, 51, 51, 51, 52, 51, 53, 51, 54, 51, 55, 51, 56, 51, 57, 52, 48, 52, 49, 52, 50, 52, 51, 52, 52, 52, 53, 52, 54, 52, 55, 52, 56, 52, 57, 53, 48, 53, 49, 53, 50, 53, 51, 53, 52, 53, 53, 53, 54, 53, 55, 53, 56, 53, 57, 54, 48, 54, 49, 54, 50, 54, 51, 54, 52, 54, 53, 54, 54, 54, 55, 54, 56, 54, 57, 55, 48, 55, 49, 55, 50, 55, 51, 55, 52, 55, 53, 55, 54, 55, 55, 55, 56, 55, 57, 56, 48, 56, 49, 56, 50, 56, 51, 56, 52, 56, 53, 56, 54, 56, 55, 56, 56, 56, 57, 57, 48, 57, 49, 57, 50, 57, 51, 57, 52, 57, 53, 57, 54, 57, 55, 57, 56, 57, 57])) (gA (gG (gD g0))) (pA (pG (pE p0)))) <|
 ((o2 (vIadS 1) (gA (gF (gC g0))) (gA (gF (gE g0))) (pA (pG (pF p0)))) <|
 ((oStore 1 (gA (gG (gF g0))) (gA (gG (gC g0)))) <|
 ((o2 (vIadS 1) (gA (gF (gF g0))) (gA (gF (gH g0))) (pA (pG (pG p0)))) <|
 ((oStore 1 (gA (gG (gG g0))) (gA (gG (gE g0)))) <|
 oEnd)))))))))))))))) (cSeq (cReg ((o1 vMov (gA (gA (gA g0))) (pA (pG (pH p0)))) <|
 ((o1 vMov (gA (gA (gE g0))) (pA (pH (pA p0)))) <|
 ((o2 vSub (gA (gH (gA g0))) (gK (.int .i64 3)) (pA (pH (pB p0)))) <|
 ((o1 vMov (gA (gA (gA g0))) (pA (pH (pC p0)))) <|
 ((o1 vMov (gA (gA (gE g0))) (pA (pH (pD p0)))) <|
 ((o2 vSub (gA (gH (gD g0))) (gK (.int .i64 4)) (pA (pH (pE p0)))) <|
 ((o1 vMov (gA (gB (gA g0))) (pA (pH (pF p0)))) <|
 ((o2 vAdd (gA (gH (gF g0))) (gK (.int .u32 1)) (pA (pH (pG p0)))) <|
 ((o2 vIdxS (gK (.str [48, 48, 48, 49, 48, 50, 48, 51, 48, 52, 48, 53, 48, 54, 48, 55, 48, 56, 48, 57, 49, 48, 49, 49, 49, 50, 49, 51, 49, 52, 49, 53, 49, 54, 49, 55, 49, 56, 49, 57, 50, 48, 50, 49, 50, 50, 50, 51, 50, 52, 50, 53, 50, 54, 50, 55, 50, 56, 50, 57, 51, 48, 51, 49, 51, 50, 51, 51, 51, 52, 51, 53, 51, 54, 51, 55, 51, 56, 51, 57, 52, 48, 52, 49, 52, 50, 52, 51, 52, 52, 52, 53, 52, 54, 52, 55, 52, 56, 52, 57, 53, 48, 53, 49, 53, 50, 53, 51, 53, 52, 53, 53, 53, 54, 53, 55, 53, 56, 53, 57, 54, 48, 54, 49, 54, 50, 54, 51, 54, 52, 54, 53, 54, 54, 54, 55, 54, 56, 54, 57, 55, 48, 55, 49, 55, 50, 55, 51, 55, 52, 55, 53, 55, 54, 55, 55, 55, 56, 55, 57, 56, 48, 56, 49, 56, 50, 56, 51, 56, 52, 56, 53, 56, 54, 56, 55, 56, 56, 56, 57, 57, 48, 57, 49, 57, 50, 57, 51, 57, 52, 57, 53, 57, 54, 57, 55, 57, 56, 57, 57])) (gA (gH (gG g0))) (pA (pH (pH p0)))) <|
 ((o1 vMov (gA (gB (gA g0))) (pB (pA (pA p0)))) <|
 ((o2 vIdxS (gK (.str [48, 48, 48, 49, 48, 50, 48, 51, 48, 52, 48, 53, 48, 54, 48, 55, 48, 56, 48, 57, 49, 48, 49, 49, 49, 50, 49, 51, 49, 52, 49, 53, 49, 54, 49, 55, 49, 56, 49, 57, 50, 48, 50, 49, 50, 50, 50, 51, 50, 52, 50, 53, 50, 54, 50, 55, 50, 56, 50, 57, 51, 48, 51, 49, 51, 50, 51, 51, 51, 52, 51, 53, 51, 54, 51, 55, 51, 56, 51, 57, 52, 48, 52, 49, 52, 50, 52, 51, 52, 52, 52, 53, 52, 54, 52, 55, 52, 56, 52, 57, 53, 48, 53, 49, 53, 50, 53, 51, 53, 52, 53, 53, 53, 54, 53, 55, 53, 56, 53, 57, 54, 48, 54, 49, 54, 50, 54, 51, 54, 52, 54, 53, 54, 54, 54, 55, 54, 56, 54, 57, 55, 48, 55, 49, 55, 50, 55, 51, 55, 52, 55, 53, 55, 54, 55, 55, 55, 56, 55, 57, 56, 48, 56, 49, 56, 50, 56, 51, 56, 52, 56, 53, 56, 54, 56, 55, 56, 56, 56, 57, 57, 48, 57, 49, 57, 50, 57, 51, 57, 52, 57, 53, 57, 54, 57, 55, 57, 56, 57, 57])) (gB (gA (gA g0))) (pB (pA (pB p0)))) <|
 ((o2 (vIadS 1) (gA (gG (gH g0))) (gA (gH (gB g0))) (pB (pA (pC p0)))) <|
 ((oStore 1 (gB (gA (gC g0))) (gA (gH (gH g0)))) <|
 ((o2 (vIadS 1) (gA (gH (gC g0))) (gA (gH (gE g0))) (pB (pA (pD p0)))) <|
 ((oStore 1 (gB (gA (gD g0))) (gB (gA (gB g0)))) <|
 oEnd)))))))))))))))) (cSeq (cReg ((o1 vMov (gA (gA (gA g0))) (pB (pA (pE p0)))) <|
 ((o1 vMov (gA (gA (gE g0))) (pB (pA (pF p0)))) <|
 ((o2 vSub (gB (gA (gF g0))) (gK (.int .i64 5)) (pB (pA (pG p0)))) <|
 ((o1 vMov (gA (gA (gA g0))) (pB (pA (pH p0)))) <|
 ((o1 vMov (gA (gA (gE g0))) (pB (pB (pA p0)))) <|
 ((o2 vSub (gB (gB (gA g0))) (gK (.int .i64 6)) (pB (pB (pB p0)))) <|
 ((o1 vMov (gA (gB (gD g0))) (pB (pB (pC p0)))) <|
 ((o2 vAdd (gB (gB (gC g0))) (gK (.int .u32 1)) (pB (pB (pD p0)))) <|
 ((o2 vIdxS (gK (.str [48, 48, 48, 49, 48, 50, 48, 51, 48, 52, 48, 53, 48, 54, 48, 55, 48, 56, 48, 57, 49, 48, 49, 49, 49, 50, 49, 51, 49, 52, 49, 53, 49, 54, 49, 55, 49, 56, 49, 57, 50, 48, 50, 49, 50, 50, 50, 51, 50, 52, 50, 53, 50, 54, 50, 55, 50, 56, 50, 57, 51, 48, 51, 49, 51, 50, 51, 51, 51, 52, 51, 53, 51, 54, 51, 55, 51, 56, 51, 57, 52, 48, 52, 49, 52, 50, 52, 51, 52, 52, 52, 53, 52, 54, 52, 55, 52, 56, 52, 57, 53, 48, 53, 49, 53, 50, 53, 51, 53, 52, 53, 53, 53, 54, 53, 55, 53, 56, 53, 57, 54, 48, 54, 49, 54, 50, 54, 51, 54, 52, 54, 53, 54, 54, 54, 55, 54, 56, 54, 57, 55, 48, 55, 49, 55, 50, 55, 51, 55, 52, 55, 53, 55, 54, 55, 55, 55, 56, 55, 57, 56, 48, 56, 49, 56, 50, 56, 51, 56, 52, 56, 53, 56, 54, 56, 55, 56, 56, 56, 57, 57, 48, 57, 49, 57, 50, 57, 51, 57, 52, 57, 53, 57, 54, 57, 55, 57, 56, 57, 57])) (gB (gB (gD g0))) (pB (pB (pE p0)))) <|
 ((o1 vMov (gA (gB (gD g0))) (pB (pB (pF p0)))) <|
 ((o2 vIdxS (gK (.str [48, 48, 48, 49, 48, 50, 48, 51, 48, 52, 48, 53, 48, 54, 48, 55, 48, 56, 48, 57, 49, 48, 49, 49, 49, 50, 49, 51, 49, 52, 49, 53, 49, 54, 49, 55, 49, 56, 49, 57, 50, 48, 50, 49, 50, 50, 50, 51, 50, 52, 50, 53, 50, 54, 50, 55, 50, 56, 50, 57, 51, 48, 51, 49, 51, 50, 51, 51, 51, 52, 51, 53, 51, 54, 51, 55, 51, 56, 51, 57, 52, 48, 52, 49, 52, 50, 52, 51, 52, 52, 52, 53, 52, 54, 52, 55, 52, 56, 52, 57, 53, 48, 53, 49, 53, 50, 53, 51, 53, 52, 53, 53, 53, 54, 53, 55, 53, 56, 53, 57, 54, 48, 54, 49, 54, 50, 54, 51, 54, 52, 54, 53, 54, 54, 54, 55, 54, 56, 54, 57, 55, 48, 55, 49, 55, 50, 55, 51, 55, 52, 55, 53, 55, 54, 55, 55, 55, 56, 55, 57, 56, 48, 56, 49, 56, 50, 56, 51, 56, 52, 56, 53, 56, 54, 56, 55, 56, 56, 56, 57, 57, 48, 57, 49, 57, 50, 57, 51, 57, 52, 57, 53, 57, 54, 57, 55, 57, 56, 57, 57])) (gB (gB (gF g0))) (pB (pB (pG p0)))) <|
 ((o2 (vIadS 1) (gB (gA (gE g0))) (gB (gA (gG g0))) (pB (pB (pH p0)))) <|
 ((oStore 1 (gB (gB (gH g0))) (gB (gB (gE g0)))) <|
 ((o2 (vIadS 1) (gB (gA (gH g0))) (gB (gB (gB g0))) (pB (pC (pA p0)))) <|
 ((oStore 1 (gB (gC (gA g0))) (gB (gB (gG g0)))) <|
 oEnd)))))))))))))))) (cSeq (cReg ((o1 vMov (gA (gA (gA g0))) (pB (pC (pB p0)))) <|
 ((o1 vMov (gA (gA (gE g0))) (pB (pC (pC p0)))) <|
 ((o2 vSub (gB (gC (gC g0))) (gK (.int .i64 7)) (pB (pC (pD p0)))) <|
 ((o1 vMov (gA (gA (gA g0))) (pB (pC (pE p0)))) <|
 ((o1 vMov (gA (gA (gE g0))) (pB (pC (pF p0)))) <|
 ((o2 vSub (gB (gC (gF g0))) (gK (.int .i64 8)) (pB (pC (pG p0)))) <|
 ((o1 vMov (gA (gB (gC g0))) (pB (pC (pH p0)))) <|
 ((o2 vAdd (gB (gC (gH g0))) (gK (.int .u32 1)) (pB (pD (pA p0)))) <|
 ((o2 vIdxS (gK (.str [48, 48, 48, 49, 48, 50, 48, 51, 48, 52, 48, 53, 48, 54, 48, 55, 48, 56, 48, 57, 49, 48, 49, 49, 49, 50, 49, 51, 49, 52, 49, 53, 49, 54, 49, 55, 49, 56, 49, 57, 50, 48, 50, 49, 50, 50, 50, 51, 50, 52, 50, 53, 50, 54, 50, 55, 50, 56, 50, 57, 51, 48, 51, 49, 51, 50, 51, 51, 51, 52, 51, 53, 51, 54, 51, 55, 51, 56, 51, 57, 52, 48, 52, 49, 52, 50, 52, 51, 52, 52, 52, 53, 52, 54, 52, 55, 52, 56, 52, 57, 53, 48, 53, 49, 53, 50, 53, 51, 53, 52, 53, 53, 53, 54, 53, 55, 53, 56, 53, 57, 54, 48, 54, 49, 54, 50, 54, 51, 54, 52, 54, 53, 54, 54, 54, 55, 54, 56, 54, 57, 55, 48, 55, 49, 55, 50, 55, 51, 55, 52, 55, 53, 55, 54, 55, 55, 55, 56, 55, 57, 56, 48, 56, 49, 56, 50, 56, 51, 56, 52, 56, 53, 56, 54, 56, 55, 56, 56, 56, 57, 57, 48, 57, 49, 57, 50, 57, 51, 57, 52, 57, 53, 57, 54, 57, 55, 57, 56, 57, 57])) (gB (gD (gA g0))) (pB (pD (pB p0)))) <|
 ((o1 vMov (gA (gB (gC g0))) (pB (pD (pC p0)))) <|
 ((o2 vIdxS (gK (.str [48, 48, 48, 49, 48, 50, 48, 51, 48, 52, 48, 53, 48, 54, 48, 55, 48, 56, 48, 57, 49, 48, 49, 49, 49, 50, 49, 51, 49, 52, 49, 53, 49, 54, 49, 55, 49, 56, 49, 57, 50, 48, 50, 49, 50, 50, 50, 51, 50, 52, 50, 53, 50, 54, 50, 55, 50, 56, 50, 57, 51, 48, 51, 49, 51, 50, 51, 51, 51, 52, 51, 53, 51, 54, 51, 55, 51, 56, 51, 57, 52, 48, 52, 49, 52, 50, 52, 51, 52, 52, 52, 53, 52, 54, 52, 55, 52, 56, 52, 57, 53, 48, 53, 49, 53, 50, 53, 51, 53, 52, 53, 53, 53, 54, 53, 55, 53, 56, 53, 57, 54, 48, 54, 49, 54, 50, 54, 51, 54, 52, 54, 53, 54, 54, 54, 55, 54, 56, 54, 57, 55, 48, 55, 49, 55, 50, 55, 51, 55, 52, 55, 53, 55, 54, 55, 55, 55, 56, 55, 57, 56, 48, 56, 49, 56, 50, 56, 51, 56, 52, 56, 53, 56, 54, 56, 55, 56, 56, 56, 57, 57, 48, 57, 49, 57, 50, 57, 51, 57, 52, 57, 53, 57, 54, 57, 55, 57, 56, 57, 57])) (gB (gD (gC g0))) (pB (pD (pD p0)))) <|
 ((o2 (vIadS 1) (gB (gC (gB g0))) (gB (gC (gD g0))) (pB (pD (pE p0)))) <|
 ((oStore 1 (gB (gD (gE g0))) (gB (gD (gB g0)))) <|
 ((o2 (vIadS 1) (gB (gC (gE g0))) (gB (gC (gG g0))) (pB (pD (pF p0)))) <|
 ((oStore 1 (gB (gD (gF g0))) (gB (gD (gD g0)))) <|
 oEnd)))))))))))))))) (cReg ((o1 vMov (gA (gA (gE g0))) (pB (pD (pG p0)))) <|
 ((o2 vSub (gB (gD (gG g0))) (gK (.int .i64 8)) (pB (pD (pH p0)))) <|
 ((o1 vMov (gB (gD (gH g0))) (pA (pA (pE p0)))) <|
 oEnd))))))))))))))))) (cSeq (cReg ((o1 vMov (gA (gA (gB g0))) (pB (pE (pA p0)))) <|
 ((o1 (vCvi .u32) (gB (gE (gA g0))) (pB (pE (pB p0)))) <|
 ((o1 vMov (gB (gE (gB g0))) (pA (pB (pE p0)))) <|
 oEnd)))) (cSeq (cSeq (cReg ((o1 vMov (gA (gA (gE g0))) (pB (pE (pC p0)))) <|
 ((o2 vGeq (gB (gE (gC g0))) (gK (.int .i64 4)) (pB (pE (pD p0)))) <|
 oEnd))) (cIf (gB (gE (gD g0))) (cSeq (cReg ((o1 vMov (gA (gB (gE g0))) (pB (pE (pE p0)))) <|
 ((o2 (vBin .rem) (gB (gE (gE g0))) (gK (.int .u32 10000)) (pB (pE (pF p0)))) <|
 ((o1 vMov (gB (gE (gF g0))) (pA (pB (pF p0)))) <|
 oEnd)))) (cSeq (cReg ((o1 vMov (gA (gB (gE g0))) (pB (pE (pG p0)))) <|
 ((o2 (vBin .quo) (gB (gE (gG g0))) (gK (.int .u32 10000)) (pB (pE (pH p0)))) <|
 ((o1 vMov (gB (gE (gH g0))) (pA (pB (pE p0)))) <|
 oEnd)))) (cSeq (cReg ((o1 vMov (gA (gB (gF g0))) (pB (pF (pA p0)))) <|
 ((o2 (vBin .quo) (gB (gF (gA g0))) (gK (.int .u32 100)) (pB (pF (pB p0)))) <|
 ((o2 (vBin .mul) (gB (gF (gB g0))) (gK (.int .u32 2)) (pB (pF (pC p0)))) <|
 ((o1 vMov (gA (gB (gF g0))) (pB (pF (pD p0)))) <|
 ((o2 (vBin .rem) (gB (gF (gD g0))) (gK (.int .u32 100)) (pB (pF (pE p0)))) <|
 ((o2 (vBin .mul) (gB (gF (gE g0))) (gK (.int .u32 2)) (pB (pF (pF p0)))) <|
 ((o1 vMov (gB (gF (gC g0))) (pA (pB (pG p0)))) <|
 ((o1 vMov (gB (gF (gF g0))) (pA (pB (pH p0)))) <|
 oEnd))))))))) (cSeq (cReg ((o1 vMov (gA (gA (gA g0))) (pB (pF (pG p0)))) <|
 ((o1 vMov (gA (gA (gE g0))) (pB (pF (pH p0)))) <|
 ((o2 vSub (gB (gF (gH g0))) (gK (.int .i64 1)) (pB (pG (pA p0)))) <|
 ((o1 vMov (gA (gA (gA g0))) (pB (pG (pB p0)))) <|
 ((o1 vMov (gA (gA (gE g0))) (pB (pG (pC p0)))) <|
 ((o2 vSub (gB (gG (gC g0))) (gK (.int .i64 2)) (pB (pG (pD p0)))) <|
 ((o1 vMov (gA (gB (gH g0))) (pB (pG (pE p0)))) <|
 ((o2 vAdd (gB (gG (gE g0))) (gK (.int .u32 1)) (pB (pG (pF p0)))) <|
 ((o2 vIdxS (gK (.str [48, 48, 48, 49, 48, 50, 48, 51, 48, 52, 48, 53, 48, 54, 48, 55, 48, 56, 48, 57, 49, 48, 49, 49, 49, 50, 49, 51, 49, 52, 49, 53, 49, 54, 49, 55, 49, 56, 49, 57, 50, 48, 50, 49, 50, 50, 50, 51, 50, 52, 50, 53, 50, 54, 50, 55, 50, 56, 50, 57, 51, 48, 51, 49, 51, 50, 51, 51, 51, 52, 51, 53, 51, 54, 51, 55, 51, 56, 51, 57, 52, 48, 52, 49, 52, 50, 52, 51, 52, 52, 52, 53, 52, 54, 52, 55, 52, 56, 52, 57, 53, 48, 53, 49, 53, 50, 53, 51, 53, 52, 53, 53, 53, 54, 53, 55, 53, 56, 53, 57, 54, 48, 54, 49, 54, 50, 54, 51, 54, 52, 54, 53, 54, 54, 54, 55, 54, 56, 54, 57, 55, 48, 55, 49, 55, 50, 55, 51, 55, 52, 55, 53, 55, 54, 55, 55, 55, 56, 55, 57, 56, 48, 56, 49, 56, 50, 56, 51, 56, 52, 56, 53, 56, 54, 56, 55, 56, 56, 56, 57, 57, 48, 57, 49, 57, 50, 57, 51, 57, 52, 57, 53, 57, 54, 57, 55, 57, 56, 57, 57])) (gB (gG (gF g0))) (pB (pG (pG p0)))) <|
 ((o1 vMov (gA (gB (gH g0))) (pB (pG (pH p0)))) <|
 ((o2 vIdxS (gK (.str [48, 48, 48, 49, 48, 50, 48, 51, 48, 52, 48, 53, 48, 54, 48, 55, 48, 56, 48, 57, 49, 48, 49, 49, 49, 50, 49, 51, 49, 52, 49, 53, 49, 54, 49, 55, 49, 56, 49, 57, 50, 48, 50, 49, 50, 50, 50, 51, 50, 52, 50, 53, 50, 54, 50, 55, 50, 56, 50, 57, 51, 48, 51, 49, 51, 50, 51, 51, 51, 52, 51, 53, 51, 54, 51, 55, 51, 56, 51, 57, 52, 48, 52, 49, 52, 50, 52, 51, 52, 52, 52, 53, 52, 54, 52, 55, 52, 56, 52, 57, 53, 48, 53, 49, 53, 50, 53, 51, 53, 52, 53, 53, 53, 54, 53, 55, 53, 56, 53, 57, 54, 48, 54, 49, 54, 50, 54, 51, 54, 52, 54, 53, 54, 54, 54, 55, 54, 56, 54, 57, 55, 48, 55, 49, 55, 50, 55, 51, 55, 52, 55, 53, 55, 54, 55, 55, 55, 56, 55, 57, 56, 48, 56, 49, 56, 50, 56, 51, 56, 52, 56, 53, 56, 54, 56, 55, 56, 56, 56, 57, 57, 48, 57, 49, 57, 50, 57, 51, 57, 52, 57, 53, 57, 54, 57, 55, 57, 56, 57, 57])) (gB (gG (gH g0))) (pB (pH (pA p0)))) <|
 ((o2 (vIadS 1) (gB (gF (gG g0))) (gB (gG (gA g0))) (pB (pH (pB p0)))) <|
 ((oStore 1 (gB (gH (gB g0))) (gB (gG (gG g0)))) <|
 ((o2 (vIadS 1) (gB (gG (gB g0))) (gB (gG (gD g0))) (pB (pH (pC p0)))) <|
 ((oStore 1 (gB (gH (gC g0))) (gB (gH (gA g0)))) <|
 oEnd)))))))))))))))) (cSeq (cReg ((o1 vMov (gA (gA (gA g0))) (pB (pH (pD p0)))) <|
 ((o1 vMov (gA (gA (gE g0))) (pB (pH (pE p0)))) <|
 ((o2 vSub (gB (gH (gE g0))) (gK (.int .i64 3)) (pB (pH (pF p0)))) <|
 ((o1 vMov (gA (gA (gA g0))) (pB (pH (pG p0)))) <|
 ((o1 vMov (gA (gA (gE g0))) (pB (pH (pH p0)))) <|
 ((o2 vSub (gB (gH (gH g0))) (gK (.int .i64 4)) (pC (pA (pA p0)))) <|
 ((o1 vMov (gA (gB (gG g0))) (pC (pA (pB p0)))) <|
 ((o2 vAdd (gC (gA (gB g0))) (gK (.int .u32 1)) (pC (pA (pC p0)))) <|
 ((o2 vIdxS (gK (.str [48, 48, 48, 49, 48, 50, 48, 51, 48, 52, 48, 53, 48, 54, 48, 55, 48, 56, 48, 57, 49, 48, 49, 49, 49, 50, 49, 51, 49, 52, 49, 53, 49, 54, 49, 55, 49, 56, 49, 57, 50, 48, 50, 49, 50, 50, 50, 51, 50, 52, 50, 53, 50, 54, 50, 55, 50, 56, 50, 57, 51, 48, 51, 49, 51, 50, 51, 51, 51, 52, 51, 53, 51, 54, 51, 55, 51, 56, 51, 57, 52, 48, 52, 49, 52, 50, 52, 51, 52, 52, 52, 53, 52, 54, 52, 55, 52, 56, 52, 57, 53, 48, 53, 49, 53, 50, 53, 51, 53, 52, 53, 53, 53, 54, 53, 55, 53, 56, 53, 57, 54, 48, 54, 49, 54, 50, 54, 51, 54, 52, 54, 53, 54, 54, 54, 55, 54, 56, 54, 57, 55, 48, 55, 49, 55, 50, 55, 51, 55, 52, 55, 53, 55, 54, 55, 55, 55, 56, 55, 57, 56, 48, 56, 49, 56, 50, 56, 51, 56, 52, 56, 53, 56, 54, 56, 55, 56, 56, 56, 57, 57, 48, 57, 49, 57, 50, 57, 51, 57, 52, 57, 53, 57, 54, 57, 55, 57, 56, 57, 57])) (gC (gA (gC g0))) (pC (pA (pD p0)))) <|
 ((o1 vMov (gA (gB (gG g0))) (pC (pA (pE p0)))) <|
 ((o2 vIdxS (gK (.str [48, 48, 48, 49, 48, 50, 48, 51, 48, 52, 48, 53, 48, 54, 48, 55, 48, 56, 48, 57, 49, 48, 49, 49, 49, 50, 49, 51, 49, 52, 49, 53, 49, 54, 49, 55, 49, 56, 49, 57, 50, 48, 50, 49, 50, 50, 50, 51, 50, 52, 50, 53, 50, 54, 50, 55, 50, 56, 50, 57, 51, 48, 51, 49, 51, 50, 51, 51, 51, 52, 51, 53, 51, 54, 51, 55, 51, 56, 51, 57, 52, 48, 52, 49, 52, 50, 52, 51, 52, 52, 52, 53, 52, 54, 52, 55, 52, 56, 52, 57, 53, 48, 53, 49, 53, 50, 53, 51, 53, 52, 53, 53, 53, 54, 53, 55, 53, 56, 53, 57, 54, 48, 54, 49, 54, 50, 54, 51, 54, 52, 54, 53, 54, 54, 54, 55, 54, 56, 54, 57, 55, 48, 55, 49, 55, 50, 55, 51, 55, 52, 55, 53, 55, 54, 55, 55, 55, 56, 55, 57, 56, 48, 56, 49, 56, 50, 56, 51, 56, 52, 56, 53, 56, 54, 56, 55, 56, 56, 56, 57, 57, 48, 57, 49, 57, 50, 57, 51, 57, 52, 57, 53, 57, 54, 57, 55, 57, 56, 57, 57])) (gC (gA (gE g0))) (pC (pA (pF p0)))) <|
 ((o2 (vIadS 1) (gB (gH (gD g0))) (gB (gH (gF g0))) (pC (pA (pG p0)))) <|
 ((oStore 1 (gC (gA (gG g0))) (gC (gA (gD g0)))) <|
 ((o2 (vIadS 1) (gB (gH (gG g0))) (gC (gA (gA g0))) (pC (pA (pH p0)))) <|
 ((oStore 1 (gC (gA (gH g0))) (gC (gA (gF g0)))) <|
 oEnd)))))))))))))))) (cReg ((o1 vMov (gA (gA (gE g0))) (pC (pB (pA p0)))) <|
 ((o2 vSub (gC (gB (gA g0))) (gK (.int .i64 4)) (pC (pB (pB p0)))) <|
 ((o1 vMov (gC (gB (gB g0))) (pA (pA (pE p0)))) <|
 oEnd))))))))) cSkip)) (cSeq (cSeq (cReg ((o1 vMov (gA (gA (gE g0))) (pC (pB (pC p0)))) <|
 ((o2 vGeq (gC (gB (gC g0))) (gK (.int .i64 2)) (pC (pB (pD p0)))) <|
 oEnd))) (cIf (gC (gB (gD g0))) (cSeq (cReg ((o1 vMov (gA (gB (gE g0))) (pC (pB (pE p0)))) <|
 ((o2 (vBin .rem) (gC (gB (gE g0))) (gK (.int .u32 100)) (pC (pB (pF p0)))) <|
 ((o2 (vBin .mul) (gC (gB (gF g0))) (gK (.int .u32 2)) (pC (pB (pG p0)))) <|
 ((o1 vMov (gC (gB (gG g0))) (pA (pC (pA p0)))) <|
 oEnd))))) (cSeq (cReg ((o1 vMov (gA (gB (gE g0))) (pC (pB (pH p0)))) <|
 ((o2 (vBin .quo) (gC (gB (gH g0))) (gK (.int .u32 100)) (pC (pC (pA p0)))) <|
 ((o1 vMov (gC (gC (gA g0))) (pA (pB (pE p0)))) <|
 oEnd)))) (cSeq (cReg ((o1 vMov (gA (gA (gA g0))) (pC (pC (pB p0)))) <|
 ((o1 vMov (gA (gA (gE g0))) (pC (pC (pC p0)))) <|
 ((o2 vSub (gC (gC (gC g0))) (gK (.int .i64 1)) (pC (pC (pD p0)))) <|
 ((o1 vMov (gA (gA (gA g0))) (pC (pC (pE p0)))) <|
 ((o1 vMov (gA (gA (gE g0))) (pC (pC (pF p0)))) <|
 ((o2 vSub (gC (gC (gF g0))) (gK (.int .i64 2)) (pC (pC (pG p0)))) <|
 ((o1 vMov (gA (gC (gA g0))) (pC (pC (pH p0)))) <|
 ((o2 vAdd (gC (gC (gH g0))) (gK (.int .u32 1)) (pC (pD (pA p0)))) <|
 ((o2 vIdxS (gK (.str [48, 48, 48, 49, 48, 50, 48, 51, 48, 52, 48, 53, 48, 54, 48, 55, 48, 56, 48, 57, 49, 48, 49, 49, 49, 50, 49, 51, 49, 52, 49, 53, 49, 54, 49, 55, 49, 56, 49, 57, 50, 48, 50, 49, 50, 50, 50, 51, 50, 52, 50, 53, 50, 54, 50, 55, 50, 56, 50, 57, 51, 48, 51, 49, 51, 50, 51, 51, 51, 52, 51, 53, 51, 54, 51, 55, 51, 56, 51, 57, 52, 48, 52, 49, 52, 50, 52, 51, 52, 52, 52, 53, 52, 54, 52, 55, 52, 56, 52, 57, 53, 48, 53, 49, 53, 50, 53, 51, 53, 52, 53, 53, 53, 54, 53, 55, 53, 56, 53, 57, 54, 48, 54, 49, 54, 50, 54, 51, 54, 52, 54, 53, 54, 54, 54, 55, 54, 56, 54, 57, 55, 48, 55, 49, 55, 50, 55, 51, 55, 52, 55, 53, 55, 54, 55, 55, 55, 56, 55, 57, 56, 48, 56, 49, 56, 50, 56, 51, 56, 52, 56, 53, 56, 54, 56, 55, 56, 56, 56, 57, 57, 48, 57, 49, 57, 50, 57, 51, 57, 52, 57, 53, 57, 54, 57, 55, 57, 56, 57, 57])) (gC (gD (gA g0))) (pC (pD (pB p0)))) <|
 ((o1 vMov (gA (gC (gA g0))) (pC (pD (pC p0)))) <|
 ((o2 vIdxS (gK (.str [48, 48, 48, 49, 48, 50, 48, 51, 48, 52, 48, 53, 48, 54, 48, 55, 48, 56, 48, 57, 49, 48, 49, 49, 49, 50, 49, 51, 49, 52, 49, 53, 49, 54, 49, 55, 49, 56, 49, 57, 50, 48, 50, 49, 50, 50, 50, 51, 50, 52, 50, 53, 50, 54, 50, 55, 50, 56, 50, 57, 51, 48, 51, 49, 51, 50, 51, 51, 51, 52, 51, 53, 51, 54, 51, 55, 51, 56, 51, 57, 52, 48, 52, 49, 52, 50, 52, 51, 52, 52, 52, 53, 52, 54, 52, 55, 52, 56, 52, 57, 53, 48, 53, 49, 53, 50, 53, 51, 53, 52, 53, 53, 53, 54, 53, 55, 53, 56, 53, 57, 54, 48, 54, 49, 54, 50, 54, 51, 54, 52, 54, 53, 54, 54, 54, 55, 54, 56, 54, 57, 55, 48, 55, 49, 55, 50, 55, 51, 55, 52, 55, 53, 55, 54, 55, 55, 55, 56, 55, 57, 56, 48, 56, 49, 56, 50, 56, 51, 56, 52, 56, 53, 56, 54, 56, 55, 56, 56, 56, 57, 57, 48, 57, 49, 57, 50, 57, 51, 57, 52, 57, 53, 57, 54, 57, 55, 57, 56, 57, 57])) (gC (gD (gC g0))) (pC (pD (pD p0)))) <|
 ((o2 (vIadS 1) (gC (gC (gB g0))) (gC (gC (gD g0))) (pC (pD (pE p0)))) <|
 ((oStore 1 (gC (gD (gE g0))) (gC (gD (gB g0)))) <|
 ((o2 (vIadS 1) (gC (gC (gE g0))) (gC (gC (gG g0))) (pC (pD (pF p0)))) <|
 ((oStore 1 (gC (gD (gF g0))) (gC (gD (gD g0)))) <|
 oEnd)))))))))))))))) (cReg ((o1 vMov (gA (gA (gE g0))) (pC (pD (pG p0)))) <|
 ((o2 vSub (gC (gD (gG g0))) (gK (.int .i64 2)) (pC (pD (pH p0)))) <|
 ((o1 vMov (gC (gD (gH g0))) (pA (pA (pE p0)))) <|
 oEnd))))))) cSkip)) (cSeq (cReg ((o1 vMov (gA (gA (gE g0))) (pC (pE (pA p0)))) <|
 ((o2 vGtr (gC (gE (gA g0))) (gK (.int .i64 0)) (pC (pE (pB p0)))) <|
 oEnd))) (cIf (gC (gE (gB g0))) (cReg ((o1 vMov (gA (gA (gA g0))) (pC (pE (pC p0)))) <|
 ((o1 vMov (gA (gB (gE g0))) (pC (pE (pD p0)))) <|
 ((o2 vAdd (gK (.int .u32 48)) (gC (gE (gD g0))) (pC (pE (pE p0)))) <|
 ((o1 (vCvi .u8) (gC (gE (gE g0))) (pC (pE (pF p0)))) <|
 ((o2 (vIadS 1) (gC (gE (gC g0))) (gK (.int .i64 0)) (pC (pE (pG p0)))) <|
 ((oStore 1 (gC (gE (gG g0))) (gC (gE (gF g0)))) <|
 oEnd))))))) cSkip))))))) []
theorem u78_ok : denA k78 = u78 := dA3 rfl rfl rfl (dF rfl rfl rfl (dS (dR (dc rfl (dc rfl (dc rfl dn)))) (dS (dB (dL (dS (dS (dR (dc rfl (dc rfl dn))) (dI rfl rfl dK dX)) (dB (dS (dR (dc rfl (dc rfl (dc rfl (dc rfl dn))))) (dS (dR (dc rfl (dc rfl (dc rfl dn)))) (dS (dR (dc rfl (dc rfl (dc rfl (dc rfl (dc rfl (dc rfl dn))))))) (dS (dR (dc rfl (dc rfl (dc rfl (dc rfl (dc rfl (dc rfl (dc rfl (dc rfl dn))))))))) (dS (dR (dc rfl (dc rfl (dc rfl (dc rfl (dc rfl (dc rfl (dc rfl (dc rfl dn))))))))) (dS (dR (dc rfl (dc rfl (dc rfl (dc rfl (dc rfl (dc rfl (dc rfl (dc rfl (dc rfl (dc rfl (dc rfl (dc rfl (dc rfl (dc rfl (dc rfl dn)))))))))))))))) (dS (dR (dc rfl (dc rfl (dc rfl (dc rfl (dc rfl (dc rfl (dc rfl (dc rfl (dc rfl (dc rfl (dc rfl (dc rfl (dc rfl (dc rfl (dc rfl dn)))))))))))))))) (dS (dR (dc rfl (dc rfl (dc rfl (dc rfl (dc rfl (dc rfl (dc rfl (dc rfl (dc rfl (dc rfl (dc rfl (dc rfl (dc rfl (dc rfl (dc rfl dn)))))))))))))))) (dS (dR (dc rfl (dc rfl (dc rfl (dc rfl (dc rfl (dc rfl (dc rfl (dc rfl (dc rfl (dc rfl (dc rfl (dc rfl (dc rfl (dc rfl (dc rfl dn)))))))))))))))) (dR (dc rfl (dc rfl (dc rfl dn))))))))))))))))) (dS (dR (dc rfl (dc rfl (dc rfl dn)))) (dS (dS (dR (dc rfl (dc rfl dn))) (dI rfl rfl (dS (dR (dc rfl (dc rfl (dc rfl dn)))) (dS (dR (dc rfl (dc rfl (dc rfl dn)))) (dS (dR (dc rfl (dc rfl (dc rfl (dc rfl (dc rfl (dc rfl (dc rfl (dc rfl dn))))))))) (dS (dR (dc rfl (dc rfl (dc rfl (dc rfl (dc rfl (dc rfl (dc rfl (dc rfl (dc rfl (dc rfl (dc rfl (dc rfl (dc rfl (dc rfl (dc rfl dn)))))))))))))))) (dS (dR (dc rfl (dc rfl (dc rfl (dc rfl (dc rfl (dc rfl (dc rfl (dc rfl (dc rfl (dc rfl (dc rfl (dc rfl (dc rfl (dc rfl (dc rfl dn)))))))))))))))) (dR (dc rfl (dc rfl (dc rfl dn))))))))) dK)) (dS (dS (dR (dc rfl (dc rfl dn))) (dI rfl rfl (dS (dR (dc rfl (dc rfl (dc rfl (dc rfl dn))))) (dS (dR (dc rfl (dc rfl (dc rfl dn)))) (dS (dR (dc rfl (dc rfl (dc rfl (dc rfl (dc rfl (dc rfl (dc rfl (dc rfl (dc rfl (dc rfl (dc rfl (dc rfl (dc rfl (dc rfl (dc rfl dn)))))))))))))))) (dR (dc rfl (dc rfl (dc rfl dn))))))) dK)) (dS (dR (dc rfl (dc rfl dn))) (dI rfl rfl (dR (dc rfl (dc rfl (dc rfl (dc rfl (dc rfl (dc rfl dn))))))) dK))))))))
/-- internal/strconv.formatBits -/
def u79 : Fu := fn K3.z [(pA (pA (pA p0))), (pA (pA (pB p0))), (pA (pA (pC p0))), (pA (pA (pD p0))), (pA (pA (pE p0))), (pA (pA (pF p0))), (pA (pA (pG p0))), (pA (pA (pH p0))), (pA (pB (pA p0))), (pA (pB (pB p0))), (pA (pB (pC p0))), (pA (pB (pD p0)))] (cSeq (cReg ((o1 vMov (gK .nils) (pA (pB (pC p0)))) <|
 ((o1 vMov (gK (.str [])) (pA (pB (pD p0)))) <|
 oEnd))) (cSeq (cSeq (cReg ((o1 vMov (gA (gA (gC g0))) (pA (pC (pD p0)))) <|
 ((o2 vLss (gA (gC (gD g0))) (gK (.int .i64 2)) (pA (pC (pE p0)))) <|
 ((o1 vMov (gA (gC (gE g0))) (pA (pC (pF p0)))) <|
 ((oGuard (gA (gC (gF g0))) false (pA (pC (pG p0))) (o1 vMov (gA (gA (gC g0))) (pA (pC (pG p0))))) <|
 ((oGuard (gA (gC (gF g0))) false (pA (pC (pH p0))) (o2 vEql (gA (gC (gG g0))) (gK (.int .i64 10)) (pA (pC (pH p0))))) <|
 ((oSlow K3.gt ⟨(some 24), none, (.p (.pick (.t 21) (.c (.bool true)) (.t 23))), false, []⟩ (pA (pD (pA p0)))) <|
 ((o1 vMov (gA (gD (gA g0))) (pA (pD (pB p0)))) <|
 ((oGuard (gA (gD (gB g0))) false (pA (pD (pC p0))) (o1 vMov (gA (gA (gC g0))) (pA (pD (pC p0))))) <|
 ((oGuard (gA (gD (gB g0))) false (pA (pD (pD p0))) (o2 vGtr (gA (gD (gC g0))) (gK (.int .i64 36)) (pA (pD (pD p0))))) <|
 ((oSlow K3.gt ⟨(some 28), none, (.p (.pick (.t 25) (.c (.bool true)) (.t 27))), false, []⟩ (pA (pD (pE p0)))) <|
 oEnd))))))))))) (cIf (gA (gD (gE g0))) (cReg ((o1 (vMkif 9) (gK (.str [115, 116, 114, 99, 111, 110, 118, 58, 32, 105, 108, 108, 101, 103, 97, 108, 32, 65, 112, 112, 101, 110, 100, 73, 110, 116, 47, 70, 111, 114, 109, 97, 116, 73, 110, 116, 32, 98, 97, 115, 101])) (pA (pD (pF p0)))) <|
 ((oSlow K3.gt ⟨none, none, (.h .bad), false, []⟩ pN) <|
 oEnd))) cSkip)) (cSeq (cReg ((oAlloc [(.int .u8 0), (.int .u8 0), (.int .u8 0), (.int .u8 0), (.int .u8 0), (.int .u8 0), (.int .u8 0), (.int .u8 0), (.int .u8 0), (.int .u8 0), (.int .u8 0), (.int .u8 0), (.int .u8 0), (.int .u8 0), (.int .u8 0), (.int .u8 0), (.int .u8 0), (.int .u8 0), (.int .u8 0), (.int .u8 0), (.int .u8 0), (.int .u8 0), (.int .u8 0), (.int .u8 0), (.int .u8 0), (.int .u8 0), (.int .u8 0), (.int .u8 0), (.int .u8 0), (.int .u8 0), (.int .u8 0), (.int .u8 0), (.int .u8 0), (.int .u8 0), (.int .u8 0), (.int .u8 0), (.int .u8 0), (.int .u8 0), (.int .u8 0), (.int .u8 0), (.int .u8 0), (.int .u8 0), (.int .u8 0), (.int .u8 0), (.int .u8 0), (.int .u8 0), (.int .u8 0), (.int .u8 0), (.int .u8 0), (.int .u8 0), (.int .u8 0), (.int .u8 0), (.int .u8 0), (.int .u8 0), (.int .u8 0), (.int .u8 0), (.int .u8 0), (.int .u8 0), (.int .u8 0), (.int .u8 0), (.int .u8 0), (.int .u8 0), (.int .u8 0), (.int .u8 0), (.int .u8 0)] (pA (pB (pE p0)))) <|
 oEnd)) (cSeq (cReg ((o1 vMov (gK (.int .i64 65)) (pA (pB (pF p0)))) <|
 oEnd)) (cSeq (cSeq (cReg ((o1 vMov (gA (gA (gD g0))) (pA (pD (pG p0)))) <|
 oEnd)) (cIf (gA (gD (gG g0))) (cReg ((o1 vMov (gA (gA (gB g0))) (pA (pD (pH p0)))) <|
 ((oSlow K3.gt ⟨(some 32), none, (.p (.neg (.t 31))), false, []⟩ (pA (pE (pA p0)))) <|
 ((o1 vMov (gA (gE (gA g0))) (pA (pA (pB p0)))) <|
 oEnd)))) cSkip)) (cSeq (cSeq (cReg ((o1 vMov (gA (gA (gC g0))) (pA (pE (pB p0)))) <|
 ((oCall 88 [(gA (gE (gB g0)))] (pA (pE (pC p0)))) <|
 oEnd))) (cIf (gA (gE (gC g0))) (cSeq (cReg ((o1 vMov (gA (gA (gC g0))) (pA (pE (pD p0)))) <|
 ((o1 (vCvi .u64) (gA (gE (gD g0))) (pA (pE (pE p0)))) <|
 ((oCall 89 [(gA (gE (gE g0)))] (pA (pE (pF p0)))) <|
 ((o1 (vCvi .u64) (gA (gE (gF g0))) (pA (pE (pG p0)))) <|
 ((o1 vMov (gA (gE (gG g0))) (pA (pB (pG p0)))) <|
 oEnd)))))) (cSeq (cReg ((o1 vMov (gA (gA (gC g0))) (pA (pE (pH p0)))) <|
 ((o1 (vCvi .u64) (gA (gE (gH g0))) (pA (pF (pA p0)))) <|
 ((o1 vMov (gA (gF (gA g0))) (pA (pB (pH p0)))) <|
 oEnd)))) (cSeq (cReg ((o1 vMov (gA (gA (gC g0))) (pA (pF (pB p0)))) <|
 ((o1 (vCvi .u64) (gA (gF (gB g0))) (pA (pF (pC p0)))) <|
 ((o2 vSub (gA (gF (gC g0))) (gK (.int .u64 1)) (pA (pF (pD p0)))) <|
 ((o1 vMov (gA (gF (gD g0))) (pA (pC (pA p0)))) <|
 oEnd))))) (cSeq (cBlock 1 (cLoop (cSeq (cSeq (cReg ((o1 vMov (gA (gA (gB g0))) (pA (pF (pE p0)))) <|
 ((o1 vMov (gA (gB (gH g0))) (pA (pF (pF p0)))) <|
 ((o2 vGeq (gA (gF (gE g0))) (gA (gF (gF g0))) (pA (pF (pG p0)))) <|
 oEnd)))) (cIf (gA (gF (gG g0))) cSkip (cExit 1))) (cBlock 2 (cSeq (cReg ((o1 vMov (gA (gB (gF g0))) (pA (pF (pH p0)))) <|
 ((o2 vSub (gA (gF (gH g0))) (gK (.int .i64 1)) (pA (pG (pA p0)))) <|
 ((o1 vMov (gA (gG (gA g0))) (pA (pB (pF p0)))) <|
 oEnd)))) (cSeq (cReg ((o1 vMov (gA (gB (gF g0))) (pA (pG (pB p0)))) <|
 ((o1 vMov (gA (gA (gB g0))) (pA (pG (pC p0)))) <|
 ((o1 vMov (gA (gC (gA g0))) (pA (pG (pD p0)))) <|
 ((o2 (vBin .and) (gA (gG (gC g0))) (gA (gG (gD g0))) (pA (pG (pE p0)))) <|
 ((o2 vIdxS (gK (.str [48, 49, 50, 51, 52, 53, 54, 55, 56, 57, 97, 98, 99, 100, 101, 102, 103, 104, 105, 106, 107, 108, 109, 110, 111, 112, 113, 114, 115, 116, 117, 118, 119, 120, 121, 122])) (gA (gG (gE g0))) (pA (pG (pF p0)))) <|
 ((o2 (vIadA 65 1) (gA (gB (gE g0))) (gA (gG (gB g0))) (pA (pG (pG p0)))) <|
 ((oStore 1 (gA (gG (gG g0))) (gA (gG (gF g0)))) <|
 oEnd)))))))) (cReg ((o1 vMov (gA (gA (gB g0))) (pA (pG (pH p0)))) <|
 ((o1 vMov (gA (gB (gG g0))) (pA (pH (pA p0)))) <|
 ((o2 (vBin .shr) (gA (gG (gH g0))) (gA (gH (gA g0))) (pA (pH (pB p0)))) <|
 ((o1 vMov (gA (gH (gB g0))) (pA (pA (pB p0)))) <|
 oEnd))))))))))) (cSeq (cReg ((o1 vMov (gA (gB (gF g0))) (pA (pH (pC p0)))) <|
 ((o2 vSub (gA (gH (gC g0))) (gK (.int .i64 1)) (pA (pH (pD p0)))) <|
 ((o1 vMov (gA (gH (gD g0))) (pA (pB (pF p0)))) <|
 oEnd)))) (cReg ((o1 vMov (gA (gB (gF g0))) (pA (pH (pE p0)))) <|
 ((o1 vMov (gA (gA (gB g0))) (pA (pH (pF p0)))) <|
 ((o2 vIdxS (gK (.str [48, 49, 50, 51, 52, 53, 54, 55, 56, 57, 97, 98, 99, 100, 101, 102, 103, 104, 105, 106, 107, 108, 109, 110, 111, 112, 113, 114, 115, 116, 117, 118, 119, 120, 121, 122])) (gA (gH (gF g0))) (pA (pH (pG p0)))) <|
 ((o2 (vIadA 65 1) (gA (gB (gE g0))) (gA (gH (gE g0))) (pA (pH (pH p0)))) <|
 ((oStore 1 (gA (gH (gH g0))) (gA (gH (gG g0)))) <|
 oEnd))))))))))) (cSeq (cReg ((o1 vMov (gA (gA (gC g0))) (pB (pA (pA p0)))) <|
 ((o1 (vCvi .u64) (gB (gA (gA g0))) (pB (pA (pB p0)))) <|
 ((o1 vMov (gB (gA (gB g0))) (pA (pC (pB p0)))) <|
 oEnd)))) (cSeq (cBlock 3 (cLoop (cSeq (cSeq (cReg ((o1 vMov (gA (gA (gB g0))) (pB (pA (pC p0)))) <|
 ((o1 vMov (gA (gC (gB g0))) (pB (pA (pD p0)))) <|
 ((o2 vGeq (gB (gA (gC g0))) (gB (gA (gD g0))) (pB (pA (pE p0)))) <|
 oEnd)))) (cIf (gB (gA (gE g0))) cSkip (cExit 3))) (cBlock 4 (cSeq (cReg ((o1 vMov (gA (gB (gF g0))) (pB (pA (pF p0)))) <|
 ((o2 vSub (gB (gA (gF g0))) (gK (.int .i64 1)) (pB (pA (pG p0)))) <|
 ((o1 vMov (gB (gA (gG g0))) (pA (pB (pF p0)))) <|
 oEnd)))) (cSeq (cReg ((o1 vMov (gA (gA (gB g0))) (pB (pA (pH p0)))) <|
 ((o1 vMov (gA (gC (gB g0))) (pB (pB (pA p0)))) <|
 ((o2 (vBin .quo) (gB (gA (gH g0))) (gB (gB (gA g0))) (pB (pB (pB p0)))) <|
 ((o1 vMov (gB (gB (gB g0))) (pA (pC (pC p0)))) <|
 oEnd))))) (cSeq (cReg ((o1 vMov (gA (gB (gF g0))) (pB (pB (pC p0)))) <|
 ((o1 vMov (gA (gA (gB g0))) (pB (pB (pD p0)))) <|
 ((o1 vMov (gA (gC (gC g0))) (pB (pB (pE p0)))) <|
 ((o1 vMov (gA (gC (gB g0))) (pB (pB (pF p0)))) <|
 ((o2 (vBin .mul) (gB (gB (gE g0))) (gB (gB (gF g0))) (pB (pB (pG p0)))) <|
 ((o2 vSub (gB (gB (gD g0))) (gB (gB (gG g0))) (pB (pB (pH p0)))) <|
 ((o2 vIdxS (gK (.str [48, 49, 50, 51, 52, 53, 54, 55, 56, 57, 97, 98, 99, 100, 101, 102, 103, 104, 105, 106, 107, 108, 109, 110, 111, 112, 113, 114, 115, 116, 117, 118, 119, 120, 121, 122])) (gB (gB (gH g0))) (pB (pC (pA p0)))) <|
 ((o2 (vIadA 65 1) (gA (gB (gE g0))) (gB (gB (gC g0))) (pB (pC (pB p0)))) <|
 ((oStore 1 (gB (gC (gB g0))) (gB (gC (gA g0)))) <|
 oEnd)))))))))) (cReg ((o1 vMov (gA (gC (gC g0))) (pB (pC (pC p0)))) <|
 ((o1 vMov (gB (gC (gC g0))) (pA (pA (pB p0)))) <|
 oEnd)))))))))) (cSeq (cReg ((o1 vMov (gA (gB (gF g0))) (pB (pC (pD p0)))) <|
 ((o2 vSub (gB (gC (gD g0))) (gK (.int .i64 1)) (pB (pC (pE p0)))) <|
 ((o1 vMov (gB (gC (gE g0))) (pA (pB (pF p0)))) <|
 oEnd)))) (cReg ((o1 vMov (gA (gB (gF g0))) (pB (pC (pF p0)))) <|
 ((o1 vMov (gA (gA (gB g0))) (pB (pC (pG p0)))) <|
 ((o2 vIdxS (gK (.str [48, 49, 50, 51, 52, 53, 54, 55, 56, 57, 97, 98, 99, 100, 101, 102, 103, 104, 105, 106, 107, 108, 109, 110, 111, 112, 113, 114, 115, 116, 117, 118, 119, 120, 121, 122])) (gB (gC (gG g0))) (pB (pC (pH p0)))) <|
 ((o2 (vIadA 65 1) (gA (gB (gE g0))) (gB (gC (gF g0))) (pB (pD (pA p0)))) <|
 ((oStore 1 (gB (gD (gA g0))) (gB (gC (gH g0)))) <|
 oEnd))))))))))) (cSeq (cSeq (cReg ((o1 vMov (gA (gA (gD g0))) (pB (pD (pB p0)))) <|
 oEnd)) (cIf (gB (gD (gB g0))) (cSeq (cReg ((o1 vMov (gA (gB (gF g0))) (pB (pD (pC p0)))) <|
 ((o2 vSub (gB (gD (gC g0))) (gK (.int .i64 1)) (pB (pD (pD p0)))) <|
 ((o1 vMov (gB (gD (gD g0))) (pA (pB (pF p0)))) <|
 oEnd)))) (cReg ((o1 vMov (gA (gB (gF g0))) (pB (pD (pE p0)))) <|
 ((o2 (vIadA 65 1) (gA (gB (gE g0))) (gB (gD (gE g0))) (pB (pD (pF p0)))) <|
 ((oStore 1 (gB (gD (gF g0))) (gK (.int .u8 45))) <|
 oEnd))))) cSkip)) (cSeq (cSeq (cReg ((o1 vMov (gA (gA (gE g0))) (pB (pD (pG p0)))) <|
 oEnd)) (cIf (gB (gD (gG g0))) (cSeq (cReg ((o1 vMov (gA (gA (gA g0))) (pB (pD (pH p0)))) <|
 ((o1 vMov (gA (gB (gF g0))) (pB (pE (pA p0)))) <|
 ((oSlow K3.gt ⟨(some 97), none, (.h (.slA 65 1 (.t 12) (some (.t 96)) none none)), false, []⟩ (pB (pE (pB p0)))) <|
 ((oSlow K3.gt ⟨(some 98), none, (.h (.app 1 1 (.t 95) (.t 97))), false, []⟩ (pB (pE (pC p0)))) <|
 ((o1 vMov (gB (gE (gC g0))) (pA (pB (pC p0)))) <|
 oEnd)))))) (cExit 0)) cSkip)) (cSeq (cReg ((o1 vMov (gA (gB (gF g0))) (pB (pE (pD p0)))) <|
 ((oSlow K3.gt ⟨(some 100), none, (.h (.slA 65 1 (.t 12) (some (.t 99)) none none)), false, []⟩ (pB (pE (pE p0)))) <|
 ((oSlow K3.gt ⟨(some 101), none, (.h (.b2s (.t 100))), false, []⟩ (pB (pE (pF p0)))) <|
 ((o1 vMov (gB (gE (gF g0))) (pA (pB (pD p0)))) <|
 oEnd))))) (cExit 0)))))))))) [(rT (gA (gB (gC g0)))), (rT (gA (gB (gD g0))))]
theorem u79_ok : denA k79 = u79 := dA3 rfl rfl rfl (dF rfl rfl rfl (dS (dR (dc rfl (dc rfl dn))) (dS (dS (dR (dc rfl (dc rfl (dc rfl (dc (by kernel_rfl) (dc (by kernel_rfl) (dc (by kernel_rfl) (dc rfl (dc (by kernel_rfl) (dc (by kernel_rfl) (dc (by kernel_rfl) dn))))))))))) (dI rfl rfl (dR (dc rfl (dc (by kernel_rfl) dn))) dK)) (dS (dR (dc (by kernel_rfl) dn)) (dS (dR (dc rfl dn)) (dS (dS (dR (dc rfl dn)) (dI rfl rfl (dR (dc rfl (dc (by kernel_rfl) (dc rfl dn)))) dK)) (dS (dS (dR (dc rfl (dc rfl dn))) (dI rfl rfl (dS (dR (dc rfl (dc rfl (dc rfl (dc rfl (dc rfl dn)))))) (dS (dR (dc rfl (dc rfl (dc rfl dn)))) (dS (dR (dc rfl (dc rfl (dc rfl (dc rfl dn))))) (dS (dB (dL (dS (dS (dR (dc rfl (dc rfl (dc rfl dn)))) (dI rfl rfl dK dX)) (dB (dS (dR (dc rfl (dc rfl (dc rfl dn)))) (dS (dR (dc rfl (dc rfl (dc rfl (dc rfl (dc rfl (dc rfl (dc rfl dn)))))))) (dR (dc rfl (dc rfl (dc rfl (dc rfl dn))))))))))) (dS (dR (dc rfl (dc rfl (dc rfl dn)))) (dR (dc rfl (dc rfl (dc rfl (dc rfl (dc rfl dn))))))))))) (dS (dR (dc rfl (dc rfl (dc rfl dn)))) (dS (dB (dL (dS (dS (dR (dc rfl (dc rfl (dc rfl dn)))) (dI rfl rfl dK dX)) (dB (dS (dR (dc rfl (dc rfl (dc rfl dn)))) (dS (dR (dc rfl (dc rfl (dc rfl (dc rfl dn))))) (dS (dR (dc rfl (dc rfl (dc rfl (dc rfl (dc rfl (dc rfl (dc rfl (dc rfl (dc rfl dn)))))))))) (dR (dc rfl (dc rfl dn)))))))))) (dS (dR (dc rfl (dc rfl (dc rfl dn)))) (dR (dc rfl (dc rfl (dc rfl (dc rfl (dc rfl dn))))))))))) (dS (dS (dR (dc rfl dn)) (dI rfl rfl (dS (dR (dc rfl (dc rfl (dc rfl dn)))) (dR (dc rfl (dc rfl (dc rfl dn))))) dK)) (dS (dS (dR (dc rfl dn)) (dI rfl rfl (dS (dR (dc rfl (dc rfl (dc (by kernel_rfl) (dc (by kernel_rfl) (dc rfl dn)))))) dT) dK)) (dS (dR (dc rfl (dc (by kernel_rfl) (dc (by kernel_rfl) (dc rfl dn))))) dT))))))))))
/-- unicode/utf8.decodeRuneInStringSlow -/
def u80 : Fu := fn K3.z [(pA (pA (pA p0))), (pA (pA (pB p0))), (pA (pA (pC p0))), (pA (pA (pD p0))), (pA (pA (pE p0))), (pA (pA (pF p0))), (pA (pA (pG p0))), (pA (pA (pH p0))), (pA (pB (pA p0))), (pA (pB (pB p0))), (pA (pB (pC p0))), (pA (pB (pD p0)))] (cSeq (cReg ((o1 vMov (gK (.int .i32 0)) (pA (pA (pC p0)))) <|
 ((o1 vMov (gK (.int .i64 0)) (pA (pA (pD p0)))) <|
 oEnd))) (cSeq (cReg ((o1 vMov (gA (gA (gA g0))) (pA (pB (pF p0)))) <|
 ((o1 vLenS (gA (gB (gF g0))) (pA (pB (pG p0)))) <|
 ((o1 vMov (gA (gB (gG g0))) (pA (pA (pE p0)))) <|
 oEnd)))) (cSeq (cSeq (cReg ((o1 vMov (gA (gA (gE g0))) (pA (pB (pH p0)))) <|
 ((o2 vLss (gA (gB (gH g0))) (gK (.int .i64 1)) (pA (pC (pA p0)))) <|
 oEnd))) (cIf (gA (gC (gA g0))) (cSeq (cReg ((o1 vMov (gK (.int .i32 65533)) (pA (pA (pC p0)))) <|
 ((o1 vMov (gK (.int .i64 0)) (pA (pA (pD p0)))) <|
 oEnd))) (cExit 0)) cSkip)) (cSeq (cReg ((o1 vMov (gA (gA (gA g0))) (pA (pC (pB p0)))) <|
 ((o2 vIdxS (gA (gC (gB g0))) (gK (.int .i64 0)) (pA (pC (pC p0)))) <|
 ((o1 vMov (gA (gC (gC g0))) (pA (pA (pF p0)))) <|
 oEnd)))) (cSeq (cReg ((o1 vMov (gA (gA (gF g0))) (pA (pC (pD p0)))) <|
 ((o2 (vIadA 256 1) (gK (.ptr 5 0)) (gA (gC (gD g0))) (pA (pC (pE p0)))) <|
 ((m1 wLoad1 (gA (gC (gE g0))) (pA (pC (pF p0)))) <|
 ((o1 vMov (gA (gC (gF g0))) (pA (pA (pG p0)))) <|
 oEnd))))) (cSeq (cSeq (cReg ((o1 vMov (gA (gA (gG g0))) (pA (pC (pG p0)))) <|
 ((o2 vGeq (gA (gC (gG g0))) (gK (.int .u8 240)) (pA (pC (pH p0)))) <|
 oEnd))) (cIf (gA (gC (gH g0))) (cSeq (cReg ((o1 vMov (gA (gA (gG g0))) (pA (pD (pA p0)))) <|
 ((o1 (vCvi .i32) (gA (gD (gA g0))) (pA (pD (pB p0)))) <|
 ((o2 (vBin .shl) (gA (gD (gB g0))) (gK (.int .u64 31)) (pA (pD (pC p0)))) <|
 ((o2 (vBin .shr) (gA (gD (gC g0))) (gK (.int .u64 31)) (pA (pD (pD p0)))) <|
 ((o1 vMov (gA (gD (gD g0))) (pA (pA (pH p0)))) <|
 oEnd)))))) (cSeq (cReg ((o1 vMov (gA (gA (gA g0))) (pA (pD (pE p0)))) <|
 ((o2 vIdxS (gA (gD (gE g0))) (gK (.int .i64 0)) (pA (pD (pF p0)))) <|
 ((o1 (vCvi .i32) (gA (gD (gF g0))) (pA (pD (pG p0)))) <|
 ((o1 vMov (gA (gA (gH g0))) (pA (pD (pH p0)))) <|
 ((o2 (vBin .andNot) (gA (gD (gG g0))) (gA (gD (gH g0))) (pA (pE (pA p0)))) <|
 ((o1 vMov (gA (gA (gH g0))) (pA (pE (pB p0)))) <|
 ((o2 (vBin .and) (gK (.int .i32 65533)) (gA (gE (gB g0))) (pA (pE (pC p0)))) <|
 ((o2 (vBin .or) (gA (gE (gA g0))) (gA (gE (gC g0))) (pA (pE (pD p0)))) <|
 ((o1 vMov (gA (gE (gD g0))) (pA (pA (pC p0)))) <|
 ((o1 vMov (gK (.int .i64 1)) (pA (pA (pD p0)))) <|
 oEnd))))))))))) (cExit 0))) cSkip)) (cSeq (cReg ((o1 vMov (gA (gA (gG g0))) (pA (pE (pE p0)))) <|
 ((o2 (vBin .and) (gA (gE (gE g0))) (gK (.int .u8 7)) (pA (pE (pF p0)))) <|
 ((o1 (vCvi .i64) (gA (gE (gF g0))) (pA (pE (pG p0)))) <|
 ((o1 vMov (gA (gE (gG g0))) (pA (pB (pA p0)))) <|
 oEnd))))) (cSeq (cReg ((o1 vMov (gA (gA (gG g0))) (pA (pE (pH p0)))) <|
 ((o2 (vBin .shr) (gA (gE (gH g0))) (gK (.int .u64 4)) (pA (pF (pA p0)))) <|
 ((o2 (vIadA 16 2) (gK (.ptr 6 0)) (gA (gF (gA g0))) (pA (pF (pB p0)))) <|
 ((m1 (wLoadN 2) (gA (gF (gB g0))) (pA (pF (pC p0)))) <|
 ((oAlloc [(.int .u8 0), (.int .u8 0)] (pA (pB (pB p0)))) <|
 ((oStore 2 (gA (gB (gB g0))) (gA (gF (gC g0)))) <|
 oEnd))))))) (cSeq (cSeq (cReg ((o1 vMov (gA (gA (gE g0))) (pA (pF (pD p0)))) <|
 ((o1 vMov (gA (gB (gA g0))) (pA (pF (pE p0)))) <|
 ((o2 vLss (gA (gF (gD g0))) (gA (gF (gE g0))) (pA (pF (pF p0)))) <|
 oEnd)))) (cIf (gA (gF (gF g0))) (cSeq (cReg ((o1 vMov (gK (.int .i32 65533)) (pA (pA (pC p0)))) <|
 ((o1 vMov (gK (.int .i64 1)) (pA (pA (pD p0)))) <|
 oEnd))) (cExit 0)) cSkip)) (cSeq (cReg ((o1 vMov (gA (gA (gA g0))) (pA (pF (pG p0)))) <|
 ((o2 vIdxS (gA (gF (gG g0))) (gK (.int .i64 1)) (pA (pF (pH p0)))) <|
 ((o1 vMov (gA (gF (gH g0))) (pA (pB (pC p0)))) <|
 oEnd)))) (cSeq (cSeq (cReg ((o1 vMov (gA (gB (gC g0))) (pA (pG (pA p0)))) <|
 ((o1 vFad0 (gA (gB (gB g0))) (pA (pG (pB p0)))) <|
 ((m1 wLoad1 (gA (gG (gB g0))) (pA (pG (pC p0)))) <|
 ((o2 vLss (gA (gG (gA g0))) (gA (gG (gC g0))) (pA (pG (pD p0)))) <|
 ((o1 vMov (gA (gG (gD g0))) (pA (pG (pE p0)))) <|
 ((oGuard (gA (gG (gE g0))) false (pA (pG (pF p0))) (o1 (vFad 1) (gA (gB (gB g0))) (pA (pG (pF p0))))) <|
 ((oGuard (gA (gG (gE g0))) false (pA (pG (pG p0))) (m1 wLoad1 (gA (gG (gF g0))) (pA (pG (pG p0))))) <|
 ((oGuard (gA (gG (gE g0))) false (pA (pG (pH p0))) (o1 vMov (gA (gB (gC g0))) (pA (pG (pH p0))))) <|
 ((oGuard (gA (gG (gE g0))) false (pA (pH (pA p0))) (o2 vLss (gA (gG (gG g0))) (gA (gG (gH g0))) (pA (pH (pA p0))))) <|
 ((oSlow K3.gt ⟨(some 57), none, (.p (.pick (.t 52) (.c (.bool true)) (.t 56))), false, []⟩ (pA (pH (pB p0)))) <|
 oEnd))))))))))) (cIf (gA (gH (gB g0))) (cSeq (cReg ((o1 vMov (gK (.int .i32 65533)) (pA (pA (pC p0)))) <|
 ((o1 vMov (gK (.int .i64 1)) (pA (pA (pD p0)))) <|
 oEnd))) (cExit 0)) cSkip)) (cSeq (cSeq (cReg ((o1 vMov (gA (gB (gA g0))) (pA (pH (pC p0)))) <|
 ((o2 vLeq (gA (gH (gC g0))) (gK (.int .i64 2)) (pA (pH (pD p0)))) <|
 oEnd))) (cIf (gA (gH (gD g0))) (cSeq (cReg ((o1 vMov (gA (gA (gF g0))) (pA (pH (pE p0)))) <|
 ((o2 (vBin .and) (gA (gH (gE g0))) (gK (.int .u8 31)) (pA (pH (pF p0)))) <|
 ((o1 (vCvi .i32) (gA (gH (gF g0))) (pA (pH (pG p0)))) <|
 ((o2 (vBin .shl) (gA (gH (gG g0))) (gK (.int .u64 6)) (pA (pH (pH p0)))) <|
 ((o1 vMov (gA (gB (gC g0))) (pB (pA (pA p0)))) <|
 ((o2 (vBin .and) (gB (gA (gA g0))) (gK (.int .u8 63)) (pB (pA (pB p0)))) <|
 ((o1 (vCvi .i32) (gB (gA (gB g0))) (pB (pA (pC p0)))) <|
 ((o2 (vBin .or) (gA (gH (gH g0))) (gB (gA (gC g0))) (pB (pA (pD p0)))) <|
 ((o1 vMov (gB (gA (gD g0))) (pA (pA (pC p0)))) <|
 ((o1 vMov (gK (.int .i64 2)) (pA (pA (pD p0)))) <|
 oEnd))))))))))) (cExit 0)) cSkip)) (cSeq (cReg ((o1 vMov (gA (gA (gA g0))) (pB (pA (pE p0)))) <|
 ((o2 vIdxS (gB (gA (gE g0))) (gK (.int .i64 2)) (pB (pA (pF p0)))) <|
 ((o1 vMov (gB (gA (gF g0))) (pA (pB (pD p0)))) <|
 oEnd)))) (cSeq (cSeq (cReg ((o1 vMov (gA (gB (gD g0))) (pB (pA (pG p0)))) <|
 ((o2 vLss (gB (gA (gG g0))) (gK (.int .u8 128)) (pB (pA (pH p0)))) <|
 ((o1 vMov (gB (gA (gH g0))) (pB (pB (pA p0)))) <|
 ((oGuard (gB (gB (gA g0))) false (pB (pB (pB p0))) (o1 vMov (gA (gB (gD g0))) (pB (pB (pB p0))))) <|
 ((oGuard (gB (gB (gA g0))) false (pB (pB (pC p0))) (o2 vLss (gK (.int .u8 191)) (gB (gB (gB g0))) (pB (pB (pC p0))))) <|
 ((oSlow K3.gt ⟨(some 75), none, (.p (.pick (.t 72) (.c (.bool true)) (.t 74))), false, []⟩ (pB (pB (pD p0)))) <|
 oEnd))))))) (cIf (gB (gB (gD g0))) (cSeq (cReg ((o1 vMov (gK (.int .i32 65533)) (pA (pA (pC p0)))) <|
 ((o1 vMov (gK (.int .i64 1)) (pA (pA (pD p0)))) <|
 oEnd))) (cExit 0)) cSkip)) (cSeq (cSeq (cReg ((o1 vMov (gA (gB (gA g0))) (pB (pB (pE p0)))) <|
 ((o2 vLeq (gB (gB (gE g0))) (gK (.int .i64 3)) (pB (pB (pF p0)))) <|
 oEnd))) (cIf (gB (gB (gF g0))) (cSeq (cReg ((o1 vMov (gA (gA (gF g0))) (pB (pB (pG p0)))) <|
 ((o2 (vBin .and) (gB (gB (gG g0))) (gK (.int .u8 15)) (pB (pB (pH p0)))) <|
 ((o1 (vCvi .i32) (gB (gB (gH g0))) (pB (pC (pA p0)))) <|
 ((o2 (vBin .shl) (gB (gC (gA g0))) (gK (.int .u64 12)) (pB (pC (pB p0)))) <|
 ((o1 vMov (gA (gB (gC g0))) (pB (pC (pC p0)))) <|
 ((o2 (vBin .and) (gB (gC (gC g0))) (gK (.int .u8 63)) (pB (pC (pD p0)))) <|
 ((o1 (vCvi .i32) (gB (gC (gD g0))) (pB (pC (pE p0)))) <|
 ((o2 (vBin .shl) (gB (gC (gE g0))) (gK (.int .u64 6)) (pB (pC (pF p0)))) <|
 ((o2 (vBin .or) (gB (gC (gB g0))) (gB (gC (gF g0))) (pB (pC (pG p0)))) <|
 ((o1 vMov (gA (gB (gD g0))) (pB (pC (pH p0)))) <|
 ((o2 (vBin .and) (gB (gC (gH g0))) (gK (.int .u8 63)) (pB (pD (pA p0)))) <|
 ((o1 (vCvi .i32) (gB (gD (gA g0))) (pB (pD (pB p0)))) <|
 ((o2 (vBin .or) (gB (gC (gG g0))) (gB (gD (gB g0))) (pB (pD (pC p0)))) <|
 ((o1 vMov (gB (gD (gC g0))) (pA (pA (pC p0)))) <|
 ((o1 vMov (gK (.int .i64 3)) (pA (pA (pD p0)))) <|
 oEnd)))))))))))))))) (cExit 0)) cSkip)) (cSeq (cReg ((o1 vMov (gA (gA (gA g0))) (pB (pD (pD p0)))) <|
 ((o2 vIdxS (gB (gD (gD g0))) (gK (.int .i64 3)) (pB (pD (pE p0)))) <|
 ((o1 vMov (gB (gD (gE g0))) (pA (pB (pE p0)))) <|
 oEnd)))) (cSeq (cSeq (cReg ((o1 vMov (gA (gB (gE g0))) (pB (pD (pF p0)))) <|
 ((o2 vLss (gB (gD (gF g0))) (gK (.int .u8 128)) (pB (pD (pG p0)))) <|
 ((o1 vMov (gB (gD (gG g0))) (pB (pD (pH p0)))) <|
 ((oGuard (gB (gD (gH g0))) false (pB (pE (pA p0))) (o1 vMov (gA (gB (gE g0))) (pB (pE (pA p0))))) <|
 ((oGuard (gB (gD (gH g0))) false (pB (pE (pB p0))) (o2 vLss (gK (.int .u8 191)) (gB (gE (gA g0))) (pB (pE (pB p0))))) <|
 ((oSlow K3.gt ⟨(some 98), none, (.p (.pick (.t 95) (.c (.bool true)) (.t 97))), false, []⟩ (pB (pE (pC p0)))) <|
 oEnd))))))) (cIf (gB (gE (gC g0))) (cSeq (cReg ((o1 vMov (gK (.int .i32 65533)) (pA (pA (pC p0)))) <|
 ((o1 vMov (gK (.int .i64 1)) (pA (pA (pD p0)))) <|
 oEnd))) (cExit 0)) cSkip)) (cSeq (cReg ((o1 vMov (gA (gA (gF g0))) (pB (pE (pD p0)))) <|
 ((o2 (vBin .and) (gB (gE (gD g0))) (gK (.int .u8 7)) (pB (pE (pE p0)))) <|
 ((o1 (vCvi .i32) (gB (gE (gE g0))) (pB (pE (pF p0)))) <|
 ((o2 (vBin .shl) (gB (gE (gF g0))) (gK (.int .u64 18)) (pB (pE (pG p0)))) <|
 ((o1 vMov (gA (gB (gC g0))) (pB (pE (pH p0)))) <|
 ((o2 (vBin .and) (gB (gE (gH g0))) (gK (.int .u8 63)) (pB (pF (pA p0)))) <|
 ((o1 (vCvi .i32) (gB (gF (gA g0))) (pB (pF (pB p0)))) <|
 ((o2 (vBin .shl) (gB (gF (gB g0))) (gK (.int .u64 12)) (pB (pF (pC p0)))) <|
 ((o2 (vBin .or) (gB (gE (gG g0))) (gB (gF (gC g0))) (pB (pF (pD p0)))) <|
 ((o1 vMov (gA (gB (gD g0))) (pB (pF (pE p0)))) <|
 ((o2 (vBin .and) (gB (gF (gE g0))) (gK (.int .u8 63)) (pB (pF (pF p0)))) <|
 ((o1 (vCvi .i32) (gB (gF (gF g0))) (pB (pF (pG p0)))) <|
 ((o2 (vBin .shl) (gB (gF (gG g0))) (gK (.int .u64 6)) (pB (pF (pH p0)))) <|
 ((o2 (vBin .or) (gB (gF (gD g0))) (gB (gF (gH g0))) (pB (pG (pA p0)))) <|
 ((o1 vMov (gA (gB (gE g0))) (pB (pG (pB p0)))) <|
 ((o2 (vBin .and) (gB (gG (gB g0))) (gK (.int .u8 63)) (pB (pG (pC p0)))) <|
 ((o1 (vCvi .i32) (gB (gG (gC g0))) (pB (pG (pD p0)))) <|
 ((o2 (vBin .or) (gB (gG (gA g0))) (gB (gG (gD g0))) (pB (pG (pE p0)))) <|
 ((o1 vMov (gB (gG (gE g0))) (pA (pA (pC p0)))) <|
 ((o1 vMov (gK (.int .i64 4)) (pA (pA (pD p0)))) <|
 oEnd))))))))))))))))))))) (cExit 0))))))))))))))))))) [(rT (gA (gA (gC g0)))), (rT (gA (gA (gD g0))))]
theorem u80_ok : denA k80 = u80 := dA3 rfl rfl rfl (dF rfl rfl rfl (dS (dR (dc rfl (dc rfl dn))) (dS (dR (dc rfl (dc rfl (dc rfl dn)))) (dS (dS (dR (dc rfl (dc rfl dn))) (dI rfl rfl (dS (dR (dc rfl (dc rfl dn))) dT) dK)) (dS (dR (dc rfl (dc rfl (dc rfl dn)))) (dS (dR (dc rfl (dc rfl (dc rfl (dc rfl dn))))) (dS (dS (dR (dc rfl (dc rfl dn))) (dI rfl rfl (dS (dR (dc rfl (dc rfl (dc rfl (dc rfl (dc rfl dn)))))) (dS (dR (dc rfl (dc rfl (dc rfl (dc rfl (dc rfl (dc rfl (dc rfl (dc rfl (dc rfl (dc rfl dn))))))))))) dT)) dK)) (dS (dR (dc rfl (dc rfl (dc rfl (dc rfl dn))))) (dS (dR (dc rfl (dc rfl (dc rfl (dc rfl (dc (by kernel_rfl) (dc rfl dn))))))) (dS (dS (dR (dc rfl (dc rfl (dc rfl dn)))) (dI rfl rfl (dS (dR (dc rfl (dc rfl dn))) dT) dK)) (dS (dR (dc rfl (dc rfl (dc rfl dn)))) (dS (dS (dR (dc rfl (dc rfl (dc rfl (dc rfl (dc rfl (dc (by kernel_rfl) (dc (by kernel_rfl) (dc (by kernel_rfl) (dc (by kernel_rfl) (dc (by kernel_rfl) dn))))))))))) (dI rfl rfl (dS (dR (dc rfl (dc rfl dn))) dT) dK)) (dS (dS (dR (dc rfl (dc rfl dn))) (dI rfl rfl (dS (dR (dc rfl (dc rfl (dc rfl (dc rfl (dc rfl (dc rfl (dc rfl (dc rfl (dc rfl (dc rfl dn))))))))))) dT) dK)) (dS (dR (dc rfl (dc rfl (dc rfl dn)))) (dS (dS (dR (dc rfl (dc rfl (dc rfl (dc (by kernel_rfl) (dc (by kernel_rfl) (dc (by kernel_rfl) dn))))))) (dI rfl rfl (dS (dR (dc rfl (dc rfl dn))) dT) dK)) (dS (dS (dR (dc rfl (dc rfl dn))) (dI rfl rfl (dS (dR (dc rfl (dc rfl (dc rfl (dc rfl (dc rfl (dc rfl (dc rfl (dc rfl (dc rfl (dc rfl (dc rfl (dc rfl (dc rfl (dc rfl (dc rfl dn)))))))))))))))) dT) dK)) (dS (dR (dc rfl (dc rfl (dc rfl dn)))) (dS (dS (dR (dc rfl (dc rfl (dc rfl (dc (by kernel_rfl) (dc (by kernel_rfl) (dc (by kernel_rfl) dn))))))) (dI rfl rfl (dS (dR (dc rfl (dc rfl dn))) dT) dK)) (dS (dR (dc rfl (dc rfl (dc rfl (dc rfl (dc rfl (dc rfl (dc rfl (dc rfl (dc rfl (dc rfl (dc rfl (dc rfl (dc rfl (dc rfl (dc rfl (dc rfl (dc rfl (dc rfl (dc rfl (dc rfl dn))))))))))))))))))))) dT)))))))))))))))))))
/-- internal/stringslite.IndexByte -/
def u81 : Fu := fn K1.z [(pA p0), (pB p0), (pC p0), (pD p0), (pE p0), (pF p0), (pG p0), (pH p0)] (cSeq (cReg ((o1 vMov (gK (.int .i64 0)) (pE p0)) <|
 oEnd)) (cSeq (cReg ((o1 vMov (gA g0) (pF p0)) <|
 ((o1 vMov (gB g0) (pG p0)) <|
 ((oSlow K1.gt ⟨(some 7), none, (.h (.xrow 0 [(.t 5), (.t 6)])), false, []⟩ (pH p0)) <|
 ((o1 vMov (gH g0) (pE p0)) <|
 oEnd))))) (cExit 0))) [(rT (gE g0))]
theorem u81_ok : denA k81 = u81 := dA1 rfl (dF rfl rfl rfl (dS (dR (dc rfl dn)) (dS (dR (dc rfl (dc rfl (dc (by kernel_rfl) (dc rfl dn))))) dT)))
/-- internal/bytealg.Cutover -/
def u83 : Fu := fn K1.z [(pA p0), (pB p0), (pC p0), (pD p0), (pE p0), (pF p0)] (cSeq (cReg ((o1 vMov (gK (.int .i64 0)) (pC p0)) <|
 oEnd)) (cSeq (cReg ((o1 vMov (gA g0) (pD p0)) <|
 ((o2 vAdd (gD g0) (gK (.int .i64 16)) (pE p0)) <|
 ((o2 (vBin .quo) (gE g0) (gK (.int .i64 8)) (pF p0)) <|
 ((o1 vMov (gF g0) (pC p0)) <|
 oEnd))))) (cExit 0))) [(rT (gC g0))]
theorem u83_ok : denA k83 = u83 := dA1 rfl (dF rfl rfl rfl (dS (dR (dc rfl dn)) (dS (dR (dc rfl (dc rfl (dc rfl (dc rfl dn))))) dT)))
/-- internal/bytealg.IndexRabinKarp[string] -/
def u84 : Fu := fn K3.z [(pA (pA (pA p0))), (pA (pA (pB p0))), (pA (pA (pC p0))), (pA (pA (pD p0))), (pA (pA (pE p0))), (pA (pA (pF p0))), (pA (pA (pG p0))), (pA (pA (pH p0))), (pA (pB (pA p0))), (pA (pB (pB p0))), (pA (pB (pC p0))), (pA (pB (pD p0)))] (cSeq (cReg ((o1 vMov (gK (.int .i64 0)) (pA (pA (pE p0)))) <|
 oEnd)) (cSeq (cReg ((o1 vMov (gA (gA (gB g0))) (pA (pB (pE p0)))) <|
 ((oCall 91 [(gA (gB (gE g0)))] (pA (pB (pF p0)))) <|
 ((o1 vMov (gA (gB (gF g0))) (pA (pB (pD p0)))) <|
 ((o1 (vExt 0) (gA (gB (gD g0))) (pA (pB (pG p0)))) <|
 ((o1 (vExt 1) (gA (gB (gD g0))) (pA (pB (pH p0)))) <|
 ((o1 vMov (gA (gB (gG g0))) (pA (pA (pF p0)))) <|
 ((o1 vMov (gA (gB (gH g0))) (pA (pA (pG p0)))) <|
 oEnd)))))))) (cSeq (cReg ((o1 vMov (gA (gA (gB g0))) (pA (pC (pA p0)))) <|
 ((o1 vLenS (gA (gC (gA g0))) (pA (pC (pB p0)))) <|
 ((o1 vMov (gA (gC (gB g0))) (pA (pA (pH p0)))) <|
 oEnd)))) (cSeq (cReg ((o1 vMov (gK (.int .u32 0)) (pA (pB (pA p0)))) <|
 oEnd)) (cSeq (cSeq (cReg ((o1 vMov (gK (.int .i64 0)) (pA (pB (pB p0)))) <|
 oEnd)) (cBlock 1 (cLoop (cSeq (cSeq (cReg ((o1 vMov (gA (gB (gB g0))) (pA (pC (pC p0)))) <|
 ((o1 vMov (gA (gA (gH g0))) (pA (pC (pD p0)))) <|
 ((o2 vLss (gA (gC (gC g0))) (gA (gC (gD g0))) (pA (pC (pE p0)))) <|
 oEnd)))) (cIf (gA (gC (gE g0))) cSkip (cExit 1))) (cSeq (cBlock 2 (cReg ((o1 vMov (gA (gB (gA g0))) (pA (pC (pH p0)))) <|
 ((o2 (vBin .mul) (gA (gC (gH g0))) (gK (.int .u32 16777619)) (pA (pD (pA p0)))) <|
 ((o1 vMov (gA (gA (gA g0))) (pA (pD (pB p0)))) <|
 ((o1 vMov (gA (gB (gB g0))) (pA (pD (pC p0)))) <|
 ((o2 vIdxS (gA (gD (gB g0))) (gA (gD (gC g0))) (pA (pD (pD p0)))) <|
 ((o1 (vCvi .u32) (gA (gD (gD g0))) (pA (pD (pE p0)))) <|
 ((o2 vAdd (gA (gD (gA g0))) (gA (gD (gE g0))) (pA (pD (pF p0)))) <|
 ((o1 vMov (gA (gD (gF g0))) (pA (pB (pA p0)))) <|
 oEnd)))))))))) (cReg ((o1 vMov (gA (gB (gB g0))) (pA (pC (pF p0)))) <|
 ((o2 vAdd (gA (gC (gF g0))) (gK (.int .i64 1)) (pA (pC (pG p0)))) <|
 ((o1 vMov (gA (gC (gG g0))) (pA (pB (pB p0)))) <|
 oEnd))))))))) (cSeq (cSeq (cReg ((o1 vMov (gA (gB (gA g0))) (pA (pD (pG p0)))) <|
 ((o1 vMov (gA (gA (gF g0))) (pA (pD (pH p0)))) <|
 ((o2 vEql (gA (gD (gG g0))) (gA (gD (gH g0))) (pA (pE (pA p0)))) <|
 ((o1 vMov (gA (gE (gA g0))) (pA (pE (pB p0)))) <|
 ((oGuard (gA (gE (gB g0))) true (pA (pE (pC p0))) (o1 vMov (gA (gA (gA g0))) (pA (pE (pC p0))))) <|
 ((oGuard (gA (gE (gB g0))) true (pA (pE (pD p0))) (o1 vMov (gA (gA (gH g0))) (pA (pE (pD p0))))) <|
 ((oGuard (gA (gE (gB g0))) true (pA (pE (pE p0))) (oSlow K3.gt ⟨(some 36), (some (33, true)), (.p (.slT (.t 34) none (some (.t 35)))), false, []⟩ (pA (pE (pE p0))))) <|
 ((oGuard (gA (gE (gB g0))) true (pA (pE (pF p0))) (o1 vMov (gA (gA (gB g0))) (pA (pE (pF p0))))) <|
 ((oGuard (gA (gE (gB g0))) true (pA (pE (pG p0))) (o2 vEql (gA (gE (gE g0))) (gA (gE (gF g0))) (pA (pE (pG p0))))) <|
 ((oSlow K3.gt ⟨(some 39), none, (.p (.pick (.t 33) (.t 38) (.c (.bool false)))), false, []⟩ (pA (pE (pH p0)))) <|
 oEnd))))))))))) (cIf (gA (gE (gH g0))) (cSeq (cReg ((o1 vMov (gK (.int .i64 0)) (pA (pA (pE p0)))) <|
 oEnd)) (cExit 0)) cSkip)) (cSeq (cSeq (cReg ((o1 vMov (gA (gA (gH g0))) (pA (pF (pA p0)))) <|
 ((o1 vMov (gA (gF (gA g0))) (pA (pB (pC p0)))) <|
 oEnd))) (cBlock 3 (cLoop (cSeq (cSeq (cReg ((o1 vMov (gA (gB (gC g0))) (pA (pF (pB p0)))) <|
 ((o1 vMov (gA (gA (gA g0))) (pA (pF (pC p0)))) <|
 ((o1 vLenS (gA (gF (gC g0))) (pA (pF (pD p0)))) <|
 ((o2 vLss (gA (gF (gB g0))) (gA (gF (gD g0))) (pA (pF (pE p0)))) <|
 oEnd))))) (cIf (gA (gF (gE g0))) cSkip (cExit 3))) (cBlock 4 (cSeq (cReg ((o1 vMov (gA (gB (gA g0))) (pA (pF (pF p0)))) <|
 ((o2 (vBin .mul) (gA (gF (gF g0))) (gK (.int .u32 16777619)) (pA (pF (pG p0)))) <|
 ((o1 vMov (gA (gF (gG g0))) (pA (pB (pA p0)))) <|
 oEnd)))) (cSeq (cReg ((o1 vMov (gA (gB (gA g0))) (pA (pF (pH p0)))) <|
 ((o1 vMov (gA (gA (gA g0))) (pA (pG (pA p0)))) <|
 ((o1 vMov (gA (gB (gC g0))) (pA (pG (pB p0)))) <|
 ((o2 vIdxS (gA (gG (gA g0))) (gA (gG (gB g0))) (pA (pG (pC p0)))) <|
 ((o1 (vCvi .u32) (gA (gG (gC g0))) (pA (pG (pD p0)))) <|
 ((o2 vAdd (gA (gF (gH g0))) (gA (gG (gD g0))) (pA (pG (pE p0)))) <|
 ((o1 vMov (gA (gG (gE g0))) (pA (pB (pA p0)))) <|
 oEnd)))))))) (cSeq (cReg ((o1 vMov (gA (gB (gA g0))) (pA (pG (pF p0)))) <|
 ((o1 vMov (gA (gA (gG g0))) (pA (pG (pG p0)))) <|
 ((o1 vMov (gA (gA (gA g0))) (pA (pG (pH p0)))) <|
 ((o1 vMov (gA (gB (gC g0))) (pA (pH (pA p0)))) <|
 ((o1 vMov (gA (gA (gH g0))) (pA (pH (pB p0)))) <|
 ((o2 vSub (gA (gH (gA g0))) (gA (gH (gB g0))) (pA (pH (pC p0)))) <|
 ((o2 vIdxS (gA (gG (gH g0))) (gA (gH (gC g0))) (pA (pH (pD p0)))) <|
 ((o1 (vCvi .u32) (gA (gH (gD g0))) (pA (pH (pE p0)))) <|
 ((o2 (vBin .mul) (gA (gG (gG g0))) (gA (gH (gE g0))) (pA (pH (pF p0)))) <|
 ((o2 vSub (gA (gG (gF g0))) (gA (gH (gF g0))) (pA (pH (pG p0)))) <|
 ((o1 vMov (gA (gH (gG g0))) (pA (pB (pA p0)))) <|
 oEnd)))))))))))) (cSeq (cReg ((o1 vMov (gA (gB (gC g0))) (pA (pH (pH p0)))) <|
 ((o2 vAdd (gA (gH (gH g0))) (gK (.int .i64 1)) (pB (pA (pA p0)))) <|
 ((o1 vMov (gB (gA (gA g0))) (pA (pB (pC p0)))) <|
 oEnd)))) (cSeq (cReg ((o1 vMov (gA (gB (gA g0))) (pB (pA (pB p0)))) <|
 ((o1 vMov (gA (gA (gF g0))) (pB (pA (pC p0)))) <|
 ((o2 vEql (gB (gA (gB g0))) (gB (gA (gC g0))) (pB (pA (pD p0)))) <|
 ((o1 vMov (gB (gA (gD g0))) (pB (pA (pE p0)))) <|
 ((oGuard (gB (gA (gE g0))) true (pB (pA (pF p0))) (o1 vMov (gA (gA (gA g0))) (pB (pA (pF p0))))) <|
 ((oGuard (gB (gA (gE g0))) true (pB (pA (pG p0))) (o1 vMov (gA (gB (gC g0))) (pB (pA (pG p0))))) <|
 ((oGuard (gB (gA (gE g0))) true (pB (pA (pH p0))) (o1 vMov (gA (gA (gH g0))) (pB (pA (pH p0))))) <|
 ((oGuard (gB (gA (gE g0))) true (pB (pB (pA p0))) (o2 vSub (gB (gA (gG g0))) (gB (gA (gH g0))) (pB (pB (pA p0))))) <|
 ((oGuard (gB (gA (gE g0))) true (pB (pB (pB p0))) (o1 vMov (gA (gB (gC g0))) (pB (pB (pB p0))))) <|
 ((oGuard (gB (gA (gE g0))) true (pB (pB (pC p0))) (oSlow K3.gt ⟨(some 74), (some (68, true)), (.p (.slT (.t 69) (some (.t 72)) (some (.t 73)))), false, []⟩ (pB (pB (pC p0))))) <|
 ((oGuard (gB (gA (gE g0))) true (pB (pB (pD p0))) (o1 vMov (gA (gA (gB g0))) (pB (pB (pD p0))))) <|
 ((oGuard (gB (gA (gE g0))) true (pB (pB (pE p0))) (o2 vEql (gB (gB (gC g0))) (gB (gB (gD g0))) (pB (pB (pE p0))))) <|
 ((oSlow K3.gt ⟨(some 77), none, (.p (.pick (.t 68) (.t 76) (.c (.bool false)))), false, []⟩ (pB (pB (pF p0)))) <|
 oEnd)))))))))))))) (cIf (gB (gB (gF g0))) (cSeq (cReg ((o1 vMov (gA (gB (gC g0))) (pB (pB (pG p0)))) <|
 ((o1 vMov (gA (gA (gH g0))) (pB (pB (pH p0)))) <|
 ((o2 vSub (gB (gB (gG g0))) (gB (gB (gH g0))) (pB (pC (pA p0)))) <|
 ((o1 vMov (gB (gC (gA g0))) (pA (pA (pE p0)))) <|
 oEnd))))) (cExit 0)) cSkip))))))))))) (cSeq (cReg ((o1 vMov (gK (.int .i64 (-1))) (pA (pA (pE p0)))) <|
 oEnd)) (cExit 0))))))))) [(rT (gA (gA (gE g0))))]
theorem u84_ok : denA k84 = u84 := dA3 rfl rfl rfl (dF rfl rfl rfl (dS (dR (dc rfl dn)) (dS (dR (dc rfl (dc rfl (dc rfl (dc rfl (dc rfl (dc rfl (dc rfl dn)))))))) (dS (dR (dc rfl (dc rfl (dc rfl dn)))) (dS (dR (dc rfl dn)) (dS (dS (dR (dc rfl dn)) (dB (dL (dS (dS (dR (dc rfl (dc rfl (dc rfl dn)))) (dI rfl rfl dK dX)) (dS (dB (dR (dc rfl (dc rfl (dc rfl (dc rfl (dc rfl (dc rfl (dc rfl (dc rfl dn)))))))))) (dR (dc rfl (dc rfl (dc rfl dn))))))))) (dS (dS (dR (dc rfl (dc rfl (dc rfl (dc rfl (dc (by kernel_rfl) (dc (by kernel_rfl) (dc (by kernel_rfl) (dc (by kernel_rfl) (dc (by kernel_rfl) (dc (by kernel_rfl) dn))))))))))) (dI rfl rfl (dS (dR (dc rfl dn)) dT) dK)) (dS (dS (dR (dc rfl (dc rfl dn))) (dB (dL (dS (dS (dR (dc rfl (dc rfl (dc rfl (dc rfl dn))))) (dI rfl rfl dK dX)) (dB (dS (dR (dc rfl (dc rfl (dc rfl dn)))) (dS (dR (dc rfl (dc rfl (dc rfl (dc rfl (dc rfl (dc rfl (dc rfl dn)))))))) (dS (dR (dc rfl (dc rfl (dc rfl (dc rfl (dc rfl (dc rfl (dc rfl (dc rfl (dc rfl (dc rfl (dc rfl dn)))))))))))) (dS (dR (dc rfl (dc rfl (dc rfl dn)))) (dS (dR (dc rfl (dc rfl (dc rfl (dc rfl (dc (by kernel_rfl) (dc (by kernel_rfl) (dc (by kernel_rfl) (dc (by kernel_rfl) (dc (by kernel_rfl) (dc (by kernel_rfl) (dc (by kernel_rfl) (dc (by kernel_rfl) (dc (by kernel_rfl) dn)))))))))))))) (dI rfl rfl (dS (dR (dc rfl (dc rfl (dc rfl (dc rfl dn))))) dT) dK))))))))))) (dS (dR (dc rfl dn)) dT)))))))))
/-- internal/strconv.log10Pow2 -/
def u85 : Fu := fn K1.z [(pA p0), (pB p0), (pC p0), (pD p0), (pE p0), (pF p0)] (cSeq (cReg ((o1 vMov (gK (.int .i64 0)) (pC p0)) <|
 oEnd)) (cSeq (cReg ((o1 vMov (gA g0) (pD p0)) <|
 ((o2 (vBin .mul) (gD g0) (gK (.int .i64 78913)) (pE p0)) <|
 ((o2 (vBin .shr) (gE g0) (gK (.int .u64 18)) (pF p0)) <|
 ((o1 vMov (gF g0) (pC p0)) <|
 oEnd))))) (cExit 0))) [(rT (gC g0))]
theorem u85_ok : denA k85 = u85 := dA1 rfl (dF rfl rfl rfl (dS (dR (dc rfl dn)) (dS (dR (dc rfl (dc rfl (dc rfl (dc rfl dn))))) dT)))
/-- math/bits.Len64 -/
def u86 : Fu := fn K2.z [(pA (pA p0)), (pA (pB p0)), (pA (pC p0)), (pA (pD p0)), (pA (pE p0)), (pA (pF p0)), (pA (pG p0)), (pA (pH p0)), (pB (pA p0)), (pB (pB p0)), (pB (pC p0)), (pB (pD p0))] (cSeq (cReg ((o1 vMov (gK (.int .i64 0)) (pA (pC p0))) <|
 oEnd)) (cSeq (cSeq (cReg ((o1 vMov (gA (gA g0)) (pA (pD p0))) <|
 ((o2 vGeq (gA (gD g0)) (gK (.int .u64 4294967296)) (pA (pE p0))) <|
 oEnd))) (cIf (gA (gE g0)) (cSeq (cReg ((o1 vMov (gA (gA g0)) (pA (pF p0))) <|
 ((o2 (vBin .shr) (gA (gF g0)) (gK (.int .u64 32)) (pA (pG p0))) <|
 ((o1 vMov (gA (gG g0)) (pA (pA p0))) <|
 oEnd)))) (cReg ((o1 vMov (gK (.int .i64 32)) (pA (pC p0))) <|
 oEnd))) cSkip)) (cSeq (cSeq (cReg ((o1 vMov (gA (gA g0)) (pA (pH p0))) <|
 ((o2 vGeq (gA (gH g0)) (gK (.int .u64 65536)) (pB (pA p0))) <|
 oEnd))) (cIf (gB (gA g0)) (cSeq (cReg ((o1 vMov (gA (gA g0)) (pB (pB p0))) <|
 ((o2 (vBin .shr) (gB (gB g0)) (gK (.int .u64 16)) (pB (pC p0))) <|
 ((o1 vMov (gB (gC g0)) (pA (pA p0))) <|
 oEnd)))) (cReg ((o1 vMov (gA (gC g0)) (pB (pD p0))) <|
 ((o2 vAdd (gB (gD g0)) (gK (.int .i64 16)) (pB (pE p0))) <|
 ((o1 vMov (gB (gE g0)) (pA (pC p0))) <|
 oEnd))))) cSkip)) (cSeq (cSeq (cReg ((o1 vMov (gA (gA g0)) (pB (pF p0))) <|
 ((o2 vGeq (gB (gF g0)) (gK (.int .u64 256)) (pB (pG p0))) <|
 oEnd))) (cIf (gB (gG g0)) (cSeq (cReg ((o1 vMov (gA (gA g0)) (pB (pH p0))) <|
 ((o2 (vBin .shr) (gB (gH g0)) (gK (.int .u64 8)) (pC (pA p0))) <|
 ((o1 vMov (gC (gA g0)) (pA (pA p0))) <|
 oEnd)))) (cReg ((o1 vMov (gA (gC g0)) (pC (pB p0))) <|
 ((o2 vAdd (gC (gB g0)) (gK (.int .i64 8)) (pC (pC p0))) <|
 ((o1 vMov (gC (gC g0)) (pA (pC p0))) <|
 oEnd))))) cSkip)) (cSeq (cReg ((o1 vMov (gA (gC g0)) (pC (pD p0))) <|
 ((o1 vMov (gA (gA g0)) (pC (pE p0))) <|
 ((o1 (vCvi .u8) (gC (gE g0)) (pC (pF p0))) <|
 ((o2 vIdxS (gK (.str [0, 1, 2, 2, 3, 3, 3, 3, 4, 4, 4, 4, 4, 4, 4, 4, 5, 5, 5, 5, 5, 5, 5, 5, 5, 5, 5, 5, 5, 5, 5, 5, 6, 6, 6, 6, 6, 6, 6, 6, 6, 6, 6, 6, 6, 6, 6, 6, 6, 6, 6, 6, 6, 6, 6, 6, 6, 6, 6, 6, 6, 6, 6, 6, 7, 7, 7, 7, 7, 7, 7, 7, 7, 7, 7, 7, 7, 7, 7, 7, 7, 7, 7, 7, 7, 7, 7, 7, 7, 7, 7, 7, 7, 7, 7, 7, 7, 7, 7, 7, 7, 7, 7, 7, 7, 7, 7, 7, 7, 7, 7, 7, 7, 7, 7, 7, 7, 7, 7, 7, 7, 7, 7, 7, 7, 7, 7, 7, 8, 8, 8, 8, 8, 8, 8, 8, 8, 8, 8, 8, 8, 8, 8, 8, 8, 8, 8, 8, 8, 8, 8, 8, 8, 8, 8, 8, 8, 8, 8, 8, 8, 8, 8, 8, 8, 8, 8, 8, 8, 8, 8, 8, 8, 8, 8, 8, 8, 8, 8, 8, 8, 8, 8, 8, 8, 8, 8, 8, 8, 8, 8, 8, 8, 8, 8, 8, 8, 8, 8, 8, 8, 8, 8, 8, 8, 8, 8, 8, 8, 8, 8, 8, 8, 8, 8, 8, 8, 8, 8, 8, 8, 8, 8, 8, 8, 8, 8, 8, 8, 8, 8, 8, 8, 8, 8, 8, 8, 8, 8, 8, 8, 8, 8, 8, 8, 8, 8, 8, 8, 8, 8, 8, 8, 8, 8, 8])) (gC (gF g0)) (pC (pG p0))) <|
 ((o1 (vCvi .i64) (gC (gG g0)) (pC (pH p0))) <|
 ((o2 vAdd (gC (gD g0)) (gC (gH g0)) (pD (pA p0))) <|
 ((o1 vMov (gD (gA g0)) (pA (pC p0))) <|
 oEnd)))))))) (cExit 0)))))) [(rT (gA (gC g0)))]
theorem u86_ok : denA k86 = u86 := dA2 rfl rfl (dF rfl rfl rfl (dS (dR (dc rfl dn)) (dS (dS (dR (dc rfl (dc rfl dn))) (dI rfl rfl (dS (dR (dc rfl (dc rfl (dc rfl dn)))) (dR (dc rfl dn))) dK)) (dS (dS (dR (dc rfl (dc rfl dn))) (dI rfl rfl (dS (dR (dc rfl (dc rfl (dc rfl dn)))) (dR (dc rfl (dc rfl (dc rfl dn))))) dK)) (dS (dS (dR (dc rfl (dc rfl dn))) (dI rfl rfl (dS (dR (dc rfl (dc rfl (dc rfl dn)))) (dR (dc rfl (dc rfl (dc rfl dn))))) dK)) (dS (dR (dc rfl (dc rfl (dc rfl (dc rfl (dc rfl (dc rfl (dc rfl dn)))))))) dT))))))
/-- internal/strconv.bool2[int] -/
def u87 : Fu := fn K1.z [(pA p0), (pB p0), (pC p0), (pD p0)] (cSeq (cReg ((o1 vMov (gK (.int .i64 0)) (pC p0)) <|
 oEnd)) (cSeq (cSeq (cReg ((o1 vMov (gA g0) (pD p0)) <|
 oEnd)) (cIf (gD g0) (cSeq (cReg ((o1 vMov (gK (.int .i64 1)) (pC p0)) <|
 oEnd)) (cExit 0)) cSkip)) (cSeq (cReg ((o1 vMov (gK (.int .i64 0)) (pC p0)) <|
 oEnd)) (cExit 0)))) [(rT (gC g0))]
theorem u87_ok : denA k87 = u87 := dA1 rfl (dF rfl rfl rfl (dS (dR (dc rfl dn)) (dS (dS (dR (dc rfl dn)) (dI rfl rfl (dS (dR (dc rfl dn)) dT) dK)) (dS (dR (dc rfl dn)) dT))))
/-- internal/strconv.isPowerOfTwo -/
def u88 : Fu := fn K1.z [(pA p0), (pB p0), (pC p0), (pD p0), (pE p0), (pF p0), (pG p0), (pH p0)] (cSeq (cReg ((o1 vMov (gK (.bool false)) (pC p0)) <|
 oEnd)) (cSeq (cReg ((o1 vMov (gA g0) (pD p0)) <|
 ((o1 vMov (gA g0) (pE p0)) <|
 ((o2 vSub (gE g0) (gK (.int .i64 1)) (pF p0)) <|
 ((o2 (vBin .and) (gD g0) (gF g0) (pG p0)) <|
 ((o2 vEql (gG g0) (gK (.int .i64 0)) (pH p0)) <|
 ((o1 vMov (gH g0) (pC p0)) <|
 oEnd))))))) (cExit 0))) [(rT (gC g0))]
theorem u88_ok : denA k88 = u88 := dA1 rfl (dF rfl rfl rfl (dS (dR (dc rfl dn)) (dS (dR (dc rfl (dc rfl (dc rfl (dc rfl (dc rfl (dc rfl dn))))))) dT)))
/-- math/bits.TrailingZeros -/
def u89 : Fu := fn K1.z [(pA p0), (pB p0), (pC p0), (pD p0), (pE p0), (pF p0), (pG p0), (pH p0)] (cSeq (cReg ((o1 vMov (gK (.int .i64 0)) (pC p0)) <|
 oEnd)) (cSeq (cIf (gK (.bool false)) (cSeq (cReg ((o1 vMov (gA g0) (pD p0)) <|
 ((o1 (vCvi .u32) (gD g0) (pE p0)) <|
 ((oCall 92 [(gE g0)] (pF p0)) <|
 ((o1 vMov (gF g0) (pC p0)) <|
 oEnd))))) (cExit 0)) cSkip) (cSeq (cReg ((o1 vMov (gA g0) (pG p0)) <|
 ((oCall 93 [(gG g0)] (pH p0)) <|
 ((o1 vMov (gH g0) (pC p0)) <|
 oEnd)))) (cExit 0)))) [(rT (gC g0))]
theorem u89_ok : denA k89 = u89 := dA1 rfl (dF rfl rfl rfl (dS (dR (dc rfl dn)) (dS (dIc (dS (dR (dc rfl (dc rfl (dc rfl (dc rfl dn))))) dT) dK) (dS (dR (dc rfl (dc rfl (dc rfl dn)))) dT))))
/-- internal/bytealg.hashStr[string] -/
def u91 : Fu := fn K2.z [(pA (pA p0)), (pA (pB p0)), (pA (pC p0)), (pA (pD p0)), (pA (pE p0)), (pA (pF p0)), (pA (pG p0)), (pA (pH p0)), (pB (pA p0)), (pB (pB p0)), (pB (pC p0)), (pB (pD p0))] (cSeq (cReg ((o1 vMov (gK (.int .u32 0)) (pA (pC p0))) <|
 ((o1 vMov (gK (.int .u32 0)) (pA (pD p0))) <|
 oEnd))) (cSeq (cReg ((o1 vMov (gK (.int .u32 0)) (pA (pE p0))) <|
 oEnd)) (cSeq (cSeq (cReg ((o1 vMov (gK (.int .i64 0)) (pA (pF p0))) <|
 oEnd)) (cBlock 1 (cLoop (cSeq (cSeq (cReg ((o1 vMov (gA (gF g0)) (pB (pB p0))) <|
 ((o1 vMov (gA (gA g0)) (pB (pC p0))) <|
 ((o1 vLenS (gB (gC g0)) (pB (pD p0))) <|
 ((o2 vLss (gB (gB g0)) (gB (gD g0)) (pB (pE p0))) <|
 oEnd))))) (cIf (gB (gE g0)) cSkip (cExit 1))) (cSeq (cBlock 2 (cReg ((o1 vMov (gA (gE g0)) (pB (pH p0))) <|
 ((o2 (vBin .mul) (gB (gH g0)) (gK (.int .u32 16777619)) (pC (pA p0))) <|
 ((o1 vMov (gA (gA g0)) (pC (pB p0))) <|
 ((o1 vMov (gA (gF g0)) (pC (pC p0))) <|
 ((o2 vIdxS (gC (gB g0)) (gC (gC g0)) (pC (pD p0))) <|
 ((o1 (vCvi .u32) (gC (gD g0)) (pC (pE p0))) <|
 ((o2 vAdd (gC (gA g0)) (gC (gE g0)) (pC (pF p0))) <|
 ((o1 vMov (gC (gF g0)) (pA (pE p0))) <|
 oEnd)))))))))) (cReg ((o1 vMov (gA (gF g0)) (pB (pF p0))) <|
 ((o2 vAdd (gB (gF g0)) (gK (.int .i64 1)) (pB (pG p0))) <|
 ((o1 vMov (gB (gG g0)) (pA (pF p0))) <|
 oEnd))))))))) (cSeq (cReg ((o1 vMov (gK (.int .u32 1)) (pA (pG p0))) <|
 ((o1 vMov (gK (.int .u32 16777619)) (pA (pH p0))) <|
 oEnd))) (cSeq (cSeq (cReg ((o1 vMov (gA (gA g0)) (pC (pG p0))) <|
 ((o1 vLenS (gC (gG g0)) (pC (pH p0))) <|
 ((o1 vMov (gC (gH g0)) (pB (pA p0))) <|
 oEnd)))) (cBlock 3 (cLoop (cSeq (cSeq (cReg ((o1 vMov (gB (gA g0)) (pD (pA p0))) <|
 ((o2 vGtr (gD (gA g0)) (gK (.int .i64 0)) (pD (pB p0))) <|
 oEnd))) (cIf (gD (gB g0)) cSkip (cExit 3))) (cSeq (cBlock 4 (cSeq (cSeq (cReg ((o1 vMov (gB (gA g0)) (pD (pE p0))) <|
 ((o2 (vBin .and) (gD (gE g0)) (gK (.int .i64 1)) (pD (pF p0))) <|
 ((o2 vNeq (gD (gF g0)) (gK (.int .i64 0)) (pD (pG p0))) <|
 oEnd)))) (cIf (gD (gG g0)) (cReg ((o1 vMov (gA (gG g0)) (pD (pH p0))) <|
 ((o1 vMov (gA (gH g0)) (pE (pA p0))) <|
 ((o2 (vBin .mul) (gD (gH g0)) (gE (gA g0)) (pE (pB p0))) <|
 ((o1 vMov (gE (gB g0)) (pA (pG p0))) <|
 oEnd))))) cSkip)) (cReg ((o1 vMov (gA (gH g0)) (pE (pC p0))) <|
 ((o1 vMov (gA (gH g0)) (pE (pD p0))) <|
 ((o2 (vBin .mul) (gE (gC g0)) (gE (gD g0)) (pE (pE p0))) <|
 ((o1 vMov (gE (gE g0)) (pA (pH p0))) <|
 oEnd))))))) (cReg ((o1 vMov (gB (gA g0)) (pD (pC p0))) <|
 ((o2 (vBin .shr) (gD (gC g0)) (gK (.int .u64 1)) (pD (pD p0))) <|
 ((o1 vMov (gD (gD g0)) (pB (pA p0))) <|
 oEnd))))))))) (cSeq (cReg ((o1 vMov (gA (gE g0)) (pE (pF p0))) <|
 ((o1 vMov (gA (gG g0)) (pE (pG p0))) <|
 ((o1 vMov (gE (gF g0)) (pA (pC p0))) <|
 ((o1 vMov (gE (gG g0)) (pA (pD p0))) <|
 oEnd))))) (cExit 0))))))) [(rT (gA (gC g0))), (rT (gA (gD g0)))]
theorem u91_ok : denA k91 = u91 := dA2 rfl rfl (dF rfl rfl rfl (dS (dR (dc rfl (dc rfl dn))) (dS (dR (dc rfl dn)) (dS (dS (dR (dc rfl dn)) (dB (dL (dS (dS (dR (dc rfl (dc rfl (dc rfl (dc rfl dn))))) (dI rfl rfl dK dX)) (dS (dB (dR (dc rfl (dc rfl (dc rfl (dc rfl (dc rfl (dc rfl (dc rfl (dc rfl dn)))))))))) (dR (dc rfl (dc rfl (dc rfl dn))))))))) (dS (dR (dc rfl (dc rfl dn))) (dS (dS (dR (dc rfl (dc rfl (dc rfl dn)))) (dB (dL (dS (dS (dR (dc rfl (dc rfl dn))) (dI rfl rfl dK dX)) (dS (dB (dS (dS (dR (dc rfl (dc rfl (dc rfl dn)))) (dI rfl rfl (dR (dc rfl (dc rfl (dc rfl (dc rfl dn))))) dK)) (dR (dc rfl (dc rfl (dc rfl (dc rfl dn))))))) (dR (dc rfl (dc rfl (dc rfl dn))))))))) (dS (dR (dc rfl (dc rfl (dc rfl (dc rfl dn))))) dT)))))))
/-- math/bits.TrailingZeros32 -/
def u92 : Fu := fn K2.z [(pA (pA p0)), (pA (pB p0)), (pA (pC p0)), (pA (pD p0)), (pA (pE p0)), (pA (pF p0)), (pA (pG p0)), (pA (pH p0)), (pB (pA p0)), (pB (pB p0)), (pB (pC p0)), (pB (pD p0))] (cSeq (cReg ((o1 vMov (gK (.int .i64 0)) (pA (pC p0))) <|
 oEnd)) (cSeq (cSeq (cReg ((o1 vMov (gA (gA g0)) (pA (pD p0))) <|
 ((o2 vEql (gA (gD g0)) (gK (.int .u32 0)) (pA (pE p0))) <|
 oEnd))) (cIf (gA (gE g0)) (cSeq (cReg ((o1 vMov (gK (.int .i64 32)) (pA (pC p0))) <|
 oEnd)) (cExit 0)) cSkip)) (cSeq (cReg ((o1 vMov (gA (gA g0)) (pA (pF p0))) <|
 ((o1 vMov (gA (gA g0)) (pA (pG p0))) <|
 ((oSlow K2.gt ⟨(some 7), none, (.p (.neg (.t 6))), false, []⟩ (pA (pH p0))) <|
 ((o2 (vBin .and) (gA (gF g0)) (gA (gH g0)) (pB (pA p0))) <|
 ((o2 (vBin .mul) (gB (gA g0)) (gK (.int .u32 125613361)) (pB (pB p0))) <|
 ((o2 (vBin .shr) (gB (gB g0)) (gK (.int .u64 27)) (pB (pC p0))) <|
 ((o2 (vIadA 32 1) (gK (.ptr 7 0)) (gB (gC g0)) (pB (pD p0))) <|
 ((m1 wLoad1 (gB (gD g0)) (pB (pE p0))) <|
 ((o1 (vCvi .i64) (gB (gE g0)) (pB (pF p0))) <|
 ((o1 vMov (gB (gF g0)) (pA (pC p0))) <|
 oEnd))))))))))) (cExit 0)))) [(rT (gA (gC g0)))]
theorem u92_ok : denA k92 = u92 := dA2 rfl rfl (dF rfl rfl rfl (dS (dR (dc rfl dn)) (dS (dS (dR (dc rfl (dc rfl dn))) (dI rfl rfl (dS (dR (dc rfl dn)) dT) dK)) (dS (dR (dc rfl (dc rfl (dc (by kernel_rfl) (dc rfl (dc rfl (dc rfl (dc rfl (dc rfl (dc rfl (dc rfl dn))))))))))) dT))))
/-- math/bits.TrailingZeros64 -/
def u93 : Fu := fn K2.z [(pA (pA p0)), (pA (pB p0)), (pA (pC p0)), (pA (pD p0)), (pA (pE p0)), (pA (pF p0)), (pA (pG p0)), (pA (pH p0)), (pB (pA p0)), (pB (pB p0)), (pB (pC p0)), (pB (pD p0))] (cSeq (cReg ((o1 vMov (gK (.int .i64 0)) (pA (pC p0))) <|
 oEnd)) (cSeq (cSeq (cReg ((o1 vMov (gA (gA g0)) (pA (pD p0))) <|
 ((o2 vEql (gA (gD g0)) (gK (.int .u64 0)) (pA (pE p0))) <|
 oEnd))) (cIf (gA (gE g0)) (cSeq (cReg ((o1 vMov (gK (.int .i64 64)) (pA (pC p0))) <|
 oEnd)) (cExit 0)) cSkip)) (cSeq (cReg ((o1 vMov (gA (gA g0)) (pA (pF p0))) <|
 ((o1 vMov (gA (gA g0)) (pA (pG p0))) <|
 ((oSlow K2.gt ⟨(some 7), none, (.p (.neg (.t 6))), false, []⟩ (pA (pH p0))) <|
 ((o2 (vBin .and) (gA (gF g0)) (gA (gH g0)) (pB (pA p0))) <|
 ((o2 (vBin .mul) (gB (gA g0)) (gK (.int .u64 285870213051353865)) (pB (pB p0))) <|
 ((o2 (vBin .shr) (gB (gB g0)) (gK (.int .u64 58)) (pB (pC p0))) <|
 ((o2 (vIadA 64 1) (gK (.ptr 8 0)) (gB (gC g0)) (pB (pD p0))) <|
 ((m1 wLoad1 (gB (gD g0)) (pB (pE p0))) <|
 ((o1 (vCvi .i64) (gB (gE g0)) (pB (pF p0))) <|
 ((o1 vMov (gB (gF g0)) (pA (pC p0))) <|
 oEnd))))))))))) (cExit 0)))) [(rT (gA (gC g0)))]
theorem u93_ok : denA k93 = u93 := dA2 rfl rfl (dF rfl rfl rfl (dS (dR (dc rfl dn)) (dS (dS (dR (dc rfl (dc rfl dn))) (dI rfl rfl (dS (dR (dc rfl dn)) dT) dK)) (dS (dR (dc rfl (dc rfl (dc (by kernel_rfl) (dc rfl (dc rfl (dc rfl (dc rfl (dc rfl (dc rfl (dc rfl dn))))))))))) dT))))
def progS : Tr Fu := (.n (.n (.n (.n (.n (.n (.n .e (some u63) .e) (some u31) .e) (some u15) (.n (.n .e (some u79) .e) none .e)) none (.n (.n (.n .e (some u71) .e) (some u39) .e) none (.n (.n .e (some u87) .e) (some u55) .e))) none (.n (.n (.n (.n .e (some u67) .e) none .e) none (.n (.n .e (some u83) .e) (some u51) .e)) none (.n (.n (.n .e (some u75) .e) (some u43) .e) none (.n (.n .e (some u91) .e) (some u59) .e)))) none (.n (.n (.n (.n (.n .e (some u65) .e) none .e) (some u17) (.n (.n .e (some u81) .e) (some u49) .e)) none (.n (.n (.n .e (some u73) .e) (some u41) .e) none (.n (.n .e (some u89) .e) (some u57) .e))) none (.n (.n (.n (.n .e (some u69) .e) (some u37) .e) (some u21) (.n (.n .e (some u85) .e) (some u53) .e)) none (.n (.n (.n .e (some u77) .e) none .e) none (.n (.n .e (some u93) .e) (some u61) .e))))) none (.n (.n (.n (.n (.n (.n .e (some u64) .e) none .e) none (.n (.n .e (some u80) .e) (some u48) .e)) none (.n (.n .e (some u40) .e) none (.n (.n .e (some u88) .e) (some u56) .e))) none (.n (.n (.n (.n .e (some u68) .e) (some u36) .e) none (.n (.n .e (some u84) .e) none .e)) (some u12) (.n (.n (.n .e (some u76) .e) none .e) (some u28) (.n (.n .e (some u92) .e) (some u60) .e)))) none (.n (.n (.n (.n (.n .e (some u66) .e) (some u34) .e) (some u18) (.n .e (some u50) .e)) none (.n (.n (.n .e (some u74) .e) (some u42) .e) (some u26) (.n .e (some u58) .e))) none (.n (.n (.n (.n .e (some u70) .e) (some u38) .e) none (.n (.n .e (some u86) .e) (some u54) .e)) (some u14) (.n (.n (.n .e (some u78) .e) none .e) (some u30) (.n .e (some u62) .e))))))
def ul : List (Nat × Fu) := [(12, u12), (14, u14), (15, u15), (17, u17), (18, u18), (21, u21), (26, u26), (28, u28), (30, u30), (31, u31), (34, u34), (36, u36), (37, u37), (38, u38), (39, u39), (40, u40), (41, u41), (42, u42), (43, u43), (48, u48), (49, u49), (50, u50), (51, u51), (53, u53), (54, u54), (55, u55), (56, u56), (57, u57), (58, u58), (59, u59), (60, u60), (61, u61), (62, u62), (63, u63), (64, u64), (65, u65), (66, u66), (67, u67), (68, u68), (69, u69), (70, u70), (71, u71), (73, u73), (74, u74), (75, u75), (76, u76), (77, u77), (78, u78), (79, u79), (80, u80), (81, u81), (83, u83), (84, u84), (85, u85), (86, u86), (87, u87), (88, u88), (89, u89), (91, u91), (92, u92), (93, u93)]
theorem ul_ok : AllU prog ul := ⟨⟨k12, rfl, u12_ok⟩, ⟨k14, rfl, u14_ok⟩, ⟨k15, rfl, u15_ok⟩, ⟨k17, rfl, u17_ok⟩, ⟨k18, rfl, u18_ok⟩, ⟨k21, rfl, u21_ok⟩, ⟨k26, rfl, u26_ok⟩, ⟨k28, rfl, u28_ok⟩, ⟨k30, rfl, u30_ok⟩, ⟨k31, rfl, u31_ok⟩, ⟨k34, rfl, u34_ok⟩, ⟨k36, rfl, u36_ok⟩, ⟨k37, rfl, u37_ok⟩, ⟨k38, rfl, u38_ok⟩, ⟨k39, rfl, u39_ok⟩, ⟨k40, rfl, u40_ok⟩, ⟨k41, rfl, u41_ok⟩, ⟨k42, rfl, u42_ok⟩, ⟨k43, rfl, u43_ok⟩, ⟨k48, rfl, u48_ok⟩, ⟨k49, rfl, u49_ok⟩, ⟨k50, rfl, u50_ok⟩, ⟨k51, rfl, u51_ok⟩, ⟨k53, rfl, u53_ok⟩, ⟨k54, rfl, u54_ok⟩, ⟨k55, rfl, u55_ok⟩, ⟨k56, rfl, u56_ok⟩, ⟨k57, rfl, u57_ok⟩, ⟨k58, rfl, u58_ok⟩, ⟨k59, rfl, u59_ok⟩, ⟨k60, rfl, u60_ok⟩, ⟨k61, rfl, u61_ok⟩, ⟨k62, rfl, u62_ok⟩, ⟨k63, rfl, u63_ok⟩, ⟨k64, rfl, u64_ok⟩, ⟨k65, rfl, u65_ok⟩, ⟨k66, rfl, u66_ok⟩, ⟨k67, rfl, u67_ok⟩, ⟨k68, rfl, u68_ok⟩, ⟨k69, rfl, u69_ok⟩, ⟨k70, rfl, u70_ok⟩, ⟨k71, rfl, u71_ok⟩, ⟨k73, rfl, u73_ok⟩, ⟨k74, rfl, u74_ok⟩, ⟨k75, rfl, u75_ok⟩, ⟨k76, rfl, u76_ok⟩, ⟨k77, rfl, u77_ok⟩, ⟨k78, rfl, u78_ok⟩, ⟨k79, rfl, u79_ok⟩, ⟨k80, rfl, u80_ok⟩, ⟨k81, rfl, u81_ok⟩, ⟨k83, rfl, u83_ok⟩, ⟨k84, rfl, u84_ok⟩, ⟨k85, rfl, u85_ok⟩, ⟨k86, rfl, u86_ok⟩, ⟨k87, rfl, u87_ok⟩, ⟨k88, rfl, u88_ok⟩, ⟨k89, rfl, u89_ok⟩, ⟨k91, rfl, u91_ok⟩, ⟨k92, rfl, u92_ok⟩, ⟨k93, rfl, u93_ok⟩, trivial⟩
theorem progS_eq : progS = ofU ul := by kernel_rfl
def livesN : Nat := 14

end
end Vm
end Go.Proofs.YtgncjbodicabnaaDoor

