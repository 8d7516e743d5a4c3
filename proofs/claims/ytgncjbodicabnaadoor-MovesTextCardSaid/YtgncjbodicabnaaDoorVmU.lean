/-
  The program's text for the machine. (Printed by a program.)
-/
import Derived.Test.YtgncjbodicabnaaDoorVmWH
import Derived.Test.YtgncjbodicabnaaDoorVmP
import Derived.KernelRfl
set_option linter.unusedSimpArgs false
set_option linter.unusedVariables false

namespace Go.Proofs.YtgncjbodicabnaaDoor
namespace Vm
open Go Go.Vm Go.Vm.W Go.Vm.Swift
noncomputable section
set_option maxRecDepth 100000
abbrev gAA := gA (gA (g0 : Gt AV))
abbrev gAB := gA (gB (g0 : Gt AV))
abbrev gAC := gA (gC (g0 : Gt AV))
abbrev gAD := gA (gD (g0 : Gt AV))
abbrev gAE := gA (gE (g0 : Gt AV))
abbrev gAF := gA (gF (g0 : Gt AV))
abbrev gAG := gA (gG (g0 : Gt AV))
abbrev gAH := gA (gH (g0 : Gt AV))
abbrev gBA := gB (gA (g0 : Gt AV))
abbrev gBB := gB (gB (g0 : Gt AV))
abbrev gBC := gB (gC (g0 : Gt AV))
abbrev gBD := gB (gD (g0 : Gt AV))
abbrev gBE := gB (gE (g0 : Gt AV))
abbrev gBF := gB (gF (g0 : Gt AV))
abbrev gBG := gB (gG (g0 : Gt AV))
abbrev gBH := gB (gH (g0 : Gt AV))
abbrev gCA := gC (gA (g0 : Gt AV))
abbrev gCB := gC (gB (g0 : Gt AV))
abbrev gCC := gC (gC (g0 : Gt AV))
abbrev gCD := gC (gD (g0 : Gt AV))
abbrev gCE := gC (gE (g0 : Gt AV))
abbrev gCF := gC (gF (g0 : Gt AV))
abbrev gCG := gC (gG (g0 : Gt AV))
abbrev gCH := gC (gH (g0 : Gt AV))
abbrev gDA := gD (gA (g0 : Gt AV))
abbrev gDB := gD (gB (g0 : Gt AV))
abbrev gDC := gD (gC (g0 : Gt AV))
abbrev gDD := gD (gD (g0 : Gt AV))
abbrev gDE := gD (gE (g0 : Gt AV))
abbrev gDF := gD (gF (g0 : Gt AV))
abbrev gDG := gD (gG (g0 : Gt AV))
abbrev gDH := gD (gH (g0 : Gt AV))
abbrev gEA := gE (gA (g0 : Gt AV))
abbrev gEB := gE (gB (g0 : Gt AV))
abbrev gEC := gE (gC (g0 : Gt AV))
abbrev gED := gE (gD (g0 : Gt AV))
abbrev gEE := gE (gE (g0 : Gt AV))
abbrev gEF := gE (gF (g0 : Gt AV))
abbrev gEG := gE (gG (g0 : Gt AV))
abbrev gEH := gE (gH (g0 : Gt AV))
abbrev gFA := gF (gA (g0 : Gt AV))
abbrev gFB := gF (gB (g0 : Gt AV))
abbrev gFC := gF (gC (g0 : Gt AV))
abbrev gFD := gF (gD (g0 : Gt AV))
abbrev gFE := gF (gE (g0 : Gt AV))
abbrev gFF := gF (gF (g0 : Gt AV))
abbrev gFG := gF (gG (g0 : Gt AV))
abbrev gFH := gF (gH (g0 : Gt AV))
abbrev gGA := gG (gA (g0 : Gt AV))
abbrev gGB := gG (gB (g0 : Gt AV))
abbrev gGC := gG (gC (g0 : Gt AV))
abbrev gGD := gG (gD (g0 : Gt AV))
abbrev gGE := gG (gE (g0 : Gt AV))
abbrev gGF := gG (gF (g0 : Gt AV))
abbrev gGG := gG (gG (g0 : Gt AV))
abbrev gGH := gG (gH (g0 : Gt AV))
abbrev gHA := gH (gA (g0 : Gt AV))
abbrev gHB := gH (gB (g0 : Gt AV))
abbrev gHC := gH (gC (g0 : Gt AV))
abbrev gHD := gH (gD (g0 : Gt AV))
abbrev gHE := gH (gE (g0 : Gt AV))
abbrev gHF := gH (gF (g0 : Gt AV))
abbrev gHG := gH (gG (g0 : Gt AV))
abbrev gHH := gH (gH (g0 : Gt AV))
abbrev pAA := pA (pA (p0 : Pt AV))
abbrev pAB := pA (pB (p0 : Pt AV))
abbrev pAC := pA (pC (p0 : Pt AV))
abbrev pAD := pA (pD (p0 : Pt AV))
abbrev pAE := pA (pE (p0 : Pt AV))
abbrev pAF := pA (pF (p0 : Pt AV))
abbrev pAG := pA (pG (p0 : Pt AV))
abbrev pAH := pA (pH (p0 : Pt AV))
abbrev pBA := pB (pA (p0 : Pt AV))
abbrev pBB := pB (pB (p0 : Pt AV))
abbrev pBC := pB (pC (p0 : Pt AV))
abbrev pBD := pB (pD (p0 : Pt AV))
abbrev pBE := pB (pE (p0 : Pt AV))
abbrev pBF := pB (pF (p0 : Pt AV))
abbrev pBG := pB (pG (p0 : Pt AV))
abbrev pBH := pB (pH (p0 : Pt AV))
abbrev pCA := pC (pA (p0 : Pt AV))
abbrev pCB := pC (pB (p0 : Pt AV))
abbrev pCC := pC (pC (p0 : Pt AV))
abbrev pCD := pC (pD (p0 : Pt AV))
abbrev pCE := pC (pE (p0 : Pt AV))
abbrev pCF := pC (pF (p0 : Pt AV))
abbrev pCG := pC (pG (p0 : Pt AV))
abbrev pCH := pC (pH (p0 : Pt AV))
abbrev pDA := pD (pA (p0 : Pt AV))
abbrev pDB := pD (pB (p0 : Pt AV))
abbrev pDC := pD (pC (p0 : Pt AV))
abbrev pDD := pD (pD (p0 : Pt AV))
abbrev pDE := pD (pE (p0 : Pt AV))
abbrev pDF := pD (pF (p0 : Pt AV))
abbrev pDG := pD (pG (p0 : Pt AV))
abbrev pDH := pD (pH (p0 : Pt AV))
abbrev pEA := pE (pA (p0 : Pt AV))
abbrev pEB := pE (pB (p0 : Pt AV))
abbrev pEC := pE (pC (p0 : Pt AV))
abbrev pED := pE (pD (p0 : Pt AV))
abbrev pEE := pE (pE (p0 : Pt AV))
abbrev pEF := pE (pF (p0 : Pt AV))
abbrev pEG := pE (pG (p0 : Pt AV))
abbrev pEH := pE (pH (p0 : Pt AV))
abbrev pFA := pF (pA (p0 : Pt AV))
abbrev pFB := pF (pB (p0 : Pt AV))
abbrev pFC := pF (pC (p0 : Pt AV))
abbrev pFD := pF (pD (p0 : Pt AV))
abbrev pFE := pF (pE (p0 : Pt AV))
abbrev pFF := pF (pF (p0 : Pt AV))
abbrev pFG := pF (pG (p0 : Pt AV))
abbrev pFH := pF (pH (p0 : Pt AV))
abbrev pGA := pG (pA (p0 : Pt AV))
abbrev pGB := pG (pB (p0 : Pt AV))
abbrev pGC := pG (pC (p0 : Pt AV))
abbrev pGD := pG (pD (p0 : Pt AV))
abbrev pGE := pG (pE (p0 : Pt AV))
abbrev pGF := pG (pF (p0 : Pt AV))
abbrev pGG := pG (pG (p0 : Pt AV))
abbrev pGH := pG (pH (p0 : Pt AV))
abbrev pHA := pH (pA (p0 : Pt AV))
abbrev pHB := pH (pB (p0 : Pt AV))
abbrev pHC := pH (pC (p0 : Pt AV))
abbrev pHD := pH (pD (p0 : Pt AV))
abbrev pHE := pH (pE (p0 : Pt AV))
abbrev pHF := pH (pF (p0 : Pt AV))
abbrev pHG := pH (pG (p0 : Pt AV))
abbrev pHH := pH (pH (p0 : Pt AV))
def u12 : Fu := fn K2.z [pAA, pAB, pAC, pAD, pAE, pAF, pAG, pAH, pBA, pBB, pBC, pBD] (cSeq (cReg ((m1 wBox gAA pAB) <|
((oAlloc [(.int .u8 0), (.int .i64 0), (.int .i64 0)] pAC) <|
((o1 vMov (gK (.int .i64 0)) pAD) <|
 oEnd)))) (cSeq (cSeq (cReg ((m1 (wLoadN 3) gAB pBA) <|
((oCall 34 [gBA] pBB) <|
((o2 vNeq gBB (gK (.int .i64 0)) pBC) <|
 oEnd)))) (cIf gBC (cSeq (cReg ((oSlow K2.gt ⟨some 11,none,.p (.build [(.int .u8 0), (.int .i64 0), (.int .i64 0)] []),false,[]⟩ pBD) <|
((oStore 3 gAC gBD) <|
((o1 vMov (gK (.int .i64 1)) pAD) <|
 oEnd)))) (cExit 0)) cSkip)) (cSeq (cReg ((o1 vFad0 gAB pBE) <|
((m1 wLoad1 gBE pBF) <|
((o2 (vIadA 8 4) (gK (.ptr 0 0)) gBF pBG) <|
((m1 (wLoadN 4) gBG pBH) <|
((oAlloc [(.int .i64 0), (.int .i64 0), (.int .i64 0), (.int .i64 0)] pAE) <|
((oStore 4 gAE gBH) <|
 oEnd))))))) (cSeq (cReg ((o1 vFad0 gAE pCA) <|
((m1 wLoad1 gCA pCB) <|
((o1 (vFad 2) gAE pCC) <|
((m1 wLoad1 gCC pCD) <|
((o1 (vFad 1) gAE pCE) <|
((m1 wLoad1 gCE pCF) <|
((o1 (vFad 3) gAE pCG) <|
((m1 wLoad1 gCG pCH) <|
((oSlow K2.gt ⟨some 24,none,.p (.build [(.int .i64 0), (.int .i64 0), (.int .i64 0), (.int .i64 0)] [(0, 1, (.t 17)), (1, 1, (.t 19)), (2, 1, (.t 21)), (3, 1, (.t 23))]),false,[]⟩ pDA) <|
((oAlloc [(.int .i64 0), (.int .i64 0), (.int .i64 0), (.int .i64 0)] pAF) <|
((oStore 4 gAF gDA) <|
 oEnd)))))))))))) (cSeq (cReg ((m1 (wLoadN 4) gAF pDC) <|
((o1 (vFad 1) gAB pDD) <|
((m1 wLoad1 gDD pDE) <|
((oSlow K2.gt ⟨some 29,none,.p (.neg (.t 28)),false,[]⟩ pDF) <|
((o1 (vFad 2) gAB pDG) <|
((m1 wLoad1 gDG pDH) <|
((oSlow K2.gt ⟨some 32,none,.p (.neg (.t 31)),false,[]⟩ pEA) <|
((oCall 37 [gDC, gDF, gEA] pEB) <|
((o1 vMov gEB pDB) <|
((o1 (vExt 0) gDB pEC) <|
((o1 (vExt 1) gDB pED) <|
((o1 vMov gEC pAG) <|
((o1 vMov gED pAH) <|
 oEnd)))))))))))))) (cSeq (cReg ((m1 (wLoadN 4) gAF pEE) <|
((oCall 39 [gEE] pEF) <|
((o1 vMov gAG pEG) <|
((o1 vMov gAH pEH) <|
((oSlow K2.gt ⟨some 40,none,.p (.build [(.int .u8 0), (.int .i64 0), (.int .i64 0)] [(0, 1, (.t 37)), (1, 1, (.t 38)), (2, 1, (.t 39))]),false,[]⟩ pFA) <|
((oCall 38 [gFA] pFB) <|
((o1 (vExt 0) gFB pFC) <|
((o1 (vExt 1) gFB pFD) <|
((oStore 3 gAC gFC) <|
((o1 vMov gFD pAD) <|
 oEnd))))))))))) (cExit 0))))))) [(rA 3 gAC), (rT gAD)]
theorem u12_ok : denA k12 = u12 := dA2 rfl rfl (dF rfl rfl rfl (dS (dR (dc rfl (dc (by kernel_rfl) (dc rfl dn)))) (dS (dS (dR (dc rfl (dc rfl (dc rfl dn)))) (dI rfl rfl (dS (dR (dc (by kernel_rfl) (dc rfl (dc rfl dn)))) dT) dK)) (dS (dR (dc rfl (dc rfl (dc rfl (dc rfl (dc (by kernel_rfl) (dc rfl dn))))))) (dS (dR (dc rfl (dc rfl (dc rfl (dc rfl (dc rfl (dc rfl (dc rfl (dc rfl (dc (by kernel_rfl) (dc (by kernel_rfl) (dc rfl dn)))))))))))) (dS (dR (dc rfl (dc rfl (dc rfl (dc (by kernel_rfl) (dc rfl (dc rfl (dc (by kernel_rfl) (dc rfl (dc rfl (dc rfl (dc rfl (dc rfl (dc rfl dn)))))))))))))) (dS (dR (dc rfl (dc rfl (dc rfl (dc rfl (dc (by kernel_rfl) (dc rfl (dc rfl (dc rfl (dc rfl (dc rfl dn))))))))))) dT)))))))
def u14 : Fu := fn K3.z [(pA pAA), (pA pAB), (pA pAC), (pA pAD), (pA pAE), (pA pAF), (pA pAG), (pA pAH), (pA pBA), (pA pBB), (pA pBC), (pA pBD)] (cSeq (cReg ((o1 vMov (gK (.bool false)) (pA pAA)) <|
 oEnd)) (cSeq (cSeq (cReg ((oCall 40 [(gK (.int .u8 1)), (gK (.int .i64 3))] (pA pCD)) <|
((oCall 36 [(gK (.int .u8 4)), (gK (.int .i64 6)), (gK (.int .i64 0))] (pA pCE)) <|
((o2 (vEqf true true [1, 1, 1]) (gA gCD) (gA gCE) (pA pCF)) <|
((o1 vMov (gA gCF) (pA pCG)) <|
((oGuard (gA gCG) false (pA pCH) (oCall 40 [(gK (.int .u8 2)), (gK (.int .i64 3))] (pA pCH))) <|
((oGuard (gA gCG) false (pA pDA) (oCall 36 [(gK (.int .u8 6)), (gK (.int .i64 0)), (gK (.int .i64 6))] (pA pDA))) <|
((oGuard (gA gCG) false (pA pDB) (o2 (vEqf true true [1, 1, 1]) (gA gCH) (gA gDA) (pA pDB))) <|
((oSlow K3.gt ⟨some 26,none,.p (.pick (.t 22) (.c (.bool true)) (.t 25)),false,[]⟩ (pA pDC)) <|
((o1 vMov (gA gDC) (pA pDD)) <|
((oGuard (gA gDD) false (pA pDE) (oCall 40 [(gK (.int .u8 3)), (gK (.int .i64 3))] (pA pDE))) <|
((oGuard (gA gDD) false (pA pDF) (oCall 36 [(gK (.int .u8 5)), (gK (.int .i64 3)), (gK (.int .i64 3))] (pA pDF))) <|
((oGuard (gA gDD) false (pA pDG) (o2 (vEqf true true [1, 1, 1]) (gA gDE) (gA gDF) (pA pDG))) <|
((oSlow K3.gt ⟨some 31,none,.p (.pick (.t 27) (.c (.bool true)) (.t 30)),false,[]⟩ (pA pDH)) <|
((o1 vMov (gA gDH) (pA pEA)) <|
((oGuard (gA gEA) false (pA pEB) (oCall 40 [(gK (.int .u8 4)), (gK (.int .i64 3))] (pA pEB))) <|
((oGuard (gA gEA) false (pA pEC) (oCall 36 [(gK (.int .u8 7)), (gK (.int .i64 (-3))), (gK (.int .i64 3))] (pA pEC))) <|
((oGuard (gA gEA) false (pA pED) (o2 (vEqf true true [1, 1, 1]) (gA gEB) (gA gEC) (pA pED))) <|
((oSlow K3.gt ⟨some 36,none,.p (.pick (.t 32) (.c (.bool true)) (.t 35)),false,[]⟩ (pA pEE)) <|
 oEnd))))))))))))))))))) (cIf (gA gEE) (cSeq (cReg ((o1 vMov (gK (.bool false)) (pA pAA)) <|
 oEnd)) (cExit 0)) cSkip)) (cSeq (cReg ((oCall 40 [(gK (.int .u8 1)), (gK (.int .i64 0))] (pA pEG)) <|
((oCall 40 [(gK (.int .u8 1)), (gK (.int .i64 2))] (pA pEH)) <|
((oCall 15 [(gA gEG), (gA gEH)] (pA pFA)) <|
((o1 vMov (gA gFA) (pA pEF)) <|
((o1 (vExt 0) (gA gEF) (pA pFB)) <|
((o1 (vExt 1) (gA gEF) (pA pFC)) <|
((oAlloc [(.int .u8 0), (.int .i64 0), (.int .i64 0)] (pA pAB)) <|
((oStore 3 (gA gAB) (gA gFB)) <|
((o1 vMov (gA gFC) (pA pAC)) <|
 oEnd)))))))))) (cSeq (cReg ((oCall 40 [(gK (.int .u8 1)), (gK (.int .i64 0))] (pA pFE)) <|
((oCall 40 [(gK (.int .u8 2)), (gK (.int .i64 0))] (pA pFF)) <|
((oCall 15 [(gA gFE), (gA gFF)] (pA pFG)) <|
((o1 vMov (gA gFG) (pA pFD)) <|
((o1 (vExt 0) (gA gFD) (pA pFH)) <|
((o1 (vExt 1) (gA gFD) (pA pGA)) <|
((oAlloc [(.int .u8 0), (.int .i64 0), (.int .i64 0)] (pA pAD)) <|
((oStore 3 (gA gAD) (gA gFH)) <|
((o1 vMov (gA gGA) (pA pAE)) <|
 oEnd)))))))))) (cSeq (cReg ((oCall 40 [(gK (.int .u8 1)), (gK (.int .i64 0))] (pA pGC)) <|
((oCall 40 [(gK (.int .u8 3)), (gK (.int .i64 0))] (pA pGD)) <|
((oCall 15 [(gA gGC), (gA gGD)] (pA pGE)) <|
((o1 vMov (gA gGE) (pA pGB)) <|
((o1 (vExt 0) (gA gGB) (pA pGF)) <|
((o1 (vExt 1) (gA gGB) (pA pGG)) <|
((oAlloc [(.int .u8 0), (.int .i64 0), (.int .i64 0)] (pA pAF)) <|
((oStore 3 (gA gAF) (gA gGF)) <|
((o1 vMov (gA gGG) (pA pAG)) <|
 oEnd)))))))))) (cSeq (cReg ((oCall 36 [(gK (.int .u8 1)), (gK (.int .i64 2)), (gK (.int .i64 4))] (pA pHA)) <|
((oCall 12 [(gA gHA)] (pA pHB)) <|
((o1 vMov (gA gHB) (pA pGH)) <|
((o1 (vExt 0) (gA gGH) (pA pHC)) <|
((o1 (vExt 1) (gA gGH) (pA pHD)) <|
((oAlloc [(.int .u8 0), (.int .i64 0), (.int .i64 0)] (pA pAH)) <|
((oStore 3 (gA gAH) (gA gHC)) <|
((o1 vMov (gA gHD) (pA pBA)) <|
 oEnd))))))))) (cSeq (cReg ((oCall 36 [(gK (.int .u8 1)), (gK (.int .i64 2)), (gK (.int .i64 4))] (pA pHF)) <|
((oSlow K3.gt ⟨some 62,none,.p (.build [(.int .i64 0), (.int .i64 0)] [(0, 1, (.c (.int .i64 3))), (1, 1, (.c (.int .i64 1)))]),false,[]⟩ (pA pHG)) <|
((oCall 18 [(gA gHF), (gA gHG)] (pA pHH)) <|
((o1 vMov (gA gHH) (pA pHE)) <|
((o1 (vExt 0) (gA gHE) (pB pAA)) <|
((o1 (vExt 1) (gA gHE) (pB pAB)) <|
((oAlloc [(.int .i64 0), (.int .i64 0)] (pA pBB)) <|
((oStore 2 (gA gBB) (gB gAA)) <|
((o1 vMov (gB gAB) (pA pBC)) <|
 oEnd)))))))))) (cSeq (cReg ((oCall 36 [(gK (.int .u8 1)), (gK (.int .i64 2)), (gK (.int .i64 4))] (pB pAD)) <|
((oSlow K3.gt ⟨some 68,none,.p (.build [(.int .u8 0), (.int .i64 0)] [(0, 1, (.c (.int .u8 1))), (1, 1, (.c (.int .i64 1)))]),false,[]⟩ (pB pAE)) <|
((oCall 21 [(gB gAD), (gB gAE)] (pB pAF)) <|
((o1 vMov (gB gAF) (pB pAC)) <|
((o1 (vExt 0) (gB gAC) (pB pAG)) <|
((o1 (vExt 1) (gB gAC) (pB pAH)) <|
((oAlloc [(.int .u8 0), (.int .i64 0)] (pA pBD)) <|
((oStore 2 (gA gBD) (gB gAG)) <|
((o1 vMov (gB gAH) (pA pBE)) <|
 oEnd)))))))))) (cSeq (cReg ((oCall 36 [(gK (.int .u8 1)), (gK (.int .i64 2)), (gK (.int .i64 4))] (pB pBB)) <|
((oSlow K3.gt ⟨some 74,none,.p (.build [(.int .u8 0), (.int .i64 0)] [(0, 1, (.c (.int .u8 3))), (1, 1, (.c (.int .i64 1)))]),false,[]⟩ (pB pBC)) <|
((oCall 21 [(gB gBB), (gB gBC)] (pB pBD)) <|
((o1 vMov (gB gBD) (pB pBA)) <|
((o1 (vExt 0) (gB gBA) (pB pBE)) <|
((o1 (vExt 1) (gB gBA) (pB pBF)) <|
((oAlloc [(.int .u8 0), (.int .i64 0)] (pA pBF)) <|
((oStore 2 (gA gBF) (gB gBE)) <|
((o1 vMov (gB gBF) (pA pBG)) <|
 oEnd)))))))))) (cSeq (cReg ((oCall 30 [(gK (.str [48, 32, 49, 32, 48]))] (pB pBH)) <|
((o1 vMov (gB gBH) (pB pBG)) <|
((o1 (vExt 0) (gB gBG) (pB pCA)) <|
((o1 (vExt 1) (gB gBG) (pB pCB)) <|
((oAlloc [(.int .u8 0), (.int .i64 0), (.int .i64 0)] (pA pBH)) <|
((oStore 3 (gA gBH) (gB gCA)) <|
((o1 vMov (gB gCB) (pA pCA)) <|
 oEnd)))))))) (cSeq (cReg ((oCall 36 [(gK (.int .u8 0)), (gK (.int .i64 16384)), (gK (.int .i64 0))] (pB pCD)) <|
((oCall 36 [(gK (.int .u8 0)), (gK (.int .i64 2)), (gK (.int .i64 0))] (pB pCE)) <|
((oCall 15 [(gB gCD), (gB gCE)] (pB pCF)) <|
((o1 vMov (gB gCF) (pB pCC)) <|
((o1 (vExt 0) (gB gCC) (pB pCG)) <|
((o1 (vExt 1) (gB gCC) (pB pCH)) <|
((oAlloc [(.int .u8 0), (.int .i64 0), (.int .i64 0)] (pA pCB)) <|
((oStore 3 (gA gCB) (gB gCG)) <|
((o1 vMov (gB gCH) (pA pCC)) <|
 oEnd)))))))))) (cSeq (cReg ((m1 (wLoadN 3) (gA gAB) (pB pDA)) <|
((oCallQ 36 [(gK (.int .u8 0)), (gK (.int .i64 4)), (gK (.int .i64 0))] (pB pDB)) <|
((o2 (vEqf false true [1, 1, 1]) (gB gDA) (gB gDB) (pB pDC)) <|
((o1 vMov (gB gDC) (pB pDD)) <|
((oGuard (gB gDD) true (pB pDE) (m1 (wLoadN 3) (gA gAD) (pB pDE))) <|
((oGuard (gB gDD) true (pB pDF) (oCallQ 36 [(gK (.int .u8 2)), (gK (.int .i64 0)), (gK (.int .i64 0))] (pB pDF))) <|
((oGuard (gB gDD) true (pB pDG) (o2 (vEqf false true [1, 1, 1]) (gB gDE) (gB gDF) (pB pDG))) <|
((oSlow K3.gt ⟨some 95,none,.p (.pick (.t 91) (.t 94) (.c (.bool false))),false,[]⟩ (pB pDH)) <|
((o1 vMov (gB gDH) (pB pEA)) <|
((oGuard (gB gEA) true (pB pEB) (m1 (wLoadN 3) (gA gAF) (pB pEB))) <|
((oGuard (gB gEA) true (pB pEC) (oCallQ 36 [(gK (.int .u8 1)), (gK (.int .i64 0)), (gK (.int .i64 0))] (pB pEC))) <|
((oGuard (gB gEA) true (pB pED) (o2 (vEqf false true [1, 1, 1]) (gB gEB) (gB gEC) (pB pED))) <|
((oSlow K3.gt ⟨some 100,none,.p (.pick (.t 96) (.t 99) (.c (.bool false))),false,[]⟩ (pB pEE)) <|
((o1 vMov (gB gEE) (pB pEF)) <|
((oGuard (gB gEF) true (pB pEG) (m1 (wLoadN 3) (gA gAH) (pB pEG))) <|
((oGuard (gB gEF) true (pB pEH) (oCallQ 36 [(gK (.int .u8 3)), (gK (.int .i64 (-4))), (gK (.int .i64 2))] (pB pEH))) <|
((oGuard (gB gEF) true (pB pFA) (o2 (vEqf false true [1, 1, 1]) (gB gEG) (gB gEH) (pB pFA))) <|
((oSlow K3.gt ⟨some 105,none,.p (.pick (.t 101) (.t 104) (.c (.bool false))),false,[]⟩ (pB pFB)) <|
((o1 vMov (gB gFB) (pB pFC)) <|
((oGuard (gB gFC) true (pB pFD) (m1 (wLoadN 2) (gA gBB) (pB pFD))) <|
((oGuard (gB gFC) true (pB pFE) (oSlow K3.gt ⟨some 108,(some (106, true)),.p (.build [(.int .i64 0), (.int .i64 0)] [(0, 1, (.c (.int .i64 3))), (1, 1, (.c (.int .i64 11)))]),false,[]⟩ (pB pFE))) <|
((oGuard (gB gFC) true (pB pFF) (o2 (vEqf false true [1, 1]) (gB gFD) (gB gFE) (pB pFF))) <|
((oSlow K3.gt ⟨some 110,none,.p (.pick (.t 106) (.t 109) (.c (.bool false))),false,[]⟩ (pB pFG)) <|
((o1 vMov (gB gFG) (pB pFH)) <|
((oGuard (gB gFH) true (pB pGA) (o1 vMov (gA gBC) (pB pGA))) <|
((oGuard (gB gFH) true (pB pGB) (o2 vEql (gB gGA) (gK (.int .i64 0)) (pB pGB))) <|
((oSlow K3.gt ⟨some 114,none,.p (.pick (.t 111) (.t 113) (.c (.bool false))),false,[]⟩ (pB pGC)) <|
((o1 vMov (gB gGC) (pB pGD)) <|
((oGuard (gB gGD) true (pB pGE) (m1 (wLoadN 2) (gA gBD) (pB pGE))) <|
((oGuard (gB gGD) true (pB pGF) (oSlow K3.gt ⟨some 117,(some (115, true)),.p (.build [(.int .u8 0), (.int .i64 0)] [(0, 1, (.c (.int .u8 2))), (1, 1, (.c (.int .i64 5)))]),false,[]⟩ (pB pGF))) <|
((oGuard (gB gGD) true (pB pGG) (o2 (vEqf false true [1, 1]) (gB gGE) (gB gGF) (pB pGG))) <|
((oSlow K3.gt ⟨some 119,none,.p (.pick (.t 115) (.t 118) (.c (.bool false))),false,[]⟩ (pB pGH)) <|
((o1 vMov (gB gGH) (pB pHA)) <|
((oGuard (gB gHA) true (pB pHB) (o1 vMov (gA gBE) (pB pHB))) <|
((oGuard (gB gHA) true (pB pHC) (o2 vEql (gB gHB) (gK (.int .i64 0)) (pB pHC))) <|
((oSlow K3.gt ⟨some 123,none,.p (.pick (.t 120) (.t 122) (.c (.bool false))),false,[]⟩ (pB pHD)) <|
((o1 vMov (gB gHD) (pB pHE)) <|
((oGuard (gB gHE) true (pB pHF) (m1 (wLoadN 2) (gA gBF) (pB pHF))) <|
((oGuard (gB gHE) true (pB pHG) (oSlow K3.gt ⟨some 126,(some (124, true)),.p (.build [(.int .u8 0), (.int .i64 0)] [(0, 1, (.c (.int .u8 4))), (1, 1, (.c (.int .i64 3)))]),false,[]⟩ (pB pHG))) <|
((oGuard (gB gHE) true (pB pHH) (o2 (vEqf false true [1, 1]) (gB gHF) (gB gHG) (pB pHH))) <|
((oSlow K3.gt ⟨some 128,none,.p (.pick (.t 124) (.t 127) (.c (.bool false))),false,[]⟩ (pC pAA)) <|
((o1 vMov (gC gAA) (pC pAB)) <|
((oGuard (gC gAB) true (pC pAC) (o1 vMov (gA gBG) (pC pAC))) <|
((oGuard (gC gAB) true (pC pAD) (o2 vEql (gC gAC) (gK (.int .i64 0)) (pC pAD))) <|
((oSlow K3.gt ⟨some 132,none,.p (.pick (.t 129) (.t 131) (.c (.bool false))),false,[]⟩ (pC pAE)) <|
((o1 vMov (gC gAE) (pC pAF)) <|
((oGuard (gC gAF) true (pC pAG) (oCall 36 [(gK (.int .u8 0)), (gK (.int .i64 1)), (gK (.int .i64 0))] (pC pAG))) <|
((oGuard (gC gAF) true (pC pAH) (oCall 34 [(gC gAG)] (pC pAH))) <|
((oGuard (gC gAF) true (pC pBA) (o2 vEql (gC gAH) (gK (.int .i64 1)) (pC pBA))) <|
((oSlow K3.gt ⟨some 137,none,.p (.pick (.t 133) (.t 136) (.c (.bool false))),false,[]⟩ (pC pBB)) <|
((o1 vMov (gC gBB) (pC pBC)) <|
((oGuard (gC gBC) true (pC pBD) (o1 vMov (gA gCA) (pC pBD))) <|
((oGuard (gC gBC) true (pC pBE) (o2 vEql (gC gBD) (gK (.int .i64 4)) (pC pBE))) <|
((oSlow K3.gt ⟨some 141,none,.p (.pick (.t 138) (.t 140) (.c (.bool false))),false,[]⟩ (pC pBF)) <|
((o1 vMov (gC gBF) (pC pBG)) <|
((oGuard (gC gBG) true (pC pBH) (o1 vMov (gA gCC) (pC pBH))) <|
((oGuard (gC gBG) true (pC pCA) (o2 vEql (gC gBH) (gK (.int .i64 3)) (pC pCA))) <|
((oSlow K3.gt ⟨some 145,none,.p (.pick (.t 142) (.t 144) (.c (.bool false))),false,[]⟩ (pC pCB)) <|
((o1 vMov (gC gCB) (pC pCC)) <|
((oGuard (gC gCC) true (pC pCD) (oCall 17 [] (pC pCD))) <|
((oGuard (gC gCC) true (pC pCE) (oCall 36 [(gK (.int .u8 0)), (gK (.int .i64 0)), (gK (.int .i64 0))] (pC pCE))) <|
((oGuard (gC gCC) true (pC pCF) (o2 (vEqf false true [1, 1, 1]) (gC gCD) (gC gCE) (pC pCF))) <|
((oSlow K3.gt ⟨some 150,none,.p (.pick (.t 146) (.t 149) (.c (.bool false))),false,[]⟩ (pC pCG)) <|
((o1 vMov (gC gCG) (pA pAA)) <|
 oEnd))))))))))))))))))))))))))))))))))))))))))))))))))))))))))))))))) (cExit 0))))))))))))) [(rT (gA gAA))]
theorem u14_ok : denA k14 = u14 := dA3 rfl rfl rfl (dF rfl rfl rfl (dS (dR (dc rfl dn)) (dS (dS (dR (dc rfl (dc rfl (dc rfl (dc rfl (dc (by kernel_rfl) (dc (by kernel_rfl) (dc (by kernel_rfl) (dc (by kernel_rfl) (dc rfl (dc (by kernel_rfl) (dc (by kernel_rfl) (dc (by kernel_rfl) (dc (by kernel_rfl) (dc rfl (dc (by kernel_rfl) (dc (by kernel_rfl) (dc (by kernel_rfl) (dc (by kernel_rfl) dn))))))))))))))))))) (dI rfl rfl (dS (dR (dc rfl dn)) dT) dK)) (dS (dR (dc rfl (dc rfl (dc rfl (dc rfl (dc rfl (dc rfl (dc (by kernel_rfl) (dc rfl (dc rfl dn)))))))))) (dS (dR (dc rfl (dc rfl (dc rfl (dc rfl (dc rfl (dc rfl (dc (by kernel_rfl) (dc rfl (dc rfl dn)))))))))) (dS (dR (dc rfl (dc rfl (dc rfl (dc rfl (dc rfl (dc rfl (dc (by kernel_rfl) (dc rfl (dc rfl dn)))))))))) (dS (dR (dc rfl (dc rfl (dc rfl (dc rfl (dc rfl (dc (by kernel_rfl) (dc rfl (dc rfl dn))))))))) (dS (dR (dc rfl (dc (by kernel_rfl) (dc rfl (dc rfl (dc rfl (dc rfl (dc (by kernel_rfl) (dc rfl (dc rfl dn)))))))))) (dS (dR (dc rfl (dc (by kernel_rfl) (dc rfl (dc rfl (dc rfl (dc rfl (dc (by kernel_rfl) (dc rfl (dc rfl dn)))))))))) (dS (dR (dc rfl (dc (by kernel_rfl) (dc rfl (dc rfl (dc rfl (dc rfl (dc (by kernel_rfl) (dc rfl (dc rfl dn)))))))))) (dS (dR (dc rfl (dc rfl (dc rfl (dc rfl (dc (by kernel_rfl) (dc rfl (dc rfl dn)))))))) (dS (dR (dc rfl (dc rfl (dc rfl (dc rfl (dc rfl (dc rfl (dc (by kernel_rfl) (dc rfl (dc rfl dn)))))))))) (dS (dR (dc rfl (dc rfl (dc rfl (dc rfl (dc (by kernel_rfl) (dc (by kernel_rfl) (dc (by kernel_rfl) (dc (by kernel_rfl) (dc rfl (dc (by kernel_rfl) (dc (by kernel_rfl) (dc (by kernel_rfl) (dc (by kernel_rfl) (dc rfl (dc (by kernel_rfl) (dc (by kernel_rfl) (dc (by kernel_rfl) (dc (by kernel_rfl) (dc rfl (dc (by kernel_rfl) (dc (by kernel_rfl) (dc (by kernel_rfl) (dc (by kernel_rfl) (dc rfl (dc (by kernel_rfl) (dc (by kernel_rfl) (dc (by kernel_rfl) (dc rfl (dc (by kernel_rfl) (dc (by kernel_rfl) (dc (by kernel_rfl) (dc (by kernel_rfl) (dc rfl (dc (by kernel_rfl) (dc (by kernel_rfl) (dc (by kernel_rfl) (dc rfl (dc (by kernel_rfl) (dc (by kernel_rfl) (dc (by kernel_rfl) (dc (by kernel_rfl) (dc rfl (dc (by kernel_rfl) (dc (by kernel_rfl) (dc (by kernel_rfl) (dc rfl (dc (by kernel_rfl) (dc (by kernel_rfl) (dc (by kernel_rfl) (dc (by kernel_rfl) (dc rfl (dc (by kernel_rfl) (dc (by kernel_rfl) (dc (by kernel_rfl) (dc rfl (dc (by kernel_rfl) (dc (by kernel_rfl) (dc (by kernel_rfl) (dc rfl (dc (by kernel_rfl) (dc (by kernel_rfl) (dc (by kernel_rfl) (dc (by kernel_rfl) (dc rfl dn))))))))))))))))))))))))))))))))))))))))))))))))))))))))))))))))) dT)))))))))))))
def u15 : Fu := fn K2.z [pAA, pAB, pAC, pAD, pAE, pAF, pAG, pAH, pBA, pBB, pBC, pBD] (cSeq (cReg ((m1 wBox gAA pAC) <|
((m1 wBox gAB pAD) <|
((oAlloc [(.int .u8 0), (.int .i64 0), (.int .i64 0)] pAE) <|
((o1 vMov (gK (.int .i64 0)) pAF) <|
 oEnd))))) (cSeq (cSeq (cReg ((m1 (wLoadN 3) gAC pBA) <|
((oCall 34 [gBA] pBB) <|
((o2 vNeq gBB (gK (.int .i64 0)) pBC) <|
((o1 vMov gBC pBD) <|
((oGuard gBD false pBE (m1 (wLoadN 3) gAD pBE)) <|
((oGuard gBD false pBF (oCall 34 [gBE] pBF)) <|
((oGuard gBD false pBG (o2 vNeq gBF (gK (.int .i64 0)) pBG)) <|
((oSlow K2.gt ⟨some 15,none,.p (.pick (.t 11) (.c (.bool true)) (.t 14)),false,[]⟩ pBH) <|
 oEnd))))))))) (cIf gBH (cSeq (cReg ((oSlow K2.gt ⟨some 16,none,.p (.build [(.int .u8 0), (.int .i64 0), (.int .i64 0)] []),false,[]⟩ pCA) <|
((oStore 3 gAE gCA) <|
((o1 vMov (gK (.int .i64 1)) pAF) <|
 oEnd)))) (cExit 0)) cSkip)) (cSeq (cReg ((o1 vFad0 gAD pCC) <|
((m1 wLoad1 gCC pCD) <|
((o2 (vIadA 8 4) (gK (.ptr 0 0)) gCD pCE) <|
((m1 (wLoadN 4) gCE pCF) <|
((o1 (vFad 1) gAC pCG) <|
((m1 wLoad1 gCG pCH) <|
((o1 (vFad 2) gAC pDA) <|
((m1 wLoad1 gDA pDB) <|
((oCall 37 [gCF, gCH, gDB] pDC) <|
((o1 vMov gDC pCB) <|
((o1 (vExt 0) gCB pDD) <|
((o1 (vExt 1) gCB pDE) <|
((o1 vMov gDD pAG) <|
((o1 vMov gDE pAH) <|
 oEnd))))))))))))))) (cSeq (cReg ((o1 vFad0 gAC pDF) <|
((m1 wLoad1 gDF pDG) <|
((o2 (vIadA 8 4) (gK (.ptr 0 0)) gDG pDH) <|
((m1 (wLoadN 4) gDH pEA) <|
((o1 vFad0 gAD pEB) <|
((m1 wLoad1 gEB pEC) <|
((o2 (vIadA 8 4) (gK (.ptr 0 0)) gEC pED) <|
((m1 (wLoadN 4) gED pEE) <|
((oCallQ 41 [gEA, gEE] pEF) <|
((oCallQ 39 [gEF] pEG) <|
((o1 vMov gAG pEH) <|
((o1 (vFad 1) gAD pFA) <|
((m1 wLoad1 gFA pFB) <|
((o2 vAdd gEH gFB pFC) <|
((o1 vMov gAH pFD) <|
((o1 (vFad 2) gAD pFE) <|
((m1 wLoad1 gFE pFF) <|
((o2 vAdd gFD gFF pFG) <|
((oSlow K2.gt ⟨some 47,none,.p (.build [(.int .u8 0), (.int .i64 0), (.int .i64 0)] [(0, 1, (.t 38)), (1, 1, (.t 42)), (2, 1, (.t 46))]),false,[]⟩ pFH) <|
((oCall 38 [gFH] pGA) <|
((o1 (vExt 0) gGA pGB) <|
((o1 (vExt 1) gGA pGC) <|
((oStore 3 gAE gGB) <|
((o1 vMov gGC pAF) <|
 oEnd))))))))))))))))))))))))) (cExit 0))))) [(rA 3 gAE), (rT gAF)]
theorem u15_ok : denA k15 = u15 := dA2 rfl rfl (dF rfl rfl rfl (dS (dR (dc rfl (dc rfl (dc (by kernel_rfl) (dc rfl dn))))) (dS (dS (dR (dc rfl (dc rfl (dc rfl (dc rfl (dc (by kernel_rfl) (dc (by kernel_rfl) (dc (by kernel_rfl) (dc (by kernel_rfl) dn))))))))) (dI rfl rfl (dS (dR (dc (by kernel_rfl) (dc rfl (dc rfl dn)))) dT) dK)) (dS (dR (dc rfl (dc rfl (dc rfl (dc rfl (dc rfl (dc rfl (dc rfl (dc rfl (dc rfl (dc rfl (dc rfl (dc rfl (dc rfl (dc rfl dn))))))))))))))) (dS (dR (dc rfl (dc rfl (dc rfl (dc rfl (dc rfl (dc rfl (dc rfl (dc rfl (dc rfl (dc rfl (dc rfl (dc rfl (dc rfl (dc rfl (dc rfl (dc rfl (dc rfl (dc rfl (dc (by kernel_rfl) (dc rfl (dc rfl (dc rfl (dc rfl (dc rfl dn))))))))))))))))))))))))) dT)))))
def u17 : Fu := fn K1.z [(pA p0), (pB p0)] (cSeq (cReg ((oAlloc [(.int .u8 0), (.int .i64 0), (.int .i64 0)] (pA p0)) <|
 oEnd)) (cSeq (cReg ((oSlow K1.gt ⟨some 1,none,.p (.build [(.int .u8 0), (.int .i64 0), (.int .i64 0)] []),false,[]⟩ (pB p0)) <|
((oStore 3 (gA g0) (gB g0)) <|
 oEnd))) (cExit 0))) [(rA 3 (gA g0))]
theorem u17_ok : denA k17 = u17 := dA1 rfl (dF rfl rfl rfl (dS (dR (dc (by kernel_rfl) dn)) (dS (dR (dc (by kernel_rfl) (dc rfl dn))) dT)))
def u18 : Fu := fn K2.z [pAA, pAB, pAC, pAD, pAE, pAF, pAG, pAH, pBA, pBB, pBC, pBD] (cSeq (cReg ((m1 wBox gAA pAC) <|
((m1 wBox gAB pAD) <|
((oAlloc [(.int .i64 0), (.int .i64 0)] pAE) <|
((o1 vMov (gK (.int .i64 0)) pAF) <|
 oEnd))))) (cSeq (cSeq (cReg ((m1 (wLoadN 3) gAC pBB) <|
((oCall 34 [gBB] pBC) <|
((o2 vNeq gBC (gK (.int .i64 0)) pBD) <|
((o1 vMov gBD pBE) <|
((oGuard gBE false pBF (m1 (wLoadN 2) gAD pBF)) <|
((oGuard gBE false pBG (oCall 42 [gBF] pBG)) <|
((oGuard gBE false pBH (o2 vNeq gBG (gK (.int .i64 0)) pBH)) <|
((oSlow K2.gt ⟨some 16,none,.p (.pick (.t 12) (.c (.bool true)) (.t 15)),false,[]⟩ pCA) <|
 oEnd))))))))) (cIf gCA (cSeq (cReg ((oSlow K2.gt ⟨some 17,none,.p (.build [(.int .i64 0), (.int .i64 0)] []),false,[]⟩ pCB) <|
((oStore 2 gAE gCB) <|
((o1 vMov (gK (.int .i64 1)) pAF) <|
 oEnd)))) (cExit 0)) cSkip)) (cSeq (cReg ((o1 vFad0 gAC pCD) <|
((m1 wLoad1 gCD pCE) <|
((o2 (vIadA 8 4) (gK (.ptr 0 0)) gCE pCF) <|
((m1 (wLoadN 4) gCF pCG) <|
((o1 vFad0 gAD pCH) <|
((m1 wLoad1 gCH pDA) <|
((o1 (vFad 1) gAD pDB) <|
((m1 wLoad1 gDB pDC) <|
((oCall 37 [gCG, gDA, gDC] pDD) <|
((o1 vMov gDD pCC) <|
((o1 (vExt 0) gCC pDE) <|
((o1 (vExt 1) gCC pDF) <|
((o1 vMov gDE pAG) <|
((o1 vMov gDF pAH) <|
 oEnd))))))))))))))) (cSeq (cReg ((o1 vMov gAG pDG) <|
((o1 (vFad 1) gAC pDH) <|
((m1 wLoad1 gDH pEA) <|
((o2 (vBin .mul) (gK (.int .i64 2)) gEA pEB) <|
((o2 vAdd gDG gEB pEC) <|
((o1 vMov gAH pED) <|
((o1 (vFad 2) gAC pEE) <|
((m1 wLoad1 gEE pEF) <|
((o2 (vBin .mul) (gK (.int .i64 2)) gEF pEG) <|
((o2 vAdd gED gEG pEH) <|
((oSlow K2.gt ⟨some 40,none,.p (.build [(.int .i64 0), (.int .i64 0)] [(0, 1, (.t 34)), (1, 1, (.t 39))]),false,[]⟩ pFA) <|
((oAlloc [(.int .i64 0), (.int .i64 0)] pBA) <|
((oStore 2 gBA gFA) <|
 oEnd)))))))))))))) (cSeq (cSeq (cReg ((m1 (wLoadN 2) gBA pFB) <|
((oCall 42 [gFB] pFC) <|
((o2 vNeq gFC (gK (.int .i64 0)) pFD) <|
 oEnd)))) (cIf gFD (cSeq (cReg ((oSlow K2.gt ⟨some 44,none,.p (.build [(.int .i64 0), (.int .i64 0)] []),false,[]⟩ pFE) <|
((oStore 2 gAE gFE) <|
((o1 vMov (gK (.int .i64 3)) pAF) <|
 oEnd)))) (cExit 0)) cSkip)) (cSeq (cReg ((m1 (wLoadN 2) gBA pFF) <|
((oStore 2 gAE gFF) <|
((o1 vMov (gK (.int .i64 0)) pAF) <|
 oEnd)))) (cExit 0))))))) [(rA 2 gAE), (rT gAF)]
theorem u18_ok : denA k18 = u18 := dA2 rfl rfl (dF rfl rfl rfl (dS (dR (dc rfl (dc rfl (dc (by kernel_rfl) (dc rfl dn))))) (dS (dS (dR (dc rfl (dc rfl (dc rfl (dc rfl (dc (by kernel_rfl) (dc (by kernel_rfl) (dc (by kernel_rfl) (dc (by kernel_rfl) dn))))))))) (dI rfl rfl (dS (dR (dc (by kernel_rfl) (dc rfl (dc rfl dn)))) dT) dK)) (dS (dR (dc rfl (dc rfl (dc rfl (dc rfl (dc rfl (dc rfl (dc rfl (dc rfl (dc rfl (dc rfl (dc rfl (dc rfl (dc rfl (dc rfl dn))))))))))))))) (dS (dR (dc rfl (dc rfl (dc rfl (dc rfl (dc rfl (dc rfl (dc rfl (dc rfl (dc rfl (dc rfl (dc (by kernel_rfl) (dc (by kernel_rfl) (dc rfl dn)))))))))))))) (dS (dS (dR (dc rfl (dc rfl (dc rfl dn)))) (dI rfl rfl (dS (dR (dc (by kernel_rfl) (dc rfl (dc rfl dn)))) dT) dK)) (dS (dR (dc rfl (dc rfl (dc rfl dn)))) dT)))))))
def u21 : Fu := fn K3.z [(pA pAA), (pA pAB), (pA pAC), (pA pAD), (pA pAE), (pA pAF), (pA pAG), (pA pAH), (pA pBA), (pA pBB), (pA pBC), (pA pBD)] (cSeq (cReg ((m1 wBox (gA gAA) (pA pAC)) <|
((m1 wBox (gA gAB) (pA pAD)) <|
((oAlloc [(.int .u8 0), (.int .i64 0)] (pA pAE)) <|
((o1 vMov (gK (.int .i64 0)) (pA pAF)) <|
 oEnd))))) (cSeq (cSeq (cReg ((m1 (wLoadN 3) (gA gAC) (pA pBH)) <|
((oCall 34 [(gA gBH)] (pA pCA)) <|
((o2 vNeq (gA gCA) (gK (.int .i64 0)) (pA pCB)) <|
((o1 vMov (gA gCB) (pA pCC)) <|
((oGuard (gA gCC) false (pA pCD) (m1 (wLoadN 2) (gA gAD) (pA pCD))) <|
((oGuard (gA gCC) false (pA pCE) (oCall 28 [(gA gCD)] (pA pCE))) <|
((oGuard (gA gCC) false (pA pCF) (o2 vNeq (gA gCE) (gK (.int .i64 0)) (pA pCF))) <|
((oSlow K3.gt ⟨some 22,none,.p (.pick (.t 18) (.c (.bool true)) (.t 21)),false,[]⟩ (pA pCG)) <|
 oEnd))))))))) (cIf (gA gCG) (cSeq (cReg ((oSlow K3.gt ⟨some 23,none,.p (.build [(.int .u8 0), (.int .i64 0)] []),false,[]⟩ (pA pCH)) <|
((oStore 2 (gA gAE) (gA gCH)) <|
((o1 vMov (gK (.int .i64 1)) (pA pAF)) <|
 oEnd)))) (cExit 0)) cSkip)) (cSeq (cReg ((o1 vFad0 (gA gAC) (pA pDA)) <|
((m1 wLoad1 (gA gDA) (pA pDB)) <|
((o2 (vIadA 8 4) (gK (.ptr 0 0)) (gA gDB) (pA pDC)) <|
((m1 (wLoadN 4) (gA gDC) (pA pDD)) <|
((oSlow K3.gt ⟨some 28,none,.p (.mkfn (.func 37) [(.t 27)] []),false,[]⟩ (pA pDE)) <|
((o1 vMov (gA gDE) (pA pAG)) <|
 oEnd))))))) (cSeq (cReg ((o1 vMov (gA gAG) (pA pDG)) <|
((o1 vFad0 (gA gAD) (pA pDH)) <|
((m1 wLoad1 (gA gDH) (pA pEA)) <|
((oCall 43 [(gA gEA)] (pA pEB)) <|
((o1 (vExt 0) (gA gEB) (pA pEC)) <|
((o1 (vExt 1) (gA gEB) (pA pED)) <|
((oCallD (gA gDG) [(gA gEC), (gA gED)] (pA pEE)) <|
((o1 vMov (gA gEE) (pA pDF)) <|
((o1 (vExt 0) (gA gDF) (pA pEF)) <|
((o1 (vExt 1) (gA gDF) (pA pEG)) <|
((o1 vMov (gA gEF) (pA pAH)) <|
((o1 vMov (gA gEG) (pA pBA)) <|
 oEnd))))))))))))) (cSeq (cSeq (cReg ((o1 vMov (gK (.int .u8 1)) (pA pBB)) <|
 oEnd)) (cBlock 1 (cLoop (cSeq (cSeq (cReg ((o1 vMov (gA gBB) (pA pEH)) <|
((o2 vLeq (gA gEH) (gK (.int .u8 4)) (pA pFA)) <|
 oEnd))) (cIf (gA gFA) cSkip (cExit 1))) (cSeq (cBlock 2 (cSeq (cReg ((o1 vMov (gA gBB) (pA pFE)) <|
((oCall 43 [(gA gFE)] (pA pFF)) <|
((o1 vMov (gA gFF) (pA pFD)) <|
((o1 (vExt 0) (gA gFD) (pA pFG)) <|
((o1 (vExt 1) (gA gFD) (pA pFH)) <|
((o1 vMov (gA gFG) (pA pBC)) <|
((o1 vMov (gA gFH) (pA pBD)) <|
 oEnd)))))))) (cSeq (cReg ((oSlow K3.gt ⟨some 48,none,.h (.bsl 1 2 [(.int .i64 0), (.int .i64 0)] [(0, 1, (.c (.int .i64 1))), (1, 1, (.c (.int .i64 (-1))))]),false,[]⟩ (pA pGA)) <|
((o1 vLen (gA gGA) (pA pGB)) <|
((o1 vMov (gK (.int .i64 0)) (pA pGC)) <|
 oEnd)))) (cBlock 3 (cLoop (cSeq (cReg ((o2 vLss (gA gGC) (gA gGB) (pA pGD)) <|
 oEnd)) (cSeq (cIf (gA gGD) cSkip (cExit 3)) (cSeq (cBlock 4 (cSeq (cReg ((o2 (vIadS 1) (gA gGA) (gA gGC) (pA pGE)) <|
((m1 wLoad1 (gA gGE) (pA pGF)) <|
((o1 vMov (gA gGF) (pA pBF)) <|
 oEnd)))) (cSeq (cReg ((o1 vMov (gA gAH) (pA pGG)) <|
((o1 vMov (gA gBF) (pA pGH)) <|
((o1 vMov (gA gBC) (pA pHA)) <|
((o2 (vBin .mul) (gA gGH) (gA gHA) (pA pHB)) <|
((o2 vEql (gA gGG) (gA gHB) (pA pHC)) <|
((o1 vMov (gA gHC) (pA pHD)) <|
((oGuard (gA gHD) true (pA pHE) (o1 vMov (gA gBA) (pA pHE))) <|
((oGuard (gA gHD) true (pA pHF) (o1 vMov (gA gBF) (pA pHF))) <|
((oGuard (gA gHD) true (pA pHG) (o1 vMov (gA gBD) (pA pHG))) <|
((oGuard (gA gHD) true (pA pHH) (o2 (vBin .mul) (gA gHF) (gA gHG) (pA pHH))) <|
((oGuard (gA gHD) true (pB pAA) (o2 vEql (gA gHE) (gA gHH) (pB pAA))) <|
((oSlow K3.gt ⟨some 65,none,.p (.pick (.t 59) (.t 64) (.c (.bool false))),false,[]⟩ (pB pAB)) <|
 oEnd))))))))))))) (cIf (gB gAB) (cSeq (cReg ((o1 vMov (gA gBB) (pB pAC)) <|
((o1 vMov (gA gBF) (pB pAD)) <|
((o1 (vFad 1) (gA gAD) (pB pAE)) <|
((m1 wLoad1 (gB gAE) (pB pAF)) <|
((o2 (vBin .mul) (gB gAD) (gB gAF) (pB pAG)) <|
((o1 vMov (gA gBC) (pB pAH)) <|
((o1 (vFad 1) (gA gAC) (pB pBA)) <|
((m1 wLoad1 (gB gBA) (pB pBB)) <|
((o2 (vBin .mul) (gB gAH) (gB gBB) (pB pBC)) <|
((o2 vAdd (gB gAG) (gB gBC) (pB pBD)) <|
((o1 vMov (gA gBD) (pB pBE)) <|
((o1 (vFad 2) (gA gAC) (pB pBF)) <|
((m1 wLoad1 (gB gBF) (pB pBG)) <|
((o2 (vBin .mul) (gB gBE) (gB gBG) (pB pBH)) <|
((o2 vAdd (gB gBD) (gB gBH) (pB pCA)) <|
((oSlow K3.gt ⟨some 81,none,.p (.build [(.int .u8 0), (.int .i64 0)] [(0, 1, (.t 66)), (1, 1, (.t 80))]),false,[]⟩ (pB pCB)) <|
((oAlloc [(.int .u8 0), (.int .i64 0)] (pA pBG)) <|
((oStore 2 (gA gBG) (gB gCB)) <|
 oEnd))))))))))))))))))) (cSeq (cSeq (cReg ((m1 (wLoadN 2) (gA gBG) (pB pCC)) <|
((oCall 28 [(gB gCC)] (pB pCD)) <|
((o2 vNeq (gB gCD) (gK (.int .i64 0)) (pB pCE)) <|
 oEnd)))) (cIf (gB gCE) (cSeq (cReg ((oSlow K3.gt ⟨some 85,none,.p (.build [(.int .u8 0), (.int .i64 0)] []),false,[]⟩ (pB pCF)) <|
((oStore 2 (gA gAE) (gB gCF)) <|
((o1 vMov (gK (.int .i64 3)) (pA pAF)) <|
 oEnd)))) (cExit 0)) cSkip)) (cSeq (cReg ((m1 (wLoadN 2) (gA gBG) (pB pCG)) <|
((oStore 2 (gA gAE) (gB gCG)) <|
((o1 vMov (gK (.int .i64 0)) (pA pAF)) <|
 oEnd)))) (cExit 0)))) cSkip)))) (cReg ((o2 vAdd (gA gGC) (gK (.int .i64 1)) (pB pCH)) <|
((o1 vMov (gB gCH) (pA pGC)) <|
 oEnd))))))))))) (cReg ((o1 vMov (gA gBB) (pA pFB)) <|
((o2 vAdd (gA gFB) (gK (.int .u8 1)) (pA pFC)) <|
((o1 vMov (gA gFC) (pA pBB)) <|
 oEnd))))))))) (cSeq (cReg ((oSlow K3.gt ⟨some 88,none,.p (.build [(.int .u8 0), (.int .i64 0)] []),false,[]⟩ (pB pDA)) <|
((oStore 2 (gA gAE) (gB gDA)) <|
((o1 vMov (gK (.int .i64 3)) (pA pAF)) <|
 oEnd)))) (cExit 0))))))) [(rA 2 (gA gAE)), (rT (gA gAF))]
theorem u21_ok : denA k21 = u21 := dA3 rfl rfl rfl (dF rfl rfl rfl (dS (dR (dc rfl (dc rfl (dc (by kernel_rfl) (dc rfl dn))))) (dS (dS (dR (dc rfl (dc rfl (dc rfl (dc rfl (dc (by kernel_rfl) (dc (by kernel_rfl) (dc (by kernel_rfl) (dc (by kernel_rfl) dn))))))))) (dI rfl rfl (dS (dR (dc (by kernel_rfl) (dc rfl (dc rfl dn)))) dT) dK)) (dS (dR (dc rfl (dc rfl (dc rfl (dc rfl (dc (by kernel_rfl) (dc rfl dn))))))) (dS (dR (dc rfl (dc rfl (dc rfl (dc rfl (dc rfl (dc rfl (dc rfl (dc rfl (dc rfl (dc rfl (dc rfl (dc rfl dn))))))))))))) (dS (dS (dR (dc rfl dn)) (dB (dL (dS (dS (dR (dc rfl (dc rfl dn))) (dI rfl rfl dK dX)) (dS (dB (dS (dR (dc rfl (dc rfl (dc rfl (dc rfl (dc rfl (dc rfl (dc rfl dn)))))))) (dS (dR (dc (by kernel_rfl) (dc rfl (dc rfl dn)))) (dB (dL (dS (dR (dc rfl dn)) (dS (dI rfl rfl dK dX) (dS (dB (dS (dR (dc rfl (dc rfl (dc rfl dn)))) (dS (dR (dc rfl (dc rfl (dc rfl (dc rfl (dc rfl (dc rfl (dc (by kernel_rfl) (dc (by kernel_rfl) (dc (by kernel_rfl) (dc (by kernel_rfl) (dc (by kernel_rfl) (dc (by kernel_rfl) dn))))))))))))) (dI rfl rfl (dS (dR (dc rfl (dc rfl (dc rfl (dc rfl (dc rfl (dc rfl (dc rfl (dc rfl (dc rfl (dc rfl (dc rfl (dc rfl (dc rfl (dc rfl (dc rfl (dc (by kernel_rfl) (dc (by kernel_rfl) (dc rfl dn))))))))))))))))))) (dS (dS (dR (dc rfl (dc rfl (dc rfl dn)))) (dI rfl rfl (dS (dR (dc (by kernel_rfl) (dc rfl (dc rfl dn)))) dT) dK)) (dS (dR (dc rfl (dc rfl (dc rfl dn)))) dT))) dK)))) (dR (dc rfl (dc rfl dn))))))))))) (dR (dc rfl (dc rfl (dc rfl dn))))))))) (dS (dR (dc (by kernel_rfl) (dc rfl (dc rfl dn)))) dT)))))))
def u26 : Fu := fn K2.z [pAA, pAB, pAC, pAD, pAE, pAF, pAG, pAH, pBA, pBB, pBC, pBD] (cSeq (cReg ((m1 wBox gAA pAB) <|
((oAlloc [(.int .u8 0), (.int .i64 0), (.int .i64 0)] pAC) <|
((o1 vMov (gK (.int .i64 0)) pAD) <|
 oEnd)))) (cSeq (cSeq (cReg ((m1 (wLoadN 2) gAB pAE) <|
((oCall 28 [gAE] pAF) <|
((o2 vNeq gAF (gK (.int .i64 0)) pAG) <|
 oEnd)))) (cIf gAG (cSeq (cReg ((oSlow K2.gt ⟨some 7,none,.p (.build [(.int .u8 0), (.int .i64 0), (.int .i64 0)] []),false,[]⟩ pAH) <|
((oStore 3 gAC gAH) <|
((o1 vMov (gK (.int .i64 1)) pAD) <|
 oEnd)))) (cExit 0)) cSkip)) (cSeq (cSeq (cReg ((o1 vFad0 gAB pBA) <|
((m1 wLoad1 gBA pBB) <|
 oEnd))) (cBlock 1 (cSeq (cReg ((o2 vEql gBB (gK (.int .u8 1)) pBD) <|
((o1 vMov gBD pBC) <|
 oEnd))) (cIf gBC (cSeq (cReg ((o1 (vFad 1) gAB pBE) <|
((m1 wLoad1 gBE pBF) <|
((o2 (vBin .mul) (gK (.int .i64 2)) gBF pBG) <|
((oSlow K2.gt ⟨some 15,none,.p (.build [(.int .u8 0), (.int .i64 0), (.int .i64 0)] [(0, 1, (.c (.int .u8 4))), (1, 1, (.t 14)), (2, 1, (.c (.int .i64 0)))]),false,[]⟩ pBH) <|
((oStore 3 gAC gBH) <|
((o1 vMov (gK (.int .i64 0)) pAD) <|
 oEnd))))))) (cExit 0)) (cSeq (cReg ((o2 vEql gBB (gK (.int .u8 2)) pCB) <|
((o1 vMov gCB pCA) <|
 oEnd))) (cIf gCA (cSeq (cReg ((o1 (vFad 1) gAB pCC) <|
((m1 wLoad1 gCC pCD) <|
((o2 (vBin .mul) (gK (.int .i64 2)) gCD pCE) <|
((oSlow K2.gt ⟨some 21,none,.p (.build [(.int .u8 0), (.int .i64 0), (.int .i64 0)] [(0, 1, (.c (.int .u8 6))), (1, 1, (.c (.int .i64 0))), (2, 1, (.t 20))]),false,[]⟩ pCF) <|
((oStore 3 gAC gCF) <|
((o1 vMov (gK (.int .i64 0)) pAD) <|
 oEnd))))))) (cExit 0)) (cSeq (cReg ((o2 vEql gBB (gK (.int .u8 3)) pCH) <|
((o1 vMov gCH pCG) <|
 oEnd))) (cIf gCG (cSeq (cReg ((o1 (vFad 1) gAB pDA) <|
((m1 wLoad1 gDA pDB) <|
((o1 (vFad 1) gAB pDC) <|
((m1 wLoad1 gDC pDD) <|
((oSlow K2.gt ⟨some 28,none,.p (.build [(.int .u8 0), (.int .i64 0), (.int .i64 0)] [(0, 1, (.c (.int .u8 5))), (1, 1, (.t 25)), (2, 1, (.t 27))]),false,[]⟩ pDE) <|
((oStore 3 gAC gDE) <|
((o1 vMov (gK (.int .i64 0)) pAD) <|
 oEnd)))))))) (cExit 0)) cSkip)))))))) (cSeq (cReg ((o1 (vFad 1) gAB pDF) <|
((m1 wLoad1 gDF pDG) <|
((oSlow K2.gt ⟨some 31,none,.p (.neg (.t 30)),false,[]⟩ pDH) <|
((o1 (vFad 1) gAB pEA) <|
((m1 wLoad1 gEA pEB) <|
((oSlow K2.gt ⟨some 34,none,.p (.build [(.int .u8 0), (.int .i64 0), (.int .i64 0)] [(0, 1, (.c (.int .u8 7))), (1, 1, (.t 31)), (2, 1, (.t 33))]),false,[]⟩ pEC) <|
((oStore 3 gAC gEC) <|
((o1 vMov (gK (.int .i64 0)) pAD) <|
 oEnd))))))))) (cExit 0))))) [(rA 3 gAC), (rT gAD)]
theorem u26_ok : denA k26 = u26 := dA2 rfl rfl (dF rfl rfl rfl (dS (dR (dc rfl (dc (by kernel_rfl) (dc rfl dn)))) (dS (dS (dR (dc rfl (dc rfl (dc rfl dn)))) (dI rfl rfl (dS (dR (dc (by kernel_rfl) (dc rfl (dc rfl dn)))) dT) dK)) (dS (dS (dR (dc rfl (dc rfl dn))) (dB (dS (dR (dc rfl (dc rfl dn))) (dI rfl rfl (dS (dR (dc rfl (dc rfl (dc rfl (dc (by kernel_rfl) (dc rfl (dc rfl dn))))))) dT) (dS (dR (dc rfl (dc rfl dn))) (dI rfl rfl (dS (dR (dc rfl (dc rfl (dc rfl (dc (by kernel_rfl) (dc rfl (dc rfl dn))))))) dT) (dS (dR (dc rfl (dc rfl dn))) (dI rfl rfl (dS (dR (dc rfl (dc rfl (dc rfl (dc rfl (dc (by kernel_rfl) (dc rfl (dc rfl dn)))))))) dT) dK)))))))) (dS (dR (dc rfl (dc rfl (dc (by kernel_rfl) (dc rfl (dc rfl (dc (by kernel_rfl) (dc rfl (dc rfl dn))))))))) dT)))))
def u28 : Fu := fn K2.z [pAA, pAB, pAC, pAD, pAE, pAF, pAG, pAH, pBA, pBB, pBC, pBD] (cSeq (cReg ((m1 wBox gAA pAB) <|
((o1 vMov (gK (.int .i64 0)) pAC) <|
 oEnd))) (cSeq (cSeq (cReg ((o1 vFad0 gAB pAD) <|
((m1 wLoad1 gAD pAE) <|
((o2 vLss gAE (gK (.int .u8 1)) pAF) <|
((o1 vMov gAF pAG) <|
((oGuard gAG false pAH (o1 vFad0 gAB pAH)) <|
((oGuard gAG false pBA (m1 wLoad1 gAH pBA)) <|
((oGuard gAG false pBB (o2 vGtr gBA (gK (.int .u8 4)) pBB)) <|
((oSlow K2.gt ⟨some 10,none,.p (.pick (.t 6) (.c (.bool true)) (.t 9)),false,[]⟩ pBC) <|
((o1 vMov gBC pBD) <|
((oGuard gBD false pBE (o1 (vFad 1) gAB pBE)) <|
((oGuard gBD false pBF (m1 wLoad1 gBE pBF)) <|
((oGuard gBD false pBG (o2 vLss gBF (gK (.int .i64 (-4096))) pBG)) <|
((oSlow K2.gt ⟨some 15,none,.p (.pick (.t 11) (.c (.bool true)) (.t 14)),false,[]⟩ pBH) <|
((o1 vMov gBH pCA) <|
((oGuard gCA false pCB (o1 (vFad 1) gAB pCB)) <|
((oGuard gCA false pCC (m1 wLoad1 gCB pCC)) <|
((oGuard gCA false pCD (o2 vGtr gCC (gK (.int .i64 4096)) pCD)) <|
((oSlow K2.gt ⟨some 20,none,.p (.pick (.t 16) (.c (.bool true)) (.t 19)),false,[]⟩ pCE) <|
 oEnd))))))))))))))))))) (cIf gCE (cSeq (cReg ((o1 vMov (gK (.int .i64 1)) pAC) <|
 oEnd)) (cExit 0)) cSkip)) (cSeq (cReg ((o1 vMov (gK (.int .i64 0)) pAC) <|
 oEnd)) (cExit 0)))) [(rT gAC)]
theorem u28_ok : denA k28 = u28 := dA2 rfl rfl (dF rfl rfl rfl (dS (dR (dc rfl (dc rfl dn))) (dS (dS (dR (dc rfl (dc rfl (dc rfl (dc rfl (dc (by kernel_rfl) (dc (by kernel_rfl) (dc (by kernel_rfl) (dc (by kernel_rfl) (dc rfl (dc (by kernel_rfl) (dc (by kernel_rfl) (dc (by kernel_rfl) (dc (by kernel_rfl) (dc rfl (dc (by kernel_rfl) (dc (by kernel_rfl) (dc (by kernel_rfl) (dc (by kernel_rfl) dn))))))))))))))))))) (dI rfl rfl (dS (dR (dc rfl dn)) dT) dK)) (dS (dR (dc rfl dn)) dT))))
def u30 : Fu := fn K2.z [pAA, pAB, pAC, pAD, pAE, pAF, pAG, pAH, pBA, pBB, pBC, pBD] (cSeq (cReg ((oAlloc [(.int .u8 0), (.int .i64 0), (.int .i64 0)] pAC) <|
((o1 vMov (gK (.int .i64 0)) pAD) <|
 oEnd))) (cSeq (cReg ((o1 vMov gAA pBE) <|
((oCall 48 [gBE, (gK (.str [32]))] pBF) <|
((o1 vMov gBF pAE) <|
 oEnd)))) (cSeq (cSeq (cReg ((o1 vMov gAE pBG) <|
((o1 vLen gBG pBH) <|
((o2 vNeq gBH (gK (.int .i64 3)) pCA) <|
 oEnd)))) (cIf gCA (cSeq (cReg ((oSlow K2.gt ⟨some 17,none,.p (.build [(.int .u8 0), (.int .i64 0), (.int .i64 0)] []),false,[]⟩ pCB) <|
((oStore 3 gAC gCB) <|
((o1 vMov (gK (.int .i64 4)) pAD) <|
 oEnd)))) (cExit 0)) cSkip)) (cSeq (cReg ((o1 vMov gAE pCD) <|
((o2 (vIadS 1) gCD (gK (.int .i64 0)) pCE) <|
((m1 wLoad1 gCE pCF) <|
((oCall 49 [gCF, (gK (.int .i64 10)), (gK (.int .i64 8))] pCG) <|
((o1 vMov gCG pCC) <|
((o1 (vExt 0) gCC pCH) <|
((o1 (vExt 1) gCC pDA) <|
((o1 vMov gCH pAF) <|
((o1 vMov gDA pAG) <|
 oEnd)))))))))) (cSeq (cReg ((o1 vMov gAE pDC) <|
((o2 (vIadS 1) gDC (gK (.int .i64 1)) pDD) <|
((m1 wLoad1 gDD pDE) <|
((oCall 50 [gDE] pDF) <|
((o1 vMov gDF pDB) <|
((o1 (vExt 0) gDB pDG) <|
((o1 (vExt 1) gDB pDH) <|
((o1 vMov gDG pAH) <|
((o1 vMov gDH pBA) <|
 oEnd)))))))))) (cSeq (cReg ((o1 vMov gAE pEB) <|
((o2 (vIadS 1) gEB (gK (.int .i64 2)) pEC) <|
((m1 wLoad1 gEC pED) <|
((oCall 50 [gED] pEE) <|
((o1 vMov gEE pEA) <|
((o1 (vExt 0) gEA pEF) <|
((o1 (vExt 1) gEA pEG) <|
((o1 vMov gEF pBB) <|
((o1 vMov gEG pBC) <|
 oEnd)))))))))) (cSeq (cReg ((o1 vMov gAF pEH) <|
((o1 (vCvi .u8) gEH pFA) <|
((o1 vMov gAH pFB) <|
((o1 vMov gBB pFC) <|
((oSlow K2.gt ⟨some 43,none,.p (.build [(.int .u8 0), (.int .i64 0), (.int .i64 0)] [(0, 1, (.t 40)), (1, 1, (.t 41)), (2, 1, (.t 42))]),false,[]⟩ pFD) <|
((oAlloc [(.int .u8 0), (.int .i64 0), (.int .i64 0)] pBD) <|
((oStore 3 gBD gFD) <|
 oEnd)))))))) (cSeq (cSeq (cReg ((o1 vMov gAG pFE) <|
((o2 (vEqn true 0) gFE (gK .nili) pFF) <|
((o1 vMov gFF pFG) <|
((oGuard gFG false pFH (o1 vMov gBA pFH)) <|
((oGuard gFG false pGA (o2 (vEqn true 0) gFH (gK .nili) pGA)) <|
((oSlow K2.gt ⟨some 49,none,.p (.pick (.t 46) (.c (.bool true)) (.t 48)),false,[]⟩ pGB) <|
((o1 vMov gGB pGC) <|
((oGuard gGC false pGD (o1 vMov gBC pGD)) <|
((oGuard gGC false pGE (o2 (vEqn true 0) gGD (gK .nili) pGE)) <|
((oSlow K2.gt ⟨some 53,none,.p (.pick (.t 50) (.c (.bool true)) (.t 52)),false,[]⟩ pGF) <|
((o1 vMov gGF pGG) <|
((oGuard gGG false pGH (m1 (wLoadN 3) gBD pGH)) <|
((oGuard gGG false pHA (oCall 31 [gGH] pHA)) <|
((oGuard gGG false pHB (o1 vMov gAA pHB)) <|
((oGuard gGG false pHC (o2 vNeq gHA gHB pHC)) <|
((oSlow K2.gt ⟨some 59,none,.p (.pick (.t 54) (.c (.bool true)) (.t 58)),false,[]⟩ pHD) <|
 oEnd))))))))))))))))) (cIf gHD (cSeq (cReg ((oSlow K2.gt ⟨some 60,none,.p (.build [(.int .u8 0), (.int .i64 0), (.int .i64 0)] []),false,[]⟩ pHE) <|
((oStore 3 gAC gHE) <|
((o1 vMov (gK (.int .i64 4)) pAD) <|
 oEnd)))) (cExit 0)) cSkip)) (cSeq (cReg ((m1 (wLoadN 3) gBD pHF) <|
((oStore 3 gAC gHF) <|
((o1 vMov (gK (.int .i64 0)) pAD) <|
 oEnd)))) (cExit 0)))))))))) [(rA 3 gAC), (rT gAD)]
theorem u30_ok : denA k30 = u30 := dA2 rfl rfl (dF rfl rfl rfl (dS (dR (dc (by kernel_rfl) (dc rfl dn))) (dS (dR (dc rfl (dc rfl (dc rfl dn)))) (dS (dS (dR (dc rfl (dc rfl (dc rfl dn)))) (dI rfl rfl (dS (dR (dc (by kernel_rfl) (dc rfl (dc rfl dn)))) dT) dK)) (dS (dR (dc rfl (dc rfl (dc rfl (dc rfl (dc rfl (dc rfl (dc rfl (dc rfl (dc rfl dn)))))))))) (dS (dR (dc rfl (dc rfl (dc rfl (dc rfl (dc rfl (dc rfl (dc rfl (dc rfl (dc rfl dn)))))))))) (dS (dR (dc rfl (dc rfl (dc rfl (dc rfl (dc rfl (dc rfl (dc rfl (dc rfl (dc rfl dn)))))))))) (dS (dR (dc rfl (dc rfl (dc rfl (dc rfl (dc (by kernel_rfl) (dc (by kernel_rfl) (dc rfl dn)))))))) (dS (dS (dR (dc rfl (dc rfl (dc rfl (dc (by kernel_rfl) (dc (by kernel_rfl) (dc (by kernel_rfl) (dc rfl (dc (by kernel_rfl) (dc (by kernel_rfl) (dc (by kernel_rfl) (dc rfl (dc (by kernel_rfl) (dc (by kernel_rfl) (dc (by kernel_rfl) (dc (by kernel_rfl) (dc (by kernel_rfl) dn))))))))))))))))) (dI rfl rfl (dS (dR (dc (by kernel_rfl) (dc rfl (dc rfl dn)))) dT) dK)) (dS (dR (dc rfl (dc rfl (dc rfl dn)))) dT))))))))))
def u31 : Fu := fn K2.z [pAA, pAB, pAC, pAD, pAE, pAF, pAG, pAH, pBA, pBB, pBC, pBD] (cSeq (cReg ((m1 wBox gAA pAB) <|
((o1 vMov (gK (.str [])) pAC) <|
 oEnd))) (cSeq (cSeq (cReg ((m1 (wLoadN 3) gAB pAD) <|
((oCall 34 [gAD] pAE) <|
((o2 vNeq gAE (gK (.int .i64 0)) pAF) <|
 oEnd)))) (cIf gAF (cSeq (cReg ((o1 vMov (gK (.str [])) pAC) <|
 oEnd)) (cExit 0)) cSkip)) (cSeq (cReg ((o1 vFad0 gAB pAG) <|
((m1 wLoad1 gAG pAH) <|
((o1 (vCvi .i64) gAH pBA) <|
((oCallQ 51 [gBA] pBB) <|
((o2 vAdd gBB (gK (.str [32])) pBC) <|
((o1 (vFad 1) gAB pBD) <|
((m1 wLoad1 gBD pBE) <|
((oCallQ 51 [gBE] pBF) <|
((o2 vAdd gBC gBF pBG) <|
((o2 vAdd gBG (gK (.str [32])) pBH) <|
((o1 (vFad 2) gAB pCA) <|
((m1 wLoad1 gCA pCB) <|
((oCall 51 [gCB] pCC) <|
((o2 vAdd gBH gCC pCD) <|
((o1 vMov gCD pAC) <|
 oEnd)))))))))))))))) (cExit 0)))) [(rT gAC)]
theorem u31_ok : denA k31 = u31 := dA2 rfl rfl (dF rfl rfl rfl (dS (dR (dc rfl (dc rfl dn))) (dS (dS (dR (dc rfl (dc rfl (dc rfl dn)))) (dI rfl rfl (dS (dR (dc rfl dn)) dT) dK)) (dS (dR (dc rfl (dc rfl (dc rfl (dc rfl (dc rfl (dc rfl (dc rfl (dc rfl (dc rfl (dc rfl (dc rfl (dc rfl (dc rfl (dc rfl (dc rfl dn)))))))))))))))) dT))))
def u34 : Fu := fn K2.z [pAA, pAB, pAC, pAD, pAE, pAF, pAG, pAH, pBA, pBB, pBC, pBD] (cSeq (cReg ((m1 wBox gAA pAB) <|
((o1 vMov (gK (.int .i64 0)) pAC) <|
 oEnd))) (cSeq (cSeq (cReg ((o1 vFad0 gAB pAD) <|
((m1 wLoad1 gAD pAE) <|
((o1 (vCvi .i64) gAE pAF) <|
((o2 vGeq gAF (gK (.int .i64 8)) pAG) <|
((o1 vMov gAG pAH) <|
((oGuard gAH false pBA (o1 (vFad 1) gAB pBA)) <|
((oGuard gAH false pBB (m1 wLoad1 gBA pBB)) <|
((oGuard gAH false pBC (oCall 53 [gBB] pBC)) <|
((oSlow K2.gt ⟨some 11,none,.p (.pick (.t 7) (.c (.bool true)) (.t 10)),false,[]⟩ pBD) <|
((o1 vMov gBD pBE) <|
((oGuard gBE false pBF (o1 (vFad 2) gAB pBF)) <|
((oGuard gBE false pBG (m1 wLoad1 gBF pBG)) <|
((oGuard gBE false pBH (oCall 53 [gBG] pBH)) <|
((oSlow K2.gt ⟨some 16,none,.p (.pick (.t 12) (.c (.bool true)) (.t 15)),false,[]⟩ pCA) <|
((o1 vMov gCA pCB) <|
((oGuard gCB false pCC (o1 (vFad 1) gAB pCC)) <|
((oGuard gCB false pCD (m1 wLoad1 gCC pCD)) <|
((oGuard gCB false pCE (o1 (vFad 2) gAB pCE)) <|
((oGuard gCB false pCF (m1 wLoad1 gCE pCF)) <|
((oGuard gCB false pCG (o2 vAdd gCD gCF pCG)) <|
((oGuard gCB false pCH (o2 (vBin .rem) gCG (gK (.int .i64 2)) pCH)) <|
((oGuard gCB false pDA (o2 vNeq gCH (gK (.int .i64 0)) pDA)) <|
((oSlow K2.gt ⟨some 25,none,.p (.pick (.t 17) (.c (.bool true)) (.t 24)),false,[]⟩ pDB) <|
 oEnd)))))))))))))))))))))))) (cIf gDB (cSeq (cReg ((o1 vMov (gK (.int .i64 1)) pAC) <|
 oEnd)) (cExit 0)) cSkip)) (cSeq (cReg ((o1 vMov (gK (.int .i64 0)) pAC) <|
 oEnd)) (cExit 0)))) [(rT gAC)]
theorem u34_ok : denA k34 = u34 := dA2 rfl rfl (dF rfl rfl rfl (dS (dR (dc rfl (dc rfl dn))) (dS (dS (dR (dc rfl (dc rfl (dc rfl (dc rfl (dc rfl (dc (by kernel_rfl) (dc (by kernel_rfl) (dc (by kernel_rfl) (dc (by kernel_rfl) (dc rfl (dc (by kernel_rfl) (dc (by kernel_rfl) (dc (by kernel_rfl) (dc (by kernel_rfl) (dc rfl (dc (by kernel_rfl) (dc (by kernel_rfl) (dc (by kernel_rfl) (dc (by kernel_rfl) (dc (by kernel_rfl) (dc (by kernel_rfl) (dc (by kernel_rfl) (dc (by kernel_rfl) dn)))))))))))))))))))))))) (dI rfl rfl (dS (dR (dc rfl dn)) dT) dK)) (dS (dR (dc rfl dn)) dT))))
def u36 : Fu := fn K2.z [pAA, pAB, pAC, pAD, pAE, pAF, pAG, pAH, pBA, pBB, pBC] (cSeq (cReg ((oAlloc [(.int .u8 0), (.int .i64 0), (.int .i64 0)] pAG) <|
 oEnd)) (cSeq (cReg ((o1 vMov gAA pAH) <|
((o1 vMov gAB pBA) <|
((o1 vMov gAC pBB) <|
((oSlow K2.gt ⟨some 10,none,.p (.build [(.int .u8 0), (.int .i64 0), (.int .i64 0)] [(0, 1, (.t 7)), (1, 1, (.t 8)), (2, 1, (.t 9))]),false,[]⟩ pBC) <|
((oStore 3 gAG gBC) <|
 oEnd)))))) (cExit 0))) [(rA 3 gAG)]
theorem u36_ok : denA k36 = u36 := dA2 rfl rfl (dF rfl rfl rfl (dS (dR (dc (by kernel_rfl) dn)) (dS (dR (dc rfl (dc rfl (dc rfl (dc (by kernel_rfl) (dc rfl dn)))))) dT)))
def u37 : Fu := fn K2.z [pAA, pAB, pAC, pAD, pAE, pAF, pAG, pAH, pBA, pBB, pBC, pBD] (cSeq (cReg ((m1 wBox gAA pAD) <|
((o1 vMov (gK (.int .i64 0)) pAG) <|
((o1 vMov (gK (.int .i64 0)) pAH) <|
 oEnd)))) (cSeq (cReg ((o1 vFad0 gAD pBA) <|
((m1 wLoad1 gBA pBB) <|
((o1 vMov gAB pBC) <|
((o2 (vBin .mul) gBB gBC pBD) <|
((o1 (vFad 1) gAD pBE) <|
((m1 wLoad1 gBE pBF) <|
((o1 vMov gAC pBG) <|
((o2 (vBin .mul) gBF gBG pBH) <|
((o2 vAdd gBD gBH pCA) <|
((o1 (vFad 2) gAD pCB) <|
((m1 wLoad1 gCB pCC) <|
((o1 vMov gAB pCD) <|
((o2 (vBin .mul) gCC gCD pCE) <|
((o1 (vFad 3) gAD pCF) <|
((m1 wLoad1 gCF pCG) <|
((o1 vMov gAC pCH) <|
((o2 (vBin .mul) gCG gCH pDA) <|
((o2 vAdd gCE gDA pDB) <|
((o1 vMov gCA pAG) <|
((o1 vMov gDB pAH) <|
 oEnd))))))))))))))))))))) (cExit 0))) [(rT gAG), (rT gAH)]
theorem u37_ok : denA k37 = u37 := dA2 rfl rfl (dF rfl rfl rfl (dS (dR (dc rfl (dc rfl (dc rfl dn)))) (dS (dR (dc rfl (dc rfl (dc rfl (dc rfl (dc rfl (dc rfl (dc rfl (dc rfl (dc rfl (dc rfl (dc rfl (dc rfl (dc rfl (dc rfl (dc rfl (dc rfl (dc rfl (dc rfl (dc rfl (dc rfl dn))))))))))))))))))))) dT)))
def u38 : Fu := fn K2.z [pAA, pAB, pAC, pAD, pAE, pAF, pAG, pAH, pBA] (cSeq (cReg ((m1 wBox gAA pAB) <|
((oAlloc [(.int .u8 0), (.int .i64 0), (.int .i64 0)] pAC) <|
((o1 vMov (gK (.int .i64 0)) pAD) <|
 oEnd)))) (cSeq (cSeq (cReg ((m1 (wLoadN 3) gAB pAE) <|
((oCall 34 [gAE] pAF) <|
((o2 vNeq gAF (gK (.int .i64 0)) pAG) <|
 oEnd)))) (cIf gAG (cSeq (cReg ((oSlow K2.gt ⟨some 7,none,.p (.build [(.int .u8 0), (.int .i64 0), (.int .i64 0)] []),false,[]⟩ pAH) <|
((oStore 3 gAC gAH) <|
((o1 vMov (gK (.int .i64 3)) pAD) <|
 oEnd)))) (cExit 0)) cSkip)) (cSeq (cReg ((m1 (wLoadN 3) gAB pBA) <|
((oStore 3 gAC gBA) <|
((o1 vMov (gK (.int .i64 0)) pAD) <|
 oEnd)))) (cExit 0)))) [(rA 3 gAC), (rT gAD)]
theorem u38_ok : denA k38 = u38 := dA2 rfl rfl (dF rfl rfl rfl (dS (dR (dc rfl (dc (by kernel_rfl) (dc rfl dn)))) (dS (dS (dR (dc rfl (dc rfl (dc rfl dn)))) (dI rfl rfl (dS (dR (dc (by kernel_rfl) (dc rfl (dc rfl dn)))) dT) dK)) (dS (dR (dc rfl (dc rfl (dc rfl dn)))) dT))))
def u39 : Fu := fn K2.z [pAA, pAB, pAC, pAD, pAE, pAF, pAG, pAH, pBA, pBB, pBC, pBD] (cSeq (cReg ((m1 wBox gAA pAB) <|
((o1 vMov (gK (.int .u8 0)) pAC) <|
 oEnd))) (cSeq (cSeq (cReg ((m1 (wLoadN 32) (gK (.ptr 0 0)) pAF) <|
((o1 vMov (gK (.int .i64 0)) pAG) <|
 oEnd))) (cBlock 1 (cLoop (cSeq (cReg ((o2 vLss gAG (gK (.int .i64 8)) pAH) <|
 oEnd)) (cSeq (cIf gAH cSkip (cExit 1)) (cSeq (cBlock 2 (cSeq (cReg ((o1 vMov gAG pBA) <|
((oSlow K2.gt ⟨some 9,none,.p (.idxA true 8 4 (.t 5) (.t 6)),false,[]⟩ pBB) <|
((oAlloc [(.int .i64 0), (.int .i64 0), (.int .i64 0), (.int .i64 0)] pAE) <|
((o1 vMov gBA pAD) <|
((oStore 4 gAE gBB) <|
 oEnd)))))) (cSeq (cReg ((m1 (wLoadN 4) gAE pBC) <|
((m1 (wLoadN 4) gAB pBD) <|
((o2 (vEqf false true [1, 1, 1, 1]) gBC gBD pBE) <|
 oEnd)))) (cIf gBE (cSeq (cReg ((o1 vMov gAD pBF) <|
((o1 (vCvi .u8) gBF pBG) <|
((o1 vMov gBG pAC) <|
 oEnd)))) (cExit 0)) cSkip)))) (cReg ((o2 vAdd gAG (gK (.int .i64 1)) pBH) <|
((o1 vMov gBH pAG) <|
 oEnd))))))))) (cSeq (cReg ((o1 vMov (gK (.int .u8 0)) pAC) <|
 oEnd)) (cExit 0)))) [(rT gAC)]
theorem u39_ok : denA k39 = u39 := dA2 rfl rfl (dF rfl rfl rfl (dS (dR (dc rfl (dc rfl dn))) (dS (dS (dR (dc rfl (dc rfl dn))) (dB (dL (dS (dR (dc rfl dn)) (dS (dI rfl rfl dK dX) (dS (dB (dS (dR (dc rfl (dc (by kernel_rfl) (dc (by kernel_rfl) (dc rfl (dc rfl dn)))))) (dS (dR (dc rfl (dc rfl (dc rfl dn)))) (dI rfl rfl (dS (dR (dc rfl (dc rfl (dc rfl dn)))) dT) dK)))) (dR (dc rfl (dc rfl dn))))))))) (dS (dR (dc rfl dn)) dT))))
def u40 : Fu := fn K2.z [pAA, pAB, pAC, pAD, pAE, pAF, pAG, pAH, pBA, pBB, pBC, pBD] (cSeq (cReg ((oAlloc [(.int .u8 0), (.int .i64 0), (.int .i64 0)] pAE) <|
 oEnd)) (cSeq (cReg ((o1 vMov gAA pBA) <|
((o1 vMov gAB pBB) <|
((oSlow K2.gt ⟨some 10,none,.p (.build [(.int .u8 0), (.int .i64 0)] [(0, 1, (.t 8)), (1, 1, (.t 9))]),false,[]⟩ pBC) <|
((oCall 26 [gBC] pBD) <|
((o1 vMov gBD pAH) <|
((o1 (vExt 0) gAH pBE) <|
((o1 (vExt 1) gAH pBF) <|
((oAlloc [(.int .u8 0), (.int .i64 0), (.int .i64 0)] pAF) <|
((oStore 3 gAF gBE) <|
((o1 vMov gBF pAG) <|
 oEnd))))))))))) (cSeq (cReg ((m1 (wLoadN 3) gAF pBG) <|
((oStore 3 gAE gBG) <|
 oEnd))) (cExit 0)))) [(rA 3 gAE)]
theorem u40_ok : denA k40 = u40 := dA2 rfl rfl (dF rfl rfl rfl (dS (dR (dc (by kernel_rfl) dn)) (dS (dR (dc rfl (dc rfl (dc (by kernel_rfl) (dc rfl (dc rfl (dc rfl (dc rfl (dc (by kernel_rfl) (dc rfl (dc rfl dn))))))))))) (dS (dR (dc rfl (dc rfl dn))) dT))))
def u41 : Fu := fn K2.z [pAA, pAB, pAC, pAD, pAE, pAF, pAG, pAH, pBA, pBB, pBC, pBD] (cSeq (cReg ((m1 wBox gAA pAC) <|
((m1 wBox gAB pAD) <|
((oAlloc [(.int .i64 0), (.int .i64 0), (.int .i64 0), (.int .i64 0)] pAE) <|
 oEnd)))) (cSeq (cReg ((m1 (wLoadN 4) gAD pBC) <|
((o1 vFad0 gAC pBD) <|
((m1 wLoad1 gBD pBE) <|
((o1 (vFad 2) gAC pBF) <|
((m1 wLoad1 gBF pBG) <|
((oCall 37 [gBC, gBE, gBG] pBH) <|
((o1 vMov gBH pBB) <|
((o1 (vExt 0) gBB pCA) <|
((o1 (vExt 1) gBB pCB) <|
((o1 vMov gCA pAF) <|
((o1 vMov gCB pAG) <|
 oEnd)))))))))))) (cSeq (cReg ((m1 (wLoadN 4) gAD pCD) <|
((o1 (vFad 1) gAC pCE) <|
((m1 wLoad1 gCE pCF) <|
((o1 (vFad 3) gAC pCG) <|
((m1 wLoad1 gCG pCH) <|
((oCall 37 [gCD, gCF, gCH] pDA) <|
((o1 vMov gDA pCC) <|
((o1 (vExt 0) gCC pDB) <|
((o1 (vExt 1) gCC pDC) <|
((o1 vMov gDB pAH) <|
((o1 vMov gDC pBA) <|
 oEnd)))))))))))) (cSeq (cReg ((o1 vMov gAF pDD) <|
((o1 vMov gAH pDE) <|
((o1 vMov gAG pDF) <|
((o1 vMov gBA pDG) <|
((oSlow K2.gt ⟨some 31,none,.p (.build [(.int .i64 0), (.int .i64 0), (.int .i64 0), (.int .i64 0)] [(0, 1, (.t 27)), (1, 1, (.t 28)), (2, 1, (.t 29)), (3, 1, (.t 30))]),false,[]⟩ pDH) <|
((oStore 4 gAE gDH) <|
 oEnd))))))) (cExit 0))))) [(rA 4 gAE)]
theorem u41_ok : denA k41 = u41 := dA2 rfl rfl (dF rfl rfl rfl (dS (dR (dc rfl (dc rfl (dc (by kernel_rfl) dn)))) (dS (dR (dc rfl (dc rfl (dc rfl (dc rfl (dc rfl (dc rfl (dc rfl (dc rfl (dc rfl (dc rfl (dc rfl dn)))))))))))) (dS (dR (dc rfl (dc rfl (dc rfl (dc rfl (dc rfl (dc rfl (dc rfl (dc rfl (dc rfl (dc rfl (dc rfl dn)))))))))))) (dS (dR (dc rfl (dc rfl (dc rfl (dc rfl (dc (by kernel_rfl) (dc rfl dn))))))) dT)))))
def u42 : Fu := fn K2.z [pAA, pAB, pAC, pAD, pAE, pAF, pAG, pAH, pBA, pBB, pBC, pBD] (cSeq (cReg ((m1 wBox gAA pAB) <|
((o1 vMov (gK (.int .i64 0)) pAC) <|
 oEnd))) (cSeq (cSeq (cReg ((o1 vFad0 gAB pAD) <|
((m1 wLoad1 gAD pAE) <|
((o2 vLss gAE (gK (.int .i64 (-65536))) pAF) <|
((o1 vMov gAF pAG) <|
((oGuard gAG false pAH (o1 vFad0 gAB pAH)) <|
((oGuard gAG false pBA (m1 wLoad1 gAH pBA)) <|
((oGuard gAG false pBB (o2 vGtr gBA (gK (.int .i64 65536)) pBB)) <|
((oSlow K2.gt ⟨some 10,none,.p (.pick (.t 6) (.c (.bool true)) (.t 9)),false,[]⟩ pBC) <|
((o1 vMov gBC pBD) <|
((oGuard gBD false pBE (o1 (vFad 1) gAB pBE)) <|
((oGuard gBD false pBF (m1 wLoad1 gBE pBF)) <|
((oGuard gBD false pBG (o2 vLss gBF (gK (.int .i64 (-65536))) pBG)) <|
((oSlow K2.gt ⟨some 15,none,.p (.pick (.t 11) (.c (.bool true)) (.t 14)),false,[]⟩ pBH) <|
((o1 vMov gBH pCA) <|
((oGuard gCA false pCB (o1 (vFad 1) gAB pCB)) <|
((oGuard gCA false pCC (m1 wLoad1 gCB pCC)) <|
((oGuard gCA false pCD (o2 vGtr gCC (gK (.int .i64 65536)) pCD)) <|
((oSlow K2.gt ⟨some 20,none,.p (.pick (.t 16) (.c (.bool true)) (.t 19)),false,[]⟩ pCE) <|
 oEnd))))))))))))))))))) (cIf gCE (cSeq (cReg ((o1 vMov (gK (.int .i64 1)) pAC) <|
 oEnd)) (cExit 0)) cSkip)) (cSeq (cReg ((o1 vMov (gK (.int .i64 0)) pAC) <|
 oEnd)) (cExit 0)))) [(rT gAC)]
theorem u42_ok : denA k42 = u42 := dA2 rfl rfl (dF rfl rfl rfl (dS (dR (dc rfl (dc rfl dn))) (dS (dS (dR (dc rfl (dc rfl (dc rfl (dc rfl (dc (by kernel_rfl) (dc (by kernel_rfl) (dc (by kernel_rfl) (dc (by kernel_rfl) (dc rfl (dc (by kernel_rfl) (dc (by kernel_rfl) (dc (by kernel_rfl) (dc (by kernel_rfl) (dc rfl (dc (by kernel_rfl) (dc (by kernel_rfl) (dc (by kernel_rfl) (dc (by kernel_rfl) dn))))))))))))))))))) (dI rfl rfl (dS (dR (dc rfl dn)) dT) dK)) (dS (dR (dc rfl dn)) dT))))
def u43 : Fu := fn K2.z [pAA, pAB, pAC, pAD, pAE, pAF, pAG, pAH, pBA, pBB, pBC, pBD] (cSeq (cReg ((o1 vMov (gK (.int .i64 0)) pAC) <|
((o1 vMov (gK (.int .i64 0)) pAD) <|
 oEnd))) (cSeq (cReg ((oSlow K2.gt ⟨some 5,none,.p (.build [(.int .i64 0), (.int .i64 0)] [(0, 1, (.c (.int .i64 1))), (1, 1, (.c (.int .i64 0)))]),false,[]⟩ pAF) <|
((oSlow K2.gt ⟨some 6,none,.p (.build [(.int .i64 0), (.int .i64 0)] [(0, 1, (.c (.int .i64 0))), (1, 1, (.c (.int .i64 1)))]),false,[]⟩ pAG) <|
((oSlow K2.gt ⟨some 7,none,.p (.build [(.int .i64 0), (.int .i64 0)] [(0, 1, (.c (.int .i64 1))), (1, 1, (.c (.int .i64 1)))]),false,[]⟩ pAH) <|
((oSlow K2.gt ⟨some 8,none,.p (.build [(.int .i64 0), (.int .i64 0)] [(0, 1, (.c (.int .i64 (-1)))), (1, 1, (.c (.int .i64 1)))]),false,[]⟩ pBA) <|
((oSlow K2.gt ⟨some 9,none,.p (.build [(.int .i64 0), (.int .i64 0), (.int .i64 0), (.int .i64 0), (.int .i64 0), (.int .i64 0), (.int .i64 0), (.int .i64 0), (.int .i64 0), (.int .i64 0)] [(2, 2, (.t 5)), (4, 2, (.t 6)), (6, 2, (.t 7)), (8, 2, (.t 8))]),false,[]⟩ pBB) <|
((o1 vMov gAA pBC) <|
((oSlow K2.gt ⟨some 11,none,.p (.idxA true 5 2 (.t 9) (.t 10)),false,[]⟩ pBD) <|
((oAlloc [(.int .i64 0), (.int .i64 0)] pAE) <|
((oStore 2 gAE gBD) <|
 oEnd)))))))))) (cSeq (cReg ((o2 (vIadA 2 1) gAE (gK (.int .i64 0)) pBE) <|
((m1 wLoad1 gBE pBF) <|
((o2 (vIadA 2 1) gAE (gK (.int .i64 1)) pBG) <|
((m1 wLoad1 gBG pBH) <|
((o1 vMov gBF pAC) <|
((o1 vMov gBH pAD) <|
 oEnd))))))) (cExit 0)))) [(rT gAC), (rT gAD)]
theorem u43_ok : denA k43 = u43 := dA2 rfl rfl (dF rfl rfl rfl (dS (dR (dc rfl (dc rfl dn))) (dS (dR (dc (by kernel_rfl) (dc (by kernel_rfl) (dc (by kernel_rfl) (dc (by kernel_rfl) (dc (by kernel_rfl) (dc rfl (dc (by kernel_rfl) (dc (by kernel_rfl) (dc rfl dn)))))))))) (dS (dR (dc rfl (dc rfl (dc rfl (dc rfl (dc rfl (dc rfl dn))))))) dT))))
def u48 : Fu := fn K1.z [(pA p0), (pB p0), (pC p0), (pD p0), (pE p0), (pF p0), (pG p0), (pH p0)] (cSeq (cReg ((o1 vMov (gK .nils) (pE p0)) <|
 oEnd)) (cSeq (cReg ((o1 vMov (gA g0) (pF p0)) <|
((o1 vMov (gB g0) (pG p0)) <|
((oCall 54 [(gF g0), (gG g0), (gK (.int .i64 0)), (gK (.int .i64 (-1)))] (pH p0)) <|
((o1 vMov (gH g0) (pE p0)) <|
 oEnd))))) (cExit 0))) [(rT (gE g0))]
theorem u48_ok : denA k48 = u48 := dA1 rfl (dF rfl rfl rfl (dS (dR (dc rfl dn)) (dS (dR (dc rfl (dc rfl (dc rfl (dc rfl dn))))) dT)))
def u49 : Fu := fn K2.z [pAA, pAB, pAC, pAD, pAE, pAF, pAG, pAH, pBA, pBB, pBC, pBD] (cSeq (cReg ((o1 vMov (gK (.int .u64 0)) pAG) <|
((o1 vMov (gK .nili) pAH) <|
 oEnd))) (cSeq (cReg ((o1 vMov gAA pBD) <|
((o1 vMov gAB pBE) <|
((o1 vMov gAC pBF) <|
((oCall 55 [gBD, gBE, gBF] pBG) <|
((o1 vMov gBG pBC) <|
((o1 (vExt 0) gBC pBH) <|
((o1 (vExt 1) gBC pCA) <|
((o1 vMov gBH pBA) <|
((o1 vMov gCA pBB) <|
 oEnd)))))))))) (cSeq (cSeq (cReg ((o1 vMov gBB pCB) <|
((o2 (vEqn true 0) gCB (gK .nili) pCC) <|
 oEnd))) (cIf gCC (cSeq (cReg ((o1 vMov gBA pCD) <|
((o1 vMov gAA pCE) <|
((o1 vMov gAB pCF) <|
((o1 vMov gAC pCG) <|
((o1 vMov gBB pCH) <|
((oCall 56 [(gK (.str [80, 97, 114, 115, 101, 85, 105, 110, 116])), gCE, gCF, gCG, gCH] pDA) <|
((o1 vMov gCD pAG) <|
((o1 vMov gDA pAH) <|
 oEnd))))))))) (cExit 0)) cSkip)) (cSeq (cReg ((o1 vMov gBA pDB) <|
((o1 vMov gDB pAG) <|
((o1 vMov (gK .nili) pAH) <|
 oEnd)))) (cExit 0))))) [(rT gAG), (rT gAH)]
theorem u49_ok : denA k49 = u49 := dA2 rfl rfl (dF rfl rfl rfl (dS (dR (dc rfl (dc rfl dn))) (dS (dR (dc rfl (dc rfl (dc rfl (dc rfl (dc rfl (dc rfl (dc rfl (dc rfl (dc rfl dn)))))))))) (dS (dS (dR (dc rfl (dc rfl dn))) (dI rfl rfl (dS (dR (dc rfl (dc rfl (dc rfl (dc rfl (dc rfl (dc rfl (dc rfl (dc rfl dn))))))))) dT) dK)) (dS (dR (dc rfl (dc rfl (dc rfl dn)))) dT)))))
def u50 : Fu := fn K2.z [pAA, pAB, pAC, pAD, pAE, pAF, pAG, pAH, pBA, pBB, pBC, pBD] (cSeq (cReg ((o1 vMov (gK (.int .i64 0)) pAC) <|
((o1 vMov (gK .nili) pAD) <|
 oEnd))) (cSeq (cReg ((o1 vMov gAA pAH) <|
((oCall 57 [gAH] pBA) <|
((o1 vMov gBA pAG) <|
((o1 (vExt 0) gAG pBB) <|
((o1 (vExt 1) gAG pBC) <|
((o1 vMov gBB pAE) <|
((o1 vMov gBC pAF) <|
 oEnd)))))))) (cSeq (cSeq (cReg ((o1 vMov gAF pBD) <|
((o2 (vEqn true 0) gBD (gK .nili) pBE) <|
 oEnd))) (cIf gBE (cSeq (cReg ((o1 vMov gAE pBF) <|
((o1 vMov gAA pBG) <|
((o1 vMov gAF pBH) <|
((oCall 56 [(gK (.str [65, 116, 111, 105])), gBG, (gK (.int .i64 0)), (gK (.int .i64 0)), gBH] pCA) <|
((o1 vMov gBF pAC) <|
((o1 vMov gCA pAD) <|
 oEnd))))))) (cExit 0)) cSkip)) (cSeq (cReg ((o1 vMov gAE pCB) <|
((o1 vMov gCB pAC) <|
((o1 vMov (gK .nili) pAD) <|
 oEnd)))) (cExit 0))))) [(rT gAC), (rT gAD)]
theorem u50_ok : denA k50 = u50 := dA2 rfl rfl (dF rfl rfl rfl (dS (dR (dc rfl (dc rfl dn))) (dS (dR (dc rfl (dc rfl (dc rfl (dc rfl (dc rfl (dc rfl (dc rfl dn)))))))) (dS (dS (dR (dc rfl (dc rfl dn))) (dI rfl rfl (dS (dR (dc rfl (dc rfl (dc rfl (dc rfl (dc rfl (dc rfl dn))))))) dT) dK)) (dS (dR (dc rfl (dc rfl (dc rfl dn)))) dT)))))
def u51 : Fu := fn K1.z [(pA p0), (pB p0), (pC p0), (pD p0), (pE p0)] (cSeq (cReg ((o1 vMov (gK (.str [])) (pC p0)) <|
 oEnd)) (cSeq (cReg ((o1 vMov (gA g0) (pD p0)) <|
((oCall 58 [(gD g0)] (pE p0)) <|
((o1 vMov (gE g0) (pC p0)) <|
 oEnd)))) (cExit 0))) [(rT (gC g0))]
theorem u51_ok : denA k51 = u51 := dA1 rfl (dF rfl rfl rfl (dS (dR (dc rfl dn)) (dS (dR (dc rfl (dc rfl (dc rfl dn)))) dT)))
def u53 : Fu := fn K2.z [pAA, pAB, pAC, pAD, pAE, pAF, pAG, pAH, pBA] (cSeq (cReg ((o1 vMov (gK (.bool false)) pAC) <|
 oEnd)) (cSeq (cReg ((o1 vMov gAA pAD) <|
((o2 vLss gAD (gK (.int .i64 (-16384))) pAE) <|
((o1 vMov gAE pAF) <|
((oGuard gAF false pAG (o1 vMov gAA pAG)) <|
((oGuard gAF false pAH (o2 vGtr gAG (gK (.int .i64 16384)) pAH)) <|
((oSlow K2.gt ⟨some 8,none,.p (.pick (.t 5) (.c (.bool true)) (.t 7)),false,[]⟩ pBA) <|
((o1 vMov gBA pAC) <|
 oEnd)))))))) (cExit 0))) [(rT gAC)]
theorem u53_ok : denA k53 = u53 := dA2 rfl rfl (dF rfl rfl rfl (dS (dR (dc rfl dn)) (dS (dR (dc rfl (dc rfl (dc rfl (dc (by kernel_rfl) (dc (by kernel_rfl) (dc (by kernel_rfl) (dc rfl dn)))))))) dT)))
def u54 : Fu := fn K3.z [(pA pAA), (pA pAB), (pA pAC), (pA pAD), (pA pAE), (pA pAF), (pA pAG), (pA pAH), (pA pBA), (pA pBB), (pA pBC), (pA pBD)] (cSeq (cReg ((o1 vMov (gK .nils) (pA pBA)) <|
 oEnd)) (cSeq (cSeq (cReg ((o1 vMov (gA gAD) (pA pBE)) <|
((o2 vEql (gA gBE) (gK (.int .i64 0)) (pA pBF)) <|
 oEnd))) (cIf (gA gBF) (cSeq (cReg ((o1 vMov (gK .nils) (pA pBA)) <|
 oEnd)) (cExit 0)) cSkip)) (cSeq (cSeq (cReg ((o1 vMov (gA gAB) (pA pBG)) <|
((o2 vEql (gA gBG) (gK (.str [])) (pA pBH)) <|
 oEnd))) (cIf (gA gBH) (cSeq (cReg ((o1 vMov (gA gAA) (pA pCA)) <|
((o1 vMov (gA gAD) (pA pCB)) <|
((oCall 59 [(gA gCA), (gA gCB)] (pA pCC)) <|
((o1 vMov (gA gCC) (pA pBA)) <|
 oEnd))))) (cExit 0)) cSkip)) (cSeq (cSeq (cReg ((o1 vMov (gA gAD) (pA pCD)) <|
((o2 vLss (gA gCD) (gK (.int .i64 0)) (pA pCE)) <|
 oEnd))) (cIf (gA gCE) (cReg ((o1 vMov (gA gAA) (pA pCF)) <|
((o1 vMov (gA gAB) (pA pCG)) <|
((oCall 60 [(gA gCF), (gA gCG)] (pA pCH)) <|
((o2 vAdd (gA gCH) (gK (.int .i64 1)) (pA pDA)) <|
((o1 vMov (gA gDA) (pA pAD)) <|
 oEnd)))))) cSkip)) (cSeq (cReg ((o1 vMov (gA gAD) (pA pDB)) <|
((o1 vMov (gA gAA) (pA pDC)) <|
((o1 vLenS (gA gDC) (pA pDD)) <|
((o2 vAdd (gA gDD) (gK (.int .i64 1)) (pA pDE)) <|
((oSlow K3.gt ⟨some 29,none,.p (.mins (.t 25) [(.t 28)]),false,[]⟩ (pA pDF)) <|
((o1 vMov (gA gDF) (pA pAD)) <|
 oEnd))))))) (cSeq (cReg ((o1 vMov (gA gAD) (pA pDG)) <|
((oSlow K3.gt ⟨some 31,none,.h (.mksl 1 16 [(.str [])] (.t 30) (.t 30)),false,[]⟩ (pA pDH)) <|
((o1 vMov (gA gDH) (pA pBB)) <|
 oEnd)))) (cSeq (cReg ((o1 vMov (gA gAD) (pA pEA)) <|
((o2 vSub (gA gEA) (gK (.int .i64 1)) (pA pEB)) <|
((o1 vMov (gA gEB) (pA pAD)) <|
 oEnd)))) (cSeq (cReg ((o1 vMov (gK (.int .i64 0)) (pA pBC)) <|
 oEnd)) (cSeq (cBlock 1 (cLoop (cSeq (cSeq (cReg ((o1 vMov (gA gBC) (pA pEC)) <|
((o1 vMov (gA gAD) (pA pED)) <|
((o2 vLss (gA gEC) (gA gED) (pA pEE)) <|
 oEnd)))) (cIf (gA gEE) cSkip (cExit 1))) (cBlock 2 (cSeq (cReg ((o1 vMov (gA gAA) (pA pEF)) <|
((o1 vMov (gA gAB) (pA pEG)) <|
((oCall 61 [(gA gEF), (gA gEG)] (pA pEH)) <|
((o1 vMov (gA gEH) (pA pBD)) <|
 oEnd))))) (cSeq (cSeq (cReg ((o1 vMov (gA gBD) (pA pFA)) <|
((o2 vLss (gA gFA) (gK (.int .i64 0)) (pA pFB)) <|
 oEnd))) (cIf (gA gFB) (cExit 1) cSkip)) (cSeq (cReg ((o1 vMov (gA gBB) (pA pFC)) <|
((o1 vMov (gA gBC) (pA pFD)) <|
((o1 vMov (gA gAA) (pA pFE)) <|
((o1 vMov (gA gBD) (pA pFF)) <|
((o1 vMov (gA gAC) (pA pFG)) <|
((o2 vAdd (gA gFF) (gA gFG) (pA pFH)) <|
((oSlow K3.gt ⟨some 48,none,.p (.slT (.t 44) none (some (.t 47))),false,[]⟩ (pA pGA)) <|
((o2 (vIadS 1) (gA gFC) (gA gFD) (pA pGB)) <|
((oStore 1 (gA gGB) (gA gGA)) <|
 oEnd)))))))))) (cSeq (cReg ((o1 vMov (gA gAA) (pA pGC)) <|
((o1 vMov (gA gBD) (pA pGD)) <|
((o1 vMov (gA gAB) (pA pGE)) <|
((o1 vLenS (gA gGE) (pA pGF)) <|
((o2 vAdd (gA gGD) (gA gGF) (pA pGG)) <|
((oSlow K3.gt ⟨some 55,none,.p (.slT (.t 50) (some (.t 54)) none),false,[]⟩ (pA pGH)) <|
((o1 vMov (gA gGH) (pA pAA)) <|
 oEnd)))))))) (cReg ((o1 vMov (gA gBC) (pA pHA)) <|
((o2 vAdd (gA gHA) (gK (.int .i64 1)) (pA pHB)) <|
((o1 vMov (gA gHB) (pA pBC)) <|
 oEnd)))))))))))) (cSeq (cReg ((o1 vMov (gA gBB) (pA pHC)) <|
((o1 vMov (gA gBC) (pA pHD)) <|
((o1 vMov (gA gAA) (pA pHE)) <|
((o2 (vIadS 1) (gA gHC) (gA gHD) (pA pHF)) <|
((oStore 1 (gA gHF) (gA gHE)) <|
 oEnd)))))) (cSeq (cReg ((o1 vMov (gA gBB) (pA pHG)) <|
((o1 vMov (gA gBC) (pA pHH)) <|
((o2 vAdd (gA gHH) (gK (.int .i64 1)) (pB pAA)) <|
((oSlow K3.gt ⟨some 65,none,.p (.slS 1 (.t 62) none (some (.t 64)) none),false,[]⟩ (pB pAB)) <|
((o1 vMov (gB gAB) (pA pBA)) <|
 oEnd)))))) (cExit 0)))))))))))) [(rT (gA gBA))]
theorem u54_ok : denA k54 = u54 := dA3 rfl rfl rfl (dF rfl rfl rfl (dS (dR (dc rfl dn)) (dS (dS (dR (dc rfl (dc rfl dn))) (dI rfl rfl (dS (dR (dc rfl dn)) dT) dK)) (dS (dS (dR (dc rfl (dc rfl dn))) (dI rfl rfl (dS (dR (dc rfl (dc rfl (dc rfl (dc rfl dn))))) dT) dK)) (dS (dS (dR (dc rfl (dc rfl dn))) (dI rfl rfl (dR (dc rfl (dc rfl (dc rfl (dc rfl (dc rfl dn)))))) dK)) (dS (dR (dc rfl (dc rfl (dc rfl (dc rfl (dc (by kernel_rfl) (dc rfl dn))))))) (dS (dR (dc rfl (dc (by kernel_rfl) (dc rfl dn)))) (dS (dR (dc rfl (dc rfl (dc rfl dn)))) (dS (dR (dc rfl dn)) (dS (dB (dL (dS (dS (dR (dc rfl (dc rfl (dc rfl dn)))) (dI rfl rfl dK dX)) (dB (dS (dR (dc rfl (dc rfl (dc rfl (dc rfl dn))))) (dS (dS (dR (dc rfl (dc rfl dn))) (dI rfl rfl dX dK)) (dS (dR (dc rfl (dc rfl (dc rfl (dc rfl (dc rfl (dc rfl (dc (by kernel_rfl) (dc rfl (dc rfl dn)))))))))) (dS (dR (dc rfl (dc rfl (dc rfl (dc rfl (dc rfl (dc (by kernel_rfl) (dc rfl dn)))))))) (dR (dc rfl (dc rfl (dc rfl dn)))))))))))) (dS (dR (dc rfl (dc rfl (dc rfl (dc rfl (dc rfl dn)))))) (dS (dR (dc rfl (dc rfl (dc rfl (dc (by kernel_rfl) (dc rfl dn)))))) dT))))))))))))
def u55 : Fu := fn K3.z [(pA pAA), (pA pAB), (pA pAC), (pA pAD), (pA pAE), (pA pAF), (pA pAG), (pA pAH), (pA pBA), (pA pBB), (pA pBC), (pA pBD)] (cSeq (cReg ((o1 vMov (gK (.int .u64 0)) (pA pAG)) <|
((o1 vMov (gK .nili) (pA pAH)) <|
 oEnd))) (cSeq (cSeq (cReg ((o1 vMov (gA gAA) (pA pCC)) <|
((o2 vEql (gA gCC) (gK (.str [])) (pA pCD)) <|
 oEnd))) (cIf (gA gCD) (cSeq (cReg ((o1 (vMkif 105) (gK (.int .i64 2)) (pA pCE)) <|
((o1 vMov (gK (.int .u64 0)) (pA pAG)) <|
((o1 vMov (gA gCE) (pA pAH)) <|
 oEnd)))) (cExit 0)) cSkip)) (cSeq (cReg ((o1 vMov (gA gAB) (pA pCF)) <|
((o2 vEql (gA gCF) (gK (.int .i64 0)) (pA pCG)) <|
((o1 vMov (gA gCG) (pA pBA)) <|
 oEnd)))) (cSeq (cReg ((o1 vMov (gA gAA) (pA pCH)) <|
((o1 vMov (gA gCH) (pA pBB)) <|
 oEnd))) (cSeq (cBlock 1 (cSeq (cReg ((o1 vMov (gA gAB) (pA pDC)) <|
((o2 vLeq (gK (.int .i64 2)) (gA gDC) (pA pDD)) <|
((o1 vMov (gA gDD) (pA pDE)) <|
((oGuard (gA gDE) true (pA pDF) (o1 vMov (gA gAB) (pA pDF))) <|
((oGuard (gA gDE) true (pA pDG) (o2 vLeq (gA gDF) (gK (.int .i64 36)) (pA pDG))) <|
((oSlow K3.gt ⟨some 31,none,.p (.pick (.t 28) (.t 30) (.c (.bool false))),false,[]⟩ (pA pDH)) <|
((o1 vMov (gA gDH) (pA pDB)) <|
 oEnd)))))))) (cIf (gA gDB) cSkip (cSeq (cReg ((o1 vMov (gA gAB) (pA pEB)) <|
((o2 vEql (gA gEB) (gK (.int .i64 0)) (pA pEC)) <|
((o1 vMov (gA gEC) (pA pEA)) <|
 oEnd)))) (cIf (gA gEA) (cSeq (cReg ((o1 vMov (gK (.int .i64 10)) (pA pAB)) <|
 oEnd)) (cSeq (cReg ((o1 vMov (gA gAA) (pA pED)) <|
((o2 vIdxS (gA gED) (gK (.int .i64 0)) (pA pEE)) <|
((o2 vEql (gA gEE) (gK (.int .u8 48)) (pA pEF)) <|
 oEnd)))) (cIf (gA gEF) (cBlock 2 (cSeq (cReg ((o1 vMov (gA gAA) (pA pFB)) <|
((o1 vLenS (gA gFB) (pA pFC)) <|
((o2 vGeq (gA gFC) (gK (.int .i64 3)) (pA pFD)) <|
((o1 vMov (gA gFD) (pA pFE)) <|
((oGuard (gA gFE) true (pA pFF) (o1 vMov (gA gAA) (pA pFF))) <|
((oGuard (gA gFE) true (pA pFG) (o2 vIdxS (gA gFF) (gK (.int .i64 1)) (pA pFG))) <|
((oGuard (gA gFE) true (pA pFH) (oCall 62 [(gA gFG)] (pA pFH))) <|
((oGuard (gA gFE) true (pA pGA) (o2 vEql (gA gFH) (gK (.int .u8 98)) (pA pGA))) <|
((oSlow K3.gt ⟨some 49,none,.p (.pick (.t 44) (.t 48) (.c (.bool false))),false,[]⟩ (pA pGB)) <|
((o1 vMov (gA gGB) (pA pFA)) <|
 oEnd))))))))))) (cIf (gA gFA) (cSeq (cReg ((o1 vMov (gK (.int .i64 2)) (pA pAB)) <|
 oEnd)) (cReg ((o1 vMov (gA gAA) (pA pGC)) <|
((oSlow K3.gt ⟨some 51,none,.p (.slT (.t 50) (some (.c (.int .i64 2))) none),false,[]⟩ (pA pGD)) <|
((o1 vMov (gA gGD) (pA pAA)) <|
 oEnd))))) (cSeq (cReg ((o1 vMov (gA gAA) (pA pGF)) <|
((o1 vLenS (gA gGF) (pA pGG)) <|
((o2 vGeq (gA gGG) (gK (.int .i64 3)) (pA pGH)) <|
((o1 vMov (gA gGH) (pA pHA)) <|
((oGuard (gA gHA) true (pA pHB) (o1 vMov (gA gAA) (pA pHB))) <|
((oGuard (gA gHA) true (pA pHC) (o2 vIdxS (gA gHB) (gK (.int .i64 1)) (pA pHC))) <|
((oGuard (gA gHA) true (pA pHD) (oCall 62 [(gA gHC)] (pA pHD))) <|
((oGuard (gA gHA) true (pA pHE) (o2 vEql (gA gHD) (gK (.int .u8 111)) (pA pHE))) <|
((oSlow K3.gt ⟨some 61,none,.p (.pick (.t 56) (.t 60) (.c (.bool false))),false,[]⟩ (pA pHF)) <|
((o1 vMov (gA gHF) (pA pGE)) <|
 oEnd))))))))))) (cIf (gA gGE) (cSeq (cReg ((o1 vMov (gK (.int .i64 8)) (pA pAB)) <|
 oEnd)) (cReg ((o1 vMov (gA gAA) (pA pHG)) <|
((oSlow K3.gt ⟨some 63,none,.p (.slT (.t 62) (some (.c (.int .i64 2))) none),false,[]⟩ (pA pHH)) <|
((o1 vMov (gA gHH) (pA pAA)) <|
 oEnd))))) (cSeq (cReg ((o1 vMov (gA gAA) (pB pAB)) <|
((o1 vLenS (gB gAB) (pB pAC)) <|
((o2 vGeq (gB gAC) (gK (.int .i64 3)) (pB pAD)) <|
((o1 vMov (gB gAD) (pB pAE)) <|
((oGuard (gB gAE) true (pB pAF) (o1 vMov (gA gAA) (pB pAF))) <|
((oGuard (gB gAE) true (pB pAG) (o2 vIdxS (gB gAF) (gK (.int .i64 1)) (pB pAG))) <|
((oGuard (gB gAE) true (pB pAH) (oCall 62 [(gB gAG)] (pB pAH))) <|
((oGuard (gB gAE) true (pB pBA) (o2 vEql (gB gAH) (gK (.int .u8 120)) (pB pBA))) <|
((oSlow K3.gt ⟨some 73,none,.p (.pick (.t 68) (.t 72) (.c (.bool false))),false,[]⟩ (pB pBB)) <|
((o1 vMov (gB gBB) (pB pAA)) <|
 oEnd))))))))))) (cIf (gB gAA) (cSeq (cReg ((o1 vMov (gK (.int .i64 16)) (pA pAB)) <|
 oEnd)) (cReg ((o1 vMov (gA gAA) (pB pBC)) <|
((oSlow K3.gt ⟨some 75,none,.p (.slT (.t 74) (some (.c (.int .i64 2))) none),false,[]⟩ (pB pBD)) <|
((o1 vMov (gB gBD) (pA pAA)) <|
 oEnd))))) (cSeq (cReg ((o1 vMov (gK (.int .i64 8)) (pA pAB)) <|
 oEnd)) (cReg ((o1 vMov (gA gAA) (pA pEG)) <|
((oSlow K3.gt ⟨some 39,none,.p (.slT (.t 38) (some (.c (.int .i64 1))) none),false,[]⟩ (pA pEH)) <|
((o1 vMov (gA gEH) (pA pAA)) <|
 oEnd)))))))))))) cSkip))) (cSeq (cReg ((o1 (vMkif 105) (gK (.int .i64 3)) (pA pDA)) <|
((o1 vMov (gK (.int .u64 0)) (pA pAG)) <|
((o1 vMov (gA gDA) (pA pAH)) <|
 oEnd)))) (cExit 0))))))) (cSeq (cSeq (cReg ((o1 vMov (gA gAC) (pB pBE)) <|
((o2 vEql (gB gBE) (gK (.int .i64 0)) (pB pBF)) <|
 oEnd))) (cIf (gB gBF) (cReg ((o1 vMov (gK (.int .i64 64)) (pA pAC)) <|
 oEnd)) (cSeq (cReg ((o1 vMov (gA gAC) (pB pBG)) <|
((o2 vLss (gB gBG) (gK (.int .i64 0)) (pB pBH)) <|
((o1 vMov (gB gBH) (pB pCA)) <|
((oGuard (gB gCA) false (pB pCB) (o1 vMov (gA gAC) (pB pCB))) <|
((oGuard (gB gCA) false (pB pCC) (o2 vGtr (gB gCB) (gK (.int .i64 64)) (pB pCC))) <|
((oSlow K3.gt ⟨some 83,none,.p (.pick (.t 80) (.c (.bool true)) (.t 82)),false,[]⟩ (pB pCD)) <|
 oEnd))))))) (cIf (gB gCD) (cSeq (cReg ((o1 (vMkif 105) (gK (.int .i64 4)) (pB pCE)) <|
((o1 vMov (gK (.int .u64 0)) (pA pAG)) <|
((o1 vMov (gB gCE) (pA pAH)) <|
 oEnd)))) (cExit 0)) cSkip)))) (cSeq (cReg ((o1 vMov (gK (.int .u64 0)) (pA pBC)) <|
 oEnd)) (cSeq (cSeq (cReg ((o1 vMov (gA gAB) (pB pCF)) <|
 oEnd)) (cBlock 3 (cSeq (cReg ((o2 vEql (gB gCF) (gK (.int .i64 10)) (pB pDD)) <|
((o1 vMov (gB gDD) (pB pDC)) <|
 oEnd))) (cIf (gB gDC) (cReg ((o1 vMov (gK (.int .u64 1844674407370955162)) (pA pBC)) <|
 oEnd)) (cSeq (cReg ((o2 vEql (gB gCF) (gK (.int .i64 16)) (pB pDF)) <|
((o1 vMov (gB gDF) (pB pDE)) <|
 oEnd))) (cIf (gB gDE) (cReg ((o1 vMov (gK (.int .u64 1152921504606846976)) (pA pBC)) <|
 oEnd)) (cReg ((o1 vMov (gA gAB) (pB pCG)) <|
((o1 (vCvi .u64) (gB gCG) (pB pCH)) <|
((o2 (vBin .quo) (gK (.int .u64 18446744073709551615)) (gB gCH) (pB pDA)) <|
((o2 vAdd (gB gDA) (gK (.int .u64 1)) (pB pDB)) <|
((o1 vMov (gB gDB) (pA pBC)) <|
 oEnd)))))))))))) (cSeq (cReg ((o1 vMov (gA gAC) (pB pDG)) <|
((o1 (vCvi .u64) (gB gDG) (pB pDH)) <|
((o2 (vBin .shl) (gK (.int .u64 1)) (gB gDH) (pB pEA)) <|
((o2 vSub (gB gEA) (gK (.int .u64 1)) (pB pEB)) <|
((o1 vMov (gB gEB) (pA pBD)) <|
 oEnd)))))) (cSeq (cReg ((o1 vMov (gK (.bool false)) (pA pBE)) <|
 oEnd)) (cSeq (cReg ((o1 vMov (gK (.int .u64 0)) (pA pBF)) <|
 oEnd)) (cSeq (cSeq (cReg ((o1 vMov (gA gAA) (pB pEC)) <|
((oSlow K3.gt ⟨some 99,none,.h (.s2b (.t 98)),false,[]⟩ (pB pED)) <|
((o1 vLen (gB gED) (pB pEE)) <|
((o1 vMov (gK (.int .i64 0)) (pB pEF)) <|
 oEnd))))) (cBlock 4 (cLoop (cSeq (cReg ((o2 vLss (gB gEF) (gB gEE) (pB pEG)) <|
 oEnd)) (cSeq (cIf (gB gEG) cSkip (cExit 4)) (cSeq (cBlock 5 (cSeq (cReg ((o2 (vIadS 1) (gB gED) (gB gEF) (pB pEH)) <|
((m1 wLoad1 (gB gEH) (pB pFA)) <|
((o1 vMov (gB gFA) (pA pBH)) <|
 oEnd)))) (cSeq (cReg ((o1 vMov (gK (.int .u8 0)) (pA pCA)) <|
 oEnd)) (cSeq (cBlock 6 (cSeq (cReg ((o1 vMov (gA gBH) (pB pFD)) <|
((o2 vEql (gB gFD) (gK (.int .u8 95)) (pB pFE)) <|
((o1 vMov (gB gFE) (pB pFF)) <|
((oGuard (gB gFF) true (pB pFG) (o1 vMov (gA gBA) (pB pFG))) <|
((oSlow K3.gt ⟨some 111,none,.p (.pick (.t 109) (.t 110) (.c (.bool false))),false,[]⟩ (pB pFH)) <|
((o1 vMov (gB gFH) (pB pFC)) <|
 oEnd))))))) (cIf (gB gFC) (cSeq (cReg ((o1 vMov (gK (.bool true)) (pA pBE)) <|
 oEnd)) (cExit 5)) (cSeq (cReg ((o1 vMov (gA gBH) (pB pGB)) <|
((o2 vLeq (gK (.int .u8 48)) (gB gGB) (pB pGC)) <|
((o1 vMov (gB gGC) (pB pGD)) <|
((oGuard (gB gGD) true (pB pGE) (o1 vMov (gA gBH) (pB pGE))) <|
((oGuard (gB gGD) true (pB pGF) (o2 vLeq (gB gGE) (gK (.int .u8 57)) (pB pGF))) <|
((oSlow K3.gt ⟨some 118,none,.p (.pick (.t 115) (.t 117) (.c (.bool false))),false,[]⟩ (pB pGG)) <|
((o1 vMov (gB gGG) (pB pGA)) <|
 oEnd)))))))) (cIf (gB gGA) (cReg ((o1 vMov (gA gBH) (pB pGH)) <|
((o2 vSub (gB gGH) (gK (.int .u8 48)) (pB pHA)) <|
((o1 vMov (gB gHA) (pA pCA)) <|
 oEnd)))) (cSeq (cReg ((o1 vMov (gA gBH) (pB pHC)) <|
((oCall 62 [(gB gHC)] (pB pHD)) <|
((o2 vLeq (gK (.int .u8 97)) (gB gHD) (pB pHE)) <|
((o1 vMov (gB gHE) (pB pHF)) <|
((oGuard (gB gHF) true (pB pHG) (o1 vMov (gA gBH) (pB pHG))) <|
((oGuard (gB gHF) true (pB pHH) (oCall 62 [(gB gHG)] (pB pHH))) <|
((oGuard (gB gHF) true (pC pAA) (o2 vLeq (gB gHH) (gK (.int .u8 122)) (pC pAA))) <|
((oSlow K3.gt ⟨some 129,none,.p (.pick (.t 125) (.t 128) (.c (.bool false))),false,[]⟩ (pC pAB)) <|
((o1 vMov (gC gAB) (pB pHB)) <|
 oEnd)))))))))) (cIf (gB gHB) (cReg ((o1 vMov (gA gBH) (pC pAC)) <|
((oCall 62 [(gC gAC)] (pC pAD)) <|
((o2 vSub (gC gAD) (gK (.int .u8 97)) (pC pAE)) <|
((o2 vAdd (gC gAE) (gK (.int .u8 10)) (pC pAF)) <|
((o1 vMov (gC gAF) (pA pCA)) <|
 oEnd)))))) (cSeq (cReg ((o1 (vMkif 105) (gK (.int .i64 2)) (pB pFB)) <|
((o1 vMov (gK (.int .u64 0)) (pA pAG)) <|
((o1 vMov (gB gFB) (pA pAH)) <|
 oEnd)))) (cExit 0))))))))) (cSeq (cSeq (cReg ((o1 vMov (gA gCA) (pC pAG)) <|
((o1 vMov (gA gAB) (pC pAH)) <|
((o1 (vCvi .u8) (gC gAH) (pC pBA)) <|
((o2 vGeq (gC gAG) (gC gBA) (pC pBB)) <|
 oEnd))))) (cIf (gC gBB) (cSeq (cReg ((o1 (vMkif 105) (gK (.int .i64 2)) (pC pBC)) <|
((o1 vMov (gK (.int .u64 0)) (pA pAG)) <|
((o1 vMov (gC gBC) (pA pAH)) <|
 oEnd)))) (cExit 0)) cSkip)) (cSeq (cSeq (cReg ((o1 vMov (gA gBF) (pC pBD)) <|
((o1 vMov (gA gBC) (pC pBE)) <|
((o2 vGeq (gC gBD) (gC gBE) (pC pBF)) <|
 oEnd)))) (cIf (gC gBF) (cSeq (cReg ((o1 vMov (gA gBD) (pC pBG)) <|
((o1 (vMkif 105) (gK (.int .i64 1)) (pC pBH)) <|
((o1 vMov (gC gBG) (pA pAG)) <|
((o1 vMov (gC gBH) (pA pAH)) <|
 oEnd))))) (cExit 0)) cSkip)) (cSeq (cReg ((o1 vMov (gA gBF) (pC pCA)) <|
((o1 vMov (gA gAB) (pC pCB)) <|
((o1 (vCvi .u64) (gC gCB) (pC pCC)) <|
((o2 (vBin .mul) (gC gCA) (gC gCC) (pC pCD)) <|
((o1 vMov (gC gCD) (pA pBF)) <|
 oEnd)))))) (cSeq (cReg ((o1 vMov (gA gBF) (pC pCE)) <|
((o1 vMov (gA gCA) (pC pCF)) <|
((o1 (vCvi .u64) (gC gCF) (pC pCG)) <|
((o2 vAdd (gC gCE) (gC gCG) (pC pCH)) <|
((o1 vMov (gC gCH) (pA pCB)) <|
 oEnd)))))) (cSeq (cSeq (cReg ((o1 vMov (gA gCB) (pC pDA)) <|
((o1 vMov (gA gBF) (pC pDB)) <|
((o2 vLss (gC gDA) (gC gDB) (pC pDC)) <|
((o1 vMov (gC gDC) (pC pDD)) <|
((oGuard (gC gDD) false (pC pDE) (o1 vMov (gA gCB) (pC pDE))) <|
((oGuard (gC gDD) false (pC pDF) (o1 vMov (gA gBD) (pC pDF))) <|
((oGuard (gC gDD) false (pC pDG) (o2 vGtr (gC gDE) (gC gDF) (pC pDG))) <|
((oSlow K3.gt ⟨some 159,none,.p (.pick (.t 155) (.c (.bool true)) (.t 158)),false,[]⟩ (pC pDH)) <|
 oEnd))))))))) (cIf (gC gDH) (cSeq (cReg ((o1 vMov (gA gBD) (pC pEA)) <|
((o1 (vMkif 105) (gK (.int .i64 1)) (pC pEB)) <|
((o1 vMov (gC gEA) (pA pAG)) <|
((o1 vMov (gC gEB) (pA pAH)) <|
 oEnd))))) (cExit 0)) cSkip)) (cReg ((o1 vMov (gA gCB) (pC pEC)) <|
((o1 vMov (gC gEC) (pA pBF)) <|
 oEnd)))))))))))) (cReg ((o2 vAdd (gB gEF) (gK (.int .i64 1)) (pC pED)) <|
((o1 vMov (gC gED) (pB pEF)) <|
 oEnd))))))))) (cSeq (cSeq (cReg ((o1 vMov (gA gBE) (pC pEE)) <|
((o1 vMov (gC gEE) (pC pEF)) <|
((oGuard (gC gEF) true (pC pEG) (o1 vMov (gA gBB) (pC pEG))) <|
((oGuard (gC gEF) true (pC pEH) (oCall 63 [(gC gEG)] (pC pEH))) <|
((oGuard (gC gEF) true (pC pFA) (o1 vNot (gC gEH) (pC pFA))) <|
((oSlow K3.gt ⟨some 169,none,.p (.pick (.t 165) (.t 168) (.c (.bool false))),false,[]⟩ (pC pFB)) <|
 oEnd))))))) (cIf (gC gFB) (cSeq (cReg ((o1 (vMkif 105) (gK (.int .i64 2)) (pC pFC)) <|
((o1 vMov (gK (.int .u64 0)) (pA pAG)) <|
((o1 vMov (gC gFC) (pA pAH)) <|
 oEnd)))) (cExit 0)) cSkip)) (cSeq (cReg ((o1 vMov (gA gBF) (pC pFD)) <|
((o1 vMov (gC gFD) (pA pAG)) <|
((o1 vMov (gK .nili) (pA pAH)) <|
 oEnd)))) (cExit 0))))))))))))))) [(rT (gA gAG)), (rT (gA gAH))]
theorem u55_ok : denA k55 = u55 := dA3 rfl rfl rfl (dF rfl rfl rfl (dS (dR (dc rfl (dc rfl dn))) (dS (dS (dR (dc rfl (dc rfl dn))) (dI rfl rfl (dS (dR (dc rfl (dc rfl (dc rfl dn)))) dT) dK)) (dS (dR (dc rfl (dc rfl (dc rfl dn)))) (dS (dR (dc rfl (dc rfl dn))) (dS (dB (dS (dR (dc rfl (dc rfl (dc rfl (dc (by kernel_rfl) (dc (by kernel_rfl) (dc (by kernel_rfl) (dc rfl dn)))))))) (dI rfl rfl dK (dS (dR (dc rfl (dc rfl (dc rfl dn)))) (dI rfl rfl (dS (dR (dc rfl dn)) (dS (dR (dc rfl (dc rfl (dc rfl dn)))) (dI rfl rfl (dB (dS (dR (dc rfl (dc rfl (dc rfl (dc rfl (dc (by kernel_rfl) (dc (by kernel_rfl) (dc (by kernel_rfl) (dc (by kernel_rfl) (dc (by kernel_rfl) (dc rfl dn))))))))))) (dI rfl rfl (dS (dR (dc rfl dn)) (dR (dc rfl (dc (by kernel_rfl) (dc rfl dn))))) (dS (dR (dc rfl (dc rfl (dc rfl (dc rfl (dc (by kernel_rfl) (dc (by kernel_rfl) (dc (by kernel_rfl) (dc (by kernel_rfl) (dc (by kernel_rfl) (dc rfl dn))))))))))) (dI rfl rfl (dS (dR (dc rfl dn)) (dR (dc rfl (dc (by kernel_rfl) (dc rfl dn))))) (dS (dR (dc rfl (dc rfl (dc rfl (dc rfl (dc (by kernel_rfl) (dc (by kernel_rfl) (dc (by kernel_rfl) (dc (by kernel_rfl) (dc (by kernel_rfl) (dc rfl dn))))))))))) (dI rfl rfl (dS (dR (dc rfl dn)) (dR (dc rfl (dc (by kernel_rfl) (dc rfl dn))))) (dS (dR (dc rfl dn)) (dR (dc rfl (dc (by kernel_rfl) (dc rfl dn)))))))))))) dK))) (dS (dR (dc rfl (dc rfl (dc rfl dn)))) dT)))))) (dS (dS (dR (dc rfl (dc rfl dn))) (dI rfl rfl (dR (dc rfl dn)) (dS (dR (dc rfl (dc rfl (dc rfl (dc (by kernel_rfl) (dc (by kernel_rfl) (dc (by kernel_rfl) dn))))))) (dI rfl rfl (dS (dR (dc rfl (dc rfl (dc rfl dn)))) dT) dK)))) (dS (dR (dc rfl dn)) (dS (dS (dR (dc rfl dn)) (dB (dS (dR (dc rfl (dc rfl dn))) (dI rfl rfl (dR (dc rfl dn)) (dS (dR (dc rfl (dc rfl dn))) (dI rfl rfl (dR (dc rfl dn)) (dR (dc rfl (dc rfl (dc rfl (dc rfl (dc rfl dn)))))))))))) (dS (dR (dc rfl (dc rfl (dc rfl (dc rfl (dc rfl dn)))))) (dS (dR (dc rfl dn)) (dS (dR (dc rfl dn)) (dS (dS (dR (dc rfl (dc (by kernel_rfl) (dc rfl (dc rfl dn))))) (dB (dL (dS (dR (dc rfl dn)) (dS (dI rfl rfl dK dX) (dS (dB (dS (dR (dc rfl (dc rfl (dc rfl dn)))) (dS (dR (dc rfl dn)) (dS (dB (dS (dR (dc rfl (dc rfl (dc rfl (dc (by kernel_rfl) (dc (by kernel_rfl) (dc rfl dn))))))) (dI rfl rfl (dS (dR (dc rfl dn)) dX) (dS (dR (dc rfl (dc rfl (dc rfl (dc (by kernel_rfl) (dc (by kernel_rfl) (dc (by kernel_rfl) (dc rfl dn)))))))) (dI rfl rfl (dR (dc rfl (dc rfl (dc rfl dn)))) (dS (dR (dc rfl (dc rfl (dc rfl (dc rfl (dc (by kernel_rfl) (dc (by kernel_rfl) (dc (by kernel_rfl) (dc (by kernel_rfl) (dc rfl dn)))))))))) (dI rfl rfl (dR (dc rfl (dc rfl (dc rfl (dc rfl (dc rfl dn)))))) (dS (dR (dc rfl (dc rfl (dc rfl dn)))) dT)))))))) (dS (dS (dR (dc rfl (dc rfl (dc rfl (dc rfl dn))))) (dI rfl rfl (dS (dR (dc rfl (dc rfl (dc rfl dn)))) dT) dK)) (dS (dS (dR (dc rfl (dc rfl (dc rfl dn)))) (dI rfl rfl (dS (dR (dc rfl (dc rfl (dc rfl (dc rfl dn))))) dT) dK)) (dS (dR (dc rfl (dc rfl (dc rfl (dc rfl (dc rfl dn)))))) (dS (dR (dc rfl (dc rfl (dc rfl (dc rfl (dc rfl dn)))))) (dS (dS (dR (dc rfl (dc rfl (dc rfl (dc rfl (dc (by kernel_rfl) (dc (by kernel_rfl) (dc (by kernel_rfl) (dc (by kernel_rfl) dn))))))))) (dI rfl rfl (dS (dR (dc rfl (dc rfl (dc rfl (dc rfl dn))))) dT) dK)) (dR (dc rfl (dc rfl dn)))))))))))) (dR (dc rfl (dc rfl dn))))))))) (dS (dS (dR (dc rfl (dc rfl (dc (by kernel_rfl) (dc (by kernel_rfl) (dc (by kernel_rfl) (dc (by kernel_rfl) dn))))))) (dI rfl rfl (dS (dR (dc rfl (dc rfl (dc rfl dn)))) dT) dK)) (dS (dR (dc rfl (dc rfl (dc rfl dn)))) dT)))))))))))))))
def u56 : Fu := fn K2.z [pAA, pAB, pAC, pAD, pAE, pAF, pAG, pAH, pBA, pBB, pBC, pBD] (cSeq (cReg ((o1 vMov (gK .nili) pBC) <|
 oEnd)) (cSeq (cSeq (cReg ((o1 vMov gAE pBD) <|
 oEnd)) (cBlock 1 (cSeq (cReg ((o1 (vMkif 105) (gK (.int .i64 2)) pBF) <|
((oSlow K2.gt ⟨some 14, none, (.h .bad),false,[]⟩ pBG) <|
((o1 vMov gBG pBE) <|
 oEnd)))) (cIf gBE (cSeq (cReg ((o1 vMov gAA pBH) <|
((o1 vMov gAB pCA) <|
((oCall 64 [gBH, gCA] pCB) <|
((o1 (vMkif 109) gCB pCC) <|
((o1 vMov gCC pBC) <|
 oEnd)))))) (cExit 0)) (cSeq (cReg ((o1 (vMkif 105) (gK (.int .i64 1)) pCE) <|
((oSlow K2.gt ⟨some 21, none, (.h .bad),false,[]⟩ pCF) <|
((o1 vMov gCF pCD) <|
 oEnd)))) (cIf gCD (cSeq (cReg ((o1 vMov gAA pCG) <|
((o1 vMov gAB pCH) <|
((oCall 65 [gCG, gCH] pDA) <|
((o1 (vMkif 109) gDA pDB) <|
((o1 vMov gDB pBC) <|
 oEnd)))))) (cExit 0)) (cSeq (cReg ((o1 (vMkif 105) (gK (.int .i64 3)) pDD) <|
((oSlow K2.gt ⟨some 28, none, (.h .bad),false,[]⟩ pDE) <|
((o1 vMov gDE pDC) <|
 oEnd)))) (cIf gDC (cSeq (cReg ((o1 vMov gAA pDF) <|
((o1 vMov gAB pDG) <|
((o1 vMov gAC pDH) <|
((oCall 66 [gDF, gDG, gDH] pEA) <|
((o1 (vMkif 109) gEA pEB) <|
((o1 vMov gEB pBC) <|
 oEnd))))))) (cExit 0)) (cSeq (cReg ((o1 (vMkif 105) (gK (.int .i64 4)) pED) <|
((oSlow K2.gt ⟨some 36, none, (.h .bad),false,[]⟩ pEE) <|
((o1 vMov gEE pEC) <|
 oEnd)))) (cIf gEC (cSeq (cReg ((o1 vMov gAA pEF) <|
((o1 vMov gAB pEG) <|
((o1 vMov gAD pEH) <|
((oCall 67 [gEF, gEG, gEH] pFA) <|
((o1 (vMkif 109) gFA pFB) <|
((o1 vMov gFB pBC) <|
 oEnd))))))) (cExit 0)) cSkip)))))))))) (cSeq (cReg ((o1 vMov gAE pFC) <|
((o1 vMov gFC pBC) <|
 oEnd))) (cExit 0)))) [(rT gBC)]
theorem u56_ok : denA k56 = u56 := dA2 rfl rfl (dF rfl rfl rfl (dS (dR (dc rfl dn)) (dS (dS (dR (dc rfl dn)) (dB (dS (dR (dc rfl (dc (by kernel_rfl) (dc rfl dn)))) (dI rfl rfl (dS (dR (dc rfl (dc rfl (dc rfl (dc rfl (dc rfl dn)))))) dT) (dS (dR (dc rfl (dc (by kernel_rfl) (dc rfl dn)))) (dI rfl rfl (dS (dR (dc rfl (dc rfl (dc rfl (dc rfl (dc rfl dn)))))) dT) (dS (dR (dc rfl (dc (by kernel_rfl) (dc rfl dn)))) (dI rfl rfl (dS (dR (dc rfl (dc rfl (dc rfl (dc rfl (dc rfl (dc rfl dn))))))) dT) (dS (dR (dc rfl (dc (by kernel_rfl) (dc rfl dn)))) (dI rfl rfl (dS (dR (dc rfl (dc rfl (dc rfl (dc rfl (dc rfl (dc rfl dn))))))) dT) dK)))))))))) (dS (dR (dc rfl (dc rfl dn))) dT))))
def u57 : Fu := fn K3.z [(pA pAA), (pA pAB), (pA pAC), (pA pAD), (pA pAE), (pA pAF), (pA pAG), (pA pAH), (pA pBA), (pA pBB), (pA pBC), (pA pBD)] (cSeq (cReg ((o1 vMov (gK (.int .i64 0)) (pA pAC)) <|
((o1 vMov (gK .nili) (pA pAD)) <|
 oEnd))) (cSeq (cReg ((o1 vMov (gA gAA) (pA pBD)) <|
((o1 vLenS (gA gBD) (pA pBE)) <|
((o1 vMov (gA gBE) (pA pAE)) <|
 oEnd)))) (cSeq (cSeq (cReg ((o1 vMov (gK (.bool false)) (pA pBF)) <|
((oGuard (gA gBF) true (pA pBG) (o1 vMov (gA gAE) (pA pBG))) <|
((oGuard (gA gBF) true (pA pBH) (o2 vLss (gK (.int .i64 0)) (gA gBG) (pA pBH))) <|
((oGuard (gA gBF) true (pA pCA) (o1 vMov (gA gBH) (pA pCA))) <|
((oGuard (gA gCA) true (pA pCB) (o1 vMov (gA gAE) (pA pCB))) <|
((oGuard (gA gCA) true (pA pCC) (o2 vLss (gA gCB) (gK (.int .i64 10)) (pA pCC))) <|
((oGuard (gA gBF) true (pA pCD) (oSlow K3.gt ⟨some 19,(some (13, true)),.p (.pick (.t 16) (.t 18) (.c (.bool false))),false,[]⟩ (pA pCD))) <|
((oSlow K3.gt ⟨some 20,none,.p (.pick (.t 13) (.t 19) (.c (.bool false))),false,[]⟩ (pA pCE)) <|
((o1 vMov (gA gCE) (pA pCF)) <|
((oGuard (gA gCF) false (pA pCG) (o1 vMov (gK (.bool true)) (pA pCG))) <|
((oGuard (gA gCG) true (pA pCH) (o1 vMov (gA gAE) (pA pCH))) <|
((oGuard (gA gCG) true (pA pDA) (o2 vLss (gK (.int .i64 0)) (gA gCH) (pA pDA))) <|
((oGuard (gA gCG) true (pA pDB) (o1 vMov (gA gDA) (pA pDB))) <|
((oGuard (gA gDB) true (pA pDC) (o1 vMov (gA gAE) (pA pDC))) <|
((oGuard (gA gDB) true (pA pDD) (o2 vLss (gA gDC) (gK (.int .i64 19)) (pA pDD))) <|
((oGuard (gA gCG) true (pA pDE) (oSlow K3.gt ⟨some 28,(some (22, true)),.p (.pick (.t 25) (.t 27) (.c (.bool false))),false,[]⟩ (pA pDE))) <|
((oGuard (gA gCF) false (pA pDF) (oSlow K3.gt ⟨some 29,(some (21, false)),.p (.pick (.t 22) (.t 28) (.c (.bool false))),false,[]⟩ (pA pDF))) <|
((oSlow K3.gt ⟨some 30,none,.p (.pick (.t 21) (.c (.bool true)) (.t 29)),false,[]⟩ (pA pDG)) <|
 oEnd))))))))))))))))))) (cIf (gA gDG) (cSeq (cReg ((o1 vMov (gA gAA) (pA pDH)) <|
((o1 vMov (gA gDH) (pA pAF)) <|
 oEnd))) (cSeq (cSeq (cReg ((o1 vMov (gA gAA) (pA pEA)) <|
((o2 vIdxS (gA gEA) (gK (.int .i64 0)) (pA pEB)) <|
((o2 vEql (gA gEB) (gK (.int .u8 45)) (pA pEC)) <|
((o1 vMov (gA gEC) (pA pED)) <|
((oGuard (gA gED) false (pA pEE) (o1 vMov (gA gAA) (pA pEE))) <|
((oGuard (gA gED) false (pA pEF) (o2 vIdxS (gA gEE) (gK (.int .i64 0)) (pA pEF))) <|
((oGuard (gA gED) false (pA pEG) (o2 vEql (gA gEF) (gK (.int .u8 43)) (pA pEG))) <|
((oSlow K3.gt ⟨some 39,none,.p (.pick (.t 35) (.c (.bool true)) (.t 38)),false,[]⟩ (pA pEH)) <|
 oEnd))))))))) (cIf (gA gEH) (cSeq (cReg ((o1 vMov (gA gAA) (pA pFA)) <|
((oSlow K3.gt ⟨some 41,none,.p (.slT (.t 40) (some (.c (.int .i64 1))) none),false,[]⟩ (pA pFB)) <|
((o1 vMov (gA gFB) (pA pAA)) <|
 oEnd)))) (cSeq (cReg ((o1 vMov (gA gAA) (pA pFC)) <|
((o1 vLenS (gA gFC) (pA pFD)) <|
((o2 vLss (gA gFD) (gK (.int .i64 1)) (pA pFE)) <|
 oEnd)))) (cIf (gA gFE) (cSeq (cReg ((o1 (vMkif 105) (gK (.int .i64 2)) (pA pFF)) <|
((o1 vMov (gK (.int .i64 0)) (pA pAC)) <|
((o1 vMov (gA gFF) (pA pAD)) <|
 oEnd)))) (cExit 0)) cSkip))) cSkip)) (cSeq (cReg ((o1 vMov (gK (.int .i64 0)) (pA pAG)) <|
 oEnd)) (cSeq (cSeq (cReg ((o1 vMov (gA gAA) (pA pFG)) <|
((oSlow K3.gt ⟨some 47,none,.h (.s2b (.t 46)),false,[]⟩ (pA pFH)) <|
((o1 vLen (gA gFH) (pA pGA)) <|
((o1 vMov (gK (.int .i64 0)) (pA pGB)) <|
 oEnd))))) (cBlock 1 (cLoop (cSeq (cReg ((o2 vLss (gA gGB) (gA gGA) (pA pGC)) <|
 oEnd)) (cSeq (cIf (gA gGC) cSkip (cExit 1)) (cSeq (cBlock 2 (cSeq (cReg ((o2 (vIadS 1) (gA gFH) (gA gGB) (pA pGD)) <|
((m1 wLoad1 (gA gGD) (pA pGE)) <|
((o1 vMov (gA gGE) (pA pBA)) <|
 oEnd)))) (cSeq (cReg ((o1 vMov (gA gBA) (pA pGF)) <|
((o2 vSub (gA gGF) (gK (.int .u8 48)) (pA pGG)) <|
((o1 vMov (gA gGG) (pA pBA)) <|
 oEnd)))) (cSeq (cSeq (cReg ((o1 vMov (gA gBA) (pA pGH)) <|
((o2 vGtr (gA gGH) (gK (.int .u8 9)) (pA pHA)) <|
 oEnd))) (cIf (gA gHA) (cSeq (cReg ((o1 (vMkif 105) (gK (.int .i64 2)) (pA pHB)) <|
((o1 vMov (gK (.int .i64 0)) (pA pAC)) <|
((o1 vMov (gA gHB) (pA pAD)) <|
 oEnd)))) (cExit 0)) cSkip)) (cReg ((o1 vMov (gA gAG) (pA pHC)) <|
((o2 (vBin .mul) (gA gHC) (gK (.int .i64 10)) (pA pHD)) <|
((o1 vMov (gA gBA) (pA pHE)) <|
((o1 (vCvi .i64) (gA gHE) (pA pHF)) <|
((o2 vAdd (gA gHD) (gA gHF) (pA pHG)) <|
((o1 vMov (gA gHG) (pA pAG)) <|
 oEnd))))))))))) (cReg ((o2 vAdd (gA gGB) (gK (.int .i64 1)) (pA pHH)) <|
((o1 vMov (gA gHH) (pA pGB)) <|
 oEnd))))))))) (cSeq (cSeq (cReg ((o1 vMov (gA gAF) (pB pAA)) <|
((o2 vIdxS (gB gAA) (gK (.int .i64 0)) (pB pAB)) <|
((o2 vEql (gB gAB) (gK (.int .u8 45)) (pB pAC)) <|
 oEnd)))) (cIf (gB gAC) (cReg ((o1 vMov (gA gAG) (pB pAD)) <|
((oSlow K3.gt ⟨some 68,none,.p (.neg (.t 67)),false,[]⟩ (pB pAE)) <|
((o1 vMov (gB gAE) (pA pAG)) <|
 oEnd)))) cSkip)) (cSeq (cReg ((o1 vMov (gA gAG) (pB pAF)) <|
((o1 vMov (gB gAF) (pA pAC)) <|
((o1 vMov (gK .nili) (pA pAD)) <|
 oEnd)))) (cExit 0))))))) cSkip)) (cSeq (cReg ((o1 vMov (gA gAA) (pB pAH)) <|
((oCall 68 [(gB gAH), (gK (.int .i64 10)), (gK (.int .i64 0))] (pB pBA)) <|
((o1 vMov (gB gBA) (pB pAG)) <|
((o1 (vExt 0) (gB gAG) (pB pBB)) <|
((o1 (vExt 1) (gB gAG) (pB pBC)) <|
((o1 vMov (gB gBB) (pA pBB)) <|
((o1 vMov (gB gBC) (pA pBC)) <|
 oEnd)))))))) (cSeq (cReg ((o1 vMov (gA gBB) (pB pBD)) <|
((o1 vMov (gA gBC) (pB pBE)) <|
((o1 vMov (gB gBD) (pA pAC)) <|
((o1 vMov (gB gBE) (pA pAD)) <|
 oEnd))))) (cExit 0)))))) [(rT (gA gAC)), (rT (gA gAD))]
theorem u57_ok : denA k57 = u57 := dA3 rfl rfl rfl (dF rfl rfl rfl (dS (dR (dc rfl (dc rfl dn))) (dS (dR (dc rfl (dc rfl (dc rfl dn)))) (dS (dS (dR (dc rfl (dc (by kernel_rfl) (dc (by kernel_rfl) (dc (by kernel_rfl) (dc (by kernel_rfl) (dc (by kernel_rfl) (dc (by kernel_rfl) (dc (by kernel_rfl) (dc rfl (dc (by kernel_rfl) (dc (by kernel_rfl) (dc (by kernel_rfl) (dc (by kernel_rfl) (dc (by kernel_rfl) (dc (by kernel_rfl) (dc (by kernel_rfl) (dc (by kernel_rfl) (dc (by kernel_rfl) dn))))))))))))))))))) (dI rfl rfl (dS (dR (dc rfl (dc rfl dn))) (dS (dS (dR (dc rfl (dc rfl (dc rfl (dc rfl (dc (by kernel_rfl) (dc (by kernel_rfl) (dc (by kernel_rfl) (dc (by kernel_rfl) dn))))))))) (dI rfl rfl (dS (dR (dc rfl (dc (by kernel_rfl) (dc rfl dn)))) (dS (dR (dc rfl (dc rfl (dc rfl dn)))) (dI rfl rfl (dS (dR (dc rfl (dc rfl (dc rfl dn)))) dT) dK))) dK)) (dS (dR (dc rfl dn)) (dS (dS (dR (dc rfl (dc (by kernel_rfl) (dc rfl (dc rfl dn))))) (dB (dL (dS (dR (dc rfl dn)) (dS (dI rfl rfl dK dX) (dS (dB (dS (dR (dc rfl (dc rfl (dc rfl dn)))) (dS (dR (dc rfl (dc rfl (dc rfl dn)))) (dS (dS (dR (dc rfl (dc rfl dn))) (dI rfl rfl (dS (dR (dc rfl (dc rfl (dc rfl dn)))) dT) dK)) (dR (dc rfl (dc rfl (dc rfl (dc rfl (dc rfl (dc rfl dn))))))))))) (dR (dc rfl (dc rfl dn))))))))) (dS (dS (dR (dc rfl (dc rfl (dc rfl dn)))) (dI rfl rfl (dR (dc rfl (dc (by kernel_rfl) (dc rfl dn)))) dK)) (dS (dR (dc rfl (dc rfl (dc rfl dn)))) dT)))))) dK)) (dS (dR (dc rfl (dc rfl (dc rfl (dc rfl (dc rfl (dc rfl (dc rfl dn)))))))) (dS (dR (dc rfl (dc rfl (dc rfl (dc rfl dn))))) dT))))))
def u58 : Fu := fn K1.z [(pA p0), (pB p0), (pC p0), (pD p0), (pE p0)] (cSeq (cReg ((o1 vMov (gK (.str [])) (pC p0)) <|
 oEnd)) (cSeq (cReg ((o1 vMov (gA g0) (pD p0)) <|
((oCall 69 [(gD g0), (gK (.int .i64 10))] (pE p0)) <|
((o1 vMov (gE g0) (pC p0)) <|
 oEnd)))) (cExit 0))) [(rT (gC g0))]
theorem u58_ok : denA k58 = u58 := dA1 rfl (dF rfl rfl rfl (dS (dR (dc rfl dn)) (dS (dR (dc rfl (dc rfl (dc rfl dn)))) dT)))
def u59 : Fu := fn K2.z [pAA, pAB, pAC, pAD, pAE, pAF, pAG, pAH, pBA, pBB, pBC, pBD] (cSeq (cReg ((o1 vMov (gK .nils) pAE) <|
 oEnd)) (cSeq (cReg ((o1 vMov gAA pBC) <|
((oCall 70 [gBC] pBD) <|
((o1 vMov gBD pAF) <|
 oEnd)))) (cSeq (cSeq (cReg ((o1 vMov gAB pBE) <|
((o2 vLss gBE (gK (.int .i64 0)) pBF) <|
((o1 vMov gBF pBG) <|
((oGuard gBG false pBH (o1 vMov gAB pBH)) <|
((oGuard gBG false pCA (o1 vMov gAF pCA)) <|
((oGuard gBG false pCB (o2 vGtr gBH gCA pCB)) <|
((oSlow K2.gt ⟨some 18,none,.p (.pick (.t 14) (.c (.bool true)) (.t 17)),false,[]⟩ pCC) <|
 oEnd)))))))) (cIf gCC (cReg ((o1 vMov gAF pCD) <|
((o1 vMov gCD pAB) <|
 oEnd))) cSkip)) (cSeq (cReg ((o1 vMov gAB pCE) <|
((oSlow K2.gt ⟨some 21,none,.h (.mksl 1 16 [(.str [])] (.t 20) (.t 20)),false,[]⟩ pCF) <|
((o1 vMov gCF pAG) <|
 oEnd)))) (cSeq (cSeq (cReg ((o1 vMov (gK (.int .i64 0)) pAH) <|
 oEnd)) (cBlock 1 (cLoop (cSeq (cSeq (cReg ((o1 vMov gAH pCG) <|
((o1 vMov gAB pCH) <|
((o2 vSub gCH (gK (.int .i64 1)) pDA) <|
((o2 vLss gCG gDA pDB) <|
 oEnd))))) (cIf gDB cSkip (cExit 1))) (cSeq (cBlock 2 (cSeq (cReg ((o1 vMov gAA pDF) <|
((oCall 71 [gDF] pDG) <|
((o1 vMov gDG pDE) <|
((o1 (vExt 0) gDE pDH) <|
((o1 (vExt 1) gDE pEA) <|
((o1 vMov gDH pBA) <|
((o1 vMov gEA pBB) <|
 oEnd)))))))) (cSeq (cReg ((o1 vMov gAG pEB) <|
((o1 vMov gAH pEC) <|
((o1 vMov gAA pED) <|
((o1 vMov gBB pEE) <|
((oSlow K2.gt ⟨some 37,none,.p (.slT (.t 35) none (some (.t 36))),false,[]⟩ pEF) <|
((o2 (vIadS 1) gEB gEC pEG) <|
((oStore 1 gEG gEF) <|
 oEnd)))))))) (cReg ((o1 vMov gAA pEH) <|
((o1 vMov gBB pFA) <|
((oSlow K2.gt ⟨some 41,none,.p (.slT (.t 39) (some (.t 40)) none),false,[]⟩ pFB) <|
((o1 vMov gFB pAA) <|
 oEnd)))))))) (cReg ((o1 vMov gAH pDC) <|
((o2 vAdd gDC (gK (.int .i64 1)) pDD) <|
((o1 vMov gDD pAH) <|
 oEnd))))))))) (cSeq (cSeq (cReg ((o1 vMov gAB pFC) <|
((o2 vGtr gFC (gK (.int .i64 0)) pFD) <|
 oEnd))) (cIf gFD (cReg ((o1 vMov gAG pFE) <|
((o1 vMov gAB pFF) <|
((o2 vSub gFF (gK (.int .i64 1)) pFG) <|
((o1 vMov gAA pFH) <|
((o2 (vIadS 1) gFE gFG pGA) <|
((oStore 1 gGA gFH) <|
 oEnd))))))) cSkip)) (cSeq (cReg ((o1 vMov gAG pGB) <|
((o1 vMov gGB pAE) <|
 oEnd))) (cExit 0)))))))) [(rT gAE)]
theorem u59_ok : denA k59 = u59 := dA2 rfl rfl (dF rfl rfl rfl (dS (dR (dc rfl dn)) (dS (dR (dc rfl (dc rfl (dc rfl dn)))) (dS (dS (dR (dc rfl (dc rfl (dc rfl (dc (by kernel_rfl) (dc (by kernel_rfl) (dc (by kernel_rfl) (dc (by kernel_rfl) dn)))))))) (dI rfl rfl (dR (dc rfl (dc rfl dn))) dK)) (dS (dR (dc rfl (dc (by kernel_rfl) (dc rfl dn)))) (dS (dS (dR (dc rfl dn)) (dB (dL (dS (dS (dR (dc rfl (dc rfl (dc rfl (dc rfl dn))))) (dI rfl rfl dK dX)) (dS (dB (dS (dR (dc rfl (dc rfl (dc rfl (dc rfl (dc rfl (dc rfl (dc rfl dn)))))))) (dS (dR (dc rfl (dc rfl (dc rfl (dc rfl (dc (by kernel_rfl) (dc rfl (dc rfl dn)))))))) (dR (dc rfl (dc rfl (dc (by kernel_rfl) (dc rfl dn)))))))) (dR (dc rfl (dc rfl (dc rfl dn))))))))) (dS (dS (dR (dc rfl (dc rfl dn))) (dI rfl rfl (dR (dc rfl (dc rfl (dc rfl (dc rfl (dc rfl (dc rfl dn))))))) dK)) (dS (dR (dc rfl (dc rfl dn))) dT))))))))
def u60 : Fu := fn K2.z [pAA, pAB, pAC, pAD, pAE, pAF, pAG, pAH, pBA, pBB, pBC, pBD] (cSeq (cReg ((o1 vMov (gK (.int .i64 0)) pAE) <|
 oEnd)) (cSeq (cSeq (cReg ((o1 vMov gAB pAH) <|
((o1 vLenS gAH pBA) <|
((o2 vEql gBA (gK (.int .i64 0)) pBB) <|
 oEnd)))) (cIf gBB (cSeq (cReg ((o1 vMov gAA pBC) <|
((oCall 70 [gBC] pBD) <|
((o2 vAdd gBD (gK (.int .i64 1)) pBE) <|
((o1 vMov gBE pAE) <|
 oEnd))))) (cExit 0)) cSkip)) (cSeq (cSeq (cReg ((o1 vMov gAB pBF) <|
((o1 vLenS gBF pBG) <|
((o2 vEql gBG (gK (.int .i64 1)) pBH) <|
 oEnd)))) (cIf gBH (cSeq (cReg ((o1 vMov gAA pCA) <|
((o1 vMov gAB pCB) <|
((o2 vIdxS gCB (gK (.int .i64 0)) pCC) <|
((oSlow K2.gt ⟨some 19,none,.h (.xrow 1 [(.t 16), (.t 18)]),false,[]⟩ pCD) <|
((o1 vMov gCD pAE) <|
 oEnd)))))) (cExit 0)) cSkip)) (cSeq (cReg ((o1 vMov (gK (.int .i64 0)) pAF) <|
 oEnd)) (cBlock 1 (cLoop (cBlock 2 (cSeq (cReg ((o1 vMov gAA pCE) <|
((o1 vMov gAB pCF) <|
((oCall 61 [gCE, gCF] pCG) <|
((o1 vMov gCG pAG) <|
 oEnd))))) (cSeq (cSeq (cReg ((o1 vMov gAG pCH) <|
((o2 vEql gCH (gK (.int .i64 (-1))) pDA) <|
 oEnd))) (cIf gDA (cSeq (cReg ((o1 vMov gAF pDB) <|
((o1 vMov gDB pAE) <|
 oEnd))) (cExit 0)) cSkip)) (cSeq (cReg ((o1 vMov gAF pDC) <|
((o2 vAdd gDC (gK (.int .i64 1)) pDD) <|
((o1 vMov gDD pAF) <|
 oEnd)))) (cReg ((o1 vMov gAA pDE) <|
((o1 vMov gAG pDF) <|
((o1 vMov gAB pDG) <|
((o1 vLenS gDG pDH) <|
((o2 vAdd gDF gDH pEA) <|
((oSlow K2.gt ⟨some 33,none,.p (.slT (.t 28) (some (.t 32)) none),false,[]⟩ pEB) <|
((o1 vMov gEB pAA) <|
 oEnd)))))))))))))))))) [(rT gAE)]
theorem u60_ok : denA k60 = u60 := dA2 rfl rfl (dF rfl rfl rfl (dS (dR (dc rfl dn)) (dS (dS (dR (dc rfl (dc rfl (dc rfl dn)))) (dI rfl rfl (dS (dR (dc rfl (dc rfl (dc rfl (dc rfl dn))))) dT) dK)) (dS (dS (dR (dc rfl (dc rfl (dc rfl dn)))) (dI rfl rfl (dS (dR (dc rfl (dc rfl (dc rfl (dc (by kernel_rfl) (dc rfl dn)))))) dT) dK)) (dS (dR (dc rfl dn)) (dB (dL (dB (dS (dR (dc rfl (dc rfl (dc rfl (dc rfl dn))))) (dS (dS (dR (dc rfl (dc rfl dn))) (dI rfl rfl (dS (dR (dc rfl (dc rfl dn))) dT) dK)) (dS (dR (dc rfl (dc rfl (dc rfl dn)))) (dR (dc rfl (dc rfl (dc rfl (dc rfl (dc rfl (dc (by kernel_rfl) (dc rfl dn)))))))))))))))))))
def u61 : Fu := fn K1.z [(pA p0), (pB p0), (pC p0), (pD p0), (pE p0), (pF p0), (pG p0), (pH p0)] (cSeq (cReg ((o1 vMov (gK (.int .i64 0)) (pE p0)) <|
 oEnd)) (cSeq (cReg ((o1 vMov (gA g0) (pF p0)) <|
((o1 vMov (gB g0) (pG p0)) <|
((oCall 73 [(gF g0), (gG g0)] (pH p0)) <|
((o1 vMov (gH g0) (pE p0)) <|
 oEnd))))) (cExit 0))) [(rT (gE g0))]
theorem u61_ok : denA k61 = u61 := dA1 rfl (dF rfl rfl rfl (dS (dR (dc rfl dn)) (dS (dR (dc rfl (dc rfl (dc rfl (dc rfl dn))))) dT)))
def u62 : Fu := fn K1.z [(pA p0), (pB p0), (pC p0), (pD p0), (pE p0)] (cSeq (cReg ((o1 vMov (gK (.int .u8 0)) (pC p0)) <|
 oEnd)) (cSeq (cReg ((o1 vMov (gA g0) (pD p0)) <|
((o2 (vBin .or) (gD g0) (gK (.int .u8 32)) (pE p0)) <|
((o1 vMov (gE g0) (pC p0)) <|
 oEnd)))) (cExit 0))) [(rT (gC g0))]
theorem u62_ok : denA k62 = u62 := dA1 rfl (dF rfl rfl rfl (dS (dR (dc rfl dn)) (dS (dR (dc rfl (dc rfl (dc rfl dn)))) dT)))
def u63 : Fu := fn K3.z [(pA pAA), (pA pAB), (pA pAC), (pA pAD), (pA pAE), (pA pAF), (pA pAG), (pA pAH), (pA pBA), (pA pBB), (pA pBC), (pA pBD)] (cSeq (cReg ((o1 vMov (gK (.bool false)) (pA pAC)) <|
 oEnd)) (cSeq (cReg ((o1 vMov (gK (.int .i32 94)) (pA pAD)) <|
 oEnd)) (cSeq (cReg ((o1 vMov (gK (.int .i64 0)) (pA pAE)) <|
 oEnd)) (cSeq (cSeq (cReg ((o1 vMov (gA gAA) (pA pAG)) <|
((o1 vLenS (gA gAG) (pA pAH)) <|
((o2 vGeq (gA gAH) (gK (.int .i64 1)) (pA pBA)) <|
((o1 vMov (gA gBA) (pA pBB)) <|
((oGuard (gA gBB) true (pA pBC) (o1 vMov (gA gAA) (pA pBC))) <|
((oGuard (gA gBB) true (pA pBD) (o2 vIdxS (gA gBC) (gK (.int .i64 0)) (pA pBD))) <|
((oGuard (gA gBB) true (pA pBE) (o2 vEql (gA gBD) (gK (.int .u8 45)) (pA pBE))) <|
((oGuard (gA gBB) true (pA pBF) (o1 vMov (gA gBE) (pA pBF))) <|
((oGuard (gA gBF) false (pA pBG) (o1 vMov (gA gAA) (pA pBG))) <|
((oGuard (gA gBF) false (pA pBH) (o2 vIdxS (gA gBG) (gK (.int .i64 0)) (pA pBH))) <|
((oGuard (gA gBF) false (pA pCA) (o2 vEql (gA gBH) (gK (.int .u8 43)) (pA pCA))) <|
((oGuard (gA gBB) true (pA pCB) (oSlow K3.gt ⟨some 17,(some (9, true)),.p (.pick (.t 13) (.c (.bool true)) (.t 16)),false,[]⟩ (pA pCB))) <|
((oSlow K3.gt ⟨some 18,none,.p (.pick (.t 9) (.t 17) (.c (.bool false))),false,[]⟩ (pA pCC)) <|
 oEnd)))))))))))))) (cIf (gA gCC) (cReg ((o1 vMov (gA gAA) (pA pCD)) <|
((oSlow K3.gt ⟨some 20,none,.p (.slT (.t 19) (some (.c (.int .i64 1))) none),false,[]⟩ (pA pCE)) <|
((o1 vMov (gA gCE) (pA pAA)) <|
 oEnd)))) cSkip)) (cSeq (cReg ((o1 vMov (gK (.bool false)) (pA pAF)) <|
 oEnd)) (cSeq (cSeq (cReg ((o1 vMov (gA gAA) (pA pCF)) <|
((o1 vLenS (gA gCF) (pA pCG)) <|
((o2 vGeq (gA gCG) (gK (.int .i64 2)) (pA pCH)) <|
((o1 vMov (gA gCH) (pA pDA)) <|
((oGuard (gA gDA) true (pA pDB) (o1 vMov (gA gAA) (pA pDB))) <|
((oGuard (gA gDA) true (pA pDC) (o2 vIdxS (gA gDB) (gK (.int .i64 0)) (pA pDC))) <|
((oGuard (gA gDA) true (pA pDD) (o2 vEql (gA gDC) (gK (.int .u8 48)) (pA pDD))) <|
((oSlow K3.gt ⟨some 28,none,.p (.pick (.t 24) (.t 27) (.c (.bool false))),false,[]⟩ (pA pDE)) <|
((o1 vMov (gA gDE) (pA pDF)) <|
((oGuard (gA gDF) true (pA pDG) (o1 vMov (gA gAA) (pA pDG))) <|
((oGuard (gA gDF) true (pA pDH) (o2 vIdxS (gA gDG) (gK (.int .i64 1)) (pA pDH))) <|
((oGuard (gA gDF) true (pA pEA) (oCall 62 [(gA gDH)] (pA pEA))) <|
((oGuard (gA gDF) true (pA pEB) (o2 vEql (gA gEA) (gK (.int .u8 98)) (pA pEB))) <|
((oGuard (gA gDF) true (pA pEC) (o1 vMov (gA gEB) (pA pEC))) <|
((oGuard (gA gEC) false (pA pED) (o1 vMov (gA gAA) (pA pED))) <|
((oGuard (gA gEC) false (pA pEE) (o2 vIdxS (gA gED) (gK (.int .i64 1)) (pA pEE))) <|
((oGuard (gA gEC) false (pA pEF) (oCall 62 [(gA gEE)] (pA pEF))) <|
((oGuard (gA gEC) false (pA pEG) (o2 vEql (gA gEF) (gK (.int .u8 111)) (pA pEG))) <|
((oGuard (gA gDF) true (pA pEH) (oSlow K3.gt ⟨some 39,(some (29, true)),.p (.pick (.t 34) (.c (.bool true)) (.t 38)),false,[]⟩ (pA pEH))) <|
((oGuard (gA gDF) true (pA pFA) (o1 vMov (gA gEH) (pA pFA))) <|
((oGuard (gA gFA) false (pA pFB) (o1 vMov (gA gAA) (pA pFB))) <|
((oGuard (gA gFA) false (pA pFC) (o2 vIdxS (gA gFB) (gK (.int .i64 1)) (pA pFC))) <|
((oGuard (gA gFA) false (pA pFD) (oCall 62 [(gA gFC)] (pA pFD))) <|
((oGuard (gA gFA) false (pA pFE) (o2 vEql (gA gFD) (gK (.int .u8 120)) (pA pFE))) <|
((oGuard (gA gDF) true (pA pFF) (oSlow K3.gt ⟨some 45,(some (29, true)),.p (.pick (.t 40) (.c (.bool true)) (.t 44)),false,[]⟩ (pA pFF))) <|
((oSlow K3.gt ⟨some 46,none,.p (.pick (.t 29) (.t 45) (.c (.bool false))),false,[]⟩ (pA pFG)) <|
 oEnd))))))))))))))))))))))))))) (cIf (gA gFG) (cSeq (cReg ((o1 vMov (gK (.int .i64 2)) (pA pAE)) <|
 oEnd)) (cSeq (cReg ((o1 vMov (gK (.int .i32 48)) (pA pAD)) <|
 oEnd)) (cReg ((o1 vMov (gA gAA) (pA pFH)) <|
((o2 vIdxS (gA gFH) (gK (.int .i64 1)) (pA pGA)) <|
((oCall 62 [(gA gGA)] (pA pGB)) <|
((o2 vEql (gA gGB) (gK (.int .u8 120)) (pA pGC)) <|
((o1 vMov (gA gGC) (pA pAF)) <|
 oEnd)))))))) cSkip)) (cSeq (cBlock 1 (cLoop (cSeq (cSeq (cReg ((o1 vMov (gA gAE) (pA pGD)) <|
((o1 vMov (gA gAA) (pA pGE)) <|
((o1 vLenS (gA gGE) (pA pGF)) <|
((o2 vLss (gA gGD) (gA gGF) (pA pGG)) <|
 oEnd))))) (cIf (gA gGG) cSkip (cExit 1))) (cSeq (cBlock 2 (cSeq (cSeq (cReg ((o1 vMov (gA gAA) (pA pHB)) <|
((o1 vMov (gA gAE) (pA pHC)) <|
((o2 vIdxS (gA gHB) (gA gHC) (pA pHD)) <|
((o2 vLeq (gK (.int .u8 48)) (gA gHD) (pA pHE)) <|
((o1 vMov (gA gHE) (pA pHF)) <|
((oGuard (gA gHF) true (pA pHG) (o1 vMov (gA gAA) (pA pHG))) <|
((oGuard (gA gHF) true (pA pHH) (o1 vMov (gA gAE) (pA pHH))) <|
((oGuard (gA gHF) true (pB pAA) (o2 vIdxS (gA gHG) (gA gHH) (pB pAA))) <|
((oGuard (gA gHF) true (pB pAB) (o2 vLeq (gB gAA) (gK (.int .u8 57)) (pB pAB))) <|
((oSlow K3.gt ⟨some 66,none,.p (.pick (.t 61) (.t 65) (.c (.bool false))),false,[]⟩ (pB pAC)) <|
((o1 vMov (gB gAC) (pB pAD)) <|
((oGuard (gB gAD) false (pB pAE) (o1 vMov (gA gAF) (pB pAE))) <|
((oGuard (gB gAD) false (pB pAF) (o1 vMov (gB gAE) (pB pAF))) <|
((oGuard (gB gAF) true (pB pAG) (o1 vMov (gA gAA) (pB pAG))) <|
((oGuard (gB gAF) true (pB pAH) (o1 vMov (gA gAE) (pB pAH))) <|
((oGuard (gB gAF) true (pB pBA) (o2 vIdxS (gB gAG) (gB gAH) (pB pBA))) <|
((oGuard (gB gAF) true (pB pBB) (oCall 62 [(gB gBA)] (pB pBB))) <|
((oGuard (gB gAF) true (pB pBC) (o2 vLeq (gK (.int .u8 97)) (gB gBB) (pB pBC))) <|
((oGuard (gB gAD) false (pB pBD) (oSlow K3.gt ⟨some 75,(some (67, false)),.p (.pick (.t 69) (.t 74) (.c (.bool false))),false,[]⟩ (pB pBD))) <|
((oGuard (gB gAD) false (pB pBE) (o1 vMov (gB gBD) (pB pBE))) <|
((oGuard (gB gBE) true (pB pBF) (o1 vMov (gA gAA) (pB pBF))) <|
((oGuard (gB gBE) true (pB pBG) (o1 vMov (gA gAE) (pB pBG))) <|
((oGuard (gB gBE) true (pB pBH) (o2 vIdxS (gB gBF) (gB gBG) (pB pBH))) <|
((oGuard (gB gBE) true (pB pCA) (oCall 62 [(gB gBH)] (pB pCA))) <|
((oGuard (gB gBE) true (pB pCB) (o2 vLeq (gB gCA) (gK (.int .u8 102)) (pB pCB))) <|
((oGuard (gB gAD) false (pB pCC) (oSlow K3.gt ⟨some 82,(some (67, false)),.p (.pick (.t 76) (.t 81) (.c (.bool false))),false,[]⟩ (pB pCC))) <|
((oSlow K3.gt ⟨some 83,none,.p (.pick (.t 67) (.c (.bool true)) (.t 82)),false,[]⟩ (pB pCD)) <|
 oEnd)))))))))))))))))))))))))))) (cIf (gB gCD) (cSeq (cReg ((o1 vMov (gK (.int .i32 48)) (pA pAD)) <|
 oEnd)) (cExit 2)) cSkip)) (cSeq (cSeq (cReg ((o1 vMov (gA gAA) (pB pCE)) <|
((o1 vMov (gA gAE) (pB pCF)) <|
((o2 vIdxS (gB gCE) (gB gCF) (pB pCG)) <|
((o2 vEql (gB gCG) (gK (.int .u8 95)) (pB pCH)) <|
 oEnd))))) (cIf (gB gCH) (cSeq (cSeq (cReg ((o1 vMov (gA gAD) (pB pDA)) <|
((o2 vNeq (gB gDA) (gK (.int .i32 48)) (pB pDB)) <|
 oEnd))) (cIf (gB gDB) (cSeq (cReg ((o1 vMov (gK (.bool false)) (pA pAC)) <|
 oEnd)) (cExit 0)) cSkip)) (cSeq (cReg ((o1 vMov (gK (.int .i32 95)) (pA pAD)) <|
 oEnd)) (cExit 2))) cSkip)) (cSeq (cSeq (cReg ((o1 vMov (gA gAD) (pB pDC)) <|
((o2 vEql (gB gDC) (gK (.int .i32 95)) (pB pDD)) <|
 oEnd))) (cIf (gB gDD) (cSeq (cReg ((o1 vMov (gK (.bool false)) (pA pAC)) <|
 oEnd)) (cExit 0)) cSkip)) (cReg ((o1 vMov (gK (.int .i32 33)) (pA pAD)) <|
 oEnd)))))) (cReg ((o1 vMov (gA gAE) (pA pGH)) <|
((o2 vAdd (gA gGH) (gK (.int .i64 1)) (pA pHA)) <|
((o1 vMov (gA gHA) (pA pAE)) <|
 oEnd)))))))) (cSeq (cReg ((o1 vMov (gA gAD) (pB pDE)) <|
((o2 vNeq (gB gDE) (gK (.int .i32 95)) (pB pDF)) <|
((o1 vMov (gB gDF) (pA pAC)) <|
 oEnd)))) (cExit 0))))))))) [(rT (gA gAC))]
theorem u63_ok : denA k63 = u63 := dA3 rfl rfl rfl (dF rfl rfl rfl (dS (dR (dc rfl dn)) (dS (dR (dc rfl dn)) (dS (dR (dc rfl dn)) (dS (dS (dR (dc rfl (dc rfl (dc rfl (dc rfl (dc (by kernel_rfl) (dc (by kernel_rfl) (dc (by kernel_rfl) (dc (by kernel_rfl) (dc (by kernel_rfl) (dc (by kernel_rfl) (dc (by kernel_rfl) (dc (by kernel_rfl) (dc (by kernel_rfl) dn)))))))))))))) (dI rfl rfl (dR (dc rfl (dc (by kernel_rfl) (dc rfl dn)))) dK)) (dS (dR (dc rfl dn)) (dS (dS (dR (dc rfl (dc rfl (dc rfl (dc rfl (dc (by kernel_rfl) (dc (by kernel_rfl) (dc (by kernel_rfl) (dc (by kernel_rfl) (dc rfl (dc (by kernel_rfl) (dc (by kernel_rfl) (dc (by kernel_rfl) (dc (by kernel_rfl) (dc (by kernel_rfl) (dc (by kernel_rfl) (dc (by kernel_rfl) (dc (by kernel_rfl) (dc (by kernel_rfl) (dc (by kernel_rfl) (dc (by kernel_rfl) (dc (by kernel_rfl) (dc (by kernel_rfl) (dc (by kernel_rfl) (dc (by kernel_rfl) (dc (by kernel_rfl) (dc (by kernel_rfl) dn))))))))))))))))))))))))))) (dI rfl rfl (dS (dR (dc rfl dn)) (dS (dR (dc rfl dn)) (dR (dc rfl (dc rfl (dc rfl (dc rfl (dc rfl dn)))))))) dK)) (dS (dB (dL (dS (dS (dR (dc rfl (dc rfl (dc rfl (dc rfl dn))))) (dI rfl rfl dK dX)) (dS (dB (dS (dS (dR (dc rfl (dc rfl (dc rfl (dc rfl (dc rfl (dc (by kernel_rfl) (dc (by kernel_rfl) (dc (by kernel_rfl) (dc (by kernel_rfl) (dc (by kernel_rfl) (dc rfl (dc (by kernel_rfl) (dc (by kernel_rfl) (dc (by kernel_rfl) (dc (by kernel_rfl) (dc (by kernel_rfl) (dc (by kernel_rfl) (dc (by kernel_rfl) (dc (by kernel_rfl) (dc (by kernel_rfl) (dc (by kernel_rfl) (dc (by kernel_rfl) (dc (by kernel_rfl) (dc (by kernel_rfl) (dc (by kernel_rfl) (dc (by kernel_rfl) (dc (by kernel_rfl) dn)))))))))))))))))))))))))))) (dI rfl rfl (dS (dR (dc rfl dn)) dX) dK)) (dS (dS (dR (dc rfl (dc rfl (dc rfl (dc rfl dn))))) (dI rfl rfl (dS (dS (dR (dc rfl (dc rfl dn))) (dI rfl rfl (dS (dR (dc rfl dn)) dT) dK)) (dS (dR (dc rfl dn)) dX)) dK)) (dS (dS (dR (dc rfl (dc rfl dn))) (dI rfl rfl (dS (dR (dc rfl dn)) dT) dK)) (dR (dc rfl dn)))))) (dR (dc rfl (dc rfl (dc rfl dn)))))))) (dS (dR (dc rfl (dc rfl (dc rfl dn)))) dT)))))))))
def u64 : Fu := fn K2.z [pAA, pAB, pAC, pAD, pAE, pAF, pAG, pAH, pBA, pBB, pBC] (cSeq (cReg ((o1 vMov (gK .nilp) pAE) <|
 oEnd)) (cSeq (cReg ((o1 vMov gAA pAF) <|
((o1 vMov gAB pAG) <|
((oCallQ 74 [gAG] pAH) <|
((m1 wLoad1 (gK (.ptr 1 0)) pBA) <|
((oSlow K2.gt ⟨some 9,none,.p (.build [(.str []), (.str []), .nili] [(0, 1, (.t 5)), (1, 1, (.t 7)), (2, 1, (.t 8))]),false,[]⟩ pBB) <|
((m1 wBox gBB pBC) <|
((o1 vMov gBC pAE) <|
 oEnd)))))))) (cExit 0))) [(rT gAE)]
theorem u64_ok : denA k64 = u64 := dA2 rfl rfl (dF rfl rfl rfl (dS (dR (dc rfl dn)) (dS (dR (dc rfl (dc rfl (dc rfl (dc rfl (dc (by kernel_rfl) (dc rfl (dc rfl dn)))))))) dT)))
def u65 : Fu := fn K2.z [pAA, pAB, pAC, pAD, pAE, pAF, pAG, pAH, pBA, pBB, pBC] (cSeq (cReg ((o1 vMov (gK .nilp) pAE) <|
 oEnd)) (cSeq (cReg ((o1 vMov gAA pAF) <|
((o1 vMov gAB pAG) <|
((oCallQ 74 [gAG] pAH) <|
((m1 wLoad1 (gK (.ptr 2 0)) pBA) <|
((oSlow K2.gt ⟨some 9,none,.p (.build [(.str []), (.str []), .nili] [(0, 1, (.t 5)), (1, 1, (.t 7)), (2, 1, (.t 8))]),false,[]⟩ pBB) <|
((m1 wBox gBB pBC) <|
((o1 vMov gBC pAE) <|
 oEnd)))))))) (cExit 0))) [(rT gAE)]
theorem u65_ok : denA k65 = u65 := dA2 rfl rfl (dF rfl rfl rfl (dS (dR (dc rfl dn)) (dS (dR (dc rfl (dc rfl (dc rfl (dc rfl (dc (by kernel_rfl) (dc rfl (dc rfl dn)))))))) dT)))
def u66 : Fu := fn K2.z [pAA, pAB, pAC, pAD, pAE, pAF, pAG, pAH, pBA, pBB, pBC, pBD] (cSeq (cReg ((o1 vMov (gK .nilp) pAG) <|
 oEnd)) (cSeq (cReg ((o1 vMov gAA pAH) <|
((o1 vMov gAB pBA) <|
((oCall 74 [gBA] pBB) <|
((o1 vMov gAC pBC) <|
((oCall 51 [gBC] pBD) <|
((o2 vAdd (gK (.str [105, 110, 118, 97, 108, 105, 100, 32, 98, 97, 115, 101, 32])) gBD pBE) <|
((oCall 75 [gBE] pBF) <|
((oSlow K2.gt ⟨some 14,none,.p (.build [(.str []), (.str []), .nili] [(0, 1, (.t 7)), (1, 1, (.t 9)), (2, 1, (.t 13))]),false,[]⟩ pBG) <|
((m1 wBox gBG pBH) <|
((o1 vMov gBH pAG) <|
 oEnd))))))))))) (cExit 0))) [(rT gAG)]
theorem u66_ok : denA k66 = u66 := dA2 rfl rfl (dF rfl rfl rfl (dS (dR (dc rfl dn)) (dS (dR (dc rfl (dc rfl (dc rfl (dc rfl (dc rfl (dc rfl (dc rfl (dc (by kernel_rfl) (dc rfl (dc rfl dn))))))))))) dT)))
def u67 : Fu := fn K2.z [pAA, pAB, pAC, pAD, pAE, pAF, pAG, pAH, pBA, pBB, pBC, pBD] (cSeq (cReg ((o1 vMov (gK .nilp) pAG) <|
 oEnd)) (cSeq (cReg ((o1 vMov gAA pAH) <|
((o1 vMov gAB pBA) <|
((oCall 74 [gBA] pBB) <|
((o1 vMov gAC pBC) <|
((oCall 51 [gBC] pBD) <|
((o2 vAdd (gK (.str [105, 110, 118, 97, 108, 105, 100, 32, 98, 105, 116, 32, 115, 105, 122, 101, 32])) gBD pBE) <|
((oCall 75 [gBE] pBF) <|
((oSlow K2.gt ⟨some 14,none,.p (.build [(.str []), (.str []), .nili] [(0, 1, (.t 7)), (1, 1, (.t 9)), (2, 1, (.t 13))]),false,[]⟩ pBG) <|
((m1 wBox gBG pBH) <|
((o1 vMov gBH pAG) <|
 oEnd))))))))))) (cExit 0))) [(rT gAG)]
theorem u67_ok : denA k67 = u67 := dA2 rfl rfl (dF rfl rfl rfl (dS (dR (dc rfl dn)) (dS (dR (dc rfl (dc rfl (dc rfl (dc rfl (dc rfl (dc rfl (dc rfl (dc (by kernel_rfl) (dc rfl (dc rfl dn))))))))))) dT)))
def u68 : Fu := fn K3.z [(pA pAA), (pA pAB), (pA pAC), (pA pAD), (pA pAE), (pA pAF), (pA pAG), (pA pAH), (pA pBA), (pA pBB), (pA pBC), (pA pBD)] (cSeq (cReg ((o1 vMov (gK (.int .i64 0)) (pA pAG)) <|
((o1 vMov (gK .nili) (pA pAH)) <|
 oEnd))) (cSeq (cSeq (cReg ((o1 vMov (gA gAA) (pA pBE)) <|
((o2 vEql (gA gBE) (gK (.str [])) (pA pBF)) <|
 oEnd))) (cIf (gA gBF) (cSeq (cReg ((o1 (vMkif 105) (gK (.int .i64 2)) (pA pBG)) <|
((o1 vMov (gK (.int .i64 0)) (pA pAG)) <|
((o1 vMov (gA gBG) (pA pAH)) <|
 oEnd)))) (cExit 0)) cSkip)) (cSeq (cReg ((o1 vMov (gK (.bool false)) (pA pBA)) <|
 oEnd)) (cSeq (cSeq (cReg ((o1 vMov (gA gAA) (pA pBH)) <|
((o2 vIdxS (gA gBH) (gK (.int .i64 0)) (pA pCA)) <|
 oEnd))) (cBlock 1 (cSeq (cReg ((o2 vEql (gA gCA) (gK (.int .u8 43)) (pA pCC)) <|
((o1 vMov (gA gCC) (pA pCB)) <|
 oEnd))) (cIf (gA gCB) (cReg ((o1 vMov (gA gAA) (pA pCD)) <|
((oSlow K3.gt ⟨some 20,none,.p (.slT (.t 19) (some (.c (.int .i64 1))) none),false,[]⟩ (pA pCE)) <|
((o1 vMov (gA gCE) (pA pAA)) <|
 oEnd)))) (cSeq (cReg ((o2 vEql (gA gCA) (gK (.int .u8 45)) (pA pCG)) <|
((o1 vMov (gA gCG) (pA pCF)) <|
 oEnd))) (cIf (gA gCF) (cSeq (cReg ((o1 vMov (gA gAA) (pA pCH)) <|
((oSlow K3.gt ⟨some 24,none,.p (.slT (.t 23) (some (.c (.int .i64 1))) none),false,[]⟩ (pA pDA)) <|
((o1 vMov (gA gDA) (pA pAA)) <|
 oEnd)))) (cReg ((o1 vMov (gK (.bool true)) (pA pBA)) <|
 oEnd))) cSkip)))))) (cSeq (cReg ((o1 vMov (gK (.int .u64 0)) (pA pBB)) <|
 oEnd)) (cSeq (cReg ((o1 vMov (gA gAA) (pA pDC)) <|
((o1 vMov (gA gAB) (pA pDD)) <|
((o1 vMov (gA gAC) (pA pDE)) <|
((oCall 55 [(gA gDC), (gA gDD), (gA gDE)] (pA pDF)) <|
((o1 vMov (gA gDF) (pA pDB)) <|
((o1 (vExt 0) (gA gDB) (pA pDG)) <|
((o1 (vExt 1) (gA gDB) (pA pDH)) <|
((o1 vMov (gA gDG) (pA pBB)) <|
((o1 vMov (gA gDH) (pA pAH)) <|
 oEnd)))))))))) (cSeq (cSeq (cReg ((o1 vMov (gA gAH) (pA pEA)) <|
((o2 (vEqn true 0) (gA gEA) (gK .nili) (pA pEB)) <|
((o1 vMov (gA gEB) (pA pEC)) <|
((oGuard (gA gEC) true (pA pED) (o1 vMov (gA gAH) (pA pED))) <|
((oGuard (gA gEC) true (pA pEE) (o1 (vMkif 105) (gK (.int .i64 1)) (pA pEE))) <|
((oGuard (gA gEC) true (pA pEF) (oSlow K3.gt ⟨some 37, (some (34, true)), (.h .bad),false,[]⟩ (pA pEF))) <|
((oSlow K3.gt ⟨some 38,none,.p (.pick (.t 34) (.t 37) (.c (.bool false))),false,[]⟩ (pA pEG)) <|
 oEnd)))))))) (cIf (gA gEG) (cSeq (cReg ((o1 vMov (gA gAH) (pA pEH)) <|
((o1 vMov (gK (.int .i64 0)) (pA pAG)) <|
((o1 vMov (gA gEH) (pA pAH)) <|
 oEnd)))) (cExit 0)) cSkip)) (cSeq (cSeq (cReg ((o1 vMov (gA gAC) (pA pFA)) <|
((o2 vEql (gA gFA) (gK (.int .i64 0)) (pA pFB)) <|
 oEnd))) (cIf (gA gFB) (cReg ((o1 vMov (gK (.int .i64 64)) (pA pAC)) <|
 oEnd)) cSkip)) (cSeq (cReg ((o1 vMov (gA gAC) (pA pFC)) <|
((o2 vSub (gA gFC) (gK (.int .i64 1)) (pA pFD)) <|
((o1 (vCvi .u64) (gA gFD) (pA pFE)) <|
((o2 (vBin .shl) (gK (.int .u64 1)) (gA gFE) (pA pFF)) <|
((o1 vMov (gA gFF) (pA pBC)) <|
 oEnd)))))) (cSeq (cSeq (cReg ((o1 vMov (gA gBA) (pA pFG)) <|
((o1 vNot (gA gFG) (pA pFH)) <|
((o1 vMov (gA gFH) (pA pGA)) <|
((oGuard (gA gGA) true (pA pGB) (o1 vMov (gA gBB) (pA pGB))) <|
((oGuard (gA gGA) true (pA pGC) (o1 vMov (gA gBC) (pA pGC))) <|
((oGuard (gA gGA) true (pA pGD) (o2 vGeq (gA gGB) (gA gGC) (pA pGD))) <|
((oSlow K3.gt ⟨some 52,none,.p (.pick (.t 48) (.t 51) (.c (.bool false))),false,[]⟩ (pA pGE)) <|
 oEnd)))))))) (cIf (gA gGE) (cSeq (cReg ((o1 vMov (gA gBC) (pA pGF)) <|
((o2 vSub (gA gGF) (gK (.int .u64 1)) (pA pGG)) <|
((o1 (vCvi .i64) (gA gGG) (pA pGH)) <|
((o1 (vMkif 105) (gK (.int .i64 1)) (pA pHA)) <|
((o1 vMov (gA gGH) (pA pAG)) <|
((o1 vMov (gA gHA) (pA pAH)) <|
 oEnd))))))) (cExit 0)) cSkip)) (cSeq (cSeq (cReg ((o1 vMov (gA gBA) (pA pHB)) <|
((o1 vMov (gA gHB) (pA pHC)) <|
((oGuard (gA gHC) true (pA pHD) (o1 vMov (gA gBB) (pA pHD))) <|
((oGuard (gA gHC) true (pA pHE) (o1 vMov (gA gBC) (pA pHE))) <|
((oGuard (gA gHC) true (pA pHF) (o2 vGtr (gA gHD) (gA gHE) (pA pHF))) <|
((oSlow K3.gt ⟨some 62,none,.p (.pick (.t 58) (.t 61) (.c (.bool false))),false,[]⟩ (pA pHG)) <|
 oEnd))))))) (cIf (gA gHG) (cSeq (cReg ((o1 vMov (gA gBC) (pA pHH)) <|
((o1 (vCvi .i64) (gA gHH) (pB pAA)) <|
((oSlow K3.gt ⟨some 65,none,.p (.neg (.t 64)),false,[]⟩ (pB pAB)) <|
((o1 (vMkif 105) (gK (.int .i64 1)) (pB pAC)) <|
((o1 vMov (gB gAB) (pA pAG)) <|
((o1 vMov (gB gAC) (pA pAH)) <|
 oEnd))))))) (cExit 0)) cSkip)) (cSeq (cReg ((o1 vMov (gA gBB) (pB pAD)) <|
((o1 (vCvi .i64) (gB gAD) (pB pAE)) <|
((o1 vMov (gB gAE) (pA pBD)) <|
 oEnd)))) (cSeq (cSeq (cReg ((o1 vMov (gA gBA) (pB pAF)) <|
 oEnd)) (cIf (gB gAF) (cReg ((o1 vMov (gA gBD) (pB pAG)) <|
((oSlow K3.gt ⟨some 71,none,.p (.neg (.t 70)),false,[]⟩ (pB pAH)) <|
((o1 vMov (gB gAH) (pA pBD)) <|
 oEnd)))) cSkip)) (cSeq (cReg ((o1 vMov (gA gBD) (pB pBA)) <|
((o1 vMov (gB gBA) (pA pAG)) <|
((o1 vMov (gK .nili) (pA pAH)) <|
 oEnd)))) (cExit 0))))))))))))))) [(rT (gA gAG)), (rT (gA gAH))]
theorem u68_ok : denA k68 = u68 := dA3 rfl rfl rfl (dF rfl rfl rfl (dS (dR (dc rfl (dc rfl dn))) (dS (dS (dR (dc rfl (dc rfl dn))) (dI rfl rfl (dS (dR (dc rfl (dc rfl (dc rfl dn)))) dT) dK)) (dS (dR (dc rfl dn)) (dS (dS (dR (dc rfl (dc rfl dn))) (dB (dS (dR (dc rfl (dc rfl dn))) (dI rfl rfl (dR (dc rfl (dc (by kernel_rfl) (dc rfl dn)))) (dS (dR (dc rfl (dc rfl dn))) (dI rfl rfl (dS (dR (dc rfl (dc (by kernel_rfl) (dc rfl dn)))) (dR (dc rfl dn))) dK)))))) (dS (dR (dc rfl dn)) (dS (dR (dc rfl (dc rfl (dc rfl (dc rfl (dc rfl (dc rfl (dc rfl (dc rfl (dc rfl dn)))))))))) (dS (dS (dR (dc rfl (dc rfl (dc rfl (dc (by kernel_rfl) (dc (by kernel_rfl) (dc (by kernel_rfl) (dc (by kernel_rfl) dn)))))))) (dI rfl rfl (dS (dR (dc rfl (dc rfl (dc rfl dn)))) dT) dK)) (dS (dS (dR (dc rfl (dc rfl dn))) (dI rfl rfl (dR (dc rfl dn)) dK)) (dS (dR (dc rfl (dc rfl (dc rfl (dc rfl (dc rfl dn)))))) (dS (dS (dR (dc rfl (dc rfl (dc rfl (dc (by kernel_rfl) (dc (by kernel_rfl) (dc (by kernel_rfl) (dc (by kernel_rfl) dn)))))))) (dI rfl rfl (dS (dR (dc rfl (dc rfl (dc rfl (dc rfl (dc rfl (dc rfl dn))))))) dT) dK)) (dS (dS (dR (dc rfl (dc rfl (dc (by kernel_rfl) (dc (by kernel_rfl) (dc (by kernel_rfl) (dc (by kernel_rfl) dn))))))) (dI rfl rfl (dS (dR (dc rfl (dc rfl (dc (by kernel_rfl) (dc rfl (dc rfl (dc rfl dn))))))) dT) dK)) (dS (dR (dc rfl (dc rfl (dc rfl dn)))) (dS (dS (dR (dc rfl dn)) (dI rfl rfl (dR (dc rfl (dc (by kernel_rfl) (dc rfl dn)))) dK)) (dS (dR (dc rfl (dc rfl (dc rfl dn)))) dT)))))))))))))))
def u69 : Fu := fn K2.z [pAA, pAB, pAC, pAD, pAE, pAF, pAG, pAH, pBA, pBB, pBC, pBD] (cSeq (cReg ((o1 vMov (gK (.str [])) pAE) <|
 oEnd)) (cSeq (cSeq (cReg ((o1 vMov gAB pBC) <|
((o2 vEql gBC (gK (.int .i64 10)) pBD) <|
 oEnd))) (cIf gBD (cSeq (cSeq (cReg ((o1 vMov gAA pBE) <|
((o2 vLeq (gK (.int .i64 0)) gBE pBF) <|
((o1 vMov gBF pBG) <|
((oGuard gBG true pBH (o1 vMov gAA pBH)) <|
((oGuard gBG true pCA (o2 vLss gBH (gK (.int .i64 100)) pCA)) <|
((oSlow K2.gt ⟨some 17,none,.p (.pick (.t 14) (.t 16) (.c (.bool false))),false,[]⟩ pCB) <|
 oEnd))))))) (cIf gCB (cSeq (cReg ((o1 vMov gAA pCC) <|
((oCall 76 [gCC] pCD) <|
((o1 vMov gCD pAE) <|
 oEnd)))) (cExit 0)) cSkip)) (cSeq (cReg ((oAlloc [(.int .u8 0), (.int .u8 0), (.int .u8 0), (.int .u8 0), (.int .u8 0), (.int .u8 0), (.int .u8 0), (.int .u8 0), (.int .u8 0), (.int .u8 0), (.int .u8 0), (.int .u8 0), (.int .u8 0), (.int .u8 0), (.int .u8 0), (.int .u8 0), (.int .u8 0), (.int .u8 0), (.int .u8 0), (.int .u8 0), (.int .u8 0), (.int .u8 0), (.int .u8 0), (.int .u8 0)] pAF) <|
 oEnd)) (cSeq (cReg ((o1 vMov gAA pCE) <|
((o1 (vCvi .u64) gCE pCF) <|
((o1 vMov gCF pAG) <|
 oEnd)))) (cSeq (cSeq (cReg ((o1 vMov gAA pCG) <|
((o2 vLss gCG (gK (.int .i64 0)) pCH) <|
 oEnd))) (cIf gCH (cReg ((o1 vMov gAG pDA) <|
((oSlow K2.gt ⟨some 25,none,.p (.neg (.t 24)),false,[]⟩ pDB) <|
((o1 vMov gDB pAG) <|
 oEnd)))) cSkip)) (cSeq (cReg ((o1 vMov gAG pDC) <|
((oCall 77 [gDC] pDD) <|
((o1 vMov gDD pAH) <|
 oEnd)))) (cSeq (cReg ((o1 vMov gAH pDE) <|
((o2 vAdd (gK (.int .i64 1)) gDE pDF) <|
((oSlow K2.gt ⟨some 30,none,.h (.slA 24 1 (.t 5) (some (.c (.int .i64 1))) (some (.t 29)) none),false,[]⟩ pDG) <|
((o1 vMov gAG pDH) <|
((oCall 78 [gDG, gDH] pEA) <|
 oEnd)))))) (cSeq (cSeq (cReg ((o1 vMov gAA pEB) <|
((o2 vLss gEB (gK (.int .i64 0)) pEC) <|
 oEnd))) (cIf gEC (cSeq (cReg ((o2 (vIadA 24 1) gAF (gK (.int .i64 0)) pED) <|
((oStore 1 gED (gK (.int .u8 45))) <|
 oEnd))) (cSeq (cReg ((o1 vMov gAH pEE) <|
((o2 vAdd (gK (.int .i64 1)) gEE pEF) <|
((oSlow K2.gt ⟨some 38,none,.h (.slA 24 1 (.t 5) none (some (.t 37)) none),false,[]⟩ pEG) <|
((oSlow K2.gt ⟨some 39,none,.h (.b2s (.t 38)),false,[]⟩ pEH) <|
((o1 vMov gEH pAE) <|
 oEnd)))))) (cExit 0))) cSkip)) (cSeq (cReg ((o1 vMov gAH pFA) <|
((o2 vAdd (gK (.int .i64 1)) gFA pFB) <|
((oSlow K2.gt ⟨some 42,none,.h (.slA 24 1 (.t 5) (some (.c (.int .i64 1))) (some (.t 41)) none),false,[]⟩ pFC) <|
((oSlow K2.gt ⟨some 43,none,.h (.b2s (.t 42)),false,[]⟩ pFD) <|
((o1 vMov gFD pAE) <|
 oEnd)))))) (cExit 0))))))))) cSkip)) (cSeq (cReg ((o1 vMov gAA pFF) <|
((o1 (vCvi .u64) gFF pFG) <|
((o1 vMov gAB pFH) <|
((o1 vMov gAA pGA) <|
((o2 vLss gGA (gK (.int .i64 0)) pGB) <|
((oCall 79 [(gK .nils), gFG, gFH, gGB, (gK (.bool false))] pGC) <|
((o1 vMov gGC pFE) <|
((o1 (vExt 0) gFE pGD) <|
((o1 (vExt 1) gFE pGE) <|
((o1 vMov gGD pBA) <|
((o1 vMov gGE pBB) <|
 oEnd)))))))))))) (cSeq (cReg ((o1 vMov gBB pGF) <|
((o1 vMov gGF pAE) <|
 oEnd))) (cExit 0))))) [(rT gAE)]
theorem u69_ok : denA k69 = u69 := dA2 rfl rfl (dF rfl rfl rfl (dS (dR (dc rfl dn)) (dS (dS (dR (dc rfl (dc rfl dn))) (dI rfl rfl (dS (dS (dR (dc rfl (dc rfl (dc rfl (dc (by kernel_rfl) (dc (by kernel_rfl) (dc (by kernel_rfl) dn))))))) (dI rfl rfl (dS (dR (dc rfl (dc rfl (dc rfl dn)))) dT) dK)) (dS (dR (dc (by kernel_rfl) dn)) (dS (dR (dc rfl (dc rfl (dc rfl dn)))) (dS (dS (dR (dc rfl (dc rfl dn))) (dI rfl rfl (dR (dc rfl (dc (by kernel_rfl) (dc rfl dn)))) dK)) (dS (dR (dc rfl (dc rfl (dc rfl dn)))) (dS (dR (dc rfl (dc rfl (dc (by kernel_rfl) (dc rfl (dc rfl dn)))))) (dS (dS (dR (dc rfl (dc rfl dn))) (dI rfl rfl (dS (dR (dc rfl (dc rfl dn))) (dS (dR (dc rfl (dc rfl (dc (by kernel_rfl) (dc (by kernel_rfl) (dc rfl dn)))))) dT)) dK)) (dS (dR (dc rfl (dc rfl (dc (by kernel_rfl) (dc (by kernel_rfl) (dc rfl dn)))))) dT)))))))) dK)) (dS (dR (dc rfl (dc rfl (dc rfl (dc rfl (dc rfl (dc rfl (dc rfl (dc rfl (dc rfl (dc rfl (dc rfl dn)))))))))))) (dS (dR (dc rfl (dc rfl dn))) dT)))))
def u70 : Fu := fn K2.z [pAA, pAB, pAC, pAD, pAE, pAF, pAG, pAH, pBA, pBB] (cSeq (cReg ((o1 vMov (gK (.int .i64 0)) pAC) <|
 oEnd)) (cSeq (cSeq (cReg ((o1 vMov gAA pAD) <|
((oSlow K2.gt ⟨some 4,none,.h (.range (.t 3)),false,[]⟩ pAE) <|
 oEnd))) (cBlock 1 (cLoop (cSeq (cReg ((oSlow K2.gt ⟨some 5,none,.h (.next (.t 4)),false,[]⟩ pAF) <|
((o1 (vExt 0) gAF pAG) <|
 oEnd))) (cSeq (cIf gAG cSkip (cExit 1)) (cBlock 2 (cReg ((o1 vMov gAC pAH) <|
((o2 vAdd gAH (gK (.int .i64 1)) pBA) <|
((o1 vMov gBA pAC) <|
 oEnd)))))))))) (cSeq (cReg ((o1 vMov gAC pBB) <|
((o1 vMov gBB pAC) <|
 oEnd))) (cExit 0)))) [(rT gAC)]
theorem u70_ok : denA k70 = u70 := dA2 rfl rfl (dF rfl rfl rfl (dS (dR (dc rfl dn)) (dS (dS (dR (dc rfl (dc (by kernel_rfl) dn))) (dB (dL (dS (dR (dc (by kernel_rfl) (dc rfl dn))) (dS (dI rfl rfl dK dX) (dB (dR (dc rfl (dc rfl (dc rfl dn)))))))))) (dS (dR (dc rfl (dc rfl dn))) dT))))
def u71 : Fu := fn K2.z [pAA, pAB, pAC, pAD, pAE, pAF, pAG, pAH, pBA, pBB, pBC, pBD] (cSeq (cReg ((o1 vMov (gK (.int .i32 0)) pAC) <|
((o1 vMov (gK (.int .i64 0)) pAD) <|
 oEnd))) (cSeq (cSeq (cReg ((o1 vMov gAA pAE) <|
((o2 vNeq gAE (gK (.str [])) pAF) <|
((o1 vMov gAF pAG) <|
((oGuard gAG true pAH (o1 vMov gAA pAH)) <|
((oGuard gAG true pBA (o2 vIdxS gAH (gK (.int .i64 0)) pBA)) <|
((oGuard gAG true pBB (o2 vLss gBA (gK (.int .u8 128)) pBB)) <|
((oSlow K2.gt ⟨some 10,none,.p (.pick (.t 6) (.t 9) (.c (.bool false))),false,[]⟩ pBC) <|
 oEnd)))))))) (cIf gBC (cSeq (cReg ((o1 vMov gAA pBD) <|
((o2 vIdxS gBD (gK (.int .i64 0)) pBE) <|
((o1 (vCvi .i32) gBE pBF) <|
((o1 vMov gBF pAC) <|
((o1 vMov (gK (.int .i64 1)) pAD) <|
 oEnd)))))) (cExit 0)) (cReg ((o1 vMov gAA pBH) <|
((oCall 80 [gBH] pCA) <|
((o1 vMov gCA pBG) <|
((o1 (vExt 0) gBG pCB) <|
((o1 (vExt 1) gBG pCC) <|
((o1 vMov gCB pAC) <|
((o1 vMov gCC pAD) <|
 oEnd)))))))))) (cExit 0))) [(rT gAC), (rT gAD)]
theorem u71_ok : denA k71 = u71 := dA2 rfl rfl (dF rfl rfl rfl (dS (dR (dc rfl (dc rfl dn))) (dS (dS (dR (dc rfl (dc rfl (dc rfl (dc (by kernel_rfl) (dc (by kernel_rfl) (dc (by kernel_rfl) (dc (by kernel_rfl) dn)))))))) (dI rfl rfl (dS (dR (dc rfl (dc rfl (dc rfl (dc rfl (dc rfl dn)))))) dT) (dR (dc rfl (dc rfl (dc rfl (dc rfl (dc rfl (dc rfl (dc rfl dn)))))))))) dT)))
def u73 : Fu := fn K3.z [(pA pAA), (pA pAB), (pA pAC), (pA pAD), (pA pAE), (pA pAF), (pA pAG), (pA pAH), (pA pBA), (pA pBB), (pA pBC), (pA pBD)] (cSeq (cReg ((o1 vMov (gK (.int .i64 0)) (pA pAE)) <|
 oEnd)) (cSeq (cReg ((o1 vMov (gA gAB) (pA pBG)) <|
((o1 vLenS (gA gBG) (pA pBH)) <|
((o1 vMov (gA gBH) (pA pAF)) <|
 oEnd)))) (cSeq (cBlock 1 (cSeq (cReg ((o1 vMov (gA gAF) (pA pCB)) <|
((o2 vEql (gA gCB) (gK (.int .i64 0)) (pA pCC)) <|
((o1 vMov (gA gCC) (pA pCD)) <|
((oGuard (gA gCD) false (pA pCE) (o1 vMov (gA gAB) (pA pCE))) <|
((oGuard (gA gCD) false (pA pCF) (o1 vMov (gA gAA) (pA pCF))) <|
((oGuard (gA gCD) false (pA pCG) (o2 vEql (gA gCE) (gA gCF) (pA pCG))) <|
((oSlow K3.gt ⟨some 23,none,.p (.pick (.t 19) (.c (.bool true)) (.t 22)),false,[]⟩ (pA pCH)) <|
((o1 vMov (gA gCH) (pA pCA)) <|
 oEnd))))))))) (cIf (gA gCA) (cSeq (cReg ((o1 vMov (gK (.int .i64 0)) (pA pAE)) <|
 oEnd)) (cExit 0)) (cSeq (cReg ((o1 vMov (gA gAF) (pA pDB)) <|
((o2 vEql (gA gDB) (gK (.int .i64 1)) (pA pDC)) <|
((o1 vMov (gA gDC) (pA pDA)) <|
 oEnd)))) (cIf (gA gDA) (cSeq (cReg ((o1 vMov (gA gAA) (pA pDD)) <|
((o1 vMov (gA gAB) (pA pDE)) <|
((o2 vIdxS (gA gDE) (gK (.int .i64 0)) (pA pDF)) <|
((oCall 81 [(gA gDD), (gA gDF)] (pA pDG)) <|
((o1 vMov (gA gDG) (pA pAE)) <|
 oEnd)))))) (cExit 0)) (cSeq (cReg ((o1 vMov (gA gAF) (pA pEA)) <|
((o1 vMov (gA gAA) (pA pEB)) <|
((o1 vLenS (gA gEB) (pA pEC)) <|
((o2 vGeq (gA gEA) (gA gEC) (pA pED)) <|
((o1 vMov (gA gED) (pA pDH)) <|
 oEnd)))))) (cIf (gA gDH) (cSeq (cReg ((o1 vMov (gK (.int .i64 (-1))) (pA pAE)) <|
 oEnd)) (cExit 0)) (cSeq (cReg ((o1 vMov (gA gAF) (pA pEF)) <|
((m1 wLoad1 (gK (.ptr 3 0)) (pA pEG)) <|
((o2 vLeq (gA gEF) (gA gEG) (pA pEH)) <|
((o1 vMov (gA gEH) (pA pFA)) <|
((oGuard (gA gFA) true (pA pFB) (o1 vMov (gA gAA) (pA pFB))) <|
((oGuard (gA gFA) true (pA pFC) (o1 vLenS (gA gFB) (pA pFC))) <|
((oGuard (gA gFA) true (pA pFD) (o2 vLeq (gA gFC) (gK (.int .i64 64)) (pA pFD))) <|
((oSlow K3.gt ⟨some 44,none,.p (.pick (.t 40) (.t 43) (.c (.bool false))),false,[]⟩ (pA pFE)) <|
((o1 vMov (gA gFE) (pA pEE)) <|
 oEnd)))))))))) (cIf (gA gEE) (cSeq (cReg ((o1 vMov (gA gAA) (pA pFF)) <|
((o1 vMov (gA gAB) (pA pFG)) <|
((oSlow K3.gt ⟨some 47, none, (.h .bad),false,[]⟩ (pA pFH)) <|
((o1 vMov (gA gFH) (pA pAE)) <|
 oEnd))))) (cExit 0)) cSkip))))))))) (cSeq (cReg ((o1 vMov (gA gAB) (pA pGA)) <|
((o2 vIdxS (gA gGA) (gK (.int .i64 0)) (pA pGB)) <|
((o1 vMov (gA gGB) (pA pAG)) <|
 oEnd)))) (cSeq (cReg ((o1 vMov (gA gAB) (pA pGC)) <|
((o2 vIdxS (gA gGC) (gK (.int .i64 1)) (pA pGD)) <|
((o1 vMov (gA gGD) (pA pAH)) <|
 oEnd)))) (cSeq (cReg ((o1 vMov (gK (.int .i64 0)) (pA pBA)) <|
 oEnd)) (cSeq (cReg ((o1 vMov (gA gAA) (pA pGE)) <|
((o1 vLenS (gA gGE) (pA pGF)) <|
((o1 vMov (gA gAF) (pA pGG)) <|
((o2 vSub (gA gGF) (gA gGG) (pA pGH)) <|
((o2 vAdd (gA gGH) (gK (.int .i64 1)) (pA pHA)) <|
((o1 vMov (gA gHA) (pA pBB)) <|
 oEnd))))))) (cSeq (cReg ((o1 vMov (gK (.int .i64 0)) (pA pBC)) <|
 oEnd)) (cSeq (cBlock 2 (cLoop (cSeq (cSeq (cReg ((o1 vMov (gA gBA) (pA pHB)) <|
((o1 vMov (gA gBB) (pA pHC)) <|
((o2 vLss (gA gHB) (gA gHC) (pA pHD)) <|
 oEnd)))) (cIf (gA gHD) cSkip (cExit 2))) (cBlock 3 (cSeq (cSeq (cReg ((o1 vMov (gA gAA) (pA pHE)) <|
((o1 vMov (gA gBA) (pA pHF)) <|
((o2 vIdxS (gA gHE) (gA gHF) (pA pHG)) <|
((o1 vMov (gA gAG) (pA pHH)) <|
((o2 vNeq (gA gHG) (gA gHH) (pB pAA)) <|
 oEnd)))))) (cIf (gB gAA) (cSeq (cReg ((o1 vMov (gA gAA) (pB pAB)) <|
((o1 vMov (gA gBA) (pB pAC)) <|
((o2 vAdd (gB gAC) (gK (.int .i64 1)) (pB pAD)) <|
((o1 vMov (gA gBB) (pB pAE)) <|
((oSlow K3.gt ⟨some 69,none,.p (.slT (.t 65) (some (.t 67)) (some (.t 68))),false,[]⟩ (pB pAF)) <|
((o1 vMov (gA gAG) (pB pAG)) <|
((oCall 81 [(gB gAF), (gB gAG)] (pB pAH)) <|
((o1 vMov (gB gAH) (pA pBD)) <|
 oEnd))))))))) (cSeq (cSeq (cReg ((o1 vMov (gA gBD) (pB pBA)) <|
((o2 vLss (gB gBA) (gK (.int .i64 0)) (pB pBB)) <|
 oEnd))) (cIf (gB gBB) (cSeq (cReg ((o1 vMov (gK (.int .i64 (-1))) (pA pAE)) <|
 oEnd)) (cExit 0)) cSkip)) (cReg ((o1 vMov (gA gBA) (pB pBC)) <|
((o1 vMov (gA gBD) (pB pBD)) <|
((o2 vAdd (gB gBD) (gK (.int .i64 1)) (pB pBE)) <|
((o2 vAdd (gB gBC) (gB gBE) (pB pBF)) <|
((o1 vMov (gB gBF) (pA pBA)) <|
 oEnd)))))))) cSkip)) (cSeq (cSeq (cReg ((o1 vMov (gA gAA) (pB pBG)) <|
((o1 vMov (gA gBA) (pB pBH)) <|
((o2 vAdd (gB gBH) (gK (.int .i64 1)) (pB pCA)) <|
((o2 vIdxS (gB gBG) (gB gCA) (pB pCB)) <|
((o1 vMov (gA gAH) (pB pCC)) <|
((o2 vEql (gB gCB) (gB gCC) (pB pCD)) <|
((o1 vMov (gB gCD) (pB pCE)) <|
((oGuard (gB gCE) true (pB pCF) (o1 vMov (gA gAA) (pB pCF))) <|
((oGuard (gB gCE) true (pB pCG) (o1 vMov (gA gBA) (pB pCG))) <|
((oGuard (gB gCE) true (pB pCH) (o1 vMov (gA gBA) (pB pCH))) <|
((oGuard (gB gCE) true (pB pDA) (o1 vMov (gA gAF) (pB pDA))) <|
((oGuard (gB gCE) true (pB pDB) (o2 vAdd (gB gCH) (gB gDA) (pB pDB))) <|
((oGuard (gB gCE) true (pB pDC) (oSlow K3.gt ⟨some 90,(some (84, true)),.p (.slT (.t 85) (some (.t 86)) (some (.t 89))),false,[]⟩ (pB pDC))) <|
((oGuard (gB gCE) true (pB pDD) (o1 vMov (gA gAB) (pB pDD))) <|
((oGuard (gB gCE) true (pB pDE) (o2 vEql (gB gDC) (gB gDD) (pB pDE))) <|
((oSlow K3.gt ⟨some 93,none,.p (.pick (.t 84) (.t 92) (.c (.bool false))),false,[]⟩ (pB pDF)) <|
 oEnd))))))))))))))))) (cIf (gB gDF) (cSeq (cReg ((o1 vMov (gA gBA) (pB pDG)) <|
((o1 vMov (gB gDG) (pA pAE)) <|
 oEnd))) (cExit 0)) cSkip)) (cSeq (cReg ((o1 vMov (gA gBA) (pB pDH)) <|
((o2 vAdd (gB gDH) (gK (.int .i64 1)) (pB pEA)) <|
((o1 vMov (gB gEA) (pA pBA)) <|
 oEnd)))) (cSeq (cReg ((o1 vMov (gA gBC) (pB pEB)) <|
((o2 vAdd (gB gEB) (gK (.int .i64 1)) (pB pEC)) <|
((o1 vMov (gB gEC) (pA pBC)) <|
 oEnd)))) (cSeq (cReg ((o1 vMov (gA gAF) (pB pED)) <|
((m1 wLoad1 (gK (.ptr 3 0)) (pB pEE)) <|
((o2 vLeq (gB gED) (gB gEE) (pB pEF)) <|
((o1 vMov (gB gEF) (pB pEG)) <|
((oGuard (gB gEG) true (pB pEH) (o1 vMov (gA gBC) (pB pEH))) <|
((oGuard (gB gEG) true (pB pFA) (o1 vMov (gA gBA) (pB pFA))) <|
((oGuard (gB gEG) true (pB pFB) (oCall 83 [(gB gFA)] (pB pFB))) <|
((oGuard (gB gEG) true (pB pFC) (o2 vGtr (gB gEH) (gB gFB) (pB pFC))) <|
((oSlow K3.gt ⟨some 107,none,.p (.pick (.t 102) (.t 106) (.c (.bool false))),false,[]⟩ (pB pFD)) <|
 oEnd)))))))))) (cIf (gB gFD) (cSeq (cReg ((o1 vMov (gA gAA) (pB pFE)) <|
((o1 vMov (gA gBA) (pB pFF)) <|
((oSlow K3.gt ⟨some 110,none,.p (.slT (.t 108) (some (.t 109)) none),false,[]⟩ (pB pFG)) <|
((o1 vMov (gA gAB) (pB pFH)) <|
((oSlow K3.gt ⟨some 112, none, (.h .bad),false,[]⟩ (pB pGA)) <|
((o1 vMov (gB gGA) (pA pBE)) <|
 oEnd))))))) (cSeq (cSeq (cReg ((o1 vMov (gA gBE) (pB pGB)) <|
((o2 vGeq (gB gGB) (gK (.int .i64 0)) (pB pGC)) <|
 oEnd))) (cIf (gB gGC) (cSeq (cReg ((o1 vMov (gA gBE) (pB pGD)) <|
((o1 vMov (gA gBA) (pB pGE)) <|
((o2 vAdd (gB gGD) (gB gGE) (pB pGF)) <|
((o1 vMov (gB gGF) (pA pAE)) <|
 oEnd))))) (cExit 0)) cSkip)) (cSeq (cReg ((o1 vMov (gK (.int .i64 (-1))) (pA pAE)) <|
 oEnd)) (cExit 0)))) (cSeq (cReg ((o1 vMov (gA gAF) (pB pGG)) <|
((m1 wLoad1 (gK (.ptr 3 0)) (pB pGH)) <|
((o2 vGtr (gB gGG) (gB gGH) (pB pHA)) <|
((o1 vMov (gB gHA) (pB pHB)) <|
((oGuard (gB gHB) true (pB pHC) (o1 vMov (gA gBC) (pB pHC))) <|
((oGuard (gB gHB) true (pB pHD) (o1 vMov (gA gBA) (pB pHD))) <|
((oGuard (gB gHB) true (pB pHE) (o2 (vBin .shr) (gB gHD) (gK (.int .u64 4)) (pB pHE))) <|
((oGuard (gB gHB) true (pB pHF) (o2 vAdd (gK (.int .i64 4)) (gB gHE) (pB pHF))) <|
((oGuard (gB gHB) true (pB pHG) (o2 vGeq (gB gHC) (gB gHF) (pB pHG))) <|
((oSlow K3.gt ⟨some 127,none,.p (.pick (.t 121) (.t 126) (.c (.bool false))),false,[]⟩ (pB pHH)) <|
((o1 vMov (gB gHH) (pC pAA)) <|
((oGuard (gC gAA) true (pC pAB) (o1 vMov (gA gBA) (pC pAB))) <|
((oGuard (gC gAA) true (pC pAC) (o1 vMov (gA gBB) (pC pAC))) <|
((oGuard (gC gAA) true (pC pAD) (o2 vLss (gC gAB) (gC gAC) (pC pAD))) <|
((oSlow K3.gt ⟨some 132,none,.p (.pick (.t 128) (.t 131) (.c (.bool false))),false,[]⟩ (pC pAE)) <|
 oEnd)))))))))))))))) (cIf (gC gAE) (cSeq (cReg ((o1 vMov (gA gAA) (pC pAF)) <|
((o1 vMov (gA gBA) (pC pAG)) <|
((oSlow K3.gt ⟨some 135,none,.p (.slT (.t 133) (some (.t 134)) none),false,[]⟩ (pC pAH)) <|
((o1 vMov (gA gAB) (pC pBA)) <|
((oCall 84 [(gC gAH), (gC gBA)] (pC pBB)) <|
((o1 vMov (gC gBB) (pA pBF)) <|
 oEnd))))))) (cSeq (cSeq (cReg ((o1 vMov (gA gBF) (pC pBC)) <|
((o2 vLss (gC gBC) (gK (.int .i64 0)) (pC pBD)) <|
 oEnd))) (cIf (gC gBD) (cSeq (cReg ((o1 vMov (gK (.int .i64 (-1))) (pA pAE)) <|
 oEnd)) (cExit 0)) cSkip)) (cSeq (cReg ((o1 vMov (gA gBA) (pC pBE)) <|
((o1 vMov (gA gBF) (pC pBF)) <|
((o2 vAdd (gC gBE) (gC gBF) (pC pBG)) <|
((o1 vMov (gC gBG) (pA pAE)) <|
 oEnd))))) (cExit 0)))) cSkip)))))))))))) (cSeq (cReg ((o1 vMov (gK (.int .i64 (-1))) (pA pAE)) <|
 oEnd)) (cExit 0))))))))))) [(rT (gA gAE))]
theorem u73_ok : denA k73 = u73 := dA3 rfl rfl rfl (dF rfl rfl rfl (dS (dR (dc rfl dn)) (dS (dR (dc rfl (dc rfl (dc rfl dn)))) (dS (dB (dS (dR (dc rfl (dc rfl (dc rfl (dc (by kernel_rfl) (dc (by kernel_rfl) (dc (by kernel_rfl) (dc (by kernel_rfl) (dc rfl dn))))))))) (dI rfl rfl (dS (dR (dc rfl dn)) dT) (dS (dR (dc rfl (dc rfl (dc rfl dn)))) (dI rfl rfl (dS (dR (dc rfl (dc rfl (dc rfl (dc rfl (dc rfl dn)))))) dT) (dS (dR (dc rfl (dc rfl (dc rfl (dc rfl (dc rfl dn)))))) (dI rfl rfl (dS (dR (dc rfl dn)) dT) (dS (dR (dc rfl (dc rfl (dc rfl (dc rfl (dc (by kernel_rfl) (dc (by kernel_rfl) (dc (by kernel_rfl) (dc (by kernel_rfl) (dc rfl dn)))))))))) (dI rfl rfl (dS (dR (dc rfl (dc rfl (dc (by kernel_rfl) (dc rfl dn))))) dT) dK))))))))) (dS (dR (dc rfl (dc rfl (dc rfl dn)))) (dS (dR (dc rfl (dc rfl (dc rfl dn)))) (dS (dR (dc rfl dn)) (dS (dR (dc rfl (dc rfl (dc rfl (dc rfl (dc rfl (dc rfl dn))))))) (dS (dR (dc rfl dn)) (dS (dB (dL (dS (dS (dR (dc rfl (dc rfl (dc rfl dn)))) (dI rfl rfl dK dX)) (dB (dS (dS (dR (dc rfl (dc rfl (dc rfl (dc rfl (dc rfl dn)))))) (dI rfl rfl (dS (dR (dc rfl (dc rfl (dc rfl (dc rfl (dc (by kernel_rfl) (dc rfl (dc rfl (dc rfl dn))))))))) (dS (dS (dR (dc rfl (dc rfl dn))) (dI rfl rfl (dS (dR (dc rfl dn)) dT) dK)) (dR (dc rfl (dc rfl (dc rfl (dc rfl (dc rfl dn)))))))) dK)) (dS (dS (dR (dc rfl (dc rfl (dc rfl (dc rfl (dc rfl (dc rfl (dc rfl (dc (by kernel_rfl) (dc (by kernel_rfl) (dc (by kernel_rfl) (dc (by kernel_rfl) (dc (by kernel_rfl) (dc (by kernel_rfl) (dc (by kernel_rfl) (dc (by kernel_rfl) (dc (by kernel_rfl) dn))))))))))))))))) (dI rfl rfl (dS (dR (dc rfl (dc rfl dn))) dT) dK)) (dS (dR (dc rfl (dc rfl (dc rfl dn)))) (dS (dR (dc rfl (dc rfl (dc rfl dn)))) (dS (dR (dc rfl (dc rfl (dc rfl (dc rfl (dc (by kernel_rfl) (dc (by kernel_rfl) (dc (by kernel_rfl) (dc (by kernel_rfl) (dc (by kernel_rfl) dn)))))))))) (dI rfl rfl (dS (dR (dc rfl (dc rfl (dc (by kernel_rfl) (dc rfl (dc (by kernel_rfl) (dc rfl dn))))))) (dS (dS (dR (dc rfl (dc rfl dn))) (dI rfl rfl (dS (dR (dc rfl (dc rfl (dc rfl (dc rfl dn))))) dT) dK)) (dS (dR (dc rfl dn)) dT))) (dS (dR (dc rfl (dc rfl (dc rfl (dc rfl (dc (by kernel_rfl) (dc (by kernel_rfl) (dc (by kernel_rfl) (dc (by kernel_rfl) (dc (by kernel_rfl) (dc (by kernel_rfl) (dc rfl (dc (by kernel_rfl) (dc (by kernel_rfl) (dc (by kernel_rfl) (dc (by kernel_rfl) dn)))))))))))))))) (dI rfl rfl (dS (dR (dc rfl (dc rfl (dc (by kernel_rfl) (dc rfl (dc rfl (dc rfl dn))))))) (dS (dS (dR (dc rfl (dc rfl dn))) (dI rfl rfl (dS (dR (dc rfl dn)) dT) dK)) (dS (dR (dc rfl (dc rfl (dc rfl (dc rfl dn))))) dT))) dK)))))))))))) (dS (dR (dc rfl dn)) dT)))))))))))
def u74 : Fu := fn K2.z [pAA, pAB, pAC, pAD, pAE, pAF, pAG, pAH, pBA, pBB, pBC, pBD] (cSeq (cReg ((o1 vMov (gK (.str [])) pAC) <|
 oEnd)) (cSeq (cSeq (cReg ((o1 vMov gAA pAE) <|
((o1 vLenS gAE pAF) <|
((o2 vEql gAF (gK (.int .i64 0)) pAG) <|
 oEnd)))) (cIf gAG (cSeq (cReg ((o1 vMov (gK (.str [])) pAC) <|
 oEnd)) (cExit 0)) cSkip)) (cSeq (cReg ((o1 vMov gAA pAH) <|
((o1 vLenS gAH pBA) <|
((oSlow K2.gt ⟨some 9,none,.h (.mksl 1 1 [(.int .u8 0)] (.t 8) (.t 8)),false,[]⟩ pBB) <|
((o1 vMov gBB pAD) <|
 oEnd))))) (cSeq (cReg ((o1 vMov gAD pBC) <|
((o1 vMov gAA pBD) <|
((oSlow K2.gt ⟨some 12,none,.h (.copy 1 (.t 10) (.t 11)),false,[]⟩ pBE) <|
 oEnd)))) (cSeq (cReg ((o1 vMov gAD pBF) <|
((o2 (vIadS 1) gBF (gK (.int .i64 0)) pBG) <|
((o1 vMov gAD pBH) <|
((o1 vLen gBH pCA) <|
((oSlow K2.gt ⟨some 17, none, (.h .bad),false,[]⟩ pCB) <|
((o1 vMov gCB pAC) <|
 oEnd))))))) (cExit 0)))))) [(rT gAC)]
theorem u74_ok : denA k74 = u74 := dA2 rfl rfl (dF rfl rfl rfl (dS (dR (dc rfl dn)) (dS (dS (dR (dc rfl (dc rfl (dc rfl dn)))) (dI rfl rfl (dS (dR (dc rfl dn)) dT) dK)) (dS (dR (dc rfl (dc rfl (dc (by kernel_rfl) (dc rfl dn))))) (dS (dR (dc rfl (dc rfl (dc (by kernel_rfl) dn)))) (dS (dR (dc rfl (dc rfl (dc rfl (dc rfl (dc (by kernel_rfl) (dc rfl dn))))))) dT))))))
def u75 : Fu := fn K1.z [(pA p0), (pB p0), (pC p0), (pD p0), (pE p0), (pF p0), (pG p0)] (cSeq (cReg ((o1 vMov (gK .nili) (pC p0)) <|
 oEnd)) (cSeq (cReg ((o1 vMov (gA g0) (pD p0)) <|
((oSlow K1.gt ⟨some 4,none,.p (.build [(.str [])] [(0, 1, (.t 3))]),false,[]⟩ (pE p0)) <|
((m1 wBox (gE g0) (pF p0)) <|
((o1 (vMkif 130) (gF g0) (pG p0)) <|
((o1 vMov (gG g0) (pC p0)) <|
 oEnd)))))) (cExit 0))) [(rT (gC g0))]
theorem u75_ok : denA k75 = u75 := dA1 rfl (dF rfl rfl rfl (dS (dR (dc rfl dn)) (dS (dR (dc rfl (dc (by kernel_rfl) (dc rfl (dc rfl (dc rfl dn)))))) dT)))
def u76 : Fu := fn K2.z [pAA, pAB, pAC, pAD, pAE, pAF, pAG, pAH, pBA, pBB, pBC, pBD] (cSeq (cReg ((o1 vMov (gK (.str [])) pAC) <|
 oEnd)) (cSeq (cSeq (cReg ((o1 vMov gAA pAD) <|
((o2 vLss gAD (gK (.int .i64 10)) pAE) <|
 oEnd))) (cIf gAE (cSeq (cReg ((o1 vMov gAA pAF) <|
((o1 vMov gAA pAG) <|
((o2 vAdd gAG (gK (.int .i64 1)) pAH) <|
((oSlow K2.gt ⟨some 8,none,.p (.slT (.c (.str [48, 49, 50, 51, 52, 53, 54, 55, 56, 57, 97, 98, 99, 100, 101, 102, 103, 104, 105, 106, 107, 108, 109, 110, 111, 112, 113, 114, 115, 116, 117, 118, 119, 120, 121, 122])) (some (.t 5)) (some (.t 7))),false,[]⟩ pBA) <|
((o1 vMov gBA pAC) <|
 oEnd)))))) (cExit 0)) cSkip)) (cSeq (cReg ((o1 vMov gAA pBB) <|
((o2 (vBin .mul) gBB (gK (.int .i64 2)) pBC) <|
((o1 vMov gAA pBD) <|
((o2 (vBin .mul) gBD (gK (.int .i64 2)) pBE) <|
((o2 vAdd gBE (gK (.int .i64 2)) pBF) <|
((oSlow K2.gt ⟨some 14,none,.p (.slT (.c (.str [48, 48, 48, 49, 48, 50, 48, 51, 48, 52, 48, 53, 48, 54, 48, 55, 48, 56, 48, 57, 49, 48, 49, 49, 49, 50, 49, 51, 49, 52, 49, 53, 49, 54, 49, 55, 49, 56, 49, 57, 50, 48, 50, 49, 50, 50, 50, 51, 50, 52, 50, 53, 50, 54, 50, 55, 50, 56, 50, 57, 51, 48, 51, 49, 51, 50, 51, 51, 51, 52, 51, 53, 51, 54, 51, 55, 51, 56, 51, 57, 52, 48, 52, 49, 52, 50, 52, 51, 52, 52, 52, 53, 52, 54, 52, 55, 52, 56, 52, 57, 53, 48, 53, 49, 53, 50, 53, 51, 53, 52, 53, 53, 53, 54, 53, 55, 53, 56, 53, 57, 54, 48, 54, 49, 54, 50, 54, 51, 54, 52, 54, 53, 54, 54, 54, 55, 54, 56, 54, 57, 55, 48, 55, 49, 55, 50, 55, 51, 55, 52, 55, 53, 55, 54, 55, 55, 55, 56, 55, 57, 56, 48, 56, 49, 56, 50, 56, 51, 56, 52, 56, 53, 56, 54, 56, 55, 56, 56, 56, 57, 57, 48, 57, 49, 57, 50, 57, 51, 57, 52, 57, 53, 57, 54, 57, 55, 57, 56, 57, 57])) (some (.t 10)) (some (.t 13))),false,[]⟩ pBG) <|
((o1 vMov gBG pAC) <|
 oEnd)))))))) (cExit 0)))) [(rT gAC)]
theorem u76_ok : denA k76 = u76 := dA2 rfl rfl (dF rfl rfl rfl (dS (dR (dc rfl dn)) (dS (dS (dR (dc rfl (dc rfl dn))) (dI rfl rfl (dS (dR (dc rfl (dc rfl (dc rfl (dc (by kernel_rfl) (dc rfl dn)))))) dT) dK)) (dS (dR (dc rfl (dc rfl (dc rfl (dc rfl (dc rfl (dc (by kernel_rfl) (dc rfl dn)))))))) dT))))
def u77 : Fu := fn K2.z [pAA, pAB, pAC, pAD, pAE, pAF, pAG, pAH, pBA, pBB, pBC, pBD] (cSeq (cReg ((o1 vMov (gK (.int .i64 0)) pAC) <|
 oEnd)) (cSeq (cReg ((o1 vMov gAA pAE) <|
((oCall 86 [gAE] pAF) <|
((oCall 85 [gAF] pAG) <|
((o1 vMov gAG pAD) <|
 oEnd))))) (cSeq (cReg ((o1 vMov gAD pAH) <|
((o1 vMov gAA pBA) <|
((o1 vMov gAD pBB) <|
((o2 (vIadA 20 1) (gK (.ptr 4 0)) gBB pBC) <|
((m1 wLoad1 gBC pBD) <|
((o2 vGeq gBA gBD pBE) <|
((oCall 87 [gBE] pBF) <|
((o2 vAdd gAH gBF pBG) <|
((o1 vMov gBG pAC) <|
 oEnd)))))))))) (cExit 0)))) [(rT gAC)]
theorem u77_ok : denA k77 = u77 := dA2 rfl rfl (dF rfl rfl rfl (dS (dR (dc rfl dn)) (dS (dR (dc rfl (dc rfl (dc rfl (dc rfl dn))))) (dS (dR (dc rfl (dc rfl (dc rfl (dc rfl (dc rfl (dc rfl (dc rfl (dc rfl (dc rfl dn)))))))))) dT))))
def u78 : Fu := fn K3.z [(pA pAA), (pA pAB), (pA pAC), (pA pAD), (pA pAE), (pA pAF), (pA pAG), (pA pAH), (pA pBA), (pA pBB), (pA pBC), (pA pBD)] (cSeq (cReg ((o1 vMov (gA gAA) (pA pCB)) <|
((o1 vLen (gA gCB) (pA pCC)) <|
((o1 vMov (gA gCC) (pA pAE)) <|
 oEnd)))) (cSeq (cBlock 1 (cLoop (cSeq (cSeq (cReg ((o1 vMov (gA gAE) (pA pCD)) <|
((o2 vGeq (gA gCD) (gK (.int .i64 8)) (pA pCE)) <|
 oEnd))) (cIf (gA gCE) cSkip (cExit 1))) (cBlock 2 (cSeq (cReg ((o1 vMov (gA gAB) (pA pCF)) <|
((o2 (vBin .rem) (gA gCF) (gK (.int .u64 100000000)) (pA pCG)) <|
((o1 (vCvi .u32) (gA gCG) (pA pCH)) <|
((o1 vMov (gA gCH) (pA pAF)) <|
 oEnd))))) (cSeq (cReg ((o1 vMov (gA gAB) (pA pDA)) <|
((o2 (vBin .quo) (gA gDA) (gK (.int .u64 100000000)) (pA pDB)) <|
((o1 vMov (gA gDB) (pA pAB)) <|
 oEnd)))) (cSeq (cReg ((o1 vMov (gA gAF) (pA pDC)) <|
((o2 (vBin .quo) (gA gDC) (gK (.int .u32 10000)) (pA pDD)) <|
((o1 vMov (gA gAF) (pA pDE)) <|
((o2 (vBin .rem) (gA gDE) (gK (.int .u32 10000)) (pA pDF)) <|
((o1 vMov (gA gDD) (pA pAG)) <|
((o1 vMov (gA gDF) (pA pAH)) <|
 oEnd))))))) (cSeq (cReg ((o1 vMov (gA gAH) (pA pDG)) <|
((o2 (vBin .quo) (gA gDG) (gK (.int .u32 100)) (pA pDH)) <|
((o2 (vBin .mul) (gA gDH) (gK (.int .u32 2)) (pA pEA)) <|
((o1 vMov (gA gAH) (pA pEB)) <|
((o2 (vBin .rem) (gA gEB) (gK (.int .u32 100)) (pA pEC)) <|
((o2 (vBin .mul) (gA gEC) (gK (.int .u32 2)) (pA pED)) <|
((o1 vMov (gA gEA) (pA pBA)) <|
((o1 vMov (gA gED) (pA pBB)) <|
 oEnd))))))))) (cSeq (cReg ((o1 vMov (gA gAG) (pA pEE)) <|
((o2 (vBin .quo) (gA gEE) (gK (.int .u32 100)) (pA pEF)) <|
((o2 (vBin .mul) (gA gEF) (gK (.int .u32 2)) (pA pEG)) <|
((o1 vMov (gA gAG) (pA pEH)) <|
((o2 (vBin .rem) (gA gEH) (gK (.int .u32 100)) (pA pFA)) <|
((o2 (vBin .mul) (gA gFA) (gK (.int .u32 2)) (pA pFB)) <|
((o1 vMov (gA gEG) (pA pBC)) <|
((o1 vMov (gA gFB) (pA pBD)) <|
 oEnd))))))))) (cSeq (cReg ((o1 vMov (gA gAA) (pA pFC)) <|
((o1 vMov (gA gAE) (pA pFD)) <|
((o2 vSub (gA gFD) (gK (.int .i64 1)) (pA pFE)) <|
((o1 vMov (gA gAA) (pA pFF)) <|
((o1 vMov (gA gAE) (pA pFG)) <|
((o2 vSub (gA gFG) (gK (.int .i64 2)) (pA pFH)) <|
((o1 vMov (gA gBB) (pA pGA)) <|
((o2 vAdd (gA gGA) (gK (.int .u32 1)) (pA pGB)) <|
((o2 vIdxS (gK (.str [48, 48, 48, 49, 48, 50, 48, 51, 48, 52, 48, 53, 48, 54, 48, 55, 48, 56, 48, 57, 49, 48, 49, 49, 49, 50, 49, 51, 49, 52, 49, 53, 49, 54, 49, 55, 49, 56, 49, 57, 50, 48, 50, 49, 50, 50, 50, 51, 50, 52, 50, 53, 50, 54, 50, 55, 50, 56, 50, 57, 51, 48, 51, 49, 51, 50, 51, 51, 51, 52, 51, 53, 51, 54, 51, 55, 51, 56, 51, 57, 52, 48, 52, 49, 52, 50, 52, 51, 52, 52, 52, 53, 52, 54, 52, 55, 52, 56, 52, 57, 53, 48, 53, 49, 53, 50, 53, 51, 53, 52, 53, 53, 53, 54, 53, 55, 53, 56, 53, 57, 54, 48, 54, 49, 54, 50, 54, 51, 54, 52, 54, 53, 54, 54, 54, 55, 54, 56, 54, 57, 55, 48, 55, 49, 55, 50, 55, 51, 55, 52, 55, 53, 55, 54, 55, 55, 55, 56, 55, 57, 56, 48, 56, 49, 56, 50, 56, 51, 56, 52, 56, 53, 56, 54, 56, 55, 56, 56, 56, 57, 57, 48, 57, 49, 57, 50, 57, 51, 57, 52, 57, 53, 57, 54, 57, 55, 57, 56, 57, 57])) (gA gGB) (pA pGC)) <|
((o1 vMov (gA gBB) (pA pGD)) <|
((o2 vIdxS (gK (.str [48, 48, 48, 49, 48, 50, 48, 51, 48, 52, 48, 53, 48, 54, 48, 55, 48, 56, 48, 57, 49, 48, 49, 49, 49, 50, 49, 51, 49, 52, 49, 53, 49, 54, 49, 55, 49, 56, 49, 57, 50, 48, 50, 49, 50, 50, 50, 51, 50, 52, 50, 53, 50, 54, 50, 55, 50, 56, 50, 57, 51, 48, 51, 49, 51, 50, 51, 51, 51, 52, 51, 53, 51, 54, 51, 55, 51, 56, 51, 57, 52, 48, 52, 49, 52, 50, 52, 51, 52, 52, 52, 53, 52, 54, 52, 55, 52, 56, 52, 57, 53, 48, 53, 49, 53, 50, 53, 51, 53, 52, 53, 53, 53, 54, 53, 55, 53, 56, 53, 57, 54, 48, 54, 49, 54, 50, 54, 51, 54, 52, 54, 53, 54, 54, 54, 55, 54, 56, 54, 57, 55, 48, 55, 49, 55, 50, 55, 51, 55, 52, 55, 53, 55, 54, 55, 55, 55, 56, 55, 57, 56, 48, 56, 49, 56, 50, 56, 51, 56, 52, 56, 53, 56, 54, 56, 55, 56, 56, 56, 57, 57, 48, 57, 49, 57, 50, 57, 51, 57, 52, 57, 53, 57, 54, 57, 55, 57, 56, 57, 57])) (gA gGD) (pA pGE)) <|
((o2 (vIadS 1) (gA gFC) (gA gFE) (pA pGF)) <|
((oStore 1 (gA gGF) (gA gGC)) <|
((o2 (vIadS 1) (gA gFF) (gA gFH) (pA pGG)) <|
((oStore 1 (gA gGG) (gA gGE)) <|
 oEnd)))))))))))))))) (cSeq (cReg ((o1 vMov (gA gAA) (pA pGH)) <|
((o1 vMov (gA gAE) (pA pHA)) <|
((o2 vSub (gA gHA) (gK (.int .i64 3)) (pA pHB)) <|
((o1 vMov (gA gAA) (pA pHC)) <|
((o1 vMov (gA gAE) (pA pHD)) <|
((o2 vSub (gA gHD) (gK (.int .i64 4)) (pA pHE)) <|
((o1 vMov (gA gBA) (pA pHF)) <|
((o2 vAdd (gA gHF) (gK (.int .u32 1)) (pA pHG)) <|
((o2 vIdxS (gK (.str [48, 48, 48, 49, 48, 50, 48, 51, 48, 52, 48, 53, 48, 54, 48, 55, 48, 56, 48, 57, 49, 48, 49, 49, 49, 50, 49, 51, 49, 52, 49, 53, 49, 54, 49, 55, 49, 56, 49, 57, 50, 48, 50, 49, 50, 50, 50, 51, 50, 52, 50, 53, 50, 54, 50, 55, 50, 56, 50, 57, 51, 48, 51, 49, 51, 50, 51, 51, 51, 52, 51, 53, 51, 54, 51, 55, 51, 56, 51, 57, 52, 48, 52, 49, 52, 50, 52, 51, 52, 52, 52, 53, 52, 54, 52, 55, 52, 56, 52, 57, 53, 48, 53, 49, 53, 50, 53, 51, 53, 52, 53, 53, 53, 54, 53, 55, 53, 56, 53, 57, 54, 48, 54, 49, 54, 50, 54, 51, 54, 52, 54, 53, 54, 54, 54, 55, 54, 56, 54, 57, 55, 48, 55, 49, 55, 50, 55, 51, 55, 52, 55, 53, 55, 54, 55, 55, 55, 56, 55, 57, 56, 48, 56, 49, 56, 50, 56, 51, 56, 52, 56, 53, 56, 54, 56, 55, 56, 56, 56, 57, 57, 48, 57, 49, 57, 50, 57, 51, 57, 52, 57, 53, 57, 54, 57, 55, 57, 56, 57, 57])) (gA gHG) (pA pHH)) <|
((o1 vMov (gA gBA) (pB pAA)) <|
((o2 vIdxS (gK (.str [48, 48, 48, 49, 48, 50, 48, 51, 48, 52, 48, 53, 48, 54, 48, 55, 48, 56, 48, 57, 49, 48, 49, 49, 49, 50, 49, 51, 49, 52, 49, 53, 49, 54, 49, 55, 49, 56, 49, 57, 50, 48, 50, 49, 50, 50, 50, 51, 50, 52, 50, 53, 50, 54, 50, 55, 50, 56, 50, 57, 51, 48, 51, 49, 51, 50, 51, 51, 51, 52, 51, 53, 51, 54, 51, 55, 51, 56, 51, 57, 52, 48, 52, 49, 52, 50, 52, 51, 52, 52, 52, 53, 52, 54, 52, 55, 52, 56, 52, 57, 53, 48, 53, 49, 53, 50, 53, 51, 53, 52, 53, 53, 53, 54, 53, 55, 53, 56, 53, 57, 54, 48, 54, 49, 54, 50, 54, 51, 54, 52, 54, 53, 54, 54, 54, 55, 54, 56, 54, 57, 55, 48, 55, 49, 55, 50, 55, 51, 55, 52, 55, 53, 55, 54, 55, 55, 55, 56, 55, 57, 56, 48, 56, 49, 56, 50, 56, 51, 56, 52, 56, 53, 56, 54, 56, 55, 56, 56, 56, 57, 57, 48, 57, 49, 57, 50, 57, 51, 57, 52, 57, 53, 57, 54, 57, 55, 57, 56, 57, 57])) (gB gAA) (pB pAB)) <|
((o2 (vIadS 1) (gA gGH) (gA gHB) (pB pAC)) <|
((oStore 1 (gB gAC) (gA gHH)) <|
((o2 (vIadS 1) (gA gHC) (gA gHE) (pB pAD)) <|
((oStore 1 (gB gAD) (gB gAB)) <|
 oEnd)))))))))))))))) (cSeq (cReg ((o1 vMov (gA gAA) (pB pAE)) <|
((o1 vMov (gA gAE) (pB pAF)) <|
((o2 vSub (gB gAF) (gK (.int .i64 5)) (pB pAG)) <|
((o1 vMov (gA gAA) (pB pAH)) <|
((o1 vMov (gA gAE) (pB pBA)) <|
((o2 vSub (gB gBA) (gK (.int .i64 6)) (pB pBB)) <|
((o1 vMov (gA gBD) (pB pBC)) <|
((o2 vAdd (gB gBC) (gK (.int .u32 1)) (pB pBD)) <|
((o2 vIdxS (gK (.str [48, 48, 48, 49, 48, 50, 48, 51, 48, 52, 48, 53, 48, 54, 48, 55, 48, 56, 48, 57, 49, 48, 49, 49, 49, 50, 49, 51, 49, 52, 49, 53, 49, 54, 49, 55, 49, 56, 49, 57, 50, 48, 50, 49, 50, 50, 50, 51, 50, 52, 50, 53, 50, 54, 50, 55, 50, 56, 50, 57, 51, 48, 51, 49, 51, 50, 51, 51, 51, 52, 51, 53, 51, 54, 51, 55, 51, 56, 51, 57, 52, 48, 52, 49, 52, 50, 52, 51, 52, 52, 52, 53, 52, 54, 52, 55, 52, 56, 52, 57, 53, 48, 53, 49, 53, 50, 53, 51, 53, 52, 53, 53, 53, 54, 53, 55, 53, 56, 53, 57, 54, 48, 54, 49, 54, 50, 54, 51, 54, 52, 54, 53, 54, 54, 54, 55, 54, 56, 54, 57, 55, 48, 55, 49, 55, 50, 55, 51, 55, 52, 55, 53, 55, 54, 55, 55, 55, 56, 55, 57, 56, 48, 56, 49, 56, 50, 56, 51, 56, 52, 56, 53, 56, 54, 56, 55, 56, 56, 56, 57, 57, 48, 57, 49, 57, 50, 57, 51, 57, 52, 57, 53, 57, 54, 57, 55, 57, 56, 57, 57])) (gB gBD) (pB pBE)) <|
((o1 vMov (gA gBD) (pB pBF)) <|
((o2 vIdxS (gK (.str [48, 48, 48, 49, 48, 50, 48, 51, 48, 52, 48, 53, 48, 54, 48, 55, 48, 56, 48, 57, 49, 48, 49, 49, 49, 50, 49, 51, 49, 52, 49, 53, 49, 54, 49, 55, 49, 56, 49, 57, 50, 48, 50, 49, 50, 50, 50, 51, 50, 52, 50, 53, 50, 54, 50, 55, 50, 56, 50, 57, 51, 48, 51, 49, 51, 50, 51, 51, 51, 52, 51, 53, 51, 54, 51, 55, 51, 56, 51, 57, 52, 48, 52, 49, 52, 50, 52, 51, 52, 52, 52, 53, 52, 54, 52, 55, 52, 56, 52, 57, 53, 48, 53, 49, 53, 50, 53, 51, 53, 52, 53, 53, 53, 54, 53, 55, 53, 56, 53, 57, 54, 48, 54, 49, 54, 50, 54, 51, 54, 52, 54, 53, 54, 54, 54, 55, 54, 56, 54, 57, 55, 48, 55, 49, 55, 50, 55, 51, 55, 52, 55, 53, 55, 54, 55, 55, 55, 56, 55, 57, 56, 48, 56, 49, 56, 50, 56, 51, 56, 52, 56, 53, 56, 54, 56, 55, 56, 56, 56, 57, 57, 48, 57, 49, 57, 50, 57, 51, 57, 52, 57, 53, 57, 54, 57, 55, 57, 56, 57, 57])) (gB gBF) (pB pBG)) <|
((o2 (vIadS 1) (gB gAE) (gB gAG) (pB pBH)) <|
((oStore 1 (gB gBH) (gB gBE)) <|
((o2 (vIadS 1) (gB gAH) (gB gBB) (pB pCA)) <|
((oStore 1 (gB gCA) (gB gBG)) <|
 oEnd)))))))))))))))) (cSeq (cReg ((o1 vMov (gA gAA) (pB pCB)) <|
((o1 vMov (gA gAE) (pB pCC)) <|
((o2 vSub (gB gCC) (gK (.int .i64 7)) (pB pCD)) <|
((o1 vMov (gA gAA) (pB pCE)) <|
((o1 vMov (gA gAE) (pB pCF)) <|
((o2 vSub (gB gCF) (gK (.int .i64 8)) (pB pCG)) <|
((o1 vMov (gA gBC) (pB pCH)) <|
((o2 vAdd (gB gCH) (gK (.int .u32 1)) (pB pDA)) <|
((o2 vIdxS (gK (.str [48, 48, 48, 49, 48, 50, 48, 51, 48, 52, 48, 53, 48, 54, 48, 55, 48, 56, 48, 57, 49, 48, 49, 49, 49, 50, 49, 51, 49, 52, 49, 53, 49, 54, 49, 55, 49, 56, 49, 57, 50, 48, 50, 49, 50, 50, 50, 51, 50, 52, 50, 53, 50, 54, 50, 55, 50, 56, 50, 57, 51, 48, 51, 49, 51, 50, 51, 51, 51, 52, 51, 53, 51, 54, 51, 55, 51, 56, 51, 57, 52, 48, 52, 49, 52, 50, 52, 51, 52, 52, 52, 53, 52, 54, 52, 55, 52, 56, 52, 57, 53, 48, 53, 49, 53, 50, 53, 51, 53, 52, 53, 53, 53, 54, 53, 55, 53, 56, 53, 57, 54, 48, 54, 49, 54, 50, 54, 51, 54, 52, 54, 53, 54, 54, 54, 55, 54, 56, 54, 57, 55, 48, 55, 49, 55, 50, 55, 51, 55, 52, 55, 53, 55, 54, 55, 55, 55, 56, 55, 57, 56, 48, 56, 49, 56, 50, 56, 51, 56, 52, 56, 53, 56, 54, 56, 55, 56, 56, 56, 57, 57, 48, 57, 49, 57, 50, 57, 51, 57, 52, 57, 53, 57, 54, 57, 55, 57, 56, 57, 57])) (gB gDA) (pB pDB)) <|
((o1 vMov (gA gBC) (pB pDC)) <|
((o2 vIdxS (gK (.str [48, 48, 48, 49, 48, 50, 48, 51, 48, 52, 48, 53, 48, 54, 48, 55, 48, 56, 48, 57, 49, 48, 49, 49, 49, 50, 49, 51, 49, 52, 49, 53, 49, 54, 49, 55, 49, 56, 49, 57, 50, 48, 50, 49, 50, 50, 50, 51, 50, 52, 50, 53, 50, 54, 50, 55, 50, 56, 50, 57, 51, 48, 51, 49, 51, 50, 51, 51, 51, 52, 51, 53, 51, 54, 51, 55, 51, 56, 51, 57, 52, 48, 52, 49, 52, 50, 52, 51, 52, 52, 52, 53, 52, 54, 52, 55, 52, 56, 52, 57, 53, 48, 53, 49, 53, 50, 53, 51, 53, 52, 53, 53, 53, 54, 53, 55, 53, 56, 53, 57, 54, 48, 54, 49, 54, 50, 54, 51, 54, 52, 54, 53, 54, 54, 54, 55, 54, 56, 54, 57, 55, 48, 55, 49, 55, 50, 55, 51, 55, 52, 55, 53, 55, 54, 55, 55, 55, 56, 55, 57, 56, 48, 56, 49, 56, 50, 56, 51, 56, 52, 56, 53, 56, 54, 56, 55, 56, 56, 56, 57, 57, 48, 57, 49, 57, 50, 57, 51, 57, 52, 57, 53, 57, 54, 57, 55, 57, 56, 57, 57])) (gB gDC) (pB pDD)) <|
((o2 (vIadS 1) (gB gCB) (gB gCD) (pB pDE)) <|
((oStore 1 (gB gDE) (gB gDB)) <|
((o2 (vIadS 1) (gB gCE) (gB gCG) (pB pDF)) <|
((oStore 1 (gB gDF) (gB gDD)) <|
 oEnd)))))))))))))))) (cReg ((o1 vMov (gA gAE) (pB pDG)) <|
((o2 vSub (gB gDG) (gK (.int .i64 8)) (pB pDH)) <|
((o1 vMov (gB gDH) (pA pAE)) <|
 oEnd))))))))))))))))) (cSeq (cReg ((o1 vMov (gA gAB) (pB pEA)) <|
((o1 (vCvi .u32) (gB gEA) (pB pEB)) <|
((o1 vMov (gB gEB) (pA pBE)) <|
 oEnd)))) (cSeq (cSeq (cReg ((o1 vMov (gA gAE) (pB pEC)) <|
((o2 vGeq (gB gEC) (gK (.int .i64 4)) (pB pED)) <|
 oEnd))) (cIf (gB gED) (cSeq (cReg ((o1 vMov (gA gBE) (pB pEE)) <|
((o2 (vBin .rem) (gB gEE) (gK (.int .u32 10000)) (pB pEF)) <|
((o1 vMov (gB gEF) (pA pBF)) <|
 oEnd)))) (cSeq (cReg ((o1 vMov (gA gBE) (pB pEG)) <|
((o2 (vBin .quo) (gB gEG) (gK (.int .u32 10000)) (pB pEH)) <|
((o1 vMov (gB gEH) (pA pBE)) <|
 oEnd)))) (cSeq (cReg ((o1 vMov (gA gBF) (pB pFA)) <|
((o2 (vBin .quo) (gB gFA) (gK (.int .u32 100)) (pB pFB)) <|
((o2 (vBin .mul) (gB gFB) (gK (.int .u32 2)) (pB pFC)) <|
((o1 vMov (gA gBF) (pB pFD)) <|
((o2 (vBin .rem) (gB gFD) (gK (.int .u32 100)) (pB pFE)) <|
((o2 (vBin .mul) (gB gFE) (gK (.int .u32 2)) (pB pFF)) <|
((o1 vMov (gB gFC) (pA pBG)) <|
((o1 vMov (gB gFF) (pA pBH)) <|
 oEnd))))))))) (cSeq (cReg ((o1 vMov (gA gAA) (pB pFG)) <|
((o1 vMov (gA gAE) (pB pFH)) <|
((o2 vSub (gB gFH) (gK (.int .i64 1)) (pB pGA)) <|
((o1 vMov (gA gAA) (pB pGB)) <|
((o1 vMov (gA gAE) (pB pGC)) <|
((o2 vSub (gB gGC) (gK (.int .i64 2)) (pB pGD)) <|
((o1 vMov (gA gBH) (pB pGE)) <|
((o2 vAdd (gB gGE) (gK (.int .u32 1)) (pB pGF)) <|
((o2 vIdxS (gK (.str [48, 48, 48, 49, 48, 50, 48, 51, 48, 52, 48, 53, 48, 54, 48, 55, 48, 56, 48, 57, 49, 48, 49, 49, 49, 50, 49, 51, 49, 52, 49, 53, 49, 54, 49, 55, 49, 56, 49, 57, 50, 48, 50, 49, 50, 50, 50, 51, 50, 52, 50, 53, 50, 54, 50, 55, 50, 56, 50, 57, 51, 48, 51, 49, 51, 50, 51, 51, 51, 52, 51, 53, 51, 54, 51, 55, 51, 56, 51, 57, 52, 48, 52, 49, 52, 50, 52, 51, 52, 52, 52, 53, 52, 54, 52, 55, 52, 56, 52, 57, 53, 48, 53, 49, 53, 50, 53, 51, 53, 52, 53, 53, 53, 54, 53, 55, 53, 56, 53, 57, 54, 48, 54, 49, 54, 50, 54, 51, 54, 52, 54, 53, 54, 54, 54, 55, 54, 56, 54, 57, 55, 48, 55, 49, 55, 50, 55, 51, 55, 52, 55, 53, 55, 54, 55, 55, 55, 56, 55, 57, 56, 48, 56, 49, 56, 50, 56, 51, 56, 52, 56, 53, 56, 54, 56, 55, 56, 56, 56, 57, 57, 48, 57, 49, 57, 50, 57, 51, 57, 52, 57, 53, 57, 54, 57, 55, 57, 56, 57, 57])) (gB gGF) (pB pGG)) <|
((o1 vMov (gA gBH) (pB pGH)) <|
((o2 vIdxS (gK (.str [48, 48, 48, 49, 48, 50, 48, 51, 48, 52, 48, 53, 48, 54, 48, 55, 48, 56, 48, 57, 49, 48, 49, 49, 49, 50, 49, 51, 49, 52, 49, 53, 49, 54, 49, 55, 49, 56, 49, 57, 50, 48, 50, 49, 50, 50, 50, 51, 50, 52, 50, 53, 50, 54, 50, 55, 50, 56, 50, 57, 51, 48, 51, 49, 51, 50, 51, 51, 51, 52, 51, 53, 51, 54, 51, 55, 51, 56, 51, 57, 52, 48, 52, 49, 52, 50, 52, 51, 52, 52, 52, 53, 52, 54, 52, 55, 52, 56, 52, 57, 53, 48, 53, 49, 53, 50, 53, 51, 53, 52, 53, 53, 53, 54, 53, 55, 53, 56, 53, 57, 54, 48, 54, 49, 54, 50, 54, 51, 54, 52, 54, 53, 54, 54, 54, 55, 54, 56, 54, 57, 55, 48, 55, 49, 55, 50, 55, 51, 55, 52, 55, 53, 55, 54, 55, 55, 55, 56, 55, 57, 56, 48, 56, 49, 56, 50, 56, 51, 56, 52, 56, 53, 56, 54, 56, 55, 56, 56, 56, 57, 57, 48, 57, 49, 57, 50, 57, 51, 57, 52, 57, 53, 57, 54, 57, 55, 57, 56, 57, 57])) (gB gGH) (pB pHA)) <|
((o2 (vIadS 1) (gB gFG) (gB gGA) (pB pHB)) <|
((oStore 1 (gB gHB) (gB gGG)) <|
((o2 (vIadS 1) (gB gGB) (gB gGD) (pB pHC)) <|
((oStore 1 (gB gHC) (gB gHA)) <|
 oEnd)))))))))))))))) (cSeq (cReg ((o1 vMov (gA gAA) (pB pHD)) <|
((o1 vMov (gA gAE) (pB pHE)) <|
((o2 vSub (gB gHE) (gK (.int .i64 3)) (pB pHF)) <|
((o1 vMov (gA gAA) (pB pHG)) <|
((o1 vMov (gA gAE) (pB pHH)) <|
((o2 vSub (gB gHH) (gK (.int .i64 4)) (pC pAA)) <|
((o1 vMov (gA gBG) (pC pAB)) <|
((o2 vAdd (gC gAB) (gK (.int .u32 1)) (pC pAC)) <|
((o2 vIdxS (gK (.str [48, 48, 48, 49, 48, 50, 48, 51, 48, 52, 48, 53, 48, 54, 48, 55, 48, 56, 48, 57, 49, 48, 49, 49, 49, 50, 49, 51, 49, 52, 49, 53, 49, 54, 49, 55, 49, 56, 49, 57, 50, 48, 50, 49, 50, 50, 50, 51, 50, 52, 50, 53, 50, 54, 50, 55, 50, 56, 50, 57, 51, 48, 51, 49, 51, 50, 51, 51, 51, 52, 51, 53, 51, 54, 51, 55, 51, 56, 51, 57, 52, 48, 52, 49, 52, 50, 52, 51, 52, 52, 52, 53, 52, 54, 52, 55, 52, 56, 52, 57, 53, 48, 53, 49, 53, 50, 53, 51, 53, 52, 53, 53, 53, 54, 53, 55, 53, 56, 53, 57, 54, 48, 54, 49, 54, 50, 54, 51, 54, 52, 54, 53, 54, 54, 54, 55, 54, 56, 54, 57, 55, 48, 55, 49, 55, 50, 55, 51, 55, 52, 55, 53, 55, 54, 55, 55, 55, 56, 55, 57, 56, 48, 56, 49, 56, 50, 56, 51, 56, 52, 56, 53, 56, 54, 56, 55, 56, 56, 56, 57, 57, 48, 57, 49, 57, 50, 57, 51, 57, 52, 57, 53, 57, 54, 57, 55, 57, 56, 57, 57])) (gC gAC) (pC pAD)) <|
((o1 vMov (gA gBG) (pC pAE)) <|
((o2 vIdxS (gK (.str [48, 48, 48, 49, 48, 50, 48, 51, 48, 52, 48, 53, 48, 54, 48, 55, 48, 56, 48, 57, 49, 48, 49, 49, 49, 50, 49, 51, 49, 52, 49, 53, 49, 54, 49, 55, 49, 56, 49, 57, 50, 48, 50, 49, 50, 50, 50, 51, 50, 52, 50, 53, 50, 54, 50, 55, 50, 56, 50, 57, 51, 48, 51, 49, 51, 50, 51, 51, 51, 52, 51, 53, 51, 54, 51, 55, 51, 56, 51, 57, 52, 48, 52, 49, 52, 50, 52, 51, 52, 52, 52, 53, 52, 54, 52, 55, 52, 56, 52, 57, 53, 48, 53, 49, 53, 50, 53, 51, 53, 52, 53, 53, 53, 54, 53, 55, 53, 56, 53, 57, 54, 48, 54, 49, 54, 50, 54, 51, 54, 52, 54, 53, 54, 54, 54, 55, 54, 56, 54, 57, 55, 48, 55, 49, 55, 50, 55, 51, 55, 52, 55, 53, 55, 54, 55, 55, 55, 56, 55, 57, 56, 48, 56, 49, 56, 50, 56, 51, 56, 52, 56, 53, 56, 54, 56, 55, 56, 56, 56, 57, 57, 48, 57, 49, 57, 50, 57, 51, 57, 52, 57, 53, 57, 54, 57, 55, 57, 56, 57, 57])) (gC gAE) (pC pAF)) <|
((o2 (vIadS 1) (gB gHD) (gB gHF) (pC pAG)) <|
((oStore 1 (gC gAG) (gC gAD)) <|
((o2 (vIadS 1) (gB gHG) (gC gAA) (pC pAH)) <|
((oStore 1 (gC gAH) (gC gAF)) <|
 oEnd)))))))))))))))) (cReg ((o1 vMov (gA gAE) (pC pBA)) <|
((o2 vSub (gC gBA) (gK (.int .i64 4)) (pC pBB)) <|
((o1 vMov (gC gBB) (pA pAE)) <|
 oEnd))))))))) cSkip)) (cSeq (cSeq (cReg ((o1 vMov (gA gAE) (pC pBC)) <|
((o2 vGeq (gC gBC) (gK (.int .i64 2)) (pC pBD)) <|
 oEnd))) (cIf (gC gBD) (cSeq (cReg ((o1 vMov (gA gBE) (pC pBE)) <|
((o2 (vBin .rem) (gC gBE) (gK (.int .u32 100)) (pC pBF)) <|
((o2 (vBin .mul) (gC gBF) (gK (.int .u32 2)) (pC pBG)) <|
((o1 vMov (gC gBG) (pA pCA)) <|
 oEnd))))) (cSeq (cReg ((o1 vMov (gA gBE) (pC pBH)) <|
((o2 (vBin .quo) (gC gBH) (gK (.int .u32 100)) (pC pCA)) <|
((o1 vMov (gC gCA) (pA pBE)) <|
 oEnd)))) (cSeq (cReg ((o1 vMov (gA gAA) (pC pCB)) <|
((o1 vMov (gA gAE) (pC pCC)) <|
((o2 vSub (gC gCC) (gK (.int .i64 1)) (pC pCD)) <|
((o1 vMov (gA gAA) (pC pCE)) <|
((o1 vMov (gA gAE) (pC pCF)) <|
((o2 vSub (gC gCF) (gK (.int .i64 2)) (pC pCG)) <|
((o1 vMov (gA gCA) (pC pCH)) <|
((o2 vAdd (gC gCH) (gK (.int .u32 1)) (pC pDA)) <|
((o2 vIdxS (gK (.str [48, 48, 48, 49, 48, 50, 48, 51, 48, 52, 48, 53, 48, 54, 48, 55, 48, 56, 48, 57, 49, 48, 49, 49, 49, 50, 49, 51, 49, 52, 49, 53, 49, 54, 49, 55, 49, 56, 49, 57, 50, 48, 50, 49, 50, 50, 50, 51, 50, 52, 50, 53, 50, 54, 50, 55, 50, 56, 50, 57, 51, 48, 51, 49, 51, 50, 51, 51, 51, 52, 51, 53, 51, 54, 51, 55, 51, 56, 51, 57, 52, 48, 52, 49, 52, 50, 52, 51, 52, 52, 52, 53, 52, 54, 52, 55, 52, 56, 52, 57, 53, 48, 53, 49, 53, 50, 53, 51, 53, 52, 53, 53, 53, 54, 53, 55, 53, 56, 53, 57, 54, 48, 54, 49, 54, 50, 54, 51, 54, 52, 54, 53, 54, 54, 54, 55, 54, 56, 54, 57, 55, 48, 55, 49, 55, 50, 55, 51, 55, 52, 55, 53, 55, 54, 55, 55, 55, 56, 55, 57, 56, 48, 56, 49, 56, 50, 56, 51, 56, 52, 56, 53, 56, 54, 56, 55, 56, 56, 56, 57, 57, 48, 57, 49, 57, 50, 57, 51, 57, 52, 57, 53, 57, 54, 57, 55, 57, 56, 57, 57])) (gC gDA) (pC pDB)) <|
((o1 vMov (gA gCA) (pC pDC)) <|
((o2 vIdxS (gK (.str [48, 48, 48, 49, 48, 50, 48, 51, 48, 52, 48, 53, 48, 54, 48, 55, 48, 56, 48, 57, 49, 48, 49, 49, 49, 50, 49, 51, 49, 52, 49, 53, 49, 54, 49, 55, 49, 56, 49, 57, 50, 48, 50, 49, 50, 50, 50, 51, 50, 52, 50, 53, 50, 54, 50, 55, 50, 56, 50, 57, 51, 48, 51, 49, 51, 50, 51, 51, 51, 52, 51, 53, 51, 54, 51, 55, 51, 56, 51, 57, 52, 48, 52, 49, 52, 50, 52, 51, 52, 52, 52, 53, 52, 54, 52, 55, 52, 56, 52, 57, 53, 48, 53, 49, 53, 50, 53, 51, 53, 52, 53, 53, 53, 54, 53, 55, 53, 56, 53, 57, 54, 48, 54, 49, 54, 50, 54, 51, 54, 52, 54, 53, 54, 54, 54, 55, 54, 56, 54, 57, 55, 48, 55, 49, 55, 50, 55, 51, 55, 52, 55, 53, 55, 54, 55, 55, 55, 56, 55, 57, 56, 48, 56, 49, 56, 50, 56, 51, 56, 52, 56, 53, 56, 54, 56, 55, 56, 56, 56, 57, 57, 48, 57, 49, 57, 50, 57, 51, 57, 52, 57, 53, 57, 54, 57, 55, 57, 56, 57, 57])) (gC gDC) (pC pDD)) <|
((o2 (vIadS 1) (gC gCB) (gC gCD) (pC pDE)) <|
((oStore 1 (gC gDE) (gC gDB)) <|
((o2 (vIadS 1) (gC gCE) (gC gCG) (pC pDF)) <|
((oStore 1 (gC gDF) (gC gDD)) <|
 oEnd)))))))))))))))) (cReg ((o1 vMov (gA gAE) (pC pDG)) <|
((o2 vSub (gC gDG) (gK (.int .i64 2)) (pC pDH)) <|
((o1 vMov (gC gDH) (pA pAE)) <|
 oEnd))))))) cSkip)) (cSeq (cReg ((o1 vMov (gA gAE) (pC pEA)) <|
((o2 vGtr (gC gEA) (gK (.int .i64 0)) (pC pEB)) <|
 oEnd))) (cIf (gC gEB) (cReg ((o1 vMov (gA gAA) (pC pEC)) <|
((o1 vMov (gA gBE) (pC pED)) <|
((o2 vAdd (gK (.int .u32 48)) (gC gED) (pC pEE)) <|
((o1 (vCvi .u8) (gC gEE) (pC pEF)) <|
((o2 (vIadS 1) (gC gEC) (gK (.int .i64 0)) (pC pEG)) <|
((oStore 1 (gC gEG) (gC gEF)) <|
 oEnd))))))) cSkip))))))) []
theorem u78_ok : denA k78 = u78 := dA3 rfl rfl rfl (dF rfl rfl rfl (dS (dR (dc rfl (dc rfl (dc rfl dn)))) (dS (dB (dL (dS (dS (dR (dc rfl (dc rfl dn))) (dI rfl rfl dK dX)) (dB (dS (dR (dc rfl (dc rfl (dc rfl (dc rfl dn))))) (dS (dR (dc rfl (dc rfl (dc rfl dn)))) (dS (dR (dc rfl (dc rfl (dc rfl (dc rfl (dc rfl (dc rfl dn))))))) (dS (dR (dc rfl (dc rfl (dc rfl (dc rfl (dc rfl (dc rfl (dc rfl (dc rfl dn))))))))) (dS (dR (dc rfl (dc rfl (dc rfl (dc rfl (dc rfl (dc rfl (dc rfl (dc rfl dn))))))))) (dS (dR (dc rfl (dc rfl (dc rfl (dc rfl (dc rfl (dc rfl (dc rfl (dc rfl (dc rfl (dc rfl (dc rfl (dc rfl (dc rfl (dc rfl (dc rfl dn)))))))))))))))) (dS (dR (dc rfl (dc rfl (dc rfl (dc rfl (dc rfl (dc rfl (dc rfl (dc rfl (dc rfl (dc rfl (dc rfl (dc rfl (dc rfl (dc rfl (dc rfl dn)))))))))))))))) (dS (dR (dc rfl (dc rfl (dc rfl (dc rfl (dc rfl (dc rfl (dc rfl (dc rfl (dc rfl (dc rfl (dc rfl (dc rfl (dc rfl (dc rfl (dc rfl dn)))))))))))))))) (dS (dR (dc rfl (dc rfl (dc rfl (dc rfl (dc rfl (dc rfl (dc rfl (dc rfl (dc rfl (dc rfl (dc rfl (dc rfl (dc rfl (dc rfl (dc rfl dn)))))))))))))))) (dR (dc rfl (dc rfl (dc rfl dn))))))))))))))))) (dS (dR (dc rfl (dc rfl (dc rfl dn)))) (dS (dS (dR (dc rfl (dc rfl dn))) (dI rfl rfl (dS (dR (dc rfl (dc rfl (dc rfl dn)))) (dS (dR (dc rfl (dc rfl (dc rfl dn)))) (dS (dR (dc rfl (dc rfl (dc rfl (dc rfl (dc rfl (dc rfl (dc rfl (dc rfl dn))))))))) (dS (dR (dc rfl (dc rfl (dc rfl (dc rfl (dc rfl (dc rfl (dc rfl (dc rfl (dc rfl (dc rfl (dc rfl (dc rfl (dc rfl (dc rfl (dc rfl dn)))))))))))))))) (dS (dR (dc rfl (dc rfl (dc rfl (dc rfl (dc rfl (dc rfl (dc rfl (dc rfl (dc rfl (dc rfl (dc rfl (dc rfl (dc rfl (dc rfl (dc rfl dn)))))))))))))))) (dR (dc rfl (dc rfl (dc rfl dn))))))))) dK)) (dS (dS (dR (dc rfl (dc rfl dn))) (dI rfl rfl (dS (dR (dc rfl (dc rfl (dc rfl (dc rfl dn))))) (dS (dR (dc rfl (dc rfl (dc rfl dn)))) (dS (dR (dc rfl (dc rfl (dc rfl (dc rfl (dc rfl (dc rfl (dc rfl (dc rfl (dc rfl (dc rfl (dc rfl (dc rfl (dc rfl (dc rfl (dc rfl dn)))))))))))))))) (dR (dc rfl (dc rfl (dc rfl dn))))))) dK)) (dS (dR (dc rfl (dc rfl dn))) (dI rfl rfl (dR (dc rfl (dc rfl (dc rfl (dc rfl (dc rfl (dc rfl dn))))))) dK))))))))
def u79 : Fu := fn K3.z [(pA pAA), (pA pAB), (pA pAC), (pA pAD), (pA pAE), (pA pAF), (pA pAG), (pA pAH), (pA pBA), (pA pBB), (pA pBC), (pA pBD)] (cSeq (cReg ((o1 vMov (gK .nils) (pA pBC)) <|
((o1 vMov (gK (.str [])) (pA pBD)) <|
 oEnd))) (cSeq (cSeq (cReg ((o1 vMov (gA gAC) (pA pCD)) <|
((o2 vLss (gA gCD) (gK (.int .i64 2)) (pA pCE)) <|
((o1 vMov (gA gCE) (pA pCF)) <|
((oGuard (gA gCF) false (pA pCG) (o1 vMov (gA gAC) (pA pCG))) <|
((oGuard (gA gCF) false (pA pCH) (o2 vEql (gA gCG) (gK (.int .i64 10)) (pA pCH))) <|
((oSlow K3.gt ⟨some 24,none,.p (.pick (.t 21) (.c (.bool true)) (.t 23)),false,[]⟩ (pA pDA)) <|
((o1 vMov (gA gDA) (pA pDB)) <|
((oGuard (gA gDB) false (pA pDC) (o1 vMov (gA gAC) (pA pDC))) <|
((oGuard (gA gDB) false (pA pDD) (o2 vGtr (gA gDC) (gK (.int .i64 36)) (pA pDD))) <|
((oSlow K3.gt ⟨some 28,none,.p (.pick (.t 25) (.c (.bool true)) (.t 27)),false,[]⟩ (pA pDE)) <|
 oEnd))))))))))) (cIf (gA gDE) (cReg ((o1 (vMkif 9) (gK (.str [115, 116, 114, 99, 111, 110, 118, 58, 32, 105, 108, 108, 101, 103, 97, 108, 32, 65, 112, 112, 101, 110, 100, 73, 110, 116, 47, 70, 111, 114, 109, 97, 116, 73, 110, 116, 32, 98, 97, 115, 101])) (pA pDF)) <|
((oSlow K3.gt ⟨none, none, (.h .bad),false,[]⟩ pN) <|
 oEnd))) cSkip)) (cSeq (cReg ((oAlloc [(.int .u8 0), (.int .u8 0), (.int .u8 0), (.int .u8 0), (.int .u8 0), (.int .u8 0), (.int .u8 0), (.int .u8 0), (.int .u8 0), (.int .u8 0), (.int .u8 0), (.int .u8 0), (.int .u8 0), (.int .u8 0), (.int .u8 0), (.int .u8 0), (.int .u8 0), (.int .u8 0), (.int .u8 0), (.int .u8 0), (.int .u8 0), (.int .u8 0), (.int .u8 0), (.int .u8 0), (.int .u8 0), (.int .u8 0), (.int .u8 0), (.int .u8 0), (.int .u8 0), (.int .u8 0), (.int .u8 0), (.int .u8 0), (.int .u8 0), (.int .u8 0), (.int .u8 0), (.int .u8 0), (.int .u8 0), (.int .u8 0), (.int .u8 0), (.int .u8 0), (.int .u8 0), (.int .u8 0), (.int .u8 0), (.int .u8 0), (.int .u8 0), (.int .u8 0), (.int .u8 0), (.int .u8 0), (.int .u8 0), (.int .u8 0), (.int .u8 0), (.int .u8 0), (.int .u8 0), (.int .u8 0), (.int .u8 0), (.int .u8 0), (.int .u8 0), (.int .u8 0), (.int .u8 0), (.int .u8 0), (.int .u8 0), (.int .u8 0), (.int .u8 0), (.int .u8 0), (.int .u8 0)] (pA pBE)) <|
 oEnd)) (cSeq (cReg ((o1 vMov (gK (.int .i64 65)) (pA pBF)) <|
 oEnd)) (cSeq (cSeq (cReg ((o1 vMov (gA gAD) (pA pDG)) <|
 oEnd)) (cIf (gA gDG) (cReg ((o1 vMov (gA gAB) (pA pDH)) <|
((oSlow K3.gt ⟨some 32,none,.p (.neg (.t 31)),false,[]⟩ (pA pEA)) <|
((o1 vMov (gA gEA) (pA pAB)) <|
 oEnd)))) cSkip)) (cSeq (cSeq (cReg ((o1 vMov (gA gAC) (pA pEB)) <|
((oCall 88 [(gA gEB)] (pA pEC)) <|
 oEnd))) (cIf (gA gEC) (cSeq (cReg ((o1 vMov (gA gAC) (pA pED)) <|
((o1 (vCvi .u64) (gA gED) (pA pEE)) <|
((oCall 89 [(gA gEE)] (pA pEF)) <|
((o1 (vCvi .u64) (gA gEF) (pA pEG)) <|
((o1 vMov (gA gEG) (pA pBG)) <|
 oEnd)))))) (cSeq (cReg ((o1 vMov (gA gAC) (pA pEH)) <|
((o1 (vCvi .u64) (gA gEH) (pA pFA)) <|
((o1 vMov (gA gFA) (pA pBH)) <|
 oEnd)))) (cSeq (cReg ((o1 vMov (gA gAC) (pA pFB)) <|
((o1 (vCvi .u64) (gA gFB) (pA pFC)) <|
((o2 vSub (gA gFC) (gK (.int .u64 1)) (pA pFD)) <|
((o1 vMov (gA gFD) (pA pCA)) <|
 oEnd))))) (cSeq (cBlock 1 (cLoop (cSeq (cSeq (cReg ((o1 vMov (gA gAB) (pA pFE)) <|
((o1 vMov (gA gBH) (pA pFF)) <|
((o2 vGeq (gA gFE) (gA gFF) (pA pFG)) <|
 oEnd)))) (cIf (gA gFG) cSkip (cExit 1))) (cBlock 2 (cSeq (cReg ((o1 vMov (gA gBF) (pA pFH)) <|
((o2 vSub (gA gFH) (gK (.int .i64 1)) (pA pGA)) <|
((o1 vMov (gA gGA) (pA pBF)) <|
 oEnd)))) (cSeq (cReg ((o1 vMov (gA gBF) (pA pGB)) <|
((o1 vMov (gA gAB) (pA pGC)) <|
((o1 vMov (gA gCA) (pA pGD)) <|
((o2 (vBin .and) (gA gGC) (gA gGD) (pA pGE)) <|
((o2 vIdxS (gK (.str [48, 49, 50, 51, 52, 53, 54, 55, 56, 57, 97, 98, 99, 100, 101, 102, 103, 104, 105, 106, 107, 108, 109, 110, 111, 112, 113, 114, 115, 116, 117, 118, 119, 120, 121, 122])) (gA gGE) (pA pGF)) <|
((o2 (vIadA 65 1) (gA gBE) (gA gGB) (pA pGG)) <|
((oStore 1 (gA gGG) (gA gGF)) <|
 oEnd)))))))) (cReg ((o1 vMov (gA gAB) (pA pGH)) <|
((o1 vMov (gA gBG) (pA pHA)) <|
((o2 (vBin .shr) (gA gGH) (gA gHA) (pA pHB)) <|
((o1 vMov (gA gHB) (pA pAB)) <|
 oEnd))))))))))) (cSeq (cReg ((o1 vMov (gA gBF) (pA pHC)) <|
((o2 vSub (gA gHC) (gK (.int .i64 1)) (pA pHD)) <|
((o1 vMov (gA gHD) (pA pBF)) <|
 oEnd)))) (cReg ((o1 vMov (gA gBF) (pA pHE)) <|
((o1 vMov (gA gAB) (pA pHF)) <|
((o2 vIdxS (gK (.str [48, 49, 50, 51, 52, 53, 54, 55, 56, 57, 97, 98, 99, 100, 101, 102, 103, 104, 105, 106, 107, 108, 109, 110, 111, 112, 113, 114, 115, 116, 117, 118, 119, 120, 121, 122])) (gA gHF) (pA pHG)) <|
((o2 (vIadA 65 1) (gA gBE) (gA gHE) (pA pHH)) <|
((oStore 1 (gA gHH) (gA gHG)) <|
 oEnd))))))))))) (cSeq (cReg ((o1 vMov (gA gAC) (pB pAA)) <|
((o1 (vCvi .u64) (gB gAA) (pB pAB)) <|
((o1 vMov (gB gAB) (pA pCB)) <|
 oEnd)))) (cSeq (cBlock 3 (cLoop (cSeq (cSeq (cReg ((o1 vMov (gA gAB) (pB pAC)) <|
((o1 vMov (gA gCB) (pB pAD)) <|
((o2 vGeq (gB gAC) (gB gAD) (pB pAE)) <|
 oEnd)))) (cIf (gB gAE) cSkip (cExit 3))) (cBlock 4 (cSeq (cReg ((o1 vMov (gA gBF) (pB pAF)) <|
((o2 vSub (gB gAF) (gK (.int .i64 1)) (pB pAG)) <|
((o1 vMov (gB gAG) (pA pBF)) <|
 oEnd)))) (cSeq (cReg ((o1 vMov (gA gAB) (pB pAH)) <|
((o1 vMov (gA gCB) (pB pBA)) <|
((o2 (vBin .quo) (gB gAH) (gB gBA) (pB pBB)) <|
((o1 vMov (gB gBB) (pA pCC)) <|
 oEnd))))) (cSeq (cReg ((o1 vMov (gA gBF) (pB pBC)) <|
((o1 vMov (gA gAB) (pB pBD)) <|
((o1 vMov (gA gCC) (pB pBE)) <|
((o1 vMov (gA gCB) (pB pBF)) <|
((o2 (vBin .mul) (gB gBE) (gB gBF) (pB pBG)) <|
((o2 vSub (gB gBD) (gB gBG) (pB pBH)) <|
((o2 vIdxS (gK (.str [48, 49, 50, 51, 52, 53, 54, 55, 56, 57, 97, 98, 99, 100, 101, 102, 103, 104, 105, 106, 107, 108, 109, 110, 111, 112, 113, 114, 115, 116, 117, 118, 119, 120, 121, 122])) (gB gBH) (pB pCA)) <|
((o2 (vIadA 65 1) (gA gBE) (gB gBC) (pB pCB)) <|
((oStore 1 (gB gCB) (gB gCA)) <|
 oEnd)))))))))) (cReg ((o1 vMov (gA gCC) (pB pCC)) <|
((o1 vMov (gB gCC) (pA pAB)) <|
 oEnd)))))))))) (cSeq (cReg ((o1 vMov (gA gBF) (pB pCD)) <|
((o2 vSub (gB gCD) (gK (.int .i64 1)) (pB pCE)) <|
((o1 vMov (gB gCE) (pA pBF)) <|
 oEnd)))) (cReg ((o1 vMov (gA gBF) (pB pCF)) <|
((o1 vMov (gA gAB) (pB pCG)) <|
((o2 vIdxS (gK (.str [48, 49, 50, 51, 52, 53, 54, 55, 56, 57, 97, 98, 99, 100, 101, 102, 103, 104, 105, 106, 107, 108, 109, 110, 111, 112, 113, 114, 115, 116, 117, 118, 119, 120, 121, 122])) (gB gCG) (pB pCH)) <|
((o2 (vIadA 65 1) (gA gBE) (gB gCF) (pB pDA)) <|
((oStore 1 (gB gDA) (gB gCH)) <|
 oEnd))))))))))) (cSeq (cSeq (cReg ((o1 vMov (gA gAD) (pB pDB)) <|
 oEnd)) (cIf (gB gDB) (cSeq (cReg ((o1 vMov (gA gBF) (pB pDC)) <|
((o2 vSub (gB gDC) (gK (.int .i64 1)) (pB pDD)) <|
((o1 vMov (gB gDD) (pA pBF)) <|
 oEnd)))) (cReg ((o1 vMov (gA gBF) (pB pDE)) <|
((o2 (vIadA 65 1) (gA gBE) (gB gDE) (pB pDF)) <|
((oStore 1 (gB gDF) (gK (.int .u8 45))) <|
 oEnd))))) cSkip)) (cSeq (cSeq (cReg ((o1 vMov (gA gAE) (pB pDG)) <|
 oEnd)) (cIf (gB gDG) (cSeq (cReg ((o1 vMov (gA gAA) (pB pDH)) <|
((o1 vMov (gA gBF) (pB pEA)) <|
((oSlow K3.gt ⟨some 97,none,.h (.slA 65 1 (.t 12) (some (.t 96)) none none),false,[]⟩ (pB pEB)) <|
((oSlow K3.gt ⟨some 98,none,.h (.app 1 1 (.t 95) (.t 97)),false,[]⟩ (pB pEC)) <|
((o1 vMov (gB gEC) (pA pBC)) <|
 oEnd)))))) (cExit 0)) cSkip)) (cSeq (cReg ((o1 vMov (gA gBF) (pB pED)) <|
((oSlow K3.gt ⟨some 100,none,.h (.slA 65 1 (.t 12) (some (.t 99)) none none),false,[]⟩ (pB pEE)) <|
((oSlow K3.gt ⟨some 101,none,.h (.b2s (.t 100)),false,[]⟩ (pB pEF)) <|
((o1 vMov (gB gEF) (pA pBD)) <|
 oEnd))))) (cExit 0)))))))))) [(rT (gA gBC)), (rT (gA gBD))]
theorem u79_ok : denA k79 = u79 := dA3 rfl rfl rfl (dF rfl rfl rfl (dS (dR (dc rfl (dc rfl dn))) (dS (dS (dR (dc rfl (dc rfl (dc rfl (dc (by kernel_rfl) (dc (by kernel_rfl) (dc (by kernel_rfl) (dc rfl (dc (by kernel_rfl) (dc (by kernel_rfl) (dc (by kernel_rfl) dn))))))))))) (dI rfl rfl (dR (dc rfl (dc (by kernel_rfl) dn))) dK)) (dS (dR (dc (by kernel_rfl) dn)) (dS (dR (dc rfl dn)) (dS (dS (dR (dc rfl dn)) (dI rfl rfl (dR (dc rfl (dc (by kernel_rfl) (dc rfl dn)))) dK)) (dS (dS (dR (dc rfl (dc rfl dn))) (dI rfl rfl (dS (dR (dc rfl (dc rfl (dc rfl (dc rfl (dc rfl dn)))))) (dS (dR (dc rfl (dc rfl (dc rfl dn)))) (dS (dR (dc rfl (dc rfl (dc rfl (dc rfl dn))))) (dS (dB (dL (dS (dS (dR (dc rfl (dc rfl (dc rfl dn)))) (dI rfl rfl dK dX)) (dB (dS (dR (dc rfl (dc rfl (dc rfl dn)))) (dS (dR (dc rfl (dc rfl (dc rfl (dc rfl (dc rfl (dc rfl (dc rfl dn)))))))) (dR (dc rfl (dc rfl (dc rfl (dc rfl dn))))))))))) (dS (dR (dc rfl (dc rfl (dc rfl dn)))) (dR (dc rfl (dc rfl (dc rfl (dc rfl (dc rfl dn))))))))))) (dS (dR (dc rfl (dc rfl (dc rfl dn)))) (dS (dB (dL (dS (dS (dR (dc rfl (dc rfl (dc rfl dn)))) (dI rfl rfl dK dX)) (dB (dS (dR (dc rfl (dc rfl (dc rfl dn)))) (dS (dR (dc rfl (dc rfl (dc rfl (dc rfl dn))))) (dS (dR (dc rfl (dc rfl (dc rfl (dc rfl (dc rfl (dc rfl (dc rfl (dc rfl (dc rfl dn)))))))))) (dR (dc rfl (dc rfl dn)))))))))) (dS (dR (dc rfl (dc rfl (dc rfl dn)))) (dR (dc rfl (dc rfl (dc rfl (dc rfl (dc rfl dn))))))))))) (dS (dS (dR (dc rfl dn)) (dI rfl rfl (dS (dR (dc rfl (dc rfl (dc rfl dn)))) (dR (dc rfl (dc rfl (dc rfl dn))))) dK)) (dS (dS (dR (dc rfl dn)) (dI rfl rfl (dS (dR (dc rfl (dc rfl (dc (by kernel_rfl) (dc (by kernel_rfl) (dc rfl dn)))))) dT) dK)) (dS (dR (dc rfl (dc (by kernel_rfl) (dc (by kernel_rfl) (dc rfl dn))))) dT))))))))))
def u80 : Fu := fn K3.z [(pA pAA), (pA pAB), (pA pAC), (pA pAD), (pA pAE), (pA pAF), (pA pAG), (pA pAH), (pA pBA), (pA pBB), (pA pBC), (pA pBD)] (cSeq (cReg ((o1 vMov (gK (.int .i32 0)) (pA pAC)) <|
((o1 vMov (gK (.int .i64 0)) (pA pAD)) <|
 oEnd))) (cSeq (cReg ((o1 vMov (gA gAA) (pA pBF)) <|
((o1 vLenS (gA gBF) (pA pBG)) <|
((o1 vMov (gA gBG) (pA pAE)) <|
 oEnd)))) (cSeq (cSeq (cReg ((o1 vMov (gA gAE) (pA pBH)) <|
((o2 vLss (gA gBH) (gK (.int .i64 1)) (pA pCA)) <|
 oEnd))) (cIf (gA gCA) (cSeq (cReg ((o1 vMov (gK (.int .i32 65533)) (pA pAC)) <|
((o1 vMov (gK (.int .i64 0)) (pA pAD)) <|
 oEnd))) (cExit 0)) cSkip)) (cSeq (cReg ((o1 vMov (gA gAA) (pA pCB)) <|
((o2 vIdxS (gA gCB) (gK (.int .i64 0)) (pA pCC)) <|
((o1 vMov (gA gCC) (pA pAF)) <|
 oEnd)))) (cSeq (cReg ((o1 vMov (gA gAF) (pA pCD)) <|
((o2 (vIadA 256 1) (gK (.ptr 5 0)) (gA gCD) (pA pCE)) <|
((m1 wLoad1 (gA gCE) (pA pCF)) <|
((o1 vMov (gA gCF) (pA pAG)) <|
 oEnd))))) (cSeq (cSeq (cReg ((o1 vMov (gA gAG) (pA pCG)) <|
((o2 vGeq (gA gCG) (gK (.int .u8 240)) (pA pCH)) <|
 oEnd))) (cIf (gA gCH) (cSeq (cReg ((o1 vMov (gA gAG) (pA pDA)) <|
((o1 (vCvi .i32) (gA gDA) (pA pDB)) <|
((o2 (vBin .shl) (gA gDB) (gK (.int .u64 31)) (pA pDC)) <|
((o2 (vBin .shr) (gA gDC) (gK (.int .u64 31)) (pA pDD)) <|
((o1 vMov (gA gDD) (pA pAH)) <|
 oEnd)))))) (cSeq (cReg ((o1 vMov (gA gAA) (pA pDE)) <|
((o2 vIdxS (gA gDE) (gK (.int .i64 0)) (pA pDF)) <|
((o1 (vCvi .i32) (gA gDF) (pA pDG)) <|
((o1 vMov (gA gAH) (pA pDH)) <|
((o2 (vBin .andNot) (gA gDG) (gA gDH) (pA pEA)) <|
((o1 vMov (gA gAH) (pA pEB)) <|
((o2 (vBin .and) (gK (.int .i32 65533)) (gA gEB) (pA pEC)) <|
((o2 (vBin .or) (gA gEA) (gA gEC) (pA pED)) <|
((o1 vMov (gA gED) (pA pAC)) <|
((o1 vMov (gK (.int .i64 1)) (pA pAD)) <|
 oEnd))))))))))) (cExit 0))) cSkip)) (cSeq (cReg ((o1 vMov (gA gAG) (pA pEE)) <|
((o2 (vBin .and) (gA gEE) (gK (.int .u8 7)) (pA pEF)) <|
((o1 (vCvi .i64) (gA gEF) (pA pEG)) <|
((o1 vMov (gA gEG) (pA pBA)) <|
 oEnd))))) (cSeq (cReg ((o1 vMov (gA gAG) (pA pEH)) <|
((o2 (vBin .shr) (gA gEH) (gK (.int .u64 4)) (pA pFA)) <|
((o2 (vIadA 16 2) (gK (.ptr 6 0)) (gA gFA) (pA pFB)) <|
((m1 (wLoadN 2) (gA gFB) (pA pFC)) <|
((oAlloc [(.int .u8 0), (.int .u8 0)] (pA pBB)) <|
((oStore 2 (gA gBB) (gA gFC)) <|
 oEnd))))))) (cSeq (cSeq (cReg ((o1 vMov (gA gAE) (pA pFD)) <|
((o1 vMov (gA gBA) (pA pFE)) <|
((o2 vLss (gA gFD) (gA gFE) (pA pFF)) <|
 oEnd)))) (cIf (gA gFF) (cSeq (cReg ((o1 vMov (gK (.int .i32 65533)) (pA pAC)) <|
((o1 vMov (gK (.int .i64 1)) (pA pAD)) <|
 oEnd))) (cExit 0)) cSkip)) (cSeq (cReg ((o1 vMov (gA gAA) (pA pFG)) <|
((o2 vIdxS (gA gFG) (gK (.int .i64 1)) (pA pFH)) <|
((o1 vMov (gA gFH) (pA pBC)) <|
 oEnd)))) (cSeq (cSeq (cReg ((o1 vMov (gA gBC) (pA pGA)) <|
((o1 vFad0 (gA gBB) (pA pGB)) <|
((m1 wLoad1 (gA gGB) (pA pGC)) <|
((o2 vLss (gA gGA) (gA gGC) (pA pGD)) <|
((o1 vMov (gA gGD) (pA pGE)) <|
((oGuard (gA gGE) false (pA pGF) (o1 (vFad 1) (gA gBB) (pA pGF))) <|
((oGuard (gA gGE) false (pA pGG) (m1 wLoad1 (gA gGF) (pA pGG))) <|
((oGuard (gA gGE) false (pA pGH) (o1 vMov (gA gBC) (pA pGH))) <|
((oGuard (gA gGE) false (pA pHA) (o2 vLss (gA gGG) (gA gGH) (pA pHA))) <|
((oSlow K3.gt ⟨some 57,none,.p (.pick (.t 52) (.c (.bool true)) (.t 56)),false,[]⟩ (pA pHB)) <|
 oEnd))))))))))) (cIf (gA gHB) (cSeq (cReg ((o1 vMov (gK (.int .i32 65533)) (pA pAC)) <|
((o1 vMov (gK (.int .i64 1)) (pA pAD)) <|
 oEnd))) (cExit 0)) cSkip)) (cSeq (cSeq (cReg ((o1 vMov (gA gBA) (pA pHC)) <|
((o2 vLeq (gA gHC) (gK (.int .i64 2)) (pA pHD)) <|
 oEnd))) (cIf (gA gHD) (cSeq (cReg ((o1 vMov (gA gAF) (pA pHE)) <|
((o2 (vBin .and) (gA gHE) (gK (.int .u8 31)) (pA pHF)) <|
((o1 (vCvi .i32) (gA gHF) (pA pHG)) <|
((o2 (vBin .shl) (gA gHG) (gK (.int .u64 6)) (pA pHH)) <|
((o1 vMov (gA gBC) (pB pAA)) <|
((o2 (vBin .and) (gB gAA) (gK (.int .u8 63)) (pB pAB)) <|
((o1 (vCvi .i32) (gB gAB) (pB pAC)) <|
((o2 (vBin .or) (gA gHH) (gB gAC) (pB pAD)) <|
((o1 vMov (gB gAD) (pA pAC)) <|
((o1 vMov (gK (.int .i64 2)) (pA pAD)) <|
 oEnd))))))))))) (cExit 0)) cSkip)) (cSeq (cReg ((o1 vMov (gA gAA) (pB pAE)) <|
((o2 vIdxS (gB gAE) (gK (.int .i64 2)) (pB pAF)) <|
((o1 vMov (gB gAF) (pA pBD)) <|
 oEnd)))) (cSeq (cSeq (cReg ((o1 vMov (gA gBD) (pB pAG)) <|
((o2 vLss (gB gAG) (gK (.int .u8 128)) (pB pAH)) <|
((o1 vMov (gB gAH) (pB pBA)) <|
((oGuard (gB gBA) false (pB pBB) (o1 vMov (gA gBD) (pB pBB))) <|
((oGuard (gB gBA) false (pB pBC) (o2 vLss (gK (.int .u8 191)) (gB gBB) (pB pBC))) <|
((oSlow K3.gt ⟨some 75,none,.p (.pick (.t 72) (.c (.bool true)) (.t 74)),false,[]⟩ (pB pBD)) <|
 oEnd))))))) (cIf (gB gBD) (cSeq (cReg ((o1 vMov (gK (.int .i32 65533)) (pA pAC)) <|
((o1 vMov (gK (.int .i64 1)) (pA pAD)) <|
 oEnd))) (cExit 0)) cSkip)) (cSeq (cSeq (cReg ((o1 vMov (gA gBA) (pB pBE)) <|
((o2 vLeq (gB gBE) (gK (.int .i64 3)) (pB pBF)) <|
 oEnd))) (cIf (gB gBF) (cSeq (cReg ((o1 vMov (gA gAF) (pB pBG)) <|
((o2 (vBin .and) (gB gBG) (gK (.int .u8 15)) (pB pBH)) <|
((o1 (vCvi .i32) (gB gBH) (pB pCA)) <|
((o2 (vBin .shl) (gB gCA) (gK (.int .u64 12)) (pB pCB)) <|
((o1 vMov (gA gBC) (pB pCC)) <|
((o2 (vBin .and) (gB gCC) (gK (.int .u8 63)) (pB pCD)) <|
((o1 (vCvi .i32) (gB gCD) (pB pCE)) <|
((o2 (vBin .shl) (gB gCE) (gK (.int .u64 6)) (pB pCF)) <|
((o2 (vBin .or) (gB gCB) (gB gCF) (pB pCG)) <|
((o1 vMov (gA gBD) (pB pCH)) <|
((o2 (vBin .and) (gB gCH) (gK (.int .u8 63)) (pB pDA)) <|
((o1 (vCvi .i32) (gB gDA) (pB pDB)) <|
((o2 (vBin .or) (gB gCG) (gB gDB) (pB pDC)) <|
((o1 vMov (gB gDC) (pA pAC)) <|
((o1 vMov (gK (.int .i64 3)) (pA pAD)) <|
 oEnd)))))))))))))))) (cExit 0)) cSkip)) (cSeq (cReg ((o1 vMov (gA gAA) (pB pDD)) <|
((o2 vIdxS (gB gDD) (gK (.int .i64 3)) (pB pDE)) <|
((o1 vMov (gB gDE) (pA pBE)) <|
 oEnd)))) (cSeq (cSeq (cReg ((o1 vMov (gA gBE) (pB pDF)) <|
((o2 vLss (gB gDF) (gK (.int .u8 128)) (pB pDG)) <|
((o1 vMov (gB gDG) (pB pDH)) <|
((oGuard (gB gDH) false (pB pEA) (o1 vMov (gA gBE) (pB pEA))) <|
((oGuard (gB gDH) false (pB pEB) (o2 vLss (gK (.int .u8 191)) (gB gEA) (pB pEB))) <|
((oSlow K3.gt ⟨some 98,none,.p (.pick (.t 95) (.c (.bool true)) (.t 97)),false,[]⟩ (pB pEC)) <|
 oEnd))))))) (cIf (gB gEC) (cSeq (cReg ((o1 vMov (gK (.int .i32 65533)) (pA pAC)) <|
((o1 vMov (gK (.int .i64 1)) (pA pAD)) <|
 oEnd))) (cExit 0)) cSkip)) (cSeq (cReg ((o1 vMov (gA gAF) (pB pED)) <|
((o2 (vBin .and) (gB gED) (gK (.int .u8 7)) (pB pEE)) <|
((o1 (vCvi .i32) (gB gEE) (pB pEF)) <|
((o2 (vBin .shl) (gB gEF) (gK (.int .u64 18)) (pB pEG)) <|
((o1 vMov (gA gBC) (pB pEH)) <|
((o2 (vBin .and) (gB gEH) (gK (.int .u8 63)) (pB pFA)) <|
((o1 (vCvi .i32) (gB gFA) (pB pFB)) <|
((o2 (vBin .shl) (gB gFB) (gK (.int .u64 12)) (pB pFC)) <|
((o2 (vBin .or) (gB gEG) (gB gFC) (pB pFD)) <|
((o1 vMov (gA gBD) (pB pFE)) <|
((o2 (vBin .and) (gB gFE) (gK (.int .u8 63)) (pB pFF)) <|
((o1 (vCvi .i32) (gB gFF) (pB pFG)) <|
((o2 (vBin .shl) (gB gFG) (gK (.int .u64 6)) (pB pFH)) <|
((o2 (vBin .or) (gB gFD) (gB gFH) (pB pGA)) <|
((o1 vMov (gA gBE) (pB pGB)) <|
((o2 (vBin .and) (gB gGB) (gK (.int .u8 63)) (pB pGC)) <|
((o1 (vCvi .i32) (gB gGC) (pB pGD)) <|
((o2 (vBin .or) (gB gGA) (gB gGD) (pB pGE)) <|
((o1 vMov (gB gGE) (pA pAC)) <|
((o1 vMov (gK (.int .i64 4)) (pA pAD)) <|
 oEnd))))))))))))))))))))) (cExit 0))))))))))))))))))) [(rT (gA gAC)), (rT (gA gAD))]
theorem u80_ok : denA k80 = u80 := dA3 rfl rfl rfl (dF rfl rfl rfl (dS (dR (dc rfl (dc rfl dn))) (dS (dR (dc rfl (dc rfl (dc rfl dn)))) (dS (dS (dR (dc rfl (dc rfl dn))) (dI rfl rfl (dS (dR (dc rfl (dc rfl dn))) dT) dK)) (dS (dR (dc rfl (dc rfl (dc rfl dn)))) (dS (dR (dc rfl (dc rfl (dc rfl (dc rfl dn))))) (dS (dS (dR (dc rfl (dc rfl dn))) (dI rfl rfl (dS (dR (dc rfl (dc rfl (dc rfl (dc rfl (dc rfl dn)))))) (dS (dR (dc rfl (dc rfl (dc rfl (dc rfl (dc rfl (dc rfl (dc rfl (dc rfl (dc rfl (dc rfl dn))))))))))) dT)) dK)) (dS (dR (dc rfl (dc rfl (dc rfl (dc rfl dn))))) (dS (dR (dc rfl (dc rfl (dc rfl (dc rfl (dc (by kernel_rfl) (dc rfl dn))))))) (dS (dS (dR (dc rfl (dc rfl (dc rfl dn)))) (dI rfl rfl (dS (dR (dc rfl (dc rfl dn))) dT) dK)) (dS (dR (dc rfl (dc rfl (dc rfl dn)))) (dS (dS (dR (dc rfl (dc rfl (dc rfl (dc rfl (dc rfl (dc (by kernel_rfl) (dc (by kernel_rfl) (dc (by kernel_rfl) (dc (by kernel_rfl) (dc (by kernel_rfl) dn))))))))))) (dI rfl rfl (dS (dR (dc rfl (dc rfl dn))) dT) dK)) (dS (dS (dR (dc rfl (dc rfl dn))) (dI rfl rfl (dS (dR (dc rfl (dc rfl (dc rfl (dc rfl (dc rfl (dc rfl (dc rfl (dc rfl (dc rfl (dc rfl dn))))))))))) dT) dK)) (dS (dR (dc rfl (dc rfl (dc rfl dn)))) (dS (dS (dR (dc rfl (dc rfl (dc rfl (dc (by kernel_rfl) (dc (by kernel_rfl) (dc (by kernel_rfl) dn))))))) (dI rfl rfl (dS (dR (dc rfl (dc rfl dn))) dT) dK)) (dS (dS (dR (dc rfl (dc rfl dn))) (dI rfl rfl (dS (dR (dc rfl (dc rfl (dc rfl (dc rfl (dc rfl (dc rfl (dc rfl (dc rfl (dc rfl (dc rfl (dc rfl (dc rfl (dc rfl (dc rfl (dc rfl dn)))))))))))))))) dT) dK)) (dS (dR (dc rfl (dc rfl (dc rfl dn)))) (dS (dS (dR (dc rfl (dc rfl (dc rfl (dc (by kernel_rfl) (dc (by kernel_rfl) (dc (by kernel_rfl) dn))))))) (dI rfl rfl (dS (dR (dc rfl (dc rfl dn))) dT) dK)) (dS (dR (dc rfl (dc rfl (dc rfl (dc rfl (dc rfl (dc rfl (dc rfl (dc rfl (dc rfl (dc rfl (dc rfl (dc rfl (dc rfl (dc rfl (dc rfl (dc rfl (dc rfl (dc rfl (dc rfl (dc rfl dn))))))))))))))))))))) dT)))))))))))))))))))
def u81 : Fu := fn K1.z [(pA p0), (pB p0), (pC p0), (pD p0), (pE p0), (pF p0), (pG p0), (pH p0)] (cSeq (cReg ((o1 vMov (gK (.int .i64 0)) (pE p0)) <|
 oEnd)) (cSeq (cReg ((o1 vMov (gA g0) (pF p0)) <|
((o1 vMov (gB g0) (pG p0)) <|
((oSlow K1.gt ⟨some 7,none,.h (.xrow 0 [(.t 5), (.t 6)]),false,[]⟩ (pH p0)) <|
((o1 vMov (gH g0) (pE p0)) <|
 oEnd))))) (cExit 0))) [(rT (gE g0))]
theorem u81_ok : denA k81 = u81 := dA1 rfl (dF rfl rfl rfl (dS (dR (dc rfl dn)) (dS (dR (dc rfl (dc rfl (dc (by kernel_rfl) (dc rfl dn))))) dT)))
def u83 : Fu := fn K1.z [(pA p0), (pB p0), (pC p0), (pD p0), (pE p0), (pF p0)] (cSeq (cReg ((o1 vMov (gK (.int .i64 0)) (pC p0)) <|
 oEnd)) (cSeq (cReg ((o1 vMov (gA g0) (pD p0)) <|
((o2 vAdd (gD g0) (gK (.int .i64 16)) (pE p0)) <|
((o2 (vBin .quo) (gE g0) (gK (.int .i64 8)) (pF p0)) <|
((o1 vMov (gF g0) (pC p0)) <|
 oEnd))))) (cExit 0))) [(rT (gC g0))]
theorem u83_ok : denA k83 = u83 := dA1 rfl (dF rfl rfl rfl (dS (dR (dc rfl dn)) (dS (dR (dc rfl (dc rfl (dc rfl (dc rfl dn))))) dT)))
def u84 : Fu := fn K3.z [(pA pAA), (pA pAB), (pA pAC), (pA pAD), (pA pAE), (pA pAF), (pA pAG), (pA pAH), (pA pBA), (pA pBB), (pA pBC), (pA pBD)] (cSeq (cReg ((o1 vMov (gK (.int .i64 0)) (pA pAE)) <|
 oEnd)) (cSeq (cReg ((o1 vMov (gA gAB) (pA pBE)) <|
((oCall 91 [(gA gBE)] (pA pBF)) <|
((o1 vMov (gA gBF) (pA pBD)) <|
((o1 (vExt 0) (gA gBD) (pA pBG)) <|
((o1 (vExt 1) (gA gBD) (pA pBH)) <|
((o1 vMov (gA gBG) (pA pAF)) <|
((o1 vMov (gA gBH) (pA pAG)) <|
 oEnd)))))))) (cSeq (cReg ((o1 vMov (gA gAB) (pA pCA)) <|
((o1 vLenS (gA gCA) (pA pCB)) <|
((o1 vMov (gA gCB) (pA pAH)) <|
 oEnd)))) (cSeq (cReg ((o1 vMov (gK (.int .u32 0)) (pA pBA)) <|
 oEnd)) (cSeq (cSeq (cReg ((o1 vMov (gK (.int .i64 0)) (pA pBB)) <|
 oEnd)) (cBlock 1 (cLoop (cSeq (cSeq (cReg ((o1 vMov (gA gBB) (pA pCC)) <|
((o1 vMov (gA gAH) (pA pCD)) <|
((o2 vLss (gA gCC) (gA gCD) (pA pCE)) <|
 oEnd)))) (cIf (gA gCE) cSkip (cExit 1))) (cSeq (cBlock 2 (cReg ((o1 vMov (gA gBA) (pA pCH)) <|
((o2 (vBin .mul) (gA gCH) (gK (.int .u32 16777619)) (pA pDA)) <|
((o1 vMov (gA gAA) (pA pDB)) <|
((o1 vMov (gA gBB) (pA pDC)) <|
((o2 vIdxS (gA gDB) (gA gDC) (pA pDD)) <|
((o1 (vCvi .u32) (gA gDD) (pA pDE)) <|
((o2 vAdd (gA gDA) (gA gDE) (pA pDF)) <|
((o1 vMov (gA gDF) (pA pBA)) <|
 oEnd)))))))))) (cReg ((o1 vMov (gA gBB) (pA pCF)) <|
((o2 vAdd (gA gCF) (gK (.int .i64 1)) (pA pCG)) <|
((o1 vMov (gA gCG) (pA pBB)) <|
 oEnd))))))))) (cSeq (cSeq (cReg ((o1 vMov (gA gBA) (pA pDG)) <|
((o1 vMov (gA gAF) (pA pDH)) <|
((o2 vEql (gA gDG) (gA gDH) (pA pEA)) <|
((o1 vMov (gA gEA) (pA pEB)) <|
((oGuard (gA gEB) true (pA pEC) (o1 vMov (gA gAA) (pA pEC))) <|
((oGuard (gA gEB) true (pA pED) (o1 vMov (gA gAH) (pA pED))) <|
((oGuard (gA gEB) true (pA pEE) (oSlow K3.gt ⟨some 36,(some (33, true)),.p (.slT (.t 34) none (some (.t 35))),false,[]⟩ (pA pEE))) <|
((oGuard (gA gEB) true (pA pEF) (o1 vMov (gA gAB) (pA pEF))) <|
((oGuard (gA gEB) true (pA pEG) (o2 vEql (gA gEE) (gA gEF) (pA pEG))) <|
((oSlow K3.gt ⟨some 39,none,.p (.pick (.t 33) (.t 38) (.c (.bool false))),false,[]⟩ (pA pEH)) <|
 oEnd))))))))))) (cIf (gA gEH) (cSeq (cReg ((o1 vMov (gK (.int .i64 0)) (pA pAE)) <|
 oEnd)) (cExit 0)) cSkip)) (cSeq (cSeq (cReg ((o1 vMov (gA gAH) (pA pFA)) <|
((o1 vMov (gA gFA) (pA pBC)) <|
 oEnd))) (cBlock 3 (cLoop (cSeq (cSeq (cReg ((o1 vMov (gA gBC) (pA pFB)) <|
((o1 vMov (gA gAA) (pA pFC)) <|
((o1 vLenS (gA gFC) (pA pFD)) <|
((o2 vLss (gA gFB) (gA gFD) (pA pFE)) <|
 oEnd))))) (cIf (gA gFE) cSkip (cExit 3))) (cBlock 4 (cSeq (cReg ((o1 vMov (gA gBA) (pA pFF)) <|
((o2 (vBin .mul) (gA gFF) (gK (.int .u32 16777619)) (pA pFG)) <|
((o1 vMov (gA gFG) (pA pBA)) <|
 oEnd)))) (cSeq (cReg ((o1 vMov (gA gBA) (pA pFH)) <|
((o1 vMov (gA gAA) (pA pGA)) <|
((o1 vMov (gA gBC) (pA pGB)) <|
((o2 vIdxS (gA gGA) (gA gGB) (pA pGC)) <|
((o1 (vCvi .u32) (gA gGC) (pA pGD)) <|
((o2 vAdd (gA gFH) (gA gGD) (pA pGE)) <|
((o1 vMov (gA gGE) (pA pBA)) <|
 oEnd)))))))) (cSeq (cReg ((o1 vMov (gA gBA) (pA pGF)) <|
((o1 vMov (gA gAG) (pA pGG)) <|
((o1 vMov (gA gAA) (pA pGH)) <|
((o1 vMov (gA gBC) (pA pHA)) <|
((o1 vMov (gA gAH) (pA pHB)) <|
((o2 vSub (gA gHA) (gA gHB) (pA pHC)) <|
((o2 vIdxS (gA gGH) (gA gHC) (pA pHD)) <|
((o1 (vCvi .u32) (gA gHD) (pA pHE)) <|
((o2 (vBin .mul) (gA gGG) (gA gHE) (pA pHF)) <|
((o2 vSub (gA gGF) (gA gHF) (pA pHG)) <|
((o1 vMov (gA gHG) (pA pBA)) <|
 oEnd)))))))))))) (cSeq (cReg ((o1 vMov (gA gBC) (pA pHH)) <|
((o2 vAdd (gA gHH) (gK (.int .i64 1)) (pB pAA)) <|
((o1 vMov (gB gAA) (pA pBC)) <|
 oEnd)))) (cSeq (cReg ((o1 vMov (gA gBA) (pB pAB)) <|
((o1 vMov (gA gAF) (pB pAC)) <|
((o2 vEql (gB gAB) (gB gAC) (pB pAD)) <|
((o1 vMov (gB gAD) (pB pAE)) <|
((oGuard (gB gAE) true (pB pAF) (o1 vMov (gA gAA) (pB pAF))) <|
((oGuard (gB gAE) true (pB pAG) (o1 vMov (gA gBC) (pB pAG))) <|
((oGuard (gB gAE) true (pB pAH) (o1 vMov (gA gAH) (pB pAH))) <|
((oGuard (gB gAE) true (pB pBA) (o2 vSub (gB gAG) (gB gAH) (pB pBA))) <|
((oGuard (gB gAE) true (pB pBB) (o1 vMov (gA gBC) (pB pBB))) <|
((oGuard (gB gAE) true (pB pBC) (oSlow K3.gt ⟨some 74,(some (68, true)),.p (.slT (.t 69) (some (.t 72)) (some (.t 73))),false,[]⟩ (pB pBC))) <|
((oGuard (gB gAE) true (pB pBD) (o1 vMov (gA gAB) (pB pBD))) <|
((oGuard (gB gAE) true (pB pBE) (o2 vEql (gB gBC) (gB gBD) (pB pBE))) <|
((oSlow K3.gt ⟨some 77,none,.p (.pick (.t 68) (.t 76) (.c (.bool false))),false,[]⟩ (pB pBF)) <|
 oEnd)))))))))))))) (cIf (gB gBF) (cSeq (cReg ((o1 vMov (gA gBC) (pB pBG)) <|
((o1 vMov (gA gAH) (pB pBH)) <|
((o2 vSub (gB gBG) (gB gBH) (pB pCA)) <|
((o1 vMov (gB gCA) (pA pAE)) <|
 oEnd))))) (cExit 0)) cSkip))))))))))) (cSeq (cReg ((o1 vMov (gK (.int .i64 (-1))) (pA pAE)) <|
 oEnd)) (cExit 0))))))))) [(rT (gA gAE))]
theorem u84_ok : denA k84 = u84 := dA3 rfl rfl rfl (dF rfl rfl rfl (dS (dR (dc rfl dn)) (dS (dR (dc rfl (dc rfl (dc rfl (dc rfl (dc rfl (dc rfl (dc rfl dn)))))))) (dS (dR (dc rfl (dc rfl (dc rfl dn)))) (dS (dR (dc rfl dn)) (dS (dS (dR (dc rfl dn)) (dB (dL (dS (dS (dR (dc rfl (dc rfl (dc rfl dn)))) (dI rfl rfl dK dX)) (dS (dB (dR (dc rfl (dc rfl (dc rfl (dc rfl (dc rfl (dc rfl (dc rfl (dc rfl dn)))))))))) (dR (dc rfl (dc rfl (dc rfl dn))))))))) (dS (dS (dR (dc rfl (dc rfl (dc rfl (dc rfl (dc (by kernel_rfl) (dc (by kernel_rfl) (dc (by kernel_rfl) (dc (by kernel_rfl) (dc (by kernel_rfl) (dc (by kernel_rfl) dn))))))))))) (dI rfl rfl (dS (dR (dc rfl dn)) dT) dK)) (dS (dS (dR (dc rfl (dc rfl dn))) (dB (dL (dS (dS (dR (dc rfl (dc rfl (dc rfl (dc rfl dn))))) (dI rfl rfl dK dX)) (dB (dS (dR (dc rfl (dc rfl (dc rfl dn)))) (dS (dR (dc rfl (dc rfl (dc rfl (dc rfl (dc rfl (dc rfl (dc rfl dn)))))))) (dS (dR (dc rfl (dc rfl (dc rfl (dc rfl (dc rfl (dc rfl (dc rfl (dc rfl (dc rfl (dc rfl (dc rfl dn)))))))))))) (dS (dR (dc rfl (dc rfl (dc rfl dn)))) (dS (dR (dc rfl (dc rfl (dc rfl (dc rfl (dc (by kernel_rfl) (dc (by kernel_rfl) (dc (by kernel_rfl) (dc (by kernel_rfl) (dc (by kernel_rfl) (dc (by kernel_rfl) (dc (by kernel_rfl) (dc (by kernel_rfl) (dc (by kernel_rfl) dn)))))))))))))) (dI rfl rfl (dS (dR (dc rfl (dc rfl (dc rfl (dc rfl dn))))) dT) dK))))))))))) (dS (dR (dc rfl dn)) dT)))))))))
def u85 : Fu := fn K1.z [(pA p0), (pB p0), (pC p0), (pD p0), (pE p0), (pF p0)] (cSeq (cReg ((o1 vMov (gK (.int .i64 0)) (pC p0)) <|
 oEnd)) (cSeq (cReg ((o1 vMov (gA g0) (pD p0)) <|
((o2 (vBin .mul) (gD g0) (gK (.int .i64 78913)) (pE p0)) <|
((o2 (vBin .shr) (gE g0) (gK (.int .u64 18)) (pF p0)) <|
((o1 vMov (gF g0) (pC p0)) <|
 oEnd))))) (cExit 0))) [(rT (gC g0))]
theorem u85_ok : denA k85 = u85 := dA1 rfl (dF rfl rfl rfl (dS (dR (dc rfl dn)) (dS (dR (dc rfl (dc rfl (dc rfl (dc rfl dn))))) dT)))
def u86 : Fu := fn K2.z [pAA, pAB, pAC, pAD, pAE, pAF, pAG, pAH, pBA, pBB, pBC, pBD] (cSeq (cReg ((o1 vMov (gK (.int .i64 0)) pAC) <|
 oEnd)) (cSeq (cSeq (cReg ((o1 vMov gAA pAD) <|
((o2 vGeq gAD (gK (.int .u64 4294967296)) pAE) <|
 oEnd))) (cIf gAE (cSeq (cReg ((o1 vMov gAA pAF) <|
((o2 (vBin .shr) gAF (gK (.int .u64 32)) pAG) <|
((o1 vMov gAG pAA) <|
 oEnd)))) (cReg ((o1 vMov (gK (.int .i64 32)) pAC) <|
 oEnd))) cSkip)) (cSeq (cSeq (cReg ((o1 vMov gAA pAH) <|
((o2 vGeq gAH (gK (.int .u64 65536)) pBA) <|
 oEnd))) (cIf gBA (cSeq (cReg ((o1 vMov gAA pBB) <|
((o2 (vBin .shr) gBB (gK (.int .u64 16)) pBC) <|
((o1 vMov gBC pAA) <|
 oEnd)))) (cReg ((o1 vMov gAC pBD) <|
((o2 vAdd gBD (gK (.int .i64 16)) pBE) <|
((o1 vMov gBE pAC) <|
 oEnd))))) cSkip)) (cSeq (cSeq (cReg ((o1 vMov gAA pBF) <|
((o2 vGeq gBF (gK (.int .u64 256)) pBG) <|
 oEnd))) (cIf gBG (cSeq (cReg ((o1 vMov gAA pBH) <|
((o2 (vBin .shr) gBH (gK (.int .u64 8)) pCA) <|
((o1 vMov gCA pAA) <|
 oEnd)))) (cReg ((o1 vMov gAC pCB) <|
((o2 vAdd gCB (gK (.int .i64 8)) pCC) <|
((o1 vMov gCC pAC) <|
 oEnd))))) cSkip)) (cSeq (cReg ((o1 vMov gAC pCD) <|
((o1 vMov gAA pCE) <|
((o1 (vCvi .u8) gCE pCF) <|
((o2 vIdxS (gK (.str [0, 1, 2, 2, 3, 3, 3, 3, 4, 4, 4, 4, 4, 4, 4, 4, 5, 5, 5, 5, 5, 5, 5, 5, 5, 5, 5, 5, 5, 5, 5, 5, 6, 6, 6, 6, 6, 6, 6, 6, 6, 6, 6, 6, 6, 6, 6, 6, 6, 6, 6, 6, 6, 6, 6, 6, 6, 6, 6, 6, 6, 6, 6, 6, 7, 7, 7, 7, 7, 7, 7, 7, 7, 7, 7, 7, 7, 7, 7, 7, 7, 7, 7, 7, 7, 7, 7, 7, 7, 7, 7, 7, 7, 7, 7, 7, 7, 7, 7, 7, 7, 7, 7, 7, 7, 7, 7, 7, 7, 7, 7, 7, 7, 7, 7, 7, 7, 7, 7, 7, 7, 7, 7, 7, 7, 7, 7, 7, 8, 8, 8, 8, 8, 8, 8, 8, 8, 8, 8, 8, 8, 8, 8, 8, 8, 8, 8, 8, 8, 8, 8, 8, 8, 8, 8, 8, 8, 8, 8, 8, 8, 8, 8, 8, 8, 8, 8, 8, 8, 8, 8, 8, 8, 8, 8, 8, 8, 8, 8, 8, 8, 8, 8, 8, 8, 8, 8, 8, 8, 8, 8, 8, 8, 8, 8, 8, 8, 8, 8, 8, 8, 8, 8, 8, 8, 8, 8, 8, 8, 8, 8, 8, 8, 8, 8, 8, 8, 8, 8, 8, 8, 8, 8, 8, 8, 8, 8, 8, 8, 8, 8, 8, 8, 8, 8, 8, 8, 8, 8, 8, 8, 8, 8, 8, 8, 8, 8, 8, 8, 8, 8, 8, 8, 8, 8, 8])) gCF pCG) <|
((o1 (vCvi .i64) gCG pCH) <|
((o2 vAdd gCD gCH pDA) <|
((o1 vMov gDA pAC) <|
 oEnd)))))))) (cExit 0)))))) [(rT gAC)]
theorem u86_ok : denA k86 = u86 := dA2 rfl rfl (dF rfl rfl rfl (dS (dR (dc rfl dn)) (dS (dS (dR (dc rfl (dc rfl dn))) (dI rfl rfl (dS (dR (dc rfl (dc rfl (dc rfl dn)))) (dR (dc rfl dn))) dK)) (dS (dS (dR (dc rfl (dc rfl dn))) (dI rfl rfl (dS (dR (dc rfl (dc rfl (dc rfl dn)))) (dR (dc rfl (dc rfl (dc rfl dn))))) dK)) (dS (dS (dR (dc rfl (dc rfl dn))) (dI rfl rfl (dS (dR (dc rfl (dc rfl (dc rfl dn)))) (dR (dc rfl (dc rfl (dc rfl dn))))) dK)) (dS (dR (dc rfl (dc rfl (dc rfl (dc rfl (dc rfl (dc rfl (dc rfl dn)))))))) dT))))))
def u87 : Fu := fn K1.z [(pA p0), (pB p0), (pC p0), (pD p0)] (cSeq (cReg ((o1 vMov (gK (.int .i64 0)) (pC p0)) <|
 oEnd)) (cSeq (cSeq (cReg ((o1 vMov (gA g0) (pD p0)) <|
 oEnd)) (cIf (gD g0) (cSeq (cReg ((o1 vMov (gK (.int .i64 1)) (pC p0)) <|
 oEnd)) (cExit 0)) cSkip)) (cSeq (cReg ((o1 vMov (gK (.int .i64 0)) (pC p0)) <|
 oEnd)) (cExit 0)))) [(rT (gC g0))]
theorem u87_ok : denA k87 = u87 := dA1 rfl (dF rfl rfl rfl (dS (dR (dc rfl dn)) (dS (dS (dR (dc rfl dn)) (dI rfl rfl (dS (dR (dc rfl dn)) dT) dK)) (dS (dR (dc rfl dn)) dT))))
def u88 : Fu := fn K1.z [(pA p0), (pB p0), (pC p0), (pD p0), (pE p0), (pF p0), (pG p0), (pH p0)] (cSeq (cReg ((o1 vMov (gK (.bool false)) (pC p0)) <|
 oEnd)) (cSeq (cReg ((o1 vMov (gA g0) (pD p0)) <|
((o1 vMov (gA g0) (pE p0)) <|
((o2 vSub (gE g0) (gK (.int .i64 1)) (pF p0)) <|
((o2 (vBin .and) (gD g0) (gF g0) (pG p0)) <|
((o2 vEql (gG g0) (gK (.int .i64 0)) (pH p0)) <|
((o1 vMov (gH g0) (pC p0)) <|
 oEnd))))))) (cExit 0))) [(rT (gC g0))]
theorem u88_ok : denA k88 = u88 := dA1 rfl (dF rfl rfl rfl (dS (dR (dc rfl dn)) (dS (dR (dc rfl (dc rfl (dc rfl (dc rfl (dc rfl (dc rfl dn))))))) dT)))
def u89 : Fu := fn K1.z [(pA p0), (pB p0), (pC p0), (pD p0), (pE p0), (pF p0), (pG p0), (pH p0)] (cSeq (cReg ((o1 vMov (gK (.int .i64 0)) (pC p0)) <|
 oEnd)) (cSeq (cIf (gK (.bool false)) (cSeq (cReg ((o1 vMov (gA g0) (pD p0)) <|
((o1 (vCvi .u32) (gD g0) (pE p0)) <|
((oCall 92 [(gE g0)] (pF p0)) <|
((o1 vMov (gF g0) (pC p0)) <|
 oEnd))))) (cExit 0)) cSkip) (cSeq (cReg ((o1 vMov (gA g0) (pG p0)) <|
((oCall 93 [(gG g0)] (pH p0)) <|
((o1 vMov (gH g0) (pC p0)) <|
 oEnd)))) (cExit 0)))) [(rT (gC g0))]
theorem u89_ok : denA k89 = u89 := dA1 rfl (dF rfl rfl rfl (dS (dR (dc rfl dn)) (dS (dIc (dS (dR (dc rfl (dc rfl (dc rfl (dc rfl dn))))) dT) dK) (dS (dR (dc rfl (dc rfl (dc rfl dn)))) dT))))
def u91 : Fu := fn K2.z [pAA, pAB, pAC, pAD, pAE, pAF, pAG, pAH, pBA, pBB, pBC, pBD] (cSeq (cReg ((o1 vMov (gK (.int .u32 0)) pAC) <|
((o1 vMov (gK (.int .u32 0)) pAD) <|
 oEnd))) (cSeq (cReg ((o1 vMov (gK (.int .u32 0)) pAE) <|
 oEnd)) (cSeq (cSeq (cReg ((o1 vMov (gK (.int .i64 0)) pAF) <|
 oEnd)) (cBlock 1 (cLoop (cSeq (cSeq (cReg ((o1 vMov gAF pBB) <|
((o1 vMov gAA pBC) <|
((o1 vLenS gBC pBD) <|
((o2 vLss gBB gBD pBE) <|
 oEnd))))) (cIf gBE cSkip (cExit 1))) (cSeq (cBlock 2 (cReg ((o1 vMov gAE pBH) <|
((o2 (vBin .mul) gBH (gK (.int .u32 16777619)) pCA) <|
((o1 vMov gAA pCB) <|
((o1 vMov gAF pCC) <|
((o2 vIdxS gCB gCC pCD) <|
((o1 (vCvi .u32) gCD pCE) <|
((o2 vAdd gCA gCE pCF) <|
((o1 vMov gCF pAE) <|
 oEnd)))))))))) (cReg ((o1 vMov gAF pBF) <|
((o2 vAdd gBF (gK (.int .i64 1)) pBG) <|
((o1 vMov gBG pAF) <|
 oEnd))))))))) (cSeq (cReg ((o1 vMov (gK (.int .u32 1)) pAG) <|
((o1 vMov (gK (.int .u32 16777619)) pAH) <|
 oEnd))) (cSeq (cSeq (cReg ((o1 vMov gAA pCG) <|
((o1 vLenS gCG pCH) <|
((o1 vMov gCH pBA) <|
 oEnd)))) (cBlock 3 (cLoop (cSeq (cSeq (cReg ((o1 vMov gBA pDA) <|
((o2 vGtr gDA (gK (.int .i64 0)) pDB) <|
 oEnd))) (cIf gDB cSkip (cExit 3))) (cSeq (cBlock 4 (cSeq (cSeq (cReg ((o1 vMov gBA pDE) <|
((o2 (vBin .and) gDE (gK (.int .i64 1)) pDF) <|
((o2 vNeq gDF (gK (.int .i64 0)) pDG) <|
 oEnd)))) (cIf gDG (cReg ((o1 vMov gAG pDH) <|
((o1 vMov gAH pEA) <|
((o2 (vBin .mul) gDH gEA pEB) <|
((o1 vMov gEB pAG) <|
 oEnd))))) cSkip)) (cReg ((o1 vMov gAH pEC) <|
((o1 vMov gAH pED) <|
((o2 (vBin .mul) gEC gED pEE) <|
((o1 vMov gEE pAH) <|
 oEnd))))))) (cReg ((o1 vMov gBA pDC) <|
((o2 (vBin .shr) gDC (gK (.int .u64 1)) pDD) <|
((o1 vMov gDD pBA) <|
 oEnd))))))))) (cSeq (cReg ((o1 vMov gAE pEF) <|
((o1 vMov gAG pEG) <|
((o1 vMov gEF pAC) <|
((o1 vMov gEG pAD) <|
 oEnd))))) (cExit 0))))))) [(rT gAC), (rT gAD)]
theorem u91_ok : denA k91 = u91 := dA2 rfl rfl (dF rfl rfl rfl (dS (dR (dc rfl (dc rfl dn))) (dS (dR (dc rfl dn)) (dS (dS (dR (dc rfl dn)) (dB (dL (dS (dS (dR (dc rfl (dc rfl (dc rfl (dc rfl dn))))) (dI rfl rfl dK dX)) (dS (dB (dR (dc rfl (dc rfl (dc rfl (dc rfl (dc rfl (dc rfl (dc rfl (dc rfl dn)))))))))) (dR (dc rfl (dc rfl (dc rfl dn))))))))) (dS (dR (dc rfl (dc rfl dn))) (dS (dS (dR (dc rfl (dc rfl (dc rfl dn)))) (dB (dL (dS (dS (dR (dc rfl (dc rfl dn))) (dI rfl rfl dK dX)) (dS (dB (dS (dS (dR (dc rfl (dc rfl (dc rfl dn)))) (dI rfl rfl (dR (dc rfl (dc rfl (dc rfl (dc rfl dn))))) dK)) (dR (dc rfl (dc rfl (dc rfl (dc rfl dn))))))) (dR (dc rfl (dc rfl (dc rfl dn))))))))) (dS (dR (dc rfl (dc rfl (dc rfl (dc rfl dn))))) dT)))))))
def u92 : Fu := fn K2.z [pAA, pAB, pAC, pAD, pAE, pAF, pAG, pAH, pBA, pBB, pBC, pBD] (cSeq (cReg ((o1 vMov (gK (.int .i64 0)) pAC) <|
 oEnd)) (cSeq (cSeq (cReg ((o1 vMov gAA pAD) <|
((o2 vEql gAD (gK (.int .u32 0)) pAE) <|
 oEnd))) (cIf gAE (cSeq (cReg ((o1 vMov (gK (.int .i64 32)) pAC) <|
 oEnd)) (cExit 0)) cSkip)) (cSeq (cReg ((o1 vMov gAA pAF) <|
((o1 vMov gAA pAG) <|
((oSlow K2.gt ⟨some 7,none,.p (.neg (.t 6)),false,[]⟩ pAH) <|
((o2 (vBin .and) gAF gAH pBA) <|
((o2 (vBin .mul) gBA (gK (.int .u32 125613361)) pBB) <|
((o2 (vBin .shr) gBB (gK (.int .u64 27)) pBC) <|
((o2 (vIadA 32 1) (gK (.ptr 7 0)) gBC pBD) <|
((m1 wLoad1 gBD pBE) <|
((o1 (vCvi .i64) gBE pBF) <|
((o1 vMov gBF pAC) <|
 oEnd))))))))))) (cExit 0)))) [(rT gAC)]
theorem u92_ok : denA k92 = u92 := dA2 rfl rfl (dF rfl rfl rfl (dS (dR (dc rfl dn)) (dS (dS (dR (dc rfl (dc rfl dn))) (dI rfl rfl (dS (dR (dc rfl dn)) dT) dK)) (dS (dR (dc rfl (dc rfl (dc (by kernel_rfl) (dc rfl (dc rfl (dc rfl (dc rfl (dc rfl (dc rfl (dc rfl dn))))))))))) dT))))
def u93 : Fu := fn K2.z [pAA, pAB, pAC, pAD, pAE, pAF, pAG, pAH, pBA, pBB, pBC, pBD] (cSeq (cReg ((o1 vMov (gK (.int .i64 0)) pAC) <|
 oEnd)) (cSeq (cSeq (cReg ((o1 vMov gAA pAD) <|
((o2 vEql gAD (gK (.int .u64 0)) pAE) <|
 oEnd))) (cIf gAE (cSeq (cReg ((o1 vMov (gK (.int .i64 64)) pAC) <|
 oEnd)) (cExit 0)) cSkip)) (cSeq (cReg ((o1 vMov gAA pAF) <|
((o1 vMov gAA pAG) <|
((oSlow K2.gt ⟨some 7,none,.p (.neg (.t 6)),false,[]⟩ pAH) <|
((o2 (vBin .and) gAF gAH pBA) <|
((o2 (vBin .mul) gBA (gK (.int .u64 285870213051353865)) pBB) <|
((o2 (vBin .shr) gBB (gK (.int .u64 58)) pBC) <|
((o2 (vIadA 64 1) (gK (.ptr 8 0)) gBC pBD) <|
((m1 wLoad1 gBD pBE) <|
((o1 (vCvi .i64) gBE pBF) <|
((o1 vMov gBF pAC) <|
 oEnd))))))))))) (cExit 0)))) [(rT gAC)]
theorem u93_ok : denA k93 = u93 := dA2 rfl rfl (dF rfl rfl rfl (dS (dR (dc rfl dn)) (dS (dS (dR (dc rfl (dc rfl dn))) (dI rfl rfl (dS (dR (dc rfl dn)) dT) dK)) (dS (dR (dc rfl (dc rfl (dc (by kernel_rfl) (dc rfl (dc rfl (dc rfl (dc rfl (dc rfl (dc rfl (dc rfl dn))))))))))) dT))))
def progS : Tr Fu := (.n (.n (.n (.n (.n (.n (.n .e (some u63) .e) (some u31) .e) (some u15) (.n (.n .e (some u79) .e) none .e)) none (.n (.n (.n .e (some u71) .e) (some u39) .e) none (.n (.n .e (some u87) .e) (some u55) .e))) none (.n (.n (.n (.n .e (some u67) .e) none .e) none (.n (.n .e (some u83) .e) (some u51) .e)) none (.n (.n (.n .e (some u75) .e) (some u43) .e) none (.n (.n .e (some u91) .e) (some u59) .e)))) none (.n (.n (.n (.n (.n .e (some u65) .e) none .e) (some u17) (.n (.n .e (some u81) .e) (some u49) .e)) none (.n (.n (.n .e (some u73) .e) (some u41) .e) none (.n (.n .e (some u89) .e) (some u57) .e))) none (.n (.n (.n (.n .e (some u69) .e) (some u37) .e) (some u21) (.n (.n .e (some u85) .e) (some u53) .e)) none (.n (.n (.n .e (some u77) .e) none .e) none (.n (.n .e (some u93) .e) (some u61) .e))))) none (.n (.n (.n (.n (.n (.n .e (some u64) .e) none .e) none (.n (.n .e (some u80) .e) (some u48) .e)) none (.n (.n .e (some u40) .e) none (.n (.n .e (some u88) .e) (some u56) .e))) none (.n (.n (.n (.n .e (some u68) .e) (some u36) .e) none (.n (.n .e (some u84) .e) none .e)) (some u12) (.n (.n (.n .e (some u76) .e) none .e) (some u28) (.n (.n .e (some u92) .e) (some u60) .e)))) none (.n (.n (.n (.n (.n .e (some u66) .e) (some u34) .e) (some u18) (.n .e (some u50) .e)) none (.n (.n (.n .e (some u74) .e) (some u42) .e) (some u26) (.n .e (some u58) .e))) none (.n (.n (.n (.n .e (some u70) .e) (some u38) .e) none (.n (.n .e (some u86) .e) (some u54) .e)) (some u14) (.n (.n (.n .e (some u78) .e) none .e) (some u30) (.n .e (some u62) .e))))))
def ul : List (Nat × Fu) := [(12, u12), (14, u14), (15, u15), (17, u17), (18, u18), (21, u21), (26, u26), (28, u28), (30, u30), (31, u31), (34, u34), (36, u36), (37, u37), (38, u38), (39, u39), (40, u40), (41, u41), (42, u42), (43, u43), (48, u48), (49, u49), (50, u50), (51, u51), (53, u53), (54, u54), (55, u55), (56, u56), (57, u57), (58, u58), (59, u59), (60, u60), (61, u61), (62, u62), (63, u63), (64, u64), (65, u65), (66, u66), (67, u67), (68, u68), (69, u69), (70, u70), (71, u71), (73, u73), (74, u74), (75, u75), (76, u76), (77, u77), (78, u78), (79, u79), (80, u80), (81, u81), (83, u83), (84, u84), (85, u85), (86, u86), (87, u87), (88, u88), (89, u89), (91, u91), (92, u92), (93, u93)]
theorem ul_ok : AllU prog ul := ⟨⟨k12, rfl, u12_ok⟩, ⟨k14, rfl, u14_ok⟩, ⟨k15, rfl, u15_ok⟩, ⟨k17, rfl, u17_ok⟩, ⟨k18, rfl, u18_ok⟩, ⟨k21, rfl, u21_ok⟩, ⟨k26, rfl, u26_ok⟩, ⟨k28, rfl, u28_ok⟩, ⟨k30, rfl, u30_ok⟩, ⟨k31, rfl, u31_ok⟩, ⟨k34, rfl, u34_ok⟩, ⟨k36, rfl, u36_ok⟩, ⟨k37, rfl, u37_ok⟩, ⟨k38, rfl, u38_ok⟩, ⟨k39, rfl, u39_ok⟩, ⟨k40, rfl, u40_ok⟩, ⟨k41, rfl, u41_ok⟩, ⟨k42, rfl, u42_ok⟩, ⟨k43, rfl, u43_ok⟩, ⟨k48, rfl, u48_ok⟩, ⟨k49, rfl, u49_ok⟩, ⟨k50, rfl, u50_ok⟩, ⟨k51, rfl, u51_ok⟩, ⟨k53, rfl, u53_ok⟩, ⟨k54, rfl, u54_ok⟩, ⟨k55, rfl, u55_ok⟩, ⟨k56, rfl, u56_ok⟩, ⟨k57, rfl, u57_ok⟩, ⟨k58, rfl, u58_ok⟩, ⟨k59, rfl, u59_ok⟩, ⟨k60, rfl, u60_ok⟩, ⟨k61, rfl, u61_ok⟩, ⟨k62, rfl, u62_ok⟩, ⟨k63, rfl, u63_ok⟩, ⟨k64, rfl, u64_ok⟩, ⟨k65, rfl, u65_ok⟩, ⟨k66, rfl, u66_ok⟩, ⟨k67, rfl, u67_ok⟩, ⟨k68, rfl, u68_ok⟩, ⟨k69, rfl, u69_ok⟩, ⟨k70, rfl, u70_ok⟩, ⟨k71, rfl, u71_ok⟩, ⟨k73, rfl, u73_ok⟩, ⟨k74, rfl, u74_ok⟩, ⟨k75, rfl, u75_ok⟩, ⟨k76, rfl, u76_ok⟩, ⟨k77, rfl, u77_ok⟩, ⟨k78, rfl, u78_ok⟩, ⟨k79, rfl, u79_ok⟩, ⟨k80, rfl, u80_ok⟩, ⟨k81, rfl, u81_ok⟩, ⟨k83, rfl, u83_ok⟩, ⟨k84, rfl, u84_ok⟩, ⟨k85, rfl, u85_ok⟩, ⟨k86, rfl, u86_ok⟩, ⟨k87, rfl, u87_ok⟩, ⟨k88, rfl, u88_ok⟩, ⟨k89, rfl, u89_ok⟩, ⟨k91, rfl, u91_ok⟩, ⟨k92, rfl, u92_ok⟩, ⟨k93, rfl, u93_ok⟩, trivial⟩
theorem progS_eq : progS = ofU ul := by kernel_rfl
def livesN : Nat := 14

end
end Vm
end Go.Proofs.YtgncjbodicabnaaDoor

