/-
  Parts of a proof.
-/
import Derived.Test.YtppgnpodkmacoaaDoorQ7
import Derived.Test.YtppgnpodkmacoaaDoorSM
set_option linter.unusedSimpArgs false
set_option linter.unusedVariables false

namespace Go.Proofs.YtppgnpodkmacoaaDoor
namespace Vm
open Go Go.Vm Go.Vm.W Go.Vm.X
noncomputable section
set_option maxRecDepth 100000
theorem OKs_cons {B : Base} {memo : Memo} {prog : Tr CFn} {m : Nat} {t : TE} {T : List TE} (h : OKs B memo prog m [t]) (h' : OKs B memo prog m T) : OKs B memo prog m (t :: T) := fun t' ht n hn => by
  rcases List.mem_cons.1 ht with rfl | ht
  · exact h _ (List.mem_singleton.2 rfl) n hn
  · exact h' _ ht n hn
theorem CodeOK_nil {memo : Memo} {prog : Tr CFn} : CodeOK memo prog [] := fun x hx => by cases hx
theorem CodeOK_cons {memo : Memo} {prog : Tr CFn} {f : FuncId} {z : Fx} {C : List (FuncId × Fx)} (h : (∀ vs, memo f vs = none) ∧ prog.get f = some z.cfn) (h' : CodeOK memo prog C) : CodeOK memo prog ((f, z) :: C) := fun x hx => by
  rcases List.mem_cons.1 hx with rfl | hx
  · exact h
  · exact h' x hx
theorem gok (mx : Int) : GRel (BB mx) nu0 G16 := by
  refine ⟨fun b => by simp [nu0], fun b sb hb => ?_⟩
  obtain ⟨h1, h2⟩ := Glob_of (B := BB mx) (es := ex mx ++ es) (H0_eq mx).symm (g := 0) (l := [.str [], .str [109], .str [118], .str [97]]) (by show 0 < nx0; decide) rfl
  simp only [G16, lkM] at hb
  cases hq : Nat.beq (gB + 0) b <;> rw [hq] at hb <;> simp only [cond_true, cond_false] at hb
  · cases hb
  · cases hb
    have : gB + 0 = b := Nat.eq_of_beq_eq_true hq
    subst this
    refine ⟨Nat.le_refl _, fun n => rfl, rfl, [⟨0, false, .cells [.str [], .str [109], .str [118], .str [97]]⟩], ⟨false, _, rfl, rfl, ⟨_, _, rfl, rfl, _, _, rfl, rfl, _, _, rfl, rfl, _, _, rfl, rfl, rfl⟩⟩, fun e he => ?_⟩
    rw [List.mem_singleton.1 he]
    exact ⟨h1, h2⟩
theorem c3 (mx : Int) : (∀ vs, told mx 3 vs = none) ∧ prog.get 3 = some z3.cfn := ⟨fun _ => rfl, by kernel_rfl⟩
theorem c4 (mx : Int) : (∀ vs, told mx 4 vs = none) ∧ prog.get 4 = some z4.cfn := ⟨fun _ => rfl, by kernel_rfl⟩
theorem c5 (mx : Int) : (∀ vs, told mx 5 vs = none) ∧ prog.get 5 = some z5.cfn := ⟨fun _ => rfl, by kernel_rfl⟩
theorem c8 (mx : Int) : (∀ vs, told mx 8 vs = none) ∧ prog.get 8 = some z8.cfn := ⟨fun _ => rfl, by kernel_rfl⟩
theorem c9 (mx : Int) : (∀ vs, told mx 9 vs = none) ∧ prog.get 9 = some z9.cfn := ⟨fun _ => rfl, by kernel_rfl⟩
theorem c10 (mx : Int) : (∀ vs, told mx 10 vs = none) ∧ prog.get 10 = some z10.cfn := ⟨fun _ => rfl, by kernel_rfl⟩
theorem c11 (mx : Int) : (∀ vs, told mx 11 vs = none) ∧ prog.get 11 = some z11.cfn := ⟨fun _ => rfl, by kernel_rfl⟩
theorem c12 (mx : Int) : (∀ vs, told mx 12 vs = none) ∧ prog.get 12 = some z12.cfn := ⟨fun _ => rfl, by kernel_rfl⟩
theorem c13 (mx : Int) : (∀ vs, told mx 13 vs = none) ∧ prog.get 13 = some z13.cfn := ⟨fun _ => rfl, by kernel_rfl⟩
theorem c14 (mx : Int) : (∀ vs, told mx 14 vs = none) ∧ prog.get 14 = some z14.cfn := ⟨fun _ => rfl, by kernel_rfl⟩
theorem c16 (mx : Int) : (∀ vs, told mx 16 vs = none) ∧ prog.get 16 = some z16.cfn := ⟨fun _ => rfl, by kernel_rfl⟩
theorem c17 (mx : Int) : (∀ vs, told mx 17 vs = none) ∧ prog.get 17 = some z17.cfn := ⟨fun _ => rfl, by kernel_rfl⟩
theorem c18 (mx : Int) : (∀ vs, told mx 18 vs = none) ∧ prog.get 18 = some z18.cfn := ⟨fun _ => rfl, by kernel_rfl⟩
theorem c19 (mx : Int) : (∀ vs, told mx 19 vs = none) ∧ prog.get 19 = some z19.cfn := ⟨fun _ => rfl, by kernel_rfl⟩
theorem c22 (mx : Int) : (∀ vs, told mx 22 vs = none) ∧ prog.get 22 = some z22.cfn := ⟨fun _ => rfl, by kernel_rfl⟩
theorem c23 (mx : Int) : (∀ vs, told mx 23 vs = none) ∧ prog.get 23 = some z23.cfn := ⟨fun _ => rfl, by kernel_rfl⟩
theorem c24 (mx : Int) : (∀ vs, told mx 24 vs = none) ∧ prog.get 24 = some z24.cfn := ⟨fun _ => rfl, by kernel_rfl⟩
theorem c25 (mx : Int) : (∀ vs, told mx 25 vs = none) ∧ prog.get 25 = some z25.cfn := ⟨fun _ => rfl, by kernel_rfl⟩
theorem c26 (mx : Int) : (∀ vs, told mx 26 vs = none) ∧ prog.get 26 = some z26.cfn := ⟨fun _ => rfl, by kernel_rfl⟩
theorem c28 (mx : Int) : (∀ vs, told mx 28 vs = none) ∧ prog.get 28 = some z28.cfn := ⟨fun _ => rfl, by kernel_rfl⟩
theorem c30 (mx : Int) : (∀ vs, told mx 30 vs = none) ∧ prog.get 30 = some z30.cfn := ⟨fun _ => rfl, by kernel_rfl⟩
theorem c31 (mx : Int) : (∀ vs, told mx 31 vs = none) ∧ prog.get 31 = some z31.cfn := ⟨fun _ => rfl, by kernel_rfl⟩
theorem c34 (mx : Int) : (∀ vs, told mx 34 vs = none) ∧ prog.get 34 = some z34.cfn := ⟨fun _ => rfl, by kernel_rfl⟩
theorem c35 (mx : Int) : (∀ vs, told mx 35 vs = none) ∧ prog.get 35 = some z35.cfn := ⟨fun _ => rfl, by kernel_rfl⟩
theorem c36 (mx : Int) : (∀ vs, told mx 36 vs = none) ∧ prog.get 36 = some z36.cfn := ⟨fun _ => rfl, by kernel_rfl⟩
theorem c37 (mx : Int) : (∀ vs, told mx 37 vs = none) ∧ prog.get 37 = some z37.cfn := ⟨fun _ => rfl, by kernel_rfl⟩
theorem c38 (mx : Int) : (∀ vs, told mx 38 vs = none) ∧ prog.get 38 = some z38.cfn := ⟨fun _ => rfl, by kernel_rfl⟩
theorem c39 (mx : Int) : (∀ vs, told mx 39 vs = none) ∧ prog.get 39 = some z39.cfn := ⟨fun _ => rfl, by kernel_rfl⟩
theorem c40 (mx : Int) : (∀ vs, told mx 40 vs = none) ∧ prog.get 40 = some z40.cfn := ⟨fun _ => rfl, by kernel_rfl⟩
theorem c47 (mx : Int) : (∀ vs, told mx 47 vs = none) ∧ prog.get 47 = some z47.cfn := ⟨fun _ => rfl, by kernel_rfl⟩
theorem c48 (mx : Int) : (∀ vs, told mx 48 vs = none) ∧ prog.get 48 = some z48.cfn := ⟨fun _ => rfl, by kernel_rfl⟩
theorem c49 (mx : Int) : (∀ vs, told mx 49 vs = none) ∧ prog.get 49 = some z49.cfn := ⟨fun _ => rfl, by kernel_rfl⟩
theorem c50 (mx : Int) : (∀ vs, told mx 50 vs = none) ∧ prog.get 50 = some z50.cfn := ⟨fun _ => rfl, by kernel_rfl⟩
theorem c58 (mx : Int) : (∀ vs, told mx 58 vs = none) ∧ prog.get 58 = some z58.cfn := ⟨fun _ => rfl, by kernel_rfl⟩
theorem c59 (mx : Int) : (∀ vs, told mx 59 vs = none) ∧ prog.get 59 = some z59.cfn := ⟨fun _ => rfl, by kernel_rfl⟩
theorem c62 (mx : Int) : (∀ vs, told mx 62 vs = none) ∧ prog.get 62 = some z62.cfn := ⟨fun _ => rfl, by kernel_rfl⟩
theorem c76 (mx : Int) : (∀ vs, told mx 76 vs = none) ∧ prog.get 76 = some z76.cfn := ⟨fun _ => rfl, by kernel_rfl⟩
theorem c78 (mx : Int) : (∀ vs, told mx 78 vs = none) ∧ prog.get 78 = some z78.cfn := ⟨fun _ => rfl, by kernel_rfl⟩
theorem c93 (mx : Int) : (∀ vs, told mx 93 vs = none) ∧ prog.get 93 = some z93.cfn := ⟨fun _ => rfl, by kernel_rfl⟩
theorem c94 (mx : Int) : (∀ vs, told mx 94 vs = none) ∧ prog.get 94 = some z94.cfn := ⟨fun _ => rfl, by kernel_rfl⟩
theorem c95 (mx : Int) : (∀ vs, told mx 95 vs = none) ∧ prog.get 95 = some z95.cfn := ⟨fun _ => rfl, by kernel_rfl⟩
theorem o48a (mx : Int) : OKs (BB mx) (told mx) prog 1 [⟨48, [(.dn (.int .i64))], [(.own (.int .i64))], f48 fuel⟩] := fx_ok (m := 0) (d := 0) OKs_nil CodeOK_nil (gok mx) (c48 mx) (fun a => f48_eq fuel a)
theorem o48b (mx : Int) : OKs (BB mx) (told mx) prog 1 [⟨48, [.nl], [(.own (.int .i64))], fun _ => f48 fuel []⟩] := fx_ok (m := 0) (d := 0) OKs_nil CodeOK_nil (gok mx) (c48 mx) (fun a => f48n_eq fuel a)
theorem o48 (mx : Int) : OKs (BB mx) (told mx) prog 1 [⟨48, [(.d (.sl (.int .i64)))], [(.own (.int .i64))], f48 fuel⟩] := fun t ht n hn => by
  rw [List.mem_singleton.1 ht]
  exact nil_split (o48b mx _ (List.mem_singleton.2 rfl) n (by omega)) (o48a mx _ (List.mem_singleton.2 rfl) n (by omega)) (by simp [Ty.size])
theorem o49a (mx : Int) : OKs (BB mx) (told mx) prog 1 [⟨49, [(.dn (.int .u8))], [(.own (.int .u8))], f49 fuel⟩] := fx_ok (m := 0) (d := 0) OKs_nil CodeOK_nil (gok mx) (c49 mx) (fun a => f49_eq fuel a)
theorem o49b (mx : Int) : OKs (BB mx) (told mx) prog 1 [⟨49, [.nl], [(.own (.int .u8))], fun _ => f49 fuel []⟩] := fx_ok (m := 0) (d := 0) OKs_nil CodeOK_nil (gok mx) (c49 mx) (fun a => f49n_eq fuel a)
theorem o49 (mx : Int) : OKs (BB mx) (told mx) prog 1 [⟨49, [(.d (.sl (.int .u8)))], [(.own (.int .u8))], f49 fuel⟩] := fun t ht n hn => by
  rw [List.mem_singleton.1 ht]
  exact nil_split (o49b mx _ (List.mem_singleton.2 rfl) n (by omega)) (o49a mx _ (List.mem_singleton.2 rfl) n (by omega)) (by simp [Ty.size])
theorem o14 (mx : Int) : OKs (BB mx) (told mx) prog 1 [⟨14, [(.d (.prod (.sl (.int .i64)) (.sl (.int .u8))))], [(.d (.int .i64))], f14 fuel⟩] := fx_ok (m := 0) (d := 0) OKs_nil CodeOK_nil (gok mx) (c14 mx) (fun a => f14_eq fuel a)
theorem o34 (mx : Int) : OKs (BB mx) (told mx) prog 1 [⟨34, [(.d (.sl (.int .i64)))], [(.d (.int .i64))], f34 fuel⟩] := fx_ok (m := 0) (d := 0) OKs_nil CodeOK_nil (gok mx) (c34 mx) (fun a => f34_eq fuel a)
theorem o35 (mx : Int) : OKs (BB mx) (told mx) prog 1 [⟨35, [(.d (.sl (.int .i64)))], [(.d (.int .i64))], f35 fuel⟩] := fx_ok (m := 0) (d := 0) OKs_nil CodeOK_nil (gok mx) (c35 mx) (fun a => f35_eq fuel a)
theorem o9 (mx : Int) : OKs (BB mx) (told mx) prog 1 [⟨9, [(.d (.prod (.sl (.int .u8)) (.sl (.int .u8))))], [(.p (.own (.int .i64)) (.own (.int .u8)))], f9 fuel⟩] := fx_ok (m := 0) (d := 0) OKs_nil CodeOK_nil (gok mx) (c9 mx) (fun a => f9_eq fuel a)
theorem o13 (mx : Int) : OKs (BB mx) (told mx) prog 1 [⟨13, [(.p (.ownx (.int .i64)) (.ownx (.int .u8))), (.d (.prod (.sl (.int .i64)) (.sl (.int .u8))))], [(.d .bool)], f13 fuel⟩] := fx_ok (m := 0) (d := 0) OKs_nil CodeOK_nil (gok mx) (c13 mx) (fun a => f13_eq fuel a)
theorem o18 (mx : Int) : OKs (BB mx) (told mx) prog 4 [⟨18, [(.d (.prod (.sl (.int .i64)) (.sl (.int .u8))))], [(.p (.ownx (.int .i64)) (.ownx (.int .u8)))], f18 fuel⟩] := fx_ok (m := 1) (d := 2) (OKs_cons (OKs_up (o48 mx) (Nat.le_of_ble_eq_true rfl)) (OKs_cons (OKs_up (o49 mx) (Nat.le_of_ble_eq_true rfl)) OKs_nil)) (CodeOK_cons (c30 mx) (CodeOK_cons (c31 mx) (CodeOK_cons (c36 mx) (CodeOK_cons (c37 mx) (CodeOK_cons (c58 mx) (CodeOK_cons (c59 mx) CodeOK_nil)))))) (gok mx) (c18 mx) (fun a => f18_eq fuel a)
theorem o25 (mx : Int) : OKs (BB mx) (told mx) prog 3 [⟨25, [(.d (.prod (.sl (.int .i64)) (.sl (.int .u8))))], [(.p (.ownx (.int .i64)) (.ownx (.int .u8)))], f25 fuel⟩] := fx_ok (m := 1) (d := 1) (OKs_cons (OKs_up (o48 mx) (Nat.le_of_ble_eq_true rfl)) (OKs_cons (OKs_up (o49 mx) (Nat.le_of_ble_eq_true rfl)) OKs_nil)) (CodeOK_cons (c30 mx) (CodeOK_cons (c31 mx) CodeOK_nil)) (gok mx) (c25 mx) (fun a => f25_eq fuel a)
theorem o19 (mx : Int) : OKs (BB mx) (told mx) prog 2 [⟨19, [(.d (.prod (.sl (.int .i64)) (.sl (.int .u8)))), (.d (.prod (.sl (.int .i64)) (.sl (.int .u8))))], [(.d .bool)], f19 fuel⟩] := fx_ok (m := 0) (d := 1) OKs_nil (CodeOK_cons (c38 mx) (CodeOK_cons (c39 mx) CodeOK_nil)) (gok mx) (c19 mx) (fun a => f19_eq fuel a)
theorem o17 (mx : Int) : OKs (BB mx) (told mx) prog 2 [⟨17, [(.d (.prod (.sl (.int .i64)) (.sl (.int .u8))))], [(.p (.d (.int .i64)) (.p (.d (.int .i64)) (.ownx (.prod (.int .i64) (.prod (.int .u8) (.int .u8)))))), (.d (.int .i64))], f17 fuel⟩] := fx_ok (m := 1) (d := 0) (OKs_cons (OKs_up (o14 mx) (Nat.le_of_ble_eq_true rfl)) OKs_nil) CodeOK_nil (gok mx) (c17 mx) (fun a => f17_eq fuel a)
theorem o40 (mx : Int) : OKs (BB mx) (told mx) prog 1 [⟨40, [(.d (.prod (.int .i64) (.int .i64)))], [(.d (.int .i64))], f40 fuel⟩] := fx_ok (m := 0) (d := 0) OKs_nil CodeOK_nil (gok mx) (c40 mx) (fun a => f40_eq fuel a)
theorem o76 (mx : Int) : OKs (BB mx) (told mx) prog 3 [⟨76, [(.d (.prod (.int .i64) (.int .i64))), (.d (.int .i64))], [(.d (.prod (.int .i64) (.prod (.int .i64) (.int .u8)))), (.d (.int .i64))], f76 fuel⟩] := fx_ok (m := 1) (d := 1) (OKs_cons (OKs_up (o40 mx) (Nat.le_of_ble_eq_true rfl)) OKs_nil) (CodeOK_cons (c93 mx) (CodeOK_cons (c94 mx) CodeOK_nil)) (gok mx) (c76 mx) (fun a => f76_eq fuel a)
theorem o78 (mx : Int) : OKs (BB mx) (told mx) prog 3 [⟨78, [(.d (.prod (.int .i64) (.int .i64))), (.d (.prod (.int .i64) (.prod (.int .i64) (.int .u8))))], [(.d (.int .i64)), (.d (.int .i64))], f78 fuel⟩] := fx_ok (m := 1) (d := 1) (OKs_cons (OKs_up (o40 mx) (Nat.le_of_ble_eq_true rfl)) OKs_nil) (CodeOK_cons (c95 mx) CodeOK_nil) (gok mx) (c78 mx) (fun a => f78_eq fuel a)
theorem o22 (mx : Int) : OKs (BB mx) (told mx) prog 2 [⟨22, [(.d (.prod (.int .i64) (.prod (.int .i64) (.sl (.prod (.int .i64) (.prod (.int .u8) (.int .u8))))))), (.d (.prod (.int .i64) (.prod (.int .i64) (.sl (.prod (.int .i64) (.prod (.int .u8) (.int .u8)))))))], [(.d .bool)], f22 fuel⟩] := fx_ok (m := 0) (d := 1) OKs_nil (CodeOK_cons (c47 mx) CodeOK_nil) (gok mx) (c22 mx) (fun a => f22_eq fuel a)
theorem o24 (mx : Int) : OKs (BB mx) (told mx) prog 1 [⟨24, [(.ownx (.int .i64)), (.d (.sl (.int .i64)))], [(.d .bool)], f24 fuel⟩] := fx_ok (m := 0) (d := 0) OKs_nil CodeOK_nil (gok mx) (c24 mx) (fun a => f24_eq fuel a)
theorem o14a (mx : Int) : OKs (BB mx) mm0 prog 1 [⟨14, [(.d (.prod (.sl (.int .i64)) (.sl (.int .u8))))], [(.d (.int .i64))], f14 fuel⟩] := fx_ok (m := 0) (d := 0) OKs_nil CodeOK_nil (gok mx) ⟨fun _ => rfl, (c14 mx).2⟩ (fun a => f14_eq fuel a)
theorem o15 (mx : Int) : OKs (BB mx) (told mx) prog 1 [⟨15, [(.d (.prod (.sl (.int .i64)) (.sl (.int .u8))))], [(.ownx (.int .i64)), (.d (.int .i64))], f15 fuel⟩] := tEnds_TE (o14a mx _ (List.mem_singleton.2 rfl) 3 (by decide)) fun az g h => by simp only [told, memoOr, h]
theorem o16 (mx : Int) : OKs (BB mx) (told mx) prog 2 [⟨16, [(.d (.prod (.sl (.int .i64)) (.sl (.int .u8))))], [(.d (.int .i64)), (.d (.int .i64)), (.d (.int .i64))], f16 fuel⟩] := fx_ok (m := 1) (d := 0) (OKs_cons (OKs_up (o15 mx) (Nat.le_of_ble_eq_true rfl)) (OKs_cons (OKs_up (o34 mx) (Nat.le_of_ble_eq_true rfl)) (OKs_cons (OKs_up (o35 mx) (Nat.le_of_ble_eq_true rfl)) OKs_nil))) CodeOK_nil (gok mx) (c16 mx) (fun a => f16_eq fuel a)
theorem o10 (mx : Int) : OKs (BB mx) (told mx) prog 4 [⟨10, [(.d (.int .i64))], [(.d .str)], f10 fuel⟩] := fx_ok (m := 0) (d := 3) OKs_nil (CodeOK_cons (c26 mx) (CodeOK_cons (c50 mx) (CodeOK_cons (c62 mx) CodeOK_nil))) (gok mx) (c10 mx) (fun a => f10_eq fuel a)
theorem o28 (mx : Int) : OKs (BB mx) (told mx) prog 1 [⟨28, [(.d (.sl .str)), (.d .str)], [(.d (.int .i64))], f28 fuel⟩] := fx_ok (m := 0) (d := 0) OKs_nil CodeOK_nil (gok mx) (c28 mx) (fun a => f28_eq fuel a)
theorem o32 (mx : Int) : OKs (BB mx) (told mx) prog 1 [⟨32, [(.d (.sl .str)), (.d .str)], [(.d .str)], f32 fuel⟩] := tJoin_TE fun az g h => by simp only [told, memoOr, tEnds, tAtoi, tSplit, Nat.beq, cond_false] at h ⊢; first | exact h | simp only [h]
theorem o12 (mx : Int) : OKs (BB mx) (told mx) prog 5 [⟨12, [(.d (.prod (.sl (.int .i64)) (.sl (.int .u8))))], [(.d .str)], f12 fuel⟩] := fx_ok (m := 4) (d := 0) (OKs_cons (OKs_up (o10 mx) (Nat.le_of_ble_eq_true rfl)) (OKs_cons (OKs_up (o14 mx) (Nat.le_of_ble_eq_true rfl)) (OKs_cons (OKs_up (o32 mx) (Nat.le_of_ble_eq_true rfl)) OKs_nil))) CodeOK_nil (gok mx) (c12 mx) (fun a => f12_eq fuel a)
theorem o27 (mx : Int) : OKs (BB mx) (told mx) prog 1 [⟨27, [(.d .str), (.d .str)], [(.ownx .str)], f27 fuel⟩] := tSplit_TE fun az g h => by simp only [told, memoOr, tEnds, tAtoi, tSplit, Nat.beq, cond_false] at h ⊢; first | exact h | simp only [h]
theorem o29 (mx : Int) : OKs (BB mx) (told mx) prog 1 [⟨29, [(.d .str)], [(.d (.int .i64)), .err], f29 fuel⟩] := tAtoi_TE (ty := 115) fun az g h => by simp only [told, memoOr, tEnds, tAtoi, tSplit, Nat.beq, cond_false] at h ⊢; first | exact h | simp only [h]
theorem o11 (mx : Int) : OKs (BB mx) (told mx) prog 6 [⟨11, [(.d .str)], [(.p (.ownx (.int .i64)) (.ownx (.int .u8))), (.d (.int .i64))], f11 fuel⟩] := fx_ok (m := 4) (d := 1) (OKs_cons (OKs_up (o10 mx) (Nat.le_of_ble_eq_true rfl)) (OKs_cons (OKs_up (o14 mx) (Nat.le_of_ble_eq_true rfl)) (OKs_cons (OKs_up (o27 mx) (Nat.le_of_ble_eq_true rfl)) (OKs_cons (OKs_up (o28 mx) (Nat.le_of_ble_eq_true rfl)) (OKs_cons (OKs_up (o29 mx) (Nat.le_of_ble_eq_true rfl)) OKs_nil))))) (CodeOK_cons (c30 mx) (CodeOK_cons (c31 mx) CodeOK_nil)) (gok mx) (c11 mx) (fun a => f11_eq fuel a)
theorem o8 (mx : Int) : OKs (BB mx) (told mx) prog 8 [⟨8, [], [(.d .bool)], f8 fuel⟩] := fx_ok (m := 6) (d := 1) (OKs_cons (OKs_up (o11 mx) (Nat.le_of_ble_eq_true rfl)) (OKs_cons (OKs_up (o12 mx) (Nat.le_of_ble_eq_true rfl)) (OKs_cons (OKs_up (o15 mx) (Nat.le_of_ble_eq_true rfl)) (OKs_cons (OKs_up (o17 mx) (Nat.le_of_ble_eq_true rfl)) (OKs_cons (OKs_up (o18 mx) (Nat.le_of_ble_eq_true rfl)) (OKs_cons (OKs_up (o25 mx) (Nat.le_of_ble_eq_true rfl)) OKs_nil)))))) (CodeOK_cons (c23 mx) (CodeOK_cons (c24 mx) CodeOK_nil)) (gok mx) (c8 mx) (fun a => f8_eq fuel a)
theorem o4 (mx : Int) : OKs (BB mx) (told mx) prog 9 [⟨4, [(.d (.prod (.sl (.int .u8)) (.sl (.int .u8))))], [(.d .bool)], f4 fuel⟩] := fx_ok (m := 8) (d := 0) (OKs_cons (OKs_up (o8 mx) (Nat.le_of_ble_eq_true rfl)) (OKs_cons (OKs_up (o9 mx) (Nat.le_of_ble_eq_true rfl)) (OKs_cons (OKs_up (o15 mx) (Nat.le_of_ble_eq_true rfl)) (OKs_cons (OKs_up (o16 mx) (Nat.le_of_ble_eq_true rfl)) OKs_nil)))) CodeOK_nil (gok mx) (c4 mx) (fun a => f4_eq fuel a)
theorem o3 (mx : Int) : OKs (BB mx) (told mx) prog 10 [⟨3, [(.d (.prod (.sl (.int .u8)) (.sl (.int .u8)))), (.d .str)], [(.d .bool)], f3 fuel⟩] := fx_ok (m := 8) (d := 1) (OKs_cons (OKs_up (o8 mx) (Nat.le_of_ble_eq_true rfl)) (OKs_cons (OKs_up (o9 mx) (Nat.le_of_ble_eq_true rfl)) (OKs_cons (OKs_up (o10 mx) (Nat.le_of_ble_eq_true rfl)) (OKs_cons (OKs_up (o11 mx) (Nat.le_of_ble_eq_true rfl)) (OKs_cons (OKs_up (o12 mx) (Nat.le_of_ble_eq_true rfl)) (OKs_cons (OKs_up (o14 mx) (Nat.le_of_ble_eq_true rfl)) OKs_nil)))))) (CodeOK_cons (c13 mx) CodeOK_nil) (gok mx) (c3 mx) (fun a => f3_eq fuel a)
theorem o5 (mx : Int) : OKs (BB mx) (told mx) prog 10 [⟨5, [(.d (.prod (.sl (.int .i64)) (.sl (.int .u8))))], [(.d .bool)], f5 fuel⟩] := fx_ok (m := 8) (d := 1) (OKs_cons (OKs_up (o8 mx) (Nat.le_of_ble_eq_true rfl)) (OKs_cons (OKs_up (o12 mx) (Nat.le_of_ble_eq_true rfl)) (OKs_cons (OKs_up (o14 mx) (Nat.le_of_ble_eq_true rfl)) (OKs_cons (OKs_up (o15 mx) (Nat.le_of_ble_eq_true rfl)) (OKs_cons (OKs_up (o16 mx) (Nat.le_of_ble_eq_true rfl)) (OKs_cons (OKs_up (o17 mx) (Nat.le_of_ble_eq_true rfl)) (OKs_cons (OKs_up (o18 mx) (Nat.le_of_ble_eq_true rfl)) (OKs_cons (OKs_up (o19 mx) (Nat.le_of_ble_eq_true rfl)) OKs_nil)))))))) (CodeOK_cons (c13 mx) CodeOK_nil) (gok mx) (c5 mx) (fun a => f5_eq fuel a)
end
end Vm
end Go.Proofs.YtppgnpodkmacoaaDoor
