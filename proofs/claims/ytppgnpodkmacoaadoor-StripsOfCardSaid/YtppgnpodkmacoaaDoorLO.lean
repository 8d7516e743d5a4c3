/-
  The law StripsOf: for every input the call returns true, and its arguments read as they did.
-/
import Derived.Test.YtppgnpodkmacoaaDoorMS
import Derived.Test.YtppgnpodkmacoaaDoorPL
set_option linter.unusedSimpArgs false
set_option linter.unusedVariables false

namespace Go.Proofs.YtppgnpodkmacoaaDoor
open Go.ChangeShapes Go.WideShapes Go.ChangeAt Go.RowKit
namespace Vm
open Go Go.Vm Go.Vm.W Go.Vm.X
set_option maxRecDepth 100000
theorem cells5 : Tryd.prog.cellsOf 5 = 1 := by kernel_rfl
theorem cells59 : Tryd.prog.cellsOf 59 = 3 := by kernel_rfl
abbrev tO : Ty := .sl (.arr 3 (.int .u8))
def ArgO (W : World) (v : Value) (l : Vm.Loc) (L : List (List Int)) : Prop := (v = .slice none 0 0 ∧ L = []) ∨ ∃ (g : Nat → Int) (len cap off : Nat), L = rows3 g len ∧ v = .slice (some ⟨l.blk, off, none⟩) len cap ∧ len ≤ cap ∧ (off = l.base ∨ cap = 0) ∧ l.base + cap * 3 = l.lim ∧
  ∀ ρ, Blk.Rel ρ (.cells (put ((List.range (len * 3)).map fun q => AV.int .u8 (g q)) 0 .e) (len * 3)) l W
theorem argO_ok {H : Type} {enc : TypeId × Value → H} {W : World} {fuel b0 : Nat} {v : Value} {x : DataW H × List MemPlace}
    (h : DataW.trod enc Tryd.prog W 0 (fun _ => true) true fuel 58 [v] = some x) (hok : Cell.okWide Tryd.prog W .any b0 58 v) (hfz : W.noneFrozen x.2) : ∃ l L, (∀ y ∈ L, X.bytes y) ∧ ArgO W v l L := by
  rcases slice_arg3 Tryd.underlying58 Tryd.underlying59 Tryd.underlying5 cells5 cells59 h hok hfz with rfl | ⟨g, len, cap, off, blk, base, lim, h1, h2, h3, h4, h5, h6⟩
  · exact ⟨⟨0, 0, 0⟩, [], (fun z hz => by cases hz), .inl ⟨rfl, rfl⟩⟩
  · refine ⟨⟨blk, base, lim⟩, _, fun y hy => ?_, .inr ⟨g, len, cap, off, rfl, h2, h3, h4, h5, h6⟩⟩
    obtain ⟨i, hi, rfl⟩ := List.mem_map.1 hy
    have hi := List.mem_range.1 hi
    intro z hz
    simp only [List.mem_cons, List.not_mem_nil, or_false] at hz
    rcases hz with rfl | rfl | rfl
    · exact u8_bd (h1 _ (by omega))
    · exact u8_bd (h1 _ (by omega))
    · exact u8_bd (h1 _ (by omega))
theorem lay_sliceO {B : Base} {ρ : RM} {H : Tr Blk} {W : World} {O : List Ent} {b : Nat} {v : Value} {l : Vm.Loc} {L : List (List Int)} (ha : ArgO W v l L) (hl : ρ b = some l) (hR : HR ρ H W) (hlt : ∀ x, (H.get x).isSome → x < RO) (hk : HK B RO O H RO) (h0 : B.nx0 ≤ b) (hb : b < RO) (hn : b ∉ O.map Ent.b) :
    ∃ H' O' av A, HR ρ H' W ∧ (∀ x, (H'.get x).isSome → x < RO) ∧ HK B RO O' H' RO ∧ (∀ x ∈ (A : Facts), Has O' x.1 x.2) ∧ SlR A 3 (RelL (RelC A (.arr 3 (.int .u8)))) L av ∧ VR ρ av v := by
  rcases ha with ⟨rfl, rfl⟩ | ⟨g, len, cap, off, rfl, rfl, h1, h2, h3, h4⟩
  · exact ⟨H, O, .nils, [], hR, hlt, hk, (fun x hx => by cases hx), .inl ⟨rfl, rfl⟩, by simp [VR]⟩
  · generalize hm : ((List.range (len * 3)).map fun q => AV.int .u8 (g q)) = M at h4
    have e1 : M.length = len * 3 := by rw [← hm]; simp
    obtain ⟨q1, q2⟩ := HR_add hR hlt hb hl (h4 ρ)
    refine ⟨_, ⟨b, false, .cells M⟩ :: O, .sl b 0 len (some cap) 3, [(b, .cells M)], q1, q2, ?_, fun x hx => ?_, .inr ⟨b, 0, some cap, M, by rw [rows3_len], List.mem_singleton.2 rfl, fun c hc => by cases hc; rw [rows3_len]; exact h1, by rw [rows3_len]; omega, ?_⟩, ?_⟩
    · have := HK_lay hk h0 hb hn M
      rw [e1] at this
      exact this
    · rw [List.mem_singleton.1 hx]; exact .here
    · rw [List.drop_zero, rows3_len, List.take_of_length_le (by omega), ← hm]
      exact rows3_rel len
    · simp only [VR]
      exact ⟨l, cap, off, hl, rfl, h1, by omega, by omega, .inl ⟨rfl, by omega⟩⟩
theorem law_O {W : World} (hsh : W.ShapedOpen Tryd.prog) (hL : laidMet Tryd.prog Rows.stripsPatternRow.laid W) {w h : Int} (hw : 0 ≤ w) (hh : 0 ≤ h) (hh' : h ≤ 255) {v : Value} {l : Vm.Loc} {L : List (List Int)} (hb : ∀ y ∈ L, X.bytes y) (a0 : ArgO W v l L) :
    Calls Tryd.prog 7 #[.int .u8 w, .int .u8 h, v] W fun e W' => e = .returned (.bool true) ∧ Below W.heap.size W W' := by
  obtain ⟨mx, p1, p2, hR⟩ := start hsh hL [l]
  have r0 : rho1 W 10 [p2, p1, l] 12 = some l := rfl
  obtain ⟨H1, O1, u0, A0, q1, q2, q3, q5, q7, q8⟩ := lay_sliceO a0 r0 hR (start_lt mx) (start_hk mx) (show nx0 ≤ 12 by decide) (by decide) (by simp)
  refine calls_of_TE (t := ⟨7, [.d (.int .u8), .d (.int .u8), .d tO], [.d .bool], law16_StripsOf fuel⟩) (told_ok mx) mixed prog_ok (n := 12) (o_law16_StripsOf mx _ (List.mem_singleton.2 rfl) 12 (Nat.le_refl _)) rfl (a := (w, (h, L))) (law16_StripsOf_true hw hh hh' hb) q3 (A := A0) (fun x hx => .inl (q5 x hx)) (vs := [.int .u8 w, .int .u8 h, u0]) ?_ q1 gl_ok (rho1_free (show 10 + 3 ≤ RO by decide)) q2 ?_
  · exact ⟨_, _, [], [], rfl, rfl, ⟨rfl, rfl, rfl⟩, _, _, [], [], rfl, rfl, ⟨rfl, rfl, rfl⟩, _, rfl, rfl, ⟨_, rfl, q7⟩, rfl⟩
  · simp only [VRs, VR]
    exact ⟨_, _, rfl, rfl, _, _, rfl, rfl, _, _, rfl, q8, rfl⟩
theorem stripsOf_lifted (os : Os) (started : os.Started) (H : Type) (enc : TypeId × Value → H) :
    ReturnsInHanded {} Tryd.checked os 7 .any (fun w args => (Rows.stripsOfSpec.pre enc Tryd.prog Tryd.f7 Rows.stripsOfRow.domain false w args ∧ laidMetH Tryd.prog Rows.stripsOfRow.laid w) ∧ sizedMet enc Tryd.prog Tryd.f7 (OpenSpec.ofChange Rows.stripsOfSpec) false w args)
      (Rows.stripsOfSpec.post enc Tryd.prog Tryd.f7 false true false false) := by
  refine rows_shaped (C := Tryd.checked) (X := fun w _ => laidMetH Tryd.prog Rows.stripsOfRow.laid w) (fun _ _ _ hh h => h.of_heap hh) own started (by kernel_rfl) Tryd.func7
    (ChangeSpec.witness_shaped (enc := enc) (C := Tryd.checked) (os := os) (X := fun w _ => laidMetH Tryd.prog Rows.stripsOfRow.laid w) false (World.laidAll Tryd.prog os Rows.stripsOfRow.laid) #[.int .u8 0, .int .u8 0, .slice none 0 0] 8 (World.laidAll_os _ _ _)
      (World.shaped_of_ZipB (by kernel_rfl) (by kernel_rfl)) (by kernel_rfl) (by kernel_rfl) (by kernel_rfl)
      (by rw [MakeChecks.laidMetH_plain _ _ _ (by kernel_rfl)]; exact laidMet_laidAll _ (by kernel_rfl) (by kernel_rfl))) ?_
  intro W base args ds gs before hsh hval0 hW hL
  refine law_post (C := Tryd.checked) rfl (fun H ds h => ?_) rfl Tryd.underlying4 laidOut (by kernel_rfl) hW ?_
  · rw [Tryd.params7] at h
    match ds, h with
    | [a, b, c], _ => rfl
  have hval : ∀ (j : Nat) t v, Tryd.f7.params[j]? = some t → args[j]? = some v → Value.okWide Tryd.prog W .any base t v := hval0
  obtain ⟨p, q, hA0, _, rfl, hfz, _⟩ := hW
  have hA : DataW.TrodAll enc Tryd.prog W 0 (fun _ => true) true Tryd.f7.params.toList args.toList ds p := hA0
  rw [Tryd.params7] at hA hval
  obtain ⟨v0, v1, v2, d0, d1, d2, p0, p1, p2, rfl, rfl, rfl, h0, h1, h2⟩ := trodAll_three hA
  obtain ⟨w, rfl, rfl, rfl, hw⟩ := open_int Tryd.underlying5 (hval 0 5 v0 rfl rfl) h0
  obtain ⟨h, rfl, rfl, rfl, hh⟩ := open_int Tryd.underlying5 (hval 1 5 v1 rfl rfl) h1
  have hv2 := hval 2 58 v2 rfl rfl
  simp only [Value.okWide, Tryd.underlying58] at hv2
  obtain ⟨fu, h2⟩ := h2
  have ec : v2.cells.toList = [v2] := by
    rcases hv2' : v2 with _ | _ <;> first | rfl | (subst hv2'; simp [Cell.okWide, Cell.ok, Tryd.underlying58] at hv2)
  rw [ec] at h2
  obtain ⟨l, L, b, a⟩ := argO_ok h2 hv2 (noneFrozen_of hfz fun x hx => by simp [hx])
  rw [MakeChecks.laidMetH_plain _ _ _ (by kernel_rfl)] at hL
  exact law_O hsh hL (u8_bd hw).1 (u8_bd hh).1 (u8_bd hh).2 b a
theorem stripsOf_holds : Rows.StripsOfSaid :=
  OpenClaim.holds_of_wide 7 Tryd.f7 rfl rfl rfl rfl rfl rfl rfl ⟨rfl, rfl, rfl, rfl, rfl⟩ rfl rfl rfl rfl rfl (by kernel_rfl) Tryd.func7 (by kernel_rfl)
    (of_decide_eq_true (by kernel_rfl)) (by unfold Func.isWrapper; first | (rw [if_pos (by decide +kernel)]; kernel_rfl) | (rw [if_neg (by decide +kernel)]; exact ⟨rfl, rfl⟩))
    (fun os started H enc _ => stripsOf_lifted os started H enc)
theorem stripsOf_card : Rows.StripsOfCardSaid :=
  Claim7.holds_tied_plain_at .later [] [.data, .data, .data, .data, .sentinel, .sentinel, .data, .widerDeep, .pinned] true (true, "310d1e3516bfc910be341d60bc40de94e18cc43d3c2ef40bc8e8639d8be29f2c") true
    stripsOf_holds (fun _ h => by cases h) (by kernel_rfl) (fun _ h => by cases h) stripsOf_row_tie rfl ⟨rfl, rfl⟩ (by kernel_rfl) rfl
    (fun f fn hf hfn => by
      obtain rfl : f = 7 := Option.some.inj ((show Tryd.prog.funcNamed Rows.stripsOfRow.func = some 7 by kernel_rfl).symm.trans hf) |>.symm
      obtain rfl : fn = Tryd.f7 := (Option.some.inj (Tryd.func7.symm.trans hfn)).symm
      exact ⟨by kernel_rfl, fun j t ht => by
        rw [Tryd.params7] at ht
        have hm : t ∈ [5, 5, 58] := by simpa using Array.mem_of_getElem? ht
        have hall : ([5, 5, 58].all fun u => !Tryd.prog.wantsStandIn u) = true := by kernel_rfl
        exact (show Tryd.prog.wantsStandIn t = false by simpa using List.all_eq_true.1 hall t hm)⟩)
    (by kernel_rfl)
end Vm
#print axioms Vm.stripsOf_card
end Go.Proofs.YtppgnpodkmacoaaDoor
