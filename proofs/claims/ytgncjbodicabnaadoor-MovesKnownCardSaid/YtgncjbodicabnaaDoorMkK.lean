/-
  What the row of MovesText needs: the start's memory with what is not known of it, the told functions, the call.
-/
import Derived.Test.YtgncjbodicabnaaDoorMtD
import Derived.Test.YtgncjbodicabnaaDoorSh
import Derived.Test.YtgncjbodicabnaaDoorVmWU
import Derived.Test.YtgncjbodicabnaaDoorVmV2
import Derived.Test.YtgncjbodicabnaaDoorTie
import Derived.Test.YtgncjbodicabnaaDoorCards
import Derived.Lib.SmallJoins
import Derived.Handed
import Derived.Shelf.Vars
import Derived.ChangeMaps5
import Derived.Stop.LaidErr
import Derived.LaidLaws
set_option linter.unusedSimpArgs false
set_option linter.unusedVariables false

namespace Go.Proofs.YtgncjbodicabnaaDoor
open Go.ChangeShapes Go.WideShapes Go.ChangeAt Go.RowKit
namespace Vm
open Go Go.Vm Go.Vm.W
set_option maxRecDepth 100000

theorem own : ownKnob Tryd.prog.godebug = none := by kernel_rfl
theorem laidOut : laidOutB Tryd.prog = true := by kernel_rfl
theorem cells23 : Tryd.prog.cellsOf 23 = 3 := by kernel_rfl
theorem u8_bd {z : Int} (h : (Lit.int .u8 z).wf = true) : 0 ≤ z ∧ z ≤ 255 := by
  simp [Lit.wf, IntKind.min, IntKind.max, IntKind.signed, IntKind.bits] at h
  omega
theorem open_move {H : Type} {enc : TypeId × Value → H} {W : World} {base b0 : Nat} {sp : Nat → Bool} {v : Value} {d : DataW H} {p : List MemPlace} (hv : Value.okWide Tryd.prog W .any b0 23 v) (h : DataW.Trod enc Tryd.prog W base sp true 23 v d p) :
    ∃ t x y : Int, v = .agg #[.int .u8 t, .int .i64 x, .int .i64 y] ∧ (0 ≤ t ∧ t ≤ 255) := by
  obtain ⟨c0, c1, c2, y0, y1, y2, m, rfl, _, _, h0, h1, h2⟩ := Joins.open_agg3 Tryd.underlying23 (by kernel_rfl) cells23 hv h
  obtain ⟨a, e0, _, w0⟩ := DataW.trod_int Tryd.underlying5 h0
  obtain ⟨b, e1, _, w1⟩ := DataW.trod_int Tryd.underlying3 h1
  obtain ⟨c, e2, _, w2⟩ := DataW.trod_int Tryd.underlying3 h2
  simp only [List.cons.injEq, and_true] at e0 e1 e2
  subst e0; subst e1; subst e2
  exact ⟨a, b, c, rfl, u8_bd w0⟩
theorem VR_int {ρ : RM} {k : IntKind} {z : Int} : VR ρ (.int k z) (.int k z) := by simp [VR]
theorem VR_move {ρ : RM} {t x y : Int} : VR ρ (.agg [.int .u8 t, .int .i64 x, .int .i64 y]) (.agg #[.int .u8 t, .int .i64 x, .int .i64 y]) := by
  simp only [VR]
  exact ⟨_, rfl, _, _, rfl, VR_int, _, _, rfl, VR_int, _, _, rfl, VR_int, rfl⟩

/-- The contract of a row with a list of laid variables, the world's shape kept. -/
theorem rows_shaped {H : Type} {enc : TypeId × Value → H} {a : Assume} {C : Checked} {os : Os} {f : FuncId} {fn : Func} {s : ChangeSpec} {conds : List PathCond} {apart fresh handsOn again : Bool} {X : World → Array Value → Prop}
    (hX : ∀ (w w' : World) (args : Array Value), w.heap = w'.heap → X w args → X w' args)
    (own : ownKnob C.prog.godebug = none) (started : os.Started) (noInit : C.prog.inits.idxOf? f = none) (hfn : C.prog.funcs[f]? = some fn)
    (witness : ∃ (w : World) (tape : Tape) (i : Input), w.os = os ∧ (w.forCall tape i).Shaped C.prog ∧ i.vars = [] ∧ Input.okWide C.prog (w.forCall tape i) .any w.heap.size f i ∧
      ((s.pre enc C.prog fn conds apart (w.forCall tape i).memory i.args ∧ X (w.forCall tape i).memory i.args) ∧ sizedMet enc C.prog fn (OpenSpec.ofChange s) apart (w.forCall tape i).memory i.args) ∧ a.holds C.prog (lone (Frame.enter C.prog f i.args .normal) [] (w.forCall tape i)))
    (contract : ∀ (W : World) (base : Nat) (args : Array Value) (ds gs : List (DataW H)) (before : List MemPlace), W.ShapedOpen C.prog →
      (∀ (j : Nat) t v, fn.params[j]? = some t → args[j]? = some v → Value.okWide C.prog W .any base t v) →
      DataW.Whole enc C.prog fn.params.toList s.vars apart W args.toList ds gs before → X W args →
      Calls C.prog f args W fun e W' => ∃ v, e = .returned v ∧ s.post enc C.prog fn apart fresh handsOn again W args v W') :
    ReturnsInHanded a C os f .any (fun w args => (s.pre enc C.prog fn conds apart w args ∧ X w args) ∧ sizedMet enc C.prog fn (OpenSpec.ofChange s) apart w args) (s.post enc C.prog fn apart fresh handsOn again) := by
  refine returnsInHanded_of_calls own started noInit witness ?_
  intro w tape i _ hsh _ hok hpre _
  obtain ⟨_, _, _, fn', hfn', _, _, _, _, hval⟩ := hok
  obtain rfl : fn' = fn := Option.some.inj (hfn'.symm.trans hfn)
  obtain ⟨⟨⟨ds, gs, before, hw, _⟩, hx⟩, _⟩ := hpre
  have hw' := DataW.Whole.of_heap (w' := w.forCall tape i) (by rfl) hw
  refine (contract (w.forCall tape i) w.heap.size i.args ds gs before hsh hval hw' (hX _ _ _ (by rfl) hx)).mono fun e W' ⟨v, he, hp⟩ => ?_
  subst he
  exact ChangeSpec.post_blind hp

theorem int_block {P : Program} {w : World} {g : Nat} {t : TypeId} {zero : Array Value} {k : IntKind} (h : w.ShapedOpen P) (hg : g < P.globals.size)
    (h0 : ((begin P (fun _ _ => 0) default).world.heap[g]?).bind Obj.row? = some (zero, t)) (hz : zero.size = 1)
    (hb : P.buildable t = true) (hc : P.cellTypes P.depth t = some [t]) (hu : P.underlying t = some (.int k)) : ∃ m t', w.heap[g]? = some (.cells #[.int k m] t' (0, 0)) := by
  obtain ⟨m, hm⟩ := cell_of_shapedOpen_int h hg h0 hz hb hc hu
  obtain ⟨cs, hh, hs, _⟩ := h.1 g zero t hg h0
  refine ⟨m, t, ?_⟩
  rw [hh]
  obtain ⟨cl⟩ := cs
  match cl, hs.trans hz with
  | [v], _ =>
    simp only [World.cell?, hh] at hm
    have : v = .int k m := by simpa using hm
    rw [this]

/-! ## The told functions -/
theorem told_ok (mx : Int) : MemoOK Tryd.prog gl (BB mx) mm :=
  memoOr_ok (memo_ok mx) (memoOr_ok
    (tAtoi_ok ⟨Tryd.f50, Tryd.func50, by kernel_rfl, by kernel_rfl⟩ (gs := 1) (gr := 2) rfl rfl (by kernel_rfl) (by kernel_rfl) Tryd.strconv_Atoi_ok Tryd.strconv_Atoi_syntax Tryd.strconv_Atoi_range)
    (memoOr_ok (tPU_ok ⟨Tryd.f49, Tryd.func49, by kernel_rfl, by kernel_rfl⟩ (gs := 1) (gr := 2) rfl rfl (by kernel_rfl) (by kernel_rfl) Tryd.strconv_ParseUint_10_at8_ok Tryd.strconv_ParseUint_10_at8_syntax Tryd.strconv_ParseUint_10_at8_range)
    (memoOr_ok (tSplit_ok ⟨Tryd.f48, Tryd.func48, by kernel_rfl, by kernel_rfl⟩ (g1 := 3) rfl (by kernel_rfl) Tryd.strings_Split)
    (memoOr_ok (tLen_ok ⟨Tryd.f86, Tryd.func86, by kernel_rfl, by kernel_rfl⟩ Tryd.bits_Len64)
      (tLog_ok ⟨Tryd.f85, Tryd.func85, by kernel_rfl, by kernel_rfl⟩ Tryd.internal_strconv_log10Pow2)))))

theorem star : "*" ++ "errors.errorString" = "*errors.errorString" := by decide
theorem tn_at (u : TypeId) (h : Tryd.prog.typeName? 3 u = some "*errors.errorString") : u = 130 :=
  typeName_ptr_named (nm := "errors.errorString") (by rw [star]; kernel_rfl) (by kernel_rfl) (by decide) u (by rw [star]; exact h)

theorem laidS_in : ∀ x ∈ laidS, x ∈ Rows.movesTextRow.laid := by
  intro x hx
  unfold laidS at hx
  obtain ⟨y, hy, rfl⟩ := List.mem_map.1 hx
  exact List.fst_mem_of_mem_zipIdx (List.mem_filter.1 hy).1
theorem es_lt : ∀ e ∈ es, e.1 < 9 := by
  have : (es.all fun e => e.1.blt 9) = true := by kernel_rfl
  intro e he
  simpa using List.all_eq_true.1 this e he

/-- From the machine to the model: a law's call. -/
theorem law_call {n : Nat} {f : FuncId} {az : List AV} (hs : ∀ mx, SV mx n f az (.bool true)) {W : World} (hsh : W.ShapedOpen Tryd.prog) (hL : laidMet Tryd.prog Rows.movesTextRow.laid W) {args : Array Value} (ha : ∀ ρ, VRs ρ az args.toList) :
    Calls Tryd.prog f args W fun e W' => e = .returned (.bool true) ∧ Below W.heap.size W W' := by
  obtain ⟨mx, t3, h3⟩ := int_block (g := 3) (t := 3) (zero := #[.int .i64 0]) hsh (of_decide_eq_true (by kernel_rfl)) (by kernel_rfl) rfl (by kernel_rfl) (by kernel_rfl) Tryd.underlying3
  obtain ⟨b1, o1, t1, h1⟩ := ifc_holds hL (nm := "strconv.ErrSyntax") (name := "*errors.errorString") (List.mem_of_getElem? (i := 5) rfl) (g := 1) (t := 91) (ty := 130) (e := 132) (by kernel_rfl) (by kernel_rfl) Tryd.underlying91 tn_at Tryd.underlying130 (of_decide_eq_true (by kernel_rfl))
  obtain ⟨b2, o2, t2, h2⟩ := ifc_holds hL (nm := "strconv.ErrRange") (name := "*errors.errorString") (List.mem_of_getElem? (i := 4) rfl) (g := 2) (t := 91) (ty := 130) (e := 132) (by kernel_rfl) (by kernel_rfl) Tryd.underlying91 tn_at Tryd.underlying130 (of_decide_eq_true (by kernel_rfl))
  have hr : HR (rho1 W 9 [⟨b2, o2, 0⟩, ⟨b1, o1, 0⟩]) (BB mx).H0 W := by
    have := HR_more hL laidS_in es_ok (ex := ex mx) 9 [⟨b2, o2, 0⟩, ⟨b1, o1, 0⟩] es_lt (by
      intro e he
      simp only [ex, List.mem_cons, List.not_mem_nil, or_false] at he
      rcases he with rfl | rfl | rfl
      · exact ⟨by show 3 < 9; decide, _, _, h3, _, _, rfl, VR_int, rfl⟩
      · exact ⟨by decide, _, _, h2, _, _, rfl, by simp [VR, rho1], rfl⟩
      · exact ⟨by decide, _, _, h1, _, _, rfl, by simp [VR, rho1], rfl⟩)
    rw [H0_eq] at this
    exact this
  refine calls_of_spec (told_ok mx) mixed prog_ok (BB_wf mx) (hs mx) hr (fun g hg => ?_) (rho1_free (by show 9 + 2 ≤ nx0; decide)) (ha _)
  have hg9 : g < 9 := by
    have : ∀ g ∈ gl, g < 9 := by decide
    exact this g (List.contains_iff_mem.1 hg)
  obtain ⟨l, h1, h2, h3⟩ := rho1_at (w := W) (ps := [⟨b2, o2, 0⟩, ⟨b1, o1, 0⟩]) hg9
  exact ⟨l, h1, h2, h3⟩
end Vm
end Go.Proofs.YtgncjbodicabnaaDoor

