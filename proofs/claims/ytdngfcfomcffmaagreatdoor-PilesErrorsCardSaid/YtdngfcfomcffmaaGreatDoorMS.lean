/-
  What the rows of this chapter need: the start's memory with what is not known of it, slice arguments, the call.
  Piles: arguments: a T of two byte slices.
  Piles: arguments: a T of two byte slices and an O.
-/
import Derived.Test.YtdngfcfomcffmaaGreatDoorQ8
import Derived.Test.YtdngfcfomcffmaaGreatDoorXG7
import Derived.Test.YtdngfcfomcffmaaGreatDoorTie
import Derived.Test.YtdngfcfomcffmaaGreatDoorCards
import Derived.Lib.SmallJoins
import Derived.Handed
import Derived.Shelf.Vars
import Derived.ChangeMaps5
import Derived.Stop.LaidErr
import Derived.LaidLaws
import Derived.ChangeMaps
import Derived.Test.YtdngfcfomcffmaaGreatDoorPLa
set_option linter.unusedSimpArgs false
set_option linter.unusedVariables false

namespace Go.Proofs.YtdngfcfomcffmaaGreatDoor
open Go.ChangeShapes Go.WideShapes Go.ChangeAt Go.RowKit
namespace Vm
open Go Go.Vm Go.Vm.W Go.Vm.X
set_option maxRecDepth 100000
theorem own : ownKnob Tryz.prog.godebug = none := by kernel_rfl
theorem laidOut : laidOutB Tryz.prog = true := by kernel_rfl
theorem rows_shaped {H : Type} {enc : TypeId × Value → H} {a : Assume} {C : Checked} {os : Os} {f : FuncId} {fn : Func} {s : ChangeSpec} {conds : List PathCond} {apart fresh handsOn again : Bool} {X : World → Array Value → Prop}
    (hX : ∀ (w w' : World) (args : Array Value), w.heap = w'.heap → X w args → X w' args)
    (own : ownKnob C.prog.godebug = none) (started : os.Started) (noInit : C.prog.inits.idxOf? f = none) (hfn : C.prog.funcs[f]? = some fn)
    (witness : ∃ (w : World) (tape : Tape) (i : Input), w.os = os ∧ (w.forCall tape i).Shaped C.prog ∧ i.vars = [] ∧ Input.okWide C.prog (w.forCall tape i) .any w.heap.size f i ∧
      ((s.pre enc C.prog fn conds apart (w.forCall tape i).memory i.args ∧ X (w.forCall tape i).memory i.args) ∧ sizedMet enc C.prog fn (OpenSpec.ofChange s) apart (w.forCall tape i).memory i.args) ∧ a.holds C.prog (lone (Frame.enter C.prog f i.args .normal) [] (w.forCall tape i)))
    (contract : ∀ (W : World) (base : Nat) (args : Array Value) (ds gs : List (DataW H)) (before : List MemPlace), W.ShapedOpen C.prog →
      (∀ (j : Nat) t v, fn.params[j]? = some t → args[j]? = some v → Value.okWide C.prog W .any base t v) →
      DataW.Whole enc C.prog fn.params.toList s.vars apart W args.toList ds gs before → X W args →
      Calls C.prog f args W fun e W' => ∃ v, e = .returned v ∧ s.post enc C.prog fn apart fresh handsOn again W args v W') :
    ReturnsInHanded a C os f .any (fun w args => (s.pre enc C.prog fn conds apart w args ∧ X w args) ∧ sizedMet enc C.prog fn (OpenSpec.ofChange s) apart w args) (s.post enc C.prog fn apart fresh handsOn again) := by
  refine returnsInHanded_of_calls own started noInit witness ?_
  intro w tape i _ hsh _ hok hpre _
  obtain ⟨_, _, _, fn', hfn', _, _, _, _, hval⟩ := hok
  obtain rfl : fn' = fn := Option.some.inj (hfn'.symm.trans hfn)
  obtain ⟨⟨⟨ds, gs, before, hw, _⟩, hx⟩, _⟩ := hpre
  have hw' := DataW.Whole.of_heap (w' := w.forCall tape i) (by rfl) hw
  refine (contract (w.forCall tape i) w.heap.size i.args ds gs before hsh hval hw' (hX _ _ _ (by rfl) hx)).mono fun e W' ⟨v, he, hp⟩ => ?_
  subst he
  exact ChangeSpec.post_blind hp
theorem int_block {P : Program} {w : World} {g : Nat} {t : TypeId} {zero : Array Value} {k : IntKind} (h : w.ShapedOpen P) (hg : g < P.globals.size)
    (h0 : ((begin P (fun _ _ => 0) default).world.heap[g]?).bind Obj.row? = some (zero, t)) (hz : zero.size = 1)
    (hb : P.buildable t = true) (hc : P.cellTypes P.depth t = some [t]) (hu : P.underlying t = some (.int k)) : ∃ m t', w.heap[g]? = some (.cells #[.int k m] t' (0, 0)) := by
  obtain ⟨m, hm⟩ := cell_of_shapedOpen_int h hg h0 hz hb hc hu
  obtain ⟨cs, hh, hs, _⟩ := h.1 g zero t hg h0
  refine ⟨m, t, ?_⟩
  rw [hh]
  obtain ⟨cl⟩ := cs
  match cl, hs.trans hz with
  | [v], _ =>
    simp only [World.cell?, hh] at hm
    have : v = .int k m := by simpa using hm
    rw [this]
def ArgOK (k : IntKind) (W : World) (v : Value) (l : Vm.Loc) (L : List Int) : Prop := (v = .slice none 0 0 ∧ L = []) ∨ ∃ cap off, v = .slice (some ⟨l.blk, off, none⟩) L.length cap ∧ L.length ≤ cap ∧ (off = l.base ∨ cap = 0) ∧ l.base + cap = l.lim ∧
  ∀ ρ, Blk.Rel ρ (.cells (put (L.map (AV.int k)) 0 .e) L.length) l W
theorem arg_ok {k : IntKind} {H : Type} {enc : TypeId × Value → H} {W : World} {fuel b0 : Nat} {t e : TypeId} {v : Value} {x : DataW H × List MemPlace} (ht : Tryz.prog.underlying t = some (.slice e)) (he : Tryz.prog.underlying e = some (.int k)) (hc : Tryz.prog.cellsOf e = 1)
    (h : DataW.trod enc Tryz.prog W 0 (fun _ => true) true fuel t [v] = some x) (hok : Cell.okWide Tryz.prog W .any b0 t v) (hfz : W.noneFrozen x.2) : ∃ l L, (∀ z ∈ L, (Lit.int k z).wf = true) ∧ ArgOK k W v l L := by
  rcases slice_arg ht he hc h hok hfz with rfl | ⟨L, cap, off, blk, base, lim, h1, h2, h3, h4, h5, h6⟩
  · exact ⟨⟨0, 0, 0⟩, [], (fun z hz => by cases hz), .inl ⟨rfl, rfl⟩⟩
  · exact ⟨⟨blk, base, lim⟩, L, h1, .inr ⟨cap, off, h2, h3, h4, h5, h6⟩⟩
theorem HK_lay {B : Base} {ro nx : Nat} {O : List Ent} {H : Tr Blk} (h : HK B ro O H nx) {b : Nat} (h0 : B.nx0 ≤ b) (hb : b < nx) (hn : b ∉ O.map Ent.b) (l : List AV) : HK B ro (⟨b, false, .cells l⟩ :: O) (H.set b (.cells (put l 0 .e) l.length)) nx := by
  refine ⟨h.r0, h.r1, fun x hx => by rw [Tr.get_set, if_neg (by omega), h.base x hx], fun e he => ?_, by simp only [List.map_cons, List.nodup_cons]; exact ⟨hn, h.nd⟩⟩
  rcases List.mem_cons.1 he with rfl | he
  · exact ⟨hb, (fun hw => by cases hw), At_new⟩
  · obtain ⟨e1, e2, e3⟩ := h.ent e he
    refine ⟨e1, e2, e3.congr ?_⟩
    rw [Tr.get_set, if_neg fun e => hn (List.mem_map.2 ⟨_, he, e⟩)]
theorem lay_slice {k : IntKind} {B : Base} {ρ : RM} {H : Tr Blk} {W : World} {O : List Ent} {b : Nat} {v : Value} {l : Vm.Loc} {L : List Int} (ha : ArgOK k W v l L) (hl : ρ b = some l) (hR : HR ρ H W) (hlt : ∀ x, (H.get x).isSome → x < RO) (hk : HK B RO O H RO) (h0 : B.nx0 ≤ b) (hb : b < RO) (hn : b ∉ O.map Ent.b) :
    ∃ H' O' av A, HR ρ H' W ∧ (∀ x, (H'.get x).isSome → x < RO) ∧ HK B RO O' H' RO ∧ (∀ x ∈ O'.map Ent.b, x = b ∨ x ∈ O.map Ent.b) ∧ (∀ x ∈ (A : Facts), Has O' x.1 x.2) ∧ (∀ c x, Has O c x → Has O' c x) ∧ SlR A 1 (RelL (RelC A (.int k))) L av ∧ VR ρ av v := by
  rcases ha with ⟨rfl, rfl⟩ | ⟨cap, off, rfl, h1, h2, h3, h4⟩
  · exact ⟨H, O, .nils, [], hR, hlt, hk, fun x h => .inr h, (fun x hx => by cases hx), fun _ _ h => h, .inl ⟨rfl, rfl⟩, by simp [VR]⟩
  · have e1 : (L.map (AV.int k)).length = L.length := by simp
    obtain ⟨q1, q2⟩ := HR_add hR hlt hb hl (h4 ρ)
    refine ⟨_, ⟨b, false, .cells (L.map (AV.int k))⟩ :: O, .sl b 0 L.length (some cap) 1, [(b, .cells (L.map (AV.int k)))], q1, q2, ?_, fun x hx => ?_, fun x hx => ?_, fun _ _ h => .there h, .inr ⟨b, 0, some cap, _, rfl, List.mem_singleton.2 rfl, fun c hc => by cases hc; exact h1, by simp, ?_⟩, ?_⟩
    · have := HK_lay hk h0 hb hn (L.map (AV.int k))
      rw [e1] at this
      exact this
    · simpa using hx
    · rw [List.mem_singleton.1 hx]; exact .here
    · rw [List.drop_zero, Nat.mul_one, List.take_of_length_le (by simp)]
      exact RelL_of_map (P := RelC _ (.int k)) (f := AV.int k) (fun _ => rfl) L
    · simp only [VR]
      exact ⟨l, cap, off, hl, rfl, h1, by omega, by omega, .inl ⟨rfl, by omega⟩⟩
theorem star : "*" ++ "errors.errorString" = "*errors.errorString" := by decide
theorem tn_at (u : TypeId) (h : Tryz.prog.typeName? 3 u = some "*errors.errorString") : u = 140 :=
  typeName_ptr_named (nm := "errors.errorString") (by rw [star]; kernel_rfl) (by kernel_rfl) (by decide) u (by rw [star]; exact h)
theorem laidS_in : ∀ x ∈ laidS, x ∈ Rows.pilesProfileRow.laid := by
  intro x hx
  unfold laidS at hx
  obtain ⟨y, hy, rfl⟩ := List.mem_map.1 hx
  exact List.fst_mem_of_mem_zipIdx (List.mem_filter.1 hy).1
theorem es_lt : ∀ e ∈ es, e.1 < 9 := by
  have : (es.all fun e => e.1.blt 9) = true := by kernel_rfl
  intro e he
  simpa using List.all_eq_true.1 this e he
theorem start {W : World} (hsh : W.ShapedOpen Tryz.prog) (hL : laidMet Tryz.prog Rows.pilesProfileRow.laid W) (ps : List Vm.Loc) : ∃ mx p1 p2, HR (rho1 W 9 (p2 :: p1 :: ps)) (BB mx).H0 W := by
  obtain ⟨mx, t3, h3⟩ := int_block (g := 4) (t := 3) (zero := #[.int .i64 0]) hsh (of_decide_eq_true (by kernel_rfl)) (by kernel_rfl) rfl (by kernel_rfl) (by kernel_rfl) Tryz.underlying3
  obtain ⟨b1, o1, t1, h1⟩ := ifc_holds hL (nm := "strconv.ErrSyntax") (name := "*errors.errorString") (List.mem_of_getElem? (i := 5) rfl) (g := 1) (t := 93) (ty := 140) (e := 142) (by kernel_rfl) (by kernel_rfl) Tryz.underlying93 tn_at Tryz.underlying140 (of_decide_eq_true (by kernel_rfl))
  obtain ⟨b2, o2, t2, h2⟩ := ifc_holds hL (nm := "strconv.ErrRange") (name := "*errors.errorString") (List.mem_of_getElem? (i := 4) rfl) (g := 2) (t := 93) (ty := 140) (e := 142) (by kernel_rfl) (by kernel_rfl) Tryz.underlying93 tn_at Tryz.underlying140 (of_decide_eq_true (by kernel_rfl))
  refine ⟨mx, ⟨b1, o1, 0⟩, ⟨b2, o2, 0⟩, ?_⟩
  have := HR_more hL laidS_in es_ok (ex := ex mx) 9 (⟨b2, o2, 0⟩ :: ⟨b1, o1, 0⟩ :: ps) es_lt (by
    intro e he
    simp only [ex, List.mem_cons, List.not_mem_nil, or_false] at he
    rcases he with rfl | rfl | rfl
    · exact ⟨by show 4 < 9; decide, _, _, h3, _, _, rfl, by simp [VR], rfl⟩
    · exact ⟨by decide, _, _, h2, _, _, rfl, by simp [VR, rho1], rfl⟩
    · exact ⟨by decide, _, _, h1, _, _, rfl, by simp [VR, rho1], rfl⟩)
  rw [H0_eq] at this
  exact this
theorem start_lt (mx : Int) : ∀ x, ((BB mx).H0.get x).isSome → x < RO := fun x hx => by
  have := BB_wf mx x hx
  exact Nat.lt_of_lt_of_le this (show nx0 ≤ RO by decide)
theorem start_hk (mx : Int) : HK (BB mx) RO [] (BB mx).H0 RO := ⟨show nx0 ≤ RO by decide, by decide, fun _ _ => rfl, (fun _ h => by cases h), List.nodup_nil⟩
theorem gl_ok {W : World} {ps : List Vm.Loc} : GLok gl (rho1 W 9 ps) := fun g hg => by
  have : ∀ g ∈ gl, g < 9 := by decide
  obtain ⟨l, h1, h2, h3⟩ := rho1_at (w := W) (ps := ps) (this g (List.contains_iff_mem.1 hg))
  exact ⟨l, h1, h2, h3⟩
theorem noneFrozen_of {W : World} {p q : List MemPlace} (h : W.noneFrozen p) (hq : ∀ x ∈ q, x ∈ p) : W.noneFrozen q := fun b o hm => h b o (hq _ hm)
end Vm
end Go.Proofs.YtdngfcfomcffmaaGreatDoor
namespace Go.Proofs.YtdngfcfomcffmaaGreatDoor
open Go.ChangeShapes Go.WideShapes Go.ChangeAt Go.RowKit
namespace Vm
open Go Go.Vm Go.Vm.W Go.Vm.X
set_option maxRecDepth 100000
end Vm
end Go.Proofs.YtdngfcfomcffmaaGreatDoor
namespace Go.Proofs.YtdngfcfomcffmaaGreatDoor
open Go.ChangeShapes Go.WideShapes Go.ChangeAt Go.RowKit
namespace Vm
open Go Go.Vm Go.Vm.W Go.Vm.X
set_option maxRecDepth 100000
end Vm
end Go.Proofs.YtdngfcfomcffmaaGreatDoor
