/-
  The extraction: told functions.
  The extraction: told functions: strips.Ends, Split, Join, Atoi.
  The extraction: told functions of numbers.
  The extraction: a law's call in the model, with arguments in memory.
  Plain laws about extracted functions: what they return.
  The extraction: a law's slice arguments, as blocks that are only read.
  The extraction: the program's variables as plain data.
-/
import Derived.Test.YtppgnpodkmacoaaGreatDoorXG6
import Derived.Test.YtppgnpodkmacoaaGreatDoorVmWS
import Derived.Deep.Slices
import Derived.ChangeArms
set_option linter.unusedSimpArgs false
set_option linter.unusedVariables false

namespace Go.Vm
namespace X
open W
variable {B : Base} {memo : Memo} {prog : Tr CFn} {ro : Nat} {O : List Ent} {H : Tr Blk} {nx : Nat} {F : Facts}
theorem HK_up (h : HK B ro O H nx) {nx' : Nat} (hn : nx ≤ nx') : HK B ro O H nx' :=
  ⟨h.r0, by have := h.r1; omega, h.base, fun e he => ⟨by have := (h.ent e he).1; omega, (h.ent e he).2⟩, h.nd⟩
theorem told_TE {t : TE} (h : ∀ a r, t.run a = some r → ∀ ro O H nx, HK B ro O H nx → ∀ A : Facts, (∀ x ∈ A, Has O x.1 x.2 ∨ BaseF B x) → ∀ vs, RepVs A t.ins a vs [] →
    ∃ g v E N H' nx' F', memo t.f vs = some g ∧ g H nx = some (v, H', nx') ∧ HK B ro (E ++ (N ++ O)) H' nx' ∧ (∀ x ∈ E, x.w = true) ∧ (∀ x ∈ F', Has N x.1 x.2 ∨ x ∈ A ∨ BaseF B x) ∧ OutR F' t.outs r v E) : OKs B memo prog 1 [t] := by
  intro t' ht n hn
  rw [List.mem_singleton.1 ht]
  intro a r hr ro O H nx hk A hA vs hv
  match n, hn with
  | n + 1, _ =>
    obtain ⟨g, v, E, N, H', nx', F', h1, h2, h3, h4, h5, h6⟩ := h a r hr ro O H nx hk A hA vs hv
    refine ⟨v, E, N, H', nx', F', ?_, h3, h4, h5, h6⟩
    simp only [runM, h1]
    rw [if_pos hk.base]
    exact h2
theorem fact_at (hk : HK B ro O H nx) {A : Facts} (hA : ∀ x ∈ A, Has O x.1 x.2 ∨ BaseF B x) {b : Nat} {x : HB} (hx : (b, x) ∈ A) : x.At H b := by
  rcases hA _ hx with h | ⟨h1, h2⟩
  · exact (hk.at h).2
  · exact h2.congr (hk.base _ h1)
theorem RelL_map {α : Type} {P : α → List AV → Prop} {f : α → AV} (hP : ∀ x l, P x l → l = [f x]) : ∀ {xs : List α} {l : List AV}, RelL P xs l → l = xs.map f
  | [], l, h => h
  | x :: xs, l, ⟨l1, l2, e, h1, h2⟩ => by rw [e, hP _ _ h1, RelL_map hP h2]; rfl
theorem RelL_of_map {α : Type} {P : α → List AV → Prop} {f : α → AV} (hP : ∀ x, P x [f x]) : ∀ (xs : List α), RelL P xs (xs.map f)
  | [] => rfl
  | x :: xs => ⟨[f x], xs.map f, rfl, hP x, RelL_of_map hP xs⟩
theorem SlR_at {A : Facts} (hk : HK B ro O H nx) (hA : ∀ x ∈ A, Has O x.1 x.2 ∨ BaseF B x) {α : Type} {P : α → List AV → Prop} {f : α → AV} (hP : ∀ x l, P x l → l = [f x]) {L : List α} {v : AV} (h : SlR A 1 (RelL P) L v) :
    (L = [] ∧ v = .nils) ∨ ∃ b o cap c m, v = .sl b o L.length cap 1 ∧ H.get b = some (.cells c m) ∧ o + L.length ≤ m ∧ ∀ i (hi : i < L.length), c.get (o + i) = some (f L[i]) := by
  rcases h with h | ⟨b, o, cap, l, rfl, hb, _, hl, hr⟩
  · exact .inl h
  · obtain ⟨c, h1, h2⟩ := fact_at hk hA hb
    rw [Nat.mul_one] at hl hr
    refine .inr ⟨b, o, cap, c, _, rfl, h1, hl, fun i hi => ?_⟩
    have e := RelL_map hP hr
    rw [h2 _ (by omega)]
    have := congrArg (fun l => l[i]?) e
    simp only [List.getElem?_take, hi, if_true, List.getElem?_drop, List.getElem?_map, List.getElem?_eq_getElem hi, Option.map_some] at this
    exact this
theorem rdInts_of {c : Tr AV} : ∀ {L : List Int} {o : Nat}, (∀ i (h : i < L.length), c.get (o + i) = some (.int .i64 L[i])) → rdInts c o L.length = some L
  | [], o, h => rfl
  | x :: L, o, h => by
    have h0 := h 0 (by simp)
    rw [Nat.add_zero] at h0
    have h1 := rdInts_of (L := L) (o := o + 1) fun i hi => by
      have := h (i + 1) (by simpa using hi)
      rw [show o + 1 + i = o + (i + 1) by omega]
      exact this
    simp only [List.length_cons, rdInts, h0, h1]
    rfl
theorem rdStrs_of {c : Tr AV} : ∀ {L : List (List Nat)} {o : Nat}, (∀ i (h : i < L.length), c.get (o + i) = some (.str L[i])) → rdStrs c o L.length = some L
  | [], o, h => rfl
  | x :: L, o, h => by
    have h0 := h 0 (by simp)
    rw [Nat.add_zero] at h0
    have h1 := rdStrs_of (L := L) (o := o + 1) fun i hi => by
      have := h (i + 1) (by simpa using hi)
      rw [show o + 1 + i = o + (i + 1) by omega]
      exact this
    simp only [List.length_cons, rdStrs, h0, h1]
    rfl
theorem OwnH_nils {t : Ty} (ht : t.size ≠ 0) : OwnH F t [] (some 0) .nils [] := ⟨(0, .nils), rfl, ht, .inl ⟨.inl ⟨rfl, rfl, rfl, .inr rfl⟩, rfl⟩⟩
theorem OwnH_new {t : Ty} (ht : t.size = 1) {f : t.den → AV} (hf : ∀ x, RelC F t x [f x]) (h1 : ∀ x, aone (f x) = true) {b : Nat} (L : List t.den) : OwnH F t L (some (List.length (α := t.den) L)) (.sl b 0 (List.length (α := t.den) L) (some (List.length (α := t.den) L)) 1) [⟨b, true, .cells (L.map f)⟩] := by
  refine ⟨(b, _), rfl, by omega, .inr ⟨true, _, rfl, .inr ⟨some (List.length (α := t.den) L), (L.map f).length, by rw [ht], rfl, by rw [ht]; simp, fun h => (by cases h), fun m hm => ?_, fun m hm => hm⟩, ?_, ?_⟩⟩
  · cases hm; rw [ht]; simp
  · rw [ht, Nat.mul_one, List.take_of_length_le (by simp)]
    exact RelL_of_map hf L
  · rw [List.all_map]; exact List.all_eq_true.2 fun x _ => h1 x
abbrev tStrip : Ty := .prod (.sl (.int .i64)) (.sl (.int .u8))
def endsR (run : List Int × List Int → Option Int) (E : List Int → List Int) (s : List Int × List Int) : Option (List Int × Int) := match run s with
  | some e => bif decide (e = 0) then (bif okL s.1 then some (E s.1, 0) else none) else some ([], e)
  | none => none
end X
end Go.Vm
namespace Go.Vm
namespace X
open W
variable {B : Base} {memo : Memo} {prog : Tr CFn}
theorem hasNil {A : Facts} {N : List Ent} : ∀ x ∈ ([] : Facts), Has N x.1 x.2 ∨ x ∈ A ∨ BaseF B x := fun x hx => by cases hx
theorem noneW : ∀ x ∈ ([] : List Ent), x.w = true := fun x hx => by cases hx
theorem tEnds_TE {call0 : FuncId → List AV → Tr Blk → Nat → Nat → Out} {f fc : FuncId} {E : List Int → List Int} {run : Dens [.d tStrip] → Option (Dens [.d (.int .i64)])} (hc : TE.OK B call0 ⟨fc, [.d tStrip], [.d (.int .i64)], run⟩)
    (hm : ∀ as g, tEnds call0 f fc E f as = some g → memo f as = some g) : OKs B memo prog 1 [⟨f, [.d tStrip], [.ownx (.int .i64), .d (.int .i64)], endsR run E⟩] := by
  refine told_TE fun a r hr ro O H nx hk A hA vs hv => ?_
  obtain ⟨v, rfl, hv'⟩ := hv
  have hv0 := hv'
  unfold RepV at hv'
  simp only [Rep.agg, Ty.agg, cond_true] at hv'
  obtain ⟨m, rfl, _, ⟨l1, l2, rfl, ⟨v1, rfl, h1⟩, ⟨v2, rfl, h2⟩⟩, _⟩ := hv'
  simp only [endsR] at hr
  split at hr <;> try (cases hr; done)
  rename_i e he
  have hq : HK B nx (O.map unw) H nx := hk.quiet
  obtain ⟨u, EE, NN, Hc, nxc, F', k1, k2, k3, k4, vs', rfl, u', e1, k5⟩ := hc a e he nx _ H nx hq A (fun x hx => (hA x hx).imp (fun h => h.quiet) id) _ ⟨_, rfl, hv0⟩
  subst e1
  unfold RepV at k5
  simp only [Rep.agg, Ty.agg, cond_false] at k5
  obtain ⟨_, k6, _⟩ := k5
  have k6 : u' = AV.int .i64 e := by simpa [RelC] using k6
  subst k6
  have hup : nx ≤ nxc := (le_rx k2.r1).1
  have hmem : ∀ rd, (match call0 fc [.agg [v1, v2]] H nx nx with
      | some (.int .i64 e, _, nxc) => if e = 0 then (match rd H with
        | some L => bif okL L then some (.tup [.sl nxc 0 (E L).length (some (E L).length) 1, .int .i64 0], H.set nxc (.cells (put ((E L).map (AV.int .i64)) 0 .e) ((E L).map (AV.int .i64)).length), nxc + 1) else none
        | none => none)
        else some (.tup [.nils, .int .i64 e], H, nxc)
      | _ => none) = endsOut call0 fc E [.agg [v1, v2]] rd H nx := fun rd => rfl
  have hcall : call0 fc [.agg [v1, v2]] H nx nx = some (.int .i64 e, Hc, nxc) := k1
  have err : e ≠ 0 → r = ([], e) → ∀ rd, endsOut call0 fc E [.agg [v1, v2]] rd H nx = some (.tup [.nils, .int .i64 e], H, nxc) ∧ HK B ro ([] ++ ([] ++ O)) H nxc ∧ OutR [] [.ownx (.int .i64), .d (.int .i64)] r (.tup [.nils, .int .i64 e]) [] := by
    intro h0 hr rd
    refine ⟨?_, HK_up hk hup, [.nils, .int .i64 e], rfl, .nils, [_], [], [], rfl, rfl, ?_, ?_⟩
    · simp only [endsOut, hcall, h0, if_false]
    · rw [hr]; exact ⟨_, rfl, OwnH_nils (by simp [Ty.size])⟩
    · rw [hr]; exact ⟨_, rfl, rfl, rfl, rfl⟩
  rcases SlR_at hk hA (f := AV.int .i64) (P := RelC A (.int .i64)) (fun x l h => h) h1 with ⟨hnil, rfl⟩ | ⟨b, o, cap, c, mm, rfl, hb1, hb2, hb3⟩
  · by_cases h0 : e = 0
    · subst h0
      simp only [decide_true, cond_true] at hr
      have : okL a.1 = false := by rw [hnil]; rfl
      rw [this] at hr
      cases hr
    · simp only [h0, decide_false, cond_false] at hr
      cases hr
      obtain ⟨q1, q2, q3⟩ := err h0 rfl fun _ => none
      refine ⟨_, _, [], [], H, nxc, [], hm _ _ ?_, q1, q2, noneW, hasNil, q3⟩
      simp [tEnds]
  · by_cases h0 : e = 0
    · subst h0
      simp only [decide_true, cond_true] at hr
      obtain ⟨hok, hr⟩ := of_bif hr
      cases hr
      refine ⟨_, _, [⟨nxc, true, .cells ((E a.1).map (AV.int .i64))⟩], [], _, _, [], hm _ _ (by simp only [tEnds, beq_dec, decide_true, cond_true]; rfl), ?_, (HK_up hk hup).cells _, fun x hx => ?_, hasNil, [_, .int .i64 0], rfl, _, [_], _, [], rfl, (List.append_nil _).symm, ⟨_, rfl, OwnH_new (t := .int .i64) rfl (f := AV.int .i64) (fun _ => rfl) (fun _ => rfl) (E a.1)⟩, ⟨_, rfl, rfl, rfl, rfl⟩⟩
      · have e4 : (o + List.length (α := Int) a.1).ble mm = true := by rw [ble_dec]; simpa using hb2
        have e5 := rdInts_of (L := a.1) (o := o) (c := c) hb3
        show endsOut call0 fc E [.agg [.sl b o (List.length (α := Int) a.1) cap 1, v2]] _ H nx = _
        simp only [endsOut, hcall, if_true, hb1]
        erw [e4, cond_true, e5]
        simp only [hok, cond_true]
        rfl
      · rw [List.mem_singleton.1 hx]
    · simp only [h0, decide_false, cond_false] at hr
      cases hr
      obtain ⟨q1, q2, q3⟩ := err h0 rfl _
      exact ⟨_, _, [], [], H, nxc, [], hm _ _ (by simp only [tEnds, beq_dec, decide_true, cond_true]; rfl), q1, q2, noneW, hasNil, q3⟩
def splitR (a : List Nat × List Nat) : Option (List (List Nat)) := bif a.1.length.ble 1000000 && !(a.2.length.beq 0) then some (words a.1 a.2) else none
theorem tSplit_TE {f : FuncId} (hm : ∀ as g, tSplit f f as = some g → memo f as = some g) : OKs B memo prog 1 [⟨f, [.d .str, .d .str], [.ownx .str], splitR⟩] := by
  refine told_TE fun a r hr ro O H nx hk A hA vs hv => ?_
  obtain ⟨v1, _, _, _, rfl, _, ⟨_, h1, _⟩, v2, rfl, _, h2, _⟩ := hv
  obtain ⟨s, t⟩ := a
  have h1 : v1 = AV.str s := by simpa [RelC] using h1
  have h2 : v2 = AV.str t := by simpa [RelC] using h2
  subst h1; subst h2
  obtain ⟨hb, hr⟩ := of_bif hr
  cases hr
  refine ⟨fun H nx => some (.sl nx 0 (words s t).length (some (words s t).length) 1, H.set nx (.cells (put ((words s t).map AV.str) 0 .e) ((words s t).map AV.str).length), nx + 1), _, [⟨nx, true, .cells ((words s t).map AV.str)⟩], [], _, _, [], hm _ _ ?_, rfl, hk.cells _, fun x hx => ?_, hasNil, [_], rfl, _, rfl, _, rfl, OwnH_new (t := .str) rfl (f := AV.str) (fun _ => rfl) (fun _ => rfl) (words s t)⟩
  · have e : tSplit f f [.str s, .str t] = bif s.length.ble 1000000 && !(t.length.beq 0) then some (fun H nx => some (.sl nx 0 (words s t).length (some (words s t).length) 1, H.set nx (.cells (put ((words s t).map AV.str) 0 .e) ((words s t).map AV.str).length), nx + 1)) else none := by
      simp only [tSplit, beq_dec, decide_true, cond_true]
    exact e.trans (by erw [hb]; rfl)
  · rw [List.mem_singleton.1 hx]
def joinR (a : List (List Nat) × List Nat) : Option (List Nat) := bif a.1.length.beq 0 then some [] else bif (joinS a.1 a.2).length.ble 1000000 && a.1.length.ble 1000000 then some (joinS a.1 a.2) else none
theorem tJoin_TE {f : FuncId} (hm : ∀ as g, tJoin f f as = some g → memo f as = some g) : OKs B memo prog 1 [⟨f, [.d (.sl .str), .d .str], [.d .str], joinR⟩] := by
  refine told_TE fun a r hr ro O H nx hk A hA vs hv => ?_
  obtain ⟨v1, _, _, _, rfl, _, ⟨_, ⟨v1', e1, h1⟩, _⟩, v2, rfl, _, h2, _⟩ := hv
  obtain ⟨S, t⟩ := a
  have h2 : v2 = AV.str t := by simpa [RelC] using h2
  subst h2
  cases e1
  rcases SlR_at hk hA (f := AV.str) (P := RelC A .str) (fun x l h => h) h1 with ⟨hnil, rfl⟩ | ⟨b, o, cap, c, mm, rfl, hb1, hb2, hb3⟩
  · have hnil : S = [] := hnil
    subst hnil
    cases hr
    exact ⟨fun H nx => some (.str [], H, nx), _, [], [], _, _, [], hm _ _ (by simp only [tJoin, beq_dec, decide_true, cond_true]), rfl, hk, noneW, hasNil, [_], rfl, _, rfl, rfl, rfl, rfl⟩
  · have hr2 : (bif (joinS S t).length.ble 1000000 && S.length.ble 1000000 then some (joinS S t) else none) = some r := by
      unfold joinR at hr
      cases S with
      | nil => exact hr
      | cons x S => exact hr
    obtain ⟨hb, hr2⟩ := of_bif hr2
    cases hr2
    have e5 := rdStrs_of (L := S) (o := o) (c := c) hb3
    have e4 : (o + List.length (α := List Nat) S).ble mm = true := by rw [ble_dec]; simpa using hb2
    refine ⟨fun H nx => match H.get b with
      | some (.cells c m) => bif (o + S.length).ble m then (match rdStrs c o S.length with
        | some S => bif (joinS S t).length.ble 1000000 && S.length.ble 1000000 then some (.str (joinS S t), H, nx) else none
        | none => none) else none
      | _ => none, _, [], [], H, nx, [], hm _ _ (by simp only [tJoin, beq_dec, decide_true, cond_true]; rfl), ?_, hk, noneW, hasNil, [AV.str (joinS S t)], rfl, _, rfl, rfl, rfl, rfl⟩
    simp only [hb1]
    erw [e4, cond_true, e5]
    simp only [hb, cond_true]
    rfl
def atoiR (s : List Nat) : Option (Int × Bool) := bif s.length.ble 1000000 then (match Lib.atoiAll (u8 s) with
  | .ok v => some (v, true)
  | Lib.NumEnd.syntax => some (0, false)
  | .range => some (Lib.atoiSat (u8 s), false)) else none
theorem tAtoi_TE {f : FuncId} {ty : TypeId} (hm : ∀ as g, tAtoi f ty f as = some g → memo f as = some g) : OKs B memo prog 1 [⟨f, [.d .str], [.d (.int .i64), .err], atoiR⟩] := by
  refine told_TE fun s r hr ro O H nx hk A hA vs hv => ?_
  obtain ⟨v1, rfl, _, h1, _⟩ := hv
  have h1 : v1 = AV.str s := by simpa [RelC] using h1
  subst h1
  obtain ⟨hb, hr⟩ := of_bif hr
  split at hr <;> cases hr
  · rename_i v e
    refine ⟨fun H nx => some (.tup [.int .i64 v, .nili], H, nx), _, [], [], _, _, [], hm _ _ ?_, rfl, hk, noneW, hasNil, [_, _], rfl, _, [_], [], [], rfl, rfl, ⟨rfl, rfl, rfl⟩, ⟨_, rfl, _, rfl, .inl ⟨rfl, rfl⟩, rfl⟩⟩
    simp only [tAtoi, beq_dec, decide_true, cond_true]
    erw [hb, cond_true]
    simp only [e, tNum]
  · rename_i e
    refine ⟨fun H nx => some (.tup [.int .i64 0, .ifc ty (.ptr nx 0)], H, nx + 1), _, [], [], _, _, [], hm _ _ ?_, rfl, HK_up hk (Nat.le_succ _), noneW, hasNil, [_, _], rfl, _, [_], [], [], rfl, rfl, ⟨rfl, rfl, rfl⟩, ⟨_, rfl, _, rfl, .inr ⟨rfl, _, _, rfl⟩, rfl⟩⟩
    simp only [tAtoi, beq_dec, decide_true, cond_true]
    erw [hb, cond_true]
    simp only [e, tNum]
  · rename_i e
    refine ⟨fun H nx => some (.tup [.int .i64 (Lib.atoiSat (u8 s)), .ifc ty (.ptr nx 0)], H, nx + 1), _, [], [], _, _, [], hm _ _ ?_, rfl, HK_up hk (Nat.le_succ _), noneW, hasNil, [_, _], rfl, _, [_], [], [], rfl, rfl, ⟨rfl, rfl, rfl⟩, ⟨_, rfl, _, rfl, .inr ⟨rfl, _, _, rfl⟩, rfl⟩⟩
    simp only [tAtoi, beq_dec, decide_true, cond_true]
    erw [hb, cond_true]
    simp only [e, tNum]
end X
end Go.Vm
namespace Go.Vm
namespace X
open W
variable {B : Base} {memo : Memo} {prog : Tr CFn}
def len64R (x : Int) : Option Int := bif decide (0 ≤ x ∧ x ≤ 18446744073709551615) then some ((Lib.bitLen x.toNat : Nat) : Int) else none
def log10R (x : Int) : Option Int := bif decide (0 ≤ x ∧ x ≤ 64) then some ((Lib.l10 x.toNat : Nat) : Int) else none
theorem tLen_TE {f : FuncId} (hm : ∀ as g, tLen f f as = some g → memo f as = some g) : OKs B memo prog 1 [⟨f, [.d (.int .u64)], [.d (.int .i64)], len64R⟩] := by
  refine told_TE fun x r hr ro O H nx hk A hA vs hv => ?_
  obtain ⟨v1, rfl, _, h1, _⟩ := hv
  have h1 : v1 = AV.int .u64 x := by simpa [RelC] using h1
  subst h1
  obtain ⟨hb, hr⟩ := of_bif hr
  rw [decide_eq_true_eq] at hb
  cases hr
  exact ⟨fun H nx => some (.int .i64 (Lib.bitLen (x : Int).toNat), H, nx), _, [], [], _, _, [], hm _ _ (by unfold tLen; rw [beq_dec, decide_eq_true rfl]; simp only [cond_true]; rw [if_pos hb]), rfl, hk, noneW, hasNil, [_], rfl, _, rfl, rfl, rfl, rfl⟩
theorem tLog_TE {f : FuncId} (hm : ∀ as g, tLog f f as = some g → memo f as = some g) : OKs B memo prog 1 [⟨f, [.d (.int .i64)], [.d (.int .i64)], log10R⟩] := by
  refine told_TE fun x r hr ro O H nx hk A hA vs hv => ?_
  obtain ⟨v1, rfl, _, h1, _⟩ := hv
  have h1 : v1 = AV.int .i64 x := by simpa [RelC] using h1
  subst h1
  obtain ⟨hb, hr⟩ := of_bif hr
  rw [decide_eq_true_eq] at hb
  cases hr
  exact ⟨fun H nx => some (.int .i64 (Lib.l10 (x : Int).toNat), H, nx), _, [], [], _, _, [], hm _ _ (by unfold tLog; rw [beq_dec, decide_eq_true rfl]; simp only [cond_true]; rw [if_pos hb]), rfl, hk, noneW, hasNil, [_], rfl, _, rfl, rfl, rfl, rfl⟩
theorem l10_le : ∀ n, n ≤ 64 → Lib.l10 n ≤ 19 := by decide
theorem bitLenAux_le : ∀ f x, Lib.bitLenAux f x ≤ f
  | 0, x => by simp [Lib.bitLenAux]
  | f + 1, x => by
    have := bitLenAux_le f (x / 2)
    unfold Lib.bitLenAux
    split <;> omega
theorem bitLen_le (x : Nat) : Lib.bitLen x ≤ 64 := bitLenAux_le 64 x
end X
end Go.Vm
namespace Go.Vm
namespace X
open W Go.RowKit
variable {P : Program} {gl : List Nat} {B : Base}
theorem HR_add {ρ : RM} {H : Tr Blk} {W : World} {b : Nat} {k : Blk} {l : Loc} (h : HR ρ H W) (hH : ∀ x, (H.get x).isSome → x < RO) (hb : b < RO) (hl : ρ b = some l) (hk : k.Rel ρ l W) :
    HR ρ (H.set b k) W ∧ ∀ x, ((H.set b k).get x).isSome → x < RO := by
  have live : ∀ x, ((H.set b k).get x).isSome → x < RO := fun x hx => by
    rw [Tr.get_set] at hx
    by_cases e : x = b
    · rw [e]; exact hb
    · rw [if_neg e] at hx; exact hH x hx
  refine ⟨⟨fun x k' l' hx hl' => ?_, fun x y l1 l2 h1 h2 _ _ _ => .inr ⟨live x h1, live y h2⟩⟩, live⟩
  rw [Tr.get_set] at hx
  by_cases e : x = b
  · subst e
    rw [if_pos rfl] at hx
    cases hx
    rw [hl] at hl'
    cases hl'
    exact hk
  · rw [if_neg e] at hx
    exact h.blk x k' l' hx hl'
theorem calls_of_TE {memo : Memo} (hmemo : MemoOK P gl B memo) (hm : P.follows .mixedOrders = true) {prog : Tr CFn} (hp : ProgOK P gl prog) {n : Nat} {t : TE} (ht : t.OK B (runM B memo prog n)) (ho : t.outs = [.d .bool]) {a : Dens t.ins} (hr : t.run a = some (ho ▸ true))
    {O : List Ent} {H : Tr Blk} {nx : Nat} (hk : HK B nx O H nx) {A : Facts} (hA : ∀ x ∈ A, Has O x.1 x.2 ∨ BaseF B x) {vs : List AV} (hv : RepVs A t.ins a vs [])
    {ρ : RM} {W : World} (hR : HR ρ H W) (hgl : GLok gl ρ) (hfree : ∀ b, nx ≤ b → ρ b = none) (hwf : WF H nx) {args : Array Value} (ha : VRs ρ vs args.toList) :
    Calls P t.f args W fun e W' => e = .returned (.bool true) ∧ Below W.heap.size W W' := by
  obtain ⟨v, E, N, H', nx', F', h1, _, _, _, vs', rfl, hv'⟩ := ht a _ hr nx O H nx hk A hA vs hv
  obtain ⟨f, ins, outs, run⟩ := t
  simp only at ho
  subst ho
  obtain ⟨u, rfl, hu⟩ := hv'
  have hu : u = AV.bool true := by
    unfold RepV at hu
    simp only [Rep.agg, Ty.agg, cond_false] at hu
    obtain ⟨_, h2, _⟩ := hu
    simpa [RelC] using h2
  subst hu
  obtain ⟨_, key⟩ := (runM_ok hmemo hm hp n).1 _ _ _ _ _ _ _ _ h1
  refine (key ρ W args hR (fun b hb _ => hfree b hb) (Nat.le_refl _) hgl hwf ha).2.mono ?_
  rintro e W' ⟨v', rfl, ρ', st, _, hv⟩
  simp only [_root_.Go.Vm.W.pack, VR] at hv
  subst hv
  refine ⟨rfl, st.os, st.tape, st.output, st.size, fun x hx => st.keep x hx fun b l hb _ _ => ?_⟩
  apply Classical.byContradiction
  intro hn
  rw [hfree b (by omega)] at hb
  cases hb
end X
end Go.Vm
namespace Go.Vm
namespace X
open W
variable {α β σ : Type}
def Ret (o : Option β) (Q : β → Prop) : Prop := ∃ r, o = some r ∧ Q r
theorem Ret.eq {o : Option β} {r : β} (h : Ret o fun x => x = r) : o = some r := by
  obtain ⟨_, e, rfl⟩ := h
  exact e
theorem Ret.of {o : Option β} {r : β} (h : o = some r) : Ret o fun x => x = r := ⟨r, h, rfl⟩
theorem Ret.mono {o : Option β} {Q Q' : β → Prop} (h : Ret o Q) (hq : ∀ r, Q r → Q' r) : Ret o Q' := by
  obtain ⟨r, e, h⟩ := h
  exact ⟨r, e, hq r h⟩
theorem Ret_some {r : β} {Q : β → Prop} (h : Q r) : Ret (some r) Q := ⟨r, rfl, h⟩
theorem Ret_chk {c : Bool} {x : Option β} {Q : β → Prop} (hc : c = true) (h : Ret x Q) : Ret (chk c x) Q := by
  rw [hc]; exact h
theorem Ret_bif {c : Bool} {x y : Option β} {Q : β → Prop} (h1 : c = true → Ret x Q) (h2 : c = false → Ret y Q) : Ret (bif c then x else y) Q := by
  cases c with
  | true => exact h1 rfl
  | false => exact h2 rfl
theorem Ret_dec {p : Prop} [Decidable p] {x y : Option β} {Q : β → Prop} (h1 : p → Ret x Q) (h2 : ¬p → Ret y Q) : Ret (bif decide p then x else y) Q := by
  by_cases h : p
  · rw [decide_eq_true h]; exact h1 h
  · rw [decide_eq_false h]; exact h2 h
theorem Ret_bind {x : Option α} {f : α → Option β} {Q1 : α → Prop} {Q : β → Prop} (h : Ret x Q1) (h2 : ∀ r, Q1 r → Ret (f r) Q) : Ret (x.bind f) Q := by
  obtain ⟨r, e, h⟩ := h
  rw [e]
  exact h2 r h
theorem Ret_jn {k : σ → Option β} {f : (σ → Option β) → Option β} {Q : β → Prop} (I : σ → Prop) (hk : ∀ x, I x → Ret (k x) Q) (hf : ∀ j : σ → Option β, (∀ x, I x → Ret (j x) Q) → Ret (f j) Q) : Ret (jn k f) Q := hf k hk
theorem Ret_loop {step : (σ → Option β) → σ → Option β} (Inv : σ → Prop) (m : σ → Nat) {Q : β → Prop} (h : ∀ s rec, Inv s → (∀ s', Inv s' → m s' < m s → Ret (rec s') Q) → Ret (step rec s) Q) : ∀ n s, Inv s → m s < n → Ret (loopF step n s) Q
  | 0, s, _, hm => absurd hm (Nat.not_lt_zero _)
  | n + 1, s, hi, hm => h s _ hi fun s' h1 h2 => Ret_loop Inv m h n s' h1 (by omega)
theorem i64b_t {n : Int} (h1 : -9223372036854775808 ≤ n) (h2 : n ≤ 9223372036854775807) : i64b n = true := i64b_iff.2 ⟨h1, h2⟩
theorem inb_t {i : Int} {n : Nat} (h1 : 0 ≤ i) (h2 : i < (n : Int)) : inb i n = true := inb_iff.2 ⟨h1, h2⟩
theorem lenOk_t {n : Nat} (h : n ≤ 10000000) : lenOk n = true := lenOk_iff.2 h
theorem getD_mem {L : List Int} {i : Nat} (h : i < L.length) : L.getD i 0 ∈ L := by
  simp [List.getD, List.getElem?_eq_getElem h]
end X
end Go.Vm
namespace Go.Vm
namespace X
open W Go.RowKit Go.Deep
variable {P : Program}
def intV : Value → Int
  | .int _ z => z
  | _ => 0
theorem slice_arg {k : IntKind} {H : Type} {enc : TypeId × Value → H} {W : World} {fuel b0 : Nat} {t e : TypeId} {v : Value} {x : DataW H × List MemPlace} (ht : P.underlying t = some (.slice e)) (he : P.underlying e = some (.int k)) (hc : P.cellsOf e = 1)
    (h : DataW.trod enc P W 0 (fun _ => true) true fuel t [v] = some x) (hok : Cell.okWide P W .any b0 t v) (hfz : W.noneFrozen x.2) :
    v = .slice none 0 0 ∨ ∃ (L : List Int) (cap off blk base lim : Nat), (∀ z ∈ L, (Lit.int k z).wf = true) ∧ v = .slice (some ⟨blk, off, none⟩) L.length cap ∧ L.length ≤ cap ∧ (off = base ∨ cap = 0) ∧ base + cap = lim ∧
      ∀ ρ, Blk.Rel ρ (.cells (put (L.map (AV.int k)) 0 .e) L.length) ⟨blk, base, lim⟩ W := by
  rcases open_slice1 ht hc h with ⟨hv, _⟩ | ⟨a, len, cap, m, n, V, D, Pl, hv, _, hl, hm, hmm, hx, hV⟩
  · left
    simpa using hv
  right
  have hv : v = .slice (some a) len cap := by simpa using hv
  subst hv
  simp only [if_true] at hmm
  subst hmm
  simp only [Cell.okWide, ht, Cell.ok, World.has] at hok
  obtain ⟨_, _, _, hspot, row, cells, hsh, _⟩ := hok
  obtain ⟨blk, off, spot⟩ := a
  simp only at hspot hsh
  subst hspot
  unfold World.shape? at hsh
  split at hsh <;> try (cases hsh; done)
  rename_i c el fr hheap
  have hz : ∀ i, i < m → V i = .int k (intV (V i)) ∧ (Lit.int k (intV (V i))).wf = true ∧ c[off + i]? = some (V i) := fun i hi => by
    obtain ⟨h1, h2⟩ := hV i hi
    obtain ⟨z, e1, _, e3⟩ := DataW.trod_int he h2
    simp only [List.cons.injEq, and_true] at e1
    rw [e1]
    refine ⟨rfl, e3, ?_⟩
    have e2 : (⟨blk, off, none⟩ : Addr).add i = ⟨blk, off + i, none⟩ := by
      unfold Addr.add
      by_cases h0 : i = 0 <;> simp [h0]
    rw [e2] at h1
    simp only [World.cell?, hheap, Option.isSome_none, Bool.false_eq_true, if_false] at h1
    rw [h1, e1]
  have hL : ∀ z ∈ (List.range len).map fun i => intV (V i), (Lit.int k z).wf = true := fun z hz' => by
    obtain ⟨i, hi, rfl⟩ := List.mem_map.1 hz'
    exact (hz i (by have := List.mem_range.1 hi; omega)).2.1
  have hlen : ((List.range len).map fun i => intV (V i)).length = len := by simp
  by_cases h0 : m = 0
  · refine ⟨_, m, off, blk, 0, 0, hL, by rw [hlen], by rw [hlen]; omega, .inr h0, by omega, fun ρ => ⟨c, el, fr, hheap, by simp only [hlen]; omega, by simp, fun i h1 h2 => by simp only at h1 h2; omega, fun i hi => by rw [hlen] at hi; omega⟩⟩
  · refine ⟨_, m, off, blk, off, off + m, hL, by rw [hlen], by rw [hlen]; omega, .inl rfl, rfl, fun ρ => ⟨c, el, fr, hheap, by simp only [hlen]; omega, ?_, fun i h1 h2 => ?_, fun i hi => ?_⟩⟩
    · have := (Array.getElem?_eq_some_iff.1 (hz (m - 1) (by omega)).2.2).1
      simp only
      omega
    · simp only at h1 h2
      have := hfz blk i (by
        rw [hx]
        refine List.mem_append.2 (.inl (List.mem_map.2 ⟨i - off, List.mem_range.2 (by omega), ?_⟩))
        simp only
        congr 1
        omega)
      unfold World.frozen? at this
      rw [hheap] at this
      obtain ⟨fl, fh⟩ := fr
      simp only [Bool.and_eq_false_iff, decide_eq_false_iff_not] at this
      simp only
      omega
    · rw [hlen] at hi
      obtain ⟨e1, _, e3⟩ := hz i (by omega)
      refine ⟨.int k (intV (V i)), V i, ?_, e3, ?_⟩
      · rw [get_put, if_pos (by simp; omega)]
        simp [hi]
      · rw [e1]; simp [VR, intV]
end X
end Go.Vm
namespace Go.Vm
namespace X
open W
variable {B : Base}
def cellsAV : (t : Ty) → t.den → List AV
  | .int k, x => [.int k x]
  | .bool, x => [.bool x]
  | .str, x => [.str x]
  | .unit, _ => []
  | .prod a b, x => cellsAV a x.1 ++ cellsAV b x.2
  | .arr _ t, x => (x : List t.den).flatMap (cellsAV t)
  | .sl _, _ => [.nils]
def dOK : (t : Ty) → t.den → Bool
  | .prod a b, x => dOK a x.1 && dOK b x.2
  | .arr n t, x => Nat.beq (List.length (α := t.den) x) n && List.all (α := t.den) x (dOK t)
  | .sl t, x => List.isEmpty (α := t.den) x
  | _, _ => true
theorem RelL_flat {α : Type} {P : α → List AV → Prop} {f : α → List AV} : ∀ {xs : List α}, (∀ x ∈ xs, P x (f x)) → RelL P xs (xs.flatMap f)
  | [], _ => rfl
  | x :: xs, h => ⟨f x, xs.flatMap f, rfl, h x (List.mem_cons_self ..), RelL_flat fun y hy => h y (List.mem_cons_of_mem _ hy)⟩
theorem RelC_cells {F : Facts} : ∀ (t : Ty) (x : t.den), dOK t x = true → RelC F t x (cellsAV t x)
  | .int k, x, _ => rfl
  | .bool, x, _ => rfl
  | .str, x, _ => rfl
  | .unit, x, _ => rfl
  | .prod a b, x, h => by
    simp only [dOK, Bool.and_eq_true] at h
    exact ⟨_, _, rfl, RelC_cells a _ h.1, RelC_cells b _ h.2⟩
  | .arr n t, x, h => by
    simp only [dOK, Bool.and_eq_true, beq_dec, decide_eq_true_eq] at h
    exact ⟨h.1, RelL_flat fun y hy => RelC_cells t y (List.all_eq_true.1 h.2 y hy)⟩
  | .sl t, x, h => by
    simp only [dOK, List.isEmpty_iff] at h
    exact ⟨.nils, rfl, .inl ⟨h, rfl⟩⟩
abbrev GD := Nat × ((t : Ty) × List t.den)
def gMem (l : List GD) : Mem := l.map fun g => (gB + g.1, .fix g.2.1 g.2.2.length g.2.2)
theorem lkM_gMem {b : Nat} {sb : SB} : ∀ {l : List GD}, lkM (gMem l) b = some sb → ∃ g ∈ l, b = gB + g.1 ∧ sb = .fix g.2.1 g.2.2.length g.2.2
  | [], h => by cases h
  | g :: l, h => by
    simp only [gMem, List.map_cons, lkM] at h
    cases hq : Nat.beq (gB + g.1) b <;> rw [hq] at h <;> simp only [cond_true, cond_false] at h
    · obtain ⟨g', h1, h2⟩ := lkM_gMem (l := l) h
      exact ⟨g', List.mem_cons_of_mem _ h1, h2⟩
    · cases h
      exact ⟨g, List.mem_cons_self .., (Nat.eq_of_beq_eq_true hq).symm, rfl⟩
theorem gok_of {es : List (Nat × List AV)} (hH : B.H0 = ofEnts es) {l : List GD} (h1 : l.all (fun g => Nat.blt g.1 B.nx0 && g.2.2.all (dOK g.2.1)) = true) (h2 : l.map (fun g => lkE es g.1) = l.map (fun g => some (g.2.2.flatMap (cellsAV g.2.1)))) : GRel B nu0 (gMem l) := by
  refine ⟨fun b => by simp [nu0], fun b sb hb => ?_⟩
  obtain ⟨g, hg, rfl, rfl⟩ := lkM_gMem hb
  have a1 := List.all_eq_true.1 h1 g hg
  simp only [Bool.and_eq_true, Nat.blt, ble_dec, decide_eq_true_eq] at a1
  have a2 : lkE es g.1 = some (g.2.2.flatMap (cellsAV g.2.1)) := List.map_inj_left.1 h2 g hg
  obtain ⟨k1, k2⟩ := Glob_of (B := B) hH (by omega) a2
  refine ⟨by omega, fun n => rfl, rfl, [⟨g.1, false, .cells (g.2.2.flatMap (cellsAV g.2.1))⟩], ⟨false, _, ?_, rfl, RelL_flat fun x hx => RelC_cells _ _ (List.all_eq_true.1 a1.2 x hx)⟩, fun e he => ?_⟩
  · simp [nu0]
  · rw [List.mem_singleton.1 he]
    exact ⟨k1, k2⟩
theorem OKs_cons {B : Base} {memo : Memo} {prog : Tr CFn} {m : Nat} {t : TE} {T : List TE} (h : OKs B memo prog m [t]) (h' : OKs B memo prog m T) : OKs B memo prog m (t :: T) := fun t' ht n hn => by
  rcases List.mem_cons.1 ht with rfl | ht
  · exact h _ (List.mem_singleton.2 rfl) n hn
  · exact h' _ ht n hn
theorem CodeOK_nil {memo : Memo} {prog : Tr CFn} : CodeOK memo prog [] := fun x hx => by cases hx
theorem CodeOK_cons {memo : Memo} {prog : Tr CFn} {f : FuncId} {z : Fx} {C : List (FuncId × Fx)} (h : (∀ vs, memo f vs = none) ∧ prog.get f = some z.cfn) (h' : CodeOK memo prog C) : CodeOK memo prog ((f, z) :: C) := fun x hx => by
  rcases List.mem_cons.1 hx with rfl | hx
  · exact h
  · exact h' x hx
end X
end Go.Vm
