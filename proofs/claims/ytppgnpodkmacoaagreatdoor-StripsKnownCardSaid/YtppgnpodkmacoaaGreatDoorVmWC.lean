/-
  The rules for operations on memory, and for calls.
-/
import Derived.Test.YtppgnpodkmacoaaGreatDoorVmWB
set_option linter.unusedSimpArgs false
set_option linter.unusedVariables false

namespace Go.Vm
namespace W
variable {B : Base} {call : FuncId → List AV → Tr Blk → Nat → Nat → Out} {ro : Nat}
def splice (l : List AV) (o : Nat) (new : List AV) : List AV := l.take o ++ (new ++ l.drop (o + new.length))
theorem splice_length {l : List AV} {o : Nat} {new : List AV} (h : o + new.length ≤ l.length) : (splice l o new).length = l.length := by
  simp only [splice, List.length_append, List.length_take, List.length_drop]; omega
theorem splice_get {l : List AV} {o : Nat} {new : List AV} (h : o + new.length ≤ l.length) (i : Nat) : (splice l o new)[i]? = if o ≤ i ∧ i < o + new.length then new[i - o]? else l[i]? := by
  unfold splice
  have ht : (l.take o).length = o := by rw [List.length_take]; omega
  by_cases h1 : i < o
  · rw [List.getElem?_append_left (by omega), if_neg (by omega), List.getElem?_take, if_pos h1]
  · rw [List.getElem?_append_right (by omega), ht]
    by_cases h2 : i < o + new.length
    · rw [List.getElem?_append_left (by omega), if_pos ⟨by omega, h2⟩]
    · rw [List.getElem?_append_right (by omega), if_neg (by omega), List.getElem?_drop]
      congr 1; omega
theorem At_put {H : Tr Blk} {b : Nat} {c : Tr AV} {l new : List AV} {o : Nat} (h2 : ∀ i, i < l.length → c.get i = l[i]?) (h : o + new.length ≤ l.length) :
    HB.At (H.set b (.cells (put new o c) l.length)) b (.cells (splice l o new)) := by
  refine ⟨put new o c, by rw [Tr.get_set, if_pos rfl, splice_length h], fun i hi => ?_⟩
  rw [splice_length h] at hi
  rw [get_put, splice_get h]
  split
  · rfl
  · exact h2 i hi
section
variable {t : Fr} {O : List Ent} {K : Fr → List Ent → Prop} {r : List COp} {d : Option Nat} {q : Bool} {ex : List Opd}
theorem WO_mem {i : I} (h : ∀ tm H nx, FA t tm → HK B ro O H nx → ∃ v H' nx' O', hop call (bif q then nx else ro) (getv tm) H nx i = some (v, H', nx') ∧ HK B ro O' H' nx' ∧ WO B call ro r (setF d v t) O' K) :
    WO B call ro (⟨d, none, .h i, q, []⟩ :: r) t O K :=
  WO_step fun tm H nx ht hk => by
    obtain ⟨v, H', nx', O', h1, h2⟩ := h tm H nx ht hk
    exact ⟨v, H', nx', O', by simp only [runV, runJ, List.isEmpty_nil, Bool.true_or, cond_true, h1], h2⟩
theorem WO_new {i : I} {l : List AV} {f : Nat → AV} (hi : ∀ tm H nx rr, FA t tm → HK B ro O H nx → hop call rr (getv tm) H nx i = newCells l f H nx) (h : ∀ b, WO B call ro r (setF d (f b) t) (⟨b, true, .cells l⟩ :: O) K) :
    WO B call ro (⟨d, none, .h i, q, []⟩ :: r) t O K :=
  WO_mem fun tm H nx ht hk => ⟨_, _, _, _, by rw [hi tm H nx _ ht hk, newCells_eq], hk.cells l, h nx⟩
theorem WO_box {x : Opd} {v : AV} (hx : gv t x = some v) (h : ∀ b, WO B call ro r (setF d (.ptr b 0) t) (⟨b, true, .cells (acells v)⟩ :: O) K) : WO B call ro (⟨d, none, .h (.box x), q, []⟩ :: r) t O K :=
  WO_new (f := fun b => .ptr b 0) (fun tm H nx rr ht _ => by simp only [hop, ht.gv hx]) h
theorem WO_alloc {z : List AV} (h : ∀ b, WO B call ro r (setF d (.ptr b 0) t) (⟨b, true, .cells z⟩ :: O) K) : WO B call ro (⟨d, none, .h (.alloc z), q, []⟩ :: r) t O K :=
  WO_new (f := fun b => .ptr b 0) (fun tm H nx rr ht _ => by simp only [hop]) h
theorem WO_bsl {z n : Nat} {zs : List AV} {ps : List (Nat × Nat × Opd)} {l : List AV} (hk : knows t (.bsl z n zs ps) = true) (hl : afill zs (ps.map fun (o, s, x) => (o, s, gd t x)) = some l) (h1 : (z.beq 0 || !((n * z).ble 1000000)) = false)
    (h2 : l.length.beq (n * z) = true) (h : ∀ b, WO B call ro r (setF d (.sl b 0 n (some n) z) t) (⟨b, true, .cells l⟩ :: O) K) : WO B call ro (⟨d, none, .h (.bsl z n zs ps), q, []⟩ :: r) t O K :=
  WO_new (f := fun b => .sl b 0 n (some n) z) (fun tm H nx rr ht _ => by
    rw [← hop_congr (.bsl z n zs ps) (gd_eq ht hk)]
    simp only [hop, h1, cond_false, hl, h2, cond_true]) h
theorem ldv_take {l : List AV} {agg : Bool} {n o : Nat} {v : AV} (h : ldv agg n o l = some v) : o + n ≤ l.length ∧ mkv agg ((l.drop o).take n) = some v := by
  unfold ldv at h
  obtain ⟨h1, h2⟩ := of_bif h
  rw [ble_dec, decide_eq_true_eq] at h1
  exact ⟨h1, h2⟩
theorem ldv_one {l : List AV} {o : Nat} {v : AV} (h : l[o]? = some v) : ldv false 1 o l = some v := by
  obtain ⟨h1, h2⟩ := List.getElem?_eq_some_iff.1 h
  unfold ldv
  rw [ble_dec, decide_eq_true (by omega), List.drop_eq_getElem_cons h1, h2]
  rfl
theorem hop_load {tm : Tr AV} {H : Tr Blk} {nx rr : Nat} {agg : Bool} {n : Nat} {x : Opd} {b o : Nat} {l : List AV} {v : AV} (hx : getv tm x = .ptr b o) (hb : HB.At H b (.cells l)) (hl : ldv agg n o l = some v) :
    hop call rr (getv tm) H nx (.load agg n x) = some (v, H, nx) := by
  obtain ⟨c, h1, h2⟩ := hb
  obtain ⟨h3, h4⟩ := ldv_take hl
  simp only [hop, hx, h1, ble_dec, h3, decide_true, cond_true, take_at (H := H) (b := b) h2 n o h3, h4]
theorem WO_load {agg : Bool} {n : Nat} {x : Opd} {b o : Nat} {l : List AV} {v : AV} (hx : gv t x = some (.ptr b o)) (hb : Has O b (.cells l)) (hl : ldv agg n o l = some v) (h : WO B call ro r (setF d v t) O K) :
    WO B call ro (⟨d, none, .h (.load agg n x), q, []⟩ :: r) t O K :=
  WO_mem fun tm H nx ht hk => ⟨v, H, nx, O, hop_load (ht.gv hx) (hk.at hb).2 hl, hk, h⟩
theorem WO_load1 {x : Opd} {b o : Nat} {l : List AV} {v : AV} (hx : gv t x = some (.ptr b o)) (hb : Has O b (.cells l)) (hl : l[o]? = some v) (h : WO B call ro r (setF d v t) O K) :
    WO B call ro (⟨d, none, .h (.load false 1 x), q, []⟩ :: r) t O K := WO_load hx hb (ldv_one hl) h
def Glob (B : Base) (b : Nat) (l : List AV) : Prop := b < B.nx0 ∧ HB.At B.H0 b (.cells l)
theorem WO_loadG {agg : Bool} {n : Nat} {x : Opd} {b o : Nat} {l : List AV} {v : AV} (hx : gv t x = some (.ptr b o)) (hb : Glob B b l) (hl : ldv agg n o l = some v) (h : WO B call ro r (setF d v t) O K) :
    WO B call ro (⟨d, none, .h (.load agg n x), q, []⟩ :: r) t O K :=
  WO_mem fun tm H nx ht hk => ⟨v, H, nx, O, hop_load (ht.gv hx) (hb.2.congr (hk.base b hb.1)) hl, hk, h⟩
theorem hop_store {tm : Tr AV} {H : Tr Blk} {nx rr : Nat} {n : Nat} {x y : Opd} {b o : Nat} {l : List AV} {u : AV} (hx : getv tm x = .ptr b o) (hy : getv tm y = u) (hb : HB.At H b (.cells l)) (hr : rx rr ≤ b) (h1 : (acells u).length = n) (h2 : (acells u).all aone = true)
    (h3 : o + n ≤ l.length) : ∃ H', hop call rr (getv tm) H nx (.store n x y) = some (.tup [], H', nx) ∧ ∃ c, H' = H.set b (.cells (put (acells u) o c) l.length) ∧ ∀ i, i < l.length → c.get i = l[i]? := by
  obtain ⟨c, k1, k2⟩ := hb
  refine ⟨_, ?_, c, rfl, k2⟩
  simp only [hop, hx, hy, k1, ble_dec, hr, h3, beq_dec, h1, h2, decide_true, Bool.and_true, cond_true, putK_eq, setB_eq]
theorem WO_store {n : Nat} {x y : Opd} {b o : Nat} {l : List AV} {u : AV} {O' : List Ent} (hx : gv t x = some (.ptr b o)) (hy : gv t y = some u) (hu : Upd O b (.cells l) (.cells (splice l o (acells u))) O')
    (h1 : (acells u).length = n) (h2 : (acells u).all aone = true) (h3 : o + n ≤ l.length) (h : WO B call ro r (setF d (.tup []) t) O' K) : WO B call ro (⟨d, none, .h (.store n x y), false, []⟩ :: r) t O K :=
  WO_mem fun tm H nx ht hk => by
    obtain ⟨b1, b2, b3⟩ := hk.ent _ hu.keep.2.1
    obtain ⟨H', e1, c, e2, e3⟩ := hop_store (call := call) (nx := nx) (rr := bif false then nx else ro) (ht.gv hx) (ht.gv hy) b3 (b2 rfl) h1 h2 h3
    exact ⟨_, H', nx, O', e1, by rw [e2]; exact hk.upd hu _ (At_put e3 (by rw [h1]; exact h3)), h⟩
theorem splice_one {l : List AV} {o : Nat} {u : AV} (h : o < l.length) : splice l o [u] = l.set o u := by
  apply List.ext_getElem?
  intro i
  rw [splice_get (by simp; omega), List.getElem?_set]
  simp only [List.length_cons, List.length_nil, Nat.zero_add]
  by_cases hi : o = i
  · subst hi; simp [h]
  · rw [if_neg (by omega), if_neg hi]
theorem WO_store1 {x y : Opd} {b o : Nat} {l : List AV} {u : AV} {O' : List Ent} (hx : gv t x = some (.ptr b o)) (hy : gv t y = some u) (h2 : acells u = [u] ∧ aone u = true) (hu : Upd O b (.cells l) (.cells (l.set o u)) O')
    (h3 : o < l.length) (h : WO B call ro r (setF d (.tup []) t) O' K) : WO B call ro (⟨d, none, .h (.store 1 x y), false, []⟩ :: r) t O K :=
  WO_store hx hy (by rw [h2.1, splice_one h3]; exact hu) (by rw [h2.1]; rfl) (by rw [h2.1]; simp [h2.2]) h3 h
theorem WO_storeX {n : Nat} {x y : Opd} {b o : Nat} {l : List AV} {u : AV} {O' : List Ent} (hx : gv t x = some (.ptr b o)) (hy : gv t y = some u) (hu : Upd O b (.cells l) (.cells (splice l o (acells u))) O')
    (h1 : (acells u).length = n) (h2 : (acells u).all aone = true) (h3 : o + n ≤ l.length) (hex : ∀ H nx, HK B ro O H nx → ∀ z ∈ ex, ∃ b' o', gv t z = some (.ptr b' o') ∧ b' ≠ b) (h : WO B call ro r (setF d (.tup []) t) O' K) :
    WO B call ro (⟨d, none, .h (.store n x y), false, ex⟩ :: r) t O K :=
  WO_step fun tm H nx ht hk => by
    obtain ⟨b1, b2, b3⟩ := hk.ent _ hu.keep.2.1
    obtain ⟨H', e1, c, e2, e3⟩ := hop_store (call := call) (nx := nx) (rr := ro) (ht.gv hx) (ht.gv hy) b3 (b2 rfl) h1 h2 h3
    refine ⟨_, H', nx, O', ?_, by rw [e2]; exact hk.upd hu _ (At_put e3 (by rw [h1]; exact h3)), h⟩
    have hh := hex H nx hk
    have : exOk (getv tm) (.store n x y) ex = true := by
      simp only [exOk, ht.gv hx]
      refine List.all_eq_true.2 fun z hz => ?_
      obtain ⟨b', o', k1, k2⟩ := hh z hz
      simp only [ht.gv k1, beq_dec]
      simp [k2]
    simp only [runV, runJ, this, Bool.or_true, cond_true, cond_false]
    exact e1
theorem HK.ne {H : Tr Blk} {nx b b' : Nat} {c c' : HB} {l : List Ent} (hk : HK B ro (⟨b, true, c⟩ :: l) H nx) (h : Has l b' c') : b' ≠ b := by
  obtain ⟨w, hm⟩ := h.mem
  have := hk.nd
  simp only [List.map_cons, List.nodup_cons] at this
  intro e
  exact this.1 (List.mem_map.2 ⟨_, hm, e⟩)
theorem WO_slA {n z : Nat} {x : Opd} {lo hi : Option Opd} {b o : Nat} {c : List AV} {l h : Int} (hx : gv t x = some (.ptr b o)) (hb : Has O b (.cells c)) (hlo : bnd t lo 0 l) (hhi : bnd t hi n h) (h0 : 0 ≤ l) (h1 : l ≤ h) (h2 : h ≤ n) (hz : z ≠ 0) (hc : o + n * z ≤ c.length)
    (hK : WO B call ro r (setF d (.sl b (o + l.toNat * z) (h.toNat - l.toNat) (some (n - l.toNat)) z) t) O K) : WO B call ro (⟨d, none, .h (.slA n z x lo hi none), q, []⟩ :: r) t O K :=
  WO_mem fun tm H nx ht hk => by
    obtain ⟨tc, k1, k2⟩ := (hk.at hb).2
    have := bounds_of ht hlo hhi h0 h1 h2
    have e : (z.beq 0 || !((o + n * z).ble c.length)) = false := by rw [beq_dec, ble_dec]; simp [hz, hc]
    exact ⟨_, H, nx, O, by simp only [hop, ht.gv hx, k1, e, cond_false, Option.map_none, this], hk, hK⟩
theorem WO_mksl {z bytes : Nat} {zs : List AV} {l c : Opd} {k1 k2 : IntKind} {n m : Int} (hl : gv t l = some (.int k1 n)) (hc : gv t c = some (.int k2 m)) (h0 : 0 ≤ n) (h1 : n ≤ m) (h2 : m ≤ 1000000) (hb : (bytes.ble 1000 && !(z.beq 0) && zs.length.beq z) = true)
    (h : ∀ b, WO B call ro r (setF d (.sl b 0 n.toNat (some m.toNat) z) t) (⟨b, true, .cells (List.replicate m.toNat zs).flatten⟩ :: O) K) : WO B call ro (⟨d, none, .h (.mksl z bytes zs l c), q, []⟩ :: r) t O K :=
  WO_new (f := fun b => .sl b 0 n.toNat (some m.toNat) z) (fun tm H nx rr ht _ => by
    rw [asNat h0] at hl
    rw [asNat (show 0 ≤ m by omega)] at hc
    simp only [Bool.and_eq_true] at hb
    have e : (n.toNat.ble m.toNat && m.toNat.ble 1000000 && bytes.ble 1000 && !(z.beq 0) && zs.length.beq z) = true := by
      simp only [Bool.and_eq_true]
      exact ⟨⟨⟨⟨by rw [ble_dec]; simp; omega, by rw [ble_dec]; simp; omega⟩, hb.1.1⟩, hb.1.2⟩, hb.2⟩
    simp only [hop, ht.gv hl, ht.gv hc, e, cond_true]) h
inductive Src (O : List Ent) (z : Nat) : AV → Nat → List AV → Prop where
  | nils : Src O z .nils 0 []
  | str {s} : z = 1 → Src O z (.str s) s.length (s.map fun c => .int .u8 (.ofNat c))
  | sl {b o len cap l} : Has O b (.cells l) → o + len * z ≤ l.length → Src O z (.sl b o len cap z) len ((l.drop o).take (len * z))
  | none {b o cap} : Src O z (.sl b o 0 cap z) 0 []
theorem src_of {H : Tr Blk} {nx : Nat} (hk : HK B ro O H nx) {z : Nat} {y : AV} {k : Nat} {new : List AV} (h : Src O z y k new) (hn : ∀ b o cap, y = .sl b o 0 cap z → ∃ l, Has O b (.cells l) ∧ o ≤ l.length) : srcLen y = some k ∧ src z H k y = some new := by
  cases h with
  | nils => exact ⟨rfl, rfl⟩
  | str hz => subst hz; simp [srcLen, src, ble_dec]
  | sl hb hle =>
    obtain ⟨c, k1, k2⟩ := (hk.at hb).2
    refine ⟨rfl, ?_⟩
    simp only [src, Nat.beq_refl, ble_dec, Nat.le_refl, decide_true, Bool.and_true, cond_true, k1, hle, take_at (H := H) (b := 0) k2 _ _ hle]
  | none =>
    rename_i b o cap
    obtain ⟨l, hb, hle⟩ := hn b o cap rfl
    obtain ⟨c, k1, k2⟩ := (hk.at hb).2
    refine ⟨rfl, ?_⟩
    simp [src, ble_dec, k1, hle, take]
theorem hop_app {tm : Tr AV} {H : Tr Blk} {nx rr z bytes : Nat} {x y : Opd} {k len : Nat} {new : List AV} (h1 : srcLen (getv tm y) = some k) (h2 : srcLen (getv tm x) = some len) (h3 : src z H k (getv tm y) = some new)
    (h4 : (len + k ≤ 10000000 ∧ bytes ≤ 1000) ∧ z ≠ 0) (h5 : new.all aone = true) : hop call rr (getv tm) H nx (.app z bytes x y) = appendTo z rr H nx (getv tm x) k new := by
  have e : ((len + k).ble 10000000 && bytes.ble 1000 && !(z.beq 0)) = true := by rw [ble_dec, ble_dec, beq_dec]; simp [h4]
  simp only [hop, h1, h2, e, cond_true, h3, h5]
theorem Src.get {H : Tr Blk} {nx : Nat} (hk : HK B ro O H nx) {z : Nat} {y : AV} {k : Nat} {new : List AV} (h : Src O z y k new) (h0 : k ≠ 0) : srcLen y = some k ∧ src z H k y = some new := by
  refine src_of hk h ?_
  rintro b o cap rfl
  cases h with
  | sl _ _ => exact absurd rfl h0
  | none => exact absurd rfl h0
theorem WO_app_nil {z bytes : Nat} {x y : Opd} {v : AV} {k : Nat} {new : List AV} (hx : gv t x = some .nils) (hy : gv t y = some v) (hs : Src O z v k new) (h0 : k ≠ 0) (h1 : k ≤ 10000000) (h2 : bytes ≤ 1000 ∧ z ≠ 0) (h5 : new.all aone = true)
    (h : ∀ b, WO B call ro r (setF d (.sl b 0 k none z) t) (⟨b, true, .cells new⟩ :: O) K) : WO B call ro (⟨d, none, .h (.app z bytes x y), q, []⟩ :: r) t O K :=
  WO_new (f := fun b => .sl b 0 k none z) (fun tm H nx rr ht hk => by
    obtain ⟨k1, k2⟩ := hs.get hk h0
    rw [hop_app (k := k) (len := 0) (by rw [ht.gv hy]; exact k1) (by rw [ht.gv hx]; rfl) (by rw [ht.gv hy]; exact k2) ⟨⟨by omega, h2.1⟩, h2.2⟩ h5, ht.gv hx]
    have : k.beq 0 = false := by rw [beq_dec]; simp [h0]
    simp only [appendTo, this, cond_false]) h
theorem WO_app_own {z bytes : Nat} {x y : Opd} {b len : Nat} {old : List AV} {v : AV} {k : Nat} {new : List AV} {O' : List Ent} (hx : gv t x = some (.sl b 0 len none z)) (hD : Del O b (.cells old) O') (hold : old.length = len * z) (hy : gv t y = some v) (hs : Src O z v k new) (h0 : k ≠ 0)
    (h1 : len + k ≤ 10000000) (h2 : bytes ≤ 1000 ∧ z ≠ 0) (h5 : new.all aone = true) (h : ∀ b', WO B call ro r (setF d (.sl b' 0 (len + k) none z) t) (⟨b', true, .cells (old ++ new)⟩ :: O') K) : WO B call ro (⟨d, none, .h (.app z bytes x y), false, []⟩ :: r) t O K :=
  WO_mem fun tm H nx ht hk => by
    obtain ⟨k1, k2⟩ := hs.get hk h0
    obtain ⟨b1, b2, b3⟩ := hk.ent _ hD.keep.2
    have b2 := b2 rfl
    obtain ⟨c, b3, b4⟩ := b3
    simp only at b1 b2 b3 b4
    have e0 : k.beq 0 = false := by rw [beq_dec]; simp [h0]
    have hz : 0 < k * z := Nat.mul_pos (by omega) (by omega)
    have e1 : (0 + (len + k) * z).ble old.length = false := by rw [ble_dec, hold, Nat.add_mul]; simp; omega
    have e2 : src z H len (.sl b 0 len none z) = some old := by
      have : 0 + len * z ≤ old.length := by omega
      simp only [src, Nat.beq_refl, ble_dec, Nat.le_refl, decide_true, Bool.and_true, cond_true, b3, this, take_at (H := H) (b := 0) b4 _ _ this]
      rw [List.drop_zero, ← hold, List.take_length]
    refine ⟨_, _, _, _, ?_, (hk.del hD).cells (old ++ new), h nx⟩
    rw [hop_app (k := k) (len := len) (by rw [ht.gv hy]; exact k1) (by rw [ht.gv hx]; rfl) (by rw [ht.gv hy]; exact k2) ⟨⟨by omega, h2.1⟩, h2.2⟩ h5, ht.gv hx]
    simp only [appendTo, Nat.beq_refl, Bool.not_true, cond_false, e0, b3, e1, e2, ble_dec, b2, decide_true, cond_true, Tr.delK_eq, newCells_eq]
theorem WO_app_full {z bytes : Nat} {x y : Opd} {b o len cp : Nat} {old : List AV} {v : AV} {k : Nat} {new : List AV} (hx : gv t x = some (.sl b o len (some cp) z)) (hb : Has O b (.cells old)) (hold : o + len * z ≤ old.length) (hy : gv t y = some v) (hs : Src O z v k new) (h0 : k ≠ 0) (hcp : cp < len + k)
    (h1 : len + k ≤ 10000000) (h2 : bytes ≤ 1000 ∧ z ≠ 0) (h5 : new.all aone = true) (h : ∀ b', WO B call ro r (setF d (.sl b' 0 (len + k) none z) t) (⟨b', true, .cells ((old.drop o).take (len * z) ++ new)⟩ :: O) K) : WO B call ro (⟨d, none, .h (.app z bytes x y), q, []⟩ :: r) t O K :=
  WO_new (f := fun b' => .sl b' 0 (len + k) none z) (fun tm H nx rr ht hk => by
    obtain ⟨k1, k2⟩ := hs.get hk h0
    obtain ⟨c, b3, b4⟩ := (hk.at hb).2
    have e0 : k.beq 0 = false := by rw [beq_dec]; simp [h0]
    have e1 : (len + k).ble cp = false := by rw [ble_dec]; simp; omega
    have e2 : src z H len (.sl b o len (some cp) z) = some ((old.drop o).take (len * z)) := by
      simp only [src, Nat.beq_refl, ble_dec, Nat.le_refl, decide_true, Bool.and_true, cond_true, b3, hold, take_at (H := H) (b := 0) b4 _ _ hold]
    rw [hop_app (k := k) (len := len) (by rw [ht.gv hy]; exact k1) (by rw [ht.gv hx]; rfl) (by rw [ht.gv hy]; exact k2) ⟨⟨by omega, h2.1⟩, h2.2⟩ h5, ht.gv hx]
    simp only [appendTo, Nat.beq_refl, Bool.not_true, cond_false, e0, b3, e1, e2]) h
theorem WO_app_fit {z bytes : Nat} {x y : Opd} {b o len cp : Nat} {l : List AV} {v : AV} {k : Nat} {new : List AV} {O' : List Ent} (hx : gv t x = some (.sl b o len (some cp) z)) (hy : gv t y = some v) (hs : Src O z v k new) (hnew : new.length = k * z) (hu : Upd O b (.cells l) (.cells (splice l (o + len * z) new)) O')
    (h0 : k ≠ 0) (hcp : len + k ≤ cp) (hl : o + (len + k) * z ≤ l.length) (h1 : len + k ≤ 10000000) (h2 : bytes ≤ 1000 ∧ z ≠ 0) (h5 : new.all aone = true) (h : WO B call ro r (setF d (.sl b o (len + k) (some cp) z) t) O' K) :
    WO B call ro (⟨d, none, .h (.app z bytes x y), false, []⟩ :: r) t O K :=
  WO_mem fun tm H nx ht hk => by
    obtain ⟨k1, k2⟩ := hs.get hk h0
    obtain ⟨b1, b2, b3⟩ := hk.ent _ hu.keep.2.1
    have b2 := b2 rfl
    obtain ⟨c, b3, b4⟩ := b3
    simp only at b1 b2 b3 b4
    have e0 : k.beq 0 = false := by rw [beq_dec]; simp [h0]
    refine ⟨_, _, _, O', ?_, hk.upd hu _ (At_put b4 (by rw [hnew, Nat.add_mul] at *; omega)), h⟩
    rw [hop_app (k := k) (len := len) (by rw [ht.gv hy]; exact k1) (by rw [ht.gv hx]; rfl) (by rw [ht.gv hy]; exact k2) ⟨⟨by omega, h2.1⟩, h2.2⟩ h5, ht.gv hx]
    simp only [appendTo, Nat.beq_refl, Bool.not_true, cond_false, e0, b3, ble_dec, hcp, hl, b2, decide_true, Bool.and_true, cond_true, putK_eq, setB_eq]
theorem WO_app_zero {z bytes : Nat} {x y : Opd} {u v : AV} {len : Nat} (hx : gv t x = some u) (hu : srcLen u = some len ∧ (u = .nils ∨ ∃ b o cap, u = .sl b o len cap z)) (hy : gv t y = some v) (hs : Src O z v 0 []) (hn : ∀ b o cap, v = .sl b o 0 cap z → ∃ l, Has O b (.cells l) ∧ o ≤ l.length)
    (h1 : len ≤ 10000000) (h2 : bytes ≤ 1000 ∧ z ≠ 0) (h : WO B call ro r (setF d u t) O K) : WO B call ro (⟨d, none, .h (.app z bytes x y), q, []⟩ :: r) t O K :=
  WO_mem fun tm H nx ht hk => by
    obtain ⟨k1, k2⟩ := src_of hk hs hn
    refine ⟨u, H, nx, O, ?_, hk, h⟩
    rw [hop_app (k := 0) (len := len) (by rw [ht.gv hy]; exact k1) (by rw [ht.gv hx]; exact hu.1) (by rw [ht.gv hy]; exact k2) ⟨⟨by omega, h2.1⟩, h2.2⟩ rfl, ht.gv hx]
    rcases hu.2 with rfl | ⟨b, o, cap, rfl⟩
    · rfl
    · simp only [appendTo, Nat.beq_refl, Bool.not_true, cond_false, cond_true]
theorem WO_copy {z : Nat} {x y : Opd} {b o len : Nat} {cap : Option Nat} {v : AV} {k n : Nat} {l new : List AV} {O' : List Ent} (hx : gv t x = some (.sl b o len cap z)) (hy : gv t y = some v) (hk : srcLen v = some k) (hn : n = min k len) (hs : ∀ H nx, HK B ro O H nx → src z H n v = some new) (hnew : new.length = n * z)
    (hu : Upd O b (.cells l) (.cells (splice l o new)) O') (h0 : n ≠ 0) (hl : o + n * z ≤ l.length) (h5 : new.all aone = true) (h : WO B call ro r (setF d (.int .i64 n) t) O' K) : WO B call ro (⟨d, none, .h (.copy z x y), false, []⟩ :: r) t O K :=
  WO_mem fun tm H nx ht hkk => by
    obtain ⟨b1, b2, b3⟩ := hkk.ent _ hu.keep.2.1
    have b2 := b2 rfl
    obtain ⟨c, b3, b4⟩ := b3
    simp only at b1 b2 b3 b4
    have en : (bif k.ble len then k else len) = n := by
      rw [ble_dec]
      by_cases hq : k ≤ len <;> simp [hq] <;> omega
    have e0 : n.beq 0 = false := by rw [beq_dec]; simp [h0]
    refine ⟨_, _, _, O', ?_, hkk.upd hu _ (At_put b4 (by rw [hnew]; exact hl)), h⟩
    simp only [hop, ht.gv hx, ht.gv hy, hk]
    rw [en]
    simp only [hs H nx hkk, e0, cond_false, b3, ble_dec, b2, Nat.beq_refl, hl, h5, decide_true, Bool.and_true, cond_true, putK_eq, setB_eq]
theorem WO_b2s {x : Opd} {b o len : Nat} {cap : Option Nat} {l : List AV} {s : List Nat} (hx : gv t x = some (.sl b o len cap 1)) (hb : Has O b (.cells l)) (hl : o + len ≤ l.length) (hs : u8s ((l.drop o).take len) = some s) (h : WO B call ro r (setF d (.str s) t) O K) :
    WO B call ro (⟨d, none, .h (.b2s x), q, []⟩ :: r) t O K :=
  WO_mem fun tm H nx ht hk => by
    obtain ⟨c, b3, b4⟩ := (hk.at hb).2
    refine ⟨_, H, nx, O, ?_, hk, h⟩
    simp only [hop, ht.gv hx, b3, Nat.beq_refl, ble_dec, hl, decide_true, Bool.and_true, cond_true, take_at (H := H) (b := 0) b4 _ _ hl, hs, forceNs_eq]
theorem WO_b2s_nil {x : Opd} (hx : gv t x = some .nils) (h : WO B call ro r (setF d (.str []) t) O K) : WO B call ro (⟨d, none, .h (.b2s x), q, []⟩ :: r) t O K :=
  WO_mem fun tm H nx ht hk => ⟨_, H, nx, O, by simp only [hop, ht.gv hx], hk, h⟩
theorem WO_s2b {x : Opd} {s : List Nat} (hx : gv t x = some (.str s)) (h : ∀ b, WO B call ro r (setF d (.sl b 0 s.length none 1) t) (⟨b, true, .cells (s.map fun c => .int .u8 (.ofNat c))⟩ :: O) K) :
    WO B call ro (⟨d, none, .h (.s2b x), q, []⟩ :: r) t O K :=
  WO_new (f := fun b => .sl b 0 s.length none 1) (fun tm H nx rr ht _ => by simp only [hop, ht.gv hx]) h
theorem WO_range {x : Opd} {s : List Nat} (hx : gv t x = some (.str s)) (h : ∀ b, WO B call ro r (setF d (.ptr b 0) t) (⟨b, true, .iter s 0⟩ :: O) K) : WO B call ro (⟨d, none, .h (.range x), q, []⟩ :: r) t O K :=
  WO_mem fun tm H nx ht hk => ⟨_, _, _, _, by simp only [hop, ht.gv hx, newB_eq]; rfl, hk.new _ (.iter s 0) (by show _ = _; rw [Tr.get_set, if_pos rfl]), h nx⟩
theorem WO_next {x : Opd} {b pos c : Nat} {s : List Nat} {O' : List Ent} (hx : gv t x = some (.ptr b 0)) (hc : s[pos]? = some c) (hlt : c ≤ 127) (hu : Upd O b (.iter s pos) (.iter s (pos + 1)) O')
    (h : WO B call ro r (setF d (.tup [.bool true, .int .i64 (.ofNat pos), .int .i32 (.ofNat c)]) t) O' K) : WO B call ro (⟨d, none, .h (.next x), false, []⟩ :: r) t O K :=
  WO_mem fun tm H nx ht hk => by
    obtain ⟨b1, b2, b3⟩ := hk.ent _ hu.keep.2.1
    have b2 := b2 rfl
    have b3 : H.get b = some (.iter s pos) := b3
    simp only at b1 b2
    refine ⟨_, _, _, O', ?_, hk.upd hu (.iter s (pos + 1)) (by show _ = _; rw [Tr.get_set, if_pos rfl]), h⟩
    simp only [hop, ht.gv hx, b3, hc, cond_false, ble_dec, b2, hlt, decide_true, Bool.and_true, cond_true, forceN_eq, setB_eq]
theorem WO_next_end {x : Opd} {b pos : Nat} {s : List Nat} (hx : gv t x = some (.ptr b 0)) (hb : Has O b (.iter s pos)) (hc : s[pos]? = none) (h : WO B call ro r (setF d (.tup [.bool false]) t) O K) : WO B call ro (⟨d, none, .h (.next x), q, []⟩ :: r) t O K :=
  WO_mem fun tm H nx ht hk => by
    have b3 : H.get b = some (.iter s pos) := (hk.at hb).2
    exact ⟨_, H, nx, O, by simp only [hop, ht.gv hx, b3, hc], hk, h⟩
def gvs (t : Fr) : List Opd → Option (List AV)
  | [] => some []
  | x :: l => match gv t x, gvs t l with
    | some v, some vs => some (v :: vs)
    | _, _ => none
theorem FA.gvs {tm : Tr AV} (ht : FA t tm) : ∀ {xs : List Opd} {as : List AV}, gvs t xs = some as → xs.map (getv tm) = as
  | [], as, h => by simp only [W.gvs, Option.some.injEq] at h; subst h; rfl
  | x :: l, as, h => by
    simp only [W.gvs] at h
    split at h
    · rename_i v vs h1 h2
      cases h
      rw [List.map_cons, ht.gv h1, FA.gvs ht h2]
    · cases h
theorem SpecQ.use {f : FuncId} {as : List AV} {I : List (Nat × HB)} {R : AV → List Ent → Prop} (hs : SpecQ B call f as I R) (hI : Sub I O) {H : Tr Blk} {nx : Nat} (hk : HK B ro O H nx) :
    ∃ v N H' nx', call f as H nx (bif q then nx else ro) = some (v, H', nx') ∧ HK B ro (N ++ O) H' nx' ∧ R v N := by
  cases q with
  | true => exact hs.quiet hk hI
  | false => exact hs ro O H nx hk hI
theorem WO_call {f : FuncId} {xs : List Opd} {as : List AV} {I : List (Nat × HB)} {R : AV → List Ent → Prop} (hxs : gvs t xs = some as) (hs : SpecQ B call f as I R) (hI : Sub I O) (h : ∀ v N, R v N → WO B call ro r (setF d v t) (N ++ O) K) :
    WO B call ro (⟨d, none, .h (.call f xs), q, []⟩ :: r) t O K :=
  WO_mem fun tm H nx ht hk => by
    obtain ⟨v, N, H', nx', h1, h2, h3⟩ := hs.use (q := q) hI hk
    exact ⟨v, H', nx', N ++ O, by simp only [hop, forceL_eq, ht.gvs hxs, h1], h2, h v N h3⟩
theorem WO_calld {g : Opd} {f : FuncId} {first capt : List AV} {xs : List Opd} {as : List AV} {I : List (Nat × HB)} {R : AV → List Ent → Prop} (hg : gv t g = some (.fn (.func f) first capt)) (hxs : gvs t xs = some as) (hs : SpecQ B call f (first ++ as ++ capt) I R) (hI : Sub I O)
    (h : ∀ v N, R v N → WO B call ro r (setF d v t) (N ++ O) K) : WO B call ro (⟨d, none, .h (.calld g xs), q, []⟩ :: r) t O K :=
  WO_mem fun tm H nx ht hk => by
    obtain ⟨v, N, H', nx', h1, h2, h3⟩ := hs.use (q := q) hI hk
    exact ⟨v, H', nx', N ++ O, by simp only [hop, ht.gv hg, forceL_eq, ht.gvs hxs, h1], h2, h v N h3⟩
theorem WO_xrow {n : Nat} {xs : List Opd} {as : List AV} {v : AV} (hxs : gvs t xs = some as) (hv : xrow n as = some v) (h : WO B call ro r (setF d v t) O K) : WO B call ro (⟨d, none, .h (.xrow n xs), q, []⟩ :: r) t O K :=
  WO_mem fun tm H nx ht hk => ⟨v, H, nx, O, by simp only [hop, ht.gvs hxs, hv], hk, h⟩
def SpecW (B : Base) (call : FuncId → List AV → Tr Blk → Nat → Nat → Out) (f : FuncId) (as : List AV) (I : List Ent) (R : AV → List Ent → Prop) : Prop :=
  ∀ ro O H nx, HK B ro (I ++ O) H nx → ∃ v N H' nx', call f as H nx ro = some (v, H', nx') ∧ HK B ro (N ++ O) H' nx' ∧ R v N
theorem HK.perm {O O' : List Ent} {H : Tr Blk} {nx : Nat} (hk : HK B ro O H nx) (h : O'.Perm O) : HK B ro O' H nx :=
  ⟨hk.r0, hk.r1, hk.base, fun e he => hk.ent e (h.mem_iff.1 he), (h.map Ent.b).nodup_iff.2 hk.nd⟩
theorem WO_callW {f : FuncId} {xs : List Opd} {as : List AV} {I O' : List Ent} {R : AV → List Ent → Prop} (hxs : gvs t xs = some as) (hs : SpecW B call f as I R) (hI : (I ++ O').Perm O) (h : ∀ v N, R v N → WO B call ro r (setF d v t) (N ++ O') K) :
    WO B call ro (⟨d, none, .h (.call f xs), false, []⟩ :: r) t O K :=
  WO_mem fun tm H nx ht hk => by
    obtain ⟨v, N, H', nx', h1, h2, h3⟩ := hs ro O' H nx (hk.perm hI)
    exact ⟨v, H', nx', N ++ O', by simp only [hop, forceL_eq, ht.gvs hxs, cond_false, h1], h2, h v N h3⟩
theorem W_weakP {Q : Ex → Fr → List Ent → Prop} {c : CC} {t' : Fr} {O' : List Ent} (hF : weakF t' t) (hO : O'.Perm O) (h : W B call ro c t' O' Q) : W B call ro c t O Q := fun tm H nx ht hk =>
  h tm H nx (ht.weak hF) (hk.perm hO)
end
end W
end Go.Vm
