/-
  Frames for the kernel: temporaries in nested tuples of eight, read and written at fixed places.
-/
import Derived.Test.YtgncjbodicabnaaDoorVmZR
set_option linter.unusedSimpArgs false
set_option linter.unusedVariables false

namespace Go.Vm
noncomputable section
namespace Swift

structure N8 (α : Type) where
  a : α
  b : α
  c : α
  d : α
  e : α
  f : α
  g : α
  h : α

abbrev Gt (φ : Type) := φ → AV
abbrev Pt (φ : Type) := AV → φ → (φ → Bool) → Bool

def g0 : Gt AV := fun v => v
def p0 : Pt AV := fun v _ k => k v
section
variable {α : Type}
def gA (p : Gt α) : Gt (N8 α) := fun t => p t.a
def gB (p : Gt α) : Gt (N8 α) := fun t => p t.b
def gC (p : Gt α) : Gt (N8 α) := fun t => p t.c
def gD (p : Gt α) : Gt (N8 α) := fun t => p t.d
def gE (p : Gt α) : Gt (N8 α) := fun t => p t.e
def gF (p : Gt α) : Gt (N8 α) := fun t => p t.f
def gG (p : Gt α) : Gt (N8 α) := fun t => p t.g
def gH (p : Gt α) : Gt (N8 α) := fun t => p t.h
abbrev M8 (α : Type) := fun (_ : N8 α) => Pt α → AV → (N8 α → Bool) → Bool
def pA (s : Pt α) : Pt (N8 α) := fun v t k => N8.rec (motive := M8 α) (fun a b c d e f g h s v k => s v a fun a => k ⟨a, b, c, d, e, f, g, h⟩) t s v k
def pB (s : Pt α) : Pt (N8 α) := fun v t k => N8.rec (motive := M8 α) (fun a b c d e f g h s v k => s v b fun b => k ⟨a, b, c, d, e, f, g, h⟩) t s v k
def pC (s : Pt α) : Pt (N8 α) := fun v t k => N8.rec (motive := M8 α) (fun a b c d e f g h s v k => s v c fun c => k ⟨a, b, c, d, e, f, g, h⟩) t s v k
def pD (s : Pt α) : Pt (N8 α) := fun v t k => N8.rec (motive := M8 α) (fun a b c d e f g h s v k => s v d fun d => k ⟨a, b, c, d, e, f, g, h⟩) t s v k
def pE (s : Pt α) : Pt (N8 α) := fun v t k => N8.rec (motive := M8 α) (fun a b c d e f g h s v k => s v e fun e => k ⟨a, b, c, d, e, f, g, h⟩) t s v k
def pF (s : Pt α) : Pt (N8 α) := fun v t k => N8.rec (motive := M8 α) (fun a b c d e f g h s v k => s v f fun f => k ⟨a, b, c, d, e, f, g, h⟩) t s v k
def pG (s : Pt α) : Pt (N8 α) := fun v t k => N8.rec (motive := M8 α) (fun a b c d e f g h s v k => s v g fun g => k ⟨a, b, c, d, e, f, g, h⟩) t s v k
def pH (s : Pt α) : Pt (N8 α) := fun v t k => N8.rec (motive := M8 α) (fun a b c d e f g h s v k => s v h fun h => k ⟨a, b, c, d, e, f, g, h⟩) t s v k
end

/-- A kind of frame. -/
structure FK (φ : Type) where
  cap : Nat
  dec : φ → Nat → AV
  g : Nat → Gt φ
  s : Nat → Pt φ
  z : φ
  g_ok : ∀ n t, n < cap → g n t = dec t n
  s_ok : ∀ n v t k, n < cap → ∃ t', s n v t k = k t' ∧ ∀ m, m < cap → dec t' m = if m = n then v else dec t m
  z_ok : ∀ n, dec z n = .tup []

def FK.base : FK AV where
  cap := 1
  dec v n := if n = 0 then v else .tup []
  g _ := g0
  s _ := p0
  z := .tup []
  g_ok n t h := by simp [show n = 0 by omega, g0]
  s_ok n v t k h := ⟨v, rfl, fun m hm => by simp [show n = 0 by omega, show m = 0 by omega]⟩
  z_ok n := by simp

def pick8 {β : Type} (i : Nat) (a b c d e f g h : β) : β := match i with
  | 0 => a | 1 => b | 2 => c | 3 => d | 4 => e | 5 => f | 6 => g | _ => h

theorem lt8 : ∀ {q : Nat}, q < 8 → q = 0 ∨ q = 1 ∨ q = 2 ∨ q = 3 ∨ q = 4 ∨ q = 5 ∨ q = 6 ∨ q = 7 := by intro q h; omega

def FK.next {φ : Type} (F : FK φ) (hc : 0 < F.cap) : FK (N8 φ) where
  cap := 8 * F.cap
  dec t n := F.dec (pick8 (n / F.cap) t.a t.b t.c t.d t.e t.f t.g t.h) (n % F.cap)
  g n := pick8 (n / F.cap) (gA (F.g (n % F.cap))) (gB (F.g (n % F.cap))) (gC (F.g (n % F.cap))) (gD (F.g (n % F.cap))) (gE (F.g (n % F.cap))) (gF (F.g (n % F.cap))) (gG (F.g (n % F.cap))) (gH (F.g (n % F.cap)))
  s n := pick8 (n / F.cap) (pA (F.s (n % F.cap))) (pB (F.s (n % F.cap))) (pC (F.s (n % F.cap))) (pD (F.s (n % F.cap))) (pE (F.s (n % F.cap))) (pF (F.s (n % F.cap))) (pG (F.s (n % F.cap))) (pH (F.s (n % F.cap)))
  z := ⟨F.z, F.z, F.z, F.z, F.z, F.z, F.z, F.z⟩
  g_ok n t h := by
    have hm := Nat.mod_lt n hc
    have hd : n / F.cap < 8 := Nat.div_lt_of_lt_mul (by rw [Nat.mul_comm]; exact h)
    rcases (lt8 hd) with h | h | h | h | h | h | h | h <;> rw [h] <;> exact F.g_ok _ _ hm
  s_ok n v t k h := by
    have hm := Nat.mod_lt n hc
    have hd : n / F.cap < 8 := Nat.div_lt_of_lt_mul (by rw [Nat.mul_comm]; exact h)
    have key : ∀ m, m = n ↔ m / F.cap = n / F.cap ∧ m % F.cap = n % F.cap := fun m => ⟨fun e => by rw [e]; exact ⟨rfl, rfl⟩, fun ⟨e1, e2⟩ => by
      rw [← Nat.div_add_mod m F.cap, ← Nat.div_add_mod n F.cap, e1, e2]⟩
    obtain ⟨a, b, c, d, e, f, g, hh⟩ := t
    rcases (lt8 hd) with h | h | h | h | h | h | h | h <;> rw [h]
    · obtain ⟨t1, e1, e2⟩ := F.s_ok (n % F.cap) v a (fun x => k ⟨x, b, c, d, e, f, g, hh⟩) hm
      refine ⟨⟨t1, b, c, d, e, f, g, hh⟩, e1, fun m hmm => ?_⟩
      have hd' : m / F.cap < 8 := Nat.div_lt_of_lt_mul (by rw [Nat.mul_comm]; exact hmm)
      have e3 := e2 (m % F.cap) (Nat.mod_lt m hc)
      simp only [key m, h]
      rcases (lt8 hd') with h' | h' | h' | h' | h' | h' | h' | h' <;> simp only [h', pick8] <;> first | (rw [e3]; simp; done) | (simp; done)
    · obtain ⟨t1, e1, e2⟩ := F.s_ok (n % F.cap) v b (fun x => k ⟨a, x, c, d, e, f, g, hh⟩) hm
      refine ⟨⟨a, t1, c, d, e, f, g, hh⟩, e1, fun m hmm => ?_⟩
      have hd' : m / F.cap < 8 := Nat.div_lt_of_lt_mul (by rw [Nat.mul_comm]; exact hmm)
      have e3 := e2 (m % F.cap) (Nat.mod_lt m hc)
      simp only [key m, h]
      rcases (lt8 hd') with h' | h' | h' | h' | h' | h' | h' | h' <;> simp only [h', pick8] <;> first | (rw [e3]; simp; done) | (simp; done)
    · obtain ⟨t1, e1, e2⟩ := F.s_ok (n % F.cap) v c (fun x => k ⟨a, b, x, d, e, f, g, hh⟩) hm
      refine ⟨⟨a, b, t1, d, e, f, g, hh⟩, e1, fun m hmm => ?_⟩
      have hd' : m / F.cap < 8 := Nat.div_lt_of_lt_mul (by rw [Nat.mul_comm]; exact hmm)
      have e3 := e2 (m % F.cap) (Nat.mod_lt m hc)
      simp only [key m, h]
      rcases (lt8 hd') with h' | h' | h' | h' | h' | h' | h' | h' <;> simp only [h', pick8] <;> first | (rw [e3]; simp; done) | (simp; done)
    · obtain ⟨t1, e1, e2⟩ := F.s_ok (n % F.cap) v d (fun x => k ⟨a, b, c, x, e, f, g, hh⟩) hm
      refine ⟨⟨a, b, c, t1, e, f, g, hh⟩, e1, fun m hmm => ?_⟩
      have hd' : m / F.cap < 8 := Nat.div_lt_of_lt_mul (by rw [Nat.mul_comm]; exact hmm)
      have e3 := e2 (m % F.cap) (Nat.mod_lt m hc)
      simp only [key m, h]
      rcases (lt8 hd') with h' | h' | h' | h' | h' | h' | h' | h' <;> simp only [h', pick8] <;> first | (rw [e3]; simp; done) | (simp; done)
    · obtain ⟨t1, e1, e2⟩ := F.s_ok (n % F.cap) v e (fun x => k ⟨a, b, c, d, x, f, g, hh⟩) hm
      refine ⟨⟨a, b, c, d, t1, f, g, hh⟩, e1, fun m hmm => ?_⟩
      have hd' : m / F.cap < 8 := Nat.div_lt_of_lt_mul (by rw [Nat.mul_comm]; exact hmm)
      have e3 := e2 (m % F.cap) (Nat.mod_lt m hc)
      simp only [key m, h]
      rcases (lt8 hd') with h' | h' | h' | h' | h' | h' | h' | h' <;> simp only [h', pick8] <;> first | (rw [e3]; simp; done) | (simp; done)
    · obtain ⟨t1, e1, e2⟩ := F.s_ok (n % F.cap) v f (fun x => k ⟨a, b, c, d, e, x, g, hh⟩) hm
      refine ⟨⟨a, b, c, d, e, t1, g, hh⟩, e1, fun m hmm => ?_⟩
      have hd' : m / F.cap < 8 := Nat.div_lt_of_lt_mul (by rw [Nat.mul_comm]; exact hmm)
      have e3 := e2 (m % F.cap) (Nat.mod_lt m hc)
      simp only [key m, h]
      rcases (lt8 hd') with h' | h' | h' | h' | h' | h' | h' | h' <;> simp only [h', pick8] <;> first | (rw [e3]; simp; done) | (simp; done)
    · obtain ⟨t1, e1, e2⟩ := F.s_ok (n % F.cap) v g (fun x => k ⟨a, b, c, d, e, f, x, hh⟩) hm
      refine ⟨⟨a, b, c, d, e, f, t1, hh⟩, e1, fun m hmm => ?_⟩
      have hd' : m / F.cap < 8 := Nat.div_lt_of_lt_mul (by rw [Nat.mul_comm]; exact hmm)
      have e3 := e2 (m % F.cap) (Nat.mod_lt m hc)
      simp only [key m, h]
      rcases (lt8 hd') with h' | h' | h' | h' | h' | h' | h' | h' <;> simp only [h', pick8] <;> first | (rw [e3]; simp; done) | (simp; done)
    · obtain ⟨t1, e1, e2⟩ := F.s_ok (n % F.cap) v hh (fun x => k ⟨a, b, c, d, e, f, g, x⟩) hm
      refine ⟨⟨a, b, c, d, e, f, g, t1⟩, e1, fun m hmm => ?_⟩
      have hd' : m / F.cap < 8 := Nat.div_lt_of_lt_mul (by rw [Nat.mul_comm]; exact hmm)
      have e3 := e2 (m % F.cap) (Nat.mod_lt m hc)
      simp only [key m, h]
      rcases (lt8 hd') with h' | h' | h' | h' | h' | h' | h' | h' <;> simp only [h', pick8] <;> first | (rw [e3]; simp; done) | (simp; done)
  z_ok n := by
    have : ∀ i, pick8 i F.z F.z F.z F.z F.z F.z F.z F.z = F.z := fun i => by unfold pick8; split <;> rfl
    simp only [this]
    exact F.z_ok _
end Swift
end
end Go.Vm

