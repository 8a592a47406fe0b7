/- Contexts read off bytes, the document's words: plain. Of no program. -/
import Derived.Test.YtjfeeiljinbmjaaRd
import Derived.Test.YtjfeeiljinbmjaaEnc
set_option linter.unusedVariables false
set_option linter.unusedSimpArgs false
namespace Go.Fw
open Go.RowKit

/-- one reading, and the next one if it had no error -/
def bindR {α β : Type} (r : α × Nat × Int) (z : β) (f : α → Nat → β × Nat × Int) : β × Nat × Int := if r.2.2 = 0 then f r.1 r.2.1 else (z, r.2.1, r.2.2)
theorem bindR_ok {α β : Type} {r : α × Nat × Int} {z : β} {f : α → Nat → β × Nat × Int} (h : r.2.2 = 0) : bindR r z f = f r.1 r.2.1 := if_pos h
theorem bindR_bad {α β : Type} {r : α × Nat × Int} {z : β} {f : α → Nat → β × Nat × Int} (h : r.2.2 ≠ 0) : bindR r z f = (z, r.2.1, r.2.2) := if_neg h
theorem bindR_bad' {α β : Type} {x : α} {k : Nat} {e : Int} {z : β} {f : α → Nat → β × Nat × Int} (h : e ≠ 0) : bindR (x, k, e) z f = (z, k, e) := bindR_bad h
theorem bindR_le {α β : Type} {r : α × Nat × Int} {z : β} {f : α → Nat → β × Nat × Int} {k n : Nat} (h : k ≤ r.2.1 ∧ r.2.1 ≤ n) (hf : ∀ x k1, k ≤ k1 → k1 ≤ n → k ≤ (f x k1).2.1 ∧ (f x k1).2.1 ≤ n) : k ≤ (bindR r z f).2.1 ∧ (bindR r z f).2.1 ≤ n := by
  unfold bindR
  split
  · exact hf _ _ h.1 h.2
  · exact h
def dotAt (b : List UInt8) (k : Nat) : Dot × Nat × Int := bindR (numAt b k) ⟨0, 0, 0⟩ fun x k1 => bindR (numAt b k1) ⟨0, 0, 0⟩ fun y k2 => bindR (numAt b k2) ⟨0, 0, 0⟩ fun z k3 => (⟨x, y, z⟩, k3, 0)
theorem dotAt_le {b : List UInt8} {k : Nat} (h : k ≤ b.length) : k ≤ (dotAt b k).2.1 ∧ (dotAt b k).2.1 ≤ b.length :=
  bindR_le (numAt_le h) fun x k1 h1 h2 => bindR_le ⟨by have := numAt_le h2; omega, (numAt_le h2).2⟩ fun y k2 h3 h4 => bindR_le ⟨by have := numAt_le h4; omega, (numAt_le h4).2⟩ fun z k3 h5 h6 => ⟨h5, h6⟩
def dotsAt (b : List UInt8) : Nat → List Dot → Nat → List Dot × Nat × Int
  | 0, acc, k => (acc, k, 0)
  | n + 1, acc, k => bindR (dotAt b k) [] fun d k1 => dotsAt b n (acc ++ [d]) k1
theorem dotsAt_le {b : List UInt8} : ∀ {n k : Nat} {acc : List Dot}, k ≤ b.length → k ≤ (dotsAt b n acc k).2.1 ∧ (dotsAt b n acc k).2.1 ≤ b.length
  | 0, k, _, h => ⟨Nat.le_refl _, h⟩
  | n + 1, k, acc, h => bindR_le (dotAt_le h) fun d k1 h1 h2 => by have := dotsAt_le (n := n) (acc := acc ++ [d]) h2; omega
theorem dotsAt_len {b : List UInt8} : ∀ {n k : Nat} {acc : List Dot}, (dotsAt b n acc k).1.length ≤ acc.length + n
  | 0, k, _ => Nat.le_refl _
  | n + 1, k, acc => by
    unfold dotsAt bindR
    split
    · dsimp only
      have := dotsAt_len (b := b) (n := n) (k := (dotAt b k).2.1) (acc := acc ++ [(dotAt b k).1])
      rw [List.length_append, List.length_singleton] at this
      omega
    · exact Nat.zero_le _
theorem dotsAt_bad {b : List UInt8} : ∀ {n k : Nat} {acc : List Dot}, (dotsAt b n acc k).2.2 ≠ 0 → (dotsAt b n acc k).1 = []
  | 0, k, _, h => absurd rfl h
  | n + 1, k, acc, h => by
    unfold dotsAt bindR at h ⊢
    split
    · rename_i h1
      rw [if_pos h1] at h
      exact dotsAt_bad h
    · rfl
def listAt (b : List UInt8) (k : Nat) : List Dot × Nat × Int := bindR (numAt b k) [] fun n k1 => if 64 < n then ([], k1, 4) else dotsAt b n.toNat [] k1
theorem listAt_le {b : List UInt8} {k : Nat} (h : k ≤ b.length) : k ≤ (listAt b k).2.1 ∧ (listAt b k).2.1 ≤ b.length :=
  bindR_le (numAt_le h) fun x k1 h1 h2 => by
    split
    · exact ⟨h1, h2⟩
    · have := dotsAt_le (n := x.toNat) (acc := []) h2
      omega
theorem listAt_len (b : List UInt8) (k : Nat) : (listAt b k).1.length ≤ 64 := by
  unfold listAt bindR
  split
  · dsimp only
    split
    · exact Nat.zero_le _
    · refine Nat.le_trans dotsAt_len ?_
      simp only [List.length_nil]; omega
  · exact Nat.zero_le _
def ctxAt (b : List UInt8) (k : Nat) : Ctx × Nat × Int := bindR (listAt b k) ⟨[], []⟩ fun l k1 => bindR (listAt b k1) ⟨[], []⟩ fun m k2 => if canL ⟨l, m⟩ then (⟨l, m⟩, k2, 0) else (⟨[], []⟩, k2, 30)
theorem ctxAt_le {b : List UInt8} {k : Nat} (h : k ≤ b.length) : k ≤ (ctxAt b k).2.1 ∧ (ctxAt b k).2.1 ≤ b.length :=
  bindR_le (listAt_le h) fun l k1 h1 h2 => bindR_le ⟨by have := listAt_le h2; omega, (listAt_le h2).2⟩ fun m k2 h3 h4 => by split <;> exact ⟨h3, h4⟩
def decAt (b : List UInt8) (k : Nat) : Ctx × Nat × Int := if (ctxAt b k).2.2 = 0 then ctxAt b k else (⟨[], []⟩, k, (ctxAt b k).2.2)
end Go.Fw
