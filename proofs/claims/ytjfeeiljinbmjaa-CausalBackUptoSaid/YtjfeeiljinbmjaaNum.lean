/- Numbers as bytes, the document's words: plain. Of no program. -/
import Derived.Test.YtjfeeiljinbmjaaMore6
set_option linter.unusedVariables false
set_option linter.unusedSimpArgs false
namespace Go.Fw
open Go.RowKit

/-- a number's bytes -/
def numB (x : Nat) : List UInt8 := if x < 128 then [b8 (x : Int)] else b8 ((x % 128 + 128 : Nat) : Int) :: numB (x / 128)
termination_by x
decreasing_by omega
theorem numB_small {x : Nat} (h : x < 128) : numB x = [b8 (x : Int)] := by rw [numB, if_pos h]
theorem numB_big {x : Nat} (h : ¬ x < 128) : numB x = b8 ((x % 128 + 128 : Nat) : Int) :: numB (x / 128) := by rw [numB, if_neg h]
theorem numB_len : ∀ (k x : Nat), x < 128 ^ (k + 1) → (numB x).length ≤ k + 1
  | 0, x, h => by rw [numB_small (by simpa using h)]; simp
  | k + 1, x, h => by
    by_cases hx : x < 128
    · rw [numB_small hx]; simp
    · rw [numB_big hx]
      have := numB_len k (x / 128) (by rw [Nat.pow_succ] at h; omega)
      simp; omega
theorem numB_len10 {x : Nat} (h : x < 9223372036854775808) : (numB x).length ≤ 9 := numB_len 8 x (by simpa using h)
/-- what is put behind bytes -/
def putL (l : List UInt8) (n : Int) : List UInt8 := l ++ numB n.toNat
theorem putL_len (l : List UInt8) {n : Int} (h : n < 9223372036854775808) : (putL l n).length ≤ l.length + 9 := by
  have := numB_len10 (x := n.toNat) (by omega)
  unfold putL
  rw [List.length_append]; omega
theorem or128 : ∀ y : Fin 256, orK .u8 ((y : Nat) : Int) 128 = (((y : Nat) % 128 + 128 : Nat) : Int) := by decide +kernel
theorem or_put (x : Nat) : orK .u8 ((b8 (x : Int)).toNat : Int) 128 = ((b8 ((x % 128 + 128 : Nat) : Int)).toNat : Int) := by
  have h1 := b8_val (x : Int)
  have h2 := b8_val ((x % 128 + 128 : Nat) : Int)
  have h3 : (b8 (x : Int)).toNat < 256 := by omega
  have h4 := or128 ⟨(b8 (x : Int)).toNat, h3⟩
  dsimp only at h4
  rw [h4]
  omega
end Go.Fw
