/- Numbers read off bytes, the document's words: plain. Of no program. -/
import Derived.Test.YtjfeeiljinbmjaaNum
set_option linter.unusedVariables false
set_option linter.unusedSimpArgs false
namespace Go.Fw
open Go.RowKit

/-- a number at the beginning of bytes, how many it takes, and the error; i bytes were read that come to n -/
def numR (i : Nat) (n : Int) : List UInt8 → Int × Nat × Int
  | [] => (0, 0, 2)
  | x :: r =>
    if i = 8 ∧ 128 ≤ x.toNat then (0, 0, 5)
    else if x.toNat < 128 then (if 0 < i ∧ x.toNat = 0 then (0, 0, 10) else (n + (x.toNat : Int) % 128 * 128 ^ i, i + 1, 0))
    else numR (i + 1) (n + (x.toNat : Int) % 128 * 128 ^ i) r
theorem numR_nil (i : Nat) (n : Int) : numR i n [] = (0, 0, 2) := rfl
theorem numR_err : ∀ (l : List UInt8) (i : Nat) (n : Int), (numR i n l).2.2 = 0 ∨ (numR i n l).2.2 = 2 ∨ (numR i n l).2.2 = 5 ∨ (numR i n l).2.2 = 10
  | [], _, _ => by simp [numR]
  | x :: r, i, n => by
    unfold numR
    split
    · simp
    · split
      · split <;> simp
      · exact numR_err r _ _
theorem numR_len : ∀ (l : List UInt8) (i : Nat) (n : Int), (numR i n l).2.1 ≤ i + l.length
  | [], _, _ => by simp [numR]
  | x :: r, i, n => by
    unfold numR
    split
    · simp
    · split
      · split <;> simp
      · have := numR_len r (i + 1) (n + (x.toNat : Int) % 128 * 128 ^ i)
        simp only [List.length_cons]; omega
theorem numR_val : ∀ (l : List UInt8) (i : Nat) (n : Int), i ≤ 8 → 0 ≤ n → n < 128 ^ i → 0 ≤ (numR i n l).1 ∧ (numR i n l).1 ≤ 9223372036854775807
  | [], _, _, _, _, _ => by simp [numR]
  | x :: r, i, n, hi, h0, h1 => by
    have hx : x.toNat < 256 := x.toNat_lt
    have hp : (0 : Int) < 128 ^ i := Int.pow_pos (by decide)
    have hm0 : 0 ≤ (x.toNat : Int) % 128 := by omega
    have hm1 : (x.toNat : Int) % 128 ≤ 127 := by omega
    have h2 : (x.toNat : Int) % 128 * 128 ^ i ≤ 127 * 128 ^ i := Int.mul_le_mul_of_nonneg_right hm1 (by omega)
    have h3 : 0 ≤ (x.toNat : Int) % 128 * 128 ^ i := Int.mul_nonneg hm0 (by omega)
    have h4 : (128 : Int) ^ (i + 1) = 128 * 128 ^ i := by rw [Int.pow_succ]; omega
    have h5 : (128 : Int) ^ (i + 1) ≤ 128 ^ 9 := by
      have : i = 0 ∨ i = 1 ∨ i = 2 ∨ i = 3 ∨ i = 4 ∨ i = 5 ∨ i = 6 ∨ i = 7 ∨ i = 8 := by omega
      rcases this with h | h | h | h | h | h | h | h | h <;> subst h <;> decide
    unfold numR
    split
    · simp
    · split
      · split
        · simp
        · simp only; omega
      · rename_i hn _
        exact numR_val r (i + 1) _ (by omega) (by omega) (by omega)
theorem numR_bad : ∀ {l : List UInt8} {i : Nat} {n : Int}, (numR i n l).2.2 ≠ 0 → (numR i n l).1 = 0 ∧ (numR i n l).2.1 = 0
  | [], _, _, _ => ⟨rfl, rfl⟩
  | x :: r, i, n, h => by
    unfold numR at h ⊢
    split
    · exact ⟨rfl, rfl⟩
    · rename_i h1
      rw [if_neg h1] at h
      split
      · rename_i h2
        rw [if_pos h2] at h
        split
        · exact ⟨rfl, rfl⟩
        · rename_i h3
          rw [if_neg h3] at h
          exact absurd rfl h
      · rename_i h2
        rw [if_neg h2] at h
        exact numR_bad h
/-- the byte at a place, how many it takes, and the error -/
def byteR (b : List UInt8) (k : Nat) : Int × Nat × Int := match b[k]? with | some x => ((x.toNat : Int), 1, 0) | none => (0, 0, 2)
theorem byteR_some {b : List UInt8} {k : Nat} {x : UInt8} (h : b[k]? = some x) : byteR b k = ((x.toNat : Int), 1, 0) := by unfold byteR; rw [h]
theorem byteR_none {b : List UInt8} {k : Nat} (h : k = b.length) : byteR b k = (0, 0, 2) := by unfold byteR; rw [List.getElem?_eq_none (by omega)]
/-- a number at a place of bytes, the place behind it, and the error -/
def numAt (b : List UInt8) (k : Nat) : Int × Nat × Int := ((numR 0 0 (b.drop k)).1, k + (numR 0 0 (b.drop k)).2.1, (numR 0 0 (b.drop k)).2.2)
theorem numAt_le {b : List UInt8} {k : Nat} (h : k ≤ b.length) : k ≤ (numAt b k).2.1 ∧ (numAt b k).2.1 ≤ b.length := by
  have := numR_len (b.drop k) 0 0
  rw [List.length_drop] at this
  unfold numAt
  dsimp only
  omega
theorem numAt_val (b : List UInt8) (k : Nat) : 0 ≤ (numAt b k).1 ∧ (numAt b k).1 ≤ 9223372036854775807 := numR_val (b.drop k) 0 0 (by omega) (by omega) (by decide)
theorem numAt_bad {b : List UInt8} {k : Nat} (h : (numAt b k).2.2 ≠ 0) : (numAt b k).2.1 = k ∧ (numAt b k).1 = 0 := by
  have := numR_bad (l := b.drop k) (i := 0) (n := 0) h
  unfold numAt
  dsimp only
  rw [this.1, this.2]
  exact ⟨rfl, rfl⟩
theorem pow_num {i : Nat} (hi : i ≤ 8) : (0 : Int) < 128 ^ i ∧ (128 : Int) ^ i ≤ 72057594037927936 ∧ (2 : Int) ^ (7 * i) = 128 ^ i := by
  have : i = 0 ∨ i = 1 ∨ i = 2 ∨ i = 3 ∨ i = 4 ∨ i = 5 ∨ i = 6 ∨ i = 7 ∨ i = 8 := by omega
  rcases this with h | h | h | h | h | h | h | h | h <;> subst h <;> decide
theorem sh_num {i : Nat} {y : Int} (hi : i ≤ 8) (h0 : 0 ≤ y) (h1 : y ≤ 127) : IntKind.i64.wrap (y * 2 ^ (7 * i)) = y * 128 ^ i ∧ 0 ≤ y * 128 ^ i ∧ y * 128 ^ i ≤ 9223372036854775807 := by
  obtain ⟨p1, p2, p3⟩ := pow_num hi
  have h2 : y * 128 ^ i ≤ 127 * 128 ^ i := Int.mul_le_mul_of_nonneg_right h1 (by omega)
  have h3 : 0 ≤ y * 128 ^ i := Int.mul_nonneg h0 (by omega)
  rw [p3]
  exact ⟨wrap_i64 ⟨by omega, by omega⟩, h3, by omega⟩
theorem andK_comm (k : IntKind) (p q : Int) : orK k p q = orK k q p := by unfold orK; rw [BitVec.or_comm]
theorem or_num {i : Nat} {m y : Int} (hi : i ≤ 8) (hm0 : 0 ≤ m) (hm1 : m < 128 ^ i) (h0 : 0 ≤ y) (h1 : y ≤ 127) : orK .i64 m (y * 128 ^ i) = m + y * 128 ^ i := by
  obtain ⟨p1, p2, p3⟩ := pow_num hi
  obtain ⟨_, h2, h3⟩ := sh_num hi h0 h1
  rw [andK_comm, orK_add (7 * i) (by omega) h2 h3 (by rw [p3]; exact Int.mul_emod_left _ _) hm0 (by rw [p3]; exact hm1), Int.add_comm]
theorem numR_step {l : List UInt8} {x : UInt8} {k i : Nat} {n : Int} (hx : l[k]? = some x) : numR i n (l.drop k) = if i = 8 ∧ 128 ≤ x.toNat then (0, 0, 5)
    else if x.toNat < 128 then (if 0 < i ∧ x.toNat = 0 then (0, 0, 10) else (n + (x.toNat : Int) % 128 * 128 ^ i, i + 1, 0))
    else numR (i + 1) (n + (x.toNat : Int) % 128 * 128 ^ i) (l.drop (k + 1)) := by
  obtain ⟨h, rfl⟩ := List.getElem?_eq_some_iff.1 hx
  rw [List.drop_eq_getElem_cons h, numR]
end Go.Fw
