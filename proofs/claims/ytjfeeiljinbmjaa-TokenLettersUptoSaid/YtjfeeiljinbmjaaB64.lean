/- Layer 15: bytes in letters, letters as bytes, plain: by three and four, and bit by bit. Of no program. -/
import Derived.Test.YtjfeeiljinbmjaaMore4
set_option linter.unusedVariables false
set_option linter.unusedSimpArgs false
namespace Go.Fw

def abc : List UInt8 := [65, 66, 67, 68, 69, 70, 71, 72, 73, 74, 75, 76, 77, 78, 79, 80, 81, 82, 83, 84, 85, 86, 87, 88, 89, 90, 97, 98, 99, 100, 101, 102, 103, 104, 105, 106, 107, 108, 109, 110, 111, 112, 113, 114, 115, 116, 117, 118, 119, 120, 121, 122, 48, 49, 50, 51, 52, 53, 54, 55, 56, 57, 45, 95]
theorem abcN : (abc.length : Int) = 64 := rfl
/-- letter number p -/
def lt64 (p : Int) : UInt8 := abc.getD p.toNat 0

/-- Bytes in letters. -/
def letters : List UInt8 → List UInt8
  | [] => []
  | [a] => [lt64 ((a.toNat : Int) / 4), lt64 ((a.toNat : Int) % 4 * 16)]
  | [a, b] => [lt64 ((a.toNat : Int) / 4), lt64 ((a.toNat : Int) % 4 * 16 + (b.toNat : Int) / 16), lt64 ((b.toNat : Int) % 16 * 4)]
  | a :: b :: c :: r => lt64 ((a.toNat : Int) / 4) :: lt64 ((a.toNat : Int) % 4 * 16 + (b.toNat : Int) / 16) :: lt64 ((b.toNat : Int) % 16 * 4 + (c.toNat : Int) / 64) :: lt64 ((c.toNat : Int) % 64) :: letters r

/-- a letter's number, and 1; 0 of other bytes -/
def num : List UInt8 → Nat → UInt8 → Nat
  | [], _, _ => 0
  | x :: r, i, c => if x = c then i + 1 else num r (i + 1) c
def num64 (c : UInt8) : Nat := num abc 0 c

theorem num_le : ∀ (l : List UInt8) (i : Nat) (c : UInt8), num l i c ≤ i + l.length
  | [], i, c => by simp [num]
  | x :: r, i, c => by
    have := num_le r (i + 1) c
    unfold num
    split <;> simp <;> omega
theorem num64_le (c : UInt8) : num64 c ≤ 64 := num_le abc 0 c

/-- The bytes of letters; none: they are none. -/
def bytes64 : List UInt8 → Option (List UInt8)
  | [] => some []
  | [_] => none
  | [a, b] => if num64 a = 0 ∨ num64 b = 0 then none else
      let x := ((num64 a : Int) - 1) * 64 + ((num64 b : Int) - 1)
      if x % 16 = 0 then some [b8 (x / 16)] else none
  | [a, b, c] => if num64 a = 0 ∨ num64 b = 0 ∨ num64 c = 0 then none else
      let x := (((num64 a : Int) - 1) * 64 + ((num64 b : Int) - 1)) * 64 + ((num64 c : Int) - 1)
      if x % 4 = 0 then some [b8 (x / 1024), b8 (x / 4)] else none
  | a :: b :: c :: d :: r => if num64 a = 0 ∨ num64 b = 0 ∨ num64 c = 0 ∨ num64 d = 0 then none else
      let x := ((((num64 a : Int) - 1) * 64 + ((num64 b : Int) - 1)) * 64 + ((num64 c : Int) - 1)) * 64 + ((num64 d : Int) - 1)
      (bytes64 r).map fun l => b8 (x / 65536) :: b8 (x / 256) :: b8 x :: l

theorem num64_lt : ∀ k : Fin 64, num64 (lt64 (k.val : Int)) = k.val + 1 := by decide
theorem num_lt {p : Int} (h0 : 0 ≤ p) (h1 : p < 64) : (num64 (lt64 p) : Int) = p + 1 := by
  obtain ⟨k, rfl⟩ := Int.eq_ofNat_of_zero_le h0
  have := num64_lt ⟨k, by omega⟩
  simp only at this
  rw [this]; omega

theorem bytes_letters : ∀ l : List UInt8, bytes64 (letters l) = some l
  | [] => rfl
  | [a] => by
    have := u8lt a
    have h1 := num_lt (p := (a.toNat : Int) / 4) (by omega) (by omega)
    have h2 := num_lt (p := (a.toNat : Int) % 4 * 16) (by omega) (by omega)
    simp only [letters, bytes64]
    rw [if_neg (by omega), if_pos (by omega)]
    congr 2
    exact b8_of (by omega)
  | [a, b] => by
    have := u8lt a
    have := u8lt b
    have h1 := num_lt (p := (a.toNat : Int) / 4) (by omega) (by omega)
    have h2 := num_lt (p := (a.toNat : Int) % 4 * 16 + (b.toNat : Int) / 16) (by omega) (by omega)
    have h3 := num_lt (p := (b.toNat : Int) % 16 * 4) (by omega) (by omega)
    simp only [letters, bytes64]
    rw [if_neg (by omega), if_pos (by omega), b8_of (x := a) (by omega), b8_of (x := b) (by omega)]
  | a :: b :: c :: r => by
    have := u8lt a
    have := u8lt b
    have := u8lt c
    have h1 := num_lt (p := (a.toNat : Int) / 4) (by omega) (by omega)
    have h2 := num_lt (p := (a.toNat : Int) % 4 * 16 + (b.toNat : Int) / 16) (by omega) (by omega)
    have h3 := num_lt (p := (b.toNat : Int) % 16 * 4 + (c.toNat : Int) / 64) (by omega) (by omega)
    have h4 := num_lt (p := (c.toNat : Int) % 64) (by omega) (by omega)
    simp only [letters, bytes64]
    rw [if_neg (by omega), bytes_letters r, b8_of (x := a) (by omega), b8_of (x := b) (by omega), b8_of (x := c) (by omega)]
    rfl

/-- letters, one byte after another: what was there, its bits -/
def lettersR : Int → Int → List UInt8 → List UInt8
  | have', n, [] => if n > 0 then [lt64 (have' * 2 ^ (6 - n).toNat)] else []
  | h, n, x :: r =>
    let y := h * 256 + x.toNat
    if n = 0 then lt64 (y / 4) :: lettersR (y % 4) 2 r
    else if n = 2 then lt64 (y / 16) :: lettersR (y % 16) 4 r
    else lt64 (y / 64) :: lt64 (y % 64) :: lettersR 0 0 r
theorem lettersR_eq : ∀ l : List UInt8, lettersR 0 0 l = letters l
  | [] => rfl
  | [a] => by
    have := u8lt a
    simp [lettersR, letters]
  | [a, b] => by
    have := u8lt a
    have := u8lt b
    simp [lettersR, letters]
    refine ⟨?_, ?_⟩ <;> congr 1 <;> omega
  | a :: b :: c :: r => by
    have := u8lt a
    have := u8lt b
    have := u8lt c
    have ih := lettersR_eq r
    simp [lettersR, letters, ih]
    refine ⟨?_, ?_, ?_⟩ <;> congr 1 <;> omega

/-- bytes, one letter after another -/
def bytesR : Int → Int → List UInt8 → Option (List UInt8)
  | h, n, [] => if h ≠ 0 then none else some []
  | h, n, x :: r => if num64 x = 0 then none else
    let y := h * 64 + ((num64 x : Int) - 1)
    if n = 0 then bytesR y 6 r
    else if n = 6 then (bytesR (y % 16) 4 r).map (b8 (y / 16) :: ·)
    else if n = 4 then (bytesR (y % 4) 2 r).map (b8 (y / 4) :: ·)
    else (bytesR 0 0 r).map (b8 y :: ·)
def bytesRef (l : List UInt8) : Option (List UInt8) := if l.length % 4 = 1 then none else bytesR 0 0 l
theorem bytesR_eq : ∀ l : List UInt8, bytesRef l = bytes64 l
  | [] => rfl
  | [a] => rfl
  | [a, b] => by
    have := num64_le a
    have := num64_le b
    simp only [bytesRef, bytesR, bytes64, List.length_cons, List.length_nil]
    by_cases ha : num64 a = 0
    · simp [ha]
    by_cases hb : num64 b = 0
    · simp [hb]
    simp [ha, hb]
  | [a, b, c] => by
    have := num64_le a
    have := num64_le b
    have := num64_le c
    simp only [bytesRef, bytesR, bytes64, List.length_cons, List.length_nil]
    by_cases ha : num64 a = 0
    · simp [ha]
    by_cases hb : num64 b = 0
    · simp [hb]
    by_cases hc : num64 c = 0
    · simp [hc]
    simp [ha, hb, hc]
    by_cases hz : ((((num64 a : Int) - 1) * 64 + ((num64 b : Int) - 1)) * 64 + ((num64 c : Int) - 1)) % 4 = 0
    · rw [if_pos hz, if_pos (by omega)]
      simp
      refine ⟨?_, ?_⟩
      · congr 1; omega
      · apply UInt8.toNat_inj.1
        have h1 := b8_val (((((num64 a : Int) - 1) * 64 + ((num64 b : Int) - 1)) % 16 * 64 + ((num64 c : Int) - 1)) / 4)
        have h2 := b8_val (((((num64 a : Int) - 1) * 64 + ((num64 b : Int) - 1)) * 64 + ((num64 c : Int) - 1)) / 4)
        omega
    · rw [if_neg hz, if_neg (by omega)]
  | a :: b :: c :: d :: r => by
    have := num64_le a
    have := num64_le b
    have := num64_le c
    have := num64_le d
    have ih := bytesR_eq r
    unfold bytesRef at ih ⊢
    have hm : (a :: b :: c :: d :: r).length % 4 = r.length % 4 := by simp; omega
    rw [hm]
    simp only [bytesR, bytes64]
    by_cases ha : num64 a = 0
    · simp [ha]
    by_cases hb : num64 b = 0
    · simp [hb]
    by_cases hc : num64 c = 0
    · simp [hc]
    by_cases hd : num64 d = 0
    · simp [hd]
    simp [ha, hb, hc, hd]
    rw [← ih]
    split
    · rfl
    · cases bytesR 0 0 r with
      | none => rfl
      | some l =>
        simp
        refine ⟨?_, ?_, ?_⟩ <;> apply UInt8.toNat_inj.1
        · have h1 := b8_val ((((num64 a : Int) - 1) * 64 + ((num64 b : Int) - 1)) / 16)
          have h2 := b8_val (((((((num64 a : Int) - 1) * 64 + ((num64 b : Int) - 1)) * 64 + ((num64 c : Int) - 1)) * 64 + ((num64 d : Int) - 1))) / 65536)
          omega
        · have h1 := b8_val (((((num64 a : Int) - 1) * 64 + ((num64 b : Int) - 1)) % 16 * 64 + ((num64 c : Int) - 1)) / 4)
          have h2 := b8_val (((((((num64 a : Int) - 1) * 64 + ((num64 b : Int) - 1)) * 64 + ((num64 c : Int) - 1)) * 64 + ((num64 d : Int) - 1))) / 256)
          omega
        · have h1 := b8_val ((((((num64 a : Int) - 1) * 64 + ((num64 b : Int) - 1)) % 16 * 64 + ((num64 c : Int) - 1)) % 4 * 64 + ((num64 d : Int) - 1)))
          have h2 := b8_val ((((((num64 a : Int) - 1) * 64 + ((num64 b : Int) - 1)) * 64 + ((num64 c : Int) - 1)) * 64 + ((num64 d : Int) - 1)))
          omega
end Go.Fw
