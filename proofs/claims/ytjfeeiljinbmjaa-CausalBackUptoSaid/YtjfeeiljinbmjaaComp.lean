/- What slices.Compact leaves of a list. Of no program. -/
import Derived.Test.YtjfeeiljinbmjaaRow2
import Derived.Test.YtjfeeiljinbmjaaOwn
set_option linter.unusedVariables false
set_option linter.unusedSimpArgs false
namespace Go.Fw
section
variable {α : Type} [DecidableEq α]
/-- each run of equal elements but once -/
def compactL : List α → List α
  | [] => []
  | [x] => [x]
  | x :: y :: r => if x = y then compactL (y :: r) else x :: compactL (y :: r)
theorem compact_short {l : List α} (h : l.length < 2) : compactL l = l := by
  match l, h with
  | [], _ => rfl
  | [x], _ => rfl
theorem compact_one (l : List α) : compactL (l.take 1) = l.take 1 := by
  cases l with
  | nil => rfl
  | cons x r => simp [compactL]
theorem compact_snoc : ∀ (l : List α) (y x : α), compactL (l ++ [y] ++ [x]) = if y = x then compactL (l ++ [y]) else compactL (l ++ [y]) ++ [x]
  | [], y, x => by simp only [List.nil_append, List.singleton_append, compactL]; split <;> simp_all [compactL]
  | [z], y, x => by
    have := compact_snoc [] y x
    simp only [List.nil_append, List.singleton_append] at this
    simp only [List.cons_append, List.nil_append, compactL] at this ⊢
    by_cases h1 : z = y <;> by_cases h2 : y = x <;> simp_all
  | z :: z' :: r, y, x => by
    have := compact_snoc (z' :: r) y x
    simp only [List.cons_append, compactL] at this ⊢
    rw [this]
    by_cases h1 : z = z' <;> by_cases h2 : y = x <;> simp_all
theorem compact_take {l : List α} {k : Nat} {x y : α} (hx : l[k]? = some x) (hy : l[k - 1]? = some y) (hk : 1 ≤ k) : compactL (l.take (k + 1)) = if y = x then compactL (l.take k) else compactL (l.take k) ++ [x] := by
  obtain ⟨j, rfl⟩ : ∃ j, k = j + 1 := ⟨k - 1, by omega⟩
  simp only [Nat.add_sub_cancel] at hy
  have e1 : l.take (j + 1) = l.take j ++ [y] := by rw [List.take_add_one, hy]; rfl
  have e2 : l.take (j + 1 + 1) = l.take j ++ [y] ++ [x] := by rw [List.take_add_one, hx, e1]; rfl
  rw [e2, e1, compact_snoc]
theorem compact_same {l : List α} {k : Nat} {x : α} (hx : l[k]? = some x) (hy : l[k - 1]? = some x) (hk : 1 ≤ k) : compactL (l.take (k + 1)) = compactL (l.take k) := by
  rw [compact_take hx hy hk, if_pos rfl]
theorem compact_len : ∀ l : List α, (compactL l).length ≤ l.length
  | [] => by simp [compactL]
  | [x] => by simp [compactL]
  | x :: y :: r => by
    have := compact_len (y :: r)
    simp only [compactL]
    split
    · simp at this ⊢; omega
    · simp at this ⊢; omega
theorem compact_mem {x : α} : ∀ l : List α, x ∈ compactL l ↔ x ∈ l
  | [] => by simp [compactL]
  | [y] => by simp [compactL]
  | y :: z :: r => by
    have := compact_mem (x := x) (z :: r)
    simp only [compactL]
    split
    · rename_i h; subst h; rw [this]; simp
    · rw [List.mem_cons, this, List.mem_cons (a := x) (b := y)]
end
end Go.Fw
