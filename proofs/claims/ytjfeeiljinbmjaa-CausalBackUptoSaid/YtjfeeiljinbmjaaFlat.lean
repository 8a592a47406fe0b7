/- Rows as lists of cells: plain. Of no program. -/
import Derived.Test.YtjfeeiljinbmjaaMore4
set_option linter.unusedVariables false
set_option linter.unusedSimpArgs false
namespace Go.Fw
open Go.RowKit
theorem _root_.Go.Proofs.flat_mark : True := trivial

theorem flat_len {α : Type} {enc : α → List Value} {size : Nat} (he : ∀ x, (enc x).length = size) (l : List α) : (l.flatMap enc).length = l.length * size := by
  induction l with
  | nil => simp
  | cons x r ih => simp [he, ih, Nat.add_mul, Nat.add_comm]
theorem flat_get {α : Type} {enc : α → List Value} {size : Nat} (he : ∀ x, (enc x).length = size) (hs : 0 < size) : ∀ (l : List α) (j : Nat) (x : α), l[j / size]? = some x → (l.flatMap enc)[j]? = (enc x)[j % size]?
  | [], j, x, h => by simp at h
  | y :: r, j, x, h => by
    rw [List.flatMap_cons, List.getElem?_append, he]
    split
    · rename_i hlt
      rw [Nat.div_eq_of_lt hlt] at h
      simp at h
      subst h
      rw [Nat.mod_eq_of_lt hlt]
    · rename_i hge
      have hge' : size ≤ j := by omega
      rw [show j / size = (j - size) / size + 1 from Nat.div_eq_sub_div hs hge'] at h
      rw [Nat.mod_eq_sub_mod hge']
      exact flat_get he hs r (j - size) x (by simpa using h)
theorem flat_take {α : Type} {enc : α → List Value} {size : Nat} (he : ∀ x, (enc x).length = size) : ∀ (l : List α) (m : Nat), (l.flatMap enc).take (m * size) = (l.take m).flatMap enc
  | [], m => by simp
  | x :: r, 0 => by simp
  | x :: r, m + 1 => by
    have h1 : (m + 1) * size = (enc x).length + m * size := by rw [he, Nat.add_mul]; omega
    rw [List.flatMap_cons, h1, List.take_append, List.take_succ_cons, List.flatMap_cons]
    rw [List.take_of_length_le (by omega), show (enc x).length + m * size - (enc x).length = m * size by omega, flat_take he r m]
theorem flat_drop {α : Type} {enc : α → List Value} {size : Nat} (he : ∀ x, (enc x).length = size) : ∀ (l : List α) (m : Nat), (l.flatMap enc).drop (m * size) = (l.drop m).flatMap enc
  | [], m => by simp
  | x :: r, 0 => by simp
  | x :: r, m + 1 => by
    have h1 : (m + 1) * size = (enc x).length + m * size := by rw [he, Nat.add_mul]; omega
    rw [List.flatMap_cons, h1, List.drop_append, List.drop_succ_cons]
    rw [List.drop_eq_nil_of_le (by omega), show (enc x).length + m * size - (enc x).length = m * size by omega, flat_drop he r m]
    simp

section
variable {w0 w w' : World} {L : List Chunk}
/-- A row that has room is a block. -/
theorem Wd.open_row (W : Wd w0 L w) {k e size n cap : Nat} {A : Option Addr} {xs : List Value} (hk : L[k]? = some (.row e size A n cap xs)) (hc : cap ≠ 0) :
    ∃ (g : Nat) (cs : List Value), A = some ⟨g, 0, none⟩ ∧ cs.length = cap * size ∧ n ≤ cap ∧ cap ≤ maxLen ∧ cs.take (n * size) = xs ∧ Wd w0 (L.set k (.blk g (.cells cs.toArray e))) w := by
  have h := W.get hk
  rcases h.2 with ⟨_, h0⟩ | ⟨g, cur, rfl, hp, hB, hg, hn, hm, hcs, ht⟩
  · exact absurd h0 hc
  · exact ⟨g, cur.toList, rfl, by simpa using hcs, hn, hm, ht, W.retell hk ⟨hB, by simpa using hg⟩ fun b hb => ⟨hc, by simp only [Chunk.own] at hb; simp [hb]⟩⟩
theorem Wd.close_row (W : Wd w0 L w) {k e size g : Nat} {cs : List Value} (hk : L[k]? = some (.blk g (.cells cs.toArray e))) (n cap : Nat) (xs : List Value) (hc : cap ≠ 0) (hl : cs.length = cap * size) (hn : n ≤ cap) (hm : cap ≤ maxLen) (ht : cs.take (n * size) = xs) :
    Wd w0 (L.set k (.row e size (some ⟨g, 0, none⟩) n cap xs)) w := by
  have h := W.get hk
  refine W.retell hk ⟨?_, .inr ⟨g, _, rfl, Nat.pos_of_ne_zero hc, h.1, h.2, hn, hm, by simpa using hl, by simpa using ht⟩⟩ fun b hb => ?_
  · subst ht
    have := Nat.mul_le_mul_right size hn
    simp; omega
  · obtain ⟨_, hb⟩ := hb
    simpa [Chunk.own, eq_comm] using hb

/-! ### the library's sort -/
end
end Go.Fw
