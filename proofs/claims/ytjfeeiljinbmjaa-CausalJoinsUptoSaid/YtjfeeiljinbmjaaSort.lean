/- Rows of the call's own: opened into a block, closed again, sorted by the library. Of no program. -/
import Derived.Test.YtjfeeiljinbmjaaMore4
import Derived.Shelf.GgSortFunc.InsertionK
import Derived.Shelf.SlSortCmp.Insertion
set_option linter.unusedVariables false
set_option linter.unusedSimpArgs false
namespace Go.Fw
open Go.RowKit Go.Sort Go.Proofs Go.Shelf

theorem flat_len {α : Type} {enc : α → List Value} {size : Nat} (he : ∀ x, (enc x).length = size) (l : List α) : (l.flatMap enc).length = l.length * size := by
  induction l with
  | nil => simp
  | cons x r ih => simp [he, ih, Nat.add_mul, Nat.add_comm]
theorem flat_get {α : Type} {enc : α → List Value} {size : Nat} (he : ∀ x, (enc x).length = size) (hs : 0 < size) : ∀ (l : List α) (j : Nat) (x : α), l[j / size]? = some x → (l.flatMap enc)[j]? = (enc x)[j % size]?
  | [], j, x, h => by simp at h
  | y :: r, j, x, h => by
    rw [List.flatMap_cons, List.getElem?_append, he]
    split
    · rename_i hlt
      rw [Nat.div_eq_of_lt hlt] at h
      simp at h
      subst h
      rw [Nat.mod_eq_of_lt hlt]
    · rename_i hge
      have hge' : size ≤ j := by omega
      rw [show j / size = (j - size) / size + 1 from Nat.div_eq_sub_div hs hge'] at h
      rw [Nat.mod_eq_sub_mod hge']
      exact flat_get he hs r (j - size) x (by simpa using h)
theorem flat_take {α : Type} {enc : α → List Value} {size : Nat} (he : ∀ x, (enc x).length = size) : ∀ (l : List α) (m : Nat), (l.flatMap enc).take (m * size) = (l.take m).flatMap enc
  | [], m => by simp
  | x :: r, 0 => by simp
  | x :: r, m + 1 => by
    have h1 : (m + 1) * size = (enc x).length + m * size := by rw [he, Nat.add_mul]; omega
    rw [List.flatMap_cons, h1, List.take_append, List.take_succ_cons, List.flatMap_cons]
    rw [List.take_of_length_le (by omega), show (enc x).length + m * size - (enc x).length = m * size by omega, flat_take he r m]
theorem flat_drop {α : Type} {enc : α → List Value} {size : Nat} (he : ∀ x, (enc x).length = size) : ∀ (l : List α) (m : Nat), (l.flatMap enc).drop (m * size) = (l.drop m).flatMap enc
  | [], m => by simp
  | x :: r, 0 => by simp
  | x :: r, m + 1 => by
    have h1 : (m + 1) * size = (enc x).length + m * size := by rw [he, Nat.add_mul]; omega
    rw [List.flatMap_cons, h1, List.drop_append, List.drop_succ_cons]
    rw [List.drop_eq_nil_of_le (by omega), show (enc x).length + m * size - (enc x).length = m * size by omega, flat_drop he r m]
    simp

section
variable {w0 w w' : World} {L : List Chunk}
/-- A row that has room is a block. -/
theorem Wd.open_row (W : Wd w0 L w) {k e size n cap : Nat} {A : Option Addr} {xs : List Value} (hk : L[k]? = some (.row e size A n cap xs)) (hc : cap ≠ 0) :
    ∃ (g : Nat) (cs : List Value), A = some ⟨g, 0, none⟩ ∧ cs.length = cap * size ∧ n ≤ cap ∧ cap ≤ maxLen ∧ cs.take (n * size) = xs ∧ Wd w0 (L.set k (.blk g (.cells cs.toArray e))) w := by
  have h := W.get hk
  rcases h.2 with ⟨_, h0⟩ | ⟨g, cur, rfl, hp, hB, hg, hn, hm, hcs, ht⟩
  · exact absurd h0 hc
  · exact ⟨g, cur.toList, rfl, by simpa using hcs, hn, hm, ht, W.retell hk ⟨hB, by simpa using hg⟩ fun b hb => ⟨hc, by simp only [Chunk.own] at hb; simp [hb]⟩⟩
theorem Wd.close_row (W : Wd w0 L w) {k e size g : Nat} {cs : List Value} (hk : L[k]? = some (.blk g (.cells cs.toArray e))) (n cap : Nat) (xs : List Value) (hc : cap ≠ 0) (hl : cs.length = cap * size) (hn : n ≤ cap) (hm : cap ≤ maxLen) (ht : cs.take (n * size) = xs) :
    Wd w0 (L.set k (.row e size (some ⟨g, 0, none⟩) n cap xs)) w := by
  have h := W.get hk
  refine W.retell hk ⟨?_, .inr ⟨g, _, rfl, Nat.pos_of_ne_zero hc, h.1, h.2, hn, hm, by simpa using hl, by simpa using ht⟩⟩ fun b hb => ?_
  · subst ht
    have := Nat.mul_le_mul_right size hn
    simp; omega
  · obtain ⟨_, hb⟩ := hb
    simpa [Chunk.own, eq_comm] using hb

/-! ### the library's sort -/
variable {α : Type} [Inhabited α] {enc : α → List Value} {size : Nat}
theorem flatK_list (he : ∀ x, (enc x).length = size) (hs : 0 < size) (l : List α) : (flatK enc size l.toArray).toList = l.flatMap enc := by
  have hl := flat_len he l
  apply List.ext_getElem?
  intro i
  by_cases hi : i < l.length * size
  · have hd : i / size < l.length := (Nat.div_lt_iff_lt_mul hs).2 hi
    have hx : l[i / size]? = some l[i / size] := by simp
    rw [flat_get he hs l i _ hx]
    have hm : i % size < (enc l[i / size]).length := by rw [he]; exact Nat.mod_lt _ hs
    rw [List.getElem?_eq_getElem hm]
    simp only [flatK, Array.getElem?_toList, Array.getElem?_map]
    rw [Array.getElem?_range, if_pos (by simpa using hi)]
    simp [hd, hm]
  · rw [List.getElem?_eq_none (by simp; omega), List.getElem?_eq_none (by omega)]
theorem holdsK_of (W : Wd w0 L w) (he : ∀ x, (enc x).length = size) (hs : 0 < size) {k e cap g : Nat} {l : List α} (hk : L[k]? = some (rowOf e size enc (some ⟨g, 0, none⟩) cap l)) (hc : cap ≠ 0) : HoldsK enc size w g 0 l.toArray ∧ g < w.heap.size := by
  have h := W.get hk
  refine ⟨fun j hj => ?_, (h.lt (b := g) ⟨hc, rfl⟩).2⟩
  rcases h.2 with ⟨_, h0⟩ | ⟨g', cur, hA, hp, hB, hg, hn, hm, hcs, ht⟩
  · exact absurd h0 hc
  · simp only [Option.some.injEq, Addr.mk.injEq, and_true] at hA
    subst hA
    rw [size_flatK] at hj
    have hj' : j < l.length * size := by simpa using hj
    refine ⟨?_, frozen_of_row w g _ _ e hg⟩
    rw [cell_of_row w g (0 + j) cur e (0, 0) hg, Nat.zero_add]
    have e1 : (flatK enc size l.toArray)[j]? = cur[j]? := by
      rw [← Array.getElem?_toList, ← Array.getElem?_toList, flatK_list he hs, ← ht, List.getElem?_take, if_pos hj']
    rw [← e1]
    have : j < (flatK enc size l.toArray).size := by rw [size_flatK]; exact hj
    rw [Array.getElem?_eq_getElem this, getElem!_pos _ j this]; rfl
theorem Wd.sorted (W : Wd w0 L w) (he : ∀ x, (enc x).length = size) (hs : 0 < size) {k e cap g : Nat} {l l' : List α} (hk : L[k]? = some (rowOf e size enc (some ⟨g, 0, none⟩) cap l)) (hc : cap ≠ 0) (hl : l'.length = l.length) (m : Nat) (os : Array Obj) :
    Wd w0 (L.set k (rowOf e size enc (some ⟨g, 0, none⟩) cap l')) (sortWorldK enc size w g 0 m l'.toArray os) := by
  have h := W.get hk
  have hlt := (h.lt (b := g) ⟨hc, rfl⟩).2
  rcases h.2 with ⟨_, h0⟩ | ⟨g', cur, hA, hp, hB, hg, hn, hm, hcs, ht⟩
  · exact absurd h0 hc
  · simp only [Option.some.injEq, Addr.mk.injEq, and_true] at hA
    subst hA
    have hheap : ∀ j, j < w.heap.size → (sortWorldK enc size w g 0 m l'.toArray os).heap[j]? = if g = j then some (.cells (putCells id 0 (flatK enc size l'.toArray) cur) e (0, 0)) else w.heap[j]? := fun j hj => by
      unfold sortWorldK putRowK putRow mapBlock grow Go.Sort.ahead
      simp only
      rw [Array.getElem?_append_left (by simpa using hj), Array.getElem?_modify]
      split
      · rename_i e1
        subst e1
        rw [hg]
        rfl
      · rfl
    have hcl : (l'.flatMap enc).length = l'.length * size := flat_len he l'
    refine W.change hk ⟨rfl, rfl, rfl, by simp [sortWorldK, putRowK, putRow, mapBlock, grow, Go.Sort.ahead], fun j hj hne => ?_, by simp [sortWorldK, putRowK, putRow, mapBlock, grow, Go.Sort.ahead]⟩ ⟨by rw [flat_len he], .inr ⟨g, _, rfl, hp, hB, by rw [hheap g hlt, if_pos rfl], by rw [hl]; exact hn, hm, by simp [putCells, hcs], ?_⟩⟩ fun b hb => .inl hb
    · rw [hheap j hj, if_neg (fun e1 => hne ⟨hc, by simp [e1]⟩)]
    · have hF := flatK_list he hs l'
      have hle : l'.length * size ≤ cur.size := by rw [hcs, hl]; exact Nat.mul_le_mul_right _ hn
      apply List.ext_getElem?
      intro i
      rw [List.getElem?_take]
      split
      · rename_i hi
        rw [Array.getElem?_toList, putCells, Array.getElem?_mapIdx]
        have hF2 : (flatK enc size l'.toArray)[i]? = (l'.flatMap enc)[i]? := by rw [← hF, Array.getElem?_toList]
        rw [Array.getElem?_eq_getElem (by omega)]
        have hsz : i < (flatK enc size l'.toArray).size := by simp; omega
        simp only [Option.map_some, id_eq, Nat.zero_le, Nat.zero_add, true_and, Nat.sub_zero]
        rw [if_pos hsz, ← hF2, Array.getElem?_eq_getElem hsz, getElem!_pos _ i hsz]
      · rename_i hi
        rw [List.getElem?_eq_none (by omega)]
end
end Go.Fw
