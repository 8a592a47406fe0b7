/- Contexts joined: the document's words, and that they are a lattice. Plain. Of no program. -/
import Derived.Test.YtjfeeiljinbmjaaGrow
set_option linter.unusedVariables false
set_option linter.unusedSimpArgs false
namespace Go.Fw
open Go.RowKit

/-- both together -/
def uniC (A B : Ctx) : Ctx := settledL ((insF (A.cloud ++ B.cloud)).length + 1) (setF (A.marks ++ B.marks)) (insF (A.cloud ++ B.cloud))
def joinL (A B : Ctx) : Ctx × Int := if !canL A || !canL B then (⟨[], []⟩, 30) else normalL (A.marks ++ B.marks) (A.cloud ++ B.cloud)
def addL (C : Ctx) (d : Dot) : Ctx × Int := if !canL C then (⟨[], []⟩, 30) else if !mayD d then (⟨[], []⟩, 1) else normalL C.marks (C.cloud ++ [d])

theorem can_nf {C : Ctx} (h : canL C = true) : Nf C := ((canL_iff C).1 h).2
theorem can_len {C : Ctx} (h : canL C = true) : C.marks.length ≤ 64 ∧ C.cloud.length ≤ 64 := ((canL_iff C).1 h).1
theorem normal_can (l d : List Dot) : canL (normalL l d).1 = true := (canL_iff _).2 ⟨⟨(normalL_facts l d).2.2.1, (normalL_facts l d).2.2.2⟩, normalL_nf l d⟩

section
variable {A B C : Ctx} (hA : Nf A) (hB : Nf B)
include hA hB
theorem uni_may : (∀ x ∈ A.marks ++ B.marks, mayD x = true) ∧ ∀ x ∈ A.cloud ++ B.cloud, mayD x = true :=
  ⟨fun x hx => (List.mem_append.1 hx).elim (hA.mayM x) (hB.mayM x), fun x hx => (List.mem_append.1 hx).elim (hA.mayC x) (hB.mayC x)⟩
theorem uni_nf : Nf (uniC A B) := by
  obtain ⟨h1, h2⟩ := uni_may hA hB
  exact settledL_nf _ _ _ (by omega) (setF_sorted _) (insF_sorted _) (setF_may h1) (insF_may h2)
theorem uni_covers (x : Dot) : (uniC A B).covers x = true ↔ A.covers x = true ∨ B.covers x = true := by
  obtain ⟨h1, h2⟩ := uni_may hA hB
  rw [covers_den (uni_nf hA hB), covers_den hA, covers_den hB]
  unfold uniC
  rw [den_normal h1 h2]
  unfold den under
  simp only [List.mem_append]
  constructor
  · rintro ⟨h, ⟨m, hm | hm, k⟩ | h3 | h3⟩
    · exact .inl ⟨h, .inl ⟨m, hm, k⟩⟩
    · exact .inr ⟨h, .inl ⟨m, hm, k⟩⟩
    · exact .inl ⟨h, .inr h3⟩
    · exact .inr ⟨h, .inr h3⟩
  · rintro (⟨h, ⟨m, hm, k⟩ | h3⟩ | ⟨h, ⟨m, hm, k⟩ | h3⟩)
    · exact ⟨h, .inl ⟨m, .inl hm, k⟩⟩
    · exact ⟨h, .inr (.inl h3)⟩
    · exact ⟨h, .inl ⟨m, .inr hm, k⟩⟩
    · exact ⟨h, .inr (.inr h3)⟩
theorem uni_comm : uniC A B = uniC B A := nf_uniq (uni_nf hA hB) (uni_nf hB hA) fun x => by
  rw [uni_covers hA hB, uni_covers hB hA]; exact Or.comm
theorem uni_assoc (hC : Nf C) : uniC (uniC A B) C = uniC A (uniC B C) := nf_uniq (uni_nf (uni_nf hA hB) hC) (uni_nf hA (uni_nf hB hC)) fun x => by
  rw [uni_covers (uni_nf hA hB) hC, uni_covers hA hB, uni_covers hA (uni_nf hB hC), uni_covers hB hC]; exact or_assoc
theorem uni_le_iff : uniC A B = B ↔ ∀ x, A.covers x = true → B.covers x = true := by
  constructor
  · intro h x hx
    rw [← h, uni_covers hA hB]
    exact .inl hx
  · intro h
    exact nf_uniq (uni_nf hA hB) hB fun x => by
      rw [uni_covers hA hB]
      exact ⟨fun k => k.elim (h x) id, .inr⟩
end
theorem uni_same {A : Ctx} (hA : Nf A) : uniC A A = A := (uni_le_iff hA hA).2 fun _ h => h

theorem leq_covers {A B : Ctx} (hA : Nf A) (hB : Nf B) : leqL A B = true ↔ ∀ x, A.covers x = true → B.covers x = true := by
  unfold leqL
  rw [Bool.and_eq_true, List.all_eq_true, List.all_eq_true]
  constructor
  · rintro ⟨h1, h2⟩ x hx
    rw [covers_iff] at hx
    obtain ⟨h3, h4 | h4⟩ := hx
    · have hp := markOf_pos (l := A.marks) (x := x.node) (y := x.life) (by omega)
      have h5 := h1 _ hp
      unfold leqM at h5
      rw [Bool.and_eq_true, decide_eq_true_eq, List.all_eq_true] at h5
      obtain ⟨h5, h6⟩ := h5
      simp only at h5 h6
      rw [covers_iff]
      refine ⟨h3, .inl ?_⟩
      refine Int.le_trans h4 (Int.not_lt.1 fun hlt => ?_)
      have h7 := h6 0 (by simp; omega)
      simp only [decide_eq_true_eq] at h7
      have h8 := hB.gap _ h7
      simp at h8
    · exact h2 x h4
  · intro h
    refine ⟨fun m hm => ?_, fun m hm => ?_⟩
    · have hmm := hA.mayM m hm
      simp only [mayD, decide_eq_true_eq] at hmm
      have h1 := h m (by rw [covers_iff]; exact ⟨by omega, .inl (by rw [markOf_mem hA.marks hm]; omega)⟩)
      rw [covers_iff] at h1
      have hle : m.count ≤ markOf B.marks m.node m.life := by
        refine Int.not_lt.1 fun hlt => ?_
        have h2 := h ⟨m.node, m.life, markOf B.marks m.node m.life + 1⟩ (by
          rw [covers_iff]
          have := (markOf_may (x := m.node) (y := m.life) hB.mayM).1
          exact ⟨by simp only; omega, .inl (by simp only; rw [markOf_mem hA.marks hm]; omega)⟩)
        rw [covers_iff] at h2
        obtain ⟨_, h2 | h2⟩ := h2
        · simp only at h2; omega
        · have := hB.gap _ h2
          simp at this
      unfold leqM
      rw [Bool.and_eq_true, decide_eq_true_eq, List.all_eq_true]
      refine ⟨by omega, fun i hi => ?_⟩
      simp at hi
      omega
    · have hmm := hA.mayC m hm
      simp only [mayD, decide_eq_true_eq] at hmm
      exact h m (by rw [covers_iff]; exact ⟨by omega, .inr hm⟩)

/-- may it be as long as that? -/
def bigC (C : Ctx) : Bool := decide (64 < C.marks.length ∨ 64 < C.cloud.length)
theorem join_uni {A B : Ctx} (hA : canL A = true) (hB : canL B = true) : joinL A B = if bigC (uniC A B) then (⟨[], []⟩, 4) else (uniC A B, 0) := by
  obtain ⟨h1, h2⟩ := uni_may (can_nf hA) (can_nf hB)
  unfold joinL
  rw [hA, hB, if_neg (by simp), normalL_ok h1 h2]
  unfold bigC uniC
  simp only [decide_eq_true_eq]
theorem uni_can {A B : Ctx} (hA : canL A = true) (hB : canL B = true) (h : bigC (uniC A B) = false) : canL (uniC A B) = true := by
  unfold bigC at h
  simp only [decide_eq_false_iff_not] at h
  exact (canL_iff _).2 ⟨by omega, uni_nf (can_nf hA) (can_nf hB)⟩
theorem small_can {A : Ctx} (hA : canL A = true) : bigC A = false := by
  have := can_len hA
  unfold bigC
  simp only [decide_eq_false_iff_not]
  omega
end Go.Fw
