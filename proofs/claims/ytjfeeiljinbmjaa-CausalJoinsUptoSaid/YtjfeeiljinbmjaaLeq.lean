/- The document's Leq: plain. Of no program. -/
import Derived.Test.YtjfeeiljinbmjaaLat
set_option linter.unusedVariables false
set_option linter.unusedSimpArgs false
namespace Go.Fw
open Go.RowKit

def leqR (A B : Ctx) : Bool := A.marks.all (fun m => decide (m.count ≤ markOf B.marks m.node m.life)) && A.cloud.all B.coversR
theorem coversR_eq {C : Ctx} (hC : Nf C) {d : Dot} (h : mayD d = true) : C.coversR d = C.covers d := by
  have := may_lim h
  unfold Ctx.coversR Ctx.covers
  rw [decide_eq_true (by omega : 1 ≤ d.count)]
  simp
theorem leqR_eq {A B : Ctx} (hA : Nf A) (hB : Nf B) : leqR A B = leqL A B := by
  rw [Bool.eq_iff_iff, leq_covers hA hB]
  unfold leqR
  rw [Bool.and_eq_true, List.all_eq_true, List.all_eq_true]
  constructor
  · rintro ⟨h1, h2⟩ x hx
    rw [covers_iff] at hx
    obtain ⟨h3, h4 | h4⟩ := hx
    · have hp := markOf_pos (l := A.marks) (x := x.node) (y := x.life) (by omega)
      have h5 := of_decide_eq_true (h1 _ hp)
      rw [covers_iff]
      exact ⟨h3, .inl (Int.le_trans h4 h5)⟩
    · rw [← coversR_eq hB (hA.mayC x h4)]
      exact h2 x h4
  · intro h
    refine ⟨fun m hm => decide_eq_true ?_, fun m hm => ?_⟩
    · have hmm := may_lim (hA.mayM m hm)
      refine Int.not_lt.1 fun hlt => ?_
      have h2 := h ⟨m.node, m.life, markOf B.marks m.node m.life + 1⟩ (by
        rw [covers_iff]
        have := (markOf_may (x := m.node) (y := m.life) hB.mayM).1
        exact ⟨by simp only; omega, .inl (by simp only; rw [markOf_mem hA.marks hm]; omega)⟩)
      rw [covers_iff] at h2
      obtain ⟨_, h2 | h2⟩ := h2
      · simp only at h2; omega
      · have := hB.gap _ h2
        simp at this
    · have hmm := may_lim (hA.mayC m hm)
      rw [coversR_eq hB (hA.mayC m hm)]
      exact h m (by rw [covers_iff]; exact ⟨by omega, .inr hm⟩)
theorem leqR_m {A B : Ctx} {k : Nat} {m : Dot} (hm : A.marks[k]? = some m) (h : markOf B.marks m.node m.life < m.count) : leqR A B = false := by
  rw [leqR, (List.all_eq_false.2 ⟨m, List.mem_of_getElem? hm, by simp; omega⟩ : A.marks.all _ = false)]; rfl
theorem leqR_c {A B : Ctx} {k : Nat} {m : Dot} (hm : A.cloud[k]? = some m) (h : B.coversR m = false) : leqR A B = false := by
  rw [leqR, (List.all_eq_false.2 ⟨m, List.mem_of_getElem? hm, by simp [h]⟩ : A.cloud.all B.coversR = false), Bool.and_false]
theorem leqR_yes {A B : Ctx} (h : ∀ x ∈ A.marks, x.count ≤ markOf B.marks x.node x.life) (h' : ∀ x ∈ A.cloud, B.coversR x = true) : leqR A B = true := by
  rw [leqR, List.all_eq_true.2 fun x hx => decide_eq_true (h x hx), List.all_eq_true.2 h']; rfl
end Go.Fw
