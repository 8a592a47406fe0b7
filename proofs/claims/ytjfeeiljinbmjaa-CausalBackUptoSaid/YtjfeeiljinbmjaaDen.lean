/- Which dots the document's context of marks and dots covers. Of no program. -/
import Derived.Test.YtjfeeiljinbmjaaUniq
set_option linter.unusedVariables false
set_option linter.unusedSimpArgs false
namespace Go.Fw
open Go.RowKit

/-- covered by a mark -/
def under (l : List Dot) (x : Dot) : Prop := ∃ m ∈ l, m.node = x.node ∧ m.life = x.life ∧ x.count ≤ m.count
/-- what marks and dots hold -/
def den (l d : List Dot) (x : Dot) : Prop := 1 ≤ x.count ∧ (under l x ∨ x ∈ d)
theorem under_mark {l : List Dot} (h : l.Pairwise ltM) (hm : ∀ m ∈ l, mayD m = true) (x : Dot) (hx : 1 ≤ x.count) : x.count ≤ markOf l x.node x.life ↔ under l x := by
  constructor
  · intro h1
    exact ⟨_, markOf_pos (l := l) (x := x.node) (y := x.life) (by omega), rfl, rfl, h1⟩
  · rintro ⟨m, h1, h2, h3, h4⟩
    have := markOf_mem h h1
    rw [h2, h3] at this
    omega
theorem covers_den {C : Ctx} (h : Nf C) (x : Dot) : C.covers x = true ↔ den C.marks C.cloud x := by
  rw [covers_iff, den]
  constructor
  · rintro ⟨h1, h2⟩
    exact ⟨h1, h2.imp (under_mark h.marks h.mayM x h1).1 id⟩
  · rintro ⟨h1, h2⟩
    exact ⟨h1, h2.imp (under_mark h.marks h.mayM x h1).2 id⟩
theorem under_nil (x : Dot) : ¬ under [] x := by rintro ⟨m, h, _⟩; cases h
theorem under_cons {m : Dot} {l : List Dot} {x : Dot} : under (m :: l) x ↔ (m.node = x.node ∧ m.life = x.life ∧ x.count ≤ m.count) ∨ under l x := by
  constructor
  · rintro ⟨y, h1, h2⟩
    rcases List.mem_cons.1 h1 with rfl | h1
    · exact .inl h2
    · exact .inr ⟨y, h1, h2⟩
  · rintro (h | ⟨y, h1, h2⟩)
    · exact ⟨m, by simp, h⟩
    · exact ⟨y, by simp [h1], h2⟩
theorem under_set {m x : Dot} : ∀ {l : List Dot}, l.Pairwise ltM → (under (setL m false l) x ↔ (m.node = x.node ∧ m.life = x.life ∧ x.count ≤ m.count) ∨ under l x)
  | [], _ => by simp [setL, under_cons, under_nil]
  | y :: r, h => by
    obtain ⟨h1, h2⟩ := List.pairwise_cons.1 h
    unfold setL
    split
    · rename_i hk
      rw [setL_true fun z hz => by have := h1 z hz; simp only [ltM] at *; omega, under_cons, under_cons]
      dsimp only
      by_cases hu : under r x
      · simp [hu]
      · simp only [hu, or_false]; omega
    · split
      · rename_i hk hb
        simp only [Bool.not_false, Bool.true_and, belowC_iff] at hb
        have hmy : ltM m y := by simp only [ltC, ltM] at *; omega
        rw [setL_true fun z hz => ltM_trans hmy (h1 z hz), under_cons]
      · rw [under_cons, under_cons, under_set h2]
        constructor
        · rintro (h | h | h)
          · exact .inr (.inl h)
          · exact .inl h
          · exact .inr (.inr h)
        · rintro (h | h | h)
          · exact .inr (.inl h)
          · exact .inl h
          · exact .inr (.inr h)
theorem mem_ins {m x : Dot} : ∀ {l : List Dot}, l.Pairwise ltC → (x ∈ insL m false l ↔ x = m ∨ x ∈ l)
  | [], _ => by simp [insL]
  | y :: r, h => by
    obtain ⟨h1, h2⟩ := List.pairwise_cons.1 h
    unfold insL
    split
    · rename_i hk
      subst hk
      rw [insL_true h1]
      simp
    · split
      · rename_i hk hb
        simp only [Bool.not_false, Bool.true_and, belowC_iff] at hb
        rw [insL_true fun z hz => ltC_trans hb (h1 z hz)]
        simp
      · rw [List.mem_cons, mem_ins h2, List.mem_cons]
        constructor
        · rintro (h | h | h) <;> simp [h]
        · rintro (h | h | h) <;> simp [h]
theorem under_foldS {x : Dot} : ∀ (l a : List Dot), a.Pairwise ltM → (under (l.foldl (fun a m => setL m false a) a) x ↔ under l x ∨ under a x)
  | [], a, _ => by simp [under_nil]
  | m :: r, a, h => by
    rw [List.foldl_cons, under_foldS r _ (setL_sorted h), under_set h, under_cons]
    constructor
    · rintro (h | h | h) <;> simp [h]
    · rintro ((h | h) | h) <;> simp [h]
theorem under_setF (l : List Dot) (x : Dot) : under (setF l) x ↔ under l x := by
  rw [setF, under_foldS l [] List.Pairwise.nil]; simp [under_nil]
theorem mem_foldI {x : Dot} : ∀ (l a : List Dot), a.Pairwise ltC → (x ∈ l.foldl (fun a m => insL m false a) a ↔ x ∈ l ∨ x ∈ a)
  | [], a, _ => by simp
  | m :: r, a, h => by
    rw [List.foldl_cons, mem_foldI r _ (insL_sorted h), mem_ins h, List.mem_cons]
    constructor
    · rintro (h | h | h) <;> simp [h]
    · rintro ((h | h) | h) <;> simp [h]
theorem mem_insF (l : List Dot) (x : Dot) : x ∈ insF l ↔ x ∈ l := by
  rw [insF, mem_foldI l [] List.Pairwise.nil]; simp
theorem den_settleIn {x : Dot} : ∀ (r m l : List Dot) (b : Bool), m.Pairwise ltM → (∀ y ∈ m, mayD y = true) → (∀ y ∈ r, mayD y = true) → (den (settleIn r m l b).1 (settleIn r m l b).2.1 x ↔ den m (l ++ r) x)
  | [], m, l, b, _, _, _ => by simp [settleIn]
  | d :: r, m, l, b, hm, hmm, hr => by
    have hd := may_lim (hr d (by simp))
    have hr' : ∀ y ∈ r, mayD y = true := fun y hy => hr y (by simp [hy])
    unfold settleIn
    split
    · rename_i h1
      rw [den_settleIn r m l b hm hmm hr']
      have hu := (under_mark hm hmm d (by omega)).1 h1
      simp only [den, List.mem_append, List.mem_cons]
      constructor
      · rintro ⟨h2, h | h | h⟩ <;> simp [h, h2]
      · rintro ⟨h2, h | h | h | h⟩
        · simp [h, h2]
        · simp [h, h2]
        · subst h; exact ⟨h2, .inl hu⟩
        · simp [h, h2]
    · rename_i h1
      split
      · rename_i h3
        rw [den_settleIn r _ l true (setL_sorted hm) (setL_may (hr d (by simp)) hmm) hr']
        simp only [den, List.mem_append, List.mem_cons, under_set hm]
        constructor
        · rintro ⟨h2, (h | h) | h | h⟩
          · refine ⟨h2, ?_⟩
            by_cases he : x.count = d.count
            · right; right; left
              rw [Dot.eq_iff]; omega
            · left
              refine (under_mark hm hmm x h2).1 ?_
              rw [← h.1, ← h.2.1]; omega
          · simp [h, h2]
          · simp [h, h2]
          · simp [h, h2]
        · rintro ⟨h2, h | h | h | h⟩
          · simp [h, h2]
          · simp [h, h2]
          · subst h; exact ⟨h2, .inl (.inl ⟨rfl, rfl, Int.le_refl _⟩)⟩
          · simp [h, h2]
      · rw [den_settleIn r m _ b hm hmm hr']
        simp
theorem den_settled {x : Dot} : ∀ (f : Nat) (m d : List Dot), m.Pairwise ltM → (∀ y ∈ m, mayD y = true) → (∀ y ∈ d, mayD y = true) → (den (settledL f m d).marks (settledL f m d).cloud x ↔ den m d x)
  | 0, m, d, _, _, _ => Iff.rfl
  | f + 1, m, d, hm, hmm, hd => by
    have h1 := den_settleIn (x := x) d m [] false hm hmm hd
    rw [List.nil_append] at h1
    have hmay := settleIn_may (b := false) hd hmm (l := []) (by simp)
    unfold settledL
    split
    · rw [den_settled f _ _ (settleIn_sorted d m [] false hm) hmay.1 hmay.2, h1]
    · exact h1
theorem den_normal {l d : List Dot} (hl : ∀ x ∈ l, mayD x = true) (hd : ∀ x ∈ d, mayD x = true) (x : Dot) : den (settledL ((insF d).length + 1) (setF l) (insF d)).marks (settledL ((insF d).length + 1) (setF l) (insF d)).cloud x ↔ den l d x := by
  rw [den_settled _ _ _ (setF_sorted l) (setF_may hl) (insF_may hd), den, den, under_setF, mem_insF]
end Go.Fw
