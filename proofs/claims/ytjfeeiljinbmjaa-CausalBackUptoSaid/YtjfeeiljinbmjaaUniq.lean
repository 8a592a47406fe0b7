/- A context in its one form is known by the dots that it covers. Of no program. -/
import Derived.Test.YtjfeeiljinbmjaaPruned
set_option linter.unusedVariables false
set_option linter.unusedSimpArgs false
namespace Go.Fw
open Go.RowKit

theorem covers_iff (C : Ctx) (d : Dot) : C.covers d = true ↔ 1 ≤ d.count ∧ (d.count ≤ markOf C.marks d.node d.life ∨ d ∈ C.cloud) := by
  rw [Ctx.covers, Bool.and_eq_true, Bool.or_eq_true, decide_eq_true_eq, decide_eq_true_eq, decide_eq_true_eq]
theorem mem_ext_sorted {α : Type} {R : α → α → Prop} (irr : ∀ a, ¬ R a a) (asym : ∀ a b, R a b → ¬ R b a) : ∀ {l r : List α}, l.Pairwise R → r.Pairwise R → (∀ x, x ∈ l ↔ x ∈ r) → l = r
  | [], [], _, _, _ => rfl
  | [], y :: r, _, _, h => absurd ((h y).2 (by simp)) (by simp)
  | x :: l, [], _, _, h => absurd ((h x).1 (by simp)) (by simp)
  | x :: l, y :: r, hl, hr, h => by
    obtain ⟨h1, h2⟩ := List.pairwise_cons.1 hl
    obtain ⟨h3, h4⟩ := List.pairwise_cons.1 hr
    have e : x = y := by
      rcases List.mem_cons.1 ((h x).1 (by simp)) with e | hx
      · exact e
      · rcases List.mem_cons.1 ((h y).2 (by simp)) with e | hy
        · exact e.symm
        · exact absurd (h1 y hy) (asym y x (h3 x hx))
    subst e
    congr 1
    refine mem_ext_sorted irr asym h2 h4 fun z => ⟨fun hz => ?_, fun hz => ?_⟩
    · rcases List.mem_cons.1 ((h z).1 (by simp [hz])) with rfl | hz'
      · exact absurd (h1 z hz) (irr z)
      · exact hz'
    · rcases List.mem_cons.1 ((h z).2 (by simp [hz])) with rfl | hz'
      · exact absurd (h3 z hz) (irr z)
      · exact hz'
theorem markOf_pos {l : List Dot} {x y : Int} (h : 0 < markOf l x y) : (⟨x, y, markOf l x y⟩ : Dot) ∈ l := by
  induction l with
  | nil => simp [markOf] at h
  | cons m r ih =>
    unfold markOf at h ⊢
    split
    · rename_i hk
      obtain ⟨rfl, rfl⟩ := hk
      simp
    · rename_i hk
      rw [if_neg hk] at h
      exact List.mem_cons_of_mem _ (ih h)
/-- A mark is what is covered without a gap. -/
theorem mark_le {C D : Ctx} (hC : Nf C) (hD : Nf D) (h : ∀ d, C.covers d = true → D.covers d = true) (x y : Int) : markOf C.marks x y ≤ markOf D.marks x y := by
  have hc := markOf_may (x := x) (y := y) hC.mayM
  have hd := markOf_may (x := x) (y := y) hD.mayM
  refine Decidable.byContradiction fun hn => ?_
  have h1 := h ⟨x, y, markOf D.marks x y + 1⟩ ((covers_iff _ _).2 ⟨by dsimp only; omega, .inl (by dsimp only; omega)⟩)
  rcases ((covers_iff _ _).1 h1).2 with h2 | h2
  · dsimp only at h2; omega
  · have := hD.gap _ h2
    dsimp only at this; omega
theorem nf_uniq {C D : Ctx} (hC : Nf C) (hD : Nf D) (h : ∀ d, C.covers d = true ↔ D.covers d = true) : C = D := by
  have hm : ∀ x y, markOf C.marks x y = markOf D.marks x y := fun x y => by
    have h1 := mark_le hC hD (fun d => (h d).1) x y
    have h2 := mark_le hD hC (fun d => (h d).2) x y
    omega
  have e1 : C.marks = D.marks := mem_ext_sorted (R := ltM) (fun a => by simp [ltM]) (fun a b h1 h2 => by simp only [ltM] at *; omega) hC.marks hD.marks fun m => by
    have key : ∀ {A B : Ctx}, Nf A → Nf B → (∀ x y, markOf A.marks x y = markOf B.marks x y) → m ∈ A.marks → m ∈ B.marks := fun {A B} hA hB he hm => by
      have h1 := markOf_mem hA.marks hm
      have h2 := may_lim (hA.mayM m hm)
      have h3 := markOf_pos (l := B.marks) (x := m.node) (y := m.life) (by rw [← he, h1]; omega)
      rw [← he, h1] at h3
      exact h3
    exact ⟨key hC hD hm, key hD hC fun x y => (hm x y).symm⟩
  have e2 : C.cloud = D.cloud := mem_ext_sorted (R := ltC) (fun a => by simp [ltC]) (fun a b h1 h2 => by simp only [ltC] at *; omega) hC.cloud hD.cloud fun d => by
    have key : ∀ {A B : Ctx}, Nf A → (∀ d, A.covers d = true → B.covers d = true) → (∀ x y, markOf A.marks x y = markOf B.marks x y) → d ∈ A.cloud → d ∈ B.cloud := fun {A B} hA he hmk hd => by
      have h1 := hA.gap d hd
      have h2 := may_lim (hA.mayC d hd)
      rcases ((covers_iff _ _).1 (he d (covers_mem hA hd))).2 with h3 | h3
      · rw [← hmk] at h3; omega
      · exact h3
    exact ⟨key hC (fun d => (h d).1) hm, key hD (fun d => (h d).2) fun x y => (hm x y).symm⟩
  cases C; cases D
  simp_all
end Go.Fw
