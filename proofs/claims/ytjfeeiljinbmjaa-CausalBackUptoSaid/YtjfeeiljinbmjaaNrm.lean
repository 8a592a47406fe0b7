/- The document's context of marks and dots: small laws. Of no program. -/
import Derived.Test.YtjfeeiljinbmjaaData
set_option linter.unusedVariables false
set_option linter.unusedSimpArgs false
namespace Go.Fw
open Go.RowKit

theorem RdCtx.mk' {w : World} {B : Nat} {v1 v2 : Value} {l1 l2 : List Dot} (h1 : Sl Dot.enc 3 w B v1 l1) (h2 : Sl Dot.enc 3 w B v2 l2) : RdCtx w B v1 v2 ⟨l1, l2⟩ := ⟨h1, h2⟩

def setF (l : List Dot) : List Dot := l.foldl (fun a m => setL m false a) []
def insF (l : List Dot) : List Dot := l.foldl (fun a m => insL m false a) []
theorem setF_step {l : List Dot} {k : Nat} {m : Dot} (h : l[k]? = some m) : setF (l.take (k + 1)) = setL m false (setF (l.take k)) := by
  rw [setF, List.take_add_one, h]; simp [setF]
theorem insF_step {l : List Dot} {k : Nat} {m : Dot} (h : l[k]? = some m) : insF (l.take (k + 1)) = insL m false (insF (l.take k)) := by
  rw [insF, List.take_add_one, h]; simp [insF]
theorem fold_len {f : List Dot → Dot → List Dot} (hf : ∀ a m, (f a m).length ≤ a.length + 1) : ∀ (l a : List Dot), (l.foldl f a).length ≤ a.length + l.length
  | [], a => by simp
  | m :: r, a => by
    have h1 := hf a m
    have h2 := fold_len hf r (f a m)
    simp at *; omega
theorem setF_len (l : List Dot) : (setF l).length ≤ l.length := by
  have h := fold_len (f := fun a m => setL m false a) (fun a m => by have := setL_len m a false; simpa using this) l []
  simpa [setF] using h
theorem insF_len (l : List Dot) : (insF l).length ≤ l.length := by
  have h := fold_len (f := fun a m => insL m false a) (fun a m => by have := insL_len m a false; simpa using this) l []
  simpa [insF] using h
theorem fold_may {f : List Dot → Dot → List Dot} (hf : ∀ a m, mayD m = true → (∀ x ∈ a, mayD x = true) → ∀ x ∈ f a m, mayD x = true) : ∀ (l a : List Dot), (∀ x ∈ l, mayD x = true) → (∀ x ∈ a, mayD x = true) → ∀ x ∈ l.foldl f a, mayD x = true
  | [], a, _, ha => ha
  | m :: r, a, hl, ha => fold_may hf r (f a m) (fun x hx => hl x (by simp [hx])) (hf a m (hl m (by simp)) ha)
theorem setF_may {l : List Dot} (h : ∀ x ∈ l, mayD x = true) : ∀ x ∈ setF l, mayD x = true := fold_may (fun a m hm ha => setL_may hm ha) l [] h (by simp)
theorem insF_may {l : List Dot} (h : ∀ x ∈ l, mayD x = true) : ∀ x ∈ insF l, mayD x = true := fold_may (fun a m hm ha => insL_may hm ha) l [] h (by simp)
theorem all_step {l : List Dot} {k : Nat} {m : Dot} (hm : l[k]? = some m) (h : ∀ x ∈ l.take k, mayD x = true) (h1 : mayD m = true) : ∀ x ∈ l.take (k + 1), mayD x = true := fun x hx => by
  rw [List.take_add_one, hm] at hx
  rcases List.mem_append.1 hx with hx | hx
  · exact h x hx
  · simp at hx; rw [hx]; exact h1
theorem not_all {l : List Dot} {k : Nat} {m : Dot} (hm : l[k]? = some m) (h : mayD m = false) : l.all mayD = false := by
  rw [List.all_eq_false]
  exact ⟨m, List.mem_of_getElem? hm, by simp [h]⟩
theorem normalL_bad1 {l d : List Dot} {k : Nat} {m : Dot} (hm : l[k]? = some m) (h : mayD m = false) : normalL l d = (⟨[], []⟩, 1) := by
  rw [normalL, if_pos (by rw [not_all hm h]; rfl)]
theorem normalL_bad2 {l d : List Dot} {k : Nat} {m : Dot} (hm : d[k]? = some m) (h : mayD m = false) : normalL l d = (⟨[], []⟩, 1) := by
  rw [normalL, if_pos (by rw [not_all hm h]; simp)]
theorem normalL_ok {l d : List Dot} (hl : ∀ x ∈ l, mayD x = true) (hd : ∀ x ∈ d, mayD x = true) : normalL l d = if 64 < (settledL ((insF d).length + 1) (setF l) (insF d)).marks.length ∨ 64 < (settledL ((insF d).length + 1) (setF l) (insF d)).cloud.length then (⟨[], []⟩, 4) else (settledL ((insF d).length + 1) (setF l) (insF d), 0) := by
  rw [normalL, if_neg (by rw [List.all_eq_true.2 hl, List.all_eq_true.2 hd]; simp)]
  rfl
/-- What comes out may be, all of it, and is no longer than a context may be. -/
theorem normalL_may (l d : List Dot) : (∀ x ∈ (normalL l d).1.marks, mayD x = true) ∧ (∀ x ∈ (normalL l d).1.cloud, mayD x = true) ∧ (normalL l d).1.marks.length ≤ 64 ∧ (normalL l d).1.cloud.length ≤ 64 := by
  by_cases h1 : (∀ x ∈ l, mayD x = true) ∧ ∀ x ∈ d, mayD x = true
  · rw [normalL_ok h1.1 h1.2]
    split
    · simp
    · rename_i h
      have := settledL_may (f := (insF d).length + 1) (setF_may h1.1) (insF_may h1.2)
      exact ⟨this.1, this.2, by dsimp only; omega, by dsimp only; omega⟩
  · rw [normalL, if_pos (by
      rw [Bool.or_eq_true, Bool.not_eq_true', Bool.not_eq_true', ← Bool.not_eq_true, ← Bool.not_eq_true, List.all_eq_true, List.all_eq_true]
      exact Decidable.not_and_iff_or_not.1 h1)]
    simp
theorem Sl.of_blk {α : Type} {enc : α → List Value} {size cap k g : Nat} {w w0 : World} {L : List Chunk} {cs : List Value} {e : TypeId} {fr : Nat × Nat} (l : List α) (W : Wd w0 L w) (hk : L[k]? = some (.blk g (.cells cs.toArray e fr))) (hc : cs = l.flatMap enc) (he : ∀ x, (enc x).length = size) (h1 : l.length ≤ cap) (h2 : cap ≤ 9223372036854775807) :
    Sl enc size w w.heap.size (.slice (some ⟨g, 0, none⟩) l.length cap) l := by
  have h := (W.get hk).2
  refine ⟨_, cap, rfl, h1, h2, fun _ => ⟨g, 0, rfl, (Array.getElem?_eq_some_iff.1 h).1, fun i x hx j u hu => ?_⟩⟩
  rw [Nat.zero_add, cell_of_row w g _ _ e fr h]
  subst hc
  simpa using flat_at he hu _ _ hx
theorem Sl.nil_ {α : Type} {enc : α → List Value} {size B : Nat} {w : World} : Sl enc size w B (.slice none 0 0) [] := ⟨none, 0, rfl, Nat.le_refl _, by omega, fun h => absurd h (by simp)⟩
theorem covers_eq {C : Ctx} (h : ∀ m ∈ C.cloud, 1 ≤ m.count) (d : Dot) : C.covers d = C.coversR d := by
  unfold Ctx.covers Ctx.coversR
  by_cases h1 : d ∈ C.cloud
  · have := h d h1
    simp [h1, this]
  · simp [h1]
theorem normalL_facts (l d : List Dot) : (∀ m ∈ (normalL l d).1.marks, 0 ≤ m.count ∧ m.count ≤ 1099511627776) ∧ (∀ m ∈ (normalL l d).1.cloud, 1 ≤ m.count) ∧ (normalL l d).1.marks.length ≤ 64 ∧ (normalL l d).1.cloud.length ≤ 64 := by
  obtain ⟨h1, h2, h3, h4⟩ := normalL_may l d
  refine ⟨fun m hm => ?_, fun m hm => ?_, h3, h4⟩
  · have := h1 m hm
    simp [mayD] at this; omega
  · have := h2 m hm
    simp [mayD] at this; omega
end Go.Fw
