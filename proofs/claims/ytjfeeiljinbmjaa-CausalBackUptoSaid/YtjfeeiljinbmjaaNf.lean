/- The one form of a context: that the document's is in it, and what pruning leaves. Of no program. -/
import Derived.Test.YtjfeeiljinbmjaaCan
set_option linter.unusedVariables false
set_option linter.unusedSimpArgs false
namespace Go.Fw
open Go.RowKit

def ltM (a b : Dot) : Prop := a.node < b.node ∨ (a.node = b.node ∧ a.life < b.life)
def ltC (a b : Dot) : Prop := a.node < b.node ∨ (a.node = b.node ∧ (a.life < b.life ∨ (a.life = b.life ∧ a.count < b.count)))
theorem orderM_iff (a b : Dot) : orderD a.nl b.nl < 0 ↔ ltM a b := by
  simp only [orderD, ltM, Dot.nl]
  split
  · omega
  · split <;> omega
theorem orderC_iff (a b : Dot) : orderD a b < 0 ↔ ltC a b := by
  simp only [orderD, ltC]
  split
  · omega
  · split <;> omega
theorem belowC_iff (a b : Dot) : belowD a b = true ↔ ltC a b := by
  simp only [belowD, ltC]
  split
  · simp; omega
  · split <;> simp <;> omega
theorem ltM_trans {a b c : Dot} (h : ltM a b) (h' : ltM b c) : ltM a c := by
  simp only [ltM] at *; omega
theorem ltC_trans {a b c : Dot} (h : ltC a b) (h' : ltC b c) : ltC a c := by
  simp only [ltC] at *; omega

theorem okM_iff : ∀ (l : List Dot) (p : Option Dot), okM p l = true ↔ (∀ x ∈ l, mayD x = true) ∧ l.Pairwise ltM ∧ ∀ x, p = some x → ∀ y ∈ l, ltM x y
  | [], p => by simp [okM]
  | m :: r, p => by
    rw [okM, Bool.and_eq_true, Bool.and_eq_true, okM_iff r (some m)]
    have hg : gapM p m = true ↔ ∀ x, p = some x → ltM x m := by
      cases p with
      | none => simp [gapM]
      | some x => simp [gapM, orderM_iff]
    rw [hg]
    constructor
    · rintro ⟨⟨h1, h2⟩, h3, h4, h5⟩
      refine ⟨fun x hx => ?_, List.pairwise_cons.2 ⟨fun y hy => h5 m rfl y hy, h4⟩, fun x hx y hy => ?_⟩
      · rcases List.mem_cons.1 hx with rfl | hx
        · exact h1
        · exact h3 x hx
      · rcases List.mem_cons.1 hy with rfl | hy
        · exact h2 x hx
        · exact ltM_trans (h2 x hx) (h5 m rfl y hy)
    · rintro ⟨h1, h2, h3⟩
      have h4 := List.pairwise_cons.1 h2
      exact ⟨⟨h1 m (by simp), fun x hx => h3 x hx m (by simp)⟩, fun x hx => h1 x (by simp [hx]), h4.2, fun x hx y hy => by cases hx; exact h4.1 y hy⟩
theorem okC_iff (ms : List Dot) : ∀ (l : List Dot) (p : Option Dot), okC ms p l = true ↔ (∀ x ∈ l, mayD x = true ∧ markOf ms x.node x.life + 1 < x.count) ∧ l.Pairwise ltC ∧ ∀ x, p = some x → ∀ y ∈ l, ltC x y
  | [], p => by simp [okC]
  | m :: r, p => by
    rw [okC, Bool.and_eq_true, Bool.and_eq_true, Bool.and_eq_true, okC_iff ms r (some m), decide_eq_true_eq]
    have hg : gapC p m = true ↔ ∀ x, p = some x → ltC x m := by
      cases p with
      | none => simp [gapC]
      | some x => simp [gapC, orderC_iff]
    rw [hg]
    constructor
    · rintro ⟨⟨⟨h1, h2⟩, h6⟩, h3, h4, h5⟩
      refine ⟨fun x hx => ?_, List.pairwise_cons.2 ⟨fun y hy => h5 m rfl y hy, h4⟩, fun x hx y hy => ?_⟩
      · rcases List.mem_cons.1 hx with rfl | hx
        · exact ⟨h1, h6⟩
        · exact h3 x hx
      · rcases List.mem_cons.1 hy with rfl | hy
        · exact h2 x hx
        · exact ltC_trans (h2 x hx) (h5 m rfl y hy)
    · rintro ⟨h1, h2, h3⟩
      have h4 := List.pairwise_cons.1 h2
      exact ⟨⟨⟨(h1 m (by simp)).1, fun x hx => h3 x hx m (by simp)⟩, (h1 m (by simp)).2⟩, fun x hx => h1 x (by simp [hx]), h4.2, fun x hx y hy => by cases hx; exact h4.1 y hy⟩

/-- The one form. -/
structure Nf (C : Ctx) : Prop where
  marks : C.marks.Pairwise ltM
  cloud : C.cloud.Pairwise ltC
  mayM : ∀ x ∈ C.marks, mayD x = true
  mayC : ∀ x ∈ C.cloud, mayD x = true
  gap : ∀ x ∈ C.cloud, markOf C.marks x.node x.life + 1 < x.count
theorem canL_iff (C : Ctx) : canL C = true ↔ (C.marks.length ≤ 64 ∧ C.cloud.length ≤ 64) ∧ Nf C := by
  rw [canL, Bool.and_eq_true, Bool.and_eq_true, decide_eq_true_eq, okM_iff, okC_iff]
  constructor
  · rintro ⟨⟨h1, h2, h3, _⟩, h4, h5, _⟩
    exact ⟨h1, h3, h5, h2, fun x hx => (h4 x hx).1, fun x hx => (h4 x hx).2⟩
  · rintro ⟨h1, h2, h3, h4, h5, h6⟩
    exact ⟨⟨h1, h4, h2, fun x hx => by cases hx⟩, fun x hx => ⟨h5 x hx, h6 x hx⟩, h3, fun x hx => by cases hx⟩

theorem setL_true {m : Dot} : ∀ {l : List Dot}, (∀ x ∈ l, ltM m x) → setL m true l = l
  | [], _ => by simp [setL]
  | x :: r, h => by
    have h1 := h x (by simp)
    rw [setL, if_neg (by simp only [ltM] at h1; omega), if_neg (by simp), setL_true fun y hy => h y (by simp [hy])]
theorem setL_mem {m : Dot} : ∀ {l : List Dot} {put : Bool} {y : Dot}, y ∈ setL m put l → (y.node = m.node ∧ y.life = m.life) ∨ y ∈ l
  | [], put, y, h => by cases put <;> simp [setL] at h; rw [h]; simp
  | x :: r, put, y, h => by
    unfold setL at h
    split at h
    · rename_i hk
      rcases List.mem_cons.1 h with rfl | h
      · exact .inl hk
      · exact (setL_mem h).imp id (fun h => by simp [h])
    · split at h
      · rcases List.mem_cons.1 h with rfl | h
        · simp
        · rcases List.mem_cons.1 h with rfl | h
          · simp
          · exact (setL_mem h).imp id (fun h => by simp [h])
      · rcases List.mem_cons.1 h with rfl | h
        · simp
        · exact (setL_mem h).imp id (fun h => by simp [h])
theorem setL_sorted {m : Dot} : ∀ {l : List Dot}, l.Pairwise ltM → (setL m false l).Pairwise ltM
  | [], _ => by simp [setL]
  | x :: r, h => by
    obtain ⟨h1, h2⟩ := List.pairwise_cons.1 h
    unfold setL
    split
    · rename_i hk
      rw [setL_true fun y hy => by have := h1 y hy; simp only [ltM] at *; omega]
      exact List.pairwise_cons.2 ⟨fun y hy => by have := h1 y hy; simp only [ltM] at *; omega, h2⟩
    · split
      · rename_i hk hb
        simp only [Bool.not_false, Bool.true_and, belowC_iff] at hb
        have hmx : ltM m x := by simp only [ltC, ltM] at *; omega
        rw [setL_true fun y hy => ltM_trans hmx (h1 y hy)]
        exact List.pairwise_cons.2 ⟨fun y hy => by
          rcases List.mem_cons.1 hy with rfl | hy
          · exact hmx
          · exact ltM_trans hmx (h1 y hy), h⟩
      · rename_i hk hb
        simp only [Bool.not_false, Bool.true_and, belowC_iff] at hb
        refine List.pairwise_cons.2 ⟨fun y hy => ?_, setL_sorted h2⟩
        rcases setL_mem hy with hy | hy
        · simp only [ltC, ltM] at *; omega
        · exact h1 y hy
theorem insL_true {m : Dot} : ∀ {l : List Dot}, (∀ x ∈ l, ltC m x) → insL m true l = l
  | [], _ => by simp [insL]
  | x :: r, h => by
    have h1 := h x (by simp)
    rw [insL, if_neg (by rintro rfl; simp only [ltC] at h1; omega), if_neg (by simp), insL_true fun y hy => h y (by simp [hy])]
theorem insL_mem {m : Dot} : ∀ {l : List Dot} {put : Bool} {y : Dot}, y ∈ insL m put l → y = m ∨ y ∈ l
  | [], put, y, h => by cases put <;> simp [insL] at h; rw [h]; simp
  | x :: r, put, y, h => by
    unfold insL at h
    split at h
    · rcases List.mem_cons.1 h with rfl | h
      · simp
      · exact (insL_mem h).imp id (fun h => by simp [h])
    · split at h
      · rcases List.mem_cons.1 h with rfl | h
        · simp
        · rcases List.mem_cons.1 h with rfl | h
          · simp
          · exact (insL_mem h).imp id (fun h => by simp [h])
      · rcases List.mem_cons.1 h with rfl | h
        · simp
        · exact (insL_mem h).imp id (fun h => by simp [h])
theorem insL_sorted {m : Dot} : ∀ {l : List Dot}, l.Pairwise ltC → (insL m false l).Pairwise ltC
  | [], _ => by simp [insL]
  | x :: r, h => by
    obtain ⟨h1, h2⟩ := List.pairwise_cons.1 h
    unfold insL
    split
    · rename_i hk
      subst hk
      rw [insL_true h1]
      exact h
    · split
      · rename_i hk hb
        simp only [Bool.not_false, Bool.true_and, belowC_iff] at hb
        rw [insL_true fun y hy => ltC_trans hb (h1 y hy)]
        exact List.pairwise_cons.2 ⟨fun y hy => by
          rcases List.mem_cons.1 hy with rfl | hy
          · exact hb
          · exact ltC_trans hb (h1 y hy), h⟩
      · rename_i hk hb
        simp only [Bool.not_false, Bool.true_and, belowC_iff] at hb
        refine List.pairwise_cons.2 ⟨fun y hy => ?_, insL_sorted h2⟩
        rcases insL_mem hy with rfl | hy
        · rw [Dot.eq_iff] at hk
          simp only [ltC] at *; omega
        · exact h1 y hy
theorem fold_inv {f : List Dot → Dot → List Dot} {I : List Dot → Prop} (hf : ∀ a m, I a → I (f a m)) : ∀ (l a : List Dot), I a → I (l.foldl f a)
  | [], a, h => h
  | m :: r, a, h => fold_inv hf r _ (hf a m h)
theorem setF_sorted (l : List Dot) : (setF l).Pairwise ltM := fold_inv (I := fun a => a.Pairwise ltM) (fun a m h => setL_sorted h) l [] List.Pairwise.nil
theorem insF_sorted (l : List Dot) : (insF l).Pairwise ltC := fold_inv (I := fun a => a.Pairwise ltC) (fun a m h => insL_sorted h) l [] List.Pairwise.nil

theorem settleIn_sub : ∀ (r m l : List Dot) (b : Bool), ∃ s, s.Sublist r ∧ (settleIn r m l b).2.1 = l ++ s
  | [], m, l, b => ⟨[], List.Sublist.refl _, by simp [settleIn]⟩
  | d :: r, m, l, b => by
    unfold settleIn
    split
    · obtain ⟨s, h1, h2⟩ := settleIn_sub r m l b
      exact ⟨s, h1.cons _, h2⟩
    · split
      · obtain ⟨s, h1, h2⟩ := settleIn_sub r (setL d false m) l true
        exact ⟨s, h1.cons _, h2⟩
      · obtain ⟨s, h1, h2⟩ := settleIn_sub r m (l ++ [d]) b
        exact ⟨d :: s, h1.cons_cons _, by rw [h2]; simp⟩
theorem settleIn_sorted : ∀ (r m l : List Dot) (b : Bool), m.Pairwise ltM → (settleIn r m l b).1.Pairwise ltM
  | [], m, l, b, h => h
  | d :: r, m, l, b, h => by
    unfold settleIn
    split
    · exact settleIn_sorted r m l b h
    · split
      · exact settleIn_sorted r _ l true (setL_sorted h)
      · exact settleIn_sorted r m _ b h
theorem settleIn_true : ∀ (r m l : List Dot), (settleIn r m l true).2.2 = true
  | [], m, l => rfl
  | d :: r, m, l => by
    unfold settleIn
    split
    · exact settleIn_true r m l
    · split
      · exact settleIn_true r _ l
      · exact settleIn_true r m _
theorem settleIn_still : ∀ (r m l : List Dot), (settleIn r m l false).2.2 = false → (settleIn r m l false).1 = m ∧ ∀ x ∈ (settleIn r m l false).2.1, x ∈ l ∨ markOf m x.node x.life + 1 < x.count
  | [], m, l, _ => ⟨rfl, fun x hx => .inl hx⟩
  | d :: r, m, l, h => by
    unfold settleIn at h ⊢
    split
    · rename_i h1
      rw [if_pos h1] at h
      exact settleIn_still r m l h
    · rename_i h1
      rw [if_neg h1] at h
      split
      · rename_i h2
        rw [if_pos h2, settleIn_true] at h
        cases h
      · rename_i h2
        rw [if_neg h2] at h
        obtain ⟨h3, h4⟩ := settleIn_still r m _ h
        refine ⟨h3, fun x hx => ?_⟩
        rcases h4 x hx with h5 | h5
        · rcases List.mem_append.1 h5 with h5 | h5
          · exact .inl h5
          · simp at h5; subst h5; right; omega
        · exact .inr h5
theorem settledL_nf : ∀ (f : Nat) (m d : List Dot), d.length < f → m.Pairwise ltM → d.Pairwise ltC → (∀ x ∈ m, mayD x = true) → (∀ x ∈ d, mayD x = true) → Nf (settledL f m d)
  | 0, m, d, h, _, _, _, _ => absurd h (Nat.not_lt_zero _)
  | f + 1, m, d, h, hm, hd, hmm, hmd => by
    obtain ⟨s, hs, he⟩ := settleIn_sub d m [] false
    have hmay := settleIn_may (b := false) hmd hmm (l := []) (by simp)
    have hlen := (settleIn_len d m [] false).2.1 rfl
    have hso := settleIn_sorted d m [] false hm
    have hst := settleIn_still d m []
    rw [settledL]
    rw [List.nil_append] at he
    split
    · rename_i ha
      have := hlen ha
      simp only [List.length_nil] at this
      exact settledL_nf f _ _ (by omega) hso (by rw [he]; exact hd.sublist hs) hmay.1 hmay.2
    · rename_i ha
      obtain ⟨h1, h2⟩ := hst (by simpa using ha)
      refine ⟨hso, by dsimp only; rw [he]; exact hd.sublist hs, hmay.1, hmay.2, fun x hx => ?_⟩
      dsimp only at hx ⊢
      rw [h1]
      exact (h2 x hx).resolve_left (by simp)
theorem normalL_nf (l d : List Dot) : Nf (normalL l d).1 := by
  have h0 : Nf ⟨[], []⟩ := ⟨List.Pairwise.nil, List.Pairwise.nil, by simp, by simp, by simp⟩
  by_cases h1 : (∀ x ∈ l, mayD x = true) ∧ ∀ x ∈ d, mayD x = true
  · rw [normalL_ok h1.1 h1.2]
    split
    · exact h0
    · exact settledL_nf _ _ _ (Nat.lt_succ_self _) (setF_sorted l) (insF_sorted d) (setF_may h1.1) (insF_may h1.2)
  · rw [normalL, if_pos (by
      rw [Bool.or_eq_true, Bool.not_eq_true', Bool.not_eq_true', ← Bool.not_eq_true, ← Bool.not_eq_true, List.all_eq_true, List.all_eq_true]
      exact Decidable.not_and_iff_or_not.1 h1)]
    exact h0
end Go.Fw
