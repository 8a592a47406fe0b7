/- What pruning leaves: plain. Of no program. -/
import Derived.Test.YtjfeeiljinbmjaaNf
set_option linter.unusedVariables false
set_option linter.unusedSimpArgs false
namespace Go.Fw
open Go.RowKit

def Ctx.prune (C : Ctx) (p q : Int) : Ctx := ⟨keep p q C.marks, keep p q C.cloud⟩
theorem keep_mem {p q : Int} {l : List Dot} {x : Dot} : x ∈ keep p q l ↔ x ∈ l ∧ ¬ (x.node = p ∧ x.life = q) := by
  rw [keep, List.mem_filter, Bool.not_eq_true', decide_eq_false_iff_not]
theorem markOf_own {p q : Int} : ∀ (l : List Dot), markOf (keep p q l) p q = 0
  | [] => rfl
  | m :: r => by
    by_cases h : m.node = p ∧ m.life = q
    · have : keep p q (m :: r) = keep p q r := by simp [keep, h]
      rw [this, markOf_own r]
    · have : keep p q (m :: r) = m :: keep p q r := by
        rw [keep, List.filter_cons, if_pos (by simp only [Bool.not_eq_true', decide_eq_false_iff_not]; exact h)]; rfl
      rw [this, markOf, if_neg h, markOf_own r]
theorem markOf_other {p q x y : Int} (hxy : ¬ (x = p ∧ y = q)) : ∀ (l : List Dot), markOf (keep p q l) x y = markOf l x y
  | [] => rfl
  | m :: r => by
    by_cases h : m.node = p ∧ m.life = q
    · have : keep p q (m :: r) = keep p q r := by simp [keep, h]
      rw [this, markOf_other hxy r, markOf, if_neg (by omega)]
    · have : keep p q (m :: r) = m :: keep p q r := by
        rw [keep, List.filter_cons, if_pos (by simp only [Bool.not_eq_true', decide_eq_false_iff_not]; exact h)]; rfl
      rw [this, markOf, markOf, markOf_other hxy r]
theorem prune_nf {C : Ctx} (h : Nf C) (p q : Int) : Nf (C.prune p q) :=
  ⟨h.marks.filter _, h.cloud.filter _, fun x hx => h.mayM x (keep_mem.1 hx).1, fun x hx => h.mayC x (keep_mem.1 hx).1, fun x hx => by
    obtain ⟨h1, h2⟩ := keep_mem.1 hx
    show markOf (keep p q C.marks) x.node x.life + 1 < x.count
    rw [markOf_other h2]
    exact h.gap x h1⟩
theorem prune_can {C : Ctx} (h : Nf C) (h1 : C.marks.length ≤ 64) (h2 : C.cloud.length ≤ 64) (p q : Int) : canL (C.prune p q) = true :=
  (canL_iff _).2 ⟨⟨Nat.le_trans (List.length_filter_le _ _) h1, Nat.le_trans (List.length_filter_le _ _) h2⟩, prune_nf h p q⟩
theorem topFrom_own {n p q : Int} : ∀ (l : List Dot), topFrom n p q (keep p q l) = n
  | [] => rfl
  | m :: r => by
    by_cases h : m.node = p ∧ m.life = q
    · have : keep p q (m :: r) = keep p q r := by simp [keep, h]
      rw [this, topFrom_own r]
    · have : keep p q (m :: r) = m :: keep p q r := by
        rw [keep, List.filter_cons, if_pos (by simp only [Bool.not_eq_true', decide_eq_false_iff_not]; exact h)]; rfl
      rw [this, topFrom, if_neg h, topFrom_own r]
theorem prune_top (C : Ctx) (p q : Int) : (C.prune p q).top p q = 0 := by
  show topFrom (markOf (keep p q C.marks) p q) p q (keep p q C.cloud) = 0
  rw [topFrom_own, markOf_own]
theorem markOf_mem : ∀ {l : List Dot} {m : Dot}, l.Pairwise ltM → m ∈ l → markOf l m.node m.life = m.count
  | x :: r, m, h, hm => by
    obtain ⟨h1, h2⟩ := List.pairwise_cons.1 h
    rcases List.mem_cons.1 hm with rfl | hm
    · rw [markOf, if_pos ⟨rfl, rfl⟩]
    · have := h1 m hm
      rw [markOf, if_neg (by simp only [ltM] at this; omega)]
      exact markOf_mem h2 hm
theorem leqM_self {C : Ctx} (h : Nf C) {m : Dot} (hm : m ∈ C.marks) : leqM C m = true :=
  leqM_yes (i := 0) (by rw [markOf_mem h.marks hm]; omega) (by omega) (fun j hj => absurd hj (Nat.not_lt_zero _))
theorem covers_mem {C : Ctx} (h : Nf C) {d : Dot} (hd : d ∈ C.cloud) : C.covers d = true := by
  have := may_lim (h.mayC d hd)
  simp [Ctx.covers, hd, this]
theorem prune_leq {C : Ctx} (h : Nf C) (p q : Int) : leqL (C.prune p q) C = true :=
  leqL_yes (fun x hx => leqM_self h (keep_mem.1 hx).1) (fun x hx => covers_mem h (keep_mem.1 hx).1)
theorem prune_covers {C : Ctx} (p q : Int) (d : Dot) : (C.prune p q).covers d = (C.covers d && !decide (d.node = p ∧ d.life = q)) := by
  have e : (C.prune p q).covers d = true ↔ 1 ≤ d.count ∧ (d.count ≤ markOf (keep p q C.marks) d.node d.life ∨ d ∈ keep p q C.cloud) := by
    rw [Ctx.covers, Bool.and_eq_true, Bool.or_eq_true, decide_eq_true_eq, decide_eq_true_eq, decide_eq_true_eq]; rfl
  have e' : C.covers d = true ↔ 1 ≤ d.count ∧ (d.count ≤ markOf C.marks d.node d.life ∨ d ∈ C.cloud) := by
    rw [Ctx.covers, Bool.and_eq_true, Bool.or_eq_true, decide_eq_true_eq, decide_eq_true_eq, decide_eq_true_eq]
  rw [Bool.eq_iff_iff, Bool.and_eq_true, e, e', Bool.not_eq_true', decide_eq_false_iff_not, keep_mem]
  by_cases h : d.node = p ∧ d.life = q
  · obtain ⟨rfl, rfl⟩ := h
    rw [markOf_own]
    simp
    omega
  · rw [markOf_other h]
    simp [h]
end Go.Fw
