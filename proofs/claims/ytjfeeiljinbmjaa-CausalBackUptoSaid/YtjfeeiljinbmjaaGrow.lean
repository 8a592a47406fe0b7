/- The program's way to the context of marks and dots: sorted, one dot after another. Plain. Of no program. -/
import Derived.Test.YtjfeeiljinbmjaaDen
import Derived.Test.YtjfeeiljinbmjaaComp
set_option linter.unusedVariables false
set_option linter.unusedSimpArgs false
namespace Go.Fw
open Go.RowKit

/-- a ≤ b, as dots stand in order -/
def leC (a b : Dot) : Prop := ltC a b ∨ a = b
theorem not_ltC {a b : Dot} : ¬ ltC b a ↔ leC a b := by
  unfold leC ltC
  rw [Dot.eq_iff]
  omega
abbrev sameA (a b : Dot) : Prop := a.node = b.node ∧ a.life = b.life

/-- a mark more, behind all others: the last one's is made greater -/
def pushM (acc : List Dot) (d : Dot) : List Dot := match acc.getLast? with
  | some y => if sameA y d then acc.set (acc.length - 1) d else acc ++ [d]
  | none => [d]
theorem setL_push : ∀ (acc : List Dot) (d : Dot), acc.Pairwise ltM → (∀ x ∈ acc, leC x d) → setL d false acc = pushM acc d
  | [], d, _, _ => by simp [setL, pushM]
  | [x], d, _, h => by
    have h := h x (by simp)
    unfold leC ltC at h
    rw [Dot.eq_iff] at h
    simp only [setL, pushM, List.getLast?_singleton, sameA]
    by_cases hs : x.node = d.node ∧ x.life = d.life
    · rw [if_pos hs, if_pos hs]
      simp [setL]
      rw [Dot.eq_iff]
      simp
      omega
    · rw [if_neg hs, if_neg hs]
      have : (!false && belowD ⟨d.node, d.life, 0⟩ ⟨x.node, x.life, 0⟩) = false := by
        rw [Bool.not_false, Bool.true_and, Bool.eq_false_iff]
        intro hc
        rw [belowC_iff] at hc
        unfold ltC at hc
        dsimp only at hc
        omega
      rw [if_neg (by rw [this]; simp)]
      simp [setL]
  | x :: y :: r, d, hp, h => by
    rw [List.pairwise_cons] at hp
    have ih := setL_push (y :: r) d hp.2 (fun z hz => h z (List.mem_cons_of_mem _ hz))
    have hx := h x (by simp)
    have hy := h y (by simp)
    have hxy := hp.1 y (by simp)
    unfold leC ltC at hx hy
    unfold ltM at hxy
    rw [Dot.eq_iff] at hx hy
    have hs : ¬ (x.node = d.node ∧ x.life = d.life) := by omega
    have hb : (!false && belowD ⟨d.node, d.life, 0⟩ ⟨x.node, x.life, 0⟩) = false := by
      rw [Bool.not_false, Bool.true_and, Bool.eq_false_iff]
      intro hc
      rw [belowC_iff] at hc
      unfold ltC at hc
      dsimp only at hc
      omega
    rw [setL, if_neg hs, if_neg (by rw [hb]; simp), ih]
    unfold pushM
    rw [List.getLast?_cons_cons]
    cases hl : (y :: r).getLast? with
    | none => simp at hl
    | some z =>
      simp only
      split
      · simp [List.set]
      · simp
theorem setF_snoc (l : List Dot) (d : Dot) : setF (l ++ [d]) = setL d false (setF l) := by simp [setF]
/-- the marks of dots in order, one after another -/
theorem setF_push {l : List Dot} {k : Nat} {d : Dot} (hs : l.Pairwise leC) (hd : l[k]? = some d) : setF (l.take (k + 1)) = pushM (setF (l.take k)) d := by
  have e : l.take (k + 1) = l.take k ++ [d] := by rw [List.take_add_one, hd]; rfl
  rw [e, setF_snoc]
  refine setL_push _ _ (setF_sorted _) fun x hx => ?_
  have hu := (under_setF (l.take k) x).1 ⟨x, hx, rfl, rfl, Int.le_refl _⟩
  obtain ⟨m, hm, h1, h2, h3⟩ := hu
  have hlt : k < l.length := (List.getElem?_eq_some_iff.1 hd).1
  have hdk : l[k] = d := (List.getElem?_eq_some_iff.1 hd).2
  obtain ⟨i, hi, rfl⟩ := List.getElem_of_mem hm
  have hik : i < k := by simp at hi; omega
  have := List.pairwise_iff_getElem.1 hs i k (by omega) hlt hik
  rw [List.getElem_take] at h1 h2 h3
  rw [hdk] at this
  unfold leC ltC at this ⊢
  rw [Dot.eq_iff] at this ⊢
  omega

/-- a context with a dot more -/
def growC (C : Ctx) (d : Dot) : Ctx :=
  if d.count ≤ markOf C.marks d.node d.life then C
  else if markOf C.marks d.node d.life + 1 < d.count then ⟨C.marks, C.cloud ++ [d]⟩
  else ⟨setL d false C.marks, C.cloud⟩
theorem markOf_set {m : Dot} : ∀ {l : List Dot} (x y : Int), l.Pairwise ltM → markOf l m.node m.life < m.count → markOf (setL m false l) x y = if m.node = x ∧ m.life = y then m.count else markOf l x y := by
  intro l x y hl hc
  have hs := setL_sorted (m := m) hl
  by_cases h : m.node = x ∧ m.life = y
  · rw [if_pos h]
    obtain ⟨rfl, rfl⟩ := h
    clear hs
    induction l with
    | nil => simp [setL, markOf]
    | cons z r ih =>
      rw [List.pairwise_cons] at hl
      rw [markOf] at hc
      unfold setL
      by_cases hz : z.node = m.node ∧ z.life = m.life
      · rw [if_pos hz] at hc ⊢
        rw [markOf, if_pos hz]; simp only; omega
      · rw [if_neg hz] at hc
        rw [if_neg hz]
        split
        · rw [markOf, if_pos ⟨rfl, rfl⟩]
        · rw [markOf, if_neg hz]
          exact ih hl.2 hc
  · rw [if_neg h]
    clear hs hc
    induction l with
    | nil => simp [setL, markOf, h]
    | cons z r ih =>
      rw [List.pairwise_cons] at hl
      unfold setL
      by_cases hz : z.node = m.node ∧ z.life = m.life
      · rw [if_pos hz]
        have hr : setL m true r = r := setL_true fun q hq => by
          have := hl.1 q hq
          unfold ltM at this ⊢
          omega
        have hzx : ¬ (z.node = x ∧ z.life = y) := by omega
        rw [hr]
        simp only [markOf]
        rw [if_neg hzx, if_neg hzx]
      · rw [if_neg hz]
        split
        · rename_i hb
          have hr : setL m true r = r := setL_true fun q hq => by
            have := hl.1 q hq
            rw [Bool.not_false, Bool.true_and, belowC_iff] at hb
            unfold ltC at hb
            unfold ltM at this ⊢
            dsimp only at hb
            omega
          rw [hr, markOf, if_neg h]
        · simp only [markOf]
          rw [ih hl.2]
theorem growC_ok {C : Ctx} {d : Dot} (hC : Nf C) (hd : mayD d = true) (hlt : ∀ e ∈ C.cloud, ltC e d) : Nf (growC C d) ∧ (∀ e ∈ (growC C d).cloud, e ∈ C.cloud ∨ e = d) ∧ ∀ x, (growC C d).covers x = true ↔ C.covers x = true ∨ x = d := by
  have hd' := hd
  simp only [mayD, decide_eq_true_eq] at hd'
  unfold growC
  by_cases h1 : d.count ≤ markOf C.marks d.node d.life
  · rw [if_pos h1]
    refine ⟨hC, fun e he => .inl he, fun x => ⟨.inl, fun h => ?_⟩⟩
    rcases h with h | rfl
    · exact h
    · rw [covers_iff]; exact ⟨by omega, .inl h1⟩
  rw [if_neg h1]
  by_cases h2 : markOf C.marks d.node d.life + 1 < d.count
  · rw [if_pos h2]
    refine ⟨⟨hC.marks, ?_, hC.mayM, ?_, ?_⟩, ?_, fun x => ?_⟩
    · rw [List.pairwise_append]
      exact ⟨hC.cloud, List.pairwise_singleton _ _, fun a ha b hb => by simp at hb; subst hb; exact hlt a ha⟩
    · intro x hx
      simp only [List.mem_append, List.mem_singleton] at hx
      rcases hx with hx | rfl
      · exact hC.mayC x hx
      · exact hd
    · intro x hx
      simp only [List.mem_append, List.mem_singleton] at hx
      rcases hx with hx | rfl
      · exact hC.gap x hx
      · exact h2
    · intro e he
      simpa using he
    · rw [covers_iff, covers_iff]
      simp only [List.mem_append, List.mem_singleton]
      constructor
      · rintro ⟨h3, h4 | h4 | h4⟩
        · exact .inl ⟨h3, .inl h4⟩
        · exact .inl ⟨h3, .inr h4⟩
        · exact .inr h4
      · rintro (⟨h3, h4 | h4⟩ | rfl)
        · exact ⟨h3, .inl h4⟩
        · exact ⟨h3, .inr (.inl h4)⟩
        · exact ⟨by omega, .inr (.inr rfl)⟩
  · rw [if_neg h2]
    have hm := fun x y => markOf_set (m := d) (l := C.marks) x y hC.marks (by omega)
    refine ⟨⟨setL_sorted hC.marks, hC.cloud, fun x hx => ?_, hC.mayC, fun x hx => ?_⟩, fun e he => .inl he, fun x => ?_⟩
    · exact setL_may hd hC.mayM x hx
    · simp only at hx ⊢
      rw [hm]
      have hg := hC.gap x hx
      have ho := hlt x hx
      split
      · rename_i h3
        obtain ⟨h3, h4⟩ := h3
        rw [← h3, ← h4] at hg
        unfold ltC at ho
        omega
      · exact hg
    · rw [covers_iff, covers_iff]
      simp only
      rw [hm]
      constructor
      · rintro ⟨h3, h4 | h4⟩
        · split at h4
          · rename_i h5
            by_cases h6 : x.count = d.count
            · right; rw [Dot.eq_iff]; omega
            · left; refine ⟨h3, .inl ?_⟩; rw [← h5.1, ← h5.2]; omega
          · exact .inl ⟨h3, .inl h4⟩
        · exact .inl ⟨h3, .inr h4⟩
      · rintro (⟨h3, h4 | h4⟩ | rfl)
        · refine ⟨h3, .inl ?_⟩
          split
          · rename_i h5
            rw [← h5.1, ← h5.2] at h4; omega
          · exact h4
        · exact ⟨h3, .inr h4⟩
        · exact ⟨by omega, .inl (by rw [if_pos ⟨rfl, rfl⟩]; omega)⟩

theorem growF_ok : ∀ (b : List Dot) (C : Ctx), Nf C → (∀ d ∈ b, mayD d = true) → b.Pairwise ltC → (∀ e ∈ C.cloud, ∀ d ∈ b, ltC e d) → Nf (b.foldl growC C) ∧ ∀ x, (b.foldl growC C).covers x = true ↔ C.covers x = true ∨ x ∈ b
  | [], C, hC, _, _, _ => ⟨hC, fun x => by simp⟩
  | d :: r, C, hC, hm, hp, hlt => by
    rw [List.pairwise_cons] at hp
    obtain ⟨h1, h2, h3⟩ := growC_ok hC (hm d (by simp)) (fun e he => hlt e he d (by simp))
    obtain ⟨h4, h5⟩ := growF_ok r (growC C d) h1 (fun x hx => hm x (by simp [hx])) hp.2 (fun e he y hy => by
      rcases h2 e he with he | rfl
      · exact hlt e he y (by simp [hy])
      · exact hp.1 y hy)
    refine ⟨h4, fun x => ?_⟩
    rw [List.foldl_cons, h5, h3, List.mem_cons]
    constructor
    · rintro ((h | h) | h)
      · exact .inl h
      · exact .inr (.inl h)
      · exact .inr (.inr h)
    · rintro (h | h | h)
      · exact .inl (.inl h)
      · exact .inl (.inr h)
      · exact .inr h

/-- sorted, each but once: strictly rising -/
theorem compact_lt : ∀ (l : List Dot), l.Pairwise leC → (compactL l).Pairwise ltC
  | [], _ => by simp [compactL]
  | [x], _ => by simp [compactL]
  | x :: y :: r, h => by
    rw [List.pairwise_cons] at h
    have ih := compact_lt (y :: r) h.2
    simp only [compactL]
    split
    · exact ih
    · rename_i hne
      rw [List.pairwise_cons]
      refine ⟨fun z hz => ?_, ih⟩
      rw [compact_mem] at hz
      have h1 := h.1 y (by simp)
      rcases List.mem_cons.1 hz with rfl | hz
      · rcases h1 with h1 | h1
        · exact h1
        · exact absurd h1 hne
      · have h2 := (List.pairwise_cons.1 h.2).1 z hz
        have h1 : ltC x y := by
          rcases h1 with h1 | h1
          · exact h1
          · exact absurd h1 hne
        rcases h2 with h2 | rfl
        · exact ltC_trans h1 h2
        · exact h1

/-- The program's context of marks and dots is the document's. -/
theorem normal_grown {l d l' d' : List Dot} (hl : ∀ x ∈ l, mayD x = true) (hd : ∀ x ∈ d, mayD x = true) (hpl : l'.Perm l) (hpd : d'.Perm d) (hsd : d'.Pairwise leC) :
    (compactL d').foldl growC ⟨setF l', []⟩ = settledL ((insF d).length + 1) (setF l) (insF d) := by
  have hl' : ∀ x ∈ l', mayD x = true := fun x hx => hl x (hpl.mem_iff.1 hx)
  have hd' : ∀ x ∈ compactL d', mayD x = true := fun x hx => hd x (hpd.mem_iff.1 ((compact_mem d').1 hx))
  have h0 : Nf ⟨setF l', []⟩ := ⟨setF_sorted l', List.Pairwise.nil, setF_may hl', (fun x hx => by cases hx), (fun x hx => by cases hx)⟩
  obtain ⟨h1, h2⟩ := growF_ok (compactL d') _ h0 hd' (compact_lt d' hsd) (fun e he => by cases he)
  have h3 : Nf (settledL ((insF d).length + 1) (setF l) (insF d)) := settledL_nf _ _ _ (by omega) (setF_sorted l) (insF_sorted d) (setF_may hl) (insF_may hd)
  refine nf_uniq h1 h3 fun x => ?_
  rw [h2, covers_den h3, den_normal hl hd, covers_den h0, compact_mem, hpd.mem_iff]
  unfold den
  rw [under_setF]
  have hu : under l' x ↔ under l x := ⟨fun ⟨m, h, k⟩ => ⟨m, hpl.mem_iff.1 h, k⟩, fun ⟨m, h, k⟩ => ⟨m, hpl.mem_iff.2 h, k⟩⟩
  rw [hu]
  constructor
  · rintro (⟨h4, h5 | h5⟩ | h5)
    · exact ⟨h4, .inl h5⟩
    · cases h5
    · have := hd x h5
      simp only [mayD, decide_eq_true_eq] at this
      exact ⟨by omega, .inr h5⟩
  · rintro ⟨h4, h5 | h5⟩
    · exact .inl ⟨h4, .inl h5⟩
    · exact .inr h5
end Go.Fw
