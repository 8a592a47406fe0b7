/- Contracts and laws that the statement Ado leans on, part 2. -/
import Derived.Test.YtakpdbmdfnialaaGreatAdoK1
import Derived.Test.YtakpdbmdfnialaaGreatProg
import Derived.Lib.SpaceUEq
import Derived.RangeFuncRecord
import Derived.OrdersIn
import Derived.TacticsIn
import Derived.WalkKit
import Derived.Below
import Derived.OrdersHeld
import Derived.Deep.Quiet
import Derived.Laws.StructEq
import Derived.Deep.MidRow
import Derived.Sort.Grow
set_option linter.unusedVariables false
set_option linter.unusedSimpArgs false
namespace Go.Fw
open Go.RowKit
def leC (a b : Dot) : Prop := ltC a b ∨ a = b
theorem not_ltC {a b : Dot} : ¬ ltC b a ↔ leC a b := by
  unfold leC ltC
  rw [Dot.eq_iff]
  omega
abbrev sameA (a b : Dot) : Prop := a.node = b.node ∧ a.life = b.life
def pushM (acc : List Dot) (d : Dot) : List Dot := match acc.getLast? with
  | some y => if sameA y d then acc.set (acc.length - 1) d else acc ++ [d]
  | none => [d]
theorem setL_push : ∀ (acc : List Dot) (d : Dot), acc.Pairwise ltM → (∀ x ∈ acc, leC x d) → setL d false acc = pushM acc d
  | [], d, _, _ => by simp [setL, pushM]
  | [x], d, _, h => by
    have h := h x (by simp)
    unfold leC ltC at h
    rw [Dot.eq_iff] at h
    simp only [setL, pushM, List.getLast?_singleton, sameA]
    by_cases hs : x.node = d.node ∧ x.life = d.life
    · rw [if_pos hs, if_pos hs]
      simp [setL]
      rw [Dot.eq_iff]
      simp
      omega
    · rw [if_neg hs, if_neg hs]
      have : (!false && belowD ⟨d.node, d.life, 0⟩ ⟨x.node, x.life, 0⟩) = false := by
        rw [Bool.not_false, Bool.true_and, Bool.eq_false_iff]
        intro hc
        rw [belowC_iff] at hc
        unfold ltC at hc
        dsimp only at hc
        omega
      rw [if_neg (by rw [this]; simp)]
      simp [setL]
  | x :: y :: r, d, hp, h => by
    rw [List.pairwise_cons] at hp
    have ih := setL_push (y :: r) d hp.2 (fun z hz => h z (List.mem_cons_of_mem _ hz))
    have hx := h x (by simp)
    have hy := h y (by simp)
    have hxy := hp.1 y (by simp)
    unfold leC ltC at hx hy
    unfold ltM at hxy
    rw [Dot.eq_iff] at hx hy
    have hs : ¬ (x.node = d.node ∧ x.life = d.life) := by omega
    have hb : (!false && belowD ⟨d.node, d.life, 0⟩ ⟨x.node, x.life, 0⟩) = false := by
      rw [Bool.not_false, Bool.true_and, Bool.eq_false_iff]
      intro hc
      rw [belowC_iff] at hc
      unfold ltC at hc
      dsimp only at hc
      omega
    rw [setL, if_neg hs, if_neg (by rw [hb]; simp), ih]
    unfold pushM
    rw [List.getLast?_cons_cons]
    cases hl : (y :: r).getLast? with
    | none => simp at hl
    | some z =>
      simp only
      split
      · simp [List.set]
      · simp
theorem setF_snoc (l : List Dot) (d : Dot) : setF (l ++ [d]) = setL d false (setF l) := by simp [setF]
theorem setF_push {l : List Dot} {k : Nat} {d : Dot} (hs : l.Pairwise leC) (hd : l[k]? = some d) : setF (l.take (k + 1)) = pushM (setF (l.take k)) d := by
  have e : l.take (k + 1) = l.take k ++ [d] := by rw [List.take_add_one, hd]; rfl
  rw [e, setF_snoc]
  refine setL_push _ _ (setF_sorted _) fun x hx => ?_
  have hu := (under_setF (l.take k) x).1 ⟨x, hx, rfl, rfl, Int.le_refl _⟩
  obtain ⟨m, hm, h1, h2, h3⟩ := hu
  have hlt : k < l.length := (List.getElem?_eq_some_iff.1 hd).1
  have hdk : l[k] = d := (List.getElem?_eq_some_iff.1 hd).2
  obtain ⟨i, hi, rfl⟩ := List.getElem_of_mem hm
  have hik : i < k := by simp at hi; omega
  have := List.pairwise_iff_getElem.1 hs i k (by omega) hlt hik
  rw [List.getElem_take] at h1 h2 h3
  rw [hdk] at this
  unfold leC ltC at this ⊢
  rw [Dot.eq_iff] at this ⊢
  omega
def growC (C : Ctx) (d : Dot) : Ctx :=
  if d.count ≤ markOf C.marks d.node d.life then C
  else if markOf C.marks d.node d.life + 1 < d.count then ⟨C.marks, C.cloud ++ [d]⟩
  else ⟨setL d false C.marks, C.cloud⟩
theorem markOf_set {m : Dot} : ∀ {l : List Dot} (x y : Int), l.Pairwise ltM → markOf l m.node m.life < m.count → markOf (setL m false l) x y = if m.node = x ∧ m.life = y then m.count else markOf l x y := by
  intro l x y hl hc
  have hs := setL_sorted (m := m) hl
  by_cases h : m.node = x ∧ m.life = y
  · rw [if_pos h]
    obtain ⟨rfl, rfl⟩ := h
    clear hs
    induction l with
    | nil => simp [setL, markOf]
    | cons z r ih =>
      rw [List.pairwise_cons] at hl
      rw [markOf] at hc
      unfold setL
      by_cases hz : z.node = m.node ∧ z.life = m.life
      · rw [if_pos hz] at hc ⊢
        rw [markOf, if_pos hz]; simp only; omega
      · rw [if_neg hz] at hc
        rw [if_neg hz]
        split
        · rw [markOf, if_pos ⟨rfl, rfl⟩]
        · rw [markOf, if_neg hz]
          exact ih hl.2 hc
  · rw [if_neg h]
    clear hs hc
    induction l with
    | nil => simp [setL, markOf, h]
    | cons z r ih =>
      rw [List.pairwise_cons] at hl
      unfold setL
      by_cases hz : z.node = m.node ∧ z.life = m.life
      · rw [if_pos hz]
        have hr : setL m true r = r := setL_true fun q hq => by
          have := hl.1 q hq
          unfold ltM at this ⊢
          omega
        have hzx : ¬ (z.node = x ∧ z.life = y) := by omega
        rw [hr]
        simp only [markOf]
        rw [if_neg hzx, if_neg hzx]
      · rw [if_neg hz]
        split
        · rename_i hb
          have hr : setL m true r = r := setL_true fun q hq => by
            have := hl.1 q hq
            rw [Bool.not_false, Bool.true_and, belowC_iff] at hb
            unfold ltC at hb
            unfold ltM at this ⊢
            dsimp only at hb
            omega
          rw [hr, markOf, if_neg h]
        · simp only [markOf]
          rw [ih hl.2]
theorem growC_ok {C : Ctx} {d : Dot} (hC : Nf C) (hd : mayD d = true) (hlt : ∀ e ∈ C.cloud, ltC e d) : Nf (growC C d) ∧ (∀ e ∈ (growC C d).cloud, e ∈ C.cloud ∨ e = d) ∧ ∀ x, (growC C d).covers x = true ↔ C.covers x = true ∨ x = d := by
  have hd' := hd
  simp only [mayD, decide_eq_true_eq] at hd'
  unfold growC
  by_cases h1 : d.count ≤ markOf C.marks d.node d.life
  · rw [if_pos h1]
    refine ⟨hC, fun e he => .inl he, fun x => ⟨.inl, fun h => ?_⟩⟩
    rcases h with h | rfl
    · exact h
    · rw [covers_iff]; exact ⟨by omega, .inl h1⟩
  rw [if_neg h1]
  by_cases h2 : markOf C.marks d.node d.life + 1 < d.count
  · rw [if_pos h2]
    refine ⟨⟨hC.marks, ?_, hC.mayM, ?_, ?_⟩, ?_, fun x => ?_⟩
    · rw [List.pairwise_append]
      exact ⟨hC.cloud, List.pairwise_singleton _ _, fun a ha b hb => by simp at hb; subst hb; exact hlt a ha⟩
    · intro x hx
      simp only [List.mem_append, List.mem_singleton] at hx
      rcases hx with hx | rfl
      · exact hC.mayC x hx
      · exact hd
    · intro x hx
      simp only [List.mem_append, List.mem_singleton] at hx
      rcases hx with hx | rfl
      · exact hC.gap x hx
      · exact h2
    · intro e he
      simpa using he
    · rw [covers_iff, covers_iff]
      simp only [List.mem_append, List.mem_singleton]
      constructor
      · rintro ⟨h3, h4 | h4 | h4⟩
        · exact .inl ⟨h3, .inl h4⟩
        · exact .inl ⟨h3, .inr h4⟩
        · exact .inr h4
      · rintro (⟨h3, h4 | h4⟩ | rfl)
        · exact ⟨h3, .inl h4⟩
        · exact ⟨h3, .inr (.inl h4)⟩
        · exact ⟨by omega, .inr (.inr rfl)⟩
  · rw [if_neg h2]
    have hm := fun x y => markOf_set (m := d) (l := C.marks) x y hC.marks (by omega)
    refine ⟨⟨setL_sorted hC.marks, hC.cloud, fun x hx => ?_, hC.mayC, fun x hx => ?_⟩, fun e he => .inl he, fun x => ?_⟩
    · exact setL_may hd hC.mayM x hx
    · simp only at hx ⊢
      rw [hm]
      have hg := hC.gap x hx
      have ho := hlt x hx
      split
      · rename_i h3
        obtain ⟨h3, h4⟩ := h3
        rw [← h3, ← h4] at hg
        unfold ltC at ho
        omega
      · exact hg
    · rw [covers_iff, covers_iff]
      simp only
      rw [hm]
      constructor
      · rintro ⟨h3, h4 | h4⟩
        · split at h4
          · rename_i h5
            by_cases h6 : x.count = d.count
            · right; rw [Dot.eq_iff]; omega
            · left; refine ⟨h3, .inl ?_⟩; rw [← h5.1, ← h5.2]; omega
          · exact .inl ⟨h3, .inl h4⟩
        · exact .inl ⟨h3, .inr h4⟩
      · rintro (⟨h3, h4 | h4⟩ | rfl)
        · refine ⟨h3, .inl ?_⟩
          split
          · rename_i h5
            rw [← h5.1, ← h5.2] at h4; omega
          · exact h4
        · exact ⟨h3, .inr h4⟩
        · exact ⟨by omega, .inl (by rw [if_pos ⟨rfl, rfl⟩]; omega)⟩
theorem growF_ok : ∀ (b : List Dot) (C : Ctx), Nf C → (∀ d ∈ b, mayD d = true) → b.Pairwise ltC → (∀ e ∈ C.cloud, ∀ d ∈ b, ltC e d) → Nf (b.foldl growC C) ∧ ∀ x, (b.foldl growC C).covers x = true ↔ C.covers x = true ∨ x ∈ b
  | [], C, hC, _, _, _ => ⟨hC, fun x => by simp⟩
  | d :: r, C, hC, hm, hp, hlt => by
    rw [List.pairwise_cons] at hp
    obtain ⟨h1, h2, h3⟩ := growC_ok hC (hm d (by simp)) (fun e he => hlt e he d (by simp))
    obtain ⟨h4, h5⟩ := growF_ok r (growC C d) h1 (fun x hx => hm x (by simp [hx])) hp.2 (fun e he y hy => by
      rcases h2 e he with he | rfl
      · exact hlt e he y (by simp [hy])
      · exact hp.1 y hy)
    refine ⟨h4, fun x => ?_⟩
    rw [List.foldl_cons, h5, h3, List.mem_cons]
    constructor
    · rintro ((h | h) | h)
      · exact .inl h
      · exact .inr (.inl h)
      · exact .inr (.inr h)
    · rintro (h | h | h)
      · exact .inl (.inl h)
      · exact .inl (.inr h)
      · exact .inr h
theorem compact_lt : ∀ (l : List Dot), l.Pairwise leC → (compactL l).Pairwise ltC
  | [], _ => by simp [compactL]
  | [x], _ => by simp [compactL]
  | x :: y :: r, h => by
    rw [List.pairwise_cons] at h
    have ih := compact_lt (y :: r) h.2
    simp only [compactL]
    split
    · exact ih
    · rename_i hne
      rw [List.pairwise_cons]
      refine ⟨fun z hz => ?_, ih⟩
      rw [compact_mem] at hz
      have h1 := h.1 y (by simp)
      rcases List.mem_cons.1 hz with rfl | hz
      · rcases h1 with h1 | h1
        · exact h1
        · exact absurd h1 hne
      · have h2 := (List.pairwise_cons.1 h.2).1 z hz
        have h1 : ltC x y := by
          rcases h1 with h1 | h1
          · exact h1
          · exact absurd h1 hne
        rcases h2 with h2 | rfl
        · exact ltC_trans h1 h2
        · exact h1
theorem normal_grown {l d l' d' : List Dot} (hl : ∀ x ∈ l, mayD x = true) (hd : ∀ x ∈ d, mayD x = true) (hpl : l'.Perm l) (hpd : d'.Perm d) (hsd : d'.Pairwise leC) :
    (compactL d').foldl growC ⟨setF l', []⟩ = settledL ((insF d).length + 1) (setF l) (insF d) := by
  have hl' : ∀ x ∈ l', mayD x = true := fun x hx => hl x (hpl.mem_iff.1 hx)
  have hd' : ∀ x ∈ compactL d', mayD x = true := fun x hx => hd x (hpd.mem_iff.1 ((compact_mem d').1 hx))
  have h0 : Nf ⟨setF l', []⟩ := ⟨setF_sorted l', List.Pairwise.nil, setF_may hl', (fun x hx => by cases hx), (fun x hx => by cases hx)⟩
  obtain ⟨h1, h2⟩ := growF_ok (compactL d') _ h0 hd' (compact_lt d' hsd) (fun e he => by cases he)
  have h3 : Nf (settledL ((insF d).length + 1) (setF l) (insF d)) := settledL_nf _ _ _ (by omega) (setF_sorted l) (insF_sorted d) (setF_may hl) (insF_may hd)
  refine nf_uniq h1 h3 fun x => ?_
  rw [h2, covers_den h3, den_normal hl hd, covers_den h0, compact_mem, hpd.mem_iff]
  unfold den
  rw [under_setF]
  have hu : under l' x ↔ under l x := ⟨fun ⟨m, h, k⟩ => ⟨m, hpl.mem_iff.1 h, k⟩, fun ⟨m, h, k⟩ => ⟨m, hpl.mem_iff.2 h, k⟩⟩
  rw [hu]
  constructor
  · rintro (⟨h4, h5 | h5⟩ | h5)
    · exact ⟨h4, .inl h5⟩
    · cases h5
    · have := hd x h5
      simp only [mayD, decide_eq_true_eq] at this
      exact ⟨by omega, .inr h5⟩
  · rintro ⟨h4, h5 | h5⟩
    · exact .inl ⟨h4, .inl h5⟩
    · exact .inr h5
end Go.Fw
set_option linter.unusedVariables false
set_option linter.unusedSimpArgs false
namespace Go.Fw
open Go.RowKit
theorem can_nf {C : Ctx} (h : canL C = true) : Nf C := ((canL_iff C).1 h).2
theorem can_len {C : Ctx} (h : canL C = true) : C.marks.length ≤ 64 ∧ C.cloud.length ≤ 64 := ((canL_iff C).1 h).1
section
variable {A B C : Ctx} (hA : Nf A) (hB : Nf B)
include hA hB
end
end Go.Fw
set_option linter.unusedVariables false
set_option linter.unusedSimpArgs false
namespace Go.Fw
open Go.RowKit
def charB (c : UInt8) : Bool := (decide (97 ≤ c.toNat) && decide (c.toNat ≤ 122)) || (decide (65 ≤ c.toNat) && decide (c.toNat ≤ 90)) || (decide (48 ≤ c.toNat) && decide (c.toNat ≤ 57)) || decide (c.toNat = 45) || decide (c.toNat = 95) || decide (c.toNat = 46)
def nameB (s : List UInt8) : Bool := decide (s ≠ []) && decide (s.length ≤ 32) && s.all charB
def priceB (p : UInt64) : Bool := decide (p.toNat ≤ 9218868437227405312) || decide (p.toNat = 9223372036854775808)
structure Ent where
  item : List UInt8
  dot : Dot
  qty : Int
  price : UInt64
deriving DecidableEq
abbrev Ent.enc (e : Ent) : List Value := [.string (bs e.item), .int .i64 e.dot.node, .int .i64 e.dot.life, .int .i64 e.dot.count, .int .i64 e.qty, .int .u64 (e.price.toNat : Int)]
theorem Ent.enc_len (e : Ent) : (Ent.enc e).length = 6 := rfl
theorem Ent.enc_one (e : Ent) : ∀ u ∈ Ent.enc e, u.oneCell' = true := fun u hu => by simp [Ent.enc] at hu; rcases hu with rfl | rfl | rfl | rfl | rfl | rfl <;> rfl
structure Cart where
  ents : List Ent
  ctx : Ctx
deriving DecidableEq
abbrev Cart.zero : Cart := ⟨[], ⟨[], []⟩⟩
structure Line where
  item : List UInt8
  qty : Int
  price : UInt64
deriving DecidableEq
abbrev Line.enc (e : Line) : List Value := [.string (bs e.item), .int .i64 e.qty, .int .u64 (e.price.toNat : Int)]
theorem Line.enc_len (e : Line) : (Line.enc e).length = 3 := rfl
theorem Line.enc_one (e : Line) : ∀ u ∈ Line.enc e, u.oneCell' = true := fun u hu => by simp [Line.enc] at hu; rcases hu with rfl | rfl | rfl <;> rfl
def ltE (a b : Ent) : Prop := Op.bytesLess a.item b.item = true ∨ (a.item = b.item ∧ ltC a.dot b.dot)
instance (a b : Ent) : Decidable (ltE a b) := decidable_of_iff (Op.bytesLess a.item b.item = true ∨ (a.item = b.item ∧ belowD a.dot b.dot = true)) (by rw [belowC_iff]; rfl)
theorem ltC_irr (a : Dot) : ¬ ltC a a := by unfold ltC; omega
theorem ltC_total {a b : Dot} (h : a ≠ b) : ltC a b ∨ ltC b a := by
  have : ¬ (a.node = b.node ∧ a.life = b.life ∧ a.count = b.count) := fun e => h (by cases a; cases b; simp_all)
  unfold ltC
  omega
theorem ltE_irr (a : Ent) : ¬ ltE a a := by
  rintro (h | ⟨_, h⟩)
  · rw [less_irr] at h; cases h
  · exact ltC_irr _ h
theorem ltE_trans {a b c : Ent} (h : ltE a b) (h' : ltE b c) : ltE a c := by
  rcases h with h | ⟨e, h⟩
  · rcases h' with h' | ⟨e', h'⟩
    · exact .inl (less_trans h h')
    · exact .inl (e' ▸ h)
  · rcases h' with h' | ⟨e', h'⟩
    · exact .inl (e ▸ h')
    · exact .inr ⟨e.trans e', ltC_trans h h'⟩
theorem ltE_asymm {a b : Ent} (h : ltE a b) : ¬ ltE b a := fun h' => ltE_irr _ (ltE_trans h h')
theorem ltE_total {a b : Ent} (h : a.dot ≠ b.dot) : ltE a b ∨ ltE b a := by
  by_cases e : a.item = b.item
  · rcases ltC_total h with h | h
    · exact .inl (.inr ⟨e, h⟩)
    · exact .inr (.inr ⟨e.symm, h⟩)
  · rcases less_total e with h | h
    · exact .inl (.inl h)
    · exact .inr (.inl h)
theorem sorted_uniq {l r : List Ent} (h : l.Pairwise ltE) (h' : r.Pairwise ltE) (hm : ∀ x, x ∈ l ↔ x ∈ r) : l = r := mem_ext_sorted ltE_irr (fun _ _ => ltE_asymm) h h' hm
def ordE (a b : Ent) : Int := if Op.bytesLess a.item b.item then -1 else if a.item = b.item then orderD a.dot b.dot else 1
theorem ordE_iff (a b : Ent) : ordE a b < 0 ↔ ltE a b := by
  unfold ordE ltE
  by_cases h : Op.bytesLess a.item b.item = true
  · simp [h]
  · by_cases e : a.item = b.item
    · rw [if_neg h, if_pos e, orderC_iff]; simp [h, e, less_irr]
    · rw [if_neg h, if_neg e]; simp [h, e]
def itemsFrom : Option (List UInt8) → List Ent → Nat
  | _, [] => 0
  | p, e :: r => (if p = some e.item then 0 else 1) + itemsFrom (some e.item) r
def itemsN (l : List Ent) : Nat := itemsFrom none l
theorem itemsFrom_le : ∀ (l : List Ent) (p : Option (List UInt8)), itemsFrom p l ≤ l.length
  | [], _ => Nat.le_refl _
  | x :: r, p => by rw [itemsFrom, List.length_cons]; have := itemsFrom_le r (some x.item); split <;> omega
def runOf (s : List UInt8) (l : List Ent) : List Ent := l.takeWhile fun e => decide (e.item = s)
theorem itemsFrom_run (s : List UInt8) : ∀ (l : List Ent), itemsFrom (some s) l = itemsFrom none (l.drop (runOf s l).length)
  | [] => rfl
  | x :: r => by
    by_cases h : x.item = s
    · rw [itemsFrom, if_pos (by rw [h]), runOf, List.takeWhile_cons, if_pos (by simpa using h), List.length_cons, List.drop_succ_cons, h, Nat.zero_add]
      exact itemsFrom_run s r
    · rw [runOf, List.takeWhile_cons, if_neg (by simpa using h), List.length_nil, List.drop_zero, itemsFrom, itemsFrom, if_neg (fun e => h (Option.some.inj e).symm)]
      rfl
def runsF : Nat → List Ent → List (List Ent)
  | 0, _ => []
  | _, [] => []
  | f + 1, e :: r => (e :: runOf e.item r) :: runsF f (r.drop (runOf e.item r).length)
def runsL (l : List Ent) : List (List Ent) := runsF l.length l
theorem runOf_le (s : List UInt8) (l : List Ent) : (runOf s l).length ≤ l.length := (List.takeWhile_sublist _).length_le
theorem runsF_more : ∀ (f : Nat) (l : List Ent), l.length ≤ f → runsF f l = runsF l.length l
  | 0, l, h => by cases l with
    | nil => rfl
    | cons x r => simp at h
  | f + 1, [], _ => rfl
  | f + 1, x :: r, h => by
    have h1 : (r.drop (runOf x.item r).length).length ≤ f := by simp at h ⊢; omega
    have h2 : (r.drop (runOf x.item r).length).length ≤ r.length := by simp
    rw [runsF, List.length_cons, runsF, runsF_more f _ h1, runsF_more r.length _ h2]
theorem runs_nil : runsL [] = [] := rfl
theorem runs_cons (e : Ent) (r : List Ent) : runsL (e :: r) = (e :: runOf e.item r) :: runsL (r.drop (runOf e.item r).length) := by
  have h2 : (r.drop (runOf e.item r).length).length ≤ r.length := by simp
  rw [runsL, List.length_cons, runsF, runsF_more r.length _ h2]
  rfl
theorem items_runs : ∀ (n : Nat) (l : List Ent), l.length ≤ n → itemsN l = (runsL l).length
  | _, [], _ => rfl
  | 0, _ :: _, h => by simp at h
  | n + 1, e :: r, h => by
    have h1 : (r.drop (runOf e.item r).length).length ≤ n := by simp at h ⊢; omega
    rw [runs_cons, List.length_cons, ← items_runs n _ h1, itemsN, itemsN, itemsFrom, itemsFrom_run, if_neg (by simp)]
    omega
def backE (p : Option Ent) (e : Ent) : Bool := match p with
  | none => false
  | some x => decide (¬ ltE x e)
def entE (C : Ctx) (pre : List Ent) (e : Ent) : Int :=
  if nameB e.item = false then 6 else if e.qty < 1 ∨ 1000000 < e.qty then 52 else if priceB e.price = false then 53
  else if C.covers e.dot = false ∨ backE pre.getLast? e = true then 50 else if e.dot ∈ pre.map (·.dot) then 50 else 0
def entsE (C : Ctx) : List Ent → List Ent → Int
  | _, [] => 0
  | pre, e :: r => if entE C pre e = 0 then entsE C (pre ++ [e]) r else entE C pre e
def canE (c : Cart) : Int := if canL c.ctx = false then 30 else if 64 < c.ents.length then 51 else if entsE c.ctx [] c.ents = 0 then (if 32 < itemsN c.ents then 51 else 0) else entsE c.ctx [] c.ents
structure EntOk (C : Ctx) (e : Ent) : Prop where
  name : nameB e.item = true
  qty : 1 ≤ e.qty ∧ e.qty ≤ 1000000
  price : priceB e.price = true
  cov : C.covers e.dot = true
structure CartOk (c : Cart) : Prop where
  ctx : canL c.ctx = true
  len : c.ents.length ≤ 64
  each : ∀ e ∈ c.ents, EntOk c.ctx e
  order : c.ents.Pairwise ltE
  dots : (c.ents.map (·.dot)).Nodup
  items : itemsN c.ents ≤ 32
theorem entE_ok {C : Ctx} {pre : List Ent} {e : Ent} : entE C pre e = 0 ↔ EntOk C e ∧ (∀ p, pre.getLast? = some p → ltE p e) ∧ e.dot ∉ pre.map (·.dot) := by
  unfold entE
  constructor
  · intro h
    split at h
    · omega
    rename_i h1
    split at h
    · omega
    rename_i h2
    split at h
    · omega
    rename_i h3
    split at h
    · omega
    rename_i h4
    split at h
    · omega
    rename_i h5
    rw [not_or] at h4
    refine ⟨⟨by simpa using h1, by omega, by simpa using h3, by simpa using h4.1⟩, fun p hp => ?_, h5⟩
    have := h4.2
    rw [hp] at this
    simpa [backE] using this
  · rintro ⟨⟨h1, h2, h3, h4⟩, h5, h6⟩
    rw [if_neg (by simp [h1]), if_neg (by omega), if_neg (by simp [h3]), if_neg, if_neg h6]
    rintro (h | h)
    · rw [h4] at h; cases h
    · cases e' : pre.getLast? with
      | none => rw [e'] at h; simp [backE] at h
      | some p => rw [e'] at h; simp [backE, h5 p e'] at h
theorem entsE_ok (C : Ctx) : ∀ (l pre : List Ent), pre.Pairwise ltE → (entsE C pre l = 0 ↔ (∀ e ∈ l, EntOk C e) ∧ (pre ++ l).Pairwise ltE ∧ (l.map (·.dot)).Nodup ∧ ∀ e ∈ l, e.dot ∉ pre.map (·.dot))
  | [], pre, hp => by simp [entsE, hp]
  | e :: r, pre, hp => by
    rw [entsE]
    have key : entE C pre e = 0 → (pre ++ [e]).Pairwise ltE := fun h => by
      obtain ⟨_, h2, _⟩ := entE_ok.1 h
      rw [List.pairwise_append]
      refine ⟨hp, List.pairwise_singleton _ _, fun x hx y hy => ?_⟩
      simp at hy
      subst hy
      cases hl : pre.getLast? with
      | none => rw [List.getLast?_eq_none_iff] at hl; subst hl; simp at hx
      | some p =>
        have hlt := h2 p hl
        obtain ⟨q, rfl⟩ := List.getLast?_eq_some_iff.1 hl
        rcases List.mem_append.1 hx with hx | hx
        · exact ltE_trans ((List.pairwise_append.1 hp).2.2 x hx p (by simp)) hlt
        · simp at hx; subst hx; exact hlt
    by_cases h : entE C pre e = 0
    · rw [if_pos h, entsE_ok C r _ (key h)]
      obtain ⟨h1, h2, h3⟩ := entE_ok.1 h
      simp only [List.append_assoc, List.singleton_append, List.mem_cons, List.map_cons, List.nodup_cons, List.map_append, List.map_nil, List.mem_append, List.not_mem_nil, or_false]
      constructor
      · rintro ⟨a1, a2, a3, a4⟩
        refine ⟨fun x hx => hx.elim (fun e => e ▸ h1) (a1 x), a2, ⟨fun hm => ?_, a3⟩, fun x hx hm => hx.elim (fun e => h3 (e ▸ hm)) fun hx => a4 x hx (.inl hm)⟩
        obtain ⟨y, hy, hye⟩ := List.mem_map.1 hm
        exact a4 y hy (.inr hye)
      · rintro ⟨a1, a2, ⟨a3, a3'⟩, a4⟩
        refine ⟨fun x hx => a1 x (.inr hx), a2, a3', fun x hx hm => ?_⟩
        rcases hm with hm | hm
        · exact a4 x (.inr hx) hm
        · exact a3 (List.mem_map.2 ⟨x, hx, hm⟩)
    · rw [if_neg h]
      constructor
      · intro h0; exact absurd h0 h
      · rintro ⟨a1, a2, a3, a4⟩
        refine absurd (entE_ok.2 ⟨a1 e (by simp), fun p hpl => ?_, a4 e (by simp)⟩) h
        obtain ⟨q, rfl⟩ := List.getLast?_eq_some_iff.1 hpl
        exact (List.pairwise_append.1 a2).2.2 p (by simp) e (by simp)
theorem canE_ok (c : Cart) : canE c = 0 ↔ CartOk c := by
  unfold canE
  have h0 := entsE_ok c.ctx c.ents [] List.Pairwise.nil
  rw [List.nil_append] at h0
  constructor
  · intro h
    split at h
    · omega
    rename_i h1
    split at h
    · omega
    rename_i h2
    split at h
    · rename_i h3
      split at h
      · omega
      rename_i h4
      obtain ⟨a1, a2, a3, _⟩ := h0.1 h3
      exact ⟨by simpa using h1, by omega, a1, a2, a3, by omega⟩
    · rename_i h3; exact absurd h h3
  · rintro ⟨h1, h2, h3, h4, h5, h6⟩
    rw [if_neg (by simp [h1]), if_neg (by omega), if_pos (h0.2 ⟨h3, h4, h5, by simp⟩), if_neg (by omega)]
structure Upd where
  key : List UInt8
  dot : Dot
  item : List UInt8
  qty : Int
  price : UInt64
  seen : Cart
deriving DecidableEq
def mayE (u : Upd) : Int := if nameB u.key = false ∨ nameB u.item = false then 6 else if u.qty < 0 ∨ 1000000 < u.qty then 52 else if priceB u.price = false ∨ (u.qty = 0 ∧ u.price.toNat ≠ 0) then 53
  else if canE u.seen = 0 then (if mayD u.dot = false ∨ u.seen.ctx.covers u.dot = true then 1 else 0) else canE u.seen
def insE (e : Ent) : List Ent → List Ent
  | [] => [e]
  | x :: r => if ltE e x then e :: x :: r else x :: insE e r
abbrev Upd.ent (u : Upd) : Ent := ⟨u.item, u.dot, u.qty, u.price⟩
def clashE (a b : Cart) : Prop := ∃ x ∈ a.ents, ∃ y ∈ b.ents, x.dot = y.dot ∧ x ≠ y
instance (a b : Cart) : Decidable (clashE a b) := by unfold clashE; infer_instance
end Go.Fw
set_option linter.unusedVariables false
set_option linter.unusedSimpArgs false
namespace Go.Fw
open Go.RowKit
theorem insE_mem {e x : Ent} : ∀ {l : List Ent}, x ∈ insE e l ↔ x = e ∨ x ∈ l
  | [] => by simp [insE]
  | y :: r => by
    unfold insE
    split
    · simp
    · rw [List.mem_cons, insE_mem, List.mem_cons]
      constructor
      · rintro (h | h | h) <;> simp [h]
      · rintro (h | h | h) <;> simp [h]
theorem insE_len (e : Ent) : ∀ (l : List Ent), (insE e l).length = l.length + 1
  | [] => rfl
  | y :: r => by
    unfold insE
    split
    · rfl
    · rw [List.length_cons, insE_len e r, List.length_cons]
theorem insE_sorted {e : Ent} : ∀ {l : List Ent}, l.Pairwise ltE → (∀ x ∈ l, x.dot ≠ e.dot) → (insE e l).Pairwise ltE
  | [], _, _ => List.pairwise_singleton _ _
  | y :: r, h, hd => by
    obtain ⟨h1, h2⟩ := List.pairwise_cons.1 h
    unfold insE
    split
    · rename_i hlt
      refine List.pairwise_cons.2 ⟨fun z hz => ?_, h⟩
      rcases List.mem_cons.1 hz with rfl | hz
      · exact hlt
      · exact ltE_trans hlt (h1 z hz)
    · rename_i hlt
      refine List.pairwise_cons.2 ⟨fun z hz => ?_, insE_sorted h2 fun x hx => hd x (by simp [hx])⟩
      rcases insE_mem.1 hz with rfl | hz
      · exact (ltE_total (hd y (by simp))).resolve_right hlt
      · exact h1 z hz
section
variable {a b c : Cart} (ha : CartOk a) (hb : CartOk b)
include ha hb
end
structure UpdOk (u : Upd) : Prop where
  key : nameB u.key = true
  item : nameB u.item = true
  qty : 0 ≤ u.qty ∧ u.qty ≤ 1000000
  price : priceB u.price = true
  seen : CartOk u.seen
  dot : mayD u.dot = true
  new : u.seen.ctx.covers u.dot = false
theorem mayE_ok {u : Upd} (h : mayE u = 0) : UpdOk u := by
  unfold mayE at h
  split at h
  · omega
  rename_i h1
  split at h
  · omega
  rename_i h2
  split at h
  · omega
  rename_i h3
  split at h
  · rename_i h4
    split at h
    · omega
    rename_i h5
    rw [not_or] at h1 h3 h5
    exact ⟨by simpa using h1.1, by simpa using h1.2, by omega, by simpa using h3.1, (canE_ok _).1 h4, by simpa using h5.1, by simpa using h5.2⟩
  · rename_i h4
    exact absurd h h4
end Go.Fw
set_option linter.unusedVariables false
set_option linter.unusedSimpArgs false
namespace Go.Fw
open Go.RowKit
def valP (w : Nat) : Nat := if w < 4503599627370496 then w else (4503599627370496 + w % 4503599627370496) * 2 ^ (w / 4503599627370496 - 1)
theorem valP_lt {a b : Nat} (h : a < b) : valP a < valP b := by
  unfold valP
  have hpos : ∀ k : Nat, 1 ≤ 2 ^ k := fun k => Nat.one_le_two_pow
  by_cases h1 : b < 4503599627370496
  · rw [if_pos h1, if_pos (by omega)]; exact h
  rw [if_neg h1]
  have hb1 : 1 ≤ b / 4503599627370496 := by omega
  by_cases h2 : a < 4503599627370496
  · rw [if_pos h2]
    have := hpos (b / 4503599627370496 - 1)
    have h3 : 4503599627370496 + b % 4503599627370496 ≤ (4503599627370496 + b % 4503599627370496) * 2 ^ (b / 4503599627370496 - 1) := Nat.le_mul_of_pos_right _ this
    omega
  rw [if_neg h2]
  have hle : a / 4503599627370496 ≤ b / 4503599627370496 := Nat.div_le_div_right (by omega)
  rcases Nat.lt_or_ge (a / 4503599627370496) (b / 4503599627370496) with hlt | hge
  · have e : b / 4503599627370496 - 1 = (a / 4503599627370496 - 1) + 1 + (b / 4503599627370496 - a / 4503599627370496 - 1) := by omega
    have hm : a % 4503599627370496 < 4503599627370496 := Nat.mod_lt _ (by omega)
    calc (4503599627370496 + a % 4503599627370496) * 2 ^ (a / 4503599627370496 - 1)
        < (4503599627370496 * 2) * 2 ^ (a / 4503599627370496 - 1) := Nat.mul_lt_mul_of_pos_right (by omega) (hpos _)
      _ = 4503599627370496 * 2 ^ (a / 4503599627370496 - 1 + 1) := by rw [Nat.pow_succ, Nat.mul_assoc, Nat.mul_comm 2]
      _ ≤ 4503599627370496 * 2 ^ (b / 4503599627370496 - 1) := Nat.mul_le_mul_left _ (Nat.pow_le_pow_right (by omega) (by omega))
      _ ≤ (4503599627370496 + b % 4503599627370496) * 2 ^ (b / 4503599627370496 - 1) := Nat.mul_le_mul_right _ (by omega)
  · have e : a / 4503599627370496 = b / 4503599627370496 := by omega
    rw [e]
    refine Nat.mul_lt_mul_of_pos_right ?_ (hpos _)
    have := Nat.div_add_mod a 4503599627370496
    have := Nat.div_add_mod b 4503599627370496
    rw [e] at *
    omega
theorem valP_cmp (a b : Nat) : compare (valP a : Int) (valP b : Int) = compare (a : Int) (b : Int) := by
  rcases Nat.lt_trichotomy a b with h | h | h
  · have := valP_lt h
    rw [Int.compare_eq_lt.2 (by omega), Int.compare_eq_lt.2 (by omega)]
  · subst h
    rw [Int.compare_eq_eq.2 rfl, Int.compare_eq_eq.2 rfl]
  · have := valP_lt h
    rw [Int.compare_eq_gt.2 (by omega), Int.compare_eq_gt.2 (by omega)]
theorem read_pos {w : Nat} (h : w < 9218868437227405312) : Ieee.Format.read Ieee.double w = .number false (if w < 4503599627370496 then w else 4503599627370496 + w % 4503599627370496) (-1074 + (w / 4503599627370496 - 1 : Nat)) := by
  have h1 : w / 9223372036854775808 = 0 := Nat.div_eq_of_lt (by omega)
  have h2 : w % 9223372036854775808 = w := Nat.mod_eq_of_lt (by omega)
  have e1 : Ieee.Format.signWeight Ieee.double = 9223372036854775808 := by decide
  have e2 : Ieee.Format.binade Ieee.double = 4503599627370496 := by decide
  have e3 : Ieee.Format.infRung Ieee.double = 9218868437227405312 := by decide
  have e4 : Ieee.Format.leastPlace Ieee.double = -1074 := by decide
  unfold Ieee.Format.read
  simp only [e1, e2, e3, e4, h1, h2]
  by_cases h3 : w < 4503599627370496
  · rw [if_pos h3, if_pos h3, Nat.div_eq_of_lt h3]; rfl
  · rw [if_neg h3, if_neg h3, if_pos h]; rfl
theorem read_inf : Ieee.Format.read Ieee.double 9218868437227405312 = .infinity false := by decide
theorem read_nan {w : Nat} (h : 9218868437227405312 < w) (h2 : w < 9223372036854775808) : ∃ s f, Ieee.Format.read Ieee.double w = .nan s f := by
  have h1 : w / 9223372036854775808 = 0 := Nat.div_eq_of_lt (by omega)
  have h2 : w % 9223372036854775808 = w := Nat.mod_eq_of_lt (by omega)
  have e1 : Ieee.Format.signWeight Ieee.double = 9223372036854775808 := by decide
  have e2 : Ieee.Format.binade Ieee.double = 4503599627370496 := by decide
  have e3 : Ieee.Format.infRung Ieee.double = 9218868437227405312 := by decide
  unfold Ieee.Format.read
  simp only [e1, e2, e3, h1, h2]
  rw [if_neg (by omega), if_neg (by omega), if_neg (by omega)]
  exact ⟨_, _, rfl⟩
theorem order_pos {a b : Nat} (ha : a < 9218868437227405312) (hb : b < 9218868437227405312) : Ieee.Format.order Ieee.double a b = some (compare (a : Int) (b : Int)) := by
  unfold Ieee.Format.order
  rw [read_pos ha, read_pos hb]
  unfold Ieee.Datum.order
  rw [← valP_cmp]
  simp only [Option.some.injEq]
  have key : ∀ w : Nat, ∀ base : Nat, base ≤ w / 4503599627370496 - 1 → ((valP w : Nat) : Int) = Ieee.signed false (if w < 4503599627370496 then w else 4503599627370496 + w % 4503599627370496) ((w / 4503599627370496 - 1) - base) * ((2 ^ base : Nat) : Int) := fun w base hb => by
    unfold Ieee.signed valP
    rw [if_neg (show ¬ (false = true) by decide), Nat.shiftLeft_eq]
    by_cases h : w < 4503599627370496
    · have h0 : w / 4503599627370496 = 0 := Nat.div_eq_of_lt h
      obtain rfl : base = 0 := by omega
      rw [if_pos h, if_pos h, h0]
      simp
    · rw [if_neg h, if_neg h, ← Int.natCast_mul, Nat.mul_assoc, ← Nat.pow_add]
      congr 3
      omega
  have hmin : ∀ x y : Nat, min (-1074 + (x : Int)) (-1074 + (y : Int)) = -1074 + ((min x y : Nat) : Int) := fun x y => by omega
  have hsub : ∀ x y : Nat, ((-1074 + (x : Int)) - (-1074 + (y : Int))).toNat = x - y := fun x y => by omega
  rw [hmin, hsub, hsub, key a (min (a / 4503599627370496 - 1) (b / 4503599627370496 - 1)) (by omega), key b (min (a / 4503599627370496 - 1) (b / 4503599627370496 - 1)) (by omega)]
  have hp : (0 : Int) < ((2 ^ (min (a / 4503599627370496 - 1) (b / 4503599627370496 - 1)) : Nat) : Int) := by
    have : 0 < 2 ^ (min (a / 4503599627370496 - 1) (b / 4503599627370496 - 1)) := Nat.two_pow_pos _
    omega
  generalize ((2 ^ (min (a / 4503599627370496 - 1) (b / 4503599627370496 - 1)) : Nat) : Int) = q at hp
  generalize Ieee.signed false _ (a / 4503599627370496 - 1 - _) = x
  generalize Ieee.signed false _ (b / 4503599627370496 - 1 - _) = y
  rcases Int.lt_trichotomy x y with h | h | h
  · rw [Int.compare_eq_lt.2 h, Int.compare_eq_lt.2 (Int.mul_lt_mul_of_pos_right h hp)]
  · subst h
    rw [Int.compare_eq_eq.2 rfl, Int.compare_eq_eq.2 rfl]
  · rw [Int.compare_eq_gt.2 h, Int.compare_eq_gt.2 (Int.mul_lt_mul_of_pos_right h hp)]
theorem order_inf {a : Nat} (ha : a < 9218868437227405312) : Ieee.Format.order Ieee.double a 9218868437227405312 = some .lt ∧ Ieee.Format.order Ieee.double 9218868437227405312 a = some .gt := by
  unfold Ieee.Format.order
  rw [read_pos ha, read_inf]
  exact ⟨rfl, rfl⟩
theorem order_infs : Ieee.Format.order Ieee.double 9218868437227405312 9218868437227405312 = some .eq := by decide
theorem order_any {a b : Nat} (ha : a ≤ 9218868437227405312) (hb : b ≤ 9218868437227405312) : Ieee.Format.order Ieee.double a b = some (compare (a : Int) (b : Int)) := by
  rcases Nat.lt_or_eq_of_le ha with ha | rfl
  · rcases Nat.lt_or_eq_of_le hb with hb | rfl
    · exact order_pos ha hb
    · rw [(order_inf ha).1, Int.compare_eq_lt.2 (by omega)]
  · rcases Nat.lt_or_eq_of_le hb with hb | rfl
    · rw [(order_inf hb).2, Int.compare_eq_gt.2 (by omega)]
    · rw [order_infs, Int.compare_eq_eq.2 rfl]
theorem order_nan {a b : Nat} (h : 9218868437227405312 < a) (h2 : a < 9223372036854775808) : Ieee.Format.order Ieee.double a b = none := by
  obtain ⟨s, f, e⟩ := read_nan h h2
  unfold Ieee.Format.order
  rw [e]
  unfold Ieee.Datum.order
  rfl
theorem read_neg {w : Nat} (h : 9223372036854775808 < w) (h2 : w < 18446744073709551616) : (∃ m i, Ieee.Format.read Ieee.double w = .number true (m + 1) i) ∨ Ieee.Format.read Ieee.double w = .infinity true ∨ ∃ s f, Ieee.Format.read Ieee.double w = .nan s f := by
  have h1 : w / 9223372036854775808 = 1 := by omega
  have e1 : Ieee.Format.signWeight Ieee.double = 9223372036854775808 := by decide
  have e2 : Ieee.Format.binade Ieee.double = 4503599627370496 := by decide
  have e3 : Ieee.Format.infRung Ieee.double = 9218868437227405312 := by decide
  have e4 : Ieee.Format.leastPlace Ieee.double = -1074 := by decide
  unfold Ieee.Format.read
  simp only [e1, e2, e3, e4, h1]
  have h3 : w % 9223372036854775808 = w - 9223372036854775808 := by omega
  rw [h3]
  obtain ⟨r, hr⟩ : ∃ r, w - 9223372036854775808 = r + 1 := ⟨w - 9223372036854775808 - 1, by omega⟩
  rw [hr]
  split
  · exact .inl ⟨_, _, rfl⟩
  · split
    · refine .inl ⟨4503599627370495 + (r + 1) % 4503599627370496, -1074 + ((r + 1) / 4503599627370496 - 1 : Nat), ?_⟩
      rw [show 4503599627370495 + (r + 1) % 4503599627370496 + 1 = 4503599627370496 + (r + 1) % 4503599627370496 by omega]
      rfl
    · split
      · exact .inr (.inl rfl)
      · exact .inr (.inr ⟨_, _, rfl⟩)
theorem order_below {w : Nat} (h : 9223372036854775808 < w) (h2 : w < 18446744073709551616) : Ieee.Format.order Ieee.double w 0 = some .lt ∨ Ieee.Format.order Ieee.double w 0 = none := by
  have h0 : Ieee.Format.read Ieee.double 0 = .number false 0 (-1074) := by decide
  unfold Ieee.Format.order
  rw [h0]
  rcases read_neg h h2 with ⟨m, i, e⟩ | e | ⟨s, f, e⟩
  · rw [e]
    left
    unfold Ieee.Datum.order
    simp only [Option.some.injEq]
    refine Int.compare_eq_lt.2 ?_
    unfold Ieee.signed
    have : 0 < (m + 1) <<< (i - min i (-1074)).toNat := by rw [Nat.shiftLeft_eq]; exact Nat.mul_pos (by omega) (Nat.two_pow_pos _)
    generalize (m + 1) <<< (i - min i (-1074)).toNat = q at this
    rw [if_pos rfl, if_neg (show ¬ (false = true) by decide), Nat.zero_shiftLeft]
    omega
  · rw [e]; left; rfl
  · rw [e]; right; rfl
theorem price_ge (p : UInt64) : (Ieee.Format.order Ieee.double p.toNat 0 == some .gt || Ieee.Format.order Ieee.double p.toNat 0 == some .eq) = priceB p := by
  have hp := p.toNat_lt
  unfold priceB
  generalize p.toNat = w at *
  by_cases h1 : w ≤ 9218868437227405312
  · rw [order_any h1 (by omega), decide_eq_true h1, Bool.true_or]
    rcases Nat.eq_zero_or_pos w with h | h
    · subst h; rfl
    · rw [Int.compare_eq_gt.2 (by omega)]; rfl
  · rw [decide_eq_false h1, Bool.false_or]
    by_cases h2 : w = 9223372036854775808
    · subst h2; decide
    · rw [decide_eq_false h2]
      by_cases h3 : w < 9223372036854775808
      · rw [order_nan (by omega) h3]; rfl
      · rcases order_below (w := w) (by omega) (by omega) with e | e <;> rw [e] <;> rfl
theorem runOf_drop (s : List UInt8) (l : List Ent) : runOf s l ++ l.drop (runOf s l).length = l := by
  induction l with
  | nil => rfl
  | cons x r ih =>
    unfold runOf at *
    rw [List.takeWhile_cons]
    split
    · rw [List.cons_append, List.length_cons, List.drop_succ_cons, ih]
    · rfl
end Go.Fw
namespace Go.Proofs.YtakpdbmdfnialaaGreat
open Go.Fw Go.Proofs Go.RowKit Go.Proofs.Tryz
set_option linter.unusedVariables false
set_option linter.unusedSimpArgs false
set_option maxRecDepth 100000
theorem inf30 : InfoT Tryz.prog 30 (.agg #[Value.int .i64 0, Value.int .i64 0, Value.int .i64 0]) 3 24 := by unfold InfoT; kernel_rfl
theorem eq30 {x0 y0 : Int} {x1 y1 : Int} {x2 y2 : Int} : EqT Tryz.prog 30 [.int .i64 x0, .int .i64 x1, .int .i64 x2] [.int .i64 y0, .int .i64 y1, .int .i64 y2] (decide (x0 = y0 ∧ x1 = y1 ∧ x2 = y2)) := EqT.mk (k := 1) (d := 9998) underlying30 Tryz.stoodInHeld30 Tryz.eqGuardType30 rfl (FEq.int (nm := "Node") (by decide) underlying3 isAgg3 rfl rfl (FEq.int (nm := "Life") (by decide) underlying3 isAgg3 rfl rfl (FEq.int (nm := "Count") (by decide) underlying3 isAgg3 rfl rfl FEq.nil))) (by rw [Bool.eq_iff_iff]; simp [Bool.and_eq_true, decide_eq_true_eq, and_assoc])
theorem bld35 : BuildT Tryz.prog 35 [Value.slice none 0 0, Value.slice none 0 0] [(0, 1), (1, 1)] := ⟨⟨_, zeroValue35, rfl⟩, _, underlying35, fun w => by simp [sizeOf32, sizeOf33]⟩
theorem bld37 : BuildT Tryz.prog 37 [Value.slice none 0 0, Value.slice none 0 0, Value.slice none 0 0] [(0, 1), (1, 2)] := ⟨⟨_, zeroValue37, rfl⟩, _, underlying37, fun w => by simp [sizeOf31, sizeOf35]⟩
theorem inf37 : InfoT Tryz.prog 37 (.agg #[Value.slice none 0 0, Value.slice none 0 0, Value.slice none 0 0]) 3 72 := by unfold InfoT; kernel_rfl
theorem bld66 : BuildT Tryz.prog 66 [Value.int .i64 0, Value.int .i64 0] [(0, 1), (1, 1)] := ⟨⟨_, zeroValue66, rfl⟩, _, underlying66, fun w => by simp [sizeOf3]⟩
theorem eq66 {x0 y0 : Int} {x1 y1 : Int} : EqT Tryz.prog 66 [.int .i64 x0, .int .i64 x1] [.int .i64 y0, .int .i64 y1] (decide (x0 = y0 ∧ x1 = y1)) := EqT.mk (k := 1) (d := 9998) underlying66 Tryz.stoodInHeld66 Tryz.eqGuardType66 rfl (FEq.int (nm := "Node") (by decide) underlying3 isAgg3 rfl rfl (FEq.int (nm := "Life") (by decide) underlying3 isAgg3 rfl rfl FEq.nil)) (by rw [Bool.eq_iff_iff]; simp [Bool.and_eq_true, decide_eq_true_eq, and_assoc])
theorem bld74 : BuildT Tryz.prog 74 [Value.int .i64 0, Value.int .i64 0, Value.int .i64 0] [(0, 1), (1, 1), (2, 1)] := ⟨⟨_, zeroValue74, rfl⟩, _, underlying74, fun w => by simp [sizeOf3]⟩
theorem inf74 : InfoT Tryz.prog 74 (.agg #[Value.int .i64 0, Value.int .i64 0, Value.int .i64 0]) 3 24 := by unfold InfoT; kernel_rfl
theorem eq74 {x0 y0 : Int} {x1 y1 : Int} {x2 y2 : Int} : EqT Tryz.prog 74 [.int .i64 x0, .int .i64 x1, .int .i64 x2] [.int .i64 y0, .int .i64 y1, .int .i64 y2] (decide (x0 = y0 ∧ x1 = y1 ∧ x2 = y2)) := EqT.mk (k := 1) (d := 9998) underlying74 Tryz.stoodInHeld74 Tryz.eqGuardType74 rfl (FEq.int (nm := "Node") (by decide) underlying3 isAgg3 rfl rfl (FEq.int (nm := "Life") (by decide) underlying3 isAgg3 rfl rfl (FEq.int (nm := "Count") (by decide) underlying3 isAgg3 rfl rfl FEq.nil))) (by rw [Bool.eq_iff_iff]; simp [Bool.and_eq_true, decide_eq_true_eq, and_assoc])
theorem bld77 : BuildT Tryz.prog 77 [Value.string ⟨#[]⟩, Value.int .i64 0, Value.int .i64 0, Value.int .i64 0, Value.string ⟨#[]⟩, Value.int .i64 0, Value.int .u64 0, Value.slice none 0 0, Value.slice none 0 0, Value.slice none 0 0] [(0, 1), (1, 3), (4, 1), (5, 1), (6, 1), (7, 3)] := ⟨⟨_, zeroValue77, rfl⟩, _, underlying77, fun w => by simp [sizeOf3, sizeOf37, sizeOf74, sizeOf75, sizeOf9]⟩
theorem inf77 : InfoT Tryz.prog 77 (.agg #[Value.string ⟨#[]⟩, Value.int .i64 0, Value.int .i64 0, Value.int .i64 0, Value.string ⟨#[]⟩, Value.int .i64 0, Value.int .u64 0, Value.slice none 0 0, Value.slice none 0 0, Value.slice none 0 0]) 10 144 := by unfold InfoT; kernel_rfl
theorem bld96 : BuildT Tryz.prog 96 [Value.int .i64 0, Value.int .i64 0, Value.int .i64 0, Value.string ⟨#[]⟩, Value.int .i64 0, Value.int .i64 0, Value.int .i64 0, Value.string ⟨#[]⟩, Value.int .i64 0, Value.int .u64 0, Value.slice none 0 0, Value.slice none 0 0, Value.slice none 0 0, Value.int .i64 0, Value.int .i64 0, Value.string ⟨#[]⟩, Value.slice none 0 0, Value.slice none 0 0, Value.slice none 0 0, Value.slice none 0 0, Value.slice none 0 0, Value.slice none 0 0] [(0, 1), (1, 1), (2, 1), (3, 10), (13, 2), (15, 1), (16, 3), (19, 3)] := ⟨⟨_, zeroValue96, rfl⟩, _, underlying96, fun w => by simp [sizeOf3, sizeOf37, sizeOf66, sizeOf77, sizeOf9]⟩
theorem bld100 : BuildT Tryz.prog 100 [Value.string ⟨#[]⟩, Value.int .i64 0, Value.int .i64 0, Value.int .i64 0, Value.int .i64 0, Value.int .u64 0] [(0, 1), (1, 3), (4, 1), (5, 1)] := ⟨⟨_, zeroValue100, rfl⟩, _, underlying100, fun w => by simp [sizeOf3, sizeOf74, sizeOf75, sizeOf9]⟩
theorem inf100 : InfoT Tryz.prog 100 (.agg #[Value.string ⟨#[]⟩, Value.int .i64 0, Value.int .i64 0, Value.int .i64 0, Value.int .i64 0, Value.int .u64 0]) 6 56 := by unfold InfoT; kernel_rfl
theorem eq100 {x0 y0 : ByteArray} {x1 y1 : Int} {x2 y2 : Int} {x3 y3 : Int} {x4 y4 : Int} {x5 y5 : Int} : EqT Tryz.prog 100 [.string x0, .int .i64 x1, .int .i64 x2, .int .i64 x3, .int .i64 x4, .int .u64 x5] [.string y0, .int .i64 y1, .int .i64 y2, .int .i64 y3, .int .i64 y4, .int .u64 y5] (decide (x0 = y0 ∧ x1 = y1 ∧ x2 = y2 ∧ x3 = y3 ∧ x4 = y4 ∧ x5 = y5)) := EqT.mk (k := 2) (d := 9997) underlying100 Tryz.stoodInHeld100 Tryz.eqGuardType100 rfl (FEq.str (nm := "Item") (by decide) underlying9 isAgg9 rfl rfl (FEq.agg (nm := "Dot") (by decide) underlying74 Tryz.stoodInHeld74 isAgg74 sizeOf74 rfl rfl (FEq.int (nm := "Node") (by decide) underlying3 isAgg3 rfl rfl (FEq.int (nm := "Life") (by decide) underlying3 isAgg3 rfl rfl (FEq.int (nm := "Count") (by decide) underlying3 isAgg3 rfl rfl FEq.nil))) (FEq.int (nm := "Qty") (by decide) underlying3 isAgg3 rfl rfl (FEq.int (nm := "Price") (by decide) underlying75 isAgg75 rfl rfl FEq.nil)))) (by rw [Bool.eq_iff_iff]; simp [Bool.and_eq_true, decide_eq_true_eq, and_assoc])
theorem bld173 : BuildT Tryz.prog 173 [Value.string ⟨#[]⟩, Value.int .i64 0, Value.int .i64 0, Value.int .i64 0] [(0, 1), (1, 3)] := ⟨⟨_, zeroValue173, rfl⟩, _, underlying173, fun w => by simp [sizeOf74, sizeOf9]⟩
theorem eq173 {x0 y0 : ByteArray} {x1 y1 : Int} {x2 y2 : Int} {x3 y3 : Int} : EqT Tryz.prog 173 [.string x0, .int .i64 x1, .int .i64 x2, .int .i64 x3] [.string y0, .int .i64 y1, .int .i64 y2, .int .i64 y3] (decide (x0 = y0 ∧ x1 = y1 ∧ x2 = y2 ∧ x3 = y3)) := EqT.mk (k := 2) (d := 9997) underlying173 Tryz.stoodInHeld173 Tryz.eqGuardType173 rfl (FEq.str (nm := "key") (by decide) underlying9 isAgg9 rfl rfl (FEq.agg (nm := "dot") (by decide) underlying74 Tryz.stoodInHeld74 isAgg74 sizeOf74 rfl rfl (FEq.int (nm := "Node") (by decide) underlying3 isAgg3 rfl rfl (FEq.int (nm := "Life") (by decide) underlying3 isAgg3 rfl rfl (FEq.int (nm := "Count") (by decide) underlying3 isAgg3 rfl rfl FEq.nil))) FEq.nil)) (by rw [Bool.eq_iff_iff]; simp [Bool.and_eq_true, decide_eq_true_eq, and_assoc])
end Go.Proofs.YtakpdbmdfnialaaGreat
set_option linter.unusedVariables false
set_option linter.unusedSimpArgs false
set_option maxRecDepth 100000
set_option maxHeartbeats 4000000
namespace Go.Proofs.YtakpdbmdfnialaaGreat
open Go.Fw Go.Proofs Go.RowKit Go.Proofs.Tryz
section
variable {n : Nat} {w0 : World} {K : KL} {L : List Chunk} {b : Bool} {dst : Option Tmp} {ty : TypeId} {pos : String} {aft : Array Edge} {gd : Option (Nat × Bool)} {ts : Array TypeId}
theorem y241 {x y : Operand} {l m : List UInt8} (hx : Ev n b K x (.string (bs l))) (hy : Ev n b K y (.string (bs m))) : Yr Tryz.prog ⟨dst, .call ⟨.value (.func 241), #[x, y], ts⟩, ty, pos, aft, gd⟩ n K w0 L b (.int .i64 (cmpB l m)) :=
  ys_extern (F := Extern.BytealgCompare.compare) func241 (by kernel_rfl) (by kernel_rfl) (by kernel_rfl) (by kernel_rfl) (.cons hx (.cons hy .nil)) (fun w => by
    have h := Lib.run_compareString (P := Tryz.prog) (bs l) (bs m) w
    rw [cmpL_eq] at h
    exact h)
end
theorem c231 (w0 : World) (l m : List UInt8) : Calls Tryz.prog 231 #[.string (bs l), .string (bs m)] w0 fun e w' => e = .returned (.int .i64 (cmpB l m)) ∧ Bel w0.heap.size w0 w' := by
  refine enter2 func231 rfl ntmps231 rfl fun a S => sg S (.ac rfl <| .z) fun a w S => sg S (.mv rfl <| .mv rfl <| .yy (y241 (.t rfl) (.t rfl)) rfl <| .as rfl <| .z) fun a w S => wp_ret (st_ret S (results1 S results231 (Rv.tmp rfl)) ?_)
  exact ⟨rfl, S.wd.below⟩
theorem c211 (w0 : World) (l m : List UInt8) : Calls Tryz.prog 211 #[.string (bs l), .string (bs m)] w0 fun e w' => e = .returned (.int .i64 (cmpB l m)) ∧ Bel w0.heap.size w0 w' := by
  refine enter2 func211 rfl ntmps211 rfl fun a S => sg S (.ac rfl <| .z) fun a w S => sg S (.mv rfl <| .mv rfl <| .xx (ys_call call231 (.cons (.t rfl) (.cons (.t rfl) .nil)) (fun hp w W => c231 _ _ _)) rfl <| .as rfl <| .z) fun a w S => wp_ret (st_ret S (results1 S results211 (Rv.tmp rfl)) ?_)
  exact ⟨rfl, S.wd.below⟩
theorem c179 (w0 : World) (a b : Ent) (ha : mayD a.dot = true) (hb : mayD b.dot = true) : Calls Tryz.prog 179 #[.agg (Ent.enc a).toArray, .agg (Ent.enc b).toArray] w0 fun e w' => e = .returned (.int .i64 (ordE a b)) ∧ Bel w0.heap.size w0 w' := by
  obtain ⟨s, ⟨d1, d2, d3⟩, q, p⟩ := a
  obtain ⟨s', ⟨e1, e2, e3⟩, q', p'⟩ := b
  have hl := may_lim ha
  have hl' := may_lim hb
  dsimp only at hl hl'
  dsimp only [Ent.enc]
  unfold ordE orderD
  dsimp only
  have hc : cmpB s s' = if Op.bytesLess s s' = true then -1 else if s = s' then 0 else 1 := rfl
  have rw_1 : (0 : Int) + 1 = ((1 : Nat) : Int) := rfl
  have rw_2 : ((1 : Nat) : Int) + 1 = ((2 : Nat) : Int) := rfl
  have rw_3 : ((2 : Nat) : Int) + 1 = ((3 : Nat) : Int) := rfl
  generalize rw_c : cmpB s s' = c at *
  by_cases hc0 : c = 0
  rotate_left
  · have e : c = if Op.bytesLess s s' = true then -1 else if s = s' then (if d1 ≠ e1 then d1 - e1 else if d2 ≠ e2 then d2 - e2 else d3 - e3) else 1 := by
      rw [hc] at hc0 ⊢
      by_cases h1 : Op.bytesLess s s' = true
      · rw [if_pos h1, if_pos h1]
      · by_cases h2 : s = s'
        · rw [if_neg h1, if_pos h2] at hc0; exact absurd rfl hc0
        · rw [if_neg h1, if_neg h2, if_neg h1, if_neg h2]
    rw [← e]
    clear e hc
    refine enter2 func179 rfl ntmps179 rfl fun a S => wp_seq_k fun _ hK1 => wp_region_lit (st_m (op_box S (.t rfl) rfl fun g1 a w S => st_m (op_box S (.t rfl) rfl fun g2 a w S => run S (.ac rfl <| .z) fun a w S => st_nil (then_normal (hK1 _ _ (wp_seq_k fun _ hK1 => wp_region_lit (run S (.fa underlying100 sizeOf9 0 rfl rfl rfl <| .ld gt9 1 rfl rfl rfl <| .fa underlying100 sizeOf9 0 rfl rfl rfl <| .ld gt9 0 rfl rfl rfl <| .xx (ys_call call211 (.cons (.t rfl) (.cons (.t rfl) .nil)) (fun hp w W => c211 _ _ _)) rfl <| .z) fun a w S => ?_)))))))
    rw [rw_c] at S
    refine run S (.as rfl <| .z) fun a w S => st_nil (then_normal (hK1 _ _ (wp_seq_k fun _ hK1 => wp_seq_k fun _ hK2 => wp_region_lit (run S (.fa underlying100 sizeOf74 1 rfl rfl rfl <| .fa underlying74 sizeOf3 1 rfl rfl rfl <| .ld gt3 1 rfl rfl rfl <| .fa underlying100 sizeOf74 1 rfl rfl rfl <| .fa underlying74 sizeOf3 1 rfl rfl rfl <| .ld gt3 0 rfl rfl rfl <| .yy (ys_subI (.t rfl) (.t rfl) (fun _ => by unfold I64; omega)) rfl <| .fa underlying100 sizeOf74 1 rfl rfl rfl <| .fa underlying74 sizeOf3 2 rfl rfl rfl <| .ld gt3 1 rfl rfl rfl <| .fa underlying100 sizeOf74 1 rfl rfl rfl <| .fa underlying74 sizeOf3 2 rfl rfl rfl <| .ld gt3 0 rfl rfl rfl <| .yy (ys_subI (.t rfl) (.t rfl) (fun _ => by unfold I64; omega)) rfl <| .fa underlying100 sizeOf74 1 rfl rfl rfl <| .fa underlying74 sizeOf3 3 rfl rfl rfl <| .ld gt3 1 rfl rfl rfl <| .fa underlying100 sizeOf74 1 rfl rfl rfl <| .fa underlying74 sizeOf3 3 rfl rfl rfl <| .ld gt3 0 rfl rfl rfl <| .yy (ys_subI (.t rfl) (.t rfl) (fun _ => by unfold I64; omega)) rfl <| .z) fun a w S => st_m (op_bsliceZ (ps := [(0, Go.Operand.tmp 19), (1, Go.Operand.tmp 26), (2, Go.Operand.tmp 33)]) (us := [_, _, _]) S underlying202 sizeOf3 zeroValue3 rfl rfl (.cons (.t rfl) (.cons (.t rfl) (.cons (.t rfl) .nil))) rfl rfl fun g3 a w S => ?_)))))
    refine run S (.ln underlying202 rfl <| .mc rfl <| .z) fun a w S => st_nil (then_normal (hK2 _ _ (wp_block (st_rounds 4 (st_round (sg S (.lt (by omega) rfl rfl <| .z) fun a w S => wp_seq_k fun _ hK2 => st_then S (.t rfl) (wp_skip (then_normal (hK2 _ _ (wp_seq_k fun _ hK2 => wp_block (sg S (.yy (ys_ixS (j := 0) underlying202 sizeOf3 (.t rfl) (.t rfl) (fun _ => by omega)) rfl <| .ld gt3 0 rfl rfl rfl <| .as rfl <| .z) fun a w S => sg S (.mv rfl <| .yy (ys_F (by omega) (ys_eql (.t rfl) Ev.c)) rfl <| .z) fun a w S => st_else S (.t rfl) (wp_skip (in_normal (then_normal (hK2 _ _ (wp_region_lit (run S (.ad (by unfold I64; omega) rfl <| .z) fun a w S => ?_)))))))))))))))))
    rw [rw_1] at S
    refine run S (.mv rfl <| .z) fun a w S => st_nil (then_normal (st_round (sg S (.lt (by omega) rfl rfl <| .z) fun a w S => wp_seq_k fun _ hK2 => st_then S (.t rfl) (wp_skip (then_normal (hK2 _ _ (wp_seq_k fun _ hK2 => wp_block (sg S (.yy (ys_ixS (j := 1) underlying202 sizeOf3 (.t rfl) (.t rfl) (fun _ => by omega)) rfl <| .ld gt3 0 rfl rfl rfl <| .as rfl <| .z) fun a w S => sg S (.mv rfl <| .yy (ys_F (by omega) (ys_eql (.t rfl) Ev.c)) rfl <| .z) fun a w S => st_else S (.t rfl) (wp_skip (in_normal (then_normal (hK2 _ _ (wp_region_lit (run S (.ad (by unfold I64; omega) rfl <| .z) fun a w S => ?_))))))))))))))
    rw [rw_2] at S
    refine run S (.mv rfl <| .z) fun a w S => st_nil (then_normal (st_round (sg S (.lt (by omega) rfl rfl <| .z) fun a w S => wp_seq_k fun _ hK2 => st_then S (.t rfl) (wp_skip (then_normal (hK2 _ _ (wp_seq_k fun _ hK2 => wp_block (sg S (.yy (ys_ixS (j := 2) underlying202 sizeOf3 (.t rfl) (.t rfl) (fun _ => by omega)) rfl <| .ld gt3 0 rfl rfl rfl <| .as rfl <| .z) fun a w S => sg S (.mv rfl <| .yy (ys_F (by omega) (ys_eql (.t rfl) Ev.c)) rfl <| .z) fun a w S => st_else S (.t rfl) (wp_skip (in_normal (then_normal (hK2 _ _ (wp_region_lit (run S (.ad (by unfold I64; omega) rfl <| .z) fun a w S => ?_))))))))))))))
    rw [rw_3] at S
    refine run S (.mv rfl <| .z) fun a w S => st_nil (then_normal (st_round (sg S (.ge (by omega) rfl rfl <| .z) fun a w S => wp_seq_k fun _ hK2 => st_else S (.t rfl) (wp_exit (then_exit (then_exit (in_here (then_normal (hK1 _ _ (sg S (.mv rfl <| .as rfl <| .z) fun a w S => wp_ret (st_ret S (results1 S results179 (Rv.tmp rfl)) ?_)))))))))))
    exact ⟨rfl, S.wd.below⟩
  have hs : ¬ Op.bytesLess s s' = true ∧ s = s' := by
    rw [hc] at hc0
    by_cases h1 : Op.bytesLess s s' = true
    · rw [if_pos h1] at hc0; cases hc0
    · by_cases h2 : s = s'
      · exact ⟨h1, h2⟩
      · rw [if_neg h1, if_neg h2] at hc0; cases hc0
  rw [if_neg hs.1, if_pos hs.2]
  clear hs hc
  subst hc0
  by_cases h1 : d1 = e1
  rotate_left
  · rw [if_pos h1]
    refine enter2 func179 rfl ntmps179 rfl fun a S => wp_seq_k fun _ hK1 => wp_region_lit (st_m (op_box S (.t rfl) rfl fun g1 a w S => st_m (op_box S (.t rfl) rfl fun g2 a w S => run S (.ac rfl <| .z) fun a w S => st_nil (then_normal (hK1 _ _ (wp_seq_k fun _ hK1 => wp_region_lit (run S (.fa underlying100 sizeOf9 0 rfl rfl rfl <| .ld gt9 1 rfl rfl rfl <| .fa underlying100 sizeOf9 0 rfl rfl rfl <| .ld gt9 0 rfl rfl rfl <| .xx (ys_call call211 (.cons (.t rfl) (.cons (.t rfl) .nil)) (fun hp w W => c211 _ _ _)) rfl <| .z) fun a w S => ?_)))))))
    rw [rw_c] at S
    refine run S (.as rfl <| .z) fun a w S => st_nil (then_normal (hK1 _ _ (wp_seq_k fun _ hK1 => wp_seq_k fun _ hK2 => wp_region_lit (run S (.fa underlying100 sizeOf74 1 rfl rfl rfl <| .fa underlying74 sizeOf3 1 rfl rfl rfl <| .ld gt3 1 rfl rfl rfl <| .fa underlying100 sizeOf74 1 rfl rfl rfl <| .fa underlying74 sizeOf3 1 rfl rfl rfl <| .ld gt3 0 rfl rfl rfl <| .yy (ys_subI (.t rfl) (.t rfl) (fun _ => by unfold I64; omega)) rfl <| .fa underlying100 sizeOf74 1 rfl rfl rfl <| .fa underlying74 sizeOf3 2 rfl rfl rfl <| .ld gt3 1 rfl rfl rfl <| .fa underlying100 sizeOf74 1 rfl rfl rfl <| .fa underlying74 sizeOf3 2 rfl rfl rfl <| .ld gt3 0 rfl rfl rfl <| .yy (ys_subI (.t rfl) (.t rfl) (fun _ => by unfold I64; omega)) rfl <| .fa underlying100 sizeOf74 1 rfl rfl rfl <| .fa underlying74 sizeOf3 3 rfl rfl rfl <| .ld gt3 1 rfl rfl rfl <| .fa underlying100 sizeOf74 1 rfl rfl rfl <| .fa underlying74 sizeOf3 3 rfl rfl rfl <| .ld gt3 0 rfl rfl rfl <| .yy (ys_subI (.t rfl) (.t rfl) (fun _ => by unfold I64; omega)) rfl <| .z) fun a w S => st_m (op_bsliceZ (ps := [(0, Go.Operand.tmp 19), (1, Go.Operand.tmp 26), (2, Go.Operand.tmp 33)]) (us := [_, _, _]) S underlying202 sizeOf3 zeroValue3 rfl rfl (.cons (.t rfl) (.cons (.t rfl) (.cons (.t rfl) .nil))) rfl rfl fun g3 a w S => ?_)))))
    refine run S (.ln underlying202 rfl <| .mc rfl <| .z) fun a w S => st_nil (then_normal (hK2 _ _ (wp_block (st_rounds 4 (st_round (sg S (.lt (by omega) rfl rfl <| .z) fun a w S => wp_seq_k fun _ hK2 => st_then S (.t rfl) (wp_skip (then_normal (hK2 _ _ (wp_seq_k fun _ hK2 => wp_block (sg S (.yy (ys_ixS (j := 0) underlying202 sizeOf3 (.t rfl) (.t rfl) (fun _ => by omega)) rfl <| .ld gt3 0 rfl rfl rfl <| .as rfl <| .z) fun a w S => sg S (.mv rfl <| .yy (ys_T (by omega) (ys_eql (.t rfl) Ev.c)) rfl <| .z) fun a w S => st_then S (.t rfl) (wp_region_lit (run S (.mv rfl <| .as rfl <| .z) fun a w S => st_nil (in_normal (then_normal (hK2 _ _ (wp_region_lit (run S (.ad (by unfold I64; omega) rfl <| .z) fun a w S => ?_))))))))))))))))))
    rw [rw_1] at S
    refine run S (.mv rfl <| .z) fun a w S => st_nil (then_normal (st_round (sg S (.lt (by omega) rfl rfl <| .z) fun a w S => wp_seq_k fun _ hK2 => st_then S (.t rfl) (wp_skip (then_normal (hK2 _ _ (wp_seq_k fun _ hK2 => wp_block (sg S (.yy (ys_ixS (j := 1) underlying202 sizeOf3 (.t rfl) (.t rfl) (fun _ => by omega)) rfl <| .ld gt3 0 rfl rfl rfl <| .as rfl <| .z) fun a w S => sg S (.mv rfl <| .yy (ys_F (by omega) (ys_eql (.t rfl) Ev.c)) rfl <| .z) fun a w S => st_else S (.t rfl) (wp_skip (in_normal (then_normal (hK2 _ _ (wp_region_lit (run S (.ad (by unfold I64; omega) rfl <| .z) fun a w S => ?_))))))))))))))
    rw [rw_2] at S
    refine run S (.mv rfl <| .z) fun a w S => st_nil (then_normal (st_round (sg S (.lt (by omega) rfl rfl <| .z) fun a w S => wp_seq_k fun _ hK2 => st_then S (.t rfl) (wp_skip (then_normal (hK2 _ _ (wp_seq_k fun _ hK2 => wp_block (sg S (.yy (ys_ixS (j := 2) underlying202 sizeOf3 (.t rfl) (.t rfl) (fun _ => by omega)) rfl <| .ld gt3 0 rfl rfl rfl <| .as rfl <| .z) fun a w S => sg S (.mv rfl <| .yy (ys_F (by omega) (ys_eql (.t rfl) Ev.c)) rfl <| .z) fun a w S => st_else S (.t rfl) (wp_skip (in_normal (then_normal (hK2 _ _ (wp_region_lit (run S (.ad (by unfold I64; omega) rfl <| .z) fun a w S => ?_))))))))))))))
    rw [rw_3] at S
    refine run S (.mv rfl <| .z) fun a w S => st_nil (then_normal (st_round (sg S (.ge (by omega) rfl rfl <| .z) fun a w S => wp_seq_k fun _ hK2 => st_else S (.t rfl) (wp_exit (then_exit (then_exit (in_here (then_normal (hK1 _ _ (sg S (.mv rfl <| .as rfl <| .z) fun a w S => wp_ret (st_ret S (results1 S results179 (Rv.tmp rfl)) ?_)))))))))))
    exact ⟨rfl, S.wd.below⟩
  rw [if_neg (by omega)]
  by_cases h2 : d2 = e2
  rotate_left
  · rw [if_pos h2]
    refine enter2 func179 rfl ntmps179 rfl fun a S => wp_seq_k fun _ hK1 => wp_region_lit (st_m (op_box S (.t rfl) rfl fun g1 a w S => st_m (op_box S (.t rfl) rfl fun g2 a w S => run S (.ac rfl <| .z) fun a w S => st_nil (then_normal (hK1 _ _ (wp_seq_k fun _ hK1 => wp_region_lit (run S (.fa underlying100 sizeOf9 0 rfl rfl rfl <| .ld gt9 1 rfl rfl rfl <| .fa underlying100 sizeOf9 0 rfl rfl rfl <| .ld gt9 0 rfl rfl rfl <| .xx (ys_call call211 (.cons (.t rfl) (.cons (.t rfl) .nil)) (fun hp w W => c211 _ _ _)) rfl <| .z) fun a w S => ?_)))))))
    rw [rw_c] at S
    refine run S (.as rfl <| .z) fun a w S => st_nil (then_normal (hK1 _ _ (wp_seq_k fun _ hK1 => wp_seq_k fun _ hK2 => wp_region_lit (run S (.fa underlying100 sizeOf74 1 rfl rfl rfl <| .fa underlying74 sizeOf3 1 rfl rfl rfl <| .ld gt3 1 rfl rfl rfl <| .fa underlying100 sizeOf74 1 rfl rfl rfl <| .fa underlying74 sizeOf3 1 rfl rfl rfl <| .ld gt3 0 rfl rfl rfl <| .yy (ys_subI (.t rfl) (.t rfl) (fun _ => by unfold I64; omega)) rfl <| .fa underlying100 sizeOf74 1 rfl rfl rfl <| .fa underlying74 sizeOf3 2 rfl rfl rfl <| .ld gt3 1 rfl rfl rfl <| .fa underlying100 sizeOf74 1 rfl rfl rfl <| .fa underlying74 sizeOf3 2 rfl rfl rfl <| .ld gt3 0 rfl rfl rfl <| .yy (ys_subI (.t rfl) (.t rfl) (fun _ => by unfold I64; omega)) rfl <| .fa underlying100 sizeOf74 1 rfl rfl rfl <| .fa underlying74 sizeOf3 3 rfl rfl rfl <| .ld gt3 1 rfl rfl rfl <| .fa underlying100 sizeOf74 1 rfl rfl rfl <| .fa underlying74 sizeOf3 3 rfl rfl rfl <| .ld gt3 0 rfl rfl rfl <| .yy (ys_subI (.t rfl) (.t rfl) (fun _ => by unfold I64; omega)) rfl <| .z) fun a w S => st_m (op_bsliceZ (ps := [(0, Go.Operand.tmp 19), (1, Go.Operand.tmp 26), (2, Go.Operand.tmp 33)]) (us := [_, _, _]) S underlying202 sizeOf3 zeroValue3 rfl rfl (.cons (.t rfl) (.cons (.t rfl) (.cons (.t rfl) .nil))) rfl rfl fun g3 a w S => ?_)))))
    refine run S (.ln underlying202 rfl <| .mc rfl <| .z) fun a w S => st_nil (then_normal (hK2 _ _ (wp_block (st_rounds 4 (st_round (sg S (.lt (by omega) rfl rfl <| .z) fun a w S => wp_seq_k fun _ hK2 => st_then S (.t rfl) (wp_skip (then_normal (hK2 _ _ (wp_seq_k fun _ hK2 => wp_block (sg S (.yy (ys_ixS (j := 0) underlying202 sizeOf3 (.t rfl) (.t rfl) (fun _ => by omega)) rfl <| .ld gt3 0 rfl rfl rfl <| .as rfl <| .z) fun a w S => sg S (.mv rfl <| .yy (ys_T (by omega) (ys_eql (.t rfl) Ev.c)) rfl <| .z) fun a w S => st_then S (.t rfl) (wp_region_lit (run S (.mv rfl <| .as rfl <| .z) fun a w S => st_nil (in_normal (then_normal (hK2 _ _ (wp_region_lit (run S (.ad (by unfold I64; omega) rfl <| .z) fun a w S => ?_))))))))))))))))))
    rw [rw_1] at S
    refine run S (.mv rfl <| .z) fun a w S => st_nil (then_normal (st_round (sg S (.lt (by omega) rfl rfl <| .z) fun a w S => wp_seq_k fun _ hK2 => st_then S (.t rfl) (wp_skip (then_normal (hK2 _ _ (wp_seq_k fun _ hK2 => wp_block (sg S (.yy (ys_ixS (j := 1) underlying202 sizeOf3 (.t rfl) (.t rfl) (fun _ => by omega)) rfl <| .ld gt3 0 rfl rfl rfl <| .as rfl <| .z) fun a w S => sg S (.mv rfl <| .yy (ys_T (by omega) (ys_eql (.t rfl) Ev.c)) rfl <| .z) fun a w S => st_then S (.t rfl) (wp_region_lit (run S (.mv rfl <| .as rfl <| .z) fun a w S => st_nil (in_normal (then_normal (hK2 _ _ (wp_region_lit (run S (.ad (by unfold I64; omega) rfl <| .z) fun a w S => ?_)))))))))))))))
    rw [rw_2] at S
    refine run S (.mv rfl <| .z) fun a w S => st_nil (then_normal (st_round (sg S (.lt (by omega) rfl rfl <| .z) fun a w S => wp_seq_k fun _ hK2 => st_then S (.t rfl) (wp_skip (then_normal (hK2 _ _ (wp_seq_k fun _ hK2 => wp_block (sg S (.yy (ys_ixS (j := 2) underlying202 sizeOf3 (.t rfl) (.t rfl) (fun _ => by omega)) rfl <| .ld gt3 0 rfl rfl rfl <| .as rfl <| .z) fun a w S => sg S (.mv rfl <| .yy (ys_F (by omega) (ys_eql (.t rfl) Ev.c)) rfl <| .z) fun a w S => st_else S (.t rfl) (wp_skip (in_normal (then_normal (hK2 _ _ (wp_region_lit (run S (.ad (by unfold I64; omega) rfl <| .z) fun a w S => ?_))))))))))))))
    rw [rw_3] at S
    refine run S (.mv rfl <| .z) fun a w S => st_nil (then_normal (st_round (sg S (.ge (by omega) rfl rfl <| .z) fun a w S => wp_seq_k fun _ hK2 => st_else S (.t rfl) (wp_exit (then_exit (then_exit (in_here (then_normal (hK1 _ _ (sg S (.mv rfl <| .as rfl <| .z) fun a w S => wp_ret (st_ret S (results1 S results179 (Rv.tmp rfl)) ?_)))))))))))
    exact ⟨rfl, S.wd.below⟩
  · rw [if_neg (by omega)]
    refine enter2 func179 rfl ntmps179 rfl fun a S => wp_seq_k fun _ hK1 => wp_region_lit (st_m (op_box S (.t rfl) rfl fun g1 a w S => st_m (op_box S (.t rfl) rfl fun g2 a w S => run S (.ac rfl <| .z) fun a w S => st_nil (then_normal (hK1 _ _ (wp_seq_k fun _ hK1 => wp_region_lit (run S (.fa underlying100 sizeOf9 0 rfl rfl rfl <| .ld gt9 1 rfl rfl rfl <| .fa underlying100 sizeOf9 0 rfl rfl rfl <| .ld gt9 0 rfl rfl rfl <| .xx (ys_call call211 (.cons (.t rfl) (.cons (.t rfl) .nil)) (fun hp w W => c211 _ _ _)) rfl <| .z) fun a w S => ?_)))))))
    rw [rw_c] at S
    refine run S (.as rfl <| .z) fun a w S => st_nil (then_normal (hK1 _ _ (wp_seq_k fun _ hK1 => wp_seq_k fun _ hK2 => wp_region_lit (run S (.fa underlying100 sizeOf74 1 rfl rfl rfl <| .fa underlying74 sizeOf3 1 rfl rfl rfl <| .ld gt3 1 rfl rfl rfl <| .fa underlying100 sizeOf74 1 rfl rfl rfl <| .fa underlying74 sizeOf3 1 rfl rfl rfl <| .ld gt3 0 rfl rfl rfl <| .yy (ys_subI (.t rfl) (.t rfl) (fun _ => by unfold I64; omega)) rfl <| .fa underlying100 sizeOf74 1 rfl rfl rfl <| .fa underlying74 sizeOf3 2 rfl rfl rfl <| .ld gt3 1 rfl rfl rfl <| .fa underlying100 sizeOf74 1 rfl rfl rfl <| .fa underlying74 sizeOf3 2 rfl rfl rfl <| .ld gt3 0 rfl rfl rfl <| .yy (ys_subI (.t rfl) (.t rfl) (fun _ => by unfold I64; omega)) rfl <| .fa underlying100 sizeOf74 1 rfl rfl rfl <| .fa underlying74 sizeOf3 3 rfl rfl rfl <| .ld gt3 1 rfl rfl rfl <| .fa underlying100 sizeOf74 1 rfl rfl rfl <| .fa underlying74 sizeOf3 3 rfl rfl rfl <| .ld gt3 0 rfl rfl rfl <| .yy (ys_subI (.t rfl) (.t rfl) (fun _ => by unfold I64; omega)) rfl <| .z) fun a w S => st_m (op_bsliceZ (ps := [(0, Go.Operand.tmp 19), (1, Go.Operand.tmp 26), (2, Go.Operand.tmp 33)]) (us := [_, _, _]) S underlying202 sizeOf3 zeroValue3 rfl rfl (.cons (.t rfl) (.cons (.t rfl) (.cons (.t rfl) .nil))) rfl rfl fun g3 a w S => ?_)))))
    refine run S (.ln underlying202 rfl <| .mc rfl <| .z) fun a w S => st_nil (then_normal (hK2 _ _ (wp_block (st_rounds 4 (st_round (sg S (.lt (by omega) rfl rfl <| .z) fun a w S => wp_seq_k fun _ hK2 => st_then S (.t rfl) (wp_skip (then_normal (hK2 _ _ (wp_seq_k fun _ hK2 => wp_block (sg S (.yy (ys_ixS (j := 0) underlying202 sizeOf3 (.t rfl) (.t rfl) (fun _ => by omega)) rfl <| .ld gt3 0 rfl rfl rfl <| .as rfl <| .z) fun a w S => sg S (.mv rfl <| .yy (ys_T (by omega) (ys_eql (.t rfl) Ev.c)) rfl <| .z) fun a w S => st_then S (.t rfl) (wp_region_lit (run S (.mv rfl <| .as rfl <| .z) fun a w S => st_nil (in_normal (then_normal (hK2 _ _ (wp_region_lit (run S (.ad (by unfold I64; omega) rfl <| .z) fun a w S => ?_))))))))))))))))))
    rw [rw_1] at S
    refine run S (.mv rfl <| .z) fun a w S => st_nil (then_normal (st_round (sg S (.lt (by omega) rfl rfl <| .z) fun a w S => wp_seq_k fun _ hK2 => st_then S (.t rfl) (wp_skip (then_normal (hK2 _ _ (wp_seq_k fun _ hK2 => wp_block (sg S (.yy (ys_ixS (j := 1) underlying202 sizeOf3 (.t rfl) (.t rfl) (fun _ => by omega)) rfl <| .ld gt3 0 rfl rfl rfl <| .as rfl <| .z) fun a w S => sg S (.mv rfl <| .yy (ys_T (by omega) (ys_eql (.t rfl) Ev.c)) rfl <| .z) fun a w S => st_then S (.t rfl) (wp_region_lit (run S (.mv rfl <| .as rfl <| .z) fun a w S => st_nil (in_normal (then_normal (hK2 _ _ (wp_region_lit (run S (.ad (by unfold I64; omega) rfl <| .z) fun a w S => ?_)))))))))))))))
    rw [rw_2] at S
    refine run S (.mv rfl <| .z) fun a w S => st_nil (then_normal (st_round (sg S (.lt (by omega) rfl rfl <| .z) fun a w S => wp_seq_k fun _ hK2 => st_then S (.t rfl) (wp_skip (then_normal (hK2 _ _ (wp_seq_k fun _ hK2 => wp_block (sg S (.yy (ys_ixS (j := 2) underlying202 sizeOf3 (.t rfl) (.t rfl) (fun _ => by omega)) rfl <| .ld gt3 0 rfl rfl rfl <| .as rfl <| .z) fun a w S => sg S (.mv rfl <| .yy (ys_T (by omega) (ys_eql (.t rfl) Ev.c)) rfl <| .z) fun a w S => st_then S (.t rfl) (wp_region_lit (run S (.mv rfl <| .as rfl <| .z) fun a w S => st_nil (in_normal (then_normal (hK2 _ _ (wp_region_lit (run S (.ad (by unfold I64; omega) rfl <| .z) fun a w S => ?_)))))))))))))))
    rw [rw_3] at S
    refine run S (.mv rfl <| .z) fun a w S => st_nil (then_normal (st_round (sg S (.ge (by omega) rfl rfl <| .z) fun a w S => wp_seq_k fun _ hK2 => st_else S (.t rfl) (wp_exit (then_exit (then_exit (in_here (then_normal (hK1 _ _ (sg S (.mv rfl <| .as rfl <| .z) fun a w S => wp_ret (st_ret S (results1 S results179 (Rv.tmp rfl)) ?_)))))))))))
    exact ⟨rfl, S.wd.below⟩
end Go.Proofs.YtakpdbmdfnialaaGreat
set_option linter.unusedVariables false
set_option linter.unusedSimpArgs false
namespace Go.Fw
open Go.RowKit
def otherR (r : Nat) : Bool := !((decide (97 ≤ r) && decide (r ≤ 122)) || (decide (65 ≤ r) && decide (r ≤ 90)) || (decide (48 ≤ r) && decide (r ≤ 57)) || decide (r = 45) || decide (r = 95) || decide (r = 46))
theorem other_char (b : UInt8) : otherR b.toNat = !charB b := rfl
theorem decode_big (l : List UInt8) (b : UInt8) (t : List UInt8) (h : l = b :: t) (hb : 128 ≤ b.toNat) : 128 ≤ (Lib.decodeL l).1 := by
  subst h
  rw [Lib.decodeL_N]
  have e : ((b :: t).getD 0 0).toNat = b.toNat := rfl
  rw [e]
  rcases Lib.decodeN_cases (b :: t).length b.toNat ((b :: t).getD 1 0).toNat ((b :: t).getD 2 0).toNat ((b :: t).getD 3 0).toNat with h | h | h | h | h
  · omega
  · rw [h.2.2.2.2]; exact h.2.2.2.1
  · rw [h.2.2.2.2.2]; have := h.2.2.2.2.1; dsimp only; omega
  · omega
  · rw [h]; decide
theorem other_big {r : Nat} (h : 128 ≤ r) : otherR r = true := by
  unfold otherR
  simp
  omega
theorem char_big {b : UInt8} (h : 128 ≤ b.toNat) : charB b = false := by
  unfold charB
  simp
  omega
def idxR (p : Nat → Bool) (s : List UInt8) : Nat → Nat → Int
  | 0, _ => -1
  | f + 1, pos => if pos < s.length then (if p (Utf8.decode (bs s) pos).1 = true then (pos : Int) else idxR p s f (pos + (Utf8.decode (bs s) pos).2)) else -1
theorem idx_name (s : List UInt8) : ∀ (f pos : Nat), s.length ≤ pos + f → (idxR otherR s f pos < 0 ↔ (s.drop pos).all charB = true)
  | 0, pos, h => by
    rw [List.drop_of_length_le (by omega)]
    simp [idxR]
  | f + 1, pos, h => by
    unfold idxR
    by_cases hp : pos < s.length
    · rw [if_pos hp]
      have hd := Lib.decodeL_drop (bs s) pos
      have hl : (bs s).data.toList = s := rfl
      rw [hl] at hd
      have hc : s.drop pos = s[pos] :: s.drop (pos + 1) := List.drop_eq_getElem_cons hp
      by_cases hb : (s[pos]).toNat < 128
      · rw [← hd, hc, Lib.decodeL_ascii _ _ hb]
        dsimp only
        rw [other_char, List.all_cons]
        by_cases hch : charB s[pos] = true
        · rw [hch, if_neg (by decide), idx_name s f (pos + 1) (by omega)]
          simp
        · rw [if_pos (by simpa using hch)]
          simp [hch]
      · have h2 := decode_big _ _ _ hc (by omega)
        rw [← hd, other_big h2, if_pos rfl, hc, List.all_cons, char_big (by omega)]
        simp
    · rw [if_neg hp, List.drop_of_length_le (by omega)]
      simp
theorem idxR_end {p : Nat → Bool} {s : List UInt8} {f pos : Nat} (h : s.length ≤ pos) : idxR p s f pos = -1 := by
  cases f <;> simp [idxR]
  omega
theorem name_idx (s : List UInt8) : decide (idxR otherR s s.length 0 < 0) = s.all charB := by
  have h := idx_name s s.length 0 (by omega)
  rw [Bool.eq_iff_iff, decide_eq_true_eq, h, List.drop_zero]
end Go.Fw
set_option linter.unusedVariables false
set_option linter.unusedSimpArgs false
set_option maxRecDepth 100000
set_option maxHeartbeats 4000000
namespace Go.Proofs.YtakpdbmdfnialaaGreat
open Go.Fw Go.Proofs Go.RowKit Go.Proofs.Tryz
section
variable {n : Nat} {w0 : World} {K : KL} {L : List Chunk} {b : Bool} {dst : Option Tmp} {ty : TypeId} {pos : String} {aft : Array Edge} {gd : Option (Nat × Bool)} {ts : Array TypeId}
theorem y188 {x : Operand} {p : Int} (hx : Ev n b K x (.int .u64 p)) : Yr Tryz.prog ⟨dst, .call ⟨.value (.func 188), #[x], ts⟩, ty, pos, aft, gd⟩ n K w0 L b (.float .f64 p.toNat) :=
  ys_extern (F := Extern.MathFloatBits.float64frombits) func188 (by kernel_rfl) (by kernel_rfl) (by kernel_rfl) (by kernel_rfl) (.cons hx .nil) (fun _ => rfl)
theorem y245 {x y : Operand} {l : List UInt8} {c : UInt8} (hx : Ev n b K x (.string (bs l))) (hy : Ev n b K y (.int .u8 (c.toNat : Int))) : Yr Tryz.prog ⟨dst, .call ⟨.value (.func 245), #[x, y], ts⟩, ty, pos, aft, gd⟩ n K w0 L b (.int .i64 (Lib.indexByte l c)) :=
  ys_extern (F := Extern.BytealgIndexByte.indexByte) func245 (by kernel_rfl) (by kernel_rfl) (by kernel_rfl) (by kernel_rfl) (.cons hx (.cons hy .nil)) (fun w => by
    have h := Lib.run_indexByteString (P := Tryz.prog) (bs l) (c.toNat : Int) w
    simpa using h)
end
theorem c158 (w0 : World) (p : UInt64) : Calls Tryz.prog 158 #[.int .u64 (p.toNat : Int)] w0 fun e w' => e = .returned (.bool (priceB p)) ∧ Bel w0.heap.size w0 w' := by
  have rw_s : ((p.toNat : Int)).toNat = p.toNat := Int.toNat_natCast _
  have rw_p := price_ge p
  refine enter1 func158 rfl ntmps158 rfl fun a S => sg S (.ac rfl <| .z) fun a w S => wp_seq_k fun _ hK1 => wp_region_lit (run S (.mv rfl <| .yy (y188 (.t rfl)) rfl <| .z) fun a w S => ?_)
  rw [rw_s] at S
  refine run S (.yy (ys_geqF (.t rfl) Ev.c) rfl <| .as rfl <| .z) fun a w S => st_nil (then_normal (hK1 _ _ (wp_ret (st_ret S (results1 S results158 (Rv.tmp rfl)) ?_))))
  exact ⟨by first | rfl | (rw [← price_ge]; rfl), S.wd.below⟩
end Go.Proofs.YtakpdbmdfnialaaGreat
set_option linter.unusedVariables false
set_option linter.unusedSimpArgs false
set_option maxRecDepth 100000
set_option maxHeartbeats 4000000
namespace Go.Proofs.YtakpdbmdfnialaaGreat
open Go.Fw Go.Proofs Go.RowKit Go.Proofs.Tryz
theorem c242 (w0 : World) (l : List UInt8) (c : UInt8) : Calls Tryz.prog 242 #[.string (bs l), .int .u8 (c.toNat : Int)] w0 fun e w' => e = .returned (.int .i64 (Lib.indexByte l c)) ∧ Bel w0.heap.size w0 w' := by
  refine enter2 func242 rfl ntmps242 rfl fun a S => sg S (.ac rfl <| .z) fun a w S => sg S (.mv rfl <| .mv rfl <| .yy (y245 (.t rfl) (.t rfl)) rfl <| .as rfl <| .z) fun a w S => wp_ret (st_ret S (results1 S results242 (Rv.tmp rfl)) ?_)
  exact ⟨rfl, S.wd.below⟩
theorem c232 (w0 : World) (l : List UInt8) (c : UInt8) : Calls Tryz.prog 232 #[.string (bs l), .int .u8 (c.toNat : Int)] w0 fun e w' => e = .returned (.int .i64 (Lib.indexByte l c)) ∧ Bel w0.heap.size w0 w' := by
  refine enter2 func232 rfl ntmps232 rfl fun a S => sg S (.ac rfl <| .z) fun a w S => sg S (.mv rfl <| .mv rfl <| .xx (ys_call call242 (.cons (.t rfl) (.cons (.t rfl) .nil)) (fun hp w W => c242 _ _ _)) rfl <| .as rfl <| .z) fun a w S => wp_ret (st_ret S (results1 S results232 (Rv.tmp rfl)) ?_)
  exact ⟨rfl, S.wd.below⟩
def validR (r : Nat) : Bool := decide (r < 55296) || (decide (57343 < r) && decide (r ≤ 1114111))
theorem c233 (w0 : World) (r : Nat) : Calls Tryz.prog 233 #[.int .i32 (r : Int)] w0 fun e w' => e = .returned (.bool (validR r)) ∧ Bel w0.heap.size w0 w' := by
  unfold validR
  by_cases h1 : r < 55296
  · refine enter1 func233 rfl ntmps233 rfl fun a S => sg S (.ac rfl <| .z) fun a w S => wp_seq_k fun _ hK1 => wp_block (sg S (.mv rfl <| .yy (ys_T (by omega) (ys_leq Ev.c (.t rfl))) rfl <| .mv rfl <| .gy rfl rfl (ys_move (.t rfl)) <| .gy rfl rfl (ys_T (by omega) (ys_lss (.t rfl) Ev.c)) <| .yy (ys_pickT (.t rfl) (.t rfl)) rfl <| .as rfl <| .z) fun a w S => st_then S (.t rfl) (sg S (.ac rfl <| .z) fun a w S => wp_ret (in_ret (then_ret (st_ret S (results1 S results233 (Rv.tmp rfl)) ?_)))))
    exact ⟨by rw [decide_eq_true h1]; rfl, S.wd.below⟩
  by_cases h2 : 57343 < r ∧ r ≤ 1114111
  · have rw_d : (decide (57343 < (r : Int)) && decide ((r : Int) ≤ 1114111)) = true := by simp; omega
    refine enter1 func233 rfl ntmps233 rfl fun a S => sg S (.ac rfl <| .z) fun a w S => wp_seq_k fun _ hK1 => wp_block (sg S (.mv rfl <| .yy (ys_T (by omega) (ys_leq Ev.c (.t rfl))) rfl <| .mv rfl <| .gy rfl rfl (ys_move (.t rfl)) <| .gy rfl rfl (ys_F (by omega) (ys_lss (.t rfl) Ev.c)) <| .yy (ys_pickT (.t rfl) (.t rfl)) rfl <| .as rfl <| .z) fun a w S => st_else S (.t rfl) (sg S (.mv rfl <| .yy (ys_T (by omega) (ys_lss Ev.c (.t rfl))) rfl <| .mv rfl <| .gy rfl rfl (ys_move (.t rfl)) <| .gy rfl rfl (ys_T (by omega) (ys_leq (.t rfl) Ev.c)) <| .yy (ys_pickT (.t rfl) (.t rfl)) rfl <| .as rfl <| .z) fun a w S => st_then S (.t rfl) (sg S (.ac rfl <| .z) fun a w S => wp_ret (in_ret (then_ret (st_ret S (results1 S results233 (Rv.tmp rfl)) ?_))))))
    exact ⟨by rw [decide_eq_true h2.1, decide_eq_true h2.2, decide_eq_false h1]; rfl, S.wd.below⟩
  · have rw_d : (decide (57343 < (r : Int)) && decide ((r : Int) ≤ 1114111)) = false := by simp; omega
    refine enter1 func233 rfl ntmps233 rfl fun a S => sg S (.ac rfl <| .z) fun a w S => wp_seq_k fun _ hK1 => wp_block (sg S (.mv rfl <| .yy (ys_T (by omega) (ys_leq Ev.c (.t rfl))) rfl <| .mv rfl <| .gy rfl rfl (ys_move (.t rfl)) <| .gy rfl rfl (ys_F (by omega) (ys_lss (.t rfl) Ev.c)) <| .yy (ys_pickT (.t rfl) (.t rfl)) rfl <| .as rfl <| .z) fun a w S => st_else S (.t rfl) (wp_seq_k fun _ hK2 => wp_region_lit (run S (.mv rfl <| .yy (ys_lss Ev.c (.t rfl)) rfl <| .mv rfl <| .z) fun a w S => st_yg S rfl rfl (Yr.ys (ys_move (.t rfl))) rfl fun a w S => st_yg S rfl rfl (Yr.ys (ys_leq (Ev.g rfl) Ev.c)) rfl fun a w S => run S (.yy (ys_and (.t rfl) (Ev.g rfl) Ev.c) rfl <| .z) fun a w S => ?_)))
    rw [rw_d] at S
    refine run S (.as rfl <| .z) fun a w S => st_nil (then_normal (hK2 _ _ (st_else S (.t rfl) (wp_skip (in_normal (then_normal (hK1 _ _ (sg S (.ac rfl <| .z) fun a w S => wp_ret (st_ret S (results1 S results233 (Rv.tmp rfl)) ?_)))))))))
    exact ⟨by rw [decide_eq_false h1, ← Bool.decide_and, decide_eq_false h2]; rfl, S.wd.below⟩
def inDash (r : Nat) : Int := if r < 128 then Lib.indexByte [45, 95, 46] (UInt8.ofNat r) else -1
theorem idx_high {c : UInt8} (h : 128 ≤ c.toNat) : ∀ l ∈ [[45, 95, 46], [95, 46], [46], ([] : List UInt8)], Lib.indexByte l c = -1 := by
  have h1 : (45 : UInt8) ≠ c := fun e => by subst e; exact absurd h (by decide)
  have h2 : (95 : UInt8) ≠ c := fun e => by subst e; exact absurd h (by decide)
  have h3 : (46 : UInt8) ≠ c := fun e => by subst e; exact absurd h (by decide)
  intro l hl
  simp only [List.mem_cons, List.not_mem_nil, or_false] at hl
  rcases hl with rfl | rfl | rfl | rfl <;> simp [Lib.indexByte, h1, h2, h3]
theorem dash_small : ∀ r : Fin 128, decide (0 ≤ Lib.indexByte [45, 95, 46] (UInt8.ofNat r)) = (decide ((r : Nat) = 45) || decide ((r : Nat) = 95) || decide ((r : Nat) = 46)) := by decide +kernel
theorem b8_nat {r : Nat} (h : r < 128) : (b8 (r : Int)) = UInt8.ofNat r := by
  rw [← UInt8.toNat_inj]
  have := wrap_u8 (r : Int)
  unfold b8
  simp
  omega
theorem rune_forms {p : Int} (h : 128 ≤ p) : (∃ x y, Utf8.encode p = bs [x, y] ∧ 128 ≤ y.toNat) ∨ (∃ x y z, Utf8.encode p = bs [x, y, z] ∧ 128 ≤ z.toNat) ∨ ∃ x y z u, Utf8.encode p = bs [x, y, z, u] := by
  obtain ⟨l, hl, h2, h4, hc⟩ := rune_long h
  rcases l with _ | ⟨x, _ | ⟨y, _ | ⟨z, _ | ⟨u, _ | ⟨v, l⟩⟩⟩⟩⟩
  · simp at h2
  · simp at h2
  · exact .inl ⟨x, y, hl, hc y (by simp)⟩
  · exact .inr (.inl ⟨x, y, z, hl, hc z (by simp)⟩)
  · exact .inr (.inr ⟨x, y, z, u, hl⟩)
  · simp at h4
theorem rune_a (w0 : World) (r : Nat) (h1 : r < 128) (c : UInt8) (rw_c : b8 (r : Int) = c) : Calls Tryz.prog 213 #[.string (bs [45, 95, 46]), .int .i32 (r : Int)] w0 fun e w' => e = .returned (.int .i64 (Lib.indexByte [45, 95, 46] c)) ∧ Bel w0.heap.size w0 w' := by
  refine enter2 func213 rfl ntmps213 rfl fun a S => sg S (.ac rfl <| .z) fun a w S => wp_block (sg S (.mv rfl <| .yy (ys_T (by omega) (ys_leq Ev.c (.t rfl))) rfl <| .mv rfl <| .gy rfl rfl (ys_move (.t rfl)) <| .gy rfl rfl (ys_T (by omega) (ys_lss (.t rfl) Ev.c)) <| .yy (ys_pickT (.t rfl) (.t rfl)) rfl <| .as rfl <| .z) fun a w S => st_then S (.t rfl) (wp_seq_k fun _ hK1 => wp_region_lit (run S (.mv rfl <| .mv rfl <| .yy (ys_cvB underlying21 underlying5 (.t rfl)) rfl <| .z) fun a w S => ?_)))
  rw [rw_c] at S
  refine run S (.xx (ys_call call232 (.cons (.t rfl) (.cons (.t rfl) .nil)) (fun hp w W => c232 _ _ _)) rfl <| .as rfl <| .z) fun a w S => st_nil (then_normal (hK1 _ _ (wp_ret (in_ret (st_ret S (results1 S results213 (Rv.tmp rfl)) ?_)))))
  exact ⟨rfl, S.wd.below⟩
theorem rune_b (w0 : World) (r : Nat) (h1 : ¬ r < 128) (h2 : r = 65533) : Calls Tryz.prog 213 #[.string (bs [45, 95, 46]), .int .i32 (r : Int)] w0 fun e w' => e = .returned (.int .i64 (-1)) ∧ Bel w0.heap.size w0 w' := by
  have rw_a0 : (Utf8.decode (bs [45, 95, 46]) 0).1 = 45 := by decide +kernel
  have rw_b0 : (Utf8.decode (bs [45, 95, 46]) 0).2 = 1 := by decide +kernel
  have rw_a1 : (Utf8.decode (bs [45, 95, 46]) 1).1 = 95 := by decide +kernel
  have rw_b1 : (Utf8.decode (bs [45, 95, 46]) 1).2 = 1 := by decide +kernel
  have rw_a2 : (Utf8.decode (bs [45, 95, 46]) 2).1 = 46 := by decide +kernel
  have rw_b2 : (Utf8.decode (bs [45, 95, 46]) 2).2 = 1 := by decide +kernel
  refine enter2 func213 rfl ntmps213 rfl fun a S => sg S (.ac rfl <| .z) fun a w S => wp_block (sg S (.mv rfl <| .yy (ys_T (by omega) (ys_leq Ev.c (.t rfl))) rfl <| .mv rfl <| .gy rfl rfl (ys_move (.t rfl)) <| .gy rfl rfl (ys_F (by omega) (ys_lss (.t rfl) Ev.c)) <| .yy (ys_pickT (.t rfl) (.t rfl)) rfl <| .as rfl <| .z) fun a w S => st_else S (.t rfl) (sg S (.mv rfl <| .yy (ys_T (by omega) (ys_eql (.t rfl) Ev.c)) rfl <| .as rfl <| .z) fun a w S => st_then S (.t rfl) (wp_seq_k fun _ hK1 => wp_seq_k fun _ hK2 => wp_region_lit (run S (.mv rfl <| .z) fun a w S => st_m (op_rangeS S underlying9 (.t rfl) rfl fun g1 a w S => st_nil (then_normal (hK2 _ _ (wp_block (st_rounds 4 (st_round (wp_seq_k fun _ hK2 => wp_region_lit (st_m (op_nextS S (.t rfl) (i := 0) rfl rfl (fun h => absurd h (by decide)) (fun _ => ?_))))))))))))))
  clear S a w
  intro a w S
  rw [rw_a0, rw_b0, Nat.zero_add] at S
  refine run S (.ex rfl rfl <| .z) fun a w S => st_nil (then_normal (hK2 _ _ (wp_seq_k fun _ hK2 => st_then S (.t rfl) (wp_skip (then_normal (hK2 _ _ (wp_block (sg S (.ex rfl rfl <| .ex rfl rfl <| .as rfl <| .as rfl <| .z) fun a w S => sg S (.mv rfl <| .yy (ys_F (by omega) (ys_eql (.t rfl) Ev.c)) rfl <| .z) fun a w S => st_else S (.t rfl) (wp_skip (in_normal (then_normal (st_round (wp_seq_k fun _ hK2 => wp_region_lit (st_m (op_nextS S (.t rfl) (i := 0) rfl rfl (fun h => absurd h (by decide)) (fun _ => ?_))))))))))))))))
  clear S a w
  intro a w S
  rw [rw_a1, rw_b1] at S
  refine run S (.ex rfl rfl <| .z) fun a w S => st_nil (then_normal (hK2 _ _ (wp_seq_k fun _ hK2 => st_then S (.t rfl) (wp_skip (then_normal (hK2 _ _ (wp_block (sg S (.ex rfl rfl <| .ex rfl rfl <| .as rfl <| .as rfl <| .z) fun a w S => sg S (.mv rfl <| .yy (ys_F (by omega) (ys_eql (.t rfl) Ev.c)) rfl <| .z) fun a w S => st_else S (.t rfl) (wp_skip (in_normal (then_normal (st_round (wp_seq_k fun _ hK2 => wp_region_lit (st_m (op_nextS S (.t rfl) (i := 0) rfl rfl (fun h => absurd h (by decide)) (fun _ => ?_))))))))))))))))
  clear S a w
  intro a w S
  rw [rw_a2, rw_b2] at S
  refine run S (.ex rfl rfl <| .z) fun a w S => st_nil (then_normal (hK2 _ _ (wp_seq_k fun _ hK2 => st_then S (.t rfl) (wp_skip (then_normal (hK2 _ _ (wp_block (sg S (.ex rfl rfl <| .ex rfl rfl <| .as rfl <| .as rfl <| .z) fun a w S => sg S (.mv rfl <| .yy (ys_F (by omega) (ys_eql (.t rfl) Ev.c)) rfl <| .z) fun a w S => st_else S (.t rfl) (wp_skip (in_normal (then_normal (st_round (wp_seq_k fun _ hK2 => wp_region_lit (st_m (op_nextS S (.t rfl) (i := 0) rfl rfl (fun _ => ?_) (fun h => absurd h (by decide)))))))))))))))))
  clear S a w
  intro a w S
  refine run S (.ex rfl rfl <| .z) fun a w S => st_nil (then_normal (hK2 _ _ (wp_seq_k fun _ hK2 => st_else S (.t rfl) (wp_exit (then_exit (then_exit (in_here (then_normal (hK1 _ _ (sg S (.ac rfl <| .z) fun a w S => wp_ret (in_ret (st_ret S (results1 S results213 (Rv.tmp rfl)) ?_))))))))))))
  exact ⟨rfl, S.wd.below⟩
theorem rune_c (w0 : World) (r : Nat) (hr : r ≤ 2147483647) (h1 : ¬ r < 128) (h2 : ¬ r = 65533) (rw_v : validR r = false) : Calls Tryz.prog 213 #[.string (bs [45, 95, 46]), .int .i32 (r : Int)] w0 fun e w' => e = .returned (.int .i64 (-1)) ∧ Bel w0.heap.size w0 w' := by
  refine enter2 func213 rfl ntmps213 rfl fun a S => sg S (.ac rfl <| .z) fun a w S => wp_block (sg S (.mv rfl <| .yy (ys_T (by omega) (ys_leq Ev.c (.t rfl))) rfl <| .mv rfl <| .gy rfl rfl (ys_move (.t rfl)) <| .gy rfl rfl (ys_F (by omega) (ys_lss (.t rfl) Ev.c)) <| .yy (ys_pickT (.t rfl) (.t rfl)) rfl <| .as rfl <| .z) fun a w S => st_else S (.t rfl) (sg S (.mv rfl <| .yy (ys_F (by omega) (ys_eql (.t rfl) Ev.c)) rfl <| .as rfl <| .z) fun a w S => st_else S (.t rfl) (wp_seq_k fun _ hK1 => wp_region_lit (run S (.mv rfl <| .xx (ys_call call233 (.cons (.t rfl) .nil) (fun hp w W => c233 _ _)) rfl <| .z) fun a w S => ?_))))
  rw [rw_v] at S
  refine run S (.nt rfl <| .as rfl <| .z) fun a w S => st_nil (then_normal (hK1 _ _ (st_then S (.t rfl) (sg S (.ac rfl <| .z) fun a w S => wp_ret (in_ret (st_ret S (results1 S results213 (Rv.tmp rfl)) ?_))))))
  exact ⟨rfl, S.wd.below⟩
theorem rune_d (w0 : World) (r : Nat) (hr : r ≤ 2147483647) (h1 : ¬ r < 128) (h2 : ¬ r = 65533) (rw_v : validR r = true) (x y : UInt8) (hl : Utf8.encode (r : Int) = bs [x, y]) (hy : 128 ≤ y.toNat) : Calls Tryz.prog 213 #[.string (bs [45, 95, 46]), .int .i32 (r : Int)] w0 fun e w' => e = .returned (.int .i64 (-1)) ∧ Bel w0.heap.size w0 w' := by
  have hs1 : ([45, 95, 46] : List UInt8)[1]? = some 95 := rfl
  have hs2 : ([45, 95, 46] : List UInt8)[2]? = some 46 := rfl
  have rw_l0 : (([45, 95, 46] : List UInt8).length : Int) = ((3 : Nat) : Int) := rfl
  have rw_k1 : (((95 : UInt8).toNat : Nat) : Int) = 95 := rfl
  have rw_k2 : (((46 : UInt8).toNat : Nat) : Int) = 46 := rfl
  have rw_d2 : List.drop 2 ([45, 95, 46] : List UInt8) = [46] := rfl
  have rw_d3 : List.drop 3 ([45, 95, 46] : List UInt8) = [] := rfl
  have hl1 : ([x, y] : List UInt8)[1]? = some y := rfl
  have rw_l : (([x, y] : List UInt8).length : Int) = 2 := rfl
  have rw_m : (2 : Int) - 1 = ((1 : Nat) : Int) := rfl
  have rw_n : ((1 : Nat) : Int) + 1 = ((2 : Nat) : Int) := rfl
  have rw_e := idx_high hy [46] (by simp)
  refine enter2 func213 rfl ntmps213 rfl fun a S => sg S (.ac rfl <| .z) fun a w S => wp_block (sg S (.mv rfl <| .yy (ys_T (by omega) (ys_leq Ev.c (.t rfl))) rfl <| .mv rfl <| .gy rfl rfl (ys_move (.t rfl)) <| .gy rfl rfl (ys_F (by omega) (ys_lss (.t rfl) Ev.c)) <| .yy (ys_pickT (.t rfl) (.t rfl)) rfl <| .as rfl <| .z) fun a w S => st_else S (.t rfl) (sg S (.mv rfl <| .yy (ys_F (by omega) (ys_eql (.t rfl) Ev.c)) rfl <| .as rfl <| .z) fun a w S => st_else S (.t rfl) (wp_seq_k fun _ hK1 => wp_region_lit (run S (.mv rfl <| .xx (ys_call call233 (.cons (.t rfl) .nil) (fun hp w W => c233 _ _)) rfl <| .z) fun a w S => ?_))))
  rw [rw_v] at S
  refine run S (.nt rfl <| .as rfl <| .z) fun a w S => st_nil (then_normal (hK1 _ _ (st_else S (.t rfl) (st_scope 1 (fun _ _ => False) rfl (sg S (.mv rfl <| .yy (ys_runeS _ underlying21 underlying9 (.t rfl) hl) rfl <| .as rfl <| .z) fun a w S => wp_seq_k fun _ hK1 => wp_region_lit (run S (.mv rfl <| .yy (ys_lenStr underlying9 (.t rfl)) rfl <| .z) fun a w S => ?_)) (fun a w h => h.elim)))))
  rw [rw_l] at S
  refine run S (.yy (ys_pred (.t rfl) Ev.c (by omega)) rfl <| .as rfl <| .z) fun a w S => st_nil (then_normal (hK1 _ _ (sg S (.mv rfl <| .as rfl <| .z) fun a w S => sg S (.ac rfl <| .z) fun a w S => wp_seq_k fun _ hK1 => wp_block (st_rounds 4 (st_round (wp_seq_k fun _ hK2 => wp_seq_k fun _ hK3 => wp_region_lit (run S (.mv rfl <| .mv rfl <| .yy (ys_lenStr underlying9 (.t rfl)) rfl <| .z) fun a w S => ?_)))))))
  rw [rw_l0] at S
  refine run S (.lt (by omega) rfl rfl <| .z) fun a w S => st_nil (then_normal (hK3 _ _ (st_then S (.t rfl) (wp_skip (then_normal (hK2 _ _ (wp_block (st_scope 0 (fun _ _ => False) rfl (wp_seq_k fun _ hK2 => wp_seq_k fun _ hK3 => st_quiet S (by kernel_rfl) (by kernel_rfl) fun a S => qrun S (.mv rfl <| .mv rfl <| .yy (ys_ixStr underlying9 (.t rfl) (.t rfl) (fun _ => by assumption)) rfl <| .z) fun a S => ?_) (fun a w h => h.elim)))))))))
  rw [rw_k1] at S
  refine qrun S (.mv rfl <| .mv rfl <| .yy (ys_ixStr underlying9 (.t rfl) (.t rfl) (fun _ => by assumption)) rfl <| .yy (ys_T (by omega) (ys_neq (.t rfl) (.t rfl))) rfl <| .z) fun a S => ?_
  (refine q_nil ?_; intro w W; replace S := St.mk S W; clear W)
  refine then_normal (hK3 _ _ (st_then S (.t rfl) (wp_seq_k fun _ hK3 => st_quiet S (by kernel_rfl) (by kernel_rfl) fun a S => qrun S (.mv rfl <| .mv rfl <| .ad (by unfold I64; omega) rfl <| .z) fun a S => ?_)))
  rw [rw_n] at S
  refine qrun S (.yy (ys_slStrLo underlying9 (.t rfl) (.t rfl) (fun _ => by first | omega | (simp; done) | (simp; omega))) rfl <| .z) fun a S => ?_
  rw [rw_d2] at S
  refine qrun S (.mv rfl <| .mv rfl <| .yy (ys_ixStr underlying9 (.t rfl) (.t rfl) (fun _ => by assumption)) rfl <| .xx (ys_call call232 (.cons (.t rfl) (.cons (.t rfl) .nil)) (fun hp w W => c232 _ _ _)) rfl <| .z) fun a S => ?_
  rw [rw_e] at S
  refine qrun S (.as rfl <| .z) fun a S => ?_
  (refine q_nil ?_; intro w W; replace S := St.mk S W; clear W)
  refine then_normal (hK3 _ _ (wp_seq_k fun _ hK3 => sg S (.mv rfl <| .yy (ys_T (by omega) (ys_lss (.t rfl) Ev.c)) rfl <| .z) fun a w S => st_then S (.t rfl) (sg S (.ac rfl <| .z) fun a w S => wp_ret (then_ret (then_ret ?_)))))
  refine jump_ret ?_
  refine in_ret (then_ret (in_ret (then_ret ?_)))
  refine jump_ret ?_
  refine in_ret (st_ret S (results1 S results213 (Rv.tmp rfl)) ?_)
  exact ⟨rfl, S.wd.below⟩
theorem rune_e (w0 : World) (r : Nat) (hr : r ≤ 2147483647) (h1 : ¬ r < 128) (h2 : ¬ r = 65533) (rw_v : validR r = true) (x y z : UInt8) (hl : Utf8.encode (r : Int) = bs [x, y, z]) (hy : 128 ≤ z.toNat) : Calls Tryz.prog 213 #[.string (bs [45, 95, 46]), .int .i32 (r : Int)] w0 fun e w' => e = .returned (.int .i64 (-1)) ∧ Bel w0.heap.size w0 w' := by
  have hs1 : ([45, 95, 46] : List UInt8)[1]? = some 95 := rfl
  have hs2 : ([45, 95, 46] : List UInt8)[2]? = some 46 := rfl
  have rw_l0 : (([45, 95, 46] : List UInt8).length : Int) = ((3 : Nat) : Int) := rfl
  have rw_k1 : (((95 : UInt8).toNat : Nat) : Int) = 95 := rfl
  have rw_k2 : (((46 : UInt8).toNat : Nat) : Int) = 46 := rfl
  have rw_d2 : List.drop 2 ([45, 95, 46] : List UInt8) = [46] := rfl
  have rw_d3 : List.drop 3 ([45, 95, 46] : List UInt8) = [] := rfl
  have hl1 : ([x, y, z] : List UInt8)[2]? = some z := rfl
  have rw_l : (([x, y, z] : List UInt8).length : Int) = ((3 : Nat) : Int) := rfl
  have rw_m : ((3 : Nat) : Int) - 1 = ((2 : Nat) : Int) := rfl
  have rw_n : ((2 : Nat) : Int) + 1 = ((3 : Nat) : Int) := rfl
  have rw_e := idx_high hy [] (by simp)
  refine enter2 func213 rfl ntmps213 rfl fun a S => sg S (.ac rfl <| .z) fun a w S => wp_block (sg S (.mv rfl <| .yy (ys_T (by omega) (ys_leq Ev.c (.t rfl))) rfl <| .mv rfl <| .gy rfl rfl (ys_move (.t rfl)) <| .gy rfl rfl (ys_F (by omega) (ys_lss (.t rfl) Ev.c)) <| .yy (ys_pickT (.t rfl) (.t rfl)) rfl <| .as rfl <| .z) fun a w S => st_else S (.t rfl) (sg S (.mv rfl <| .yy (ys_F (by omega) (ys_eql (.t rfl) Ev.c)) rfl <| .as rfl <| .z) fun a w S => st_else S (.t rfl) (wp_seq_k fun _ hK1 => wp_region_lit (run S (.mv rfl <| .xx (ys_call call233 (.cons (.t rfl) .nil) (fun hp w W => c233 _ _)) rfl <| .z) fun a w S => ?_))))
  rw [rw_v] at S
  refine run S (.nt rfl <| .as rfl <| .z) fun a w S => st_nil (then_normal (hK1 _ _ (st_else S (.t rfl) (st_scope 1 (fun _ _ => False) rfl (sg S (.mv rfl <| .yy (ys_runeS _ underlying21 underlying9 (.t rfl) hl) rfl <| .as rfl <| .z) fun a w S => wp_seq_k fun _ hK1 => wp_region_lit (run S (.mv rfl <| .yy (ys_lenStr underlying9 (.t rfl)) rfl <| .z) fun a w S => ?_)) (fun a w h => h.elim)))))
  rw [rw_l] at S
  refine run S (.yy (ys_pred (.t rfl) Ev.c (by omega)) rfl <| .as rfl <| .z) fun a w S => st_nil (then_normal (hK1 _ _ (sg S (.mv rfl <| .as rfl <| .z) fun a w S => sg S (.ac rfl <| .z) fun a w S => wp_seq_k fun _ hK1 => wp_block (st_rounds 4 (st_round (wp_seq_k fun _ hK2 => wp_seq_k fun _ hK3 => wp_region_lit (run S (.mv rfl <| .mv rfl <| .yy (ys_lenStr underlying9 (.t rfl)) rfl <| .z) fun a w S => ?_)))))))
  rw [rw_l0] at S
  refine run S (.lt (by omega) rfl rfl <| .z) fun a w S => st_nil (then_normal (hK3 _ _ (st_then S (.t rfl) (wp_skip (then_normal (hK2 _ _ (wp_block (st_scope 0 (fun _ _ => False) rfl (wp_seq_k fun _ hK2 => wp_seq_k fun _ hK3 => st_quiet S (by kernel_rfl) (by kernel_rfl) fun a S => qrun S (.mv rfl <| .mv rfl <| .yy (ys_ixStr underlying9 (.t rfl) (.t rfl) (fun _ => by assumption)) rfl <| .z) fun a S => ?_) (fun a w h => h.elim)))))))))
  rw [rw_k2] at S
  refine qrun S (.mv rfl <| .mv rfl <| .yy (ys_ixStr underlying9 (.t rfl) (.t rfl) (fun _ => by assumption)) rfl <| .yy (ys_T (by omega) (ys_neq (.t rfl) (.t rfl))) rfl <| .z) fun a S => ?_
  (refine q_nil ?_; intro w W; replace S := St.mk S W; clear W)
  refine then_normal (hK3 _ _ (st_then S (.t rfl) (wp_seq_k fun _ hK3 => st_quiet S (by kernel_rfl) (by kernel_rfl) fun a S => qrun S (.mv rfl <| .mv rfl <| .ad (by unfold I64; omega) rfl <| .z) fun a S => ?_)))
  rw [rw_n] at S
  refine qrun S (.yy (ys_slStrLo underlying9 (.t rfl) (.t rfl) (fun _ => by first | omega | (simp; done) | (simp; omega))) rfl <| .z) fun a S => ?_
  rw [rw_d3] at S
  refine qrun S (.mv rfl <| .mv rfl <| .yy (ys_ixStr underlying9 (.t rfl) (.t rfl) (fun _ => by assumption)) rfl <| .xx (ys_call call232 (.cons (.t rfl) (.cons (.t rfl) .nil)) (fun hp w W => c232 _ _ _)) rfl <| .z) fun a S => ?_
  rw [rw_e] at S
  refine qrun S (.as rfl <| .z) fun a S => ?_
  (refine q_nil ?_; intro w W; replace S := St.mk S W; clear W)
  refine then_normal (hK3 _ _ (wp_seq_k fun _ hK3 => sg S (.mv rfl <| .yy (ys_T (by omega) (ys_lss (.t rfl) Ev.c)) rfl <| .z) fun a w S => st_then S (.t rfl) (sg S (.ac rfl <| .z) fun a w S => wp_ret (then_ret (then_ret ?_)))))
  refine jump_ret ?_
  refine in_ret (then_ret (in_ret (then_ret ?_)))
  refine jump_ret ?_
  refine in_ret (st_ret S (results1 S results213 (Rv.tmp rfl)) ?_)
  exact ⟨rfl, S.wd.below⟩
theorem rune_g (w0 : World) (r : Nat) (hr : r ≤ 2147483647) (h1 : ¬ r < 128) (h2 : ¬ r = 65533) (rw_v : validR r = true) (x y z u : UInt8) (hl : Utf8.encode (r : Int) = bs [x, y, z, u]) : Calls Tryz.prog 213 #[.string (bs [45, 95, 46]), .int .i32 (r : Int)] w0 fun e w' => e = .returned (.int .i64 (-1)) ∧ Bel w0.heap.size w0 w' := by
  have hs1 : ([45, 95, 46] : List UInt8)[1]? = some 95 := rfl
  have hs2 : ([45, 95, 46] : List UInt8)[2]? = some 46 := rfl
  have rw_l0 : (([45, 95, 46] : List UInt8).length : Int) = ((3 : Nat) : Int) := rfl
  have rw_k1 : (((95 : UInt8).toNat : Nat) : Int) = 95 := rfl
  have rw_k2 : (((46 : UInt8).toNat : Nat) : Int) = 46 := rfl
  have rw_d2 : List.drop 2 ([45, 95, 46] : List UInt8) = [46] := rfl
  have rw_d3 : List.drop 3 ([45, 95, 46] : List UInt8) = [] := rfl
  have rw_l : (([x, y, z, u] : List UInt8).length : Int) = 4 := rfl
  have rw_m : (4 : Int) - 1 = 3 := rfl
  refine enter2 func213 rfl ntmps213 rfl fun a S => sg S (.ac rfl <| .z) fun a w S => wp_block (sg S (.mv rfl <| .yy (ys_T (by omega) (ys_leq Ev.c (.t rfl))) rfl <| .mv rfl <| .gy rfl rfl (ys_move (.t rfl)) <| .gy rfl rfl (ys_F (by omega) (ys_lss (.t rfl) Ev.c)) <| .yy (ys_pickT (.t rfl) (.t rfl)) rfl <| .as rfl <| .z) fun a w S => st_else S (.t rfl) (sg S (.mv rfl <| .yy (ys_F (by omega) (ys_eql (.t rfl) Ev.c)) rfl <| .as rfl <| .z) fun a w S => st_else S (.t rfl) (wp_seq_k fun _ hK1 => wp_region_lit (run S (.mv rfl <| .xx (ys_call call233 (.cons (.t rfl) .nil) (fun hp w W => c233 _ _)) rfl <| .z) fun a w S => ?_))))
  rw [rw_v] at S
  refine run S (.nt rfl <| .as rfl <| .z) fun a w S => st_nil (then_normal (hK1 _ _ (st_else S (.t rfl) (st_scope 1 (fun _ _ => False) rfl (sg S (.mv rfl <| .yy (ys_runeS _ underlying21 underlying9 (.t rfl) hl) rfl <| .as rfl <| .z) fun a w S => wp_seq_k fun _ hK1 => wp_region_lit (run S (.mv rfl <| .yy (ys_lenStr underlying9 (.t rfl)) rfl <| .z) fun a w S => ?_)) (fun a w h => h.elim)))))
  rw [rw_l] at S
  refine run S (.yy (ys_pred (.t rfl) Ev.c (by omega)) rfl <| .as rfl <| .z) fun a w S => st_nil (then_normal (hK1 _ _ (sg S (.mv rfl <| .as rfl <| .z) fun a w S => sg S (.ac rfl <| .z) fun a w S => wp_seq_k fun _ hK1 => wp_block (st_rounds 4 (st_round (wp_seq_k fun _ hK2 => wp_seq_k fun _ hK3 => wp_region_lit (run S (.mv rfl <| .mv rfl <| .yy (ys_lenStr underlying9 (.t rfl)) rfl <| .z) fun a w S => ?_)))))))
  rw [rw_l0] at S
  refine run S (.ge (by omega) rfl rfl <| .z) fun a w S => st_nil (then_normal (hK3 _ _ (st_else S (.t rfl) (wp_exit (then_exit (then_exit (in_here (then_normal (hK1 _ _ (wp_seq_k fun _ hK1 => sg S (.ac rfl <| .z) fun a w S => wp_ret (then_ret ?_)))))))))))
  refine jump_ret ?_
  refine in_ret (st_ret S (results1 S results213 (Rv.tmp rfl)) ?_)
  exact ⟨rfl, S.wd.below⟩
theorem c213 (w0 : World) (r : Nat) (hr : r ≤ 2147483647) : Calls Tryz.prog 213 #[.string (bs [45, 95, 46]), .int .i32 (r : Int)] w0 fun e w' => e = .returned (.int .i64 (inDash r)) ∧ Bel w0.heap.size w0 w' := by
  by_cases h1 : r < 128
  · have e : inDash r = Lib.indexByte [45, 95, 46] (b8 (r : Int)) := by unfold inDash; rw [if_pos h1, b8_nat h1]
    rw [e]
    exact rune_a w0 r h1 _ rfl
  have e : inDash r = -1 := by unfold inDash; rw [if_neg h1]
  rw [e]
  by_cases h2 : r = 65533
  · exact rune_b w0 r h1 h2
  cases hv : validR r with
  | false => exact rune_c w0 r hr h1 h2 hv
  | true =>
    rcases rune_forms (p := (r : Int)) (by omega) with ⟨x, y, hl, hy⟩ | ⟨x, y, z, hl, hy⟩ | ⟨x, y, z, u, hl⟩
    · exact rune_d w0 r hr h1 h2 hv x y hl hy
    · exact rune_e w0 r hr h1 h2 hv x y z hl hy
    · exact rune_g w0 r hr h1 h2 hv x y z u hl
theorem c186 (w0 : World) (r : Nat) (hr : r ≤ 2147483647) : Calls Tryz.prog 186 #[.string (bs [45, 95, 46]), .int .i32 (r : Int)] w0 fun e w' => e = .returned (.bool (decide (0 ≤ inDash r))) ∧ Bel w0.heap.size w0 w' := by
  refine enter2 func186 rfl ntmps186 rfl fun a S => sg S (.ac rfl <| .z) fun a w S => sg S (.mv rfl <| .mv rfl <| .xx (ys_call call213 (.cons (.t rfl) (.cons (.t rfl) .nil)) (fun hp w W => c213 _ _ (by assumption))) rfl <| .yy (ys_geq (.t rfl) Ev.c) rfl <| .as rfl <| .z) fun a w S => wp_ret (st_ret S (results1 S results186 (Rv.tmp rfl)) ?_)
  exact ⟨rfl, S.wd.below⟩
theorem c185 (w0 : World) (r : Nat) (hr : r ≤ 2147483647) : Calls Tryz.prog 185 #[.int .i32 (r : Int)] w0 fun e w' => e = .returned (.bool (otherR r)) ∧ Bel w0.heap.size w0 w' := by
  have key : decide (0 ≤ inDash r) = (decide (r = 45) || decide (r = 95) || decide (r = 46)) := by
    unfold inDash
    by_cases h : r < 128
    · rw [if_pos h]
      exact dash_small ⟨r, h⟩
    · rw [if_neg h, Eq.comm]
      simp
      omega
  refine enter1 func185 rfl ntmps185 rfl fun a S => sg S (.ac rfl <| .z) fun a w S => wp_seq_k fun _ hK1 => wp_region_lit (run S (.mv rfl <| .yy (ys_geq (.t rfl) Ev.c) rfl <| .mv rfl <| .z) fun a w S => st_yg S rfl rfl (Yr.ys (ys_move (.t rfl))) rfl fun a w S => st_yg S rfl rfl (Yr.ys (ys_leq (Ev.g rfl) Ev.c)) rfl fun a w S => run S (.yy (ys_and (.t rfl) (Ev.g rfl) Ev.c) rfl <| .mv rfl <| .z) fun a w S => st_yf S rfl rfl (Yr.ys (ys_move (.t rfl))) rfl fun a w S => st_yf S rfl rfl (Yr.ys (ys_geq (Ev.g rfl) Ev.c)) rfl fun a w S => st_yf S rfl rfl (Yr.ys (ys_move (Ev.g rfl))) rfl fun a w S => st_yg2 S rfl rfl (Yr.ys (ys_move (.t rfl))) rfl fun a w S => st_yg2 S rfl rfl (Yr.ys (ys_leq (Ev.g rfl) Ev.c)) rfl fun a w S => st_yf S rfl rfl (Yr.ys (ys_and2 (Ev.g rfl) (Ev.g rfl) Ev.c)) rfl fun a w S => run S (.yy (ys_or (.t rfl) Ev.c (Ev.g rfl)) rfl <| .mv rfl <| .z) fun a w S => st_yf S rfl rfl (Yr.ys (ys_move (.t rfl))) rfl fun a w S => st_yf S rfl rfl (Yr.ys (ys_geq (Ev.g rfl) Ev.c)) rfl fun a w S => st_yf S rfl rfl (Yr.ys (ys_move (Ev.g rfl))) rfl fun a w S => st_yg2 S rfl rfl (Yr.ys (ys_move (.t rfl))) rfl fun a w S => st_yg2 S rfl rfl (Yr.ys (ys_leq (Ev.g rfl) Ev.c)) rfl fun a w S => st_yf S rfl rfl (Yr.ys (ys_and2 (Ev.g rfl) (Ev.g rfl) Ev.c)) rfl fun a w S => run S (.yy (ys_or (.t rfl) Ev.c (Ev.g rfl)) rfl <| .mv rfl <| .z) fun a w S => ?_)
  refine st_yf S rfl rfl (Yr.ys (ys_move (.t rfl))) rfl fun a w S => st_yf S rfl rfl (ys_call call186 (.cons Ev.c (.cons (Ev.g rfl) .nil)) (fun hp w W => c186 _ _ (by assumption))) rfl fun a w S => run S (.yy (ys_or (.t rfl) Ev.c (Ev.g rfl)) rfl <| .nt rfl <| .as rfl <| .z) fun a w S => st_nil (then_normal (hK1 _ _ (wp_ret (st_ret S (results1 S results185 (Rv.tmp rfl)) ?_))))
  refine ⟨?_, S.wd.below⟩
  rw [key]
  unfold otherR
  congr 3
  have e1 : decide ((97 : Int) ≤ (r : Int)) = decide (97 ≤ r) := decide_eq_decide.2 (by omega)
  have e2 : decide ((r : Int) ≤ 122) = decide (r ≤ 122) := decide_eq_decide.2 (by omega)
  have e3 : decide ((65 : Int) ≤ (r : Int)) = decide (65 ≤ r) := decide_eq_decide.2 (by omega)
  have e4 : decide ((r : Int) ≤ 90) = decide (r ≤ 90) := decide_eq_decide.2 (by omega)
  have e5 : decide ((48 : Int) ≤ (r : Int)) = decide (48 ≤ r) := decide_eq_decide.2 (by omega)
  have e6 : decide ((r : Int) ≤ 57) = decide (r ≤ 57) := decide_eq_decide.2 (by omega)
  rw [e1, e2, e3, e4, e5, e6]
  simp only [Bool.or_assoc]
theorem c214 (w0 : World) (s : List UInt8) : Calls Tryz.prog 214 #[.string (bs s), .func (.func 185) #[] #[], .bool true] w0 fun e w' => e = .returned (.int .i64 (idxR otherR s s.length 0)) ∧ Bel w0.heap.size w0 w' := by
  refine enter3 func214 rfl ntmps214 rfl fun a S => sg S (.ac rfl <| .z) fun a w S => wp_seq_k fun _ hK1 => wp_seq_k fun _ hK2 => wp_region_lit (run S (.mv rfl <| .z) fun a w S => st_m (op_rangeS S underlying9 (.t rfl) rfl fun g1 a w S => st_nil (then_normal (hK2 _ _ (wp_block ?_)))))
  refine st_lpM S [7, 8] (X := Nat × Nat) (fun q => []) (fun q => [.blk g1 (.stringIter (bs s) q.1)])
    (fun q => idxR otherR s q.2 q.1 = idxR otherR s s.length 0 ∧ s.length ≤ q.1 + q.2) (fun q => s.length + 1 - q.1) (0, s.length) ⟨rfl, by simp⟩ ?_
  clear S
  rintro ⟨p, f⟩ a w ⟨h1, h2⟩ S
  dsimp only at h1 h2 S
  refine wp_seq_k fun _ hK2 => wp_region_lit ?_
  refine st_m (op_nextS S (.t rfl) (i := 0) rfl rfl (fun h => ?_) (fun h => ?_))
  · clear S a w
    intro a w S
    refine run S (.ex rfl rfl <| .z) fun a w S => st_nil (then_normal (hK2 _ _ (wp_seq_k fun _ hK2 => st_else S (.t rfl) (wp_exit (then_exit (then_exit (in_here (then_normal (hK1 _ _ (sg S (.ac rfl <| .z) fun a w S => wp_ret (st_ret S (results1 S results214 (Rv.tmp rfl)) ?_)))))))))))
    exact ⟨by rw [← h1, idxR_end h], S.wd.below⟩
  · clear S a w
    intro a w S
    have hw := Lib.width_pos (bs s) p
    have hru := Lib.rune_le (bs s) p
    obtain ⟨f', rfl⟩ : ∃ f', f = f' + 1 := ⟨f - 1, by omega⟩
    rw [idxR, if_pos h] at h1
    generalize (Utf8.decode (bs s) p).1 = R at *
    generalize (Utf8.decode (bs s) p).2 = W at *
    cases rw_o : otherR R with
    | true =>
      refine run S (.ex rfl rfl <| .z) fun a w S => st_nil (then_normal (hK2 _ _ (wp_seq_k fun _ hK2 => st_then S (.t rfl) (wp_skip (then_normal (hK2 _ _ (wp_block (sg S (.ex rfl rfl <| .ex rfl rfl <| .as rfl <| .as rfl <| .z) fun a w S => wp_seq_k fun _ hK2 => wp_region_lit (run S (.mv rfl <| .mv rfl <| .xx (ys_callV (.t rfl) call185 (.cons (.t rfl) .nil) (fun hp w W => c185 _ _ (by omega))) rfl <| .z) fun a w S => ?_)))))))))
      simp only [List.nil_append] at S
      rw [rw_o] at S
      refine run S (.mv rfl <| .yy (ys_eqlB underlying4 (.t rfl) (.t rfl)) rfl <| .z) fun a w S => st_nil (then_normal (hK2 _ _ (st_then S (.t rfl) (sg S (.mv rfl <| .as rfl <| .z) fun a w S => wp_ret (in_ret (then_ret (in_ret (then_ret (st_ret S (results1 S results214 (Rv.tmp rfl)) ?_)))))))))
      exact ⟨by rw [← h1, if_pos rw_o], S.wd.below⟩
    | false =>
      refine run S (.ex rfl rfl <| .z) fun a w S => st_nil (then_normal (hK2 _ _ (wp_seq_k fun _ hK2 => st_then S (.t rfl) (wp_skip (then_normal (hK2 _ _ (wp_block (sg S (.ex rfl rfl <| .ex rfl rfl <| .as rfl <| .as rfl <| .z) fun a w S => wp_seq_k fun _ hK2 => wp_region_lit (run S (.mv rfl <| .mv rfl <| .xx (ys_callV (.t rfl) call185 (.cons (.t rfl) .nil) (fun hp w W => c185 _ _ (by omega))) rfl <| .z) fun a w S => ?_)))))))))
      simp only [List.nil_append] at S
      rw [rw_o] at S
      refine run S (.mv rfl <| .yy (ys_eqlB underlying4 (.t rfl) (.t rfl)) rfl <| .z) fun a w S => st_nil (then_normal (hK2 _ _ (st_else S (.t rfl) (wp_skip (in_normal (then_normal ?_))))))
      exact ⟨(p + W, f'), ⟨by rw [← h1, if_neg (by simp [rw_o])], by dsimp only; omega⟩, by dsimp only; omega, S.pk⟩
theorem c187 (w0 : World) (s : List UInt8) : Calls Tryz.prog 187 #[.string (bs s), .func (.func 185) #[] #[]] w0 fun e w' => e = .returned (.int .i64 (idxR otherR s s.length 0)) ∧ Bel w0.heap.size w0 w' := by
  refine enter2 func187 rfl ntmps187 rfl fun a S => sg S (.ac rfl <| .z) fun a w S => sg S (.mv rfl <| .mv rfl <| .xx (ys_call call214 (.cons (.t rfl) (.cons (.t rfl) (.cons Ev.c .nil))) (fun hp w W => c214 _ _)) rfl <| .as rfl <| .z) fun a w S => wp_ret (st_ret S (results1 S results187 (Rv.tmp rfl)) ?_)
  exact ⟨rfl, S.wd.below⟩
theorem c157 (w0 : World) (s : List UInt8) : Calls Tryz.prog 157 #[.string (bs s)] w0 fun e w' => e = .returned (.bool (nameB s)) ∧ Bel w0.heap.size w0 w' := by
  refine enter1 func157 rfl ntmps157 rfl fun a S => sg S (.ac rfl <| .z) fun a w S => sg S (.yy (ys_assign Ev.f) rfl <| .z) fun a w S => wp_seq_k fun _ hK1 => wp_region_lit (run S (.mv rfl <| .yy (ys_neqStr (.t rfl) Ev.c) rfl <| .mv rfl <| .z) fun a w S => st_yg S rfl rfl (Yr.ys (ys_move (.t rfl))) rfl fun a w S => st_yg S rfl rfl (Yr.ys (ys_lenStr underlying9 (Ev.g rfl))) rfl fun a w S => st_yg S rfl rfl (Yr.ys (ys_leq (Ev.g rfl) Ev.c)) rfl fun a w S => run S (.yy (ys_and (.t rfl) (Ev.g rfl) Ev.c) rfl <| .mv rfl <| .z) fun a w S => st_yg S rfl rfl (Yr.ys (ys_move (.t rfl))) rfl fun a w S => st_yg S rfl rfl (Yr.ys (ys_move (.t rfl))) rfl fun a w S => st_yg S rfl rfl (ys_call call187 (.cons (Ev.g rfl) (.cons (Ev.g rfl) .nil)) (fun hp w W => c187 _ _)) rfl fun a w S => st_yg S rfl rfl (Yr.ys (ys_lss (Ev.g rfl) Ev.c)) rfl fun a w S => run S (.yy (ys_and (.t rfl) (Ev.g rfl) Ev.c) rfl <| .as rfl <| .z) fun a w S => st_nil (then_normal (hK1 _ _ (wp_ret (st_ret S (results1 S results157 (Rv.tmp rfl)) ?_)))))
  refine ⟨?_, S.wd.below⟩
  have h := name_idx s
  have e1 : decide ((s.length : Int) ≤ 32) = decide (s.length ≤ 32) := decide_eq_decide.2 (by omega)
  rw [h, e1]
  rfl
end Go.Proofs.YtakpdbmdfnialaaGreat
set_option linter.unusedVariables false
set_option linter.unusedSimpArgs false
namespace Go.Fw
open Go.Proofs Go.RowKit
section
variable {P : Program} {ops : Array Oper} {Q : Exit → Act → World → Prop} {a : Act} {w : World} {lp m : Nat}
theorem upon_round {o : Oper} {K : Act → World → Prop} {r : Result Next} (h : o.upon P a K Q r) : o.uponIn (Fence.wide.inRound lp) m P a K Q r := by
  cases r with
  | ok x w' =>
    cases x <;> simp only [Oper.upon, Oper.uponIn] at h ⊢ <;> first | exact h | skip
    · refine ⟨fun h => by simp [Fence.wide] at h, ?_⟩
      exact (callsIn_wide (n := m - 1)).2 h
    · refine ⟨fun h => by simp [Fence.wide] at h, fun c cs _ => ?_⟩
      obtain ⟨v, w', r, s⟩ := h c cs
      exact ⟨v, w', r, stepsIn_wide.2 s⟩
  | halt x w' => cases x <;> simp only [Oper.upon, Oper.uponIn] at h ⊢ <;> exact h
def noDefer (o : Oper) : Bool := match o.op with
  | .defer _ => false
  | _ => true
theorem wp_round {o : Oper} {K : Act → World → Prop} (hd : noDefer o = true) (h : o.wp P a w K Q) : o.wpIn (Fence.wide.inRound lp) m P a w K Q := by
  refine ⟨fun _ _ => trivial, ?_⟩
  rw [Fence.inRound_round, Oper.semAt_some lp _ _ (fun c hc => by unfold noDefer at hd; rw [hc] at hd; cases hd)]
  exact upon_round h
theorem wpOps_round (hnd : ops.all noDefer = true) (hlo : ¬ LetsOut Q) : ∀ (l : List Nat) (a : Act) (w : World), wpOps P ops Q l a w → wpOpsIn (Fence.wide.inRound lp) m P ops Q l a w
  | [], a, w, h => h
  | i :: rest, a, w, h => by
    unfold wpOps at h
    unfold wpOpsIn
    cases ho : ops[i]? with
    | none => rw [ho] at h; exact wpOps_round hnd hlo rest a w h
    | some o =>
      rw [ho] at h
      have hd : noDefer o = true := by
        obtain ⟨hi, e⟩ := Array.getElem?_eq_some_iff.1 ho
        exact e ▸ (Array.all_eq_true.1 hnd i hi)
      dsimp only at h ⊢
      split
      · rename_i hw
        rw [if_pos hw] at h
        rcases h with h | h
        · exact Oper.wpIn_mono (fun a w h => wpOps_round hnd hlo rest a w h) (wp_round hd h)
        · exact absurd h.2 hlo
      · rename_i hw
        rw [if_neg hw] at h
        exact ⟨fun _ _ => trivial, wpOps_round hnd hlo rest _ w h⟩
theorem lets_block {i : Nat} (h : ¬ LetsOut Q) : ¬ LetsOut (Exit.inBlock i Q) := fun ⟨a, w, h'⟩ => h ⟨a, w, h'⟩
theorem region_round {id : Nat} {l : List Oper} (hnd : l.toArray.all noDefer = true) (hlo : ¬ LetsOut Q) (h : wpList P l.toArray Q l a w) : (Code.region id l.toArray false).wpIn (Fence.wide.inRound lp) m P Q a w :=
  wpIn_region (wpOps_round hnd hlo _ _ _ (by rw [List.range_eq_range', ← Array.length_toList, wpOps_eq_wpList l.toArray.toList 0 (by simp)]; simpa using h))
end
section
variable {P : Program} {ops : Array Oper} {Q : Exit → Act → World → Prop} {md : Region.Mode} {S : World → Prop} {m : Nat}
theorem YieldsIf.wpOpI {i : Nat} {o : Oper} {v : Value} {a : Act} (hi : ops[i]? = some o) (hy : YieldsIf P ops S o v a)
    {K : Act → World → Prop} {w : World} (hS : S w) (h : K (a.put o.dst v) w) : wpOpIn Fence.wide m P ops Q i K a w := by
  unfold Go.wpOpIn
  simp only [hi]
  rcases hy with ⟨hw, hv⟩ | ⟨hw, rfl⟩
  · simp only [hw, if_true, Oper.wpIn]
    refine ⟨fun _ _ => trivial, ?_⟩
    rw [show Oper.semAt Fence.wide.round a.eval o = execOp a.eval o from rfl, hv w hS]
    exact h
  · simp only [hw, Bool.false_eq_true, if_false]; exact ⟨fun _ _ => trivial, h⟩
theorem wpOpI_put {j : Nat} {oi oj : Oper} {v : Value} (hj : ops[j]? = some oj) (hap : oi.apart ops oj = true)
    (hsi : ∀ cs b, oi.op ≠ .select cs b) (hsj : ∀ cs b, oj.op ≠ .select cs b)
    (hQ : ∀ c a w, Q (.panic c) (a.put oi.dst v) w → Q (.panic c) a w) {K : Act → World → Prop} {a : Act} {w : World}
    (hy : YieldsIf P ops S oi v a) (h : wpOpIn Fence.wide m P ops Q j K (a.put oi.dst v) w) :
    wpOpIn Fence.wide m P ops Q j (fun a' w' => YieldsIf P ops S oi v a' ∧ K (a'.put oi.dst v) w') a w := by
  obtain ⟨h1, h2, h3⟩ := Oper.apart_spec hap
  have keep : ∀ (a : Act), YieldsIf P ops S oi v a → ∀ u, YieldsIf P ops S oi v (a.put oj.dst u) := fun a hy u =>
    hy.of_same (execOp_put oi hsi a oj.dst u h3) (wanted_put oi a oj.dst u h3)
  have keepD : ∀ d, YieldsIf P ops S oi v { a with defers := d :: a.defers } := fun d => hy.of_same rfl rfl
  unfold wpOpIn at *
  simp only [hj] at *
  rw [wanted_put oj a oi.dst v h1] at h
  split
  · rename_i hw
    simp only [hw, if_true] at h
    refine ⟨fun _ _ => trivial, ?_⟩
    obtain ⟨_, h⟩ := h
    rw [show Oper.semAt Fence.wide.round (a.put oi.dst v).eval oj = execOp (a.put oi.dst v).eval oj from rfl, execOp_put oj hsj a oi.dst v h1] at h
    rw [show Oper.semAt Fence.wide.round a.eval oj = execOp a.eval oj from rfl]
    generalize (execOp a.eval oj).run P w = r at *
    cases r with
    | ok n w' =>
      cases n <;> simp only [Oper.uponIn] at h ⊢
      case value u => exact ⟨keep a hy u, by rw [← Act.put_comm a v u h2]; exact h⟩
      case skip => exact ⟨keep a hy _, by rw [← Act.put_comm a v undef h2]; exact h⟩
      case defer d =>
        refine ⟨keep _ (keepD d) _, ?_⟩
        rw [← Act.put_comm _ v undef h2, ← Act.put_defers]
        exact h
      case enter f args =>
        refine ⟨h.1, CallsIn.mono h.2 fun e w'' he => ?_⟩
        cases e with
        | returned u => exact ⟨keep a hy u, by rw [← Act.put_comm a v u h2]; exact he⟩
        | panicked c => exact hQ _ _ _ he
        | outgrown => exact he
      case row row args => exact ⟨h.1, RowsIn.mono h.2 fun u w'' he => ⟨keep a hy u, by rw [← Act.put_comm a v u h2]; exact he⟩⟩
      case round l f tmps assign body =>
        refine ⟨h.1, RoundIn.mono h.2 fun e w'' he => ?_⟩
        cases e with
        | returned u => exact ⟨keep a hy u, by rw [← Act.put_comm a v u h2]; exact he⟩
        | panicked c => exact hQ _ _ _ he
        | outgrown => exact he
    | halt x w' =>
      cases x <;> simp only [Oper.uponIn] at h ⊢
      case panic u => exact hQ _ _ _ h
  · rename_i hw
    simp only [hw] at h
    exact ⟨fun _ _ => trivial, keep a hy _, by rw [← Act.put_comm a v undef h2]; exact h.2⟩
def wpAnyI (m : Nat) (P : Program) (md : Region.Mode) (ops : Array Oper) (Q : Exit → Act → World → Prop) (S : World → Prop) : Nat → Array Bool → Act → World → Prop
  | 0, listed, a, w => Region.ready md ops listed = [] ∧ Q .normal a w
  | fuel + 1, listed, a, w =>
    (Region.ready md ops listed = [] → Q .normal a w) ∧
    ∀ i ∈ Region.ready md ops listed, wpOpIn Fence.wide m P ops Q i (fun a' w' => S w' ∧ wpAnyI m P md ops Q S fuel (listed.setIfInBounds i true) a' w') a w
theorem wpAny_of_I : ∀ (fuel : Nat) (listed : Array Bool) (a : Act) (w : World), wpAnyI m P md ops Q S fuel listed a w → wpAnyIn Fence.wide m P md ops Q fuel listed a w
  | 0, _, _, _, h => h
  | fuel + 1, _, _, _, h => ⟨h.1, fun i hi => wpOpIn_mono (fun a' w' h' => wpAny_of_I fuel _ a' w' h'.2) (h.2 i hi)⟩
theorem wpAnyI_first {i : Nat} {oi : Oper} {v : Value} (hi : ops[i]? = some oi) (hsel : ∀ (j : Nat) (o : Oper) cs b, ops[j]? = some o → o.op ≠ .select cs b)
    (hQ : ∀ c a w, Q (.panic c) (a.put oi.dst v) w → Q (.panic c) a w) :
    ∀ (fuel : Nat) (listed : Array Bool) (a : Act) (w : World),
      (∀ j oj, ops[j]? = some oj → j ≠ i → listed.getD j true = false → (∀ e ∈ oj.after, Region.binds md e = true → e.on ≠ i) → oi.apart ops oj = true) →
      i ∈ Region.ready md ops listed → YieldsIf P ops S oi v a → S w →
      wpAnyI m P md ops Q S fuel (listed.setIfInBounds i true) (a.put oi.dst v) w → wpAnyI m P md ops Q S (fuel + 1) listed a w := by
  intro fuel
  induction fuel with
  | zero =>
    intro listed a w _ hr hy hS H
    refine ⟨fun h => (by rw [h] at hr; cases hr), fun j hj => ?_⟩
    by_cases hji : j = i
    · subst hji; exact YieldsIf.wpOpI hi hy hS ⟨hS, H⟩
    · have := ready_mono hj hji
      rw [H.1] at this
      cases this
  | succ fuel ih =>
    intro listed a w hfree hr hy hS H
    refine ⟨fun h => (by rw [h] at hr; cases hr), fun j hj => ?_⟩
    by_cases hji : j = i
    · subst hji; exact YieldsIf.wpOpI hi hy hS ⟨hS, H⟩
    · have h1 := H.2 j (ready_mono hj hji)
      obtain ⟨hjun, oj, hoj, hall⟩ := mem_ready.1 hj
      have hnot : ∀ e ∈ oj.after, Region.binds md e = true → e.on ≠ i := fun e he hb heq => by
        have h1 := hall e he hb
        have h0 := (mem_ready.1 hr).1
        rw [heq] at h1
        rcases Nat.lt_or_ge i listed.size with h' | h'
        · simp [h'] at h0 h1; rw [h0] at h1; cases h1
        · simp [Array.getElem?_eq_none h'] at h1
      have h2 := wpOpI_put hoj (hfree j oj hoj hji hjun hnot) (fun cs b => hsel i oi cs b hi) (fun cs b => hsel j oj cs b hoj) hQ hy h1
      have hfree' : ∀ k ok, ops[k]? = some ok → k ≠ i → (listed.setIfInBounds j true).getD k true = false →
          (∀ e ∈ ok.after, Region.binds md e = true → e.on ≠ i) → oi.apart ops ok = true := fun k ok hk hki hun hno => by
        refine hfree k ok hk hki ?_ hno
        by_cases hjk : j = k
        · subst hjk; exact hjun
        · rw [getD_set_ne true hjk] at hun; exact hun
      refine wpOpIn_mono (fun a' w' h3 => ⟨h3.2.1, ih (listed.setIfInBounds j true) a' w' hfree' (ready_mono hr (Ne.symm hji)) h3.1 h3.2.1 ?_⟩) h2
      rw [Array.setIfInBounds_comm _ _ hji]
      exact h3.2.2
theorem wpAnyI_all {rs : List Nat} {fuel : Nat} {listed : Array Bool} {a : Act} {w : World} (hr : Region.ready md ops listed = rs) (hne : rs ≠ [])
    (h : ∀ i ∈ rs, wpOpIn Fence.wide m P ops Q i (fun a' w' => S w' ∧ wpAnyI m P md ops Q S fuel (listed.setIfInBounds i true) a' w') a w) : wpAnyI m P md ops Q S (fuel + 1) listed a w :=
  ⟨fun h0 => absurd (hr ▸ h0) hne, hr ▸ h⟩
theorem wpAnyI_done {listed : Array Bool} {a : Act} {w : World} (hr : Region.ready md ops listed = []) (h : Q .normal a w) :
    ∀ fuel, wpAnyI m P md ops Q S fuel listed a w
  | 0 => ⟨hr, h⟩
  | _ + 1 => ⟨fun _ => h, by rw [hr]; simp⟩
theorem region_yields {id : Nat} {a : Act} {w : World} (m : Nat) (S : World → Prop) (hm : P.follows .mixedOrders = true)
    (h : wpAnyI m P .any ops Q S ops.size (Array.replicate ops.size false) a { w with drawn := w.drawn + 1 }) : (Code.region id ops true).wp P Q a w :=
  wpIn_wide.1 (wpIn_region_any hm (wpAny_of_I _ _ _ _ h))
variable {n : Nat} {w0 : World} {K : KL} {L Lr : List Chunk} {a : Act} {w : World} {fuel i d : Nat} {listed : Array Bool} {op : Op} {ty : TypeId} {pos : String} {aft : Array Edge} {v : Value}
def Yielded (m : Nat) (P : Program) (l : Nat) (args : Array Value) (W : World) (R : Ending → World → Prop) : Prop :=
  ∃ fn tmps assign body, (Instr.yield l args).run P W = .ok (.round l fn tmps assign body) W ∧ RoundIn Fence.wide m P l fn tmps assign body W R
theorem i_y (S : St n w0 K L a w) (hsub : Lr.Sublist L) (hi : ops[i]? = some ⟨some d, op, ty, pos, aft, none⟩) (hs : Region.noSelect ops = true) (hf : Region.free md ops listed i = true) (hr : (Region.ready md ops listed).contains i = true)
    (hQ : ∀ v c a w, Q (.panic c) (a.put (some d) v) w → Q (.panic c) a w) (hy : Yr P ⟨some d, op, ty, pos, aft, none⟩ n K w0 Lr true v) (hd : Nat.blt d n = true)
    (next : ∀ a w, St n w0 ((d, true, v) :: K) L a w → wpAnyI m P md ops Q (Wd w0 Lr) fuel (listed.setIfInBounds i true) a w) : wpAnyI m P md ops Q (Wd w0 Lr) (fuel + 1) listed a w :=
  wpAnyI_first hi (Region.noSelect_spec hs) (hQ v) fuel listed a w (Region.free_spec hi hf) (by simpa using hr) (.inl ⟨rfl, fun w hw => hy a w rfl S.kn hw⟩) (S.wd.sub hsub) (next _ _ ⟨S.kn.put hd v, S.wd⟩)
theorem i_yield {x : Operand} {xs : List Operand} {ts : Array TypeId} {vs : List Value} {lp : Nat} (S : St n w0 K L a w) (hi : ops[i]? = some ⟨some d, .call ⟨.value x, xs.toArray, ts⟩, ty, pos, aft, none⟩) (hr : Region.ready md ops listed = [i]) (hd : Nat.blt d n = true)
    (hx : Ev n true K x (.func (.yield lp) #[] #[])) (hxs : EvL n true K xs vs)
    {R : World → Prop} (hY : Yielded (m - 1) P lp vs.toArray w fun e w' => e = .returned (.bool true) ∧ R w')
    (next : ∀ a w', R w' → Kn n ((d, true, .bool true) :: K) a → Wd w0 Lr w' ∧ wpAnyI m P md ops Q (Wd w0 Lr) fuel (listed.setIfInBounds i true) a w') : wpAnyI m P md ops Q (Wd w0 Lr) (fuel + 1) listed a w := by
  refine wpAnyI_all hr (by simp) fun k hk => ?_
  simp only [List.mem_singleton] at hk
  subst hk
  unfold wpOpIn
  simp only [hi, Region.wanted, if_true]
  refine ⟨fun _ _ => trivial, ?_⟩
  obtain ⟨fn, tmps, assign, body, hrun, hR⟩ := hY
  have e : (xs.toArray.map a.eval) = vs.toArray := by rw [List.map_toArray, hxs a rfl S.kn]
  have he : (Oper.semAt Fence.wide.round a.eval ⟨some d, .call ⟨.value x, xs.toArray, ts⟩, ty, pos, aft, none⟩).run P w = .ok (.round lp fn tmps assign body) w := by
    have e2 : ∀ o, Oper.semAt Fence.wide.round a.eval o = execOp a.eval o := fun _ => rfl
    rw [e2]
    simp only [execOp, resolve, e, hx a rfl S.kn]
    simp [Deferred.ofValue, invoke, hrun]
  rw [he]
  refine ⟨fun h => by simp [Fence.wide] at h, RoundIn.mono hR fun en w' ⟨h1, h2⟩ => ?_⟩
  subst h1
  exact next _ _ h2 (S.kn.put hd _)
end
section
variable {P : Program} {n : Nat} {w0 : World} {K : KL} {L : List Chunk} {a : Act} {w : World} {Q : Exit → Act → World → Prop}
abbrev recR (st : LoopState) (fn : FuncId) (tmps : Array Value) (ps : Array Tmp) (assign body : Code) (D : Nat) : Loop := { state := st, pending := none, fn, tmps, params := ps, assign, body, defers := D }
abbrev loopK (lp D : Nat) (r : Loop) (L : List Chunk) : List Chunk := .blk lp (.loop r) :: .blk D (.deferred (some [])) :: L
theorem st_range {x : Operand} {ps : Array Tmp} {assign body : Code} {gf : Nat} {lb : List Value} (m : Nat) (S : St n w0 K L a w) (hx : Ev n true K x (.func (.func gf) #[] lb.toArray)) (eg : ∀ args w, (callFunc gf args).run P w = .ok (.enter gf args) w)
    {R : Nat → World → Prop}
    (call : ∀ fn lp D W, Wd w0 (loopK lp D (recR .ready fn a.tmps ps assign body D) L) W → Calls P gf (.func (.yield lp) #[] #[] :: lb).toArray W fun e W' => (∃ v, e = .returned v) ∧ W'.heap[lp]? = some (.loop (recR .ready fn a.tmps ps assign body D)) ∧ R D (W'.putObj lp (.loop (recR .exhausted fn a.tmps ps assign body D))))
    (next : ∀ D W', R D W' → Q .normal { a with defers := [{ target := .collected D, args := #[] }] } W') : (Code.rangeFunc x ps assign body).wp P Q a w := by
  refine (wpIn_wide (n := m)).1 (wpIn_rangeFunc ?_)
  intro fn hfn
  have hg := hx a rfl S.kn
  have hd := S.kn.defers
  have W1 := (S.wd.alloc (.deferred (some []))).alloc (.loop (recR .ready fn a.tmps ps assign body w.heap.size))
  rw [World.size_alloc] at W1
  refine ⟨w.heap.size + 1, [{ target := .collected w.heap.size, args := #[] }], (w.alloc (.deferred (some []))).alloc (.loop (recR .ready fn a.tmps ps assign body w.heap.size)), { target := .fn (.func gf) lb.toArray, args := #[.func (.yield (w.heap.size + 1)) #[] #[]] }, (w.alloc (.deferred (some []))).alloc (.loop (recR .ready fn a.tmps ps assign body w.heap.size)), gf,
    #[.func (.yield (w.heap.size + 1)) #[] #[]] ++ lb.toArray, (w.alloc (.deferred (some []))).alloc (.loop (recR .ready fn a.tmps ps assign body w.heap.size)), run_enterLoop_outer _ _ _ _ _, ?_, fun _ _ => trivial, ?_, fun h => by simp [Fence.wide] at h, ?_⟩
  · simp only [resolve, hg]
    simp [go_sem]
  · simp [invoke, go_sem, eg]
  · have hc := call fn _ _ _ W1
    have e : (#[.func (.yield (w.heap.size + 1)) #[] #[]] ++ lb.toArray : Array Value) = (.func (.yield (w.heap.size + 1)) #[] #[] :: lb).toArray := by simp
    rw [e]
    refine callsIn_wide.2 (hc.mono fun en W2 ⟨⟨v, hv⟩, hl, hR⟩ => ?_)
    subst hv
    refine ⟨none, _, run_endLoop hl (by simp), ?_⟩
    have := next _ _ hR
    rw [hd]
    simpa using this
theorem yields_of {lp D : Nat} {fn : FuncId} {tmps : Array Value} {ps : Array Tmp} {assign body : Code} {args : List Value} {L : List Chunk} {w : World} {R : World → Prop} {m : Nat}
    (W : Wd w0 (loopK lp D (recR .ready fn tmps ps assign body D) L) w) (hps : args.length = ps.size) (ha : assign = .skip)
    (h : ∀ w1, Wd w0 (loopK lp D (recR .busy fn tmps ps assign body D) L) w1 → body.wpIn (Fence.wide.inRound lp) m P (fun e _ w' => e = .normal ∧ w'.heap[lp]? = some (.loop (recR .busy fn tmps ps assign body D)) ∧ R (w'.putObj lp (.loop (recR .ready fn tmps ps assign body D))))
      { tmps := (ps.zip args.toArray).foldl (fun t (p, v) => t.setIfInBounds p v) tmps, defers := [] } w1) :
    Yielded m P lp args.toArray w fun e w' => e = .returned (.bool true) ∧ R w' := by
  have hl := (W.get (k := 0) rfl).2
  have hy := run_yield (P := P) (args := args.toArray) hl (by simpa using hps)
  refine ⟨_, _, _, _, hy, roundIn_of_wpIn trivial ?_⟩
  rw [ha]
  refine wpIn_skip ⟨_, run_beginRound hl rfl, ?_⟩
  have W1 : Wd w0 (loopK lp D (recR .busy fn tmps ps assign body D) L) (w.putObj lp (.loop (recR .busy fn tmps ps assign body D))) := W.setBlk (k := 0) rfl
  refine wpIn_mono (h _ W1) fun e a w' ⟨he, hl', hR⟩ => ?_
  subst he
  exact ⟨_, _, run_endRound none hl', rfl, hR⟩
theorem enter_range {f : FuncId} {fn : Func} {c : Code} {args : List Value} {w : World} {R : Ending → World → Prop} (hf : P.funcs[f]? = some fn) (hb : fn.body = some c)
    {n : Nat} (hn : fn.ntmps = n) (hsz : Nat.ble args.length n = true) (h : ∀ a, St n w (argsK 0 args) [] a w → c.wp P (bodyPostM Fence.wide 1 P fn R) a w) : Calls P f args.toArray w R := by
  refine callsIn_wide.1 (callsIn_of_wp_marks (n := 1) hf hb trivial (wpIn_wide.2 (h _ ⟨⟨rfl, ?_, fun i g v hv => ?_⟩, Wd.start w⟩)))
  · have := Nat.le_of_ble_eq_true hsz
    simp [hn]; omega
  · obtain ⟨rfl, h1, h2⟩ := argsK_ok args 0 i g v hv
    have hi : i < args.length := (List.getElem?_eq_some_iff.1 h2).1
    simp at h2
    simp [Array.getElem?_append, hi, (List.getElem?_eq_some_iff.1 h2).2]
theorem leave_range {fn : Func} {R : Ending → World → Prop} {a : Act} {w : World} {D : Nat} {v : Value} (hd : a.defers = [{ target := .collected D, args := #[] }]) (hD : w.heap[D]? = some (.deferred (some [])))
    (hv : (results fn a.tmps).run P (w.putObj D (.deferred none)) = .ok v (w.putObj D (.deferred none))) (hR : R (.returned v) (w.putObj D (.deferred none))) : bodyPostM Fence.wide 1 P fn R .ret a w := by
  show LeavesInM Fence.wide 1 P fn a.tmps R a.defers .returning w
  rw [hd]
  refine ⟨by simp, .inl ⟨D, _, rfl, run_takeDeferred hD, ?_⟩⟩
  exact ⟨v, hv, hR⟩
theorem kn_round2 {n : Nat} {K : KL} {a : Act} {p q : Nat} {u v : Value} (hk : Kn n K a) (hp : Nat.blt p n = true) (hq : Nat.blt q n = true) :
    Kn n ((q, true, v) :: (p, true, u) :: K) { tmps := ((#[p, q] : Array Tmp).zip [u, v].toArray).foldl (fun t (p, v) => t.setIfInBounds p v) a.tmps, defers := [] } := by
  have h := (hk.put hp u).put hq v
  have e : ({ tmps := ((#[p, q] : Array Tmp).zip [u, v].toArray).foldl (fun t (p, v) => t.setIfInBounds p v) a.tmps, defers := [] } : Act) = (a.put (some p) u).put (some q) v := by
    simp [Act.put, hk.defers]
  rw [e]
  exact h
theorem yields2 {lp D : Nat} {fn : FuncId} {p q : Nat} {u v : Value} {body : Code} {w : World} {R : World → Prop} {m : Nat}
    (hk : Kn n K a) (W : Wd w0 (loopK lp D (recR .ready fn a.tmps #[p, q] .skip body D) L) w) (hp : Nat.blt p n = true) (hq : Nat.blt q n = true)
    (h : ∀ b w1, St n w0 ((q, true, v) :: (p, true, u) :: K) (loopK lp D (recR .busy fn a.tmps #[p, q] .skip body D) L) b w1 → body.wpIn (Fence.wide.inRound lp) m P (fun e _ w' => e = .normal ∧ w'.heap[lp]? = some (.loop (recR .busy fn a.tmps #[p, q] .skip body D)) ∧ R (w'.putObj lp (.loop (recR .ready fn a.tmps #[p, q] .skip body D)))) b w1) :
    Yielded m P lp [u, v].toArray w fun e w' => e = .returned (.bool true) ∧ R w' :=
  yields_of W rfl rfl fun w1 hw1 => h _ w1 ⟨kn_round2 hk hp hq, hw1⟩
theorem tail_range {fn : Func} {R : Ending → World → Prop} {D k d d2 id : Nat} {op : Op} {ty ty2 : TypeId} {pos pos2 : String} {aft aft2 : Array Edge} {v : Value} (S : St n w0 K L a w) (hk : L[k]? = some (.blk D (.deferred (some []))))
    (hy : Yr P ⟨some d, op, ty, pos, aft, none⟩ n K w0 L true v) (hd : Nat.blt d n = true) (hd2 : Nat.blt d2 n = true) (hr : fn.results = #[.tmp d2])
    (hR : ∀ W', Wd w0 (L.set k (.blk D (.deferred none))) W' → R (.returned v) W') :
    ((Code.region id [⟨some d, op, ty, pos, aft, none⟩, ⟨some d2, .assign (.tmp d), ty2, pos2, aft2, none⟩].toArray false).seq Code.ret).wp P (bodyPostM Fence.wide 1 P fn R) { a with defers := [{ target := .collected D, args := #[] }] } w := by
  have ea : ({ a with defers := [{ target := .collected D, args := #[] }] } : Act) = { a with defers := a.defers ++ [{ target := .collected D, args := #[] }] } := by rw [S.kn.defers]; rfl
  rw [ea]
  refine wp_seq_k fun _ hK => wp_region_lit ?_
  refine st_m (op_dfr (op_y S hy.ys hd ?_))
  intro a w S
  refine st_m (op_dfr (op_y S (Yr.ys (ys_assign (v := v) (Ev.t (by simp [look])))) hd2 ?_))
  intro a w S
  refine hK _ _ (wp_ret ?_)
  have hD := (S.wd.get hk).2
  refine leave_range (D := D) (v := v) (by rw [S.kn.defers]; rfl) hD ?_ (hR _ (S.wd.setBlk hk))
  have h2 := S.kn.slot d2 true v (by simp [look])
  simp [results_eq, hr, res1, h2]
end
end Go.Fw
set_option linter.unusedVariables false
set_option linter.unusedSimpArgs false
set_option maxRecDepth 100000
set_option maxHeartbeats 4000000
namespace Go.Fw
theorem run_step {s : List UInt8} {x : Ent} : ∀ {l : List Ent} {j : Nat}, j ≤ (runOf s l).length → l[j]? = some x → (x.item = s → j + 1 ≤ (runOf s l).length) ∧ (x.item ≠ s → j = (runOf s l).length)
  | [], j, _, h => by simp at h
  | e :: r, 0, _, h => by
    simp at h
    subst h
    constructor
    · intro h1
      rw [runOf, List.takeWhile_cons, if_pos (by simpa using h1)]
      simp
    · intro h1
      rw [runOf, List.takeWhile_cons, if_neg (by simpa using h1)]
      rfl
  | e :: r, j + 1, hj, h => by
    have he : e.item = s := by
      refine Decidable.byContradiction fun hne => ?_
      rw [runOf, List.takeWhile_cons, if_neg (by simpa using hne)] at hj
      simp at hj
    have hr : runOf s (e :: r) = e :: runOf s r := by rw [runOf, List.takeWhile_cons, if_pos (by simpa using he)]; rfl
    rw [hr, List.length_cons] at hj ⊢
    have := run_step (s := s) (l := r) (j := j) (by omega) (by simpa using h)
    exact ⟨fun h1 => by have := this.1 h1; omega, fun h1 => by have h3 := this.2 h1; omega⟩
theorem run_end {s : List UInt8} {l : List Ent} {j : Nat} (hj : j ≤ (runOf s l).length) (h : l.length ≤ j) : j = (runOf s l).length := by
  have := runOf_le s l
  omega
theorem run_take (s : List UInt8) (l : List Ent) : l.take (runOf s l).length = runOf s l := by
  have h := congrArg (List.take (runOf s l).length) (runOf_drop s l)
  rw [List.take_left' rfl] at h
  exact h.symm
end Go.Fw
namespace Go.Proofs.YtakpdbmdfnialaaGreat
open Go.Fw Go.Proofs Go.RowKit Go.Proofs.Tryz
theorem c180 (w0 : World) (v : Value) (l : List Ent) (h : Sl Ent.enc 6 w0 w0.heap.size v l) :
    Rets Tryz.prog 180 #[v] w0 fun u L => ∃ g, u = .func (.func 212) #[] #[.pointer (some ⟨g, 0, none⟩)] ∧ L = [.blk g (.cells #[v] 31)] := by
  obtain ⟨A, cap, rfl, _⟩ := h
  unfold Go.Fw.Rets
  refine enter1 func180 rfl ntmps180 rfl fun a S => wp_seq_k fun _ hK1 => wp_region_lit (st_m (op_box1 S (.t rfl) rfl rfl fun g1 a w S => run S (.ac rfl <| .z) fun a w S => st_nil (then_normal (hK1 _ _ (sg S (.yy (ys_mkFunc (.cons (.t rfl) .nil)) rfl <| .as rfl <| .z) fun a w S => wp_ret (st_ret S (results1 S results180 (Rv.tmp rfl)) ?_))))))
  exact ⟨_, _, rfl, S.wd, _, rfl, rfl⟩
theorem k212 {X : Type} (LX : X → List Chunk) (φ : List (List Ent) → X → Prop) {l : List Ent} {lp g : Nat} {w0 w : World} {x0 : X} {v : Value}
    (hl : Sl Ent.enc 6 w0 w0.heap.size v l) (W : Wd w0 (.blk g (.cells #[v] 31) :: LX x0) w) (h0 : φ [] x0)
    (hY : ∀ pre e r post x u sv W1, runsL l = pre ++ (e :: r) :: post → φ pre x → Sl Ent.enc 6 w0 w0.heap.size sv (e :: r) → Wd w0 (.blk g (.cells #[u] 31) :: LX x) W1 →
      Yielded 1 Tryz.prog lp [.string (bs e.item), sv].toArray W1 fun en W2 => en = .returned (.bool true) ∧ ∃ x', φ (pre ++ [e :: r]) x' ∧ Wd w0 (.blk g (.cells #[u] 31) :: LX x') W2) :
    Calls Tryz.prog 212 #[.func (.yield lp) #[] #[], .pointer (some ⟨g, 0, none⟩)] w fun en W' => (∃ r, en = .returned r) ∧ ∃ x u, φ (runsL l) x ∧ Wd w0 (.blk g (.cells #[u] 31) :: LX x) W' := by
  refine enterW2 W func212 rfl ntmps212 rfl fun a S => wp_block ?_
  refine st_lpM S [3] (X := List (List Ent) × List Ent × X × Value) (fun q => []) (fun q => .blk g (.cells #[q.2.2.2] 31) :: LX q.2.2.1)
    (fun q => runsL l = q.1 ++ runsL q.2.1 ∧ Sl Ent.enc 6 w0 w0.heap.size q.2.2.2 q.2.1 ∧ φ q.1 q.2.2.1) (fun q => q.2.1.length) ([], l, x0, v) ⟨rfl, hl, h0⟩ ?_
  clear S W h0 hl
  rintro ⟨pre, rest, x, u⟩ a w ⟨hr, hu, hφ⟩ S
  dsimp only at hr hu hφ S
  have hu0 := hu
  obtain ⟨A, cap, rfl, hl, hcap, hA⟩ := hu
  rcases rest with _ | ⟨e, r⟩
  · refine wp_seq_k fun _ hK1 => sg S (.ld gt31 0 rfl rfl rfl <| .ln underlying31 rfl <| .yy (ys_gtr (.t rfl) Ev.c) rfl <| .z) fun a w S => st_else S (.t rfl) (wp_exit (then_exit (then_exit (in_here (st_end S (results0 results212) ?_)))))
    rw [runs_nil, List.append_nil] at hr
    exact ⟨⟨_, rfl⟩, _, _, hr ▸ hφ, S.wd⟩
  · have hlen : (e :: r).length = r.length + 1 := rfl
    refine wp_seq_k fun _ hK1 => sg S (.ld gt31 0 rfl rfl rfl <| .ln underlying31 rfl <| .yy (ys_T (by omega) (ys_gtr (.t rfl) Ev.c)) rfl <| .z) fun a w S => st_then S (.t rfl) (wp_skip (then_normal (hK1 _ _ (wp_block (sg S (.ac rfl <| .z) fun a w S => wp_seq_k fun _ hK1 => wp_block ?_)))))
    refine st_lpM S [3] (X := Nat) (fun k => [(3, true, .int .i64 ((k + 1 : Nat) : Int))]) (fun _ => .blk g (.cells #[.slice A (e :: r).length cap] 31) :: LX x)
      (fun k => k ≤ (runOf e.item r).length) (fun k => r.length - k) 0 (Nat.zero_le _) ?_
    clear S
    intro k a w hk S
    have hrl := runOf_le e.item r
    obtain ⟨g0, o0, rfl, _, hc⟩ := hA (by simp)
    have hc0 := hc 0 e rfl
    by_cases hgo : ∃ y, r[k]? = some y ∧ y.item = e.item
    · obtain ⟨y, hy, hs⟩ := hgo
      have hlt : k < r.length := (List.getElem?_eq_some_iff.1 hy).1
      have hck := hc (k + 1) y (by simpa using hy)
      obtain ⟨h1, h2⟩ := run_step hk hy
      have h3 := h1 hs
      have rw_s : decide (y.item = e.item) = true := decide_eq_true hs
      refine wp_seq_k fun _ hK2 => wp_seq_k fun _ hK3 => st_quiet S (by kernel_rfl) (by kernel_rfl) fun a S => qrun S (.mv rfl <| .ld gt31 0 rfl rfl rfl <| .ln underlying31 rfl <| .lt (by omega) rfl rfl <| .mv rfl <| .gy rfl rfl (ys_ld ⟨isAgg31, sizeOf31⟩ (.t rfl) (k := 0) rfl rfl) <| .gy rfl rfl (ys_move (.t rfl)) <| .gy rfl rfl (ys_ixS underlying31 sizeOf100 (.t rfl) (.t rfl) (fun _ => by omega)) <| .gy rfl rfl (ys_field (FieldT.mk underlying100 rfl sizeOf9 rfl) (.t rfl)) <| .gy rfl rfl (ys_ldO ⟨isAgg9, sizeOf9⟩ (.t rfl) (fun _ => hck _ _ rfl)) <| .gy rfl rfl (ys_ld ⟨isAgg31, sizeOf31⟩ (.t rfl) (k := 0) rfl rfl) <| .gy rfl rfl (ys_ixS (j := 0) underlying31 sizeOf100 (.t rfl) Ev.c (fun _ => by omega)) <| .gy rfl rfl (ys_field (FieldT.mk underlying100 rfl sizeOf9 rfl) (.t rfl)) <| .gy rfl rfl (ys_ldO ⟨isAgg9, sizeOf9⟩ (.t rfl) (fun _ => hc0 _ _ rfl)) <| .gy rfl rfl (ys_eqlStr (.t rfl) (.t rfl)) <| .z) fun a S => ?_
      rw [rw_s] at S
      refine qrun S (.yy (ys_pickT (.t rfl) (.t rfl)) rfl <| .z) fun a S => ?_
      (refine q_nil ?_; intro w W; replace S := St.mk S W; clear W)
      refine then_normal (hK3 _ _ (st_then S (.t rfl) (wp_skip (then_normal (hK2 _ _ (wp_block (wp_region_lit (run S (.mv rfl <| .ad (by unfold I64; omega) rfl <| .as rfl <| .z) fun a w S => st_nil (in_normal (then_normal ?_))))))))))
      exact ⟨k + 1, h3, by omega, S.pk⟩
    have hke : k = (runOf e.item r).length := by
      by_cases hlt : k < r.length
      · obtain ⟨y, hy⟩ : ∃ y, r[k]? = some y := ⟨_, List.getElem?_eq_getElem hlt⟩
        exact (run_step hk hy).2 fun h => hgo ⟨y, hy, h⟩
      · exact run_end hk (by omega)
    have hgrp := hu0.sub 0 (k + 1) (by omega) (by omega)
    have hrest := hu0.drop_ (k + 1) (by omega)
    have e1 : ((e :: r).drop 0).take (k + 1 - 0) = e :: runOf e.item r := by
      rw [List.drop_zero, Nat.sub_zero, List.take_succ_cons, hke, run_take]
    have e2 : (e :: r).drop (k + 1) = r.drop (runOf e.item r).length := by rw [List.drop_succ_cons, hke]
    rw [e1] at hgrp
    rw [e2] at hrest
    rw [runs_cons] at hr
    have hdl : (r.drop (runOf e.item r).length).length = (e :: r).length - (k + 1) := by rw [List.length_drop]; omega
    rw [hdl] at hrest
    by_cases hlt : k < r.length
    · obtain ⟨y, hy⟩ : ∃ y, r[k]? = some y := ⟨_, List.getElem?_eq_getElem hlt⟩
      have hck := hc (k + 1) y (by simpa using hy)
      have hs : y.item ≠ e.item := fun h => hgo ⟨y, hy, h⟩
      have rw_s : decide (y.item = e.item) = false := decide_eq_false hs
      have e4 : (if cap = k + 1 then some (⟨g0, o0, none⟩ : Addr) else (some (⟨g0, o0, none⟩ : Addr)).map (·.add ((k + 1) * 6))) = some ⟨g0, o0 + (k + 1) * 6, none⟩ := by rw [if_neg (by omega)]; simp [Addr.add]
      rw [e4] at hrest
      refine wp_seq_k fun _ hK2 => wp_seq_k fun _ hK3 => st_quiet S (by kernel_rfl) (by kernel_rfl) fun a S => qrun S (.mv rfl <| .ld gt31 0 rfl rfl rfl <| .ln underlying31 rfl <| .lt (by omega) rfl rfl <| .mv rfl <| .gy rfl rfl (ys_ld ⟨isAgg31, sizeOf31⟩ (.t rfl) (k := 0) rfl rfl) <| .gy rfl rfl (ys_move (.t rfl)) <| .gy rfl rfl (ys_ixS underlying31 sizeOf100 (.t rfl) (.t rfl) (fun _ => by omega)) <| .gy rfl rfl (ys_field (FieldT.mk underlying100 rfl sizeOf9 rfl) (.t rfl)) <| .gy rfl rfl (ys_ldO ⟨isAgg9, sizeOf9⟩ (.t rfl) (fun _ => hck _ _ rfl)) <| .gy rfl rfl (ys_ld ⟨isAgg31, sizeOf31⟩ (.t rfl) (k := 0) rfl rfl) <| .gy rfl rfl (ys_ixS (j := 0) underlying31 sizeOf100 (.t rfl) Ev.c (fun _ => by omega)) <| .gy rfl rfl (ys_field (FieldT.mk underlying100 rfl sizeOf9 rfl) (.t rfl)) <| .gy rfl rfl (ys_ldO ⟨isAgg9, sizeOf9⟩ (.t rfl) (fun _ => hc0 _ _ rfl)) <| .gy rfl rfl (ys_eqlStr (.t rfl) (.t rfl)) <| .z) fun a S => ?_
      rw [rw_s] at S
      refine qrun S (.yy (ys_pickT (.t rfl) (.t rfl)) rfl <| .z) fun a S => ?_
      (refine q_nil ?_; intro w W; replace S := St.mk S W; clear W)
      refine then_normal (hK3 _ _ (st_else S (.t rfl) (wp_exit (then_exit (then_exit (in_here (then_normal (hK1 _ _ (wp_seq_k fun _ hK1 => wp_seq_k fun _ hK3 => ?_)))))))))
      replace S : St 38 w0 [(3, true, .int .i64 ((k + 1 : Nat) : Int)), (0, true, .func (.yield lp) #[] #[]), (1, true, .pointer (some ⟨g, 0, none⟩))] (.blk g (.cells #[.slice (some ⟨g0, o0, none⟩) (e :: r).length cap] 31) :: LX x) a w := S.pk
      refine region_yields 2 (Wd w0 [.blk g (.cells #[.slice (some ⟨g0, o0, none⟩) (e :: r).length cap] 31)]) (by kernel_rfl) ?_
      replace S := (⟨S.kn, S.wd.drew⟩ : St 38 w0 _ _ a { w with drawn := w.drawn + 1 })
      revert S
      generalize ({ w with drawn := w.drawn + 1 } : World) = wd
      intro S
      refine i_y (i := 0) S (by repeat (first | exact List.Sublist.refl _ | exact List.nil_sublist _ | refine .cons_cons _ ?_ | refine .cons _ ?_)) rfl (by kernel_rfl) (by kernel_rfl) (by kernel_rfl) (fun _ _ _ _ h => h) (ys_move (.t rfl)) rfl ?_
      clear S a; intro a w S
      refine i_y (i := 1) S (by repeat (first | exact List.Sublist.refl _ | exact List.nil_sublist _ | refine .cons_cons _ ?_ | refine .cons _ ?_)) rfl (by kernel_rfl) (by kernel_rfl) (by kernel_rfl) (fun _ _ _ _ h => h) (ys_ld ⟨isAgg31, sizeOf31⟩ (.t rfl) (k := 0) rfl rfl) rfl ?_
      clear S a w; intro a w S
      refine i_y (i := 2) S (by repeat (first | exact List.Sublist.refl _ | exact List.nil_sublist _ | refine .cons_cons _ ?_ | refine .cons _ ?_)) rfl (by kernel_rfl) (by kernel_rfl) (by kernel_rfl) (fun _ _ _ _ h => h) (ys_ixS (j := 0) underlying31 sizeOf100 (.t rfl) Ev.c (fun _ => by omega)) rfl ?_
      clear S a w; intro a w S
      refine i_y (i := 3) S (by repeat (first | exact List.Sublist.refl _ | exact List.nil_sublist _ | refine .cons_cons _ ?_ | refine .cons _ ?_)) rfl (by kernel_rfl) (by kernel_rfl) (by kernel_rfl) (fun _ _ _ _ h => h) (ys_field (FieldT.mk underlying100 rfl sizeOf9 rfl) (.t rfl)) rfl ?_
      clear S a w; intro a w S
      refine i_y (i := 4) S (by repeat (first | exact List.Sublist.refl _ | exact List.nil_sublist _ | refine .cons_cons _ ?_ | refine .cons _ ?_)) rfl (by kernel_rfl) (by kernel_rfl) (by kernel_rfl) (fun _ _ _ _ h => h) (ys_ldO ⟨isAgg9, sizeOf9⟩ (.t rfl) (fun _ => hc0 0 _ rfl)) rfl ?_
      clear S a w; intro a w S
      refine i_y (i := 5) S (by repeat (first | exact List.Sublist.refl _ | exact List.nil_sublist _ | refine .cons_cons _ ?_ | refine .cons _ ?_)) rfl (by kernel_rfl) (by kernel_rfl) (by kernel_rfl) (fun _ _ _ _ h => h) (ys_ld ⟨isAgg31, sizeOf31⟩ (.t rfl) (k := 0) rfl rfl) rfl ?_
      clear S a w; intro a w S
      refine i_y (i := 6) S (by repeat (first | exact List.Sublist.refl _ | exact List.nil_sublist _ | refine .cons_cons _ ?_ | refine .cons _ ?_)) rfl (by kernel_rfl) (by kernel_rfl) (by kernel_rfl) (fun _ _ _ _ h => h) (ys_move (.t rfl)) rfl ?_
      clear S a w; intro a w S
      refine i_y (i := 7) S (by repeat (first | exact List.Sublist.refl _ | exact List.nil_sublist _ | refine .cons_cons _ ?_ | refine .cons _ ?_)) rfl (by kernel_rfl) (by kernel_rfl) (by kernel_rfl) (fun _ _ _ _ h => h) (ys_slHi underlying31 sizeOf100 (.t rfl) (.t rfl) (fun _ => by omega)) rfl ?_
      clear S a w; intro a w S
      have hsv : Sl Ent.enc 6 w0 w0.heap.size (.slice (some ⟨g0, o0, none⟩) (k + 1) cap) (e :: runOf e.item r) := by
        have e3 : (if cap = 0 then some (⟨g0, o0, none⟩ : Addr) else (some (⟨g0, o0, none⟩ : Addr)).map (·.add (0 * 6))) = some ⟨g0, o0, none⟩ := by rw [if_neg (by omega)]; simp [Addr.add]
        rw [e3] at hgrp
        exact hgrp
      refine i_yield (i := 8) S rfl (by kernel_rfl) rfl (.t rfl) (.cons (.t rfl) (.cons (.t rfl) .nil)) (hY pre e (runOf e.item r) _ x _ _ _ hr hφ hsv (S.wd.picks (L' := .blk g (.cells #[.slice (some ⟨g0, o0, none⟩) (e :: r).length cap] 31) :: LX x) (by repeat (first | exact Picks.nil | (refine Picks.rest ?_; (repeat (first | exact List.Sublist.refl _ | refine List.Sublist.cons_cons _ ?_ | refine List.Sublist.cons _ ?_)); done) | refine Picks.take 0 rfl ?_ | refine Picks.take 1 rfl ?_ | refine Picks.take 2 rfl ?_ | refine Picks.take 3 rfl ?_ | refine Picks.take 4 rfl ?_ | refine Picks.take 5 rfl ?_ | refine Picks.take 6 rfl ?_ | refine Picks.take 7 rfl ?_ | refine Picks.take 8 rfl ?_ | refine Picks.take 9 rfl ?_ | refine Picks.take 10 rfl ?_ | refine Picks.take 11 rfl ?_)))) ?_
      rintro a1 w1 ⟨x', hφ', W'⟩ hk'
      refine ⟨W'.sub (by repeat (first | exact List.Sublist.refl _ | exact List.nil_sublist _ | refine .cons_cons _ ?_ | refine .cons _ ?_)), ?_⟩
      clear S
      have S : St 38 w0 _ _ a1 w1 := ⟨hk', W'⟩
      clear hk' W'
      refine i_y (i := 9) S (by repeat (first | exact List.Sublist.refl _ | exact List.nil_sublist _ | refine .cons_cons _ ?_ | refine .cons _ ?_)) rfl (by kernel_rfl) (by kernel_rfl) (by kernel_rfl) (fun _ _ _ _ h => h) (ys_not (.t rfl)) rfl ?_
      clear S a1 w1; intro a w S
      refine wpAnyI_done (by kernel_rfl) ?_ _
      refine then_normal (hK3 _ _ (st_else S (.t rfl) (wp_skip (then_normal (hK1 _ _ (wp_region_lit (run S (.ld gt31 0 rfl rfl rfl <| .mv rfl <| .yy (ys_slLoB underlying31 sizeOf100 (.t rfl) (.t rfl) (fun _ => by omega)) rfl <| .z) fun a w S => st_m (op_st S sizeOf31 (.t rfl) (.t rfl) (k := 0) rfl rfl (by simp) fun a w S => st_nil (in_normal (then_normal ?_))))))))))
      refine ⟨(pre ++ [e :: runOf e.item r], r.drop (runOf e.item r).length, x', _), ⟨?_, hrest, hφ'⟩, ?_, ?_⟩
      · rw [List.append_assoc]; exact hr
      · dsimp only; rw [List.length_drop]; omega
      · dsimp only
        exact S.pk
    · refine wp_seq_k fun _ hK2 => wp_seq_k fun _ hK3 => st_quiet S (by kernel_rfl) (by kernel_rfl) fun a S => qrun S (.mv rfl <| .ld gt31 0 rfl rfl rfl <| .ln underlying31 rfl <| .ge (by omega) rfl rfl <| .mv rfl <| .sk rfl rfl rfl <| .sk rfl rfl rfl <| .sk rfl rfl rfl <| .sk rfl rfl rfl <| .sk rfl rfl rfl <| .sk rfl rfl rfl <| .sk rfl rfl rfl <| .sk rfl rfl rfl <| .sk rfl rfl rfl <| .sk rfl rfl rfl <| .yy (ys_pickF (.t rfl) Ev.c) rfl <| .z) fun a S => ?_
      (refine q_nil ?_; intro w W; replace S := St.mk S W; clear W)
      refine then_normal (hK3 _ _ (st_else S (.t rfl) (wp_exit (then_exit (then_exit (in_here (then_normal (hK1 _ _ (wp_seq_k fun _ hK1 => wp_seq_k fun _ hK3 => ?_)))))))))
      replace S : St 38 w0 [(3, true, .int .i64 ((k + 1 : Nat) : Int)), (0, true, .func (.yield lp) #[] #[]), (1, true, .pointer (some ⟨g, 0, none⟩))] (.blk g (.cells #[.slice (some ⟨g0, o0, none⟩) (e :: r).length cap] 31) :: LX x) a w := S.pk
      refine region_yields 2 (Wd w0 [.blk g (.cells #[.slice (some ⟨g0, o0, none⟩) (e :: r).length cap] 31)]) (by kernel_rfl) ?_
      replace S := (⟨S.kn, S.wd.drew⟩ : St 38 w0 _ _ a { w with drawn := w.drawn + 1 })
      revert S
      generalize ({ w with drawn := w.drawn + 1 } : World) = wd
      intro S
      refine i_y (i := 0) S (by repeat (first | exact List.Sublist.refl _ | exact List.nil_sublist _ | refine .cons_cons _ ?_ | refine .cons _ ?_)) rfl (by kernel_rfl) (by kernel_rfl) (by kernel_rfl) (fun _ _ _ _ h => h) (ys_move (.t rfl)) rfl ?_
      clear S a; intro a w S
      refine i_y (i := 1) S (by repeat (first | exact List.Sublist.refl _ | exact List.nil_sublist _ | refine .cons_cons _ ?_ | refine .cons _ ?_)) rfl (by kernel_rfl) (by kernel_rfl) (by kernel_rfl) (fun _ _ _ _ h => h) (ys_ld ⟨isAgg31, sizeOf31⟩ (.t rfl) (k := 0) rfl rfl) rfl ?_
      clear S a w; intro a w S
      refine i_y (i := 2) S (by repeat (first | exact List.Sublist.refl _ | exact List.nil_sublist _ | refine .cons_cons _ ?_ | refine .cons _ ?_)) rfl (by kernel_rfl) (by kernel_rfl) (by kernel_rfl) (fun _ _ _ _ h => h) (ys_ixS (j := 0) underlying31 sizeOf100 (.t rfl) Ev.c (fun _ => by omega)) rfl ?_
      clear S a w; intro a w S
      refine i_y (i := 3) S (by repeat (first | exact List.Sublist.refl _ | exact List.nil_sublist _ | refine .cons_cons _ ?_ | refine .cons _ ?_)) rfl (by kernel_rfl) (by kernel_rfl) (by kernel_rfl) (fun _ _ _ _ h => h) (ys_field (FieldT.mk underlying100 rfl sizeOf9 rfl) (.t rfl)) rfl ?_
      clear S a w; intro a w S
      refine i_y (i := 4) S (by repeat (first | exact List.Sublist.refl _ | exact List.nil_sublist _ | refine .cons_cons _ ?_ | refine .cons _ ?_)) rfl (by kernel_rfl) (by kernel_rfl) (by kernel_rfl) (fun _ _ _ _ h => h) (ys_ldO ⟨isAgg9, sizeOf9⟩ (.t rfl) (fun _ => hc0 0 _ rfl)) rfl ?_
      clear S a w; intro a w S
      refine i_y (i := 5) S (by repeat (first | exact List.Sublist.refl _ | exact List.nil_sublist _ | refine .cons_cons _ ?_ | refine .cons _ ?_)) rfl (by kernel_rfl) (by kernel_rfl) (by kernel_rfl) (fun _ _ _ _ h => h) (ys_ld ⟨isAgg31, sizeOf31⟩ (.t rfl) (k := 0) rfl rfl) rfl ?_
      clear S a w; intro a w S
      refine i_y (i := 6) S (by repeat (first | exact List.Sublist.refl _ | exact List.nil_sublist _ | refine .cons_cons _ ?_ | refine .cons _ ?_)) rfl (by kernel_rfl) (by kernel_rfl) (by kernel_rfl) (fun _ _ _ _ h => h) (ys_move (.t rfl)) rfl ?_
      clear S a w; intro a w S
      refine i_y (i := 7) S (by repeat (first | exact List.Sublist.refl _ | exact List.nil_sublist _ | refine .cons_cons _ ?_ | refine .cons _ ?_)) rfl (by kernel_rfl) (by kernel_rfl) (by kernel_rfl) (fun _ _ _ _ h => h) (ys_slHi underlying31 sizeOf100 (.t rfl) (.t rfl) (fun _ => by omega)) rfl ?_
      clear S a w; intro a w S
      have hsv : Sl Ent.enc 6 w0 w0.heap.size (.slice (some ⟨g0, o0, none⟩) (k + 1) cap) (e :: runOf e.item r) := by
        have e3 : (if cap = 0 then some (⟨g0, o0, none⟩ : Addr) else (some (⟨g0, o0, none⟩ : Addr)).map (·.add (0 * 6))) = some ⟨g0, o0, none⟩ := by rw [if_neg (by omega)]; simp [Addr.add]
        rw [e3] at hgrp
        exact hgrp
      refine i_yield (i := 8) S rfl (by kernel_rfl) rfl (.t rfl) (.cons (.t rfl) (.cons (.t rfl) .nil)) (hY pre e (runOf e.item r) _ x _ _ _ hr hφ hsv (S.wd.picks (L' := .blk g (.cells #[.slice (some ⟨g0, o0, none⟩) (e :: r).length cap] 31) :: LX x) (by repeat (first | exact Picks.nil | (refine Picks.rest ?_; (repeat (first | exact List.Sublist.refl _ | refine List.Sublist.cons_cons _ ?_ | refine List.Sublist.cons _ ?_)); done) | refine Picks.take 0 rfl ?_ | refine Picks.take 1 rfl ?_ | refine Picks.take 2 rfl ?_ | refine Picks.take 3 rfl ?_ | refine Picks.take 4 rfl ?_ | refine Picks.take 5 rfl ?_ | refine Picks.take 6 rfl ?_ | refine Picks.take 7 rfl ?_ | refine Picks.take 8 rfl ?_ | refine Picks.take 9 rfl ?_ | refine Picks.take 10 rfl ?_ | refine Picks.take 11 rfl ?_)))) ?_
      rintro a1 w1 ⟨x', hφ', W'⟩ hk'
      refine ⟨W'.sub (by repeat (first | exact List.Sublist.refl _ | exact List.nil_sublist _ | refine .cons_cons _ ?_ | refine .cons _ ?_)), ?_⟩
      clear S
      have S : St 38 w0 _ _ a1 w1 := ⟨hk', W'⟩
      clear hk' W'
      refine i_y (i := 9) S (by repeat (first | exact List.Sublist.refl _ | exact List.nil_sublist _ | refine .cons_cons _ ?_ | refine .cons _ ?_)) rfl (by kernel_rfl) (by kernel_rfl) (by kernel_rfl) (fun _ _ _ _ h => h) (ys_not (.t rfl)) rfl ?_
      clear S a1 w1; intro a w S
      refine wpAnyI_done (by kernel_rfl) ?_ _
      refine then_normal (hK3 _ _ (st_else S (.t rfl) (wp_skip (then_normal (hK1 _ _ (wp_region_lit (run S (.ld gt31 0 rfl rfl rfl <| .mv rfl <| .yy (ys_slLo underlying31 sizeOf100 (.t rfl) (.t rfl) (fun _ => by first | omega | (simp; done) | (simp; omega))) rfl <| .z) fun a w S => st_m (op_st S sizeOf31 (.t rfl) (.t rfl) (k := 0) rfl rfl (by simp) fun a w S => st_nil (in_normal (then_normal ?_))))))))))
      refine ⟨(pre ++ [e :: runOf e.item r], r.drop (runOf e.item r).length, x', _), ⟨?_, hrest, hφ'⟩, ?_, ?_⟩
      · rw [List.append_assoc]; exact hr
      · dsimp only; rw [List.length_drop]; omega
      · dsimp only
        exact S.pk
theorem c139 (w0 : World) (v : Value) (l : List Ent) (h : Sl Ent.enc 6 w0 w0.heap.size v l) (hn : l.length ≤ 4194304) :
    Calls Tryz.prog 139 #[v] w0 fun e w' => e = .returned (.int .i64 (itemsN l : Int)) ∧ Bel w0.heap.size w0 w' := by
  refine enter_range (args := [v]) func139 rfl ntmps139 rfl fun a S => ?_
  dsimp only [argsK] at S
  have hit := items_runs l.length l (Nat.le_refl _)
  have hil := itemsFrom_le l none
  rw [show itemsFrom none l = itemsN l from rfl, hit] at hil
  refine sg S (.ac rfl <| .z) fun a w S => wp_seq_k fun _ hK1 => wp_region_lit (st_m (op_alloc S zeroValue3 (cs := _) rfl rfl fun g1 a w S => st_m (op_st S sizeOf3 (.t rfl) Ev.c (k := 0) rfl rfl (by simp) fun a w S => st_nil (then_normal (hK1 _ _ (wp_seq_k fun _ hK1 => wp_seq_k fun _ hK2 => wp_region_lit (run S (.mv rfl <| .z) fun a w S => ?_)))))))
  (refine st_m (op_calls S call180 (.cons (.t rfl) .nil) (c180 _ _ _ (by exact .old S.wd (by assumption))) rfl ?_); clear S a w; rintro _ _ ⟨g2, rfl, rfl⟩ a w S)
  refine st_nil (then_normal (hK2 _ _ (wp_block ?_)))
  replace S : St 11 w0 [(5, true, .func (.func 212) #[] #[.pointer (some ⟨g2, 0, none⟩)]), (3, true, .pointer (some ⟨g1, 0, none⟩))] [.blk g2 (.cells #[v] 31), .blk g1 (.cells #[.int .i64 0] 3)] a w := S.pk
  refine st_range 1 S (.t rfl) call212 (R := fun D W' => Wd w0 [.blk D (.deferred (some [])), .blk g1 (.cells #[.int .i64 ((runsL l).length : Int)] 3)] W') ?_ ?_
  · intro fn lp D W hW
    refine (k212 (X := Nat) (x0 := 0) (fun k => [.blk lp (.loop (recR .ready fn a.tmps _ _ _ D)), .blk D (.deferred (some [])), .blk g1 (.cells #[.int .i64 (k : Int)] 3)]) (fun pre k => k = pre.length) h (hW.pk) rfl ?_).mono ?_
    · intro pre e r post k u sv W1 hru hk hsv hW1
      subst hk
      have hlt : pre.length < (runsL l).length := by rw [hru, List.length_append, List.length_cons]; omega
      refine yields2 (L := [.blk g2 (.cells #[u] 31), .blk g1 (.cells #[.int .i64 (pre.length : Int)] 3)]) S.kn (hW1.pk) rfl rfl ?_
      clear S hW hW1
      intro b w1 S
      refine wpIn_block (region_round (by kernel_rfl) (lets_block fun ⟨a, w, h⟩ => by cases h.1) ?_)
      (refine st_y S (Yr.ys (ys_ld ⟨isAgg3, sizeOf3⟩ (.t rfl) (k := 3) rfl rfl)) rfl ?_; clear S; intro a w S)
      refine run S (.ad (by unfold I64; omega) rfl <| .z) fun a w S => st_m (op_st S sizeOf3 (.t rfl) (.t rfl) (k := 3) rfl rfl (by simp) fun a w S => st_nil (in_normal ?_))
      have e1 : (pre.length : Int) + 1 = ((pre.length + 1 : Nat) : Int) := by omega
      rw [e1] at S
      exact ⟨rfl, (S.wd.get (k := 0) rfl).2, pre.length + 1, by simp, (S.wd.setBlk (k := 0) rfl).pk⟩
    · rintro en W2 ⟨⟨r, rfl⟩, k, u, rfl, hW2⟩
      exact ⟨⟨_, rfl⟩, (hW2.get (k := 1) rfl).2, (hW2.setBlk (k := 1) rfl).pk⟩
  · intro D W' hR
    refine in_normal (then_normal (hK1 _ _ ?_))
    exact tail_range (⟨S.kn, hR⟩ : St 11 w0 _ _ a W') (k := 0) rfl (ys_ld ⟨isAgg3, sizeOf3⟩ (.t rfl) (k := 1) rfl rfl) rfl rfl results139 fun W'' hW'' => ⟨by rw [hit], hW''.below⟩
end Go.Proofs.YtakpdbmdfnialaaGreat
set_option linter.unusedVariables false
set_option linter.unusedSimpArgs false
set_option maxRecDepth 100000
namespace Go.Proofs.YtakpdbmdfnialaaGreat
open Go.Fw Go.Proofs Go.RowKit Go.Proofs.Tryz
theorem c141 (x y z : Int) (w0 : World) : Calls Tryz.prog 141 #[.agg #[.int .i64 x, .int .i64 y, .int .i64 z]] w0 fun e w' => e = .returned (.agg #[.int .i64 x, .int .i64 y]) ∧ Bel w0.heap.size w0 w' := by
  refine enter1 func141 rfl ntmps141 rfl fun a S => wp_seq_k fun _ hK1 => wp_region_lit (st_m (op_box S (.t rfl) rfl fun g1 a w S => st_m (op_alloc S zeroValue66 (cs := _) rfl rfl fun g2 a w S => st_nil (then_normal (hK1 _ _ (wp_seq_k fun _ hK1 => wp_region_lit (run S (.fa underlying74 sizeOf3 0 rfl rfl rfl <| .ld gt3 1 rfl rfl rfl <| .fa underlying74 sizeOf3 1 rfl rfl rfl <| .ld gt3 1 rfl rfl rfl <| .yy (ys_bld (ps := [(0, Go.Operand.tmp 4), (1, Go.Operand.tmp 6)]) (us := [_, _]) bld66 (.cons (.t rfl) (.cons (.t rfl) .nil)) rfl) rfl <| .z) fun a w S => st_m (op_stW S sizeOf66 (.t rfl) (.t rfl) (k := 0) rfl rfl rfl (by simp [Value.oneCell']) fun a w S => st_nil (then_normal (hK1 _ _ (wp_ret (st_ret S (results1 S results141 (Rv.cell (k := 0) ⟨isAgg66, sizeOf66⟩ rfl rfl rfl)) ?_))))))))))))
  exact ⟨rfl, S.wd.below⟩
theorem c163 (x y z : Int) (w0 : World) : Calls Tryz.prog 163 #[.agg #[.int .i64 x, .int .i64 y, .int .i64 z]] w0 fun e w' => e = .returned (.agg #[.int .i64 x, .int .i64 y, .int .i64 z]) ∧ Bel w0.heap.size w0 w' := by
  refine enter1 func163 rfl ntmps163 rfl fun a S => wp_seq_k fun _ hK1 => wp_region_lit (st_m (op_box S (.t rfl) rfl fun g1 a w S => st_m (op_alloc S zeroValue74 (cs := _) rfl rfl fun g2 a w S => st_nil (then_normal (hK1 _ _ (wp_seq_k fun _ hK1 => wp_region_lit (run S (.la gt30 1 rfl rfl rfl <| .z) fun a w S => st_m (op_stW S sizeOf74 (.t rfl) (.t rfl) (k := 0) rfl rfl rfl (by simp [Value.oneCell']) fun a w S => st_nil (then_normal (hK1 _ _ (wp_ret (st_ret S (results1 S results163 (Rv.cell (k := 0) ⟨isAgg74, sizeOf74⟩ rfl rfl rfl)) ?_))))))))))))
  exact ⟨rfl, S.wd.below⟩
theorem c140 (w0 : World) (v1 v2 : Value) (l : List Dot) (x y : Int) (h : Sl Dot.enc 3 w0 w0.heap.size v1 l) :
    Calls Tryz.prog 140 #[.agg #[v1, v2], .agg #[.int .i64 x, .int .i64 y]] w0 fun e w' => e = .returned (.int .i64 (markOf l x y)) ∧ Bel w0.heap.size w0 w' := by
  obtain ⟨A, cap, rfl, hl, hcap, hA⟩ := h
  refine enter2 func140 rfl ntmps140 rfl fun a S => wp_seq_k fun _ hK1 => wp_region_lit (st_m (op_box S (.t rfl) rfl fun g1 a w S => st_m (op_box S (.t rfl) rfl fun g2 a w S => run S (.ac rfl <| .z) fun a w S => st_nil (then_normal (hK1 _ _ (wp_seq_k fun _ hK1 => sg S (.fa underlying35 sizeOf32 0 rfl rfl rfl <| .ld gt32 1 rfl rfl rfl <| .ln underlying32 rfl <| .mc rfl <| .z) fun a w S => wp_block ?_))))))
  refine st_lpK S (X := Nat) (fun k => [(10, true, .int .i64 (k : Int))]) (fun _ L => L) (fun k => k ≤ l.length ∧ markOf (l.drop k) x y = markOf l x y) (fun k => l.length - k) 0 ⟨Nat.zero_le _, rfl⟩ ?_
  clear S
  intro k a w ⟨hk, hno⟩ S
  by_cases hlt : k < l.length
  · obtain ⟨g, o, m, rfl, hm, hd, hc⟩ := row_at hA hlt
    clear hA
    refine sg S (.lt (by omega) rfl rfl <| .z) fun a w S => wp_seq_k fun _ hK2 => st_then S (.t rfl) (wp_skip (then_normal (hK2 _ _ (wp_seq_k fun _ hK2 => wp_block (wp_seq_k fun _ hK3 => wp_region_lit (run S (.ix underlying32 sizeOf30 (by omega) rfl rfl <| .yy (ys_ldOA ⟨isAgg30, sizeOf30⟩ (.t rfl) (vs := [_, _, _]) rfl (fun _ => hc)) rfl <| .z) fun a w S => st_m (op_alloc S zeroValue30 (cs := _) rfl rfl fun g3 a w S => st_m (op_stW S sizeOf30 (.t rfl) (.t rfl) (k := 0) rfl rfl rfl (by simp [Value.oneCell']) fun a w S => st_nil (then_normal (hK3 _ _ (wp_seq_k fun _ hK3 => st_quiet S (by kernel_rfl) (by kernel_rfl) fun a S => qrun S (.la gt30 0 rfl rfl rfl <| .xx (ys_call call163 (.cons (.t rfl) .nil) (fun hp w W => c163 _ _ _ _)) rfl <| .xx (ys_call call141 (.cons (.t rfl) .nil) (fun hp w W => c141 _ _ _ _)) rfl <| .la gt66 1 rfl rfl rfl <| .yy (ys_eqA (.t rfl) (.t rfl) eq66) rfl <| .z) fun a S => ?_)))))))))))
    (refine q_nil ?_; intro w W; replace S := St.mk S W; clear W)
    refine then_normal (hK3 _ _ ?_)
    refine st_if S (.t rfl) (fun h1 => ?_) (fun h1 => ?_)
    refine sg S (.fa underlying30 sizeOf3 2 rfl rfl rfl <| .ld gt3 0 rfl rfl rfl <| .as rfl <| .z) fun a w S => wp_ret (in_ret (then_ret (then_ret (in_ret (then_ret (st_ret S (results1 S results140 (Rv.tmp rfl)) ?_))))))
    rotate_left
    refine wp_skip (in_normal (then_normal (hK2 _ _ (wp_region_lit (run S (.ad (by unfold I64; omega) rfl <| .mv rfl <| .z) fun a w S => st_nil (then_normal ?_))))))
    rotate_left
    · refine ⟨?_, S.wd.below⟩
      rw [← hno, hd, markOf, if_pos h1]
    · rw [hd, markOf, if_neg h1] at hno
      exact ⟨k + 1, ⟨by omega, hno⟩, by omega, S.wk⟩
  · refine sg S (.ge (by omega) rfl rfl <| .z) fun a w S => wp_seq_k fun _ hK2 => st_else S (.t rfl) (wp_exit (then_exit (then_exit (in_here (then_normal (hK1 _ _ (sg S (.ac rfl <| .z) fun a w S => wp_ret (st_ret S (results1 S results140 (Rv.tmp rfl)) ?_))))))))
    refine ⟨?_, S.wd.below⟩
    rw [← hno, List.drop_eq_nil_of_le (by omega)]; rfl
theorem c189 (w0 : World) (v1 : Value) (l : List Dot) (x y z : Int) (h : Sl Dot.enc 3 w0 w0.heap.size v1 l) :
    Calls Tryz.prog 189 #[v1, .agg #[.int .i64 x, .int .i64 y, .int .i64 z]] w0 fun e w' => e = .returned (.int .i64 (idxFrom ⟨x, y, z⟩ 0 l)) ∧ Bel w0.heap.size w0 w' := by
  obtain ⟨A, cap, rfl, hl, hcap, hA⟩ := h
  refine enter2 func189 rfl ntmps189 rfl fun a S => wp_seq_k fun _ hK1 => wp_region_lit (st_m (op_box S (.t rfl) rfl fun g1 a w S => run S (.ac rfl <| .z) fun a w S => st_nil (then_normal (hK1 _ _ (wp_seq_k fun _ hK1 => sg S (.mv rfl <| .ln underlying33 rfl <| .mc rfl <| .z) fun a w S => wp_block ?_)))))
  refine st_lpK S (X := Nat) (fun k => [(8, true, .int .i64 (k : Int))]) (fun _ L => L) (fun k => k ≤ l.length ∧ idxFrom ⟨x, y, z⟩ k (l.drop k) = idxFrom ⟨x, y, z⟩ 0 l) (fun k => l.length - k) 0 ⟨Nat.zero_le _, rfl⟩ ?_
  clear S
  intro k a w ⟨hk, hno⟩ S
  by_cases hlt : k < l.length
  · obtain ⟨g, o, m, rfl, hm, hd, hc⟩ := row_at hA hlt
    clear hA
    refine sg S (.lt (by omega) rfl rfl <| .z) fun a w S => wp_seq_k fun _ hK2 => st_then S (.t rfl) (wp_skip (then_normal (hK2 _ _ (wp_seq_k fun _ hK2 => wp_block (sg S (.mv rfl <| .as rfl <| .z) fun a w S => wp_seq_k fun _ hK3 => st_quiet S (by kernel_rfl) (by kernel_rfl) fun a S => qrun S (.la gt74 0 rfl rfl rfl <| .mv rfl <| .mv rfl <| .ix underlying33 sizeOf74 (by omega) rfl rfl <| .yy (ys_ldOA ⟨isAgg74, sizeOf74⟩ (.t rfl) (vs := [_, _, _]) rfl (fun _ => hc)) rfl <| .yy (ys_eqA (.t rfl) (.t rfl) eq74) rfl <| .z) fun a S => ?_)))))
    (refine q_nil ?_; intro w W; replace S := St.mk S W; clear W)
    refine then_normal (hK3 _ _ ?_)
    refine st_if S (.t rfl) (fun h1 => ?_) (fun h1 => ?_)
    refine sg S (.mv rfl <| .as rfl <| .z) fun a w S => wp_ret (in_ret (then_ret (then_ret (in_ret (then_ret (st_ret S (results1 S results189 (Rv.tmp rfl)) ?_))))))
    rotate_left
    refine wp_skip (in_normal (then_normal (hK2 _ _ (wp_region_lit (run S (.ad (by unfold I64; omega) rfl <| .mv rfl <| .z) fun a w S => st_nil (then_normal ?_))))))
    rotate_left
    · refine ⟨?_, S.wd.below⟩
      obtain ⟨rfl, rfl, rfl⟩ := h1
      rw [← hno, hd, idxFrom, if_pos rfl]
    · rw [hd, idxFrom, if_neg (fun e => h1 (by cases e; exact ⟨rfl, rfl, rfl⟩))] at hno
      exact ⟨k + 1, ⟨by omega, hno⟩, by omega, S.wk⟩
  · refine sg S (.ge (by omega) rfl rfl <| .z) fun a w S => wp_seq_k fun _ hK2 => st_else S (.t rfl) (wp_exit (then_exit (then_exit (in_here (then_normal (hK1 _ _ (sg S (.ac rfl <| .z) fun a w S => wp_ret (st_ret S (results1 S results189 (Rv.tmp rfl)) ?_))))))))
    refine ⟨?_, S.wd.below⟩
    rw [← hno, List.drop_eq_nil_of_le (by omega)]; rfl
theorem c159 (w0 : World) (v1 : Value) (l : List Dot) (x y z : Int) (h : Sl Dot.enc 3 w0 w0.heap.size v1 l) :
    Calls Tryz.prog 159 #[v1, .agg #[.int .i64 x, .int .i64 y, .int .i64 z]] w0 fun e w' => e = .returned (.bool (decide ((⟨x, y, z⟩ : Dot) ∈ l))) ∧ Bel w0.heap.size w0 w' := by
  refine enter2 func159 rfl ntmps159 rfl fun a S => wp_seq_k fun _ hK1 => wp_region_lit (st_m (op_box S (.t rfl) rfl fun g1 a w S => run S (.ac rfl <| .z) fun a w S => st_nil (then_normal (hK1 _ _ (sg S (.mv rfl <| .la gt74 0 rfl rfl rfl <| .xx (ys_call call189 (.cons (.t rfl) (.cons (.t rfl) .nil)) (fun hp w W => c189 _ _ _ _ _ _ (by exact .old W (by assumption)))) rfl <| .yy (ys_geq (.t rfl) Ev.c) rfl <| .as rfl <| .z) fun a w S => wp_ret (st_ret S (results1 S results159 (Rv.tmp rfl)) ?_))))))
  refine ⟨?_, S.wd.below⟩
  rw [idx_mem]
theorem c109 (w0 : World) (v1 v2 : Value) (C : Ctx) (x y z : Int) (h : RdCtx w0 w0.heap.size v1 v2 C) :
    Calls Tryz.prog 109 #[.agg #[v1, v2], .agg #[.int .i64 x, .int .i64 y, .int .i64 z]] w0 fun e w' => e = .returned (.bool (C.covers ⟨x, y, z⟩)) ∧ Bel w0.heap.size w0 w' := by
  obtain ⟨⟨A, cap, rfl, hA⟩, ⟨A', cap', rfl, hA'⟩⟩ := h
  have h1 : Sl Dot.enc 3 w0 w0.heap.size (.slice A C.marks.length cap) C.marks := ⟨A, cap, rfl, hA⟩
  have h2 : Sl Dot.enc 3 w0 w0.heap.size (.slice A' C.cloud.length cap') C.cloud := ⟨A', cap', rfl, hA'⟩
  clear hA hA'
  refine enter2 func109 rfl ntmps109 rfl fun a S => wp_seq_k fun _ hK1 => wp_region_lit (st_m (op_box S (.t rfl) rfl fun g1 a w S => st_m (op_box S (.t rfl) rfl fun g2 a w S => run S (.ac rfl <| .z) fun a w S => st_nil (then_normal (hK1 _ _ (wp_seq_k fun _ hK1 => st_quiet S (by kernel_rfl) (by kernel_rfl) fun a S => qrun S (.fa underlying74 sizeOf3 2 rfl rfl rfl <| .ld gt3 0 rfl rfl rfl <| .yy (ys_geq (.t rfl) Ev.c) rfl <| .mv rfl <| .z) fun a S => q_yg S rfl rfl (Yr.ys (ys_fieldN (FieldT.mk underlying74 rfl sizeOf3 rfl) (.t rfl) (i' := 2) rfl)) rfl fun a S => q_yg S rfl rfl (Yr.ys (ys_ld ⟨isAgg3, sizeOf3⟩ (Ev.g rfl) (k := 0) rfl rfl)) rfl fun a S => q_yg S rfl rfl (Yr.ys (ys_ldA ⟨isAgg35, sizeOf35⟩ (.t rfl) (k := 1) rfl rfl)) rfl fun a S => q_yg S rfl rfl (Yr.ys (ys_ldA ⟨isAgg74, sizeOf74⟩ (.t rfl) (k := 0) rfl rfl)) rfl fun a S => q_yg S rfl rfl (ys_call call141 (.cons (Ev.g rfl) .nil) (fun hp w W => c141 _ _ _ _)) rfl fun a S => q_yg S rfl rfl (ys_call call140 (.cons (Ev.g rfl) (.cons (Ev.g rfl) .nil)) (fun hp w W => c140 _ _ _ _ _ _ (by exact .old W (by assumption)))) rfl fun a S => q_yg S rfl rfl (Yr.ys (ys_leq (Ev.g rfl) (Ev.g rfl))) rfl fun a S => q_yg S rfl rfl (Yr.ys (ys_move (Ev.g rfl))) rfl fun a S => q_yf2 S rfl rfl (Yr.ys (ys_fieldN (FieldT.mk underlying35 rfl sizeOf33 rfl) (.t rfl) (i' := 1) rfl)) rfl fun a S => ?_))))))
  refine q_yf2 S rfl rfl (Yr.ys (ys_ld ⟨isAgg33, sizeOf33⟩ (Ev.g rfl) (k := 1) rfl rfl)) rfl fun a S => q_yf2 S rfl rfl (Yr.ys (ys_ldA ⟨isAgg74, sizeOf74⟩ (.t rfl) (k := 0) rfl rfl)) rfl fun a S => q_yf2 S rfl rfl (ys_call call159 (.cons (Ev.g rfl) (.cons (Ev.g rfl) .nil)) (fun hp w W => c159 _ _ _ _ _ _ (by exact .old W (by assumption)))) rfl fun a S => q_yg S rfl rfl (Yr.ys (ys_or2 (Ev.g rfl) Ev.c (Ev.g rfl))) rfl fun a S => qrun S (.yy (ys_and (.t rfl) (Ev.g rfl) Ev.c) rfl <| .as rfl <| .z) fun a S => ?_
  (refine q_nil ?_; intro w W; replace S := St.mk S W; clear W)
  refine then_normal (hK1 _ _ (wp_ret (st_ret S (results1 S results109 (Rv.tmp rfl)) ?_)))
  exact ⟨rfl, S.wd.below⟩
end Go.Proofs.YtakpdbmdfnialaaGreat
set_option linter.unusedVariables false
set_option linter.unusedSimpArgs false
set_option maxRecDepth 100000
namespace Go.Proofs.YtakpdbmdfnialaaGreat
open Go.Fw Go.Proofs Go.RowKit Go.Proofs.Tryz
theorem c23 (w0 : World) (v v' : Value) (l l' : List Dot) (h : Sl Dot.enc 3 w0 w0.heap.size v l) (h' : Sl Dot.enc 3 w0 w0.heap.size v' l') :
    Calls Tryz.prog 23 #[v, v'] w0 fun e w' => e = .returned (.bool (decide (l = l'))) ∧ Bel w0.heap.size w0 w' := by
  obtain ⟨A, cap, rfl, hl, hcap, hA⟩ := h
  obtain ⟨A', cap', rfl, hl', hcap', hA'⟩ := h'
  refine enter2 func23 rfl ntmps23 rfl fun a S => sg S (.ac rfl <| .z) fun a w S => wp_seq_k fun _ hK1 => sg S (.mv rfl <| .ln underlying32 rfl <| .mv rfl <| .ln underlying32 rfl <| .yy (ys_neq (.t rfl) (.t rfl)) rfl <| .z) fun a w S => ?_
  refine st_if S (.t rfl) (fun h1 => ?_) (fun h1 => ?_)
  refine sg S (.ac rfl <| .z) fun a w S => wp_ret (then_ret (st_ret S (results1 S results23 (Rv.tmp rfl)) ?_))
  rotate_left
  refine wp_skip (then_normal (hK1 _ _ (wp_seq_k fun _ hK1 => sg S (.mv rfl <| .ln underlying32 rfl <| .mc rfl <| .z) fun a w S => wp_block ?_)))
  rotate_left
  · refine ⟨?_, S.wd.below⟩
    rw [decide_eq_false (fun e => h1 (by rw [e]))]
  · refine st_lpK S (X := Nat) (fun k => [(13, true, .int .i64 (k : Int))]) (fun _ L => L) (fun k => k ≤ l.length ∧ l.take k = l'.take k) (fun k => l.length - k) 0 ⟨Nat.zero_le _, rfl⟩ ?_
    clear S
    intro k a w ⟨hk, hno⟩ S
    by_cases hlt : k < l.length
    · obtain ⟨g, o, m, rfl, hmm, hd, hc⟩ := row_at hA hlt
      obtain ⟨g', o', m', rfl, hmm', hd', hc'⟩ := row_at hA' (show k < l'.length by omega)
      clear hA hA'
      refine sg S (.lt (by omega) rfl rfl <| .z) fun a w S => wp_seq_k fun _ hK2 => st_then S (.t rfl) (wp_skip (then_normal (hK2 _ _ (wp_seq_k fun _ hK2 => wp_block (sg S (.mv rfl <| .as rfl <| .z) fun a w S => wp_seq_k fun _ hK3 => st_quiet S (by kernel_rfl) (by kernel_rfl) fun a S => qrun S (.mv rfl <| .mv rfl <| .ix underlying32 sizeOf30 (by omega) rfl rfl <| .yy (ys_ldOA ⟨isAgg30, sizeOf30⟩ (.t rfl) (vs := [_, _, _]) rfl (fun _ => hc)) rfl <| .mv rfl <| .mv rfl <| .ix underlying32 sizeOf30 (by omega) rfl rfl <| .yy (ys_ldOA ⟨isAgg30, sizeOf30⟩ (.t rfl) (vs := [_, _, _]) rfl (fun _ => hc')) rfl <| .yy (ys_neA (.t rfl) (.t rfl) eq30) rfl <| .z) fun a S => ?_)))))
      (refine q_nil ?_; intro w W; replace S := St.mk S W; clear W)
      refine then_normal (hK3 _ _ ?_)
      refine st_cond S (.t rfl) (fun h2 => ?_) (fun h2 => ?_)
      refine sg S (.ac rfl <| .z) fun a w S => wp_ret (in_ret (then_ret (then_ret (in_ret (then_ret (st_ret S (results1 S results23 (Rv.tmp rfl)) ?_))))))
      rotate_left
      refine wp_skip (in_normal (then_normal (hK2 _ _ (wp_region_lit (run S (.ad (by unfold I64; omega) rfl <| .mv rfl <| .z) fun a w S => st_nil (then_normal ?_))))))
      rotate_left
      · refine ⟨?_, S.wd.below⟩
        rw [ne_at hmm hmm' (by rw [Dot.eq_iff]; simp at h2; omega)]
      · exact ⟨k + 1, ⟨by omega, take_step hno hmm hmm' (by rw [Dot.eq_iff]; simp at h2; omega)⟩, by omega, S.wk⟩
    · refine sg S (.ge (by omega) rfl rfl <| .z) fun a w S => wp_seq_k fun _ hK2 => st_else S (.t rfl) (wp_exit (then_exit (then_exit (in_here (then_normal (hK1 _ _ (sg S (.ac rfl <| .z) fun a w S => wp_ret (st_ret S (results1 S results23 (Rv.tmp rfl)) ?_))))))))
      refine ⟨?_, S.wd.below⟩
      rw [decide_eq_true]
      rw [List.take_of_length_le (by omega), List.take_of_length_le (by omega)] at hno
      exact hno
theorem c46 (w0 : World) (v v' : Value) (l l' : List Dot) (h : Sl Dot.enc 3 w0 w0.heap.size v l) (h' : Sl Dot.enc 3 w0 w0.heap.size v' l') :
    Calls Tryz.prog 46 #[v, v'] w0 fun e w' => e = .returned (.bool (decide (l = l'))) ∧ Bel w0.heap.size w0 w' := by
  obtain ⟨A, cap, rfl, hl, hcap, hA⟩ := h
  obtain ⟨A', cap', rfl, hl', hcap', hA'⟩ := h'
  refine enter2 func46 rfl ntmps46 rfl fun a S => sg S (.ac rfl <| .z) fun a w S => wp_seq_k fun _ hK1 => sg S (.mv rfl <| .ln underlying33 rfl <| .mv rfl <| .ln underlying33 rfl <| .yy (ys_neq (.t rfl) (.t rfl)) rfl <| .z) fun a w S => ?_
  refine st_if S (.t rfl) (fun h1 => ?_) (fun h1 => ?_)
  refine sg S (.ac rfl <| .z) fun a w S => wp_ret (then_ret (st_ret S (results1 S results46 (Rv.tmp rfl)) ?_))
  rotate_left
  refine wp_skip (then_normal (hK1 _ _ (wp_seq_k fun _ hK1 => sg S (.mv rfl <| .ln underlying33 rfl <| .mc rfl <| .z) fun a w S => wp_block ?_)))
  rotate_left
  · refine ⟨?_, S.wd.below⟩
    rw [decide_eq_false (fun e => h1 (by rw [e]))]
  · refine st_lpK S (X := Nat) (fun k => [(13, true, .int .i64 (k : Int))]) (fun _ L => L) (fun k => k ≤ l.length ∧ l.take k = l'.take k) (fun k => l.length - k) 0 ⟨Nat.zero_le _, rfl⟩ ?_
    clear S
    intro k a w ⟨hk, hno⟩ S
    by_cases hlt : k < l.length
    · obtain ⟨g, o, m, rfl, hmm, hd, hc⟩ := row_at hA hlt
      obtain ⟨g', o', m', rfl, hmm', hd', hc'⟩ := row_at hA' (show k < l'.length by omega)
      clear hA hA'
      refine sg S (.lt (by omega) rfl rfl <| .z) fun a w S => wp_seq_k fun _ hK2 => st_then S (.t rfl) (wp_skip (then_normal (hK2 _ _ (wp_seq_k fun _ hK2 => wp_block (sg S (.mv rfl <| .as rfl <| .z) fun a w S => wp_seq_k fun _ hK3 => st_quiet S (by kernel_rfl) (by kernel_rfl) fun a S => qrun S (.mv rfl <| .mv rfl <| .ix underlying33 sizeOf74 (by omega) rfl rfl <| .yy (ys_ldOA ⟨isAgg74, sizeOf74⟩ (.t rfl) (vs := [_, _, _]) rfl (fun _ => hc)) rfl <| .mv rfl <| .mv rfl <| .ix underlying33 sizeOf74 (by omega) rfl rfl <| .yy (ys_ldOA ⟨isAgg74, sizeOf74⟩ (.t rfl) (vs := [_, _, _]) rfl (fun _ => hc')) rfl <| .yy (ys_neA (.t rfl) (.t rfl) eq74) rfl <| .z) fun a S => ?_)))))
      (refine q_nil ?_; intro w W; replace S := St.mk S W; clear W)
      refine then_normal (hK3 _ _ ?_)
      refine st_cond S (.t rfl) (fun h2 => ?_) (fun h2 => ?_)
      refine sg S (.ac rfl <| .z) fun a w S => wp_ret (in_ret (then_ret (then_ret (in_ret (then_ret (st_ret S (results1 S results46 (Rv.tmp rfl)) ?_))))))
      rotate_left
      refine wp_skip (in_normal (then_normal (hK2 _ _ (wp_region_lit (run S (.ad (by unfold I64; omega) rfl <| .mv rfl <| .z) fun a w S => st_nil (then_normal ?_))))))
      rotate_left
      · refine ⟨?_, S.wd.below⟩
        rw [ne_at hmm hmm' (by rw [Dot.eq_iff]; simp at h2; omega)]
      · exact ⟨k + 1, ⟨by omega, take_step hno hmm hmm' (by rw [Dot.eq_iff]; simp at h2; omega)⟩, by omega, S.wk⟩
    · refine sg S (.ge (by omega) rfl rfl <| .z) fun a w S => wp_seq_k fun _ hK2 => st_else S (.t rfl) (wp_exit (then_exit (then_exit (in_here (then_normal (hK1 _ _ (sg S (.ac rfl <| .z) fun a w S => wp_ret (st_ret S (results1 S results46 (Rv.tmp rfl)) ?_))))))))
      refine ⟨?_, S.wd.below⟩
      rw [decide_eq_true]
      rw [List.take_of_length_le (by omega), List.take_of_length_le (by omega)] at hno
      exact hno
theorem c72 (w0 : World) (v1 v2 v3 v4 : Value) (C D : Ctx) (h : RdCtx w0 w0.heap.size v1 v2 C) (h' : RdCtx w0 w0.heap.size v3 v4 D) :
    Calls Tryz.prog 72 #[.agg #[v1, v2], .agg #[v3, v4]] w0 fun e w' => e = .returned (.bool (decide (C = D))) ∧ Bel w0.heap.size w0 w' := by
  obtain ⟨h1, h2⟩ := h
  obtain ⟨h3, h4⟩ := h'
  refine enter2 func72 rfl ntmps72 rfl fun a S => wp_seq_k fun _ hK1 => wp_region_lit (st_m (op_box S (.t rfl) rfl fun g1 a w S => st_m (op_box S (.t rfl) rfl fun g2 a w S => run S (.ac rfl <| .z) fun a w S => st_nil (then_normal (hK1 _ _ (wp_seq_k fun _ hK1 => wp_region_lit (run S (.fa underlying35 sizeOf32 0 rfl rfl rfl <| .ld gt32 1 rfl rfl rfl <| .fa underlying35 sizeOf32 0 rfl rfl rfl <| .ld gt32 0 rfl rfl rfl <| .xx (ys_call call23 (.cons (.t rfl) (.cons (.t rfl) .nil)) (fun hp w W => c23 _ _ _ _ _ (by exact .old W (by assumption)) (by exact .old W (by assumption)))) rfl <| .mv rfl <| .z) fun a w S => st_yg S rfl rfl (Yr.ys (ys_fieldN (FieldT.mk underlying35 rfl sizeOf33 rfl) (.t rfl) (i' := 1) rfl)) rfl fun a w S => st_yg S rfl rfl (Yr.ys (ys_ld ⟨isAgg33, sizeOf33⟩ (Ev.g rfl) (k := 1) rfl rfl)) rfl fun a w S => st_yg S rfl rfl (Yr.ys (ys_fieldN (FieldT.mk underlying35 rfl sizeOf33 rfl) (.t rfl) (i' := 1) rfl)) rfl fun a w S => st_yg S rfl rfl (Yr.ys (ys_ld ⟨isAgg33, sizeOf33⟩ (Ev.g rfl) (k := 0) rfl rfl)) rfl fun a w S => st_yg S rfl rfl (ys_call call46 (.cons (Ev.g rfl) (.cons (Ev.g rfl) .nil)) (fun hp w W => c46 _ _ _ _ _ (by exact .old W (by assumption)) (by exact .old W (by assumption)))) rfl fun a w S => run S (.yy (ys_and (.t rfl) (Ev.g rfl) Ev.c) rfl <| .as rfl <| .z) fun a w S => st_nil (then_normal (hK1 _ _ (wp_ret ?_))))))))))
  refine st_ret S (results1 S results72 (Rv.tmp rfl)) ?_
  refine ⟨?_, S.wd.below⟩
  have e : (decide (C.marks = D.marks) && decide (C.cloud = D.cloud)) = decide (C = D) := by
    rw [Bool.eq_iff_iff]
    cases C; cases D
    simp
  rw [e]
end Go.Proofs.YtakpdbmdfnialaaGreat
set_option linter.unusedVariables false
set_option linter.unusedSimpArgs false
set_option maxRecDepth 100000
set_option maxHeartbeats 4000000
namespace Go.Fw
theorem bs_iff {l m : List UInt8} : bs l = bs m ↔ l = m := ⟨fun h => by have := congrArg (fun b => b.data.toList) h; simpa [bs] using this, fun h => by rw [h]⟩
theorem ent_iff {x y : Ent} : x = y ↔ bs x.item = bs y.item ∧ x.dot.node = y.dot.node ∧ x.dot.life = y.dot.life ∧ x.dot.count = y.dot.count ∧ x.qty = y.qty ∧ (x.price.toNat : Int) = (y.price.toNat : Int) := by
  constructor
  · intro e; subst e; exact ⟨rfl, rfl, rfl, rfl, rfl, rfl⟩
  · rintro ⟨e1, e2, e3, e4, e5, e6⟩
    obtain ⟨s, ⟨a, b, c⟩, q, p⟩ := x
    obtain ⟨s', ⟨a', b', c'⟩, q', p'⟩ := y
    rw [bs_iff] at e1
    have e7 : p = p' := UInt64.toNat_inj.1 (by dsimp only at e6; omega)
    simp_all
theorem dot_iff3 {x y : Dot} : x = y ↔ x.node = y.node ∧ x.life = y.life ∧ x.count = y.count := ⟨fun e => by subst e; exact ⟨rfl, rfl, rfl⟩, fun ⟨e1, e2, e3⟩ => by cases x; cases y; simp_all⟩
theorem takeE_step {α : Type} {l l' : List α} {k : Nat} {x y : α} (h : l.take k = l'.take k) (hx : l[k]? = some x) (hy : l'[k]? = some y) (e : x = y) : l.take (k + 1) = l'.take (k + 1) := by
  rw [List.take_add_one, List.take_add_one, h, hx, hy, e]
theorem takeE_ne {α : Type} {l l' : List α} {k : Nat} {x y : α} (hx : l[k]? = some x) (hy : l'[k]? = some y) (h : x ≠ y) : l ≠ l' := fun e => by
  subst e
  rw [hx] at hy
  exact h (Option.some.inj hy)
end Go.Fw
namespace Go.Proofs.YtakpdbmdfnialaaGreat
open Go.Fw Go.Proofs Go.RowKit Go.Proofs.Tryz
theorem c64 (w0 : World) (v1 : Value) (l : List Ent) (h : Sl Ent.enc 6 w0 w0.heap.size v1 l) (hn : l.length ≤ 4194304) :
    Rets Tryz.prog 64 #[v1] w0 fun v L => ∃ A c, v = .slice A l.length c ∧ L = [rowOf 100 6 Ent.enc A c l] := by
  have h0 := h
  obtain ⟨A, cap, rfl, hl, hcap, hA⟩ := h
  unfold Go.Fw.Rets
  refine enter1 func64 rfl ntmps64 rfl fun a S => sg S (.ac rfl <| .z) fun a w S => wp_seq_k fun _ hK1 => sg S (.mv rfl <| .yy (ys_sNil underlying31 (.t rfl) Ev.c) rfl <| .z) fun a w S => ?_
  refine st_cond S (.t rfl) (fun h1 => ?_) (fun h1 => ?_)
  refine sg S (.ac rfl <| .z) fun a w S => wp_ret (then_ret (st_ret S (results1 S results64 (Rv.tmp rfl)) ?_))
  rotate_left
  refine wp_skip (then_normal (hK1 _ _ (wp_seq_k fun _ hK1 => wp_region_lit (st_m (op_bslice0 S underlying31 sizeOf100 rfl fun g1 a w S => run S (.mv rfl <| .z) fun a w S => st_m (op_extend _ (S.nil_ 100 _ Go.Fw.Ent.enc _) underlying31 underlying31 (.inr ⟨_, rfl⟩) inf100 rfl (k := 0) rfl (.t rfl) (.t rfl) (Src.sl (Sl.old S.wd h0) (by decide) Go.Fw.Ent.enc_len Go.Fw.Ent.enc_one) (by first | omega | (simp only [List.length_append, List.length_cons, List.length_nil]; omega) | (simp; omega)) rfl rfl rfl fun A1 cap1 a w S => ?_))))))
  simp only [List.nil_append] at S
  refine run S (.as rfl <| .z) fun a w S => st_nil (then_normal (hK1 _ _ (wp_ret (st_ret S (results1 S results64 (Rv.tmp rfl)) ?_))))
  rotate_left
  · have hnil : l = [] := by
      refine List.eq_nil_of_length_eq_zero (Decidable.byContradiction fun hne => ?_)
      obtain ⟨g, o, rfl, _⟩ := hA (by omega)
      cases h1
    subst hnil
    exact ⟨_, _, rfl, (S.nil_ 100 6 Ent.enc none).wd.sub (by repeat (first | exact List.Sublist.refl _ | exact List.nil_sublist _ | refine .cons_cons _ ?_ | refine .cons _ ?_)), none, 0, rfl, rfl⟩
  · try simp only [List.nil_append] at S ⊢
    exact ⟨_, _, rfl, S.wd.sub (by repeat (first | exact List.Sublist.refl _ | exact List.nil_sublist _ | refine .cons_cons _ ?_ | refine .cons _ ?_)), _, _, rfl, rfl⟩
theorem c71 (w0 : World) (v v' : Value) (l l' : List Ent) (h : Sl Ent.enc 6 w0 w0.heap.size v l) (h' : Sl Ent.enc 6 w0 w0.heap.size v' l') :
    Calls Tryz.prog 71 #[v, v'] w0 fun e w' => e = .returned (.bool (decide (l = l'))) ∧ Bel w0.heap.size w0 w' := by
  obtain ⟨A, cap, rfl, hl, hcap, hA⟩ := h
  obtain ⟨A', cap', rfl, hl', hcap', hA'⟩ := h'
  refine enter2 func71 rfl ntmps71 rfl fun a S => sg S (.ac rfl <| .z) fun a w S => wp_seq_k fun _ hK1 => sg S (.mv rfl <| .ln underlying31 rfl <| .mv rfl <| .ln underlying31 rfl <| .yy (ys_neq (.t rfl) (.t rfl)) rfl <| .z) fun a w S => ?_
  refine st_if S (.t rfl) (fun h1 => ?_) (fun h1 => ?_)
  refine sg S (.ac rfl <| .z) fun a w S => wp_ret (then_ret (st_ret S (results1 S results71 (Rv.tmp rfl)) ?_))
  rotate_left
  refine wp_skip (then_normal (hK1 _ _ (wp_seq_k fun _ hK1 => sg S (.mv rfl <| .ln underlying31 rfl <| .mc rfl <| .z) fun a w S => wp_block ?_)))
  rotate_left
  · refine ⟨?_, S.wd.below⟩
    rw [decide_eq_false (fun e => h1 (by rw [e]))]
  · refine st_lpK S (X := Nat) (fun k => [(13, true, .int .i64 (k : Int))]) (fun _ L => L) (fun k => k ≤ l.length ∧ l.take k = l'.take k) (fun k => l.length - k) 0 ⟨Nat.zero_le _, rfl⟩ ?_
    clear S
    intro k a w ⟨hk, hno⟩ S
    by_cases hlt : k < l.length
    · obtain ⟨g, o, m, rfl, hmm, hd, hc⟩ := row_at hA hlt
      obtain ⟨g', o', m', rfl, hmm', hd', hc'⟩ := row_at hA' (show k < l'.length by omega)
      clear hA hA'
      by_cases he : m = m'
      · have rw_e := decide_eq_true (ent_iff.1 he)
        refine sg S (.lt (by omega) rfl rfl <| .z) fun a w S => wp_seq_k fun _ hK2 => st_then S (.t rfl) (wp_skip (then_normal (hK2 _ _ (wp_seq_k fun _ hK2 => wp_block (sg S (.mv rfl <| .as rfl <| .z) fun a w S => wp_seq_k fun _ hK3 => st_quiet S (by kernel_rfl) (by kernel_rfl) fun a S => qrun S (.mv rfl <| .mv rfl <| .ix underlying31 sizeOf100 (by omega) rfl rfl <| .yy (ys_ldOA ⟨isAgg100, sizeOf100⟩ (.t rfl) (vs := [_, _, _, _, _, _]) rfl (fun _ => hc)) rfl <| .mv rfl <| .mv rfl <| .ix underlying31 sizeOf100 (by omega) rfl rfl <| .yy (ys_ldOA ⟨isAgg100, sizeOf100⟩ (.t rfl) (vs := [_, _, _, _, _, _]) rfl (fun _ => hc')) rfl <| .yy (ys_neA (.t rfl) (.t rfl) eq100) rfl <| .z) fun a S => ?_)))))
        rw [rw_e] at S
        (refine q_nil ?_; intro w W; replace S := St.mk S W; clear W)
        refine then_normal (hK3 _ _ (st_else S (.t rfl) (wp_skip (in_normal (then_normal (hK2 _ _ (wp_region_lit (run S (.ad (by unfold I64; omega) rfl <| .mv rfl <| .z) fun a w S => st_nil (then_normal ?_)))))))))
        exact ⟨k + 1, ⟨by omega, takeE_step hno hmm hmm' he⟩, by omega, S.wk⟩
      · have rw_e := decide_eq_false (fun h => he (ent_iff.2 h))
        refine sg S (.lt (by omega) rfl rfl <| .z) fun a w S => wp_seq_k fun _ hK2 => st_then S (.t rfl) (wp_skip (then_normal (hK2 _ _ (wp_seq_k fun _ hK2 => wp_block (sg S (.mv rfl <| .as rfl <| .z) fun a w S => wp_seq_k fun _ hK3 => st_quiet S (by kernel_rfl) (by kernel_rfl) fun a S => qrun S (.mv rfl <| .mv rfl <| .ix underlying31 sizeOf100 (by omega) rfl rfl <| .yy (ys_ldOA ⟨isAgg100, sizeOf100⟩ (.t rfl) (vs := [_, _, _, _, _, _]) rfl (fun _ => hc)) rfl <| .mv rfl <| .mv rfl <| .ix underlying31 sizeOf100 (by omega) rfl rfl <| .yy (ys_ldOA ⟨isAgg100, sizeOf100⟩ (.t rfl) (vs := [_, _, _, _, _, _]) rfl (fun _ => hc')) rfl <| .yy (ys_neA (.t rfl) (.t rfl) eq100) rfl <| .z) fun a S => ?_)))))
        rw [rw_e] at S
        (refine q_nil ?_; intro w W; replace S := St.mk S W; clear W)
        refine then_normal (hK3 _ _ (st_then S (.t rfl) (sg S (.ac rfl <| .z) fun a w S => wp_ret (in_ret (then_ret (then_ret (in_ret (then_ret (st_ret S (results1 S results71 (Rv.tmp rfl)) ?_)))))))))
        exact ⟨by rw [decide_eq_false (takeE_ne hmm hmm' he)], S.wd.below⟩
    · refine sg S (.ge (by omega) rfl rfl <| .z) fun a w S => wp_seq_k fun _ hK2 => st_else S (.t rfl) (wp_exit (then_exit (then_exit (in_here (then_normal (hK1 _ _ (sg S (.ac rfl <| .z) fun a w S => wp_ret (st_ret S (results1 S results71 (Rv.tmp rfl)) ?_))))))))
      refine ⟨?_, S.wd.below⟩
      rw [decide_eq_true]
      rw [List.take_of_length_le (by omega), List.take_of_length_le (by omega)] at hno
      exact hno
end Go.Proofs.YtakpdbmdfnialaaGreat
set_option linter.unusedVariables false
set_option linter.unusedSimpArgs false
set_option maxRecDepth 100000
set_option maxHeartbeats 4000000
namespace Go.Fw
theorem take_last {l : List Ent} {k : Nat} {p : Ent} (hp : l[k]? = some p) : (l.take (k + 1)).getLast? = some p := by
  rw [List.take_add_one, hp, Option.toList_some]
  simp
theorem ents_step {C : Ctx} {l : List Ent} {k : Nat} {x : Ent} (hx : l[k]? = some x) : entsE C (l.take k) (l.drop k) = if entE C (l.take k) x = 0 then entsE C (l.take (k + 1)) (l.drop (k + 1)) else entE C (l.take k) x := by
  have hlt : k < l.length := (List.getElem?_eq_some_iff.1 hx).1
  have e : l[k] = x := (List.getElem?_eq_some_iff.1 hx).2
  rw [List.drop_eq_getElem_cons hlt, e, entsE, List.take_add_one, hx, Option.toList_some]
theorem dup_at {l : List Ent} {k j : Nat} {y : Ent} (hj : j < k) (hy : l[j]? = some y) : y.dot ∈ (l.take k).map (·.dot) := by
  refine List.mem_map.2 ⟨y, List.mem_of_getElem? (i := j) ?_, rfl⟩
  rw [List.getElem?_take, if_pos hj, hy]
theorem dup_step {l : List Ent} {j : Nat} {y : Ent} {d : Dot} (hy : l[j]? = some y) (h : d ∉ (l.take j).map (·.dot)) (hne : y.dot ≠ d) : d ∉ (l.take (j + 1)).map (·.dot) := by
  rw [List.take_add_one, hy, Option.toList_some, List.map_append]
  intro hm
  rcases List.mem_append.1 hm with hm | hm
  · exact h hm
  · simp at hm
    exact hne hm.symm
end Go.Fw
namespace Go.Proofs.YtakpdbmdfnialaaGreat
open Go.Fw Go.Proofs Go.RowKit Go.Proofs.Tryz
end Go.Proofs.YtakpdbmdfnialaaGreat
set_option linter.unusedVariables false
set_option linter.unusedSimpArgs false
set_option maxRecDepth 100000
namespace Go.Proofs.YtakpdbmdfnialaaGreat
open Go.Fw Go.Proofs Go.RowKit Go.Proofs.Tryz
theorem c200 (w0 : World) (x : Int) : Calls Tryz.prog 200 #[.int .i64 x] w0 fun e w' => e = .returned (.bool (decide (0 ≤ x) && decide (x < 8))) ∧ Bel w0.heap.size w0 w' := by
  refine enter1 func200 rfl ntmps200 rfl fun a S => sg S (.ac rfl <| .z) fun a w S => wp_seq_k fun _ hK1 => wp_region_lit (run S (.mv rfl <| .yy (ys_geq (.t rfl) Ev.c) rfl <| .mv rfl <| .z) fun a w S => st_yg S rfl rfl (Yr.ys (ys_move (.t rfl))) rfl fun a w S => st_yg S rfl rfl (Yr.ys (ys_lss (Ev.g rfl) Ev.c)) rfl fun a w S => run S (.yy (ys_and (.t rfl) (Ev.g rfl) Ev.c) rfl <| .as rfl <| .z) fun a w S => st_nil (then_normal (hK1 _ _ (wp_ret (st_ret S (results1 S results200 (Rv.tmp rfl)) ?_)))))
  exact ⟨rfl, S.wd.below⟩
theorem c201 (w0 : World) (x : Int) : Calls Tryz.prog 201 #[.int .i64 x] w0 fun e w' => e = .returned (.bool (decide (1 ≤ x) && decide (x ≤ 1099511627776))) ∧ Bel w0.heap.size w0 w' := by
  refine enter1 func201 rfl ntmps201 rfl fun a S => sg S (.ac rfl <| .z) fun a w S => wp_seq_k fun _ hK1 => wp_region_lit (run S (.mv rfl <| .yy (ys_geq (.t rfl) Ev.c) rfl <| .mv rfl <| .z) fun a w S => st_yg S rfl rfl (Yr.ys (ys_move (.t rfl))) rfl fun a w S => st_yg S rfl rfl (Yr.ys (ys_leq (Ev.g rfl) Ev.c)) rfl fun a w S => run S (.yy (ys_and (.t rfl) (Ev.g rfl) Ev.c) rfl <| .as rfl <| .z) fun a w S => st_nil (then_normal (hK1 _ _ (wp_ret (st_ret S (results1 S results201 (Rv.tmp rfl)) ?_)))))
  exact ⟨rfl, S.wd.below⟩
theorem c202 (w0 : World) (x : Int) : Calls Tryz.prog 202 #[.int .i64 x] w0 fun e w' => e = .returned (.bool (decide (1 ≤ x) && decide (x ≤ 1099511627776))) ∧ Bel w0.heap.size w0 w' := by
  refine enter1 func202 rfl ntmps202 rfl fun a S => sg S (.ac rfl <| .z) fun a w S => wp_seq_k fun _ hK1 => wp_region_lit (run S (.mv rfl <| .yy (ys_geq (.t rfl) Ev.c) rfl <| .mv rfl <| .z) fun a w S => st_yg S rfl rfl (Yr.ys (ys_move (.t rfl))) rfl fun a w S => st_yg S rfl rfl (Yr.ys (ys_leq (Ev.g rfl) Ev.c)) rfl fun a w S => run S (.yy (ys_and (.t rfl) (Ev.g rfl) Ev.c) rfl <| .as rfl <| .z) fun a w S => st_nil (then_normal (hK1 _ _ (wp_ret (st_ret S (results1 S results202 (Rv.tmp rfl)) ?_)))))
  exact ⟨rfl, S.wd.below⟩
theorem c162 (w0 : World) (x y z : Int) (b : Bool) (hb : mayD ⟨x, y, z⟩ = b) :
    Calls Tryz.prog 162 #[.agg #[.int .i64 x, .int .i64 y, .int .i64 z]] w0 fun e w' => e = .returned (.bool b) ∧ Bel w0.heap.size w0 w' := by
  refine enter1 func162 rfl ntmps162 rfl fun a S => wp_seq_k fun _ hK1 => wp_region_lit (st_m (op_box S (.t rfl) rfl fun g1 a w S => run S (.ac rfl <| .z) fun a w S => st_nil (then_normal (hK1 _ _ (wp_seq_k fun _ hK1 => wp_region_lit (run S (.fa underlying74 sizeOf3 0 rfl rfl rfl <| .ld gt3 0 rfl rfl rfl <| .xx (ys_call call200 (.cons (.t rfl) .nil) (fun hp w W => c200 _ _)) rfl <| .mv rfl <| .z) fun a w S => st_yg S rfl rfl (Yr.ys (ys_fieldN (FieldT.mk underlying74 rfl sizeOf3 rfl) (.t rfl) (i' := 1) rfl)) rfl fun a w S => st_yg S rfl rfl (Yr.ys (ys_ld ⟨isAgg3, sizeOf3⟩ (Ev.g rfl) (k := 0) rfl rfl)) rfl fun a w S => st_yg S rfl rfl (ys_call call201 (.cons (Ev.g rfl) .nil) (fun hp w W => c201 _ _)) rfl fun a w S => run S (.yy (ys_and (.t rfl) (Ev.g rfl) Ev.c) rfl <| .mv rfl <| .z) fun a w S => st_yg S rfl rfl (Yr.ys (ys_fieldN (FieldT.mk underlying74 rfl sizeOf3 rfl) (.t rfl) (i' := 2) rfl)) rfl fun a w S => st_yg S rfl rfl (Yr.ys (ys_ld ⟨isAgg3, sizeOf3⟩ (Ev.g rfl) (k := 0) rfl rfl)) rfl fun a w S => st_yg S rfl rfl (ys_call call202 (.cons (Ev.g rfl) .nil) (fun hp w W => c202 _ _)) rfl fun a w S => run S (.yy (ys_and (.t rfl) (Ev.g rfl) Ev.c) rfl <| .as rfl <| .z) fun a w S => st_nil (then_normal (hK1 _ _ (wp_ret (st_ret S (results1 S results162 (Rv.tmp rfl)) ?_))))))))))
  refine ⟨?_, S.wd.below⟩
  subst hb
  simp [mayD, Bool.and_assoc]
theorem c165 (w0 : World) (x y z x' y' z' : Int) (h : (0 ≤ x ∧ x ≤ 1099511627776) ∧ (0 ≤ y ∧ y ≤ 1099511627776) ∧ 0 ≤ z ∧ z ≤ 1099511627776) (h' : (0 ≤ x' ∧ x' ≤ 1099511627776) ∧ (0 ≤ y' ∧ y' ≤ 1099511627776) ∧ 0 ≤ z' ∧ z' ≤ 1099511627776) :
    Calls Tryz.prog 165 #[.agg #[.int .i64 x, .int .i64 y, .int .i64 z], .agg #[.int .i64 x', .int .i64 y', .int .i64 z']] w0 fun e w' => e = .returned (.int .i64 (orderD ⟨x, y, z⟩ ⟨x', y', z'⟩)) ∧ Bel w0.heap.size w0 w' := by
  refine enter2 func165 rfl ntmps165 rfl fun a S => wp_seq_k fun _ hK1 => wp_region_lit (st_m (op_box S (.t rfl) rfl fun g1 a w S => st_m (op_box S (.t rfl) rfl fun g2 a w S => run S (.ac rfl <| .z) fun a w S => st_nil (then_normal (hK1 _ _ (wp_seq_k fun _ hK1 => wp_block (sg S (.fa underlying74 sizeOf3 0 rfl rfl rfl <| .ld gt3 1 rfl rfl rfl <| .fa underlying74 sizeOf3 0 rfl rfl rfl <| .ld gt3 0 rfl rfl rfl <| .yy (ys_neq (.t rfl) (.t rfl)) rfl <| .as rfl <| .z) fun a w S => ?_)))))))
  refine st_if S (.t rfl) (fun h1 => ?_) (fun h1 => ?_)
  refine sg S (.fa underlying74 sizeOf3 0 rfl rfl rfl <| .ld gt3 1 rfl rfl rfl <| .fa underlying74 sizeOf3 0 rfl rfl rfl <| .ld gt3 0 rfl rfl rfl <| .yy (ys_subI (.t rfl) (.t rfl) (fun _ => by unfold I64; omega)) rfl <| .as rfl <| .z) fun a w S => wp_ret (in_ret (then_ret (st_ret S (results1 S results165 (Rv.tmp rfl)) ?_)))
  rotate_left
  refine sg S (.fa underlying74 sizeOf3 1 rfl rfl rfl <| .ld gt3 1 rfl rfl rfl <| .fa underlying74 sizeOf3 1 rfl rfl rfl <| .ld gt3 0 rfl rfl rfl <| .yy (ys_neq (.t rfl) (.t rfl)) rfl <| .as rfl <| .z) fun a w S => ?_
  refine st_if S (.t rfl) (fun h2 => ?_) (fun h2 => ?_)
  refine sg S (.fa underlying74 sizeOf3 1 rfl rfl rfl <| .ld gt3 1 rfl rfl rfl <| .fa underlying74 sizeOf3 1 rfl rfl rfl <| .ld gt3 0 rfl rfl rfl <| .yy (ys_subI (.t rfl) (.t rfl) (fun _ => by unfold I64; omega)) rfl <| .as rfl <| .z) fun a w S => wp_ret (in_ret (then_ret (st_ret S (results1 S results165 (Rv.tmp rfl)) ?_)))
  rotate_left
  refine wp_skip (in_normal (then_normal (hK1 _ _ (sg S (.fa underlying74 sizeOf3 2 rfl rfl rfl <| .ld gt3 1 rfl rfl rfl <| .fa underlying74 sizeOf3 2 rfl rfl rfl <| .ld gt3 0 rfl rfl rfl <| .yy (ys_subI (.t rfl) (.t rfl) (fun _ => by unfold I64; omega)) rfl <| .as rfl <| .z) fun a w S => wp_ret (st_ret S (results1 S results165 (Rv.tmp rfl)) ?_)))))
  rotate_left
  all_goals refine ⟨?_, S.wd.below⟩
  all_goals simp_all [orderD]
theorem c137 (w0 : World) (v1 v2 : Value) (C : Ctx) (h : RdCtx w0 w0.heap.size v1 v2 C) :
    Calls Tryz.prog 137 #[.agg #[v1, v2]] w0 fun e w' => e = .returned (.bool (canL C)) ∧ Bel w0.heap.size w0 w' := by
  obtain ⟨⟨A, cap, rfl, hl, hcap, hA⟩, ⟨A', cap', rfl, hl', hcap', hA'⟩⟩ := h
  have hS : Sl Dot.enc 3 w0 w0.heap.size (.slice A C.marks.length cap) C.marks := ⟨A, cap, rfl, hl, hcap, hA⟩
  refine enter1 func137 rfl ntmps137 rfl fun a S => wp_seq_k fun _ hK1 => wp_region_lit (st_m (op_box S (.t rfl) rfl fun g1 a w S => run S (.ac rfl <| .z) fun a w S => st_nil (then_normal (hK1 _ _ (wp_seq_k fun _ hK1 => wp_seq_k fun _ hK2 => wp_region_lit (run S (.fa underlying35 sizeOf32 0 rfl rfl rfl <| .ld gt32 0 rfl rfl rfl <| .ln underlying32 rfl <| .yy (ys_gtr (.t rfl) Ev.c) rfl <| .mv rfl <| .z) fun a w S => st_yf S rfl rfl (Yr.ys (ys_fieldN (FieldT.mk underlying35 rfl sizeOf33 rfl) (.t rfl) (i' := 1) rfl)) rfl fun a w S => st_yf S rfl rfl (Yr.ys (ys_ld ⟨isAgg33, sizeOf33⟩ (Ev.g rfl) (k := 0) rfl rfl)) rfl fun a w S => st_yf S rfl rfl (Yr.ys (ys_lenS underlying33 (Ev.g rfl))) rfl fun a w S => st_yf S rfl rfl (Yr.ys (ys_gtr (Ev.g rfl) Ev.c)) rfl fun a w S => run S (.yy (ys_or (.t rfl) Ev.c (Ev.g rfl)) rfl <| .z) fun a w S => st_nil (then_normal (hK2 _ _ ?_))))))))
  refine st_cond S (.t rfl) (fun h1 => ?_) (fun h1 => ?_)
  refine sg S (.ac rfl <| .z) fun a w S => wp_ret (then_ret (st_ret S (results1 S results137 (Rv.tmp rfl)) ?_))
  rotate_left
  refine wp_skip (then_normal (hK1 _ _ (wp_seq_k fun _ hK1 => sg S (.fa underlying35 sizeOf32 0 rfl rfl rfl <| .ld gt32 0 rfl rfl rfl <| .ln underlying32 rfl <| .mc rfl <| .z) fun a w S => wp_block ?_)))
  rotate_left
  · exact ⟨by rw [canL_big (by simp at h1; omega)], S.wd.below⟩
  · have hbig : C.marks.length ≤ 64 ∧ C.cloud.length ≤ 64 := by simp at h1; omega
    refine st_lpK S (X := Nat) (fun k => [(21, true, .int .i64 (k : Int))]) (fun _ L => L) (fun k => k ≤ C.marks.length ∧ (∀ x ∈ C.marks.take k, mayD x = true) ∧ okM (prevD C.marks k) (C.marks.drop k) = okM none C.marks) (fun k => C.marks.length - k) 0 ⟨Nat.zero_le _, by simp, rfl⟩ ?_
    clear S h1
    intro k a w ⟨hk, hmy, hno⟩ S
    by_cases hlt : k < C.marks.length
    · obtain ⟨g, o, m, rfl, hmm, hd, hc⟩ := row_at hA hlt
      rw [hd, okM] at hno
      cases hb : mayD m with
      | false =>
        refine sg S (.lt (by omega) rfl rfl <| .z) fun a w S => wp_seq_k fun _ hK2 => st_then S (.t rfl) (wp_skip (then_normal (hK2 _ _ (wp_seq_k fun _ hK2 => wp_block (wp_seq_k fun _ hK3 => wp_region_lit (run S (.mv rfl <| .ix underlying32 sizeOf30 (by omega) rfl rfl <| .yy (ys_ldOA ⟨isAgg30, sizeOf30⟩ (.t rfl) (vs := [_, _, _]) rfl (fun _ => hc)) rfl <| .z) fun a w S => st_m (op_alloc S zeroValue30 (cs := _) rfl rfl fun g2 a w S => run S (.as rfl <| .z) fun a w S => st_m (op_stW S sizeOf30 (.t rfl) (.t rfl) (k := 0) rfl rfl rfl (by simp [Value.oneCell']) fun a w S => st_nil (then_normal (hK3 _ _ (wp_seq_k fun _ hK3 => sg S (.la gt30 0 rfl rfl rfl <| .xx (ys_call call163 (.cons (.t rfl) .nil) (fun hp w W => c163 _ _ _ _)) rfl <| .xx (ys_call call162 (.cons (.t rfl) .nil) (fun hp w W => c162 _ _ _ _ _ (by assumption))) rfl <| .nt rfl <| .z) fun a w S => st_then S (.t rfl) (sg S (.ac rfl <| .z) fun a w S => wp_ret (then_ret (in_ret (then_ret (then_ret (in_ret (then_ret (st_ret S (results1 S results137 (Rv.tmp rfl)) ?_)))))))))))))))))))
        exact ⟨by rw [canL_M (by rw [← hno, hb]; rfl)], S.wd.below⟩
      | true =>
        have hlm := may_lim hb
        rcases k with _ | k
        · refine sg S (.lt (by omega) rfl rfl <| .z) fun a w S => wp_seq_k fun _ hK2 => st_then S (.t rfl) (wp_skip (then_normal (hK2 _ _ (wp_seq_k fun _ hK2 => wp_block (wp_seq_k fun _ hK3 => wp_region_lit (run S (.mv rfl <| .yy (ys_ixS (j := 0) underlying32 sizeOf30 (.t rfl) (.t rfl) (fun _ => by omega)) rfl <| .yy (ys_ldOA ⟨isAgg30, sizeOf30⟩ (.t rfl) (vs := [_, _, _]) rfl (fun _ => hc)) rfl <| .z) fun a w S => st_m (op_alloc S zeroValue30 (cs := _) rfl rfl fun g2 a w S => run S (.as rfl <| .z) fun a w S => st_m (op_stW S sizeOf30 (.t rfl) (.t rfl) (k := 0) rfl rfl rfl (by simp [Value.oneCell']) fun a w S => st_nil (then_normal (hK3 _ _ (wp_seq_k fun _ hK3 => sg S (.la gt30 0 rfl rfl rfl <| .xx (ys_call call163 (.cons (.t rfl) .nil) (fun hp w W => c163 _ _ _ _)) rfl <| .xx (ys_call call162 (.cons (.t rfl) .nil) (fun hp w W => c162 _ _ _ _ _ (by assumption))) rfl <| .nt rfl <| .z) fun a w S => st_else S (.t rfl) (wp_skip (then_normal (hK3 _ _ (sg S (.mv rfl <| .yy (ys_F (by omega) (ys_gtr (.t rfl) Ev.c)) rfl <| .z) fun a w S => st_else S (.t rfl) (wp_skip (in_normal (then_normal (hK2 _ _ (wp_region_lit (run S (.ad (by unfold I64; omega) rfl <| .mv rfl <| .z) fun a w S => st_nil ?_)))))))))))))))))))))
          refine then_normal ?_
          exact ⟨0 + 1, ⟨by omega, all_step hmm hmy hb, by rw [prevD, hmm, ← hno, hb]; rfl⟩, by omega, S.wk⟩
        · obtain ⟨g', o', m', e', hmm', hd', hc'⟩ := row_at hA (show k < C.marks.length by omega)
          cases e'
          have hlm' := may_lim (hmy m' (by rw [List.take_add_one, hmm']; simp))
          have e : orderD m'.nl m.nl = orderD ⟨m'.node, m'.life, 0⟩ ⟨m.node, m.life, 0⟩ := rfl
          refine sg S (.lt (by omega) rfl rfl <| .z) fun a w S => wp_seq_k fun _ hK2 => st_then S (.t rfl) (wp_skip (then_normal (hK2 _ _ (wp_seq_k fun _ hK2 => wp_block (wp_seq_k fun _ hK3 => wp_region_lit (run S (.mv rfl <| .ix underlying32 sizeOf30 (by omega) rfl rfl <| .yy (ys_ldOA ⟨isAgg30, sizeOf30⟩ (.t rfl) (vs := [_, _, _]) rfl (fun _ => hc)) rfl <| .z) fun a w S => st_m (op_alloc S zeroValue30 (cs := _) rfl rfl fun g2 a w S => run S (.as rfl <| .z) fun a w S => st_m (op_stW S sizeOf30 (.t rfl) (.t rfl) (k := 0) rfl rfl rfl (by simp [Value.oneCell']) fun a w S => st_nil (then_normal (hK3 _ _ (wp_seq_k fun _ hK3 => sg S (.la gt30 0 rfl rfl rfl <| .xx (ys_call call163 (.cons (.t rfl) .nil) (fun hp w W => c163 _ _ _ _)) rfl <| .xx (ys_call call162 (.cons (.t rfl) .nil) (fun hp w W => c162 _ _ _ _ _ (by assumption))) rfl <| .nt rfl <| .z) fun a w S => st_else S (.t rfl) (wp_skip (then_normal (hK3 _ _ (sg S (.mv rfl <| .yy (ys_T (by omega) (ys_gtr (.t rfl) Ev.c)) rfl <| .z) fun a w S => st_then S (.t rfl) (wp_seq_k fun _ hK3 => wp_region_lit ?_))))))))))))))))
          refine run S (.fa underlying35 sizeOf32 0 rfl rfl rfl <| .ld gt32 1 rfl rfl rfl <| .mv rfl <| .yy (ys_pred (.t rfl) Ev.c (by omega)) rfl <| .ix underlying32 sizeOf30 (by omega) rfl rfl <| .yy (ys_ldOA ⟨isAgg30, sizeOf30⟩ (.t rfl) (vs := [_, _, _]) rfl (fun _ => hc')) rfl <| .z) fun a w S => st_m (op_alloc S zeroValue30 (cs := _) rfl rfl fun g3 a w S => st_m (op_stW S sizeOf30 (.t rfl) (.t rfl) (k := 0) rfl rfl rfl (by simp [Value.oneCell']) fun a w S => st_nil (then_normal (hK3 _ _ (sg S (.fa underlying30 sizeOf3 0 rfl rfl rfl <| .ld gt3 0 rfl rfl rfl <| .fa underlying30 sizeOf3 1 rfl rfl rfl <| .ld gt3 0 rfl rfl rfl <| .yy (ys_bld (ps := [(0, Go.Operand.tmp 39), (1, Go.Operand.tmp 41)]) (us := [_, _, _]) bld74 (.cons (.t rfl) (.cons (.t rfl) .nil)) rfl) rfl <| .fa underlying30 sizeOf3 0 rfl rfl rfl <| .ld gt3 1 rfl rfl rfl <| .fa underlying30 sizeOf3 1 rfl rfl rfl <| .ld gt3 1 rfl rfl rfl <| .yy (ys_bld (ps := [(0, Go.Operand.tmp 44), (1, Go.Operand.tmp 46)]) (us := [_, _, _]) bld74 (.cons (.t rfl) (.cons (.t rfl) .nil)) rfl) rfl <| .xx (ys_call call165 (.cons (.t rfl) (.cons (.t rfl) .nil)) (fun hp w W => c165 _ _ _ _ _ _ _ (by omega) (by omega))) rfl <| .yy (ys_geq (.t rfl) Ev.c) rfl <| .z) fun a w S => ?_)))))
          refine st_if S (.t rfl) (fun h1 => ?_) (fun h1 => ?_)
          refine sg S (.ac rfl <| .z) fun a w S => wp_ret (in_ret (then_ret (then_ret (in_ret (then_ret (st_ret S (results1 S results137 (Rv.tmp rfl)) ?_))))))
          rotate_left
          refine wp_skip (in_normal (then_normal (hK2 _ _ (wp_region_lit (run S (.ad (by unfold I64; omega) rfl <| .mv rfl <| .z) fun a w S => st_nil (then_normal ?_))))))
          rotate_left
          · exact ⟨by rw [canL_M (by rw [← hno, hb, prevD, hmm', gapM, decide_eq_false (by omega)]; rfl)], S.wd.below⟩
          · exact ⟨k + 1 + 1, ⟨by omega, all_step hmm hmy hb, by rw [prevD, hmm, ← hno, hb, prevD, hmm', gapM, decide_eq_true (by omega)]; rfl⟩, by omega, S.wk⟩
    · have hend : k = C.marks.length := by omega
      subst hend
      rw [List.take_length] at hmy
      rw [List.drop_length, okM] at hno
      have hM := hno.symm
      clear hno hk hlt
      refine sg S (.ge (by omega) rfl rfl <| .z) fun a w S => wp_seq_k fun _ hK2 => st_else S (.t rfl) (wp_exit (then_exit (then_exit (in_here (then_normal (hK1 _ _ (wp_seq_k fun _ hK1 => sg S (.fa underlying35 sizeOf33 1 rfl rfl rfl <| .ld gt33 0 rfl rfl rfl <| .ln underlying33 rfl <| .mc rfl <| .z) fun a w S => wp_block ?_)))))))
      refine st_lpK S (X := Nat) (fun k => [(54, true, .int .i64 (k : Int))]) (fun _ L => L) (fun k => k ≤ C.cloud.length ∧ (∀ x ∈ C.cloud.take k, mayD x = true) ∧ okC C.marks (prevD C.cloud k) (C.cloud.drop k) = okC C.marks none C.cloud) (fun k => C.cloud.length - k) 0 ⟨Nat.zero_le _, by simp, rfl⟩ ?_
      clear S
      intro k a w ⟨hk, hmy', hno⟩ S
      by_cases hlt : k < C.cloud.length
      · obtain ⟨g, o, m, rfl, hmm, hd, hc⟩ := row_at hA' hlt
        rw [hd, okC] at hno
        have hmk := markOf_may (x := m.node) (y := m.life) hmy
        cases hb : mayD m with
        | false =>
          refine sg S (.lt (by omega) rfl rfl <| .z) fun a w S => wp_seq_k fun _ hK3 => st_then S (.t rfl) (wp_skip (then_normal (hK3 _ _ (wp_seq_k fun _ hK3 => wp_block (wp_seq_k fun _ hK4 => wp_region_lit (run S (.mv rfl <| .ix underlying33 sizeOf74 (by omega) rfl rfl <| .yy (ys_ldOA ⟨isAgg74, sizeOf74⟩ (.t rfl) (vs := [_, _, _]) rfl (fun _ => hc)) rfl <| .z) fun a w S => st_m (op_alloc S zeroValue74 (cs := _) rfl rfl fun g2 a w S => run S (.as rfl <| .z) fun a w S => st_m (op_stW S sizeOf74 (.t rfl) (.t rfl) (k := 0) rfl rfl rfl (by simp [Value.oneCell']) fun a w S => st_nil (then_normal (hK4 _ _ (wp_seq_k fun _ hK4 => st_quiet S (by kernel_rfl) (by kernel_rfl) fun a S => qrun S (.la gt74 0 rfl rfl rfl <| .xx (ys_call call162 (.cons (.t rfl) .nil) (fun hp w W => c162 _ _ _ _ _ (by assumption))) rfl <| .nt rfl <| .mv rfl <| .sk rfl rfl rfl <| .sk rfl rfl rfl <| .sk rfl rfl rfl <| .s0 rfl rfl <| .s0 rfl rfl <| .s0 rfl rfl <| .s0 rfl rfl <| .s0 rfl rfl <| .s0 rfl rfl <| .s0 rfl rfl <| .s0 rfl rfl <| .s0 rfl rfl <| .sk rfl rfl rfl <| .yy (ys_pickT (.t rfl) Ev.c) rfl <| .mv rfl <| .sk rfl rfl rfl <| .sk rfl rfl rfl <| .sk rfl rfl rfl <| .sk rfl rfl rfl <| .sk rfl rfl rfl <| .sk rfl rfl rfl <| .sk rfl rfl rfl <| .sk rfl rfl rfl <| .yy (ys_pickT (.t rfl) Ev.c) rfl <| .z) fun a S => ?_)))))))))))
          (refine q_nil ?_; intro w W; replace S := St.mk S W; clear W)
          refine then_normal (hK4 _ _ (st_then S (.t rfl) (sg S (.ac rfl <| .z) fun a w S => wp_ret (in_ret (then_ret (then_ret (in_ret (then_ret (st_ret S (results1 S results137 (Rv.tmp rfl)) ?_)))))))))
          exact ⟨by rw [canL_C (by rw [← hno, hb]; rfl)], S.wd.below⟩
        | true =>
          have hlm := may_lim hb
          rcases k with _ | k
          · refine sg S (.lt (by omega) rfl rfl <| .z) fun a w S => wp_seq_k fun _ hK3 => st_then S (.t rfl) (wp_skip (then_normal (hK3 _ _ (wp_seq_k fun _ hK3 => wp_block (wp_seq_k fun _ hK4 => wp_region_lit (run S (.mv rfl <| .yy (ys_ixS (j := 0) underlying33 sizeOf74 (.t rfl) (.t rfl) (fun _ => by omega)) rfl <| .yy (ys_ldOA ⟨isAgg74, sizeOf74⟩ (.t rfl) (vs := [_, _, _]) rfl (fun _ => hc)) rfl <| .z) fun a w S => st_m (op_alloc S zeroValue74 (cs := _) rfl rfl fun g2 a w S => run S (.as rfl <| .z) fun a w S => st_m (op_stW S sizeOf74 (.t rfl) (.t rfl) (k := 0) rfl rfl rfl (by simp [Value.oneCell']) fun a w S => st_nil (then_normal (hK4 _ _ (wp_seq_k fun _ hK4 => st_quiet S (by kernel_rfl) (by kernel_rfl) fun a S => ?_)))))))))))
            refine qrun S (.la gt74 0 rfl rfl rfl <| .xx (ys_call call162 (.cons (.t rfl) .nil) (fun hp w W => c162 _ _ _ _ _ (by assumption))) rfl <| .nt rfl <| .mv rfl <| .gy rfl rfl (ys_move (.t rfl)) <| .gy rfl rfl (ys_F (by omega) (ys_gtr (.t rfl) Ev.c)) <| .gy rfl rfl (ys_move (.t rfl)) <| .sk rfl rfl rfl <| .sk rfl rfl rfl <| .sk rfl rfl rfl <| .sk rfl rfl rfl <| .sk rfl rfl rfl <| .sk rfl rfl rfl <| .sk rfl rfl rfl <| .sk rfl rfl rfl <| .sk rfl rfl rfl <| .gy rfl rfl (ys_pickF (.t rfl) Ev.c) <| .yy (ys_pickF (.t rfl) (.t rfl)) rfl <| .mv rfl <| .gy rfl rfl (ys_fieldN (FieldT.mk underlying74 rfl sizeOf3 rfl) (.t rfl) (i' := 2) rfl) <| .gy rfl rfl (ys_ld ⟨isAgg3, sizeOf3⟩ (.t rfl) (k := 0) rfl rfl) <| .gy rfl rfl (ys_ldA ⟨isAgg35, sizeOf35⟩ (.t rfl) (k := 1) rfl rfl) <| .gy rfl rfl (ys_ldA ⟨isAgg74, sizeOf74⟩ (.t rfl) (k := 0) rfl rfl) <| .gx rfl rfl (ys_call call141 (.cons (.t rfl) .nil) (fun hp w W => c141 _ _ _ _)) <| .gx rfl rfl (ys_call call140 (.cons (.t rfl) (.cons (.t rfl) .nil)) (fun hp w W => c140 _ _ _ _ _ _ (by exact .old W (by assumption)))) <| .gy rfl rfl (ys_addI (.t rfl) Ev.c (fun _ => by unfold I64; omega)) <| .gy rfl rfl (ys_leq (.t rfl) (.t rfl)) <| .yy (ys_pickF (.t rfl) (.t rfl)) rfl <| .z) fun a S => ?_
            (refine q_nil ?_; intro w W; replace S := St.mk S W; clear W)
            refine then_normal (hK4 _ _ ?_)
            refine st_if S (.t rfl) (fun h1 => ?_) (fun h1 => ?_)
            refine sg S (.ac rfl <| .z) fun a w S => wp_ret (in_ret (then_ret (then_ret (in_ret (then_ret (st_ret S (results1 S results137 (Rv.tmp rfl)) ?_))))))
            rotate_left
            refine wp_skip (in_normal (then_normal (hK3 _ _ (wp_region_lit (run S (.ad (by unfold I64; omega) rfl <| .mv rfl <| .z) fun a w S => st_nil (then_normal ?_))))))
            rotate_left
            · have hf : okC C.marks none C.cloud = false := by
                rw [← hno, Bool.eq_false_iff]
                intro hh
                simp [hb, prevD, gapC] at hh
                omega
              exact ⟨by rw [canL_C hf], S.wd.below⟩
            · exact ⟨0 + 1, ⟨by omega, all_step hmm hmy' hb, by rw [prevD, hmm, ← hno, hb, prevD, gapC, decide_eq_true (by omega)]; rfl⟩, by omega, S.wk⟩
          · obtain ⟨g', o', m', e', hmm', hd', hc'⟩ := row_at hA' (show k < C.cloud.length by omega)
            cases e'
            have hlm' := may_lim (hmy' m' (by rw [List.take_add_one, hmm']; simp))
            have e : orderD m' m = orderD ⟨m'.node, m'.life, m'.count⟩ ⟨m.node, m.life, m.count⟩ := rfl
            refine sg S (.lt (by omega) rfl rfl <| .z) fun a w S => wp_seq_k fun _ hK3 => st_then S (.t rfl) (wp_skip (then_normal (hK3 _ _ (wp_seq_k fun _ hK3 => wp_block (wp_seq_k fun _ hK4 => wp_region_lit (run S (.mv rfl <| .ix underlying33 sizeOf74 (by omega) rfl rfl <| .yy (ys_ldOA ⟨isAgg74, sizeOf74⟩ (.t rfl) (vs := [_, _, _]) rfl (fun _ => hc)) rfl <| .z) fun a w S => st_m (op_alloc S zeroValue74 (cs := _) rfl rfl fun g2 a w S => run S (.as rfl <| .z) fun a w S => st_m (op_stW S sizeOf74 (.t rfl) (.t rfl) (k := 0) rfl rfl rfl (by simp [Value.oneCell']) fun a w S => st_nil (then_normal (hK4 _ _ (wp_seq_k fun _ hK4 => st_quiet S (by kernel_rfl) (by kernel_rfl) fun a S => ?_)))))))))))
            refine qrun S (.la gt74 0 rfl rfl rfl <| .xx (ys_call call162 (.cons (.t rfl) .nil) (fun hp w W => c162 _ _ _ _ _ (by assumption))) rfl <| .nt rfl <| .mv rfl <| .gy rfl rfl (ys_move (.t rfl)) <| .gy rfl rfl (ys_T (by omega) (ys_gtr (.t rfl) Ev.c)) <| .gy rfl rfl (ys_move (.t rfl)) <| .gy rfl rfl (ys_fieldN (FieldT.mk underlying35 rfl sizeOf33 rfl) (.t rfl) (i' := 1) rfl) <| .gy rfl rfl (ys_ld ⟨isAgg33, sizeOf33⟩ (.t rfl) (k := 1) rfl rfl) <| .gy rfl rfl (ys_move (.t rfl)) <| .gy rfl rfl (ys_pred (.t rfl) Ev.c (by omega)) <| .gy rfl rfl (ys_ixS underlying33 sizeOf74 (.t rfl) (.t rfl) (fun _ => by omega)) <| .gy rfl rfl (ys_ldOA ⟨isAgg74, sizeOf74⟩ (.t rfl) (vs := [_, _, _]) rfl (fun _ => hc')) <| .gy rfl rfl (ys_ldA ⟨isAgg74, sizeOf74⟩ (.t rfl) (k := 0) rfl rfl) <| .gx rfl rfl (ys_call call165 (.cons (.t rfl) (.cons (.t rfl) .nil)) (fun hp w W => c165 _ _ _ _ _ _ _ (by omega) (by omega))) <| .gy rfl rfl (ys_geq (.t rfl) Ev.c) <| .gy rfl rfl (ys_pickT (.t rfl) (.t rfl)) <| .yy (ys_pickF (.t rfl) (.t rfl)) rfl <| .mv rfl <| .z) fun a S => q_yf S rfl rfl (Yr.ys (ys_fieldN (FieldT.mk underlying74 rfl sizeOf3 rfl) (.t rfl) (i' := 2) rfl)) rfl fun a S => q_yf S rfl rfl (Yr.ys (ys_ld ⟨isAgg3, sizeOf3⟩ (Ev.g rfl) (k := 0) rfl rfl)) rfl fun a S => q_yf S rfl rfl (Yr.ys (ys_ldA ⟨isAgg35, sizeOf35⟩ (.t rfl) (k := 1) rfl rfl)) rfl fun a S => ?_
            refine q_yf S rfl rfl (Yr.ys (ys_ldA ⟨isAgg74, sizeOf74⟩ (.t rfl) (k := 0) rfl rfl)) rfl fun a S => q_yf S rfl rfl (ys_call call141 (.cons (Ev.g rfl) .nil) (fun hp w W => c141 _ _ _ _)) rfl fun a S => q_yf S rfl rfl (ys_call call140 (.cons (Ev.g rfl) (.cons (Ev.g rfl) .nil)) (fun hp w W => c140 _ _ _ _ _ _ (by exact .old W (by assumption)))) rfl fun a S => q_yf S rfl rfl (Yr.ys (ys_addI (Ev.g rfl) Ev.c (fun _ => by unfold I64; omega))) rfl fun a S => q_yf S rfl rfl (Yr.ys (ys_leq (Ev.g rfl) (Ev.g rfl))) rfl fun a S => qrun S (.yy (ys_or (.t rfl) Ev.c (Ev.g rfl)) rfl <| .z) fun a S => ?_
            (refine q_nil ?_; intro w W; replace S := St.mk S W; clear W)
            refine then_normal (hK4 _ _ ?_)
            refine st_cond S (.t rfl) (fun h1 => ?_) (fun h1 => ?_)
            refine sg S (.ac rfl <| .z) fun a w S => wp_ret (in_ret (then_ret (then_ret (in_ret (then_ret (st_ret S (results1 S results137 (Rv.tmp rfl)) ?_))))))
            rotate_left
            refine wp_skip (in_normal (then_normal (hK3 _ _ (wp_region_lit (run S (.ad (by unfold I64; omega) rfl <| .mv rfl <| .z) fun a w S => st_nil (then_normal ?_))))))
            rotate_left
            · have hf : okC C.marks none C.cloud = false := by
                rw [← hno, Bool.eq_false_iff]
                intro hh
                simp [hb, prevD, hmm', gapC] at hh h1
                omega
              exact ⟨by rw [canL_C hf], S.wd.below⟩
            · simp at h1
              exact ⟨k + 1 + 1, ⟨by omega, all_step hmm hmy' hb, by rw [prevD, hmm, ← hno, hb, prevD, hmm', gapC, decide_eq_true (by omega), decide_eq_true (by omega)]; rfl⟩, by omega, S.wk⟩
      · have hend : k = C.cloud.length := by omega
        subst hend
        rw [List.drop_length, okC] at hno
        refine sg S (.ge (by omega) rfl rfl <| .z) fun a w S => wp_seq_k fun _ hK3 => st_else S (.t rfl) (wp_exit (then_exit (then_exit (in_here (then_normal (hK1 _ _ (sg S (.ac rfl <| .z) fun a w S => wp_ret (st_ret S (results1 S results137 (Rv.tmp rfl)) ?_))))))))
        exact ⟨by rw [canL_yes hbig hM hno.symm], S.wd.below⟩
end Go.Proofs.YtakpdbmdfnialaaGreat
namespace Go.Fw
theorem Dot.enc_len (x : Dot) : (Dot.enc x).length = 3 := rfl
theorem Dot.enc_one (x : Dot) : ∀ u ∈ Dot.enc x, u.oneCell' = true := fun u hu => by simp [Dot.enc] at hu; rcases hu with rfl | rfl | rfl <;> rfl
end Go.Fw
set_option linter.unusedVariables false
set_option linter.unusedSimpArgs false
set_option maxRecDepth 100000
namespace Go.Proofs.YtakpdbmdfnialaaGreat
open Go.Fw Go.Proofs Go.RowKit Go.Proofs.Tryz
theorem c136 (w0 : World) (v1 : Value) (l : List Dot) (h : Sl Dot.enc 3 w0 w0.heap.size v1 l) (hn : l.length ≤ 4194304) :
    Rets Tryz.prog 136 #[v1] w0 fun v L => ∃ A c, v = .slice A l.length c ∧ L = [rowOf 74 3 Dot.enc A c l] := by
  have h0 := h
  obtain ⟨A, cap, rfl, hl, hcap, hA⟩ := h
  unfold Go.Fw.Rets
  refine enter1 func136 rfl ntmps136 rfl fun a S => sg S (.ac rfl <| .z) fun a w S => wp_seq_k fun _ hK1 => sg S (.mv rfl <| .yy (ys_sNil underlying33 (.t rfl) Ev.c) rfl <| .z) fun a w S => ?_
  refine st_cond S (.t rfl) (fun h1 => ?_) (fun h1 => ?_)
  refine sg S (.ac rfl <| .z) fun a w S => wp_ret (then_ret (st_ret S (results1 S results136 (Rv.tmp rfl)) ?_))
  rotate_left
  refine wp_skip (then_normal (hK1 _ _ (wp_seq_k fun _ hK1 => wp_region_lit (st_m (op_bslice0 S underlying33 sizeOf74 rfl fun g1 a w S => run S (.mv rfl <| .z) fun a w S => st_m (op_extend _ (S.nil_ 74 _ Go.Fw.Dot.enc _) underlying33 underlying33 (.inr ⟨_, rfl⟩) inf74 rfl (k := 0) rfl (.t rfl) (.t rfl) (Src.sl (Sl.old S.wd h0) (by decide) Go.Fw.Dot.enc_len Go.Fw.Dot.enc_one) (by first | omega | (simp only [List.length_append, List.length_cons, List.length_nil]; omega) | (simp; omega)) rfl rfl rfl fun A1 cap1 a w S => ?_))))))
  simp only [List.nil_append] at S
  refine run S (.as rfl <| .z) fun a w S => st_nil (then_normal (hK1 _ _ (wp_ret (st_ret S (results1 S results136 (Rv.tmp rfl)) ?_))))
  rotate_left
  · have hnil : l = [] := by
      refine List.eq_nil_of_length_eq_zero (Decidable.byContradiction fun hne => ?_)
      obtain ⟨g, o, rfl, _⟩ := hA (by omega)
      cases h1
    subst hnil
    exact ⟨_, _, rfl, (S.nil_ 74 3 Dot.enc none).wd.sub (by repeat (first | exact List.Sublist.refl _ | exact List.nil_sublist _ | refine .cons_cons _ ?_ | refine .cons _ ?_)), none, 0, rfl, rfl⟩
  · try simp only [List.nil_append] at S ⊢
    exact ⟨_, _, rfl, S.wd.sub (by repeat (first | exact List.Sublist.refl _ | exact List.nil_sublist _ | refine .cons_cons _ ?_ | refine .cons _ ?_)), _, _, rfl, rfl⟩
end Go.Proofs.YtakpdbmdfnialaaGreat
set_option linter.unusedVariables false
set_option linter.unusedSimpArgs false
set_option maxRecDepth 100000
namespace Go.Proofs.YtakpdbmdfnialaaGreat
open Go.Fw Go.Proofs Go.RowKit Go.Proofs.Tryz
set_option maxHeartbeats 1000000 in
theorem k206 {α : Type} {enc : α → List Value} (he : ∀ x, (enc x).length = 3) (h1 : ∀ x, ∀ u ∈ enc x, u.oneCell' = true) {w0 w : World} {L : List Chunk} {A : Option Addr} {cap gv : Nat} {l : List α} {x : α} {vs : List Value} {E' : TypeId}
    (W : Wd w0 (rowOf 30 3 enc A cap l :: .blk gv (.cells vs.toArray E') :: L) w) (hvs : vs = enc x) (i : Nat) (hi : i ≤ l.length) (hn : l.length ≤ 4194304) :
    RetsO Tryz.prog 206 #[.slice A l.length cap, .int .i64 (i : Int), .slice (some ⟨gv, 0, none⟩) 1 1] w0 w fun v L' => ∃ A' c', v = .slice A' (l.length + 1) c' ∧ L' = rowOf 30 3 enc A' c' (l.take i ++ x :: l.drop i) :: L := by
  obtain ⟨hlc, hcm⟩ := W.room (k := 0) rfl
  have hf1 : ∀ u ∈ l.flatMap enc, u.oneCell' = true := fun u hu => by
    obtain ⟨y, _, hy⟩ := List.mem_flatMap.1 hu
    exact h1 y u hy
  have hd1 : ∀ u ∈ (l.drop i).flatMap enc, u.oneCell' = true := fun u hu => by
    obtain ⟨y, _, hy⟩ := List.mem_flatMap.1 hu
    exact h1 y u hy
  have hx := he x
  have hfl := flat_len he l
  have hdl := flat_len he (l.drop i)
  have hdi : (l.drop i).length = l.length - i := List.length_drop
  have rw_1 : ((1 : Nat) : Int) = 1 := rfl
  unfold RetsO
  refine enterW3 W func206 rfl ntmps206 rfl fun a S => ?_
  by_cases hil : i = l.length
  · refine sg S (.ac rfl <| .z) fun a w S => sg S (.mv rfl <| .mv rfl <| .yy (ys_slLo underlying32 sizeOf30 (.t rfl) (.t rfl) (fun _ => by first | omega | (simp; done) | (simp; omega))) rfl <| .z) fun a w S => wp_seq_k fun _ hK1 => wp_region_lit (run S (.mv rfl <| .ln underlying32 rfl <| .z) fun a w S => ?_)
    rw [rw_1] at S
    refine run S (.as rfl <| .z) fun a w S => st_nil (then_normal (hK1 _ _ (wp_seq_k fun _ hK1 => sg S (.mv rfl <| .yy (ys_F (by omega) (ys_eql (.t rfl) Ev.c)) rfl <| .z) fun a w S => st_else S (.t rfl) (wp_skip (then_normal (hK1 _ _ (sg S (.mv rfl <| .ln underlying32 rfl <| .as rfl <| .z) fun a w S => wp_seq_k fun _ hK1 => sg S (.mv rfl <| .mv rfl <| .yy (ys_T (by omega) (ys_eql (.t rfl) (.t rfl))) rfl <| .z) fun a w S => st_then S (.t rfl) (wp_seq_k fun _ hK2 => wp_region_lit (run S (.mv rfl <| .mv rfl <| .z) fun a w S => ?_)))))))))
    refine st_m (op_extend [x] S underlying32 underlying32 (.inr ⟨_, rfl⟩) inf30 rfl (k := 0) rfl (.t rfl) (.t rfl) (by
      have h := Src.blk (P := Tryz.prog) (size := 3) (m := 1) (c := 1) S.wd (k := 1) rfl (by rw [hvs, he]) (by rw [hvs]; exact h1 x)
      simpa [hvs] using h) (by simp; omega) rfl rfl rfl ?_)
    clear S
    intro A1 cap1 a w S
    refine run S (.as rfl <| .z) fun a w S => st_nil (then_normal (hK2 _ _ (wp_ret (then_ret (st_ret S (results1 S results206 (Rv.tmp rfl)) ?_)))))
    refine ⟨_, rowOf 30 3 enc A1 cap1 (l ++ [x]) :: L, rfl, S.wd.sub (by repeat (first | exact List.Sublist.refl _ | exact List.nil_sublist _ | refine .cons_cons _ ?_ | refine .cons _ ?_)), A1, cap1, by simp, ?_⟩
    rw [hil, List.take_length, List.drop_length]
  by_cases hroom : l.length + 1 ≤ cap
  · have rw_2 : (l.length : Int) + 1 = ((l.length + 1 : Nat) : Int) := by omega
    have rw_3 : (i : Int) + 1 = ((i + 1 : Nat) : Int) := by omega
    obtain ⟨g, cs, rfl, hcs, _, hcm', htk, W2⟩ := S.wd.open_row (k := 0) rfl (by omega)
    replace S := St.mk S.kn W2
    clear W W2
    have hlen : cs.length = cap * 3 := hcs
    refine sg S (.ac rfl <| .z) fun a w S => sg S (.mv rfl <| .mv rfl <| .yy (ys_slLoB underlying32 sizeOf30 (.t rfl) (.t rfl) (fun _ => by omega)) rfl <| .z) fun a w S => wp_seq_k fun _ hK1 => wp_region_lit (run S (.mv rfl <| .ln underlying32 rfl <| .z) fun a w S => ?_)
    rw [rw_1] at S
    refine run S (.as rfl <| .z) fun a w S => st_nil (then_normal (hK1 _ _ (wp_seq_k fun _ hK1 => sg S (.mv rfl <| .yy (ys_F (by omega) (ys_eql (.t rfl) Ev.c)) rfl <| .z) fun a w S => st_else S (.t rfl) (wp_skip (then_normal (hK1 _ _ (sg S (.mv rfl <| .ln underlying32 rfl <| .as rfl <| .z) fun a w S => wp_seq_k fun _ hK1 => sg S (.mv rfl <| .mv rfl <| .yy (ys_F (by omega) (ys_eql (.t rfl) (.t rfl))) rfl <| .z) fun a w S => st_else S (.t rfl) (wp_skip (then_normal (hK1 _ _ (wp_seq_k fun _ hK1 => wp_seq_k fun _ hK2 => wp_region_lit (run S (.mv rfl <| .mv rfl <| .yy (ys_addI (.t rfl) (.t rfl) (fun _ => by unfold I64; omega)) rfl <| .z) fun a w S => ?_))))))))))))
    rw [rw_2] at S
    refine run S (.mv rfl <| .yy (ys_cap underlying32 (.t rfl)) rfl <| .yy (ys_F (by omega) (ys_gtr (.t rfl) (.t rfl))) rfl <| .z) fun a w S => st_nil (then_normal (hK2 _ _ (st_else S (.t rfl) (wp_skip (then_normal (hK1 _ _ (wp_seq_k fun _ hK1 => wp_region_lit (run S (.mv rfl <| .mv rfl <| .mv rfl <| .yy (ys_addI (.t rfl) (.t rfl) (fun _ => by unfold I64; omega)) rfl <| .z) fun a w S => ?_))))))))
    rw [rw_2] at S
    refine run S (.yy (ys_slHi underlying32 sizeOf30 (.t rfl) (.t rfl) (fun _ => by first | omega | (simp; done) | (simp; omega))) rfl <| .as rfl <| .z) fun a w S => st_nil (then_normal (hK1 _ _ (wp_seq_k fun _ hK1 => wp_seq_k fun _ hK2 => wp_region_lit (run S (.mv rfl <| .mv rfl <| .mv rfl <| .mv rfl <| .yy (ys_addI (.t rfl) (.t rfl) (fun _ => by unfold I64; omega)) rfl <| .z) fun a w S => ?_))))
    rw [rw_3] at S
    refine run S (.yy (ys_slLoB underlying32 sizeOf30 (.t rfl) (.t rfl) (fun _ => by omega)) rfl <| .z) fun a w S => st_y S (Yr.ys (ys_overlaps (tS := 32) (tR := 4) (ka := 1) (kb := 0) func228 (by kernel_rfl) (by kernel_rfl) (by kernel_rfl) (by kernel_rfl) underlying32 sizeOf30 (.t rfl) (.t rfl) rfl rfl (by decide) (fun h => by rw [h] at hlen; simp at hlen; omega))) rfl ?_
    clear S
    intro a w S
    refine run S (.nt rfl <| .z) fun a w S => st_nil (then_normal (hK2 _ _ (st_then S (.t rfl) (wp_seq_k fun _ hK2 => h_begin S (by kernel_rfl) [] fun a w S => hy 0 S rfl (ys_move (.t rfl)) rfl fun a w S => hy 1 S rfl (ys_move (.t rfl)) rfl fun a w S => hy 2 S rfl (ys_move (.t rfl)) rfl fun a w S => hy 3 S rfl (ys_addI (.t rfl) (.t rfl) (fun _ => by unfold I64; omega)) rfl fun a w S => ?_))))
    rw [rw_3] at S
    refine hy 4 S rfl (ys_slLoB underlying32 sizeOf30 (.t rfl) (.t rfl) (fun _ => by omega)) rfl fun a w S => hy 5 S rfl (ys_move (.t rfl)) rfl fun a w S => hy 6 S rfl (ys_move (.t rfl)) rfl fun a w S => hy 7 S rfl (ys_slLoB underlying32 sizeOf30 (.t rfl) (.t rfl) (fun _ => by omega)) rfl fun a w S => ?_
    have hnew : (cs.drop (0 + i * 3)).take ((l.length - i) * 3) = (l.drop i).flatMap enc := by
      rw [← flat_drop he, ← htk, Nat.zero_add, List.drop_take, ← Nat.sub_mul]
    refine h_m (i := 8) rfl (by kernel_rfl) (op_copyG (m := l.length - i) (q := l.length + 1 - i) S underlying32 sizeOf30 (.t rfl) (.t rfl) (k := 0) rfl (fun W => rfl) (by omega) (first_blk S.wd (k := 0) rfl (by omega)) (by rw [hnew]; omega) (by rw [hnew]; exact hd1) rfl ?_)
    clear S
    intro a w S
    refine h_n1 S ?_
    rw [hnew] at S
    refine h_done (by kernel_rfl) (then_normal (hK2 _ _ (wp_seq_k fun _ hK2 => wp_region_lit (run S (.mv rfl <| .mv rfl <| .yy (ys_slLoB underlying32 sizeOf30 (.t rfl) (.t rfl) (fun _ => by omega)) rfl <| .mv rfl <| .z) fun a w S => st_m (op_copyG (m := 1) (q := 1) S underlying32 sizeOf30 (.t rfl) (.t rfl) (k := 0) rfl (fun W => rfl) (by omega) (first_blk S.wd (k := 1) rfl (by rw [hvs]; omega)) (by rw [lay_len, hvs]; simp; omega) (by rw [hvs]; exact fun u hu => h1 x u (by simpa using List.mem_of_mem_take hu)) rfl ?_)))))
    clear S
    intro a w S
    have hv3 : (vs.drop 0).take (1 * 3) = enc x := by rw [List.drop_zero, hvs, List.take_of_length_le (by omega)]
    rw [hv3] at S
    refine st_nil ?_
    rw [rw_1] at S
    refine then_normal (hK2 _ _ (sg S (.mv rfl <| .as rfl <| .z) fun a w S => wp_ret (then_ret (st_ret S (results1 S results206 (Rv.tmp rfl)) ?_))))
    have hfin := (ins_cells (cs := cs) (a := (l.take i).flatMap enc) (x := enc x) (d := (l.drop i).flatMap enc) (o := 0 + i * 3) (by rw [Nat.zero_add, ← flat_take he, ← htk, List.take_take, Nat.min_eq_left (Nat.mul_le_mul_right _ hi)]) (by omega) (by omega)).2
    have W3 := S.wd.close_row (k := 0) rfl (size := 3) (l.length + 1) cap ((l.take i ++ x :: l.drop i).flatMap enc) (by omega) (by rw [lay_len, lay_len]; exact hlen) (by omega) hcm' (by
      rw [List.flatMap_append, List.flatMap_cons, ← List.append_assoc, ← hfin, hx]
      rw [show (i + 1) * 3 = i * 3 + 3 by omega, Nat.zero_add, Nat.zero_add, Nat.add_assoc (i * 3) 3]
      congr 1
      omega)
    refine ⟨_, .row 30 3 (some ⟨g, 0, none⟩) (l.length + 1) cap ((l.take i ++ x :: l.drop i).flatMap enc) :: L, rfl, W3.sub (by repeat (first | exact List.Sublist.refl _ | exact List.nil_sublist _ | refine .cons_cons _ ?_ | refine .cons _ ?_)), some ⟨g, 0, none⟩, cap, rfl, ?_⟩
    simp only [rowOf]
    congr 2
    simp; omega
  · have rw_4 : (l.length : Int) + 1 - i = ((l.length + 1 - i : Nat) : Int) := by omega
    have rw_3 : (i : Int) + 1 = ((i + 1 : Nat) : Int) := by omega
    obtain ⟨ga, rfl⟩ := S.wd.row_at (k := 0) rfl (by omega)
    clear W
    refine sg S (.ac rfl <| .z) fun a w S => sg S (.mv rfl <| .mv rfl <| .yy (ys_slLoB underlying32 sizeOf30 (.t rfl) (.t rfl) (fun _ => by omega)) rfl <| .z) fun a w S => wp_seq_k fun _ hK1 => wp_region_lit (run S (.mv rfl <| .ln underlying32 rfl <| .z) fun a w S => ?_)
    rw [rw_1] at S
    refine run S (.as rfl <| .z) fun a w S => st_nil (then_normal (hK1 _ _ (wp_seq_k fun _ hK1 => sg S (.mv rfl <| .yy (ys_F (by omega) (ys_eql (.t rfl) Ev.c)) rfl <| .z) fun a w S => st_else S (.t rfl) (wp_skip (then_normal (hK1 _ _ (sg S (.mv rfl <| .ln underlying32 rfl <| .as rfl <| .z) fun a w S => wp_seq_k fun _ hK1 => sg S (.mv rfl <| .mv rfl <| .yy (ys_F (by omega) (ys_eql (.t rfl) (.t rfl))) rfl <| .z) fun a w S => st_else S (.t rfl) (wp_skip (then_normal (hK1 _ _ (wp_seq_k fun _ hK1 => sg S (.mv rfl <| .mv rfl <| .yy (ys_addI (.t rfl) (.t rfl) (fun _ => by unfold I64; omega)) rfl <| .mv rfl <| .yy (ys_cap underlying32 (.t rfl)) rfl <| .yy (ys_T (by omega) (ys_gtr (.t rfl) (.t rfl))) rfl <| .z) fun a w S => st_then S (.t rfl) (wp_seq_k fun _ hK2 => wp_region_lit (run S (.mv rfl <| .mv rfl <| .yy (ys_slHi underlying32 sizeOf30 (.t rfl) (.t rfl) (fun _ => by first | omega | (simp; done) | (simp; omega))) rfl <| .mv rfl <| .mv rfl <| .yy (ys_addI (.t rfl) (.t rfl) (fun _ => by unfold I64; omega)) rfl <| .mv rfl <| .yy (ys_subI (.t rfl) (.t rfl) (fun _ => by unfold I64; omega)) rfl <| .z) fun a w S => ?_)))))))))))))
    rw [rw_4] at S
    refine st_m (op_appZ (i := i) (z := l.length + 1 - i) S underlying32 underlying3 inf30 rfl (by simp [Value.cells, Value.oneCell']) (k := 0) rfl (.t rfl) (.t rfl) hi (by omega) (by omega) rfl rfl hf1 rfl ?_)
    clear S
    intro g cs cap' a w hcs hcap' hcm' htk hcs1 S
    have hlen : cs.length = cap' * 3 := hcs
    clear hcs
    refine run S (.as rfl <| .z) fun a w S => st_nil (then_normal (hK2 _ _ (wp_seq_k fun _ hK2 => wp_region_lit (run S (.mv rfl <| .mv rfl <| .yy (ys_slLoB underlying32 sizeOf30 (.t rfl) (.t rfl) (fun _ => by omega)) rfl <| .mv rfl <| .z) fun a w S => st_m (op_copyG (m := 1) (q := 1) S underlying32 sizeOf30 (.t rfl) (.t rfl) (k := 0) rfl (fun W => rfl) (by omega) (first_blk S.wd (k := 2) rfl (by rw [hvs]; omega)) (by rw [hvs]; simp; omega) (by rw [hvs]; exact fun u hu => h1 x u (by simpa using List.mem_of_mem_take hu)) rfl ?_)))))
    clear S
    intro a w S
    have hv3 : (vs.drop 0).take (1 * 3) = enc x := by rw [List.drop_zero, hvs, List.take_of_length_le (by omega)]
    rw [hv3] at S
    refine st_nil ?_
    rw [rw_1] at S
    refine then_normal (hK2 _ _ (wp_seq_k fun _ hK2 => h_begin S (by kernel_rfl) [] fun a w S => hy 0 S rfl (ys_move (.t rfl)) rfl fun a w S => hy 1 S rfl (ys_move (.t rfl)) rfl fun a w S => hy 2 S rfl (ys_move (.t rfl)) rfl fun a w S => hy 3 S rfl (ys_addI (.t rfl) (.t rfl) (fun _ => by unfold I64; omega)) rfl fun a w S => ?_))
    rw [rw_3] at S
    refine hy 4 S rfl (ys_slLoB underlying32 sizeOf30 (.t rfl) (.t rfl) (fun _ => by omega)) rfl fun a w S => hy 5 S rfl (ys_move (.t rfl)) rfl fun a w S => hy 6 S rfl (ys_move (.t rfl)) rfl fun a w S => hy 7 S rfl (ys_slLoB underlying32 sizeOf30 (.t rfl) (.t rfl) (fun _ => by omega)) rfl fun a w S => ?_
    have hnew : (l.drop i).take (l.length - i) = l.drop i := List.take_of_length_le (by simp)
    refine h_m (i := 8) rfl (by kernel_rfl) (op_copyG (m := l.length - i) (q := l.length - i) S underlying32 sizeOf30 (.t rfl) (.t rfl) (k := 0) rfl (fun W => rfl) (by omega) (first_row he S.wd (k := 1) rfl (by omega)) (by rw [hnew, lay_len]; omega) (by rw [hnew]; exact hd1) rfl ?_)
    clear S
    intro a w S
    refine h_n1 S ?_
    rw [hnew] at S
    refine h_done (by kernel_rfl) (then_normal (hK2 _ _ (sg S (.mv rfl <| .as rfl <| .z) fun a w S => wp_ret (then_ret (st_ret S (results1 S results206 (Rv.tmp rfl)) ?_)))))
    have hfin := (ins_cells (cs := cs) (a := (l.take i).flatMap enc) (x := enc x) (d := (l.drop i).flatMap enc) (o := 0 + i * 3) (by rw [Nat.zero_add, htk, flat_take he]) (by omega) (by omega)).1
    have W3 := S.wd.close_row (k := 0) rfl (size := 3) (l.length + 1) cap' ((l.take i ++ x :: l.drop i).flatMap enc) (by omega) (by rw [lay_len, lay_len]; exact hlen) (by omega) hcm' (by
      rw [List.flatMap_append, List.flatMap_cons, ← List.append_assoc, ← hfin, hx]
      rw [show (i + 1) * 3 = i * 3 + 3 by omega, Nat.zero_add, Nat.zero_add, Nat.add_assoc (i * 3) 3]
      congr 1
      omega)
    refine ⟨_, .row 30 3 (some ⟨g, 0, none⟩) (l.length + 1) cap' ((l.take i ++ x :: l.drop i).flatMap enc) :: L, rfl, W3.sub (by repeat (first | exact List.Sublist.refl _ | exact List.nil_sublist _ | refine .cons_cons _ ?_ | refine .cons _ ?_)), some ⟨g, 0, none⟩, cap', ?_, ?_⟩
    · congr 1
      omega
    · simp only [rowOf]
      congr 2
      simp; omega
end Go.Proofs.YtakpdbmdfnialaaGreat
set_option linter.unusedVariables false
set_option linter.unusedSimpArgs false
set_option maxRecDepth 100000
namespace Go.Proofs.YtakpdbmdfnialaaGreat
open Go.Fw Go.Proofs Go.RowKit Go.Proofs.Tryz
theorem c166 {w0 w : World} {L : List Chunk} {A : Option Addr} {cap : Nat} {l : List Dot} (W : Wd w0 (rowOf 74 3 Dot.enc A cap l :: L) w) (hn : l.length ≤ 4194304) :
    RetsO Tryz.prog 166 #[.slice A l.length cap] w0 w fun v L' => v = .slice A (compactL l).length cap ∧ L' = rowOf 74 3 Dot.enc A cap (compactL l) :: L := by
  obtain ⟨hlc, hcm⟩ := W.room (k := 0) rfl
  unfold RetsO
  refine enterW1 W func166 rfl ntmps166 rfl fun a S => ?_
  by_cases h2 : l.length < 2
  · refine sg S (.ac rfl <| .z) fun a w S => wp_seq_k fun _ hK1 => sg S (.mv rfl <| .ln underlying33 rfl <| .yy (ys_T (by omega) (ys_lss (.t rfl) Ev.c)) rfl <| .z) fun a w S => st_then S (.t rfl) (sg S (.mv rfl <| .as rfl <| .z) fun a w S => wp_ret (then_ret (st_ret S (results1 S results166 (Rv.tmp rfl)) ?_)))
    refine ⟨_, rowOf 74 3 Dot.enc A cap l :: L, rfl, S.wd, ?_⟩
    rw [compact_short h2]
    exact ⟨rfl, rfl⟩
  obtain ⟨g, rfl⟩ := S.wd.row_at (k := 0) rfl (by omega)
  refine sg S (.ac rfl <| .z) fun a w S => wp_seq_k fun _ hK1 => sg S (.mv rfl <| .ln underlying33 rfl <| .yy (ys_F (by omega) (ys_lss (.t rfl) Ev.c)) rfl <| .z) fun a w S => st_else S (.t rfl) (wp_skip (then_normal (hK1 _ _ (wp_seq_k fun _ hK1 => sg S (.ac rfl <| .z) fun a w S => wp_block ?_))))
  refine st_lpK S (X := Nat) (fun k => [(3, true, .int .i64 (k : Int))]) (fun _ L => L) (fun k => 1 ≤ k ∧ k ≤ l.length ∧ compactL (l.take k) = l.take k) (fun k => l.length - k) 1 ⟨Nat.le_refl _, by omega, compact_one l⟩ ?_
  clear S
  intro k a w ⟨hk1, hk, hno⟩ S
  by_cases hlt : k < l.length
  · obtain ⟨x, hx⟩ : ∃ x, l[k]? = some x := ⟨l[k], by simp⟩
    obtain ⟨y, hy⟩ : ∃ y, l[k - 1]? = some y := ⟨l[k - 1], by simp⟩
    have rw_p : (k : Int) - 1 = ((k - 1 : Nat) : Int) := by omega
    refine wp_seq_k fun _ hK2 => sg S (.mv rfl <| .mv rfl <| .ln underlying33 rfl <| .lt (by omega) rfl rfl <| .z) fun a w S => st_then S (.t rfl) (wp_skip (then_normal (hK2 _ _ (wp_seq_k fun _ hK2 => wp_block (wp_seq_k fun _ hK3 => st_quiet S (by kernel_rfl) (by kernel_rfl) fun a S => qrun S (.mv rfl <| .mv rfl <| .ix underlying33 sizeOf74 (by omega) rfl rfl <| .yy (ys_ldWA ⟨isAgg74, sizeOf74⟩ (.t rfl) (k := 0) rfl hx (fun _ => rfl)) rfl <| .mv rfl <| .mv rfl <| .yy (ys_subI (.t rfl) Ev.c (fun _ => by unfold I64; omega)) rfl <| .z) fun a S => ?_)))))
    rw [rw_p] at S
    refine qrun S (.ix underlying33 sizeOf74 (by omega) rfl rfl <| .yy (ys_ldWA ⟨isAgg74, sizeOf74⟩ (.t rfl) (k := 0) rfl hy (fun _ => rfl)) rfl <| .yy (ys_eqA (.t rfl) (.t rfl) eq74) rfl <| .z) fun a S => ?_
    (refine q_nil ?_; intro w W; replace S := St.mk S W; clear W)
    refine then_normal (hK3 _ _ ?_)
    refine st_if S (.t rfl) (fun h1 => ?_) (fun h1 => ?_)
    refine sg S (.mv rfl <| .mv rfl <| .yy (ys_slLoB underlying33 sizeOf74 (.t rfl) (.t rfl) (fun _ => by omega)) rfl <| .as rfl <| .z) fun a w S => wp_seq_k fun _ hK3 => sg S (.ac rfl <| .z) fun a w S => wp_block ?_
    rotate_left
    refine wp_skip (in_normal (then_normal (hK2 _ _ (wp_region_lit (run S (.mv rfl <| .ad (by unfold I64; omega) rfl <| .as rfl <| .z) fun a w S => st_nil (then_normal ?_))))))
    rotate_left
    · have exy : x = y := (by obtain ⟨a1, a2, a3⟩ := h1; exact (Dot.eq_iff _ _).2 ⟨a1, a2, a3⟩)
      refine st_lpK S (X := Nat × Nat × List Dot) (fun q => [(5, true, .int .i64 (q.1 : Int)), (3, true, .int .i64 (q.2.1 : Int))]) (fun q _ => rowOf 74 3 Dot.enc (some ⟨g, 0, none⟩) cap q.2.2 :: L) (fun q => 1 ≤ q.1 ∧ k + q.1 ≤ l.length ∧ q.2.1 < k + q.1 ∧ k ≤ q.2.1 ∧ q.2.2.length = l.length ∧ q.2.2.drop (k + q.1 - 1) = l.drop (k + q.1 - 1) ∧ q.2.2.take q.2.1 = compactL (l.take (k + q.1))) (fun q => l.length - q.1) (1, k, l) ⟨Nat.le_refl _, by dsimp only; omega, by dsimp only; omega, Nat.le_refl _, rfl, rfl, by dsimp only; rw [compact_same hx (exy ▸ hy) hk1, hno]⟩ ?_
      clear S
      intro ⟨k2, kk, cur⟩ a w ⟨hk2, hk2l, hkk, hkk0, hcl, hcd, hct⟩ S
      dsimp only at hk2 hk2l hkk hkk0 hcl hcd hct S
      by_cases hlt2 : k + k2 < l.length
      · obtain ⟨u, hu⟩ : ∃ u, cur[k + k2]? = some u := ⟨cur[k + k2], by simp⟩
        obtain ⟨v, hv⟩ : ∃ v, cur[k + k2 - 1]? = some v := ⟨cur[k + k2 - 1], by simp⟩
        have rw_q : (k2 : Int) - 1 = ((k2 - 1 : Nat) : Int) := by omega
        have rw_o1 : 0 + k * 3 + k2 * 3 = 0 + (k + k2) * 3 := by omega
        have rw_o2 : 0 + k * 3 + (k2 - 1) * 3 = 0 + (k + k2 - 1) * 3 := by omega
        have hu' : l[k + k2]? = some u := by
          have := congrArg (·[1]?) hcd
          simp only [List.getElem?_drop] at this
          rw [show k + k2 - 1 + 1 = k + k2 by omega] at this
          rw [← this, hu]
        have hv' : l[k + k2 - 1]? = some v := by
          have := congrArg (·[0]?) hcd
          simp only [List.getElem?_drop, Nat.add_zero] at this
          rw [← this, hv]
        have hcd' : cur.drop (k + k2) = l.drop (k + k2) := by
          have := congrArg (·.drop 1) hcd
          simp only [List.drop_drop] at this
          rwa [show k + k2 - 1 + 1 = k + k2 by omega] at this
        obtain ⟨z, hz⟩ : ∃ z, cur[kk]? = some z := ⟨cur[kk], by simp⟩
        refine wp_seq_k fun _ hK4 => sg S (.mv rfl <| .mv rfl <| .ln underlying33 rfl <| .lt (by omega) rfl rfl <| .z) fun a w S => st_then S (.t rfl) (wp_skip (then_normal (hK4 _ _ (wp_seq_k fun _ hK4 => wp_block (wp_seq_k fun _ hK5 => st_quiet S (by kernel_rfl) (by kernel_rfl) fun a S => qrun S (.mv rfl <| .mv rfl <| .ix underlying33 sizeOf74 (by omega) rfl rfl <| .z) fun a S => ?_)))))
        rw [rw_o1] at S
        refine qrun S (.yy (ys_ldWA ⟨isAgg74, sizeOf74⟩ (.t rfl) (k := 0) rfl hu (fun _ => rfl)) rfl <| .mv rfl <| .mv rfl <| .yy (ys_subI (.t rfl) Ev.c (fun _ => by unfold I64; omega)) rfl <| .z) fun a S => ?_
        rw [rw_q] at S
        refine qrun S (.ix underlying33 sizeOf74 (by omega) rfl rfl <| .z) fun a S => ?_
        rw [rw_o2] at S
        refine qrun S (.yy (ys_ldWA ⟨isAgg74, sizeOf74⟩ (.t rfl) (k := 0) rfl hv (fun _ => rfl)) rfl <| .yy (ys_neA (.t rfl) (.t rfl) eq74) rfl <| .z) fun a S => ?_
        (refine q_nil ?_; intro w W; replace S := St.mk S W; clear W)
        refine then_normal (hK5 _ _ ?_)
        refine st_cond S (.t rfl) (fun h3 => ?_) (fun h3 => ?_)
        refine wp_seq_k fun _ hK5 => wp_region_lit (run S (.mv rfl <| .mv rfl <| .mv rfl <| .mv rfl <| .ix underlying33 sizeOf74 (by omega) rfl rfl <| .z) fun a w S => ?_)
        rw [rw_o1] at S
        refine run S (.yy (ys_ldWA ⟨isAgg74, sizeOf74⟩ (.t rfl) (k := 0) rfl hu (fun _ => rfl)) rfl <| .ix underlying33 sizeOf74 (by omega) rfl rfl <| .z) fun a w S => ?_
        rotate_left
        refine wp_skip (in_normal (then_normal (hK4 _ _ (wp_region_lit (run S (.mv rfl <| .ad (by unfold I64; omega) rfl <| .as rfl <| .z) fun a w S => st_nil (then_normal ?_))))))
        rotate_left
        · have huv : ¬ v = u := (fun e => by have h4 := h3; simp only [Bool.not_eq_true', decide_eq_false_iff_not] at h4; exact h4 ((Dot.eq_iff _ _).1 e.symm))
          refine st_m (op_stRow (enc := Dot.enc) (size := 3) (i := kk) (l := cur) (yn := u) S (fun _ => rfl) rfl sizeOf74 (.t rfl) (.t rfl) rfl (by simp [Dot.enc, Value.oneCell']) (k := 0) rfl hz (Nat.zero_add _) ?_)
          clear S
          intro a w S
          refine st_nil (then_normal (hK5 _ _ (wp_region_lit (run S (.mv rfl <| .ad (by unfold I64; omega) rfl <| .as rfl <| .z) fun a w S => st_nil (in_normal (then_normal (hK4 _ _ (wp_region_lit (run S (.mv rfl <| .ad (by unfold I64; omega) rfl <| .as rfl <| .z) fun a w S => st_nil (then_normal ?_))))))))))
          refine ⟨(k2 + 1, kk + 1, cur.set kk u), ⟨by dsimp only; omega, by dsimp only; omega, by dsimp only; omega, by dsimp only; omega, by simpa using hcl, ?_, ?_⟩, by dsimp only; omega, S.wk⟩
          · dsimp only
            rw [show k + (k2 + 1) - 1 = k + k2 by omega, List.drop_set, if_pos (by omega), hcd']
          · dsimp only
            rw [show k + (k2 + 1) = k + k2 + 1 by omega, compact_take hu' hv' (by omega), if_neg huv, ← hct, List.take_add_one, List.take_set, List.set_eq_of_length_le (by simp; omega)]
            simp [show kk < cur.length by omega]
        · have huv : u = v := ((Dot.eq_iff _ _).2 (by have h4 := h3; simp only [Bool.not_eq_false', decide_eq_true_eq] at h4; exact h4))
          refine ⟨(k2 + 1, kk, cur), ⟨by dsimp only; omega, by dsimp only; omega, by dsimp only; omega, by dsimp only; omega, hcl, ?_, ?_⟩, by dsimp only; omega, S.wk⟩
          · dsimp only
            rw [show k + (k2 + 1) - 1 = k + k2 by omega, hcd']
          · dsimp only
            rw [show k + (k2 + 1) = k + k2 + 1 by omega, compact_same hu' (huv ▸ hv') (by omega), hct]
      · refine wp_seq_k fun _ hK4 => sg S (.mv rfl <| .mv rfl <| .ln underlying33 rfl <| .ge (by omega) rfl rfl <| .z) fun a w S => st_else S (.t rfl) (wp_exit (then_exit (then_exit (in_here (then_normal (hK3 _ _ (wp_seq_k fun _ hK3 => wp_region_lit (run S (.mv rfl <| .mv rfl <| .yy (ys_slLoB underlying33 sizeOf74 (.t rfl) (.t rfl) (fun _ => by omega)) rfl <| .z) fun a w S => st_m (op_clear (enc := Dot.enc) (size := 3) (m := kk) (l := cur) S (fun _ => rfl) rfl underlying33 inf74 rfl (by simp [Value.cells, Value.oneCell']) (.t rfl) (k := 0) rfl (by omega) (by omega) ?_)))))))))
        clear S
        intro a w S
        refine st_nil (then_normal (hK3 _ _ (sg S (.mv rfl <| .mv rfl <| .yy (ys_slHi underlying33 sizeOf74 (.t rfl) (.t rfl) (fun _ => by first | omega | (simp; done) | (simp; omega))) rfl <| .as rfl <| .z) fun a w S => wp_ret (in_ret (then_ret (then_ret (in_ret (then_ret (st_ret S (results1 S results166 (Rv.tmp rfl)) ?_)))))))))
        have hend : k + k2 = l.length := by omega
        rw [hend, List.take_length] at hct
        refine ⟨_, rowOf 74 3 Dot.enc (some ⟨g, 0, none⟩) cap (cur.take kk) :: L, rfl, S.wd, ?_, by rw [hct]⟩
        rw [← hct]
        simp
        omega
    · refine ⟨k + 1, ⟨by omega, by omega, ?_⟩, by omega, S.wk⟩
      have exy : ¬ y = x := (fun e => h1 ((Dot.eq_iff _ _).1 e.symm))
      rw [compact_take hx hy hk1, if_neg exy, hno, List.take_add_one, hx]; rfl
  · refine wp_seq_k fun _ hK2 => sg S (.mv rfl <| .mv rfl <| .ln underlying33 rfl <| .ge (by omega) rfl rfl <| .z) fun a w S => st_else S (.t rfl) (wp_exit (then_exit (then_exit (in_here (then_normal (hK1 _ _ (sg S (.mv rfl <| .as rfl <| .z) fun a w S => wp_ret (st_ret S (results1 S results166 (Rv.tmp rfl)) ?_))))))))
    have hend : k = l.length := by omega
    subst hend
    rw [List.take_length] at hno
    refine ⟨_, rowOf 74 3 Dot.enc (some ⟨g, 0, none⟩) cap l :: L, rfl, S.wd, ?_⟩
    rw [hno]
    exact ⟨rfl, rfl⟩
end Go.Proofs.YtakpdbmdfnialaaGreat
set_option linter.unusedVariables false
set_option linter.unusedSimpArgs false
set_option maxRecDepth 100000
namespace Go.Proofs.YtakpdbmdfnialaaGreat
open Go.Fw Go.Proofs Go.RowKit Go.Proofs.Tryz
theorem may_bd {d : Dot} (h : mayD d = true) : (0 ≤ d.node ∧ d.node ≤ 1099511627776) ∧ (0 ≤ d.life ∧ d.life ≤ 1099511627776) ∧ 0 ≤ d.count ∧ d.count ≤ 1099511627776 := by
  simp only [mayD, decide_eq_true_eq] at h
  omega
theorem c205 (w0 : World) (x y z x' y' z' : Int) (h : (0 ≤ x ∧ x ≤ 1099511627776) ∧ (0 ≤ y ∧ y ≤ 1099511627776) ∧ 0 ≤ z ∧ z ≤ 1099511627776) (h' : (0 ≤ x' ∧ x' ≤ 1099511627776) ∧ (0 ≤ y' ∧ y' ≤ 1099511627776) ∧ 0 ≤ z' ∧ z' ≤ 1099511627776) :
    Calls Tryz.prog 205 #[.agg #[.int .i64 x, .int .i64 y, .int .i64 z], .agg #[.int .i64 x', .int .i64 y', .int .i64 z']] w0 fun e w' => e = .returned (.int .i64 (orderD (⟨x, y, z⟩ : Dot).nl (⟨x', y', z'⟩ : Dot).nl)) ∧ Bel w0.heap.size w0 w' := by
  refine enter2 func205 rfl ntmps205 rfl fun a S => wp_seq_k fun _ hK1 => wp_region_lit (st_m (op_box S (.t rfl) rfl fun g1 a w S => st_m (op_box S (.t rfl) rfl fun g2 a w S => run S (.ac rfl <| .z) fun a w S => st_nil (then_normal (hK1 _ _ (sg S (.fa underlying30 sizeOf3 0 rfl rfl rfl <| .ld gt3 1 rfl rfl rfl <| .fa underlying30 sizeOf3 1 rfl rfl rfl <| .ld gt3 1 rfl rfl rfl <| .yy (ys_bld (ps := [(0, Go.Operand.tmp 6), (1, Go.Operand.tmp 8)]) (us := [_, _, _]) bld74 (.cons (.t rfl) (.cons (.t rfl) .nil)) rfl) rfl <| .fa underlying74 sizeOf3 0 rfl rfl rfl <| .ld gt3 0 rfl rfl rfl <| .fa underlying74 sizeOf3 1 rfl rfl rfl <| .ld gt3 0 rfl rfl rfl <| .yy (ys_bld (ps := [(0, Go.Operand.tmp 11), (1, Go.Operand.tmp 13)]) (us := [_, _, _]) bld74 (.cons (.t rfl) (.cons (.t rfl) .nil)) rfl) rfl <| .xx (ys_call call165 (.cons (.t rfl) (.cons (.t rfl) .nil)) (fun hp w W => c165 _ _ _ _ _ _ _ (by omega) (by omega))) rfl <| .as rfl <| .z) fun a w S => wp_ret (st_ret S (results1 S results205 (Rv.tmp rfl)) ?_)))))))
  exact ⟨rfl, S.wd.below⟩
instance (a b : Dot) : Decidable (ltM a b) := inferInstanceAs (Decidable (_ ∨ _))
def posM (l : List Dot) (d : Dot) : Nat := (l.takeWhile fun m => decide (ltM m d)).length
theorem posM_le (l : List Dot) (d : Dot) : posM l d ≤ l.length := (List.takeWhile_sublist _).length_le
theorem posM_lt {d : Dot} : ∀ {l : List Dot}, l.Pairwise ltM → ∀ (k : Nat) (m : Dot), l[k]? = some m → (ltM m d ↔ k < posM l d)
  | [], _, k, m, h => by simp at h
  | x :: r, hp, k, m, h => by
    rw [List.pairwise_cons] at hp
    unfold posM
    rw [List.takeWhile_cons]
    cases k with
    | zero =>
      simp at h
      subst h
      by_cases hx : ltM x d
      · simp [hx]
      · simp [hx]
    | succ k =>
      simp at h
      have hm := List.mem_of_getElem? h
      have ih := posM_lt (d := d) hp.2 k m h
      have hxm := hp.1 m hm
      by_cases hx : ltM x d
      · simp only [hx, decide_true, if_true, List.length_cons]
        rw [ih]; unfold posM; omega
      · simp only [hx, decide_false]
        have : ¬ ltM m d := fun h => hx (ltM_trans hxm h)
        simp [this]
def hasM (l : List Dot) (d : Dot) : Bool := match l[posM l d]? with
  | some m => decide (m.node = d.node ∧ m.life = d.life)
  | none => false
theorem order_nl {a b : Dot} : orderD a.nl b.nl = 0 ↔ a.node = b.node ∧ a.life = b.life := by
  simp only [orderD, Dot.nl]
  split
  · omega
  · split
    · omega
    · simp; omega
theorem c204 (w0 : World) (v1 : Value) (l : List Dot) (x y z : Int) (h : Sl Dot.enc 3 w0 w0.heap.size v1 l) (hl : l.Pairwise ltM) (hm : ∀ m ∈ l, mayD m = true) (hd : mayD ⟨x, y, z⟩ = true) (hn : l.length ≤ 4194304) :
    Calls Tryz.prog 204 #[v1, .agg #[.int .i64 x, .int .i64 y, .int .i64 z], .func (.func 205) #[] #[]] w0 fun e w' => e = .returned (.tuple #[.int .i64 (posM l ⟨x, y, z⟩ : Nat), .bool (hasM l ⟨x, y, z⟩)]) ∧ Bel w0.heap.size w0 w' := by
  obtain ⟨A, cap, rfl, hl0, hcap, hA⟩ := h
  have hd2 := may_bd hd
  dsimp only at hd2
  have hpl := posM_le l ⟨x, y, z⟩
  refine enter3 func204 rfl ntmps204 rfl fun a S => wp_seq_k fun _ hK1 => wp_region_lit (st_m (op_box S (.t rfl) rfl fun g1 a w S => run S (.ac rfl <| .ac rfl <| .z) fun a w S => st_nil (then_normal (hK1 _ _ (sg S (.mv rfl <| .ln underlying32 rfl <| .as rfl <| .z) fun a w S => sg S (.mv rfl <| .ac rfl <| .as rfl <| .z) fun a w S => wp_seq_k fun _ hK1 => wp_block ?_)))))
  refine st_lpK S (X := Nat × Nat) (fun q => [(9, true, .int .i64 (q.1 : Int)), (10, true, .int .i64 (q.2 : Int))]) (fun _ L => L) (fun q => q.1 ≤ posM l ⟨x, y, z⟩ ∧ posM l ⟨x, y, z⟩ ≤ q.2 ∧ q.2 ≤ l.length) (fun q => q.2 - q.1) (0, l.length) ⟨Nat.zero_le _, hpl, Nat.le_refl _⟩ ?_
  clear S
  intro ⟨i, j⟩ a w ⟨hi, hj, hjl⟩ S
  dsimp only at hi hj hjl S
  by_cases hlt : i < j
  · have hlt2 : (i + j) / 2 < l.length := by omega
    obtain ⟨g, o, m, rfl, hmm, hd', hc⟩ := row_at hA hlt2
    have hmb := may_bd (hm m (List.mem_of_getElem? hmm))
    have hpos := posM_lt (d := ⟨x, y, z⟩) hl _ m hmm
    rw [← orderM_iff] at hpos
    clear hA
    have rw_eta : (⟨m.node, m.life, m.count⟩ : Dot) = m := rfl
    have rw_h : ((i : Int) + j) / 2 = (((i + j) / 2 : Nat) : Int) := by omega
    refine wp_seq_k fun _ hK2 => sg S (.mv rfl <| .mv rfl <| .lt (by omega) rfl rfl <| .z) fun a w S => st_then S (.t rfl) (wp_skip (then_normal (hK2 _ _ (wp_block (wp_seq_k fun _ hK2 => wp_region_lit (run S (.mv rfl <| .mv rfl <| .yy (ys_addI (.t rfl) (.t rfl) (fun _ => by unfold I64; omega)) rfl <| .yy (ys_cvU underlying3 underlying61 (.t rfl) (fun _ => by omega)) rfl <| .yy (ys_shrC (m := 1) (c := 2) (.t rfl) Ev.c rfl rfl) rfl <| .z) fun a w S => ?_))))))
    rw [rw_h] at S
    refine run S (.yy (ys_cvI underlying61 underlying3 (.t rfl) (fun _ => by unfold I64; omega)) rfl <| .as rfl <| .z) fun a w S => st_nil (then_normal (hK2 _ _ (wp_seq_k fun _ hK2 => st_quiet S (by kernel_rfl) (by kernel_rfl) fun a S => qrun S (.mv rfl <| .mv rfl <| .mv rfl <| .ix underlying32 sizeOf30 (by omega) rfl rfl <| .yy (ys_ldOA ⟨isAgg30, sizeOf30⟩ (.t rfl) (vs := [_, _, _]) rfl (fun _ => hc)) rfl <| .la gt74 0 rfl rfl rfl <| .xx (ys_callV (.t rfl) call205 (.cons (.t rfl) (.cons (.t rfl) .nil)) (fun hp w W => c205 _ _ _ _ _ _ _ (by assumption) (by assumption))) rfl <| .z) fun a S => ?_)))
    rw [rw_eta] at S
    refine qrun S (.yy (ys_lss (.t rfl) Ev.c) rfl <| .z) fun a S => ?_
    (refine q_nil ?_; intro w W; replace S := St.mk S W; clear W)
    refine then_normal (hK2 _ _ ?_)
    refine st_if S (.t rfl) (fun h1 => ?_) (fun h1 => ?_)
    refine wp_region_lit (run S (.mv rfl <| .ad (by unfold I64; omega) rfl <| .as rfl <| .z) fun a w S => st_nil (in_normal (then_normal ?_)))
    rotate_left
    refine wp_region_lit (run S (.mv rfl <| .as rfl <| .z) fun a w S => st_nil (in_normal (then_normal ?_)))
    rotate_left
    · exact ⟨((i + j) / 2 + 1, j), ⟨by dsimp only; omega, hj, hjl⟩, by dsimp only; omega, S.wk⟩
    · exact ⟨(i, (i + j) / 2), ⟨hi, by dsimp only; omega, by dsimp only; omega⟩, by dsimp only; omega, S.wk⟩
  · obtain rfl : i = posM l ⟨x, y, z⟩ := by omega
    by_cases hin : posM l ⟨x, y, z⟩ < l.length
    · obtain ⟨g, o, m, rfl, hmm, hd', hc⟩ := row_at hA hin
      have hmb := may_bd (hm m (List.mem_of_getElem? hmm))
      have hze := order_nl (a := m) (b := ⟨x, y, z⟩)
      clear hA
      refine wp_seq_k fun _ hK2 => sg S (.mv rfl <| .mv rfl <| .ge (by omega) rfl rfl <| .z) fun a w S => st_else S (.t rfl) (wp_exit (then_exit (then_exit (in_here (then_normal (hK1 _ _ (wp_seq_k fun _ hK1 => st_quiet S (by kernel_rfl) (by kernel_rfl) fun a S => qrun S (.mv rfl <| .mv rfl <| .mv rfl <| .lt (by omega) rfl rfl <| .mv rfl <| .gy rfl rfl (ys_move (.t rfl)) <| .gy rfl rfl (ys_move (.t rfl)) <| .gy rfl rfl (ys_move (.t rfl)) <| .gy rfl rfl (ys_ixS underlying32 sizeOf30 (.t rfl) (.t rfl) (fun _ => by omega)) <| .gy rfl rfl (ys_ldOA ⟨isAgg30, sizeOf30⟩ (.t rfl) (vs := [_, _, _]) rfl (fun _ => hc)) <| .gy rfl rfl (ys_ldA ⟨isAgg74, sizeOf74⟩ (.t rfl) (k := 0) rfl rfl) <| .gx rfl rfl (ys_callV (.t rfl) call205 (.cons (.t rfl) (.cons (.t rfl) .nil)) (fun hp w W => c205 _ _ _ _ _ _ _ (by assumption) (by assumption))) <| .gy rfl rfl (ys_eql (.t rfl) Ev.c) <| .yy (ys_pickT (.t rfl) (.t rfl)) rfl <| .as rfl <| .as rfl <| .z) fun a S => ?_)))))))
      (refine q_nil ?_; intro w W; replace S := St.mk S W; clear W)
      refine then_normal (hK1 _ _ (wp_ret (st_ret S (results2 S results204 (Rv.tmp rfl) (Rv.tmp rfl)) ?_)))
      refine ⟨?_, S.wd.below⟩
      have e : hasM l ⟨x, y, z⟩ = decide (orderD m.nl (⟨x, y, z⟩ : Dot).nl = 0) := by
        unfold hasM
        simp only [hmm]
        exact decide_eq_decide.2 hze.symm
      rw [e]
    · refine wp_seq_k fun _ hK2 => sg S (.mv rfl <| .mv rfl <| .ge (by omega) rfl rfl <| .z) fun a w S => st_else S (.t rfl) (wp_exit (then_exit (then_exit (in_here (then_normal (hK1 _ _ (wp_seq_k fun _ hK1 => st_quiet S (by kernel_rfl) (by kernel_rfl) fun a S => qrun S (.mv rfl <| .mv rfl <| .mv rfl <| .ge (by omega) rfl rfl <| .mv rfl <| .sk rfl rfl rfl <| .sk rfl rfl rfl <| .sk rfl rfl rfl <| .sk rfl rfl rfl <| .sk rfl rfl rfl <| .sk rfl rfl rfl <| .sk rfl rfl rfl <| .sk rfl rfl rfl <| .yy (ys_pickF (.t rfl) Ev.c) rfl <| .as rfl <| .as rfl <| .z) fun a S => ?_)))))))
      (refine q_nil ?_; intro w W; replace S := St.mk S W; clear W)
      refine then_normal (hK1 _ _ (wp_ret (st_ret S (results2 S results204 (Rv.tmp rfl) (Rv.tmp rfl)) ?_)))
      refine ⟨?_, S.wd.below⟩
      have e : hasM l ⟨x, y, z⟩ = false := by
        unfold hasM
        rw [List.getElem?_eq_none (by omega)]
      rw [e]
theorem setL_at {d : Dot} : ∀ {l : List Dot}, l.Pairwise ltM → setL d false l = match l[posM l d]? with
      | some m => if m.node = d.node ∧ m.life = d.life then l.set (posM l d) ⟨m.node, m.life, max m.count d.count⟩ else l.take (posM l d) ++ d :: l.drop (posM l d)
      | none => l.take (posM l d) ++ d :: l.drop (posM l d)
  | [], _ => by simp [setL, posM]
  | x :: r, hp => by
    rw [List.pairwise_cons] at hp
    have ih := setL_at (d := d) hp.2
    by_cases hx : ltM x d
    · have e : posM (x :: r) d = posM r d + 1 := by simp [posM, List.takeWhile_cons, hx]
      have h1 : ¬ (x.node = d.node ∧ x.life = d.life) := by unfold ltM at hx; omega
      have h2 : ¬ (!false && belowD ⟨d.node, d.life, 0⟩ ⟨x.node, x.life, 0⟩) = true := by
        rw [Bool.not_false, Bool.true_and, belowC_iff]
        unfold ltC
        unfold ltM at hx
        dsimp only
        omega
      rw [setL, if_neg h1, if_neg h2, ih, e]
      simp only [List.getElem?_cons_succ]
      split
      · split <;> simp
      · simp
    · have e : posM (x :: r) d = 0 := by simp [posM, List.takeWhile_cons, hx]
      rw [e, setL]
      simp only [List.getElem?_cons_zero]
      split
      · rename_i h1
        rw [setL_true fun q hq => ?_]
        · simp
        · have := hp.1 q hq
          unfold ltM at this ⊢
          omega
      · rename_i h1
        have h2 : (!false && belowD ⟨d.node, d.life, 0⟩ ⟨x.node, x.life, 0⟩) = true := by
          rw [Bool.not_false, Bool.true_and, belowC_iff]
          unfold ltC
          unfold ltM at hx
          dsimp only
          omega
        rw [if_pos h2, setL_true fun q hq => ?_]
        · simp
        · have := hp.1 q hq
          unfold ltM at this hx ⊢
          omega
set_option maxHeartbeats 1000000 in
theorem c167 {w0 w : World} {L : List Chunk} {A A' : Option Addr} {cap cap' : Nat} {C : Ctx} {x y z : Int}
    (W : Wd w0 (rowOf 30 3 Dot.enc A cap C.marks :: rowOf 74 3 Dot.enc A' cap' C.cloud :: L) w) (hM : C.marks.Pairwise ltM) (hm : ∀ m ∈ C.marks, mayD m = true) (hd : mayD ⟨x, y, z⟩ = true) (hn : C.marks.length ≤ 4194304) (hn' : C.cloud.length ≤ 4194304) :
    RetsO Tryz.prog 167 #[.agg #[.slice A C.marks.length cap, .slice A' C.cloud.length cap'], .agg #[.int .i64 x, .int .i64 y, .int .i64 z]] w0 w fun v L' => ∃ A1 c1 A2 c2, v = .agg #[.slice A1 (growC C ⟨x, y, z⟩).marks.length c1, .slice A2 (growC C ⟨x, y, z⟩).cloud.length c2] ∧
      L' = rowOf 30 3 Dot.enc A1 c1 (growC C ⟨x, y, z⟩).marks :: rowOf 74 3 Dot.enc A2 c2 (growC C ⟨x, y, z⟩).cloud :: L := by
  have hd2 := may_bd hd
  dsimp only at hd2
  have hmk := markOf_may (x := x) (y := y) hm
  have hpl := posM_le C.marks ⟨x, y, z⟩
  unfold RetsO
  refine enterW2 W func167 rfl ntmps167 rfl fun a S => ?_
  unfold growC
  dsimp only
  by_cases h1 : z ≤ markOf C.marks x y
  · rw [if_pos h1]
    refine wp_seq_k fun _ hK1 => wp_region_lit (st_m (op_box S (.t rfl) rfl fun g1 a w S => st_m (op_box S (.t rfl) rfl fun g2 a w S => st_m (op_alloc S zeroValue35 (cs := _) rfl rfl fun g3 a w S => st_nil (then_normal (hK1 _ _ (wp_seq_k fun _ hK1 => st_quiet S (by kernel_rfl) (by kernel_rfl) fun a S => qrun S (.la gt35 2 rfl rfl rfl <| .la gt74 1 rfl rfl rfl <| .xx (ys_call call141 (.cons (.t rfl) .nil) (fun hp w W => c141 _ _ _ _)) rfl <| .xx (ys_call call140 (.cons (.t rfl) (.cons (.t rfl) .nil)) (fun hp w W => c140 _ _ _ _ _ _ (by exact Sl.of_own W (k := 3) rfl (fun _ => rfl)))) rfl <| .as rfl <| .z) fun a S => ?_)))))))
    (refine q_nil ?_; intro w W; replace S := St.mk S W; clear W)
    refine then_normal (hK1 _ _ (wp_seq_k fun _ hK1 => wp_block (sg S (.fa underlying74 sizeOf3 2 rfl rfl rfl <| .ld gt3 1 rfl rfl rfl <| .mv rfl <| .yy (ys_T (by omega) (ys_leq (.t rfl) (.t rfl))) rfl <| .as rfl <| .z) fun a w S => st_then S (.t rfl) (wp_seq_k fun _ hK2 => wp_region_lit (run S (.la gt35 2 rfl rfl rfl <| .z) fun a w S => st_m (op_stW S sizeOf35 (.t rfl) (.t rfl) (k := 0) rfl rfl rfl (by simp [Value.oneCell']) fun a w S => st_nil (then_normal (hK2 _ _ (wp_ret (in_ret (then_ret (st_ret S (results1 S results167 (Rv.cell (k := 0) ⟨isAgg35, sizeOf35⟩ rfl rfl rfl)) ?_))))))))))))
    exact ⟨_, rowOf 30 3 Dot.enc A cap C.marks :: rowOf 74 3 Dot.enc A' cap' C.cloud :: L, rfl, S.wd.sub (by repeat (first | exact List.Sublist.refl _ | exact List.nil_sublist _ | refine .cons_cons _ ?_ | refine .cons _ ?_)), A, cap, A', cap', rfl, rfl⟩
  rw [if_neg h1]
  by_cases h2 : markOf C.marks x y + 1 < z
  · rw [if_pos h2]
    refine wp_seq_k fun _ hK1 => wp_region_lit (st_m (op_box S (.t rfl) rfl fun g1 a w S => st_m (op_box S (.t rfl) rfl fun g2 a w S => st_m (op_alloc S zeroValue35 (cs := _) rfl rfl fun g3 a w S => st_nil (then_normal (hK1 _ _ (wp_seq_k fun _ hK1 => st_quiet S (by kernel_rfl) (by kernel_rfl) fun a S => qrun S (.la gt35 2 rfl rfl rfl <| .la gt74 1 rfl rfl rfl <| .xx (ys_call call141 (.cons (.t rfl) .nil) (fun hp w W => c141 _ _ _ _)) rfl <| .xx (ys_call call140 (.cons (.t rfl) (.cons (.t rfl) .nil)) (fun hp w W => c140 _ _ _ _ _ _ (by exact Sl.of_own W (k := 3) rfl (fun _ => rfl)))) rfl <| .as rfl <| .z) fun a S => ?_)))))))
    (refine q_nil ?_; intro w W; replace S := St.mk S W; clear W)
    refine then_normal (hK1 _ _ (wp_seq_k fun _ hK1 => wp_block (sg S (.fa underlying74 sizeOf3 2 rfl rfl rfl <| .ld gt3 1 rfl rfl rfl <| .mv rfl <| .yy (ys_F (by omega) (ys_leq (.t rfl) (.t rfl))) rfl <| .as rfl <| .z) fun a w S => st_else S (.t rfl) (sg S (.fa underlying74 sizeOf3 2 rfl rfl rfl <| .ld gt3 1 rfl rfl rfl <| .mv rfl <| .ad (by unfold I64; omega) rfl <| .yy (ys_T (by omega) (ys_gtr (.t rfl) (.t rfl))) rfl <| .as rfl <| .z) fun a w S => st_then S (.t rfl) (wp_seq_k fun _ hK2 => wp_region_lit (run S (.fa underlying35 sizeOf33 1 rfl rfl rfl <| .ld gt33 2 rfl rfl rfl <| .la gt74 1 rfl rfl rfl <| .z) fun a w S => st_m (op_bslice1 S underlying33 inf74 rfl rfl rfl (.t rfl) rfl rfl rfl fun g4 a w S => st_m (op_push S underlying33 inf74 rfl (k := 5) (j := 0) rfl (.t rfl) (.t rfl) rfl Go.Fw.Dot.mkEnc rfl rfl (by first | omega | (simp only [List.length_append, List.length_cons, List.length_nil]; omega)) rfl rfl rfl fun A1 cap1 a w S => run S (.fa underlying35 sizeOf33 1 rfl rfl rfl <| .z) fun a w S => st_m (op_st S sizeOf33 (.t rfl) (.t rfl) (k := 3) rfl rfl (by simp) fun a w S => st_nil (then_normal (hK2 _ _ (wp_seq_k fun _ hK2 => wp_region_lit (run S (.la gt35 3 rfl rfl rfl <| .z) fun a w S => ?_)))))))))))))
    refine st_m (op_stW S sizeOf35 (.t rfl) (.t rfl) (k := 1) rfl rfl rfl (by simp [Value.oneCell']) fun a w S => st_nil (then_normal (hK2 _ _ (wp_ret (in_ret (then_ret (st_ret S (results1 S results167 (Rv.cell (k := 1) ⟨isAgg35, sizeOf35⟩ rfl rfl rfl)) ?_)))))))
    exact ⟨_, rowOf 30 3 Dot.enc A cap C.marks :: rowOf 74 3 Dot.enc A1 cap1 (C.cloud ++ [⟨x, y, z⟩]) :: L, rfl, S.wd.sub (by repeat (first | exact List.Sublist.refl _ | exact List.nil_sublist _ | refine .cons_cons _ ?_ | refine .cons _ ?_)), A, cap, A1, cap1, rfl, rfl⟩
  rw [if_neg h2]
  have hat := setL_at (d := ⟨x, y, z⟩) hM
  by_cases hh : hasM C.marks ⟨x, y, z⟩ = true
  · obtain ⟨m, hmm, hmx, hmy⟩ : ∃ m, C.marks[posM C.marks ⟨x, y, z⟩]? = some m ∧ m.node = x ∧ m.life = y := by
      unfold hasM at hh
      split at hh
      · rename_i m hmm
        exact ⟨m, hmm, by simpa using hh⟩
      · cases hh
    have hlt : posM C.marks ⟨x, y, z⟩ < C.marks.length := (List.getElem?_eq_some_iff.1 hmm).1
    obtain ⟨ga, rfl⟩ := W.row_at (k := 0) rfl (by have := (W.room (k := 0) rfl).1; omega)
    have rw_h : hasM C.marks ⟨x, y, z⟩ = true := hh
    have hmc := markOf_mem hM (List.mem_of_getElem? hmm)
    rw [hmx, hmy] at hmc
    have e : setL ⟨x, y, z⟩ false C.marks = C.marks.set (posM C.marks ⟨x, y, z⟩) ⟨m.node, m.life, z⟩ := by
      rw [hat, hmm]
      simp only
      rw [if_pos ⟨hmx, hmy⟩, show max m.count z = z by omega]
    rw [e]
    refine wp_seq_k fun _ hK1 => wp_region_lit (st_m (op_box S (.t rfl) rfl fun g1 a w S => st_m (op_box S (.t rfl) rfl fun g2 a w S => st_m (op_alloc S zeroValue35 (cs := _) rfl rfl fun g3 a w S => st_nil (then_normal (hK1 _ _ (wp_seq_k fun _ hK1 => st_quiet S (by kernel_rfl) (by kernel_rfl) fun a S => qrun S (.la gt35 2 rfl rfl rfl <| .la gt74 1 rfl rfl rfl <| .xx (ys_call call141 (.cons (.t rfl) .nil) (fun hp w W => c141 _ _ _ _)) rfl <| .xx (ys_call call140 (.cons (.t rfl) (.cons (.t rfl) .nil)) (fun hp w W => c140 _ _ _ _ _ _ (by exact Sl.of_own W (k := 3) rfl (fun _ => rfl)))) rfl <| .as rfl <| .z) fun a S => ?_)))))))
    (refine q_nil ?_; intro w W; replace S := St.mk S W; clear W)
    refine then_normal (hK1 _ _ (wp_seq_k fun _ hK1 => wp_block (sg S (.fa underlying74 sizeOf3 2 rfl rfl rfl <| .ld gt3 1 rfl rfl rfl <| .mv rfl <| .yy (ys_F (by omega) (ys_leq (.t rfl) (.t rfl))) rfl <| .as rfl <| .z) fun a w S => st_else S (.t rfl) (sg S (.fa underlying74 sizeOf3 2 rfl rfl rfl <| .ld gt3 1 rfl rfl rfl <| .mv rfl <| .ad (by unfold I64; omega) rfl <| .yy (ys_F (by omega) (ys_gtr (.t rfl) (.t rfl))) rfl <| .as rfl <| .z) fun a w S => st_else S (.t rfl) (wp_skip (in_normal (then_normal (hK1 _ _ (wp_seq_k fun _ hK1 => wp_region_lit (run S (.fa underlying35 sizeOf32 0 rfl rfl rfl <| .ld gt32 2 rfl rfl rfl <| .la gt74 1 rfl rfl rfl <| .xx (ys_call call204 (.cons (.t rfl) (.cons (.t rfl) (.cons Ev.f .nil))) (fun hp w W => c204 _ _ _ _ _ _ (by exact Sl.of_own W (k := 3) rfl (fun _ => rfl)) (by assumption) (by assumption) (by assumption) (by assumption))) rfl <| .z) fun a w S => ?_))))))))))
    rw [rw_h] at S
    refine run S (.mv rfl <| .ex rfl rfl <| .ex rfl rfl <| .as rfl <| .as rfl <| .z) fun a w S => st_nil (then_normal (hK1 _ _ (wp_seq_k fun _ hK1 => sg S (.mv rfl <| .z) fun a w S => st_then S (.t rfl) (wp_region_lit (run S (.fa underlying35 sizeOf32 0 rfl rfl rfl <| .ld gt32 2 rfl rfl rfl <| .mv rfl <| .fa underlying74 sizeOf3 2 rfl rfl rfl <| .ld gt3 1 rfl rfl rfl <| .ix underlying32 sizeOf30 (by omega) rfl rfl <| .yy (ys_field (FieldT.mk underlying30 rfl sizeOf3 rfl) (.t rfl)) rfl <| .z) fun a w S => st_m (op_stFld (enc := Dot.enc) (size := 3) (i := posM C.marks ⟨x, y, z⟩) (j := 2) ⟨m.node, m.life, z⟩ S (fun _ => rfl) sizeOf3 (.t rfl) (.t rfl) rfl (k := 3) rfl hmm (by omega) rfl rfl ?_))))))
    clear S
    intro a w S
    refine st_nil (then_normal (hK1 _ _ (wp_seq_k fun _ hK1 => wp_region_lit (run S (.la gt35 2 rfl rfl rfl <| .z) fun a w S => st_m (op_stW S sizeOf35 (.t rfl) (.t rfl) (k := 0) rfl rfl rfl (by simp [Value.oneCell']) fun a w S => st_nil (then_normal (hK1 _ _ (wp_ret (st_ret S (results1 S results167 (Rv.cell (k := 0) ⟨isAgg35, sizeOf35⟩ rfl rfl rfl)) ?_)))))))))
    refine ⟨_, rowOf 30 3 Dot.enc (some ⟨ga, 0, none⟩) cap (C.marks.set (posM C.marks ⟨x, y, z⟩) ⟨m.node, m.life, z⟩) :: rowOf 74 3 Dot.enc A' cap' C.cloud :: L, rfl, S.wd.sub (by repeat (first | exact List.Sublist.refl _ | exact List.nil_sublist _ | refine .cons_cons _ ?_ | refine .cons _ ?_)), some ⟨ga, 0, none⟩, cap, A', cap', ?_, rfl⟩
    simp
  · have rw_h : hasM C.marks ⟨x, y, z⟩ = false := by simpa using hh
    have e : setL ⟨x, y, z⟩ false C.marks = C.marks.take (posM C.marks ⟨x, y, z⟩) ++ ⟨x, y, z⟩ :: C.marks.drop (posM C.marks ⟨x, y, z⟩) := by
      rw [hat]
      unfold hasM at rw_h
      split
      · rename_i m hmm
        rw [hmm] at rw_h
        rw [if_neg (by simpa using rw_h)]
      · rfl
    rw [e]
    refine wp_seq_k fun _ hK1 => wp_region_lit (st_m (op_box S (.t rfl) rfl fun g1 a w S => st_m (op_box S (.t rfl) rfl fun g2 a w S => st_m (op_alloc S zeroValue35 (cs := _) rfl rfl fun g3 a w S => st_nil (then_normal (hK1 _ _ (wp_seq_k fun _ hK1 => st_quiet S (by kernel_rfl) (by kernel_rfl) fun a S => qrun S (.la gt35 2 rfl rfl rfl <| .la gt74 1 rfl rfl rfl <| .xx (ys_call call141 (.cons (.t rfl) .nil) (fun hp w W => c141 _ _ _ _)) rfl <| .xx (ys_call call140 (.cons (.t rfl) (.cons (.t rfl) .nil)) (fun hp w W => c140 _ _ _ _ _ _ (by exact Sl.of_own W (k := 3) rfl (fun _ => rfl)))) rfl <| .as rfl <| .z) fun a S => ?_)))))))
    (refine q_nil ?_; intro w W; replace S := St.mk S W; clear W)
    refine then_normal (hK1 _ _ (wp_seq_k fun _ hK1 => wp_block (sg S (.fa underlying74 sizeOf3 2 rfl rfl rfl <| .ld gt3 1 rfl rfl rfl <| .mv rfl <| .yy (ys_F (by omega) (ys_leq (.t rfl) (.t rfl))) rfl <| .as rfl <| .z) fun a w S => st_else S (.t rfl) (sg S (.fa underlying74 sizeOf3 2 rfl rfl rfl <| .ld gt3 1 rfl rfl rfl <| .mv rfl <| .ad (by unfold I64; omega) rfl <| .yy (ys_F (by omega) (ys_gtr (.t rfl) (.t rfl))) rfl <| .as rfl <| .z) fun a w S => st_else S (.t rfl) (wp_skip (in_normal (then_normal (hK1 _ _ (wp_seq_k fun _ hK1 => wp_region_lit (run S (.fa underlying35 sizeOf32 0 rfl rfl rfl <| .ld gt32 2 rfl rfl rfl <| .la gt74 1 rfl rfl rfl <| .xx (ys_call call204 (.cons (.t rfl) (.cons (.t rfl) (.cons Ev.f .nil))) (fun hp w W => c204 _ _ _ _ _ _ (by exact Sl.of_own W (k := 3) rfl (fun _ => rfl)) (by assumption) (by assumption) (by assumption) (by assumption))) rfl <| .z) fun a w S => ?_))))))))))
    rw [rw_h] at S
    refine run S (.mv rfl <| .ex rfl rfl <| .ex rfl rfl <| .as rfl <| .as rfl <| .z) fun a w S => st_nil (then_normal (hK1 _ _ (wp_seq_k fun _ hK1 => sg S (.mv rfl <| .z) fun a w S => st_else S (.t rfl) (wp_region_lit (run S (.fa underlying35 sizeOf32 0 rfl rfl rfl <| .ld gt32 2 rfl rfl rfl <| .mv rfl <| .la gt74 1 rfl rfl rfl <| .z) fun a w S => st_m (op_bslice1 S underlying32 inf30 rfl rfl rfl (.t rfl) rfl rfl rfl fun g4 a w S => ?_))))))
    have hlen : (C.marks.take (posM C.marks ⟨x, y, z⟩) ++ (⟨x, y, z⟩ : Dot) :: C.marks.drop (posM C.marks ⟨x, y, z⟩)).length = C.marks.length + 1 := by simp; omega
    replace S := S.pull 4 rfl
    refine st_m (op_callO S call206 (.cons (.t rfl) (.cons (.t rfl) (.cons (.t rfl) .nil))) (k206 (enc := Dot.enc) (x := ⟨x, y, z⟩) (fun _ => rfl) (fun x u hu => by simp [Dot.enc] at hu; rcases hu with rfl | rfl | rfl <;> rfl) S.wd rfl (posM C.marks ⟨x, y, z⟩) hpl hn) rfl ?_)
    clear S
    rintro _ _ ⟨A1, c1, rfl, rfl⟩ a w S
    refine run S (.fa underlying35 sizeOf32 0 rfl rfl rfl <| .z) fun a w S => st_m (op_st S sizeOf32 (.t rfl) (.t rfl) (k := 3) rfl rfl (by simp) fun a w S => st_nil (then_normal (hK1 _ _ (wp_seq_k fun _ hK1 => wp_region_lit (run S (.la gt35 3 rfl rfl rfl <| .z) fun a w S => st_m (op_stW S sizeOf35 (.t rfl) (.t rfl) (k := 1) rfl rfl rfl (by simp [Value.oneCell']) fun a w S => st_nil (then_normal (hK1 _ _ (wp_ret (st_ret S (results1 S results167 (Rv.cell (k := 1) ⟨isAgg35, sizeOf35⟩ rfl rfl rfl)) ?_))))))))))
    refine ⟨_, rowOf 30 3 Dot.enc A1 c1 (C.marks.take (posM C.marks ⟨x, y, z⟩) ++ (⟨x, y, z⟩ : Dot) :: C.marks.drop (posM C.marks ⟨x, y, z⟩)) :: rowOf 74 3 Dot.enc A' cap' C.cloud :: L, rfl, S.wd.sub (by repeat (first | exact List.Sublist.refl _ | exact List.nil_sublist _ | refine .cons_cons _ ?_ | refine .cons _ ?_)), A1, c1, A', cap', ?_, rfl⟩
    dsimp only
    rw [hlen]
end Go.Proofs.YtakpdbmdfnialaaGreat
set_option linter.unusedVariables false
set_option linter.unusedSimpArgs false
namespace Go.Ft
open Go.RowKit
abbrev KL := List (Nat × Bool × Value)
def look : KL → Nat → Option (Bool × Value)
  | [], _ => none
  | (j, v) :: r, i => bif Nat.beq i j then some v else look r i
structure Kn (n : Nat) (K : KL) (a : Act) : Prop where
  defers : a.defers = []
  size : a.tmps.size = n
  slot : ∀ i g v, look K i = some (g, v) → a.tmps[i]? = some (bif g then v else undef)
def Ev (n : Nat) (b : Bool) (K : KL) (x : Operand) (v : Value) : Prop := ∀ a, b = true → Kn n K a → a.eval x = v
def EvL (n : Nat) (b : Bool) (K : KL) (xs : List Operand) (vs : List Value) : Prop := ∀ a, b = true → Kn n K a → xs.map a.eval = vs
section kn
variable {n : Nat} {K : KL} {a : Act} {b : Bool}
theorem Ev.t {t : Nat} {v : Value} (h : look K t = some (true, v)) : Ev n b K (.tmp t) v := fun a _ hk => by
  simp [Act.eval, hk.slot t true v h]
theorem Ev.g {t : Nat} {v : Value} (h : look K t = some (b, v)) : Ev n b K (.tmp t) v := fun a hb hk => by
  simp [Act.eval, hk.slot t b v h, hb]
theorem Ev.c {v : Value} : Ev n b K (.const v) v := fun _ _ _ => rfl
theorem Ev.f {f : Nat} : Ev n b K (.func f) (.func (.func f) #[] #[]) := fun _ _ _ => rfl
theorem EvL.nil : EvL n b K [] [] := fun _ _ _ => rfl
theorem EvL.cons {x : Operand} {xs : List Operand} {v : Value} {vs : List Value} (h : Ev n b K x v) (h' : EvL n b K xs vs) : EvL n b K (x :: xs) (v :: vs) := fun a hb hk => by
  simp only [List.map_cons, h a hb hk, h' a hb hk]
theorem Kn.putg (h : Kn n K a) {d : Nat} (hd : Nat.blt d n = true) (g : Bool) (v : Value) : Kn n ((d, g, v) :: K) (a.put (some d) (bif g then v else undef)) := by
  refine ⟨h.defers, by simp [Act.put, h.size], fun i g' u hu => ?_⟩
  have hdn : d < n := by simpa [Nat.blt_eq] using hd
  unfold look at hu
  by_cases hi : i = d
  · subst hi
    simp only [Nat.beq_refl, cond_true, Option.some.injEq, Prod.mk.injEq] at hu
    obtain ⟨rfl, rfl⟩ := hu
    simp [Act.put, h.size, hdn]
  · have : Nat.beq i d = false := by simpa [Nat.beq_eq_true_eq, ← Bool.not_eq_true] using hi
    simp only [this, cond_false] at hu
    simp only [Act.put]
    rw [Array.getElem?_setIfInBounds_ne (fun e => hi e.symm)]
    exact h.slot i g' u hu
theorem Kn.put (h : Kn n K a) {d : Nat} (hd : Nat.blt d n = true) (v : Value) : Kn n ((d, true, v) :: K) (a.put (some d) v) := h.putg hd true v
def Fits (sn : List Nat) (K : KL) : KL → Prop
  | [] => True
  | (i, g, v) :: r => (List.elem i sn = true ∨ look K i = some (g, v)) ∧ Fits (i :: sn) K r
theorem Fits.nil {sn : List Nat} {K : KL} : Fits sn K [] := trivial
theorem Fits.cons {sn : List Nat} {K r : KL} {i : Nat} {g : Bool} {v : Value} (h : Ft.look K i = some (g, v)) (h' : Fits (i :: sn) K r) : Fits sn K ((i, g, v) :: r) := ⟨.inr h, h'⟩
theorem Fits.skip {sn : List Nat} {K r : KL} {i : Nat} {g : Bool} {v : Value} (h : List.elem i sn = true) (h' : Fits (i :: sn) K r) : Fits sn K ((i, g, v) :: r) := ⟨.inl h, h'⟩
theorem Fits.look {K : KL} : ∀ {K' : KL} {sn : List Nat}, Fits sn K K' → ∀ i v, List.elem i sn = false → Ft.look K' i = some v → Ft.look K i = some v
  | [], _, _, i, v, _, h => by simp [Ft.look] at h
  | (j, g, u) :: r, sn, hf, i, v, hn, h => by
    obtain ⟨h1, h2⟩ := hf
    unfold Ft.look at h
    by_cases hi : i = j
    · subst hi
      simp only [Nat.beq_refl, cond_true, Option.some.injEq] at h
      rw [← h]
      rcases h1 with h1 | h1
      · rw [h1] at hn; cases hn
      · exact h1
    · have : Nat.beq i j = false := by simpa [Nat.beq_eq_true_eq, ← Bool.not_eq_true] using hi
      simp only [this, cond_false] at h
      refine Fits.look h2 i v ?_ h
      have hne : (i == j) = false := by simpa using hi
      simp only [List.elem, hne]
      exact hn
end kn
abbrev Dle (a b : Nat) : Prop := a ≤ b
theorem Dle.succ (a : Nat) : Dle a (a + 1) := by unfold Dle; omega
structure Bel (B : Nat) (w w' : World) : Prop extends Below B w w' where
  drawn : Dle w.drawn w'.drawn
section bel
variable {B B' : Nat} {a b c : World}
theorem Bel.refl (B : Nat) (w : World) : Bel B w w := ⟨Below.refl B w, Nat.le_refl _⟩
theorem Bel.trans (h : Bel B a b) (k : Bel B b c) : Bel B a c := ⟨h.toBelow.trans k.toBelow, Nat.le_trans h.drawn k.drawn⟩
theorem Bel.mono (h : Bel B a b) (hB : B' ≤ B) : Bel B' a b := ⟨h.toBelow.mono hB, h.drawn⟩
theorem Bel.alloc (h : Bel B a b) (hb : B ≤ b.heap.size) (o : Obj) : Bel B a (b.alloc o) := ⟨h.toBelow.alloc hb o, h.drawn⟩
theorem Bel.drew (h : Bel B a b) : Bel B a b.drew := ⟨h.toBelow.drew, Nat.le_trans h.drawn (Dle.succ _)⟩
theorem Bel.grows (h : Bel a.heap.size a b) : ∃ q os', b = Go.Sort.grow (a.drewN q) os' := by
  refine ⟨b.drawn - a.drawn, b.heap.extract a.heap.size b.heap.size, ?_⟩
  have hh : b.heap = a.heap ++ b.heap.extract a.heap.size b.heap.size := by
    have hs := h.size
    apply Array.ext
    · simp; omega
    · intro i h1 h2
      rw [Array.getElem_append]
      split
      · rename_i hlt
        have := h.block i hlt
        rw [Array.getElem?_eq_getElem h1, Array.getElem?_eq_getElem hlt] at this
        simpa using this
      · rw [Array.getElem_extract]
        congr 1
        omega
  obtain ⟨h1, h2, h3, _, _⟩ := h.toBelow
  have h4 := h.drawn
  cases a; cases b
  simp only at h1 h2 h3 h4 hh ⊢
  subst h1; subst h2; subst h3
  simp only [Go.Sort.grow, World.drewN, World.mk.injEq, and_true, true_and]
  exact ⟨hh, by omega⟩
end bel
structure Turned (S : Nat → Prop) (w w' : World) : Prop where
  os : w'.os = w.os
  tape : w'.tape = w.tape
  output : w'.output = w.output
  size : w.heap.size ≤ w'.heap.size
  block : ∀ k, k < w.heap.size → ¬ S k → w'.heap[k]? = w.heap[k]?
  drawn : Dle w.drawn w'.drawn
theorem Turned.mono {S S' : Nat → Prop} {w w' : World} (h : Turned S w w') (hS : ∀ k, S k → S' k) : Turned S' w w' :=
  ⟨h.os, h.tape, h.output, h.size, fun k hk hn => h.block k hk fun e => hn (hS k e), h.drawn⟩
def Owns (w : World) (B : Nat) (e size : Nat) (A : Option Addr) (n cap : Nat) (xs : List Value) : Prop :=
  xs.length = n * size ∧ ((n = 0 ∧ cap = 0) ∨ ∃ g cur, A = some ⟨g, 0, none⟩ ∧ 0 < cap ∧ B ≤ g ∧ w.heap[g]? = some (.cells cur e (0, 0)) ∧ n ≤ cap ∧ cap ≤ maxLen ∧ cur.size = cap * size ∧ cur.toList.take (n * size) = xs)
inductive Chunk where
  | blk (b : Nat) (o : Obj)
  | row (e size : Nat) (A : Option Addr) (n cap : Nat) (xs : List Value)
  | ice (w1 : World) (bs : List Nat)
def Chunk.holds (B : Nat) (w : World) : Chunk → Prop
  | .blk b o => B ≤ b ∧ w.heap[b]? = some o
  | .row e size A n cap xs => Owns w B e size A n cap xs
  | .ice w1 bs => ∀ b ∈ bs, B ≤ b ∧ b < w.heap.size ∧ w.heap[b]? = w1.heap[b]?
def Chunk.own : Chunk → Nat → Prop
  | .blk b _ => fun x => x = b
  | .row _ _ A _ cap _ => fun x => cap ≠ 0 ∧ A.map (·.block) = some x
  | .ice _ bs => fun x => x ∈ bs
def Chunk.apart (c d : Chunk) : Prop := ∀ b, c.own b → ¬ d.own b
theorem Chunk.apart.symm {c d : Chunk} (h : c.apart d) : d.apart c := fun b hd hc => h b hc hd
theorem Chunk.holds.lt {B : Nat} {w : World} {c : Chunk} (h : c.holds B w) {b : Nat} (hb : c.own b) : B ≤ b ∧ b < w.heap.size := by
  cases c with
  | blk b' o =>
    obtain ⟨h1, h2⟩ := h
    simp only [Chunk.own] at hb
    subst hb
    exact ⟨h1, (Array.getElem?_eq_some_iff.1 h2).1⟩
  | row e size A n cap xs =>
    obtain ⟨h0, hb⟩ := hb
    rcases h.2 with ⟨_, hc⟩ | ⟨g, cur, rfl, hp, hB, hg, _⟩
    · exact absurd hc h0
    · simp only [Option.map_some, Option.some.injEq] at hb
      subst hb
      exact ⟨hB, (Array.getElem?_eq_some_iff.1 hg).1⟩
  | ice w1 bs => exact ⟨(h b hb).1, (h b hb).2.1⟩
theorem Chunk.holds.keep {B : Nat} {w w' : World} {c : Chunk} (h : c.holds B w) (hs : w.heap.size ≤ w'.heap.size) (hk : ∀ b, c.own b → w'.heap[b]? = w.heap[b]?) : c.holds B w' := by
  cases c with
  | blk b o => exact ⟨h.1, (hk b rfl).trans h.2⟩
  | row e size A n cap xs =>
    refine ⟨h.1, ?_⟩
    rcases h.2 with hn | ⟨g, cur, rfl, hp, hb, hgg, rest⟩
    · exact .inl hn
    · exact .inr ⟨g, cur, rfl, hp, hb, (hk g ⟨Nat.pos_iff_ne_zero.1 hp, rfl⟩).trans hgg, rest⟩
  | ice w1 bs => exact fun b hb => ⟨(h b hb).1, Nat.lt_of_lt_of_le (h b hb).2.1 hs, (hk b hb).trans (h b hb).2.2⟩
theorem Chunk.holds.mono {B B' : Nat} {w : World} {c : Chunk} (h : c.holds B w) (hB : B' ≤ B) : c.holds B' w := by
  cases c with
  | blk b o => exact ⟨Nat.le_trans hB h.1, h.2⟩
  | row e size A n cap xs =>
    refine ⟨h.1, ?_⟩
    rcases h.2 with hn | ⟨g, cur, rfl, hp, hb, rest⟩
    · exact .inl hn
    · exact .inr ⟨g, cur, rfl, hp, Nat.le_trans hB hb, rest⟩
  | ice w1 bs => exact fun b hb => ⟨Nat.le_trans hB (h b hb).1, (h b hb).2⟩
structure Wd (w0 : World) (L : List Chunk) (w : World) : Prop where
  below : Bel w0.heap.size w0 w
  all : ∀ c ∈ L, c.holds w0.heap.size w
  apart : L.Pairwise Chunk.apart
section wd
variable {w0 : World} {L : List Chunk} {w w' : World}
theorem Wd.start (w : World) : Wd w [] w := ⟨Bel.refl _ _, (fun _ h => by cases h), List.Pairwise.nil⟩
theorem Wd.get (h : Wd w0 L w) {k : Nat} {c : Chunk} (hk : L[k]? = some c) : c.holds w0.heap.size w := h.all c (List.mem_of_getElem? hk)
theorem Wd.sub (h : Wd w0 L w) {L' : List Chunk} (hs : L'.Sublist L) : Wd w0 L' w :=
  ⟨h.below, fun c hc => h.all c (hs.subset hc), h.apart.sublist hs⟩
theorem Wd.step (h : Wd w0 L w) (hb : Bel w.heap.size w w') : Wd w0 L w' :=
  ⟨h.below.trans (hb.mono h.below.size), fun c hc => (h.all c hc).keep hb.size fun b hbk => hb.block b ((h.all c hc).lt hbk).2, h.apart⟩
theorem Wd.more (h : Wd w0 L w) (hb : Bel w.heap.size w w') {c : Chunk} (hc : c.holds w.heap.size w') : Wd w0 (c :: L) w' := by
  have h' := h.step hb
  refine ⟨h'.below, fun d hd => ?_, List.Pairwise.cons (fun d hd b hcb hdb => ?_) h'.apart⟩
  · rcases List.mem_cons.1 hd with rfl | hd
    · exact hc.mono h.below.size
    · exact h'.all d hd
  · have h1 := (hc.lt hcb).1
    have h2 := ((h.all d hd).lt hdb).2
    omega
theorem Wd.drew (h : Wd w0 L w) : Wd w0 L w.drew := h.step (Bel.refl _ _).drew
theorem Wd.alloc (h : Wd w0 L w) (o : Obj) : Wd w0 (.blk w.heap.size o :: L) (w.alloc o) :=
  h.more ((Bel.refl _ _).alloc (Nat.le_refl _) o) ⟨Nat.le_refl _, heap_alloc_new w o⟩
end wd
structure St (n : Nat) (w0 : World) (K : KL) (L : List Chunk) (a : Act) (w : World) : Prop where
  kn : Kn n K a
  wd : Wd w0 L w
section code
variable {P : Program} {Q : Exit → Act → World → Prop} {n : Nat} {w0 : World} {K : KL} {L : List Chunk} {a : Act} {w : World}
theorem enter {f : FuncId} {fn : Func} {c : Code} {args : List Value} {w : World} {R : Ending → World → Prop} (hf : P.funcs[f]? = some fn) (hb : fn.body = some c)
    {n : Nat} {K : KL} (hn : fn.ntmps = n) (hsz : Nat.ble args.length n = true) (hK : ∀ i g v, look K i = some (g, v) → g = true ∧ args[i]? = some v)
    (h : ∀ a, St n w K [] a w → c.wp P (bodyPost P fn R) a w) : Calls P f args.toArray w R := by
  refine calls_of_wp hf hb (h _ ⟨⟨rfl, ?_, fun i g v hv => ?_⟩, Wd.start w⟩)
  · have := Nat.le_of_ble_eq_true hsz
    simp [hn]; omega
  · obtain ⟨rfl, h1⟩ := hK i g v hv
    have hi : i < args.length := (List.getElem?_eq_some_iff.1 h1).1
    simp [Array.getElem?_append, hi, (List.getElem?_eq_some_iff.1 h1).2]
section enters
def argsK : Nat → List Value → KL
  | _, [] => []
  | i, v :: vs => (i, true, v) :: argsK (i + 1) vs
theorem argsK_ok : ∀ (vs : List Value) (i j : Nat) (g : Bool) (v : Value), look (argsK i vs) j = some (g, v) → g = true ∧ i ≤ j ∧ vs[j - i]? = some v
  | [], i, j, g, v, h => by simp [argsK, look] at h
  | u :: us, i, j, g, v, h => by
    unfold argsK look at h
    by_cases hj : j = i
    · subst hj
      simp only [Nat.beq_refl, cond_true, Option.some.injEq, Prod.mk.injEq] at h
      obtain ⟨rfl, rfl⟩ := h
      exact ⟨rfl, Nat.le_refl _, by simp⟩
    · have : Nat.beq j i = false := by simpa [Nat.beq_eq_true_eq, ← Bool.not_eq_true] using hj
      simp only [this, cond_false] at h
      obtain ⟨h1, h2, h3⟩ := argsK_ok us (i + 1) j g v h
      refine ⟨h1, by omega, ?_⟩
      rw [show j - i = (j - (i + 1)) + 1 by omega]
      simpa using h3
theorem enterL {f : FuncId} {fn : Func} {c : Code} {args : List Value} {w : World} {R : Ending → World → Prop} (hf : P.funcs[f]? = some fn) (hb : fn.body = some c)
    {n : Nat} (hn : fn.ntmps = n) (hsz : Nat.ble args.length n = true) (h : ∀ a, St n w (argsK 0 args) [] a w → c.wp P (bodyPost P fn R) a w) : Calls P f args.toArray w R :=
  enter hf hb hn hsz (fun i g v hv => have h := argsK_ok args 0 i g v hv; ⟨h.1, by simpa using h.2.2⟩) h
variable {f : FuncId} {fn : Func} {c : Code} {R : Ending → World → Prop} {v0 v1 v2 v3 v4 v5 v6 v7 v8 : Value}
theorem enter1 (hf : P.funcs[f]? = some fn) (hb : fn.body = some c) {n : Nat} (hn : fn.ntmps = n) (hsz : Nat.ble 1 n = true)
    (h : ∀ a, St n w [(0, true, v0)] [] a w → c.wp P (bodyPost P fn R) a w) : Calls P f #[v0] w R := enterL (args := [v0]) hf hb hn hsz h
theorem enter2 (hf : P.funcs[f]? = some fn) (hb : fn.body = some c) {n : Nat} (hn : fn.ntmps = n) (hsz : Nat.ble 2 n = true)
    (h : ∀ a, St n w [(0, true, v0), (1, true, v1)] [] a w → c.wp P (bodyPost P fn R) a w) : Calls P f #[v0, v1] w R := enterL (args := [v0, v1]) hf hb hn hsz h
end enters
theorem st_cond {c : Operand} {x y : Code} {b : Bool} (S : St n w0 K L a w) (hc : Ev n true K c (.bool b)) (ht : b = true → x.wp P Q a w) (hf : b = false → y.wp P Q a w) : (Code.cond c x y).wp P Q a w :=
  wp_cond_split (hc a rfl S.kn) ht hf
theorem st_if {c : Operand} {x y : Code} {p : Prop} {_ : Decidable p} (S : St n w0 K L a w) (hc : Ev n true K c (.bool (decide p))) (ht : p → x.wp P Q a w) (hf : ¬p → y.wp P Q a w) : (Code.cond c x y).wp P Q a w :=
  wp_cond_split (hc a rfl S.kn) (fun h => ht (of_decide_eq_true h)) (fun h => hf (of_decide_eq_false h))
theorem st_then {c : Operand} {x y : Code} (S : St n w0 K L a w) (hc : Ev n true K c (.bool true)) (ht : x.wp P Q a w) : (Code.cond c x y).wp P Q a w := wp_cond_true (hc a rfl S.kn) ht
theorem st_else {c : Operand} {x y : Code} (S : St n w0 K L a w) (hc : Ev n true K c (.bool false)) (hf : y.wp P Q a w) : (Code.cond c x y).wp P Q a w := wp_cond_false (hc a rfl S.kn) hf
def Ys (P : Program) (o : Oper) (n : Nat) (K : KL) (w0 : World) (L : List Chunk) (b : Bool) (v : Value) : Prop :=
  ∀ a w, b = true → Kn n K a → Wd w0 L w → Oper.quietUpon P (Wd w0 L) w v ((execOp a.eval o).run P w)
def Yr (P : Program) (o : Oper) (n : Nat) (K : KL) (w0 : World) (L : List Chunk) (b : Bool) (v : Value) : Prop :=
  ∀ a w, b = true → Kn n K a → Wd w0 L w → (execOp a.eval o).run P w = .ok (.value v) w
theorem Yr.ys {o : Oper} {b : Bool} {v : Value} (h : Yr P o n K w0 L b v) : Ys P o n K w0 L b v := fun a w hb hk hw => by
  rw [h a w hb hk hw]; exact ⟨rfl, rfl⟩
theorem Ys.wp {o : Oper} {v : Value} (hy : Ys P o n K w0 L true v) (S : St n w0 K L a w) {K' : Act → World → Prop} (h : ∀ w', Wd w0 L w' → K' (a.put o.dst v) w') : o.wp P a w K' Q := by
  have h3 := hy a w rfl S.kn S.wd
  unfold Oper.wp
  generalize (execOp a.eval o).run P w = r at *
  cases r with
  | ok x w' =>
    cases x <;> simp only [Oper.quietUpon] at h3 <;> simp only [Oper.upon]
    case value u => obtain ⟨rfl, rfl⟩ := h3; exact h _ S.wd
    case skip => obtain ⟨rfl, rfl⟩ := h3; exact h _ S.wd
    case enter f args =>
      obtain ⟨rfl, hc⟩ := h3
      exact hc.mono fun e w'' ⟨he, hw''⟩ => by subst he; exact h _ hw''
  | halt x w' => simp only [Oper.quietUpon] at h3
section list
variable {ops : Array Oper} {rest : List Oper} {op : Op} {ty : TypeId} {pos : String} {aft : Array Edge} {v : Value} {d t j : Nat} {p : Bool}
theorem st_nil (h : Q .normal a w) : wpList P ops Q [] a w := h
theorem st_m {d : Option Tmp} (h : Oper.wp P ⟨d, op, ty, pos, aft, none⟩ a w (wpList P ops Q rest) Q) : wpList P ops Q (⟨d, op, ty, pos, aft, none⟩ :: rest) a w :=
  wpList_plain rfl fun _ hK => Oper.wp_mono hK h
theorem st_y (S : St n w0 K L a w) (hy : Ys P ⟨some d, op, ty, pos, aft, none⟩ n K w0 L true v) (hd : Nat.blt d n = true)
    (next : ∀ a w, St n w0 ((d, true, v) :: K) L a w → wpList P ops Q rest a w) : wpList P ops Q (⟨some d, op, ty, pos, aft, none⟩ :: rest) a w :=
  st_m (hy.wp S fun _ hw => next _ _ ⟨S.kn.put hd v, hw⟩)
variable {Z : Act → Prop} {C : World → Prop}
end list
section held
variable {ops : Array Oper} {Lr : List Chunk} {fuel i : Nat} {listed : Array Bool} {op : Op} {ty : TypeId} {pos : String} {aft : Array Edge} {gd : Option (Nat × Bool)} {v : Value} {d t j : Nat} {p : Bool} {md : Region.Mode}
theorem h_begin0 {id : Nat} (S : St n w0 K L a w) (hm : P.follows .mixedOrders = true)
    (h : ∀ a w, St n w0 K L a w → wpAnyH P .any ops Q (Wd w0 L) ops.size (Array.replicate ops.size false) a w) : (Code.region id ops true).wp P Q a w :=
  wp_region_held hm (h _ _ ⟨S.kn, S.wd.drew⟩)
theorem h_take {o : Oper} {v : Value} (S : St n w0 K L a w) (hsub : Lr.Sublist L) (hi : ops[i]? = some o) (hs : Region.noSelect ops = true) (hf : Region.free md ops listed i = true) (hr : (Region.ready md ops listed).contains i = true)
    (hQ : ∀ c a w, Q (.panic c) (a.put o.dst v) w → Q (.panic c) a w) (hy : YieldsIf P ops (Wd w0 Lr) o v a)
    (h : wpAnyH P md ops Q (Wd w0 Lr) fuel (listed.setIfInBounds i true) (a.put o.dst v) w) : wpAnyH P md ops Q (Wd w0 Lr) (fuel + 1) listed a w :=
  wpAnyH_take hi hs hf hr hQ hy (S.wd.sub hsub) h
theorem h_y (S : St n w0 K L a w) (hsub : Lr.Sublist L) (hi : ops[i]? = some ⟨some d, op, ty, pos, aft, none⟩) (hs : Region.noSelect ops = true) (hf : Region.free md ops listed i = true) (hr : (Region.ready md ops listed).contains i = true)
    (hQ : ∀ v c a w, Q (.panic c) (a.put (some d) v) w → Q (.panic c) a w) (hy : Yr P ⟨some d, op, ty, pos, aft, none⟩ n K w0 Lr true v) (hd : Nat.blt d n = true)
    (next : ∀ a w, St n w0 ((d, true, v) :: K) L a w → wpAnyH P md ops Q (Wd w0 Lr) fuel (listed.setIfInBounds i true) a w) : wpAnyH P md ops Q (Wd w0 Lr) (fuel + 1) listed a w :=
  h_take S hsub hi hs hf hr (hQ v) (.inl ⟨rfl, fun w hw => hy a w rfl S.kn hw⟩) (next _ _ ⟨S.kn.put hd v, S.wd⟩)
theorem h_m (hi : ops[i]? = some ⟨some d, op, ty, pos, aft, none⟩) (hr : Region.ready md ops listed = [i])
    (h : Oper.wp P ⟨some d, op, ty, pos, aft, none⟩ a w (fun a' w' => Wd w0 Lr w' ∧ wpAnyH P md ops Q (Wd w0 Lr) fuel (listed.setIfInBounds i true) a' w') Q) : wpAnyH P md ops Q (Wd w0 Lr) (fuel + 1) listed a w :=
  wpAnyH_all hr (by simp) fun k hk => by
    simp only [List.mem_singleton] at hk
    subst hk
    unfold wpOp
    simp only [hi, Region.wanted, if_true]
    exact .inl h
theorem h_q (S : St n w0 K L a w) (hsub : Lr.Sublist L) (hi : ops[i]? = some ⟨some d, op, ty, pos, aft, none⟩) (hr : Region.ready md ops listed = [i]) (hy : Ys P ⟨some d, op, ty, pos, aft, none⟩ n K w0 L true v) (hd : Nat.blt d n = true)
    (next : ∀ a w, St n w0 ((d, true, v) :: K) L a w → wpAnyH P md ops Q (Wd w0 Lr) fuel (listed.setIfInBounds i true) a w) : wpAnyH P md ops Q (Wd w0 Lr) (fuel + 1) listed a w :=
  h_m hi hr (hy.wp S fun w' hw => ⟨hw.sub hsub, next _ _ ⟨S.kn.put hd v, hw⟩⟩)
theorem h_on (S : St n w0 K L a w) (Lr' : List Chunk) (h1 : Lr.Sublist Lr') (h2 : Lr'.Sublist L) (h : wpAnyH P md ops Q (Wd w0 Lr') fuel listed a w) : Wd w0 Lr w ∧ wpAnyH P md ops Q (Wd w0 Lr) fuel listed a w := by
  refine ⟨S.wd.sub (h1.trans h2), ?_⟩
  clear S h2
  induction fuel generalizing listed a w with
  | zero => exact h
  | succ fuel ih => exact ⟨h.1, fun i hi => wpOp_mono (fun a' w' h' => ⟨h'.1.sub h1, ih h'.2⟩) (h.2 i hi)⟩
theorem h_done (hr : Region.ready md ops listed = []) (h : Q .normal a w) : wpAnyH P md ops Q (Wd w0 Lr) fuel listed a w := wpAnyH_done hr h fuel
end held
end code
end Go.Ft
