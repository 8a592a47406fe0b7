/- Contracts and laws that the statement Alo leans on, part 2. -/
import Derived.Test.YtakpdbmdfnialaaGreatAloK1
import Derived.Test.YtakpdbmdfnialaaGreatProg
import Derived.Lib.SpaceUEq
import Derived.RangeFuncRecord
import Derived.OrdersIn
import Derived.TacticsIn
set_option linter.unusedVariables false
set_option linter.unusedSimpArgs false
namespace Go.Fw
section
variable {α : Type} [DecidableEq α]
def compactL : List α → List α
 | [] => []
 | [x] => [x]
 | x :: y :: r => if x = y then compactL (y :: r) else x :: compactL (y :: r)
theorem compact_short {l : List α} (h : l.length < 2) : compactL l = l := by
 match l, h with
 | [], _ => rfl
 | [x], _ => rfl
theorem compact_one (l : List α) : compactL (l.take 1) = l.take 1 := by
 cases l with
 | nil => rfl
 | cons x r => simp [compactL]
theorem compact_snoc : ∀ (l : List α) (y x : α), compactL (l ++ [y] ++ [x]) = if y = x then compactL (l ++ [y]) else compactL (l ++ [y]) ++ [x]
 | [], y, x => by simp only [List.nil_append, List.singleton_append, compactL]; split <;> simp_all [compactL]
 | [z], y, x => by
   have := compact_snoc [] y x
   simp only [List.nil_append, List.singleton_append] at this
   simp only [List.cons_append, List.nil_append, compactL] at this ⊢
   by_cases h1 : z = y <;> by_cases h2 : y = x <;> simp_all
 | z :: z' :: r, y, x => by
   have := compact_snoc (z' :: r) y x
   simp only [List.cons_append, compactL] at this ⊢
   rw [this]
   by_cases h1 : z = z' <;> by_cases h2 : y = x <;> simp_all
theorem compact_take {l : List α} {k : Nat} {x y : α} (hx : l[k]? = some x) (hy : l[k - 1]? = some y) (hk : 1 ≤ k) : compactL (l.take (k + 1)) = if y = x then compactL (l.take k) else compactL (l.take k) ++ [x] := by
 obtain ⟨j, rfl⟩ : ∃ j, k = j + 1 := ⟨k - 1, by omega⟩
 simp only [Nat.add_sub_cancel] at hy
 have e1 : l.take (j + 1) = l.take j ++ [y] := by rw [List.take_add_one, hy]; rfl
 have e2 : l.take (j + 1 + 1) = l.take j ++ [y] ++ [x] := by rw [List.take_add_one, hx, e1]; rfl
 rw [e2, e1, compact_snoc]
theorem compact_same {l : List α} {k : Nat} {x : α} (hx : l[k]? = some x) (hy : l[k - 1]? = some x) (hk : 1 ≤ k) : compactL (l.take (k + 1)) = compactL (l.take k) := by
 rw [compact_take hx hy hk, if_pos rfl]
theorem compact_len : ∀ l : List α, (compactL l).length ≤ l.length
 | [] => by simp [compactL]
 | [x] => by simp [compactL]
 | x :: y :: r => by
   have := compact_len (y :: r)
   simp only [compactL]
   split
   · simp at this ⊢; omega
   · simp at this ⊢; omega
theorem compact_mem {x : α} : ∀ l : List α, x ∈ compactL l ↔ x ∈ l
 | [] => by simp [compactL]
 | [y] => by simp [compactL]
 | y :: z :: r => by
   have := compact_mem (x := x) (z :: r)
   simp only [compactL]
   split
   · rename_i h; subst h; rw [this]; simp
   · rw [List.mem_cons, this, List.mem_cons (a := x) (b := y)]
end
end Go.Fw
namespace Go.Fw
open Go.RowKit
def leC (a b : Dot) : Prop := ltC a b ∨ a = b
theorem not_ltC {a b : Dot} : ¬ ltC b a ↔ leC a b := by
 unfold leC ltC
 rw [Dot.eq_iff]
 omega
abbrev sameA (a b : Dot) : Prop := a.node = b.node ∧ a.life = b.life
def pushM (acc : List Dot) (d : Dot) : List Dot := match acc.getLast? with
 | some y => if sameA y d then acc.set (acc.length - 1) d else acc ++ [d]
 | none => [d]
theorem setL_push : ∀ (acc : List Dot) (d : Dot), acc.Pairwise ltM → (∀ x ∈ acc, leC x d) → setL d false acc = pushM acc d
 | [], d, _, _ => by simp [setL, pushM]
 | [x], d, _, h => by
   have h := h x (by simp)
   unfold leC ltC at h
   rw [Dot.eq_iff] at h
   simp only [setL, pushM, List.getLast?_singleton, sameA]
   by_cases hs : x.node = d.node ∧ x.life = d.life
   · rw [if_pos hs, if_pos hs]
     simp [setL]
     rw [Dot.eq_iff]
     simp
     omega
   · rw [if_neg hs, if_neg hs]
     have : (!false && belowD ⟨d.node, d.life, 0⟩ ⟨x.node, x.life, 0⟩) = false := by
       rw [Bool.not_false, Bool.true_and, Bool.eq_false_iff]
       intro hc
       rw [Xh] at hc
       unfold ltC at hc
       dsimp only at hc
       omega
     rw [if_neg (by rw [this]; simp)]
     simp [setL]
 | x :: y :: r, d, hp, h => by
   rw [List.pairwise_cons] at hp
   have ih := setL_push (y :: r) d hp.2 (fun z hz => h z (List.mem_cons_of_mem _ hz))
   have hx := h x (by simp)
   have hy := h y (by simp)
   have hxy := hp.1 y (by simp)
   unfold leC ltC at hx hy
   unfold ltM at hxy
   rw [Dot.eq_iff] at hx hy
   have hs : ¬ (x.node = d.node ∧ x.life = d.life) := by omega
   have hb : (!false && belowD ⟨d.node, d.life, 0⟩ ⟨x.node, x.life, 0⟩) = false := by
     rw [Bool.not_false, Bool.true_and, Bool.eq_false_iff]
     intro hc
     rw [Xh] at hc
     unfold ltC at hc
     dsimp only at hc
     omega
   rw [setL, if_neg hs, if_neg (by rw [hb]; simp), ih]
   unfold pushM
   rw [List.getLast?_cons_cons]
   cases hl : (y :: r).getLast? with
   | none => simp at hl
   | some z =>
     simp only
     split
     · simp [List.set]
     · simp
theorem setF_snoc (l : List Dot) (d : Dot) : setF (l ++ [d]) = setL d false (setF l) := by simp [setF]
theorem setF_push {l : List Dot} {k : Nat} {d : Dot} (hs : l.Pairwise leC) (hd : l[k]? = some d) : setF (l.take (k + 1)) = pushM (setF (l.take k)) d := by
 have e : l.take (k + 1) = l.take k ++ [d] := by rw [List.take_add_one, hd]; rfl
 rw [e, setF_snoc]
 refine setL_push _ _ (setF_sorted _) fun x hx => ?_
 have hu := (under_setF (l.take k) x).1 ⟨x, hx, rfl, rfl, Int.le_refl _⟩
 obtain ⟨m, hm, h1, h2, h3⟩ := hu
 have hlt : k < l.length := (List.getElem?_eq_some_iff.1 hd).1
 have hdk : l[k] = d := (List.getElem?_eq_some_iff.1 hd).2
 obtain ⟨i, hi, rfl⟩ := List.getElem_of_mem hm
 have hik : i < k := by simp at hi; omega
 have := List.pairwise_iff_getElem.1 hs i k (by omega) hlt hik
 rw [List.getElem_take] at h1 h2 h3
 rw [hdk] at this
 unfold leC ltC at this ⊢
 rw [Dot.eq_iff] at this ⊢
 omega
def growC (C : Ctx) (d : Dot) : Ctx :=
 if d.count ≤ markOf C.marks d.node d.life then C
 else if markOf C.marks d.node d.life + 1 < d.count then ⟨C.marks, C.cloud ++ [d]⟩
 else ⟨setL d false C.marks, C.cloud⟩
theorem markOf_set {m : Dot} : ∀ {l : List Dot} (x y : Int), l.Pairwise ltM → markOf l m.node m.life < m.count → markOf (setL m false l) x y = if m.node = x ∧ m.life = y then m.count else markOf l x y := by
 intro l x y hl hc
 have hs := Wq (m := m) hl
 by_cases h : m.node = x ∧ m.life = y
 · rw [if_pos h]
   obtain ⟨rfl, rfl⟩ := h
   clear hs
   induction l with
   | nil => simp [setL, markOf]
   | cons z r ih =>
     rw [List.pairwise_cons] at hl
     rw [markOf] at hc
     unfold setL
     by_cases hz : z.node = m.node ∧ z.life = m.life
     · rw [if_pos hz] at hc ⊢
       rw [markOf, if_pos hz]; simp only; omega
     · rw [if_neg hz] at hc
       rw [if_neg hz]
       split
       · rw [markOf, if_pos ⟨rfl, rfl⟩]
       · rw [markOf, if_neg hz]
         exact ih hl.2 hc
 · rw [if_neg h]
   clear hs hc
   induction l with
   | nil => simp [setL, markOf, h]
   | cons z r ih =>
     rw [List.pairwise_cons] at hl
     unfold setL
     by_cases hz : z.node = m.node ∧ z.life = m.life
     · rw [if_pos hz]
       have hr : setL m true r = r := Wr fun q hq => by
         have := hl.1 q hq
         unfold ltM at this ⊢
         omega
       have hzx : ¬ (z.node = x ∧ z.life = y) := by omega
       rw [hr]
       simp only [markOf]
       rw [if_neg hzx, if_neg hzx]
     · rw [if_neg hz]
       split
       · rename_i hb
         have hr : setL m true r = r := Wr fun q hq => by
           have := hl.1 q hq
           rw [Bool.not_false, Bool.true_and, Xh] at hb
           unfold ltC at hb
           unfold ltM at this ⊢
           dsimp only at hb
           omega
         rw [hr, markOf, if_neg h]
       · simp only [markOf]
         rw [ih hl.2]
theorem growC_ok {C : Ctx} {d : Dot} (hC : Nf C) (hd : mayD d = true) (hlt : ∀ e ∈ C.cloud, ltC e d) : Nf (growC C d) ∧ (∀ e ∈ (growC C d).cloud, e ∈ C.cloud ∨ e = d) ∧ ∀ x, (growC C d).covers x = true ↔ C.covers x = true ∨ x = d := by
 have hd' := hd
 simp only [mayD, decide_eq_true_eq] at hd'
 unfold growC
 by_cases h1 : d.count ≤ markOf C.marks d.node d.life
 · rw [if_pos h1]
   refine ⟨hC, fun e he => .inl he, fun x => ⟨.inl, fun h => ?_⟩⟩
   rcases h with h | rfl
   · exact h
   · rw [Xw]; exact ⟨by omega, .inl h1⟩
 rw [if_neg h1]
 by_cases h2 : markOf C.marks d.node d.life + 1 < d.count
 · rw [if_pos h2]
   refine ⟨⟨hC.marks, ?_, hC.mayM, ?_, ?_⟩, ?_, fun x => ?_⟩
   · rw [List.pairwise_append]
     exact ⟨hC.cloud, List.pairwise_singleton _ _, fun a ha b hb => by simp at hb; subst hb; exact hlt a ha⟩
   · intro x hx
     simp only [List.mem_append, List.mem_singleton] at hx
     rcases hx with hx | rfl
     · exact hC.mayC x hx
     · exact hd
   · intro x hx
     simp only [List.mem_append, List.mem_singleton] at hx
     rcases hx with hx | rfl
     · exact hC.gap x hx
     · exact h2
   · intro e he
     simpa using he
   · rw [Xw, Xw]
     simp only [List.mem_append, List.mem_singleton]
     constructor
     · rintro ⟨h3, h4 | h4 | h4⟩
       · exact .inl ⟨h3, .inl h4⟩
       · exact .inl ⟨h3, .inr h4⟩
       · exact .inr h4
     · rintro (⟨h3, h4 | h4⟩ | rfl)
       · exact ⟨h3, .inl h4⟩
       · exact ⟨h3, .inr (.inl h4)⟩
       · exact ⟨by omega, .inr (.inr rfl)⟩
 · rw [if_neg h2]
   have hm := fun x y => markOf_set (m := d) (l := C.marks) x y hC.marks (by omega)
   refine ⟨⟨Wq hC.marks, hC.cloud, fun x hx => ?_, hC.mayC, fun x hx => ?_⟩, fun e he => .inl he, fun x => ?_⟩
   · exact setL_may hd hC.mayM x hx
   · simp only at hx ⊢
     rw [hm]
     have hg := hC.gap x hx
     have ho := hlt x hx
     split
     · rename_i h3
       obtain ⟨h3, h4⟩ := h3
       rw [← h3, ← h4] at hg
       unfold ltC at ho
       omega
     · exact hg
   · rw [Xw, Xw]
     simp only
     rw [hm]
     constructor
     · rintro ⟨h3, h4 | h4⟩
       · split at h4
         · rename_i h5
           by_cases h6 : x.count = d.count
           · right; rw [Dot.eq_iff]; omega
           · left; refine ⟨h3, .inl ?_⟩; rw [← h5.1, ← h5.2]; omega
         · exact .inl ⟨h3, .inl h4⟩
       · exact .inl ⟨h3, .inr h4⟩
     · rintro (⟨h3, h4 | h4⟩ | rfl)
       · refine ⟨h3, .inl ?_⟩
         split
         · rename_i h5
           rw [← h5.1, ← h5.2] at h4; omega
         · exact h4
       · exact ⟨h3, .inr h4⟩
       · exact ⟨by omega, .inl (by rw [if_pos ⟨rfl, rfl⟩]; omega)⟩
theorem growF_ok : ∀ (b : List Dot) (C : Ctx), Nf C → (∀ d ∈ b, mayD d = true) → b.Pairwise ltC → (∀ e ∈ C.cloud, ∀ d ∈ b, ltC e d) → Nf (b.foldl growC C) ∧ ∀ x, (b.foldl growC C).covers x = true ↔ C.covers x = true ∨ x ∈ b
 | [], C, hC, _, _, _ => ⟨hC, fun x => by simp⟩
 | d :: r, C, hC, hm, hp, hlt => by
   rw [List.pairwise_cons] at hp
   obtain ⟨h1, h2, h3⟩ := growC_ok hC (hm d (by simp)) (fun e he => hlt e he d (by simp))
   obtain ⟨h4, h5⟩ := growF_ok r (growC C d) h1 (fun x hx => hm x (by simp [hx])) hp.2 (fun e he y hy => by
     rcases h2 e he with he | rfl
     · exact hlt e he y (by simp [hy])
     · exact hp.1 y hy)
   refine ⟨h4, fun x => ?_⟩
   rw [List.foldl_cons, h5, h3, List.mem_cons]
   constructor
   · rintro ((h | h) | h)
     · exact .inl h
     · exact .inr (.inl h)
     · exact .inr (.inr h)
   · rintro (h | h | h)
     · exact .inl (.inl h)
     · exact .inl (.inr h)
     · exact .inr h
theorem compact_lt : ∀ (l : List Dot), l.Pairwise leC → (compactL l).Pairwise ltC
 | [], _ => by simp [compactL]
 | [x], _ => by simp [compactL]
 | x :: y :: r, h => by
   rw [List.pairwise_cons] at h
   have ih := compact_lt (y :: r) h.2
   simp only [compactL]
   split
   · exact ih
   · rename_i hne
     rw [List.pairwise_cons]
     refine ⟨fun z hz => ?_, ih⟩
     rw [compact_mem] at hz
     have h1 := h.1 y (by simp)
     rcases List.mem_cons.1 hz with rfl | hz
     · rcases h1 with h1 | h1
       · exact h1
       · exact absurd h1 hne
     · have h2 := (List.pairwise_cons.1 h.2).1 z hz
       have h1 : ltC x y := by
         rcases h1 with h1 | h1
         · exact h1
         · exact absurd h1 hne
       rcases h2 with h2 | rfl
       · exact ltC_trans h1 h2
       · exact h1
theorem normal_grown {l d l' d' : List Dot} (hl : ∀ x ∈ l, mayD x = true) (hd : ∀ x ∈ d, mayD x = true) (hpl : l'.Perm l) (hpd : d'.Perm d) (hsd : d'.Pairwise leC) :
   (compactL d').foldl growC ⟨setF l', []⟩ = settledL ((insF d).length + 1) (setF l) (insF d) := by
 have hl' : ∀ x ∈ l', mayD x = true := fun x hx => hl x (hpl.mem_iff.1 hx)
 have hd' : ∀ x ∈ compactL d', mayD x = true := fun x hx => hd x (hpd.mem_iff.1 ((compact_mem d').1 hx))
 have h0 : Nf ⟨setF l', []⟩ := ⟨setF_sorted l', List.Pairwise.nil, setF_may hl', (fun x hx => by cases hx), (fun x hx => by cases hx)⟩
 obtain ⟨h1, h2⟩ := growF_ok (compactL d') _ h0 hd' (compact_lt d' hsd) (fun e he => by cases he)
 have h3 : Nf (settledL ((insF d).length + 1) (setF l) (insF d)) := settledL_nf _ _ _ (by omega) (setF_sorted l) (insF_sorted d) (setF_may hl) (insF_may hd)
 refine nf_uniq h1 h3 fun x => ?_
 rw [h2, covers_den h3, den_normal hl hd, covers_den h0, compact_mem, hpd.mem_iff]
 unfold den
 rw [under_setF]
 have hu : under l' x ↔ under l x := ⟨fun ⟨m, h, k⟩ => ⟨m, hpl.mem_iff.1 h, k⟩, fun ⟨m, h, k⟩ => ⟨m, hpl.mem_iff.2 h, k⟩⟩
 rw [hu]
 constructor
 · rintro (⟨h4, h5 | h5⟩ | h5)
   · exact ⟨h4, .inl h5⟩
   · cases h5
   · have := hd x h5
     simp only [mayD, decide_eq_true_eq] at this
     exact ⟨by omega, .inr h5⟩
 · rintro ⟨h4, h5 | h5⟩
   · exact .inl ⟨h4, .inl h5⟩
   · exact .inr h5
end Go.Fw
namespace Go.Fw
open Go.RowKit
theorem can_nf {C : Ctx} (h : canL C = true) : Nf C := ((canL_iff C).1 h).2
theorem can_len {C : Ctx} (h : canL C = true) : C.marks.length ≤ 64 ∧ C.cloud.length ≤ 64 := ((canL_iff C).1 h).1
section
variable {A B C : Ctx} (hA : Nf A) (hB : Nf B)
include hA hB
end
end Go.Fw
namespace Go.Fw
open Go.RowKit
def charB (c : UInt8) : Bool := (decide (97 ≤ c.toNat) && decide (c.toNat ≤ 122)) || (decide (65 ≤ c.toNat) && decide (c.toNat ≤ 90)) || (decide (48 ≤ c.toNat) && decide (c.toNat ≤ 57)) || decide (c.toNat = 45) || decide (c.toNat = 95) || decide (c.toNat = 46)
def nameB (s : List UInt8) : Bool := decide (s ≠ []) && decide (s.length ≤ 32) && s.all charB
def priceB (p : UInt64) : Bool := decide (p.toNat ≤ 9218868437227405312) || decide (p.toNat = 9223372036854775808)
structure Ent where
 item : List UInt8
 dot : Dot
 qty : Int
 price : UInt64
deriving DecidableEq
abbrev Ent.enc (e : Ent) : List Value := [.string (bs e.item), .int .i64 e.dot.node, .int .i64 e.dot.life, .int .i64 e.dot.count, .int .i64 e.qty, .int .u64 (e.price.toNat : Int)]
theorem Ent.enc_len (e : Ent) : (Ent.enc e).length = 6 := rfl
theorem Ent.enc_one (e : Ent) : ∀ u ∈ Ent.enc e, u.oneCell' = true := fun u hu => by simp [Ent.enc] at hu; rcases hu with rfl | rfl | rfl | rfl | rfl | rfl <;> rfl
structure Cart where
 ents : List Ent
 ctx : Ctx
deriving DecidableEq
abbrev Cart.zero : Cart := ⟨[], ⟨[], []⟩⟩
structure Line where
 item : List UInt8
 qty : Int
 price : UInt64
deriving DecidableEq
abbrev Line.enc (e : Line) : List Value := [.string (bs e.item), .int .i64 e.qty, .int .u64 (e.price.toNat : Int)]
theorem Line.enc_len (e : Line) : (Line.enc e).length = 3 := rfl
theorem Line.enc_one (e : Line) : ∀ u ∈ Line.enc e, u.oneCell' = true := fun u hu => by simp [Line.enc] at hu; rcases hu with rfl | rfl | rfl <;> rfl
def ltE (a b : Ent) : Prop := Op.bytesLess a.item b.item = true ∨ (a.item = b.item ∧ ltC a.dot b.dot)
instance (a b : Ent) : Decidable (ltE a b) := decidable_of_iff (Op.bytesLess a.item b.item = true ∨ (a.item = b.item ∧ belowD a.dot b.dot = true)) (by rw [Xh]; rfl)
theorem ltC_irr (a : Dot) : ¬ ltC a a := by unfold ltC; omega
theorem ltC_total {a b : Dot} (h : a ≠ b) : ltC a b ∨ ltC b a := by
 have : ¬ (a.node = b.node ∧ a.life = b.life ∧ a.count = b.count) := fun e => h (by cases a; cases b; simp_all)
 unfold ltC
 omega
theorem ltE_irr (a : Ent) : ¬ ltE a a := by
 rintro (h | ⟨_, h⟩)
 · rw [Wa] at h; cases h
 · exact ltC_irr _ h
theorem ltE_trans {a b c : Ent} (h : ltE a b) (h' : ltE b c) : ltE a c := by
 rcases h with h | ⟨e, h⟩
 · rcases h' with h' | ⟨e', h'⟩
   · exact .inl (less_trans h h')
   · exact .inl (e' ▸ h)
 · rcases h' with h' | ⟨e', h'⟩
   · exact .inl (e ▸ h')
   · exact .inr ⟨e.trans e', ltC_trans h h'⟩
theorem ltE_asymm {a b : Ent} (h : ltE a b) : ¬ ltE b a := fun h' => ltE_irr _ (ltE_trans h h')
theorem ltE_total {a b : Ent} (h : a.dot ≠ b.dot) : ltE a b ∨ ltE b a := by
 by_cases e : a.item = b.item
 · rcases ltC_total h with h | h
   · exact .inl (.inr ⟨e, h⟩)
   · exact .inr (.inr ⟨e.symm, h⟩)
 · rcases Wp e with h | h
   · exact .inl (.inl h)
   · exact .inr (.inl h)
theorem sorted_uniq {l r : List Ent} (h : l.Pairwise ltE) (h' : r.Pairwise ltE) (hm : ∀ x, x ∈ l ↔ x ∈ r) : l = r := Vd ltE_irr (fun _ _ => ltE_asymm) h h' hm
def ordE (a b : Ent) : Int := if Op.bytesLess a.item b.item then -1 else if a.item = b.item then orderD a.dot b.dot else 1
theorem ordE_iff (a b : Ent) : ordE a b < 0 ↔ ltE a b := by
 unfold ordE ltE
 by_cases h : Op.bytesLess a.item b.item = true
 · simp [h]
 · by_cases e : a.item = b.item
   · rw [if_neg h, if_pos e, orderC_iff]; simp [h, e, Wa]
   · rw [if_neg h, if_neg e]; simp [h, e]
def itemsFrom : Option (List UInt8) → List Ent → Nat
 | _, [] => 0
 | p, e :: r => (if p = some e.item then 0 else 1) + itemsFrom (some e.item) r
def itemsN (l : List Ent) : Nat := itemsFrom none l
theorem items_snoc (e : Ent) : ∀ (l : List Ent) (p : Option (List UInt8)), itemsFrom p (l ++ [e]) = itemsFrom p l + if ((l.getLast?.map (·.item)) <|> p) = some e.item then 0 else 1
 | [], p => by simp [itemsFrom]
 | x :: r, p => by
   rw [List.cons_append, itemsFrom, itemsFrom, items_snoc e r, Nat.add_assoc]
   congr 3
   cases r with
   | nil => simp
   | cons y t => simp [List.getLast?_cons_cons]; cases h : (y :: t).getLast? with
     | none => simp at h
     | some z => simp
theorem itemsFrom_le : ∀ (l : List Ent) (p : Option (List UInt8)), itemsFrom p l ≤ l.length
 | [], _ => Nat.le_refl _
 | x :: r, p => by rw [itemsFrom, List.length_cons]; have := itemsFrom_le r (some x.item); split <;> omega
def runOf (s : List UInt8) (l : List Ent) : List Ent := l.takeWhile fun e => decide (e.item = s)
theorem itemsFrom_run (s : List UInt8) : ∀ (l : List Ent), itemsFrom (some s) l = itemsFrom none (l.drop (runOf s l).length)
 | [] => rfl
 | x :: r => by
   by_cases h : x.item = s
   · rw [itemsFrom, if_pos (by rw [h]), runOf, List.takeWhile_cons, if_pos (by simpa using h), List.length_cons, List.drop_succ_cons, h, Nat.zero_add]
     exact itemsFrom_run s r
   · rw [runOf, List.takeWhile_cons, if_neg (by simpa using h), List.length_nil, List.drop_zero, itemsFrom, itemsFrom, if_neg (fun e => h (Option.some.inj e).symm)]
     rfl
def runsF : Nat → List Ent → List (List Ent)
 | 0, _ => []
 | _, [] => []
 | f + 1, e :: r => (e :: runOf e.item r) :: runsF f (r.drop (runOf e.item r).length)
def runsL (l : List Ent) : List (List Ent) := runsF l.length l
theorem runOf_le (s : List UInt8) (l : List Ent) : (runOf s l).length ≤ l.length := (List.takeWhile_sublist _).length_le
theorem runsF_more : ∀ (f : Nat) (l : List Ent), l.length ≤ f → runsF f l = runsF l.length l
 | 0, l, h => by cases l with
   | nil => rfl
   | cons x r => simp at h
 | f + 1, [], _ => rfl
 | f + 1, x :: r, h => by
   have h1 : (r.drop (runOf x.item r).length).length ≤ f := by simp at h ⊢; omega
   have h2 : (r.drop (runOf x.item r).length).length ≤ r.length := by simp
   rw [runsF, List.length_cons, runsF, runsF_more f _ h1, runsF_more r.length _ h2]
theorem runs_nil : runsL [] = [] := rfl
theorem runs_cons (e : Ent) (r : List Ent) : runsL (e :: r) = (e :: runOf e.item r) :: runsL (r.drop (runOf e.item r).length) := by
 have h2 : (r.drop (runOf e.item r).length).length ≤ r.length := by simp
 rw [runsL, List.length_cons, runsF, runsF_more r.length _ h2]
 rfl
theorem items_runs : ∀ (n : Nat) (l : List Ent), l.length ≤ n → itemsN l = (runsL l).length
 | _, [], _ => rfl
 | 0, _ :: _, h => by simp at h
 | n + 1, e :: r, h => by
   have h1 : (r.drop (runOf e.item r).length).length ≤ n := by simp at h ⊢; omega
   rw [runs_cons, List.length_cons, ← items_runs n _ h1, itemsN, itemsN, itemsFrom, itemsFrom_run, if_neg (by simp)]
   omega
def backE (p : Option Ent) (e : Ent) : Bool := match p with
 | none => false
 | some x => decide (¬ ltE x e)
def entE (C : Ctx) (pre : List Ent) (e : Ent) : Int :=
 if nameB e.item = false then 6 else if e.qty < 1 ∨ 1000000 < e.qty then 52 else if priceB e.price = false then 53
 else if C.covers e.dot = false ∨ backE pre.getLast? e = true then 50 else if e.dot ∈ pre.map (·.dot) then 50 else 0
def entsE (C : Ctx) : List Ent → List Ent → Int
 | _, [] => 0
 | pre, e :: r => if entE C pre e = 0 then entsE C (pre ++ [e]) r else entE C pre e
def canE (c : Cart) : Int := if canL c.ctx = false then 30 else if 64 < c.ents.length then 51 else if entsE c.ctx [] c.ents = 0 then (if 32 < itemsN c.ents then 51 else 0) else entsE c.ctx [] c.ents
structure EntOk (C : Ctx) (e : Ent) : Prop where
 name : nameB e.item = true
 qty : 1 ≤ e.qty ∧ e.qty ≤ 1000000
 price : priceB e.price = true
 cov : C.covers e.dot = true
structure CartOk (c : Cart) : Prop where
 ctx : canL c.ctx = true
 len : c.ents.length ≤ 64
 each : ∀ e ∈ c.ents, EntOk c.ctx e
 order : c.ents.Pairwise ltE
 dots : (c.ents.map (·.dot)).Nodup
 items : itemsN c.ents ≤ 32
theorem entE_ok {C : Ctx} {pre : List Ent} {e : Ent} : entE C pre e = 0 ↔ EntOk C e ∧ (∀ p, pre.getLast? = some p → ltE p e) ∧ e.dot ∉ pre.map (·.dot) := by
 unfold entE
 constructor
 · intro h
   split at h
   · omega
   rename_i h1
   split at h
   · omega
   rename_i h2
   split at h
   · omega
   rename_i h3
   split at h
   · omega
   rename_i h4
   split at h
   · omega
   rename_i h5
   rw [not_or] at h4
   refine ⟨⟨by simpa using h1, by omega, by simpa using h3, by simpa using h4.1⟩, fun p hp => ?_, h5⟩
   have := h4.2
   rw [hp] at this
   simpa [backE] using this
 · rintro ⟨⟨h1, h2, h3, h4⟩, h5, h6⟩
   rw [if_neg (by simp [h1]), if_neg (by omega), if_neg (by simp [h3]), if_neg, if_neg h6]
   rintro (h | h)
   · rw [h4] at h; cases h
   · cases e' : pre.getLast? with
     | none => rw [e'] at h; simp [backE] at h
     | some p => rw [e'] at h; simp [backE, h5 p e'] at h
theorem entsE_ok (C : Ctx) : ∀ (l pre : List Ent), pre.Pairwise ltE → (entsE C pre l = 0 ↔ (∀ e ∈ l, EntOk C e) ∧ (pre ++ l).Pairwise ltE ∧ (l.map (·.dot)).Nodup ∧ ∀ e ∈ l, e.dot ∉ pre.map (·.dot))
 | [], pre, hp => by simp [entsE, hp]
 | e :: r, pre, hp => by
   rw [entsE]
   have key : entE C pre e = 0 → (pre ++ [e]).Pairwise ltE := fun h => by
     obtain ⟨_, h2, _⟩ := entE_ok.1 h
     rw [List.pairwise_append]
     refine ⟨hp, List.pairwise_singleton _ _, fun x hx y hy => ?_⟩
     simp at hy
     subst hy
     cases hl : pre.getLast? with
     | none => rw [List.getLast?_eq_none_iff] at hl; subst hl; simp at hx
     | some p =>
       have hlt := h2 p hl
       obtain ⟨q, rfl⟩ := List.getLast?_eq_some_iff.1 hl
       rcases List.mem_append.1 hx with hx | hx
       · exact ltE_trans ((List.pairwise_append.1 hp).2.2 x hx p (by simp)) hlt
       · simp at hx; subst hx; exact hlt
   by_cases h : entE C pre e = 0
   · rw [if_pos h, entsE_ok C r _ (key h)]
     obtain ⟨h1, h2, h3⟩ := entE_ok.1 h
     simp only [List.append_assoc, List.singleton_append, List.mem_cons, List.map_cons, List.nodup_cons, List.map_append, List.map_nil, List.mem_append, List.not_mem_nil, or_false]
     constructor
     · rintro ⟨a1, a2, a3, a4⟩
       refine ⟨fun x hx => hx.elim (fun e => e ▸ h1) (a1 x), a2, ⟨fun hm => ?_, a3⟩, fun x hx hm => hx.elim (fun e => h3 (e ▸ hm)) fun hx => a4 x hx (.inl hm)⟩
       obtain ⟨y, hy, hye⟩ := List.mem_map.1 hm
       exact a4 y hy (.inr hye)
     · rintro ⟨a1, a2, ⟨a3, a3'⟩, a4⟩
       refine ⟨fun x hx => a1 x (.inr hx), a2, a3', fun x hx hm => ?_⟩
       rcases hm with hm | hm
       · exact a4 x (.inr hx) hm
       · exact a3 (List.mem_map.2 ⟨x, hx, hm⟩)
   · rw [if_neg h]
     constructor
     · intro h0; exact absurd h0 h
     · rintro ⟨a1, a2, a3, a4⟩
       refine absurd (entE_ok.2 ⟨a1 e (by simp), fun p hpl => ?_, a4 e (by simp)⟩) h
       obtain ⟨q, rfl⟩ := List.getLast?_eq_some_iff.1 hpl
       exact (List.pairwise_append.1 a2).2.2 p (by simp) e (by simp)
theorem canE_ok (c : Cart) : canE c = 0 ↔ CartOk c := by
 unfold canE
 have h0 := entsE_ok c.ctx c.ents [] List.Pairwise.nil
 rw [List.nil_append] at h0
 constructor
 · intro h
   split at h
   · omega
   rename_i h1
   split at h
   · omega
   rename_i h2
   split at h
   · rename_i h3
     split at h
     · omega
     rename_i h4
     obtain ⟨a1, a2, a3, _⟩ := h0.1 h3
     exact ⟨by simpa using h1, by omega, a1, a2, a3, by omega⟩
   · rename_i h3; exact absurd h h3
 · rintro ⟨h1, h2, h3, h4, h5, h6⟩
   rw [if_neg (by simp [h1]), if_neg (by omega), if_pos (h0.2 ⟨h3, h4, h5, by simp⟩), if_neg (by omega)]
structure Upd where
 key : List UInt8
 dot : Dot
 item : List UInt8
 qty : Int
 price : UInt64
 seen : Cart
deriving DecidableEq
def mayE (u : Upd) : Int := if nameB u.key = false ∨ nameB u.item = false then 6 else if u.qty < 0 ∨ 1000000 < u.qty then 52 else if priceB u.price = false ∨ (u.qty = 0 ∧ u.price.toNat ≠ 0) then 53
 else if canE u.seen = 0 then (if mayD u.dot = false ∨ u.seen.ctx.covers u.dot = true then 1 else 0) else canE u.seen
def insE (e : Ent) : List Ent → List Ent
 | [] => [e]
 | x :: r => if ltE e x then e :: x :: r else x :: insE e r
abbrev Upd.ent (u : Upd) : Ent := ⟨u.item, u.dot, u.qty, u.price⟩
def clashE (a b : Cart) : Prop := ∃ x ∈ a.ents, ∃ y ∈ b.ents, x.dot = y.dot ∧ x ≠ y
instance (a b : Cart) : Decidable (clashE a b) := by unfold clashE; infer_instance
end Go.Fw
namespace Go.Fw
open Go.RowKit
theorem insE_mem {e x : Ent} : ∀ {l : List Ent}, x ∈ insE e l ↔ x = e ∨ x ∈ l
 | [] => by simp [insE]
 | y :: r => by
   unfold insE
   split
   · simp
   · rw [List.mem_cons, insE_mem, List.mem_cons]
     constructor
     · rintro (h | h | h) <;> simp [h]
     · rintro (h | h | h) <;> simp [h]
theorem insE_len (e : Ent) : ∀ (l : List Ent), (insE e l).length = l.length + 1
 | [] => rfl
 | y :: r => by
   unfold insE
   split
   · rfl
   · rw [List.length_cons, insE_len e r, List.length_cons]
theorem insE_sorted {e : Ent} : ∀ {l : List Ent}, l.Pairwise ltE → (∀ x ∈ l, x.dot ≠ e.dot) → (insE e l).Pairwise ltE
 | [], _, _ => List.pairwise_singleton _ _
 | y :: r, h, hd => by
   obtain ⟨h1, h2⟩ := List.pairwise_cons.1 h
   unfold insE
   split
   · rename_i hlt
     refine List.pairwise_cons.2 ⟨fun z hz => ?_, h⟩
     rcases List.mem_cons.1 hz with rfl | hz
     · exact hlt
     · exact ltE_trans hlt (h1 z hz)
   · rename_i hlt
     refine List.pairwise_cons.2 ⟨fun z hz => ?_, insE_sorted h2 fun x hx => hd x (by simp [hx])⟩
     rcases insE_mem.1 hz with rfl | hz
     · exact (ltE_total (hd y (by simp))).resolve_right hlt
     · exact h1 z hz
section
variable {a b c : Cart} (ha : CartOk a) (hb : CartOk b)
include ha hb
end
structure UpdOk (u : Upd) : Prop where
 key : nameB u.key = true
 item : nameB u.item = true
 qty : 0 ≤ u.qty ∧ u.qty ≤ 1000000
 price : priceB u.price = true
 seen : CartOk u.seen
 dot : mayD u.dot = true
 new : u.seen.ctx.covers u.dot = false
theorem mayE_ok {u : Upd} (h : mayE u = 0) : UpdOk u := by
 unfold mayE at h
 split at h
 · omega
 rename_i h1
 split at h
 · omega
 rename_i h2
 split at h
 · omega
 rename_i h3
 split at h
 · rename_i h4
   split at h
   · omega
   rename_i h5
   rw [not_or] at h1 h3 h5
   exact ⟨by simpa using h1.1, by simpa using h1.2, by omega, by simpa using h3.1, (canE_ok _).1 h4, by simpa using h5.1, by simpa using h5.2⟩
 · rename_i h4
   exact absurd h h4
end Go.Fw
namespace Go.Fw
open Go.RowKit
def valP (w : Nat) : Nat := if w < 4503599627370496 then w else (4503599627370496 + w % 4503599627370496) * 2 ^ (w / 4503599627370496 - 1)
theorem valP_lt {a b : Nat} (h : a < b) : valP a < valP b := by
 unfold valP
 have hpos : ∀ k : Nat, 1 ≤ 2 ^ k := fun k => Nat.one_le_two_pow
 by_cases h1 : b < 4503599627370496
 · rw [if_pos h1, if_pos (by omega)]; exact h
 rw [if_neg h1]
 have hb1 : 1 ≤ b / 4503599627370496 := by omega
 by_cases h2 : a < 4503599627370496
 · rw [if_pos h2]
   have := hpos (b / 4503599627370496 - 1)
   have h3 : 4503599627370496 + b % 4503599627370496 ≤ (4503599627370496 + b % 4503599627370496) * 2 ^ (b / 4503599627370496 - 1) := Nat.le_mul_of_pos_right _ this
   omega
 rw [if_neg h2]
 have hle : a / 4503599627370496 ≤ b / 4503599627370496 := Nat.div_le_div_right (by omega)
 rcases Nat.lt_or_ge (a / 4503599627370496) (b / 4503599627370496) with hlt | hge
 · have e : b / 4503599627370496 - 1 = (a / 4503599627370496 - 1) + 1 + (b / 4503599627370496 - a / 4503599627370496 - 1) := by omega
   have hm : a % 4503599627370496 < 4503599627370496 := Nat.mod_lt _ (by omega)
   calc (4503599627370496 + a % 4503599627370496) * 2 ^ (a / 4503599627370496 - 1)
       < (4503599627370496 * 2) * 2 ^ (a / 4503599627370496 - 1) := Nat.mul_lt_mul_of_pos_right (by omega) (hpos _)
     _ = 4503599627370496 * 2 ^ (a / 4503599627370496 - 1 + 1) := by rw [Nat.pow_succ, Nat.mul_assoc, Nat.mul_comm 2]
     _ ≤ 4503599627370496 * 2 ^ (b / 4503599627370496 - 1) := Nat.mul_le_mul_left _ (Nat.pow_le_pow_right (by omega) (by omega))
     _ ≤ (4503599627370496 + b % 4503599627370496) * 2 ^ (b / 4503599627370496 - 1) := Nat.mul_le_mul_right _ (by omega)
 · have e : a / 4503599627370496 = b / 4503599627370496 := by omega
   rw [e]
   refine Nat.mul_lt_mul_of_pos_right ?_ (hpos _)
   have := Nat.div_add_mod a 4503599627370496
   have := Nat.div_add_mod b 4503599627370496
   rw [e] at *
   omega
theorem valP_cmp (a b : Nat) : compare (valP a : Int) (valP b : Int) = compare (a : Int) (b : Int) := by
 rcases Nat.lt_trichotomy a b with h | h | h
 · have := valP_lt h
   rw [Int.compare_eq_lt.2 (by omega), Int.compare_eq_lt.2 (by omega)]
 · subst h
   rw [Int.compare_eq_eq.2 rfl, Int.compare_eq_eq.2 rfl]
 · have := valP_lt h
   rw [Int.compare_eq_gt.2 (by omega), Int.compare_eq_gt.2 (by omega)]
theorem read_pos {w : Nat} (h : w < 9218868437227405312) : Ieee.Format.read Ieee.double w = .number false (if w < 4503599627370496 then w else 4503599627370496 + w % 4503599627370496) (-1074 + (w / 4503599627370496 - 1 : Nat)) := by
 have h1 : w / 9223372036854775808 = 0 := Nat.div_eq_of_lt (by omega)
 have h2 : w % 9223372036854775808 = w := Nat.mod_eq_of_lt (by omega)
 have e1 : Ieee.Format.signWeight Ieee.double = 9223372036854775808 := by decide
 have e2 : Ieee.Format.binade Ieee.double = 4503599627370496 := by decide
 have e3 : Ieee.Format.infRung Ieee.double = 9218868437227405312 := by decide
 have e4 : Ieee.Format.leastPlace Ieee.double = -1074 := by decide
 unfold Ieee.Format.read
 simp only [e1, e2, e3, e4, h1, h2]
 by_cases h3 : w < 4503599627370496
 · rw [if_pos h3, if_pos h3, Nat.div_eq_of_lt h3]; rfl
 · rw [if_neg h3, if_neg h3, if_pos h]; rfl
theorem read_inf : Ieee.Format.read Ieee.double 9218868437227405312 = .infinity false := by decide
theorem read_nan {w : Nat} (h : 9218868437227405312 < w) (h2 : w < 9223372036854775808) : ∃ s f, Ieee.Format.read Ieee.double w = .nan s f := by
 have h1 : w / 9223372036854775808 = 0 := Nat.div_eq_of_lt (by omega)
 have h2 : w % 9223372036854775808 = w := Nat.mod_eq_of_lt (by omega)
 have e1 : Ieee.Format.signWeight Ieee.double = 9223372036854775808 := by decide
 have e2 : Ieee.Format.binade Ieee.double = 4503599627370496 := by decide
 have e3 : Ieee.Format.infRung Ieee.double = 9218868437227405312 := by decide
 unfold Ieee.Format.read
 simp only [e1, e2, e3, h1, h2]
 rw [if_neg (by omega), if_neg (by omega), if_neg (by omega)]
 exact ⟨_, _, rfl⟩
theorem order_pos {a b : Nat} (ha : a < 9218868437227405312) (hb : b < 9218868437227405312) : Ieee.Format.order Ieee.double a b = some (compare (a : Int) (b : Int)) := by
 unfold Ieee.Format.order
 rw [read_pos ha, read_pos hb]
 unfold Ieee.Datum.order
 rw [← valP_cmp]
 simp only [Option.some.injEq]
 have key : ∀ w : Nat, ∀ base : Nat, base ≤ w / 4503599627370496 - 1 → ((valP w : Nat) : Int) = Ieee.signed false (if w < 4503599627370496 then w else 4503599627370496 + w % 4503599627370496) ((w / 4503599627370496 - 1) - base) * ((2 ^ base : Nat) : Int) := fun w base hb => by
   unfold Ieee.signed valP
   rw [if_neg (show ¬ (false = true) by decide), Nat.shiftLeft_eq]
   by_cases h : w < 4503599627370496
   · have h0 : w / 4503599627370496 = 0 := Nat.div_eq_of_lt h
     obtain rfl : base = 0 := by omega
     rw [if_pos h, if_pos h, h0]
     simp
   · rw [if_neg h, if_neg h, ← Int.natCast_mul, Nat.mul_assoc, ← Nat.pow_add]
     congr 3
     omega
 have hmin : ∀ x y : Nat, min (-1074 + (x : Int)) (-1074 + (y : Int)) = -1074 + ((min x y : Nat) : Int) := fun x y => by omega
 have hsub : ∀ x y : Nat, ((-1074 + (x : Int)) - (-1074 + (y : Int))).toNat = x - y := fun x y => by omega
 rw [hmin, hsub, hsub, key a (min (a / 4503599627370496 - 1) (b / 4503599627370496 - 1)) (by omega), key b (min (a / 4503599627370496 - 1) (b / 4503599627370496 - 1)) (by omega)]
 have hp : (0 : Int) < ((2 ^ (min (a / 4503599627370496 - 1) (b / 4503599627370496 - 1)) : Nat) : Int) := by
   have : 0 < 2 ^ (min (a / 4503599627370496 - 1) (b / 4503599627370496 - 1)) := Nat.two_pow_pos _
   omega
 generalize ((2 ^ (min (a / 4503599627370496 - 1) (b / 4503599627370496 - 1)) : Nat) : Int) = q at hp
 generalize Ieee.signed false _ (a / 4503599627370496 - 1 - _) = x
 generalize Ieee.signed false _ (b / 4503599627370496 - 1 - _) = y
 rcases Int.lt_trichotomy x y with h | h | h
 · rw [Int.compare_eq_lt.2 h, Int.compare_eq_lt.2 (Int.mul_lt_mul_of_pos_right h hp)]
 · subst h
   rw [Int.compare_eq_eq.2 rfl, Int.compare_eq_eq.2 rfl]
 · rw [Int.compare_eq_gt.2 h, Int.compare_eq_gt.2 (Int.mul_lt_mul_of_pos_right h hp)]
theorem order_inf {a : Nat} (ha : a < 9218868437227405312) : Ieee.Format.order Ieee.double a 9218868437227405312 = some .lt ∧ Ieee.Format.order Ieee.double 9218868437227405312 a = some .gt := by
 unfold Ieee.Format.order
 rw [read_pos ha, read_inf]
 exact ⟨rfl, rfl⟩
theorem order_infs : Ieee.Format.order Ieee.double 9218868437227405312 9218868437227405312 = some .eq := by decide
theorem order_any {a b : Nat} (ha : a ≤ 9218868437227405312) (hb : b ≤ 9218868437227405312) : Ieee.Format.order Ieee.double a b = some (compare (a : Int) (b : Int)) := by
 rcases Nat.lt_or_eq_of_le ha with ha | rfl
 · rcases Nat.lt_or_eq_of_le hb with hb | rfl
   · exact order_pos ha hb
   · rw [(order_inf ha).1, Int.compare_eq_lt.2 (by omega)]
 · rcases Nat.lt_or_eq_of_le hb with hb | rfl
   · rw [(order_inf hb).2, Int.compare_eq_gt.2 (by omega)]
   · rw [order_infs, Int.compare_eq_eq.2 rfl]
theorem order_nan {a b : Nat} (h : 9218868437227405312 < a) (h2 : a < 9223372036854775808) : Ieee.Format.order Ieee.double a b = none := by
 obtain ⟨s, f, e⟩ := read_nan h h2
 unfold Ieee.Format.order
 rw [e]
 unfold Ieee.Datum.order
 rfl
theorem read_neg {w : Nat} (h : 9223372036854775808 < w) (h2 : w < 18446744073709551616) : (∃ m i, Ieee.Format.read Ieee.double w = .number true (m + 1) i) ∨ Ieee.Format.read Ieee.double w = .infinity true ∨ ∃ s f, Ieee.Format.read Ieee.double w = .nan s f := by
 have h1 : w / 9223372036854775808 = 1 := by omega
 have e1 : Ieee.Format.signWeight Ieee.double = 9223372036854775808 := by decide
 have e2 : Ieee.Format.binade Ieee.double = 4503599627370496 := by decide
 have e3 : Ieee.Format.infRung Ieee.double = 9218868437227405312 := by decide
 have e4 : Ieee.Format.leastPlace Ieee.double = -1074 := by decide
 unfold Ieee.Format.read
 simp only [e1, e2, e3, e4, h1]
 have h3 : w % 9223372036854775808 = w - 9223372036854775808 := by omega
 rw [h3]
 obtain ⟨r, hr⟩ : ∃ r, w - 9223372036854775808 = r + 1 := ⟨w - 9223372036854775808 - 1, by omega⟩
 rw [hr]
 split
 · exact .inl ⟨_, _, rfl⟩
 · split
   · refine .inl ⟨4503599627370495 + (r + 1) % 4503599627370496, -1074 + ((r + 1) / 4503599627370496 - 1 : Nat), ?_⟩
     rw [show 4503599627370495 + (r + 1) % 4503599627370496 + 1 = 4503599627370496 + (r + 1) % 4503599627370496 by omega]
     rfl
   · split
     · exact .inr (.inl rfl)
     · exact .inr (.inr ⟨_, _, rfl⟩)
theorem order_below {w : Nat} (h : 9223372036854775808 < w) (h2 : w < 18446744073709551616) : Ieee.Format.order Ieee.double w 0 = some .lt ∨ Ieee.Format.order Ieee.double w 0 = none := by
 have h0 : Ieee.Format.read Ieee.double 0 = .number false 0 (-1074) := by decide
 unfold Ieee.Format.order
 rw [h0]
 rcases read_neg h h2 with ⟨m, i, e⟩ | e | ⟨s, f, e⟩
 · rw [e]
   left
   unfold Ieee.Datum.order
   simp only [Option.some.injEq]
   refine Int.compare_eq_lt.2 ?_
   unfold Ieee.signed
   have : 0 < (m + 1) <<< (i - min i (-1074)).toNat := by rw [Nat.shiftLeft_eq]; exact Nat.mul_pos (by omega) (Nat.two_pow_pos _)
   generalize (m + 1) <<< (i - min i (-1074)).toNat = q at this
   rw [if_pos rfl, if_neg (show ¬ (false = true) by decide), Nat.zero_shiftLeft]
   omega
 · rw [e]; left; rfl
 · rw [e]; right; rfl
theorem price_ge (p : UInt64) : (Ieee.Format.order Ieee.double p.toNat 0 == some .gt || Ieee.Format.order Ieee.double p.toNat 0 == some .eq) = priceB p := by
 have hp := p.toNat_lt
 unfold priceB
 generalize p.toNat = w at *
 by_cases h1 : w ≤ 9218868437227405312
 · rw [order_any h1 (by omega), decide_eq_true h1, Bool.true_or]
   rcases Nat.eq_zero_or_pos w with h | h
   · subst h; rfl
   · rw [Int.compare_eq_gt.2 (by omega)]; rfl
 · rw [decide_eq_false h1, Bool.false_or]
   by_cases h2 : w = 9223372036854775808
   · subst h2; decide
   · rw [decide_eq_false h2]
     by_cases h3 : w < 9223372036854775808
     · rw [order_nan (by omega) h3]; rfl
     · rcases order_below (w := w) (by omega) (by omega) with e | e <;> rw [e] <;> rfl
theorem runOf_drop (s : List UInt8) (l : List Ent) : runOf s l ++ l.drop (runOf s l).length = l := by
 induction l with
 | nil => rfl
 | cons x r ih =>
   unfold runOf at *
   rw [List.takeWhile_cons]
   split
   · rw [List.cons_append, List.length_cons, List.drop_succ_cons, ih]
   · rfl
end Go.Fw
namespace Go.Proofs.YtakpdbmdfnialaaGreat
open Go.Fw Go.Proofs Go.RowKit Go.Proofs.Tryz
set_option linter.unusedVariables false
set_option linter.unusedSimpArgs false
set_option maxRecDepth 100000
theorem inf9 : InfoT Tryz.prog 9 (Value.string ⟨#[]⟩) 1 16 := by unfold InfoT; kernel_rfl
theorem inf30 : InfoT Tryz.prog 30 (.agg #[Value.int .i64 0, Value.int .i64 0, Value.int .i64 0]) 3 24 := by unfold InfoT; kernel_rfl
theorem eq30 {x0 y0 : Int} {x1 y1 : Int} {x2 y2 : Int} : EqT Tryz.prog 30 [.int .i64 x0, .int .i64 x1, .int .i64 x2] [.int .i64 y0, .int .i64 y1, .int .i64 y2] (decide (x0 = y0 ∧ x1 = y1 ∧ x2 = y2)) := EqT.mk (k := 1) (d := 9998) underlying30 Tryz.stoodInHeld30 Tryz.eqGuardType30 rfl (FEq.int (nm := "Node") (by decide) underlying3 isAgg3 rfl rfl (FEq.int (nm := "Life") (by decide) underlying3 isAgg3 rfl rfl (FEq.int (nm := "Count") (by decide) underlying3 isAgg3 rfl rfl FEq.nil))) (by rw [Bool.eq_iff_iff]; simp [Bool.and_eq_true, decide_eq_true_eq, and_assoc])
theorem bld35 : BuildT Tryz.prog 35 [Value.slice none 0 0, Value.slice none 0 0] [(0, 1), (1, 1)] := ⟨⟨_, zeroValue35, rfl⟩, _, underlying35, fun w => by simp [sizeOf32, sizeOf33]⟩
theorem bld37 : BuildT Tryz.prog 37 [Value.slice none 0 0, Value.slice none 0 0, Value.slice none 0 0] [(0, 1), (1, 2)] := ⟨⟨_, zeroValue37, rfl⟩, _, underlying37, fun w => by simp [sizeOf31, sizeOf35]⟩
theorem inf37 : InfoT Tryz.prog 37 (.agg #[Value.slice none 0 0, Value.slice none 0 0, Value.slice none 0 0]) 3 72 := by unfold InfoT; kernel_rfl
theorem bld66 : BuildT Tryz.prog 66 [Value.int .i64 0, Value.int .i64 0] [(0, 1), (1, 1)] := ⟨⟨_, zeroValue66, rfl⟩, _, underlying66, fun w => by simp [sizeOf3]⟩
theorem eq66 {x0 y0 : Int} {x1 y1 : Int} : EqT Tryz.prog 66 [.int .i64 x0, .int .i64 x1] [.int .i64 y0, .int .i64 y1] (decide (x0 = y0 ∧ x1 = y1)) := EqT.mk (k := 1) (d := 9998) underlying66 Tryz.stoodInHeld66 Tryz.eqGuardType66 rfl (FEq.int (nm := "Node") (by decide) underlying3 isAgg3 rfl rfl (FEq.int (nm := "Life") (by decide) underlying3 isAgg3 rfl rfl FEq.nil)) (by rw [Bool.eq_iff_iff]; simp [Bool.and_eq_true, decide_eq_true_eq, and_assoc])
theorem bld74 : BuildT Tryz.prog 74 [Value.int .i64 0, Value.int .i64 0, Value.int .i64 0] [(0, 1), (1, 1), (2, 1)] := ⟨⟨_, zeroValue74, rfl⟩, _, underlying74, fun w => by simp [sizeOf3]⟩
theorem inf74 : InfoT Tryz.prog 74 (.agg #[Value.int .i64 0, Value.int .i64 0, Value.int .i64 0]) 3 24 := by unfold InfoT; kernel_rfl
theorem eq74 {x0 y0 : Int} {x1 y1 : Int} {x2 y2 : Int} : EqT Tryz.prog 74 [.int .i64 x0, .int .i64 x1, .int .i64 x2] [.int .i64 y0, .int .i64 y1, .int .i64 y2] (decide (x0 = y0 ∧ x1 = y1 ∧ x2 = y2)) := EqT.mk (k := 1) (d := 9998) underlying74 Tryz.stoodInHeld74 Tryz.eqGuardType74 rfl (FEq.int (nm := "Node") (by decide) underlying3 isAgg3 rfl rfl (FEq.int (nm := "Life") (by decide) underlying3 isAgg3 rfl rfl (FEq.int (nm := "Count") (by decide) underlying3 isAgg3 rfl rfl FEq.nil))) (by rw [Bool.eq_iff_iff]; simp [Bool.and_eq_true, decide_eq_true_eq, and_assoc])
theorem bld77 : BuildT Tryz.prog 77 [Value.string ⟨#[]⟩, Value.int .i64 0, Value.int .i64 0, Value.int .i64 0, Value.string ⟨#[]⟩, Value.int .i64 0, Value.int .u64 0, Value.slice none 0 0, Value.slice none 0 0, Value.slice none 0 0] [(0, 1), (1, 3), (4, 1), (5, 1), (6, 1), (7, 3)] := ⟨⟨_, zeroValue77, rfl⟩, _, underlying77, fun w => by simp [sizeOf3, sizeOf37, sizeOf74, sizeOf75, sizeOf9]⟩
theorem inf77 : InfoT Tryz.prog 77 (.agg #[Value.string ⟨#[]⟩, Value.int .i64 0, Value.int .i64 0, Value.int .i64 0, Value.string ⟨#[]⟩, Value.int .i64 0, Value.int .u64 0, Value.slice none 0 0, Value.slice none 0 0, Value.slice none 0 0]) 10 144 := by unfold InfoT; kernel_rfl
theorem bld96 : BuildT Tryz.prog 96 [Value.int .i64 0, Value.int .i64 0, Value.int .i64 0, Value.string ⟨#[]⟩, Value.int .i64 0, Value.int .i64 0, Value.int .i64 0, Value.string ⟨#[]⟩, Value.int .i64 0, Value.int .u64 0, Value.slice none 0 0, Value.slice none 0 0, Value.slice none 0 0, Value.int .i64 0, Value.int .i64 0, Value.string ⟨#[]⟩, Value.slice none 0 0, Value.slice none 0 0, Value.slice none 0 0, Value.slice none 0 0, Value.slice none 0 0, Value.slice none 0 0] [(0, 1), (1, 1), (2, 1), (3, 10), (13, 2), (15, 1), (16, 3), (19, 3)] := ⟨⟨_, zeroValue96, rfl⟩, _, underlying96, fun w => by simp [sizeOf3, sizeOf37, sizeOf66, sizeOf77, sizeOf9]⟩
theorem inf96 : InfoT Tryz.prog 96 (.agg #[Value.int .i64 0, Value.int .i64 0, Value.int .i64 0, Value.string ⟨#[]⟩, Value.int .i64 0, Value.int .i64 0, Value.int .i64 0, Value.string ⟨#[]⟩, Value.int .i64 0, Value.int .u64 0, Value.slice none 0 0, Value.slice none 0 0, Value.slice none 0 0, Value.int .i64 0, Value.int .i64 0, Value.string ⟨#[]⟩, Value.slice none 0 0, Value.slice none 0 0, Value.slice none 0 0, Value.slice none 0 0, Value.slice none 0 0, Value.slice none 0 0]) 22 344 := by unfold InfoT; kernel_rfl
theorem bld100 : BuildT Tryz.prog 100 [Value.string ⟨#[]⟩, Value.int .i64 0, Value.int .i64 0, Value.int .i64 0, Value.int .i64 0, Value.int .u64 0] [(0, 1), (1, 3), (4, 1), (5, 1)] := ⟨⟨_, zeroValue100, rfl⟩, _, underlying100, fun w => by simp [sizeOf3, sizeOf74, sizeOf75, sizeOf9]⟩
theorem inf100 : InfoT Tryz.prog 100 (.agg #[Value.string ⟨#[]⟩, Value.int .i64 0, Value.int .i64 0, Value.int .i64 0, Value.int .i64 0, Value.int .u64 0]) 6 56 := by unfold InfoT; kernel_rfl
theorem eq100 {x0 y0 : ByteArray} {x1 y1 : Int} {x2 y2 : Int} {x3 y3 : Int} {x4 y4 : Int} {x5 y5 : Int} : EqT Tryz.prog 100 [.string x0, .int .i64 x1, .int .i64 x2, .int .i64 x3, .int .i64 x4, .int .u64 x5] [.string y0, .int .i64 y1, .int .i64 y2, .int .i64 y3, .int .i64 y4, .int .u64 y5] (decide (x0 = y0 ∧ x1 = y1 ∧ x2 = y2 ∧ x3 = y3 ∧ x4 = y4 ∧ x5 = y5)) := EqT.mk (k := 2) (d := 9997) underlying100 Tryz.stoodInHeld100 Tryz.eqGuardType100 rfl (FEq.str (nm := "Item") (by decide) underlying9 isAgg9 rfl rfl (FEq.agg (nm := "Dot") (by decide) underlying74 Tryz.stoodInHeld74 isAgg74 sizeOf74 rfl rfl (FEq.int (nm := "Node") (by decide) underlying3 isAgg3 rfl rfl (FEq.int (nm := "Life") (by decide) underlying3 isAgg3 rfl rfl (FEq.int (nm := "Count") (by decide) underlying3 isAgg3 rfl rfl FEq.nil))) (FEq.int (nm := "Qty") (by decide) underlying3 isAgg3 rfl rfl (FEq.int (nm := "Price") (by decide) underlying75 isAgg75 rfl rfl FEq.nil)))) (by rw [Bool.eq_iff_iff]; simp [Bool.and_eq_true, decide_eq_true_eq, and_assoc])
theorem bld173 : BuildT Tryz.prog 173 [Value.string ⟨#[]⟩, Value.int .i64 0, Value.int .i64 0, Value.int .i64 0] [(0, 1), (1, 3)] := ⟨⟨_, zeroValue173, rfl⟩, _, underlying173, fun w => by simp [sizeOf74, sizeOf9]⟩
theorem eq173 {x0 y0 : ByteArray} {x1 y1 : Int} {x2 y2 : Int} {x3 y3 : Int} : EqT Tryz.prog 173 [.string x0, .int .i64 x1, .int .i64 x2, .int .i64 x3] [.string y0, .int .i64 y1, .int .i64 y2, .int .i64 y3] (decide (x0 = y0 ∧ x1 = y1 ∧ x2 = y2 ∧ x3 = y3)) := EqT.mk (k := 2) (d := 9997) underlying173 Tryz.stoodInHeld173 Tryz.eqGuardType173 rfl (FEq.str (nm := "key") (by decide) underlying9 isAgg9 rfl rfl (FEq.agg (nm := "dot") (by decide) underlying74 Tryz.stoodInHeld74 isAgg74 sizeOf74 rfl rfl (FEq.int (nm := "Node") (by decide) underlying3 isAgg3 rfl rfl (FEq.int (nm := "Life") (by decide) underlying3 isAgg3 rfl rfl (FEq.int (nm := "Count") (by decide) underlying3 isAgg3 rfl rfl FEq.nil))) FEq.nil)) (by rw [Bool.eq_iff_iff]; simp [Bool.and_eq_true, decide_eq_true_eq, and_assoc])
end Go.Proofs.YtakpdbmdfnialaaGreat
set_option maxRecDepth 100000
set_option maxHeartbeats 4000000
namespace Go.Proofs.YtakpdbmdfnialaaGreat
open Go.Fw Go.Proofs Go.RowKit Go.Proofs.Tryz
section
variable {n : Nat} {w0 : World} {K : KL} {L : List Chunk} {b : Bool} {dst : Option Tmp} {ty : TypeId} {pos : String} {aft : Array Edge} {gd : Option (Nat × Bool)} {ts : Array TypeId}
theorem y241 {x y : Operand} {l m : List UInt8} (hx : Ev n b K x (.string (bs l))) (hy : Ev n b K y (.string (bs m))) : Yr Tryz.prog ⟨dst, .call ⟨.value (.func 241), #[x, y], ts⟩, ty, pos, aft, gd⟩ n K w0 L b (.int .i64 (cmpB l m)) :=
 ys_extern (F := Extern.BytealgCompare.compare) func241 (by kernel_rfl) (by kernel_rfl) (by kernel_rfl) (by kernel_rfl) (.cons hx (.cons hy .nil)) (fun w => by
   have h := Lib.run_compareString (P := Tryz.prog) (bs l) (bs m) w
   rw [cmpL_eq] at h
   exact h)
end
theorem c231 (w0 : World) (l m : List UInt8) : Calls Tryz.prog 231 #[.string (bs l), .string (bs m)] w0 fun e w' => e = .returned (.int .i64 (cmpB l m)) ∧ Bel w0.heap.size w0 w' := by
 refine enter2 func231 rfl ntmps231 rfl fun a S => sg S (.ac rfl <| .z) fun a w S => sg S (.mv rfl <| .mv rfl <| .yy (y241 (.t rfl) (.t rfl)) rfl <| .as rfl <| .z) fun a w S => wp_ret (Zj S (results1 S results231 (Rv.tmp rfl)) ?_)
 exact ⟨rfl, S.wd.below⟩
theorem c211 (w0 : World) (l m : List UInt8) : Calls Tryz.prog 211 #[.string (bs l), .string (bs m)] w0 fun e w' => e = .returned (.int .i64 (cmpB l m)) ∧ Bel w0.heap.size w0 w' := by
 refine enter2 func211 rfl ntmps211 rfl fun a S => sg S (.ac rfl <| .z) fun a w S => sg S (.mv rfl <| .mv rfl <| .xx (Zh call231 (.cons (.t rfl) (.cons (.t rfl) .nil)) (fun hp w W => c231 _ _ _)) rfl <| .as rfl <| .z) fun a w S => wp_ret (Zj S (results1 S results211 (Rv.tmp rfl)) ?_)
 exact ⟨rfl, S.wd.below⟩
theorem c179 (w0 : World) (a b : Ent) (ha : mayD a.dot = true) (hb : mayD b.dot = true) : Calls Tryz.prog 179 #[.agg (Ent.enc a).toArray, .agg (Ent.enc b).toArray] w0 fun e w' => e = .returned (.int .i64 (ordE a b)) ∧ Bel w0.heap.size w0 w' := by
 obtain ⟨s, ⟨d1, d2, d3⟩, q, p⟩ := a
 obtain ⟨s', ⟨e1, e2, e3⟩, q', p'⟩ := b
 have hl := Wf ha
 have hl' := Wf hb
 dsimp only at hl hl'
 dsimp only [Ent.enc]
 unfold ordE orderD
 dsimp only
 have hc : cmpB s s' = if Op.bytesLess s s' = true then -1 else if s = s' then 0 else 1 := rfl
 have rw_1 : (0 : Int) + 1 = ((1 : Nat) : Int) := rfl
 have rw_2 : ((1 : Nat) : Int) + 1 = ((2 : Nat) : Int) := rfl
 have rw_3 : ((2 : Nat) : Int) + 1 = ((3 : Nat) : Int) := rfl
 generalize rw_c : cmpB s s' = c at *
 by_cases hc0 : c = 0
 rotate_left
 · have e : c = if Op.bytesLess s s' = true then -1 else if s = s' then (if d1 ≠ e1 then d1 - e1 else if d2 ≠ e2 then d2 - e2 else d3 - e3) else 1 := by
     rw [hc] at hc0 ⊢
     by_cases h1 : Op.bytesLess s s' = true
     · rw [if_pos h1, if_pos h1]
     · by_cases h2 : s = s'
       · rw [if_neg h1, if_pos h2] at hc0; exact absurd rfl hc0
       · rw [if_neg h1, if_neg h2, if_neg h1, if_neg h2]
   rw [← e]
   clear e hc
   refine enter2 func179 rfl ntmps179 rfl fun a S => wp_seq_k fun _ hK1 => wp_region_lit (Zk (Ya S (.t rfl) rfl fun g1 a w S => Zk (Ya S (.t rfl) rfl fun g2 a w S => run S (.ac rfl <| .z) fun a w S => Zb (Za (hK1 _ _ (wp_seq_k fun _ hK1 => wp_region_lit (run S (.fa underlying100 sizeOf9 0 rfl rfl rfl <| .ld gt9 1 rfl rfl rfl <| .fa underlying100 sizeOf9 0 rfl rfl rfl <| .ld gt9 0 rfl rfl rfl <| .xx (Zh call211 (.cons (.t rfl) (.cons (.t rfl) .nil)) (fun hp w W => c211 _ _ _)) rfl <| .z) fun a w S => ?_)))))))
   rw [rw_c] at S
   refine run S (.as rfl <| .z) fun a w S => Zb (Za (hK1 _ _ (wp_seq_k fun _ hK1 => wp_seq_k fun _ hK2 => wp_region_lit (run S (.fa underlying100 sizeOf74 1 rfl rfl rfl <| .fa underlying74 sizeOf3 1 rfl rfl rfl <| .ld gt3 1 rfl rfl rfl <| .fa underlying100 sizeOf74 1 rfl rfl rfl <| .fa underlying74 sizeOf3 1 rfl rfl rfl <| .ld gt3 0 rfl rfl rfl <| .yy (Xf (.t rfl) (.t rfl) (fun _ => by unfold I64; omega)) rfl <| .fa underlying100 sizeOf74 1 rfl rfl rfl <| .fa underlying74 sizeOf3 2 rfl rfl rfl <| .ld gt3 1 rfl rfl rfl <| .fa underlying100 sizeOf74 1 rfl rfl rfl <| .fa underlying74 sizeOf3 2 rfl rfl rfl <| .ld gt3 0 rfl rfl rfl <| .yy (Xf (.t rfl) (.t rfl) (fun _ => by unfold I64; omega)) rfl <| .fa underlying100 sizeOf74 1 rfl rfl rfl <| .fa underlying74 sizeOf3 3 rfl rfl rfl <| .ld gt3 1 rfl rfl rfl <| .fa underlying100 sizeOf74 1 rfl rfl rfl <| .fa underlying74 sizeOf3 3 rfl rfl rfl <| .ld gt3 0 rfl rfl rfl <| .yy (Xf (.t rfl) (.t rfl) (fun _ => by unfold I64; omega)) rfl <| .z) fun a w S => Zk (Wn (ps := [(0, Go.Operand.tmp 19), (1, Go.Operand.tmp 26), (2, Go.Operand.tmp 33)]) (us := [_, _, _]) S underlying202 sizeOf3 zeroValue3 rfl rfl (.cons (.t rfl) (.cons (.t rfl) (.cons (.t rfl) .nil))) rfl rfl fun g3 a w S => ?_)))))
   refine run S (.ln underlying202 rfl <| .mc rfl <| .z) fun a w S => Zb (Za (hK2 _ _ (wp_block (Wk 4 (Yy (sg S (.lt (by omega) rfl rfl <| .z) fun a w S => wp_seq_k fun _ hK2 => Zg S (.t rfl) (wp_skip (Za (hK2 _ _ (wp_seq_k fun _ hK2 => wp_block (sg S (.yy (Yf (j := 0) underlying202 sizeOf3 (.t rfl) (.t rfl) (fun _ => by omega)) rfl <| .ld gt3 0 rfl rfl rfl <| .as rfl <| .z) fun a w S => sg S (.mv rfl <| .yy (Ym (by omega) (Yd (.t rfl) Ev.c)) rfl <| .z) fun a w S => Zf S (.t rfl) (wp_skip (Zm (Za (hK2 _ _ (wp_region_lit (run S (.ad (by unfold I64; omega) rfl <| .z) fun a w S => ?_)))))))))))))))))
   rw [rw_1] at S
   refine run S (.mv rfl <| .z) fun a w S => Zb (Za (Yy (sg S (.lt (by omega) rfl rfl <| .z) fun a w S => wp_seq_k fun _ hK2 => Zg S (.t rfl) (wp_skip (Za (hK2 _ _ (wp_seq_k fun _ hK2 => wp_block (sg S (.yy (Yf (j := 1) underlying202 sizeOf3 (.t rfl) (.t rfl) (fun _ => by omega)) rfl <| .ld gt3 0 rfl rfl rfl <| .as rfl <| .z) fun a w S => sg S (.mv rfl <| .yy (Ym (by omega) (Yd (.t rfl) Ev.c)) rfl <| .z) fun a w S => Zf S (.t rfl) (wp_skip (Zm (Za (hK2 _ _ (wp_region_lit (run S (.ad (by unfold I64; omega) rfl <| .z) fun a w S => ?_))))))))))))))
   rw [rw_2] at S
   refine run S (.mv rfl <| .z) fun a w S => Zb (Za (Yy (sg S (.lt (by omega) rfl rfl <| .z) fun a w S => wp_seq_k fun _ hK2 => Zg S (.t rfl) (wp_skip (Za (hK2 _ _ (wp_seq_k fun _ hK2 => wp_block (sg S (.yy (Yf (j := 2) underlying202 sizeOf3 (.t rfl) (.t rfl) (fun _ => by omega)) rfl <| .ld gt3 0 rfl rfl rfl <| .as rfl <| .z) fun a w S => sg S (.mv rfl <| .yy (Ym (by omega) (Yd (.t rfl) Ev.c)) rfl <| .z) fun a w S => Zf S (.t rfl) (wp_skip (Zm (Za (hK2 _ _ (wp_region_lit (run S (.ad (by unfold I64; omega) rfl <| .z) fun a w S => ?_))))))))))))))
   rw [rw_3] at S
   refine run S (.mv rfl <| .z) fun a w S => Zb (Za (Yy (sg S (.ge (by omega) rfl rfl <| .z) fun a w S => wp_seq_k fun _ hK2 => Zf S (.t rfl) (wp_exit (Zi (Zi (Zy (Za (hK1 _ _ (sg S (.mv rfl <| .as rfl <| .z) fun a w S => wp_ret (Zj S (results1 S results179 (Rv.tmp rfl)) ?_)))))))))))
   exact ⟨rfl, S.wd.below⟩
 have hs : ¬ Op.bytesLess s s' = true ∧ s = s' := by
   rw [hc] at hc0
   by_cases h1 : Op.bytesLess s s' = true
   · rw [if_pos h1] at hc0; cases hc0
   · by_cases h2 : s = s'
     · exact ⟨h1, h2⟩
     · rw [if_neg h1, if_neg h2] at hc0; cases hc0
 rw [if_neg hs.1, if_pos hs.2]
 clear hs hc
 subst hc0
 by_cases h1 : d1 = e1
 rotate_left
 · rw [if_pos h1]
   refine enter2 func179 rfl ntmps179 rfl fun a S => wp_seq_k fun _ hK1 => wp_region_lit (Zk (Ya S (.t rfl) rfl fun g1 a w S => Zk (Ya S (.t rfl) rfl fun g2 a w S => run S (.ac rfl <| .z) fun a w S => Zb (Za (hK1 _ _ (wp_seq_k fun _ hK1 => wp_region_lit (run S (.fa underlying100 sizeOf9 0 rfl rfl rfl <| .ld gt9 1 rfl rfl rfl <| .fa underlying100 sizeOf9 0 rfl rfl rfl <| .ld gt9 0 rfl rfl rfl <| .xx (Zh call211 (.cons (.t rfl) (.cons (.t rfl) .nil)) (fun hp w W => c211 _ _ _)) rfl <| .z) fun a w S => ?_)))))))
   rw [rw_c] at S
   refine run S (.as rfl <| .z) fun a w S => Zb (Za (hK1 _ _ (wp_seq_k fun _ hK1 => wp_seq_k fun _ hK2 => wp_region_lit (run S (.fa underlying100 sizeOf74 1 rfl rfl rfl <| .fa underlying74 sizeOf3 1 rfl rfl rfl <| .ld gt3 1 rfl rfl rfl <| .fa underlying100 sizeOf74 1 rfl rfl rfl <| .fa underlying74 sizeOf3 1 rfl rfl rfl <| .ld gt3 0 rfl rfl rfl <| .yy (Xf (.t rfl) (.t rfl) (fun _ => by unfold I64; omega)) rfl <| .fa underlying100 sizeOf74 1 rfl rfl rfl <| .fa underlying74 sizeOf3 2 rfl rfl rfl <| .ld gt3 1 rfl rfl rfl <| .fa underlying100 sizeOf74 1 rfl rfl rfl <| .fa underlying74 sizeOf3 2 rfl rfl rfl <| .ld gt3 0 rfl rfl rfl <| .yy (Xf (.t rfl) (.t rfl) (fun _ => by unfold I64; omega)) rfl <| .fa underlying100 sizeOf74 1 rfl rfl rfl <| .fa underlying74 sizeOf3 3 rfl rfl rfl <| .ld gt3 1 rfl rfl rfl <| .fa underlying100 sizeOf74 1 rfl rfl rfl <| .fa underlying74 sizeOf3 3 rfl rfl rfl <| .ld gt3 0 rfl rfl rfl <| .yy (Xf (.t rfl) (.t rfl) (fun _ => by unfold I64; omega)) rfl <| .z) fun a w S => Zk (Wn (ps := [(0, Go.Operand.tmp 19), (1, Go.Operand.tmp 26), (2, Go.Operand.tmp 33)]) (us := [_, _, _]) S underlying202 sizeOf3 zeroValue3 rfl rfl (.cons (.t rfl) (.cons (.t rfl) (.cons (.t rfl) .nil))) rfl rfl fun g3 a w S => ?_)))))
   refine run S (.ln underlying202 rfl <| .mc rfl <| .z) fun a w S => Zb (Za (hK2 _ _ (wp_block (Wk 4 (Yy (sg S (.lt (by omega) rfl rfl <| .z) fun a w S => wp_seq_k fun _ hK2 => Zg S (.t rfl) (wp_skip (Za (hK2 _ _ (wp_seq_k fun _ hK2 => wp_block (sg S (.yy (Yf (j := 0) underlying202 sizeOf3 (.t rfl) (.t rfl) (fun _ => by omega)) rfl <| .ld gt3 0 rfl rfl rfl <| .as rfl <| .z) fun a w S => sg S (.mv rfl <| .yy (Yu (by omega) (Yd (.t rfl) Ev.c)) rfl <| .z) fun a w S => Zg S (.t rfl) (wp_region_lit (run S (.mv rfl <| .as rfl <| .z) fun a w S => Zb (Zm (Za (hK2 _ _ (wp_region_lit (run S (.ad (by unfold I64; omega) rfl <| .z) fun a w S => ?_))))))))))))))))))
   rw [rw_1] at S
   refine run S (.mv rfl <| .z) fun a w S => Zb (Za (Yy (sg S (.lt (by omega) rfl rfl <| .z) fun a w S => wp_seq_k fun _ hK2 => Zg S (.t rfl) (wp_skip (Za (hK2 _ _ (wp_seq_k fun _ hK2 => wp_block (sg S (.yy (Yf (j := 1) underlying202 sizeOf3 (.t rfl) (.t rfl) (fun _ => by omega)) rfl <| .ld gt3 0 rfl rfl rfl <| .as rfl <| .z) fun a w S => sg S (.mv rfl <| .yy (Ym (by omega) (Yd (.t rfl) Ev.c)) rfl <| .z) fun a w S => Zf S (.t rfl) (wp_skip (Zm (Za (hK2 _ _ (wp_region_lit (run S (.ad (by unfold I64; omega) rfl <| .z) fun a w S => ?_))))))))))))))
   rw [rw_2] at S
   refine run S (.mv rfl <| .z) fun a w S => Zb (Za (Yy (sg S (.lt (by omega) rfl rfl <| .z) fun a w S => wp_seq_k fun _ hK2 => Zg S (.t rfl) (wp_skip (Za (hK2 _ _ (wp_seq_k fun _ hK2 => wp_block (sg S (.yy (Yf (j := 2) underlying202 sizeOf3 (.t rfl) (.t rfl) (fun _ => by omega)) rfl <| .ld gt3 0 rfl rfl rfl <| .as rfl <| .z) fun a w S => sg S (.mv rfl <| .yy (Ym (by omega) (Yd (.t rfl) Ev.c)) rfl <| .z) fun a w S => Zf S (.t rfl) (wp_skip (Zm (Za (hK2 _ _ (wp_region_lit (run S (.ad (by unfold I64; omega) rfl <| .z) fun a w S => ?_))))))))))))))
   rw [rw_3] at S
   refine run S (.mv rfl <| .z) fun a w S => Zb (Za (Yy (sg S (.ge (by omega) rfl rfl <| .z) fun a w S => wp_seq_k fun _ hK2 => Zf S (.t rfl) (wp_exit (Zi (Zi (Zy (Za (hK1 _ _ (sg S (.mv rfl <| .as rfl <| .z) fun a w S => wp_ret (Zj S (results1 S results179 (Rv.tmp rfl)) ?_)))))))))))
   exact ⟨rfl, S.wd.below⟩
 rw [if_neg (by omega)]
 by_cases h2 : d2 = e2
 rotate_left
 · rw [if_pos h2]
   refine enter2 func179 rfl ntmps179 rfl fun a S => wp_seq_k fun _ hK1 => wp_region_lit (Zk (Ya S (.t rfl) rfl fun g1 a w S => Zk (Ya S (.t rfl) rfl fun g2 a w S => run S (.ac rfl <| .z) fun a w S => Zb (Za (hK1 _ _ (wp_seq_k fun _ hK1 => wp_region_lit (run S (.fa underlying100 sizeOf9 0 rfl rfl rfl <| .ld gt9 1 rfl rfl rfl <| .fa underlying100 sizeOf9 0 rfl rfl rfl <| .ld gt9 0 rfl rfl rfl <| .xx (Zh call211 (.cons (.t rfl) (.cons (.t rfl) .nil)) (fun hp w W => c211 _ _ _)) rfl <| .z) fun a w S => ?_)))))))
   rw [rw_c] at S
   refine run S (.as rfl <| .z) fun a w S => Zb (Za (hK1 _ _ (wp_seq_k fun _ hK1 => wp_seq_k fun _ hK2 => wp_region_lit (run S (.fa underlying100 sizeOf74 1 rfl rfl rfl <| .fa underlying74 sizeOf3 1 rfl rfl rfl <| .ld gt3 1 rfl rfl rfl <| .fa underlying100 sizeOf74 1 rfl rfl rfl <| .fa underlying74 sizeOf3 1 rfl rfl rfl <| .ld gt3 0 rfl rfl rfl <| .yy (Xf (.t rfl) (.t rfl) (fun _ => by unfold I64; omega)) rfl <| .fa underlying100 sizeOf74 1 rfl rfl rfl <| .fa underlying74 sizeOf3 2 rfl rfl rfl <| .ld gt3 1 rfl rfl rfl <| .fa underlying100 sizeOf74 1 rfl rfl rfl <| .fa underlying74 sizeOf3 2 rfl rfl rfl <| .ld gt3 0 rfl rfl rfl <| .yy (Xf (.t rfl) (.t rfl) (fun _ => by unfold I64; omega)) rfl <| .fa underlying100 sizeOf74 1 rfl rfl rfl <| .fa underlying74 sizeOf3 3 rfl rfl rfl <| .ld gt3 1 rfl rfl rfl <| .fa underlying100 sizeOf74 1 rfl rfl rfl <| .fa underlying74 sizeOf3 3 rfl rfl rfl <| .ld gt3 0 rfl rfl rfl <| .yy (Xf (.t rfl) (.t rfl) (fun _ => by unfold I64; omega)) rfl <| .z) fun a w S => Zk (Wn (ps := [(0, Go.Operand.tmp 19), (1, Go.Operand.tmp 26), (2, Go.Operand.tmp 33)]) (us := [_, _, _]) S underlying202 sizeOf3 zeroValue3 rfl rfl (.cons (.t rfl) (.cons (.t rfl) (.cons (.t rfl) .nil))) rfl rfl fun g3 a w S => ?_)))))
   refine run S (.ln underlying202 rfl <| .mc rfl <| .z) fun a w S => Zb (Za (hK2 _ _ (wp_block (Wk 4 (Yy (sg S (.lt (by omega) rfl rfl <| .z) fun a w S => wp_seq_k fun _ hK2 => Zg S (.t rfl) (wp_skip (Za (hK2 _ _ (wp_seq_k fun _ hK2 => wp_block (sg S (.yy (Yf (j := 0) underlying202 sizeOf3 (.t rfl) (.t rfl) (fun _ => by omega)) rfl <| .ld gt3 0 rfl rfl rfl <| .as rfl <| .z) fun a w S => sg S (.mv rfl <| .yy (Yu (by omega) (Yd (.t rfl) Ev.c)) rfl <| .z) fun a w S => Zg S (.t rfl) (wp_region_lit (run S (.mv rfl <| .as rfl <| .z) fun a w S => Zb (Zm (Za (hK2 _ _ (wp_region_lit (run S (.ad (by unfold I64; omega) rfl <| .z) fun a w S => ?_))))))))))))))))))
   rw [rw_1] at S
   refine run S (.mv rfl <| .z) fun a w S => Zb (Za (Yy (sg S (.lt (by omega) rfl rfl <| .z) fun a w S => wp_seq_k fun _ hK2 => Zg S (.t rfl) (wp_skip (Za (hK2 _ _ (wp_seq_k fun _ hK2 => wp_block (sg S (.yy (Yf (j := 1) underlying202 sizeOf3 (.t rfl) (.t rfl) (fun _ => by omega)) rfl <| .ld gt3 0 rfl rfl rfl <| .as rfl <| .z) fun a w S => sg S (.mv rfl <| .yy (Yu (by omega) (Yd (.t rfl) Ev.c)) rfl <| .z) fun a w S => Zg S (.t rfl) (wp_region_lit (run S (.mv rfl <| .as rfl <| .z) fun a w S => Zb (Zm (Za (hK2 _ _ (wp_region_lit (run S (.ad (by unfold I64; omega) rfl <| .z) fun a w S => ?_)))))))))))))))
   rw [rw_2] at S
   refine run S (.mv rfl <| .z) fun a w S => Zb (Za (Yy (sg S (.lt (by omega) rfl rfl <| .z) fun a w S => wp_seq_k fun _ hK2 => Zg S (.t rfl) (wp_skip (Za (hK2 _ _ (wp_seq_k fun _ hK2 => wp_block (sg S (.yy (Yf (j := 2) underlying202 sizeOf3 (.t rfl) (.t rfl) (fun _ => by omega)) rfl <| .ld gt3 0 rfl rfl rfl <| .as rfl <| .z) fun a w S => sg S (.mv rfl <| .yy (Ym (by omega) (Yd (.t rfl) Ev.c)) rfl <| .z) fun a w S => Zf S (.t rfl) (wp_skip (Zm (Za (hK2 _ _ (wp_region_lit (run S (.ad (by unfold I64; omega) rfl <| .z) fun a w S => ?_))))))))))))))
   rw [rw_3] at S
   refine run S (.mv rfl <| .z) fun a w S => Zb (Za (Yy (sg S (.ge (by omega) rfl rfl <| .z) fun a w S => wp_seq_k fun _ hK2 => Zf S (.t rfl) (wp_exit (Zi (Zi (Zy (Za (hK1 _ _ (sg S (.mv rfl <| .as rfl <| .z) fun a w S => wp_ret (Zj S (results1 S results179 (Rv.tmp rfl)) ?_)))))))))))
   exact ⟨rfl, S.wd.below⟩
 · rw [if_neg (by omega)]
   refine enter2 func179 rfl ntmps179 rfl fun a S => wp_seq_k fun _ hK1 => wp_region_lit (Zk (Ya S (.t rfl) rfl fun g1 a w S => Zk (Ya S (.t rfl) rfl fun g2 a w S => run S (.ac rfl <| .z) fun a w S => Zb (Za (hK1 _ _ (wp_seq_k fun _ hK1 => wp_region_lit (run S (.fa underlying100 sizeOf9 0 rfl rfl rfl <| .ld gt9 1 rfl rfl rfl <| .fa underlying100 sizeOf9 0 rfl rfl rfl <| .ld gt9 0 rfl rfl rfl <| .xx (Zh call211 (.cons (.t rfl) (.cons (.t rfl) .nil)) (fun hp w W => c211 _ _ _)) rfl <| .z) fun a w S => ?_)))))))
   rw [rw_c] at S
   refine run S (.as rfl <| .z) fun a w S => Zb (Za (hK1 _ _ (wp_seq_k fun _ hK1 => wp_seq_k fun _ hK2 => wp_region_lit (run S (.fa underlying100 sizeOf74 1 rfl rfl rfl <| .fa underlying74 sizeOf3 1 rfl rfl rfl <| .ld gt3 1 rfl rfl rfl <| .fa underlying100 sizeOf74 1 rfl rfl rfl <| .fa underlying74 sizeOf3 1 rfl rfl rfl <| .ld gt3 0 rfl rfl rfl <| .yy (Xf (.t rfl) (.t rfl) (fun _ => by unfold I64; omega)) rfl <| .fa underlying100 sizeOf74 1 rfl rfl rfl <| .fa underlying74 sizeOf3 2 rfl rfl rfl <| .ld gt3 1 rfl rfl rfl <| .fa underlying100 sizeOf74 1 rfl rfl rfl <| .fa underlying74 sizeOf3 2 rfl rfl rfl <| .ld gt3 0 rfl rfl rfl <| .yy (Xf (.t rfl) (.t rfl) (fun _ => by unfold I64; omega)) rfl <| .fa underlying100 sizeOf74 1 rfl rfl rfl <| .fa underlying74 sizeOf3 3 rfl rfl rfl <| .ld gt3 1 rfl rfl rfl <| .fa underlying100 sizeOf74 1 rfl rfl rfl <| .fa underlying74 sizeOf3 3 rfl rfl rfl <| .ld gt3 0 rfl rfl rfl <| .yy (Xf (.t rfl) (.t rfl) (fun _ => by unfold I64; omega)) rfl <| .z) fun a w S => Zk (Wn (ps := [(0, Go.Operand.tmp 19), (1, Go.Operand.tmp 26), (2, Go.Operand.tmp 33)]) (us := [_, _, _]) S underlying202 sizeOf3 zeroValue3 rfl rfl (.cons (.t rfl) (.cons (.t rfl) (.cons (.t rfl) .nil))) rfl rfl fun g3 a w S => ?_)))))
   refine run S (.ln underlying202 rfl <| .mc rfl <| .z) fun a w S => Zb (Za (hK2 _ _ (wp_block (Wk 4 (Yy (sg S (.lt (by omega) rfl rfl <| .z) fun a w S => wp_seq_k fun _ hK2 => Zg S (.t rfl) (wp_skip (Za (hK2 _ _ (wp_seq_k fun _ hK2 => wp_block (sg S (.yy (Yf (j := 0) underlying202 sizeOf3 (.t rfl) (.t rfl) (fun _ => by omega)) rfl <| .ld gt3 0 rfl rfl rfl <| .as rfl <| .z) fun a w S => sg S (.mv rfl <| .yy (Yu (by omega) (Yd (.t rfl) Ev.c)) rfl <| .z) fun a w S => Zg S (.t rfl) (wp_region_lit (run S (.mv rfl <| .as rfl <| .z) fun a w S => Zb (Zm (Za (hK2 _ _ (wp_region_lit (run S (.ad (by unfold I64; omega) rfl <| .z) fun a w S => ?_))))))))))))))))))
   rw [rw_1] at S
   refine run S (.mv rfl <| .z) fun a w S => Zb (Za (Yy (sg S (.lt (by omega) rfl rfl <| .z) fun a w S => wp_seq_k fun _ hK2 => Zg S (.t rfl) (wp_skip (Za (hK2 _ _ (wp_seq_k fun _ hK2 => wp_block (sg S (.yy (Yf (j := 1) underlying202 sizeOf3 (.t rfl) (.t rfl) (fun _ => by omega)) rfl <| .ld gt3 0 rfl rfl rfl <| .as rfl <| .z) fun a w S => sg S (.mv rfl <| .yy (Yu (by omega) (Yd (.t rfl) Ev.c)) rfl <| .z) fun a w S => Zg S (.t rfl) (wp_region_lit (run S (.mv rfl <| .as rfl <| .z) fun a w S => Zb (Zm (Za (hK2 _ _ (wp_region_lit (run S (.ad (by unfold I64; omega) rfl <| .z) fun a w S => ?_)))))))))))))))
   rw [rw_2] at S
   refine run S (.mv rfl <| .z) fun a w S => Zb (Za (Yy (sg S (.lt (by omega) rfl rfl <| .z) fun a w S => wp_seq_k fun _ hK2 => Zg S (.t rfl) (wp_skip (Za (hK2 _ _ (wp_seq_k fun _ hK2 => wp_block (sg S (.yy (Yf (j := 2) underlying202 sizeOf3 (.t rfl) (.t rfl) (fun _ => by omega)) rfl <| .ld gt3 0 rfl rfl rfl <| .as rfl <| .z) fun a w S => sg S (.mv rfl <| .yy (Yu (by omega) (Yd (.t rfl) Ev.c)) rfl <| .z) fun a w S => Zg S (.t rfl) (wp_region_lit (run S (.mv rfl <| .as rfl <| .z) fun a w S => Zb (Zm (Za (hK2 _ _ (wp_region_lit (run S (.ad (by unfold I64; omega) rfl <| .z) fun a w S => ?_)))))))))))))))
   rw [rw_3] at S
   refine run S (.mv rfl <| .z) fun a w S => Zb (Za (Yy (sg S (.ge (by omega) rfl rfl <| .z) fun a w S => wp_seq_k fun _ hK2 => Zf S (.t rfl) (wp_exit (Zi (Zi (Zy (Za (hK1 _ _ (sg S (.mv rfl <| .as rfl <| .z) fun a w S => wp_ret (Zj S (results1 S results179 (Rv.tmp rfl)) ?_)))))))))))
   exact ⟨rfl, S.wd.below⟩
end Go.Proofs.YtakpdbmdfnialaaGreat
namespace Go.Fw
open Go.RowKit
def otherR (r : Nat) : Bool := !((decide (97 ≤ r) && decide (r ≤ 122)) || (decide (65 ≤ r) && decide (r ≤ 90)) || (decide (48 ≤ r) && decide (r ≤ 57)) || decide (r = 45) || decide (r = 95) || decide (r = 46))
theorem other_char (b : UInt8) : otherR b.toNat = !charB b := rfl
theorem decode_big (l : List UInt8) (b : UInt8) (t : List UInt8) (h : l = b :: t) (hb : 128 ≤ b.toNat) : 128 ≤ (Lib.decodeL l).1 := by
 subst h
 rw [Lib.decodeL_N]
 have e : ((b :: t).getD 0 0).toNat = b.toNat := rfl
 rw [e]
 rcases Lib.decodeN_cases (b :: t).length b.toNat ((b :: t).getD 1 0).toNat ((b :: t).getD 2 0).toNat ((b :: t).getD 3 0).toNat with h | h | h | h | h
 · omega
 · rw [h.2.2.2.2]; exact h.2.2.2.1
 · rw [h.2.2.2.2.2]; have := h.2.2.2.2.1; dsimp only; omega
 · omega
 · rw [h]; decide
theorem other_big {r : Nat} (h : 128 ≤ r) : otherR r = true := by
 unfold otherR
 simp
 omega
theorem char_big {b : UInt8} (h : 128 ≤ b.toNat) : charB b = false := by
 unfold charB
 simp
 omega
def idxR (p : Nat → Bool) (s : List UInt8) : Nat → Nat → Int
 | 0, _ => -1
 | f + 1, pos => if pos < s.length then (if p (Utf8.decode (bs s) pos).1 = true then (pos : Int) else idxR p s f (pos + (Utf8.decode (bs s) pos).2)) else -1
theorem idx_name (s : List UInt8) : ∀ (f pos : Nat), s.length ≤ pos + f → (idxR otherR s f pos < 0 ↔ (s.drop pos).all charB = true)
 | 0, pos, h => by
   rw [List.drop_of_length_le (by omega)]
   simp [idxR]
 | f + 1, pos, h => by
   unfold idxR
   by_cases hp : pos < s.length
   · rw [if_pos hp]
     have hd := Lib.decodeL_drop (bs s) pos
     have hl : (bs s).data.toList = s := rfl
     rw [hl] at hd
     have hc : s.drop pos = s[pos] :: s.drop (pos + 1) := List.drop_eq_getElem_cons hp
     by_cases hb : (s[pos]).toNat < 128
     · rw [← hd, hc, Lib.decodeL_ascii _ _ hb]
       dsimp only
       rw [other_char, List.all_cons]
       by_cases hch : charB s[pos] = true
       · rw [hch, if_neg (by decide), idx_name s f (pos + 1) (by omega)]
         simp
       · rw [if_pos (by simpa using hch)]
         simp [hch]
     · have h2 := decode_big _ _ _ hc (by omega)
       rw [← hd, other_big h2, if_pos rfl, hc, List.all_cons, char_big (by omega)]
       simp
   · rw [if_neg hp, List.drop_of_length_le (by omega)]
     simp
theorem idxR_end {p : Nat → Bool} {s : List UInt8} {f pos : Nat} (h : s.length ≤ pos) : idxR p s f pos = -1 := by
 cases f <;> simp [idxR]
 omega
theorem name_idx (s : List UInt8) : decide (idxR otherR s s.length 0 < 0) = s.all charB := by
 have h := idx_name s s.length 0 (by omega)
 rw [Bool.eq_iff_iff, decide_eq_true_eq, h, List.drop_zero]
end Go.Fw
namespace Go.Proofs.YtakpdbmdfnialaaGreat
open Go.Fw Go.Proofs Go.RowKit Go.Proofs.Tryz
section
variable {n : Nat} {w0 : World} {K : KL} {L : List Chunk} {b : Bool} {dst : Option Tmp} {ty : TypeId} {pos : String} {aft : Array Edge} {gd : Option (Nat × Bool)} {ts : Array TypeId}
theorem y188 {x : Operand} {p : Int} (hx : Ev n b K x (.int .u64 p)) : Yr Tryz.prog ⟨dst, .call ⟨.value (.func 188), #[x], ts⟩, ty, pos, aft, gd⟩ n K w0 L b (.float .f64 p.toNat) :=
 ys_extern (F := Extern.MathFloatBits.float64frombits) func188 (by kernel_rfl) (by kernel_rfl) (by kernel_rfl) (by kernel_rfl) (.cons hx .nil) (fun _ => rfl)
theorem y245 {x y : Operand} {l : List UInt8} {c : UInt8} (hx : Ev n b K x (.string (bs l))) (hy : Ev n b K y (.int .u8 (c.toNat : Int))) : Yr Tryz.prog ⟨dst, .call ⟨.value (.func 245), #[x, y], ts⟩, ty, pos, aft, gd⟩ n K w0 L b (.int .i64 (Lib.indexByte l c)) :=
 ys_extern (F := Extern.BytealgIndexByte.indexByte) func245 (by kernel_rfl) (by kernel_rfl) (by kernel_rfl) (by kernel_rfl) (.cons hx (.cons hy .nil)) (fun w => by
   have h := Lib.run_indexByteString (P := Tryz.prog) (bs l) (c.toNat : Int) w
   simpa using h)
end
theorem c158 (w0 : World) (p : UInt64) : Calls Tryz.prog 158 #[.int .u64 (p.toNat : Int)] w0 fun e w' => e = .returned (.bool (priceB p)) ∧ Bel w0.heap.size w0 w' := by
 have rw_s : ((p.toNat : Int)).toNat = p.toNat := Int.toNat_natCast _
 have rw_p := price_ge p
 refine enter1 func158 rfl ntmps158 rfl fun a S => sg S (.ac rfl <| .z) fun a w S => wp_seq_k fun _ hK1 => wp_region_lit (run S (.mv rfl <| .yy (y188 (.t rfl)) rfl <| .z) fun a w S => ?_)
 rw [rw_s] at S
 refine run S (.yy (ys_geqF (.t rfl) Ev.c) rfl <| .as rfl <| .z) fun a w S => Zb (Za (hK1 _ _ (wp_ret (Zj S (results1 S results158 (Rv.tmp rfl)) ?_))))
 exact ⟨by first | rfl | (rw [← price_ge]; rfl), S.wd.below⟩
end Go.Proofs.YtakpdbmdfnialaaGreat
namespace Go.Proofs.YtakpdbmdfnialaaGreat
open Go.Fw Go.Proofs Go.RowKit Go.Proofs.Tryz
theorem c242 (w0 : World) (l : List UInt8) (c : UInt8) : Calls Tryz.prog 242 #[.string (bs l), .int .u8 (c.toNat : Int)] w0 fun e w' => e = .returned (.int .i64 (Lib.indexByte l c)) ∧ Bel w0.heap.size w0 w' := by
 refine enter2 func242 rfl ntmps242 rfl fun a S => sg S (.ac rfl <| .z) fun a w S => sg S (.mv rfl <| .mv rfl <| .yy (y245 (.t rfl) (.t rfl)) rfl <| .as rfl <| .z) fun a w S => wp_ret (Zj S (results1 S results242 (Rv.tmp rfl)) ?_)
 exact ⟨rfl, S.wd.below⟩
theorem c232 (w0 : World) (l : List UInt8) (c : UInt8) : Calls Tryz.prog 232 #[.string (bs l), .int .u8 (c.toNat : Int)] w0 fun e w' => e = .returned (.int .i64 (Lib.indexByte l c)) ∧ Bel w0.heap.size w0 w' := by
 refine enter2 func232 rfl ntmps232 rfl fun a S => sg S (.ac rfl <| .z) fun a w S => sg S (.mv rfl <| .mv rfl <| .xx (Zh call242 (.cons (.t rfl) (.cons (.t rfl) .nil)) (fun hp w W => c242 _ _ _)) rfl <| .as rfl <| .z) fun a w S => wp_ret (Zj S (results1 S results232 (Rv.tmp rfl)) ?_)
 exact ⟨rfl, S.wd.below⟩
def validR (r : Nat) : Bool := decide (r < 55296) || (decide (57343 < r) && decide (r ≤ 1114111))
theorem c233 (w0 : World) (r : Nat) : Calls Tryz.prog 233 #[.int .i32 (r : Int)] w0 fun e w' => e = .returned (.bool (validR r)) ∧ Bel w0.heap.size w0 w' := by
 unfold validR
 by_cases h1 : r < 55296
 · refine enter1 func233 rfl ntmps233 rfl fun a S => sg S (.ac rfl <| .z) fun a w S => wp_seq_k fun _ hK1 => wp_block (sg S (.mv rfl <| .yy (Yu (by omega) (Xb Ev.c (.t rfl))) rfl <| .mv rfl <| .gy rfl rfl (Zd (.t rfl)) <| .gy rfl rfl (Yu (by omega) (Yq (.t rfl) Ev.c)) <| .yy (Zt (.t rfl) (.t rfl)) rfl <| .as rfl <| .z) fun a w S => Zg S (.t rfl) (sg S (.ac rfl <| .z) fun a w S => wp_ret (Zr (Ze (Zj S (results1 S results233 (Rv.tmp rfl)) ?_)))))
   exact ⟨by rw [decide_eq_true h1]; rfl, S.wd.below⟩
 by_cases h2 : 57343 < r ∧ r ≤ 1114111
 · have rw_d : (decide (57343 < (r : Int)) && decide ((r : Int) ≤ 1114111)) = true := by simp; omega
   refine enter1 func233 rfl ntmps233 rfl fun a S => sg S (.ac rfl <| .z) fun a w S => wp_seq_k fun _ hK1 => wp_block (sg S (.mv rfl <| .yy (Yu (by omega) (Xb Ev.c (.t rfl))) rfl <| .mv rfl <| .gy rfl rfl (Zd (.t rfl)) <| .gy rfl rfl (Ym (by omega) (Yq (.t rfl) Ev.c)) <| .yy (Zt (.t rfl) (.t rfl)) rfl <| .as rfl <| .z) fun a w S => Zf S (.t rfl) (sg S (.mv rfl <| .yy (Yu (by omega) (Yq Ev.c (.t rfl))) rfl <| .mv rfl <| .gy rfl rfl (Zd (.t rfl)) <| .gy rfl rfl (Yu (by omega) (Xb (.t rfl) Ev.c)) <| .yy (Zt (.t rfl) (.t rfl)) rfl <| .as rfl <| .z) fun a w S => Zg S (.t rfl) (sg S (.ac rfl <| .z) fun a w S => wp_ret (Zr (Ze (Zj S (results1 S results233 (Rv.tmp rfl)) ?_))))))
   exact ⟨by rw [decide_eq_true h2.1, decide_eq_true h2.2, decide_eq_false h1]; rfl, S.wd.below⟩
 · have rw_d : (decide (57343 < (r : Int)) && decide ((r : Int) ≤ 1114111)) = false := by simp; omega
   refine enter1 func233 rfl ntmps233 rfl fun a S => sg S (.ac rfl <| .z) fun a w S => wp_seq_k fun _ hK1 => wp_block (sg S (.mv rfl <| .yy (Yu (by omega) (Xb Ev.c (.t rfl))) rfl <| .mv rfl <| .gy rfl rfl (Zd (.t rfl)) <| .gy rfl rfl (Ym (by omega) (Yq (.t rfl) Ev.c)) <| .yy (Zt (.t rfl) (.t rfl)) rfl <| .as rfl <| .z) fun a w S => Zf S (.t rfl) (wp_seq_k fun _ hK2 => wp_region_lit (run S (.mv rfl <| .yy (Yq Ev.c (.t rfl)) rfl <| .mv rfl <| .z) fun a w S => Yg S rfl rfl (Yr.ys (Zd (.t rfl))) rfl fun a w S => Yg S rfl rfl (Yr.ys (Xb (Ev.g rfl) Ev.c)) rfl fun a w S => run S (.yy (Xn (.t rfl) (Ev.g rfl) Ev.c) rfl <| .z) fun a w S => ?_)))
   rw [rw_d] at S
   refine run S (.as rfl <| .z) fun a w S => Zb (Za (hK2 _ _ (Zf S (.t rfl) (wp_skip (Zm (Za (hK1 _ _ (sg S (.ac rfl <| .z) fun a w S => wp_ret (Zj S (results1 S results233 (Rv.tmp rfl)) ?_)))))))))
   exact ⟨by rw [decide_eq_false h1, ← Bool.decide_and, decide_eq_false h2]; rfl, S.wd.below⟩
def inDash (r : Nat) : Int := if r < 128 then Lib.indexByte [45, 95, 46] (UInt8.ofNat r) else -1
theorem idx_high {c : UInt8} (h : 128 ≤ c.toNat) : ∀ l ∈ [[45, 95, 46], [95, 46], [46], ([] : List UInt8)], Lib.indexByte l c = -1 := by
 have h1 : (45 : UInt8) ≠ c := fun e => by subst e; exact absurd h (by decide)
 have h2 : (95 : UInt8) ≠ c := fun e => by subst e; exact absurd h (by decide)
 have h3 : (46 : UInt8) ≠ c := fun e => by subst e; exact absurd h (by decide)
 intro l hl
 simp only [List.mem_cons, List.not_mem_nil, or_false] at hl
 rcases hl with rfl | rfl | rfl | rfl <;> simp [Lib.indexByte, h1, h2, h3]
theorem dash_small : ∀ r : Fin 128, decide (0 ≤ Lib.indexByte [45, 95, 46] (UInt8.ofNat r)) = (decide ((r : Nat) = 45) || decide ((r : Nat) = 95) || decide ((r : Nat) = 46)) := by decide +kernel
theorem b8_nat {r : Nat} (h : r < 128) : (b8 (r : Int)) = UInt8.ofNat r := by
 rw [← UInt8.toNat_inj]
 have := wrap_u8 (r : Int)
 unfold b8
 simp
 omega
theorem rune_forms {p : Int} (h : 128 ≤ p) : (∃ x y, Utf8.encode p = bs [x, y] ∧ 128 ≤ y.toNat) ∨ (∃ x y z, Utf8.encode p = bs [x, y, z] ∧ 128 ≤ z.toNat) ∨ ∃ x y z u, Utf8.encode p = bs [x, y, z, u] := by
 obtain ⟨l, hl, h2, h4, hc⟩ := rune_long h
 rcases l with _ | ⟨x, _ | ⟨y, _ | ⟨z, _ | ⟨u, _ | ⟨v, l⟩⟩⟩⟩⟩
 · simp at h2
 · simp at h2
 · exact .inl ⟨x, y, hl, hc y (by simp)⟩
 · exact .inr (.inl ⟨x, y, z, hl, hc z (by simp)⟩)
 · exact .inr (.inr ⟨x, y, z, u, hl⟩)
 · simp at h4
theorem rune_a (w0 : World) (r : Nat) (h1 : r < 128) (c : UInt8) (rw_c : b8 (r : Int) = c) : Calls Tryz.prog 213 #[.string (bs [45, 95, 46]), .int .i32 (r : Int)] w0 fun e w' => e = .returned (.int .i64 (Lib.indexByte [45, 95, 46] c)) ∧ Bel w0.heap.size w0 w' := by
 refine enter2 func213 rfl ntmps213 rfl fun a S => sg S (.ac rfl <| .z) fun a w S => wp_block (sg S (.mv rfl <| .yy (Yu (by omega) (Xb Ev.c (.t rfl))) rfl <| .mv rfl <| .gy rfl rfl (Zd (.t rfl)) <| .gy rfl rfl (Yu (by omega) (Yq (.t rfl) Ev.c)) <| .yy (Zt (.t rfl) (.t rfl)) rfl <| .as rfl <| .z) fun a w S => Zg S (.t rfl) (wp_seq_k fun _ hK1 => wp_region_lit (run S (.mv rfl <| .mv rfl <| .yy (ys_cvB underlying21 underlying5 (.t rfl)) rfl <| .z) fun a w S => ?_)))
 rw [rw_c] at S
 refine run S (.xx (Zh call232 (.cons (.t rfl) (.cons (.t rfl) .nil)) (fun hp w W => c232 _ _ _)) rfl <| .as rfl <| .z) fun a w S => Zb (Za (hK1 _ _ (wp_ret (Zr (Zj S (results1 S results213 (Rv.tmp rfl)) ?_)))))
 exact ⟨rfl, S.wd.below⟩
theorem rune_b (w0 : World) (r : Nat) (h1 : ¬ r < 128) (h2 : r = 65533) : Calls Tryz.prog 213 #[.string (bs [45, 95, 46]), .int .i32 (r : Int)] w0 fun e w' => e = .returned (.int .i64 (-1)) ∧ Bel w0.heap.size w0 w' := by
 have rw_a0 : (Utf8.decode (bs [45, 95, 46]) 0).1 = 45 := by decide +kernel
 have rw_b0 : (Utf8.decode (bs [45, 95, 46]) 0).2 = 1 := by decide +kernel
 have rw_a1 : (Utf8.decode (bs [45, 95, 46]) 1).1 = 95 := by decide +kernel
 have rw_b1 : (Utf8.decode (bs [45, 95, 46]) 1).2 = 1 := by decide +kernel
 have rw_a2 : (Utf8.decode (bs [45, 95, 46]) 2).1 = 46 := by decide +kernel
 have rw_b2 : (Utf8.decode (bs [45, 95, 46]) 2).2 = 1 := by decide +kernel
 refine enter2 func213 rfl ntmps213 rfl fun a S => sg S (.ac rfl <| .z) fun a w S => wp_block (sg S (.mv rfl <| .yy (Yu (by omega) (Xb Ev.c (.t rfl))) rfl <| .mv rfl <| .gy rfl rfl (Zd (.t rfl)) <| .gy rfl rfl (Ym (by omega) (Yq (.t rfl) Ev.c)) <| .yy (Zt (.t rfl) (.t rfl)) rfl <| .as rfl <| .z) fun a w S => Zf S (.t rfl) (sg S (.mv rfl <| .yy (Yu (by omega) (Yd (.t rfl) Ev.c)) rfl <| .as rfl <| .z) fun a w S => Zg S (.t rfl) (wp_seq_k fun _ hK1 => wp_seq_k fun _ hK2 => wp_region_lit (run S (.mv rfl <| .z) fun a w S => Zk (op_rangeS S underlying9 (.t rfl) rfl fun g1 a w S => Zb (Za (hK2 _ _ (wp_block (Wk 4 (Yy (wp_seq_k fun _ hK2 => wp_region_lit (Zk (op_nextS S (.t rfl) (i := 0) rfl rfl (fun h => absurd h (by decide)) (fun _ => ?_))))))))))))))
 clear S a w
 intro a w S
 rw [rw_a0, rw_b0, Nat.zero_add] at S
 refine run S (.ex rfl rfl <| .z) fun a w S => Zb (Za (hK2 _ _ (wp_seq_k fun _ hK2 => Zg S (.t rfl) (wp_skip (Za (hK2 _ _ (wp_block (sg S (.ex rfl rfl <| .ex rfl rfl <| .as rfl <| .as rfl <| .z) fun a w S => sg S (.mv rfl <| .yy (Ym (by omega) (Yd (.t rfl) Ev.c)) rfl <| .z) fun a w S => Zf S (.t rfl) (wp_skip (Zm (Za (Yy (wp_seq_k fun _ hK2 => wp_region_lit (Zk (op_nextS S (.t rfl) (i := 0) rfl rfl (fun h => absurd h (by decide)) (fun _ => ?_))))))))))))))))
 clear S a w
 intro a w S
 rw [rw_a1, rw_b1] at S
 refine run S (.ex rfl rfl <| .z) fun a w S => Zb (Za (hK2 _ _ (wp_seq_k fun _ hK2 => Zg S (.t rfl) (wp_skip (Za (hK2 _ _ (wp_block (sg S (.ex rfl rfl <| .ex rfl rfl <| .as rfl <| .as rfl <| .z) fun a w S => sg S (.mv rfl <| .yy (Ym (by omega) (Yd (.t rfl) Ev.c)) rfl <| .z) fun a w S => Zf S (.t rfl) (wp_skip (Zm (Za (Yy (wp_seq_k fun _ hK2 => wp_region_lit (Zk (op_nextS S (.t rfl) (i := 0) rfl rfl (fun h => absurd h (by decide)) (fun _ => ?_))))))))))))))))
 clear S a w
 intro a w S
 rw [rw_a2, rw_b2] at S
 refine run S (.ex rfl rfl <| .z) fun a w S => Zb (Za (hK2 _ _ (wp_seq_k fun _ hK2 => Zg S (.t rfl) (wp_skip (Za (hK2 _ _ (wp_block (sg S (.ex rfl rfl <| .ex rfl rfl <| .as rfl <| .as rfl <| .z) fun a w S => sg S (.mv rfl <| .yy (Ym (by omega) (Yd (.t rfl) Ev.c)) rfl <| .z) fun a w S => Zf S (.t rfl) (wp_skip (Zm (Za (Yy (wp_seq_k fun _ hK2 => wp_region_lit (Zk (op_nextS S (.t rfl) (i := 0) rfl rfl (fun _ => ?_) (fun h => absurd h (by decide)))))))))))))))))
 clear S a w
 intro a w S
 refine run S (.ex rfl rfl <| .z) fun a w S => Zb (Za (hK2 _ _ (wp_seq_k fun _ hK2 => Zf S (.t rfl) (wp_exit (Zi (Zi (Zy (Za (hK1 _ _ (sg S (.ac rfl <| .z) fun a w S => wp_ret (Zr (Zj S (results1 S results213 (Rv.tmp rfl)) ?_))))))))))))
 exact ⟨rfl, S.wd.below⟩
theorem rune_c (w0 : World) (r : Nat) (hr : r ≤ 2147483647) (h1 : ¬ r < 128) (h2 : ¬ r = 65533) (rw_v : validR r = false) : Calls Tryz.prog 213 #[.string (bs [45, 95, 46]), .int .i32 (r : Int)] w0 fun e w' => e = .returned (.int .i64 (-1)) ∧ Bel w0.heap.size w0 w' := by
 refine enter2 func213 rfl ntmps213 rfl fun a S => sg S (.ac rfl <| .z) fun a w S => wp_block (sg S (.mv rfl <| .yy (Yu (by omega) (Xb Ev.c (.t rfl))) rfl <| .mv rfl <| .gy rfl rfl (Zd (.t rfl)) <| .gy rfl rfl (Ym (by omega) (Yq (.t rfl) Ev.c)) <| .yy (Zt (.t rfl) (.t rfl)) rfl <| .as rfl <| .z) fun a w S => Zf S (.t rfl) (sg S (.mv rfl <| .yy (Ym (by omega) (Yd (.t rfl) Ev.c)) rfl <| .as rfl <| .z) fun a w S => Zf S (.t rfl) (wp_seq_k fun _ hK1 => wp_region_lit (run S (.mv rfl <| .xx (Zh call233 (.cons (.t rfl) .nil) (fun hp w W => c233 _ _)) rfl <| .z) fun a w S => ?_))))
 rw [rw_v] at S
 refine run S (.nt rfl <| .as rfl <| .z) fun a w S => Zb (Za (hK1 _ _ (Zg S (.t rfl) (sg S (.ac rfl <| .z) fun a w S => wp_ret (Zr (Zj S (results1 S results213 (Rv.tmp rfl)) ?_))))))
 exact ⟨rfl, S.wd.below⟩
theorem rune_d (w0 : World) (r : Nat) (hr : r ≤ 2147483647) (h1 : ¬ r < 128) (h2 : ¬ r = 65533) (rw_v : validR r = true) (x y : UInt8) (hl : Utf8.encode (r : Int) = bs [x, y]) (hy : 128 ≤ y.toNat) : Calls Tryz.prog 213 #[.string (bs [45, 95, 46]), .int .i32 (r : Int)] w0 fun e w' => e = .returned (.int .i64 (-1)) ∧ Bel w0.heap.size w0 w' := by
 have hs1 : ([45, 95, 46] : List UInt8)[1]? = some 95 := rfl
 have hs2 : ([45, 95, 46] : List UInt8)[2]? = some 46 := rfl
 have rw_l0 : (([45, 95, 46] : List UInt8).length : Int) = ((3 : Nat) : Int) := rfl
 have rw_k1 : (((95 : UInt8).toNat : Nat) : Int) = 95 := rfl
 have rw_k2 : (((46 : UInt8).toNat : Nat) : Int) = 46 := rfl
 have rw_d2 : List.drop 2 ([45, 95, 46] : List UInt8) = [46] := rfl
 have rw_d3 : List.drop 3 ([45, 95, 46] : List UInt8) = [] := rfl
 have hl1 : ([x, y] : List UInt8)[1]? = some y := rfl
 have rw_l : (([x, y] : List UInt8).length : Int) = 2 := rfl
 have rw_m : (2 : Int) - 1 = ((1 : Nat) : Int) := rfl
 have rw_n : ((1 : Nat) : Int) + 1 = ((2 : Nat) : Int) := rfl
 have rw_e := idx_high hy [46] (by simp)
 refine enter2 func213 rfl ntmps213 rfl fun a S => sg S (.ac rfl <| .z) fun a w S => wp_block (sg S (.mv rfl <| .yy (Yu (by omega) (Xb Ev.c (.t rfl))) rfl <| .mv rfl <| .gy rfl rfl (Zd (.t rfl)) <| .gy rfl rfl (Ym (by omega) (Yq (.t rfl) Ev.c)) <| .yy (Zt (.t rfl) (.t rfl)) rfl <| .as rfl <| .z) fun a w S => Zf S (.t rfl) (sg S (.mv rfl <| .yy (Ym (by omega) (Yd (.t rfl) Ev.c)) rfl <| .as rfl <| .z) fun a w S => Zf S (.t rfl) (wp_seq_k fun _ hK1 => wp_region_lit (run S (.mv rfl <| .xx (Zh call233 (.cons (.t rfl) .nil) (fun hp w W => c233 _ _)) rfl <| .z) fun a w S => ?_))))
 rw [rw_v] at S
 refine run S (.nt rfl <| .as rfl <| .z) fun a w S => Zb (Za (hK1 _ _ (Zf S (.t rfl) (st_scope 1 (fun _ _ => False) rfl (sg S (.mv rfl <| .yy (ys_runeS _ underlying21 underlying9 (.t rfl) hl) rfl <| .as rfl <| .z) fun a w S => wp_seq_k fun _ hK1 => wp_region_lit (run S (.mv rfl <| .yy (Xs underlying9 (.t rfl)) rfl <| .z) fun a w S => ?_)) (fun a w h => h.elim)))))
 rw [rw_l] at S
 refine run S (.yy (Xk (.t rfl) Ev.c (by omega)) rfl <| .as rfl <| .z) fun a w S => Zb (Za (hK1 _ _ (sg S (.mv rfl <| .as rfl <| .z) fun a w S => sg S (.ac rfl <| .z) fun a w S => wp_seq_k fun _ hK1 => wp_block (Wk 4 (Yy (wp_seq_k fun _ hK2 => wp_seq_k fun _ hK3 => wp_region_lit (run S (.mv rfl <| .mv rfl <| .yy (Xs underlying9 (.t rfl)) rfl <| .z) fun a w S => ?_)))))))
 rw [rw_l0] at S
 refine run S (.lt (by omega) rfl rfl <| .z) fun a w S => Zb (Za (hK3 _ _ (Zg S (.t rfl) (wp_skip (Za (hK2 _ _ (wp_block (st_scope 0 (fun _ _ => False) rfl (wp_seq_k fun _ hK2 => wp_seq_k fun _ hK3 => Zw S (by kernel_rfl) (by kernel_rfl) fun a S => qrun S (.mv rfl <| .mv rfl <| .yy (ys_ixStr underlying9 (.t rfl) (.t rfl) (fun _ => by assumption)) rfl <| .z) fun a S => ?_) (fun a w h => h.elim)))))))))
 rw [rw_k1] at S
 refine qrun S (.mv rfl <| .mv rfl <| .yy (ys_ixStr underlying9 (.t rfl) (.t rfl) (fun _ => by assumption)) rfl <| .yy (Yu (by omega) (Yt (.t rfl) (.t rfl))) rfl <| .z) fun a S => ?_
 (refine Yv ?_; intro w W; replace S := St.mk S W; clear W)
 refine Za (hK3 _ _ (Zg S (.t rfl) (wp_seq_k fun _ hK3 => Zw S (by kernel_rfl) (by kernel_rfl) fun a S => qrun S (.mv rfl <| .mv rfl <| .ad (by unfold I64; omega) rfl <| .z) fun a S => ?_)))
 rw [rw_n] at S
 refine qrun S (.yy (ys_slStrLo underlying9 (.t rfl) (.t rfl) (fun _ => by first | omega | (simp; done) | (simp; omega))) rfl <| .z) fun a S => ?_
 rw [rw_d2] at S
 refine qrun S (.mv rfl <| .mv rfl <| .yy (ys_ixStr underlying9 (.t rfl) (.t rfl) (fun _ => by assumption)) rfl <| .xx (Zh call232 (.cons (.t rfl) (.cons (.t rfl) .nil)) (fun hp w W => c232 _ _ _)) rfl <| .z) fun a S => ?_
 rw [rw_e] at S
 refine qrun S (.as rfl <| .z) fun a S => ?_
 (refine Yv ?_; intro w W; replace S := St.mk S W; clear W)
 refine Za (hK3 _ _ (wp_seq_k fun _ hK3 => sg S (.mv rfl <| .yy (Yu (by omega) (Yq (.t rfl) Ev.c)) rfl <| .z) fun a w S => Zg S (.t rfl) (sg S (.ac rfl <| .z) fun a w S => wp_ret (Ze (Ze ?_)))))
 refine jump_ret ?_
 refine Zr (Ze (Zr (Ze ?_)))
 refine jump_ret ?_
 refine Zr (Zj S (results1 S results213 (Rv.tmp rfl)) ?_)
 exact ⟨rfl, S.wd.below⟩
theorem rune_e (w0 : World) (r : Nat) (hr : r ≤ 2147483647) (h1 : ¬ r < 128) (h2 : ¬ r = 65533) (rw_v : validR r = true) (x y z : UInt8) (hl : Utf8.encode (r : Int) = bs [x, y, z]) (hy : 128 ≤ z.toNat) : Calls Tryz.prog 213 #[.string (bs [45, 95, 46]), .int .i32 (r : Int)] w0 fun e w' => e = .returned (.int .i64 (-1)) ∧ Bel w0.heap.size w0 w' := by
 have hs1 : ([45, 95, 46] : List UInt8)[1]? = some 95 := rfl
 have hs2 : ([45, 95, 46] : List UInt8)[2]? = some 46 := rfl
 have rw_l0 : (([45, 95, 46] : List UInt8).length : Int) = ((3 : Nat) : Int) := rfl
 have rw_k1 : (((95 : UInt8).toNat : Nat) : Int) = 95 := rfl
 have rw_k2 : (((46 : UInt8).toNat : Nat) : Int) = 46 := rfl
 have rw_d2 : List.drop 2 ([45, 95, 46] : List UInt8) = [46] := rfl
 have rw_d3 : List.drop 3 ([45, 95, 46] : List UInt8) = [] := rfl
 have hl1 : ([x, y, z] : List UInt8)[2]? = some z := rfl
 have rw_l : (([x, y, z] : List UInt8).length : Int) = ((3 : Nat) : Int) := rfl
 have rw_m : ((3 : Nat) : Int) - 1 = ((2 : Nat) : Int) := rfl
 have rw_n : ((2 : Nat) : Int) + 1 = ((3 : Nat) : Int) := rfl
 have rw_e := idx_high hy [] (by simp)
 refine enter2 func213 rfl ntmps213 rfl fun a S => sg S (.ac rfl <| .z) fun a w S => wp_block (sg S (.mv rfl <| .yy (Yu (by omega) (Xb Ev.c (.t rfl))) rfl <| .mv rfl <| .gy rfl rfl (Zd (.t rfl)) <| .gy rfl rfl (Ym (by omega) (Yq (.t rfl) Ev.c)) <| .yy (Zt (.t rfl) (.t rfl)) rfl <| .as rfl <| .z) fun a w S => Zf S (.t rfl) (sg S (.mv rfl <| .yy (Ym (by omega) (Yd (.t rfl) Ev.c)) rfl <| .as rfl <| .z) fun a w S => Zf S (.t rfl) (wp_seq_k fun _ hK1 => wp_region_lit (run S (.mv rfl <| .xx (Zh call233 (.cons (.t rfl) .nil) (fun hp w W => c233 _ _)) rfl <| .z) fun a w S => ?_))))
 rw [rw_v] at S
 refine run S (.nt rfl <| .as rfl <| .z) fun a w S => Zb (Za (hK1 _ _ (Zf S (.t rfl) (st_scope 1 (fun _ _ => False) rfl (sg S (.mv rfl <| .yy (ys_runeS _ underlying21 underlying9 (.t rfl) hl) rfl <| .as rfl <| .z) fun a w S => wp_seq_k fun _ hK1 => wp_region_lit (run S (.mv rfl <| .yy (Xs underlying9 (.t rfl)) rfl <| .z) fun a w S => ?_)) (fun a w h => h.elim)))))
 rw [rw_l] at S
 refine run S (.yy (Xk (.t rfl) Ev.c (by omega)) rfl <| .as rfl <| .z) fun a w S => Zb (Za (hK1 _ _ (sg S (.mv rfl <| .as rfl <| .z) fun a w S => sg S (.ac rfl <| .z) fun a w S => wp_seq_k fun _ hK1 => wp_block (Wk 4 (Yy (wp_seq_k fun _ hK2 => wp_seq_k fun _ hK3 => wp_region_lit (run S (.mv rfl <| .mv rfl <| .yy (Xs underlying9 (.t rfl)) rfl <| .z) fun a w S => ?_)))))))
 rw [rw_l0] at S
 refine run S (.lt (by omega) rfl rfl <| .z) fun a w S => Zb (Za (hK3 _ _ (Zg S (.t rfl) (wp_skip (Za (hK2 _ _ (wp_block (st_scope 0 (fun _ _ => False) rfl (wp_seq_k fun _ hK2 => wp_seq_k fun _ hK3 => Zw S (by kernel_rfl) (by kernel_rfl) fun a S => qrun S (.mv rfl <| .mv rfl <| .yy (ys_ixStr underlying9 (.t rfl) (.t rfl) (fun _ => by assumption)) rfl <| .z) fun a S => ?_) (fun a w h => h.elim)))))))))
 rw [rw_k2] at S
 refine qrun S (.mv rfl <| .mv rfl <| .yy (ys_ixStr underlying9 (.t rfl) (.t rfl) (fun _ => by assumption)) rfl <| .yy (Yu (by omega) (Yt (.t rfl) (.t rfl))) rfl <| .z) fun a S => ?_
 (refine Yv ?_; intro w W; replace S := St.mk S W; clear W)
 refine Za (hK3 _ _ (Zg S (.t rfl) (wp_seq_k fun _ hK3 => Zw S (by kernel_rfl) (by kernel_rfl) fun a S => qrun S (.mv rfl <| .mv rfl <| .ad (by unfold I64; omega) rfl <| .z) fun a S => ?_)))
 rw [rw_n] at S
 refine qrun S (.yy (ys_slStrLo underlying9 (.t rfl) (.t rfl) (fun _ => by first | omega | (simp; done) | (simp; omega))) rfl <| .z) fun a S => ?_
 rw [rw_d3] at S
 refine qrun S (.mv rfl <| .mv rfl <| .yy (ys_ixStr underlying9 (.t rfl) (.t rfl) (fun _ => by assumption)) rfl <| .xx (Zh call232 (.cons (.t rfl) (.cons (.t rfl) .nil)) (fun hp w W => c232 _ _ _)) rfl <| .z) fun a S => ?_
 rw [rw_e] at S
 refine qrun S (.as rfl <| .z) fun a S => ?_
 (refine Yv ?_; intro w W; replace S := St.mk S W; clear W)
 refine Za (hK3 _ _ (wp_seq_k fun _ hK3 => sg S (.mv rfl <| .yy (Yu (by omega) (Yq (.t rfl) Ev.c)) rfl <| .z) fun a w S => Zg S (.t rfl) (sg S (.ac rfl <| .z) fun a w S => wp_ret (Ze (Ze ?_)))))
 refine jump_ret ?_
 refine Zr (Ze (Zr (Ze ?_)))
 refine jump_ret ?_
 refine Zr (Zj S (results1 S results213 (Rv.tmp rfl)) ?_)
 exact ⟨rfl, S.wd.below⟩
theorem rune_g (w0 : World) (r : Nat) (hr : r ≤ 2147483647) (h1 : ¬ r < 128) (h2 : ¬ r = 65533) (rw_v : validR r = true) (x y z u : UInt8) (hl : Utf8.encode (r : Int) = bs [x, y, z, u]) : Calls Tryz.prog 213 #[.string (bs [45, 95, 46]), .int .i32 (r : Int)] w0 fun e w' => e = .returned (.int .i64 (-1)) ∧ Bel w0.heap.size w0 w' := by
 have hs1 : ([45, 95, 46] : List UInt8)[1]? = some 95 := rfl
 have hs2 : ([45, 95, 46] : List UInt8)[2]? = some 46 := rfl
 have rw_l0 : (([45, 95, 46] : List UInt8).length : Int) = ((3 : Nat) : Int) := rfl
 have rw_k1 : (((95 : UInt8).toNat : Nat) : Int) = 95 := rfl
 have rw_k2 : (((46 : UInt8).toNat : Nat) : Int) = 46 := rfl
 have rw_d2 : List.drop 2 ([45, 95, 46] : List UInt8) = [46] := rfl
 have rw_d3 : List.drop 3 ([45, 95, 46] : List UInt8) = [] := rfl
 have rw_l : (([x, y, z, u] : List UInt8).length : Int) = 4 := rfl
 have rw_m : (4 : Int) - 1 = 3 := rfl
 refine enter2 func213 rfl ntmps213 rfl fun a S => sg S (.ac rfl <| .z) fun a w S => wp_block (sg S (.mv rfl <| .yy (Yu (by omega) (Xb Ev.c (.t rfl))) rfl <| .mv rfl <| .gy rfl rfl (Zd (.t rfl)) <| .gy rfl rfl (Ym (by omega) (Yq (.t rfl) Ev.c)) <| .yy (Zt (.t rfl) (.t rfl)) rfl <| .as rfl <| .z) fun a w S => Zf S (.t rfl) (sg S (.mv rfl <| .yy (Ym (by omega) (Yd (.t rfl) Ev.c)) rfl <| .as rfl <| .z) fun a w S => Zf S (.t rfl) (wp_seq_k fun _ hK1 => wp_region_lit (run S (.mv rfl <| .xx (Zh call233 (.cons (.t rfl) .nil) (fun hp w W => c233 _ _)) rfl <| .z) fun a w S => ?_))))
 rw [rw_v] at S
 refine run S (.nt rfl <| .as rfl <| .z) fun a w S => Zb (Za (hK1 _ _ (Zf S (.t rfl) (st_scope 1 (fun _ _ => False) rfl (sg S (.mv rfl <| .yy (ys_runeS _ underlying21 underlying9 (.t rfl) hl) rfl <| .as rfl <| .z) fun a w S => wp_seq_k fun _ hK1 => wp_region_lit (run S (.mv rfl <| .yy (Xs underlying9 (.t rfl)) rfl <| .z) fun a w S => ?_)) (fun a w h => h.elim)))))
 rw [rw_l] at S
 refine run S (.yy (Xk (.t rfl) Ev.c (by omega)) rfl <| .as rfl <| .z) fun a w S => Zb (Za (hK1 _ _ (sg S (.mv rfl <| .as rfl <| .z) fun a w S => sg S (.ac rfl <| .z) fun a w S => wp_seq_k fun _ hK1 => wp_block (Wk 4 (Yy (wp_seq_k fun _ hK2 => wp_seq_k fun _ hK3 => wp_region_lit (run S (.mv rfl <| .mv rfl <| .yy (Xs underlying9 (.t rfl)) rfl <| .z) fun a w S => ?_)))))))
 rw [rw_l0] at S
 refine run S (.ge (by omega) rfl rfl <| .z) fun a w S => Zb (Za (hK3 _ _ (Zf S (.t rfl) (wp_exit (Zi (Zi (Zy (Za (hK1 _ _ (wp_seq_k fun _ hK1 => sg S (.ac rfl <| .z) fun a w S => wp_ret (Ze ?_)))))))))))
 refine jump_ret ?_
 refine Zr (Zj S (results1 S results213 (Rv.tmp rfl)) ?_)
 exact ⟨rfl, S.wd.below⟩
theorem c213 (w0 : World) (r : Nat) (hr : r ≤ 2147483647) : Calls Tryz.prog 213 #[.string (bs [45, 95, 46]), .int .i32 (r : Int)] w0 fun e w' => e = .returned (.int .i64 (inDash r)) ∧ Bel w0.heap.size w0 w' := by
 by_cases h1 : r < 128
 · have e : inDash r = Lib.indexByte [45, 95, 46] (b8 (r : Int)) := by unfold inDash; rw [if_pos h1, b8_nat h1]
   rw [e]
   exact rune_a w0 r h1 _ rfl
 have e : inDash r = -1 := by unfold inDash; rw [if_neg h1]
 rw [e]
 by_cases h2 : r = 65533
 · exact rune_b w0 r h1 h2
 cases hv : validR r with
 | false => exact rune_c w0 r hr h1 h2 hv
 | true =>
   rcases rune_forms (p := (r : Int)) (by omega) with ⟨x, y, hl, hy⟩ | ⟨x, y, z, hl, hy⟩ | ⟨x, y, z, u, hl⟩
   · exact rune_d w0 r hr h1 h2 hv x y hl hy
   · exact rune_e w0 r hr h1 h2 hv x y z hl hy
   · exact rune_g w0 r hr h1 h2 hv x y z u hl
theorem c186 (w0 : World) (r : Nat) (hr : r ≤ 2147483647) : Calls Tryz.prog 186 #[.string (bs [45, 95, 46]), .int .i32 (r : Int)] w0 fun e w' => e = .returned (.bool (decide (0 ≤ inDash r))) ∧ Bel w0.heap.size w0 w' := by
 refine enter2 func186 rfl ntmps186 rfl fun a S => sg S (.ac rfl <| .z) fun a w S => sg S (.mv rfl <| .mv rfl <| .xx (Zh call213 (.cons (.t rfl) (.cons (.t rfl) .nil)) (fun hp w W => c213 _ _ (by assumption))) rfl <| .yy (Xd (.t rfl) Ev.c) rfl <| .as rfl <| .z) fun a w S => wp_ret (Zj S (results1 S results186 (Rv.tmp rfl)) ?_)
 exact ⟨rfl, S.wd.below⟩
theorem c185 (w0 : World) (r : Nat) (hr : r ≤ 2147483647) : Calls Tryz.prog 185 #[.int .i32 (r : Int)] w0 fun e w' => e = .returned (.bool (otherR r)) ∧ Bel w0.heap.size w0 w' := by
 have key : decide (0 ≤ inDash r) = (decide (r = 45) || decide (r = 95) || decide (r = 46)) := by
   unfold inDash
   by_cases h : r < 128
   · rw [if_pos h]
     exact dash_small ⟨r, h⟩
   · rw [if_neg h, Eq.comm]
     simp
     omega
 refine enter1 func185 rfl ntmps185 rfl fun a S => sg S (.ac rfl <| .z) fun a w S => wp_seq_k fun _ hK1 => wp_region_lit (run S (.mv rfl <| .yy (Xd (.t rfl) Ev.c) rfl <| .mv rfl <| .z) fun a w S => Yg S rfl rfl (Yr.ys (Zd (.t rfl))) rfl fun a w S => Yg S rfl rfl (Yr.ys (Xb (Ev.g rfl) Ev.c)) rfl fun a w S => run S (.yy (Xn (.t rfl) (Ev.g rfl) Ev.c) rfl <| .mv rfl <| .z) fun a w S => Xa S rfl rfl (Yr.ys (Zd (.t rfl))) rfl fun a w S => Xa S rfl rfl (Yr.ys (Xd (Ev.g rfl) Ev.c)) rfl fun a w S => Xa S rfl rfl (Yr.ys (Zd (Ev.g rfl))) rfl fun a w S => st_yg2 S rfl rfl (Yr.ys (Zd (.t rfl))) rfl fun a w S => st_yg2 S rfl rfl (Yr.ys (Xb (Ev.g rfl) Ev.c)) rfl fun a w S => Xa S rfl rfl (Yr.ys (ys_and2 (Ev.g rfl) (Ev.g rfl) Ev.c)) rfl fun a w S => run S (.yy (Ww (.t rfl) Ev.c (Ev.g rfl)) rfl <| .mv rfl <| .z) fun a w S => Xa S rfl rfl (Yr.ys (Zd (.t rfl))) rfl fun a w S => Xa S rfl rfl (Yr.ys (Xd (Ev.g rfl) Ev.c)) rfl fun a w S => Xa S rfl rfl (Yr.ys (Zd (Ev.g rfl))) rfl fun a w S => st_yg2 S rfl rfl (Yr.ys (Zd (.t rfl))) rfl fun a w S => st_yg2 S rfl rfl (Yr.ys (Xb (Ev.g rfl) Ev.c)) rfl fun a w S => Xa S rfl rfl (Yr.ys (ys_and2 (Ev.g rfl) (Ev.g rfl) Ev.c)) rfl fun a w S => run S (.yy (Ww (.t rfl) Ev.c (Ev.g rfl)) rfl <| .mv rfl <| .z) fun a w S => ?_)
 refine Xa S rfl rfl (Yr.ys (Zd (.t rfl))) rfl fun a w S => Xa S rfl rfl (Zh call186 (.cons Ev.c (.cons (Ev.g rfl) .nil)) (fun hp w W => c186 _ _ (by assumption))) rfl fun a w S => run S (.yy (Ww (.t rfl) Ev.c (Ev.g rfl)) rfl <| .nt rfl <| .as rfl <| .z) fun a w S => Zb (Za (hK1 _ _ (wp_ret (Zj S (results1 S results185 (Rv.tmp rfl)) ?_))))
 refine ⟨?_, S.wd.below⟩
 rw [key]
 unfold otherR
 congr 3
 have e1 : decide ((97 : Int) ≤ (r : Int)) = decide (97 ≤ r) := decide_eq_decide.2 (by omega)
 have e2 : decide ((r : Int) ≤ 122) = decide (r ≤ 122) := decide_eq_decide.2 (by omega)
 have e3 : decide ((65 : Int) ≤ (r : Int)) = decide (65 ≤ r) := decide_eq_decide.2 (by omega)
 have e4 : decide ((r : Int) ≤ 90) = decide (r ≤ 90) := decide_eq_decide.2 (by omega)
 have e5 : decide ((48 : Int) ≤ (r : Int)) = decide (48 ≤ r) := decide_eq_decide.2 (by omega)
 have e6 : decide ((r : Int) ≤ 57) = decide (r ≤ 57) := decide_eq_decide.2 (by omega)
 rw [e1, e2, e3, e4, e5, e6]
 simp only [Bool.or_assoc]
theorem c214 (w0 : World) (s : List UInt8) : Calls Tryz.prog 214 #[.string (bs s), .func (.func 185) #[] #[], .bool true] w0 fun e w' => e = .returned (.int .i64 (idxR otherR s s.length 0)) ∧ Bel w0.heap.size w0 w' := by
 refine enter3 func214 rfl ntmps214 rfl fun a S => sg S (.ac rfl <| .z) fun a w S => wp_seq_k fun _ hK1 => wp_seq_k fun _ hK2 => wp_region_lit (run S (.mv rfl <| .z) fun a w S => Zk (op_rangeS S underlying9 (.t rfl) rfl fun g1 a w S => Zb (Za (hK2 _ _ (wp_block ?_)))))
 refine Xe S [7, 8] (X := Nat × Nat) (fun q => []) (fun q => [.blk g1 (.stringIter (bs s) q.1)])
   (fun q => idxR otherR s q.2 q.1 = idxR otherR s s.length 0 ∧ s.length ≤ q.1 + q.2) (fun q => s.length + 1 - q.1) (0, s.length) ⟨rfl, by simp⟩ ?_
 clear S
 rintro ⟨p, f⟩ a w ⟨h1, h2⟩ S
 dsimp only at h1 h2 S
 refine wp_seq_k fun _ hK2 => wp_region_lit ?_
 refine Zk (op_nextS S (.t rfl) (i := 0) rfl rfl (fun h => ?_) (fun h => ?_))
 · clear S a w
   intro a w S
   refine run S (.ex rfl rfl <| .z) fun a w S => Zb (Za (hK2 _ _ (wp_seq_k fun _ hK2 => Zf S (.t rfl) (wp_exit (Zi (Zi (Zy (Za (hK1 _ _ (sg S (.ac rfl <| .z) fun a w S => wp_ret (Zj S (results1 S results214 (Rv.tmp rfl)) ?_)))))))))))
   exact ⟨by rw [← h1, idxR_end h], S.wd.below⟩
 · clear S a w
   intro a w S
   have hw := Lib.width_pos (bs s) p
   have hru := Lib.rune_le (bs s) p
   obtain ⟨f', rfl⟩ : ∃ f', f = f' + 1 := ⟨f - 1, by omega⟩
   rw [idxR, if_pos h] at h1
   generalize (Utf8.decode (bs s) p).1 = R at *
   generalize (Utf8.decode (bs s) p).2 = W at *
   cases rw_o : otherR R with
   | true =>
     refine run S (.ex rfl rfl <| .z) fun a w S => Zb (Za (hK2 _ _ (wp_seq_k fun _ hK2 => Zg S (.t rfl) (wp_skip (Za (hK2 _ _ (wp_block (sg S (.ex rfl rfl <| .ex rfl rfl <| .as rfl <| .as rfl <| .z) fun a w S => wp_seq_k fun _ hK2 => wp_region_lit (run S (.mv rfl <| .mv rfl <| .xx (ys_callV (.t rfl) call185 (.cons (.t rfl) .nil) (fun hp w W => c185 _ _ (by omega))) rfl <| .z) fun a w S => ?_)))))))))
     simp only [List.nil_append] at S
     rw [rw_o] at S
     refine run S (.mv rfl <| .yy (ys_eqlB underlying4 (.t rfl) (.t rfl)) rfl <| .z) fun a w S => Zb (Za (hK2 _ _ (Zg S (.t rfl) (sg S (.mv rfl <| .as rfl <| .z) fun a w S => wp_ret (Zr (Ze (Zr (Ze (Zj S (results1 S results214 (Rv.tmp rfl)) ?_)))))))))
     exact ⟨by rw [← h1, if_pos rw_o], S.wd.below⟩
   | false =>
     refine run S (.ex rfl rfl <| .z) fun a w S => Zb (Za (hK2 _ _ (wp_seq_k fun _ hK2 => Zg S (.t rfl) (wp_skip (Za (hK2 _ _ (wp_block (sg S (.ex rfl rfl <| .ex rfl rfl <| .as rfl <| .as rfl <| .z) fun a w S => wp_seq_k fun _ hK2 => wp_region_lit (run S (.mv rfl <| .mv rfl <| .xx (ys_callV (.t rfl) call185 (.cons (.t rfl) .nil) (fun hp w W => c185 _ _ (by omega))) rfl <| .z) fun a w S => ?_)))))))))
     simp only [List.nil_append] at S
     rw [rw_o] at S
     refine run S (.mv rfl <| .yy (ys_eqlB underlying4 (.t rfl) (.t rfl)) rfl <| .z) fun a w S => Zb (Za (hK2 _ _ (Zf S (.t rfl) (wp_skip (Zm (Za ?_))))))
     exact ⟨(p + W, f'), ⟨by rw [← h1, if_neg (by simp [rw_o])], by dsimp only; omega⟩, by dsimp only; omega, S.pk⟩
theorem c187 (w0 : World) (s : List UInt8) : Calls Tryz.prog 187 #[.string (bs s), .func (.func 185) #[] #[]] w0 fun e w' => e = .returned (.int .i64 (idxR otherR s s.length 0)) ∧ Bel w0.heap.size w0 w' := by
 refine enter2 func187 rfl ntmps187 rfl fun a S => sg S (.ac rfl <| .z) fun a w S => sg S (.mv rfl <| .mv rfl <| .xx (Zh call214 (.cons (.t rfl) (.cons (.t rfl) (.cons Ev.c .nil))) (fun hp w W => c214 _ _)) rfl <| .as rfl <| .z) fun a w S => wp_ret (Zj S (results1 S results187 (Rv.tmp rfl)) ?_)
 exact ⟨rfl, S.wd.below⟩
theorem c157 (w0 : World) (s : List UInt8) : Calls Tryz.prog 157 #[.string (bs s)] w0 fun e w' => e = .returned (.bool (nameB s)) ∧ Bel w0.heap.size w0 w' := by
 refine enter1 func157 rfl ntmps157 rfl fun a S => sg S (.ac rfl <| .z) fun a w S => sg S (.yy (Yb Ev.f) rfl <| .z) fun a w S => wp_seq_k fun _ hK1 => wp_region_lit (run S (.mv rfl <| .yy (Xt (.t rfl) Ev.c) rfl <| .mv rfl <| .z) fun a w S => Yg S rfl rfl (Yr.ys (Zd (.t rfl))) rfl fun a w S => Yg S rfl rfl (Yr.ys (Xs underlying9 (Ev.g rfl))) rfl fun a w S => Yg S rfl rfl (Yr.ys (Xb (Ev.g rfl) Ev.c)) rfl fun a w S => run S (.yy (Xn (.t rfl) (Ev.g rfl) Ev.c) rfl <| .mv rfl <| .z) fun a w S => Yg S rfl rfl (Yr.ys (Zd (.t rfl))) rfl fun a w S => Yg S rfl rfl (Yr.ys (Zd (.t rfl))) rfl fun a w S => Yg S rfl rfl (Zh call187 (.cons (Ev.g rfl) (.cons (Ev.g rfl) .nil)) (fun hp w W => c187 _ _)) rfl fun a w S => Yg S rfl rfl (Yr.ys (Yq (Ev.g rfl) Ev.c)) rfl fun a w S => run S (.yy (Xn (.t rfl) (Ev.g rfl) Ev.c) rfl <| .as rfl <| .z) fun a w S => Zb (Za (hK1 _ _ (wp_ret (Zj S (results1 S results157 (Rv.tmp rfl)) ?_)))))
 refine ⟨?_, S.wd.below⟩
 have h := name_idx s
 have e1 : decide ((s.length : Int) ≤ 32) = decide (s.length ≤ 32) := decide_eq_decide.2 (by omega)
 rw [h, e1]
 rfl
end Go.Proofs.YtakpdbmdfnialaaGreat
namespace Go.Fw
open Go.Proofs Go.RowKit
section
variable {P : Program} {ops : Array Oper} {Q : Exit → Act → World → Prop} {a : Act} {w : World} {lp m : Nat}
theorem upon_round {o : Oper} {K : Act → World → Prop} {r : Result Next} (h : o.upon P a K Q r) : o.uponIn (Fence.wide.inRound lp) m P a K Q r := by
 cases r with
 | ok x w' =>
   cases x <;> simp only [Oper.upon, Oper.uponIn] at h ⊢ <;> first | exact h | skip
   · refine ⟨fun h => by simp [Fence.wide] at h, ?_⟩
     exact (callsIn_wide (n := m - 1)).2 h
   · refine ⟨fun h => by simp [Fence.wide] at h, fun c cs _ => ?_⟩
     obtain ⟨v, w', r, s⟩ := h c cs
     exact ⟨v, w', r, stepsIn_wide.2 s⟩
 | halt x w' => cases x <;> simp only [Oper.upon, Oper.uponIn] at h ⊢ <;> exact h
def noDefer (o : Oper) : Bool := match o.op with
 | .defer _ => false
 | _ => true
theorem wp_round {o : Oper} {K : Act → World → Prop} (hd : noDefer o = true) (h : o.wp P a w K Q) : o.wpIn (Fence.wide.inRound lp) m P a w K Q := by
 refine ⟨fun _ _ => trivial, ?_⟩
 rw [Fence.inRound_round, Oper.semAt_some lp _ _ (fun c hc => by unfold noDefer at hd; rw [hc] at hd; cases hd)]
 exact upon_round h
theorem wpOps_round (hnd : ops.all noDefer = true) (hlo : ¬ LetsOut Q) : ∀ (l : List Nat) (a : Act) (w : World), wpOps P ops Q l a w → wpOpsIn (Fence.wide.inRound lp) m P ops Q l a w
 | [], a, w, h => h
 | i :: rest, a, w, h => by
   unfold wpOps at h
   unfold wpOpsIn
   cases ho : ops[i]? with
   | none => rw [ho] at h; exact wpOps_round hnd hlo rest a w h
   | some o =>
     rw [ho] at h
     have hd : noDefer o = true := by
       obtain ⟨hi, e⟩ := Array.getElem?_eq_some_iff.1 ho
       exact e ▸ (Array.all_eq_true.1 hnd i hi)
     dsimp only at h ⊢
     split
     · rename_i hw
       rw [if_pos hw] at h
       rcases h with h | h
       · exact Oper.wpIn_mono (fun a w h => wpOps_round hnd hlo rest a w h) (wp_round hd h)
       · exact absurd h.2 hlo
     · rename_i hw
       rw [if_neg hw] at h
       exact ⟨fun _ _ => trivial, wpOps_round hnd hlo rest _ w h⟩
theorem lets_block {i : Nat} (h : ¬ LetsOut Q) : ¬ LetsOut (Exit.inBlock i Q) := fun ⟨a, w, h'⟩ => h ⟨a, w, h'⟩
theorem region_round {id : Nat} {l : List Oper} (hnd : l.toArray.all noDefer = true) (hlo : ¬ LetsOut Q) (h : wpList P l.toArray Q l a w) : (Code.region id l.toArray false).wpIn (Fence.wide.inRound lp) m P Q a w :=
 wpIn_region (wpOps_round hnd hlo _ _ _ (by rw [List.range_eq_range', ← Array.length_toList, wpOps_eq_wpList l.toArray.toList 0 (by simp)]; simpa using h))
end
section
variable {P : Program} {ops : Array Oper} {Q : Exit → Act → World → Prop} {md : Region.Mode} {S : World → Prop} {m : Nat}
theorem YieldsIf.wpOpI {i : Nat} {o : Oper} {v : Value} {a : Act} (hi : ops[i]? = some o) (hy : YieldsIf P ops S o v a)
   {K : Act → World → Prop} {w : World} (hS : S w) (h : K (a.put o.dst v) w) : wpOpIn Fence.wide m P ops Q i K a w := by
 unfold Go.wpOpIn
 simp only [hi]
 rcases hy with ⟨hw, hv⟩ | ⟨hw, rfl⟩
 · simp only [hw, if_true, Oper.wpIn]
   refine ⟨fun _ _ => trivial, ?_⟩
   rw [show Oper.semAt Fence.wide.round a.eval o = execOp a.eval o from rfl, hv w hS]
   exact h
 · simp only [hw, Bool.false_eq_true, if_false]; exact ⟨fun _ _ => trivial, h⟩
theorem wpOpI_put {j : Nat} {oi oj : Oper} {v : Value} (hj : ops[j]? = some oj) (hap : oi.apart ops oj = true)
   (hsi : ∀ cs b, oi.op ≠ .select cs b) (hsj : ∀ cs b, oj.op ≠ .select cs b)
   (hQ : ∀ c a w, Q (.panic c) (a.put oi.dst v) w → Q (.panic c) a w) {K : Act → World → Prop} {a : Act} {w : World}
   (hy : YieldsIf P ops S oi v a) (h : wpOpIn Fence.wide m P ops Q j K (a.put oi.dst v) w) :
   wpOpIn Fence.wide m P ops Q j (fun a' w' => YieldsIf P ops S oi v a' ∧ K (a'.put oi.dst v) w') a w := by
 obtain ⟨h1, h2, h3⟩ := Oper.apart_spec hap
 have keep : ∀ (a : Act), YieldsIf P ops S oi v a → ∀ u, YieldsIf P ops S oi v (a.put oj.dst u) := fun a hy u =>
   hy.of_same (execOp_put oi hsi a oj.dst u h3) (wanted_put oi a oj.dst u h3)
 have keepD : ∀ d, YieldsIf P ops S oi v { a with defers := d :: a.defers } := fun d => hy.of_same rfl rfl
 unfold wpOpIn at *
 simp only [hj] at *
 rw [wanted_put oj a oi.dst v h1] at h
 split
 · rename_i hw
   simp only [hw, if_true] at h
   refine ⟨fun _ _ => trivial, ?_⟩
   obtain ⟨_, h⟩ := h
   rw [show Oper.semAt Fence.wide.round (a.put oi.dst v).eval oj = execOp (a.put oi.dst v).eval oj from rfl, execOp_put oj hsj a oi.dst v h1] at h
   rw [show Oper.semAt Fence.wide.round a.eval oj = execOp a.eval oj from rfl]
   generalize (execOp a.eval oj).run P w = r at *
   cases r with
   | ok n w' =>
     cases n <;> simp only [Oper.uponIn] at h ⊢
     case value u => exact ⟨keep a hy u, by rw [← Act.put_comm a v u h2]; exact h⟩
     case skip => exact ⟨keep a hy _, by rw [← Act.put_comm a v undef h2]; exact h⟩
     case defer d =>
       refine ⟨keep _ (keepD d) _, ?_⟩
       rw [← Act.put_comm _ v undef h2, ← Act.put_defers]
       exact h
     case enter f args =>
       refine ⟨h.1, CallsIn.mono h.2 fun e w'' he => ?_⟩
       cases e with
       | returned u => exact ⟨keep a hy u, by rw [← Act.put_comm a v u h2]; exact he⟩
       | panicked c => exact hQ _ _ _ he
       | outgrown => exact he
     case row row args => exact ⟨h.1, RowsIn.mono h.2 fun u w'' he => ⟨keep a hy u, by rw [← Act.put_comm a v u h2]; exact he⟩⟩
     case round l f tmps assign body =>
       refine ⟨h.1, RoundIn.mono h.2 fun e w'' he => ?_⟩
       cases e with
       | returned u => exact ⟨keep a hy u, by rw [← Act.put_comm a v u h2]; exact he⟩
       | panicked c => exact hQ _ _ _ he
       | outgrown => exact he
   | halt x w' =>
     cases x <;> simp only [Oper.uponIn] at h ⊢
     case panic u => exact hQ _ _ _ h
 · rename_i hw
   simp only [hw] at h
   exact ⟨fun _ _ => trivial, keep a hy _, by rw [← Act.put_comm a v undef h2]; exact h.2⟩
def wpAnyI (m : Nat) (P : Program) (md : Region.Mode) (ops : Array Oper) (Q : Exit → Act → World → Prop) (S : World → Prop) : Nat → Array Bool → Act → World → Prop
 | 0, listed, a, w => Region.ready md ops listed = [] ∧ Q .normal a w
 | fuel + 1, listed, a, w =>
   (Region.ready md ops listed = [] → Q .normal a w) ∧
   ∀ i ∈ Region.ready md ops listed, wpOpIn Fence.wide m P ops Q i (fun a' w' => S w' ∧ wpAnyI m P md ops Q S fuel (listed.setIfInBounds i true) a' w') a w
theorem wpAny_of_I : ∀ (fuel : Nat) (listed : Array Bool) (a : Act) (w : World), wpAnyI m P md ops Q S fuel listed a w → wpAnyIn Fence.wide m P md ops Q fuel listed a w
 | 0, _, _, _, h => h
 | fuel + 1, _, _, _, h => ⟨h.1, fun i hi => wpOpIn_mono (fun a' w' h' => wpAny_of_I fuel _ a' w' h'.2) (h.2 i hi)⟩
theorem wpAnyI_first {i : Nat} {oi : Oper} {v : Value} (hi : ops[i]? = some oi) (hsel : ∀ (j : Nat) (o : Oper) cs b, ops[j]? = some o → o.op ≠ .select cs b)
   (hQ : ∀ c a w, Q (.panic c) (a.put oi.dst v) w → Q (.panic c) a w) :
   ∀ (fuel : Nat) (listed : Array Bool) (a : Act) (w : World),
     (∀ j oj, ops[j]? = some oj → j ≠ i → listed.getD j true = false → (∀ e ∈ oj.after, Region.binds md e = true → e.on ≠ i) → oi.apart ops oj = true) →
     i ∈ Region.ready md ops listed → YieldsIf P ops S oi v a → S w →
     wpAnyI m P md ops Q S fuel (listed.setIfInBounds i true) (a.put oi.dst v) w → wpAnyI m P md ops Q S (fuel + 1) listed a w := by
 intro fuel
 induction fuel with
 | zero =>
   intro listed a w _ hr hy hS H
   refine ⟨fun h => (by rw [h] at hr; cases hr), fun j hj => ?_⟩
   by_cases hji : j = i
   · subst hji; exact YieldsIf.wpOpI hi hy hS ⟨hS, H⟩
   · have := ready_mono hj hji
     rw [H.1] at this
     cases this
 | succ fuel ih =>
   intro listed a w hfree hr hy hS H
   refine ⟨fun h => (by rw [h] at hr; cases hr), fun j hj => ?_⟩
   by_cases hji : j = i
   · subst hji; exact YieldsIf.wpOpI hi hy hS ⟨hS, H⟩
   · have h1 := H.2 j (ready_mono hj hji)
     obtain ⟨hjun, oj, hoj, hall⟩ := mem_ready.1 hj
     have hnot : ∀ e ∈ oj.after, Region.binds md e = true → e.on ≠ i := fun e he hb heq => by
       have h1 := hall e he hb
       have h0 := (mem_ready.1 hr).1
       rw [heq] at h1
       rcases Nat.lt_or_ge i listed.size with h' | h'
       · simp [h'] at h0 h1; rw [h0] at h1; cases h1
       · simp [Array.getElem?_eq_none h'] at h1
     have h2 := wpOpI_put hoj (hfree j oj hoj hji hjun hnot) (fun cs b => hsel i oi cs b hi) (fun cs b => hsel j oj cs b hoj) hQ hy h1
     have hfree' : ∀ k ok, ops[k]? = some ok → k ≠ i → (listed.setIfInBounds j true).getD k true = false →
         (∀ e ∈ ok.after, Region.binds md e = true → e.on ≠ i) → oi.apart ops ok = true := fun k ok hk hki hun hno => by
       refine hfree k ok hk hki ?_ hno
       by_cases hjk : j = k
       · subst hjk; exact hjun
       · rw [getD_set_ne true hjk] at hun; exact hun
     refine wpOpIn_mono (fun a' w' h3 => ⟨h3.2.1, ih (listed.setIfInBounds j true) a' w' hfree' (ready_mono hr (Ne.symm hji)) h3.1 h3.2.1 ?_⟩) h2
     rw [Array.setIfInBounds_comm _ _ hji]
     exact h3.2.2
theorem wpAnyI_all {rs : List Nat} {fuel : Nat} {listed : Array Bool} {a : Act} {w : World} (hr : Region.ready md ops listed = rs) (hne : rs ≠ [])
   (h : ∀ i ∈ rs, wpOpIn Fence.wide m P ops Q i (fun a' w' => S w' ∧ wpAnyI m P md ops Q S fuel (listed.setIfInBounds i true) a' w') a w) : wpAnyI m P md ops Q S (fuel + 1) listed a w :=
 ⟨fun h0 => absurd (hr ▸ h0) hne, hr ▸ h⟩
theorem wpAnyI_done {listed : Array Bool} {a : Act} {w : World} (hr : Region.ready md ops listed = []) (h : Q .normal a w) :
   ∀ fuel, wpAnyI m P md ops Q S fuel listed a w
 | 0 => ⟨hr, h⟩
 | _ + 1 => ⟨fun _ => h, by rw [hr]; simp⟩
theorem region_yields {id : Nat} {a : Act} {w : World} (m : Nat) (S : World → Prop) (hm : P.follows .mixedOrders = true)
   (h : wpAnyI m P .any ops Q S ops.size (Array.replicate ops.size false) a { w with drawn := w.drawn + 1 }) : (Code.region id ops true).wp P Q a w :=
 wpIn_wide.1 (wpIn_region_any hm (wpAny_of_I _ _ _ _ h))
variable {n : Nat} {w0 : World} {K : KL} {L Lr : List Chunk} {a : Act} {w : World} {fuel i d : Nat} {listed : Array Bool} {op : Op} {ty : TypeId} {pos : String} {aft : Array Edge} {v : Value}
def Yielded (m : Nat) (P : Program) (l : Nat) (args : Array Value) (W : World) (R : Ending → World → Prop) : Prop :=
 ∃ fn tmps assign body, (Instr.yield l args).run P W = .ok (.round l fn tmps assign body) W ∧ RoundIn Fence.wide m P l fn tmps assign body W R
theorem i_y (S : St n w0 K L a w) (hsub : Lr.Sublist L) (hi : ops[i]? = some ⟨some d, op, ty, pos, aft, none⟩) (hs : Region.noSelect ops = true) (hf : Region.free md ops listed i = true) (hr : (Region.ready md ops listed).contains i = true)
   (hQ : ∀ v c a w, Q (.panic c) (a.put (some d) v) w → Q (.panic c) a w) (hy : Yr P ⟨some d, op, ty, pos, aft, none⟩ n K w0 Lr true v) (hd : Nat.blt d n = true)
   (next : ∀ a w, St n w0 ((d, true, v) :: K) L a w → wpAnyI m P md ops Q (Wd w0 Lr) fuel (listed.setIfInBounds i true) a w) : wpAnyI m P md ops Q (Wd w0 Lr) (fuel + 1) listed a w :=
 wpAnyI_first hi (Region.noSelect_spec hs) (hQ v) fuel listed a w (Region.free_spec hi hf) (by simpa using hr) (.inl ⟨rfl, fun w hw => hy a w rfl S.kn hw⟩) (S.wd.sub hsub) (next _ _ ⟨S.kn.put hd v, S.wd⟩)
theorem i_yield {x : Operand} {xs : List Operand} {ts : Array TypeId} {vs : List Value} {lp : Nat} (S : St n w0 K L a w) (hi : ops[i]? = some ⟨some d, .call ⟨.value x, xs.toArray, ts⟩, ty, pos, aft, none⟩) (hr : Region.ready md ops listed = [i]) (hd : Nat.blt d n = true)
   (hx : Ev n true K x (.func (.yield lp) #[] #[])) (hxs : EvL n true K xs vs)
   {R : World → Prop} (hY : Yielded (m - 1) P lp vs.toArray w fun e w' => e = .returned (.bool true) ∧ R w')
   (next : ∀ a w', R w' → Kn n ((d, true, .bool true) :: K) a → Wd w0 Lr w' ∧ wpAnyI m P md ops Q (Wd w0 Lr) fuel (listed.setIfInBounds i true) a w') : wpAnyI m P md ops Q (Wd w0 Lr) (fuel + 1) listed a w := by
 refine wpAnyI_all hr (by simp) fun k hk => ?_
 simp only [List.mem_singleton] at hk
 subst hk
 unfold wpOpIn
 simp only [hi, Region.wanted, if_true]
 refine ⟨fun _ _ => trivial, ?_⟩
 obtain ⟨fn, tmps, assign, body, hrun, hR⟩ := hY
 have e : (xs.toArray.map a.eval) = vs.toArray := by rw [List.map_toArray, hxs a rfl S.kn]
 have he : (Oper.semAt Fence.wide.round a.eval ⟨some d, .call ⟨.value x, xs.toArray, ts⟩, ty, pos, aft, none⟩).run P w = .ok (.round lp fn tmps assign body) w := by
   have e2 : ∀ o, Oper.semAt Fence.wide.round a.eval o = execOp a.eval o := fun _ => rfl
   rw [e2]
   simp only [execOp, resolve, e, hx a rfl S.kn]
   simp [Deferred.ofValue, invoke, hrun]
 rw [he]
 refine ⟨fun h => by simp [Fence.wide] at h, RoundIn.mono hR fun en w' ⟨h1, h2⟩ => ?_⟩
 subst h1
 exact next _ _ h2 (S.kn.put hd _)
end
section
variable {P : Program} {n : Nat} {w0 : World} {K : KL} {L : List Chunk} {a : Act} {w : World} {Q : Exit → Act → World → Prop}
abbrev recR (st : LoopState) (fn : FuncId) (tmps : Array Value) (ps : Array Tmp) (assign body : Code) (D : Nat) : Loop := { state := st, pending := none, fn, tmps, params := ps, assign, body, defers := D }
abbrev loopK (lp D : Nat) (r : Loop) (L : List Chunk) : List Chunk := .blk lp (.loop r) :: .blk D (.deferred (some [])) :: L
theorem st_range {x : Operand} {ps : Array Tmp} {assign body : Code} {gf : Nat} {lb : List Value} (m : Nat) (S : St n w0 K L a w) (hx : Ev n true K x (.func (.func gf) #[] lb.toArray)) (eg : ∀ args w, (callFunc gf args).run P w = .ok (.enter gf args) w)
   {R : Nat → World → Prop}
   (call : ∀ fn lp D W, Wd w0 (loopK lp D (recR .ready fn a.tmps ps assign body D) L) W → Calls P gf (.func (.yield lp) #[] #[] :: lb).toArray W fun e W' => (∃ v, e = .returned v) ∧ W'.heap[lp]? = some (.loop (recR .ready fn a.tmps ps assign body D)) ∧ R D (W'.putObj lp (.loop (recR .exhausted fn a.tmps ps assign body D))))
   (next : ∀ D W', R D W' → Q .normal { a with defers := [{ target := .collected D, args := #[] }] } W') : (Code.rangeFunc x ps assign body).wp P Q a w := by
 refine (wpIn_wide (n := m)).1 (wpIn_rangeFunc ?_)
 intro fn hfn
 have hg := hx a rfl S.kn
 have hd := S.kn.defers
 have W1 := (S.wd.alloc (.deferred (some []))).alloc (.loop (recR .ready fn a.tmps ps assign body w.heap.size))
 rw [World.size_alloc] at W1
 refine ⟨w.heap.size + 1, [{ target := .collected w.heap.size, args := #[] }], (w.alloc (.deferred (some []))).alloc (.loop (recR .ready fn a.tmps ps assign body w.heap.size)), { target := .fn (.func gf) lb.toArray, args := #[.func (.yield (w.heap.size + 1)) #[] #[]] }, (w.alloc (.deferred (some []))).alloc (.loop (recR .ready fn a.tmps ps assign body w.heap.size)), gf,
   #[.func (.yield (w.heap.size + 1)) #[] #[]] ++ lb.toArray, (w.alloc (.deferred (some []))).alloc (.loop (recR .ready fn a.tmps ps assign body w.heap.size)), run_enterLoop_outer _ _ _ _ _, ?_, fun _ _ => trivial, ?_, fun h => by simp [Fence.wide] at h, ?_⟩
 · simp only [resolve, hg]
   simp [go_sem]
 · simp [invoke, go_sem, eg]
 · have hc := call fn _ _ _ W1
   have e : (#[.func (.yield (w.heap.size + 1)) #[] #[]] ++ lb.toArray : Array Value) = (.func (.yield (w.heap.size + 1)) #[] #[] :: lb).toArray := by simp
   rw [e]
   refine callsIn_wide.2 (hc.mono fun en W2 ⟨⟨v, hv⟩, hl, hR⟩ => ?_)
   subst hv
   refine ⟨none, _, run_endLoop hl (by simp), ?_⟩
   have := next _ _ hR
   rw [hd]
   simpa using this
theorem yields_of {lp D : Nat} {fn : FuncId} {tmps : Array Value} {ps : Array Tmp} {assign body : Code} {args : List Value} {L : List Chunk} {w : World} {R : World → Prop} {m : Nat}
   (W : Wd w0 (loopK lp D (recR .ready fn tmps ps assign body D) L) w) (hps : args.length = ps.size) (ha : assign = .skip)
   (h : ∀ w1, Wd w0 (loopK lp D (recR .busy fn tmps ps assign body D) L) w1 → body.wpIn (Fence.wide.inRound lp) m P (fun e _ w' => e = .normal ∧ w'.heap[lp]? = some (.loop (recR .busy fn tmps ps assign body D)) ∧ R (w'.putObj lp (.loop (recR .ready fn tmps ps assign body D))))
     { tmps := (ps.zip args.toArray).foldl (fun t (p, v) => t.setIfInBounds p v) tmps, defers := [] } w1) :
   Yielded m P lp args.toArray w fun e w' => e = .returned (.bool true) ∧ R w' := by
 have hl := (W.get (k := 0) rfl).2
 have hy := run_yield (P := P) (args := args.toArray) hl (by simpa using hps)
 refine ⟨_, _, _, _, hy, roundIn_of_wpIn trivial ?_⟩
 rw [ha]
 refine wpIn_skip ⟨_, run_beginRound hl rfl, ?_⟩
 have W1 : Wd w0 (loopK lp D (recR .busy fn tmps ps assign body D) L) (w.putObj lp (.loop (recR .busy fn tmps ps assign body D))) := W.setBlk (k := 0) rfl
 refine wpIn_mono (h _ W1) fun e a w' ⟨he, hl', hR⟩ => ?_
 subst he
 exact ⟨_, _, run_endRound none hl', rfl, hR⟩
theorem enter_range {f : FuncId} {fn : Func} {c : Code} {args : List Value} {w : World} {R : Ending → World → Prop} (hf : P.funcs[f]? = some fn) (hb : fn.body = some c)
   {n : Nat} (hn : fn.ntmps = n) (hsz : Nat.ble args.length n = true) (h : ∀ a, St n w (argsK 0 args) [] a w → c.wp P (bodyPostM Fence.wide 1 P fn R) a w) : Calls P f args.toArray w R := by
 refine callsIn_wide.1 (callsIn_of_wp_marks (n := 1) hf hb trivial (wpIn_wide.2 (h _ ⟨⟨rfl, ?_, fun i g v hv => ?_⟩, Wd.start w⟩)))
 · have := Nat.le_of_ble_eq_true hsz
   simp [hn]; omega
 · obtain ⟨rfl, h1, h2⟩ := argsK_ok args 0 i g v hv
   have hi : i < args.length := (List.getElem?_eq_some_iff.1 h2).1
   simp at h2
   simp [Array.getElem?_append, hi, (List.getElem?_eq_some_iff.1 h2).2]
theorem leave_range {fn : Func} {R : Ending → World → Prop} {a : Act} {w : World} {D : Nat} {v : Value} (hd : a.defers = [{ target := .collected D, args := #[] }]) (hD : w.heap[D]? = some (.deferred (some [])))
   (hv : (results fn a.tmps).run P (w.putObj D (.deferred none)) = .ok v (w.putObj D (.deferred none))) (hR : R (.returned v) (w.putObj D (.deferred none))) : bodyPostM Fence.wide 1 P fn R .ret a w := by
 show LeavesInM Fence.wide 1 P fn a.tmps R a.defers .returning w
 rw [hd]
 refine ⟨by simp, .inl ⟨D, _, rfl, run_takeDeferred hD, ?_⟩⟩
 exact ⟨v, hv, hR⟩
theorem kn_round2 {n : Nat} {K : KL} {a : Act} {p q : Nat} {u v : Value} (hk : Kn n K a) (hp : Nat.blt p n = true) (hq : Nat.blt q n = true) :
   Kn n ((q, true, v) :: (p, true, u) :: K) { tmps := ((#[p, q] : Array Tmp).zip [u, v].toArray).foldl (fun t (p, v) => t.setIfInBounds p v) a.tmps, defers := [] } := by
 have h := (hk.put hp u).put hq v
 have e : ({ tmps := ((#[p, q] : Array Tmp).zip [u, v].toArray).foldl (fun t (p, v) => t.setIfInBounds p v) a.tmps, defers := [] } : Act) = (a.put (some p) u).put (some q) v := by
   simp [Act.put, hk.defers]
 rw [e]
 exact h
theorem yields2 {lp D : Nat} {fn : FuncId} {p q : Nat} {u v : Value} {body : Code} {w : World} {R : World → Prop} {m : Nat}
   (hk : Kn n K a) (W : Wd w0 (loopK lp D (recR .ready fn a.tmps #[p, q] .skip body D) L) w) (hp : Nat.blt p n = true) (hq : Nat.blt q n = true)
   (h : ∀ b w1, St n w0 ((q, true, v) :: (p, true, u) :: K) (loopK lp D (recR .busy fn a.tmps #[p, q] .skip body D) L) b w1 → body.wpIn (Fence.wide.inRound lp) m P (fun e _ w' => e = .normal ∧ w'.heap[lp]? = some (.loop (recR .busy fn a.tmps #[p, q] .skip body D)) ∧ R (w'.putObj lp (.loop (recR .ready fn a.tmps #[p, q] .skip body D)))) b w1) :
   Yielded m P lp [u, v].toArray w fun e w' => e = .returned (.bool true) ∧ R w' :=
 yields_of W rfl rfl fun w1 hw1 => h _ w1 ⟨kn_round2 hk hp hq, hw1⟩
theorem tail_range {fn : Func} {R : Ending → World → Prop} {D k d d2 id : Nat} {op : Op} {ty ty2 : TypeId} {pos pos2 : String} {aft aft2 : Array Edge} {v : Value} (S : St n w0 K L a w) (hk : L[k]? = some (.blk D (.deferred (some []))))
   (hy : Yr P ⟨some d, op, ty, pos, aft, none⟩ n K w0 L true v) (hd : Nat.blt d n = true) (hd2 : Nat.blt d2 n = true) (hr : fn.results = #[.tmp d2])
   (hR : ∀ W', Wd w0 (L.set k (.blk D (.deferred none))) W' → R (.returned v) W') :
   ((Code.region id [⟨some d, op, ty, pos, aft, none⟩, ⟨some d2, .assign (.tmp d), ty2, pos2, aft2, none⟩].toArray false).seq Code.ret).wp P (bodyPostM Fence.wide 1 P fn R) { a with defers := [{ target := .collected D, args := #[] }] } w := by
 have ea : ({ a with defers := [{ target := .collected D, args := #[] }] } : Act) = { a with defers := a.defers ++ [{ target := .collected D, args := #[] }] } := by rw [S.kn.defers]; rfl
 rw [ea]
 refine wp_seq_k fun _ hK => wp_region_lit ?_
 refine Zk (op_dfr (op_y S hy.ys hd ?_))
 intro a w S
 refine Zk (op_dfr (op_y S (Yr.ys (Yb (v := v) (Ev.t (by simp [look])))) hd2 ?_))
 intro a w S
 refine hK _ _ (wp_ret ?_)
 have hD := (S.wd.get hk).2
 refine leave_range (D := D) (v := v) (by rw [S.kn.defers]; rfl) hD ?_ (hR _ (S.wd.setBlk hk))
 have h2 := S.kn.slot d2 true v (by simp [look])
 simp [results_eq, hr, res1, h2]
end
end Go.Fw
namespace Go.Fw
theorem run_step {s : List UInt8} {x : Ent} : ∀ {l : List Ent} {j : Nat}, j ≤ (runOf s l).length → l[j]? = some x → (x.item = s → j + 1 ≤ (runOf s l).length) ∧ (x.item ≠ s → j = (runOf s l).length)
 | [], j, _, h => by simp at h
 | e :: r, 0, _, h => by
   simp at h
   subst h
   constructor
   · intro h1
     rw [runOf, List.takeWhile_cons, if_pos (by simpa using h1)]
     simp
   · intro h1
     rw [runOf, List.takeWhile_cons, if_neg (by simpa using h1)]
     rfl
 | e :: r, j + 1, hj, h => by
   have he : e.item = s := by
     refine Decidable.byContradiction fun hne => ?_
     rw [runOf, List.takeWhile_cons, if_neg (by simpa using hne)] at hj
     simp at hj
   have hr : runOf s (e :: r) = e :: runOf s r := by rw [runOf, List.takeWhile_cons, if_pos (by simpa using he)]; rfl
   rw [hr, List.length_cons] at hj ⊢
   have := run_step (s := s) (l := r) (j := j) (by omega) (by simpa using h)
   exact ⟨fun h1 => by have := this.1 h1; omega, fun h1 => by have h3 := this.2 h1; omega⟩
theorem run_end {s : List UInt8} {l : List Ent} {j : Nat} (hj : j ≤ (runOf s l).length) (h : l.length ≤ j) : j = (runOf s l).length := by
 have := runOf_le s l
 omega
theorem run_take (s : List UInt8) (l : List Ent) : l.take (runOf s l).length = runOf s l := by
 have h := congrArg (List.take (runOf s l).length) (runOf_drop s l)
 rw [List.take_left' rfl] at h
 exact h.symm
end Go.Fw
namespace Go.Proofs.YtakpdbmdfnialaaGreat
open Go.Fw Go.Proofs Go.RowKit Go.Proofs.Tryz
theorem c180 (w0 : World) (v : Value) (l : List Ent) (h : Sl Ent.enc 6 w0 w0.heap.size v l) :
   Rets Tryz.prog 180 #[v] w0 fun u L => ∃ g, u = .func (.func 212) #[] #[.pointer (some ⟨g, 0, none⟩)] ∧ L = [.blk g (.cells #[v] 31)] := by
 obtain ⟨A, cap, rfl, _⟩ := h
 unfold Go.Fw.Rets
 refine enter1 func180 rfl ntmps180 rfl fun a S => wp_seq_k fun _ hK1 => wp_region_lit (Zk (op_box1 S (.t rfl) rfl rfl fun g1 a w S => run S (.ac rfl <| .z) fun a w S => Zb (Za (hK1 _ _ (sg S (.yy (ys_mkFunc (.cons (.t rfl) .nil)) rfl <| .as rfl <| .z) fun a w S => wp_ret (Zj S (results1 S results180 (Rv.tmp rfl)) ?_))))))
 exact ⟨_, _, rfl, S.wd, _, rfl, rfl⟩
theorem k212 {X : Type} (LX : X → List Chunk) (φ : List (List Ent) → X → Prop) {l : List Ent} {lp g : Nat} {w0 w : World} {x0 : X} {v : Value}
   (hl : Sl Ent.enc 6 w0 w0.heap.size v l) (W : Wd w0 (.blk g (.cells #[v] 31) :: LX x0) w) (h0 : φ [] x0)
   (hY : ∀ pre e r post x u sv W1, runsL l = pre ++ (e :: r) :: post → φ pre x → Sl Ent.enc 6 w0 w0.heap.size sv (e :: r) → Wd w0 (.blk g (.cells #[u] 31) :: LX x) W1 →
     Yielded 1 Tryz.prog lp [.string (bs e.item), sv].toArray W1 fun en W2 => en = .returned (.bool true) ∧ ∃ x', φ (pre ++ [e :: r]) x' ∧ Wd w0 (.blk g (.cells #[u] 31) :: LX x') W2) :
   Calls Tryz.prog 212 #[.func (.yield lp) #[] #[], .pointer (some ⟨g, 0, none⟩)] w fun en W' => (∃ r, en = .returned r) ∧ ∃ x u, φ (runsL l) x ∧ Wd w0 (.blk g (.cells #[u] 31) :: LX x) W' := by
 refine enterW2 W func212 rfl ntmps212 rfl fun a S => wp_block ?_
 refine Xe S [3] (X := List (List Ent) × List Ent × X × Value) (fun q => []) (fun q => .blk g (.cells #[q.2.2.2] 31) :: LX q.2.2.1)
   (fun q => runsL l = q.1 ++ runsL q.2.1 ∧ Sl Ent.enc 6 w0 w0.heap.size q.2.2.2 q.2.1 ∧ φ q.1 q.2.2.1) (fun q => q.2.1.length) ([], l, x0, v) ⟨rfl, hl, h0⟩ ?_
 clear S W h0 hl
 rintro ⟨pre, rest, x, u⟩ a w ⟨hr, hu, hφ⟩ S
 dsimp only at hr hu hφ S
 have hu0 := hu
 obtain ⟨A, cap, rfl, hl, hcap, hA⟩ := hu
 rcases rest with _ | ⟨e, r⟩
 · refine wp_seq_k fun _ hK1 => sg S (.ld gt31 0 rfl rfl rfl <| .ln underlying31 rfl <| .yy (Yj (.t rfl) Ev.c) rfl <| .z) fun a w S => Zf S (.t rfl) (wp_exit (Zi (Zi (Zy (st_end S (results0 results212) ?_)))))
   rw [runs_nil, List.append_nil] at hr
   exact ⟨⟨_, rfl⟩, _, _, hr ▸ hφ, S.wd⟩
 · have hlen : (e :: r).length = r.length + 1 := rfl
   refine wp_seq_k fun _ hK1 => sg S (.ld gt31 0 rfl rfl rfl <| .ln underlying31 rfl <| .yy (Yu (by omega) (Yj (.t rfl) Ev.c)) rfl <| .z) fun a w S => Zg S (.t rfl) (wp_skip (Za (hK1 _ _ (wp_block (sg S (.ac rfl <| .z) fun a w S => wp_seq_k fun _ hK1 => wp_block ?_)))))
   refine Xe S [3] (X := Nat) (fun k => [(3, true, .int .i64 ((k + 1 : Nat) : Int))]) (fun _ => .blk g (.cells #[.slice A (e :: r).length cap] 31) :: LX x)
     (fun k => k ≤ (runOf e.item r).length) (fun k => r.length - k) 0 (Nat.zero_le _) ?_
   clear S
   intro k a w hk S
   have hrl := runOf_le e.item r
   obtain ⟨g0, o0, rfl, _, hc⟩ := hA (by simp)
   have hc0 := hc 0 e rfl
   by_cases hgo : ∃ y, r[k]? = some y ∧ y.item = e.item
   · obtain ⟨y, hy, hs⟩ := hgo
     have hlt : k < r.length := (List.getElem?_eq_some_iff.1 hy).1
     have hck := hc (k + 1) y (by simpa using hy)
     obtain ⟨h1, h2⟩ := run_step hk hy
     have h3 := h1 hs
     have rw_s : decide (y.item = e.item) = true := decide_eq_true hs
     refine wp_seq_k fun _ hK2 => wp_seq_k fun _ hK3 => Zw S (by kernel_rfl) (by kernel_rfl) fun a S => qrun S (.mv rfl <| .ld gt31 0 rfl rfl rfl <| .ln underlying31 rfl <| .lt (by omega) rfl rfl <| .mv rfl <| .gy rfl rfl (Zu ⟨isAgg31, sizeOf31⟩ (.t rfl) (k := 0) rfl rfl) <| .gy rfl rfl (Zd (.t rfl)) <| .gy rfl rfl (Yf underlying31 sizeOf100 (.t rfl) (.t rfl) (fun _ => by omega)) <| .gy rfl rfl (Yc (FieldT.mk underlying100 rfl sizeOf9 rfl) (.t rfl)) <| .gy rfl rfl (Yn ⟨isAgg9, sizeOf9⟩ (.t rfl) (fun _ => hck _ _ rfl)) <| .gy rfl rfl (Zu ⟨isAgg31, sizeOf31⟩ (.t rfl) (k := 0) rfl rfl) <| .gy rfl rfl (Yf (j := 0) underlying31 sizeOf100 (.t rfl) Ev.c (fun _ => by omega)) <| .gy rfl rfl (Yc (FieldT.mk underlying100 rfl sizeOf9 rfl) (.t rfl)) <| .gy rfl rfl (Yn ⟨isAgg9, sizeOf9⟩ (.t rfl) (fun _ => hc0 _ _ rfl)) <| .gy rfl rfl (Xi (.t rfl) (.t rfl)) <| .z) fun a S => ?_
     rw [rw_s] at S
     refine qrun S (.yy (Zt (.t rfl) (.t rfl)) rfl <| .z) fun a S => ?_
     (refine Yv ?_; intro w W; replace S := St.mk S W; clear W)
     refine Za (hK3 _ _ (Zg S (.t rfl) (wp_skip (Za (hK2 _ _ (wp_block (wp_region_lit (run S (.mv rfl <| .ad (by unfold I64; omega) rfl <| .as rfl <| .z) fun a w S => Zb (Zm (Za ?_))))))))))
     exact ⟨k + 1, h3, by omega, S.pk⟩
   have hke : k = (runOf e.item r).length := by
     by_cases hlt : k < r.length
     · obtain ⟨y, hy⟩ : ∃ y, r[k]? = some y := ⟨_, List.getElem?_eq_getElem hlt⟩
       exact (run_step hk hy).2 fun h => hgo ⟨y, hy, h⟩
     · exact run_end hk (by omega)
   have hgrp := hu0.sub 0 (k + 1) (by omega) (by omega)
   have hrest := hu0.drop_ (k + 1) (by omega)
   have e1 : ((e :: r).drop 0).take (k + 1 - 0) = e :: runOf e.item r := by
     rw [List.drop_zero, Nat.sub_zero, List.take_succ_cons, hke, run_take]
   have e2 : (e :: r).drop (k + 1) = r.drop (runOf e.item r).length := by rw [List.drop_succ_cons, hke]
   rw [e1] at hgrp
   rw [e2] at hrest
   rw [runs_cons] at hr
   have hdl : (r.drop (runOf e.item r).length).length = (e :: r).length - (k + 1) := by rw [List.length_drop]; omega
   rw [hdl] at hrest
   by_cases hlt : k < r.length
   · obtain ⟨y, hy⟩ : ∃ y, r[k]? = some y := ⟨_, List.getElem?_eq_getElem hlt⟩
     have hck := hc (k + 1) y (by simpa using hy)
     have hs : y.item ≠ e.item := fun h => hgo ⟨y, hy, h⟩
     have rw_s : decide (y.item = e.item) = false := decide_eq_false hs
     have e4 : (if cap = k + 1 then some (⟨g0, o0, none⟩ : Addr) else (some (⟨g0, o0, none⟩ : Addr)).map (·.add ((k + 1) * 6))) = some ⟨g0, o0 + (k + 1) * 6, none⟩ := by rw [if_neg (by omega)]; simp [Addr.add]
     rw [e4] at hrest
     refine wp_seq_k fun _ hK2 => wp_seq_k fun _ hK3 => Zw S (by kernel_rfl) (by kernel_rfl) fun a S => qrun S (.mv rfl <| .ld gt31 0 rfl rfl rfl <| .ln underlying31 rfl <| .lt (by omega) rfl rfl <| .mv rfl <| .gy rfl rfl (Zu ⟨isAgg31, sizeOf31⟩ (.t rfl) (k := 0) rfl rfl) <| .gy rfl rfl (Zd (.t rfl)) <| .gy rfl rfl (Yf underlying31 sizeOf100 (.t rfl) (.t rfl) (fun _ => by omega)) <| .gy rfl rfl (Yc (FieldT.mk underlying100 rfl sizeOf9 rfl) (.t rfl)) <| .gy rfl rfl (Yn ⟨isAgg9, sizeOf9⟩ (.t rfl) (fun _ => hck _ _ rfl)) <| .gy rfl rfl (Zu ⟨isAgg31, sizeOf31⟩ (.t rfl) (k := 0) rfl rfl) <| .gy rfl rfl (Yf (j := 0) underlying31 sizeOf100 (.t rfl) Ev.c (fun _ => by omega)) <| .gy rfl rfl (Yc (FieldT.mk underlying100 rfl sizeOf9 rfl) (.t rfl)) <| .gy rfl rfl (Yn ⟨isAgg9, sizeOf9⟩ (.t rfl) (fun _ => hc0 _ _ rfl)) <| .gy rfl rfl (Xi (.t rfl) (.t rfl)) <| .z) fun a S => ?_
     rw [rw_s] at S
     refine qrun S (.yy (Zt (.t rfl) (.t rfl)) rfl <| .z) fun a S => ?_
     (refine Yv ?_; intro w W; replace S := St.mk S W; clear W)
     refine Za (hK3 _ _ (Zf S (.t rfl) (wp_exit (Zi (Zi (Zy (Za (hK1 _ _ (wp_seq_k fun _ hK1 => wp_seq_k fun _ hK3 => ?_)))))))))
     replace S : St 38 w0 [(3, true, .int .i64 ((k + 1 : Nat) : Int)), (0, true, .func (.yield lp) #[] #[]), (1, true, .pointer (some ⟨g, 0, none⟩))] (.blk g (.cells #[.slice (some ⟨g0, o0, none⟩) (e :: r).length cap] 31) :: LX x) a w := S.pk
     refine region_yields 2 (Wd w0 [.blk g (.cells #[.slice (some ⟨g0, o0, none⟩) (e :: r).length cap] 31)]) (by kernel_rfl) ?_
     replace S := (⟨S.kn, S.wd.drew⟩ : St 38 w0 _ _ a { w with drawn := w.drawn + 1 })
     revert S
     generalize ({ w with drawn := w.drawn + 1 } : World) = wd
     intro S
     refine i_y (i := 0) S (by repeat (first | exact List.Sublist.refl _ | exact List.nil_sublist _ | refine .cons_cons _ ?_ | refine .cons _ ?_)) rfl (by kernel_rfl) (by kernel_rfl) (by kernel_rfl) (fun _ _ _ _ h => h) (Zd (.t rfl)) rfl ?_
     clear S a; intro a w S
     refine i_y (i := 1) S (by repeat (first | exact List.Sublist.refl _ | exact List.nil_sublist _ | refine .cons_cons _ ?_ | refine .cons _ ?_)) rfl (by kernel_rfl) (by kernel_rfl) (by kernel_rfl) (fun _ _ _ _ h => h) (Zu ⟨isAgg31, sizeOf31⟩ (.t rfl) (k := 0) rfl rfl) rfl ?_
     clear S a w; intro a w S
     refine i_y (i := 2) S (by repeat (first | exact List.Sublist.refl _ | exact List.nil_sublist _ | refine .cons_cons _ ?_ | refine .cons _ ?_)) rfl (by kernel_rfl) (by kernel_rfl) (by kernel_rfl) (fun _ _ _ _ h => h) (Yf (j := 0) underlying31 sizeOf100 (.t rfl) Ev.c (fun _ => by omega)) rfl ?_
     clear S a w; intro a w S
     refine i_y (i := 3) S (by repeat (first | exact List.Sublist.refl _ | exact List.nil_sublist _ | refine .cons_cons _ ?_ | refine .cons _ ?_)) rfl (by kernel_rfl) (by kernel_rfl) (by kernel_rfl) (fun _ _ _ _ h => h) (Yc (FieldT.mk underlying100 rfl sizeOf9 rfl) (.t rfl)) rfl ?_
     clear S a w; intro a w S
     refine i_y (i := 4) S (by repeat (first | exact List.Sublist.refl _ | exact List.nil_sublist _ | refine .cons_cons _ ?_ | refine .cons _ ?_)) rfl (by kernel_rfl) (by kernel_rfl) (by kernel_rfl) (fun _ _ _ _ h => h) (Yn ⟨isAgg9, sizeOf9⟩ (.t rfl) (fun _ => hc0 0 _ rfl)) rfl ?_
     clear S a w; intro a w S
     refine i_y (i := 5) S (by repeat (first | exact List.Sublist.refl _ | exact List.nil_sublist _ | refine .cons_cons _ ?_ | refine .cons _ ?_)) rfl (by kernel_rfl) (by kernel_rfl) (by kernel_rfl) (fun _ _ _ _ h => h) (Zu ⟨isAgg31, sizeOf31⟩ (.t rfl) (k := 0) rfl rfl) rfl ?_
     clear S a w; intro a w S
     refine i_y (i := 6) S (by repeat (first | exact List.Sublist.refl _ | exact List.nil_sublist _ | refine .cons_cons _ ?_ | refine .cons _ ?_)) rfl (by kernel_rfl) (by kernel_rfl) (by kernel_rfl) (fun _ _ _ _ h => h) (Zd (.t rfl)) rfl ?_
     clear S a w; intro a w S
     refine i_y (i := 7) S (by repeat (first | exact List.Sublist.refl _ | exact List.nil_sublist _ | refine .cons_cons _ ?_ | refine .cons _ ?_)) rfl (by kernel_rfl) (by kernel_rfl) (by kernel_rfl) (fun _ _ _ _ h => h) (Va underlying31 sizeOf100 (.t rfl) (.t rfl) (fun _ => by omega)) rfl ?_
     clear S a w; intro a w S
     have hsv : Sl Ent.enc 6 w0 w0.heap.size (.slice (some ⟨g0, o0, none⟩) (k + 1) cap) (e :: runOf e.item r) := by
       have e3 : (if cap = 0 then some (⟨g0, o0, none⟩ : Addr) else (some (⟨g0, o0, none⟩ : Addr)).map (·.add (0 * 6))) = some ⟨g0, o0, none⟩ := by rw [if_neg (by omega)]; simp [Addr.add]
       rw [e3] at hgrp
       exact hgrp
     refine i_yield (i := 8) S rfl (by kernel_rfl) rfl (.t rfl) (.cons (.t rfl) (.cons (.t rfl) .nil)) (hY pre e (runOf e.item r) _ x _ _ _ hr hφ hsv (S.wd.picks (L' := .blk g (.cells #[.slice (some ⟨g0, o0, none⟩) (e :: r).length cap] 31) :: LX x) (by repeat (first | exact Picks.nil | (refine Picks.rest ?_; (repeat (first | exact List.Sublist.refl _ | refine List.Sublist.cons_cons _ ?_ | refine List.Sublist.cons _ ?_)); done) | refine Picks.take 0 rfl ?_ | refine Picks.take 1 rfl ?_ | refine Picks.take 2 rfl ?_ | refine Picks.take 3 rfl ?_ | refine Picks.take 4 rfl ?_ | refine Picks.take 5 rfl ?_ | refine Picks.take 6 rfl ?_ | refine Picks.take 7 rfl ?_ | refine Picks.take 8 rfl ?_ | refine Picks.take 9 rfl ?_ | refine Picks.take 10 rfl ?_ | refine Picks.take 11 rfl ?_)))) ?_
     rintro a1 w1 ⟨x', hφ', W'⟩ hk'
     refine ⟨W'.sub (by repeat (first | exact List.Sublist.refl _ | exact List.nil_sublist _ | refine .cons_cons _ ?_ | refine .cons _ ?_)), ?_⟩
     clear S
     have S : St 38 w0 _ _ a1 w1 := ⟨hk', W'⟩
     clear hk' W'
     refine i_y (i := 9) S (by repeat (first | exact List.Sublist.refl _ | exact List.nil_sublist _ | refine .cons_cons _ ?_ | refine .cons _ ?_)) rfl (by kernel_rfl) (by kernel_rfl) (by kernel_rfl) (fun _ _ _ _ h => h) (Xg (.t rfl)) rfl ?_
     clear S a1 w1; intro a w S
     refine wpAnyI_done (by kernel_rfl) ?_ _
     refine Za (hK3 _ _ (Zf S (.t rfl) (wp_skip (Za (hK1 _ _ (wp_region_lit (run S (.ld gt31 0 rfl rfl rfl <| .mv rfl <| .yy (Wh underlying31 sizeOf100 (.t rfl) (.t rfl) (fun _ => by omega)) rfl <| .z) fun a w S => Zk (op_st S sizeOf31 (.t rfl) (.t rfl) (k := 0) rfl rfl (by simp) fun a w S => Zb (Zm (Za ?_))))))))))
     refine ⟨(pre ++ [e :: runOf e.item r], r.drop (runOf e.item r).length, x', _), ⟨?_, hrest, hφ'⟩, ?_, ?_⟩
     · rw [List.append_assoc]; exact hr
     · dsimp only; rw [List.length_drop]; omega
     · dsimp only
       exact S.pk
   · refine wp_seq_k fun _ hK2 => wp_seq_k fun _ hK3 => Zw S (by kernel_rfl) (by kernel_rfl) fun a S => qrun S (.mv rfl <| .ld gt31 0 rfl rfl rfl <| .ln underlying31 rfl <| .ge (by omega) rfl rfl <| .mv rfl <| .sk rfl rfl rfl <| .sk rfl rfl rfl <| .sk rfl rfl rfl <| .sk rfl rfl rfl <| .sk rfl rfl rfl <| .sk rfl rfl rfl <| .sk rfl rfl rfl <| .sk rfl rfl rfl <| .sk rfl rfl rfl <| .sk rfl rfl rfl <| .yy (Zq (.t rfl) Ev.c) rfl <| .z) fun a S => ?_
     (refine Yv ?_; intro w W; replace S := St.mk S W; clear W)
     refine Za (hK3 _ _ (Zf S (.t rfl) (wp_exit (Zi (Zi (Zy (Za (hK1 _ _ (wp_seq_k fun _ hK1 => wp_seq_k fun _ hK3 => ?_)))))))))
     replace S : St 38 w0 [(3, true, .int .i64 ((k + 1 : Nat) : Int)), (0, true, .func (.yield lp) #[] #[]), (1, true, .pointer (some ⟨g, 0, none⟩))] (.blk g (.cells #[.slice (some ⟨g0, o0, none⟩) (e :: r).length cap] 31) :: LX x) a w := S.pk
     refine region_yields 2 (Wd w0 [.blk g (.cells #[.slice (some ⟨g0, o0, none⟩) (e :: r).length cap] 31)]) (by kernel_rfl) ?_
     replace S := (⟨S.kn, S.wd.drew⟩ : St 38 w0 _ _ a { w with drawn := w.drawn + 1 })
     revert S
     generalize ({ w with drawn := w.drawn + 1 } : World) = wd
     intro S
     refine i_y (i := 0) S (by repeat (first | exact List.Sublist.refl _ | exact List.nil_sublist _ | refine .cons_cons _ ?_ | refine .cons _ ?_)) rfl (by kernel_rfl) (by kernel_rfl) (by kernel_rfl) (fun _ _ _ _ h => h) (Zd (.t rfl)) rfl ?_
     clear S a; intro a w S
     refine i_y (i := 1) S (by repeat (first | exact List.Sublist.refl _ | exact List.nil_sublist _ | refine .cons_cons _ ?_ | refine .cons _ ?_)) rfl (by kernel_rfl) (by kernel_rfl) (by kernel_rfl) (fun _ _ _ _ h => h) (Zu ⟨isAgg31, sizeOf31⟩ (.t rfl) (k := 0) rfl rfl) rfl ?_
     clear S a w; intro a w S
     refine i_y (i := 2) S (by repeat (first | exact List.Sublist.refl _ | exact List.nil_sublist _ | refine .cons_cons _ ?_ | refine .cons _ ?_)) rfl (by kernel_rfl) (by kernel_rfl) (by kernel_rfl) (fun _ _ _ _ h => h) (Yf (j := 0) underlying31 sizeOf100 (.t rfl) Ev.c (fun _ => by omega)) rfl ?_
     clear S a w; intro a w S
     refine i_y (i := 3) S (by repeat (first | exact List.Sublist.refl _ | exact List.nil_sublist _ | refine .cons_cons _ ?_ | refine .cons _ ?_)) rfl (by kernel_rfl) (by kernel_rfl) (by kernel_rfl) (fun _ _ _ _ h => h) (Yc (FieldT.mk underlying100 rfl sizeOf9 rfl) (.t rfl)) rfl ?_
     clear S a w; intro a w S
     refine i_y (i := 4) S (by repeat (first | exact List.Sublist.refl _ | exact List.nil_sublist _ | refine .cons_cons _ ?_ | refine .cons _ ?_)) rfl (by kernel_rfl) (by kernel_rfl) (by kernel_rfl) (fun _ _ _ _ h => h) (Yn ⟨isAgg9, sizeOf9⟩ (.t rfl) (fun _ => hc0 0 _ rfl)) rfl ?_
     clear S a w; intro a w S
     refine i_y (i := 5) S (by repeat (first | exact List.Sublist.refl _ | exact List.nil_sublist _ | refine .cons_cons _ ?_ | refine .cons _ ?_)) rfl (by kernel_rfl) (by kernel_rfl) (by kernel_rfl) (fun _ _ _ _ h => h) (Zu ⟨isAgg31, sizeOf31⟩ (.t rfl) (k := 0) rfl rfl) rfl ?_
     clear S a w; intro a w S
     refine i_y (i := 6) S (by repeat (first | exact List.Sublist.refl _ | exact List.nil_sublist _ | refine .cons_cons _ ?_ | refine .cons _ ?_)) rfl (by kernel_rfl) (by kernel_rfl) (by kernel_rfl) (fun _ _ _ _ h => h) (Zd (.t rfl)) rfl ?_
     clear S a w; intro a w S
     refine i_y (i := 7) S (by repeat (first | exact List.Sublist.refl _ | exact List.nil_sublist _ | refine .cons_cons _ ?_ | refine .cons _ ?_)) rfl (by kernel_rfl) (by kernel_rfl) (by kernel_rfl) (fun _ _ _ _ h => h) (Va underlying31 sizeOf100 (.t rfl) (.t rfl) (fun _ => by omega)) rfl ?_
     clear S a w; intro a w S
     have hsv : Sl Ent.enc 6 w0 w0.heap.size (.slice (some ⟨g0, o0, none⟩) (k + 1) cap) (e :: runOf e.item r) := by
       have e3 : (if cap = 0 then some (⟨g0, o0, none⟩ : Addr) else (some (⟨g0, o0, none⟩ : Addr)).map (·.add (0 * 6))) = some ⟨g0, o0, none⟩ := by rw [if_neg (by omega)]; simp [Addr.add]
       rw [e3] at hgrp
       exact hgrp
     refine i_yield (i := 8) S rfl (by kernel_rfl) rfl (.t rfl) (.cons (.t rfl) (.cons (.t rfl) .nil)) (hY pre e (runOf e.item r) _ x _ _ _ hr hφ hsv (S.wd.picks (L' := .blk g (.cells #[.slice (some ⟨g0, o0, none⟩) (e :: r).length cap] 31) :: LX x) (by repeat (first | exact Picks.nil | (refine Picks.rest ?_; (repeat (first | exact List.Sublist.refl _ | refine List.Sublist.cons_cons _ ?_ | refine List.Sublist.cons _ ?_)); done) | refine Picks.take 0 rfl ?_ | refine Picks.take 1 rfl ?_ | refine Picks.take 2 rfl ?_ | refine Picks.take 3 rfl ?_ | refine Picks.take 4 rfl ?_ | refine Picks.take 5 rfl ?_ | refine Picks.take 6 rfl ?_ | refine Picks.take 7 rfl ?_ | refine Picks.take 8 rfl ?_ | refine Picks.take 9 rfl ?_ | refine Picks.take 10 rfl ?_ | refine Picks.take 11 rfl ?_)))) ?_
     rintro a1 w1 ⟨x', hφ', W'⟩ hk'
     refine ⟨W'.sub (by repeat (first | exact List.Sublist.refl _ | exact List.nil_sublist _ | refine .cons_cons _ ?_ | refine .cons _ ?_)), ?_⟩
     clear S
     have S : St 38 w0 _ _ a1 w1 := ⟨hk', W'⟩
     clear hk' W'
     refine i_y (i := 9) S (by repeat (first | exact List.Sublist.refl _ | exact List.nil_sublist _ | refine .cons_cons _ ?_ | refine .cons _ ?_)) rfl (by kernel_rfl) (by kernel_rfl) (by kernel_rfl) (fun _ _ _ _ h => h) (Xg (.t rfl)) rfl ?_
     clear S a1 w1; intro a w S
     refine wpAnyI_done (by kernel_rfl) ?_ _
     refine Za (hK3 _ _ (Zf S (.t rfl) (wp_skip (Za (hK1 _ _ (wp_region_lit (run S (.ld gt31 0 rfl rfl rfl <| .mv rfl <| .yy (ys_slLo underlying31 sizeOf100 (.t rfl) (.t rfl) (fun _ => by first | omega | (simp; done) | (simp; omega))) rfl <| .z) fun a w S => Zk (op_st S sizeOf31 (.t rfl) (.t rfl) (k := 0) rfl rfl (by simp) fun a w S => Zb (Zm (Za ?_))))))))))
     refine ⟨(pre ++ [e :: runOf e.item r], r.drop (runOf e.item r).length, x', _), ⟨?_, hrest, hφ'⟩, ?_, ?_⟩
     · rw [List.append_assoc]; exact hr
     · dsimp only; rw [List.length_drop]; omega
     · dsimp only
       exact S.pk
theorem c139 (w0 : World) (v : Value) (l : List Ent) (h : Sl Ent.enc 6 w0 w0.heap.size v l) (hn : l.length ≤ 4194304) :
   Calls Tryz.prog 139 #[v] w0 fun e w' => e = .returned (.int .i64 (itemsN l : Int)) ∧ Bel w0.heap.size w0 w' := by
 refine enter_range (args := [v]) func139 rfl ntmps139 rfl fun a S => ?_
 dsimp only [argsK] at S
 have hit := items_runs l.length l (Nat.le_refl _)
 have hil := itemsFrom_le l none
 rw [show itemsFrom none l = itemsN l from rfl, hit] at hil
 refine sg S (.ac rfl <| .z) fun a w S => wp_seq_k fun _ hK1 => wp_region_lit (Zk (Zn S zeroValue3 (cs := _) rfl rfl fun g1 a w S => Zk (op_st S sizeOf3 (.t rfl) Ev.c (k := 0) rfl rfl (by simp) fun a w S => Zb (Za (hK1 _ _ (wp_seq_k fun _ hK1 => wp_seq_k fun _ hK2 => wp_region_lit (run S (.mv rfl <| .z) fun a w S => ?_)))))))
 (refine Zk (Zz S call180 (.cons (.t rfl) .nil) (c180 _ _ _ (by exact .old S.wd (by assumption))) rfl ?_); clear S a w; rintro _ _ ⟨g2, rfl, rfl⟩ a w S)
 refine Zb (Za (hK2 _ _ (wp_block ?_)))
 replace S : St 11 w0 [(5, true, .func (.func 212) #[] #[.pointer (some ⟨g2, 0, none⟩)]), (3, true, .pointer (some ⟨g1, 0, none⟩))] [.blk g2 (.cells #[v] 31), .blk g1 (.cells #[.int .i64 0] 3)] a w := S.pk
 refine st_range 1 S (.t rfl) call212 (R := fun D W' => Wd w0 [.blk D (.deferred (some [])), .blk g1 (.cells #[.int .i64 ((runsL l).length : Int)] 3)] W') ?_ ?_
 · intro fn lp D W hW
   refine (k212 (X := Nat) (x0 := 0) (fun k => [.blk lp (.loop (recR .ready fn a.tmps _ _ _ D)), .blk D (.deferred (some [])), .blk g1 (.cells #[.int .i64 (k : Int)] 3)]) (fun pre k => k = pre.length) h (hW.pk) rfl ?_).mono ?_
   · intro pre e r post k u sv W1 hru hk hsv hW1
     subst hk
     have hlt : pre.length < (runsL l).length := by rw [hru, List.length_append, List.length_cons]; omega
     refine yields2 (L := [.blk g2 (.cells #[u] 31), .blk g1 (.cells #[.int .i64 (pre.length : Int)] 3)]) S.kn (hW1.pk) rfl rfl ?_
     clear S hW hW1
     intro b w1 S
     refine wpIn_block (region_round (by kernel_rfl) (lets_block fun ⟨a, w, h⟩ => by cases h.1) ?_)
     (refine Yh S (Yr.ys (Zu ⟨isAgg3, sizeOf3⟩ (.t rfl) (k := 3) rfl rfl)) rfl ?_; clear S; intro a w S)
     refine run S (.ad (by unfold I64; omega) rfl <| .z) fun a w S => Zk (op_st S sizeOf3 (.t rfl) (.t rfl) (k := 3) rfl rfl (by simp) fun a w S => Zb (Zm ?_))
     have e1 : (pre.length : Int) + 1 = ((pre.length + 1 : Nat) : Int) := by omega
     rw [e1] at S
     exact ⟨rfl, (S.wd.get (k := 0) rfl).2, pre.length + 1, by simp, (S.wd.setBlk (k := 0) rfl).pk⟩
   · rintro en W2 ⟨⟨r, rfl⟩, k, u, rfl, hW2⟩
     exact ⟨⟨_, rfl⟩, (hW2.get (k := 1) rfl).2, (hW2.setBlk (k := 1) rfl).pk⟩
 · intro D W' hR
   refine Zm (Za (hK1 _ _ ?_))
   exact tail_range (⟨S.kn, hR⟩ : St 11 w0 _ _ a W') (k := 0) rfl (Zu ⟨isAgg3, sizeOf3⟩ (.t rfl) (k := 1) rfl rfl) rfl rfl results139 fun W'' hW'' => ⟨by rw [hit], hW''.below⟩
end Go.Proofs.YtakpdbmdfnialaaGreat
namespace Go.Proofs.YtakpdbmdfnialaaGreat
open Go.Fw Go.Proofs Go.RowKit Go.Proofs.Tryz
theorem c141 (x y z : Int) (w0 : World) : Calls Tryz.prog 141 #[.agg #[.int .i64 x, .int .i64 y, .int .i64 z]] w0 fun e w' => e = .returned (.agg #[.int .i64 x, .int .i64 y]) ∧ Bel w0.heap.size w0 w' := by
 refine enter1 func141 rfl ntmps141 rfl fun a S => wp_seq_k fun _ hK1 => wp_region_lit (Zk (Ya S (.t rfl) rfl fun g1 a w S => Zk (Zn S zeroValue66 (cs := _) rfl rfl fun g2 a w S => Zb (Za (hK1 _ _ (wp_seq_k fun _ hK1 => wp_region_lit (run S (.fa underlying74 sizeOf3 0 rfl rfl rfl <| .ld gt3 1 rfl rfl rfl <| .fa underlying74 sizeOf3 1 rfl rfl rfl <| .ld gt3 1 rfl rfl rfl <| .yy (Xj (ps := [(0, Go.Operand.tmp 4), (1, Go.Operand.tmp 6)]) (us := [_, _]) bld66 (.cons (.t rfl) (.cons (.t rfl) .nil)) rfl) rfl <| .z) fun a w S => Zk (Zv S sizeOf66 (.t rfl) (.t rfl) (k := 0) rfl rfl rfl (by simp [Value.oneCell']) fun a w S => Zb (Za (hK1 _ _ (wp_ret (Zj S (results1 S results141 (Rv.cell (k := 0) ⟨isAgg66, sizeOf66⟩ rfl rfl rfl)) ?_))))))))))))
 exact ⟨rfl, S.wd.below⟩
theorem c163 (x y z : Int) (w0 : World) : Calls Tryz.prog 163 #[.agg #[.int .i64 x, .int .i64 y, .int .i64 z]] w0 fun e w' => e = .returned (.agg #[.int .i64 x, .int .i64 y, .int .i64 z]) ∧ Bel w0.heap.size w0 w' := by
 refine enter1 func163 rfl ntmps163 rfl fun a S => wp_seq_k fun _ hK1 => wp_region_lit (Zk (Ya S (.t rfl) rfl fun g1 a w S => Zk (Zn S zeroValue74 (cs := _) rfl rfl fun g2 a w S => Zb (Za (hK1 _ _ (wp_seq_k fun _ hK1 => wp_region_lit (run S (.la gt30 1 rfl rfl rfl <| .z) fun a w S => Zk (Zv S sizeOf74 (.t rfl) (.t rfl) (k := 0) rfl rfl rfl (by simp [Value.oneCell']) fun a w S => Zb (Za (hK1 _ _ (wp_ret (Zj S (results1 S results163 (Rv.cell (k := 0) ⟨isAgg74, sizeOf74⟩ rfl rfl rfl)) ?_))))))))))))
 exact ⟨rfl, S.wd.below⟩
theorem c140 (w0 : World) (v1 v2 : Value) (l : List Dot) (x y : Int) (h : Sl Dot.enc 3 w0 w0.heap.size v1 l) :
   Calls Tryz.prog 140 #[.agg #[v1, v2], .agg #[.int .i64 x, .int .i64 y]] w0 fun e w' => e = .returned (.int .i64 (markOf l x y)) ∧ Bel w0.heap.size w0 w' := by
 obtain ⟨A, cap, rfl, hl, hcap, hA⟩ := h
 refine enter2 func140 rfl ntmps140 rfl fun a S => wp_seq_k fun _ hK1 => wp_region_lit (Zk (Ya S (.t rfl) rfl fun g1 a w S => Zk (Ya S (.t rfl) rfl fun g2 a w S => run S (.ac rfl <| .z) fun a w S => Zb (Za (hK1 _ _ (wp_seq_k fun _ hK1 => sg S (.fa underlying35 sizeOf32 0 rfl rfl rfl <| .ld gt32 1 rfl rfl rfl <| .ln underlying32 rfl <| .mc rfl <| .z) fun a w S => wp_block ?_))))))
 refine We S (X := Nat) (fun k => [(10, true, .int .i64 (k : Int))]) (fun _ L => L) (fun k => k ≤ l.length ∧ markOf (l.drop k) x y = markOf l x y) (fun k => l.length - k) 0 ⟨Nat.zero_le _, rfl⟩ ?_
 clear S
 intro k a w ⟨hk, hno⟩ S
 by_cases hlt : k < l.length
 · obtain ⟨g, o, m, rfl, hm, hd, hc⟩ := Yk hA hlt
   clear hA
   refine sg S (.lt (by omega) rfl rfl <| .z) fun a w S => wp_seq_k fun _ hK2 => Zg S (.t rfl) (wp_skip (Za (hK2 _ _ (wp_seq_k fun _ hK2 => wp_block (wp_seq_k fun _ hK3 => wp_region_lit (run S (.ix underlying32 sizeOf30 (by omega) rfl rfl <| .yy (Zp ⟨isAgg30, sizeOf30⟩ (.t rfl) (vs := [_, _, _]) rfl (fun _ => hc)) rfl <| .z) fun a w S => Zk (Zn S zeroValue30 (cs := _) rfl rfl fun g3 a w S => Zk (Zv S sizeOf30 (.t rfl) (.t rfl) (k := 0) rfl rfl rfl (by simp [Value.oneCell']) fun a w S => Zb (Za (hK3 _ _ (wp_seq_k fun _ hK3 => Zw S (by kernel_rfl) (by kernel_rfl) fun a S => qrun S (.la gt30 0 rfl rfl rfl <| .xx (Zh call163 (.cons (.t rfl) .nil) (fun hp w W => c163 _ _ _ _)) rfl <| .xx (Zh call141 (.cons (.t rfl) .nil) (fun hp w W => c141 _ _ _ _)) rfl <| .la gt66 1 rfl rfl rfl <| .yy (Ws (.t rfl) (.t rfl) eq66) rfl <| .z) fun a S => ?_)))))))))))
   (refine Yv ?_; intro w W; replace S := St.mk S W; clear W)
   refine Za (hK3 _ _ ?_)
   refine Xv S (.t rfl) (fun h1 => ?_) (fun h1 => ?_)
   refine sg S (.fa underlying30 sizeOf3 2 rfl rfl rfl <| .ld gt3 0 rfl rfl rfl <| .as rfl <| .z) fun a w S => wp_ret (Zr (Ze (Ze (Zr (Ze (Zj S (results1 S results140 (Rv.tmp rfl)) ?_))))))
   rotate_left
   refine wp_skip (Zm (Za (hK2 _ _ (wp_region_lit (run S (.ad (by unfold I64; omega) rfl <| .mv rfl <| .z) fun a w S => Zb (Za ?_))))))
   rotate_left
   · refine ⟨?_, S.wd.below⟩
     rw [← hno, hd, markOf, if_pos h1]
   · rw [hd, markOf, if_neg h1] at hno
     exact ⟨k + 1, ⟨by omega, hno⟩, by omega, S.wk⟩
 · refine sg S (.ge (by omega) rfl rfl <| .z) fun a w S => wp_seq_k fun _ hK2 => Zf S (.t rfl) (wp_exit (Zi (Zi (Zy (Za (hK1 _ _ (sg S (.ac rfl <| .z) fun a w S => wp_ret (Zj S (results1 S results140 (Rv.tmp rfl)) ?_))))))))
   refine ⟨?_, S.wd.below⟩
   rw [← hno, List.drop_eq_nil_of_le (by omega)]; rfl
theorem c143 (w0 : World) (v1 : Value) (l : List Dot) (x y : Int) (h : Sl Dot.enc 3 w0 w0.heap.size v1 l) :
   Calls Tryz.prog 143 #[v1, .int .i64 x, .int .i64 y] w0 fun e w' => e = .returned (.int .i64 (markOf l x y)) ∧ Bel w0.heap.size w0 w' := by
 obtain ⟨A, cap, rfl, hl, hcap, hA⟩ := h
 refine enter3 func143 rfl ntmps143 rfl fun a S => sg S (.ac rfl <| .z) fun a w S => wp_seq_k fun _ hK1 => sg S (.mv rfl <| .ln underlying32 rfl <| .mc rfl <| .z) fun a w S => wp_block ?_
 refine We S (X := Nat) (fun k => [(11, true, .int .i64 (k : Int))]) (fun _ L => L) (fun k => k ≤ l.length ∧ markOf (l.drop k) x y = markOf l x y) (fun k => l.length - k) 0 ⟨Nat.zero_le _, rfl⟩ ?_
 clear S
 intro k a w ⟨hk, hno⟩ S
 by_cases hlt : k < l.length
 · obtain ⟨g, o, m, rfl, hm, hd, hc⟩ := Yk hA hlt
   clear hA
   refine sg S (.lt (by omega) rfl rfl <| .z) fun a w S => wp_seq_k fun _ hK2 => Zg S (.t rfl) (wp_skip (Za (hK2 _ _ (wp_seq_k fun _ hK2 => wp_block (wp_seq_k fun _ hK3 => wp_region_lit (run S (.ix underlying32 sizeOf30 (by omega) rfl rfl <| .yy (Zp ⟨isAgg30, sizeOf30⟩ (.t rfl) (vs := [_, _, _]) rfl (fun _ => hc)) rfl <| .z) fun a w S => Zk (Zn S zeroValue30 (cs := _) rfl rfl fun g1 a w S => Zk (Zv S sizeOf30 (.t rfl) (.t rfl) (k := 0) rfl rfl rfl (by simp [Value.oneCell']) fun a w S => Zb (Za (hK3 _ _ (wp_seq_k fun _ hK3 => wp_region_lit (run S (.fa underlying30 sizeOf3 0 rfl rfl rfl <| .ld gt3 0 rfl rfl rfl <| .mv rfl <| .yy (Yd (.t rfl) (.t rfl)) rfl <| .mv rfl <| .z) fun a w S => Yg S rfl rfl (Yr.ys (Zc (FieldT.mk underlying30 rfl sizeOf3 rfl) (.t rfl) (i' := 1) rfl)) rfl fun a w S => Yg S rfl rfl (Yr.ys (Zu ⟨isAgg3, sizeOf3⟩ (Ev.g rfl) (k := 0) rfl rfl)) rfl fun a w S => Yg S rfl rfl (Yr.ys (Zd (.t rfl))) rfl fun a w S => Yg S rfl rfl (Yr.ys (Yd (Ev.g rfl) (Ev.g rfl))) rfl fun a w S => run S (.yy (Xn (.t rfl) (Ev.g rfl) Ev.c) rfl <| .z) fun a w S => Zb (Za (hK3 _ _ ?_))))))))))))))
   refine Wb S (.t rfl) (fun h1 => ?_) (fun h1 => ?_)
   refine sg S (.fa underlying30 sizeOf3 2 rfl rfl rfl <| .ld gt3 0 rfl rfl rfl <| .as rfl <| .z) fun a w S => wp_ret (Zr (Ze (Ze (Zr (Ze (Zj S (results1 S results143 (Rv.tmp rfl)) ?_))))))
   rotate_left
   refine wp_skip (Zm (Za (hK2 _ _ (wp_region_lit (run S (.ad (by unfold I64; omega) rfl <| .mv rfl <| .z) fun a w S => Zb (Za ?_))))))
   rotate_left
   · refine ⟨?_, S.wd.below⟩
     rw [← hno, hd, markOf, if_pos (by simpa using h1)]
   · rw [hd, markOf, if_neg (by simpa using h1)] at hno
     exact ⟨k + 1, ⟨by omega, hno⟩, by omega, S.wk⟩
 · refine sg S (.ge (by omega) rfl rfl <| .z) fun a w S => wp_seq_k fun _ hK2 => Zf S (.t rfl) (wp_exit (Zi (Zi (Zy (Za (hK1 _ _ (sg S (.ac rfl <| .z) fun a w S => wp_ret (Zj S (results1 S results143 (Rv.tmp rfl)) ?_))))))))
   refine ⟨?_, S.wd.below⟩
   rw [← hno, List.drop_eq_nil_of_le (by omega)]; rfl
theorem c189 (w0 : World) (v1 : Value) (l : List Dot) (x y z : Int) (h : Sl Dot.enc 3 w0 w0.heap.size v1 l) :
   Calls Tryz.prog 189 #[v1, .agg #[.int .i64 x, .int .i64 y, .int .i64 z]] w0 fun e w' => e = .returned (.int .i64 (idxFrom ⟨x, y, z⟩ 0 l)) ∧ Bel w0.heap.size w0 w' := by
 obtain ⟨A, cap, rfl, hl, hcap, hA⟩ := h
 refine enter2 func189 rfl ntmps189 rfl fun a S => wp_seq_k fun _ hK1 => wp_region_lit (Zk (Ya S (.t rfl) rfl fun g1 a w S => run S (.ac rfl <| .z) fun a w S => Zb (Za (hK1 _ _ (wp_seq_k fun _ hK1 => sg S (.mv rfl <| .ln underlying33 rfl <| .mc rfl <| .z) fun a w S => wp_block ?_)))))
 refine We S (X := Nat) (fun k => [(8, true, .int .i64 (k : Int))]) (fun _ L => L) (fun k => k ≤ l.length ∧ idxFrom ⟨x, y, z⟩ k (l.drop k) = idxFrom ⟨x, y, z⟩ 0 l) (fun k => l.length - k) 0 ⟨Nat.zero_le _, rfl⟩ ?_
 clear S
 intro k a w ⟨hk, hno⟩ S
 by_cases hlt : k < l.length
 · obtain ⟨g, o, m, rfl, hm, hd, hc⟩ := Yk hA hlt
   clear hA
   refine sg S (.lt (by omega) rfl rfl <| .z) fun a w S => wp_seq_k fun _ hK2 => Zg S (.t rfl) (wp_skip (Za (hK2 _ _ (wp_seq_k fun _ hK2 => wp_block (sg S (.mv rfl <| .as rfl <| .z) fun a w S => wp_seq_k fun _ hK3 => Zw S (by kernel_rfl) (by kernel_rfl) fun a S => qrun S (.la gt74 0 rfl rfl rfl <| .mv rfl <| .mv rfl <| .ix underlying33 sizeOf74 (by omega) rfl rfl <| .yy (Zp ⟨isAgg74, sizeOf74⟩ (.t rfl) (vs := [_, _, _]) rfl (fun _ => hc)) rfl <| .yy (Ws (.t rfl) (.t rfl) eq74) rfl <| .z) fun a S => ?_)))))
   (refine Yv ?_; intro w W; replace S := St.mk S W; clear W)
   refine Za (hK3 _ _ ?_)
   refine Xv S (.t rfl) (fun h1 => ?_) (fun h1 => ?_)
   refine sg S (.mv rfl <| .as rfl <| .z) fun a w S => wp_ret (Zr (Ze (Ze (Zr (Ze (Zj S (results1 S results189 (Rv.tmp rfl)) ?_))))))
   rotate_left
   refine wp_skip (Zm (Za (hK2 _ _ (wp_region_lit (run S (.ad (by unfold I64; omega) rfl <| .mv rfl <| .z) fun a w S => Zb (Za ?_))))))
   rotate_left
   · refine ⟨?_, S.wd.below⟩
     obtain ⟨rfl, rfl, rfl⟩ := h1
     rw [← hno, hd, idxFrom, if_pos rfl]
   · rw [hd, idxFrom, if_neg (fun e => h1 (by cases e; exact ⟨rfl, rfl, rfl⟩))] at hno
     exact ⟨k + 1, ⟨by omega, hno⟩, by omega, S.wk⟩
 · refine sg S (.ge (by omega) rfl rfl <| .z) fun a w S => wp_seq_k fun _ hK2 => Zf S (.t rfl) (wp_exit (Zi (Zi (Zy (Za (hK1 _ _ (sg S (.ac rfl <| .z) fun a w S => wp_ret (Zj S (results1 S results189 (Rv.tmp rfl)) ?_))))))))
   refine ⟨?_, S.wd.below⟩
   rw [← hno, List.drop_eq_nil_of_le (by omega)]; rfl
theorem c159 (w0 : World) (v1 : Value) (l : List Dot) (x y z : Int) (h : Sl Dot.enc 3 w0 w0.heap.size v1 l) :
   Calls Tryz.prog 159 #[v1, .agg #[.int .i64 x, .int .i64 y, .int .i64 z]] w0 fun e w' => e = .returned (.bool (decide ((⟨x, y, z⟩ : Dot) ∈ l))) ∧ Bel w0.heap.size w0 w' := by
 refine enter2 func159 rfl ntmps159 rfl fun a S => wp_seq_k fun _ hK1 => wp_region_lit (Zk (Ya S (.t rfl) rfl fun g1 a w S => run S (.ac rfl <| .z) fun a w S => Zb (Za (hK1 _ _ (sg S (.mv rfl <| .la gt74 0 rfl rfl rfl <| .xx (Zh call189 (.cons (.t rfl) (.cons (.t rfl) .nil)) (fun hp w W => c189 _ _ _ _ _ _ (by exact .old W (by assumption)))) rfl <| .yy (Xd (.t rfl) Ev.c) rfl <| .as rfl <| .z) fun a w S => wp_ret (Zj S (results1 S results159 (Rv.tmp rfl)) ?_))))))
 refine ⟨?_, S.wd.below⟩
 rw [idx_mem]
theorem c109 (w0 : World) (v1 v2 : Value) (C : Ctx) (x y z : Int) (h : RdCtx w0 w0.heap.size v1 v2 C) :
   Calls Tryz.prog 109 #[.agg #[v1, v2], .agg #[.int .i64 x, .int .i64 y, .int .i64 z]] w0 fun e w' => e = .returned (.bool (C.covers ⟨x, y, z⟩)) ∧ Bel w0.heap.size w0 w' := by
 obtain ⟨⟨A, cap, rfl, hA⟩, ⟨A', cap', rfl, hA'⟩⟩ := h
 have h1 : Sl Dot.enc 3 w0 w0.heap.size (.slice A C.marks.length cap) C.marks := ⟨A, cap, rfl, hA⟩
 have h2 : Sl Dot.enc 3 w0 w0.heap.size (.slice A' C.cloud.length cap') C.cloud := ⟨A', cap', rfl, hA'⟩
 clear hA hA'
 refine enter2 func109 rfl ntmps109 rfl fun a S => wp_seq_k fun _ hK1 => wp_region_lit (Zk (Ya S (.t rfl) rfl fun g1 a w S => Zk (Ya S (.t rfl) rfl fun g2 a w S => run S (.ac rfl <| .z) fun a w S => Zb (Za (hK1 _ _ (wp_seq_k fun _ hK1 => Zw S (by kernel_rfl) (by kernel_rfl) fun a S => qrun S (.fa underlying74 sizeOf3 2 rfl rfl rfl <| .ld gt3 0 rfl rfl rfl <| .yy (Xd (.t rfl) Ev.c) rfl <| .mv rfl <| .z) fun a S => q_yg S rfl rfl (Yr.ys (Zc (FieldT.mk underlying74 rfl sizeOf3 rfl) (.t rfl) (i' := 2) rfl)) rfl fun a S => q_yg S rfl rfl (Yr.ys (Zu ⟨isAgg3, sizeOf3⟩ (Ev.g rfl) (k := 0) rfl rfl)) rfl fun a S => q_yg S rfl rfl (Yr.ys (Ye ⟨isAgg35, sizeOf35⟩ (.t rfl) (k := 1) rfl rfl)) rfl fun a S => q_yg S rfl rfl (Yr.ys (Ye ⟨isAgg74, sizeOf74⟩ (.t rfl) (k := 0) rfl rfl)) rfl fun a S => q_yg S rfl rfl (Zh call141 (.cons (Ev.g rfl) .nil) (fun hp w W => c141 _ _ _ _)) rfl fun a S => q_yg S rfl rfl (Zh call140 (.cons (Ev.g rfl) (.cons (Ev.g rfl) .nil)) (fun hp w W => c140 _ _ _ _ _ _ (by exact .old W (by assumption)))) rfl fun a S => q_yg S rfl rfl (Yr.ys (Xb (Ev.g rfl) (Ev.g rfl))) rfl fun a S => q_yg S rfl rfl (Yr.ys (Zd (Ev.g rfl))) rfl fun a S => q_yf2 S rfl rfl (Yr.ys (Zc (FieldT.mk underlying35 rfl sizeOf33 rfl) (.t rfl) (i' := 1) rfl)) rfl fun a S => ?_))))))
 refine q_yf2 S rfl rfl (Yr.ys (Zu ⟨isAgg33, sizeOf33⟩ (Ev.g rfl) (k := 1) rfl rfl)) rfl fun a S => q_yf2 S rfl rfl (Yr.ys (Ye ⟨isAgg74, sizeOf74⟩ (.t rfl) (k := 0) rfl rfl)) rfl fun a S => q_yf2 S rfl rfl (Zh call159 (.cons (Ev.g rfl) (.cons (Ev.g rfl) .nil)) (fun hp w W => c159 _ _ _ _ _ _ (by exact .old W (by assumption)))) rfl fun a S => q_yg S rfl rfl (Yr.ys (ys_or2 (Ev.g rfl) Ev.c (Ev.g rfl))) rfl fun a S => qrun S (.yy (Xn (.t rfl) (Ev.g rfl) Ev.c) rfl <| .as rfl <| .z) fun a S => ?_
 (refine Yv ?_; intro w W; replace S := St.mk S W; clear W)
 refine Za (hK1 _ _ (wp_ret (Zj S (results1 S results109 (Rv.tmp rfl)) ?_)))
 exact ⟨rfl, S.wd.below⟩
theorem c77 (w0 : World) (v1 v2 : Value) (C : Ctx) (x y z : Int) (h : RdCtx w0 w0.heap.size v1 v2 C) :
   Calls Tryz.prog 77 #[.agg #[v1, v2], .agg #[.int .i64 x, .int .i64 y, .int .i64 z]] w0 fun e w' => e = .returned (.bool (C.coversR ⟨x, y, z⟩)) ∧ Bel w0.heap.size w0 w' := by
 obtain ⟨⟨A, cap, rfl, hA⟩, ⟨A', cap', rfl, hl, hcap, hA'⟩⟩ := h
 have h1 : Sl Dot.enc 3 w0 w0.heap.size (.slice A C.marks.length cap) C.marks := ⟨A, cap, rfl, hA⟩
 clear hA
 refine enter2 func77 rfl ntmps77 rfl fun a S => wp_seq_k fun _ hK1 => wp_region_lit (Zk (Ya S (.t rfl) rfl fun g1 a w S => Zk (Ya S (.t rfl) rfl fun g2 a w S => run S (.ac rfl <| .z) fun a w S => Zb (Za (hK1 _ _ (wp_seq_k fun _ hK1 => wp_seq_k fun _ hK2 => Zw S (by kernel_rfl) (by kernel_rfl) fun a S => qrun S (.fa underlying74 sizeOf3 2 rfl rfl rfl <| .ld gt3 0 rfl rfl rfl <| .yy (Xd (.t rfl) Ev.c) rfl <| .mv rfl <| .z) fun a S => q_yg S rfl rfl (Yr.ys (Zc (FieldT.mk underlying74 rfl sizeOf3 rfl) (.t rfl) (i' := 2) rfl)) rfl fun a S => q_yg S rfl rfl (Yr.ys (Zu ⟨isAgg3, sizeOf3⟩ (Ev.g rfl) (k := 0) rfl rfl)) rfl fun a S => q_yg S rfl rfl (Yr.ys (Zc (FieldT.mk underlying35 rfl sizeOf32 rfl) (.t rfl) (i' := 0) rfl)) rfl fun a S => q_yg S rfl rfl (Yr.ys (Zu ⟨isAgg32, sizeOf32⟩ (Ev.g rfl) (k := 1) rfl rfl)) rfl fun a S => q_yg S rfl rfl (Yr.ys (Zc (FieldT.mk underlying74 rfl sizeOf3 rfl) (.t rfl) (i' := 0) rfl)) rfl fun a S => q_yg S rfl rfl (Yr.ys (Zu ⟨isAgg3, sizeOf3⟩ (Ev.g rfl) (k := 0) rfl rfl)) rfl fun a S => q_yg S rfl rfl (Yr.ys (Zc (FieldT.mk underlying74 rfl sizeOf3 rfl) (.t rfl) (i' := 1) rfl)) rfl fun a S => q_yg S rfl rfl (Yr.ys (Zu ⟨isAgg3, sizeOf3⟩ (Ev.g rfl) (k := 0) rfl rfl)) rfl fun a S => ?_))))))
 refine q_yg S rfl rfl (Zh call143 (.cons (Ev.g rfl) (.cons (Ev.g rfl) (.cons (Ev.g rfl) .nil))) (fun hp w W => c143 _ _ _ _ _ (by exact .old W (by assumption)))) rfl fun a S => q_yg S rfl rfl (Yr.ys (Xb (Ev.g rfl) (Ev.g rfl))) rfl fun a S => qrun S (.yy (Xn (.t rfl) (Ev.g rfl) Ev.c) rfl <| .z) fun a S => ?_
 (refine Yv ?_; intro w W; replace S := St.mk S W; clear W)
 refine Za (hK2 _ _ ?_)
 refine Wb S (.t rfl) (fun h2 => ?_) (fun h2 => ?_)
 refine sg S (.ac rfl <| .z) fun a w S => wp_ret (Ze (Zj S (results1 S results77 (Rv.tmp rfl)) ?_))
 rotate_left
 refine wp_skip (Za (hK1 _ _ (wp_seq_k fun _ hK1 => sg S (.fa underlying35 sizeOf33 1 rfl rfl rfl <| .ld gt33 1 rfl rfl rfl <| .ln underlying33 rfl <| .mc rfl <| .z) fun a w S => wp_block ?_)))
 rotate_left
 · refine ⟨?_, S.wd.below⟩
   rw [Ctx.coversR, h2, Bool.true_or]
 · refine We S (X := Nat) (fun k => [(25, true, .int .i64 (k : Int))]) (fun _ L => L) (fun k => k ≤ C.cloud.length ∧ (decide ((⟨x, y, z⟩ : Dot) ∈ C.cloud.drop k) = decide ((⟨x, y, z⟩ : Dot) ∈ C.cloud))) (fun k => C.cloud.length - k) 0 ⟨Nat.zero_le _, rfl⟩ ?_
   clear S
   intro k a w ⟨hk, hno⟩ S
   by_cases hlt : k < C.cloud.length
   · obtain ⟨g, o, m, rfl, hm, hd, hc⟩ := Yk hA' hlt
     clear hA'
     refine sg S (.lt (by omega) rfl rfl <| .z) fun a w S => wp_seq_k fun _ hK2 => Zg S (.t rfl) (wp_skip (Za (hK2 _ _ (wp_seq_k fun _ hK2 => wp_block (wp_seq_k fun _ hK3 => wp_region_lit (run S (.ix underlying33 sizeOf74 (by omega) rfl rfl <| .yy (Zp ⟨isAgg74, sizeOf74⟩ (.t rfl) (vs := [_, _, _]) rfl (fun _ => hc)) rfl <| .z) fun a w S => Zk (Zn S zeroValue74 (cs := _) rfl rfl fun g3 a w S => Zk (Zv S sizeOf74 (.t rfl) (.t rfl) (k := 0) rfl rfl rfl (by simp [Value.oneCell']) fun a w S => Zb (Za (hK3 _ _ (sg S (.la gt74 0 rfl rfl rfl <| .la gt74 1 rfl rfl rfl <| .yy (Ws (.t rfl) (.t rfl) eq74) rfl <| .z) fun a w S => ?_)))))))))))
     refine Xv S (.t rfl) (fun h3 => ?_) (fun h3 => ?_)
     refine sg S (.ac rfl <| .z) fun a w S => wp_ret (Zr (Ze (Ze (Zr (Ze (Zj S (results1 S results77 (Rv.tmp rfl)) ?_))))))
     rotate_left
     refine wp_skip (Zm (Za (hK2 _ _ (wp_region_lit (run S (.ad (by unfold I64; omega) rfl <| .mv rfl <| .z) fun a w S => Zb (Za ?_))))))
     rotate_left
     · refine ⟨?_, S.wd.below⟩
       obtain ⟨rfl, rfl, rfl⟩ := h3
       rw [Ctx.coversR, ← hno, hd]; simp
     · refine ⟨k + 1, ⟨by omega, ?_⟩, by omega, S.wk⟩
       rw [← hno, hd, decide_eq_decide]
       simp only [List.mem_cons]
       exact ⟨.inr, fun h => h.resolve_left (fun e => h3 (by cases e; exact ⟨rfl, rfl, rfl⟩))⟩
   · refine sg S (.ge (by omega) rfl rfl <| .z) fun a w S => wp_seq_k fun _ hK2 => Zf S (.t rfl) (wp_exit (Zi (Zi (Zy (Za (hK1 _ _ (sg S (.ac rfl <| .z) fun a w S => wp_ret (Zj S (results1 S results77 (Rv.tmp rfl)) ?_))))))))
     refine ⟨?_, S.wd.below⟩
     rw [Ctx.coversR, h2, ← hno, List.drop_eq_nil_of_le (by omega)]; simp
end Go.Proofs.YtakpdbmdfnialaaGreat
namespace Go.Proofs.YtakpdbmdfnialaaGreat
open Go.Fw Go.Proofs Go.RowKit Go.Proofs.Tryz
theorem c23 (w0 : World) (v v' : Value) (l l' : List Dot) (h : Sl Dot.enc 3 w0 w0.heap.size v l) (h' : Sl Dot.enc 3 w0 w0.heap.size v' l') :
   Calls Tryz.prog 23 #[v, v'] w0 fun e w' => e = .returned (.bool (decide (l = l'))) ∧ Bel w0.heap.size w0 w' := by
 obtain ⟨A, cap, rfl, hl, hcap, hA⟩ := h
 obtain ⟨A', cap', rfl, hl', hcap', hA'⟩ := h'
 refine enter2 func23 rfl ntmps23 rfl fun a S => sg S (.ac rfl <| .z) fun a w S => wp_seq_k fun _ hK1 => sg S (.mv rfl <| .ln underlying32 rfl <| .mv rfl <| .ln underlying32 rfl <| .yy (Yt (.t rfl) (.t rfl)) rfl <| .z) fun a w S => ?_
 refine Xv S (.t rfl) (fun h1 => ?_) (fun h1 => ?_)
 refine sg S (.ac rfl <| .z) fun a w S => wp_ret (Ze (Zj S (results1 S results23 (Rv.tmp rfl)) ?_))
 rotate_left
 refine wp_skip (Za (hK1 _ _ (wp_seq_k fun _ hK1 => sg S (.mv rfl <| .ln underlying32 rfl <| .mc rfl <| .z) fun a w S => wp_block ?_)))
 rotate_left
 · refine ⟨?_, S.wd.below⟩
   rw [decide_eq_false (fun e => h1 (by rw [e]))]
 · refine We S (X := Nat) (fun k => [(13, true, .int .i64 (k : Int))]) (fun _ L => L) (fun k => k ≤ l.length ∧ l.take k = l'.take k) (fun k => l.length - k) 0 ⟨Nat.zero_le _, rfl⟩ ?_
   clear S
   intro k a w ⟨hk, hno⟩ S
   by_cases hlt : k < l.length
   · obtain ⟨g, o, m, rfl, hmm, hd, hc⟩ := Yk hA hlt
     obtain ⟨g', o', m', rfl, hmm', hd', hc'⟩ := Yk hA' (show k < l'.length by omega)
     clear hA hA'
     refine sg S (.lt (by omega) rfl rfl <| .z) fun a w S => wp_seq_k fun _ hK2 => Zg S (.t rfl) (wp_skip (Za (hK2 _ _ (wp_seq_k fun _ hK2 => wp_block (sg S (.mv rfl <| .as rfl <| .z) fun a w S => wp_seq_k fun _ hK3 => Zw S (by kernel_rfl) (by kernel_rfl) fun a S => qrun S (.mv rfl <| .mv rfl <| .ix underlying32 sizeOf30 (by omega) rfl rfl <| .yy (Zp ⟨isAgg30, sizeOf30⟩ (.t rfl) (vs := [_, _, _]) rfl (fun _ => hc)) rfl <| .mv rfl <| .mv rfl <| .ix underlying32 sizeOf30 (by omega) rfl rfl <| .yy (Zp ⟨isAgg30, sizeOf30⟩ (.t rfl) (vs := [_, _, _]) rfl (fun _ => hc')) rfl <| .yy (ys_neA (.t rfl) (.t rfl) eq30) rfl <| .z) fun a S => ?_)))))
     (refine Yv ?_; intro w W; replace S := St.mk S W; clear W)
     refine Za (hK3 _ _ ?_)
     refine Wb S (.t rfl) (fun h2 => ?_) (fun h2 => ?_)
     refine sg S (.ac rfl <| .z) fun a w S => wp_ret (Zr (Ze (Ze (Zr (Ze (Zj S (results1 S results23 (Rv.tmp rfl)) ?_))))))
     rotate_left
     refine wp_skip (Zm (Za (hK2 _ _ (wp_region_lit (run S (.ad (by unfold I64; omega) rfl <| .mv rfl <| .z) fun a w S => Zb (Za ?_))))))
     rotate_left
     · refine ⟨?_, S.wd.below⟩
       rw [ne_at hmm hmm' (by rw [Dot.eq_iff]; simp at h2; omega)]
     · exact ⟨k + 1, ⟨by omega, take_step hno hmm hmm' (by rw [Dot.eq_iff]; simp at h2; omega)⟩, by omega, S.wk⟩
   · refine sg S (.ge (by omega) rfl rfl <| .z) fun a w S => wp_seq_k fun _ hK2 => Zf S (.t rfl) (wp_exit (Zi (Zi (Zy (Za (hK1 _ _ (sg S (.ac rfl <| .z) fun a w S => wp_ret (Zj S (results1 S results23 (Rv.tmp rfl)) ?_))))))))
     refine ⟨?_, S.wd.below⟩
     rw [decide_eq_true]
     rw [List.take_of_length_le (by omega), List.take_of_length_le (by omega)] at hno
     exact hno
theorem c46 (w0 : World) (v v' : Value) (l l' : List Dot) (h : Sl Dot.enc 3 w0 w0.heap.size v l) (h' : Sl Dot.enc 3 w0 w0.heap.size v' l') :
   Calls Tryz.prog 46 #[v, v'] w0 fun e w' => e = .returned (.bool (decide (l = l'))) ∧ Bel w0.heap.size w0 w' := by
 obtain ⟨A, cap, rfl, hl, hcap, hA⟩ := h
 obtain ⟨A', cap', rfl, hl', hcap', hA'⟩ := h'
 refine enter2 func46 rfl ntmps46 rfl fun a S => sg S (.ac rfl <| .z) fun a w S => wp_seq_k fun _ hK1 => sg S (.mv rfl <| .ln underlying33 rfl <| .mv rfl <| .ln underlying33 rfl <| .yy (Yt (.t rfl) (.t rfl)) rfl <| .z) fun a w S => ?_
 refine Xv S (.t rfl) (fun h1 => ?_) (fun h1 => ?_)
 refine sg S (.ac rfl <| .z) fun a w S => wp_ret (Ze (Zj S (results1 S results46 (Rv.tmp rfl)) ?_))
 rotate_left
 refine wp_skip (Za (hK1 _ _ (wp_seq_k fun _ hK1 => sg S (.mv rfl <| .ln underlying33 rfl <| .mc rfl <| .z) fun a w S => wp_block ?_)))
 rotate_left
 · refine ⟨?_, S.wd.below⟩
   rw [decide_eq_false (fun e => h1 (by rw [e]))]
 · refine We S (X := Nat) (fun k => [(13, true, .int .i64 (k : Int))]) (fun _ L => L) (fun k => k ≤ l.length ∧ l.take k = l'.take k) (fun k => l.length - k) 0 ⟨Nat.zero_le _, rfl⟩ ?_
   clear S
   intro k a w ⟨hk, hno⟩ S
   by_cases hlt : k < l.length
   · obtain ⟨g, o, m, rfl, hmm, hd, hc⟩ := Yk hA hlt
     obtain ⟨g', o', m', rfl, hmm', hd', hc'⟩ := Yk hA' (show k < l'.length by omega)
     clear hA hA'
     refine sg S (.lt (by omega) rfl rfl <| .z) fun a w S => wp_seq_k fun _ hK2 => Zg S (.t rfl) (wp_skip (Za (hK2 _ _ (wp_seq_k fun _ hK2 => wp_block (sg S (.mv rfl <| .as rfl <| .z) fun a w S => wp_seq_k fun _ hK3 => Zw S (by kernel_rfl) (by kernel_rfl) fun a S => qrun S (.mv rfl <| .mv rfl <| .ix underlying33 sizeOf74 (by omega) rfl rfl <| .yy (Zp ⟨isAgg74, sizeOf74⟩ (.t rfl) (vs := [_, _, _]) rfl (fun _ => hc)) rfl <| .mv rfl <| .mv rfl <| .ix underlying33 sizeOf74 (by omega) rfl rfl <| .yy (Zp ⟨isAgg74, sizeOf74⟩ (.t rfl) (vs := [_, _, _]) rfl (fun _ => hc')) rfl <| .yy (ys_neA (.t rfl) (.t rfl) eq74) rfl <| .z) fun a S => ?_)))))
     (refine Yv ?_; intro w W; replace S := St.mk S W; clear W)
     refine Za (hK3 _ _ ?_)
     refine Wb S (.t rfl) (fun h2 => ?_) (fun h2 => ?_)
     refine sg S (.ac rfl <| .z) fun a w S => wp_ret (Zr (Ze (Ze (Zr (Ze (Zj S (results1 S results46 (Rv.tmp rfl)) ?_))))))
     rotate_left
     refine wp_skip (Zm (Za (hK2 _ _ (wp_region_lit (run S (.ad (by unfold I64; omega) rfl <| .mv rfl <| .z) fun a w S => Zb (Za ?_))))))
     rotate_left
     · refine ⟨?_, S.wd.below⟩
       rw [ne_at hmm hmm' (by rw [Dot.eq_iff]; simp at h2; omega)]
     · exact ⟨k + 1, ⟨by omega, take_step hno hmm hmm' (by rw [Dot.eq_iff]; simp at h2; omega)⟩, by omega, S.wk⟩
   · refine sg S (.ge (by omega) rfl rfl <| .z) fun a w S => wp_seq_k fun _ hK2 => Zf S (.t rfl) (wp_exit (Zi (Zi (Zy (Za (hK1 _ _ (sg S (.ac rfl <| .z) fun a w S => wp_ret (Zj S (results1 S results46 (Rv.tmp rfl)) ?_))))))))
     refine ⟨?_, S.wd.below⟩
     rw [decide_eq_true]
     rw [List.take_of_length_le (by omega), List.take_of_length_le (by omega)] at hno
     exact hno
theorem c72 (w0 : World) (v1 v2 v3 v4 : Value) (C D : Ctx) (h : RdCtx w0 w0.heap.size v1 v2 C) (h' : RdCtx w0 w0.heap.size v3 v4 D) :
   Calls Tryz.prog 72 #[.agg #[v1, v2], .agg #[v3, v4]] w0 fun e w' => e = .returned (.bool (decide (C = D))) ∧ Bel w0.heap.size w0 w' := by
 obtain ⟨h1, h2⟩ := h
 obtain ⟨h3, h4⟩ := h'
 refine enter2 func72 rfl ntmps72 rfl fun a S => wp_seq_k fun _ hK1 => wp_region_lit (Zk (Ya S (.t rfl) rfl fun g1 a w S => Zk (Ya S (.t rfl) rfl fun g2 a w S => run S (.ac rfl <| .z) fun a w S => Zb (Za (hK1 _ _ (wp_seq_k fun _ hK1 => wp_region_lit (run S (.fa underlying35 sizeOf32 0 rfl rfl rfl <| .ld gt32 1 rfl rfl rfl <| .fa underlying35 sizeOf32 0 rfl rfl rfl <| .ld gt32 0 rfl rfl rfl <| .xx (Zh call23 (.cons (.t rfl) (.cons (.t rfl) .nil)) (fun hp w W => c23 _ _ _ _ _ (by exact .old W (by assumption)) (by exact .old W (by assumption)))) rfl <| .mv rfl <| .z) fun a w S => Yg S rfl rfl (Yr.ys (Zc (FieldT.mk underlying35 rfl sizeOf33 rfl) (.t rfl) (i' := 1) rfl)) rfl fun a w S => Yg S rfl rfl (Yr.ys (Zu ⟨isAgg33, sizeOf33⟩ (Ev.g rfl) (k := 1) rfl rfl)) rfl fun a w S => Yg S rfl rfl (Yr.ys (Zc (FieldT.mk underlying35 rfl sizeOf33 rfl) (.t rfl) (i' := 1) rfl)) rfl fun a w S => Yg S rfl rfl (Yr.ys (Zu ⟨isAgg33, sizeOf33⟩ (Ev.g rfl) (k := 0) rfl rfl)) rfl fun a w S => Yg S rfl rfl (Zh call46 (.cons (Ev.g rfl) (.cons (Ev.g rfl) .nil)) (fun hp w W => c46 _ _ _ _ _ (by exact .old W (by assumption)) (by exact .old W (by assumption)))) rfl fun a w S => run S (.yy (Xn (.t rfl) (Ev.g rfl) Ev.c) rfl <| .as rfl <| .z) fun a w S => Zb (Za (hK1 _ _ (wp_ret ?_))))))))))
 refine Zj S (results1 S results72 (Rv.tmp rfl)) ?_
 refine ⟨?_, S.wd.below⟩
 have e : (decide (C.marks = D.marks) && decide (C.cloud = D.cloud)) = decide (C = D) := by
   rw [Bool.eq_iff_iff]
   cases C; cases D
   simp
 rw [e]
theorem c147 (w0 : World) (x y z : Int) :
   Calls Tryz.prog 147 #[.agg #[.int .i64 x, .int .i64 y, .int .i64 z]] w0 fun e w' => e = .returned (.bool (mayD ⟨x, y, z⟩)) ∧ Bel w0.heap.size w0 w' := by
 refine enter1 func147 rfl ntmps147 rfl fun a S => wp_seq_k fun _ hK1 => wp_region_lit (Zk (Ya S (.t rfl) rfl fun g1 a w S => run S (.ac rfl <| .z) fun a w S => Zb (Za (hK1 _ _ (wp_seq_k fun _ hK1 => wp_region_lit (run S (.fa underlying74 sizeOf3 0 rfl rfl rfl <| .ld gt3 0 rfl rfl rfl <| .yy (Xd (.t rfl) Ev.c) rfl <| .mv rfl <| .z) fun a w S => Yg S rfl rfl (Yr.ys (Zc (FieldT.mk underlying74 rfl sizeOf3 rfl) (.t rfl) (i' := 0) rfl)) rfl fun a w S => Yg S rfl rfl (Yr.ys (Zu ⟨isAgg3, sizeOf3⟩ (Ev.g rfl) (k := 0) rfl rfl)) rfl fun a w S => Yg S rfl rfl (Yr.ys (Yq (Ev.g rfl) Ev.c)) rfl fun a w S => run S (.yy (Xn (.t rfl) (Ev.g rfl) Ev.c) rfl <| .mv rfl <| .z) fun a w S => Yg S rfl rfl (Yr.ys (Zc (FieldT.mk underlying74 rfl sizeOf3 rfl) (.t rfl) (i' := 1) rfl)) rfl fun a w S => Yg S rfl rfl (Yr.ys (Zu ⟨isAgg3, sizeOf3⟩ (Ev.g rfl) (k := 0) rfl rfl)) rfl fun a w S => Yg S rfl rfl (Yr.ys (Xd (Ev.g rfl) Ev.c)) rfl fun a w S => run S (.yy (Xn (.t rfl) (Ev.g rfl) Ev.c) rfl <| .mv rfl <| .z) fun a w S => Yg S rfl rfl (Yr.ys (Zc (FieldT.mk underlying74 rfl sizeOf3 rfl) (.t rfl) (i' := 1) rfl)) rfl fun a w S => Yg S rfl rfl (Yr.ys (Zu ⟨isAgg3, sizeOf3⟩ (Ev.g rfl) (k := 0) rfl rfl)) rfl fun a w S => Yg S rfl rfl (Yr.ys (Xb (Ev.g rfl) Ev.c)) rfl fun a w S => ?_))))))
 refine run S (.yy (Xn (.t rfl) (Ev.g rfl) Ev.c) rfl <| .mv rfl <| .z) fun a w S => Yg S rfl rfl (Yr.ys (Zc (FieldT.mk underlying74 rfl sizeOf3 rfl) (.t rfl) (i' := 2) rfl)) rfl fun a w S => Yg S rfl rfl (Yr.ys (Zu ⟨isAgg3, sizeOf3⟩ (Ev.g rfl) (k := 0) rfl rfl)) rfl fun a w S => Yg S rfl rfl (Yr.ys (Xd (Ev.g rfl) Ev.c)) rfl fun a w S => run S (.yy (Xn (.t rfl) (Ev.g rfl) Ev.c) rfl <| .mv rfl <| .z) fun a w S => Yg S rfl rfl (Yr.ys (Zc (FieldT.mk underlying74 rfl sizeOf3 rfl) (.t rfl) (i' := 2) rfl)) rfl fun a w S => Yg S rfl rfl (Yr.ys (Zu ⟨isAgg3, sizeOf3⟩ (Ev.g rfl) (k := 0) rfl rfl)) rfl fun a w S => Yg S rfl rfl (Yr.ys (Xb (Ev.g rfl) Ev.c)) rfl fun a w S => run S (.yy (Xn (.t rfl) (Ev.g rfl) Ev.c) rfl <| .as rfl <| .z) fun a w S => Zb (Za (hK1 _ _ (wp_ret (Zj S (results1 S results147 (Rv.tmp rfl)) ?_))))
 refine ⟨?_, S.wd.below⟩
 simp [mayD, Bool.and_assoc]
theorem c146 (w0 : World) (x y z : Int) :
   Calls Tryz.prog 146 #[.agg #[.int .i64 x, .int .i64 y, .int .i64 z]] w0 fun e w' => e = .returned (.bool (mayD ⟨x, y, z⟩)) ∧ Bel w0.heap.size w0 w' := by
 refine enter1 func146 rfl ntmps146 rfl fun a S => wp_seq_k fun _ hK1 => wp_region_lit (Zk (Ya S (.t rfl) rfl fun g1 a w S => run S (.ac rfl <| .z) fun a w S => Zb (Za (hK1 _ _ (sg S (.la gt30 0 rfl rfl rfl <| .xx (Zh call147 (.cons (.t rfl) .nil) (fun hp w W => c147 _ _ _ _)) rfl <| .as rfl <| .z) fun a w S => wp_ret (Zj S (results1 S results146 (Rv.tmp rfl)) ?_))))))
 exact ⟨rfl, S.wd.below⟩
theorem c148 (w0 : World) (x y z x' y' z' : Int) :
   Calls Tryz.prog 148 #[.agg #[.int .i64 x, .int .i64 y, .int .i64 z], .agg #[.int .i64 x', .int .i64 y', .int .i64 z']] w0 fun e w' => e = .returned (.bool (belowD ⟨x, y, z⟩ ⟨x', y', z'⟩)) ∧ Bel w0.heap.size w0 w' := by
 refine enter2 func148 rfl ntmps148 rfl fun a S => wp_seq_k fun _ hK1 => wp_region_lit (Zk (Ya S (.t rfl) rfl fun g1 a w S => Zk (Ya S (.t rfl) rfl fun g2 a w S => run S (.ac rfl <| .z) fun a w S => Zb (Za (hK1 _ _ (wp_seq_k fun _ hK1 => sg S (.fa underlying74 sizeOf3 0 rfl rfl rfl <| .ld gt3 1 rfl rfl rfl <| .fa underlying74 sizeOf3 0 rfl rfl rfl <| .ld gt3 0 rfl rfl rfl <| .yy (Yt (.t rfl) (.t rfl)) rfl <| .z) fun a w S => ?_))))))
 refine Xv S (.t rfl) (fun h1 => ?_) (fun h1 => ?_)
 refine sg S (.fa underlying74 sizeOf3 0 rfl rfl rfl <| .ld gt3 1 rfl rfl rfl <| .fa underlying74 sizeOf3 0 rfl rfl rfl <| .ld gt3 0 rfl rfl rfl <| .yy (Yq (.t rfl) (.t rfl)) rfl <| .as rfl <| .z) fun a w S => wp_ret (Ze (Zj S (results1 S results148 (Rv.tmp rfl)) ?_))
 rotate_left
 refine wp_skip (Za (hK1 _ _ (wp_seq_k fun _ hK1 => sg S (.fa underlying74 sizeOf3 1 rfl rfl rfl <| .ld gt3 1 rfl rfl rfl <| .fa underlying74 sizeOf3 1 rfl rfl rfl <| .ld gt3 0 rfl rfl rfl <| .yy (Yt (.t rfl) (.t rfl)) rfl <| .z) fun a w S => ?_)))
 refine Xv S (.t rfl) (fun h2 => ?_) (fun h2 => ?_)
 refine sg S (.fa underlying74 sizeOf3 1 rfl rfl rfl <| .ld gt3 1 rfl rfl rfl <| .fa underlying74 sizeOf3 1 rfl rfl rfl <| .ld gt3 0 rfl rfl rfl <| .yy (Yq (.t rfl) (.t rfl)) rfl <| .as rfl <| .z) fun a w S => wp_ret (Ze (Zj S (results1 S results148 (Rv.tmp rfl)) ?_))
 rotate_left
 refine wp_skip (Za (hK1 _ _ (sg S (.fa underlying74 sizeOf3 2 rfl rfl rfl <| .ld gt3 1 rfl rfl rfl <| .fa underlying74 sizeOf3 2 rfl rfl rfl <| .ld gt3 0 rfl rfl rfl <| .yy (Yq (.t rfl) (.t rfl)) rfl <| .as rfl <| .z) fun a w S => wp_ret (Zj S (results1 S results148 (Rv.tmp rfl)) ?_))))
 rotate_left
 all_goals refine ⟨?_, S.wd.below⟩
 all_goals simp_all [belowD]
end Go.Proofs.YtakpdbmdfnialaaGreat
namespace Go.Fw
theorem all_take {s : List UInt8} {p : UInt8 → Bool} {k : Nat} {x : UInt8} (hx : s[k]? = some x) (h : (s.take k).all p = true) (h1 : p x = true) : (s.take (k + 1)).all p = true := by
 rw [List.take_add_one, hx, Option.toList_some, List.all_append, h]
 simp [h1]
theorem all_no {s : List UInt8} {p : UInt8 → Bool} {k : Nat} {x : UInt8} (hx : s[k]? = some x) (h1 : p x = false) : s.all p = false := by
 rw [List.all_eq_false]
 exact ⟨x, List.mem_of_getElem? hx, by simp [h1]⟩
end Go.Fw
namespace Go.Proofs.YtakpdbmdfnialaaGreat
open Go.Fw Go.Proofs Go.RowKit Go.Proofs.Tryz
theorem c82 (w0 : World) (s : List UInt8) : Calls Tryz.prog 82 #[.string (bs s)] w0 fun e w' => e = .returned (.bool (nameB s)) ∧ Bel w0.heap.size w0 w' := by
 by_cases h0 : s = []
 · have e : nameB s = false := by unfold nameB; simp [h0]
   have rw_0 : decide (s = []) = true := decide_eq_true h0
   refine enter1 func82 rfl ntmps82 rfl fun a S => sg S (.ac rfl <| .z) fun a w S => wp_seq_k fun _ hK1 => wp_seq_k fun _ hK2 => wp_region_lit (run S (.mv rfl <| .yy (Xi (.t rfl) Ev.c) rfl <| .z) fun a w S => ?_)
   rw [rw_0] at S
   refine run S (.mv rfl <| .sk rfl rfl rfl <| .sk rfl rfl rfl <| .sk rfl rfl rfl <| .yy (Zt (.t rfl) Ev.c) rfl <| .z) fun a w S => Zb (Za (hK2 _ _ (Zg S (.t rfl) (sg S (.ac rfl <| .z) fun a w S => wp_ret (Ze (Zj S (results1 S results82 (Rv.tmp rfl)) ?_))))))
   exact ⟨by rw [e], S.wd.below⟩
 have rw_0 : decide (s = []) = false := decide_eq_false h0
 by_cases h1 : 32 < s.length
 · have e : nameB s = false := by unfold nameB; simp; omega
   refine enter1 func82 rfl ntmps82 rfl fun a S => sg S (.ac rfl <| .z) fun a w S => wp_seq_k fun _ hK1 => wp_seq_k fun _ hK2 => wp_region_lit (run S (.mv rfl <| .yy (Xi (.t rfl) Ev.c) rfl <| .z) fun a w S => ?_)
   rw [rw_0] at S
   refine run S (.mv rfl <| .gy rfl rfl (Zd (.t rfl)) <| .gy rfl rfl (Xs underlying9 (.t rfl)) <| .gy rfl rfl (Yu (by omega) (Yj (.t rfl) Ev.c)) <| .yy (Zq (.t rfl) (.t rfl)) rfl <| .z) fun a w S => Zb (Za (hK2 _ _ (Zg S (.t rfl) (sg S (.ac rfl <| .z) fun a w S => wp_ret (Ze (Zj S (results1 S results82 (Rv.tmp rfl)) ?_))))))
   exact ⟨by rw [e], S.wd.below⟩
 have e : nameB s = s.all charB := by unfold nameB; simp [h0]; omega
 rw [e]
 refine enter1 func82 rfl ntmps82 rfl fun a S => sg S (.ac rfl <| .z) fun a w S => wp_seq_k fun _ hK1 => wp_seq_k fun _ hK2 => wp_region_lit (run S (.mv rfl <| .yy (Xi (.t rfl) Ev.c) rfl <| .z) fun a w S => ?_)
 rw [rw_0] at S
 refine run S (.mv rfl <| .gy rfl rfl (Zd (.t rfl)) <| .gy rfl rfl (Xs underlying9 (.t rfl)) <| .gy rfl rfl (Ym (by omega) (Yj (.t rfl) Ev.c)) <| .yy (Zq (.t rfl) (.t rfl)) rfl <| .z) fun a w S => Zb (Za (hK2 _ _ (Zf S (.t rfl) (wp_skip (Za (hK1 _ _ (wp_seq_k fun _ hK1 => sg S (.ac rfl <| .z) fun a w S => wp_block ?_)))))))
 refine Xe S [3] (X := Nat) (fun k => [(3, true, .int .i64 (k : Int))]) (fun _ => []) (fun k => k ≤ s.length ∧ (s.take k).all charB = true) (fun k => s.length - k) 0 ⟨Nat.zero_le _, by simp⟩ ?_
 clear S
 intro k a w ⟨hk, ha⟩ S
 by_cases hlt : k < s.length
 · obtain ⟨c, hc⟩ : ∃ c, s[k]? = some c := ⟨_, List.getElem?_eq_getElem hlt⟩
   have e1 : ((decide (97 ≤ (c.toNat : Int)) && decide ((c.toNat : Int) ≤ 122) || decide (65 ≤ (c.toNat : Int)) && decide ((c.toNat : Int) ≤ 90) || decide (48 ≤ (c.toNat : Int)) && decide ((c.toNat : Int) ≤ 57)) || decide ((c.toNat : Int) = 45) || decide ((c.toNat : Int) = 95) || decide ((c.toNat : Int) = 46)) = charB c := by
     unfold charB
     have f1 : decide ((97 : Int) ≤ (c.toNat : Int)) = decide (97 ≤ c.toNat) := decide_eq_decide.2 (by omega)
     have f2 : decide ((c.toNat : Int) ≤ 122) = decide (c.toNat ≤ 122) := decide_eq_decide.2 (by omega)
     have f3 : decide ((65 : Int) ≤ (c.toNat : Int)) = decide (65 ≤ c.toNat) := decide_eq_decide.2 (by omega)
     have f4 : decide ((c.toNat : Int) ≤ 90) = decide (c.toNat ≤ 90) := decide_eq_decide.2 (by omega)
     have f5 : decide ((48 : Int) ≤ (c.toNat : Int)) = decide (48 ≤ c.toNat) := decide_eq_decide.2 (by omega)
     have f6 : decide ((c.toNat : Int) ≤ 57) = decide (c.toNat ≤ 57) := decide_eq_decide.2 (by omega)
     have f7 : decide ((c.toNat : Int) = 45) = decide (c.toNat = 45) := decide_eq_decide.2 (by omega)
     have f8 : decide ((c.toNat : Int) = 95) = decide (c.toNat = 95) := decide_eq_decide.2 (by omega)
     have f9 : decide ((c.toNat : Int) = 46) = decide (c.toNat = 46) := decide_eq_decide.2 (by omega)
     rw [f1, f2, f3, f4, f5, f6, f7, f8, f9]
   cases hch : charB c with
   | false =>
     rw [hch] at e1
     have rw_c := e1
     refine wp_seq_k fun _ hK2 => sg S (.mv rfl <| .mv rfl <| .yy (Xs underlying9 (.t rfl)) rfl <| .lt (by omega) rfl rfl <| .z) fun a w S => Zg S (.t rfl) (wp_skip (Za (hK2 _ _ (wp_seq_k fun _ hK2 => wp_block (sg S (.mv rfl <| .mv rfl <| .yy (ys_ixStr underlying9 (.t rfl) (.t rfl) (fun _ => by assumption)) rfl <| .as rfl <| .z) fun a w S => wp_seq_k fun _ hK3 => wp_region_lit (run S (.mv rfl <| .yy (Xd (.t rfl) Ev.c) rfl <| .mv rfl <| .z) fun a w S => Yg S rfl rfl (Yr.ys (Zd (.t rfl))) rfl fun a w S => Yg S rfl rfl (Yr.ys (Xb (Ev.g rfl) Ev.c)) rfl fun a w S => run S (.yy (Xn (.t rfl) (Ev.g rfl) Ev.c) rfl <| .mv rfl <| .z) fun a w S => Xa S rfl rfl (Yr.ys (Zd (.t rfl))) rfl fun a w S => Xa S rfl rfl (Yr.ys (Xd (Ev.g rfl) Ev.c)) rfl fun a w S => Xa S rfl rfl (Yr.ys (Zd (Ev.g rfl))) rfl fun a w S => st_yg2 S rfl rfl (Yr.ys (Zd (.t rfl))) rfl fun a w S => st_yg2 S rfl rfl (Yr.ys (Xb (Ev.g rfl) Ev.c)) rfl fun a w S => Xa S rfl rfl (Yr.ys (ys_and2 (Ev.g rfl) (Ev.g rfl) Ev.c)) rfl fun a w S => run S (.yy (Ww (.t rfl) Ev.c (Ev.g rfl)) rfl <| .mv rfl <| .z) fun a w S => Xa S rfl rfl (Yr.ys (Zd (.t rfl))) rfl fun a w S => Xa S rfl rfl (Yr.ys (Xd (Ev.g rfl) Ev.c)) rfl fun a w S => ?_))))))
     refine Xa S rfl rfl (Yr.ys (Zd (Ev.g rfl))) rfl fun a w S => st_yg2 S rfl rfl (Yr.ys (Zd (.t rfl))) rfl fun a w S => st_yg2 S rfl rfl (Yr.ys (Xb (Ev.g rfl) Ev.c)) rfl fun a w S => Xa S rfl rfl (Yr.ys (ys_and2 (Ev.g rfl) (Ev.g rfl) Ev.c)) rfl fun a w S => run S (.yy (Ww (.t rfl) Ev.c (Ev.g rfl)) rfl <| .mv rfl <| .z) fun a w S => Xa S rfl rfl (Yr.ys (Zd (.t rfl))) rfl fun a w S => Xa S rfl rfl (Yr.ys (Yd (Ev.g rfl) Ev.c)) rfl fun a w S => run S (.yy (Ww (.t rfl) Ev.c (Ev.g rfl)) rfl <| .mv rfl <| .z) fun a w S => Xa S rfl rfl (Yr.ys (Zd (.t rfl))) rfl fun a w S => Xa S rfl rfl (Yr.ys (Yd (Ev.g rfl) Ev.c)) rfl fun a w S => run S (.yy (Ww (.t rfl) Ev.c (Ev.g rfl)) rfl <| .mv rfl <| .z) fun a w S => Xa S rfl rfl (Yr.ys (Zd (.t rfl))) rfl fun a w S => Xa S rfl rfl (Yr.ys (Yd (Ev.g rfl) Ev.c)) rfl fun a w S => run S (.yy (Ww (.t rfl) Ev.c (Ev.g rfl)) rfl <| .z) fun a w S => ?_
     rw [rw_c] at S
     refine run S (.nt rfl <| .z) fun a w S => Zb (Za (hK3 _ _ (Zg S (.t rfl) (sg S (.ac rfl <| .z) fun a w S => wp_ret (Zr (Ze (Ze (Zr (Ze (Zj S (results1 S results82 (Rv.tmp rfl)) ?_))))))))))
     exact ⟨by rw [all_no hc hch], S.wd.below⟩
   | true =>
     rw [hch] at e1
     have rw_c := e1
     refine wp_seq_k fun _ hK2 => sg S (.mv rfl <| .mv rfl <| .yy (Xs underlying9 (.t rfl)) rfl <| .lt (by omega) rfl rfl <| .z) fun a w S => Zg S (.t rfl) (wp_skip (Za (hK2 _ _ (wp_seq_k fun _ hK2 => wp_block (sg S (.mv rfl <| .mv rfl <| .yy (ys_ixStr underlying9 (.t rfl) (.t rfl) (fun _ => by assumption)) rfl <| .as rfl <| .z) fun a w S => wp_seq_k fun _ hK3 => wp_region_lit (run S (.mv rfl <| .yy (Xd (.t rfl) Ev.c) rfl <| .mv rfl <| .z) fun a w S => Yg S rfl rfl (Yr.ys (Zd (.t rfl))) rfl fun a w S => Yg S rfl rfl (Yr.ys (Xb (Ev.g rfl) Ev.c)) rfl fun a w S => run S (.yy (Xn (.t rfl) (Ev.g rfl) Ev.c) rfl <| .mv rfl <| .z) fun a w S => Xa S rfl rfl (Yr.ys (Zd (.t rfl))) rfl fun a w S => Xa S rfl rfl (Yr.ys (Xd (Ev.g rfl) Ev.c)) rfl fun a w S => Xa S rfl rfl (Yr.ys (Zd (Ev.g rfl))) rfl fun a w S => st_yg2 S rfl rfl (Yr.ys (Zd (.t rfl))) rfl fun a w S => st_yg2 S rfl rfl (Yr.ys (Xb (Ev.g rfl) Ev.c)) rfl fun a w S => Xa S rfl rfl (Yr.ys (ys_and2 (Ev.g rfl) (Ev.g rfl) Ev.c)) rfl fun a w S => run S (.yy (Ww (.t rfl) Ev.c (Ev.g rfl)) rfl <| .mv rfl <| .z) fun a w S => Xa S rfl rfl (Yr.ys (Zd (.t rfl))) rfl fun a w S => Xa S rfl rfl (Yr.ys (Xd (Ev.g rfl) Ev.c)) rfl fun a w S => ?_))))))
     refine Xa S rfl rfl (Yr.ys (Zd (Ev.g rfl))) rfl fun a w S => st_yg2 S rfl rfl (Yr.ys (Zd (.t rfl))) rfl fun a w S => st_yg2 S rfl rfl (Yr.ys (Xb (Ev.g rfl) Ev.c)) rfl fun a w S => Xa S rfl rfl (Yr.ys (ys_and2 (Ev.g rfl) (Ev.g rfl) Ev.c)) rfl fun a w S => run S (.yy (Ww (.t rfl) Ev.c (Ev.g rfl)) rfl <| .mv rfl <| .z) fun a w S => Xa S rfl rfl (Yr.ys (Zd (.t rfl))) rfl fun a w S => Xa S rfl rfl (Yr.ys (Yd (Ev.g rfl) Ev.c)) rfl fun a w S => run S (.yy (Ww (.t rfl) Ev.c (Ev.g rfl)) rfl <| .mv rfl <| .z) fun a w S => Xa S rfl rfl (Yr.ys (Zd (.t rfl))) rfl fun a w S => Xa S rfl rfl (Yr.ys (Yd (Ev.g rfl) Ev.c)) rfl fun a w S => run S (.yy (Ww (.t rfl) Ev.c (Ev.g rfl)) rfl <| .mv rfl <| .z) fun a w S => Xa S rfl rfl (Yr.ys (Zd (.t rfl))) rfl fun a w S => Xa S rfl rfl (Yr.ys (Yd (Ev.g rfl) Ev.c)) rfl fun a w S => run S (.yy (Ww (.t rfl) Ev.c (Ev.g rfl)) rfl <| .z) fun a w S => ?_
     rw [rw_c] at S
     refine run S (.nt rfl <| .z) fun a w S => Zb (Za (hK3 _ _ (Zf S (.t rfl) (wp_skip (Zm (Za (hK2 _ _ (wp_region_lit (run S (.mv rfl <| .ad (by unfold I64; omega) rfl <| .as rfl <| .z) fun a w S => Zb (Za ?_))))))))))
     exact ⟨k + 1, ⟨by omega, all_take hc ha hch⟩, by omega, S.pk⟩
 · obtain rfl : k = s.length := by omega
   rw [List.take_length] at ha
   refine wp_seq_k fun _ hK2 => sg S (.mv rfl <| .mv rfl <| .yy (Xs underlying9 (.t rfl)) rfl <| .ge (by omega) rfl rfl <| .z) fun a w S => Zf S (.t rfl) (wp_exit (Zi (Zi (Zy (Za (hK1 _ _ (sg S (.ac rfl <| .z) fun a w S => wp_ret (Zj S (results1 S results82 (Rv.tmp rfl)) ?_))))))))
   exact ⟨by rw [ha], S.wd.below⟩
theorem c84 (w0 : World) (p : UInt64) : Calls Tryz.prog 84 #[.int .u64 (p.toNat : Int)] w0 fun e w' => e = .returned (.bool (priceB p)) ∧ Bel w0.heap.size w0 w' := by
 refine enter1 func84 rfl ntmps84 rfl fun a S => sg S (.ac rfl <| .z) fun a w S => wp_seq_k fun _ hK1 => wp_region_lit (run S (.mv rfl <| .yy (Xb (.t rfl) Ev.c) rfl <| .mv rfl <| .z) fun a w S => Xa S rfl rfl (Yr.ys (Zd (.t rfl))) rfl fun a w S => Xa S rfl rfl (Yr.ys (Yd (Ev.g rfl) Ev.c)) rfl fun a w S => run S (.yy (Ww (.t rfl) Ev.c (Ev.g rfl)) rfl <| .as rfl <| .z) fun a w S => Zb (Za (hK1 _ _ (wp_ret (Zj S (results1 S results84 (Rv.tmp rfl)) ?_)))))
 refine ⟨?_, S.wd.below⟩
 unfold priceB
 rw [show decide ((p.toNat : Int) ≤ 9218868437227405312) = decide (p.toNat ≤ 9218868437227405312) from decide_eq_decide.2 (by omega), show decide ((p.toNat : Int) = 9223372036854775808) = decide (p.toNat = 9223372036854775808) from decide_eq_decide.2 (by omega)]
theorem c83 (w0 : World) (x y : Int) : Calls Tryz.prog 83 #[.int .i64 x, .int .i64 y] w0 fun e w' => e = .returned (.bool (decide (y ≤ x) && decide (x ≤ 1000000))) ∧ Bel w0.heap.size w0 w' := by
 refine enter2 func83 rfl ntmps83 rfl fun a S => sg S (.ac rfl <| .z) fun a w S => wp_seq_k fun _ hK1 => wp_region_lit (run S (.mv rfl <| .mv rfl <| .yy (Xd (.t rfl) (.t rfl)) rfl <| .mv rfl <| .z) fun a w S => Yg S rfl rfl (Yr.ys (Zd (.t rfl))) rfl fun a w S => Yg S rfl rfl (Yr.ys (Xb (Ev.g rfl) Ev.c)) rfl fun a w S => run S (.yy (Xn (.t rfl) (Ev.g rfl) Ev.c) rfl <| .as rfl <| .z) fun a w S => Zb (Za (hK1 _ _ (wp_ret (Zj S (results1 S results83 (Rv.tmp rfl)) ?_)))))
 exact ⟨rfl, S.wd.below⟩
theorem c85 (w0 : World) (a b : Ent) : Calls Tryz.prog 85 #[.agg (Ent.enc a).toArray, .agg (Ent.enc b).toArray] w0 fun e w' => e = .returned (.bool (decide (ltE b a))) ∧ Bel w0.heap.size w0 w' := by
 obtain ⟨s, ⟨d1, d2, d3⟩, q, p⟩ := a
 obtain ⟨s', ⟨e1, e2, e3⟩, q', p'⟩ := b
 dsimp only [Ent.enc]
 by_cases h : s = s'
 · have e : decide (ltE ⟨s', ⟨e1, e2, e3⟩, q', p'⟩ ⟨s, ⟨d1, d2, d3⟩, q, p⟩) = belowD ⟨e1, e2, e3⟩ ⟨d1, d2, d3⟩ := by
     subst h
     rw [Bool.eq_iff_iff, decide_eq_true_eq, Xh]
     unfold ltE
     simp [Wa]
   rw [e]
   have h2 : ¬ s ≠ s' := fun h3 => h3 h
   refine enter2 func85 rfl ntmps85 rfl fun a S => wp_seq_k fun _ hK1 => wp_region_lit (Zk (Ya S (.t rfl) rfl fun g1 a w S => Zk (Ya S (.t rfl) rfl fun g2 a w S => run S (.ac rfl <| .z) fun a w S => Zb (Za (hK1 _ _ (wp_seq_k fun _ hK1 => sg S (.fa underlying100 sizeOf9 0 rfl rfl rfl <| .ld gt9 1 rfl rfl rfl <| .fa underlying100 sizeOf9 0 rfl rfl rfl <| .ld gt9 0 rfl rfl rfl <| .yy (Xt (.t rfl) (.t rfl)) rfl <| .z) fun a w S => Xv S (.t rfl) (fun h1 => absurd h1 (by first | assumption | omega)) (fun _ => wp_skip (Za (hK1 _ _ (sg S (.fa underlying100 sizeOf74 1 rfl rfl rfl <| .la gt74 0 rfl rfl rfl <| .fa underlying100 sizeOf74 1 rfl rfl rfl <| .la gt74 1 rfl rfl rfl <| .xx (Zh call148 (.cons (.t rfl) (.cons (.t rfl) .nil)) (fun hp w W => c148 _ _ _ _ _ _ _)) rfl <| .as rfl <| .z) fun a w S => wp_ret (Zj S (results1 S results85 (Rv.tmp rfl)) ?_)))))))))))
   exact ⟨rfl, S.wd.below⟩
 · have e : decide (ltE ⟨s', ⟨e1, e2, e3⟩, q', p'⟩ ⟨s, ⟨d1, d2, d3⟩, q, p⟩) = Op.bytesLess s' s := by
     rw [Bool.eq_iff_iff, decide_eq_true_eq]
     unfold ltE
     simp [Ne.symm h]
   rw [e]
   refine enter2 func85 rfl ntmps85 rfl fun a S => wp_seq_k fun _ hK1 => wp_region_lit (Zk (Ya S (.t rfl) rfl fun g1 a w S => Zk (Ya S (.t rfl) rfl fun g2 a w S => run S (.ac rfl <| .z) fun a w S => Zb (Za (hK1 _ _ (wp_seq_k fun _ hK1 => sg S (.fa underlying100 sizeOf9 0 rfl rfl rfl <| .ld gt9 1 rfl rfl rfl <| .fa underlying100 sizeOf9 0 rfl rfl rfl <| .ld gt9 0 rfl rfl rfl <| .yy (Xt (.t rfl) (.t rfl)) rfl <| .z) fun a w S => Xv S (.t rfl) (fun _ => sg S (.fa underlying100 sizeOf9 0 rfl rfl rfl <| .ld gt9 1 rfl rfl rfl <| .fa underlying100 sizeOf9 0 rfl rfl rfl <| .ld gt9 0 rfl rfl rfl <| .yy (ys_gtrStr (.t rfl) (.t rfl)) rfl <| .as rfl <| .z) fun a w S => wp_ret (Ze (Zj S (results1 S results85 (Rv.tmp rfl)) ?_))) (fun h1 => absurd (by first | assumption | omega) h1)))))))
   exact ⟨rfl, S.wd.below⟩
end Go.Proofs.YtakpdbmdfnialaaGreat
namespace Go.Fw
theorem bs_iff {l m : List UInt8} : bs l = bs m ↔ l = m := ⟨fun h => by have := congrArg (fun b => b.data.toList) h; simpa [bs] using this, fun h => by rw [h]⟩
theorem ent_iff {x y : Ent} : x = y ↔ bs x.item = bs y.item ∧ x.dot.node = y.dot.node ∧ x.dot.life = y.dot.life ∧ x.dot.count = y.dot.count ∧ x.qty = y.qty ∧ (x.price.toNat : Int) = (y.price.toNat : Int) := by
 constructor
 · intro e; subst e; exact ⟨rfl, rfl, rfl, rfl, rfl, rfl⟩
 · rintro ⟨e1, e2, e3, e4, e5, e6⟩
   obtain ⟨s, ⟨a, b, c⟩, q, p⟩ := x
   obtain ⟨s', ⟨a', b', c'⟩, q', p'⟩ := y
   rw [bs_iff] at e1
   have e7 : p = p' := UInt64.toNat_inj.1 (by dsimp only at e6; omega)
   simp_all
theorem dot_iff3 {x y : Dot} : x = y ↔ x.node = y.node ∧ x.life = y.life ∧ x.count = y.count := ⟨fun e => by subst e; exact ⟨rfl, rfl, rfl⟩, fun ⟨e1, e2, e3⟩ => by cases x; cases y; simp_all⟩
theorem takeE_step {α : Type} {l l' : List α} {k : Nat} {x y : α} (h : l.take k = l'.take k) (hx : l[k]? = some x) (hy : l'[k]? = some y) (e : x = y) : l.take (k + 1) = l'.take (k + 1) := by
 rw [List.take_add_one, List.take_add_one, h, hx, hy, e]
theorem takeE_ne {α : Type} {l l' : List α} {k : Nat} {x y : α} (hx : l[k]? = some x) (hy : l'[k]? = some y) (h : x ≠ y) : l ≠ l' := fun e => by
 subst e
 rw [hx] at hy
 exact h (Option.some.inj hy)
end Go.Fw
namespace Go.Proofs.YtakpdbmdfnialaaGreat
open Go.Fw Go.Proofs Go.RowKit Go.Proofs.Tryz
theorem c64 (w0 : World) (v1 : Value) (l : List Ent) (h : Sl Ent.enc 6 w0 w0.heap.size v1 l) (hn : l.length ≤ 4194304) :
   Rets Tryz.prog 64 #[v1] w0 fun v L => ∃ A c, v = .slice A l.length c ∧ L = [rowOf 100 6 Ent.enc A c l] := by
 have h0 := h
 obtain ⟨A, cap, rfl, hl, hcap, hA⟩ := h
 unfold Go.Fw.Rets
 refine enter1 func64 rfl ntmps64 rfl fun a S => sg S (.ac rfl <| .z) fun a w S => wp_seq_k fun _ hK1 => sg S (.mv rfl <| .yy (ys_sNil underlying31 (.t rfl) Ev.c) rfl <| .z) fun a w S => ?_
 refine Wb S (.t rfl) (fun h1 => ?_) (fun h1 => ?_)
 refine sg S (.ac rfl <| .z) fun a w S => wp_ret (Ze (Zj S (results1 S results64 (Rv.tmp rfl)) ?_))
 rotate_left
 refine wp_skip (Za (hK1 _ _ (wp_seq_k fun _ hK1 => wp_region_lit (Zk (op_bslice0 S underlying31 sizeOf100 rfl fun g1 a w S => run S (.mv rfl <| .z) fun a w S => Zk (Xu _ (S.nil_ 100 _ Go.Fw.Ent.enc _) underlying31 underlying31 (.inr ⟨_, rfl⟩) inf100 rfl (k := 0) rfl (.t rfl) (.t rfl) (Src.sl (Sl.old S.wd h0) (by decide) Go.Fw.Ent.enc_len Go.Fw.Ent.enc_one) (by first | omega | (simp only [List.length_append, List.length_cons, List.length_nil]; omega) | (simp; omega)) rfl rfl rfl fun A1 cap1 a w S => ?_))))))
 simp only [List.nil_append] at S
 refine run S (.as rfl <| .z) fun a w S => Zb (Za (hK1 _ _ (wp_ret (Zj S (results1 S results64 (Rv.tmp rfl)) ?_))))
 rotate_left
 · have hnil : l = [] := by
     refine List.eq_nil_of_length_eq_zero (Decidable.byContradiction fun hne => ?_)
     obtain ⟨g, o, rfl, _⟩ := hA (by omega)
     cases h1
   subst hnil
   exact ⟨_, _, rfl, (S.nil_ 100 6 Ent.enc none).wd.sub (by repeat (first | exact List.Sublist.refl _ | exact List.nil_sublist _ | refine .cons_cons _ ?_ | refine .cons _ ?_)), none, 0, rfl, rfl⟩
 · try simp only [List.nil_append] at S ⊢
   exact ⟨_, _, rfl, S.wd.sub (by repeat (first | exact List.Sublist.refl _ | exact List.nil_sublist _ | refine .cons_cons _ ?_ | refine .cons _ ?_)), _, _, rfl, rfl⟩
theorem c71 (w0 : World) (v v' : Value) (l l' : List Ent) (h : Sl Ent.enc 6 w0 w0.heap.size v l) (h' : Sl Ent.enc 6 w0 w0.heap.size v' l') :
   Calls Tryz.prog 71 #[v, v'] w0 fun e w' => e = .returned (.bool (decide (l = l'))) ∧ Bel w0.heap.size w0 w' := by
 obtain ⟨A, cap, rfl, hl, hcap, hA⟩ := h
 obtain ⟨A', cap', rfl, hl', hcap', hA'⟩ := h'
 refine enter2 func71 rfl ntmps71 rfl fun a S => sg S (.ac rfl <| .z) fun a w S => wp_seq_k fun _ hK1 => sg S (.mv rfl <| .ln underlying31 rfl <| .mv rfl <| .ln underlying31 rfl <| .yy (Yt (.t rfl) (.t rfl)) rfl <| .z) fun a w S => ?_
 refine Xv S (.t rfl) (fun h1 => ?_) (fun h1 => ?_)
 refine sg S (.ac rfl <| .z) fun a w S => wp_ret (Ze (Zj S (results1 S results71 (Rv.tmp rfl)) ?_))
 rotate_left
 refine wp_skip (Za (hK1 _ _ (wp_seq_k fun _ hK1 => sg S (.mv rfl <| .ln underlying31 rfl <| .mc rfl <| .z) fun a w S => wp_block ?_)))
 rotate_left
 · refine ⟨?_, S.wd.below⟩
   rw [decide_eq_false (fun e => h1 (by rw [e]))]
 · refine We S (X := Nat) (fun k => [(13, true, .int .i64 (k : Int))]) (fun _ L => L) (fun k => k ≤ l.length ∧ l.take k = l'.take k) (fun k => l.length - k) 0 ⟨Nat.zero_le _, rfl⟩ ?_
   clear S
   intro k a w ⟨hk, hno⟩ S
   by_cases hlt : k < l.length
   · obtain ⟨g, o, m, rfl, hmm, hd, hc⟩ := Yk hA hlt
     obtain ⟨g', o', m', rfl, hmm', hd', hc'⟩ := Yk hA' (show k < l'.length by omega)
     clear hA hA'
     by_cases he : m = m'
     · have rw_e := decide_eq_true (ent_iff.1 he)
       refine sg S (.lt (by omega) rfl rfl <| .z) fun a w S => wp_seq_k fun _ hK2 => Zg S (.t rfl) (wp_skip (Za (hK2 _ _ (wp_seq_k fun _ hK2 => wp_block (sg S (.mv rfl <| .as rfl <| .z) fun a w S => wp_seq_k fun _ hK3 => Zw S (by kernel_rfl) (by kernel_rfl) fun a S => qrun S (.mv rfl <| .mv rfl <| .ix underlying31 sizeOf100 (by omega) rfl rfl <| .yy (Zp ⟨isAgg100, sizeOf100⟩ (.t rfl) (vs := [_, _, _, _, _, _]) rfl (fun _ => hc)) rfl <| .mv rfl <| .mv rfl <| .ix underlying31 sizeOf100 (by omega) rfl rfl <| .yy (Zp ⟨isAgg100, sizeOf100⟩ (.t rfl) (vs := [_, _, _, _, _, _]) rfl (fun _ => hc')) rfl <| .yy (ys_neA (.t rfl) (.t rfl) eq100) rfl <| .z) fun a S => ?_)))))
       rw [rw_e] at S
       (refine Yv ?_; intro w W; replace S := St.mk S W; clear W)
       refine Za (hK3 _ _ (Zf S (.t rfl) (wp_skip (Zm (Za (hK2 _ _ (wp_region_lit (run S (.ad (by unfold I64; omega) rfl <| .mv rfl <| .z) fun a w S => Zb (Za ?_)))))))))
       exact ⟨k + 1, ⟨by omega, takeE_step hno hmm hmm' he⟩, by omega, S.wk⟩
     · have rw_e := decide_eq_false (fun h => he (ent_iff.2 h))
       refine sg S (.lt (by omega) rfl rfl <| .z) fun a w S => wp_seq_k fun _ hK2 => Zg S (.t rfl) (wp_skip (Za (hK2 _ _ (wp_seq_k fun _ hK2 => wp_block (sg S (.mv rfl <| .as rfl <| .z) fun a w S => wp_seq_k fun _ hK3 => Zw S (by kernel_rfl) (by kernel_rfl) fun a S => qrun S (.mv rfl <| .mv rfl <| .ix underlying31 sizeOf100 (by omega) rfl rfl <| .yy (Zp ⟨isAgg100, sizeOf100⟩ (.t rfl) (vs := [_, _, _, _, _, _]) rfl (fun _ => hc)) rfl <| .mv rfl <| .mv rfl <| .ix underlying31 sizeOf100 (by omega) rfl rfl <| .yy (Zp ⟨isAgg100, sizeOf100⟩ (.t rfl) (vs := [_, _, _, _, _, _]) rfl (fun _ => hc')) rfl <| .yy (ys_neA (.t rfl) (.t rfl) eq100) rfl <| .z) fun a S => ?_)))))
       rw [rw_e] at S
       (refine Yv ?_; intro w W; replace S := St.mk S W; clear W)
       refine Za (hK3 _ _ (Zg S (.t rfl) (sg S (.ac rfl <| .z) fun a w S => wp_ret (Zr (Ze (Ze (Zr (Ze (Zj S (results1 S results71 (Rv.tmp rfl)) ?_)))))))))
       exact ⟨by rw [decide_eq_false (takeE_ne hmm hmm' he)], S.wd.below⟩
   · refine sg S (.ge (by omega) rfl rfl <| .z) fun a w S => wp_seq_k fun _ hK2 => Zf S (.t rfl) (wp_exit (Zi (Zi (Zy (Za (hK1 _ _ (sg S (.ac rfl <| .z) fun a w S => wp_ret (Zj S (results1 S results71 (Rv.tmp rfl)) ?_))))))))
     refine ⟨?_, S.wd.below⟩
     rw [decide_eq_true]
     rw [List.take_of_length_le (by omega), List.take_of_length_le (by omega)] at hno
     exact hno
end Go.Proofs.YtakpdbmdfnialaaGreat
namespace Go.Proofs.YtakpdbmdfnialaaGreat
open Go.Fw Go.Proofs Go.RowKit Go.Proofs.Tryz
theorem c81 (w0 : World) (v1 v2 : Value) (C : Ctx) (h : RdCtx w0 w0.heap.size v1 v2 C) :
   Calls Tryz.prog 81 #[.agg #[v1, v2]] w0 fun e w' => e = .returned (.bool (canL C)) ∧ Bel w0.heap.size w0 w' := by
 obtain ⟨⟨A, cap, rfl, hl, hcap, hA⟩, ⟨A', cap', rfl, hl', hcap', hA'⟩⟩ := h
 have hS : Sl Dot.enc 3 w0 w0.heap.size (.slice A C.marks.length cap) C.marks := ⟨A, cap, rfl, hl, hcap, hA⟩
 refine enter1 func81 rfl ntmps81 rfl fun a S => wp_seq_k fun _ hK1 => wp_region_lit (Zk (Ya S (.t rfl) rfl fun g1 a w S => run S (.ac rfl <| .z) fun a w S => Zb (Za (hK1 _ _ (wp_seq_k fun _ hK1 => wp_seq_k fun _ hK2 => wp_region_lit (run S (.fa underlying35 sizeOf32 0 rfl rfl rfl <| .ld gt32 0 rfl rfl rfl <| .ln underlying32 rfl <| .yy (Yj (.t rfl) Ev.c) rfl <| .mv rfl <| .z) fun a w S => Xa S rfl rfl (Yr.ys (Zc (FieldT.mk underlying35 rfl sizeOf33 rfl) (.t rfl) (i' := 1) rfl)) rfl fun a w S => Xa S rfl rfl (Yr.ys (Zu ⟨isAgg33, sizeOf33⟩ (Ev.g rfl) (k := 0) rfl rfl)) rfl fun a w S => Xa S rfl rfl (Yr.ys (Xy underlying33 (Ev.g rfl))) rfl fun a w S => Xa S rfl rfl (Yr.ys (Yj (Ev.g rfl) Ev.c)) rfl fun a w S => run S (.yy (Ww (.t rfl) Ev.c (Ev.g rfl)) rfl <| .z) fun a w S => Zb (Za (hK2 _ _ ?_))))))))
 refine Wb S (.t rfl) (fun h1 => ?_) (fun h1 => ?_)
 refine sg S (.ac rfl <| .z) fun a w S => wp_ret (Ze (Zj S (results1 S results81 (Rv.tmp rfl)) ?_))
 rotate_left
 refine wp_skip (Za (hK1 _ _ (wp_seq_k fun _ hK1 => sg S (.fa underlying35 sizeOf32 0 rfl rfl rfl <| .ld gt32 0 rfl rfl rfl <| .ln underlying32 rfl <| .mc rfl <| .z) fun a w S => wp_block ?_)))
 rotate_left
 · exact ⟨by rw [canL_big (by simp at h1; omega)], S.wd.below⟩
 · have hbig : C.marks.length ≤ 64 ∧ C.cloud.length ≤ 64 := by simp at h1; omega
   refine We S (X := Nat) (fun k => [(20, true, .int .i64 (k : Int))]) (fun _ L => L) (fun k => k ≤ C.marks.length ∧ (∀ x ∈ C.marks.take k, mayD x = true) ∧ okM (prevD C.marks k) (C.marks.drop k) = okM none C.marks) (fun k => C.marks.length - k) 0 ⟨Nat.zero_le _, by simp, rfl⟩ ?_
   clear S h1
   intro k a w ⟨hk, hmy, hno⟩ S
   by_cases hlt : k < C.marks.length
   · obtain ⟨g, o, m, rfl, hmm, hd, hc⟩ := Yk hA hlt
     rw [hd, okM] at hno
     obtain ⟨m1, m2, m3⟩ := m
     cases rw_b : mayD ⟨m1, m2, m3⟩ with
     | false =>
       refine sg S (.lt (by omega) rfl rfl <| .z) fun a w S => wp_seq_k fun _ hK2 => Zg S (.t rfl) (wp_skip (Za (hK2 _ _ (wp_seq_k fun _ hK2 => wp_block (wp_seq_k fun _ hK3 => wp_region_lit (run S (.mv rfl <| .ix underlying32 sizeOf30 (by omega) rfl rfl <| .yy (Zp ⟨isAgg30, sizeOf30⟩ (.t rfl) (vs := [_, _, _]) rfl (fun _ => hc)) rfl <| .z) fun a w S => Zk (Zn S zeroValue30 (cs := _) rfl rfl fun g2 a w S => run S (.as rfl <| .z) fun a w S => Zk (Zv S sizeOf30 (.t rfl) (.t rfl) (k := 0) rfl rfl rfl (by simp [Value.oneCell']) fun a w S => Zb (Za (hK3 _ _ (wp_seq_k fun _ hK3 => wp_seq_k fun _ hK4 => wp_region_lit (run S (.la gt30 0 rfl rfl rfl <| .xx (Zh call146 (.cons (.t rfl) .nil) (fun hp w W => c146 _ _ _ _)) rfl <| .z) fun a w S => ?_))))))))))))
       rw [rw_b] at S
       refine run S (.nt rfl <| .z) fun a w S => Zb (Za (hK4 _ _ (Zg S (.t rfl) (sg S (.ac rfl <| .z) fun a w S => wp_ret (Ze (Zr (Ze (Ze (Zr (Ze (Zj S (results1 S results81 (Rv.tmp rfl)) ?_)))))))))))
       exact ⟨by rw [canL_M (by rw [← hno, rw_b]; rfl)], S.wd.below⟩
     | true =>
       have hlm := Wf rw_b
       rcases k with _ | k
       · refine sg S (.lt (by omega) rfl rfl <| .z) fun a w S => wp_seq_k fun _ hK2 => Zg S (.t rfl) (wp_skip (Za (hK2 _ _ (wp_seq_k fun _ hK2 => wp_block (wp_seq_k fun _ hK3 => wp_region_lit (run S (.mv rfl <| .yy (Yf (j := 0) underlying32 sizeOf30 (.t rfl) (.t rfl) (fun _ => by omega)) rfl <| .yy (Zp ⟨isAgg30, sizeOf30⟩ (.t rfl) (vs := [_, _, _]) rfl (fun _ => hc)) rfl <| .z) fun a w S => Zk (Zn S zeroValue30 (cs := _) rfl rfl fun g2 a w S => run S (.as rfl <| .z) fun a w S => Zk (Zv S sizeOf30 (.t rfl) (.t rfl) (k := 0) rfl rfl rfl (by simp [Value.oneCell']) fun a w S => Zb (Za (hK3 _ _ (wp_seq_k fun _ hK3 => wp_seq_k fun _ hK4 => wp_region_lit (run S (.la gt30 0 rfl rfl rfl <| .xx (Zh call146 (.cons (.t rfl) .nil) (fun hp w W => c146 _ _ _ _)) rfl <| .z) fun a w S => ?_))))))))))))
         rw [rw_b] at S
         refine run S (.nt rfl <| .z) fun a w S => Zb (Za (hK4 _ _ (Zf S (.t rfl) (wp_skip (Za (hK3 _ _ (wp_seq_k fun _ hK3 => Zw S (by kernel_rfl) (by kernel_rfl) fun a S => qrun S (.mv rfl <| .yy (Ym (by omega) (Yj (.t rfl) Ev.c)) rfl <| .mv rfl <| .sk rfl rfl rfl <| .sk rfl rfl rfl <| .sk rfl rfl rfl <| .sk rfl rfl rfl <| .sk rfl rfl rfl <| .sk rfl rfl rfl <| .sk rfl rfl rfl <| .sk rfl rfl rfl <| .sk rfl rfl rfl <| .sk rfl rfl rfl <| .sk rfl rfl rfl <| .s0 rfl rfl <| .s0 rfl rfl <| .s0 rfl rfl <| .s0 rfl rfl <| .s0 rfl rfl <| .s0 rfl rfl <| .s0 rfl rfl <| .s0 rfl rfl <| .s0 rfl rfl <| .s0 rfl rfl <| .s0 rfl rfl <| .s0 rfl rfl <| .s0 rfl rfl <| .s0 rfl rfl <| .s0 rfl rfl <| .s0 rfl rfl <| .s0 rfl rfl <| .s0 rfl rfl <| .s0 rfl rfl <| .s0 rfl rfl <| .s0 rfl rfl <| .s0 rfl rfl <| .sk rfl rfl rfl <| .yy (Zq (.t rfl) Ev.c) rfl <| .z) fun a S => ?_)))))))
         (refine Yv ?_; intro w W; replace S := St.mk S W; clear W)
         refine Za (hK3 _ _ (Zf S (.t rfl) (wp_skip (Zm (Za (hK2 _ _ (wp_region_lit (run S (.ad (by unfold I64; omega) rfl <| .mv rfl <| .z) fun a w S => Zb (Za ?_)))))))))
         exact ⟨0 + 1, ⟨by omega, step_all hmm hmy rw_b, by rw [prevD, hmm, ← hno, rw_b]; rfl⟩, by omega, S.wk⟩
       · obtain ⟨g', o', m', e', hmm', hd', hc'⟩ := Yk hA (show k < C.marks.length by omega)
         cases e'
         obtain ⟨p1, p2, p3⟩ := m'
         have hg : gapM (prevD C.marks (k + 1)) ⟨m1, m2, m3⟩ = decide (orderD ⟨p1, p2, 0⟩ ⟨m1, m2, 0⟩ < 0) := by rw [prevD, hmm']; rfl
         unfold orderD at hg
         dsimp only at hg
         have yes : gapM (prevD C.marks (k + 1)) ⟨m1, m2, m3⟩ = true → okM (prevD C.marks (k + 1 + 1)) (C.marks.drop (k + 1 + 1)) = okM none C.marks := fun h => by
           rw [prevD, hmm, ← hno, rw_b, h]; rfl
         have no : gapM (prevD C.marks (k + 1)) ⟨m1, m2, m3⟩ = false → canL C = false := fun h => canL_M (by rw [← hno, rw_b, h]; rfl)
         clear hno
         by_cases g1 : m1 < p1
         · refine sg S (.lt (by omega) rfl rfl <| .z) fun a w S => wp_seq_k fun _ hK2 => Zg S (.t rfl) (wp_skip (Za (hK2 _ _ (wp_seq_k fun _ hK2 => wp_block (wp_seq_k fun _ hK3 => wp_region_lit (run S (.mv rfl <| .ix underlying32 sizeOf30 (by omega) rfl rfl <| .yy (Zp ⟨isAgg30, sizeOf30⟩ (.t rfl) (vs := [_, _, _]) rfl (fun _ => hc)) rfl <| .z) fun a w S => Zk (Zn S zeroValue30 (cs := _) rfl rfl fun g2 a w S => run S (.as rfl <| .z) fun a w S => Zk (Zv S sizeOf30 (.t rfl) (.t rfl) (k := 0) rfl rfl rfl (by simp [Value.oneCell']) fun a w S => Zb (Za (hK3 _ _ (wp_seq_k fun _ hK3 => wp_seq_k fun _ hK4 => wp_region_lit (run S (.la gt30 0 rfl rfl rfl <| .xx (Zh call146 (.cons (.t rfl) .nil) (fun hp w W => c146 _ _ _ _)) rfl <| .z) fun a w S => ?_))))))))))))
           rw [rw_b] at S
           refine run S (.nt rfl <| .z) fun a w S => Zb (Za (hK4 _ _ (Zf S (.t rfl) (wp_skip (Za (hK3 _ _ (wp_seq_k fun _ hK3 => Zw S (by kernel_rfl) (by kernel_rfl) fun a S => ?_)))))))
           refine qrun S (.mv rfl <| .yy (Yu (by omega) (Yj (.t rfl) Ev.c)) rfl <| .mv rfl <| .gy rfl rfl (Zc (FieldT.mk underlying35 rfl sizeOf32 rfl) (.t rfl) (i' := 0) rfl) <| .gy rfl rfl (Zu ⟨isAgg32, sizeOf32⟩ (.t rfl) (k := 1) rfl rfl) <| .gy rfl rfl (Zd (.t rfl)) <| .gy rfl rfl (Xk (.t rfl) Ev.c (by omega)) <| .gy rfl rfl (Yf underlying32 sizeOf30 (.t rfl) (.t rfl) (fun _ => by omega)) <| .gy rfl rfl (Yc (FieldT.mk underlying30 rfl sizeOf3 rfl) (.t rfl)) <| .gy rfl rfl (Yn ⟨isAgg3, sizeOf3⟩ (.t rfl) (fun _ => hc' _ _ rfl)) <| .gy rfl rfl (Zc (FieldT.mk underlying30 rfl sizeOf3 rfl) (.t rfl) (i' := 0) rfl) <| .gy rfl rfl (Zu ⟨isAgg3, sizeOf3⟩ (.t rfl) (k := 0) rfl rfl) <| .gy rfl rfl (Yu (by omega) (Yj (.t rfl) (.t rfl))) <| .gy rfl rfl (Zd (.t rfl)) <| .sk rfl rfl rfl <| .sk rfl rfl rfl <| .sk rfl rfl rfl <| .sk rfl rfl rfl <| .sk rfl rfl rfl <| .sk rfl rfl rfl <| .sk rfl rfl rfl <| .sk rfl rfl rfl <| .sk rfl rfl rfl <| .sk rfl rfl rfl <| .sk rfl rfl rfl <| .s0 rfl rfl <| .s0 rfl rfl <| .s0 rfl rfl <| .s0 rfl rfl <| .s0 rfl rfl <| .s0 rfl rfl <| .s0 rfl rfl <| .s0 rfl rfl <| .s0 rfl rfl <| .s0 rfl rfl <| .sk rfl rfl rfl <| .gy rfl rfl (Zt (.t rfl) Ev.c) <| .yy (Zt (.t rfl) (.t rfl)) rfl <| .z) fun a S => ?_
           (refine Yv ?_; intro w W; replace S := St.mk S W; clear W)
           refine Za (hK3 _ _ (Zg S (.t rfl) (sg S (.ac rfl <| .z) fun a w S => wp_ret (Zr (Ze (Ze (Zr (Ze (Zj S (results1 S results81 (Rv.tmp rfl)) ?_)))))))))
           exact ⟨by rw [no (by rw [hg, if_pos (by omega)]; exact decide_eq_false (by omega))], S.wd.below⟩
         · by_cases g2 : p1 = m1
           · by_cases g3 : m2 ≤ p2
             · refine sg S (.lt (by omega) rfl rfl <| .z) fun a w S => wp_seq_k fun _ hK2 => Zg S (.t rfl) (wp_skip (Za (hK2 _ _ (wp_seq_k fun _ hK2 => wp_block (wp_seq_k fun _ hK3 => wp_region_lit (run S (.mv rfl <| .ix underlying32 sizeOf30 (by omega) rfl rfl <| .yy (Zp ⟨isAgg30, sizeOf30⟩ (.t rfl) (vs := [_, _, _]) rfl (fun _ => hc)) rfl <| .z) fun a w S => Zk (Zn S zeroValue30 (cs := _) rfl rfl fun g4 a w S => run S (.as rfl <| .z) fun a w S => Zk (Zv S sizeOf30 (.t rfl) (.t rfl) (k := 0) rfl rfl rfl (by simp [Value.oneCell']) fun a w S => Zb (Za (hK3 _ _ (wp_seq_k fun _ hK3 => wp_seq_k fun _ hK4 => wp_region_lit (run S (.la gt30 0 rfl rfl rfl <| .xx (Zh call146 (.cons (.t rfl) .nil) (fun hp w W => c146 _ _ _ _)) rfl <| .z) fun a w S => ?_))))))))))))
               rw [rw_b] at S
               refine run S (.nt rfl <| .z) fun a w S => Zb (Za (hK4 _ _ (Zf S (.t rfl) (wp_skip (Za (hK3 _ _ (wp_seq_k fun _ hK3 => Zw S (by kernel_rfl) (by kernel_rfl) fun a S => ?_)))))))
               refine qrun S (.mv rfl <| .yy (Yu (by omega) (Yj (.t rfl) Ev.c)) rfl <| .mv rfl <| .gy rfl rfl (Zc (FieldT.mk underlying35 rfl sizeOf32 rfl) (.t rfl) (i' := 0) rfl) <| .gy rfl rfl (Zu ⟨isAgg32, sizeOf32⟩ (.t rfl) (k := 1) rfl rfl) <| .gy rfl rfl (Zd (.t rfl)) <| .gy rfl rfl (Xk (.t rfl) Ev.c (by omega)) <| .gy rfl rfl (Yf underlying32 sizeOf30 (.t rfl) (.t rfl) (fun _ => by omega)) <| .gy rfl rfl (Yc (FieldT.mk underlying30 rfl sizeOf3 rfl) (.t rfl)) <| .gy rfl rfl (Yn ⟨isAgg3, sizeOf3⟩ (.t rfl) (fun _ => hc' _ _ rfl)) <| .gy rfl rfl (Zc (FieldT.mk underlying30 rfl sizeOf3 rfl) (.t rfl) (i' := 0) rfl) <| .gy rfl rfl (Zu ⟨isAgg3, sizeOf3⟩ (.t rfl) (k := 0) rfl rfl) <| .gy rfl rfl (Ym (by omega) (Yj (.t rfl) (.t rfl))) <| .gy rfl rfl (Zd (.t rfl)) <| .gy rfl rfl (Zc (FieldT.mk underlying35 rfl sizeOf32 rfl) (.t rfl) (i' := 0) rfl) <| .gy rfl rfl (Zu ⟨isAgg32, sizeOf32⟩ (.t rfl) (k := 1) rfl rfl) <| .gy rfl rfl (Zd (.t rfl)) <| .gy rfl rfl (Xk (.t rfl) Ev.c (by omega)) <| .gy rfl rfl (Yf underlying32 sizeOf30 (.t rfl) (.t rfl) (fun _ => by omega)) <| .gy rfl rfl (Yc (FieldT.mk underlying30 rfl sizeOf3 rfl) (.t rfl)) <| .gy rfl rfl (Yn ⟨isAgg3, sizeOf3⟩ (.t rfl) (fun _ => hc' _ _ rfl)) <| .gy rfl rfl (Zc (FieldT.mk underlying30 rfl sizeOf3 rfl) (.t rfl) (i' := 0) rfl) <| .gy rfl rfl (Zu ⟨isAgg3, sizeOf3⟩ (.t rfl) (k := 0) rfl rfl) <| .gy rfl rfl (Yu (by omega) (Yd (.t rfl) (.t rfl))) <| .gy rfl rfl (Zd (.t rfl)) <| .gy rfl rfl (Zc (FieldT.mk underlying35 rfl sizeOf32 rfl) (.t rfl) (i' := 0) rfl) <| .gy rfl rfl (Zu ⟨isAgg32, sizeOf32⟩ (.t rfl) (k := 1) rfl rfl) <| .gy rfl rfl (Zd (.t rfl)) <| .gy rfl rfl (Xk (.t rfl) Ev.c (by omega)) <| .gy rfl rfl (Yf underlying32 sizeOf30 (.t rfl) (.t rfl) (fun _ => by omega)) <| .gy rfl rfl (Yc (FieldT.mk underlying30 rfl sizeOf3 rfl) (.t rfl)) <| .gy rfl rfl (Yn ⟨isAgg3, sizeOf3⟩ (.t rfl) (fun _ => hc' _ _ rfl)) <| .gy rfl rfl (Zc (FieldT.mk underlying30 rfl sizeOf3 rfl) (.t rfl) (i' := 1) rfl) <| .gy rfl rfl (Zu ⟨isAgg3, sizeOf3⟩ (.t rfl) (k := 0) rfl rfl) <| .gy rfl rfl (Yu (by omega) (Xd (.t rfl) (.t rfl))) <| .gy rfl rfl (Zt (.t rfl) (.t rfl)) <| .gy rfl rfl (Zq (.t rfl) (.t rfl)) <| .yy (Zt (.t rfl) (.t rfl)) rfl <| .z) fun a S => ?_
               (refine Yv ?_; intro w W; replace S := St.mk S W; clear W)
               refine Za (hK3 _ _ (Zg S (.t rfl) (sg S (.ac rfl <| .z) fun a w S => wp_ret (Zr (Ze (Ze (Zr (Ze (Zj S (results1 S results81 (Rv.tmp rfl)) ?_)))))))))
               exact ⟨by rw [no (by rw [hg, if_neg (by omega)]; split <;> exact decide_eq_false (by omega))], S.wd.below⟩
             · refine sg S (.lt (by omega) rfl rfl <| .z) fun a w S => wp_seq_k fun _ hK2 => Zg S (.t rfl) (wp_skip (Za (hK2 _ _ (wp_seq_k fun _ hK2 => wp_block (wp_seq_k fun _ hK3 => wp_region_lit (run S (.mv rfl <| .ix underlying32 sizeOf30 (by omega) rfl rfl <| .yy (Zp ⟨isAgg30, sizeOf30⟩ (.t rfl) (vs := [_, _, _]) rfl (fun _ => hc)) rfl <| .z) fun a w S => Zk (Zn S zeroValue30 (cs := _) rfl rfl fun g4 a w S => run S (.as rfl <| .z) fun a w S => Zk (Zv S sizeOf30 (.t rfl) (.t rfl) (k := 0) rfl rfl rfl (by simp [Value.oneCell']) fun a w S => Zb (Za (hK3 _ _ (wp_seq_k fun _ hK3 => wp_seq_k fun _ hK4 => wp_region_lit (run S (.la gt30 0 rfl rfl rfl <| .xx (Zh call146 (.cons (.t rfl) .nil) (fun hp w W => c146 _ _ _ _)) rfl <| .z) fun a w S => ?_))))))))))))
               rw [rw_b] at S
               refine run S (.nt rfl <| .z) fun a w S => Zb (Za (hK4 _ _ (Zf S (.t rfl) (wp_skip (Za (hK3 _ _ (wp_seq_k fun _ hK3 => Zw S (by kernel_rfl) (by kernel_rfl) fun a S => ?_)))))))
               refine qrun S (.mv rfl <| .yy (Yu (by omega) (Yj (.t rfl) Ev.c)) rfl <| .mv rfl <| .gy rfl rfl (Zc (FieldT.mk underlying35 rfl sizeOf32 rfl) (.t rfl) (i' := 0) rfl) <| .gy rfl rfl (Zu ⟨isAgg32, sizeOf32⟩ (.t rfl) (k := 1) rfl rfl) <| .gy rfl rfl (Zd (.t rfl)) <| .gy rfl rfl (Xk (.t rfl) Ev.c (by omega)) <| .gy rfl rfl (Yf underlying32 sizeOf30 (.t rfl) (.t rfl) (fun _ => by omega)) <| .gy rfl rfl (Yc (FieldT.mk underlying30 rfl sizeOf3 rfl) (.t rfl)) <| .gy rfl rfl (Yn ⟨isAgg3, sizeOf3⟩ (.t rfl) (fun _ => hc' _ _ rfl)) <| .gy rfl rfl (Zc (FieldT.mk underlying30 rfl sizeOf3 rfl) (.t rfl) (i' := 0) rfl) <| .gy rfl rfl (Zu ⟨isAgg3, sizeOf3⟩ (.t rfl) (k := 0) rfl rfl) <| .gy rfl rfl (Ym (by omega) (Yj (.t rfl) (.t rfl))) <| .gy rfl rfl (Zd (.t rfl)) <| .gy rfl rfl (Zc (FieldT.mk underlying35 rfl sizeOf32 rfl) (.t rfl) (i' := 0) rfl) <| .gy rfl rfl (Zu ⟨isAgg32, sizeOf32⟩ (.t rfl) (k := 1) rfl rfl) <| .gy rfl rfl (Zd (.t rfl)) <| .gy rfl rfl (Xk (.t rfl) Ev.c (by omega)) <| .gy rfl rfl (Yf underlying32 sizeOf30 (.t rfl) (.t rfl) (fun _ => by omega)) <| .gy rfl rfl (Yc (FieldT.mk underlying30 rfl sizeOf3 rfl) (.t rfl)) <| .gy rfl rfl (Yn ⟨isAgg3, sizeOf3⟩ (.t rfl) (fun _ => hc' _ _ rfl)) <| .gy rfl rfl (Zc (FieldT.mk underlying30 rfl sizeOf3 rfl) (.t rfl) (i' := 0) rfl) <| .gy rfl rfl (Zu ⟨isAgg3, sizeOf3⟩ (.t rfl) (k := 0) rfl rfl) <| .gy rfl rfl (Yu (by omega) (Yd (.t rfl) (.t rfl))) <| .gy rfl rfl (Zd (.t rfl)) <| .gy rfl rfl (Zc (FieldT.mk underlying35 rfl sizeOf32 rfl) (.t rfl) (i' := 0) rfl) <| .gy rfl rfl (Zu ⟨isAgg32, sizeOf32⟩ (.t rfl) (k := 1) rfl rfl) <| .gy rfl rfl (Zd (.t rfl)) <| .gy rfl rfl (Xk (.t rfl) Ev.c (by omega)) <| .gy rfl rfl (Yf underlying32 sizeOf30 (.t rfl) (.t rfl) (fun _ => by omega)) <| .gy rfl rfl (Yc (FieldT.mk underlying30 rfl sizeOf3 rfl) (.t rfl)) <| .gy rfl rfl (Yn ⟨isAgg3, sizeOf3⟩ (.t rfl) (fun _ => hc' _ _ rfl)) <| .gy rfl rfl (Zc (FieldT.mk underlying30 rfl sizeOf3 rfl) (.t rfl) (i' := 1) rfl) <| .gy rfl rfl (Zu ⟨isAgg3, sizeOf3⟩ (.t rfl) (k := 0) rfl rfl) <| .gy rfl rfl (Ym (by omega) (Xd (.t rfl) (.t rfl))) <| .gy rfl rfl (Zt (.t rfl) (.t rfl)) <| .gy rfl rfl (Zq (.t rfl) (.t rfl)) <| .yy (Zt (.t rfl) (.t rfl)) rfl <| .z) fun a S => ?_
               (refine Yv ?_; intro w W; replace S := St.mk S W; clear W)
               refine Za (hK3 _ _ (Zf S (.t rfl) (wp_skip (Zm (Za (hK2 _ _ (wp_region_lit (run S (.ad (by unfold I64; omega) rfl <| .mv rfl <| .z) fun a w S => Zb (Za ?_)))))))))
               exact ⟨k + 1 + 1, ⟨by omega, step_all hmm hmy rw_b, yes (by rw [hg, if_neg (by omega), if_pos (by omega)]; exact decide_eq_true (by omega))⟩, by omega, S.wk⟩
           · refine sg S (.lt (by omega) rfl rfl <| .z) fun a w S => wp_seq_k fun _ hK2 => Zg S (.t rfl) (wp_skip (Za (hK2 _ _ (wp_seq_k fun _ hK2 => wp_block (wp_seq_k fun _ hK3 => wp_region_lit (run S (.mv rfl <| .ix underlying32 sizeOf30 (by omega) rfl rfl <| .yy (Zp ⟨isAgg30, sizeOf30⟩ (.t rfl) (vs := [_, _, _]) rfl (fun _ => hc)) rfl <| .z) fun a w S => Zk (Zn S zeroValue30 (cs := _) rfl rfl fun g3 a w S => run S (.as rfl <| .z) fun a w S => Zk (Zv S sizeOf30 (.t rfl) (.t rfl) (k := 0) rfl rfl rfl (by simp [Value.oneCell']) fun a w S => Zb (Za (hK3 _ _ (wp_seq_k fun _ hK3 => wp_seq_k fun _ hK4 => wp_region_lit (run S (.la gt30 0 rfl rfl rfl <| .xx (Zh call146 (.cons (.t rfl) .nil) (fun hp w W => c146 _ _ _ _)) rfl <| .z) fun a w S => ?_))))))))))))
             rw [rw_b] at S
             refine run S (.nt rfl <| .z) fun a w S => Zb (Za (hK4 _ _ (Zf S (.t rfl) (wp_skip (Za (hK3 _ _ (wp_seq_k fun _ hK3 => Zw S (by kernel_rfl) (by kernel_rfl) fun a S => ?_)))))))
             refine qrun S (.mv rfl <| .yy (Yu (by omega) (Yj (.t rfl) Ev.c)) rfl <| .mv rfl <| .gy rfl rfl (Zc (FieldT.mk underlying35 rfl sizeOf32 rfl) (.t rfl) (i' := 0) rfl) <| .gy rfl rfl (Zu ⟨isAgg32, sizeOf32⟩ (.t rfl) (k := 1) rfl rfl) <| .gy rfl rfl (Zd (.t rfl)) <| .gy rfl rfl (Xk (.t rfl) Ev.c (by omega)) <| .gy rfl rfl (Yf underlying32 sizeOf30 (.t rfl) (.t rfl) (fun _ => by omega)) <| .gy rfl rfl (Yc (FieldT.mk underlying30 rfl sizeOf3 rfl) (.t rfl)) <| .gy rfl rfl (Yn ⟨isAgg3, sizeOf3⟩ (.t rfl) (fun _ => hc' _ _ rfl)) <| .gy rfl rfl (Zc (FieldT.mk underlying30 rfl sizeOf3 rfl) (.t rfl) (i' := 0) rfl) <| .gy rfl rfl (Zu ⟨isAgg3, sizeOf3⟩ (.t rfl) (k := 0) rfl rfl) <| .gy rfl rfl (Ym (by omega) (Yj (.t rfl) (.t rfl))) <| .gy rfl rfl (Zd (.t rfl)) <| .gy rfl rfl (Zc (FieldT.mk underlying35 rfl sizeOf32 rfl) (.t rfl) (i' := 0) rfl) <| .gy rfl rfl (Zu ⟨isAgg32, sizeOf32⟩ (.t rfl) (k := 1) rfl rfl) <| .gy rfl rfl (Zd (.t rfl)) <| .gy rfl rfl (Xk (.t rfl) Ev.c (by omega)) <| .gy rfl rfl (Yf underlying32 sizeOf30 (.t rfl) (.t rfl) (fun _ => by omega)) <| .gy rfl rfl (Yc (FieldT.mk underlying30 rfl sizeOf3 rfl) (.t rfl)) <| .gy rfl rfl (Yn ⟨isAgg3, sizeOf3⟩ (.t rfl) (fun _ => hc' _ _ rfl)) <| .gy rfl rfl (Zc (FieldT.mk underlying30 rfl sizeOf3 rfl) (.t rfl) (i' := 0) rfl) <| .gy rfl rfl (Zu ⟨isAgg3, sizeOf3⟩ (.t rfl) (k := 0) rfl rfl) <| .gy rfl rfl (Ym (by omega) (Yd (.t rfl) (.t rfl))) <| .gy rfl rfl (Zd (.t rfl)) <| .sk rfl rfl rfl <| .sk rfl rfl rfl <| .sk rfl rfl rfl <| .sk rfl rfl rfl <| .sk rfl rfl rfl <| .sk rfl rfl rfl <| .sk rfl rfl rfl <| .sk rfl rfl rfl <| .sk rfl rfl rfl <| .sk rfl rfl rfl <| .gy rfl rfl (Zq (.t rfl) Ev.c) <| .gy rfl rfl (Zq (.t rfl) (.t rfl)) <| .yy (Zt (.t rfl) (.t rfl)) rfl <| .z) fun a S => ?_
             (refine Yv ?_; intro w W; replace S := St.mk S W; clear W)
             refine Za (hK3 _ _ (Zf S (.t rfl) (wp_skip (Zm (Za (hK2 _ _ (wp_region_lit (run S (.ad (by unfold I64; omega) rfl <| .mv rfl <| .z) fun a w S => Zb (Za ?_)))))))))
             exact ⟨k + 1 + 1, ⟨by omega, step_all hmm hmy rw_b, yes (by rw [hg, if_pos (by omega)]; exact decide_eq_true (by omega))⟩, by omega, S.wk⟩
   · have hend : k = C.marks.length := by omega
     subst hend
     rw [List.take_length] at hmy
     rw [List.drop_length, okM] at hno
     have hM := hno.symm
     clear hno hk hlt
     refine sg S (.ge (by omega) rfl rfl <| .z) fun a w S => wp_seq_k fun _ hK2 => Zf S (.t rfl) (wp_exit (Zi (Zi (Zy (Za (hK1 _ _ (wp_seq_k fun _ hK1 => sg S (.fa underlying35 sizeOf33 1 rfl rfl rfl <| .ld gt33 0 rfl rfl rfl <| .ln underlying33 rfl <| .mc rfl <| .z) fun a w S => wp_block ?_)))))))
     refine We S (X := Nat) (fun k => [(70, true, .int .i64 (k : Int))]) (fun _ L => L) (fun k => k ≤ C.cloud.length ∧ (∀ x ∈ C.cloud.take k, mayD x = true) ∧ okC C.marks (prevD C.cloud k) (C.cloud.drop k) = okC C.marks none C.cloud) (fun k => C.cloud.length - k) 0 ⟨Nat.zero_le _, by simp, rfl⟩ ?_
     clear S
     intro k a w ⟨hk, hmy', hno⟩ S
     by_cases hlt : k < C.cloud.length
     · obtain ⟨g, o, m, rfl, hmm, hd, hc⟩ := Yk hA' hlt
       rw [hd, okC] at hno
       have hmk := markOf_may (x := m.node) (y := m.life) hmy
       obtain ⟨m1, m2, m3⟩ := m
       dsimp only at hmk hno
       have rw_n : (⟨m1, m2, m3⟩ : Dot).node = m1 := rfl
       have rw_l : (⟨m1, m2, m3⟩ : Dot).life = m2 := rfl
       have rw_k : (⟨m1, m2, m3⟩ : Dot).count = m3 := rfl
       cases rw_b : mayD ⟨m1, m2, m3⟩ with
       | false =>
         refine sg S (.lt (by omega) rfl rfl <| .z) fun a w S => wp_seq_k fun _ hK3 => Zg S (.t rfl) (wp_skip (Za (hK3 _ _ (wp_seq_k fun _ hK3 => wp_block (wp_seq_k fun _ hK4 => wp_region_lit (run S (.mv rfl <| .ix underlying33 sizeOf74 (by omega) rfl rfl <| .yy (Zp ⟨isAgg74, sizeOf74⟩ (.t rfl) (vs := [_, _, _]) rfl (fun _ => hc)) rfl <| .z) fun a w S => ?_))))))
         rw [rw_n] at S
         rw [rw_l] at S
         rw [rw_k] at S
         refine Zk (Zn S zeroValue74 (cs := _) rfl rfl fun g2 a w S => run S (.as rfl <| .z) fun a w S => Zk (Zv S sizeOf74 (.t rfl) (.t rfl) (k := 0) rfl rfl rfl (by simp [Value.oneCell']) fun a w S => Zb (Za (hK4 _ _ (wp_seq_k fun _ hK4 => wp_seq_k fun _ hK5 => Zw S (by kernel_rfl) (by kernel_rfl) fun a S => qrun S (.la gt74 0 rfl rfl rfl <| .xx (Zh call147 (.cons (.t rfl) .nil) (fun hp w W => c147 _ _ _ _)) rfl <| .z) fun a S => ?_)))))
         rw [rw_b] at S
         refine qrun S (.nt rfl <| .mv rfl <| .sk rfl rfl rfl <| .sk rfl rfl rfl <| .sk rfl rfl rfl <| .sk rfl rfl rfl <| .sk rfl rfl rfl <| .sk rfl rfl rfl <| .sk rfl rfl rfl <| .sk rfl rfl rfl <| .sk rfl rfl rfl <| .sk rfl rfl rfl <| .sk rfl rfl rfl <| .yy (Zt (.t rfl) Ev.c) rfl <| .z) fun a S => ?_
         (refine Yv ?_; intro w W; replace S := St.mk S W; clear W)
         refine Za (hK5 _ _ (Zg S (.t rfl) (sg S (.ac rfl <| .z) fun a w S => wp_ret (Ze (Zr (Ze (Ze (Zr (Ze (Zj S (results1 S results81 (Rv.tmp rfl)) ?_))))))))))
         exact ⟨by rw [canL_C (by rw [← hno, rw_b]; rfl)], S.wd.below⟩
       | true =>
         have hlm := Wf rw_b
         dsimp only at hlm
         by_cases hgt : m3 ≤ markOf C.marks m1 m2 + 1
         · have hf : okC C.marks none C.cloud = false := by
             rw [← hno, rw_b, decide_eq_false (by omega), Bool.and_false]; rfl
           refine sg S (.lt (by omega) rfl rfl <| .z) fun a w S => wp_seq_k fun _ hK3 => Zg S (.t rfl) (wp_skip (Za (hK3 _ _ (wp_seq_k fun _ hK3 => wp_block (wp_seq_k fun _ hK4 => wp_region_lit (run S (.mv rfl <| .ix underlying33 sizeOf74 (by omega) rfl rfl <| .yy (Zp ⟨isAgg74, sizeOf74⟩ (.t rfl) (vs := [_, _, _]) rfl (fun _ => hc)) rfl <| .z) fun a w S => ?_))))))
           rw [rw_n] at S
           rw [rw_l] at S
           rw [rw_k] at S
           refine Zk (Zn S zeroValue74 (cs := _) rfl rfl fun g2 a w S => run S (.as rfl <| .z) fun a w S => Zk (Zv S sizeOf74 (.t rfl) (.t rfl) (k := 0) rfl rfl rfl (by simp [Value.oneCell']) fun a w S => Zb (Za (hK4 _ _ (wp_seq_k fun _ hK4 => wp_seq_k fun _ hK5 => Zw S (by kernel_rfl) (by kernel_rfl) fun a S => qrun S (.la gt74 0 rfl rfl rfl <| .xx (Zh call147 (.cons (.t rfl) .nil) (fun hp w W => c147 _ _ _ _)) rfl <| .z) fun a S => ?_)))))
           rw [rw_b] at S
           refine qrun S (.nt rfl <| .mv rfl <| .gy rfl rfl (Zc (FieldT.mk underlying74 rfl sizeOf3 rfl) (.t rfl) (i' := 2) rfl) <| .gy rfl rfl (Zu ⟨isAgg3, sizeOf3⟩ (.t rfl) (k := 0) rfl rfl) <| .gy rfl rfl (Zc (FieldT.mk underlying35 rfl sizeOf32 rfl) (.t rfl) (i' := 0) rfl) <| .gy rfl rfl (Zu ⟨isAgg32, sizeOf32⟩ (.t rfl) (k := 1) rfl rfl) <| .gy rfl rfl (Zc (FieldT.mk underlying74 rfl sizeOf3 rfl) (.t rfl) (i' := 0) rfl) <| .gy rfl rfl (Zu ⟨isAgg3, sizeOf3⟩ (.t rfl) (k := 0) rfl rfl) <| .gy rfl rfl (Zc (FieldT.mk underlying74 rfl sizeOf3 rfl) (.t rfl) (i' := 1) rfl) <| .gy rfl rfl (Zu ⟨isAgg3, sizeOf3⟩ (.t rfl) (k := 0) rfl rfl) <| .gx rfl rfl (Zh call143 (.cons (.t rfl) (.cons (.t rfl) (.cons (.t rfl) .nil))) (fun hp w W => c143 _ _ _ _ _ (by exact .old W (by assumption)))) <| .gy rfl rfl (Xm (.t rfl) Ev.c (fun _ => by unfold I64; omega)) <| .gy rfl rfl (Yu (by omega) (Xb (.t rfl) (.t rfl))) <| .yy (Zq (.t rfl) (.t rfl)) rfl <| .z) fun a S => ?_
           (refine Yv ?_; intro w W; replace S := St.mk S W; clear W)
           refine Za (hK5 _ _ (Zg S (.t rfl) (sg S (.ac rfl <| .z) fun a w S => wp_ret (Ze (Zr (Ze (Ze (Zr (Ze (Zj S (results1 S results81 (Rv.tmp rfl)) ?_))))))))))
           exact ⟨by rw [canL_C hf], S.wd.below⟩
         · rcases k with _ | k
           · refine sg S (.lt (by omega) rfl rfl <| .z) fun a w S => wp_seq_k fun _ hK3 => Zg S (.t rfl) (wp_skip (Za (hK3 _ _ (wp_seq_k fun _ hK3 => wp_block (wp_seq_k fun _ hK4 => wp_region_lit (run S (.mv rfl <| .yy (Yf (j := 0) underlying33 sizeOf74 (.t rfl) (.t rfl) (fun _ => by omega)) rfl <| .yy (Zp ⟨isAgg74, sizeOf74⟩ (.t rfl) (vs := [_, _, _]) rfl (fun _ => hc)) rfl <| .z) fun a w S => ?_))))))
             rw [rw_n] at S
             rw [rw_l] at S
             rw [rw_k] at S
             refine Zk (Zn S zeroValue74 (cs := _) rfl rfl fun g2 a w S => run S (.as rfl <| .z) fun a w S => Zk (Zv S sizeOf74 (.t rfl) (.t rfl) (k := 0) rfl rfl rfl (by simp [Value.oneCell']) fun a w S => Zb (Za (hK4 _ _ (wp_seq_k fun _ hK4 => wp_seq_k fun _ hK5 => Zw S (by kernel_rfl) (by kernel_rfl) fun a S => qrun S (.la gt74 0 rfl rfl rfl <| .xx (Zh call147 (.cons (.t rfl) .nil) (fun hp w W => c147 _ _ _ _)) rfl <| .z) fun a S => ?_)))))
             rw [rw_b] at S
             refine qrun S (.nt rfl <| .mv rfl <| .gy rfl rfl (Zc (FieldT.mk underlying74 rfl sizeOf3 rfl) (.t rfl) (i' := 2) rfl) <| .gy rfl rfl (Zu ⟨isAgg3, sizeOf3⟩ (.t rfl) (k := 0) rfl rfl) <| .gy rfl rfl (Zc (FieldT.mk underlying35 rfl sizeOf32 rfl) (.t rfl) (i' := 0) rfl) <| .gy rfl rfl (Zu ⟨isAgg32, sizeOf32⟩ (.t rfl) (k := 1) rfl rfl) <| .gy rfl rfl (Zc (FieldT.mk underlying74 rfl sizeOf3 rfl) (.t rfl) (i' := 0) rfl) <| .gy rfl rfl (Zu ⟨isAgg3, sizeOf3⟩ (.t rfl) (k := 0) rfl rfl) <| .gy rfl rfl (Zc (FieldT.mk underlying74 rfl sizeOf3 rfl) (.t rfl) (i' := 1) rfl) <| .gy rfl rfl (Zu ⟨isAgg3, sizeOf3⟩ (.t rfl) (k := 0) rfl rfl) <| .gx rfl rfl (Zh call143 (.cons (.t rfl) (.cons (.t rfl) (.cons (.t rfl) .nil))) (fun hp w W => c143 _ _ _ _ _ (by exact .old W (by assumption)))) <| .gy rfl rfl (Xm (.t rfl) Ev.c (fun _ => by unfold I64; omega)) <| .gy rfl rfl (Ym (by omega) (Xb (.t rfl) (.t rfl))) <| .yy (Zq (.t rfl) (.t rfl)) rfl <| .z) fun a S => ?_
             (refine Yv ?_; intro w W; replace S := St.mk S W; clear W)
             refine Za (hK5 _ _ (Zf S (.t rfl) (wp_skip (Za (hK4 _ _ (wp_seq_k fun _ hK4 => Zw S (by kernel_rfl) (by kernel_rfl) fun a S => qrun S (.mv rfl <| .yy (Ym (by omega) (Yj (.t rfl) Ev.c)) rfl <| .mv rfl <| .sk rfl rfl rfl <| .sk rfl rfl rfl <| .sk rfl rfl rfl <| .sk rfl rfl rfl <| .sk rfl rfl rfl <| .sk rfl rfl rfl <| .sk rfl rfl rfl <| .sk rfl rfl rfl <| .sk rfl rfl rfl <| .yy (Zq (.t rfl) Ev.c) rfl <| .z) fun a S => ?_))))))
             (refine Yv ?_; intro w W; replace S := St.mk S W; clear W)
             refine Za (hK4 _ _ (Zf S (.t rfl) (wp_skip (Zm (Za (hK3 _ _ (wp_region_lit (run S (.ad (by unfold I64; omega) rfl <| .mv rfl <| .z) fun a w S => Zb (Za ?_)))))))))
             exact ⟨0 + 1, ⟨by omega, step_all hmm hmy' rw_b, by rw [prevD, hmm, ← hno, rw_b, prevD, gapC, decide_eq_true (by omega)]; rfl⟩, by omega, S.wk⟩
           · obtain ⟨g', o', m', e', hmm', hd', hc'⟩ := Yk hA' (show k < C.cloud.length by omega)
             cases e'
             obtain ⟨p1, p2, p3⟩ := m'
             have hg : gapC (prevD C.cloud (k + 1)) ⟨m1, m2, m3⟩ = belowD ⟨p1, p2, p3⟩ ⟨m1, m2, m3⟩ := by
               rw [prevD, hmm']
               unfold gapC orderD belowD
               dsimp only
               repeat' split
               all_goals simp only [decide_eq_decide]
               all_goals omega
             cases rw_c : belowD ⟨p1, p2, p3⟩ ⟨m1, m2, m3⟩ with
             | false =>
               refine sg S (.lt (by omega) rfl rfl <| .z) fun a w S => wp_seq_k fun _ hK3 => Zg S (.t rfl) (wp_skip (Za (hK3 _ _ (wp_seq_k fun _ hK3 => wp_block (wp_seq_k fun _ hK4 => wp_region_lit (run S (.mv rfl <| .ix underlying33 sizeOf74 (by omega) rfl rfl <| .yy (Zp ⟨isAgg74, sizeOf74⟩ (.t rfl) (vs := [_, _, _]) rfl (fun _ => hc)) rfl <| .z) fun a w S => ?_))))))
               rw [rw_n] at S
               rw [rw_l] at S
               rw [rw_k] at S
               refine Zk (Zn S zeroValue74 (cs := _) rfl rfl fun g2 a w S => run S (.as rfl <| .z) fun a w S => Zk (Zv S sizeOf74 (.t rfl) (.t rfl) (k := 0) rfl rfl rfl (by simp [Value.oneCell']) fun a w S => Zb (Za (hK4 _ _ (wp_seq_k fun _ hK4 => wp_seq_k fun _ hK5 => Zw S (by kernel_rfl) (by kernel_rfl) fun a S => qrun S (.la gt74 0 rfl rfl rfl <| .xx (Zh call147 (.cons (.t rfl) .nil) (fun hp w W => c147 _ _ _ _)) rfl <| .z) fun a S => ?_)))))
               rw [rw_b] at S
               refine qrun S (.nt rfl <| .mv rfl <| .gy rfl rfl (Zc (FieldT.mk underlying74 rfl sizeOf3 rfl) (.t rfl) (i' := 2) rfl) <| .gy rfl rfl (Zu ⟨isAgg3, sizeOf3⟩ (.t rfl) (k := 0) rfl rfl) <| .gy rfl rfl (Zc (FieldT.mk underlying35 rfl sizeOf32 rfl) (.t rfl) (i' := 0) rfl) <| .gy rfl rfl (Zu ⟨isAgg32, sizeOf32⟩ (.t rfl) (k := 1) rfl rfl) <| .gy rfl rfl (Zc (FieldT.mk underlying74 rfl sizeOf3 rfl) (.t rfl) (i' := 0) rfl) <| .gy rfl rfl (Zu ⟨isAgg3, sizeOf3⟩ (.t rfl) (k := 0) rfl rfl) <| .gy rfl rfl (Zc (FieldT.mk underlying74 rfl sizeOf3 rfl) (.t rfl) (i' := 1) rfl) <| .gy rfl rfl (Zu ⟨isAgg3, sizeOf3⟩ (.t rfl) (k := 0) rfl rfl) <| .gx rfl rfl (Zh call143 (.cons (.t rfl) (.cons (.t rfl) (.cons (.t rfl) .nil))) (fun hp w W => c143 _ _ _ _ _ (by exact .old W (by assumption)))) <| .gy rfl rfl (Xm (.t rfl) Ev.c (fun _ => by unfold I64; omega)) <| .gy rfl rfl (Ym (by omega) (Xb (.t rfl) (.t rfl))) <| .yy (Zq (.t rfl) (.t rfl)) rfl <| .z) fun a S => ?_
               (refine Yv ?_; intro w W; replace S := St.mk S W; clear W)
               refine Za (hK5 _ _ (Zf S (.t rfl) (wp_skip (Za (hK4 _ _ (wp_seq_k fun _ hK4 => Zw S (by kernel_rfl) (by kernel_rfl) fun a S => qrun S (.mv rfl <| .yy (Yu (by omega) (Yj (.t rfl) Ev.c)) rfl <| .mv rfl <| .gy rfl rfl (Zc (FieldT.mk underlying35 rfl sizeOf33 rfl) (.t rfl) (i' := 1) rfl) <| .gy rfl rfl (Zu ⟨isAgg33, sizeOf33⟩ (.t rfl) (k := 1) rfl rfl) <| .gy rfl rfl (Zd (.t rfl)) <| .gy rfl rfl (Xk (.t rfl) Ev.c (by omega)) <| .gy rfl rfl (Yf underlying33 sizeOf74 (.t rfl) (.t rfl) (fun _ => by omega)) <| .gy rfl rfl (Zp ⟨isAgg74, sizeOf74⟩ (.t rfl) (vs := [_, _, _]) rfl (fun _ => hc')) <| .gy rfl rfl (Ye ⟨isAgg74, sizeOf74⟩ (.t rfl) (k := 0) rfl rfl) <| .gx rfl rfl (Zh call148 (.cons (.t rfl) (.cons (.t rfl) .nil)) (fun hp w W => c148 _ _ _ _ _ _ _)) <| .z) fun a S => ?_))))))
               rw [rw_c] at S
               refine qrun S (.gy rfl rfl (Xg (.t rfl)) <| .yy (Zt (.t rfl) (.t rfl)) rfl <| .z) fun a S => ?_
               (refine Yv ?_; intro w W; replace S := St.mk S W; clear W)
               refine Za (hK4 _ _ (Zg S (.t rfl) (sg S (.ac rfl <| .z) fun a w S => wp_ret (Zr (Ze (Ze (Zr (Ze (Zj S (results1 S results81 (Rv.tmp rfl)) ?_)))))))))
               exact ⟨by rw [canL_C (by rw [← hno, rw_b, hg, rw_c]; rfl)], S.wd.below⟩
             | true =>
               refine sg S (.lt (by omega) rfl rfl <| .z) fun a w S => wp_seq_k fun _ hK3 => Zg S (.t rfl) (wp_skip (Za (hK3 _ _ (wp_seq_k fun _ hK3 => wp_block (wp_seq_k fun _ hK4 => wp_region_lit (run S (.mv rfl <| .ix underlying33 sizeOf74 (by omega) rfl rfl <| .yy (Zp ⟨isAgg74, sizeOf74⟩ (.t rfl) (vs := [_, _, _]) rfl (fun _ => hc)) rfl <| .z) fun a w S => ?_))))))
               rw [rw_n] at S
               rw [rw_l] at S
               rw [rw_k] at S
               refine Zk (Zn S zeroValue74 (cs := _) rfl rfl fun g2 a w S => run S (.as rfl <| .z) fun a w S => Zk (Zv S sizeOf74 (.t rfl) (.t rfl) (k := 0) rfl rfl rfl (by simp [Value.oneCell']) fun a w S => Zb (Za (hK4 _ _ (wp_seq_k fun _ hK4 => wp_seq_k fun _ hK5 => Zw S (by kernel_rfl) (by kernel_rfl) fun a S => qrun S (.la gt74 0 rfl rfl rfl <| .xx (Zh call147 (.cons (.t rfl) .nil) (fun hp w W => c147 _ _ _ _)) rfl <| .z) fun a S => ?_)))))
               rw [rw_b] at S
               refine qrun S (.nt rfl <| .mv rfl <| .gy rfl rfl (Zc (FieldT.mk underlying74 rfl sizeOf3 rfl) (.t rfl) (i' := 2) rfl) <| .gy rfl rfl (Zu ⟨isAgg3, sizeOf3⟩ (.t rfl) (k := 0) rfl rfl) <| .gy rfl rfl (Zc (FieldT.mk underlying35 rfl sizeOf32 rfl) (.t rfl) (i' := 0) rfl) <| .gy rfl rfl (Zu ⟨isAgg32, sizeOf32⟩ (.t rfl) (k := 1) rfl rfl) <| .gy rfl rfl (Zc (FieldT.mk underlying74 rfl sizeOf3 rfl) (.t rfl) (i' := 0) rfl) <| .gy rfl rfl (Zu ⟨isAgg3, sizeOf3⟩ (.t rfl) (k := 0) rfl rfl) <| .gy rfl rfl (Zc (FieldT.mk underlying74 rfl sizeOf3 rfl) (.t rfl) (i' := 1) rfl) <| .gy rfl rfl (Zu ⟨isAgg3, sizeOf3⟩ (.t rfl) (k := 0) rfl rfl) <| .gx rfl rfl (Zh call143 (.cons (.t rfl) (.cons (.t rfl) (.cons (.t rfl) .nil))) (fun hp w W => c143 _ _ _ _ _ (by exact .old W (by assumption)))) <| .gy rfl rfl (Xm (.t rfl) Ev.c (fun _ => by unfold I64; omega)) <| .gy rfl rfl (Ym (by omega) (Xb (.t rfl) (.t rfl))) <| .yy (Zq (.t rfl) (.t rfl)) rfl <| .z) fun a S => ?_
               (refine Yv ?_; intro w W; replace S := St.mk S W; clear W)
               refine Za (hK5 _ _ (Zf S (.t rfl) (wp_skip (Za (hK4 _ _ (wp_seq_k fun _ hK4 => Zw S (by kernel_rfl) (by kernel_rfl) fun a S => qrun S (.mv rfl <| .yy (Yu (by omega) (Yj (.t rfl) Ev.c)) rfl <| .mv rfl <| .gy rfl rfl (Zc (FieldT.mk underlying35 rfl sizeOf33 rfl) (.t rfl) (i' := 1) rfl) <| .gy rfl rfl (Zu ⟨isAgg33, sizeOf33⟩ (.t rfl) (k := 1) rfl rfl) <| .gy rfl rfl (Zd (.t rfl)) <| .gy rfl rfl (Xk (.t rfl) Ev.c (by omega)) <| .gy rfl rfl (Yf underlying33 sizeOf74 (.t rfl) (.t rfl) (fun _ => by omega)) <| .gy rfl rfl (Zp ⟨isAgg74, sizeOf74⟩ (.t rfl) (vs := [_, _, _]) rfl (fun _ => hc')) <| .gy rfl rfl (Ye ⟨isAgg74, sizeOf74⟩ (.t rfl) (k := 0) rfl rfl) <| .gx rfl rfl (Zh call148 (.cons (.t rfl) (.cons (.t rfl) .nil)) (fun hp w W => c148 _ _ _ _ _ _ _)) <| .z) fun a S => ?_))))))
               rw [rw_c] at S
               refine qrun S (.gy rfl rfl (Xg (.t rfl)) <| .yy (Zt (.t rfl) (.t rfl)) rfl <| .z) fun a S => ?_
               (refine Yv ?_; intro w W; replace S := St.mk S W; clear W)
               refine Za (hK4 _ _ (Zf S (.t rfl) (wp_skip (Zm (Za (hK3 _ _ (wp_region_lit (run S (.ad (by unfold I64; omega) rfl <| .mv rfl <| .z) fun a w S => Zb (Za ?_)))))))))
               exact ⟨k + 1 + 1, ⟨by omega, step_all hmm hmy' rw_b, by rw [prevD, hmm, ← hno, rw_b, hg, rw_c, decide_eq_true (by omega)]; rfl⟩, by omega, S.wk⟩
     · have hend : k = C.cloud.length := by omega
       subst hend
       rw [List.drop_length, okC] at hno
       refine sg S (.ge (by omega) rfl rfl <| .z) fun a w S => wp_seq_k fun _ hK3 => Zf S (.t rfl) (wp_exit (Zi (Zi (Zy (Za (hK1 _ _ (sg S (.ac rfl <| .z) fun a w S => wp_ret (Zj S (results1 S results81 (Rv.tmp rfl)) ?_))))))))
       exact ⟨by rw [canL_yes hbig hM hno.symm], S.wd.below⟩
end Go.Proofs.YtakpdbmdfnialaaGreat
