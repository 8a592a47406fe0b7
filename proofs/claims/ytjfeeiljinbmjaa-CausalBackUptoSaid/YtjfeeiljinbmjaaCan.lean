/- Contexts in their one form; one within another: plain. Of no program. -/
import Derived.Test.YtjfeeiljinbmjaaNrm
set_option linter.unusedVariables false
set_option linter.unusedSimpArgs false
namespace Go.Fw
open Go.RowKit

def orderD (a b : Dot) : Int := if a.node ≠ b.node then a.node - b.node else if a.life ≠ b.life then a.life - b.life else a.count - b.count
/-- in order: of two marks; of two dots -/
abbrev Dot.nl (d : Dot) : Dot := ⟨d.node, d.life, 0⟩
def gapM (p : Option Dot) (m : Dot) : Bool := match p with
  | none => true
  | some x => decide (orderD x.nl m.nl < 0)
def gapC (p : Option Dot) (m : Dot) : Bool := match p with
  | none => true
  | some x => decide (orderD x m < 0)
def okM (p : Option Dot) : List Dot → Bool
  | [] => true
  | m :: r => mayD m && gapM p m && okM (some m) r
def okC (ms : List Dot) (p : Option Dot) : List Dot → Bool
  | [] => true
  | d :: r => mayD d && gapC p d && decide (markOf ms d.node d.life + 1 < d.count) && okC ms (some d) r
def canL (C : Ctx) : Bool := decide (C.marks.length ≤ 64 ∧ C.cloud.length ≤ 64) && okM none C.marks && okC C.marks none C.cloud
theorem canL_big {C : Ctx} (h : 64 < C.marks.length ∨ 64 < C.cloud.length) : canL C = false := by
  rw [canL, decide_eq_false (by omega)]; rfl
theorem canL_M {C : Ctx} (h : okM none C.marks = false) : canL C = false := by simp [canL, h]
theorem canL_C {C : Ctx} (h : okC C.marks none C.cloud = false) : canL C = false := by simp [canL, h]
theorem canL_yes {C : Ctx} (h : C.marks.length ≤ 64 ∧ C.cloud.length ≤ 64) (h1 : okM none C.marks = true) (h2 : okC C.marks none C.cloud = true) : canL C = true := by simp [canL, h, h1, h2]
/-- the one before k -/
def prevD (l : List Dot) : Nat → Option Dot
  | 0 => none
  | k + 1 => l[k]?
def leqM (C : Ctx) (m : Dot) : Bool := decide (m.count - markOf C.marks m.node m.life ≤ 64) && (List.range (m.count - markOf C.marks m.node m.life).toNat).all fun i => decide ((⟨m.node, m.life, markOf C.marks m.node m.life + 1 + i⟩ : Dot) ∈ C.cloud)
def leqL (A B : Ctx) : Bool := A.marks.all (leqM B) && A.cloud.all B.covers
theorem leqM_yes {C : Ctx} {m : Dot} {i : Nat} (h1 : m.count - markOf C.marks m.node m.life ≤ i) (h2 : i ≤ 64) (h : ∀ j : Nat, j < i → (⟨m.node, m.life, markOf C.marks m.node m.life + 1 + j⟩ : Dot) ∈ C.cloud) : leqM C m = true := by
  rw [leqM, Bool.and_eq_true, decide_eq_true_eq, List.all_eq_true]
  refine ⟨by omega, fun j hj => decide_eq_true (h j ?_)⟩
  rw [List.mem_range] at hj
  omega
theorem leqM_no {C : Ctx} {m : Dot} {i : Nat} (h1 : markOf C.marks m.node m.life + 1 + i ≤ m.count) (h : 64 < i + 1 ∨ (⟨m.node, m.life, markOf C.marks m.node m.life + 1 + i⟩ : Dot) ∉ C.cloud) : leqM C m = false := by
  rw [Bool.eq_false_iff]
  intro hh
  rw [leqM, Bool.and_eq_true, decide_eq_true_eq, List.all_eq_true] at hh
  rcases h with h | h
  · omega
  · exact h (of_decide_eq_true (hh.2 i (List.mem_range.2 (by omega))))
theorem leqL_m {A B : Ctx} {k : Nat} {m : Dot} (hm : A.marks[k]? = some m) (h : leqM B m = false) : leqL A B = false := by
  rw [leqL, (List.all_eq_false.2 ⟨m, List.mem_of_getElem? hm, by simp [h]⟩ : A.marks.all (leqM B) = false)]; rfl
theorem leqL_c {A B : Ctx} {k : Nat} {m : Dot} (hm : A.cloud[k]? = some m) (h : B.covers m = false) : leqL A B = false := by
  rw [leqL, (List.all_eq_false.2 ⟨m, List.mem_of_getElem? hm, by simp [h]⟩ : A.cloud.all B.covers = false), Bool.and_false]
theorem leqL_yes {A B : Ctx} (h : ∀ x ∈ A.marks, leqM B x = true) (h' : ∀ x ∈ A.cloud, B.covers x = true) : leqL A B = true := by
  rw [leqL, List.all_eq_true.2 h, List.all_eq_true.2 h']; rfl
theorem step_all {P : Dot → Prop} {l : List Dot} {k : Nat} {m : Dot} (hm : l[k]? = some m) (h : ∀ x ∈ l.take k, P x) (h1 : P m) : ∀ x ∈ l.take (k + 1), P x := fun x hx => by
  rw [List.take_add_one, hm] at hx
  rcases List.mem_append.1 hx with hx | hx
  · exact h x hx
  · simp at hx; rw [hx]; exact h1
theorem may_lim {d : Dot} (h : mayD d = true) : 0 ≤ d.node ∧ d.node < 8 ∧ 1 ≤ d.life ∧ d.life ≤ 1099511627776 ∧ 1 ≤ d.count ∧ d.count ≤ 1099511627776 := by simpa [mayD] using h
end Go.Fw
