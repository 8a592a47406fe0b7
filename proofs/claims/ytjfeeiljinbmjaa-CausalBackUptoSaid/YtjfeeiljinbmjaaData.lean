/- The data of the program as plain Lean: dots and marks, contexts. Of no program. -/
import Derived.Test.YtjfeeiljinbmjaaMore2
set_option linter.unusedVariables false
set_option linter.unusedSimpArgs false
namespace Go.Fw
open Go.RowKit

/-- A dot, or a mark. -/
structure Dot where
  node : Int
  life : Int
  count : Int
deriving DecidableEq
abbrev Dot.enc (d : Dot) : List Value := [.int .i64 d.node, .int .i64 d.life, .int .i64 d.count]

theorem Dot.mkEnc {x y z : Int} : [Value.int .i64 x, Value.int .i64 y, Value.int .i64 z] = Dot.enc ⟨x, y, z⟩ := rfl

structure Ctx where
  marks : List Dot
  cloud : List Dot
deriving DecidableEq

/-- Who a dot is of. -/
abbrev Dot.of (d : Dot) (x y : Int) : Prop := d.node = x ∧ d.life = y

def markOf : List Dot → Int → Int → Int
  | [], _, _ => 0
  | m :: r, x, y => if m.node = x ∧ m.life = y then m.count else markOf r x y

/-- where d stands first, from i on; -1: nowhere -/
def idxFrom (d : Dot) : Nat → List Dot → Int
  | _, [] => -1
  | i, x :: r => if d = x then i else idxFrom d (i + 1) r
theorem idx_mem (d : Dot) : ∀ (l : List Dot) (i : Nat), decide ((0 : Int) ≤ idxFrom d i l) = decide (d ∈ l)
  | [], i => by simp [idxFrom]
  | x :: r, i => by
    by_cases h : d = x
    · rw [idxFrom, if_pos h]; simp [h]
    · rw [idxFrom, if_neg h, idx_mem d r]; simp [h]

def Ctx.covers (C : Ctx) (d : Dot) : Bool := decide (1 ≤ d.count) && (decide (d.count ≤ markOf C.marks d.node d.life) || decide (d ∈ C.cloud))
def Ctx.coversR (C : Ctx) (d : Dot) : Bool := (decide (1 ≤ d.count) && decide (d.count ≤ markOf C.marks d.node d.life)) || decide (d ∈ C.cloud)

def topFrom (n : Int) (x y : Int) : List Dot → Int
  | [] => n
  | d :: r => topFrom (if d.node = x ∧ d.life = y then max n d.count else n) x y r
def Ctx.top (C : Ctx) (x y : Int) : Int := topFrom (markOf C.marks x y) x y C.cloud

def sumC (n : Int) : List Dot → Int
  | [] => n
  | d :: r => sumC (n + d.count) r

/-- a context's cells, and what it reads as -/
def RdCtx (w : World) (B : Nat) (v1 v2 : Value) (C : Ctx) : Prop := Sl Dot.enc 3 w B v1 C.marks ∧ Sl Dot.enc 3 w B v2 C.cloud
theorem RdCtx.old {w0 w : World} {L : List Chunk} {v1 v2 : Value} {C : Ctx} (W : Wd w0 L w) (h : RdCtx w0 w0.heap.size v1 v2 C) : RdCtx w w.heap.size v1 v2 C := ⟨.old W h.1, .old W h.2⟩

/-- all that are not of (x, y) -/
def keep (x y : Int) (l : List Dot) : List Dot := l.filter fun d => !decide (d.node = x ∧ d.life = y)
theorem keep_yes {x y : Int} {l : List Dot} {k : Nat} {m : Dot} (hm : l[k]? = some m) (h : ¬ (m.node = x ∧ m.life = y)) : keep x y (l.take (k + 1)) = keep x y (l.take k) ++ [m] := by
  rw [List.take_add_one, hm]; simp [keep, h, Decidable.not_and_iff_or_not.symm]
theorem keep_no {x y : Int} {l : List Dot} {k : Nat} {m : Dot} (hm : l[k]? = some m) (h : m.node = x ∧ m.life = y) : keep x y (l.take (k + 1)) = keep x y (l.take k) := by
  rw [List.take_add_one, hm]; simp [keep, h, Decidable.not_and_iff_or_not.symm]
theorem keep_len (x y : Int) (l : List Dot) (k : Nat) : (keep x y (l.take k)).length ≤ k := Nat.le_trans (List.length_filter_le _ _) (by simp; omega)

def mayD (d : Dot) : Bool := decide (0 ≤ d.node ∧ d.node < 8 ∧ 1 ≤ d.life ∧ d.life ≤ 1099511627776 ∧ 1 ≤ d.count ∧ d.count ≤ 1099511627776)
def belowD (a b : Dot) : Bool := if a.node ≠ b.node then decide (a.node < b.node) else if a.life ≠ b.life then decide (a.life < b.life) else decide (a.count < b.count)

/-- marks with one more -/
def setL (m : Dot) : Bool → List Dot → List Dot
  | put, [] => if put then [] else [m]
  | put, x :: r =>
    if x.node = m.node ∧ x.life = m.life then ⟨x.node, x.life, max x.count m.count⟩ :: setL m true r
    else if !put && belowD ⟨m.node, m.life, 0⟩ ⟨x.node, x.life, 0⟩ then m :: x :: setL m true r
    else x :: setL m put r
theorem setL_len (m : Dot) : ∀ (l : List Dot) (put : Bool), (setL m put l).length ≤ l.length + (if put then 0 else 1)
  | [], put => by cases put <;> simp [setL]
  | x :: r, put => by
    have h1 := setL_len m r true
    have h2 := setL_len m r put
    unfold setL
    split
    · simp at *; omega
    · split
      · rename_i h
        have : put = false := by cases put <;> simp_all
        subst this
        simp at *; omega
      · simp at *; omega

/-- dots with one more -/
def insL (d : Dot) : Bool → List Dot → List Dot
  | put, [] => if put then [] else [d]
  | put, x :: r =>
    if x = d then x :: insL d true r
    else if !put && belowD d x then d :: x :: insL d true r
    else x :: insL d put r
theorem insL_len (m : Dot) : ∀ (l : List Dot) (put : Bool), (insL m put l).length ≤ l.length + (if put then 0 else 1)
  | [], put => by cases put <;> simp [insL]
  | x :: r, put => by
    have h1 := insL_len m r true
    have h2 := insL_len m r put
    unfold insL
    split
    · simp at *; omega
    · split
      · rename_i h
        have : put = false := by cases put <;> simp_all
        subst this
        simp at *; omega
      · simp at *; omega

/-- one round over the dots: marks, what is left, whether a mark rose -/
def settleIn : List Dot → List Dot → List Dot → Bool → List Dot × List Dot × Bool
  | [], m, l, b => (m, l, b)
  | d :: r, m, l, b =>
    if d.count ≤ markOf m d.node d.life then settleIn r m l b
    else if d.count = markOf m d.node d.life + 1 then settleIn r (setL d false m) l true
    else settleIn r m (l ++ [d]) b
theorem settleIn_len : ∀ (r m l : List Dot) (b : Bool), (settleIn r m l b).1.length + (settleIn r m l b).2.1.length ≤ m.length + l.length + r.length ∧ (b = false → (settleIn r m l b).2.2 = true → (settleIn r m l b).2.1.length < l.length + r.length) ∧ (settleIn r m l b).2.1.length ≤ l.length + r.length
  | [], m, l, b => by simp [settleIn]
  | d :: r, m, l, b => by
    unfold settleIn
    split
    · have h := settleIn_len r m l b
      simp at *; omega
    · split
      · have h := settleIn_len r (setL d false m) l true
        have h2 := setL_len d m false
        simp at *; omega
      · have h := settleIn_len r m (l ++ [d]) b
        simp at *
        refine ⟨by omega, fun h1 h2 => ?_, by omega⟩
        have := h.2.1 h1 h2
        omega
def settledL : Nat → List Dot → List Dot → Ctx
  | 0, m, d => ⟨m, d⟩
  | f + 1, m, d => if (settleIn d m [] false).2.2 then settledL f (settleIn d m [] false).1 (settleIn d m [] false).2.1 else ⟨(settleIn d m [] false).1, (settleIn d m [] false).2.1⟩
theorem settledL_len : ∀ (f : Nat) (m d : List Dot), (settledL f m d).marks.length + (settledL f m d).cloud.length ≤ m.length + d.length
  | 0, m, d => by simp [settledL]
  | f + 1, m, d => by
    have h := (settleIn_len d m [] false).1
    unfold settledL
    split
    · have h2 := settledL_len f (settleIn d m [] false).1 (settleIn d m [] false).2.1
      simp at h; omega
    · simp at h; exact h
theorem markOf_may {x y : Int} : ∀ {l : List Dot}, (∀ d ∈ l, mayD d = true) → 0 ≤ markOf l x y ∧ markOf l x y ≤ 1099511627776
  | [], _ => by simp [markOf]
  | m :: r, h => by
    have h1 := h m (by simp)
    have h2 := markOf_may (x := x) (y := y) (l := r) (fun d hd => h d (by simp [hd]))
    unfold markOf
    split
    · simp [mayD] at h1; omega
    · exact h2
theorem setL_may {m : Dot} (hm : mayD m = true) : ∀ {l : List Dot} {put : Bool}, (∀ d ∈ l, mayD d = true) → ∀ d ∈ setL m put l, mayD d = true
  | [], put, _, d, hd => by cases put <;> simp [setL] at hd; rw [hd]; exact hm
  | x :: r, put, h, d, hd => by
    have hx := h x (by simp)
    have hr : ∀ d ∈ r, mayD d = true := fun d hd => h d (by simp [hd])
    unfold setL at hd
    split at hd
    · rcases List.mem_cons.1 hd with rfl | hd
      · simp [mayD] at *; omega
      · exact setL_may hm hr d hd
    · split at hd
      · rcases List.mem_cons.1 hd with rfl | hd
        · exact hm
        · rcases List.mem_cons.1 hd with rfl | hd
          · exact hx
          · exact setL_may hm hr d hd
      · rcases List.mem_cons.1 hd with rfl | hd
        · exact hx
        · exact setL_may hm hr d hd
theorem insL_may {m : Dot} (hm : mayD m = true) : ∀ {l : List Dot} {put : Bool}, (∀ d ∈ l, mayD d = true) → ∀ d ∈ insL m put l, mayD d = true
  | [], put, _, d, hd => by cases put <;> simp [insL] at hd; rw [hd]; exact hm
  | x :: r, put, h, d, hd => by
    have hx := h x (by simp)
    have hr : ∀ d ∈ r, mayD d = true := fun d hd => h d (by simp [hd])
    unfold insL at hd
    split at hd
    · rcases List.mem_cons.1 hd with rfl | hd
      · exact hx
      · exact insL_may hm hr d hd
    · split at hd
      · rcases List.mem_cons.1 hd with rfl | hd
        · exact hm
        · rcases List.mem_cons.1 hd with rfl | hd
          · exact hx
          · exact insL_may hm hr d hd
      · rcases List.mem_cons.1 hd with rfl | hd
        · exact hx
        · exact insL_may hm hr d hd
theorem settleIn_may : ∀ {r m l : List Dot} {b : Bool}, (∀ d ∈ r, mayD d = true) → (∀ d ∈ m, mayD d = true) → (∀ d ∈ l, mayD d = true) → (∀ d ∈ (settleIn r m l b).1, mayD d = true) ∧ ∀ d ∈ (settleIn r m l b).2.1, mayD d = true
  | [], m, l, b, _, hm, hl => ⟨hm, hl⟩
  | d :: r, m, l, b, hr, hm, hl => by
    have hd := hr d (by simp)
    have hr' : ∀ d ∈ r, mayD d = true := fun d hd => hr d (by simp [hd])
    unfold settleIn
    split
    · exact settleIn_may hr' hm hl
    · split
      · exact settleIn_may hr' (setL_may hd hm) hl
      · exact settleIn_may hr' hm (fun x hx => by rcases List.mem_append.1 hx with h | h; exact hl x h; simp at h; rw [h]; exact hd)
theorem settledL_may : ∀ {f : Nat} {m d : List Dot}, (∀ x ∈ m, mayD x = true) → (∀ x ∈ d, mayD x = true) → (∀ x ∈ (settledL f m d).marks, mayD x = true) ∧ ∀ x ∈ (settledL f m d).cloud, mayD x = true
  | 0, m, d, hm, hd => ⟨hm, hd⟩
  | f + 1, m, d, hm, hd => by
    have h := settleIn_may (b := false) hd hm (l := []) (by simp)
    unfold settledL
    split
    · exact settledL_may h.1 h.2
    · exact h

def normalL (marks dots : List Dot) : Ctx × Int :=
  if !marks.all mayD || !dots.all mayD then (⟨[], []⟩, 1)
  else
    let l := marks.foldl (fun a m => setL m false a) []
    let k := dots.foldl (fun a d => insL d false a) []
    let c := settledL (k.length + 1) l k
    if 64 < c.marks.length ∨ 64 < c.cloud.length then (⟨[], []⟩, 4) else (c, 0)

theorem Dot.eq_iff (a b : Dot) : a = b ↔ a.node = b.node ∧ a.life = b.life ∧ a.count = b.count := by cases a; cases b; simp
theorem take_step {l l' : List Dot} {k : Nat} {m m' : Dot} (h : l.take k = l'.take k) (hm : l[k]? = some m) (hm' : l'[k]? = some m') (e : m = m') : l.take (k + 1) = l'.take (k + 1) := by
  subst e; rw [List.take_add_one, List.take_add_one, h, hm, hm']
theorem ne_at {l l' : List Dot} {k : Nat} {m m' : Dot} (hm : l[k]? = some m) (hm' : l'[k]? = some m') (e : ¬ m = m') : decide (l = l') = false :=
  decide_eq_false fun h => by rw [h, hm'] at hm; cases hm; exact e rfl

theorem drop_all {α : Type} {l : List α} {k : Nat} (hk : k ≤ l.length) (h : ¬ ((k : Int) < (l.length : Int))) : k = l.length := by omega
end Go.Fw
