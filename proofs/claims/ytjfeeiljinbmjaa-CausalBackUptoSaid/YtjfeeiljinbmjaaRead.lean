/- What the arguments of a law read as: slices of dots. -/
import Derived.Test.YtjfeeiljinbmjaaRows
import Derived.Test.YtjfeeiljinbmjaaNrm
import Derived.Test.YtjfeeiljinbmjaaMore2
import Derived.ProofKit
import Derived.OpenShut
import Derived.JoinedCond
import Derived.Deep.Slices
import Derived.Deep.Fields
import Derived.ChangeSame
import Derived.Carry
import Derived.Lib.SmallJoins
set_option linter.unusedVariables false
set_option linter.unusedSimpArgs false
namespace Go.Proofs.Ytjfeeiljinbmjaa
open Go.Fw Go.Proofs Go.RowKit Go.ChangeShapes Go.WideShapes Go.ChangeAt Go.Deep Go.Joins

theorem bulk_one {H : Type} (d : DataW H) : 1 ≤ Rows.uptoBulk d := by
  cases d with
  | lit l => cases l <;> simp [Rows.uptoBulk]
  | nil => simp [Rows.uptoBulk]
  | ptr d => simp [Rows.uptoBulk]
  | slice elems spare => simp [Rows.uptoBulk]
  | agg parts => simp [Rows.uptoBulk]
  | iface t d => simp [Rows.uptoBulk]
  | map entries => simp [Rows.uptoBulk]
  | held h => simp [Rows.uptoBulk]
theorem bulk_len {H : Type} (l : List (DataW H)) : l.length ≤ Rows.uptoBulkAll l := by
  induction l with
  | nil => simp [Rows.uptoBulkAll]
  | cons x r ih => have := bulk_one x; simp only [Rows.uptoBulkAll, List.length_cons]; omega
theorem bulk_slice {H : Type} (elems spare : List (DataW H)) : elems.length + 1 ≤ Rows.uptoBulk (.slice elems spare) := by
  have h1 := bulk_len elems
  simp only [Rows.uptoBulk]
  omega
theorem bulk_part {H : Type} {d : DataW H} {l : List (DataW H)} (h : d ∈ l) : Rows.uptoBulk d ≤ Rows.uptoBulkAll l := by
  induction l with
  | nil => cases h
  | cons x r ih =>
    simp only [Rows.uptoBulkAll]
    cases List.mem_cons.1 h with
    | inl e => subst e; omega
    | inr e => have := ih e; omega

theorem list_of {α : Type} {Q : Nat → α → Prop} : ∀ {n : Nat}, (∀ i, i < n → ∃ x, Q i x) → ∃ l : List α, l.length = n ∧ ∀ k x, l[k]? = some x → Q k x
  | 0, _ => ⟨[], rfl, fun k x h => by simp at h⟩
  | n + 1, h => by
    obtain ⟨l, h1, h2⟩ := list_of (n := n) fun i hi => h i (by omega)
    obtain ⟨y, hy⟩ := h n (by omega)
    refine ⟨l ++ [y], by simp [h1], fun k x hk => ?_⟩
    rw [List.getElem?_append] at hk
    split at hk
    · exact h2 k x hk
    · rename_i hge
      have : k = n := by
        have := (List.getElem?_eq_some_iff.1 hk).1
        simp at this; omega
      subst this
      rw [h1, Nat.sub_self] at hk
      simp at hk
      subst hk
      exact hy

section
variable {H : Type} {enc : TypeId × Value → H} {P : Program} {w : World}

/-- A slice of structs whose fields are one cell each (the guide's own extra, for a slice that came in). -/
theorem open_slice_cells {base : Nat} {spare : Nat → Bool} {held : Bool} {t e : TypeId} {fs : Array Field} {fuel : Nat} {cs : List Value} {x : DataW H × List MemPlace} (ht : P.underlying t = some (.slice e)) (he : P.underlying e = some (.struct fs))
    (hone : oneCellFields P fs = true) (hC : P.cellsOf e = fs.size) (h : DataW.trod enc P w base spare held fuel t cs = some x) :
    (cs = [.slice none 0 0] ∧ x = (.nil, [])) ∨
    ∃ (a : Addr) (len cap m : Nat) (D : Nat → DataW H) (r : List (DataW H)) (Pl : List MemPlace), cs = [.slice (some a) len cap] ∧ len ≤ cap ∧ cap ≤ maxLen ∧ len ≤ m ∧
      x = (.slice ((List.range len).map D) r, Pl) ∧
      ∀ i, i < m → ∀ (j : Nat) (f : Field), fs[j]? = some f → ∃ (v : Value) (n : Nat) (y : DataW H × List MemPlace), w.cell? (a.add (i * fs.size + j)) = some v ∧ DataW.trod enc P w base spare held n f.type [v] = some y := by
  rcases open_slice ht h with h0 | ⟨a, len, cap, m, n, D, Pl, hcs, hb, hl, hm, hmm, hx, hi⟩
  · exact .inl h0
  · refine .inr ⟨a, len, cap, m, D, _, _, hcs, hl, hm, by rw [hmm]; split <;> omega, hx, fun i him j f hj => ?_⟩
    obtain ⟨cs', hc, ht'⟩ := hi i him
    rw [hC] at hc
    obtain ⟨ys, n', hn', hy, hlen, hyl, hf⟩ := DataW.trod_struct he ht'
    obtain ⟨_, hcl, hat⟩ := World.cells?_some hc
    obtain ⟨ho, hk⟩ := hone_of hone j f hj
    have hjl : j < fs.size := (Array.getElem?_eq_some_iff.1 hj).1
    have hcell := hat j hjl
    have hv : cs'[j]? = some (cs'[j]'(by omega)) := List.getElem?_eq_getElem (by omega)
    have h1 := hf j f hj
    rw [ho, hk] at h1
    have hone' : (cs'.drop j).take 1 = [cs'[j]'(by omega)] := by
      rw [List.drop_eq_getElem_cons (by omega)]
      rfl
    rw [hone'] at h1
    have hys : ys[j]? = some (ys[j]'(by omega)) := List.getElem?_eq_getElem (by omega)
    refine ⟨_, _, _, ?_, h1.trans hys⟩
    rw [← Go.Deep.add_add, hcell, hv]

theorem read_dots {t e : TypeId} {f0 f1 f2 : Field} {v : Value} {d : DataW H} {p : List MemPlace} (ht : P.underlying t = some (.slice e)) (he : P.underlying e = some (.struct #[f0, f1, f2])) (hone : oneCellFields P #[f0, f1, f2] = true) (hC : P.cellsOf e = 3)
    (h0 : P.underlying f0.type = some (.int .i64)) (h1 : P.underlying f1.type = some (.int .i64)) (h2 : P.underlying f2.type = some (.int .i64)) (hv : ∃ A len cap, v = .slice A len cap) (h : DataW.Trod enc P w 0 (fun _ => true) true t v d p) :
    ∃ l, Sl Dot.enc 3 w w.heap.size v l ∧ l.length + 1 ≤ Rows.uptoBulk d := by
  obtain ⟨A, len, cap, rfl⟩ := hv
  obtain ⟨fuel, hf⟩ := h
  rcases open_slice_cells ht he hone hC hf with ⟨hcs, hx⟩ | ⟨a, len', cap', m, D, r, Pl, hcs, hl, hm, hmm, hx, hi⟩
  · simp [Value.cells] at hcs
    obtain ⟨rfl, rfl, rfl⟩ := hcs
    exact ⟨[], Sl.nil_, bulk_one _⟩
  · simp [Value.cells] at hcs
    obtain ⟨rfl, rfl, rfl⟩ := hcs
    simp only [Prod.mk.injEq] at hx
    have key : ∀ i, i < len → ∃ x : Dot, ∀ j u, (Dot.enc x)[j]? = some u → w.cell? (a.add (i * 3 + j)) = some u := fun i hil => by
      obtain ⟨u0, n0, y0, c0, t0⟩ := hi i (by omega) 0 f0 rfl
      obtain ⟨u1, n1, y1, c1, t1⟩ := hi i (by omega) 1 f1 rfl
      obtain ⟨u2, n2, y2, c2, t2⟩ := hi i (by omega) 2 f2 rfl
      obtain ⟨k0, e0, _⟩ := DataW.trod_int h0 t0
      obtain ⟨k1, e1, _⟩ := DataW.trod_int h1 t1
      obtain ⟨k2, e2, _⟩ := DataW.trod_int h2 t2
      simp only [List.cons.injEq, and_true] at e0 e1 e2
      subst e0; subst e1; subst e2
      refine ⟨⟨k0, k1, k2⟩, fun j u hj => ?_⟩
      match j, hj with
      | 0, hj => simp [Dot.enc] at hj; subst hj; exact c0
      | 1, hj => simp [Dot.enc] at hj; subst hj; exact c1
      | 2, hj => simp [Dot.enc] at hj; subst hj; exact c2
      | j + 3, hj => simp [Dot.enc] at hj
    obtain ⟨l, rfl, hl2⟩ := list_of key
    refine ⟨l, ⟨some a, cap, rfl, hl, by simpa [maxLen] using hm, fun hp => ?_⟩, ?_⟩
    · obtain ⟨b, off, spot⟩ := a
      have hc := hl2 0 l[0] (by simp [hp]) 0 (.int .i64 l[0].node) rfl
      have hspot : spot = none := by simpa [Addr.add] using World.cell?_spot hc
      subst hspot
      refine ⟨b, off, rfl, World.block_lt_of_cell? w _ hc, fun k x hx j u hu => ?_⟩
      have := hl2 k x hx j u hu
      rw [Addr.add_mid, ← Nat.add_assoc] at this
      exact this
    · rw [hx.1]
      have := bulk_slice ((List.range l.length).map D) r
      simpa using this
end
end Go.Proofs.Ytjfeeiljinbmjaa
