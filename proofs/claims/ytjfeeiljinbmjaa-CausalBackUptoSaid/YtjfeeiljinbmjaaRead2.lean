/- What the arguments of a law read as: numbers, texts, slices of bytes, of numbers, of texts. -/
import Derived.Test.YtjfeeiljinbmjaaRead
import Derived.Test.YtjfeeiljinbmjaaMore4
set_option linter.unusedVariables false
set_option linter.unusedSimpArgs false
namespace Go.Proofs.Ytjfeeiljinbmjaa
open Go.Fw Go.Proofs Go.RowKit Go.ChangeShapes Go.WideShapes Go.ChangeAt Go.Deep Go.Joins

section
variable {H : Type} {enc : TypeId × Value → H} {P : Program} {w : World}
theorem read_int {t : TypeId} {k : IntKind} {v : Value} {n : Nat} {x : DataW H × List MemPlace} (ht : P.underlying t = some (.int k)) (h : DataW.trod enc P w 0 (fun _ => true) true n t [v] = some x) : ∃ n, v = .int k n ∧ (Lit.int k n).wf = true := by
  obtain ⟨n, e, _, hw⟩ := DataW.trod_int ht h
  simp only [List.cons.injEq, and_true] at e
  exact ⟨n, e, hw⟩
theorem read_str {t : TypeId} {v : Value} {n : Nat} {x : DataW H × List MemPlace} (ht : P.underlying t = some .string) (h : DataW.trod enc P w 0 (fun _ => true) true n t [v] = some x) : ∃ s : List UInt8, v = .string (bs s) ∧ s.length + 1 ≤ Rows.uptoBulk x.1 := by
  obtain ⟨s, e, hx, _⟩ := DataW.trod_string ht h
  simp only [List.cons.injEq, and_true] at e
  refine ⟨s.data.toList, by rw [e, ← bs_of], ?_⟩
  rw [hx]
  simp [Rows.uptoBulk]
theorem read_bool {t : TypeId} {v : Value} {n : Nat} {x : DataW H × List MemPlace} (ht : P.underlying t = some .bool) (h : DataW.trod enc P w 0 (fun _ => true) true n t [v] = some x) : ∃ b, v = .bool b := by
  obtain ⟨n, e, _⟩ := DataW.trod_bool ht h
  simp only [List.cons.injEq, and_true] at e
  exact ⟨n, e⟩
/-- .. where they are whole arguments. -/
theorem top_cell {t : TypeId} {v : Value} {d : DataW H} {p : List MemPlace} (hv : v.cells.toList = [v]) (h : DataW.Trod enc P w 0 (fun _ => true) true t v d p) : ∃ n, DataW.trod enc P w 0 (fun _ => true) true n t [v] = some (d, p) := by
  obtain ⟨m, hm⟩ := h
  rw [hv] at hm
  exact ⟨m, hm⟩
theorem top_int {t : TypeId} {k : IntKind} {v : Value} {base : Nat} {d : DataW H} {p : List MemPlace} (ht : P.underlying t = some (.int k)) (hv : Value.okWide P w .any base t v) (h : DataW.Trod enc P w 0 (fun _ => true) true t v d p) : ∃ n, v = .int k n ∧ (Lit.int k n).wf = true := by
  obtain ⟨n, rfl⟩ := okWide_int ht hv
  obtain ⟨m, hm⟩ := top_cell rfl h
  exact read_int ht hm
theorem top_str {t : TypeId} {v : Value} {base : Nat} {d : DataW H} {p : List MemPlace} (ht : P.underlying t = some .string) (hv : Value.okWide P w .any base t v) (h : DataW.Trod enc P w 0 (fun _ => true) true t v d p) : ∃ s : List UInt8, v = .string (bs s) ∧ s.length + 1 ≤ Rows.uptoBulk d := by
  obtain ⟨n, rfl⟩ := okWide_string ht hv
  obtain ⟨m, hm⟩ := top_cell rfl h
  exact read_str ht hm
theorem top_bool {t : TypeId} {v : Value} {base : Nat} {d : DataW H} {p : List MemPlace} (ht : P.underlying t = some .bool) (hv : Value.okWide P w .any base t v) (h : DataW.Trod enc P w 0 (fun _ => true) true t v d p) : ∃ b, v = .bool b := by
  obtain ⟨n, rfl⟩ := okWide_bool ht hv
  obtain ⟨m, hm⟩ := top_cell rfl h
  exact read_bool ht hm

/-- A slice whose elements are one cell each. -/
theorem read_slice1 {α : Type} {encA : α → List Value} {t e : TypeId} {v : Value} {d : DataW H} {p : List MemPlace} (ht : P.underlying t = some (.slice e)) (hC : P.cellsOf e = 1)
    (mk : ∀ (u : Value) (n : Nat) y, DataW.trod enc P w 0 (fun _ => true) true n e [u] = some y → ∃ x : α, encA x = [u]) (hv : ∃ A len cap, v = .slice A len cap) (h : DataW.Trod enc P w 0 (fun _ => true) true t v d p) :
    ∃ l, Sl encA 1 w w.heap.size v l ∧ l.length + 1 ≤ Rows.uptoBulk d := by
  obtain ⟨A, len, cap, rfl⟩ := hv
  obtain ⟨fuel, hf⟩ := h
  rcases open_slice1 ht hC hf with ⟨hcs, hx⟩ | ⟨a, len', cap', m, n, V, D, Pl, hcs, hb, hl, hm, hmm, hx, hi⟩
  · simp [Value.cells] at hcs
    obtain ⟨rfl, rfl, rfl⟩ := hcs
    exact ⟨[], Sl.nil_, bulk_one _⟩
  · simp [Value.cells] at hcs
    obtain ⟨rfl, rfl, rfl⟩ := hcs
    simp only [Prod.mk.injEq] at hx
    have hlm : len ≤ m := by rw [hmm]; split <;> omega
    have key : ∀ i, i < len → ∃ x : α, ∀ j u, (encA x)[j]? = some u → w.cell? (a.add (i * 1 + j)) = some u := fun i hil => by
      obtain ⟨c0, t0⟩ := hi i (by omega)
      obtain ⟨x, hx⟩ := mk _ _ _ t0
      refine ⟨x, fun j u hj => ?_⟩
      rw [hx] at hj
      match j, hj with
      | 0, hj => simp at hj; subst hj; simpa using c0
      | j + 1, hj => simp at hj
    obtain ⟨l, rfl, hl2⟩ := list_of key
    refine ⟨l, ⟨some a, cap, rfl, hl, by simpa [maxLen] using hm, fun hp => ?_⟩, ?_⟩
    · obtain ⟨b, off, spot⟩ := a
      obtain ⟨c0, t0⟩ := hi 0 (by omega)
      have hspot : spot = none := by simpa [Addr.add] using World.cell?_spot c0
      subst hspot
      refine ⟨b, off, rfl, World.block_lt_of_cell? w _ c0, fun k x hx j u hu => ?_⟩
      have := hl2 k x hx j u hu
      rw [Addr.add_mid, ← Nat.add_assoc] at this
      exact this
    · rw [hx.1]
      have := bulk_slice ((List.range l.length).map D) ((List.range (m - l.length)).map fun j => D (l.length + j))
      simpa using this
theorem read_bytes {t e : TypeId} {v : Value} {d : DataW H} {p : List MemPlace} (ht : P.underlying t = some (.slice e)) (he : P.underlying e = some (.int .u8)) (hC : P.cellsOf e = 1) (hv : ∃ A len cap, v = .slice A len cap) (h : DataW.Trod enc P w 0 (fun _ => true) true t v d p) :
    ∃ l, Sl encB 1 w w.heap.size v l ∧ l.length + 1 ≤ Rows.uptoBulk d :=
  read_slice1 ht hC (fun u n y hy => by
    obtain ⟨k, e1, _, hw⟩ := DataW.trod_int he hy
    refine ⟨b8 k, ?_⟩
    have hk : 0 ≤ k ∧ k < 256 := by
      have : (0 ≤ k ∧ k ≤ 255) := by simpa [Lit.wf, IntKind.min, IntKind.max, IntKind.signed, IntKind.bits] using hw
      omega
    rw [e1, encB, b8_val, Int.emod_eq_of_lt hk.1 hk.2]) hv h
def encI (x : Int) : List Value := [.int .i64 x]
theorem read_ints {t e : TypeId} {v : Value} {d : DataW H} {p : List MemPlace} (ht : P.underlying t = some (.slice e)) (he : P.underlying e = some (.int .i64)) (hC : P.cellsOf e = 1) (hv : ∃ A len cap, v = .slice A len cap) (h : DataW.Trod enc P w 0 (fun _ => true) true t v d p) :
    ∃ l, Sl encI 1 w w.heap.size v l ∧ l.length + 1 ≤ Rows.uptoBulk d :=
  read_slice1 ht hC (fun u n y hy => by
    obtain ⟨k, e1, _, hw⟩ := DataW.trod_int he hy
    exact ⟨k, by rw [e1]; rfl⟩) hv h
def encS (x : List UInt8) : List Value := [.string (bs x)]
theorem read_strs {t e : TypeId} {v : Value} {d : DataW H} {p : List MemPlace} (ht : P.underlying t = some (.slice e)) (he : P.underlying e = some .string) (hC : P.cellsOf e = 1) (hv : ∃ A len cap, v = .slice A len cap) (h : DataW.Trod enc P w 0 (fun _ => true) true t v d p) :
    ∃ l, Sl encS 1 w w.heap.size v l ∧ l.length + 1 ≤ Rows.uptoBulk d :=
  read_slice1 ht hC (fun u n y hy => by
    obtain ⟨s, e1, _, _⟩ := DataW.trod_string he hy
    exact ⟨s.data.toList, by rw [e1, encS, ← bs_of]⟩) hv h
end
end Go.Proofs.Ytjfeeiljinbmjaa
