/- Contexts among the arguments of a law. -/
import Derived.Test.YtjfeeiljinbmjaaRead
set_option linter.unusedVariables false
set_option linter.unusedSimpArgs false
namespace Go.Proofs.Ytjfeeiljinbmjaa
open Go.Fw Go.Proofs Go.RowKit Go.ChangeShapes Go.WideShapes Go.ChangeAt Go.Deep Go.Joins
section
variable {H : Type} {enc : TypeId × Value → H} {P : Program} {w : World}
theorem read_dots1 {t e : TypeId} {f0 f1 f2 : Field} {v : Value} {n : Nat} {y : DataW H × List MemPlace} (ht : P.underlying t = some (.slice e)) (he : P.underlying e = some (.struct #[f0, f1, f2])) (hone : oneCellFields P #[f0, f1, f2] = true) (hC : P.cellsOf e = 3)
    (h0 : P.underlying f0.type = some (.int .i64)) (h1 : P.underlying f1.type = some (.int .i64)) (h2 : P.underlying f2.type = some (.int .i64)) (h : DataW.trod enc P w 0 (fun _ => true) true n t [v] = some y) :
    ∃ l, Sl Dot.enc 3 w w.heap.size v l ∧ l.length + 1 ≤ Rows.uptoBulk y.1 := by
  have hv : ∃ A len cap, v = .slice A len cap := by
    rcases open_slice_cells ht he hone hC h with ⟨hcs, _⟩ | ⟨a, len', cap', m, D, r, Pl, hcs, _⟩
    · simp at hcs; exact ⟨_, _, _, hcs⟩
    · simp at hcs; exact ⟨_, _, _, hcs⟩
  obtain ⟨A, len, cap, rfl⟩ := hv
  exact read_dots ht he hone hC h0 h1 h2 ⟨_, _, _, rfl⟩ ⟨n, h⟩
theorem bulk_two {a b : DataW H} : Rows.uptoBulk a ≤ Rows.uptoBulk (.agg [a, b]) ∧ Rows.uptoBulk b ≤ Rows.uptoBulk (.agg [a, b]) := by
  simp only [Rows.uptoBulk, Rows.uptoBulkAll]
  omega
end
end Go.Proofs.Ytjfeeiljinbmjaa
