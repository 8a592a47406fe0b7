/- More laws of operations: '==' of bools, of strings. Of no program. -/
import Derived.Test.YtjfeeiljinbmjaaMore
set_option linter.unusedVariables false
set_option linter.unusedSimpArgs false
namespace Go.Fw
open Go.RowKit
section ops
variable {P : Program} {n : Nat} {w0 : World} {K : KL} {L : List Chunk} {b : Bool} {dst : Option Tmp} {ty : TypeId} {pos : String} {aft : Array Edge} {gd : Option (Nat × Bool)}
theorem run_eqB {t : TypeId} {p q : Bool} (ht : P.underlying t = some .bool) (d : Nat) (w : World) : (Op.equalIn (d + 1) t (.bool p) (.bool q)).run P w = .ok (p == q) w := by
  simp [Op.equalIn, run_underlying ht]
theorem ys_eqlB {t t' : TypeId} {x y : Operand} {p q : Bool} (ht : P.underlying t = some .bool) (hx : Ev n b K x (.bool p)) (hy : Ev n b K y (.bool q)) : Yr P ⟨dst, .binOp .eql t x y t', ty, pos, aft, gd⟩ n K w0 L b (.bool (p == q)) := fun a w hb hkn _ => by
  have h := run_eqB (P := P) (p := p) (q := q) ht 9999 w
  simp only [execOp, hx a hb hkn, hy a hb hkn]
  simp only [eqGuard, binOp, Op.equal, Sem.run_bind, Sem.run_pure, Result.andThen_ok]
  have e : Op.maxDepth = 9999 + 1 := rfl
  rw [e]
  generalize 9999 + 1 = D at h
  simp [h]
theorem ys_neqB {t t' : TypeId} {x y : Operand} {p q : Bool} (ht : P.underlying t = some .bool) (hx : Ev n b K x (.bool p)) (hy : Ev n b K y (.bool q)) : Yr P ⟨dst, .binOp .neq t x y t', ty, pos, aft, gd⟩ n K w0 L b (.bool (p != q)) := fun a w hb hkn _ => by
  have h := run_eqB (P := P) (p := p) (q := q) ht 9999 w
  simp only [execOp, hx a hb hkn, hy a hb hkn]
  simp only [eqGuard, binOp, Op.equal, Sem.run_bind, Sem.run_pure, Result.andThen_ok]
  have e : Op.maxDepth = 9999 + 1 := rfl
  rw [e]
  generalize 9999 + 1 = D at h
  simp [h]
  cases p <;> cases q <;> rfl
end ops
end Go.Fw
