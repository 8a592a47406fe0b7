/- More of the layer: closures that captured variables. -/
import Derived.Test.YtjfeeiljinbmjaaMore5
import Derived.Test.YtjfeeiljinbmjaaOwn
set_option linter.unusedVariables false
set_option linter.unusedSimpArgs false
namespace Go.Fw
open Go.Proofs Go.RowKit
section
variable {P : Program} {n : Nat} {w0 : World} {K : KL} {L : List Chunk} {ty : TypeId} {pos : String} {aft : Array Edge} {gd : Option (Nat × Bool)} {dst : Option Tmp} {b : Bool}
theorem ys_mkFunc {f : Fn} {cs : List Operand} {vs : List Value} (hx : EvL n b K cs vs) : Yr P ⟨dst, .makeFunc f #[] cs.toArray, ty, pos, aft, gd⟩ n K w0 L b (.func f #[] vs.toArray) := fun a w hb hk _ => by
  have e : (cs.toArray.map a.eval) = vs.toArray := by rw [List.map_toArray, hx a hb hk]
  simp only [execOp, e]
  simp [Instr.makeFunc]
end
section
variable {P : Program} {n : Nat} {w0 : World} {K : KL} {L : List Chunk} {ty : TypeId} {pos : String} {aft : Array Edge} {gd : Option (Nat × Bool)} {a : Act} {w : World} {Z : Act → World → Prop} {Q : Exit → Act → World → Prop} {d : Nat}
/-- A call of a closure that lies in a slot, and knows of the caller's chunks. -/
theorem op_callVO {f : FuncId} {x0 : Operand} {xs : List Operand} {ts : Array TypeId} {vs cs : List Value} {R : Value → List Chunk → Prop} (S : St n w0 K L a w) (h0 : Ev n true K x0 (.func (.func f) #[] cs.toArray)) (hf : ∀ args w, (callFunc f args).run P w = .ok (.enter f args) w) (hx : EvL n true K xs vs)
    (hc : RetsO P f (vs ++ cs).toArray w0 w R) (hd : Nat.blt d n = true) (next : ∀ v L', R v L' → ∀ a w', St n w0 ((d, true, v) :: K) L' a w' → Z a w') : Oper.wp P ⟨some d, .call ⟨.value x0, xs.toArray, ts⟩, ty, pos, aft, gd⟩ a w Z Q := by
  have e : (xs.toArray.map a.eval) = vs.toArray := by rw [List.map_toArray, hx a rfl S.kn]
  have hrun : (execOp a.eval ⟨some d, .call ⟨.value x0, xs.toArray, ts⟩, ty, pos, aft, gd⟩).run P w = .ok (.enter f (vs ++ cs).toArray) w := by
    simp only [execOp, resolve, e, h0 a rfl S.kn]
    simp [Deferred.ofValue, invoke, hf]
  unfold Oper.wp
  rw [hrun]
  exact Calls.mono hc fun e w' ⟨v, L', he, hw, hr⟩ => by
    subst he
    exact next v L' hr _ _ ⟨S.kn.put hd v, hw⟩
end
end Go.Fw
