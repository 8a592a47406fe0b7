/- More of the layer: calls that panic; interfaces. -/
import Derived.Test.YtjfeeiljinbmjaaMore7
import Derived.Laws.Pointers
set_option linter.unusedVariables false
set_option linter.unusedSimpArgs false
namespace Go.Fw
open Go.Proofs Go.RowKit
section
variable {P : Program} {n : Nat} {w0 : World} {K : KL} {L : List Chunk} {ty : TypeId} {pos : String} {aft : Array Edge} {gd : Option (Nat × Bool)} {a : Act} {w : World} {Z : Act → World → Prop} {Q : Exit → Act → World → Prop} {d : Nat} {dst : Option Tmp} {b : Bool}
theorem ys_iface {t : TypeId} {x : Operand} {k k' : IntKind} {p : Int} (ht : P.underlying t = some (.int k')) (hx : Ev n b K x (.int k p)) : Yr P ⟨dst, .makeInterface t x, ty, pos, aft, gd⟩ n K w0 L b (.iface t (.int k p)) := fun a w hb hk _ => by
  simp only [execOp, hx a hb hk]
  simp [Instr.makeInterface, run_underlying ht]
theorem ys_nilc {x : Operand} {A : Addr} (hx : Ev n b K x (.pointer (some A))) : Yr P ⟨dst, .nilCheck x, ty, pos, aft, gd⟩ n K w0 L b (.pointer (some A)) := fun a w hb hk _ => by
  simp [execOp, hx a hb hk]
theorem ys_pNil {t t' e : TypeId} {x y : Operand} {A : Option Addr} (ht : P.underlying t = some (.pointer e)) (hx : Ev n b K x (.pointer A)) (hy : Ev n b K y (.pointer none)) : Yr P ⟨dst, .binOp .eql t x y t', ty, pos, aft, gd⟩ n K w0 L b (.bool A.isNone) := fun a w hb hkn _ => by
  have h := run_eql_pointer_nil (P := P) w t A (by unfold Program.pointee; rw [ht])
  simp only [execOp, hx a hb hkn, hy a hb hkn]
  simp [eqGuard, h]
theorem ys_pNot {t t' e : TypeId} {x y : Operand} {A : Option Addr} (ht : P.underlying t = some (.pointer e)) (hx : Ev n b K x (.pointer A)) (hy : Ev n b K y (.pointer none)) : Yr P ⟨dst, .binOp .neq t x y t', ty, pos, aft, gd⟩ n K w0 L b (.bool (!A.isNone)) := fun a w hb hkn _ => by
  have h := run_neq_pointer_nil (P := P) w t A (by unfold Program.pointee; rw [ht])
  simp only [execOp, hx a hb hkn, hy a hb hkn]
  simp [eqGuard, h]
/-- A call that may panic. -/
theorem op_callP {f : FuncId} {xs : List Operand} {ts : Array TypeId} {vs : List Value} {R : Ending → World → Prop} (S : St n w0 K L a w) (hf : ∀ args w, (callFunc f args).run P w = .ok (.enter f args) w) (hx : EvL n true K xs vs)
    (hc : Calls P f vs.toArray w R) (next : ∀ e w', R e w' → (∃ v, e = .returned v ∧ Z (a.put dst v) w') ∨ (∃ ps, e = .panicked ps ∧ Q (.panic ps) a w')) : Oper.wp P ⟨dst, .call ⟨.value (.func f), xs.toArray, ts⟩, ty, pos, aft, gd⟩ a w Z Q := by
  have e : (xs.toArray.map a.eval) = vs.toArray := by rw [List.map_toArray, hx a rfl S.kn]
  have hrun : (execOp a.eval ⟨dst, .call ⟨.value (.func f), xs.toArray, ts⟩, ty, pos, aft, gd⟩).run P w = .ok (.enter f vs.toArray) w := by
    simp only [execOp, resolve, e]
    simp [Act.eval, Deferred.ofValue, invoke, hf]
  unfold Oper.wp
  rw [hrun]
  exact hc.mono fun e w' h => by
    rcases next e w' h with ⟨v, rfl, hz⟩ | ⟨ps, rfl, hq⟩
    · exact hz
    · exact hq
theorem op_callPV {f : FuncId} {x0 : Operand} {xs : List Operand} {ts : Array TypeId} {vs cs : List Value} {R : Ending → World → Prop} (S : St n w0 K L a w) (h0 : Ev n true K x0 (.func (.func f) #[] cs.toArray)) (hf : ∀ args w, (callFunc f args).run P w = .ok (.enter f args) w) (hx : EvL n true K xs vs)
    (hc : Calls P f (vs ++ cs).toArray w R) (next : ∀ e w', R e w' → (∃ v, e = .returned v ∧ Z (a.put dst v) w') ∨ (∃ ps, e = .panicked ps ∧ Q (.panic ps) a w')) : Oper.wp P ⟨dst, .call ⟨.value x0, xs.toArray, ts⟩, ty, pos, aft, gd⟩ a w Z Q := by
  have e : (xs.toArray.map a.eval) = vs.toArray := by rw [List.map_toArray, hx a rfl S.kn]
  have hrun : (execOp a.eval ⟨dst, .call ⟨.value x0, xs.toArray, ts⟩, ty, pos, aft, gd⟩).run P w = .ok (.enter f (vs ++ cs).toArray) w := by
    simp only [execOp, resolve, e, h0 a rfl S.kn]
    simp [Deferred.ofValue, invoke, hf]
  unfold Oper.wp
  rw [hrun]
  exact hc.mono fun e w' h => by
    rcases next e w' h with ⟨v, rfl, hz⟩ | ⟨ps, rfl, hq⟩
    · exact hz
    · exact hq
theorem op_panic {t : TypeId} {x : Operand} {v : Value} (S : St n w0 K L a w) (hx : Ev n true K x (.iface t v)) (h : Q (.panic [{ v := .iface t v, recovered := false }]) a w) : Oper.wp P ⟨none, .panic x, ty, pos, aft, gd⟩ a w Z Q := by
  unfold Oper.wp
  simp only [execOp, hx a rfl S.kn]
  exact h
theorem post_panic {fn : Func} {R : Ending → World → Prop} {ps : List PanicEntry} (S : St n w0 K L a w) (h : R (.panicked ps) w) : bodyPost P fn R (.panic ps) a w := ⟨S.kn.defers, h⟩
end
end Go.Fw
