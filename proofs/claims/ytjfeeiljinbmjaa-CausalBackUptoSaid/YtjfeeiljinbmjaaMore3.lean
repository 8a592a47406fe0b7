/- More laws of operations: shifts, bits, division; calls of a function that lies in a slot. Of no program. -/
import Derived.Test.YtjfeeiljinbmjaaOwn
import Derived.Test.YtjfeeiljinbmjaaMore2
import Derived.WalkSpells
set_option linter.unusedVariables false
set_option linter.unusedSimpArgs false
namespace Go.Fw
open Go.RowKit
section ops
variable {P : Program} {n : Nat} {w0 : World} {K : KL} {L : List Chunk} {b : Bool} {dst : Option Tmp} {ty : TypeId} {pos : String} {aft : Array Edge} {gd : Option (Nat × Bool)}
theorem ys_shr {t t' : TypeId} {x y : Operand} {k k' : IntKind} {p : Int} {m : Nat} (hx : Ev n b K x (.int k p)) (hy : Ev n b K y (.int k' (m : Int))) (hm : Nat.ble m k.bits = true) : Yr P ⟨dst, .binOp .shr t x y t', ty, pos, aft, gd⟩ n K w0 L b (.int k (p.fdiv (2 ^ m))) := fun a w hb hkn _ => by
  have h := Nat.le_of_ble_eq_true hm
  have h2 : ¬ ((m : Int) < 0) := by omega
  have h3 : min m k.bits = m := by omega
  simp only [execOp, hx a hb hkn, hy a hb hkn]
  simp [eqGuard, binOp, Op.shift, h2, h3]
theorem ys_shl {t t' : TypeId} {x y : Operand} {k k' : IntKind} {p : Int} {m : Nat} (hx : Ev n b K x (.int k p)) (hy : Ev n b K y (.int k' (m : Int))) (hm : Nat.ble m k.bits = true) : Yr P ⟨dst, .binOp .shl t x y t', ty, pos, aft, gd⟩ n K w0 L b (.int k (k.wrap (p * 2 ^ m))) := fun a w hb hkn _ => by
  have h := Nat.le_of_ble_eq_true hm
  have h2 : ¬ ((m : Int) < 0) := by omega
  have h3 : min m k.bits = m := by omega
  simp only [execOp, hx a hb hkn, hy a hb hkn]
  simp [eqGuard, binOp, Op.shift, h2, h3]
theorem ys_quo {t t' : TypeId} {x y : Operand} {k : IntKind} {p q : Int} (hx : Ev n b K x (.int k p)) (hy : Ev n b K y (.int k q)) (h : b = true → q ≠ 0) : Yr P ⟨dst, .binOp .quo t x y t', ty, pos, aft, gd⟩ n K w0 L b (.int k (k.wrap (p.tdiv q))) := fun a w hb hkn _ => by
  have h2 := h hb
  simp only [execOp, hx a hb hkn, hy a hb hkn]
  simp [eqGuard, binOp, Op.intDiv, h2]
theorem ys_rem {t t' : TypeId} {x y : Operand} {k : IntKind} {p q : Int} (hx : Ev n b K x (.int k p)) (hy : Ev n b K y (.int k q)) (h : b = true → q ≠ 0) : Yr P ⟨dst, .binOp .rem t x y t', ty, pos, aft, gd⟩ n K w0 L b (.int k (p.tmod q)) := fun a w hb hkn _ => by
  have h2 := h hb
  simp only [execOp, hx a hb hkn, hy a hb hkn]
  simp [eqGuard, binOp, Op.intDiv, h2]
theorem ys_sNil {t t' e : TypeId} {x y : Operand} {A : Option Addr} {l c l' c' : Nat} (ht : P.underlying t = some (.slice e)) (hx : Ev n b K x (.slice A l c)) (hy : Ev n b K y (.slice none l' c')) : Yr P ⟨dst, .binOp .eql t x y t', ty, pos, aft, gd⟩ n K w0 L b (.bool A.isNone) := fun a w hb hkn _ => by
  have h := Lib.run_eql_slice_nil (P := P) w t e A l c l' c' ht
  simp only [execOp, hx a hb hkn, hy a hb hkn]
  simp [eqGuard, h]
theorem ys_sNot {t t' e : TypeId} {x y : Operand} {A : Option Addr} {l c l' c' : Nat} (ht : P.underlying t = some (.slice e)) (hx : Ev n b K x (.slice A l c)) (hy : Ev n b K y (.slice none l' c')) : Yr P ⟨dst, .binOp .neq t x y t', ty, pos, aft, gd⟩ n K w0 L b (.bool (!A.isNone)) := fun a w hb hkn _ => by
  have h := run_neq_slice_nil_any (P := P) w t e A l c l' c' ht
  simp only [execOp, hx a hb hkn, hy a hb hkn]
  simp [eqGuard, h]
theorem ys_callV {f : FuncId} {x0 : Operand} {xs : List Operand} {ts : Array TypeId} {vs : List Value} {v : Value} (h0 : Ev n b K x0 (.func (.func f) #[] #[])) (hf : ∀ args w, (callFunc f args).run P w = .ok (.enter f args) w) (hx : EvL n b K xs vs)
    (hc : b = true → ∀ w, Wd w0 L w → Calls P f vs.toArray w fun e w' => e = .returned v ∧ Bel w.heap.size w w') : Ys P ⟨dst, .call ⟨.value x0, xs.toArray, ts⟩, ty, pos, aft, gd⟩ n K w0 L b v := fun a w hb hkn hw => by
  have e : (xs.toArray.map a.eval) = vs.toArray := by rw [List.map_toArray, hx a hb hkn]
  have hrun : (execOp a.eval ⟨dst, .call ⟨.value x0, xs.toArray, ts⟩, ty, pos, aft, gd⟩).run P w = .ok (.enter f vs.toArray) w := by
    simp only [execOp, resolve, e, h0 a hb hkn]
    simp [Deferred.ofValue, invoke, hf]
  rw [hrun]
  exact ⟨rfl, (hc hb w hw).mono fun e w' ⟨he, hbe⟩ => ⟨he, hw.step hbe⟩⟩
end ops
section
variable {P : Program} {n : Nat} {w0 : World} {K : KL} {L : List Chunk} {ty : TypeId} {pos : String} {aft : Array Edge} {gd : Option (Nat × Bool)} {a : Act} {w : World} {Z : Act → World → Prop} {Q : Exit → Act → World → Prop} {d : Nat}
/-- An empty slice literal. -/
theorem op_bslice0 {t e sz : Nat} (S : St n w0 K L a w) (ht : P.underlying t = some (.slice e)) (hsz : ∀ w, (sizeOf e).run P w = .ok sz w) (hd : Nat.blt d n = true)
    (next : ∀ g a w, St n w0 ((d, true, .slice (some ⟨g, 0, none⟩) 0 0) :: K) L a w → Z a w) : Oper.wp P ⟨some d, .buildSlice t 0 #[], ty, pos, aft, gd⟩ a w Z Q := by
  refine run_wp (v := .slice (some ⟨w.heap.size, 0, none⟩) 0 0) (w' := w.alloc (.cells #[] e)) ?_ (next _ _ _ ⟨S.kn.put hd _, (S.wd.alloc _).sub (List.sublist_cons_self _ _)⟩)
  have hf := fill_of (places := fun i => some (i * sz, sz)) (parts := []) (zs := []) (us := []) rfl
  simp [execOp, Instr.buildSlice, run_underlying ht, hsz, newRow, Array.range_zero']
  try simp [hf]
end
end Go.Fw
