/- More of the layer: deferred calls; interfaces asked for their types. Of no program. -/
import Derived.Test.YtjfeeiljinbmjaaMore9
import Derived.WideLaws
set_option linter.unusedVariables false
set_option linter.unusedSimpArgs false
namespace Go.Fw
open Go.Proofs Go.RowKit
section
variable {P : Program} {n : Nat} {w0 : World} {K : KL} {L : List Chunk} {ty : TypeId} {pos : String} {aft : Array Edge} {gd : Option (Nat × Bool)} {a : Act} {w : World} {Z : Act → World → Prop} {Q : Exit → Act → World → Prop} {d : Nat} {dst : Option Tmp} {b : Bool}
theorem ys_iNotV {t t' u : TypeId} {x y : Operand} {v : Value} (h : P.underlying t = some (.interface (P.methodsAt t))) (hx : Ev n b K x (.iface u v)) (hy : Ev n b K y .nilIface) : Yr P ⟨dst, .binOp .neq t x y t', ty, pos, aft, gd⟩ n K w0 L b (.bool true) := fun a w hb hk _ => by
  have h1 := run_neq_held_nil w t u v h
  simp only [execOp, hx a hb hk, hy a hb hk]
  simp [eqGuard, h1]
theorem ys_iNotN {t t' : TypeId} {x : Operand} (h : P.underlying t = some (.interface (P.methodsAt t))) (hx : Ev n b K x .nilIface) : Yr P ⟨dst, .binOp .neq t x (.const .nilIface) t', ty, pos, aft, gd⟩ n K w0 L b (.bool false) := fun a w hb hk _ => by
  have h1 := run_neq_nil_nil w t h
  have h2 : a.eval (.const .nilIface) = .nilIface := rfl
  simp only [execOp, hx a hb hk, h2, eqGuard_nil_constR]
  simp [h1]
theorem ys_tassHit {xt t : TypeId} {x : Operand} {v : Value} {k : IntKind} (h : P.underlying t = some (.int k)) (hx : Ev n b K x (.iface t v)) : Yr P ⟨dst, .typeAssert x xt t true, ty, pos, aft, gd⟩ n K w0 L b (.tuple #[v, .bool true]) := fun a w hb hk _ => by
  simp only [execOp, hx a hb hk]
  simp [Instr.typeAssert, run_underlying h]
theorem ys_tassNil {xt t : TypeId} {x : Operand} {z : Value} {k : IntKind} (h : P.underlying t = some (.int k)) (hz : ∀ w, (zeroValue t).run P w = .ok z w) (hx : Ev n b K x .nilIface) : Yr P ⟨dst, .typeAssert x xt t true, ty, pos, aft, gd⟩ n K w0 L b (.tuple #[z, .bool false]) := fun a w hb hk _ => by
  simp only [execOp, hx a hb hk]
  simp [Instr.typeAssert, run_underlying h, hz w]
/-- An operation in a frame that has more deferred calls below. -/
theorem op_dfr {o : Oper} {ds : List Deferred} (h : Oper.wp P o a w (fun a1 w1 => Z { a1 with defers := a1.defers ++ ds } w1) (fun e a1 w1 => Q e { a1 with defers := a1.defers ++ ds } w1)) :
    Oper.wp P o { a with defers := a.defers ++ ds } w Z Q := by
  unfold Oper.wp at h ⊢
  have e : Act.eval { a with defers := a.defers ++ ds } = a.eval := rfl
  rw [e]
  have hp : ∀ (d : Option Tmp) (v : Value), ({ a with defers := a.defers ++ ds } : Act).put d v = { a.put d v with defers := (a.put d v).defers ++ ds } := fun d v => by cases d <;> rfl
  have hp2 : ∀ (d : Option Tmp) (v : Value) (x : Deferred), ({ a with defers := x :: (a.defers ++ ds) } : Act).put d v = { ({ a with defers := x :: a.defers } : Act).put d v with defers := (({ a with defers := x :: a.defers } : Act).put d v).defers ++ ds } := fun d v x => by cases d <;> rfl
  revert h
  generalize (execOp a.eval o).run P w = r
  intro h
  cases r with
  | ok x w' =>
    cases x <;> simp only [Oper.upon] at h ⊢
    case value v => rw [hp]; exact h
    case skip => rw [hp]; exact h
    case defer x => rw [hp2]; exact h
    case enter f args =>
      refine Calls.mono h fun e w'' h' => ?_
      cases e with
      | returned v => simp only at h' ⊢; rw [hp]; exact h'
      | panicked c => exact h'
      | outgrown => obtain ⟨a0, w0, hq⟩ := h'; exact ⟨_, _, hq⟩
    case row row args =>
      refine Rows.mono h fun v w'' h' => ?_
      rw [hp]; exact h'
  | halt x w' =>
    cases x <;> simp only [Oper.upon] at h ⊢
    case panic v => exact h
theorem op_defer {x : Operand} {f : FuncId} {cs : List Value} (S : St n w0 K L a w) (hx : Ev n true K x (.func (.func f) #[] cs.toArray))
    (next : Z { a with defers := a.defers ++ [⟨.fn (.func f) cs.toArray, #[]⟩] } w) : Oper.wp P ⟨none, .defer ⟨.value x, #[], #[]⟩, ty, pos, aft, gd⟩ a w Z Q := by
  have hd := S.kn.defers
  have hrun : (execOp a.eval ⟨none, .defer ⟨.value x, #[], #[]⟩, ty, pos, aft, gd⟩).run P w = .ok (.defer ⟨.fn (.func f) cs.toArray, #[]⟩) w := by
    simp [execOp, resolve, hx a rfl S.kn, Deferred.ofValue]
  unfold Oper.wp
  rw [hrun]
  simp only [Oper.upon]
  rw [hd] at next ⊢
  exact next
end
/-- 'x := recover()' in a deferred call. -/
theorem wpS_recover {P : Program} {Q : Exit → Act → List Frame → World → Prop} {a : Act} {cs cs' : List Frame} {w : World} {n d1 d2 id : Nat} {K : KL} {v : Value} {t1 t2 : TypeId} {p1 p2 : String} {a1 a2 : Array Edge}
    (hk : Kn n K a) (h1 : Nat.blt d1 n = true) (hr : recoverD cs = some (v, cs')) (h : Q .normal ((a.put (some d1) v).put (some d2) v) cs' w) :
    (Code.region id #[⟨some d1, .call ⟨.builtin .recover, #[], #[]⟩, t1, p1, a1, none⟩, ⟨some d2, .assign (.tmp d1), t2, p2, a2, none⟩] false).wpS P Q a cs w := by
  have hz : d1 < a.tmps.size := by rw [hk.size]; simpa [Nat.blt_eq] using h1
  apply wpS_region
  simp [wpOpsS, go_sem, hr, Region.wanted, hz]
  exact h
theorem wpS_recoverN {P : Program} {Q : Exit → Act → List Frame → World → Prop} {a : Act} {cs : List Frame} {w : World} {n d1 d2 id : Nat} {K : KL} {t1 t2 : TypeId} {p1 p2 : String} {a1 a2 : Array Edge}
    (hk : Kn n K a) (h1 : Nat.blt d1 n = true) (hr : recoverD cs = none) (h : Q .normal ((a.put (some d1) .nilIface).put (some d2) .nilIface) cs w) :
    (Code.region id #[⟨some d1, .call ⟨.builtin .recover, #[], #[]⟩, t1, p1, a1, none⟩, ⟨some d2, .assign (.tmp d1), t2, p2, a2, none⟩] false).wpS P Q a cs w := by
  have hz : d1 < a.tmps.size := by rw [hk.size]; simpa [Nat.blt_eq] using h1
  apply wpS_region
  simp [wpOpsS, go_sem, hr, Region.wanted, hz]
  exact h
theorem kn_start {args : List Value} {n m : Nat} (hn : m = n) (hsz : Nat.ble args.length n = true) : Kn n (argsK 0 args) { tmps := args.toArray ++ Array.replicate (m - args.toArray.size) undef, defers := [] } := by
  refine ⟨rfl, ?_, fun i g v hv => ?_⟩
  · have := Nat.le_of_ble_eq_true hsz
    simp [hn]; omega
  · obtain ⟨rfl, _, h1⟩ := argsK_ok args 0 i g v hv
    simp only [Nat.sub_zero] at h1
    have hi : i < args.length := (List.getElem?_eq_some_iff.1 h1).1
    simp [Array.getElem?_append, hi, (List.getElem?_eq_some_iff.1 h1).2]
theorem enterD {P : Program} {f : FuncId} {fn : Func} {c : Code} {args : List Value} {w0 w : World} {L : List Chunk} {R : Ending → World → Prop} (W : Wd w0 L w) (hf : P.funcs[f]? = some fn) (hb : fn.body = some c)
    {n : Nat} (hn : fn.ntmps = n) (hsz : Nat.ble args.length n = true) (h : ∀ a, St n w0 (argsK 0 args) L a w → c.wp P (bodyPostD P fn R) a w) : Calls P f args.toArray w R := by
  refine calls_of_wp_defers hf hb (h _ ⟨⟨rfl, ?_, fun i g v hv => ?_⟩, W⟩)
  · have := Nat.le_of_ble_eq_true hsz
    simp [hn]; omega
  · have h := argsK_ok args 0 i g v hv
    obtain ⟨rfl, _, h1⟩ := h
    simp only [Nat.sub_zero] at h1
    have hi : i < args.length := (List.getElem?_eq_some_iff.1 h1).1
    simp [Array.getElem?_append, hi, (List.getElem?_eq_some_iff.1 h1).2]
end Go.Fw
