/- More laws of operations: '==' of bools, of strings. Of no program. -/
import Derived.Test.YtjfeeiljinbmjaaMore
set_option linter.unusedVariables false
set_option linter.unusedSimpArgs false
namespace Go.Fw
open Go.RowKit
section ops
variable {P : Program} {n : Nat} {w0 : World} {K : KL} {L : List Chunk} {b : Bool} {dst : Option Tmp} {ty : TypeId} {pos : String} {aft : Array Edge} {gd : Option (Nat × Bool)}
theorem run_eqB {t : TypeId} {p q : Bool} (ht : P.underlying t = some .bool) (d : Nat) (w : World) : (Op.equalIn (d + 1) t (.bool p) (.bool q)).run P w = .ok (p == q) w := by
  simp [Op.equalIn, run_underlying ht]
theorem ys_eqlB {t t' : TypeId} {x y : Operand} {p q : Bool} (ht : P.underlying t = some .bool) (hx : Ev n b K x (.bool p)) (hy : Ev n b K y (.bool q)) : Yr P ⟨dst, .binOp .eql t x y t', ty, pos, aft, gd⟩ n K w0 L b (.bool (p == q)) := fun a w hb hkn _ => by
  have h := run_eqB (P := P) (p := p) (q := q) ht 9999 w
  simp only [execOp, hx a hb hkn, hy a hb hkn]
  simp only [eqGuard, binOp, Op.equal, Sem.run_bind, Sem.run_pure, Result.andThen_ok]
  have e : Op.maxDepth = 9999 + 1 := rfl
  rw [e]
  generalize 9999 + 1 = D at h
  simp [h]
theorem ys_neqB {t t' : TypeId} {x y : Operand} {p q : Bool} (ht : P.underlying t = some .bool) (hx : Ev n b K x (.bool p)) (hy : Ev n b K y (.bool q)) : Yr P ⟨dst, .binOp .neq t x y t', ty, pos, aft, gd⟩ n K w0 L b (.bool (p != q)) := fun a w hb hkn _ => by
  have h := run_eqB (P := P) (p := p) (q := q) ht 9999 w
  simp only [execOp, hx a hb hkn, hy a hb hkn]
  simp only [eqGuard, binOp, Op.equal, Sem.run_bind, Sem.run_pure, Result.andThen_ok]
  have e : Op.maxDepth = 9999 + 1 := rfl
  rw [e]
  generalize 9999 + 1 = D at h
  simp [h]
  cases p <;> cases q <;> rfl
/-- A test whose answer is known. -/
theorem ys_T {o : Oper} {p : Prop} [Decidable p] (h : p) (hy : Yr P o n K w0 L b (.bool (decide p))) : Yr P o n K w0 L b (.bool true) := Yr.of_imp (fun _ => by rw [decide_eq_true h]) hy
theorem ys_F {o : Oper} {p : Prop} [Decidable p] (h : ¬ p) (hy : Yr P o n K w0 L b (.bool (decide p))) : Yr P o n K w0 L b (.bool false) := Yr.of_imp (fun _ => by rw [decide_eq_false h]) hy
/-- k + 1 less 1. -/
theorem ys_pred {t t' : TypeId} {x y : Operand} {k : Nat} (hx : Ev n b K x (.int .i64 ((k + 1 : Nat) : Int))) (hy : Ev n b K y (.int .i64 1)) (h : (k : Int) ≤ 9223372036854775807) : Yr P ⟨dst, .binOp .sub t x y t', ty, pos, aft, gd⟩ n K w0 L b (.int .i64 (k : Int)) :=
  Yr.of_imp (fun _ => by rw [show (((k + 1 : Nat) : Int) - 1) = (k : Int) by omega]) (ys_subI hx hy (fun _ => by unfold I64; omega))
/-- One of two, where it is known which. -/
theorem ys_pickT {x y z : Operand} {u : Value} (hx : Ev n b K x (.bool true)) (hy : Ev n b K y u) : Yr P ⟨dst, .pick x y z, ty, pos, aft, gd⟩ n K w0 L b u := fun a w hb hk _ => by
  simp [execOp, hx a hb hk, hy a hb hk, asBool]
theorem ys_pickF {x y z : Operand} {u : Value} (hx : Ev n b K x (.bool false)) (hz : Ev n b K z u) : Yr P ⟨dst, .pick x y z, ty, pos, aft, gd⟩ n K w0 L b u := fun a w hb hk _ => by
  simp [execOp, hx a hb hk, hz a hb hk, asBool]
end ops

/-! ### Guards whose answer is known -/
section known
variable {P : Program} {Q : Exit → Act → World → Prop} {n : Nat} {w0 : World} {K : KL} {L Lr : List Chunk} {a : Act} {w : World} {ops : Array Oper} {rest : List Oper} {op : Op} {ty : TypeId} {pos : String} {aft : Array Edge} {v : Value} {d t j i fuel : Nat} {p q : Bool} {listed : Array Bool} {md : Region.Mode} {Z : Act → Prop}
theorem st_yt (S : St n w0 K L a w) (hj : (ops[j]?).bind (·.dst) = some t) (hl : look K t = some (true, .bool p)) (hy : Ys P ⟨some d, op, ty, pos, aft, some (j, p)⟩ n K w0 L true v) (hd : Nat.blt d n = true)
    (next : ∀ a w, St n w0 ((d, true, v) :: K) L a w → wpList P ops Q rest a w) : wpList P ops Q (⟨some d, op, ty, pos, aft, some (j, p)⟩ :: rest) a w :=
  st_mg S hj hl (hy.wp S fun w' hw => next _ _ ⟨S.kn.put hd v, hw⟩)
theorem q_yt (S : Kn n K a) (hj : (ops[j]?).bind (·.dst) = some t) (hl : look K t = some (true, .bool p)) (hy : Ys P ⟨some d, op, ty, pos, aft, some (j, p)⟩ n K w0 L true v) (hd : Nat.blt d n = true)
    (next : ∀ a, Kn n ((d, true, v) :: K) a → wpQuiet P ops (Wd w0 L) Z rest a) : wpQuiet P ops (Wd w0 L) Z (⟨some d, op, ty, pos, aft, some (j, p)⟩ :: rest) a := by
  refine wpQuiet_step fun K' hK => ?_
  have hyd := yielded_of S hj hl
  rw [if_pos (by simp [Region.wanted, hyd])]
  exact ⟨v, fun w hw => hy a w rfl S hw, hK _ (next _ (S.putg hd true v))⟩
theorem q_skip (S : Kn n K a) (hj : (ops[j]?).bind (·.dst) = some t) (hl : look K t = some (true, .bool p)) (hpq : q = !p) (hd : Nat.blt d n = true)
    (next : ∀ a, Kn n ((d, false, undef) :: K) a → wpQuiet P ops (Wd w0 L) Z rest a) : wpQuiet P ops (Wd w0 L) Z (⟨some d, op, ty, pos, aft, some (j, q)⟩ :: rest) a := by
  refine wpQuiet_step fun K' hK => ?_
  have hyd := yielded_of S hj hl
  rw [if_neg (by subst hpq; cases p <;> simp_all [Region.wanted])]
  exact hK _ (next _ (S.putg hd false undef))
/-- .. the guard itself was skipped: so is what hangs on it. -/
theorem st_skip0 (S : St n w0 K L a w) (hj : (ops[j]?).bind (·.dst) = some t) (hl : look K t = some (false, v)) (hd : Nat.blt d n = true)
    (next : ∀ a w, St n w0 ((d, false, undef) :: K) L a w → wpList P ops Q rest a w) : wpList P ops Q (⟨some d, op, ty, pos, aft, some (j, q)⟩ :: rest) a w := by
  have hyd : yielded ops a.tmps j = none := by
    unfold yielded
    rw [hj]
    simp [S.kn.slot t false v hl, undef]
  have h := next (a.put (some d) undef) w ⟨S.kn.putg hd false undef, S.wd⟩
  simp only [wpList, Region.wanted, hyd]
  simpa using h
theorem q_skip0 (S : Kn n K a) (hj : (ops[j]?).bind (·.dst) = some t) (hl : look K t = some (false, v)) (hd : Nat.blt d n = true)
    (next : ∀ a, Kn n ((d, false, undef) :: K) a → wpQuiet P ops (Wd w0 L) Z rest a) : wpQuiet P ops (Wd w0 L) Z (⟨some d, op, ty, pos, aft, some (j, q)⟩ :: rest) a := by
  refine wpQuiet_step fun K' hK => ?_
  have hyd : yielded ops a.tmps j = none := by
    unfold yielded
    rw [hj]
    simp [S.slot t false v hl, undef]
  rw [if_neg (by simp [Region.wanted, hyd])]
  exact hK _ (next _ (S.putg hd false undef))
theorem h_yt (S : St n w0 K L a w) (hsub : Lr.Sublist L) (hi : ops[i]? = some ⟨some d, op, ty, pos, aft, some (j, p)⟩) (hs : Region.noSelect ops = true) (hf : Region.free md ops listed i = true) (hr : (Region.ready md ops listed).contains i = true)
    (hQ : ∀ v c a w, Q (.panic c) (a.put (some d) v) w → Q (.panic c) a w) (hj : (ops[j]?).bind (·.dst) = some t) (hl : look K t = some (true, .bool p)) (hy : Yr P ⟨some d, op, ty, pos, aft, some (j, p)⟩ n K w0 Lr true v) (hd : Nat.blt d n = true)
    (next : ∀ a w, St n w0 ((d, true, v) :: K) L a w → wpAnyH P md ops Q (Wd w0 Lr) fuel (listed.setIfInBounds i true) a w) : wpAnyH P md ops Q (Wd w0 Lr) (fuel + 1) listed a w := by
  have hyd := yielded_of S.kn hj hl
  exact h_take S hsub hi hs hf hr (hQ v) (.inl ⟨by simp [Region.wanted, hyd], fun w hw => hy a w rfl S.kn hw⟩) (next _ _ ⟨S.kn.putg hd true v, S.wd⟩)
theorem h_skip0 (S : St n w0 K L a w) (hsub : Lr.Sublist L) (hi : ops[i]? = some ⟨some d, op, ty, pos, aft, some (j, q)⟩) (hs : Region.noSelect ops = true) (hf : Region.free md ops listed i = true) (hr : (Region.ready md ops listed).contains i = true)
    (hQ : ∀ v c a w, Q (.panic c) (a.put (some d) v) w → Q (.panic c) a w) (hj : (ops[j]?).bind (·.dst) = some t) (hl : look K t = some (false, v)) (hd : Nat.blt d n = true)
    (next : ∀ a w, St n w0 ((d, false, undef) :: K) L a w → wpAnyH P md ops Q (Wd w0 Lr) fuel (listed.setIfInBounds i true) a w) : wpAnyH P md ops Q (Wd w0 Lr) (fuel + 1) listed a w := by
  have hyd : yielded ops a.tmps j = none := by
    unfold yielded
    rw [hj]
    simp [S.kn.slot t false v hl, undef]
  exact h_take S hsub hi hs hf hr (hQ undef) (.inr ⟨by simp [Region.wanted, hyd], rfl⟩) (next _ _ ⟨S.kn.putg hd false undef, S.wd⟩)
end known
end Go.Fw
