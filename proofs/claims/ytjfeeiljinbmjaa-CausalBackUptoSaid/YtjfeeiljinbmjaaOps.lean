/- One law an operation, in the words of the first text. -/
import Derived.Test.YtjfeeiljinbmjaaFw
set_option linter.unusedVariables false
set_option linter.unusedSimpArgs false
namespace Go.Fw
open Go.RowKit

def I64 (x : Int) : Prop := -9223372036854775808 ≤ x ∧ x ≤ 9223372036854775807
theorem wrap_i64 {x : Int} (h : I64 x) : IntKind.i64.wrap x = x := by
  obtain ⟨h1, h2⟩ := h
  rw [IntKind.wrap_i64]; omega

section ops
variable {P : Program} {n : Nat} {w0 : World} {K : KL} {L : List Chunk} {b : Bool} {dst : Option Tmp} {ty : TypeId} {pos : String} {aft : Array Edge} {gd : Option (Nat × Bool)}

theorem ys_move {x : Operand} {v : Value} (hx : Ev n b K x v) : Yr P ⟨dst, .move x, ty, pos, aft, gd⟩ n K w0 L b v := fun a w hb hk _ => by
  simp [execOp, hx a hb hk]
theorem ys_assign {x : Operand} {v : Value} (hx : Ev n b K x v) : Yr P ⟨dst, .assign x, ty, pos, aft, gd⟩ n K w0 L b v := fun a w hb hk _ => by
  simp [execOp, hx a hb hk]

/-- 'p && q' -/
theorem ys_and {x y z : Operand} {p q : Bool} (hx : Ev n b K x (.bool p)) (hy : Ev n p K y (.bool q)) (hz : Ev n b K z (.bool false)) : Yr P ⟨dst, .pick x y z, ty, pos, aft, gd⟩ n K w0 L b (.bool (p && q)) := fun a w hb hk _ => by
  simp only [execOp, hx a hb hk, hz a hb hk]
  cases p with
  | true => simp [asBool, hy a rfl hk]
  | false => simp [asBool]
/-- 'p || q' -/
theorem ys_or {x y z : Operand} {p q : Bool} (hx : Ev n b K x (.bool p)) (hy : Ev n b K y (.bool true)) (hz : Ev n (!p) K z (.bool q)) : Yr P ⟨dst, .pick x y z, ty, pos, aft, gd⟩ n K w0 L b (.bool (p || q)) := fun a w hb hk _ => by
  simp only [execOp, hx a hb hk, hy a hb hk]
  cases p with
  | false => simp [asBool, hz a rfl hk]
  | true => simp [asBool]
theorem ys_and2 {x y z : Operand} {p q : Bool} (hx : Ev n b K x (.bool p)) (hy : Ev n (b && p) K y (.bool q)) (hz : Ev n b K z (.bool false)) : Yr P ⟨dst, .pick x y z, ty, pos, aft, gd⟩ n K w0 L b (.bool (p && q)) := fun a w hb hk _ => by
  simp only [execOp, hx a hb hk, hz a hb hk]
  cases p with
  | true => simp [asBool, hy a (by simp [hb]) hk]
  | false => simp [asBool]
theorem ys_or2 {x y z : Operand} {p q : Bool} (hx : Ev n b K x (.bool p)) (hy : Ev n b K y (.bool true)) (hz : Ev n (b && !p) K z (.bool q)) : Yr P ⟨dst, .pick x y z, ty, pos, aft, gd⟩ n K w0 L b (.bool (p || q)) := fun a w hb hk _ => by
  simp only [execOp, hx a hb hk, hy a hb hk]
  cases p with
  | false => simp [asBool, hz a (by simp [hb]) hk]
  | true => simp [asBool]
theorem ys_max {t t' : TypeId} {x y : Operand} {k : IntKind} {p q : Int} (hx : Ev n b K x (.int k p)) (hy : Ev n b K y (.int k q)) : Yr P ⟨dst, .call ⟨.builtin .max, #[x, y], #[t, t']⟩, ty, pos, aft, gd⟩ n K w0 L b (.int k (max p q)) := fun a w hb hkn _ => by
  have e : (if p < q then q else p) = max p q := by omega
  simp [execOp, resolve, invoke, builtin, Builtin.max_, Builtin.max2, hx a hb hkn, hy a hb hkn, e]
theorem ys_min {t t' : TypeId} {x y : Operand} {k : IntKind} {p q : Int} (hx : Ev n b K x (.int k p)) (hy : Ev n b K y (.int k q)) : Yr P ⟨dst, .call ⟨.builtin .min, #[x, y], #[t, t']⟩, ty, pos, aft, gd⟩ n K w0 L b (.int k (min p q)) := fun a w hb hkn _ => by
  have e : (if q < p then q else p) = min p q := by omega
  simp [execOp, resolve, invoke, builtin, Builtin.min_, Builtin.min2, hx a hb hkn, hy a hb hkn, e]
theorem ys_pick {x y z : Operand} {p : Bool} {u v : Value} (hx : Ev n b K x (.bool p)) (hy : Ev n b K y u) (hz : Ev n b K z v) : Yr P ⟨dst, .pick x y z, ty, pos, aft, gd⟩ n K w0 L b (bif p then u else v) := fun a w hb hk _ => by
  simp only [execOp, hx a hb hk, hy a hb hk, hz a hb hk]
  cases p <;> simp [asBool]

/-! ### types -/
/-- A type of one cell. -/
def One (P : Program) (t : TypeId) : Prop := (∀ w, (isAgg t).run P w = .ok false w) ∧ ∀ w, (sizeOf t).run P w = .ok 1 w
/-- A type of k cells, a struct's or an array's. -/
def Many (P : Program) (t : TypeId) (k : Nat) : Prop := (∀ w, (isAgg t).run P w = .ok true w) ∧ ∀ w, (sizeOf t).run P w = .ok k w
def Size (P : Program) (t : TypeId) (k : Nat) : Prop := ∀ w, (sizeOf t).run P w = .ok k w

/-- The i-th cell; k cells from i on. By recursion, so that a written-out list gives the cell itself. -/
def nth : List Value → Nat → Option Value
  | [], _ => none
  | v :: _, 0 => some v
  | _ :: r, i + 1 => nth r i
theorem nth_eq : ∀ (cs : List Value) (i : Nat), nth cs i = cs[i]?
  | [], i => by simp [nth]
  | v :: r, 0 => by simp [nth]
  | v :: r, i + 1 => by simp [nth, nth_eq r i]
def upto : List Value → Nat → Option (List Value)
  | _, 0 => some []
  | [], _ + 1 => none
  | v :: r, k + 1 => match upto r k with
    | some l => some (v :: l)
    | none => none
def cellsAt : List Value → Nat → Nat → Option (List Value)
  | cs, 0, k => upto cs k
  | [], _ + 1, _ => none
  | _ :: r, i + 1, k => cellsAt r i k

theorem upto_eq : ∀ {cs : List Value} {k : Nat} {vs : List Value}, upto cs k = some vs → vs.length = k ∧ vs = cs.take k
  | cs, 0, vs, h => by cases cs <;> simp [upto] at h <;> simp [h]
  | [], k + 1, vs, h => by simp [upto] at h
  | v :: r, k + 1, vs, h => by
    unfold upto at h
    split at h
    · rename_i l hl
      obtain ⟨h1, h2⟩ := upto_eq hl
      simp only [Option.some.injEq] at h
      subst h
      exact ⟨by simp [h1], by simp [← h2]⟩
    · cases h
theorem cellsAt_eq : ∀ {cs : List Value} {i k : Nat} {vs : List Value}, cellsAt cs i k = some vs → vs.length = k ∧ vs = (cs.drop i).take k
  | cs, 0, k, vs, h => by cases cs <;> exact upto_eq h
  | [], i + 1, k, vs, h => by simp [cellsAt] at h
  | v :: r, i + 1, k, vs, h => by simpa using cellsAt_eq (cs := r) (i := i) h
theorem cellsAt_len {cs : List Value} {k i : Nat} {vs : List Value} (h : cellsAt cs i k = some vs) : vs.length = k := (cellsAt_eq h).1
theorem cellsAt_get {cs : List Value} {k i : Nat} {vs : List Value} (h : cellsAt cs i k = some vs) (j : Nat) (u : Value) (hj : vs[j]? = some u) : cs[i + j]? = some u := by
  rw [(cellsAt_eq h).2, List.getElem?_take] at hj
  split at hj
  · rwa [List.getElem?_drop] at hj
  · cases hj

theorem run_load_one {t : TypeId} (h1 : One P t) {w : World} {ad : Addr} {v : Value} (hc : w.cell? ad = some v) : (loadVar t ad).run P w = .ok v w := by
  simp [loadVar, Sem.run_bind, h1.1, run_load, hc]
theorem run_load_many {t : TypeId} {k : Nat} (h1 : Many P t k) {w : World} {ad : Addr} {vs : List Value} (hl : vs.length = k) (hc : ∀ j u, vs[j]? = some u → w.cell? (ad.add j) = some u) :
    (loadVar t ad).run P w = .ok (.agg vs.toArray) w := by
  have h := run_loadCells_list (P := P) w ad vs hc
  rw [hl] at h
  simp [loadVar, Sem.run_bind, h1.1, h1.2, h]

/-- Loads out of a block of the call's own. -/
theorem ys_ld {t : TypeId} {x : Operand} {g i k : Nat} {cs : List Value} {e : TypeId} {fr : Nat × Nat} {v : Value} (h1 : One P t) (hx : Ev n b K x (.pointer (some ⟨g, i, none⟩)))
    (hk : L[k]? = some (.blk g (.cells cs.toArray e fr))) (hc : nth cs i = some v) : Yr P ⟨dst, .load t x, ty, pos, aft, gd⟩ n K w0 L b v := fun a w hb hkn hw => by
  have hg := (hw.get hk).2
  simp [execOp, hx a hb hkn, Instr.loadAt, Instr.sureAddr, run_load_one h1 (ad := ⟨g, i, none⟩) ((cell_of_row w g i _ e fr hg).trans (by rw [nth_eq] at hc; simpa using hc))]
theorem ys_ldA {t : TypeId} {m : Nat} {x : Operand} {g i k : Nat} {cs : List Value} {e : TypeId} {fr : Nat × Nat} {vs : List Value} (h1 : Many P t m) (hx : Ev n b K x (.pointer (some ⟨g, i, none⟩)))
    (hk : L[k]? = some (.blk g (.cells cs.toArray e fr))) (hc : cellsAt cs i m = some vs) : Yr P ⟨dst, .load t x, ty, pos, aft, gd⟩ n K w0 L b (.agg vs.toArray) := fun a w hb hkn hw => by
  have hg := (hw.get hk).2
  have h := run_load_many (P := P) (ad := ⟨g, i, none⟩) h1 (cellsAt_len hc) (w := w) (fun j u hj => by
    rw [Addr.add_mid, cell_of_row w g (i + j) _ e fr hg]; simpa using cellsAt_get hc j u hj)
  simp [execOp, hx a hb hkn, Instr.loadAt, Instr.sureAddr, h]
/-- Loads out of memory that was there before the call. -/
theorem ys_ldO {t : TypeId} {x : Operand} {ad : Addr} {v : Value} (h1 : One P t) (hx : Ev n b K x (.pointer (some ad))) (hc : b = true → w0.cell? ad = some v) : Yr P ⟨dst, .load t x, ty, pos, aft, gd⟩ n K w0 L b v := fun a w hb hkn hw => by
  have hc' := hc hb
  have h := (hw.below.cell (World.block_lt_of_cell? w0 ad hc')).trans hc'
  simp [execOp, hx a hb hkn, Instr.loadAt, Instr.sureAddr, run_load_one h1 h]
theorem ys_ldOA {t : TypeId} {m : Nat} {x : Operand} {g o : Nat} {vs : List Value} (h1 : Many P t m) (hx : Ev n b K x (.pointer (some ⟨g, o, none⟩))) (hl : vs.length = m)
    (hc : b = true → ∀ j u, vs[j]? = some u → w0.cell? ⟨g, o + j, none⟩ = some u) : Yr P ⟨dst, .load t x, ty, pos, aft, gd⟩ n K w0 L b (.agg vs.toArray) := fun a w hb hkn hw => by
  have h := run_load_many (P := P) (ad := ⟨g, o, none⟩) h1 hl (w := w) (fun j u hj => by
    have hc' := hc hb j u hj
    rw [Addr.add_mid]
    exact (hw.below.cell (World.block_lt_of_cell? w0 _ hc')).trans hc')
  simp [execOp, hx a hb hkn, Instr.loadAt, Instr.sureAddr, h]
/-- Loads out of a row that a slice owns. -/
theorem Owns.cell {w : World} {B e size n cap g : Nat} {xs : List Value} (h : Owns w B e size (some ⟨g, 0, none⟩) n cap xs) {j : Nat} {u : Value} (hj : xs[j]? = some u) : w.cell? ⟨g, j, none⟩ = some u := by
  rcases h.2 with ⟨h0, _⟩ | ⟨g', cur, hA, _, _, hg, _, _, _, ht⟩
  · have h1 := h.1
    rw [h0] at h1
    have : xs = [] := List.eq_nil_of_length_eq_zero (by simpa using h1)
    subst this; simp at hj
  · simp only [Option.some.injEq, Addr.mk.injEq] at hA
    obtain ⟨rfl, _, _⟩ := hA
    rw [cell_of_row w _ j cur e (0, 0) hg]
    rw [← ht, List.getElem?_take] at hj
    split at hj
    · simpa using hj
    · cases hj
theorem ys_ldR {t : TypeId} {x : Operand} {g i k sz m cap : Nat} {xs : List Value} {e : TypeId} {v : Value} (h1 : One P t) (hx : Ev n b K x (.pointer (some ⟨g, i, none⟩)))
    (hk : L[k]? = some (.row e sz (some ⟨g, 0, none⟩) m cap xs)) (hc : b = true → xs[i]? = some v) : Yr P ⟨dst, .load t x, ty, pos, aft, gd⟩ n K w0 L b v := fun a w hb hkn hw => by
  simp [execOp, hx a hb hkn, Instr.loadAt, Instr.sureAddr, run_load_one h1 (Owns.cell (hw.get hk) (hc hb))]
theorem ys_ldRA {t : TypeId} {x : Operand} {g i k sz m cap q : Nat} {xs : List Value} {e : TypeId} {vs : List Value} (h1 : Many P t q) (hx : Ev n b K x (.pointer (some ⟨g, i, none⟩)))
    (hk : L[k]? = some (.row e sz (some ⟨g, 0, none⟩) m cap xs)) (hl : vs.length = q) (hc : b = true → ∀ j u, vs[j]? = some u → xs[i + j]? = some u) :
    Yr P ⟨dst, .load t x, ty, pos, aft, gd⟩ n K w0 L b (.agg vs.toArray) := fun a w hb hkn hw => by
  have h := run_load_many (P := P) (ad := ⟨g, i, none⟩) h1 hl (w := w) (fun j u hj => by
    rw [Addr.add_mid]; exact Owns.cell (hw.get hk) (hc hb j u hj))
  simp [execOp, hx a hb hkn, Instr.loadAt, Instr.sureAddr, h]

/-- Field f of the struct s begins o cells behind its start. -/
def FieldT (P : Program) (s : TypeId) (f o : Nat) : Prop := ∀ w ad, (Instr.fieldAt s (.pointer (some ad)) f).run P w = .ok (.pointer (some (ad.add o))) w
theorem FieldT.mk {s f : Nat} {fs : Array Field} {nm : String} {tt o : Nat} {em : Bool} {tg pp : String} {bo : Nat} {m : Nat} (hu : P.underlying s = some (.struct fs)) (hf : fs[f]? = some ⟨nm, tt, o, em, tg, pp, bo⟩) (hz : ∀ w, (sizeOf tt).run P w = .ok m w) (hm : Nat.blt 0 m = true) : FieldT P s f o := fun w ad => by
  have hm' : m ≠ 0 := by have := Nat.le_of_ble_eq_true hm; omega
  simp [Instr.fieldAt, run_underlying hu, hf, Instr.sureAddr, fieldPlace, hz, hm']
theorem ys_field {s f o : Nat} {x : Operand} {g i : Nat} (h1 : FieldT P s f o) (hx : Ev n b K x (.pointer (some ⟨g, i, none⟩))) : Yr P ⟨dst, .fieldAddr s x f, ty, pos, aft, gd⟩ n K w0 L b (.pointer (some ⟨g, i + o, none⟩)) := fun a w hb hkn _ => by
  have h := h1 w ⟨g, i, none⟩
  rw [Addr.add_mid] at h
  simp [execOp, hx a hb hkn, h]

theorem ys_fieldN {s f o : Nat} {x : Operand} {g i i' : Nat} (h1 : FieldT P s f o) (hx : Ev n b K x (.pointer (some ⟨g, i, none⟩))) (hi : i + o = i') : Yr P ⟨dst, .fieldAddr s x f, ty, pos, aft, gd⟩ n K w0 L b (.pointer (some ⟨g, i', none⟩)) := hi ▸ ys_field h1 hx
def SliceT (P : Program) (t e : TypeId) : Prop := P.underlying t = some (.slice e)
def ArrayT (P : Program) (t : TypeId) (m : Nat) (e : TypeId) : Prop := P.underlying t = some (.array m e)

theorem ys_ixS {t e sz : Nat} {x y : Operand} {g o len cap j : Nat} {ik : IntKind} (h1 : SliceT P t e) (h2 : Size P e sz) (hx : Ev n b K x (.slice (some ⟨g, o, none⟩) len cap)) (hy : Ev n b K y (.int ik (j : Int))) (h : b = true → j < len) :
    Yr P ⟨dst, .indexAddr t x y, ty, pos, aft, gd⟩ n K w0 L b (.pointer (some ⟨g, o + j * sz, none⟩)) := fun a w hb hkn _ => by
  have h' := h hb
  simp [execOp, hx a hb hkn, hy a hb hkn, Instr.indexAt, run_underlying h1, asIntOf, h2 w, Addr.add_mid]
  intro h4; omega
/-- .. at whatever int. -/
theorem ys_ixSI {t e sz : Nat} {x y : Operand} {g o len cap : Nat} {ik : IntKind} {k : Int} (h1 : SliceT P t e) (h2 : Size P e sz) (hx : Ev n b K x (.slice (some ⟨g, o, none⟩) len cap)) (hy : Ev n b K y (.int ik k)) (h : b = true → 0 ≤ k ∧ k < len) :
    Yr P ⟨dst, .indexAddr t x y, ty, pos, aft, gd⟩ n K w0 L b (.pointer (some ⟨g, o + k.toNat * sz, none⟩)) := fun a w hb hkn _ => by
  obtain ⟨h3, h4⟩ := h hb
  simp [execOp, hx a hb hkn, hy a hb hkn, Instr.indexAt, run_underlying h1, asIntOf, h2 w, h3, h4, Addr.add_mid]
theorem ys_ixA {t e m sz : Nat} {x y : Operand} {g o j : Nat} {ik : IntKind} (h1 : ArrayT P t m e) (h2 : Size P e sz) (hx : Ev n b K x (.pointer (some ⟨g, o, none⟩))) (hy : Ev n b K y (.int ik (j : Int))) (h : b = true → j < m) :
    Yr P ⟨dst, .indexAddr t x y, ty, pos, aft, gd⟩ n K w0 L b (.pointer (some ⟨g, o + j * sz, none⟩)) := fun a w hb hkn _ => by
  have h' := h hb
  simp [execOp, hx a hb hkn, hy a hb hkn, Instr.indexAt, run_underlying h1, asIntOf, h2 w, Addr.add_mid, Instr.sureAddr]
  intro h4; omega

/-! ### numbers -/
theorem ys_add {t t' : TypeId} {x y : Operand} {k : IntKind} {p q : Int} (hx : Ev n b K x (.int k p)) (hy : Ev n b K y (.int k q)) : Yr P ⟨dst, .binOp .add t x y t', ty, pos, aft, gd⟩ n K w0 L b (.int k (k.wrap (p + q))) := fun a w hb hkn _ => by
  simp only [execOp, hx a hb hkn, hy a hb hkn]
  simp [eqGuard, binOp, Op.intArith]
theorem ys_sub {t t' : TypeId} {x y : Operand} {k : IntKind} {p q : Int} (hx : Ev n b K x (.int k p)) (hy : Ev n b K y (.int k q)) : Yr P ⟨dst, .binOp .sub t x y t', ty, pos, aft, gd⟩ n K w0 L b (.int k (k.wrap (p - q))) := fun a w hb hkn _ => by
  simp only [execOp, hx a hb hkn, hy a hb hkn]
  simp [eqGuard, binOp, Op.intArith]
theorem ys_mul {t t' : TypeId} {x y : Operand} {k : IntKind} {p q : Int} (hx : Ev n b K x (.int k p)) (hy : Ev n b K y (.int k q)) : Yr P ⟨dst, .binOp .mul t x y t', ty, pos, aft, gd⟩ n K w0 L b (.int k (k.wrap (p * q))) := fun a w hb hkn _ => by
  simp only [execOp, hx a hb hkn, hy a hb hkn]
  simp [eqGuard, binOp, Op.intArith]
theorem Yr.of_imp {o : Oper} {v u : Value} (h : b = true → v = u) (hy : Yr P o n K w0 L b v) : Yr P o n K w0 L b u := fun a w hb hk hw => by
  rw [← h hb]; exact hy a w hb hk hw
theorem ys_addI {t t' : TypeId} {x y : Operand} {p q : Int} (hx : Ev n b K x (.int .i64 p)) (hy : Ev n b K y (.int .i64 q)) (h : b = true → I64 (p + q)) : Yr P ⟨dst, .binOp .add t x y t', ty, pos, aft, gd⟩ n K w0 L b (.int .i64 (p + q)) :=
  Yr.of_imp (fun hb => by rw [wrap_i64 (h hb)]) (ys_add hx hy)
theorem ys_subI {t t' : TypeId} {x y : Operand} {p q : Int} (hx : Ev n b K x (.int .i64 p)) (hy : Ev n b K y (.int .i64 q)) (h : b = true → I64 (p - q)) : Yr P ⟨dst, .binOp .sub t x y t', ty, pos, aft, gd⟩ n K w0 L b (.int .i64 (p - q)) :=
  Yr.of_imp (fun hb => by rw [wrap_i64 (h hb)]) (ys_sub hx hy)
theorem ys_mulI {t t' : TypeId} {x y : Operand} {p q : Int} (hx : Ev n b K x (.int .i64 p)) (hy : Ev n b K y (.int .i64 q)) (h : b = true → I64 (p * q)) : Yr P ⟨dst, .binOp .mul t x y t', ty, pos, aft, gd⟩ n K w0 L b (.int .i64 (p * q)) :=
  Yr.of_imp (fun hb => by rw [wrap_i64 (h hb)]) (ys_mul hx hy)

section cmp
variable {t t' : TypeId} {x y : Operand} {k : IntKind} {p q : Int} (hx : Ev n b K x (.int k p)) (hy : Ev n b K y (.int k q))
include hx hy
theorem ys_lss : Yr P ⟨dst, .binOp .lss t x y t', ty, pos, aft, gd⟩ n K w0 L b (.bool (decide (p < q))) := fun a w hb hkn _ => by
  simp only [execOp, hx a hb hkn, hy a hb hkn]
  simp [eqGuard, binOp, Op.intCmp]
theorem ys_leq : Yr P ⟨dst, .binOp .leq t x y t', ty, pos, aft, gd⟩ n K w0 L b (.bool (decide (p ≤ q))) := fun a w hb hkn _ => by
  simp only [execOp, hx a hb hkn, hy a hb hkn]
  simp [eqGuard, binOp, Op.intCmp]
theorem ys_gtr : Yr P ⟨dst, .binOp .gtr t x y t', ty, pos, aft, gd⟩ n K w0 L b (.bool (decide (q < p))) := fun a w hb hkn _ => by
  simp only [execOp, hx a hb hkn, hy a hb hkn]
  simp [eqGuard, binOp, Op.intCmp]
theorem ys_geq : Yr P ⟨dst, .binOp .geq t x y t', ty, pos, aft, gd⟩ n K w0 L b (.bool (decide (q ≤ p))) := fun a w hb hkn _ => by
  simp only [execOp, hx a hb hkn, hy a hb hkn]
  simp [eqGuard, binOp, Op.intCmp]
theorem ys_eql : Yr P ⟨dst, .binOp .eql t x y t', ty, pos, aft, gd⟩ n K w0 L b (.bool (decide (p = q))) := fun a w hb hkn _ => by
  simp only [execOp, hx a hb hkn, hy a hb hkn]
  simp [eqGuard, binOp, Op.intCmp]; rfl
theorem ys_neq : Yr P ⟨dst, .binOp .neq t x y t', ty, pos, aft, gd⟩ n K w0 L b (.bool (decide (p ≠ q))) := fun a w hb hkn _ => by
  simp only [execOp, hx a hb hkn, hy a hb hkn]
  simp [eqGuard, binOp, Op.intCmp]
  rw [Bool.eq_iff_iff]; simp
end cmp

/-- '==' at a struct's type: what it says. -/
def EqT (P : Program) (t : TypeId) (vs us : List Value) (r : Bool) : Prop :=
  ∀ w, (eqGuard .eql t (.tmp 0) (.tmp 0) (.agg vs.toArray) (.agg us.toArray)).run P w = .ok () w ∧ (Op.equalIn 10000 t (.agg vs.toArray) (.agg us.toArray)).run P w = .ok r w
theorem eqGuard_agg (op : BinOp) (t : TypeId) (x y x' y' : Operand) (p q : Array Value) (h : op = .eql ∨ op = .neq) : eqGuard op t x y (.agg p) (.agg q) = eqGuard .eql t x' y' (.agg p) (.agg q) := by
  rcases h with rfl | rfl <;> rfl
theorem ys_eqA {t t' : TypeId} {x y : Operand} {vs us : List Value} {r : Bool} (hx : Ev n b K x (.agg vs.toArray)) (hy : Ev n b K y (.agg us.toArray)) (h : EqT P t vs us r) : Yr P ⟨dst, .binOp .eql t x y t', ty, pos, aft, gd⟩ n K w0 L b (.bool r) := fun a w hb hkn _ => by
  have h1 := (h w).1
  simp only [execOp, hx a hb hkn, hy a hb hkn]
  rw [eqGuard_agg .eql t x y (.tmp 0) (.tmp 0) _ _ (.inl rfl)]
  simp [h1, run_eql_struct, (h w).2]
theorem ys_neA {t t' : TypeId} {x y : Operand} {vs us : List Value} {r : Bool} (hx : Ev n b K x (.agg vs.toArray)) (hy : Ev n b K y (.agg us.toArray)) (h : EqT P t vs us r) : Yr P ⟨dst, .binOp .neq t x y t', ty, pos, aft, gd⟩ n K w0 L b (.bool (!r)) := fun a w hb hkn _ => by
  have h1 := (h w).1
  simp only [execOp, hx a hb hkn, hy a hb hkn]
  rw [eqGuard_agg .neq t x y (.tmp 0) (.tmp 0) _ _ (.inr rfl)]
  simp [h1, run_neq_struct, (h w).2]

theorem ys_not {t : TypeId} {x : Operand} {p : Bool} (hx : Ev n b K x (.bool p)) : Yr P ⟨dst, .unOp .not t x, ty, pos, aft, gd⟩ n K w0 L b (.bool (!p)) := fun a w hb hkn _ => by
  simp [execOp, hx a hb hkn, Op.unary]

theorem ys_lenS {t t' e : TypeId} {x : Operand} {A : Option Addr} {m c : Nat} (h1 : SliceT P t e) (hx : Ev n b K x (.slice A m c)) : Yr P ⟨dst, .call ⟨.builtin .len, #[x], #[t]⟩, t', pos, aft, gd⟩ n K w0 L b (.int .i64 (m : Int)) := fun a w hb hkn _ => by
  simp [execOp, resolve, invoke, builtin, Builtin.len_, hx a hb hkn, run_underlying h1, goInt]

theorem ys_ext {x : Operand} {i : Nat} {vs : List Value} {v : Value} (hx : Ev n b K x (.tuple vs.toArray)) (h : vs[i]? = some v) : Yr P ⟨dst, .extract x i, ty, pos, aft, gd⟩ n K w0 L b v := fun a w hb hkn _ => by
  simp [execOp, hx a hb hkn, Instr.extract, h]

/-- A struct or an array put together. -/
theorem ys_build {t : TypeId} {ps : List (Nat × Operand)} {vs : List Value} {v : Value} (hx : EvL n b K (ps.map (·.2)) vs) (hr : ∀ w, (Instr.build t ((ps.map (·.1)).zip vs).toArray).run P w = .ok v w) :
    Yr P ⟨dst, .build t ps.toArray, ty, pos, aft, gd⟩ n K w0 L b v := fun a w hb hkn _ => by
  have h := hx a hb hkn
  have e : (ps.toArray.map fun (i, x) => (i, a.eval x)) = ((ps.map (·.1)).zip vs).toArray := by
    rw [← h]
    simp only [List.map_toArray, List.map_map, List.zip_map', Function.comp_def]
  simp only [execOp, e]
  simp [hr]

/-- vs laid over a row from i on. -/
def lay (cs : List Value) : Nat → List Value → List Value
  | _, [] => cs
  | i, v :: vs => lay (cs.set i v) (i + 1) vs
theorem lay_len : ∀ (vs cs : List Value) (i : Nat), (lay cs i vs).length = cs.length
  | [], cs, i => rfl
  | v :: vs, cs, i => by rw [lay, lay_len vs]; simp

/-- The parts of a struct (or an array) laid over its zero value. -/
def fillL (places : Nat → Option (Nat × Nat)) (zs : List Value) : List (Nat × Value) → Option (List Value)
  | [] => some zs
  | (i, v) :: rest => match places i with
    | none => none
    | some (off, size) => bif Nat.beq v.cells.toList.length size && Nat.ble (off + size) zs.length then fillL places (lay zs off v.cells.toList) rest else none
theorem foldl_lay : ∀ (vs : List Value) (off j : Nat) (zs : List Value), (vs.zipIdx j).foldl (fun cs (x : Value × Nat) => cs.setIfInBounds (off + x.2) x.1) zs.toArray = (lay zs (off + j) vs).toArray
  | [], off, j, zs => rfl
  | v :: vs, off, j, zs => by
    simp only [List.zipIdx_cons, List.foldl_cons, lay]
    rw [List.setIfInBounds_toArray, foldl_lay vs off (j + 1)]
    rfl
theorem fill_of : ∀ {places : Nat → Option (Nat × Nat)} {parts : List (Nat × Value)} {zs us : List Value}, fillL places zs parts = some us → Instr.fill places zs.toArray parts = some us.toArray
  | places, [], zs, us, h => by simp [fillL] at h; simp [Instr.fill, h]
  | places, (i, v) :: rest, zs, us, h => by
    unfold fillL at h
    unfold Instr.fill
    split at h
    · cases h
    · rename_i off size hp
      simp only [hp]
      cases hc : (Nat.beq v.cells.toList.length size && Nat.ble (off + size) zs.length) with
      | false => rw [hc] at h; simp at h
      | true =>
        rw [hc] at h
        simp only [cond_true] at h
        simp only [Bool.and_eq_true, Nat.ble_eq] at hc
        obtain ⟨h1, h2⟩ := hc
        have h1' : v.cells.size = size := by simpa using h1
        have h3 : (decide (v.cells.size ≠ size) || decide (off + v.cells.size > zs.toArray.size)) = false := by
          simp [h1']; omega
        have h4 : v.cells.zipIdx.foldl (fun cs (x : Value × Nat) => cs.setIfInBounds (off + x.2) x.1) zs.toArray = (lay zs off v.cells.toList).toArray := by
          have := foldl_lay v.cells.toList off 0 zs
          rw [← Array.foldl_toList, Array.toList_zipIdx]
          simpa using this
        rw [if_neg (by rw [h3]; simp)]
        have h5 := fill_of (places := places) (parts := rest) h
        rw [← h4] at h5
        exact h5

/-- The struct type t: its zero value's cells, where each field lies and how long it is. -/
def BuildT (P : Program) (t : TypeId) (zs : List Value) (places : List (Nat × Nat)) : Prop :=
  (∃ z, (∀ w, (zeroValue t).run P w = .ok z w) ∧ z.cells = zs.toArray) ∧ ∃ fs, P.underlying t = some (.struct fs) ∧ ∀ w, (fs.mapM (fun f => do pure (f.offset, ← sizeOf f.type)) : Sem (Array (Nat × Nat))).run P w = .ok places.toArray w
theorem BuildT.run {t : TypeId} {zs : List Value} {places : List (Nat × Nat)} (h : BuildT P t zs places) {parts : List (Nat × Value)} {us : List Value} (hf : fillL (places[·]?) zs parts = some us) (w : World) : (Instr.build t parts.toArray).run P w = .ok (.agg us.toArray) w := by
  obtain ⟨⟨z, hz, hc⟩, fs, hu, hm⟩ := h
  have h1 : Instr.fill (fun x => places[x]?) zs.toArray parts = some us.toArray := fill_of hf
  simp only [Instr.build, Sem.run_bind, hz, Result.andThen_ok, run_underlying hu, hm, hc]
  simp [h1]
theorem ys_bld {t : TypeId} {ps : List (Nat × Operand)} {vs zs us : List Value} {places : List (Nat × Nat)} (h : BuildT P t zs places) (hx : EvL n b K (ps.map (·.2)) vs) (hr : fillL (places[·]?) zs ((ps.map (·.1)).zip vs) = some us) :
    Yr P ⟨dst, .build t ps.toArray, ty, pos, aft, gd⟩ n K w0 L b (.agg us.toArray) := ys_build hx (h.run hr)

/-- A call that only looks: its answer is one value, whatever it lays. -/
theorem ys_call {f : FuncId} {xs : List Operand} {ts : Array TypeId} {vs : List Value} {v : Value} (hf : ∀ args w, (callFunc f args).run P w = .ok (.enter f args) w) (hx : EvL n b K xs vs)
    (hc : b = true → ∀ w, Wd w0 L w → Calls P f vs.toArray w fun e w' => e = .returned v ∧ Bel w.heap.size w w') : Ys P ⟨dst, .call ⟨.value (.func f), xs.toArray, ts⟩, ty, pos, aft, gd⟩ n K w0 L b v := fun a w hb hkn hw => by
  have e : (xs.toArray.map a.eval) = vs.toArray := by rw [List.map_toArray, hx a hb hkn]
  have hrun : (execOp a.eval ⟨dst, .call ⟨.value (.func f), xs.toArray, ts⟩, ty, pos, aft, gd⟩).run P w = .ok (.enter f vs.toArray) w := by
    simp only [execOp, resolve, e]
    simp [Act.eval, Deferred.ofValue, invoke, hf]
  rw [hrun]
  exact ⟨rfl, (hc hb w hw).mono fun e w' ⟨he, hbl⟩ => ⟨he, hw.step hbl⟩⟩
end ops

/-! ### Operations that change something -/
section movers
variable {P : Program} {n : Nat} {w0 : World} {K : KL} {L : List Chunk} {ty : TypeId} {pos : String} {aft : Array Edge} {gd : Option (Nat × Bool)} {a : Act} {w : World} {Z : Act → World → Prop} {Q : Exit → Act → World → Prop} {d : Nat}

theorem run_wp {o : Oper} {v : Value} {w' : World} (hr : (execOp a.eval o).run P w = .ok (.value v) w') (h : Z (a.put o.dst v) w') : o.wp P a w Z Q := by
  unfold Oper.wp; rw [hr]; exact h
theorem run_wp0 {o : Oper} {w' : World} (hr : (execOp a.eval o).run P w = .ok .skip w') (h : Z (a.put o.dst undef) w') : o.wp P a w Z Q := by
  unfold Oper.wp; rw [hr]; exact h

theorem op_box {t : TypeId} {x : Operand} {vs : List Value} (S : St n w0 K L a w) (hx : Ev n true K x (.agg vs.toArray)) (hd : Nat.blt d n = true)
    (next : ∀ g a w, St n w0 ((d, true, .pointer (some ⟨g, 0, none⟩)) :: K) (.blk g (.cells vs.toArray t) :: L) a w → Z a w) : Oper.wp P ⟨some d, .box t x, ty, pos, aft, gd⟩ a w Z Q := by
  refine run_wp (v := .pointer (some ⟨w.heap.size, 0, none⟩)) (w' := w.alloc (.cells vs.toArray t)) ?_ (next _ _ _ ⟨S.kn.put hd _, S.wd.alloc _⟩)
  simp [execOp, hx a rfl S.kn, Instr.box, newVar, newRow, Value.cells]
theorem op_box1 {t : TypeId} {x : Operand} {v : Value} (S : St n w0 K L a w) (hx : Ev n true K x v) (h1 : v.oneCell' = true) (hd : Nat.blt d n = true)
    (next : ∀ g a w, St n w0 ((d, true, .pointer (some ⟨g, 0, none⟩)) :: K) (.blk g (.cells #[v] t) :: L) a w → Z a w) : Oper.wp P ⟨some d, .box t x, ty, pos, aft, gd⟩ a w Z Q := by
  refine run_wp (v := .pointer (some ⟨w.heap.size, 0, none⟩)) (w' := w.alloc (.cells #[v] t)) ?_ (next _ _ _ ⟨S.kn.put hd _, S.wd.alloc _⟩)
  have hv : v.cells = #[v] := by cases v <;> simp_all [Value.cells, Value.oneCell']
  simp [execOp, hx a rfl S.kn, Instr.box, newVar, newRow, hv]
theorem op_alloc {t : TypeId} {v : Value} {cs : List Value} (S : St n w0 K L a w) (hz : ∀ w, (zeroValue t).run P w = .ok v w) (hcs : v.cells = cs.toArray) (hd : Nat.blt d n = true)
    (next : ∀ g a w, St n w0 ((d, true, .pointer (some ⟨g, 0, none⟩)) :: K) (.blk g (.cells cs.toArray t) :: L) a w → Z a w) : Oper.wp P ⟨some d, .alloc t, ty, pos, aft, gd⟩ a w Z Q := by
  refine run_wp (v := .pointer (some ⟨w.heap.size, 0, none⟩)) (w' := w.alloc (.cells cs.toArray t)) ?_ (next _ _ _ ⟨S.kn.put hd _, S.wd.alloc _⟩)
  simp [execOp, Instr.alloc, hz, newVar, newRow, hcs]

theorem run_store_cells {g : Nat} {t : TypeId} : ∀ (vs : List Value) (i j : Nat) (cs : List Value) (w : World), w.heap[g]? = some (.cells cs.toArray t (0, 0)) → i + j + vs.length ≤ cs.length → (∀ v ∈ vs, v.oneCell' = true) →
    ∃ w', (storeCells ⟨g, i, none⟩ vs j).run P w = .ok () w' ∧ w'.heap[g]? = some (.cells (lay cs (i + j) vs).toArray t (0, 0)) ∧ Turned (fun x => x = g) w w'
  | [], i, j, cs, w, hg, _, _ => ⟨w, rfl, hg, ⟨rfl, rfl, rfl, Nat.le_refl _, fun _ _ _ => rfl, Nat.le_refl _⟩⟩
  | v :: vs, i, j, cs, w, hg, hlen, h1 => by
    have hlt : i + j < cs.length := by simp at hlen; omega
    have hc : w.cell? ⟨g, i + j, none⟩ = some cs[i + j] := by rw [cell_of_row w g (i + j) _ t (0, 0) hg]; simp [hlt]
    have hfz := frozen_of_row w g (i + j) _ t hg
    have hs : (store ((⟨g, i, none⟩ : Addr).add j) v).run P w = .ok () (w.setCell ⟨g, i + j, none⟩ v) := by
      rw [Addr.add_mid, run_store P w _ v _ (h1 v (by simp))]
      simp [hc, hfz]
    have hg' : (w.setCell ⟨g, i + j, none⟩ v).heap[g]? = some (.cells (cs.set (i + j) v).toArray t (0, 0)) := by
      rw [heap_setCell_same w g (i + j) _ t v hg]; simp
    obtain ⟨w', hr, hh, hb⟩ := run_store_cells vs i (j + 1) (cs.set (i + j) v) _ hg' (by simp at hlen ⊢; omega) (fun u hu => h1 u (by simp [hu]))
    refine ⟨w', ?_, by rw [lay]; exact hh, ?_⟩
    · rw [storeCells]
      simp only [Sem.run_bind, hs, Result.andThen_ok]
      exact hr
    · exact ⟨hb.os, hb.tape, hb.output, by have := hb.size; simpa using this, fun k hk hne => (hb.block k (by simpa using hk) hne).trans (heap_setCell_other w _ k v (fun e => hne (by simpa using e))), hb.drawn⟩

/-- A store into a block of the call's own. -/
theorem op_st {t : TypeId} {x y : Operand} {g i k : Nat} {cs : List Value} {e : TypeId} {v : Value} (S : St n w0 K L a w) (h1 : Size P t 1) (hx : Ev n true K x (.pointer (some ⟨g, i, none⟩))) (hy : Ev n true K y v)
    (hk : L[k]? = some (.blk g (.cells cs.toArray e))) (hv : v.oneCell' = true) (hi : i < cs.length)
    (next : ∀ a w, St n w0 K (L.set k (.blk g (.cells (cs.set i v).toArray e))) a w → Z a w) : Oper.wp P ⟨none, .store t x y, ty, pos, aft, gd⟩ a w Z Q := by
  have hg := (S.wd.get hk).2
  obtain ⟨w', hr, hh, hb⟩ := run_store_cells (P := P) [v] i 0 cs w hg (by simp; omega) (by simpa using hv)
  have hvc : v.cells = #[v] := by cases v <;> simp_all [Value.cells, Value.oneCell']
  refine run_wp0 (w' := w') ?_ (next _ _ ⟨S.kn, S.wd.change hk hb ⟨(S.wd.get hk).1, by simpa [lay] using hh⟩ (fun _ h => .inl h)⟩)
  simp [execOp, hx a rfl S.kn, hy a rfl S.kn, Instr.storeAt, Instr.sureAddr, storeVar, h1 w, hvc, hr]
theorem op_stA {t : TypeId} {m : Nat} {x y : Operand} {g i k : Nat} {cs : List Value} {e : TypeId} {vs : List Value} (S : St n w0 K L a w) (h1 : Size P t m) (hx : Ev n true K x (.pointer (some ⟨g, i, none⟩))) (hy : Ev n true K y (.agg vs.toArray))
    (hk : L[k]? = some (.blk g (.cells cs.toArray e))) (hl : vs.length = m) (hv : ∀ v ∈ vs, v.oneCell' = true) (hi : i + m ≤ cs.length)
    (next : ∀ a w, St n w0 K (L.set k (.blk g (.cells (lay cs i vs).toArray e))) a w → Z a w) : Oper.wp P ⟨none, .store t x y, ty, pos, aft, gd⟩ a w Z Q := by
  have hg := (S.wd.get hk).2
  obtain ⟨w', hr, hh, hb⟩ := run_store_cells (P := P) vs i 0 cs w hg (by omega) hv
  refine run_wp0 (w' := w') ?_ (next _ _ ⟨S.kn, S.wd.change hk hb ⟨(S.wd.get hk).1, by simpa using hh⟩ (fun _ h => .inl h)⟩)
  simp [execOp, hx a rfl S.kn, hy a rfl S.kn, Instr.storeAt, Instr.sureAddr, storeVar, h1 w, Value.cells, hl, hr]
/-- A struct stored over a whole block. -/
theorem op_stW {t : TypeId} {x y : Operand} {g k : Nat} {cs : List Value} {e : TypeId} {vs : List Value} {m : Nat} (S : St n w0 K L a w) (h1 : Size P t m) (hx : Ev n true K x (.pointer (some ⟨g, 0, none⟩))) (hy : Ev n true K y (.agg vs.toArray))
    (hk : L[k]? = some (.blk g (.cells cs.toArray e))) (hm : cs.length = m) (hl : vs.length = m) (hv : ∀ v ∈ vs, v.oneCell' = true)
    (next : ∀ a w, St n w0 K (L.set k (.blk g (.cells vs.toArray e))) a w → Z a w) : Oper.wp P ⟨none, .store t x y, ty, pos, aft, gd⟩ a w Z Q := by
  subst hm
  refine op_stA S h1 hx hy hk hl hv (by omega) (fun a w S => next a w ?_)
  have key : ∀ (vs cs : List Value) (i : Nat), i + vs.length = cs.length → lay cs i vs = cs.take i ++ vs := by
    intro vs
    induction vs with
    | nil => intro cs i h; simp at h; simp [lay, h]
    | cons v vs ih =>
      intro cs i h
      simp at h
      rw [lay, ih _ _ (by simp; omega)]
      have e : (cs.set i v).take (i + 1) = cs.take i ++ [v] := by
        rw [List.take_succ_eq_append_getElem (by simp; omega)]
        simp [List.take_set]
        exact List.set_eq_of_length_le (by simp; omega)
      rw [e]; simp
  have := key vs cs 0 (by omega)
  simp at this
  rwa [this] at S

/-- A call: what its contract says, then what follows. -/
theorem op_call {f : FuncId} {xs : List Operand} {ts : Array TypeId} {vs : List Value} {dst : Option Tmp} {R : Ending → World → Prop} (S : St n w0 K L a w) (hf : ∀ args w, (callFunc f args).run P w = .ok (.enter f args) w) (hx : EvL n true K xs vs)
    (hc : Calls P f vs.toArray w R) (next : ∀ e w', R e w' → ∃ v, e = .returned v ∧ Z (a.put dst v) w') : Oper.wp P ⟨dst, .call ⟨.value (.func f), xs.toArray, ts⟩, ty, pos, aft, gd⟩ a w Z Q := by
  have e : (xs.toArray.map a.eval) = vs.toArray := by rw [List.map_toArray, hx a rfl S.kn]
  have hrun : (execOp a.eval ⟨dst, .call ⟨.value (.func f), xs.toArray, ts⟩, ty, pos, aft, gd⟩).run P w = .ok (.enter f vs.toArray) w := by
    simp only [execOp, resolve, e]
    simp [Act.eval, Deferred.ofValue, invoke, hf]
  unfold Oper.wp
  rw [hrun]
  exact hc.mono fun e w' h => by obtain ⟨v, rfl, hz⟩ := next e w' h; exact hz
end movers

/-! ### The end of a call -/
section ends
variable {P : Program} {n : Nat} {w0 : World} {K : KL} {L : List Chunk} {a : Act} {w : World} {fn : Func} {R : Ending → World → Prop} {t : Nat} {v : Value}

theorem st_ret (S : St n w0 K L a w) (hr : (results fn a.tmps).run P w = .ok v w) (h : R (.returned v) w) : bodyPost P fn R .ret a w := ⟨S.kn.defers, v, hr, h⟩
/-- only to say the same goal in its reduced form -/
theorem id_body {fn : Func} {e : Exit} {P : Program} {R : Ending → World → Prop} {a : Act} {w : World} (h : bodyPost P fn R e a w) : bodyPost P fn R e a w := h
theorem st_end (S : St n w0 K L a w) (hr : (results fn a.tmps).run P w = .ok v w) (h : R (.returned v) w) : bodyPost P fn R .normal a w := ⟨S.kn.defers, v, hr, h⟩

/-- What a result is. -/
def res1 (tmps : Array Value) (r : ResultVar) : Sem Value := match r with
  | .tmp t => pure (tmps.getD t undef)
  | .cell a t => do loadVar t (← asAddr (tmps.getD a undef))
theorem results_eq (fn : Func) (tmps : Array Value) : results fn tmps = (do let vs ← fn.results.mapM (res1 tmps); pure (if h : vs.size = 1 then vs[0] else .tuple vs)) := rfl
def Rv (P : Program) (n : Nat) (w0 : World) (K : KL) (L : List Chunk) (r : ResultVar) (v : Value) : Prop :=
  ∀ a w, Kn n K a → Wd w0 L w → (res1 a.tmps r).run P w = .ok v w

theorem Rv.tmp (h : look K t = some (true, v)) : Rv P n w0 K L (.tmp t) v := fun a w hk _ => by
  simp [res1, hk.slot t true v h]
theorem Rv.cell {ty m : Nat} {g k : Nat} {cs : List Value} {e : TypeId} {fr : Nat × Nat} (h1 : Many P ty m) (h : look K t = some (true, .pointer (some ⟨g, 0, none⟩))) (hk : L[k]? = some (.blk g (.cells cs.toArray e fr))) (hm : cs.length = m) :
    Rv P n w0 K L (.cell t ty) (.agg cs.toArray) := fun a w hkn hw => by
  have hg := (hw.get hk).2
  have h2 := run_load_many (P := P) (ad := ⟨g, 0, none⟩) h1 hm (w := w) (fun j u hj => by
    rw [Addr.add_mid, cell_of_row w g (0 + j) _ e fr hg]; simpa using hj)
  simp [res1, hkn.slot t true _ h, asAddr, h2]
theorem Rv.cell1 {ty : Nat} {g k : Nat} {e : TypeId} {fr : Nat × Nat} (h1 : One P ty) (h : look K t = some (true, .pointer (some ⟨g, 0, none⟩))) (hk : L[k]? = some (.blk g (.cells #[v] e fr))) :
    Rv P n w0 K L (.cell t ty) v := fun a w hkn hw => by
  have hg := (hw.get hk).2
  have h2 := run_load_one (P := P) (ad := ⟨g, 0, none⟩) h1 (w := w) (v := v) (by rw [cell_of_row w g 0 _ e fr hg]; simp)
  simp [res1, hkn.slot t true _ h, asAddr, h2]

theorem results0 {fn : Func} (h : fn.results = #[]) : (results fn a.tmps).run P w = .ok (.tuple #[]) w := by simp [results_eq, h]
theorem results1 {fn : Func} {r : ResultVar} (S : St n w0 K L a w) (h : fn.results = #[r]) (hv : Rv P n w0 K L r v) : (results fn a.tmps).run P w = .ok v w := by
  have h1 := hv a w S.kn S.wd
  simp [results_eq, h, h1]
theorem results2 {fn : Func} {r r' : ResultVar} {v' : Value} (S : St n w0 K L a w) (h : fn.results = #[r, r']) (hv : Rv P n w0 K L r v) (hv' : Rv P n w0 K L r' v') : (results fn a.tmps).run P w = .ok (.tuple #[v, v']) w := by
  have h1 := hv a w S.kn S.wd
  have h2 := hv' a w S.kn S.wd
  simp [results_eq, h, h1, h2]
theorem results3 {fn : Func} {r r' r'' : ResultVar} {v' v'' : Value} (S : St n w0 K L a w) (h : fn.results = #[r, r', r'']) (hv : Rv P n w0 K L r v) (hv' : Rv P n w0 K L r' v') (hv'' : Rv P n w0 K L r'' v'') : (results fn a.tmps).run P w = .ok (.tuple #[v, v', v'']) w := by
  have h1 := hv a w S.kn S.wd
  have h2 := hv' a w S.kn S.wd
  have h3 := hv'' a w S.kn S.wd
  simp [results_eq, h, h1, h2, h3]
end ends
end Go.Fw
namespace Go.Fw
open Go.RowKit
theorem then_normal {K : Act → World → Prop} {Q : Exit → Act → World → Prop} {a : Act} {w : World} (h : K a w) : Exit.then K Q .normal a w := h
section exits
variable {K : Act → World → Prop} {Q : Exit → Act → World → Prop} {a : Act} {w : World} {i j : Nat}
theorem then_ret (h : Q .ret a w) : Exit.then K Q .ret a w := h
theorem then_exit (h : Q (.exit i) a w) : Exit.then K Q (.exit i) a w := h
theorem then_goto (h : Q (.goto i) a w) : Exit.then K Q (.goto i) a w := h
theorem in_ret (h : Q .ret a w) : Exit.inBlock i Q .ret a w := h
theorem in_normal (h : Q .normal a w) : Exit.inBlock i Q .normal a w := h
theorem in_goto (h : Q (.goto j) a w) : Exit.inBlock i Q (.goto j) a w := h
theorem in_here (h : Q .normal a w) : Exit.inBlock i Q (.exit i) a w := by simp [Exit.inBlock, h]
theorem in_past (hne : Nat.beq j i = false) (h : Q (.exit j) a w) : Exit.inBlock i Q (.exit j) a w := by
  have : j ≠ i := fun e => by subst e; simp at hne
  simp [Exit.inBlock, this, h]
end exits
theorem St.weak {n : Nat} {w0 : World} {K K' : KL} {L L' : List Chunk} {a : Act} {w : World} (S : St n w0 K L a w) (hK : Fits [] K K') (hL : L'.Sublist L) : St n w0 K' L' a w := ⟨S.kn.fits hK, S.wd.sub hL⟩

/-- A slice that reads as a list: element k lies at k * size. B: its row lies below this block. -/
def Sl {α : Type} (enc : α → List Value) (size : Nat) (w : World) (B : Nat) (v : Value) (l : List α) : Prop :=
  ∃ A cap, v = .slice A l.length cap ∧ l.length ≤ cap ∧ cap ≤ 9223372036854775807 ∧
    (0 < l.length → ∃ g o, A = some ⟨g, o, none⟩ ∧ g < B ∧ ∀ k x, l[k]? = some x → ∀ j u, (enc x)[j]? = some u → w.cell? ⟨g, o + k * size + j, none⟩ = some u)

section sl
variable {α : Type} {enc : α → List Value} {size : Nat} {w w' w0 : World} {B B' : Nat} {v : Value} {l : List α} {L : List Chunk}
theorem Sl.keep (h : Sl enc size w B v l) (hk : Below B w w') : Sl enc size w' B v l := by
  obtain ⟨A, cap, rfl, h1, h2, h3⟩ := h
  refine ⟨A, cap, rfl, h1, h2, fun hl => ?_⟩
  obtain ⟨g, o, hA, hg, hc⟩ := h3 hl
  exact ⟨g, o, hA, hg, fun k x hx j u hu => (hk.cell (p := ⟨g, o + k * size + j, none⟩) hg).trans (hc k x hx j u hu)⟩
theorem Sl.mono (h : Sl enc size w B v l) (hB : B ≤ B') : Sl enc size w B' v l := by
  obtain ⟨A, cap, rfl, h1, h2, h3⟩ := h
  refine ⟨A, cap, rfl, h1, h2, fun hl => ?_⟩
  obtain ⟨g, o, hA, hg, hc⟩ := h3 hl
  exact ⟨g, o, hA, by omega, hc⟩
theorem Sl.old (W : Wd w0 L w) (h : Sl enc size w0 w0.heap.size v l) : Sl enc size w w.heap.size v l := (h.keep W.below.toBelow).mono W.below.size
end sl
end Go.Fw
