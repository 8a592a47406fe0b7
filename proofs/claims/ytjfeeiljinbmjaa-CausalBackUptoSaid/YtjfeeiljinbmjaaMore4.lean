/- More laws of operations: strings, bytes, bits, slices of arrays, copy. Of no program. -/
import Derived.Test.YtjfeeiljinbmjaaRow
import Derived.ScopeJumps
import Derived.LoopN
set_option linter.unusedVariables false
set_option linter.unusedSimpArgs false
namespace Go.Fw
open Go.RowKit

/-- A text, as the list of its bytes. -/
abbrev bs (l : List UInt8) : ByteArray := ⟨l.toArray⟩
theorem bs_of (s : ByteArray) : s = bs s.data.toList := by cases s; simp
theorem bs_size (l : List UInt8) : (bs l).size = l.length := by simp [bs, ByteArray.size]
theorem bs_toList (l : List UInt8) : (bs l).toList = l := by rw [ByteArray.toList_eq]
theorem bs_get {l : List UInt8} {j : Nat} {b : UInt8} (h : l[j]? = some b) : (bs l)[j]? = some b := by
  obtain ⟨h1, h2⟩ := List.getElem?_eq_some_iff.1 h
  have h3 : j < (bs l).size := by rw [bs_size]; exact h1
  rw [getElem?_pos (bs l) j h3]
  show some (l.toArray[j]) = _
  simp [h2]
theorem bs_app (l m : List UInt8) : bs l ++ bs m = bs (l ++ m) := by
  apply ByteArray.ext
  rw [ByteArray.data_append]
  simp [bs]
theorem bs_ext (l : List UInt8) (i j : Nat) : (bs l).extract i j = bs ((l.take j).drop i) := by
  apply ByteArray.ext
  rw [ByteArray.data_extract]
  simp [bs, List.extract_toArray, List.extract_eq_take_drop, List.drop_take]
theorem bs_inj {l m : List UInt8} : bs l = bs m ↔ l = m := by simp [bs]

/-- A whole number, as a byte. -/
def b8 (p : Int) : UInt8 := UInt8.ofNat (p % 256).toNat
theorem b8_val (p : Int) : ((b8 p).toNat : Int) = p % 256 := by
  unfold b8
  rw [UInt8.toNat_ofNat']
  omega
theorem b8_nat (x : UInt8) : b8 (x.toNat : Int) = x := by
  apply UInt8.toNat_inj.1
  have := b8_val (x.toNat : Int)
  have := x.toNat_lt
  omega
theorem b8_of {p : Int} {x : UInt8} (h : p % 256 = (x.toNat : Int)) : b8 p = x := by
  apply UInt8.toNat_inj.1
  have := b8_val p
  omega
theorem u8lt (x : UInt8) : (x.toNat : Int) < 256 := by have := x.toNat_lt; omega
def encB (x : UInt8) : List Value := [.int .u8 (x.toNat : Int)]
theorem encB_len (x : UInt8) : (encB x).length = 1 := rfl
theorem flatB (l : List UInt8) : l.flatMap encB = l.map (fun x => Value.int .u8 (x.toNat : Int)) := by
  induction l with
  | nil => rfl
  | cons x r ih => simp [encB, ih]
theorem flatB_len (l : List UInt8) : (l.flatMap encB).length = l.length := by rw [flatB]; simp

/-- '&', '|', '^' of two numbers. -/
def andK (k : IntKind) (p q : Int) : Int := k.wrap ((BitVec.ofInt k.bits p &&& BitVec.ofInt k.bits q).toNat : Int)
def orK (k : IntKind) (p q : Int) : Int := k.wrap ((BitVec.ofInt k.bits p ||| BitVec.ofInt k.bits q).toNat : Int)
def xorK (k : IntKind) (p q : Int) : Int := k.wrap ((BitVec.ofInt k.bits p ^^^ BitVec.ofInt k.bits q).toNat : Int)
theorem ofInt_nat (n p : Nat) : BitVec.ofInt n (p : Int) = BitVec.ofNat n p := by simp
theorem andK_i64 {p q : Nat} (hp : p < 9223372036854775808) (hq : q < 9223372036854775808) : andK .i64 p q = ((p &&& q : Nat) : Int) := by
  have h : p &&& q < 9223372036854775808 := Nat.lt_of_le_of_lt Nat.and_le_left hp
  unfold andK
  rw [ofInt_nat, ofInt_nat, BitVec.toNat_and, BitVec.toNat_ofNat, BitVec.toNat_ofNat, show IntKind.i64.bits = 64 from rfl, Nat.mod_eq_of_lt (by omega), Nat.mod_eq_of_lt (by omega), IntKind.wrap_i64]
  omega
theorem orK_i64 {p q : Nat} (hp : p < 9223372036854775808) (hq : q < 9223372036854775808) : orK .i64 p q = ((p ||| q : Nat) : Int) := by
  have h : p ||| q < 2 ^ 63 := Nat.or_lt_two_pow (by omega) (by omega)
  unfold orK
  rw [ofInt_nat, ofInt_nat, BitVec.toNat_or, BitVec.toNat_ofNat, BitVec.toNat_ofNat, show IntKind.i64.bits = 64 from rfl, Nat.mod_eq_of_lt (by omega), Nat.mod_eq_of_lt (by omega), IntKind.wrap_i64]
  omega
theorem andK_mask {p : Int} (m : Nat) (hm : m < 63) (h0 : 0 ≤ p) (h1 : p ≤ 9223372036854775807) : andK .i64 p (2 ^ m - 1) = p % 2 ^ m := by
  obtain ⟨n, rfl⟩ := Int.eq_ofNat_of_zero_le h0
  have h2 : 1 ≤ 2 ^ m := Nat.one_le_two_pow
  have h3 : 2 ^ m ≤ 2 ^ 62 := Nat.pow_le_pow_right (by omega) (by omega)
  have e : ((2 : Int) ^ m - 1) = ((2 ^ m - 1 : Nat) : Int) := by
    rw [Int.natCast_sub h2]; simp
  rw [e, andK_i64 (by omega) (by omega), Nat.and_two_pow_sub_one_eq_mod]
  simp
theorem orK_add {p q : Int} (m : Nat) (hm : m < 63) (h0 : 0 ≤ p) (h1 : p ≤ 9223372036854775807) (hd : p % 2 ^ m = 0) (h2 : 0 ≤ q) (h3 : q < 2 ^ m) : orK .i64 p q = p + q := by
  obtain ⟨a, rfl⟩ := Int.eq_ofNat_of_zero_le h0
  obtain ⟨b, rfl⟩ := Int.eq_ofNat_of_zero_le h2
  have h4 : b < 2 ^ m := by
    have : ((2 : Int) ^ m) = ((2 ^ m : Nat) : Int) := by simp
    omega
  have h5 : a % 2 ^ m = 0 := by
    have : ((2 : Int) ^ m) = ((2 ^ m : Nat) : Int) := by simp
    rw [this] at hd
    omega
  have h6 : 2 ^ m ≤ 2 ^ 62 := Nat.pow_le_pow_right (by omega) (by omega)
  rw [orK_i64 (by omega) (by omega)]
  obtain ⟨c, rfl⟩ := Nat.dvd_of_mod_eq_zero h5
  rw [← Nat.two_pow_add_eq_or_of_lt h4]
  simp

section ops
variable {P : Program} {n : Nat} {w0 : World} {K : KL} {L : List Chunk} {b : Bool} {dst : Option Tmp} {ty : TypeId} {pos : String} {aft : Array Edge} {gd : Option (Nat × Bool)}
theorem ys_band {t t' : TypeId} {x y : Operand} {k : IntKind} {p q : Int} (hx : Ev n b K x (.int k p)) (hy : Ev n b K y (.int k q)) : Yr P ⟨dst, .binOp .and t x y t', ty, pos, aft, gd⟩ n K w0 L b (.int k (andK k p q)) := fun a w hb hkn _ => by
  simp only [execOp, hx a hb hkn, hy a hb hkn]
  simp [eqGuard, binOp, Op.intBits, andK]
theorem ys_bor {t t' : TypeId} {x y : Operand} {k : IntKind} {p q : Int} (hx : Ev n b K x (.int k p)) (hy : Ev n b K y (.int k q)) : Yr P ⟨dst, .binOp .or t x y t', ty, pos, aft, gd⟩ n K w0 L b (.int k (orK k p q)) := fun a w hb hkn _ => by
  simp only [execOp, hx a hb hkn, hy a hb hkn]
  simp [eqGuard, binOp, Op.intBits, orK]
theorem ys_bxor {t t' : TypeId} {x y : Operand} {k : IntKind} {p q : Int} (hx : Ev n b K x (.int k p)) (hy : Ev n b K y (.int k q)) : Yr P ⟨dst, .binOp .xor t x y t', ty, pos, aft, gd⟩ n K w0 L b (.int k (xorK k p q)) := fun a w hb hkn _ => by
  simp only [execOp, hx a hb hkn, hy a hb hkn]
  simp [eqGuard, binOp, Op.intBits, xorK]
/-- p & (2^m - 1) -/
theorem ys_andM {t t' : TypeId} {x y : Operand} {p q c : Int} (m : Nat) (hx : Ev n b K x (.int .i64 p)) (hy : Ev n b K y (.int .i64 q)) (hq : q = 2 ^ m - 1) (hc : (2 : Int) ^ m = c) (hm : Nat.blt m 63 = true) (h : b = true → 0 ≤ p ∧ p ≤ 9223372036854775807) :
    Yr P ⟨dst, .binOp .and t x y t', ty, pos, aft, gd⟩ n K w0 L b (.int .i64 (p % c)) := by
  subst hq; subst hc
  exact Yr.of_imp (fun hb => by rw [andK_mask m (by simpa [Nat.blt_eq] using hm) (h hb).1 (h hb).2]) (ys_band hx hy)
/-- p | q, that have no bit alike -/
theorem ys_orA {t t' : TypeId} {x y : Operand} {p q c : Int} (m : Nat) (hx : Ev n b K x (.int .i64 p)) (hy : Ev n b K y (.int .i64 q)) (hc : (2 : Int) ^ m = c) (hm : Nat.blt m 63 = true) (h : b = true → (0 ≤ p ∧ p ≤ 9223372036854775807 ∧ p % c = 0) ∧ 0 ≤ q ∧ q < c) :
    Yr P ⟨dst, .binOp .or t x y t', ty, pos, aft, gd⟩ n K w0 L b (.int .i64 (p + q)) := by
  subst hc
  exact Yr.of_imp (fun hb => by rw [orK_add m (by simpa [Nat.blt_eq] using hm) (h hb).1.1 (h hb).1.2.1 (h hb).1.2.2 (h hb).2.1 (h hb).2.2]) (ys_bor hx hy)
/-- p << m, p >> m by a number -/
theorem ys_shlC {t t' : TypeId} {x y : Operand} {k' : IntKind} {p c : Int} {m : Nat} (hx : Ev n b K x (.int .i64 p)) (hy : Ev n b K y (.int k' (m : Int))) (hm : Nat.ble m 64 = true) (hc : (2 : Int) ^ m = c) (h : b = true → I64 (p * c)) : Yr P ⟨dst, .binOp .shl t x y t', ty, pos, aft, gd⟩ n K w0 L b (.int .i64 (p * c)) := by
  subst hc
  exact Yr.of_imp (fun hb => by rw [wrap_i64 (h hb)]) (ys_shl hx hy hm)
theorem ys_shrC {t t' : TypeId} {x y : Operand} {k k' : IntKind} {p c : Int} {m : Nat} (hx : Ev n b K x (.int k p)) (hy : Ev n b K y (.int k' (m : Int))) (hm : Nat.ble m k.bits = true) (hc : (2 : Int) ^ m = c) : Yr P ⟨dst, .binOp .shr t x y t', ty, pos, aft, gd⟩ n K w0 L b (.int k (p / c)) := by
  subst hc
  exact Yr.of_imp (fun hb => by rw [Int.fdiv_eq_ediv_of_nonneg _ (by exact Int.le_of_lt (Int.pow_pos (by decide)))]) (ys_shr hx hy hm)

/-! ### texts -/
theorem ys_ixStr {t : TypeId} {x y : Operand} {l : List UInt8} {j : Nat} {k : IntKind} {u : UInt8} (ht : P.underlying t = some .string) (hx : Ev n b K x (.string (bs l))) (hy : Ev n b K y (.int k (j : Int))) (h : b = true → l[j]? = some u) : Yr P ⟨dst, .index t x y, ty, pos, aft, gd⟩ n K w0 L b (.int .u8 (u.toNat : Int)) := fun a w hb hkn _ => by
  have h1 := bs_get (h hb)
  simp [execOp, hx a hb hkn, hy a hb hkn, Instr.index, asIntOf, run_underlying ht, h1]
theorem ys_ixTab {t : TypeId} {x y : Operand} {l : List UInt8} {p : Int} {k : IntKind} (ht : P.underlying t = some .string) (hx : Ev n b K x (.string (bs l))) (hy : Ev n b K y (.int k p)) (h : b = true → 0 ≤ p ∧ p < l.length) : Yr P ⟨dst, .index t x y, ty, pos, aft, gd⟩ n K w0 L b (.int .u8 ((l.getD p.toNat 0).toNat : Int)) := fun a w hb hkn _ => by
  obtain ⟨h0, h2⟩ := h hb
  obtain ⟨j, rfl⟩ := Int.eq_ofNat_of_zero_le h0
  have hj : l[j]? = some (l.getD j 0) := by
    rw [List.getD_eq_getElem?_getD, List.getElem?_eq_getElem (by omega)]; rfl
  have h1 := bs_get hj
  simp [execOp, hx a hb hkn, hy a hb hkn, Instr.index, asIntOf, run_underlying ht, h1]
theorem ys_lenStr {t t' : TypeId} {x : Operand} {l : List UInt8} (ht : P.underlying t = some .string) (hx : Ev n b K x (.string (bs l))) : Yr P ⟨dst, .call ⟨.builtin .len, #[x], #[t]⟩, t', pos, aft, gd⟩ n K w0 L b (.int .i64 (l.length : Int)) := fun a w hb hkn _ => by
  have h1 := bs_size l
  simp [execOp, resolve, invoke, builtin, Builtin.len_, hx a hb hkn, run_underlying ht, goInt, h1]
theorem ys_addStr {t t' : TypeId} {x y : Operand} {l m : List UInt8} (hx : Ev n b K x (.string (bs l))) (hy : Ev n b K y (.string (bs m))) (h : b = true → (l.length : Int) + m.length ≤ 9223372036854775807) : Yr P ⟨dst, .binOp .add t x y t', ty, pos, aft, gd⟩ n K w0 L b (.string (bs (l ++ m))) := fun a w hb hkn _ => by
  have h1 := h hb
  have h2 := bs_app l m
  have h3 : ¬ (((bs l).size + (bs m).size : Nat) : Int) > IntKind.i64.max := by
    rw [bs_size, bs_size]
    show ¬ _ > (9223372036854775807 : Int)
    omega
  simp only [execOp, hx a hb hkn, hy a hb hkn]
  simp only [eqGuard, binOp, Op.stringOp, if_neg h3, h2]
  simp
theorem ys_eqlStr {t t' : TypeId} {x y : Operand} {l m : List UInt8} (hx : Ev n b K x (.string (bs l))) (hy : Ev n b K y (.string (bs m))) : Yr P ⟨dst, .binOp .eql t x y t', ty, pos, aft, gd⟩ n K w0 L b (.bool (decide (l = m))) := fun a w hb hkn _ => by
  have h : (l == m) = decide (l = m) := by rw [Bool.eq_iff_iff]; simp
  simp only [execOp, hx a hb hkn, hy a hb hkn]
  simp [eqGuard, binOp, Op.stringOp, bs_toList, h]
theorem ys_neqStr {t t' : TypeId} {x y : Operand} {l m : List UInt8} (hx : Ev n b K x (.string (bs l))) (hy : Ev n b K y (.string (bs m))) : Yr P ⟨dst, .binOp .neq t x y t', ty, pos, aft, gd⟩ n K w0 L b (.bool (decide (l ≠ m))) := fun a w hb hkn _ => by
  have h : (!(l == m)) = decide (l ≠ m) := by rw [Bool.eq_iff_iff]; simp
  simp only [execOp, hx a hb hkn, hy a hb hkn]
  simp [eqGuard, binOp, Op.stringOp, bs_toList, h]
/-- 's[l:h]' of a text. -/
theorem ys_slStr {t : TypeId} {x y z : Operand} {l : List UInt8} {i j : Nat} {k k' : IntKind} (ht : P.underlying t = some .string) (hx : Ev n b K x (.string (bs l))) (hy : Ev n b K y (.int k (i : Int))) (hz : Ev n b K z (.int k' (j : Int))) (h : b = true → i ≤ j ∧ j ≤ l.length) :
    Yr P ⟨dst, .slice t x (some y) (some z) none, ty, pos, aft, gd⟩ n K w0 L b (.string (bs ((l.take j).drop i))) := fun a w hb hkn _ => by
  obtain ⟨h1, h2⟩ := h hb
  have h3 := bs_size l
  have e := bs_ext l i j
  simp only [execOp, hx a hb hkn, Option.map_none, Option.map_some, hy a hb hkn, hz a hb hkn, Instr.sliceAt, Sem.run_bind, run_underlying ht, Result.andThen_ok, Instr.slice, Instr.sliceBounds, Instr.sliceBound, asIntOf, Sem.run_pure]
  simp [h3, h1, h2, e]
/-- 's[k:k+1]'. -/
theorem ys_slStr1 {t : TypeId} {x y z : Operand} {l : List UInt8} {p q : Int} {k k' : IntKind} (ht : P.underlying t = some .string) (hx : Ev n b K x (.string (bs l))) (hy : Ev n b K y (.int k p)) (hz : Ev n b K z (.int k' q)) (h : b = true → 0 ≤ p ∧ p < l.length ∧ q = p + 1) :
    Yr P ⟨dst, .slice t x (some y) (some z) none, ty, pos, aft, gd⟩ n K w0 L b (.string (bs [l.getD p.toNat 0])) := fun a w hb hkn hw => by
  obtain ⟨h1, h2, rfl⟩ := h hb
  obtain ⟨j, rfl⟩ := Int.eq_ofNat_of_zero_le h1
  have e : (l.take (j + 1)).drop j = [l.getD (j : Int).toNat 0] := by
    rw [List.take_succ_eq_append_getElem (by omega), List.drop_append_of_le_length (by simp; omega), List.drop_eq_nil_of_le (by simp; omega)]
    simp [List.getElem?_eq_getElem (show j < l.length by omega)]
  rw [← e]
  exact ys_slStr ht hx hy (i := j) (j := j + 1) hz (fun _ => by omega) a w hb hkn hw
theorem ys_slStrLo {t : TypeId} {x y : Operand} {l : List UInt8} {i : Nat} {k : IntKind} (ht : P.underlying t = some .string) (hx : Ev n b K x (.string (bs l))) (hy : Ev n b K y (.int k (i : Int))) (h : b = true → i ≤ l.length) :
    Yr P ⟨dst, .slice t x (some y) none none, ty, pos, aft, gd⟩ n K w0 L b (.string (bs (l.drop i))) := fun a w hb hkn _ => by
  have h1 := h hb
  have h3 := bs_size l
  have e := bs_ext l i l.length
  rw [List.take_length] at e
  simp only [execOp, hx a hb hkn, Option.map_none, Option.map_some, hy a hb hkn, Instr.sliceAt, Sem.run_bind, run_underlying ht, Result.andThen_ok, Instr.slice, Instr.sliceBounds, Instr.sliceBound, asIntOf, Sem.run_pure]
  simp [h3, h1, e]
theorem ys_slStrHi {t : TypeId} {x z : Operand} {l : List UInt8} {j : Nat} {k' : IntKind} (ht : P.underlying t = some .string) (hx : Ev n b K x (.string (bs l))) (hz : Ev n b K z (.int k' (j : Int))) (h : b = true → j ≤ l.length) :
    Yr P ⟨dst, .slice t x none (some z) none, ty, pos, aft, gd⟩ n K w0 L b (.string (bs (l.take j))) := fun a w hb hkn _ => by
  have h2 := h hb
  have h3 := bs_size l
  have e := bs_ext l 0 j
  rw [List.drop_zero] at e
  simp only [execOp, hx a hb hkn, Option.map_none, Option.map_some, hz a hb hkn, Instr.sliceAt, Sem.run_bind, run_underlying ht, Result.andThen_ok, Instr.slice, Instr.sliceBounds, Instr.sliceBound, asIntOf, Sem.run_pure]
  simp [h3, h2, e]

/-! ### bytes -/
/-- A number as a byte. -/
theorem wrap_u8 (p : Int) : IntKind.u8.wrap p = ((b8 p).toNat : Int) := by
  rw [b8_val]
  simp [IntKind.wrap, IntKind.bits, IntKind.signed]
theorem ys_cvB {s t : TypeId} {x : Operand} {ds : TypeDesc} {k : IntKind} {p : Int} (hs : P.underlying s = some ds) (ht : P.underlying t = some (.int .u8)) (hx : Ev n b K x (.int k p)) : Yr P ⟨dst, .convert s t x, ty, pos, aft, gd⟩ n K w0 L b (.int .u8 ((b8 p).toNat : Int)) :=
  Yr.of_imp (fun _ => by rw [wrap_u8]) (ys_cv hs ht hx)
/-- The bytes of a slice, as a text. -/
theorem run_bytes {w : World} {A : Option Addr} {l : List UInt8} {cap B : Nat} (h : Sl encB 1 w B (.slice A l.length cap) l) : (Conv.bytesToString (.slice A l.length cap)).run P w = .ok (.string (bs l)) w := by
  obtain ⟨A', cap', hv, h1, h2, h3⟩ := h
  simp only [Value.slice.injEq, true_and] at hv
  obtain ⟨rfl, rfl⟩ := hv
  cases A with
  | none =>
    have : l = [] := List.eq_nil_of_length_eq_zero (Decidable.byContradiction fun h => by
      obtain ⟨g, o, hA, _⟩ := h3 (by omega)
      cases hA)
    subst this
    rfl
  | some a =>
    have hload : (loadCells a l.length).run P w = .ok (l.map (fun x => Value.int .u8 (x.toNat : Int))).toArray w := by
      rcases Nat.eq_zero_or_pos l.length with h0 | hp
      · have : l = [] := List.eq_nil_of_length_eq_zero h0
        subst this
        simp [loadCells, loadCellsFrom]
      · obtain ⟨g, o, hA, _, hc⟩ := h3 hp
        simp only [Option.some.injEq] at hA
        subst hA
        have := run_loadCells_list (P := P) w ⟨g, o, none⟩ (l.map (fun x => Value.int .u8 (x.toNat : Int))) (fun j u hj => by
          rw [List.getElem?_map] at hj
          obtain ⟨x, hx, rfl⟩ := Option.map_eq_some_iff.1 hj
          have := hc j x hx 0 _ rfl
          rw [Addr.add_mid]
          simpa using this)
        rwa [List.length_map] at this
    have hloop : ∀ (m : List UInt8) (s : ByteArray), m.foldl (fun b a => b.push a) s = s ++ bs m := by
      intro m
      induction m with
      | nil => intro s; apply ByteArray.ext; rw [ByteArray.data_append]; simp [bs]
      | cons x r ih =>
        intro s
        rw [List.foldl_cons, ih]
        apply ByteArray.ext
        rw [ByteArray.data_append, ByteArray.data_append, ByteArray.data_push]
        simp [bs]
    have e2 : ByteArray.empty ++ bs l = bs l := by apply ByteArray.ext; rw [ByteArray.data_append]; simp [bs]
    simp only [Conv.bytesToString, Sem.run_bind, hload, Result.andThen_ok, List.forIn_toArray]
    simp [hloop, e2]
theorem ys_str {s t e : TypeId} {x : Operand} {A : Option Addr} {l : List UInt8} {cap : Nat} (hs : P.underlying s = some (.slice e)) (he : P.underlying e = some (.int .u8)) (ht : P.underlying t = some .string) (hx : Ev n b K x (.slice A l.length cap))
    (h : b = true → ∀ w, Wd w0 L w → Sl encB 1 w w.heap.size (.slice A l.length cap) l) : Yr P ⟨dst, .convert s t x, ty, pos, aft, gd⟩ n K w0 L b (.string (bs l)) := fun a w hb hkn hw => by
  have h1 := run_bytes (P := P) (h hb w hw)
  simp only [execOp, hx a hb hkn]
  simp [convert, run_underlying hs, run_underlying ht, run_underlying he, h1]
/-- 'a[:]', 'a[:h]' of an array. -/
theorem ys_arr {t t1 e m sz g : Nat} {x : Operand} (hp : P.underlying t = some (.array m e)) (hz : Size P e sz) (hx : Ev n b K x (.pointer (some ⟨g, 0, none⟩))) : Yr P ⟨dst, .slice t x none none none, ty, pos, aft, gd⟩ n K w0 L b (.slice (some ⟨g, 0, none⟩) m m) := fun a w hb hkn _ => by
  simp only [execOp, hx a hb hkn, Option.map_none, Instr.sliceAt]
  simp [run_underlying hp, Instr.sureAddr, Instr.sliceBounds, Instr.sliceBound, asIntOf, hz w, Addr.add]
theorem ys_arrHi {t e m sz g h : Nat} {x y : Operand} {k : IntKind} (hp : P.underlying t = some (.array m e)) (hz : Size P e sz) (hx : Ev n b K x (.pointer (some ⟨g, 0, none⟩))) (hy : Ev n b K y (.int k (h : Int))) (hh : b = true → h ≤ m) : Yr P ⟨dst, .slice t x none (some y) none, ty, pos, aft, gd⟩ n K w0 L b (.slice (some ⟨g, 0, none⟩) h m) := fun a w hb hkn _ => by
  have h1 : (h : Int) ≤ (m : Int) := by have := hh hb; omega
  simp only [execOp, hx a hb hkn, hy a hb hkn, Option.map_none, Option.map_some, Instr.sliceAt]
  simp [run_underlying hp, Instr.sureAddr, Instr.sliceBounds, Instr.sliceBound, asIntOf, hz w, Addr.add, h1]
  intro h9; omega
theorem ys_ixAI {t e m sz : Nat} {x y : Operand} {g o : Nat} {ik : IntKind} {k : Int} (h1 : ArrayT P t m e) (h2 : Size P e sz) (hx : Ev n b K x (.pointer (some ⟨g, o, none⟩))) (hy : Ev n b K y (.int ik k)) (h : b = true → 0 ≤ k ∧ k < m) :
    Yr P ⟨dst, .indexAddr t x y, ty, pos, aft, gd⟩ n K w0 L b (.pointer (some ⟨g, o + k.toNat * sz, none⟩)) := fun a w hb hkn hw => by
  obtain ⟨h3, h4⟩ := h hb
  obtain ⟨j, rfl⟩ := Int.eq_ofNat_of_zero_le h3
  exact ys_ixA h1 h2 hx hy (fun _ => by omega) a w hb hkn hw
theorem ys_quoE {t t' : TypeId} {x y : Operand} {p q : Int} (hx : Ev n b K x (.int .i64 p)) (hy : Ev n b K y (.int .i64 q)) (h : b = true → 0 ≤ p ∧ p ≤ 9223372036854775807 ∧ 0 < q) : Yr P ⟨dst, .binOp .quo t x y t', ty, pos, aft, gd⟩ n K w0 L b (.int .i64 (p / q)) :=
  Yr.of_imp (fun hb => by
    obtain ⟨h1, h2, h3⟩ := h hb
    rw [Int.tdiv_eq_ediv_of_nonneg h1, wrap_i64]
    have := Int.ediv_nonneg h1 (Int.le_of_lt h3)
    have := Int.ediv_le_self q h1
    unfold I64; omega) (ys_quo hx hy (fun hb => by have := (h hb).2.2; omega))
theorem ys_remE {t t' : TypeId} {x y : Operand} {k : IntKind} {p q : Int} (hx : Ev n b K x (.int k p)) (hy : Ev n b K y (.int k q)) (h : b = true → 0 ≤ p ∧ 0 < q) : Yr P ⟨dst, .binOp .rem t x y t', ty, pos, aft, gd⟩ n K w0 L b (.int k (p % q)) :=
  Yr.of_imp (fun hb => by rw [Int.tmod_eq_emod_of_nonneg (h hb).1]) (ys_rem hx hy (fun hb => by have := (h hb).2; omega))
/-- An array put together. -/
def BuildA (P : Program) (t : TypeId) (zs : List Value) (size : Nat) : Prop :=
  (∃ z, (∀ w, (zeroValue t).run P w = .ok z w) ∧ z.cells = zs.toArray) ∧ ∃ m e, P.underlying t = some (.array m e) ∧ ∀ w, (sizeOf e).run P w = .ok size w
theorem ys_bldA {t size : Nat} {ps : List (Nat × Operand)} {vs zs us : List Value} (h : BuildA P t zs size) (hx : EvL n b K (ps.map (·.2)) vs) (hr : fillL (fun i => some (i * size, size)) zs ((ps.map (·.1)).zip vs) = some us) :
    Yr P ⟨dst, .build t ps.toArray, ty, pos, aft, gd⟩ n K w0 L b (.agg us.toArray) := ys_build hx fun w => by
  obtain ⟨⟨z, hz, hc⟩, m, e, hu, hm⟩ := h
  have h1 := fill_of hr
  simp only [Instr.build, Sem.run_bind, hz, Result.andThen_ok, run_underlying hu, hm, hc]
  simp [h1]
end ops

/-! ### the first cells of a block; copy -/
section
variable {P : Program} {n : Nat} {w0 : World} {K : KL} {L : List Chunk} {ty : TypeId} {pos : String} {aft : Array Edge} {gd : Option (Nat × Bool)} {a : Act} {w : World} {Z : Act → World → Prop} {Q : Exit → Act → World → Prop} {d : Nat}
theorem Src.blkN {size m : Nat} {news cs : List Value} (hw : Wd w0 L w) {k g c : Nat} {e : TypeId} {fr : Nat × Nat} (hk : L[k]? = some (.blk g (.cells cs.toArray e fr))) (hn : news = cs.take (m * size)) (hl : m * size ≤ cs.length) (h1 : ∀ u ∈ cs, u.oneCell' = true) : Src P w size (.slice (some ⟨g, 0, none⟩) m c) m news := by
  subst hn
  refine Src.at_ (by simp; omega) (fun u hu => h1 u (List.mem_of_mem_take hu)) (fun j u hj => ?_)
  rw [cell_of_row w g (0 + j) _ e fr (hw.get hk).2]
  rw [List.getElem?_take] at hj
  split at hj
  · simpa using hj
  · cases hj
/-- copy into the beginning of a block. -/
theorem op_copyB {t t2 e size g k m mx c : Nat} {x y : Operand} {cs news : List Value} {e' : TypeId} {yv : Value} (S : St n w0 K L a w) (ht : P.underlying t = some (.slice e)) (hz : Size P e size) (hx : Ev n true K x (.slice (some ⟨g, 0, none⟩) mx c)) (hy : Ev n true K y yv)
    (hk : L[k]? = some (.blk g (.cells cs.toArray e'))) (hlen : ∃ q, (∀ W, (Builtin.lenOf yv).run P W = .ok q W) ∧ m = min q mx) (hsrc : (Builtin.firstCells size m yv).run P w = .ok news.toArray w) (hl : news.length ≤ cs.length) (h1 : ∀ u ∈ news, u.oneCell' = true) (hd : Nat.blt d n = true)
    (next : ∀ a w, St n w0 ((d, true, .int .i64 (m : Int)) :: K) (L.set k (.blk g (.cells (lay cs 0 news).toArray e'))) a w → Z a w) : Oper.wp P ⟨some d, .call ⟨.builtin .copy, #[x, y], #[t, t2]⟩, ty, pos, aft, gd⟩ a w Z Q := by
  have hg := (S.wd.get hk).2
  obtain ⟨q, hq, rfl⟩ := hlen
  obtain ⟨w', hr, hh, hb⟩ := run_store_cells (P := P) news 0 0 cs w hg (by omega) h1
  refine run_wp (v := .int .i64 (min q mx : Nat)) (w' := w') ?_ (next _ _ ⟨S.kn.put hd _, S.wd.change hk hb ⟨(S.wd.get hk).1, by simpa using hh⟩ (fun _ h => .inl h)⟩)
  have e1 : Nat.min q mx = min q mx := rfl
  simp only [execOp, resolve, invoke, builtin, Sem.run_bind, Sem.run_pure, Result.andThen_ok, List.map_toArray, List.map_cons, List.map_nil, hx a rfl S.kn, hy a rfl S.kn]
  simp [Builtin.copy_, run_underlying ht, hq, hz w, hsrc, hr, goInt, e1]
end
theorem Sl.first {P : Program} {w : World} {α : Type} {enc : α → List Value} {size B : Nat} {A : Option Addr} {l : List α} {cap : Nat} (h : Sl enc size w B (.slice A l.length cap) l) (m : Nat) (hm : m ≤ l.length) (hsz : 0 < size) (he : ∀ x, (enc x).length = size) :
    (Builtin.firstCells size m (.slice A l.length cap)).run P w = .ok ((l.take m).flatMap enc).toArray w := by
  have hflen : ∀ l : List α, (l.flatMap enc).length = l.length * size := by
    intro l
    induction l with
    | nil => simp
    | cons x r ih => simp [he, ih, Nat.add_mul, Nat.add_comm]
  obtain ⟨A', cap', hv, h2, h3, h4⟩ := h
  simp only [Value.slice.injEq, true_and] at hv
  obtain ⟨rfl, rfl⟩ := hv
  rcases Nat.eq_zero_or_pos l.length with h0 | hp
  · have : l = [] := List.eq_nil_of_length_eq_zero h0
    subst this
    have : m = 0 := by simpa using hm
    subst this
    cases A <;> simp [Builtin.firstCells, loadCells, loadCellsFrom]
  · obtain ⟨g, o, rfl, hg, hc⟩ := h4 hp
    have hs := Src.sl (P := P) (w := w) (enc := enc) (size := size) (B := B) (c := cap) (l := l.take m) (A := some ⟨g, o, none⟩) (cap := cap) ⟨_, _, rfl, by simp; omega, h3, fun _ => ⟨g, o, rfl, hg, fun k x hx => hc k x (by
      rw [List.getElem?_take] at hx
      split at hx
      · exact hx
      · cases hx)⟩⟩ hsz he
    have hlen : (l.take m).length = m := by simp; omega
    have e2 : (some (⟨g, o, none⟩ : Addr)) = some ⟨g, o, none⟩ := rfl
    refine run_firstCells_some (P := P) w size m ⟨g, o, none⟩ l.length cap _ (by rw [hflen, hlen]) (fun j u hj => ?_)
    rw [Addr.add_mid]
    have hget : ∀ (l : List α) (j : Nat) (u : Value), (l.flatMap enc)[j]? = some u → ∃ x, l[j / size]? = some x ∧ (enc x)[j % size]? = some u := by
      intro l
      induction l with
      | nil => intro j u hj; simp at hj
      | cons x r ih =>
        intro j u hj
        rw [List.flatMap_cons, List.getElem?_append] at hj
        split at hj
        · rename_i hlt
          rw [he] at hlt
          exact ⟨x, by simp [Nat.div_eq_of_lt hlt], by rw [Nat.mod_eq_of_lt hlt]; exact hj⟩
        · rename_i hge
          rw [he] at hge hj
          obtain ⟨y, h2, h3⟩ := ih _ _ hj
          have hge' : size ≤ j := by omega
          refine ⟨y, ?_, ?_⟩
          · rw [show j / size = (j - size) / size + 1 from Nat.div_eq_sub_div hsz hge']
            simpa using h2
          · rw [Nat.mod_eq_sub_mod hge']; exact h3
    obtain ⟨x, h5, h6⟩ := hget _ j u hj
    rw [List.getElem?_take] at h5
    split at h5
    · have := hc _ x h5 _ u h6
      rw [show o + j = o + j / size * size + j % size by rw [Nat.add_assoc, Nat.mul_comm, Nat.div_add_mod]]
      exact this
    · cases h5
/-- A piece of a slice, from lo on. -/
theorem Sl.drop_ {w : World} {α : Type} {enc : α → List Value} {size B : Nat} {A : Option Addr} {l : List α} {cap : Nat} (h : Sl enc size w B (.slice A l.length cap) l) (lo : Nat) (hlo : lo ≤ l.length) :
    Sl enc size w B (.slice (if cap = lo then A else A.map (·.add (lo * size))) (l.drop lo).length (cap - lo)) (l.drop lo) := by
  obtain ⟨A', cap', hv, h2, h3, h4⟩ := h
  simp only [Value.slice.injEq, true_and] at hv
  obtain ⟨rfl, rfl⟩ := hv
  refine ⟨_, _, rfl, by simp; omega, by omega, fun hp => ?_⟩
  have hp' : lo < l.length := by simp at hp; omega
  obtain ⟨g, o, rfl, hg, hc⟩ := h4 (by omega)
  rw [if_neg (by omega)]
  refine ⟨g, o + lo * size, by simp [Addr.add_mid], hg, fun k x hx j u hu => ?_⟩
  rw [List.getElem?_drop] at hx
  have := hc _ x hx j u hu
  rw [Nat.add_mul] at this
  rw [show o + lo * size + k * size + j = o + (lo * size + k * size) + j by omega]
  exact this
section
variable {P : Program} {n : Nat} {w0 : World} {K : KL} {L : List Chunk} {ty : TypeId} {pos : String} {aft : Array Edge} {gd : Option (Nat × Bool)} {a : Act} {w : World} {Z : Act → World → Prop} {Q : Exit → Act → World → Prop} {d : Nat}
/-- copy of a slice that reads as a list, into the beginning of a block. -/
theorem op_copyBS {α : Type} {enc : α → List Value} {l : List α} {t t2 e size g k m mx c cap B : Nat} {x y : Operand} {cs : List Value} {e' : TypeId} {A : Option Addr} (news cs' : List Value) (S : St n w0 K L a w) (ht : P.underlying t = some (.slice e)) (hz : Size P e size) (hx : Ev n true K x (.slice (some ⟨g, 0, none⟩) mx c)) (hy : Ev n true K y (.slice A l.length cap))
    (hk : L[k]? = some (.blk g (.cells cs.toArray e'))) (hs : Sl enc size w0 B (.slice A l.length cap) l) (hB : B ≤ w0.heap.size) (hsz : Nat.blt 0 size = true) (he : ∀ x, (enc x).length = size) (hm : m = min l.length mx) (hnews : (l.take m).flatMap enc = news) (hcs : lay cs 0 news = cs') (hl : news.length ≤ cs.length) (h1 : ∀ u ∈ news, u.oneCell' = true) (hd : Nat.blt d n = true)
    (next : ∀ a w, St n w0 ((d, true, .int .i64 (m : Int)) :: K) (L.set k (.blk g (.cells cs'.toArray e'))) a w → Z a w) : Oper.wp P ⟨some d, .call ⟨.builtin .copy, #[x, y], #[t, t2]⟩, ty, pos, aft, gd⟩ a w Z Q := by
  subst hcs
  refine op_copyB S ht hz hx hy hk ⟨l.length, fun W => by simp [Builtin.lenOf], hm⟩ ?_ hl h1 hd next
  rw [← hnews]
  exact Sl.first (Sl.old S.wd (hs.mono hB)) m (by omega) (by simpa [Nat.blt_eq] using hsz) he
end
section
variable {P : Program} {n : Nat} {w0 : World} {K : KL} {L : List Chunk} {ty : TypeId} {pos : String} {aft : Array Edge} {gd : Option (Nat × Bool)} {a : Act} {w : World} {Z : Act → World → Prop} {Q : Exit → Act → World → Prop} {d : Nat}
/-- append of a list. -/
theorem op_extend {α : Type} {enc : α → List Value} {l : List α} (ys : List α) {t t2 e bytes size cap k : Nat} {d2 : TypeDesc} {z : Value} {A : Option Addr} {s x : Operand} {xv : Value} (S : St n w0 K L a w) (ht : P.underlying t = some (.slice e)) (ht2 : P.underlying t2 = some d2) (hd2 : d2 = .string ∨ ∃ e2, d2 = .slice e2)
    (hi : InfoT P e z size bytes) (hzs : z.cells.size = size) (hk : L[k]? = some (rowOf e size enc A cap l)) (hs : Ev n true K s (.slice A l.length cap)) (hx : Ev n true K x xv) (hsrc : Src P w size xv ys.length (ys.flatMap enc)) (hb : (l.length + ys.length) * bytes ≤ 200000000000000) (hb1 : Nat.blt 0 bytes = true) (hb2 : Nat.ble bytes 65536 = true) (hd : Nat.blt d n = true)
    (next : ∀ A' cap' a w, St n w0 ((d, true, .slice A' (l ++ ys).length cap') :: K) (L.set k (rowOf e size enc A' cap' (l ++ ys))) a w → Z a w) :
    Oper.wp P ⟨some d, .call ⟨.builtin .append, #[s, x], #[t, t2]⟩, ty, pos, aft, gd⟩ a w Z Q := by
  refine op_append S ht ht2 hd2 hi hzs hs hx hk hsrc hb hb1 hb2 hd (fun A' cap' a w _ S' => next A' cap' a w ?_)
  unfold rowOf
  rw [List.length_append, List.flatMap_append]; exact S'
end
/-- A text is what append takes. -/
theorem Src.str {P : Program} {w : World} {l : List UInt8} : Src P w 1 (.string (bs l)) l.length (l.flatMap encB) := by
  have e : ((bs l).extract 0 l.length).data.map (fun b => Value.int .u8 (b.toNat : Int)) = (l.flatMap encB).toArray := by
    rw [bs_ext, flatB]; simp [bs]
  exact ⟨fun W => by simp [Builtin.lenOf, bs_size], by simp only [Builtin.firstCells, e]; rfl, by simp only [Builtin.firstCells, e]; rfl, by rw [flatB_len, Nat.mul_one], fun u hu => by
    rw [flatB] at hu
    obtain ⟨x, _, rfl⟩ := List.mem_map.1 hu
    rfl⟩
section
variable {P : Program} {Q : Exit → Act → World → Prop} {J : Act → World → Prop} {l i : Nat} {a : Act} {w : World}
/-- A scope that is left by a jump ahead, to one label. -/
theorem st_scope {c rest : Code} (l : Nat) (J : Act → World → Prop) (hf : findLabel c l = some rest) (first : c.wp P (Exit.jump l J Q) a w) (pass : ∀ a w, J a w → rest.wp P (Exit.jump l (fun _ _ => False) Q) a w) : (Code.scope c).wp P Q a w :=
  wp_scope_jumps l J (fun _ _ => 0) hf first fun a w hJ => wp_mono (pass a w hJ) fun e a w h => by
    cases e with
    | goto l' => exact h.2.elim
    | _ => exact h
theorem jump_ret (h : Q .ret a w) : Exit.jump l J Q .ret a w := h
theorem jump_normal (h : Q .normal a w) : Exit.jump l J Q .normal a w := h
theorem jump_exit (h : Q (.exit i) a w) : Exit.jump l J Q (.exit i) a w := h
theorem jump_goto (h : J a w) : Exit.jump l J Q (.goto l) a w := ⟨rfl, h⟩
/-- A loop, round by round: at most n of them. -/
theorem st_rounds {c : Code} (n : Nat) (h : Code.rounds P c Q n a w) : (Code.loop c).wp P Q a w := wp_loop_rounds n h
theorem st_round {c : Code} {n : Nat} (h : c.wp P (Exit.then (fun a w => Code.rounds P c Q n a w) Q) a w) : Code.rounds P c Q (n + 1) a w := h
end
section ops
variable {P : Program} {n : Nat} {w0 : World} {K : KL} {L : List Chunk} {b : Bool} {dst : Option Tmp} {ty : TypeId} {pos : String} {aft : Array Edge} {gd : Option (Nat × Bool)}
/-- Loads out of a block of the call's own, by a fact of its cells; of the whole of it. -/
theorem ys_ldN {t : TypeId} {x : Operand} {g i k : Nat} {cs : List Value} {e : TypeId} {fr : Nat × Nat} {v : Value} (h1 : One P t) (hx : Ev n b K x (.pointer (some ⟨g, i, none⟩)))
    (hk : L[k]? = some (.blk g (.cells cs.toArray e fr))) (hc : b = true → cs[i]? = some v) : Yr P ⟨dst, .load t x, ty, pos, aft, gd⟩ n K w0 L b v := fun a w hb hkn hw => by
  have hg := (hw.get hk).2
  simp [execOp, hx a hb hkn, Instr.loadAt, Instr.sureAddr, run_load_one h1 (ad := ⟨g, i, none⟩) ((cell_of_row w g i _ e fr hg).trans (by simpa using hc hb))]
theorem ys_ldAll {t : TypeId} {m : Nat} {x : Operand} {g k : Nat} {cs : List Value} {e : TypeId} {fr : Nat × Nat} (h1 : Many P t m) (hx : Ev n b K x (.pointer (some ⟨g, 0, none⟩)))
    (hk : L[k]? = some (.blk g (.cells cs.toArray e fr))) (hm : cs.length = m) : Yr P ⟨dst, .load t x, ty, pos, aft, gd⟩ n K w0 L b (.agg cs.toArray) := fun a w hb hkn hw => by
  have hg := (hw.get hk).2
  have h := run_load_many (P := P) (ad := ⟨g, 0, none⟩) h1 hm (w := w) (fun j u hj => by
    rw [Addr.add_mid, cell_of_row w g (0 + j) _ e fr hg]; simpa using hj)
  simp [execOp, hx a hb hkn, Instr.loadAt, Instr.sureAddr, h]
end ops
end Go.Fw
