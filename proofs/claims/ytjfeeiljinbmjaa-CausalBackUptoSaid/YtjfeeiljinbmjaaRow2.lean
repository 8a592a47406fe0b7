/- Stores into rows of the call's own, element by element; clear; rows made shorter. Of no program. -/
import Derived.Test.YtjfeeiljinbmjaaIns
set_option linter.unusedVariables false
set_option linter.unusedSimpArgs false
namespace Go.Fw
open Go.RowKit
section
variable {P : Program} {n : Nat} {w0 : World} {K : KL} {L : List Chunk} {ty : TypeId} {pos : String} {aft : Array Edge} {gd : Option (Nat × Bool)} {a : Act} {w : World} {Z : Act → World → Prop} {Q : Exit → Act → World → Prop} {d : Nat}
/-- An element of a row written anew. -/
theorem op_stRow {α : Type} {enc : α → List Value} {size t e g cap k i o : Nat} {x y : Operand} {l : List α} {vs : List Value} {xo yn : α} (S : St n w0 K L a w) (he : ∀ x, (enc x).length = size) (hs : Nat.blt 0 size = true) (hz : Size P t size) (hx : Ev n true K x (.pointer (some ⟨g, o, none⟩))) (hy : Ev n true K y (.agg vs.toArray)) (hvs : vs = enc yn) (h1 : ∀ v ∈ enc yn, v.oneCell' = true)
    (hk : L[k]? = some (rowOf e size enc (some ⟨g, 0, none⟩) cap l)) (hi : l[i]? = some xo) (ho : o = i * size)
    (next : ∀ a w, St n w0 K (L.set k (rowOf e size enc (some ⟨g, 0, none⟩) cap (l.set i yn))) a w → Z a w) : Oper.wp P ⟨none, .store t x y, ty, pos, aft, gd⟩ a w Z Q := by
  subst hvs; subst ho
  have hs := Nat.le_of_ble_eq_true hs
  have hlt : i < l.length := (List.getElem?_eq_some_iff.1 hi).1
  have hle : i * size + (enc yn).length ≤ l.length * size := by
    rw [he, ← Nat.succ_mul]; exact Nat.mul_le_mul_right _ hlt
  obtain ⟨w', hr, hw⟩ := row_store (P := P) S hk hle (by rw [he]; exact hs) h1
  have hfl := flat_lay he (x := xo) (y := yn) (j := 0) (vs := enc yn) (by rw [he]; omega) (by rw [lay_all _ _ _ (by rw [he, he]; omega)]; simp) l i hi
  rw [Nat.add_zero] at hfl
  rw [hfl] at hw
  refine run_wp0 (w' := w') ?_ (next _ _ ⟨S.kn, by simpa [rowOf] using hw⟩)
  simp [execOp, hx a rfl S.kn, hy a rfl S.kn, Instr.storeAt, Instr.sureAddr, storeVar, hz w, Value.cells, he, hr]
/-- A field of an element of a row. -/
theorem op_stFld {α : Type} {enc : α → List Value} {size t e g cap k i j o : Nat} {x y : Operand} {l : List α} {v : Value} {xo : α} (yn : α) (S : St n w0 K L a w) (he : ∀ x, (enc x).length = size) (hz : Size P t 1) (hx : Ev n true K x (.pointer (some ⟨g, o, none⟩))) (hy : Ev n true K y v) (hv : v.oneCell' = true)
    (hk : L[k]? = some (rowOf e size enc (some ⟨g, 0, none⟩) cap l)) (hi : l[i]? = some xo) (ho : o = i * size + j) (hj : Nat.blt j size = true) (hyn : (enc xo).set j v = enc yn)
    (next : ∀ a w, St n w0 K (L.set k (rowOf e size enc (some ⟨g, 0, none⟩) cap (l.set i yn))) a w → Z a w) : Oper.wp P ⟨none, .store t x y, ty, pos, aft, gd⟩ a w Z Q := by
  subst ho
  have hj : j < size := by simpa [Nat.blt_eq] using hj
  have hlt : i < l.length := (List.getElem?_eq_some_iff.1 hi).1
  have hle : i * size + j + 1 ≤ l.length * size := by
    have := Nat.mul_le_mul_right size hlt
    rw [Nat.succ_mul] at this
    omega
  obtain ⟨w', hr, hw⟩ := row_store (P := P) (vs := [v]) S hk (by simpa using hle) (by simp) (by simpa using hv)
  have hfl := flat_lay he (x := xo) (y := yn) (j := j) (vs := [v]) (by simp; omega) (by simpa [lay] using hyn) l i hi
  rw [hfl] at hw
  have hvc : v.cells = #[v] := by cases v <;> simp_all [Value.cells, Value.oneCell']
  refine run_wp0 (w' := w') ?_ (next _ _ ⟨S.kn, by simpa [rowOf] using hw⟩)
  simp [execOp, hx a rfl S.kn, hy a rfl S.kn, Instr.storeAt, Instr.sureAddr, storeVar, hz w, hvc, hr]
/-- A row's slice made shorter. -/
theorem Wd.shrink {α : Type} {enc : α → List Value} {size e cap k : Nat} {A : Option Addr} {l : List α} (W : Wd w0 L w) (he : ∀ x, (enc x).length = size) (hk : L[k]? = some (rowOf e size enc A cap l)) (m : Nat) (hm : m ≤ l.length) :
    Wd w0 (L.set k (rowOf e size enc A cap (l.take m))) w := by
  have h := W.get hk
  have hlm : (l.take m).length = m := by simp; omega
  refine W.retell hk ⟨by rw [flat_len he], ?_⟩ fun b hb => hb
  rcases h.2 with ⟨h0, hc⟩ | ⟨g, cur, rfl, hp, hB, hg, hn, hcm, hcs, ht⟩
  · exact .inl ⟨by omega, hc⟩
  · refine .inr ⟨g, cur, rfl, hp, hB, hg, by omega, hcm, hcs, ?_⟩
    rw [← flat_take he, ← ht, hlm, List.take_take, Nat.min_eq_left (Nat.mul_le_mul_right _ hm)]
/-- 'clear(s[m:])': what is left is the shorter row. -/
theorem op_clear {α : Type} {enc : α → List Value} {size t e bytes g cap k m len c : Nat} {zv : Value} {x : Operand} {l : List α} (S : St n w0 K L a w) (he : ∀ x, (enc x).length = size) (hs : Nat.blt 0 size = true) (ht : P.underlying t = some (.slice e)) (hi : InfoT P e zv size bytes) (hzs : zv.cells.size = size) (hz1 : ∀ u ∈ zv.cells, u.oneCell' = true)
    (hx : Ev n true K x (.slice (some ⟨g, 0 + m * size, none⟩) len c)) (hk : L[k]? = some (rowOf e size enc (some ⟨g, 0, none⟩) cap l)) (hm : m < l.length) (hlen : len = l.length - m)
    (next : ∀ a w, St n w0 K (L.set k (rowOf e size enc (some ⟨g, 0, none⟩) cap (l.take m))) a w → Z a w) : Oper.wp P ⟨none, .call ⟨.builtin .clear, #[x], #[t]⟩, ty, pos, aft, gd⟩ a w Z Q := by
  have hs := Nat.le_of_ble_eq_true hs
  obtain ⟨inf, hi1, hi2, hi3, hi4⟩ := hi.parts
  have hzl : (Builtin.zeroCells zv.cells len).toList.length = len * size := by rw [Array.length_toList, size_zeroCells, hzs]
  have hmul : m * size + len * size = l.length * size := by rw [← Nat.add_mul]; congr 1; omega
  have hpos : 0 < len * size := Nat.mul_pos (by omega) hs
  obtain ⟨w', hr, hw⟩ := row_store (P := P) (vs := (Builtin.zeroCells zv.cells len).toList) S hk (i := 0 + m * size) (by rw [hzl]; omega) (by omega) (fun v hv => zeroCells_one _ _ hz1 v hv)
  have hk' : (L.set k (.row e size (some ⟨g, 0, none⟩) l.length cap (lay (l.flatMap enc) (0 + m * size) (Builtin.zeroCells zv.cells len).toList)))[k]? = some (.row e size (some ⟨g, 0, none⟩) l.length cap (lay (l.flatMap enc) (0 + m * size) (Builtin.zeroCells zv.cells len).toList)) := by
    have := (List.getElem?_eq_some_iff.1 hk).1
    simp [this]
  have h := hw.get hk'
  have hlm : (l.take m).length = m := by simp; omega
  have hW : Wd w0 (L.set k (rowOf e size enc (some ⟨g, 0, none⟩) cap (l.take m))) w' := by
    have := hw.retell hk' (c' := rowOf e size enc (some ⟨g, 0, none⟩) cap (l.take m)) ⟨by rw [flat_len he], ?_⟩ (fun b hb => hb)
    · simpa using this
    · rcases h.2 with ⟨h0, hc⟩ | ⟨g', cur, hA, hp, hB, hg, hn, hcm, hcs, ht'⟩
      · omega
      · refine .inr ⟨g', cur, hA, hp, hB, hg, by omega, hcm, hcs, ?_⟩
        have e1 : (cur.toList.take (l.length * size)).take (m * size) = (lay (l.flatMap enc) (0 + m * size) (Builtin.zeroCells zv.cells len).toList).take (m * size) := by rw [ht']
        rw [List.take_take, Nat.min_eq_left (Nat.mul_le_mul_right _ (by omega))] at e1
        rw [hlm, e1, lay_mid _ _ _ (by rw [hzl, flat_len he]; omega), Nat.zero_add, List.append_assoc, List.take_append_of_le_length (by rw [List.length_take, flat_len he, Nat.min_eq_left (Nat.mul_le_mul_right _ (by omega))]; omega), List.take_take, Nat.min_self, flat_take he]
  refine run_wp (v := .tuple #[]) (w' := w') ?_ (next _ _ ⟨S.kn, hW⟩)
  obtain ⟨q, rfl⟩ : ∃ q, len = q + 1 := ⟨len - 1, by omega⟩
  simp only [execOp, resolve, invoke, builtin, Sem.run_bind, Sem.run_pure, Result.andThen_ok, List.map_toArray, List.map_cons, List.map_nil, hx a rfl S.kn]
  rw [Nat.zero_add] at hr
  simp [Builtin.clear_, run_underlying ht, zeroValue, typeInfo, hi1, hi2, hr]
end
end Go.Fw
