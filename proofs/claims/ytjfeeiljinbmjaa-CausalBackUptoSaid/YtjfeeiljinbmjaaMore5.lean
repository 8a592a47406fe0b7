/- More laws of operations. Of no program. -/
import Derived.Test.YtjfeeiljinbmjaaRow2
import Derived.Test.YtjfeeiljinbmjaaOwn
set_option linter.unusedVariables false
set_option linter.unusedSimpArgs false
namespace Go.Fw
open Go.RowKit
theorem wrap_u64 {x : Int} (h0 : 0 ≤ x) (h1 : x ≤ 18446744073709551615) : IntKind.u64.wrap x = x := by
  simp only [IntKind.wrap, IntKind.bits, IntKind.signed]
  simp
  omega
section ops
variable {P : Program} {n : Nat} {w0 : World} {K : KL} {L : List Chunk} {b : Bool} {dst : Option Tmp} {ty : TypeId} {pos : String} {aft : Array Edge} {gd : Option (Nat × Bool)}
theorem ys_cvU {s t : TypeId} {x : Operand} {ds : TypeDesc} {k : IntKind} {p : Int} (hs : P.underlying s = some ds) (ht : P.underlying t = some (.int .u64)) (hx : Ev n b K x (.int k p)) (h : b = true → 0 ≤ p ∧ p ≤ 18446744073709551615) : Yr P ⟨dst, .convert s t x, ty, pos, aft, gd⟩ n K w0 L b (.int .u64 p) :=
  Yr.of_imp (fun hb => by rw [wrap_u64 (h hb).1 (h hb).2]) (ys_cv hs ht hx)
end ops
section
variable {n : Nat} {w0 : World} {K : KL} {L : List Chunk} {a : Act} {w : World} {c : Chunk}
theorem perm_pull {α : Type} : ∀ {L : List α} {k : Nat} {c : α}, L[k]? = some c → L.Perm (c :: L.eraseIdx k)
  | [], k, c, h => by simp at h
  | x :: r, 0, c, h => by simp at h; subst h; exact List.Perm.refl _
  | x :: r, k + 1, c, h => by
    have := perm_pull (L := r) (k := k) (by simpa using h)
    exact (this.cons x).trans (List.Perm.swap _ _ _)
theorem Wd.pull (W : Wd w0 L w) (k : Nat) (hk : L[k]? = some c) : Wd w0 (c :: L.eraseIdx k) w := W.perm (perm_pull hk)
theorem St.pull (S : St n w0 K L a w) (k : Nat) (hk : L[k]? = some c) : St n w0 K (c :: L.eraseIdx k) a w := ⟨S.kn, S.wd.pull k hk⟩
end
theorem flat_one {α : Type} {enc : α → List Value} (h : ∀ x, ∀ u ∈ enc x, u.oneCell' = true) (l : List α) : ∀ u ∈ l.flatMap enc, u.oneCell' = true := fun u hu => by
  obtain ⟨x, _, hx⟩ := List.mem_flatMap.1 hu
  exact h x u hx
theorem Wd.cell {w0 w : World} {L : List Chunk} (W : Wd w0 L w) {k g i : Nat} {cs : List Value} {e : TypeId} {fr : Nat × Nat} {v : Value} (hk : L[k]? = some (.blk g (.cells cs.toArray e fr))) (hc : nth cs i = some v) : w.cell? ⟨g, i, none⟩ = some v := by
  rw [cell_of_row w g i _ e fr (W.get hk).2]
  rw [nth_eq] at hc
  simpa using hc
theorem encB_one (x : UInt8) : ∀ u ∈ encB x, u.oneCell' = true := fun u hu => by simp [encB] at hu; subst hu; rfl
section split
variable {P : Program} {Q : Exit → Act → World → Prop} {n : Nat} {w0 : World} {K : KL} {L Lr : List Chunk} {a : Act} {w : World} {ops : Array Oper} {fuel : Nat} {listed : Array Bool} {md : Region.Mode}
/-- Either of two operations may come up. -/
theorem h_split {i j : Nat} {di dj : Option Tmp} {opi opj : Op} {tyi tyj : TypeId} {posi posj : String} {ai aj : Array Edge} (hr : Region.ready md ops listed = [i, j]) (hi : ops[i]? = some ⟨di, opi, tyi, posi, ai, none⟩) (hj : ops[j]? = some ⟨dj, opj, tyj, posj, aj, none⟩)
    (h1 : Oper.wp P ⟨di, opi, tyi, posi, ai, none⟩ a w (fun a' w' => Wd w0 Lr w' ∧ wpAnyH P md ops Q (Wd w0 Lr) fuel (listed.setIfInBounds i true) a' w') Q)
    (h2 : Oper.wp P ⟨dj, opj, tyj, posj, aj, none⟩ a w (fun a' w' => Wd w0 Lr w' ∧ wpAnyH P md ops Q (Wd w0 Lr) fuel (listed.setIfInBounds j true) a' w') Q) : wpAnyH P md ops Q (Wd w0 Lr) (fuel + 1) listed a w :=
  wpAnyH_all hr (by simp) fun k hk => by
    simp only [List.mem_cons, List.not_mem_nil, or_false] at hk
    rcases hk with rfl | rfl
    · unfold wpOp
      simp only [hi, Region.wanted, if_true]
      exact .inl h1
    · unfold wpOp
      simp only [hj, Region.wanted, if_true]
      exact .inl h2
theorem op_y {op : Op} {ty : TypeId} {pos : String} {aft : Array Edge} {gd : Option (Nat × Bool)} {d : Nat} {v : Value} {Z : Act → World → Prop} (S : St n w0 K L a w) (hy : Ys P ⟨some d, op, ty, pos, aft, gd⟩ n K w0 L true v) (hd : Nat.blt d n = true)
    (next : ∀ a w, St n w0 ((d, true, v) :: K) L a w → Z a w) : Oper.wp P ⟨some d, op, ty, pos, aft, gd⟩ a w Z Q := hy.wp S fun w' hw => next _ _ ⟨S.kn.put hd v, hw⟩
end split
/-- a value's cells, so many times -/
def zrep (len : Nat) (z : Value) : List Value := (List.replicate len ()).flatMap fun _ => z.cells.toList
theorem zrep_eq {z : Value} {sz : Nat} (len : Nat) (hz : z.cells.size = sz) : (Array.range (len * sz)).map (fun i => (if len * sz = 0 then #[] else z.cells)[i % (if len * sz = 0 then (#[] : Array Value) else z.cells).size]!) = (zrep len z).toArray := by
  have hl : (zrep len z).length = len * sz := by
    unfold zrep
    rw [flat_len (size := sz) (fun _ => by simpa using hz)]; simp
  apply Array.ext
  · simp [hl]
  · intro i h1 h2
    have hi : i < len * sz := by simpa using h1
    have hs : 0 < sz := by rcases Nat.eq_zero_or_pos sz with h | h; rw [h] at hi; simp at hi; exact h
    have hx : (List.replicate len ())[i / sz]? = some () := by
      rw [List.getElem?_replicate, if_pos ((Nat.div_lt_iff_lt_mul hs).2 hi)]
    have h3 := flat_get (enc := fun (_ : Unit) => z.cells.toList) (size := sz) (fun _ => by simpa using hz) hs (List.replicate len ()) i () hx
    have h4 : i % sz < z.cells.size := by rw [hz]; exact Nat.mod_lt _ hs
    rw [Array.getElem_map, Array.getElem_range, if_neg (by omega), hz, getElem!_pos z.cells _ h4]
    have h5 : (zrep len z)[i]? = some z.cells[i % sz] := by
      unfold zrep
      rw [h3, Array.getElem?_toList, Array.getElem?_eq_getElem h4]
    rw [List.getElem_toArray]
    exact (Option.some.inj ((List.getElem?_eq_getElem (by rw [hl]; exact hi)).symm.trans h5)).symm
section
variable {P : Program} {n : Nat} {w0 : World} {K : KL} {L : List Chunk} {ty : TypeId} {pos : String} {aft : Array Edge} {gd : Option (Nat × Bool)} {a : Act} {w : World} {Z : Act → World → Prop} {Q : Exit → Act → World → Prop} {d : Nat}
/-- A slice literal. -/
theorem op_bsliceZ {t e sz len : Nat} {z : Value} {ps : List (Nat × Operand)} {vs us : List Value} (S : St n w0 K L a w) (ht : P.underlying t = some (.slice e)) (hsz : ∀ w, (sizeOf e).run P w = .ok sz w) (hz : ∀ w, (zeroValue e).run P w = .ok z w)
    (hzc : z.cells.size = sz) (hmax : Nat.ble (len * sz) 16777216 = true) (hx : EvL n true K (ps.map (·.2)) vs) (hr : fillL (fun i => some (i * sz, sz)) (zrep len z) ((ps.map (·.1)).zip vs) = some us) (hd : Nat.blt d n = true)
    (next : ∀ g a w, St n w0 ((d, true, .slice (some ⟨g, 0, none⟩) len len) :: K) (.blk g (.cells us.toArray e) :: L) a w → Z a w) :
    Oper.wp P ⟨some d, .buildSlice t len ps.toArray, ty, pos, aft, gd⟩ a w Z Q := op_bslice (zrep len z) S ht hsz hz (zrep_eq len hzc) hmax hx hr hd next
end
theorem h_beginE {P : Program} {Q : Exit → Act → World → Prop} {n : Nat} {w0 : World} {K : KL} {L : List Chunk} {a : Act} {w : World} {ops : Array Oper} {id : Nat} (S : St n w0 K L a w) (hm : P.follows .mixedOrders = true) (k : Nat)
    (h : ∀ a w, St n w0 K L a w → wpAnyH P .any ops Q (Wd w0 (L.eraseIdx k)) ops.size (Array.replicate ops.size false) a w) : (Code.region id ops true).wp P Q a w := h_begin S hm _ h
end Go.Fw
