/- Copies within blocks, append of zeros, cap: what slices.Insert is made of. Of no program. -/
import Derived.Test.YtjfeeiljinbmjaaFlat
import Derived.Lib.Overlaps
set_option linter.unusedVariables false
set_option linter.unusedSimpArgs false
namespace Go.Fw
open Go.RowKit

section ops
variable {P : Program} {n : Nat} {w0 : World} {K : KL} {L : List Chunk} {b : Bool} {dst : Option Tmp} {ty : TypeId} {pos : String} {aft : Array Edge} {gd : Option (Nat × Bool)}
theorem ys_cap {t t' e : TypeId} {x : Operand} {A : Option Addr} {m c : Nat} (h1 : SliceT P t e) (hx : Ev n b K x (.slice A m c)) : Yr P ⟨dst, .call ⟨.builtin .cap, #[x], #[t]⟩, t', pos, aft, gd⟩ n K w0 L b (.int .i64 (c : Int)) := fun a w hb hkn _ => by
  simp [execOp, resolve, invoke, builtin, Builtin.cap_, hx a hb hkn, run_underlying h1, goInt]
end ops

section
variable {P : Program} {n : Nat} {w0 : World} {K : KL} {L : List Chunk} {ty : TypeId} {pos : String} {aft : Array Edge} {gd : Option (Nat × Bool)} {a : Act} {w : World} {Z : Act → World → Prop} {Q : Exit → Act → World → Prop} {d : Nat}
/-- What a slice of a block begins with. -/
theorem first_blk (W : Wd w0 L w) {k g o len c m size : Nat} {cs : List Value} {e : TypeId} {fr : Nat × Nat} (hk : L[k]? = some (.blk g (.cells cs.toArray e fr))) (hm : o + m * size ≤ cs.length) :
    (Builtin.firstCells size m (.slice (some ⟨g, o, none⟩) len c)).run P w = .ok ((cs.drop o).take (m * size)).toArray w := by
  refine run_firstCells_some (P := P) w size m ⟨g, o, none⟩ len c _ (by simp; omega) (fun j u hj => ?_)
  rw [Addr.add_mid, cell_of_row w g (o + j) _ e fr (W.get hk).2]
  rw [List.getElem?_take] at hj
  split at hj
  · rw [List.getElem?_drop] at hj; simpa using hj
  · cases hj
/-- copy into a block, from o on. -/
theorem op_copyG {t t2 e size g o k m mx c q : Nat} {x y : Operand} {cs news : List Value} {e' : TypeId} {yv : Value} (S : St n w0 K L a w) (ht : P.underlying t = some (.slice e)) (hz : Size P e size) (hx : Ev n true K x (.slice (some ⟨g, o, none⟩) mx c)) (hy : Ev n true K y yv)
    (hk : L[k]? = some (.blk g (.cells cs.toArray e'))) (hq : ∀ W, (Builtin.lenOf yv).run P W = .ok q W) (hm : m = min q mx) (hsrc : (Builtin.firstCells size m yv).run P w = .ok news.toArray w) (hl : o + news.length ≤ cs.length) (h1 : ∀ u ∈ news, u.oneCell' = true) (hd : Nat.blt d n = true)
    (next : ∀ a w, St n w0 ((d, true, .int .i64 (m : Int)) :: K) (L.set k (.blk g (.cells (lay cs o news).toArray e'))) a w → Z a w) : Oper.wp P ⟨some d, .call ⟨.builtin .copy, #[x, y], #[t, t2]⟩, ty, pos, aft, gd⟩ a w Z Q := by
  have hg := (S.wd.get hk).2
  subst hm
  obtain ⟨w', hr, hh, hb⟩ := run_store_cells (P := P) news o 0 cs w hg (by omega) h1
  refine run_wp (v := .int .i64 (min q mx : Nat)) (w' := w') ?_ (next _ _ ⟨S.kn.put hd _, S.wd.change hk hb ⟨(S.wd.get hk).1, by simpa using hh⟩ (fun _ h => .inl h)⟩)
  have e1 : Nat.min q mx = min q mx := rfl
  simp only [execOp, resolve, invoke, builtin, Sem.run_bind, Sem.run_pure, Result.andThen_ok, List.map_toArray, List.map_cons, List.map_nil, hx a rfl S.kn, hy a rfl S.kn]
  simp [Builtin.copy_, run_underlying ht, hq, hz w, hsrc, hr, goInt, e1]

theorem zeroCells_one (z : Array Value) (q : Nat) (h1 : ∀ u ∈ z, u.oneCell' = true) : ∀ u ∈ (Builtin.zeroCells z q).toList, u.oneCell' = true := by
  intro u hu
  simp only [Builtin.zeroCells, Array.toList_map, List.mem_map] at hu
  obtain ⟨i, hi, rfl⟩ := hu
  rcases Nat.eq_zero_or_pos z.size with h0 | hp
  · simp [h0] at hi
  · have : i % z.size < z.size := Nat.mod_lt _ hp
    rw [getElem!_pos z _ this]
    exact h1 _ (Array.getElem_mem this)

/-- 'append(s[:i], make(S, z)...)', where it does not fit: a new row, its first i elements s's, behind them zeros. -/
theorem op_appZ {t t2 e size bytes cap k i z n' : Nat} {ik : IntKind} {zv : Value} {A : Option Addr} {s x : Operand} {xs : List Value} (S : St n w0 K L a w) (ht : P.underlying t = some (.slice e)) (ht2 : P.underlying t2 = some (.int ik)) (hi : InfoT P e zv size bytes) (hzs : zv.cells.size = size) (hz1 : ∀ u ∈ zv.cells, u.oneCell' = true)
    (hk : L[k]? = some (.row e size A n' cap xs)) (hs : Ev n true K s (.slice A i cap)) (hx : Ev n true K x (.int .i64 (z : Int))) (hin : i ≤ n') (hfit : cap < i + z) (hb : (i + z) * bytes ≤ 100000000000000) (hb1 : Nat.blt 0 bytes = true) (hb2 : Nat.ble bytes 65536 = true) (hx1 : ∀ u ∈ xs, u.oneCell' = true) (hd : Nat.blt d n = true)
    (next : ∀ (g : Nat) (cs : List Value) (cap' : Nat) a w, cs.length = cap' * size → i + z ≤ cap' → cap' ≤ maxLen → cs.take (i * size) = xs.take (i * size) → (∀ u ∈ cs, u.oneCell' = true) → St n w0 ((d, true, .slice (some ⟨g, 0, none⟩) (i + z) cap') :: K) (.blk g (.cells cs.toArray e) :: L) a w → Z a w) :
    Oper.wp P ⟨some d, .call ⟨.builtin .append, #[s, x], #[t, t2]⟩, ty, pos, aft, gd⟩ a w Z Q := by
  have hb1 := Nat.le_of_ble_eq_true hb1
  have hb2 := Nat.le_of_ble_eq_true hb2
  obtain ⟨inf, hi1, hi2, hi3, hi4⟩ := hi.parts
  have hown := S.wd.get hk
  have holds : (Builtin.firstCells size i (.slice A i cap)).run P w.drew = .ok (xs.take (i * size)).toArray w.drew := by
    rcases hown.2 with ⟨rfl, rfl⟩ | ⟨g, cur, rfl, hp, hB, hg, hnc, hcm, hcs, htake⟩
    · have : i = 0 := by omega
      subst this
      cases A <;> simp [Builtin.firstCells, loadCells, loadCellsFrom]
    · have hxl : xs.length = n' * size := hown.1
      have hle := Nat.mul_le_mul_right size hin
      exact run_firstCells_some (P := P) w.drew size i ⟨g, 0, none⟩ i cap _ (by simp; omega) (fun j u hj => by
        rw [Addr.add_mid, Nat.zero_add]
        rw [List.getElem?_take] at hj
        split at hj
        · simpa using Owns.cell hown hj
        · cases hj)
  have hxl : (xs.take (i * size)).length = i * size := by
    have hxl : xs.length = n' * size := hown.1
    have hle := Nat.mul_le_mul_right size hin
    simp; omega
  have hnm : i + z ≤ 100000000000000 := by
    have := Nat.le_mul_of_pos_right (i + z) hb1
    omega
  have hzb : z * bytes ≤ 100000000000000 := Nat.le_trans (Nat.mul_le_mul_right _ (by omega)) hb
  have h63 : ¬ (9223372036854775807 < ((i : Int) + (z : Int))) := by omega
  have hwz : IntKind.i64.wrap (z : Int) = z := wrap_i64 (by unfold I64; omega)
  have hz0 : ¬ ((z : Int) < 0) := by omega
  have hz48 : ¬ ((281474976710656 : Int) < (z : Int) * (bytes : Int)) := by
    have : ((z * bytes : Nat) : Int) = (z : Int) * (bytes : Int) := by simp
    omega
  have hnc := nextcap_le (need := i + z) (old := cap) (by omega)
  have hfit' : ¬ (281474976710656 < Builtin.nextslicecap (i + z) cap * bytes) := by
    have h1 : Builtin.nextslicecap (i + z) cap * bytes ≤ (i + z + (i + z) / 4 + 512) * bytes := Nat.mul_le_mul_right _ hnc
    have h2 : (i + z + (i + z) / 4 + 512) * bytes = (i + z) * bytes + (i + z) / 4 * bytes + 512 * bytes := by rw [Nat.add_mul, Nat.add_mul]
    have h3 : (i + z) / 4 * bytes * 4 ≤ (i + z) * bytes := by
      rw [Nat.mul_right_comm]; exact Nat.mul_le_mul_right _ (Nat.div_mul_le_self _ _)
    omega
  have hroom : ¬ (i + z ≤ cap) := by omega
  have hge := grownCap_ge w (i + z) cap e
  have hcm : grownCap w (i + z) cap e ≤ maxLen := grownCap_le_maxLen w (i + z) cap e (by simp only [maxLen]; omega)
  have hzq : (if z * size = 0 then (#[] : Array Value) else Builtin.zeroCells zv.cells z) = Builtin.zeroCells zv.cells z := by
    split
    · rename_i h0
      simp [Builtin.zeroCells, hzs, h0]
    · rfl
  have hW : Wd w0 (.blk w.heap.size (.cells ((xs.take (i * size)) ++ (Builtin.zeroCells zv.cells z).toList ++ (Builtin.zeroCells zv.cells (grownCap w (i + z) cap e - (i + z))).toList).toArray e) :: L) (w.drew.alloc (.cells ((xs.take (i * size)) ++ (Builtin.zeroCells zv.cells z).toList ++ (Builtin.zeroCells zv.cells (grownCap w (i + z) cap e - (i + z))).toList).toArray e)) := S.wd.drew.alloc _
  refine run_wp (v := .slice (some ⟨w.heap.size, 0, none⟩) (i + z) (grownCap w (i + z) cap e)) (w' := _) ?_ (next w.heap.size _ (grownCap w (i + z) cap e) _ _ ?_ hge hcm ?_ ?_ ⟨S.kn.put hd _, hW⟩)
  · simp only [execOp, resolve, invoke, builtin, Sem.run_bind, Sem.run_pure, Result.andThen_ok, List.map_toArray, List.map_cons, List.map_nil, hs a rfl S.kn, hx a rfl S.kn]
    subst hi3; subst hi4
    have ea : ∀ (X : List Value) (Y Zs : Array Value), X.toArray ++ (Y ++ Zs) = (X ++ (Y.toList ++ Zs.toList)).toArray := fun X Y Zs => by simp [List.append_toArray]
    by_cases hz0' : z * inf.size = 0
    · have hq0 : Builtin.zeroCells zv.cells z = #[] := by simp [Builtin.zeroCells, hzs, hz0']
      simp [Builtin.append_, run_underlying ht, run_underlying ht2, sizeOf, typeInfo, hi1, hi2, asInt, asIntOf, hwz, hz0, hz48, hroom, h63, hfit', holds, zeroValue, Question.forced, newRow, grownCap, hz0', hq0]
      rw [← List.append_toArray]
      try simp
    · simp [Builtin.append_, run_underlying ht, run_underlying ht2, sizeOf, typeInfo, hi1, hi2, asInt, asIntOf, hwz, hz0, hz48, hroom, h63, hfit', holds, zeroValue, Question.forced, newRow, grownCap, hz0']
      rw [ea]
  · simp only [List.length_append, hxl, Array.length_toList, size_zeroCells, hzs, ← Nat.add_mul]
    congr 1; omega
  · rw [List.append_assoc, List.take_left' hxl]
  · intro u hu
    rw [List.mem_append, List.mem_append] at hu
    rcases hu with (hu | hu) | hu
    · exact hx1 u (List.mem_of_mem_take hu)
    · exact zeroCells_one _ _ hz1 u hu
    · exact zeroCells_one _ _ hz1 u hu
end
section ops
variable {P : Program} {n : Nat} {w0 : World} {K : KL} {L : List Chunk} {b : Bool} {dst : Option Tmp} {ty : TypeId} {pos : String} {aft : Array Edge} {gd : Option (Nat × Bool)}
/-- 's[l:]' of a slice that lies somewhere. -/
theorem ys_slLoB {t e lo len cap g o : Nat} {x y : Operand} {ik : IntKind} {sz : Nat} (h1 : SliceT P t e) (h2 : Size P e sz) (hx : Ev n b K x (.slice (some ⟨g, o, none⟩) len cap)) (hy : Ev n b K y (.int ik (lo : Int))) (hh : b = true → lo ≤ len ∧ len ≤ cap ∧ lo < cap) :
    Yr P ⟨dst, .slice t x (some y) none none, ty, pos, aft, gd⟩ n K w0 L b (.slice (some ⟨g, o + lo * sz, none⟩) (len - lo) (cap - lo)) :=
  Yr.of_imp (fun hb => by
    have := hh hb
    rw [if_neg (by omega), Option.map_some, Addr.add_mid]) (ys_slLo h1 h2 hx hy fun hb => by have := hh hb; omega)
/-- slices.overlaps, of slices in two blocks. -/
theorem ys_overlaps {f : FuncId} {fn : Func} {ts : Array TypeId} {tS tR e size ga gb oa ob la ca lb cb ka kb : Nat} {x y : Operand} {cs1 cs2 : List Value} {ea eb : TypeId} (hf : P.funcs[f]? = some fn) (hname : (fn.name == "runtime.NumGoroutine") = false)
    (hb : fn.body.isNone = true) (hn : Extern.findNext fn = none) (he : Extern.find fn = some (Extern.SlicesOverlaps.overlaps #[tS, tS] #[tR])) (ht : P.underlying tS = some (.slice e)) (hz : ∀ w, (sizeOf e).run P w = .ok size w)
    (hx : Ev n b K x (.slice (some ⟨ga, oa, none⟩) la ca)) (hy : Ev n b K y (.slice (some ⟨gb, ob, none⟩) lb cb)) (ha : L[ka]? = some (.blk ga (.cells cs1.toArray ea))) (hb' : L[kb]? = some (.blk gb (.cells cs2.toArray eb))) (hk : ka ≠ kb) (hbs : cs2 ≠ []) :
    Yr P ⟨dst, .call ⟨.value (.func f), #[x, y], ts⟩, ty, pos, aft, gd⟩ n K w0 L b (.bool false) := fun a w hbt hkn hw => by
  have h1 := (hw.get ha).2
  have h2 := (hw.get hb').2
  have hap := List.pairwise_iff_getElem.1 hw.apart
  obtain ⟨hla, hla'⟩ := List.getElem?_eq_some_iff.1 ha
  obtain ⟨hlb, hlb'⟩ := List.getElem?_eq_some_iff.1 hb'
  have hne : ga ≠ gb := fun hg => by
    rcases Nat.lt_or_gt_of_ne hk with h | h
    · exact hap ka kb hla hlb h ga (by rw [hla']; rfl) (by rw [hlb']; exact hg)
    · exact hap kb ka hlb hla h ga (by rw [hlb']; exact hg) (by rw [hla']; rfl)
  have hr := run_callFunc_extern hf hname hb hn he #[.slice (some ⟨ga, oa, none⟩) la ca, .slice (some ⟨gb, ob, none⟩) lb cb] w
  rw [Lib.run_overlaps_apart w tS tR e ht size hz ⟨ga, oa, none⟩ ⟨gb, ob, none⟩ la ca lb cb hne ea eb cs1.length cs2.length (by simp [World.shape?, h1]) (by simp [World.shape?, h2]) (by simpa using hbs) (frozen_of_row w ga _ _ ea h1) (frozen_of_row w ga _ _ ea h1)] at hr
  simp only [execOp, resolve, List.map_toArray, List.map_cons, List.map_nil, hx a hbt hkn, hy a hbt hkn]
  simp [Act.eval, Deferred.ofValue, invoke, hr]
end ops
theorem lay_mid (vs cs : List Value) (o : Nat) (h : o + vs.length ≤ cs.length) : lay cs o vs = cs.take o ++ vs ++ cs.drop (o + vs.length) := by
  have h1 := lay_app vs (cs.take (o + vs.length)) (cs.drop (o + vs.length)) o (by simp; omega)
  rw [List.take_append_drop] at h1
  rw [h1, lay_all vs _ o (by simp; omega), List.take_take, Nat.min_eq_left (by omega)]
/-- What an insertion leaves: the first cells, the new ones, those that stood behind. -/
theorem ins_cells {cs a x d : List Value} {o : Nat} (ha : cs.take o = a) (ho : o ≤ cs.length) (h : o + x.length + d.length ≤ cs.length) :
    (lay (lay cs o x) (o + x.length) d).take (o + x.length + d.length) = a ++ x ++ d ∧ (lay (lay cs (o + x.length) d) o x).take (o + x.length + d.length) = a ++ x ++ d := by
  subst ha
  have hl : (cs.take o).length = o := by simp; omega
  constructor
  · rw [lay_mid d _ _ (by rw [lay_len]; omega), lay_mid x _ _ (by omega)]
    rw [List.take_append_of_le_length (by simp; omega), List.take_of_length_le (by simp; omega)]
    rw [List.take_append_of_le_length (by simp; omega), List.take_of_length_le (l := cs.take o ++ x) (by simp; omega)]
  · rw [lay_mid x _ _ (by rw [lay_len]; omega), lay_mid d _ _ (by omega)]
    have e1 : (cs.take (o + x.length) ++ d ++ cs.drop (o + x.length + d.length)).take o = cs.take o := by
      rw [List.append_assoc, List.take_append_of_le_length (by simp; omega), List.take_take, Nat.min_eq_left (by omega)]
    have e2 : (cs.take (o + x.length) ++ d ++ cs.drop (o + x.length + d.length)).drop (o + x.length) = d ++ cs.drop (o + x.length + d.length) := by
      rw [List.append_assoc, List.drop_append_of_le_length (by simp; omega), List.drop_of_length_le (l := cs.take (o + x.length)) (by simp; omega)]; rfl
    rw [e1, e2, ← List.append_assoc, List.take_append_of_le_length (by simp; omega), List.take_of_length_le (by simp; omega)]
/-- What is known of a row's room. -/
theorem Wd.room {w0 w : World} {L : List Chunk} (W : Wd w0 L w) {k e size n cap : Nat} {A : Option Addr} {xs : List Value} (hk : L[k]? = some (.row e size A n cap xs)) : n ≤ cap ∧ cap ≤ 9223372036854775807 := by
  rcases (W.get hk).2 with ⟨h1, h2⟩ | ⟨g, cur, _, hp, _, _, h1, h2, _⟩
  · omega
  · exact ⟨h1, by simpa [maxLen] using h2⟩
theorem Wd.row_at {w0 w : World} {L : List Chunk} (W : Wd w0 L w) {k e size n cap : Nat} {A : Option Addr} {xs : List Value} (hk : L[k]? = some (.row e size A n cap xs)) (hc : cap ≠ 0) : ∃ g, A = some ⟨g, 0, none⟩ := by
  obtain ⟨g, cs, h, _⟩ := W.open_row hk hc
  exact ⟨g, h⟩
theorem first_row {P : Program} {w0 w : World} {L : List Chunk} {α : Type} {enc : α → List Value} {size : Nat} (he : ∀ x, (enc x).length = size) (W : Wd w0 L w) {k e cap g o m len c : Nat} {l : List α} (hk : L[k]? = some (rowOf e size enc (some ⟨g, 0, none⟩) cap l)) (hm : o + m ≤ l.length) :
    (Builtin.firstCells size m (.slice (some ⟨g, 0 + o * size, none⟩) len c)).run P w = .ok (((l.drop o).take m).flatMap enc).toArray w := by
  refine run_firstCells_some (P := P) w size m ⟨g, 0 + o * size, none⟩ len c _ (by rw [flat_len he, List.length_take, List.length_drop, Nat.min_eq_left (by omega)]) (fun j u hj => ?_)
  rw [Addr.add_mid]
  refine Owns.cell (W.get hk) ?_
  rw [← flat_take he, ← flat_drop he, List.getElem?_take] at hj
  split at hj
  · rw [List.getElem?_drop] at hj
    rw [Nat.zero_add]
    exact hj
  · cases hj
end Go.Fw
