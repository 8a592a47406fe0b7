/- append, copy, make; strings and bytes; bits; slices of slices; equality of structs: one law each. -/
import Derived.Test.YtjfeeiljinbmjaaOps
set_option linter.unusedVariables false
set_option linter.unusedSimpArgs false
namespace Go.Fw
open Go.RowKit

/-- The element type e: its zero value, its cells, its bytes. -/
def InfoT (P : Program) (e : TypeId) (z : Value) (size bytes : Nat) : Prop := (P.info? e).map (fun i => (i.zero, i.size, i.bytes)) = some (some z, size, bytes)
theorem InfoT.parts {P : Program} {e : TypeId} {z : Value} {size bytes : Nat} (h : InfoT P e z size bytes) : ∃ i, P.info? e = some i ∧ i.zero = some z ∧ i.size = size ∧ i.bytes = bytes := by
  unfold InfoT at h
  cases hi : P.info? e with
  | none => rw [hi] at h; simp at h
  | some i => rw [hi] at h; simp at h; exact ⟨i, rfl, h⟩

/-- A value whose first m elements (size cells each) are news: what append and copy take. -/
structure Src (P : Program) (w : World) (size : Nat) (x : Value) (m : Nat) (news : List Value) : Prop where
  len : ∀ W, (Builtin.lenOf x).run P W = .ok m W
  here : (Builtin.firstCells size m x).run P w = .ok news.toArray w
  drew : (Builtin.firstCells size m x).run P w.drew = .ok news.toArray w.drew
  length : news.length = m * size
  one : ∀ u ∈ news, u.oneCell' = true

section src
variable {P : Program} {w : World} {size m : Nat} {news : List Value}
theorem Src.at_ {g o c : Nat} (hl : news.length = m * size) (h1 : ∀ u ∈ news, u.oneCell' = true) (h : ∀ j u, news[j]? = some u → w.cell? ⟨g, o + j, none⟩ = some u) : Src P w size (.slice (some ⟨g, o, none⟩) m c) m news :=
  ⟨fun W => by simp [Builtin.lenOf],
   run_firstCells_some (P := P) w size m ⟨g, o, none⟩ m c news hl (fun j u hj => by rw [Addr.add_mid]; exact h j u hj),
   run_firstCells_some (P := P) w.drew size m ⟨g, o, none⟩ m c news hl (fun j u hj => by rw [Addr.add_mid]; exact h j u hj), hl, h1⟩
theorem Src.none_ {A : Option Addr} {c : Nat} : Src P w size (.slice A 0 c) 0 [] := by
  cases A with
  | none => exact ⟨fun W => by simp [Builtin.lenOf], by simp [Builtin.firstCells], by simp [Builtin.firstCells], by simp, by simp⟩
  | some a => exact ⟨fun W => by simp [Builtin.lenOf], by simp [Builtin.firstCells, loadCells, loadCellsFrom], by simp [Builtin.firstCells, loadCells, loadCellsFrom], by simp, by simp⟩
theorem Src.blk {L : List Chunk} {w0 : World} (hw : Wd w0 L w) {k g c : Nat} {e : TypeId} {fr : Nat × Nat} (hk : L[k]? = some (.blk g (.cells news.toArray e fr))) (hl : news.length = m * size) (h1 : ∀ u ∈ news, u.oneCell' = true) : Src P w size (.slice (some ⟨g, 0, none⟩) m c) m news :=
  Src.at_ hl h1 (fun j u hj => by rw [cell_of_row w g (0 + j) _ e fr (hw.get hk).2]; simpa using hj)
theorem Src.row {L : List Chunk} {w0 : World} (hw : Wd w0 L w) {k e cap c : Nat} {A : Option Addr} (hk : L[k]? = some (.row e size A m cap news)) (h1 : ∀ u ∈ news, u.oneCell' = true) : Src P w size (.slice A m c) m news := by
  have h := hw.get hk
  rcases h.2 with ⟨rfl, _⟩ | ⟨g, cur, rfl, _⟩
  · have : news = [] := List.eq_nil_of_length_eq_zero (by simpa using h.1)
    subst this
    exact Src.none_
  · exact Src.at_ h.1 h1 (fun j u hj => by rw [Nat.zero_add]; exact Owns.cell h hj)
theorem Src.sl {α : Type} {enc : α → List Value} {B : Nat} {A : Option Addr} {l : List α} {cap c : Nat} (h : Sl enc size w B (.slice A l.length cap) l) (hsz : 0 < size) (he : ∀ x, (enc x).length = size) (h1 : ∀ x, ∀ u ∈ enc x, u.oneCell' = true) :
    Src P w size (.slice A l.length c) l.length (l.flatMap enc) := by
  have hlen : ∀ l : List α, (l.flatMap enc).length = l.length * size := by
    intro l
    induction l with
    | nil => simp
    | cons x r ih => simp [he, ih, Nat.add_mul, Nat.add_comm]
  have hget : ∀ (l : List α) (j : Nat) (u : Value), (l.flatMap enc)[j]? = some u → ∃ x, l[j / size]? = some x ∧ (enc x)[j % size]? = some u := by
    intro l
    induction l with
    | nil => intro j u hj; simp at hj
    | cons x r ih =>
      intro j u hj
      rw [List.flatMap_cons, List.getElem?_append] at hj
      split at hj
      · rename_i hlt
        rw [he] at hlt
        exact ⟨x, by simp [Nat.div_eq_of_lt hlt], by rw [Nat.mod_eq_of_lt hlt]; exact hj⟩
      · rename_i hge
        rw [he] at hge hj
        obtain ⟨y, h2, h3⟩ := ih _ _ hj
        have hge' : size ≤ j := by omega
        refine ⟨y, ?_, ?_⟩
        · rw [show j / size = (j - size) / size + 1 from Nat.div_eq_sub_div hsz hge']
          simpa using h2
        · rw [Nat.mod_eq_sub_mod hge']; exact h3
  obtain ⟨A', cap', hv, h2, h3, h4⟩ := h
  simp only [Value.slice.injEq] at hv
  obtain ⟨rfl, _, rfl⟩ := hv
  rcases Nat.eq_zero_or_pos l.length with h0 | hp
  · have : l = [] := List.eq_nil_of_length_eq_zero h0
    subst this
    exact Src.none_
  · obtain ⟨g, o, rfl, hg, hc⟩ := h4 hp
    refine Src.at_ (hlen l) (fun u hu => ?_) (fun j u hj => ?_)
    · obtain ⟨x, _, hx⟩ := List.mem_flatMap.1 hu
      exact h1 x u hx
    · obtain ⟨x, h5, h6⟩ := hget l j u hj
      have := hc _ x h5 _ u h6
      rw [show o + j = o + j / size * size + j % size by rw [Nat.add_assoc, Nat.mul_comm, Nat.div_add_mod]]
      exact this
end src

theorem nextcap_le {need old : Nat} (h : old < need) : Builtin.nextslicecap need old ≤ need + need / 4 + 512 := by
  unfold Builtin.nextslicecap
  split
  · omega
  · split
    · omega
    · rw [growBy_four]
      repeat' split
      all_goals omega

section app
variable {P : Program} {w : World}

/-- append onto a row of the call's own: what comes out, wherever it lies. -/
theorem run_append {B t ty e n cap m bytes size : Nat} {ts : List TypeId} {z : Value} {A : Option Addr} {x : Value} {xs news : List Value} (ht : P.underlying t = some (.slice e)) (hts : ∃ t2 d2, ts = [t, t2] ∧ P.underlying t2 = some d2 ∧ (d2 = .string ∨ ∃ e2, d2 = .slice e2)) (hi : InfoT P e z size bytes) (hzs : z.cells.size = size) (hbase : B ≤ w.heap.size)
    (hown : Owns w B e size A n cap xs) (hsrc : Src P w size x m news) (hbytes : (n + m) * bytes ≤ 200000000000000) (hb1 : 0 < bytes) (hb2 : bytes ≤ 65536) :
    ∃ A' cap' w', (Builtin.append_ ts.toArray ty #[.slice A n cap, x]).run P w = .ok (.slice A' (n + m) cap') w' ∧ Owns w' B e size A' (n + m) cap' (xs ++ news) ∧ Turned (Chunk.own (.row e size A n cap xs)) w w' ∧
      (∀ b, Chunk.own (.row e size A' (n + m) cap' (xs ++ news)) b → Chunk.own (.row e size A n cap xs) b ∨ w.heap.size ≤ b) ∧ cap ≤ cap' := by
  obtain ⟨t2, d2, rfl, ht2, hd2⟩ := hts
  obtain ⟨i, hi1, hi2, hi3, hi4⟩ := hi.parts
  subst hi3; subst hi4
  have hlen : (xs ++ news).length = (n + m) * i.size := by rw [List.length_append, hown.1, hsrc.length, Nat.add_mul]
  have hnm : n + m ≤ 200000000000000 := by
    have := Nat.le_mul_of_pos_right (n + m) hb1
    omega
  have hlx := hsrc.len w
  have holds : (Builtin.firstCells i.size n (.slice A n cap)).run P w.drew = .ok xs.toArray w.drew := by
    rcases hown.2 with ⟨rfl, rfl⟩ | ⟨g, cur, rfl, hp, hB, hg, hnc, hcm, hcs, htake⟩
    · have hx : xs = [] := List.eq_nil_of_length_eq_zero (by simpa using hown.1)
      subst hx
      cases A <;> simp [Builtin.firstCells, loadCells, loadCellsFrom]
    · exact run_firstCells_some (P := P) w.drew i.size n ⟨g, 0, none⟩ n cap xs hown.1 (fun j u hj => by
        rw [Addr.add_mid, Nat.zero_add]; simpa using Owns.cell hown hj)
  by_cases hroom : n + m ≤ cap
  · rcases hown.2 with ⟨rfl, rfl⟩ | ⟨g, cur, rfl, hp, hB, hg, hnc, hcm, hcs, htake⟩
    · have hm : m = 0 := by omega
      subst hm
      have hx : xs = [] := List.eq_nil_of_length_eq_zero (by simpa using hown.1)
      have hn : news = [] := List.eq_nil_of_length_eq_zero (by simpa using hsrc.length)
      subst hx; subst hn
      refine ⟨A, 0, w, ?_, hown, ⟨rfl, rfl, rfl, Nat.le_refl _, fun _ _ _ => rfl, Nat.le_refl _⟩, fun _ h => .inl h, Nat.le_refl _⟩
      have hh := hsrc.here
      cases A with
      | none => rcases hd2 with rfl | ⟨e2, rfl⟩ <;> simp [Builtin.append_, run_underlying ht, run_underlying ht2, sizeOf, typeInfo, hi1, hlx, hh]
      | some a => rcases hd2 with rfl | ⟨e2, rfl⟩ <;> simp [Builtin.append_, run_underlying ht, run_underlying ht2, sizeOf, typeInfo, hi1, hlx, hh, storeCells]
    · have hcl : cur.toList.length = cap * i.size := by simpa using hcs
      obtain ⟨w', hr, hh, hb⟩ := run_store_cells (P := P) (g := g) (t := e) news (n * i.size) 0 cur.toList w (by simpa using hg) (by
        rw [hsrc.length, hcl, Nat.add_zero, ← Nat.add_mul]; exact Nat.mul_le_mul_right _ hroom) hsrc.one
      refine ⟨_, cap, w', ?_, ⟨hlen, .inr ⟨g, _, rfl, hp, hB, hh, hroom, hcm, by simp [lay_len, hcs], ?_⟩⟩, hb.mono (fun x hx => ⟨Nat.pos_iff_ne_zero.1 hp, by simp [hx]⟩), fun _ h => .inl h, Nat.le_refl _⟩
      · have hh := hsrc.here
        rcases hd2 with rfl | ⟨e2, rfl⟩ <;> simp [Builtin.append_, run_underlying ht, run_underlying ht2, sizeOf, typeInfo, hi1, hlx, hh, hroom, Addr.add_mid, hr]
      · have key : ∀ (vs cs : List Value) (i : Nat), i + vs.length ≤ cs.length → (lay cs i vs).take (i + vs.length) = cs.take i ++ vs := by
          intro vs
          induction vs with
          | nil => intro cs i h; simp [lay]
          | cons v vs ih =>
            intro cs i h
            simp at h
            rw [lay, show i + (v :: vs).length = i + 1 + vs.length by simp; omega, ih _ _ (by simp; omega)]
            have e : (cs.set i v).take (i + 1) = cs.take i ++ [v] := by
              rw [List.take_succ_eq_append_getElem (by simp; omega)]
              simp [List.take_set]
              exact List.set_eq_of_length_le (by simp; omega)
            rw [e]; simp
        have := key news cur.toList (n * i.size) (by rw [hsrc.length, hcl, ← Nat.add_mul]; exact Nat.mul_le_mul_right _ hroom)
        rw [hsrc.length, ← Nat.add_mul, htake] at this
        simpa using this
  · have h63 : ¬ (9223372036854775807 < ((n : Int) + (m : Int))) := by omega
    have hnc := nextcap_le (need := n + m) (old := cap) (by omega)
    have hfit : Builtin.nextslicecap (n + m) cap * i.bytes ≤ 281474976710656 := by
      have h1 : Builtin.nextslicecap (n + m) cap * i.bytes ≤ (n + m + (n + m) / 4 + 512) * i.bytes := Nat.mul_le_mul_right _ hnc
      have h2 : (n + m + (n + m) / 4 + 512) * i.bytes = (n + m) * i.bytes + (n + m) / 4 * i.bytes + 512 * i.bytes := by rw [Nat.add_mul, Nat.add_mul]
      have h3 : (n + m) / 4 * i.bytes * 4 ≤ (n + m) * i.bytes := by
        rw [Nat.mul_right_comm]; exact Nat.mul_le_mul_right _ (Nat.div_mul_le_self _ _)
      omega
    have hfit' : ¬ (281474976710656 < Builtin.nextslicecap (n + m) cap * i.bytes) := by omega
    have hge := grownCap_ge w (n + m) cap e
    have hcm : grownCap w (n + m) cap e ≤ maxLen := grownCap_le_maxLen w (n + m) cap e (by simp only [maxLen]; omega)
    refine ⟨some ⟨w.heap.size, 0, none⟩, grownCap w (n + m) cap e, w.drew.alloc (.cells (xs.toArray ++ news.toArray ++ Builtin.zeroCells z.cells (grownCap w (n + m) cap e - (n + m))) e), ?_, ?_, ?_, ?_, by omega⟩
    · have hh := hsrc.drew
      have ea : ∀ Z : Array Value, xs.toArray ++ (news.toArray ++ Z) = (xs ++ news).toArray ++ Z := fun Z => by rw [← List.append_toArray, Array.append_assoc]
      rcases hd2 with rfl | ⟨e2, rfl⟩ <;> simp [Builtin.append_, run_underlying ht, run_underlying ht2, sizeOf, typeInfo, hi1, hi2, hlx, hh, hroom, h63, hfit', holds, zeroValue, Question.forced, newRow, grownCap] <;> rw [ea]
    · refine ⟨hlen, .inr ⟨w.heap.size, _, rfl, by omega, hbase, heap_alloc_new w.drew _, hge, hcm, ?_, ?_⟩⟩
      · simp only [Array.size_append, List.size_toArray, size_zeroCells, hzs, hown.1, hsrc.length, ← Nat.add_mul]
        congr 1
        omega
      · simp only [Array.toList_append]
        rw [← hlen]
        exact List.take_left
    · exact ⟨rfl, rfl, rfl, by simp, fun k hk _ => Below.heap_alloc w.drew _ k hk, by show _ ≤ w.drawn + 1; omega⟩
    · intro b hb
      obtain ⟨_, hb⟩ := hb
      simp at hb
      right; omega
end app
end Go.Fw
