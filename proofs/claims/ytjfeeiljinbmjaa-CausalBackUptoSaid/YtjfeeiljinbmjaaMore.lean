/- append to a row of the call's own, slice literals, slices of slices, conversions, equality of structs. -/
import Derived.Test.YtjfeeiljinbmjaaMem
set_option linter.unusedVariables false
set_option linter.unusedSimpArgs false
namespace Go.Fw
open Go.RowKit

/-- A row of the call's own that holds the list l. -/
abbrev rowOf {α : Type} (e size : Nat) (enc : α → List Value) (A : Option Addr) (cap : Nat) (l : List α) : Chunk := .row e size A l.length cap (l.flatMap enc)

/-- A loop: of the slots only those of KX change from round to round, of the chunks those that LX turns. -/
theorem st_loopK {P : Program} {Q : Exit → Act → World → Prop} {n : Nat} {w0 : World} {K : KL} {L : List Chunk} {a : Act} {w : World} {c : Code} {X : Type} (S : St n w0 K L a w) (KX : X → KL) (LX : X → List Chunk → List Chunk) (φ : X → Prop) (μ : X → Nat) (x0 : X) (h0 : φ x0)
    (hK : Fits [] K (KX x0 ++ K)) (hL : (LX x0 L).Sublist L)
    (round : ∀ x a w, φ x → St n w0 (KX x ++ K) (LX x L) a w → c.wp P (Exit.then (fun a' w' => ∃ x', φ x' ∧ μ x' < μ x ∧ St n w0 (KX x' ++ K) (LX x' L) a' w') Q) a w) : (Code.loop c).wp P Q a w :=
  st_loop (fun x a w => φ x ∧ St n w0 (KX x ++ K) (LX x L) a w) μ x0 ⟨h0, S.weak hK hL⟩ fun x a w ⟨h1, h2⟩ =>
    wp_mono (round x a w h1 h2) fun e a w h => by
      cases e with
      | normal => obtain ⟨x', h3, h4, h5⟩ := h; exact ⟨x', ⟨h3, h5⟩, h4⟩
      | _ => exact h

/-- What lies behind a call: the caller's chunks, and those that the callee has made. -/
theorem Wd.join {w0 w w' : World} {L L' : List Chunk} (h : Wd w0 L w) (h' : Wd w L' w') : Wd w0 (L' ++ L) w' := by
  have hk := h.step h'.below
  refine ⟨hk.below, fun c hc => ?_, List.pairwise_append.2 ⟨h'.apart, hk.apart, fun c hc d hd b hcb hdb => ?_⟩⟩
  · rcases List.mem_append.1 hc with hc | hc
    · exact (h'.all c hc).mono h.below.size
    · exact hk.all c hc
  · have h1 := ((h'.all c hc).lt hcb).1
    have h2 := ((h.all d hd).lt hdb).2
    omega

/-- A call that makes memory: its answer, and the chunks that it leaves. -/
def Rets (P : Program) (f : FuncId) (args : Array Value) (w : World) (R : Value → List Chunk → Prop) : Prop :=
  Calls P f args w fun e w' => ∃ v L, e = .returned v ∧ Wd w L w' ∧ R v L

theorem row_at {α : Type} {enc : α → List Value} {size : Nat} {w : World} {B : Nat} {A : Option Addr} {l : List α} {k : Nat}
    (hA : 0 < l.length → ∃ g o, A = some ⟨g, o, none⟩ ∧ g < B ∧ ∀ k x, l[k]? = some x → ∀ j u, (enc x)[j]? = some u → w.cell? ⟨g, o + k * size + j, none⟩ = some u) (hk : k < l.length) :
    ∃ g o x, A = some ⟨g, o, none⟩ ∧ l[k]? = some x ∧ l.drop k = x :: l.drop (k + 1) ∧ ∀ j u, (enc x)[j]? = some u → w.cell? ⟨g, o + k * size + j, none⟩ = some u := by
  obtain ⟨g, o, h1, _, h2⟩ := hA (by omega)
  have hx : l[k]? = some l[k] := by simp
  exact ⟨g, o, l[k], h1, hx, List.drop_eq_getElem_cons hk, h2 k _ hx⟩

/-- A row of the call's own, read as a list. -/
theorem Sl.of_own {α : Type} {enc : α → List Value} {size e cap k : Nat} {w w0 : World} {L : List Chunk} {A : Option Addr} {l : List α} (W : Wd w0 L w) (hk : L[k]? = some (rowOf e size enc A cap l)) (he : ∀ x, (enc x).length = size) : Sl enc size w w.heap.size (.slice A l.length cap) l := by
  have h := W.get hk
  rcases h.2 with ⟨h0, rfl⟩ | ⟨g, cur, rfl, hp, hB, hg, hn, hm, hc, ht⟩
  · exact ⟨A, 0, rfl, by omega, by omega, fun hl => by omega⟩
  · refine ⟨_, cap, rfl, hn, hm, fun _ => ⟨g, 0, rfl, (Array.getElem?_eq_some_iff.1 hg).1, fun i x hx j u hu => ?_⟩⟩
    rw [Nat.zero_add]
    refine Owns.cell h ?_
    have key : ∀ (l : List α) (i : Nat), l[i]? = some x → (l.flatMap enc)[i * size + j]? = some u := by
      intro l
      induction l with
      | nil => intro i hi; simp at hi
      | cons y r ih =>
        intro i hi
        rw [List.flatMap_cons]
        match i, hi with
        | 0, hi =>
          simp only [List.getElem?_cons_zero, Option.some.injEq] at hi
          subst hi
          have hlt : j < (enc y).length := (List.getElem?_eq_some_iff.1 hu).1
          rw [Nat.zero_mul, Nat.zero_add, List.getElem?_append_left hlt]; exact hu
        | i + 1, hi =>
          rw [List.getElem?_append_right (by rw [he, Nat.add_mul]; omega), he, show (i + 1) * size + j - size = i * size + j by rw [Nat.add_mul]; omega]
          exact ih i (by simpa using hi)
    exact key l i hx

theorem flat_at {α : Type} {enc : α → List Value} {size : Nat} (he : ∀ x, (enc x).length = size) {x : α} {j : Nat} {u : Value} (hu : (enc x)[j]? = some u) : ∀ (l : List α) (i : Nat), l[i]? = some x → (l.flatMap enc)[i * size + j]? = some u := by
  intro l
  induction l with
  | nil => intro i hi; simp at hi
  | cons y r ih =>
    intro i hi
    rw [List.flatMap_cons]
    match i, hi with
    | 0, hi =>
      simp only [List.getElem?_cons_zero, Option.some.injEq] at hi
      subst hi
      have hlt : j < (enc y).length := (List.getElem?_eq_some_iff.1 hu).1
      rw [Nat.zero_mul, Nat.zero_add, List.getElem?_append_left hlt]; exact hu
    | i + 1, hi =>
      rw [List.getElem?_append_right (by rw [he, Nat.add_mul]; omega), he, show (i + 1) * size + j - size = i * size + j by rw [Nat.add_mul]; omega]
      exact ih i (by simpa using hi)
/-- A row of the call's own at i. -/
theorem own_at {α : Type} {enc : α → List Value} {size e cap k i : Nat} {w w0 : World} {L : List Chunk} {A : Option Addr} {l : List α} (W : Wd w0 L w) (hk : L[k]? = some (rowOf e size enc A cap l)) (hlt : i < l.length) :
    ∃ g m, A = some ⟨g, 0, none⟩ ∧ l[i]? = some m ∧ l.drop i = m :: l.drop (i + 1) := by
  have h := W.get hk
  rcases h.2 with ⟨h0, rfl⟩ | ⟨g, cur, rfl, _⟩
  · omega
  · exact ⟨g, l[i], rfl, by simp, List.drop_eq_getElem_cons hlt⟩
section ldw
variable {P : Program} {n : Nat} {w0 : World} {K : KL} {L : List Chunk} {b : Bool} {dst : Option Tmp} {ty : TypeId} {pos : String} {aft : Array Edge} {gd : Option (Nat × Bool)}
theorem ys_ldW {α : Type} {enc : α → List Value} {l : List α} {m : α} {t : TypeId} {x : Operand} {g i j k sz cap : Nat} {e : TypeId} {v : Value} (h1 : One P t) (hx : Ev n b K x (.pointer (some ⟨g, 0 + i * sz + j, none⟩)))
    (hk : L[k]? = some (rowOf e sz enc (some ⟨g, 0, none⟩) cap l)) (hm : l[i]? = some m) (he : ∀ x, (enc x).length = sz) (hv : (enc m)[j]? = some v) : Yr P ⟨dst, .load t x, ty, pos, aft, gd⟩ n K w0 L b v :=
  ys_ldR h1 hx hk fun _ => by rw [Nat.zero_add]; exact flat_at he hv _ _ hm
theorem ys_ldW0 {α : Type} {enc : α → List Value} {l : List α} {m : α} {t : TypeId} {x : Operand} {g i k sz cap : Nat} {e : TypeId} {v : Value} (h1 : One P t) (hx : Ev n b K x (.pointer (some ⟨g, 0 + i * sz, none⟩)))
    (hk : L[k]? = some (rowOf e sz enc (some ⟨g, 0, none⟩) cap l)) (hm : l[i]? = some m) (he : ∀ x, (enc x).length = sz) (hv : (enc m)[0]? = some v) : Yr P ⟨dst, .load t x, ty, pos, aft, gd⟩ n K w0 L b v :=
  ys_ldR h1 hx hk fun _ => by rw [Nat.zero_add]; exact flat_at he hv _ _ hm
theorem ys_ldWA {α : Type} {enc : α → List Value} {l : List α} {m : α} {t : TypeId} {x : Operand} {g i k sz cap : Nat} {e : TypeId} (h1 : Many P t sz) (hx : Ev n b K x (.pointer (some ⟨g, 0 + i * sz, none⟩)))
    (hk : L[k]? = some (rowOf e sz enc (some ⟨g, 0, none⟩) cap l)) (hm : l[i]? = some m) (he : ∀ x, (enc x).length = sz) : Yr P ⟨dst, .load t x, ty, pos, aft, gd⟩ n K w0 L b (.agg (enc m).toArray) :=
  ys_ldRA h1 hx hk (he m) fun _ j u hj => by rw [Nat.zero_add]; exact flat_at he hj _ _ hm
end ldw

section movers
variable {P : Program} {n : Nat} {w0 : World} {K : KL} {L : List Chunk} {ty : TypeId} {pos : String} {aft : Array Edge} {gd : Option (Nat × Bool)} {a : Act} {w : World} {Z : Act → World → Prop} {Q : Exit → Act → World → Prop} {d : Nat}

theorem op_calls {f : FuncId} {xs : List Operand} {ts : Array TypeId} {vs : List Value} {R : Value → List Chunk → Prop} (S : St n w0 K L a w) (hf : ∀ args w, (callFunc f args).run P w = .ok (.enter f args) w) (hx : EvL n true K xs vs)
    (hc : Rets P f vs.toArray w R) (hd : Nat.blt d n = true) (next : ∀ v L', R v L' → ∀ a w', St n w0 ((d, true, v) :: K) (L' ++ L) a w' → Z a w') : Oper.wp P ⟨some d, .call ⟨.value (.func f), xs.toArray, ts⟩, ty, pos, aft, gd⟩ a w Z Q :=
  op_call S hf hx hc fun e w' ⟨v, L', he, hw, hr⟩ => ⟨v, he, next v L' hr _ _ ⟨S.kn.put hd v, S.wd.join hw⟩⟩

/-- nil owns its row. -/
theorem St.nil_ (S : St n w0 K L a w) {α : Type} (e size : Nat) (enc : α → List Value) (A : Option Addr) : St n w0 K (rowOf e size enc A 0 [] :: L) a w :=
  ⟨S.kn, S.wd.bare ⟨by simp, .inl ⟨rfl, rfl⟩⟩ (fun b h => h.1 rfl)⟩

theorem op_append {t t2 e bytes size m cap q k : Nat} {d2 : TypeDesc} {z : Value} {A : Option Addr} {s x : Operand} {xv : Value} {xs news : List Value} (S : St n w0 K L a w) (ht : P.underlying t = some (.slice e)) (ht2 : P.underlying t2 = some d2) (hd2 : d2 = .string ∨ ∃ e2, d2 = .slice e2)
    (hi : InfoT P e z size bytes) (hzs : z.cells.size = size) (hs : Ev n true K s (.slice A m cap)) (hx : Ev n true K x xv) (hk : L[k]? = some (.row e size A m cap xs)) (hsrc : Src P w size xv q news) (hb : (m + q) * bytes ≤ 200000000000000) (hb1 : Nat.blt 0 bytes = true) (hb2 : Nat.ble bytes 65536 = true) (hd : Nat.blt d n = true)
    (next : ∀ A' cap' a w, cap ≤ cap' → St n w0 ((d, true, .slice A' (m + q) cap') :: K) (L.set k (.row e size A' (m + q) cap' (xs ++ news))) a w → Z a w) :
    Oper.wp P ⟨some d, .call ⟨.builtin .append, #[s, x], #[t, t2]⟩, ty, pos, aft, gd⟩ a w Z Q := by
  obtain ⟨A', cap', w', hr, ho, hg, hown, hcc⟩ := run_append (P := P) (w := w) (ts := [t, t2]) (ty := ty) ht ⟨t2, d2, rfl, ht2, hd2⟩ hi hzs S.wd.below.size (S.wd.get hk) hsrc hb (Nat.le_of_ble_eq_true hb1) (Nat.le_of_ble_eq_true hb2)
  refine run_wp (v := .slice A' (m + q) cap') (w' := w') ?_ (next A' cap' _ _ hcc ⟨S.kn.put hd _, S.wd.change hk hg ho hown⟩)
  simp only [execOp, resolve, invoke, builtin, Sem.run_bind, Sem.run_pure, Result.andThen_ok, List.map_toArray, List.map_cons, List.map_nil, hs a rfl S.kn, hx a rfl S.kn, hr]

/-- One element appended. -/
theorem op_push {α : Type} {enc : α → List Value} {l : List α} {y : α} {t e bytes size cap c k j g : Nat} {e' : TypeId} {fr : Nat × Nat} {z : Value} {A : Option Addr} {s x : Operand} {vs : List Value} (S : St n w0 K L a w) (ht : P.underlying t = some (.slice e))
    (hi : InfoT P e z size bytes) (hzs : z.cells.size = size) (hk : L[k]? = some (rowOf e size enc A cap l)) (hs : Ev n true K s (.slice A l.length cap)) (hx : Ev n true K x (.slice (some ⟨g, 0, none⟩) 1 c)) (hj : L[j]? = some (.blk g (.cells vs.toArray e' fr))) (hvs : vs = enc y)
    (hlen : (enc y).length = size) (h1 : (enc y).all (·.oneCell') = true) (hb : (l.length + 1) * bytes ≤ 200000000000000) (hb1 : Nat.blt 0 bytes = true) (hb2 : Nat.ble bytes 65536 = true) (hd : Nat.blt d n = true)
    (next : ∀ A' cap' a w, St n w0 ((d, true, .slice A' (l ++ [y]).length cap') :: K) (L.set k (rowOf e size enc A' cap' (l ++ [y]))) a w → Z a w) :
    Oper.wp P ⟨some d, .call ⟨.builtin .append, #[s, x], #[t, t]⟩, ty, pos, aft, gd⟩ a w Z Q := by
  subst hvs
  refine op_append S ht ht (.inr ⟨_, rfl⟩) hi hzs hs hx hk (Src.blk S.wd hj (by rw [hlen, Nat.one_mul]) (by simpa using h1)) hb hb1 hb2 hd (fun A' cap' a w _ S' => next A' cap' a w ?_)
  have e1 : (l ++ [y]).length = l.length + 1 := by simp
  have e2 : (l ++ [y]).flatMap enc = l.flatMap enc ++ enc y := by simp
  unfold rowOf
  rw [e1, e2]; exact S'

theorem lay_all : ∀ (vs cs : List Value) (i : Nat), i + vs.length = cs.length → lay cs i vs = cs.take i ++ vs := by
  intro vs
  induction vs with
  | nil => intro cs i h; simp at h; simp [lay, h]
  | cons v vs ih =>
    intro cs i h
    simp at h
    rw [lay, ih _ _ (by simp; omega)]
    have e : (cs.set i v).take (i + 1) = cs.take i ++ [v] := by
      rw [List.take_succ_eq_append_getElem (by simp; omega)]
      simp [List.take_set]
      exact List.set_eq_of_length_le (by simp; omega)
    rw [e]; simp
/-- A slice literal of one element. -/
theorem op_bslice1 {t e sz bytes : Nat} {z v : Value} {x : Operand} {us : List Value} (S : St n w0 K L a w) (ht : P.underlying t = some (.slice e)) (hi : InfoT P e z sz bytes) (hzs : z.cells.size = sz) (hsz : Nat.blt 0 sz = true) (hmax : Nat.ble sz 16777216 = true)
    (hx : Ev n true K x v) (hv : v.cells = us.toArray) (hl : us.length = sz) (hd : Nat.blt d n = true)
    (next : ∀ g a w, St n w0 ((d, true, .slice (some ⟨g, 0, none⟩) 1 1) :: K) (.blk g (.cells us.toArray e) :: L) a w → Z a w) :
    Oper.wp P ⟨some d, .buildSlice t 1 #[(0, x)], ty, pos, aft, gd⟩ a w Z Q := by
  refine run_wp (v := .slice (some ⟨w.heap.size, 0, none⟩) 1 1) (w' := w.alloc (.cells us.toArray e)) ?_ (next _ _ _ ⟨S.kn.put hd _, S.wd.alloc _⟩)
  obtain ⟨i, hi1, hi2, hi3, hi4⟩ := hi.parts
  have h0 : sz ≠ 0 := by have := Nat.le_of_ble_eq_true hsz; omega
  have hm : ¬ (16777216 < sz) := by have := Nat.le_of_ble_eq_true hmax; omega
  have hf : fillL (fun i => some (i * sz, sz)) ((Array.range sz).map (fun i => z.cells[i % z.cells.size]!)).toList [(0, v)] = some us := by
    have hll : v.cells.toList.length = sz := by rw [hv]; simpa using hl
    simp only [fillL, hll, Nat.beq_refl, Nat.zero_mul, Nat.zero_add]
    rw [lay_all _ _ _ (by simp [hll])]
    have hbl : Nat.ble sz sz = true := by simp
    simp [hv, hbl]
  have hf' := fill_of hf
  simp only [Array.toArray_toList] at hf'
  simp [execOp, hx a rfl S.kn, Instr.buildSlice, run_underlying ht, sizeOf, typeInfo, zeroValue, hi1, hi2, hi3, hm, h0, hf', newRow]
/-- A slice literal. -/
theorem op_bslice {t e sz len : Nat} {z : Value} {ps : List (Nat × Operand)} {vs us : List Value} (zs : List Value) (S : St n w0 K L a w) (ht : P.underlying t = some (.slice e)) (hsz : ∀ w, (sizeOf e).run P w = .ok sz w) (hz : ∀ w, (zeroValue e).run P w = .ok z w)
    (hzs : (Array.range (len * sz)).map (fun i => (if len * sz = 0 then #[] else z.cells)[i % (if len * sz = 0 then (#[] : Array Value) else z.cells).size]!) = zs.toArray) (hmax : Nat.ble (len * sz) 16777216 = true)
    (hx : EvL n true K (ps.map (·.2)) vs) (hr : fillL (fun i => some (i * sz, sz)) zs ((ps.map (·.1)).zip vs) = some us) (hd : Nat.blt d n = true)
    (next : ∀ g a w, St n w0 ((d, true, .slice (some ⟨g, 0, none⟩) len len) :: K) (.blk g (.cells us.toArray e) :: L) a w → Z a w) :
    Oper.wp P ⟨some d, .buildSlice t len ps.toArray, ty, pos, aft, gd⟩ a w Z Q := by
  refine run_wp (v := .slice (some ⟨w.heap.size, 0, none⟩) len len) (w' := w.alloc (.cells us.toArray e)) ?_ (next _ _ _ ⟨S.kn.put hd _, S.wd.alloc _⟩)
  have h := hx a rfl S.kn
  have e : (ps.toArray.map fun (i, x) => (i, a.eval x)) = ((ps.map (·.1)).zip vs).toArray := by
    rw [← h]
    simp only [List.map_toArray, List.map_map, List.zip_map', Function.comp_def]
  have hf := fill_of hr
  have hm : ¬ (2 ^ 24 < len * sz) := by have := Nat.le_of_ble_eq_true hmax; omega
  simp only [execOp, e, Instr.buildSlice, Sem.run_bind, run_underlying ht, Result.andThen_ok, hsz]
  by_cases h0 : len * sz = 0
  · simp only [h0, if_true, Array.range_zero', List.map_toArray, List.map_nil] at hzs
    have hz0 : zs = [] := by simpa using hzs.symm
    subst hz0
    simp [hm, h0, hf, newRow, Array.range_zero']
  · simp only [h0, if_false] at hzs
    simp [hm, h0, hz, hzs, hf, newRow]
end movers

section ops
variable {P : Program} {n : Nat} {w0 : World} {K : KL} {L : List Chunk} {b : Bool} {dst : Option Tmp} {ty : TypeId} {pos : String} {aft : Array Edge} {gd : Option (Nat × Bool)}

/-- 's[:h]' of a slice. -/
theorem ys_slHi {t e h len cap : Nat} {x y : Operand} {A : Option Addr} {ik : IntKind} (h1 : SliceT P t e) {sz : Nat} (h2 : Size P e sz) (hx : Ev n b K x (.slice A len cap)) (hy : Ev n b K y (.int ik (h : Int))) (hh : b = true → h ≤ cap) :
    Yr P ⟨dst, .slice t x none (some y) none, ty, pos, aft, gd⟩ n K w0 L b (.slice A h cap) := fun a w hb hkn _ => by
  have := hh hb
  have hc : (h : Int) ≤ (cap : Int) := by omega
  simp only [execOp, hx a hb hkn, Option.map_none, Option.map_some, hy a hb hkn, Instr.sliceAt, Sem.run_bind, run_underlying h1, Result.andThen_ok, Instr.slice, Instr.sliceBounds, Instr.sliceBound, asIntOf, Sem.run_pure]
  simp [hc, h2 w]
  cases A <;> simp [Addr.add]
/-- 's[l:]'. -/
theorem ys_slLo {t e lo len cap : Nat} {x y : Operand} {A : Option Addr} {ik : IntKind} {sz : Nat} (h1 : SliceT P t e) (h2 : Size P e sz) (hx : Ev n b K x (.slice A len cap)) (hy : Ev n b K y (.int ik (lo : Int))) (hh : b = true → lo ≤ len ∧ len ≤ cap) :
    Yr P ⟨dst, .slice t x (some y) none none, ty, pos, aft, gd⟩ n K w0 L b (.slice (if cap = lo then A else A.map (·.add (lo * sz))) (len - lo) (cap - lo)) := fun a w hb hkn _ => by
  obtain ⟨h3, h4⟩ := hh hb
  have hc : (lo : Int) ≤ (len : Int) := by omega
  simp only [execOp, hx a hb hkn, Option.map_none, Option.map_some, hy a hb hkn, Instr.sliceAt, Sem.run_bind, run_underlying h1, Result.andThen_ok, Instr.slice, Instr.sliceBounds, Instr.sliceBound, asIntOf, Sem.run_pure]
  simp [hc, h2 w]
/-- 's[l:h]'. -/
theorem ys_slLH {t e lo h len cap : Nat} {x y y' : Operand} {A : Option Addr} {ik ik' : IntKind} {sz : Nat} (h1 : SliceT P t e) (h2 : Size P e sz) (hx : Ev n b K x (.slice A len cap)) (hy : Ev n b K y (.int ik (lo : Int))) (hy' : Ev n b K y' (.int ik' (h : Int))) (hh : b = true → lo ≤ h ∧ h ≤ cap) :
    Yr P ⟨dst, .slice t x (some y) (some y') none, ty, pos, aft, gd⟩ n K w0 L b (.slice (if cap = lo then A else A.map (·.add (lo * sz))) (h - lo) (cap - lo)) := fun a w hb hkn _ => by
  obtain ⟨h3, h4⟩ := hh hb
  have hc : (lo : Int) ≤ (h : Int) := by omega
  have hc' : (h : Int) ≤ (cap : Int) := by omega
  simp only [execOp, hx a hb hkn, Option.map_none, Option.map_some, hy a hb hkn, hy' a hb hkn, Instr.sliceAt, Sem.run_bind, run_underlying h1, Result.andThen_ok, Instr.slice, Instr.sliceBounds, Instr.sliceBound, asIntOf, Sem.run_pure]
  simp [h3, hc', h2 w]
/-- 's[:0:0]'. -/
theorem ys_sl00 {t e len cap : Nat} {x y y' : Operand} {A : Option Addr} {ik ik' : IntKind} {sz : Nat} (h1 : SliceT P t e) (h2 : Size P e sz) (hx : Ev n b K x (.slice A len cap)) (hy : Ev n b K y (.int ik 0)) (hy' : Ev n b K y' (.int ik' 0)) :
    Yr P ⟨dst, .slice t x none (some y) (some y'), ty, pos, aft, gd⟩ n K w0 L b (.slice A 0 0) := fun a w hb hkn _ => by
  simp only [execOp, hx a hb hkn, Option.map_none, Option.map_some, hy a hb hkn, hy' a hb hkn, Instr.sliceAt, Sem.run_bind, run_underlying h1, Result.andThen_ok, Instr.slice, Instr.sliceBounds, Instr.sliceBound, asIntOf, Sem.run_pure]
  simp [h2 w]

theorem ys_cv {s t : TypeId} {x : Operand} {ds : TypeDesc} {k k' : IntKind} {p : Int} (hs : P.underlying s = some ds) (ht : P.underlying t = some (.int k')) (hx : Ev n b K x (.int k p)) : Yr P ⟨dst, .convert s t x, ty, pos, aft, gd⟩ n K w0 L b (.int k' (k'.wrap p)) := fun a w hb hkn _ => by
  simp only [execOp, hx a hb hkn]
  have h := run_convert_int (P := P) (w := w) s t k p (by simp [hs])
  simp [convert, run_underlying hs, run_underlying ht, Conv.intToInt]
theorem ys_cvI {s t : TypeId} {x : Operand} {ds : TypeDesc} {k : IntKind} {p : Int} (hs : P.underlying s = some ds) (ht : P.underlying t = some (.int .i64)) (hx : Ev n b K x (.int k p)) (h : b = true → I64 p) : Yr P ⟨dst, .convert s t x, ty, pos, aft, gd⟩ n K w0 L b (.int .i64 p) :=
  Yr.of_imp (fun hb => by rw [wrap_i64 (h hb)]) (ys_cv hs ht hx)
end ops

/-! ### '==' at a struct -/
section eq
variable {P : Program}
/-- what '==' says of the fields fs, k levels deep at most -/
def FEq (P : Program) (k : Nat) (xs ys : List Value) (fs : List Field) (r : Bool) : Prop := ∀ d w, (Op.eqFields (d + k) xs.toArray ys.toArray fs).run P w = .ok r w
section fields
variable {xs ys : List Value} {nm : String} {tt o : Nat} {em : Bool} {tg pp : String} {bo : Nat} {fs : List Field} {r : Bool} {k : Nat}
theorem FEq.nil : FEq P k xs ys [] true := fun d w => by simp [Op.eqFields]
theorem FEq.int {ik ik' : IntKind} {p q : Int} (hn : (nm != "_") = true) (ht : P.underlying tt = some (.int ik')) (ha : ∀ w, (isAgg tt).run P w = .ok false w) (hx : nth xs o = some (.int ik p)) (hy : nth ys o = some (.int ik q)) (h : FEq P (k + 1) xs ys fs r) :
    FEq P (k + 1) xs ys (⟨nm, tt, o, em, tg, pp, bo⟩ :: fs) (decide (p = q) && r) := fun d w => by
  have hn' : nm ≠ "_" := by simpa using hn
  rw [nth_eq] at hx hy
  have hpq : (p == q) = decide (p = q) := rfl
  have hh := run_equalIn_int (P := P) w (d + k) tt ik ik' p q ht
  rw [Nat.add_assoc] at hh
  simp only [Op.eqFields, ne_eq, hn', not_false_eq_true, if_true, Sem.run_bind, part, ha, Result.andThen_ok]
  simp [hx, hy, hh, hpq]
  by_cases e : p = q <;> simp [e, h d w]
theorem FEq.str {p q : ByteArray} (hn : (nm != "_") = true) (ht : P.underlying tt = some .string) (ha : ∀ w, (isAgg tt).run P w = .ok false w) (hx : nth xs o = some (.string p)) (hy : nth ys o = some (.string q)) (h : FEq P (k + 1) xs ys fs r) :
    FEq P (k + 1) xs ys (⟨nm, tt, o, em, tg, pp, bo⟩ :: fs) (decide (p = q) && r) := fun d w => by
  have hn' : nm ≠ "_" := by simpa using hn
  rw [nth_eq] at hx hy
  have hpq : (p.toList == q.toList) = decide (p = q) := by
    rw [Bool.eq_iff_iff, ByteArray.toList_eq, ByteArray.toList_eq]
    obtain ⟨⟨x⟩⟩ := p
    obtain ⟨⟨y⟩⟩ := q
    simp
  have hh := run_equalIn_string (P := P) w (d + k) tt p q ht
  rw [Nat.add_assoc] at hh
  simp only [Op.eqFields, ne_eq, hn', not_false_eq_true, if_true, Sem.run_bind, part, ha, Result.andThen_ok]
  simp [hx, hy, hh, hpq]
  by_cases e : p = q <;> simp [e, h d w]
theorem FEq.bool {p q : Bool} (hn : (nm != "_") = true) (ht : P.underlying tt = some .bool) (ha : ∀ w, (isAgg tt).run P w = .ok false w) (hx : nth xs o = some (.bool p)) (hy : nth ys o = some (.bool q)) (h : FEq P (k + 1) xs ys fs r) :
    FEq P (k + 1) xs ys (⟨nm, tt, o, em, tg, pp, bo⟩ :: fs) (decide (p = q) && r) := fun d w => by
  have hn' : nm ≠ "_" := by simpa using hn
  rw [nth_eq] at hx hy
  have hpq : (p == q) = decide (p = q) := by cases p <;> cases q <;> rfl
  have hh := run_equalIn_bool' (P := P) w (d + k) tt p q ht
  rw [Nat.add_assoc] at hh
  simp only [Op.eqFields, ne_eq, hn', not_false_eq_true, if_true, Sem.run_bind, part, ha, Result.andThen_ok]
  simp [hx, hy, hh, hpq]
  by_cases e : p = q <;> simp [e, h d w]
theorem FEq.agg {fs' : List Field} {m : Nat} {us vs : List Value} {r' : Bool} (hn : (nm != "_") = true) (ht : P.underlying tt = some (.struct fs'.toArray)) (hp : P.stoodInHeld tt = false) (ha : ∀ w, (isAgg tt).run P w = .ok true w) (hz : ∀ w, (sizeOf tt).run P w = .ok m w) (hx : cellsAt xs o m = some us) (hy : cellsAt ys o m = some vs)
    (h' : FEq P k us vs fs' r') (h : FEq P (k + 1) xs ys fs r) : FEq P (k + 1) xs ys (⟨nm, tt, o, em, tg, pp, bo⟩ :: fs) (r' && r) := fun d w => by
  have hn' : nm ≠ "_" := by simpa using hn
  have e1 : xs.toArray.extract o (o + m) = us.toArray := by
    rw [(cellsAt_eq hx).2]; simp [List.extract_eq_take_drop, List.extract_toArray]
  have e2 : ys.toArray.extract o (o + m) = vs.toArray := by
    rw [(cellsAt_eq hy).2]; simp [List.extract_eq_take_drop, List.extract_toArray]
  have hh := run_equalIn_struct (P := P) w (d + k) tt us.toArray vs.toArray (by simp [Program.fieldsOf, ht]) hp
  rw [Nat.add_assoc] at hh
  have hf := h' d w
  simp only [Op.eqFields, ne_eq, hn', not_false_eq_true, if_true, Sem.run_bind, part, ha, hz, Result.andThen_ok, Sem.run_pure, e1, e2, hh, Program.fieldsOf, ht, hf]
  cases r' <;> simp [h d w]
end fields
theorem EqT.mk {t k d : Nat} {fs : List Field} {xs ys : List Value} {r r' : Bool} (hu : P.underlying t = some (.struct fs.toArray)) (hs : P.stoodInHeld t = false) (hg : P.eqGuardType P.depth t = false) (hk : d + k = 9999) (h : FEq P k xs ys fs r) (hr : r = r') : EqT P t xs ys r' := fun w => by
  subst hr
  refine ⟨by simp [eqGuard, hg], ?_⟩
  rw [run_equalIn_struct w 9999 t _ _ (by simp [Program.fieldsOf, hu]) hs]
  simp only [Program.fieldsOf, hu]
  rw [← hk]
  exact h d w
end eq
end Go.Fw
