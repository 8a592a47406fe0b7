/- Stores into a row of the call's own. Of no program. -/
import Derived.Test.YtjfeeiljinbmjaaMore3
set_option linter.unusedVariables false
set_option linter.unusedSimpArgs false
namespace Go.Fw
open Go.RowKit

theorem lay_take : ∀ (vs cs : List Value) (i N : Nat), i + vs.length ≤ N → N ≤ cs.length → (lay cs i vs).take N = lay (cs.take N) i vs
  | [], cs, i, N, _, _ => by simp [lay]
  | v :: vs, cs, i, N, h, h2 => by
    simp at h
    rw [lay, lay, lay_take vs _ (i + 1) N (by omega) (by simp; omega), List.take_set]
theorem lay_app : ∀ (vs a b : List Value) (i : Nat), i + vs.length ≤ a.length → lay (a ++ b) i vs = lay a i vs ++ b
  | [], a, b, i, _ => by simp [lay]
  | v :: vs, a, b, i, h => by
    simp at h
    rw [lay, lay, List.set_append_left _ _ (by omega), lay_app vs _ b (i + 1) (by simp; omega)]
theorem lay_shift : ∀ (vs a b : List Value) (i : Nat), lay (a ++ b) (a.length + i) vs = a ++ lay b i vs
  | [], a, b, i => by simp [lay]
  | v :: vs, a, b, i => by
    rw [lay, lay, List.set_append_right _ _ (by omega), show a.length + i - a.length = i by omega, show a.length + i + 1 = a.length + (i + 1) by omega, lay_shift vs a _ (i + 1)]
theorem flat_lay {α : Type} {enc : α → List Value} {size : Nat} (he : ∀ x, (enc x).length = size) {x y : α} {j : Nat} {vs : List Value} (hj : j + vs.length ≤ size) (hv : lay (enc x) j vs = enc y) : ∀ (l : List α) (i : Nat), l[i]? = some x → lay (l.flatMap enc) (i * size + j) vs = (l.set i y).flatMap enc
  | [], i, h => by simp at h
  | z :: r, 0, h => by
    simp at h
    subst h
    rw [List.flatMap_cons, Nat.zero_mul, Nat.zero_add, lay_app _ _ _ _ (by rw [he]; exact hj), hv]; simp
  | z :: r, i + 1, h => by
    rw [List.flatMap_cons, show (i + 1) * size + j = (enc z).length + (i * size + j) by rw [he, Nat.add_mul]; omega, lay_shift, flat_lay he hj hv r i (by simpa using h)]; simp

section
variable {P : Program} {n : Nat} {w0 : World} {K : KL} {L : List Chunk} {ty : TypeId} {pos : String} {aft : Array Edge} {gd : Option (Nat × Bool)} {a : Act} {w : World} {Z : Act → World → Prop} {Q : Exit → Act → World → Prop} {d : Nat}
theorem row_store {k e sz g m cap i : Nat} {xs vs : List Value} (S : St n w0 K L a w) (hk : L[k]? = some (.row e sz (some ⟨g, 0, none⟩) m cap xs)) (hi : i + vs.length ≤ m * sz) (hp : 0 < vs.length) (hv : ∀ v ∈ vs, v.oneCell' = true) :
    ∃ w', (storeCells ⟨g, i, none⟩ vs 0).run P w = .ok () w' ∧ Wd w0 (L.set k (.row e sz (some ⟨g, 0, none⟩) m cap (lay xs i vs))) w' := by
  have h := S.wd.get hk
  rcases h.2 with ⟨h0, _⟩ | ⟨g', cur, hA, hc0, hB, hg, hn, hm, hc, ht⟩
  · rw [h0] at hi; omega
  · simp only [Option.some.injEq, Addr.mk.injEq] at hA
    obtain ⟨rfl, _, _⟩ := hA
    have hle : m * sz ≤ cur.toList.length := by
      have := Nat.mul_le_mul_right sz hn
      simp; omega
    obtain ⟨w', hr, hh, hb⟩ := run_store_cells (P := P) (g := g) (t := e) vs i 0 cur.toList w (by simpa using hg) (by omega) hv
    refine ⟨w', by simpa using hr, S.wd.change hk (hb.mono fun x hx => ⟨Nat.pos_iff_ne_zero.1 hc0, by simp [hx]⟩) ⟨?_, .inr ⟨g, _, rfl, hc0, hB, hh, hn, hm, by simp [lay_len, hc], ?_⟩⟩ (fun _ h => .inl h)⟩
    · have hx := h.1
      rw [← ht] at hx ⊢
      rw [lay_len]; exact hx
    · rw [Nat.add_zero]
      simp only
      rw [lay_take _ _ _ _ hi hle, ht]
end
end Go.Fw
