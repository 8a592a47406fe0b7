/- slices.SortFunc at structs, in the words of this layer. Of no program. -/
import Derived.Test.YtjfeeiljinbmjaaIns
import Derived.Test.YtjfeeiljinbmjaaOwn
import Derived.Shelf.SlSortCmp.NoneTotal
set_option linter.unusedVariables false
set_option linter.unusedSimpArgs false
namespace Go.Fw
open Go.RowKit Go.Sort Go.Proofs Go.Shelf

theorem sort_any {P : Program} {ρ : Ren} (LL : SlLaysF0.n6 P ρ) {α : Type} [Inhabited α] (k : Nat) (hk0 : 0 < k) (aE : ∀ w, (isAgg (ρ.t 24)).run P w = .ok true w) (zE : ∀ w, (Go.sizeOf (ρ.t 24)).run P w = .ok k w) (enc : α → List Value) (hk : ∀ x, (enc x).length = k) (h1 : ∀ x, ∀ v ∈ enc x, v.oneCell' = true)
    (cf : α → α → Int) (hO : SWO (ltOf cf)) (g : Nat) (eg : ∀ args w, (callFunc g args).run P w = .ok (.enter g args) w) (hcmp : ∀ (x y : α) W, Calls P g #[.agg (enc x).toArray, .agg (enc y).toArray] W fun e w' => e = .returned (.int .i64 (cf x y)) ∧ Bel W.heap.size W w')
    {w0 w : World} {L : List Chunk} {A : Option Addr} {cap e : Nat} {l : List α} (W : Wd w0 (rowOf e k enc A cap l :: L) w) (hn : l.length ≤ 4194304) :
    RetsO P (ρ.f 6) #[.slice A l.length cap, .func (.func g) #[] #[]] w0 w fun v L' => ∃ l', v = .tuple #[] ∧ l'.Perm l ∧ l'.Pairwise (fun a b => ¬ cf b a < 0) ∧ L' = rowOf e k enc A cap l' :: L := by
  obtain ⟨hlc, hcm⟩ := W.room (k := 0) rfl
  by_cases hc : cap = 0
  · have : l = [] := List.eq_nil_of_length_eq_zero (by omega)
    subst this
    refine Calls.mono (AnyF.slices_SortFunc_none LL A cap _ w) fun e' w' ⟨he, hw⟩ => ?_
    subst hw
    exact ⟨_, _, he, W, [], rfl, List.Perm.refl _, List.Pairwise.nil, rfl⟩
  · obtain ⟨ga, rfl⟩ := W.row_at (k := 0) rfl hc
    obtain ⟨hH, hlt⟩ := holdsK_of W hk hk0 (k := 0) rfl hc
    have hcon := AnyQ.slices_SortFunc LL k aE zE enc hk h1 cf hO g #[] ga 0 cap l.toArray w eg (fun m os dk hs x y => (hcmp x y _).mono fun e' w' ⟨he, hb⟩ => ⟨he, hb.grows⟩) hH hlt (by simp; omega)
    refine Calls.mono hcon fun e' w' ⟨he, d', n, os, ⟨hsz, _, hp⟩, hs, hw⟩ => ?_
    subst hw
    have hlen : d'.toList.length = l.length := by simpa using hsz
    have hW := W.sorted (k := 0) hk hk0 rfl hc (l' := d'.toList) hlen n os
    refine ⟨_, _, he, by simpa using hW, d'.toList, rfl, ?_, ?_, rfl⟩
    · have e1 : d'.extract 0 l.toArray.size = d' := by rw [← hsz]; exact Array.extract_size
      rw [e1, Array.extract_size] at hp
      simpa using hp
    · refine List.pairwise_iff_getElem.2 fun i j hi hj hij => ?_
      have := hs i j (Nat.zero_le _) hij (by simpa using (by omega : j < l.length))
      rw [getElem!_pos d' j (by simpa using hj), getElem!_pos d' i (by simpa using hi)] at this
      simpa [ltOf] using this
end Go.Fw
