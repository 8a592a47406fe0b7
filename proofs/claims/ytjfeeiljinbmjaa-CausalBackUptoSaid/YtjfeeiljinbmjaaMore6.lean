/- More of the layer: three that may come up; chunks picked in an order. -/
import Derived.Test.YtjfeeiljinbmjaaMore5
set_option linter.unusedVariables false
set_option linter.unusedSimpArgs false
set_option maxRecDepth 100000
namespace Go.Fw
open Go.Proofs Go.RowKit

/-- L' is made of chunks of L, in whatever order -/
inductive Picks : List Chunk → List Chunk → Prop
  | nil {L : List Chunk} : Picks L []
  | rest {L L' : List Chunk} : L'.Sublist L → Picks L L'
  | take {L L' : List Chunk} {c : Chunk} (k : Nat) : L[k]? = some c → Picks (L.eraseIdx k) L' → Picks L (c :: L')
theorem Picks.perm {L L' : List Chunk} (h : Picks L L') : ∃ R, L.Perm (L' ++ R) := by
  induction h with
  | @nil L => exact ⟨L, List.Perm.refl _⟩
  | @rest L L' h => exact h.exists_perm_append
  | @take L L' c k hk _ ih =>
    obtain ⟨R, hR⟩ := ih
    exact ⟨R, (perm_pull hk).trans (hR.cons c)⟩
theorem Wd.picks {w0 w : World} {L L' : List Chunk} (W : Wd w0 L w) (h : Picks L L') : Wd w0 L' w := by
  obtain ⟨R, hR⟩ := h.perm
  exact (W.perm hR).sub (List.sublist_append_left _ _)
theorem St.picks {n : Nat} {w0 : World} {K K' : KL} {L L' : List Chunk} {a : Act} {w : World} (S : St n w0 K L a w) (hK : Fits [] K K') (h : Picks L L') : St n w0 K' L' a w := ⟨S.kn.fits hK, S.wd.picks h⟩

section split
variable {P : Program} {Q : Exit → Act → World → Prop} {n : Nat} {w0 : World} {K : KL} {L Lr : List Chunk} {a : Act} {w : World} {ops : Array Oper} {fuel : Nat} {listed : Array Bool} {md : Region.Mode}
/-- Any of three operations may come up. -/
theorem h_split3 {i j k : Nat} {di dj dk : Option Tmp} {opi opj opk : Op} {tyi tyj tyk : TypeId} {posi posj posk : String} {ai aj ak : Array Edge} (hr : Region.ready md ops listed = [i, j, k]) (hi : ops[i]? = some ⟨di, opi, tyi, posi, ai, none⟩) (hj : ops[j]? = some ⟨dj, opj, tyj, posj, aj, none⟩) (hk : ops[k]? = some ⟨dk, opk, tyk, posk, ak, none⟩)
    (h1 : Oper.wp P ⟨di, opi, tyi, posi, ai, none⟩ a w (fun a' w' => Wd w0 Lr w' ∧ wpAnyH P md ops Q (Wd w0 Lr) fuel (listed.setIfInBounds i true) a' w') Q)
    (h2 : Oper.wp P ⟨dj, opj, tyj, posj, aj, none⟩ a w (fun a' w' => Wd w0 Lr w' ∧ wpAnyH P md ops Q (Wd w0 Lr) fuel (listed.setIfInBounds j true) a' w') Q)
    (h3 : Oper.wp P ⟨dk, opk, tyk, posk, ak, none⟩ a w (fun a' w' => Wd w0 Lr w' ∧ wpAnyH P md ops Q (Wd w0 Lr) fuel (listed.setIfInBounds k true) a' w') Q) : wpAnyH P md ops Q (Wd w0 Lr) (fuel + 1) listed a w :=
  wpAnyH_all hr (by simp) fun q hq => by
    simp only [List.mem_cons, List.not_mem_nil, or_false] at hq
    rcases hq with rfl | rfl | rfl
    · unfold wpOp
      simp only [hi, Region.wanted, if_true]
      exact .inl h1
    · unfold wpOp
      simp only [hj, Region.wanted, if_true]
      exact .inl h2
    · unfold wpOp
      simp only [hk, Region.wanted, if_true]
      exact .inl h3
end split
end Go.Fw
