/- Layer 3: dots sorted by the library. -/
import Derived.Test.YtjfeeiljinbmjaaCau10
import Derived.Test.YtjfeeiljinbmjaaSort2
import Derived.Test.YtjfeeiljinbmjaaLay
set_option linter.unusedVariables false
set_option linter.unusedSimpArgs false
set_option maxRecDepth 100000
namespace Go.Proofs.Ytjfeeiljinbmjaa
open Go.Fw Go.Proofs Go.RowKit Go.Sort

/-- a dot that may be -/
abbrev MDot := {d : Dot // mayD d = true}
instance : Inhabited MDot := ⟨⟨⟨0, 1, 1⟩, rfl⟩⟩
abbrev MDot.enc (d : MDot) : List Value := Dot.enc d.1
theorem swoD : SWO (ltOf fun x y : MDot => orderD x.1 y.1) where
  irrefl x := by
    simp only [ltOf, decide_eq_false_iff_not, orderC_iff]
    unfold ltC
    omega
  trans x y z h1 h2 := by
    simp only [ltOf, decide_eq_true_eq, orderC_iff] at *
    exact ltC_trans h1 h2
  ntrans x y z h1 h2 := by
    simp only [ltOf, decide_eq_false_iff_not, orderC_iff] at *
    unfold ltC at *
    omega
theorem enc_map (ls : List MDot) : ls.flatMap MDot.enc = (ls.map (·.1)).flatMap Dot.enc := by
  induction ls with
  | nil => rfl
  | cons x r ih => simp only [List.flatMap_cons, List.map_cons, ih]
theorem k110 {w0 w : World} {L : List Chunk} {A : Option Addr} {cap : Nat} {l : List Dot} (W : Wd w0 (rowOf 32 3 Dot.enc A cap l :: L) w) (hm : ∀ x ∈ l, mayD x = true) (hn : l.length ≤ 4194304) :
    RetsO Try.prog 110 #[.slice A l.length cap, .func (.func 73) #[] #[]] w0 w fun v L' => ∃ l', v = .tuple #[] ∧ l'.Perm l ∧ l'.Pairwise leC ∧ L' = rowOf 32 3 Dot.enc A cap l' :: L := by
  obtain ⟨ls, rfl⟩ : ∃ ls : List MDot, ls.map (·.1) = l := ⟨l.pmap Subtype.mk hm, by simp [List.map_pmap]⟩
  have e1 : ∀ ls : List MDot, rowOf 32 3 Dot.enc A cap (ls.map (·.1)) = rowOf 32 3 MDot.enc A cap ls := fun ls => by
    unfold rowOf
    rw [enc_map, List.length_map]
  rw [e1] at W
  rw [List.length_map] at hn ⊢
  have h := sort_any Try.sortDots 3 (by omega) Try.isAgg32 Try.sizeOf32 MDot.enc (fun _ => rfl) (fun x u hu => by simp [MDot.enc, Dot.enc] at hu; rcases hu with rfl | rfl | rfl <;> rfl) (fun x y => orderD x.1 y.1) swoD 73 Try.call73
    (fun x y W => c73 W _ _ _ _ _ _ (may_bd x.2) (may_bd y.2)) W hn
  refine Calls.mono h fun e w' ⟨v, L', he, W', l', hv, hp, hs, hL⟩ => ⟨v, L', he, W', l'.map (·.1), hv, hp.map _, ?_, ?_⟩
  · rw [List.pairwise_map]
    exact hs.imp fun h => by rw [← not_ltC, ← orderC_iff]; exact h
  · rw [hL, e1]
end Go.Proofs.Ytjfeeiljinbmjaa
