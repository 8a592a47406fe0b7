/- The given statement AuditJournals. -/
import Derived.Test.YtakpdbmdfnialaaGreatAjoK6
set_option linter.unusedVariables false
set_option linter.unusedSimpArgs false
set_option maxRecDepth 100000
namespace Go.Proofs.YtakpdbmdfnialaaGreat.auditJournalsDone
open Go.Fw Go.Proofs Go.RowKit Go.ChangeShapes Go.WideShapes Go.ChangeAt Go.Deep Go.Joins

theorem own : ownKnob Tryz.prog.godebug = none := by kernel_rfl
theorem laidOut : laidOutB Tryz.prog = true := by kernel_rfl

theorem lifted (os : Os) (started : os.Started) (H : Type) (enc : TypeId × Value → H) (F : Stop.Interp) :
   ReturnsInHanded {} Tryz.checked os 12 .any ((Rows.OpenSpec.upto Rows.auditJournalsSpec).pre6 enc Tryz.prog Tryz.f12 Rows.auditJournalsUptoRow.domain false) (((Rows.OpenSpec.upto Rows.auditJournalsSpec).at F).post enc Tryz.prog Tryz.f12 false true false false) := by
 refine returnsInHanded_of_cond (C := Tryz.checked) (s := Rows.OpenSpec.upto Rows.auditJournalsSpec) (k := Rows.uptoSmall) rfl own started (by kernel_rfl) Tryz.func12
   (OpenSpec.witness (enc := enc) (C := Tryz.checked) (s := Rows.OpenSpec.upto Rows.auditJournalsSpec) (k := Rows.uptoSmall) rfl false ⟨#[], #[.slice none 0 0], []⟩ 8 (by kernel_rfl) (by kernel_rfl) (by kernel_rfl)
     (x := ([.nil], [], [])) (by kernel_rfl) rfl (by kernel_rfl)) ?_
 intro W base args ds gs before hval0 hW _ hk0 _
 have hbk : Rows.uptoBulkAll (ds ++ gs) ≤ 1048576 := of_decide_eq_true hk0
 have hval : ∀ (j : Nat) t v, Tryz.f12.params[j]? = some t → args[j]? = some v → Value.okWide Tryz.prog W .any base t v := hval0
 have hW' := hW
 obtain ⟨p, q, hA0, hV, rfl, hfz, hnd⟩ := hW
 have hA : DataW.TrodAll enc Tryz.prog W 0 (fun _ => true) true Tryz.f12.params.toList args.toList ds p := hA0
 rw [Tryz.params12] at hA hval
 obtain ⟨v0, vs0, d0, ds0, p0, q0, hargs, rfl, rfl, h0, r0⟩ := trodAll_cons hA
 obtain ⟨rfl, rfl, rfl⟩ := trodAll_nil r0
 obtain rfl : args = #[v0] := by cases args; simp_all
 obtain ⟨rfl, rfl⟩ := trodVars_none hV
 clear hA0 hval0 hA r0
 have lt0 : ∀ x ∈ p0, x.block < W.heap.size := by obtain ⟨m, hm⟩ := h0; exact DataW.trod_lt m _ _ _ hm
 have hb0 := Nat.le_trans (bulk_part (d := d0) (by simp)) hbk
 have main : Calls Tryz.prog 12 #[v0] W fun e w' => e = .returned (.bool true) ∧ Bel W.heap.size W w' := by
   obtain ⟨l0, sl0, bl0, xl0, zl0, sm0, sc0⟩ := read_logsS (okWide_slice Tryz.underlying84 (hval 0 _ v0 rfl rfl)) h0 hb0
   exact c12 W v0 l0 sl0 xl0 zl0 (by omega) (by omega) (by omega)
 refine main.mono fun e W' ⟨he, bel⟩ => ?_
 subst he
 exact ⟨_, rfl, _, _, _, [], _, [], hW', trodAll_mk1 (shut_bool Tryz.underlying4 _), (trodAll_cons_mk (Below.trod laidOut (by kernel_rfl) (of_decide_eq_true (by kernel_rfl)) h0 bel.toBelow lt0) trodAll_mk0), rfl, bel.toBelow.frame _, fun h => by cases h⟩

theorem over : Rows.auditJournalsUptoRow.holds Tryz.pinned (Rows.OpenSpec.upto Rows.auditJournalsSpec) :=
 OpenClaim.holds_of_cond 12 Tryz.f12 rfl rfl rfl rfl rfl rfl rfl ⟨rfl, rfl, rfl, rfl, rfl⟩ rfl rfl rfl rfl rfl (by kernel_rfl) Tryz.func12 (by kernel_rfl)
   (of_decide_eq_true (by kernel_rfl)) (by unfold Func.isWrapper; first | (rw [if_pos (by decide +kernel)]; kernel_rfl) | (rw [if_neg (by decide +kernel)]; exact ⟨rfl, rfl⟩))
   (fun os started H enc _ F => lifted os started H enc F)

theorem proved : Rows.AuditJournalsUptoSaid := over
end Go.Proofs.YtakpdbmdfnialaaGreat.auditJournalsDone
