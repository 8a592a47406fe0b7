/- The given statement PlanBoth. -/
import Derived.Test.YtcglchdbddlnjaaPlnK6
set_option linter.unusedVariables false
set_option linter.unusedSimpArgs false
set_option maxRecDepth 100000
namespace Go.Proofs.Ytcglchdbddlnjaa.planBothDone
open Go.Fw Go.Proofs Go.RowKit Go.ChangeShapes Go.WideShapes Go.ChangeAt Go.Deep Go.Joins

theorem own : ownKnob Try.prog.godebug = none := by kernel_rfl
theorem laidOut : laidOutB Try.prog = true := by kernel_rfl

theorem lifted (os : Os) (started : os.Started) (H : Type) (enc : TypeId × Value → H) (F : Stop.Interp) :
    ReturnsInHanded {} Try.checked os 8 .any ((Rows.OpenSpec.upto Rows.planBothSpec).pre6 enc Try.prog Try.f8 Rows.planBothUptoRow.domain false) (((Rows.OpenSpec.upto Rows.planBothSpec).at F).post enc Try.prog Try.f8 false true false false) := by
  refine returnsInHanded_of_cond (C := Try.checked) (s := Rows.OpenSpec.upto Rows.planBothSpec) (k := Rows.uptoSmall) rfl own started (by kernel_rfl) Try.func8
    (OpenSpec.witness (enc := enc) (C := Try.checked) (s := Rows.OpenSpec.upto Rows.planBothSpec) (k := Rows.uptoSmall) rfl false ⟨#[], #[.agg #[.int .i64 0, .int .i64 0, .int .i64 0, .slice none 0 0], .agg #[.int .i64 0, .int .i64 0, .int .i64 0, .slice none 0 0], .int .i64 0], []⟩ 8 (by kernel_rfl) (by kernel_rfl) (by kernel_rfl)
      (x := ([.agg [.lit (.int .i64 0), .lit (.int .i64 0), .lit (.int .i64 0), .nil], .agg [.lit (.int .i64 0), .lit (.int .i64 0), .lit (.int .i64 0), .nil], .lit (.int .i64 0)], [], [])) (by kernel_rfl) rfl (by kernel_rfl)) ?_
  intro W base args ds gs before hval0 hW _ hk0 _
  have hbk : Rows.uptoBulkAll (ds ++ gs) ≤ 1048576 := of_decide_eq_true hk0
  have hval : ∀ (j : Nat) t v, Try.f8.params[j]? = some t → args[j]? = some v → Value.okWide Try.prog W .any base t v := hval0
  have hW' := hW
  obtain ⟨p, q, hA0, hV, rfl, hfz, hnd⟩ := hW
  have hA : DataW.TrodAll enc Try.prog W 0 (fun _ => true) true Try.f8.params.toList args.toList ds p := hA0
  rw [Try.params8] at hA hval
  obtain ⟨v0, vs0, d0, ds0, p0, q0, hargs, rfl, rfl, h0, r0⟩ := trodAll_cons hA
  obtain ⟨v1, vs1, d1, ds1, p1, q1, rfl, rfl, rfl, h1, r1⟩ := trodAll_cons r0
  obtain ⟨v2, vs2, d2, ds2, p2, q2, rfl, rfl, rfl, h2, r2⟩ := trodAll_cons r1
  obtain ⟨rfl, rfl, rfl⟩ := trodAll_nil r2
  obtain rfl : args = #[v0, v1, v2] := by cases args; simp_all
  obtain ⟨rfl, rfl⟩ := trodVars_none hV
  clear hA0 hval0 hA r0 r1 r2
  have lt0 : ∀ x ∈ p0, x.block < W.heap.size := by obtain ⟨m, hm⟩ := h0; exact DataW.trod_lt m _ _ _ hm
  have lt1 : ∀ x ∈ p1, x.block < W.heap.size := by obtain ⟨m, hm⟩ := h1; exact DataW.trod_lt m _ _ _ hm
  have lt2 : ∀ x ∈ p2, x.block < W.heap.size := by obtain ⟨m, hm⟩ := h2; exact DataW.trod_lt m _ _ _ hm
  have hb0 := Nat.le_trans (bulk_part (d := d0) (by simp)) hbk
  have hb1 := Nat.le_trans (bulk_part (d := d1) (by simp)) hbk
  have hb2 := Nat.le_trans (bulk_part (d := d2) (by simp)) hbk
  have main : Calls Try.prog 8 #[v0, v1, v2] W fun e w' => e = .returned (.bool true) ∧ Bel W.heap.size W w' := by
    obtain ⟨u0_0, u0_1, u0_2, u0_3, y0_0, y0_1, y0_2, y0_3, n0, rfl, rfl, rfl, t0_0, t0_1, t0_2, t0_3⟩ := open_agg4 Try.underlying24 (by kernel_rfl) (by kernel_rfl) (hval 0 _ v0 rfl rfl) h0
    obtain ⟨k0_0, ek0_0, wf0_0⟩ := read_int Try.underlying3 t0_0
    subst ek0_0
    obtain ⟨k0_1, ek0_1, wf0_1⟩ := read_int Try.underlying3 t0_1
    subst ek0_1
    obtain ⟨k0_2, ek0_2, wf0_2⟩ := read_int Try.underlying3 t0_2
    subst ek0_2
    obtain ⟨l0, sl0, bl0⟩ := read_mbrs1 Try.underlying22 Try.underlying60 (by kernel_rfl) (by kernel_rfl) Try.underlying3 Try.underlying3 Try.underlying3 Try.underlying3 t0_3
    have bk0 := bulk_four (a := y0_0.1) (b := y0_1.1) (c := y0_2.1) (d := y0_3.1)
    obtain ⟨u1_0, u1_1, u1_2, u1_3, y1_0, y1_1, y1_2, y1_3, n1, rfl, rfl, rfl, t1_0, t1_1, t1_2, t1_3⟩ := open_agg4 Try.underlying24 (by kernel_rfl) (by kernel_rfl) (hval 1 _ v1 rfl rfl) h1
    obtain ⟨k1_0, ek1_0, wf1_0⟩ := read_int Try.underlying3 t1_0
    subst ek1_0
    obtain ⟨k1_1, ek1_1, wf1_1⟩ := read_int Try.underlying3 t1_1
    subst ek1_1
    obtain ⟨k1_2, ek1_2, wf1_2⟩ := read_int Try.underlying3 t1_2
    subst ek1_2
    obtain ⟨l1, sl1, bl1⟩ := read_mbrs1 Try.underlying22 Try.underlying60 (by kernel_rfl) (by kernel_rfl) Try.underlying3 Try.underlying3 Try.underlying3 Try.underlying3 t1_3
    have bk1 := bulk_four (a := y1_0.1) (b := y1_1.1) (c := y1_2.1) (d := y1_3.1)
    obtain ⟨k2, ek2, wf2⟩ := top_int Try.underlying3 (hval 2 _ v2 rfl rfl) h2
    subst ek2
    exact c8 W k0_0 k0_1 k0_2 u0_3 l0 sl0 (by omega) k1_0 k1_1 k1_2 u1_3 l1 sl1 (by omega) k2
  refine main.mono fun e W' ⟨he, bel⟩ => ?_
  subst he
  exact ⟨_, rfl, _, _, _, [], _, [], hW', trodAll_mk1 (shut_bool Try.underlying4 _), (trodAll_cons_mk (Below.trod laidOut (by kernel_rfl) (of_decide_eq_true (by kernel_rfl)) h0 bel.toBelow lt0) (trodAll_cons_mk (Below.trod laidOut (by kernel_rfl) (of_decide_eq_true (by kernel_rfl)) h1 bel.toBelow lt1) (trodAll_cons_mk (Below.trod laidOut (by kernel_rfl) (of_decide_eq_true (by kernel_rfl)) h2 bel.toBelow lt2) trodAll_mk0))), rfl, bel.toBelow.frame _, fun h => by cases h⟩

theorem over : Rows.planBothUptoRow.holds Try.pinned (Rows.OpenSpec.upto Rows.planBothSpec) :=
  OpenClaim.holds_of_cond 8 Try.f8 rfl rfl rfl rfl rfl rfl rfl ⟨rfl, rfl, rfl, rfl, rfl⟩ rfl rfl rfl rfl rfl (by kernel_rfl) Try.func8 (by kernel_rfl)
    (of_decide_eq_true (by kernel_rfl)) (by unfold Func.isWrapper; first | (rw [if_pos (by decide +kernel)]; kernel_rfl) | (rw [if_neg (by decide +kernel)]; exact ⟨rfl, rfl⟩))
    (fun os started H enc _ F => lifted os started H enc F)

theorem proved : Rows.PlanBothUptoSaid := over
end Go.Proofs.Ytcglchdbddlnjaa.planBothDone
