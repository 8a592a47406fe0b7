/- The given statement OrmapReads. -/
import Derived.Test.YtfblmkocmnbdcaaGreatOrrK6
set_option linter.unusedVariables false
set_option linter.unusedSimpArgs false
set_option maxRecDepth 100000
namespace Go.Proofs.YtfblmkocmnbdcaaGreat.ormapReadsDone
open Go.Fw Go.Proofs Go.RowKit Go.ChangeShapes Go.WideShapes Go.ChangeAt Go.Deep Go.Joins

theorem own : ownKnob Tryz.prog.godebug = none := by kernel_rfl
theorem laidOut : laidOutB Tryz.prog = true := by kernel_rfl

theorem lifted (os : Os) (started : os.Started) (H : Type) (enc : TypeId × Value → H) (F : Stop.Interp) :
    ReturnsInHanded {} Tryz.checked os 12 .any ((Rows.OpenSpec.upto Rows.ormapReadsSpec).pre6 enc Tryz.prog Tryz.f12 Rows.ormapReadsUptoRow.domain false) (((Rows.OpenSpec.upto Rows.ormapReadsSpec).at F).post enc Tryz.prog Tryz.f12 false true false false) := by
  refine returnsInHanded_of_cond (C := Tryz.checked) (s := Rows.OpenSpec.upto Rows.ormapReadsSpec) (k := Rows.uptoSmall) rfl own started (by kernel_rfl) Tryz.func12
    (OpenSpec.witness (enc := enc) (C := Tryz.checked) (s := Rows.OpenSpec.upto Rows.ormapReadsSpec) (k := Rows.uptoSmall) rfl false ⟨#[], #[.agg #[.slice none 0 0, .slice none 0 0, .slice none 0 0, .slice none 0 0, .slice none 0 0], .int .u64 0, .int .u64 0, .agg #[.int .i64 0, .int .i64 0]], []⟩ 8 (by kernel_rfl) (by kernel_rfl) (by kernel_rfl)
      (x := ([.agg [.nil, .nil, .nil, .nil, .nil], .lit (.int .u64 0), .lit (.int .u64 0), .agg [.lit (.int .i64 0), .lit (.int .i64 0)]], [], [])) (by kernel_rfl) rfl (by kernel_rfl)) ?_
  intro W base args ds gs before hval0 hW _ hk0 _
  have hbk : Rows.uptoBulkAll (ds ++ gs) ≤ 1048576 := of_decide_eq_true hk0
  have hval : ∀ (j : Nat) t v, Tryz.f12.params[j]? = some t → args[j]? = some v → Value.okWide Tryz.prog W .any base t v := hval0
  have hW' := hW
  obtain ⟨p, q, hA0, hV, rfl, hfz, hnd⟩ := hW
  have hA : DataW.TrodAll enc Tryz.prog W 0 (fun _ => true) true Tryz.f12.params.toList args.toList ds p := hA0
  rw [Tryz.params12] at hA hval
  obtain ⟨v0, vs0, d0, ds0, p0, q0, hargs, rfl, rfl, h0, r0⟩ := trodAll_cons hA
  obtain ⟨v1, vs1, d1, ds1, p1, q1, rfl, rfl, rfl, h1, r1⟩ := trodAll_cons r0
  obtain ⟨v2, vs2, d2, ds2, p2, q2, rfl, rfl, rfl, h2, r2⟩ := trodAll_cons r1
  obtain ⟨v3, vs3, d3, ds3, p3, q3, rfl, rfl, rfl, h3, r3⟩ := trodAll_cons r2
  obtain ⟨rfl, rfl, rfl⟩ := trodAll_nil r3
  obtain rfl : args = #[v0, v1, v2, v3] := by cases args; simp_all
  obtain ⟨rfl, rfl⟩ := trodVars_none hV
  clear hA0 hval0 hA r0 r1 r2 r3
  have lt0 : ∀ x ∈ p0, x.block < W.heap.size := by obtain ⟨m, hm⟩ := h0; exact DataW.trod_lt m _ _ _ hm
  have lt1 : ∀ x ∈ p1, x.block < W.heap.size := by obtain ⟨m, hm⟩ := h1; exact DataW.trod_lt m _ _ _ hm
  have lt2 : ∀ x ∈ p2, x.block < W.heap.size := by obtain ⟨m, hm⟩ := h2; exact DataW.trod_lt m _ _ _ hm
  have lt3 : ∀ x ∈ p3, x.block < W.heap.size := by obtain ⟨m, hm⟩ := h3; exact DataW.trod_lt m _ _ _ hm
  have hb0 := Nat.le_trans (bulk_part (d := d0) (by simp)) hbk
  have hb1 := Nat.le_trans (bulk_part (d := d1) (by simp)) hbk
  have hb2 := Nat.le_trans (bulk_part (d := d2) (by simp)) hbk
  have hb3 := Nat.le_trans (bulk_part (d := d3) (by simp)) hbk
  have main : Calls Tryz.prog 12 #[v0, v1, v2, v3] W fun e w' => e = .returned (.bool true) ∧ Bel W.heap.size W w' := by
    obtain ⟨v0_1, v0_2, v0_3, v0_4, v0_5, x0, rfl, hx0⟩ := read_hist rfl (hval 0 _ v0 rfl rfl) h0
    obtain ⟨k1, ek1, wf1⟩ := top_int Tryz.underlying27 (hval 1 _ v1 rfl rfl) h1
    subst ek1
    obtain ⟨k2, ek2, wf2⟩ := top_int Tryz.underlying27 (hval 2 _ v2 rfl rfl) h2
    subst ek2
    obtain ⟨u3_0, u3_1, y3_0, y3_1, n3, rfl, rfl, rfl, t3_0, t3_1⟩ := open_agg2 Tryz.underlying77 (by kernel_rfl) (by kernel_rfl) (hval 3 _ v3 rfl rfl) h3
    obtain ⟨k3_0, ek3_0, wf3_0⟩ := read_int Tryz.underlying3 t3_0
    subst ek3_0
    obtain ⟨k3_1, ek3_1, wf3_1⟩ := read_int Tryz.underlying3 t3_1
    subst ek3_1
    exact (by obtain ⟨p1, rfl⟩ := u64_wf wf1; obtain ⟨p2, rfl⟩ := u64_wf wf2; exact c12 W _ _ _ _ _ x0 p1 p2 k3_0 k3_1 hx0.items hx0.qtys hx0.prices hx0.nodes hx0.saws)
  refine main.mono fun e W' ⟨he, bel⟩ => ?_
  subst he
  exact ⟨_, rfl, _, _, _, [], _, [], hW', trodAll_mk1 (shut_bool Tryz.underlying4 _), (trodAll_cons_mk (Below.trod laidOut (by kernel_rfl) (of_decide_eq_true (by kernel_rfl)) h0 bel.toBelow lt0) (trodAll_cons_mk (Below.trod laidOut (by kernel_rfl) (of_decide_eq_true (by kernel_rfl)) h1 bel.toBelow lt1) (trodAll_cons_mk (Below.trod laidOut (by kernel_rfl) (of_decide_eq_true (by kernel_rfl)) h2 bel.toBelow lt2) (trodAll_cons_mk (Below.trod laidOut (by kernel_rfl) (of_decide_eq_true (by kernel_rfl)) h3 bel.toBelow lt3) trodAll_mk0)))), rfl, bel.toBelow.frame _, fun h => by cases h⟩

theorem over : Rows.ormapReadsUptoRow.holds Tryz.pinned (Rows.OpenSpec.upto Rows.ormapReadsSpec) :=
  OpenClaim.holds_of_cond 12 Tryz.f12 rfl rfl rfl rfl rfl rfl rfl ⟨rfl, rfl, rfl, rfl, rfl⟩ rfl rfl rfl rfl rfl (by kernel_rfl) Tryz.func12 (by kernel_rfl)
    (of_decide_eq_true (by kernel_rfl)) (by unfold Func.isWrapper; first | (rw [if_pos (by decide +kernel)]; kernel_rfl) | (rw [if_neg (by decide +kernel)]; exact ⟨rfl, rfl⟩))
    (fun os started H enc _ F => lifted os started H enc F)

theorem proved : Rows.OrmapReadsUptoSaid := over
end Go.Proofs.YtfblmkocmnbdcaaGreat.ormapReadsDone
