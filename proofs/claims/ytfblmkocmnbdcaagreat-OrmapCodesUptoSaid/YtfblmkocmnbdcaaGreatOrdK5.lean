/- Contracts and laws that the statement Ord leans on, part 5. -/
import Derived.Test.YtfblmkocmnbdcaaGreatOrdK4
set_option linter.unusedVariables false
set_option linter.unusedSimpArgs false
set_option maxRecDepth 100000
set_option maxHeartbeats 4000000
namespace Go.Proofs.YtfblmkocmnbdcaaGreat
open Go.Fw Go.Proofs Go.RowKit Go.Proofs.Tryz
theorem c4 (w0 : World) (v1 v2 v3 v4 : Value) (X : Cart) (b : List UInt8) (h : Sl Ent.enc 6 w0 w0.heap.size v1 X.ents) (hr : RdCtx w0 w0.heap.size v2 v3 X.ctx) (h' : Sl encB 1 w0 w0.heap.size v4 b)
    (hl1 : X.ents.length ≤ 1048576) (hl2 : X.ctx.marks.length ≤ 1048576) (hl3 : X.ctx.cloud.length ≤ 1048576) (hb : b.length ≤ 1048576) :
    Calls Tryz.prog 4 #[.agg #[v1, v2, v3], v4] w0 fun e w' => e = .returned (.bool true) ∧ Bel w0.heap.size w0 w' := by
  have s1 := h
  have s2 := hr
  have s3 := h'
  obtain ⟨A, cap, rfl, _⟩ := h
  obtain ⟨⟨A2, cap2, rfl, _⟩, ⟨A3, cap3, rfl, _⟩⟩ := hr
  obtain ⟨B, capB, rfl, _⟩ := h'
  have hb4 : b.length ≤ 4194304 := by omega
  have rw_n : ∀ i : Int, decide (i = i) = true := fun i => decide_eq_true rfl
  have rw_l : ∀ i : List UInt8, decide (i = i) = true := fun i => decide_eq_true rfl
  refine enter2 func4 rfl ntmps4 rfl fun a S => wp_seq_k fun _ hK1 => wp_region_lit (st_m (op_box S (.t rfl) rfl fun g1 a w S => run S (.ac rfl <| .z) fun a w S => st_nil (then_normal (hK1 _ _ (wp_seq_k fun _ hK1 => wp_region_lit (run S (.la gt39 0 rfl rfl rfl <| .z) fun a w S => ?_))))))
  (refine st_m (op_calls S call20 (.cons (.t rfl) .nil) (c20 _ _ _ _ _ (by exact .old S.wd (by assumption)) (by exact .old S.wd (by assumption)) (by assumption) (by assumption) (by assumption)) rfl ?_); clear S a w; rintro _ _ ⟨A11, r11, A21, r21, A31, r31, rfl, rfl⟩ a w S)
  (refine st_m (op_calls S call15 (.cons (.t rfl) .nil) (c15 _ _ _ _ _ (by exact Sl.of_own S.wd (k := 0) rfl (fun _ => rfl)) (by exact ⟨(by exact Sl.of_own S.wd (k := 1) rfl (fun _ => rfl)), (by exact Sl.of_own S.wd (k := 2) rfl (fun _ => rfl))⟩)) rfl ?_); clear S a w; rintro _ _ ⟨A1, r1, rfl, rfl⟩ a w S)
  refine run S (.mv rfl <| .ex rfl rfl <| .ex rfl rfl <| .as rfl <| .as rfl <| .z) fun a w S => st_nil (then_normal (hK1 _ _ (wp_seq_k fun _ hK1 => wp_region_lit (run S (.la gt39 4 rfl rfl rfl <| .z) fun a w S => ?_))))
  (refine st_m (op_calls S call21 (.cons (.t rfl) .nil) (c21 _ _ _ _ _ (by exact .old S.wd (by assumption)) (by exact .old S.wd (by assumption))) rfl ?_); clear S a w; rintro _ _ ⟨A4, r2, rfl, rfl⟩ a w S)
  refine run S (.mv rfl <| .ex rfl rfl <| .ex rfl rfl <| .as rfl <| .as rfl <| .z) fun a w S => st_nil (then_normal (hK1 _ _ (wp_seq_k fun _ hK1 => wp_region_lit (run S (.mv rfl <| .z) fun a w S => ?_))))
  (refine st_m (op_calls S call22 (.cons (.t rfl) .nil) (c22 _ _ _ (by exact .old S.wd (by assumption)) (by assumption)) rfl ?_); clear S a w; rintro _ _ ⟨A5, c1, rfl, rfl⟩ a w S)
  refine run S (.as rfl <| .z) fun a w S => st_nil (then_normal (hK1 _ _ (wp_seq_k fun _ hK1 => wp_region_lit (run S (.mv rfl <| .z) fun a w S => ?_))))
  (refine st_m (op_calls S call16 (.cons (.t rfl) .nil) (c16 _ _ _ (by exact Sl.of_own S.wd (k := 0) rfl (fun _ => rfl)) (by assumption)) rfl ?_); clear S a w; rintro _ _ ⟨A12, r12, A22, r22, A32, r32, rfl, rfl⟩ a w S)
  refine run S (.mv rfl <| .ex rfl rfl <| .ex rfl rfl <| .z) fun a w S => st_m (op_alloc S zeroValue39 (cs := _) rfl rfl fun g2 a w S => st_m (op_stW S sizeOf39 (.t rfl) (.t rfl) (k := 0) rfl rfl rfl (by simp [Value.oneCell']) fun a w S => run S (.as rfl <| .z) fun a w S => st_nil (then_normal (hK1 _ _ (wp_seq_k fun _ hK1 => wp_region_lit (run S (.mv rfl <| .z) fun a w S => ?_))))))
  (refine st_m (op_calls S call18 (.cons (.t rfl) .nil) (c18 _ _ _ (by exact .old S.wd (by assumption)) (by assumption)) rfl ?_); clear S a w; rintro _ _ ⟨A13, r13, A23, r23, A33, r33, rfl, rfl⟩ a w S)
  refine run S (.mv rfl <| .ex rfl rfl <| .ex rfl rfl <| .z) fun a w S => st_m (op_alloc S zeroValue39 (cs := _) rfl rfl fun g3 a w S => st_m (op_stW S sizeOf39 (.t rfl) (.t rfl) (k := 0) rfl rfl rfl (by simp [Value.oneCell']) fun a w S => run S (.as rfl <| .z) fun a w S => st_nil (then_normal (hK1 _ _ (wp_seq_k fun _ hK1 => wp_region_lit (run S (.mv rfl <| .mv rfl <| .yy (ys_T (by omega) (ys_eql (.t rfl) (.t rfl))) rfl <| .mv rfl <| .gy rfl rfl (ys_move (.t rfl)) <| .gy rfl rfl (ys_move (.t rfl)) <| .gx rfl rfl (ys_call call19 (.cons (.t rfl) (.cons (.t rfl) .nil)) (fun hp w W => c19 _ _ _ _ _ (by exact Sl.of_own W (k := 10) rfl (fun _ => rfl)) (by exact Sl.of_own W (k := 9) rfl (fun _ => rfl)))) <| .z) fun a w S => ?_))))))
  simp only [List.nil_append] at S
  refine run S (.yy (ys_pickT (.t rfl) (.t rfl)) rfl <| .mv rfl <| .gy rfl rfl (ys_ldA ⟨isAgg39, sizeOf39⟩ (.t rfl) (k := 4) rfl rfl) <| .gy rfl rfl (ys_move (.t rfl)) <| .gy rfl rfl (ys_ldA ⟨isAgg39, sizeOf39⟩ (.t rfl) (k := 0) rfl rfl) <| .gy rfl rfl (ys_move (.t rfl)) <| .gx rfl rfl (ys_call call23 (.cons (.t rfl) (.cons (.t rfl) (.cons (.t rfl) (.cons (.t rfl) .nil)))) (fun hp w W => c23 _ _ _ _ _ _ _ _ _ _ _ (by exact Sl.of_own W (k := 5) rfl (fun _ => rfl)) (by exact ⟨(by exact Sl.of_own W (k := 6) rfl (fun _ => rfl)), (by exact Sl.of_own W (k := 7) rfl (fun _ => rfl))⟩) (by exact Sl.of_own W (k := 1) rfl (fun _ => rfl)) (by exact ⟨(by exact Sl.of_own W (k := 2) rfl (fun _ => rfl)), (by exact Sl.of_own W (k := 3) rfl (fun _ => rfl))⟩) (by omega) (by (simp; done)))) <| .yy (ys_pickT (.t rfl) (.t rfl)) rfl <| .mv rfl <| .gy rfl rfl (ys_move (.t rfl)) <| .gy rfl rfl (ys_move (.t rfl)) <| .gx rfl rfl (ys_call call19 (.cons (.t rfl) (.cons (.t rfl) .nil)) (fun hp w W => c19 _ _ _ _ _ (by exact Sl.of_own W (k := 8) rfl (fun _ => rfl)) (by exact .old W (by assumption)))) <| .z) fun a w S => ?_
  simp only [List.nil_append] at S
  refine run S (.yy (ys_pickT (.t rfl) (.t rfl)) rfl <| .as rfl <| .z) fun a w S => st_nil (then_normal (hK1 _ _ (wp_ret (st_ret S (results1 S results4 (Rv.tmp rfl)) ?_))))
  exact ⟨by rw [decide_eq_true True.intro], S.wd.below⟩
end Go.Proofs.YtfblmkocmnbdcaaGreat
