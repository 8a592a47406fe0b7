/- Contracts and laws that the statement Orr leans on, part 5. -/
import Derived.Test.YtfblmkocmnbdcaaGreatOrrK4
set_option linter.unusedVariables false
set_option linter.unusedSimpArgs false
set_option maxRecDepth 100000
set_option maxHeartbeats 4000000
namespace Go.Proofs.YtfblmkocmnbdcaaGreat
open Go.Fw Go.Proofs Go.RowKit Go.Proofs.Tryz
theorem c106 (w0 : World) (v1 v2 v3 v4 : Value) (C D : Ctx) (h : RdCtx w0 w0.heap.size v1 v2 C) (h' : RdCtx w0 w0.heap.size v3 v4 D) :
    Calls Tryz.prog 106 #[.agg #[v1, v2], .agg #[v3, v4]] w0 fun e w' => e = .returned (.bool (leqR C D)) ∧ Bel w0.heap.size w0 w' := by
  obtain ⟨⟨A, cap, rfl, hl, hcap, hA⟩, ⟨A', cap', rfl, hl', hcap', hA'⟩⟩ := h
  obtain ⟨hD1, hD2⟩ := h'
  have hD : RdCtx w0 w0.heap.size v3 v4 D := ⟨hD1, hD2⟩
  refine enter2 func106 rfl ntmps106 rfl fun a S => wp_seq_k fun _ hK1 => wp_region_lit (st_m (op_box S (.t rfl) rfl fun g1 a w S => st_m (op_box S (.t rfl) rfl fun g2 a w S => run S (.ac rfl <| .z) fun a w S => st_nil (then_normal (hK1 _ _ (wp_seq_k fun _ hK1 => sg S (.fa underlying37 sizeOf34 0 rfl rfl rfl <| .ld gt34 1 rfl rfl rfl <| .ln underlying34 rfl <| .mc rfl <| .z) fun a w S => wp_block ?_))))))
  refine st_lpK S (X := Nat) (fun k => [(12, true, .int .i64 (k : Int))]) (fun _ L => L) (fun k => k ≤ C.marks.length ∧ ∀ x ∈ C.marks.take k, x.count ≤ markOf D.marks x.node x.life) (fun k => C.marks.length - k) 0 ⟨Nat.zero_le _, by simp⟩ ?_
  clear S
  intro k a w ⟨hk, hno⟩ S
  by_cases hlt : k < C.marks.length
  · obtain ⟨g, o, m, rfl, hmm, hd, hc⟩ := row_at hA hlt
    by_cases hle : markOf D.marks m.node m.life < m.count
    · refine sg S (.lt (by omega) rfl rfl <| .z) fun a w S => wp_seq_k fun _ hK2 => st_then S (.t rfl) (wp_skip (then_normal (hK2 _ _ (wp_seq_k fun _ hK2 => wp_block (wp_seq_k fun _ hK3 => wp_region_lit (run S (.ix underlying34 sizeOf122 (by omega) rfl rfl <| .yy (ys_ldOA ⟨isAgg122, sizeOf122⟩ (.t rfl) (vs := [_, _, _]) rfl (fun _ => hc)) rfl <| .z) fun a w S => st_m (op_alloc S zeroValue122 (cs := _) rfl rfl fun g3 a w S => st_m (op_stW S sizeOf122 (.t rfl) (.t rfl) (k := 0) rfl rfl rfl (by simp [Value.oneCell']) fun a w S => st_nil (then_normal (hK3 _ _ (wp_seq_k fun _ hK3 => st_quiet S (by kernel_rfl) (by kernel_rfl) fun a S => qrun S (.fa underlying37 sizeOf34 0 rfl rfl rfl <| .ld gt34 1 rfl rfl rfl <| .fa underlying122 sizeOf3 0 rfl rfl rfl <| .ld gt3 0 rfl rfl rfl <| .fa underlying122 sizeOf3 1 rfl rfl rfl <| .ld gt3 0 rfl rfl rfl <| .xx (ys_call call95 (.cons (.t rfl) (.cons (.t rfl) (.cons (.t rfl) .nil))) (fun hp w W => c95 _ _ _ _ _ (by exact .old W (by assumption)))) rfl <| .fa underlying122 sizeOf3 2 rfl rfl rfl <| .ld gt3 0 rfl rfl rfl <| .lt (by omega) rfl rfl <| .z) fun a S => ?_)))))))))))
      (refine q_nil ?_; intro w W; replace S := St.mk S W; clear W)
      refine then_normal (hK3 _ _ (st_then S (.t rfl) (sg S (.ac rfl <| .z) fun a w S => wp_ret (in_ret (then_ret (then_ret (in_ret (then_ret (st_ret S (results1 S results106 (Rv.tmp rfl)) ?_)))))))))
      exact ⟨by rw [leqR_m hmm hle], S.wd.below⟩
    · refine sg S (.lt (by omega) rfl rfl <| .z) fun a w S => wp_seq_k fun _ hK2 => st_then S (.t rfl) (wp_skip (then_normal (hK2 _ _ (wp_seq_k fun _ hK2 => wp_block (wp_seq_k fun _ hK3 => wp_region_lit (run S (.ix underlying34 sizeOf122 (by omega) rfl rfl <| .yy (ys_ldOA ⟨isAgg122, sizeOf122⟩ (.t rfl) (vs := [_, _, _]) rfl (fun _ => hc)) rfl <| .z) fun a w S => st_m (op_alloc S zeroValue122 (cs := _) rfl rfl fun g3 a w S => st_m (op_stW S sizeOf122 (.t rfl) (.t rfl) (k := 0) rfl rfl rfl (by simp [Value.oneCell']) fun a w S => st_nil (then_normal (hK3 _ _ (wp_seq_k fun _ hK3 => st_quiet S (by kernel_rfl) (by kernel_rfl) fun a S => qrun S (.fa underlying37 sizeOf34 0 rfl rfl rfl <| .ld gt34 1 rfl rfl rfl <| .fa underlying122 sizeOf3 0 rfl rfl rfl <| .ld gt3 0 rfl rfl rfl <| .fa underlying122 sizeOf3 1 rfl rfl rfl <| .ld gt3 0 rfl rfl rfl <| .xx (ys_call call95 (.cons (.t rfl) (.cons (.t rfl) (.cons (.t rfl) .nil))) (fun hp w W => c95 _ _ _ _ _ (by exact .old W (by assumption)))) rfl <| .fa underlying122 sizeOf3 2 rfl rfl rfl <| .ld gt3 0 rfl rfl rfl <| .ge (by omega) rfl rfl <| .z) fun a S => ?_)))))))))))
      (refine q_nil ?_; intro w W; replace S := St.mk S W; clear W)
      refine then_normal (hK3 _ _ (st_else S (.t rfl) (wp_skip (in_normal (then_normal (hK2 _ _ (wp_region_lit (run S (.ad (by unfold I64; omega) rfl <| .mv rfl <| .z) fun a w S => st_nil (then_normal ?_)))))))))
      refine ⟨k + 1, ⟨by omega, fun x hx => ?_⟩, by omega, S.wk⟩
      rw [List.take_add_one, hmm] at hx
      rcases List.mem_append.1 hx with hx | hx
      · exact hno x hx
      · simp at hx; rw [hx]; omega
  · have hend : k = C.marks.length := by omega
    subst hend
    rw [List.take_length] at hno
    refine sg S (.ge (by omega) rfl rfl <| .z) fun a w S => wp_seq_k fun _ hK2 => st_else S (.t rfl) (wp_exit (then_exit (then_exit (in_here (then_normal (hK1 _ _ (wp_seq_k fun _ hK1 => sg S (.fa underlying37 sizeOf35 1 rfl rfl rfl <| .ld gt35 1 rfl rfl rfl <| .ln underlying35 rfl <| .mc rfl <| .z) fun a w S => wp_block ?_)))))))
    refine st_lpK S (X := Nat) (fun k => [(30, true, .int .i64 (k : Int))]) (fun _ L => L) (fun k => k ≤ C.cloud.length ∧ ∀ x ∈ C.cloud.take k, D.coversR x = true) (fun k => C.cloud.length - k) 0 ⟨Nat.zero_le _, by simp⟩ ?_
    clear S
    intro k a w ⟨hk, hno'⟩ S
    by_cases hlt : k < C.cloud.length
    · obtain ⟨g, o, m, rfl, hmm, hd, hc⟩ := row_at hA' hlt
      have rw_e : (⟨m.node, m.life, m.count⟩ : Dot) = m := rfl
      cases rw_b : D.coversR m with
      | false =>
        refine sg S (.lt (by omega) rfl rfl <| .z) fun a w S => wp_seq_k fun _ hK3 => st_then S (.t rfl) (wp_skip (then_normal (hK3 _ _ (wp_seq_k fun _ hK3 => wp_block (wp_seq_k fun _ hK4 => wp_region_lit (run S (.ix underlying35 sizeOf58 (by omega) rfl rfl <| .yy (ys_ldOA ⟨isAgg58, sizeOf58⟩ (.t rfl) (vs := [_, _, _]) rfl (fun _ => hc)) rfl <| .z) fun a w S => st_m (op_alloc S zeroValue58 (cs := _) rfl rfl fun g3 a w S => st_m (op_stW S sizeOf58 (.t rfl) (.t rfl) (k := 0) rfl rfl rfl (by simp [Value.oneCell']) fun a w S => st_nil (then_normal (hK4 _ _ (wp_seq_k fun _ hK4 => wp_region_lit (run S (.la gt37 1 rfl rfl rfl <| .la gt58 0 rfl rfl rfl <| .xx (ys_call call37 (.cons (.t rfl) (.cons (.t rfl) .nil)) (fun hp w W => c37 _ _ _ _ _ _ _ (by exact .old W (by assumption)))) rfl <| .z) fun a w S => ?_))))))))))))
        rw [rw_e] at S
        rw [rw_b] at S
        refine run S (.nt rfl <| .z) fun a w S => st_nil (then_normal (hK4 _ _ (st_then S (.t rfl) (sg S (.ac rfl <| .z) fun a w S => wp_ret (in_ret (then_ret (then_ret (in_ret (then_ret (st_ret S (results1 S results106 (Rv.tmp rfl)) ?_))))))))))
        exact ⟨by rw [leqR_c hmm rw_b], S.wd.below⟩
      | true =>
        refine sg S (.lt (by omega) rfl rfl <| .z) fun a w S => wp_seq_k fun _ hK3 => st_then S (.t rfl) (wp_skip (then_normal (hK3 _ _ (wp_seq_k fun _ hK3 => wp_block (wp_seq_k fun _ hK4 => wp_region_lit (run S (.ix underlying35 sizeOf58 (by omega) rfl rfl <| .yy (ys_ldOA ⟨isAgg58, sizeOf58⟩ (.t rfl) (vs := [_, _, _]) rfl (fun _ => hc)) rfl <| .z) fun a w S => st_m (op_alloc S zeroValue58 (cs := _) rfl rfl fun g3 a w S => st_m (op_stW S sizeOf58 (.t rfl) (.t rfl) (k := 0) rfl rfl rfl (by simp [Value.oneCell']) fun a w S => st_nil (then_normal (hK4 _ _ (wp_seq_k fun _ hK4 => wp_region_lit (run S (.la gt37 1 rfl rfl rfl <| .la gt58 0 rfl rfl rfl <| .xx (ys_call call37 (.cons (.t rfl) (.cons (.t rfl) .nil)) (fun hp w W => c37 _ _ _ _ _ _ _ (by exact .old W (by assumption)))) rfl <| .z) fun a w S => ?_))))))))))))
        rw [rw_e] at S
        rw [rw_b] at S
        refine run S (.nt rfl <| .z) fun a w S => st_nil (then_normal (hK4 _ _ (st_else S (.t rfl) (wp_skip (in_normal (then_normal (hK3 _ _ (wp_region_lit (run S (.ad (by unfold I64; omega) rfl <| .mv rfl <| .z) fun a w S => st_nil (then_normal ?_))))))))))
        exact ⟨k + 1, ⟨by omega, step_all hmm hno' rw_b⟩, by omega, S.wk⟩
    · have hend : k = C.cloud.length := by omega
      subst hend
      rw [List.take_length] at hno'
      refine sg S (.ge (by omega) rfl rfl <| .z) fun a w S => wp_seq_k fun _ hK3 => st_else S (.t rfl) (wp_exit (then_exit (then_exit (in_here (then_normal (hK1 _ _ (sg S (.ac rfl <| .z) fun a w S => wp_ret (st_ret S (results1 S results106 (Rv.tmp rfl)) ?_))))))))
      exact ⟨by rw [leqR_yes hno hno'], S.wd.below⟩
theorem c68 (w0 : World) (v1 v2 : Value) (C : Ctx) (h : RdCtx w0 w0.heap.size v1 v2 C) (hn : C.marks.length ≤ 1048576) (hn' : C.cloud.length ≤ 1048576) :
    Rets Tryz.prog 68 #[.agg #[v1, v2]] w0 fun v L => ∃ A1 r1 A2 r2, v = .agg #[.slice A1 C.marks.length r1, .slice A2 C.cloud.length r2] ∧
      L = [rowOf 122 3 Dot.enc A1 r1 C.marks, rowOf 58 3 Dot.enc A2 r2 C.cloud] := by
  obtain ⟨h1, h2⟩ := id h
  obtain ⟨B1, q1, rfl, _⟩ := id h1
  obtain ⟨B2, q2, rfl, _⟩ := id h2
  unfold Go.Fw.Rets
  refine enter1 func68 rfl ntmps68 rfl fun a S => wp_seq_k fun _ hK1 => wp_region_lit (st_m (op_box S (.t rfl) rfl fun g1 a w S => st_m (op_alloc S zeroValue37 (cs := _) rfl rfl fun g2 a w S => st_nil (then_normal (hK1 _ _ (wp_seq_k fun _ hK1 => h_beginE S (by kernel_rfl) 0 fun a w S => hy 0 S rfl (ys_fieldN (FieldT.mk underlying37 rfl sizeOf34 rfl) (.t rfl) (i' := 0) rfl) rfl fun a w S => hy 1 S rfl (ys_ld ⟨isAgg34, sizeOf34⟩ (.t rfl) (k := 0) rfl rfl) rfl fun a w S => hy 3 S rfl (ys_fieldN (FieldT.mk underlying37 rfl sizeOf35 rfl) (.t rfl) (i' := 1) rfl) rfl fun a w S => ?_))))))
  refine hy 4 S rfl (ys_ld ⟨isAgg35, sizeOf35⟩ (.t rfl) (k := 0) rfl rfl) rfl fun a w S => ?_
  (refine h_m (i := 2) rfl (by kernel_rfl) (op_calls S call132 (.cons (.t rfl) .nil) (c132 _ _ _ (by exact .old S.wd (by assumption)) (by omega)) rfl ?_); clear S a w; rintro _ _ ⟨A1, c1, rfl, rfl⟩ a w S; refine h_n1 S ?_)
  (refine h_m (i := 5) rfl (by kernel_rfl) (op_calls S call133 (.cons (.t rfl) .nil) (c133 _ _ _ (by exact .old S.wd (by assumption)) (by omega)) rfl ?_); clear S a w; rintro _ _ ⟨A2, c2, rfl, rfl⟩ a w S; refine h_n1 S ?_)
  refine hy 6 S rfl (ys_bld (ps := [(0, Go.Operand.tmp 5), (1, Go.Operand.tmp 8)]) (us := [_, _]) bld37 (.cons (.t rfl) (.cons (.t rfl) .nil)) rfl) rfl fun a w S => ?_
  (refine h_m0 (i := 7) rfl (by kernel_rfl) (op_stW S sizeOf37 (.t rfl) (.t rfl) (k := 2) rfl rfl rfl (by simp [Value.oneCell']) ?_); clear S a w; intro a w S; refine h_n1 S ?_)
  refine h_done (by kernel_rfl) (then_normal (hK1 _ _ (wp_ret (st_ret S (results1 S results68 (Rv.cell (k := 2) ⟨isAgg37, sizeOf37⟩ rfl rfl rfl)) ?_))))
  (replace S := S.pull 1 rfl; try simp only [List.set_cons_zero, List.set_cons_succ, List.eraseIdx_cons_succ, List.eraseIdx_cons_zero] at S)
  exact ⟨_, _, rfl, S.wd.sub (by repeat (first | exact List.Sublist.refl _ | exact List.nil_sublist _ | refine .cons_cons _ ?_ | refine .cons _ ?_)), _, _, _, _, rfl, rfl⟩
theorem c81 (w0 : World) (v1 v2 : Value) (C : Ctx) (x y z : Int) (h : RdCtx w0 w0.heap.size v1 v2 C) :
    Rets Tryz.prog 81 #[.agg #[v1, v2], .agg #[.int .i64 x, .int .i64 y, .int .i64 z]] w0 fun v L => ∃ A1 r1 A2 r2, v = .tuple #[.agg #[.slice A1 (addL C ⟨x, y, z⟩).1.marks.length r1, .slice A2 (addL C ⟨x, y, z⟩).1.cloud.length r2], .int .i64 (addL C ⟨x, y, z⟩).2] ∧
      L = [rowOf 122 3 Dot.enc A1 r1 (addL C ⟨x, y, z⟩).1.marks, rowOf 58 3 Dot.enc A2 r2 (addL C ⟨x, y, z⟩).1.cloud] := by
  obtain ⟨h1, h2⟩ := id h
  obtain ⟨B1, q1, rfl, _⟩ := id h1
  obtain ⟨B2, q2, rfl, _⟩ := id h2
  cases rw_c : canL C with
  | true =>
    have hc1 := can_len rw_c
    have hj : (C.cloud ++ [(⟨x, y, z⟩ : Dot)]).length ≤ 2097152 := by simp; omega
    cases rw_d : mayD ⟨x, y, z⟩ with
    | true =>
      have e : addL C ⟨x, y, z⟩ = normalL C.marks (C.cloud ++ [⟨x, y, z⟩]) := by unfold addL; rw [rw_c, rw_d]; rfl
      unfold Go.Fw.Rets
      refine enter2 func81 rfl ntmps81 rfl fun a S => wp_seq_k fun _ hK1 => wp_region_lit (st_m (op_box S (.t rfl) rfl fun g1 a w S => st_m (op_box S (.t rfl) rfl fun g2 a w S => st_m (op_alloc S zeroValue37 (cs := _) rfl rfl fun g3 a w S => run S (.ac rfl <| .z) fun a w S => st_nil (then_normal (hK1 _ _ (wp_seq_k fun _ hK1 => wp_block (wp_seq_k fun _ hK2 => wp_region_lit (run S (.la gt37 2 rfl rfl rfl <| .xx (ys_call call109 (.cons (.t rfl) .nil) (fun hp w W => c109 _ _ _ _ (by exact .old W (by assumption)))) rfl <| .z) fun a w S => ?_)))))))))
      rw [rw_c] at S
      refine run S (.nt rfl <| .as rfl <| .z) fun a w S => st_nil (then_normal (hK2 _ _ (st_else S (.t rfl) (sg S (.la gt58 1 rfl rfl rfl <| .xx (ys_call call145 (.cons (.t rfl) .nil) (fun hp w W => c145 _ _ _ _ _ (by assumption))) rfl <| .nt rfl <| .as rfl <| .z) fun a w S => st_else S (.t rfl) (wp_skip (in_normal (then_normal (hK1 _ _ (wp_seq_k fun _ hK1 => h_beginE S (by kernel_rfl) 0 fun a w S => hy 0 S rfl (ys_fieldN (FieldT.mk underlying37 rfl sizeOf34 rfl) (.t rfl) (i' := 0) rfl) rfl fun a w S => hy 1 S rfl (ys_ld ⟨isAgg34, sizeOf34⟩ (.t rfl) (k := 1) rfl rfl) rfl fun a w S => hy 2 S rfl (ys_fieldN (FieldT.mk underlying37 rfl sizeOf35 rfl) (.t rfl) (i' := 1) rfl) rfl fun a w S => ?_)))))))))
      refine hy 3 S rfl (ys_ld ⟨isAgg35, sizeOf35⟩ (.t rfl) (k := 1) rfl rfl) rfl fun a w S => hy 5 S rfl (ys_ldA ⟨isAgg58, sizeOf58⟩ (.t rfl) (k := 0) rfl rfl) rfl fun a w S => ?_
      refine h_split (i := 4) (j := 6) (by kernel_rfl) rfl rfl ?_ ?_
      (refine op_calls S call133 (.cons (.t rfl) .nil) (c133 _ _ _ (by exact .old S.wd (by assumption)) (by omega)) rfl ?_; clear S a w; rintro _ _ ⟨A1, c1, rfl, rfl⟩ a w S; refine h_n1 S ?_)
      (refine h_m (i := 6) rfl (by kernel_rfl) (op_bslice1 S underlying35 inf58 rfl rfl rfl (.t rfl) rfl rfl rfl ?_); clear S a w; intro g4 a w S; refine h_n1 S ?_)
      (refine h_m (i := 7) rfl (by kernel_rfl) (op_push S underlying35 inf58 rfl (k := 1) (j := 0) rfl (.t rfl) (.t rfl) rfl Go.Fw.Dot.mkEnc rfl rfl (by first | omega | (simp only [List.length_append, List.length_cons, List.length_nil]; omega)) rfl rfl rfl ?_); clear S a w; intro A2 cap1 a w S; refine h_n1 S ?_)
      (refine h_m (i := 8) rfl (by kernel_rfl) (op_calls S call144 (.cons (.t rfl) (.cons (.t rfl) .nil)) (c144 _ _ _ _ _ (by exact .old S.wd (by assumption)) (by exact Sl.of_own S.wd (k := 1) rfl (fun _ => rfl)) (by omega) (by assumption)) rfl ?_); clear S a w; rintro _ _ ⟨A11, c11, A21, c21, rfl, rfl⟩ a w S; refine h_n1 S ?_)
      refine hy 9 S rfl (ys_ext (.t rfl) rfl) rfl fun a w S => hy 10 S rfl (ys_ext (.t rfl) rfl) rfl fun a w S => ?_
      (refine h_m0 (i := 11) rfl (by kernel_rfl) (op_stW S sizeOf37 (.t rfl) (.t rfl) (k := 4) rfl rfl rfl (by simp [Value.oneCell']) ?_); clear S a w; intro a w S; refine h_n1 S ?_)
      refine hy 12 S rfl (ys_assign (.t rfl)) rfl fun a w S => h_done (by kernel_rfl) (then_normal (hK1 _ _ (wp_ret (st_ret S (results2 S results81 (Rv.cell (k := 4) ⟨isAgg37, sizeOf37⟩ rfl rfl rfl) (Rv.tmp rfl)) ?_))))
      rotate_left
      (refine op_bslice1 S underlying35 inf58 rfl rfl rfl (.t rfl) rfl rfl rfl ?_; clear S a w; intro g4 a w S; refine h_n1 S ?_)
      (refine h_m (i := 4) rfl (by kernel_rfl) (op_calls S call133 (.cons (.t rfl) .nil) (c133 _ _ _ (by exact .old S.wd (by assumption)) (by omega)) rfl ?_); clear S a w; rintro _ _ ⟨A1, c1, rfl, rfl⟩ a w S; refine h_n1 S ?_)
      (refine h_m (i := 7) rfl (by kernel_rfl) (op_push S underlying35 inf58 rfl (k := 0) (j := 1) rfl (.t rfl) (.t rfl) rfl Go.Fw.Dot.mkEnc rfl rfl (by first | omega | (simp only [List.length_append, List.length_cons, List.length_nil]; omega)) rfl rfl rfl ?_); clear S a w; intro A2 cap1 a w S; refine h_n1 S ?_)
      (refine h_m (i := 8) rfl (by kernel_rfl) (op_calls S call144 (.cons (.t rfl) (.cons (.t rfl) .nil)) (c144 _ _ _ _ _ (by exact .old S.wd (by assumption)) (by exact Sl.of_own S.wd (k := 0) rfl (fun _ => rfl)) (by omega) (by assumption)) rfl ?_); clear S a w; rintro _ _ ⟨A11, c11, A21, c21, rfl, rfl⟩ a w S; refine h_n1 S ?_)
      refine hy 9 S rfl (ys_ext (.t rfl) rfl) rfl fun a w S => hy 10 S rfl (ys_ext (.t rfl) rfl) rfl fun a w S => ?_
      (refine h_m0 (i := 11) rfl (by kernel_rfl) (op_stW S sizeOf37 (.t rfl) (.t rfl) (k := 4) rfl rfl rfl (by simp [Value.oneCell']) ?_); clear S a w; intro a w S; refine h_n1 S ?_)
      refine hy 12 S rfl (ys_assign (.t rfl)) rfl fun a w S => h_done (by kernel_rfl) (then_normal (hK1 _ _ (wp_ret (st_ret S (results2 S results81 (Rv.cell (k := 4) ⟨isAgg37, sizeOf37⟩ rfl rfl rfl) (Rv.tmp rfl)) ?_))))
      rotate_left
      all_goals rw [e]
      all_goals exact ⟨_, _, rfl, S.wd.sub (by repeat (first | exact List.Sublist.refl _ | exact List.nil_sublist _ | refine .cons_cons _ ?_ | refine .cons _ ?_)), _, _, _, _, rfl, rfl⟩
    | false =>
      unfold Go.Fw.Rets
      refine enter2 func81 rfl ntmps81 rfl fun a S => wp_seq_k fun _ hK1 => wp_region_lit (st_m (op_box S (.t rfl) rfl fun g1 a w S => st_m (op_box S (.t rfl) rfl fun g2 a w S => st_m (op_alloc S zeroValue37 (cs := _) rfl rfl fun g3 a w S => run S (.ac rfl <| .z) fun a w S => st_nil (then_normal (hK1 _ _ (wp_seq_k fun _ hK1 => wp_block (wp_seq_k fun _ hK2 => wp_region_lit (run S (.la gt37 2 rfl rfl rfl <| .xx (ys_call call109 (.cons (.t rfl) .nil) (fun hp w W => c109 _ _ _ _ (by exact .old W (by assumption)))) rfl <| .z) fun a w S => ?_)))))))))
      rw [rw_c] at S
      refine run S (.nt rfl <| .as rfl <| .z) fun a w S => st_nil (then_normal (hK2 _ _ (st_else S (.t rfl) (sg S (.la gt58 1 rfl rfl rfl <| .xx (ys_call call145 (.cons (.t rfl) .nil) (fun hp w W => c145 _ _ _ _ _ (by assumption))) rfl <| .nt rfl <| .as rfl <| .z) fun a w S => st_then S (.t rfl) (wp_seq_k fun _ hK2 => wp_region_lit (run S (.yy (ys_bld (ps := []) (us := [_, _]) bld37 .nil rfl) rfl <| .z) fun a w S => st_m (op_stW S sizeOf37 (.t rfl) (.t rfl) (k := 0) rfl rfl rfl (by simp [Value.oneCell']) fun a w S => run S (.ac rfl <| .z) fun a w S => st_nil (then_normal (hK2 _ _ (wp_ret (in_ret (then_ret (st_ret S (results2 S results81 (Rv.cell (k := 0) ⟨isAgg37, sizeOf37⟩ rfl rfl rfl) (Rv.tmp rfl)) ?_)))))))))))))
      have e : addL C ⟨x, y, z⟩ = (⟨[], []⟩, 1) := by unfold addL; rw [rw_c, rw_d]; rfl
      rw [e]
      exact ⟨_, _, rfl, ((S.nil_ 58 3 Dot.enc none).nil_ 122 3 Dot.enc none).wd.sub (by repeat (first | exact List.Sublist.refl _ | exact List.nil_sublist _ | refine .cons_cons _ ?_ | refine .cons _ ?_)), none, 0, none, 0, rfl, rfl⟩
  | false =>
    unfold Go.Fw.Rets
    refine enter2 func81 rfl ntmps81 rfl fun a S => wp_seq_k fun _ hK1 => wp_region_lit (st_m (op_box S (.t rfl) rfl fun g1 a w S => st_m (op_box S (.t rfl) rfl fun g2 a w S => st_m (op_alloc S zeroValue37 (cs := _) rfl rfl fun g3 a w S => run S (.ac rfl <| .z) fun a w S => st_nil (then_normal (hK1 _ _ (wp_seq_k fun _ hK1 => wp_block (wp_seq_k fun _ hK2 => wp_region_lit (run S (.la gt37 2 rfl rfl rfl <| .xx (ys_call call109 (.cons (.t rfl) .nil) (fun hp w W => c109 _ _ _ _ (by exact .old W (by assumption)))) rfl <| .z) fun a w S => ?_)))))))))
    rw [rw_c] at S
    refine run S (.nt rfl <| .as rfl <| .z) fun a w S => st_nil (then_normal (hK2 _ _ (st_then S (.t rfl) (wp_seq_k fun _ hK2 => wp_region_lit (run S (.yy (ys_bld (ps := []) (us := [_, _]) bld37 .nil rfl) rfl <| .z) fun a w S => st_m (op_stW S sizeOf37 (.t rfl) (.t rfl) (k := 0) rfl rfl rfl (by simp [Value.oneCell']) fun a w S => run S (.ac rfl <| .z) fun a w S => st_nil (then_normal (hK2 _ _ (wp_ret (in_ret (then_ret (st_ret S (results2 S results81 (Rv.cell (k := 0) ⟨isAgg37, sizeOf37⟩ rfl rfl rfl) (Rv.tmp rfl)) ?_))))))))))))
    have e : addL C ⟨x, y, z⟩ = (⟨[], []⟩, 30) := by unfold addL; rw [rw_c]; rfl
    rw [e]
    exact ⟨_, _, rfl, ((S.nil_ 58 3 Dot.enc none).nil_ 122 3 Dot.enc none).wd.sub (by repeat (first | exact List.Sublist.refl _ | exact List.nil_sublist _ | refine .cons_cons _ ?_ | refine .cons _ ?_)), none, 0, none, 0, rfl, rfl⟩
theorem c92 (w0 : World) (v1 v2 v3 v4 : Value) (C D : Ctx) (h : RdCtx w0 w0.heap.size v1 v2 C) (h' : RdCtx w0 w0.heap.size v3 v4 D) :
    Rets Tryz.prog 92 #[.agg #[v1, v2], .agg #[v3, v4]] w0 fun v L => ∃ A1 r1 A2 r2, v = .tuple #[.agg #[.slice A1 (joinL C D).1.marks.length r1, .slice A2 (joinL C D).1.cloud.length r2], .int .i64 (joinL C D).2] ∧
      L = [rowOf 122 3 Dot.enc A1 r1 (joinL C D).1.marks, rowOf 58 3 Dot.enc A2 r2 (joinL C D).1.cloud] := by
  obtain ⟨h1, h2⟩ := id h
  obtain ⟨h3, h4⟩ := id h'
  obtain ⟨B1, q1, rfl, _⟩ := id h1
  obtain ⟨B2, q2, rfl, _⟩ := id h2
  obtain ⟨B3, q3, rfl, _⟩ := id h3
  obtain ⟨B4, q4, rfl, _⟩ := id h4
  by_cases hC : canL C = true
  · by_cases hD : canL D = true
    · have hc1 := can_len hC
      have hd1 := can_len hD
      have hj1 : (C.marks ++ D.marks).length ≤ 1900000 := by rw [List.length_append]; omega
      have hj2 : (C.cloud ++ D.cloud).length ≤ 1900000 := by rw [List.length_append]; omega
      have rw_c := hC
      have rw_d := hD
      have e : joinL C D = normalL (C.marks ++ D.marks) (C.cloud ++ D.cloud) := by unfold joinL; rw [hC, hD]; rfl
      unfold Go.Fw.Rets
      refine enter2 func92 rfl ntmps92 rfl fun a S => wp_seq_k fun _ hK1 => wp_region_lit (st_m (op_box S (.t rfl) rfl fun g1 a w S => st_m (op_box S (.t rfl) rfl fun g2 a w S => st_m (op_alloc S zeroValue37 (cs := _) rfl rfl fun g3 a w S => run S (.ac rfl <| .z) fun a w S => st_nil (then_normal (hK1 _ _ (wp_seq_k fun _ hK1 => wp_seq_k fun _ hK2 => wp_region_lit (run S (.la gt37 2 rfl rfl rfl <| .xx (ys_call call126 (.cons (.t rfl) .nil) (fun hp w W => c126 _ _ _ _ (by exact .old W (by assumption)))) rfl <| .z) fun a w S => ?_))))))))
      rw [rw_c] at S
      refine run S (.nt rfl <| .mv rfl <| .gy rfl rfl (ys_ldA ⟨isAgg37, sizeOf37⟩ (.t rfl) (k := 1) rfl rfl) <| .gx rfl rfl (ys_call call126 (.cons (.t rfl) .nil) (fun hp w W => c126 _ _ _ _ (by exact .old W (by assumption)))) <| .z) fun a w S => ?_
      rw [rw_d] at S
      refine run S (.gy rfl rfl (ys_not (.t rfl)) <| .yy (ys_pickF (.t rfl) (.t rfl)) rfl <| .z) fun a w S => st_nil (then_normal (hK2 _ _ (st_else S (.t rfl) (wp_skip (then_normal (hK1 _ _ (wp_seq_k fun _ hK1 => h_beginE S (by kernel_rfl) 0 fun a w S => hy 1 S rfl (ys_fieldN (FieldT.mk underlying37 rfl sizeOf34 rfl) (.t rfl) (i' := 0) rfl) rfl fun a w S => hy 2 S rfl (ys_ld ⟨isAgg34, sizeOf34⟩ (.t rfl) (k := 1) rfl rfl) rfl fun a w S => hy 4 S rfl (ys_fieldN (FieldT.mk underlying37 rfl sizeOf34 rfl) (.t rfl) (i' := 0) rfl) rfl fun a w S => hy 5 S rfl (ys_ld ⟨isAgg34, sizeOf34⟩ (.t rfl) (k := 0) rfl rfl) rfl fun a w S => ?_)))))))
      refine hy 8 S rfl (ys_fieldN (FieldT.mk underlying37 rfl sizeOf35 rfl) (.t rfl) (i' := 1) rfl) rfl fun a w S => hy 9 S rfl (ys_ld ⟨isAgg35, sizeOf35⟩ (.t rfl) (k := 1) rfl rfl) rfl fun a w S => hy 11 S rfl (ys_fieldN (FieldT.mk underlying37 rfl sizeOf35 rfl) (.t rfl) (i' := 1) rfl) rfl fun a w S => hy 12 S rfl (ys_ld ⟨isAgg35, sizeOf35⟩ (.t rfl) (k := 0) rfl rfl) rfl fun a w S => ?_
      refine h_split (i := 0) (j := 7) (by kernel_rfl) rfl rfl ?_ ?_
      (refine op_bslice0 S underlying34 sizeOf122 rfl ?_; clear S a w; intro g4 a w S; refine h_n1 S ?_)
      refine h_split (i := 3) (j := 7) (by kernel_rfl) rfl rfl ?_ ?_
      (refine op_extend _ (S.nil_ 122 _ Go.Fw.Dot.enc _) underlying34 underlying34 (.inr ⟨_, rfl⟩) inf122 rfl (k := 0) rfl (.t rfl) (.t rfl) (Src.sl (Sl.old S.wd h1) (by decide) Go.Fw.Dot.enc_len Go.Fw.Dot.enc_one) (by first | omega | (simp only [List.length_append, List.length_cons, List.length_nil]; omega) | (simp; omega)) rfl rfl rfl ?_; clear S a w; intro A1 cap1 a w S; refine h_n1 S ?_)
      simp only [List.nil_append] at S
      refine h_split (i := 6) (j := 7) (by kernel_rfl) rfl rfl ?_ ?_
      (refine op_extend _ S underlying34 underlying34 (.inr ⟨_, rfl⟩) inf122 rfl (k := 0) rfl (.t rfl) (.t rfl) (Src.sl (Sl.old S.wd h3) (by decide) Go.Fw.Dot.enc_len Go.Fw.Dot.enc_one) (by first | omega | (simp only [List.length_append, List.length_cons, List.length_nil]; omega) | (simp; omega)) rfl rfl rfl ?_; clear S a w; intro A2 cap2 a w S; refine h_n1 S ?_)
      (refine h_m (i := 7) rfl (by kernel_rfl) (op_bslice0 S underlying35 sizeOf58 rfl ?_); clear S a w; intro g5 a w S; refine h_n1 S ?_)
      (refine h_m (i := 10) rfl (by kernel_rfl) (op_extend _ (S.nil_ 58 _ Go.Fw.Dot.enc _) underlying35 underlying35 (.inr ⟨_, rfl⟩) inf58 rfl (k := 0) rfl (.t rfl) (.t rfl) (Src.sl (Sl.old S.wd h2) (by decide) Go.Fw.Dot.enc_len Go.Fw.Dot.enc_one) (by first | omega | (simp only [List.length_append, List.length_cons, List.length_nil]; omega) | (simp; omega)) rfl rfl rfl ?_); clear S a w; intro A3 cap3 a w S; refine h_n1 S ?_)
      simp only [List.nil_append] at S
      (refine h_m (i := 13) rfl (by kernel_rfl) (op_extend _ S underlying35 underlying35 (.inr ⟨_, rfl⟩) inf58 rfl (k := 0) rfl (.t rfl) (.t rfl) (Src.sl (Sl.old S.wd h4) (by decide) Go.Fw.Dot.enc_len Go.Fw.Dot.enc_one) (by first | omega | (simp only [List.length_append, List.length_cons, List.length_nil]; omega) | (simp; omega)) rfl rfl rfl ?_); clear S a w; intro A4 cap4 a w S; refine h_n1 S ?_)
      (refine h_m (i := 14) rfl (by kernel_rfl) (op_calls S call150 (.cons (.t rfl) (.cons (.t rfl) .nil)) (c150 _ _ _ _ _ (by exact Sl.of_own S.wd (k := 1) rfl (fun _ => rfl)) (by exact Sl.of_own S.wd (k := 0) rfl (fun _ => rfl)) (by assumption) (by assumption)) rfl ?_); clear S a w; rintro _ _ ⟨A11, c11, A21, c21, rfl, rfl⟩ a w S; refine h_n1 S ?_)
      refine hy 15 S rfl (ys_ext (.t rfl) rfl) rfl fun a w S => hy 16 S rfl (ys_ext (.t rfl) rfl) rfl fun a w S => ?_
      (refine h_m0 (i := 17) rfl (by kernel_rfl) (op_stW S sizeOf37 (.t rfl) (.t rfl) (k := 4) rfl rfl rfl (by simp [Value.oneCell']) ?_); clear S a w; intro a w S; refine h_n1 S ?_)
      refine hy 18 S rfl (ys_assign (.t rfl)) rfl fun a w S => h_done (by kernel_rfl) (then_normal (hK1 _ _ (wp_ret (st_ret S (results2 S results92 (Rv.cell (k := 4) ⟨isAgg37, sizeOf37⟩ rfl rfl rfl) (Rv.tmp rfl)) ?_))))
      rotate_left
      (refine op_bslice0 S underlying35 sizeOf58 rfl ?_; clear S a w; intro g5 a w S; refine h_n1 S ?_)
      (refine h_m (i := 6) rfl (by kernel_rfl) (op_extend _ S underlying34 underlying34 (.inr ⟨_, rfl⟩) inf122 rfl (k := 0) rfl (.t rfl) (.t rfl) (Src.sl (Sl.old S.wd h3) (by decide) Go.Fw.Dot.enc_len Go.Fw.Dot.enc_one) (by first | omega | (simp only [List.length_append, List.length_cons, List.length_nil]; omega) | (simp; omega)) rfl rfl rfl ?_); clear S a w; intro A2 cap2 a w S; refine h_n1 S ?_)
      (refine h_m (i := 10) rfl (by kernel_rfl) (op_extend _ (S.nil_ 58 _ Go.Fw.Dot.enc _) underlying35 underlying35 (.inr ⟨_, rfl⟩) inf58 rfl (k := 0) rfl (.t rfl) (.t rfl) (Src.sl (Sl.old S.wd h2) (by decide) Go.Fw.Dot.enc_len Go.Fw.Dot.enc_one) (by first | omega | (simp only [List.length_append, List.length_cons, List.length_nil]; omega) | (simp; omega)) rfl rfl rfl ?_); clear S a w; intro A3 cap3 a w S; refine h_n1 S ?_)
      simp only [List.nil_append] at S
      (refine h_m (i := 13) rfl (by kernel_rfl) (op_extend _ S underlying35 underlying35 (.inr ⟨_, rfl⟩) inf58 rfl (k := 0) rfl (.t rfl) (.t rfl) (Src.sl (Sl.old S.wd h4) (by decide) Go.Fw.Dot.enc_len Go.Fw.Dot.enc_one) (by first | omega | (simp only [List.length_append, List.length_cons, List.length_nil]; omega) | (simp; omega)) rfl rfl rfl ?_); clear S a w; intro A4 cap4 a w S; refine h_n1 S ?_)
      (refine h_m (i := 14) rfl (by kernel_rfl) (op_calls S call150 (.cons (.t rfl) (.cons (.t rfl) .nil)) (c150 _ _ _ _ _ (by exact Sl.of_own S.wd (k := 1) rfl (fun _ => rfl)) (by exact Sl.of_own S.wd (k := 0) rfl (fun _ => rfl)) (by assumption) (by assumption)) rfl ?_); clear S a w; rintro _ _ ⟨A11, c11, A21, c21, rfl, rfl⟩ a w S; refine h_n1 S ?_)
      refine hy 15 S rfl (ys_ext (.t rfl) rfl) rfl fun a w S => hy 16 S rfl (ys_ext (.t rfl) rfl) rfl fun a w S => ?_
      (refine h_m0 (i := 17) rfl (by kernel_rfl) (op_stW S sizeOf37 (.t rfl) (.t rfl) (k := 4) rfl rfl rfl (by simp [Value.oneCell']) ?_); clear S a w; intro a w S; refine h_n1 S ?_)
      refine hy 18 S rfl (ys_assign (.t rfl)) rfl fun a w S => h_done (by kernel_rfl) (then_normal (hK1 _ _ (wp_ret (st_ret S (results2 S results92 (Rv.cell (k := 4) ⟨isAgg37, sizeOf37⟩ rfl rfl rfl) (Rv.tmp rfl)) ?_))))
      rotate_left
      (refine op_bslice0 S underlying35 sizeOf58 rfl ?_; clear S a w; intro g5 a w S; refine h_n1 S ?_)
      (refine h_m (i := 3) rfl (by kernel_rfl) (op_extend _ (S.nil_ 122 _ Go.Fw.Dot.enc _) underlying34 underlying34 (.inr ⟨_, rfl⟩) inf122 rfl (k := 0) rfl (.t rfl) (.t rfl) (Src.sl (Sl.old S.wd h1) (by decide) Go.Fw.Dot.enc_len Go.Fw.Dot.enc_one) (by first | omega | (simp only [List.length_append, List.length_cons, List.length_nil]; omega) | (simp; omega)) rfl rfl rfl ?_); clear S a w; intro A1 cap1 a w S; refine h_n1 S ?_)
      simp only [List.nil_append] at S
      (refine h_m (i := 6) rfl (by kernel_rfl) (op_extend _ S underlying34 underlying34 (.inr ⟨_, rfl⟩) inf122 rfl (k := 0) rfl (.t rfl) (.t rfl) (Src.sl (Sl.old S.wd h3) (by decide) Go.Fw.Dot.enc_len Go.Fw.Dot.enc_one) (by first | omega | (simp only [List.length_append, List.length_cons, List.length_nil]; omega) | (simp; omega)) rfl rfl rfl ?_); clear S a w; intro A2 cap2 a w S; refine h_n1 S ?_)
      (refine h_m (i := 10) rfl (by kernel_rfl) (op_extend _ (S.nil_ 58 _ Go.Fw.Dot.enc _) underlying35 underlying35 (.inr ⟨_, rfl⟩) inf58 rfl (k := 0) rfl (.t rfl) (.t rfl) (Src.sl (Sl.old S.wd h2) (by decide) Go.Fw.Dot.enc_len Go.Fw.Dot.enc_one) (by first | omega | (simp only [List.length_append, List.length_cons, List.length_nil]; omega) | (simp; omega)) rfl rfl rfl ?_); clear S a w; intro A3 cap3 a w S; refine h_n1 S ?_)
      simp only [List.nil_append] at S
      (refine h_m (i := 13) rfl (by kernel_rfl) (op_extend _ S underlying35 underlying35 (.inr ⟨_, rfl⟩) inf58 rfl (k := 0) rfl (.t rfl) (.t rfl) (Src.sl (Sl.old S.wd h4) (by decide) Go.Fw.Dot.enc_len Go.Fw.Dot.enc_one) (by first | omega | (simp only [List.length_append, List.length_cons, List.length_nil]; omega) | (simp; omega)) rfl rfl rfl ?_); clear S a w; intro A4 cap4 a w S; refine h_n1 S ?_)
      (refine h_m (i := 14) rfl (by kernel_rfl) (op_calls S call150 (.cons (.t rfl) (.cons (.t rfl) .nil)) (c150 _ _ _ _ _ (by exact Sl.of_own S.wd (k := 1) rfl (fun _ => rfl)) (by exact Sl.of_own S.wd (k := 0) rfl (fun _ => rfl)) (by assumption) (by assumption)) rfl ?_); clear S a w; rintro _ _ ⟨A11, c11, A21, c21, rfl, rfl⟩ a w S; refine h_n1 S ?_)
      refine hy 15 S rfl (ys_ext (.t rfl) rfl) rfl fun a w S => hy 16 S rfl (ys_ext (.t rfl) rfl) rfl fun a w S => ?_
      (refine h_m0 (i := 17) rfl (by kernel_rfl) (op_stW S sizeOf37 (.t rfl) (.t rfl) (k := 4) rfl rfl rfl (by simp [Value.oneCell']) ?_); clear S a w; intro a w S; refine h_n1 S ?_)
      refine hy 18 S rfl (ys_assign (.t rfl)) rfl fun a w S => h_done (by kernel_rfl) (then_normal (hK1 _ _ (wp_ret (st_ret S (results2 S results92 (Rv.cell (k := 4) ⟨isAgg37, sizeOf37⟩ rfl rfl rfl) (Rv.tmp rfl)) ?_))))
      rotate_left
      (refine op_bslice0 S underlying35 sizeOf58 rfl ?_; clear S a w; intro g4 a w S; refine h_n1 S ?_)
      (refine h_m (i := 0) rfl (by kernel_rfl) (op_bslice0 S underlying34 sizeOf122 rfl ?_); clear S a w; intro g5 a w S; refine h_n1 S ?_)
      (refine h_m (i := 3) rfl (by kernel_rfl) (op_extend _ (S.nil_ 122 _ Go.Fw.Dot.enc _) underlying34 underlying34 (.inr ⟨_, rfl⟩) inf122 rfl (k := 0) rfl (.t rfl) (.t rfl) (Src.sl (Sl.old S.wd h1) (by decide) Go.Fw.Dot.enc_len Go.Fw.Dot.enc_one) (by first | omega | (simp only [List.length_append, List.length_cons, List.length_nil]; omega) | (simp; omega)) rfl rfl rfl ?_); clear S a w; intro A1 cap1 a w S; refine h_n1 S ?_)
      simp only [List.nil_append] at S
      (refine h_m (i := 6) rfl (by kernel_rfl) (op_extend _ S underlying34 underlying34 (.inr ⟨_, rfl⟩) inf122 rfl (k := 0) rfl (.t rfl) (.t rfl) (Src.sl (Sl.old S.wd h3) (by decide) Go.Fw.Dot.enc_len Go.Fw.Dot.enc_one) (by first | omega | (simp only [List.length_append, List.length_cons, List.length_nil]; omega) | (simp; omega)) rfl rfl rfl ?_); clear S a w; intro A2 cap2 a w S; refine h_n1 S ?_)
      (refine h_m (i := 10) rfl (by kernel_rfl) (op_extend _ (S.nil_ 58 _ Go.Fw.Dot.enc _) underlying35 underlying35 (.inr ⟨_, rfl⟩) inf58 rfl (k := 0) rfl (.t rfl) (.t rfl) (Src.sl (Sl.old S.wd h2) (by decide) Go.Fw.Dot.enc_len Go.Fw.Dot.enc_one) (by first | omega | (simp only [List.length_append, List.length_cons, List.length_nil]; omega) | (simp; omega)) rfl rfl rfl ?_); clear S a w; intro A3 cap3 a w S; refine h_n1 S ?_)
      simp only [List.nil_append] at S
      (refine h_m (i := 13) rfl (by kernel_rfl) (op_extend _ S underlying35 underlying35 (.inr ⟨_, rfl⟩) inf58 rfl (k := 0) rfl (.t rfl) (.t rfl) (Src.sl (Sl.old S.wd h4) (by decide) Go.Fw.Dot.enc_len Go.Fw.Dot.enc_one) (by first | omega | (simp only [List.length_append, List.length_cons, List.length_nil]; omega) | (simp; omega)) rfl rfl rfl ?_); clear S a w; intro A4 cap4 a w S; refine h_n1 S ?_)
      (refine h_m (i := 14) rfl (by kernel_rfl) (op_calls S call150 (.cons (.t rfl) (.cons (.t rfl) .nil)) (c150 _ _ _ _ _ (by exact Sl.of_own S.wd (k := 1) rfl (fun _ => rfl)) (by exact Sl.of_own S.wd (k := 0) rfl (fun _ => rfl)) (by assumption) (by assumption)) rfl ?_); clear S a w; rintro _ _ ⟨A11, c11, A21, c21, rfl, rfl⟩ a w S; refine h_n1 S ?_)
      refine hy 15 S rfl (ys_ext (.t rfl) rfl) rfl fun a w S => hy 16 S rfl (ys_ext (.t rfl) rfl) rfl fun a w S => ?_
      (refine h_m0 (i := 17) rfl (by kernel_rfl) (op_stW S sizeOf37 (.t rfl) (.t rfl) (k := 4) rfl rfl rfl (by simp [Value.oneCell']) ?_); clear S a w; intro a w S; refine h_n1 S ?_)
      refine hy 18 S rfl (ys_assign (.t rfl)) rfl fun a w S => h_done (by kernel_rfl) (then_normal (hK1 _ _ (wp_ret (st_ret S (results2 S results92 (Rv.cell (k := 4) ⟨isAgg37, sizeOf37⟩ rfl rfl rfl) (Rv.tmp rfl)) ?_))))
      rotate_left
      all_goals rw [e]
      all_goals exact ⟨_, _, rfl, S.wd.sub (by repeat (first | exact List.Sublist.refl _ | exact List.nil_sublist _ | refine .cons_cons _ ?_ | refine .cons _ ?_)), _, _, _, _, rfl, rfl⟩
    · have hD : canL D = false := by simpa using hD
      have rw_c := hC
      have rw_d := hD
      unfold Go.Fw.Rets
      refine enter2 func92 rfl ntmps92 rfl fun a S => wp_seq_k fun _ hK1 => wp_region_lit (st_m (op_box S (.t rfl) rfl fun g1 a w S => st_m (op_box S (.t rfl) rfl fun g2 a w S => st_m (op_alloc S zeroValue37 (cs := _) rfl rfl fun g3 a w S => run S (.ac rfl <| .z) fun a w S => st_nil (then_normal (hK1 _ _ (wp_seq_k fun _ hK1 => wp_seq_k fun _ hK2 => wp_region_lit (run S (.la gt37 2 rfl rfl rfl <| .xx (ys_call call126 (.cons (.t rfl) .nil) (fun hp w W => c126 _ _ _ _ (by exact .old W (by assumption)))) rfl <| .z) fun a w S => ?_))))))))
      rw [rw_c] at S
      refine run S (.nt rfl <| .mv rfl <| .gy rfl rfl (ys_ldA ⟨isAgg37, sizeOf37⟩ (.t rfl) (k := 1) rfl rfl) <| .gx rfl rfl (ys_call call126 (.cons (.t rfl) .nil) (fun hp w W => c126 _ _ _ _ (by exact .old W (by assumption)))) <| .z) fun a w S => ?_
      rw [rw_d] at S
      refine run S (.gy rfl rfl (ys_not (.t rfl)) <| .yy (ys_pickF (.t rfl) (.t rfl)) rfl <| .z) fun a w S => st_nil (then_normal (hK2 _ _ (st_then S (.t rfl) (wp_seq_k fun _ hK2 => wp_region_lit (run S (.yy (ys_bld (ps := []) (us := [_, _]) bld37 .nil rfl) rfl <| .z) fun a w S => st_m (op_stW S sizeOf37 (.t rfl) (.t rfl) (k := 0) rfl rfl rfl (by simp [Value.oneCell']) fun a w S => run S (.ac rfl <| .z) fun a w S => st_nil (then_normal (hK2 _ _ (wp_ret (then_ret (st_ret S (results2 S results92 (Rv.cell (k := 0) ⟨isAgg37, sizeOf37⟩ rfl rfl rfl) (Rv.tmp rfl)) ?_)))))))))))
      have e : joinL C D = (⟨[], []⟩, 30) := by unfold joinL; rw [hC, hD]; rfl
      rw [e]
      exact ⟨_, _, rfl, ((S.nil_ 58 3 Dot.enc none).nil_ 122 3 Dot.enc none).wd.sub (by repeat (first | exact List.Sublist.refl _ | exact List.nil_sublist _ | refine .cons_cons _ ?_ | refine .cons _ ?_)), none, 0, none, 0, rfl, rfl⟩
  · have hC : canL C = false := by simpa using hC
    have rw_c := hC
    unfold Go.Fw.Rets
    refine enter2 func92 rfl ntmps92 rfl fun a S => wp_seq_k fun _ hK1 => wp_region_lit (st_m (op_box S (.t rfl) rfl fun g1 a w S => st_m (op_box S (.t rfl) rfl fun g2 a w S => st_m (op_alloc S zeroValue37 (cs := _) rfl rfl fun g3 a w S => run S (.ac rfl <| .z) fun a w S => st_nil (then_normal (hK1 _ _ (wp_seq_k fun _ hK1 => wp_seq_k fun _ hK2 => wp_region_lit (run S (.la gt37 2 rfl rfl rfl <| .xx (ys_call call126 (.cons (.t rfl) .nil) (fun hp w W => c126 _ _ _ _ (by exact .old W (by assumption)))) rfl <| .z) fun a w S => ?_))))))))
    rw [rw_c] at S
    refine run S (.nt rfl <| .mv rfl <| .sk rfl rfl rfl <| .sk rfl rfl rfl <| .sk rfl rfl rfl <| .yy (ys_pickT (.t rfl) Ev.c) rfl <| .z) fun a w S => st_nil (then_normal (hK2 _ _ (st_then S (.t rfl) (wp_seq_k fun _ hK2 => wp_region_lit (run S (.yy (ys_bld (ps := []) (us := [_, _]) bld37 .nil rfl) rfl <| .z) fun a w S => st_m (op_stW S sizeOf37 (.t rfl) (.t rfl) (k := 0) rfl rfl rfl (by simp [Value.oneCell']) fun a w S => run S (.ac rfl <| .z) fun a w S => st_nil (then_normal (hK2 _ _ (wp_ret (then_ret (st_ret S (results2 S results92 (Rv.cell (k := 0) ⟨isAgg37, sizeOf37⟩ rfl rfl rfl) (Rv.tmp rfl)) ?_)))))))))))
    have e : joinL C D = (⟨[], []⟩, 30) := by unfold joinL; rw [hC]; rfl
    rw [e]
    exact ⟨_, _, rfl, ((S.nil_ 58 3 Dot.enc none).nil_ 122 3 Dot.enc none).wd.sub (by repeat (first | exact List.Sublist.refl _ | exact List.nil_sublist _ | refine .cons_cons _ ?_ | refine .cons _ ?_)), none, 0, none, 0, rfl, rfl⟩
theorem c87 (w0 : World) (v1 v2 : Value) (C : Ctx) (x y z : Int) (h : RdCtx w0 w0.heap.size v1 v2 C) :
    Rets Tryz.prog 87 #[.agg #[v1, v2], .agg #[.int .i64 x, .int .i64 y, .int .i64 z]] w0 fun v L => ∃ A1 r1 A2 r2, v = .tuple #[.agg #[.slice A1 (addL C ⟨x, y, z⟩).1.marks.length r1, .slice A2 (addL C ⟨x, y, z⟩).1.cloud.length r2], .int .i64 (addL C ⟨x, y, z⟩).2] ∧
      L = [rowOf 122 3 Dot.enc A1 r1 (addL C ⟨x, y, z⟩).1.marks, rowOf 58 3 Dot.enc A2 r2 (addL C ⟨x, y, z⟩).1.cloud] := by
  obtain ⟨h1, h2⟩ := id h
  obtain ⟨B1, q1, rfl, _⟩ := id h1
  obtain ⟨B2, q2, rfl, _⟩ := id h2
  cases rw_c : canL C with
  | true =>
    have hc1 := can_len rw_c
    have hj : (C.cloud ++ [(⟨x, y, z⟩ : Dot)]).length ≤ 1900000 := by simp; omega
    have e : addL C ⟨x, y, z⟩ = normalL C.marks (C.cloud ++ [⟨x, y, z⟩]) := by
      unfold addL
      rw [rw_c]
      cases hd : mayD ⟨x, y, z⟩ with
      | true => rfl
      | false => exact (normalL_bad2 (k := C.cloud.length) (by simp) hd).symm
    unfold Go.Fw.Rets
    refine enter2 func87 rfl ntmps87 rfl fun a S => wp_seq_k fun _ hK1 => wp_region_lit (st_m (op_box S (.t rfl) rfl fun g1 a w S => st_m (op_box S (.t rfl) rfl fun g2 a w S => st_m (op_alloc S zeroValue37 (cs := _) rfl rfl fun g3 a w S => run S (.ac rfl <| .z) fun a w S => st_nil (then_normal (hK1 _ _ (wp_seq_k fun _ hK1 => wp_seq_k fun _ hK2 => wp_region_lit (run S (.la gt37 2 rfl rfl rfl <| .xx (ys_call call126 (.cons (.t rfl) .nil) (fun hp w W => c126 _ _ _ _ (by exact .old W (by assumption)))) rfl <| .z) fun a w S => ?_))))))))
    rw [rw_c] at S
    refine run S (.nt rfl <| .z) fun a w S => st_nil (then_normal (hK2 _ _ (st_else S (.t rfl) (wp_skip (then_normal (hK1 _ _ (wp_seq_k fun _ hK1 => h_beginE S (by kernel_rfl) 0 fun a w S => hy 0 S rfl (ys_fieldN (FieldT.mk underlying37 rfl sizeOf34 rfl) (.t rfl) (i' := 0) rfl) rfl fun a w S => hy 1 S rfl (ys_ld ⟨isAgg34, sizeOf34⟩ (.t rfl) (k := 1) rfl rfl) rfl fun a w S => hy 3 S rfl (ys_fieldN (FieldT.mk underlying37 rfl sizeOf35 rfl) (.t rfl) (i' := 1) rfl) rfl fun a w S => hy 4 S rfl (ys_ld ⟨isAgg35, sizeOf35⟩ (.t rfl) (k := 1) rfl rfl) rfl fun a w S => ?_)))))))
    refine hy 6 S rfl (ys_ldA ⟨isAgg58, sizeOf58⟩ (.t rfl) (k := 0) rfl rfl) rfl fun a w S => ?_
    refine h_split (i := 2) (j := 7) (by kernel_rfl) rfl rfl ?_ ?_
    (refine op_bslice0 S underlying35 sizeOf58 rfl ?_; clear S a w; intro g4 a w S; refine h_n1 S ?_)
    refine h_split (i := 5) (j := 7) (by kernel_rfl) rfl rfl ?_ ?_
    (refine op_extend _ (S.nil_ 58 _ Go.Fw.Dot.enc _) underlying35 underlying35 (.inr ⟨_, rfl⟩) inf58 rfl (k := 0) rfl (.t rfl) (.t rfl) (Src.sl (Sl.old S.wd h2) (by decide) Go.Fw.Dot.enc_len Go.Fw.Dot.enc_one) (by first | omega | (simp only [List.length_append, List.length_cons, List.length_nil]; omega) | (simp; omega)) rfl rfl rfl ?_; clear S a w; intro A1 cap1 a w S; refine h_n1 S ?_)
    simp only [List.nil_append] at S
    (refine h_m (i := 7) rfl (by kernel_rfl) (op_bslice1 S underlying35 inf58 rfl rfl rfl (.t rfl) rfl rfl rfl ?_); clear S a w; intro g5 a w S; refine h_n1 S ?_)
    (refine h_m (i := 8) rfl (by kernel_rfl) (op_push S underlying35 inf58 rfl (k := 1) (j := 0) rfl (.t rfl) (.t rfl) rfl Go.Fw.Dot.mkEnc rfl rfl (by first | omega | (simp only [List.length_append, List.length_cons, List.length_nil]; omega)) rfl rfl rfl ?_); clear S a w; intro A2 cap2 a w S; refine h_n1 S ?_)
    (refine h_m (i := 9) rfl (by kernel_rfl) (op_calls S call150 (.cons (.t rfl) (.cons (.t rfl) .nil)) (c150 _ _ _ _ _ (by exact .old S.wd (by assumption)) (by exact Sl.of_own S.wd (k := 1) rfl (fun _ => rfl)) (by omega) (by assumption)) rfl ?_); clear S a w; rintro _ _ ⟨A11, c11, A21, c21, rfl, rfl⟩ a w S; refine h_n1 S ?_)
    refine hy 10 S rfl (ys_ext (.t rfl) rfl) rfl fun a w S => hy 11 S rfl (ys_ext (.t rfl) rfl) rfl fun a w S => ?_
    (refine h_m0 (i := 12) rfl (by kernel_rfl) (op_stW S sizeOf37 (.t rfl) (.t rfl) (k := 4) rfl rfl rfl (by simp [Value.oneCell']) ?_); clear S a w; intro a w S; refine h_n1 S ?_)
    refine hy 13 S rfl (ys_assign (.t rfl)) rfl fun a w S => h_done (by kernel_rfl) (then_normal (hK1 _ _ (wp_ret (st_ret S (results2 S results87 (Rv.cell (k := 4) ⟨isAgg37, sizeOf37⟩ rfl rfl rfl) (Rv.tmp rfl)) ?_))))
    rotate_left
    (refine op_bslice1 S underlying35 inf58 rfl rfl rfl (.t rfl) rfl rfl rfl ?_; clear S a w; intro g5 a w S; refine h_n1 S ?_)
    (refine h_m (i := 5) rfl (by kernel_rfl) (op_extend _ (S.nil_ 58 _ Go.Fw.Dot.enc _) underlying35 underlying35 (.inr ⟨_, rfl⟩) inf58 rfl (k := 0) rfl (.t rfl) (.t rfl) (Src.sl (Sl.old S.wd h2) (by decide) Go.Fw.Dot.enc_len Go.Fw.Dot.enc_one) (by first | omega | (simp only [List.length_append, List.length_cons, List.length_nil]; omega) | (simp; omega)) rfl rfl rfl ?_); clear S a w; intro A1 cap1 a w S; refine h_n1 S ?_)
    simp only [List.nil_append] at S
    (refine h_m (i := 8) rfl (by kernel_rfl) (op_push S underlying35 inf58 rfl (k := 0) (j := 1) rfl (.t rfl) (.t rfl) rfl Go.Fw.Dot.mkEnc rfl rfl (by first | omega | (simp only [List.length_append, List.length_cons, List.length_nil]; omega)) rfl rfl rfl ?_); clear S a w; intro A2 cap2 a w S; refine h_n1 S ?_)
    (refine h_m (i := 9) rfl (by kernel_rfl) (op_calls S call150 (.cons (.t rfl) (.cons (.t rfl) .nil)) (c150 _ _ _ _ _ (by exact .old S.wd (by assumption)) (by exact Sl.of_own S.wd (k := 0) rfl (fun _ => rfl)) (by omega) (by assumption)) rfl ?_); clear S a w; rintro _ _ ⟨A11, c11, A21, c21, rfl, rfl⟩ a w S; refine h_n1 S ?_)
    refine hy 10 S rfl (ys_ext (.t rfl) rfl) rfl fun a w S => hy 11 S rfl (ys_ext (.t rfl) rfl) rfl fun a w S => ?_
    (refine h_m0 (i := 12) rfl (by kernel_rfl) (op_stW S sizeOf37 (.t rfl) (.t rfl) (k := 4) rfl rfl rfl (by simp [Value.oneCell']) ?_); clear S a w; intro a w S; refine h_n1 S ?_)
    refine hy 13 S rfl (ys_assign (.t rfl)) rfl fun a w S => h_done (by kernel_rfl) (then_normal (hK1 _ _ (wp_ret (st_ret S (results2 S results87 (Rv.cell (k := 4) ⟨isAgg37, sizeOf37⟩ rfl rfl rfl) (Rv.tmp rfl)) ?_))))
    rotate_left
    (refine op_bslice1 S underlying35 inf58 rfl rfl rfl (.t rfl) rfl rfl rfl ?_; clear S a w; intro g4 a w S; refine h_n1 S ?_)
    (refine h_m (i := 2) rfl (by kernel_rfl) (op_bslice0 S underlying35 sizeOf58 rfl ?_); clear S a w; intro g5 a w S; refine h_n1 S ?_)
    (refine h_m (i := 5) rfl (by kernel_rfl) (op_extend _ (S.nil_ 58 _ Go.Fw.Dot.enc _) underlying35 underlying35 (.inr ⟨_, rfl⟩) inf58 rfl (k := 0) rfl (.t rfl) (.t rfl) (Src.sl (Sl.old S.wd h2) (by decide) Go.Fw.Dot.enc_len Go.Fw.Dot.enc_one) (by first | omega | (simp only [List.length_append, List.length_cons, List.length_nil]; omega) | (simp; omega)) rfl rfl rfl ?_); clear S a w; intro A1 cap1 a w S; refine h_n1 S ?_)
    simp only [List.nil_append] at S
    (refine h_m (i := 8) rfl (by kernel_rfl) (op_push S underlying35 inf58 rfl (k := 0) (j := 1) rfl (.t rfl) (.t rfl) rfl Go.Fw.Dot.mkEnc rfl rfl (by first | omega | (simp only [List.length_append, List.length_cons, List.length_nil]; omega)) rfl rfl rfl ?_); clear S a w; intro A2 cap2 a w S; refine h_n1 S ?_)
    (refine h_m (i := 9) rfl (by kernel_rfl) (op_calls S call150 (.cons (.t rfl) (.cons (.t rfl) .nil)) (c150 _ _ _ _ _ (by exact .old S.wd (by assumption)) (by exact Sl.of_own S.wd (k := 0) rfl (fun _ => rfl)) (by omega) (by assumption)) rfl ?_); clear S a w; rintro _ _ ⟨A11, c11, A21, c21, rfl, rfl⟩ a w S; refine h_n1 S ?_)
    refine hy 10 S rfl (ys_ext (.t rfl) rfl) rfl fun a w S => hy 11 S rfl (ys_ext (.t rfl) rfl) rfl fun a w S => ?_
    (refine h_m0 (i := 12) rfl (by kernel_rfl) (op_stW S sizeOf37 (.t rfl) (.t rfl) (k := 4) rfl rfl rfl (by simp [Value.oneCell']) ?_); clear S a w; intro a w S; refine h_n1 S ?_)
    refine hy 13 S rfl (ys_assign (.t rfl)) rfl fun a w S => h_done (by kernel_rfl) (then_normal (hK1 _ _ (wp_ret (st_ret S (results2 S results87 (Rv.cell (k := 4) ⟨isAgg37, sizeOf37⟩ rfl rfl rfl) (Rv.tmp rfl)) ?_))))
    rotate_left
    all_goals rw [e]
    all_goals exact ⟨_, _, rfl, S.wd.sub (by repeat (first | exact List.Sublist.refl _ | exact List.nil_sublist _ | refine .cons_cons _ ?_ | refine .cons _ ?_)), _, _, _, _, rfl, rfl⟩
  | false =>
    unfold Go.Fw.Rets
    refine enter2 func87 rfl ntmps87 rfl fun a S => wp_seq_k fun _ hK1 => wp_region_lit (st_m (op_box S (.t rfl) rfl fun g1 a w S => st_m (op_box S (.t rfl) rfl fun g2 a w S => st_m (op_alloc S zeroValue37 (cs := _) rfl rfl fun g3 a w S => run S (.ac rfl <| .z) fun a w S => st_nil (then_normal (hK1 _ _ (wp_seq_k fun _ hK1 => wp_seq_k fun _ hK2 => wp_region_lit (run S (.la gt37 2 rfl rfl rfl <| .xx (ys_call call126 (.cons (.t rfl) .nil) (fun hp w W => c126 _ _ _ _ (by exact .old W (by assumption)))) rfl <| .z) fun a w S => ?_))))))))
    rw [rw_c] at S
    refine run S (.nt rfl <| .z) fun a w S => st_nil (then_normal (hK2 _ _ (st_then S (.t rfl) (wp_seq_k fun _ hK2 => wp_region_lit (run S (.yy (ys_bld (ps := []) (us := [_, _]) bld37 .nil rfl) rfl <| .z) fun a w S => st_m (op_stW S sizeOf37 (.t rfl) (.t rfl) (k := 0) rfl rfl rfl (by simp [Value.oneCell']) fun a w S => run S (.ac rfl <| .z) fun a w S => st_nil (then_normal (hK2 _ _ (wp_ret (then_ret (st_ret S (results2 S results87 (Rv.cell (k := 0) ⟨isAgg37, sizeOf37⟩ rfl rfl rfl) (Rv.tmp rfl)) ?_)))))))))))
    have e : addL C ⟨x, y, z⟩ = (⟨[], []⟩, 30) := by unfold addL; rw [rw_c]; rfl
    rw [e]
    exact ⟨_, _, rfl, ((S.nil_ 58 3 Dot.enc none).nil_ 122 3 Dot.enc none).wd.sub (by repeat (first | exact List.Sublist.refl _ | exact List.nil_sublist _ | refine .cons_cons _ ?_ | refine .cons _ ?_)), none, 0, none, 0, rfl, rfl⟩
end Go.Proofs.YtfblmkocmnbdcaaGreat
set_option linter.unusedVariables false
set_option linter.unusedSimpArgs false
set_option maxRecDepth 100000
set_option maxHeartbeats 4000000
namespace Go.Fw
theorem otherE_no {s : List UInt8} {l : List Ent} {k : Nat} {x : Ent} (h : l[k]? = some x) (hs : x.item = s) : otherE s (l.take (k + 1)) = otherE s (l.take k) := by
  rw [List.take_add_one, h, Option.toList_some]
  unfold otherE
  simp [hs]
theorem otherE_yes {s : List UInt8} {l : List Ent} {k : Nat} {x : Ent} (h : l[k]? = some x) (hs : x.item ≠ s) : otherE s (l.take (k + 1)) = otherE s (l.take k) ++ [x] := by
  rw [List.take_add_one, h, Option.toList_some]
  unfold otherE
  simp [hs]
theorem insE_perm (e : Ent) : ∀ l, (insE e l).Perm (l ++ [e])
  | [] => .refl _
  | x :: r => by
    unfold insE
    split
    · exact (List.perm_append_comm (l₁ := x :: r) (l₂ := [e])).symm
    · exact (insE_perm e r).cons x
theorem otherE_len (s : List UInt8) (l : List Ent) (k : Nat) : (otherE s (l.take k)).length ≤ l.length := by
  have h1 := List.length_filter_le (fun x : Ent => !decide (x.item = s)) (l.take k)
  have h2 : (l.take k).length ≤ l.length := by rw [List.length_take]; omega
  unfold otherE
  omega
end Go.Fw
namespace Go.Proofs.YtfblmkocmnbdcaaGreat
open Go.Fw Go.Proofs Go.RowKit Go.Proofs.Tryz
theorem c29 (w0 : World) (u : Upd) (v1 v2 v3 : Value) (h : Sl Ent.enc 6 w0 w0.heap.size v1 u.seen.ents) (hr : RdCtx w0 w0.heap.size v2 v3 u.seen.ctx) :
    Rets Tryz.prog 29 #[.agg (Upd.enc u v1 v2 v3).toArray] w0 fun v L => ∃ A1 r1 A2 r2 A3 r3, v = .tuple #[.agg #[.slice A1 (applyU u).1.ents.length r1, .slice A2 (applyU u).1.ctx.marks.length r2, .slice A3 (applyU u).1.ctx.cloud.length r3], .int .i64 (applyU u).2] ∧
      L = [rowOf 71 6 Ent.enc A1 r1 (applyU u).1.ents, rowOf 122 3 Dot.enc A2 r2 (applyU u).1.ctx.marks, rowOf 58 3 Dot.enc A3 r3 (applyU u).1.ctx.cloud] := by
  have hs := h
  have hrr := hr
  obtain ⟨A, cap, rfl, hl, hcap, hA⟩ := h
  obtain ⟨⟨A2, cap2, rfl, _⟩, ⟨A3, cap3, rfl, _⟩⟩ := hr
  by_cases hm : mayE u = 0
  rotate_left
  · have rw_m : decide (mayE u = 0) = false := decide_eq_false hm
    have e : applyU u = (Cart.zero, mayE u) := by unfold applyU; rw [if_neg hm]
    unfold Go.Fw.Rets
    refine enter1 func29 rfl ntmps29 rfl fun a S => wp_seq_k fun _ hK1 => wp_region_lit (st_m (op_box S (.t rfl) rfl fun g1 a w S => st_m (op_alloc S zeroValue39 (cs := _) rfl rfl fun g2 a w S => run S (.ac rfl <| .z) fun a w S => st_nil (then_normal (hK1 _ _ (sg S (.la gt60 1 rfl rfl rfl <| .xx (ys_call call80 (.cons (.t rfl) .nil) (fun hp w W => c80 _ _ _ _ _ (by exact .old W (by assumption)) (by exact .old W (by assumption)))) rfl <| .as rfl <| .z) fun a w S => wp_seq_k fun _ hK1 => sg S (.mv rfl <| .yy (ys_T (by omega) (ys_neq (.t rfl) Ev.c)) rfl <| .z) fun a w S => st_then S (.t rfl) (wp_seq_k fun _ hK2 => wp_region_lit (run S (.yy (ys_bld (ps := []) (us := [_, _, _]) bld39 .nil rfl) rfl <| .mv rfl <| .z) fun a w S => st_m (op_stW S sizeOf39 (.t rfl) (.t rfl) (k := 0) rfl rfl rfl (by simp [Value.oneCell']) fun a w S => run S (.as rfl <| .z) fun a w S => st_nil (then_normal (hK2 _ _ (wp_ret (then_ret (st_ret S (results2 S results29 (Rv.cell (k := 0) ⟨isAgg39, sizeOf39⟩ rfl rfl rfl) (Rv.tmp rfl)) ?_))))))))))))))
    rw [e]
    exact ⟨_, _, rfl, (((S.nil_ 58 3 Dot.enc none).nil_ 122 3 Dot.enc none).nil_ 71 6 Ent.enc none).wd.sub (by repeat (first | exact List.Sublist.refl _ | exact List.nil_sublist _ | refine .cons_cons _ ?_ | refine .cons _ ?_)), none, 0, none, 0, none, 0, rfl, rfl⟩
  have hu := mayE_ok hm
  have hlen := hu.seen.len
  have rw_m := hm
  have en : (addL u.seen.ctx u.dot).2 ≠ 0 → applyU u = (Cart.zero, (addL u.seen.ctx u.dot).2) := fun h => by unfold applyU; rw [if_pos hm, if_neg h]
  have ey : (addL u.seen.ctx u.dot).2 = 0 → applyU u = sizedC ⟨applyE u, (addL u.seen.ctx u.dot).1⟩ := fun h => by unfold applyU; rw [if_pos hm, if_pos h]
  by_cases hd : (addL u.seen.ctx u.dot).2 = 0
  rotate_left
  · have rw_d : decide ((addL u.seen.ctx ⟨u.dot.node, u.dot.life, u.dot.count⟩).2 = 0) = false := decide_eq_false hd
    have e := en hd
    unfold Go.Fw.Rets
    refine enter1 func29 rfl ntmps29 rfl fun a S => wp_seq_k fun _ hK1 => wp_region_lit (st_m (op_box S (.t rfl) rfl fun g1 a w S => st_m (op_alloc S zeroValue39 (cs := _) rfl rfl fun g2 a w S => run S (.ac rfl <| .z) fun a w S => st_nil (then_normal (hK1 _ _ (wp_seq_k fun _ hK1 => wp_region_lit (run S (.la gt60 1 rfl rfl rfl <| .xx (ys_call call80 (.cons (.t rfl) .nil) (fun hp w W => c80 _ _ _ _ _ (by exact .old W (by assumption)) (by exact .old W (by assumption)))) rfl <| .z) fun a w S => ?_)))))))
    rw [rw_m] at S
    refine run S (.as rfl <| .z) fun a w S => st_nil (then_normal (hK1 _ _ (wp_seq_k fun _ hK1 => sg S (.mv rfl <| .yy (ys_F (by omega) (ys_neq (.t rfl) Ev.c)) rfl <| .z) fun a w S => st_else S (.t rfl) (wp_skip (then_normal (hK1 _ _ (wp_seq_k fun _ hK1 => wp_region_lit (run S (.fa underlying60 sizeOf39 7 rfl rfl rfl <| .fa underlying39 sizeOf37 8 rfl rfl rfl <| .la gt37 1 rfl rfl rfl <| .fa underlying60 sizeOf58 1 rfl rfl rfl <| .la gt58 1 rfl rfl rfl <| .z) fun a w S => ?_))))))))
    (refine st_m (op_calls S call81 (.cons (.t rfl) (.cons (.t rfl) .nil)) (c81 _ _ _ _ _ _ _ (by exact .old S.wd (by assumption))) rfl ?_); clear S a w; rintro _ _ ⟨A11, r11, A21, r21, rfl, rfl⟩ a w S)
    refine run S (.mv rfl <| .ex rfl rfl <| .ex rfl rfl <| .z) fun a w S => st_m (op_alloc S zeroValue37 (cs := _) rfl rfl fun g3 a w S => st_m (op_stW S sizeOf37 (.t rfl) (.t rfl) (k := 0) rfl rfl rfl (by simp [Value.oneCell']) fun a w S => run S (.as rfl <| .z) fun a w S => st_nil (then_normal (hK1 _ _ (wp_seq_k fun _ hK1 => sg S (.mv rfl <| .yy (ys_T (by omega) (ys_neq (.t rfl) Ev.c)) rfl <| .z) fun a w S => st_then S (.t rfl) (wp_seq_k fun _ hK2 => wp_region_lit (run S (.yy (ys_bld (ps := []) (us := [_, _, _]) bld39 .nil rfl) rfl <| .mv rfl <| .z) fun a w S => st_m (op_stW S sizeOf39 (.t rfl) (.t rfl) (k := 3) rfl rfl rfl (by simp [Value.oneCell']) fun a w S => run S (.as rfl <| .z) fun a w S => st_nil (then_normal (hK2 _ _ (wp_ret (then_ret (st_ret S (results2 S results29 (Rv.cell (k := 3) ⟨isAgg39, sizeOf39⟩ rfl rfl rfl) (Rv.tmp rfl)) ?_)))))))))))))
    rw [e]
    exact ⟨_, _, rfl, (((S.nil_ 58 3 Dot.enc none).nil_ 122 3 Dot.enc none).nil_ 71 6 Ent.enc none).wd.sub (by repeat (first | exact List.Sublist.refl _ | exact List.nil_sublist _ | refine .cons_cons _ ?_ | refine .cons _ ?_)), none, 0, none, 0, none, 0, rfl, rfl⟩
  have rw_d : (addL u.seen.ctx ⟨u.dot.node, u.dot.life, u.dot.count⟩).2 = 0 := hd
  unfold Go.Fw.Rets
  refine enter1 func29 rfl ntmps29 rfl fun a S => wp_seq_k fun _ hK1 => wp_region_lit (st_m (op_box S (.t rfl) rfl fun g1 a w S => st_m (op_alloc S zeroValue39 (cs := _) rfl rfl fun g2 a w S => run S (.ac rfl <| .z) fun a w S => st_nil (then_normal (hK1 _ _ (wp_seq_k fun _ hK1 => wp_region_lit (run S (.la gt60 1 rfl rfl rfl <| .xx (ys_call call80 (.cons (.t rfl) .nil) (fun hp w W => c80 _ _ _ _ _ (by exact .old W (by assumption)) (by exact .old W (by assumption)))) rfl <| .z) fun a w S => ?_)))))))
  rw [rw_m] at S
  refine run S (.as rfl <| .z) fun a w S => st_nil (then_normal (hK1 _ _ (wp_seq_k fun _ hK1 => sg S (.mv rfl <| .yy (ys_F (by omega) (ys_neq (.t rfl) Ev.c)) rfl <| .z) fun a w S => st_else S (.t rfl) (wp_skip (then_normal (hK1 _ _ (wp_seq_k fun _ hK1 => wp_region_lit (run S (.fa underlying60 sizeOf39 7 rfl rfl rfl <| .fa underlying39 sizeOf37 8 rfl rfl rfl <| .la gt37 1 rfl rfl rfl <| .fa underlying60 sizeOf58 1 rfl rfl rfl <| .la gt58 1 rfl rfl rfl <| .z) fun a w S => ?_))))))))
  (refine st_m (op_calls S call81 (.cons (.t rfl) (.cons (.t rfl) .nil)) (c81 _ _ _ _ _ _ _ (by exact .old S.wd (by assumption))) rfl ?_); clear S a w; rintro _ _ ⟨A11, r11, A21, r21, rfl, rfl⟩ a w S)
  rw [rw_d] at S
  refine run S (.mv rfl <| .ex rfl rfl <| .ex rfl rfl <| .z) fun a w S => st_m (op_alloc S zeroValue37 (cs := _) rfl rfl fun g3 a w S => st_m (op_stW S sizeOf37 (.t rfl) (.t rfl) (k := 0) rfl rfl rfl (by simp [Value.oneCell']) fun a w S => run S (.as rfl <| .z) fun a w S => st_nil (then_normal (hK1 _ _ (wp_seq_k fun _ hK1 => sg S (.mv rfl <| .yy (ys_F (by omega) (ys_neq (.t rfl) Ev.c)) rfl <| .z) fun a w S => st_else S (.t rfl) (wp_skip (then_normal (hK1 _ _ (wp_seq_k fun _ hK1 => wp_region_lit (run S (.la gt37 0 rfl rfl rfl <| .yy (ys_bld (ps := [(1, Go.Operand.tmp 28)]) (us := [_, _, _]) bld39 (.cons (.t rfl) .nil) rfl) rfl <| .z) fun a w S => st_m (op_alloc S zeroValue39 (cs := _) rfl rfl fun g4 a w S => st_m (op_stW S sizeOf39 (.t rfl) (.t rfl) (k := 0) rfl rfl rfl (by simp [Value.oneCell']) fun a w S => st_nil (then_normal (hK1 _ _ (wp_seq_k fun _ hK1 => sg S (.fa underlying60 sizeOf39 7 rfl rfl rfl <| .fa underlying39 sizeOf33 7 rfl rfl rfl <| .ld gt33 5 rfl rfl rfl <| .ln underlying33 rfl <| .mc rfl <| .z) fun a w S => wp_block ?_)))))))))))))))
  have eR : addL u.seen.ctx ⟨u.dot.node, u.dot.life, u.dot.count⟩ = addL u.seen.ctx u.dot := rfl
  rw [eR] at S
  generalize (addL u.seen.ctx u.dot).1 = R at S ey
  refine st_lpM (S.nil_ 71 6 Ent.enc none) [34] (X := Nat × Option Addr × Nat) (fun q => [(34, true, .int .i64 (q.1 : Int))])
    (fun q => [rowOf 71 6 Ent.enc q.2.1 q.2.2 (otherE u.item (u.seen.ents.take q.1)), .blk g4 (.cells #[.slice q.2.1 (otherE u.item (u.seen.ents.take q.1)).length q.2.2, .slice A11 R.marks.length r11, .slice A21 R.cloud.length r21] 39), rowOf 122 3 Dot.enc A11 r11 R.marks, rowOf 58 3 Dot.enc A21 r21 R.cloud, .blk g2 (.cells #[.slice none 0 0, .slice none 0 0, .slice none 0 0] 39), .blk g1 (.cells (Upd.enc u (.slice A u.seen.ents.length cap) (.slice A2 u.seen.ctx.marks.length cap2) (.slice A3 u.seen.ctx.cloud.length cap3)).toArray 60)])
    (fun q => q.1 ≤ u.seen.ents.length) (fun q => u.seen.ents.length - q.1) (0, none, 0) (Nat.zero_le _) ?_
  clear S
  rintro ⟨k, B, cB⟩ a w hk S
  dsimp only at hk S
  have hol := otherE_len u.item u.seen.ents k
  by_cases hlt : k < u.seen.ents.length
  · obtain ⟨g, o, x, rfl, hx, hd, hc⟩ := row_at hA hlt
    by_cases hi : x.item = u.item
    · have rw_i : decide (x.item ≠ u.item) = false := decide_eq_false fun h => h hi
      have hst := otherE_no hx hi
      refine sg S (.lt (by omega) rfl rfl <| .z) fun a w S => wp_seq_k fun _ hK2 => st_then S (.t rfl) (wp_skip (then_normal (hK2 _ _ (wp_seq_k fun _ hK2 => wp_block (wp_seq_k fun _ hK3 => wp_region_lit (run S (.ix underlying33 sizeOf71 (by omega) rfl rfl <| .yy (ys_ldOA ⟨isAgg71, sizeOf71⟩ (.t rfl) (vs := [_, _, _, _, _, _]) rfl (fun _ => hc)) rfl <| .z) fun a w S => st_m (op_alloc S zeroValue71 (cs := _) rfl rfl fun g5 a w S => st_m (op_stW S sizeOf71 (.t rfl) (.t rfl) (k := 0) rfl rfl rfl (by simp [Value.oneCell']) fun a w S => st_nil (then_normal (hK3 _ _ (wp_seq_k fun _ hK3 => wp_region_lit (run S (.fa underlying71 sizeOf9 0 rfl rfl rfl <| .ld gt9 0 rfl rfl rfl <| .fa underlying60 sizeOf9 4 rfl rfl rfl <| .ld gt9 6 rfl rfl rfl <| .yy (ys_neqStr (.t rfl) (.t rfl)) rfl <| .z) fun a w S => ?_))))))))))))
      rw [rw_i] at S
      refine st_nil (then_normal (hK3 _ _ (st_else S (.t rfl) (wp_skip (in_normal (then_normal (hK2 _ _ (wp_region_lit (run S (.ad (by unfold I64; omega) rfl <| .mv rfl <| .z) fun a w S => st_nil (then_normal ?_))))))))))
      exact ⟨(k + 1, B, cB), by dsimp only; omega, by dsimp only; omega, by dsimp only; rw [hst]; exact S.pk⟩
    · have rw_i : decide (x.item ≠ u.item) = true := decide_eq_true hi
      have hst := otherE_yes hx hi
      refine sg S (.lt (by omega) rfl rfl <| .z) fun a w S => wp_seq_k fun _ hK2 => st_then S (.t rfl) (wp_skip (then_normal (hK2 _ _ (wp_seq_k fun _ hK2 => wp_block (wp_seq_k fun _ hK3 => wp_region_lit (run S (.ix underlying33 sizeOf71 (by omega) rfl rfl <| .yy (ys_ldOA ⟨isAgg71, sizeOf71⟩ (.t rfl) (vs := [_, _, _, _, _, _]) rfl (fun _ => hc)) rfl <| .z) fun a w S => st_m (op_alloc S zeroValue71 (cs := _) rfl rfl fun g5 a w S => st_m (op_stW S sizeOf71 (.t rfl) (.t rfl) (k := 0) rfl rfl rfl (by simp [Value.oneCell']) fun a w S => st_nil (then_normal (hK3 _ _ (wp_seq_k fun _ hK3 => wp_region_lit (run S (.fa underlying71 sizeOf9 0 rfl rfl rfl <| .ld gt9 0 rfl rfl rfl <| .fa underlying60 sizeOf9 4 rfl rfl rfl <| .ld gt9 6 rfl rfl rfl <| .yy (ys_neqStr (.t rfl) (.t rfl)) rfl <| .z) fun a w S => ?_))))))))))))
      rw [rw_i] at S
      refine st_nil (then_normal (hK3 _ _ (st_then S (.t rfl) (wp_region_lit (run S (.fa underlying39 sizeOf33 0 rfl rfl rfl <| .ld gt33 2 rfl rfl rfl <| .la gt71 0 rfl rfl rfl <| .z) fun a w S => st_m (op_bslice1 S underlying33 inf71 rfl rfl rfl (.t rfl) rfl rfl rfl fun g6 a w S => st_m (op_push S underlying33 inf71 rfl (k := 2) (j := 0) rfl (.t rfl) (.t rfl) rfl rfl rfl rfl (by first | omega | (simp only [List.length_append, List.length_cons, List.length_nil]; omega)) rfl rfl rfl fun A1 cap1 a w S => run S (.fa underlying39 sizeOf33 0 rfl rfl rfl <| .z) fun a w S => st_m (op_st S sizeOf33 (.t rfl) (.t rfl) (k := 3) rfl rfl (by simp) fun a w S => st_nil (in_normal (then_normal (hK2 _ _ (wp_region_lit (run S (.ad (by unfold I64; omega) rfl <| .mv rfl <| .z) fun a w S => st_nil (then_normal ?_))))))))))))))
      exact ⟨(k + 1, A1, cap1), by dsimp only; omega, by dsimp only; omega, by dsimp only; rw [hst]; exact S.pk⟩
  · obtain rfl : k = u.seen.ents.length := by omega
    rw [List.take_length] at S hol
    have hal := applyE_len hu
    by_cases hq : 0 < u.qty
    · have rw_q : decide (0 < u.qty) = true := decide_eq_true hq
      have rw_ue : #[Value.string (bs u.item), Value.int .i64 u.dot.node, Value.int .i64 u.dot.life, Value.int .i64 u.dot.count, Value.int .i64 u.qty, Value.int .u64 (u.price.toNat : Int)] = (Ent.enc u.ent).toArray := rfl
      have hae : applyE u = insE u.ent (otherE u.item u.seen.ents) := by unfold applyE; rw [if_pos hq]
      have hm1 : ∀ x ∈ otherE u.item u.seen.ents ++ [u.ent], mayD x.dot = true := fun x hx => by
        rcases List.mem_append.1 hx with hx | hx
        · exact cov_may hu.seen.ctx (ok_cov hu.seen (other_mem.1 hx).1)
        · simp at hx; rw [hx]; exact hu.dot
      have hp1 : (applyE u).Perm (otherE u.item u.seen.ents ++ [u.ent]) := by rw [hae]; exact insE_perm _ _
      have hd1 : ((otherE u.item u.seen.ents ++ [u.ent]).map (·.dot)).Nodup := (hp1.map _).nodup_iff.1 (apply_dots hu)
      have hr1 := apply_sorted hu
      have hlr : ∀ x, x ∈ applyE u ↔ x ∈ otherE u.item u.seen.ents ++ [u.ent] := fun x => hp1.mem_iff
      have hln : (otherE u.item u.seen.ents ++ [u.ent]).length ≤ 4194304 := by rw [← hp1.length_eq]; omega
      refine sg S (.ge (by omega) rfl rfl <| .z) fun a w S => wp_seq_k fun _ hK2 => st_else S (.t rfl) (wp_exit (then_exit (then_exit (in_here (then_normal (hK1 _ _ (wp_seq_k fun _ hK1 => sg S (.fa underlying60 sizeOf3 5 rfl rfl rfl <| .ld gt3 5 rfl rfl rfl <| .yy (ys_T (by omega) (ys_gtr (.t rfl) Ev.c)) rfl <| .z) fun a w S => st_then S (.t rfl) (wp_seq_k fun _ hK3 => wp_region_lit (run S (.fa underlying39 sizeOf33 0 rfl rfl rfl <| .ld gt33 1 rfl rfl rfl <| .fa underlying60 sizeOf9 4 rfl rfl rfl <| .ld gt9 5 rfl rfl rfl <| .fa underlying60 sizeOf58 1 rfl rfl rfl <| .la gt58 5 rfl rfl rfl <| .fa underlying60 sizeOf3 5 rfl rfl rfl <| .ld gt3 5 rfl rfl rfl <| .fa underlying60 sizeOf27 6 rfl rfl rfl <| .ld gt27 5 rfl rfl rfl <| .yy (ys_bld (ps := [(0, Go.Operand.tmp 56), (1, Go.Operand.tmp 58), (2, Go.Operand.tmp 60), (3, Go.Operand.tmp 62)]) (us := [_, _, _, _, _, _]) bld71 (.cons (.t rfl) (.cons (.t rfl) (.cons (.t rfl) (.cons (.t rfl) .nil)))) rfl) rfl <| .z) fun a w S => ?_)))))))))
      rw [rw_ue] at S
      refine st_m (op_bslice1 S underlying33 inf71 rfl rfl rfl (.t rfl) rfl rfl rfl fun g5 a w S => ?_)
      rw [rw_ue] at S
      refine st_m (op_push S underlying33 inf71 rfl (k := 1) (j := 0) rfl (.t rfl) (.t rfl) rfl rfl rfl rfl (by first | omega | (simp only [List.length_append, List.length_cons, List.length_nil]; omega)) rfl rfl rfl fun A1 cap1 a w S => ?_)
      rw [rw_ue] at S
      refine run S (.fa underlying39 sizeOf33 0 rfl rfl rfl <| .z) fun a w S => ?_
      rw [rw_ue] at S
      refine st_m (op_st S sizeOf33 (.t rfl) (.t rfl) (k := 2) rfl rfl (by simp) fun a w S => ?_)
      rw [rw_ue] at S
      refine st_nil ?_
      rw [rw_ue] at S
      refine then_normal (hK3 _ _ ?_)
      rw [rw_ue] at S
      refine wp_region_lit ?_
      rw [rw_ue] at S
      refine run S (.fa underlying39 sizeOf33 0 rfl rfl rfl <| .z) fun a w S => ?_
      rw [rw_ue] at S
      refine run S (.ld gt33 2 rfl rfl rfl <| .z) fun a w S => ?_
      rw [rw_ue] at S
      (replace S := S.pull 1 rfl; try simp only [List.set_cons_zero, List.set_cons_succ, List.eraseIdx_cons_succ, List.eraseIdx_cons_zero] at S)
      refine st_m (op_callO S call82 (.cons (.t rfl) (.cons Ev.f .nil)) (k82 S.wd hm1 hln hd1 hr1 hlr) rfl ?_)
      clear S
      rintro _ _ ⟨rfl, hll, rfl⟩ a w S
      rw [hll] at S
      by_cases hbig : 64 < (applyE u).length ∨ 32 < itemsN (applyE u)
      · have rw_b : ∀ x y : Value, (if 64 < (applyE u).length ∨ 32 < itemsN (applyE u) then x else y) = x := fun _ _ => if_pos hbig
        have e : applyU u = (Cart.zero, 51) := by rw [ey hd]; unfold sizedC; exact if_pos hbig
        refine st_nil ?_
        rw [rw_ue] at S
        refine then_normal (hK1 _ _ ?_)
        rw [rw_ue] at S
        refine wp_seq_k fun _ hK1 => ?_
        rw [rw_ue] at S
        refine wp_region_lit ?_
        rw [rw_ue] at S
        refine run S (.la gt39 2 rfl rfl rfl <| .z) fun a w S => ?_
        rw [rw_ue] at S
        refine run S (.xx (ys_call call84 (.cons (.t rfl) .nil) (fun hp w W => c84 _ _ _ _ _ _ _ _ _ (by exact Sl.of_own W (k := 0) rfl (fun _ => rfl)) (by omega))) rfl <| .z) fun a w S => ?_
        rw [rw_ue] at S
        rw [rw_b] at S
        refine run S (.ex rfl rfl <| .z) fun a w S => ?_
        rw [rw_ue] at S
        refine run S (.ex rfl rfl <| .z) fun a w S => ?_
        rw [rw_ue] at S
        refine st_m (op_stW S sizeOf39 (.t rfl) (.t rfl) (k := 5) rfl rfl rfl (by simp [Value.oneCell']) fun a w S => ?_)
        rw [rw_ue] at S
        refine run S (.as rfl <| .z) fun a w S => ?_
        rw [rw_ue] at S
        refine st_nil ?_
        rw [rw_ue] at S
        refine then_normal (hK1 _ _ ?_)
        rw [rw_ue] at S
        refine wp_ret ?_
        rw [rw_ue] at S
        refine st_ret S (results2 S results29 (Rv.cell (k := 5) ⟨isAgg39, sizeOf39⟩ rfl rfl rfl) (Rv.tmp rfl)) ?_
        rw [rw_ue] at S
        rw [e]
        exact ⟨_, _, rfl, (((S.nil_ 58 3 Dot.enc none).nil_ 122 3 Dot.enc none).nil_ 71 6 Ent.enc none).wd.sub (by repeat (first | exact List.Sublist.refl _ | exact List.nil_sublist _ | refine .cons_cons _ ?_ | refine .cons _ ?_)), none, 0, none, 0, none, 0, rfl, rfl⟩
      · have rw_b : ∀ x y : Value, (if 64 < (applyE u).length ∨ 32 < itemsN (applyE u) then x else y) = y := fun _ _ => if_neg hbig
        have e : applyU u = (⟨applyE u, R⟩, 0) := by rw [ey hd]; unfold sizedC; exact if_neg hbig
        refine st_nil ?_
        rw [rw_ue] at S
        refine then_normal (hK1 _ _ ?_)
        rw [rw_ue] at S
        refine wp_seq_k fun _ hK1 => ?_
        rw [rw_ue] at S
        refine wp_region_lit ?_
        rw [rw_ue] at S
        refine run S (.la gt39 2 rfl rfl rfl <| .z) fun a w S => ?_
        rw [rw_ue] at S
        refine run S (.xx (ys_call call84 (.cons (.t rfl) .nil) (fun hp w W => c84 _ _ _ _ _ _ _ _ _ (by exact Sl.of_own W (k := 0) rfl (fun _ => rfl)) (by omega))) rfl <| .z) fun a w S => ?_
        rw [rw_ue] at S
        rw [rw_b] at S
        refine run S (.ex rfl rfl <| .z) fun a w S => ?_
        rw [rw_ue] at S
        refine run S (.ex rfl rfl <| .z) fun a w S => ?_
        rw [rw_ue] at S
        refine st_m (op_stW S sizeOf39 (.t rfl) (.t rfl) (k := 5) rfl rfl rfl (by simp [Value.oneCell']) fun a w S => ?_)
        rw [rw_ue] at S
        refine run S (.as rfl <| .z) fun a w S => ?_
        rw [rw_ue] at S
        refine st_nil ?_
        rw [rw_ue] at S
        refine then_normal (hK1 _ _ ?_)
        rw [rw_ue] at S
        refine wp_ret ?_
        rw [rw_ue] at S
        refine st_ret S (results2 S results29 (Rv.cell (k := 5) ⟨isAgg39, sizeOf39⟩ rfl rfl rfl) (Rv.tmp rfl)) ?_
        rw [rw_ue] at S
        rw [e]
        exact ⟨_, _, rfl, S.wd.sub (by repeat (first | exact List.Sublist.refl _ | exact List.nil_sublist _ | refine .cons_cons _ ?_ | refine .cons _ ?_)), _, _, _, _, _, _, rfl, rfl⟩
    · have rw_q : decide (0 < u.qty) = false := decide_eq_false hq
      have hae : otherE u.item u.seen.ents = applyE u := by unfold applyE; rw [if_neg hq]
      rw [hae] at S
      by_cases hbig : 64 < (applyE u).length ∨ 32 < itemsN (applyE u)
      · have rw_b : ∀ x y : Value, (if 64 < (applyE u).length ∨ 32 < itemsN (applyE u) then x else y) = x := fun _ _ => if_pos hbig
        have e : applyU u = (Cart.zero, 51) := by rw [ey hd]; unfold sizedC; exact if_pos hbig
        refine sg S (.ge (by omega) rfl rfl <| .z) fun a w S => wp_seq_k fun _ hK2 => st_else S (.t rfl) (wp_exit (then_exit (then_exit (in_here (then_normal (hK1 _ _ (wp_seq_k fun _ hK1 => sg S (.fa underlying60 sizeOf3 5 rfl rfl rfl <| .ld gt3 5 rfl rfl rfl <| .yy (ys_F (by omega) (ys_gtr (.t rfl) Ev.c)) rfl <| .z) fun a w S => st_else S (.t rfl) (wp_skip (then_normal (hK1 _ _ (wp_seq_k fun _ hK1 => wp_region_lit (run S (.la gt39 1 rfl rfl rfl <| .xx (ys_call call84 (.cons (.t rfl) .nil) (fun hp w W => c84 _ _ _ _ _ _ _ _ _ (by exact Sl.of_own W (k := 0) rfl (fun _ => rfl)) (by omega))) rfl <| .z) fun a w S => ?_))))))))))))
        rw [rw_b] at S
        refine run S (.ex rfl rfl <| .ex rfl rfl <| .z) fun a w S => st_m (op_stW S sizeOf39 (.t rfl) (.t rfl) (k := 4) rfl rfl rfl (by simp [Value.oneCell']) fun a w S => run S (.as rfl <| .z) fun a w S => st_nil (then_normal (hK1 _ _ (wp_ret (st_ret S (results2 S results29 (Rv.cell (k := 4) ⟨isAgg39, sizeOf39⟩ rfl rfl rfl) (Rv.tmp rfl)) ?_)))))
        rw [e]
        exact ⟨_, _, rfl, (((S.nil_ 58 3 Dot.enc none).nil_ 122 3 Dot.enc none).nil_ 71 6 Ent.enc none).wd.sub (by repeat (first | exact List.Sublist.refl _ | exact List.nil_sublist _ | refine .cons_cons _ ?_ | refine .cons _ ?_)), none, 0, none, 0, none, 0, rfl, rfl⟩
      · have rw_b : ∀ x y : Value, (if 64 < (applyE u).length ∨ 32 < itemsN (applyE u) then x else y) = y := fun _ _ => if_neg hbig
        have e : applyU u = (⟨applyE u, R⟩, 0) := by rw [ey hd]; unfold sizedC; exact if_neg hbig
        refine sg S (.ge (by omega) rfl rfl <| .z) fun a w S => wp_seq_k fun _ hK2 => st_else S (.t rfl) (wp_exit (then_exit (then_exit (in_here (then_normal (hK1 _ _ (wp_seq_k fun _ hK1 => sg S (.fa underlying60 sizeOf3 5 rfl rfl rfl <| .ld gt3 5 rfl rfl rfl <| .yy (ys_F (by omega) (ys_gtr (.t rfl) Ev.c)) rfl <| .z) fun a w S => st_else S (.t rfl) (wp_skip (then_normal (hK1 _ _ (wp_seq_k fun _ hK1 => wp_region_lit (run S (.la gt39 1 rfl rfl rfl <| .xx (ys_call call84 (.cons (.t rfl) .nil) (fun hp w W => c84 _ _ _ _ _ _ _ _ _ (by exact Sl.of_own W (k := 0) rfl (fun _ => rfl)) (by omega))) rfl <| .z) fun a w S => ?_))))))))))))
        rw [rw_b] at S
        refine run S (.ex rfl rfl <| .ex rfl rfl <| .z) fun a w S => st_m (op_stW S sizeOf39 (.t rfl) (.t rfl) (k := 4) rfl rfl rfl (by simp [Value.oneCell']) fun a w S => run S (.as rfl <| .z) fun a w S => st_nil (then_normal (hK1 _ _ (wp_ret (st_ret S (results2 S results29 (Rv.cell (k := 4) ⟨isAgg39, sizeOf39⟩ rfl rfl rfl) (Rv.tmp rfl)) ?_)))))
        rw [e]
        exact ⟨_, _, rfl, S.wd.sub (by repeat (first | exact List.Sublist.refl _ | exact List.nil_sublist _ | refine .cons_cons _ ?_ | refine .cons _ ?_)), _, _, _, _, _, _, rfl, rfl⟩
end Go.Proofs.YtfblmkocmnbdcaaGreat
set_option linter.unusedVariables false
set_option linter.unusedSimpArgs false
set_option maxRecDepth 100000
set_option maxHeartbeats 4000000
namespace Go.Proofs.YtfblmkocmnbdcaaGreat
open Go.Fw Go.Proofs Go.RowKit Go.Proofs.Tryz
theorem c30 (w0 : World) (u : Upd) (v1 v2 v3 : Value) (h : Sl Ent.enc 6 w0 w0.heap.size v1 u.seen.ents) (hr : RdCtx w0 w0.heap.size v2 v3 u.seen.ctx) :
    Rets Tryz.prog 30 #[.agg (Upd.enc u v1 v2 v3).toArray] w0 fun v L => ∃ A1 r1 A2 r2 A3 r3, v = .tuple #[.agg #[.slice A1 (applyU u).1.ents.length r1, .slice A2 (applyU u).1.ctx.marks.length r2, .slice A3 (applyU u).1.ctx.cloud.length r3], .int .i64 (applyU u).2] ∧
      L = [rowOf 71 6 Ent.enc A1 r1 (applyU u).1.ents, rowOf 122 3 Dot.enc A2 r2 (applyU u).1.ctx.marks, rowOf 58 3 Dot.enc A3 r3 (applyU u).1.ctx.cloud] := by
  have hs := h
  have hrr := hr
  obtain ⟨A, cap, rfl, hl, hcap, hA⟩ := h
  obtain ⟨⟨A2, cap2, rfl, _⟩, ⟨A3, cap3, rfl, _⟩⟩ := hr
  by_cases hm : mayE u = 0
  rotate_left
  · have rw_m : decide (mayE u = 0) = false := decide_eq_false hm
    have e : applyU u = (Cart.zero, mayE u) := by unfold applyU; rw [if_neg hm]
    unfold Go.Fw.Rets
    refine enter1 func30 rfl ntmps30 rfl fun a S => wp_seq_k fun _ hK1 => wp_region_lit (st_m (op_box S (.t rfl) rfl fun g1 a w S => st_m (op_alloc S zeroValue39 (cs := _) rfl rfl fun g2 a w S => run S (.ac rfl <| .z) fun a w S => st_nil (then_normal (hK1 _ _ (wp_seq_k fun _ hK1 => sg S (.la gt60 1 rfl rfl rfl <| .xx (ys_call call85 (.cons (.t rfl) .nil) (fun hp w W => c85 _ _ _ _ _ (by exact .old W (by assumption)) (by exact .old W (by assumption)))) rfl <| .as rfl <| .z) fun a w S => sg S (.mv rfl <| .yy (ys_T (by omega) (ys_neq (.t rfl) Ev.c)) rfl <| .z) fun a w S => st_then S (.t rfl) (wp_seq_k fun _ hK2 => wp_region_lit (run S (.yy (ys_bld (ps := []) (us := [_, _, _]) bld39 .nil rfl) rfl <| .mv rfl <| .z) fun a w S => st_m (op_stW S sizeOf39 (.t rfl) (.t rfl) (k := 0) rfl rfl rfl (by simp [Value.oneCell']) fun a w S => run S (.as rfl <| .z) fun a w S => st_nil (then_normal (hK2 _ _ (wp_ret (then_ret (st_ret S (results2 S results30 (Rv.cell (k := 0) ⟨isAgg39, sizeOf39⟩ rfl rfl rfl) (Rv.tmp rfl)) ?_))))))))))))))
    rw [e]
    exact ⟨_, _, rfl, (((S.nil_ 58 3 Dot.enc none).nil_ 122 3 Dot.enc none).nil_ 71 6 Ent.enc none).wd.sub (by repeat (first | exact List.Sublist.refl _ | exact List.nil_sublist _ | refine .cons_cons _ ?_ | refine .cons _ ?_)), none, 0, none, 0, none, 0, rfl, rfl⟩
  have hu := mayE_ok hm
  have hlen := hu.seen.len
  have rw_m := hm
  unfold Go.Fw.Rets
  refine enter1 func30 rfl ntmps30 rfl fun a S => wp_seq_k fun _ hK1 => wp_region_lit (st_m (op_box S (.t rfl) rfl fun g1 a w S => st_m (op_alloc S zeroValue39 (cs := _) rfl rfl fun g2 a w S => run S (.ac rfl <| .z) fun a w S => st_nil (then_normal (hK1 _ _ (wp_seq_k fun _ hK1 => wp_seq_k fun _ hK2 => wp_region_lit (run S (.la gt60 1 rfl rfl rfl <| .xx (ys_call call85 (.cons (.t rfl) .nil) (fun hp w W => c85 _ _ _ _ _ (by exact .old W (by assumption)) (by exact .old W (by assumption)))) rfl <| .z) fun a w S => ?_)))))))
  rw [rw_m] at S
  refine run S (.as rfl <| .z) fun a w S => st_nil (then_normal (hK2 _ _ (sg S (.mv rfl <| .yy (ys_F (by omega) (ys_neq (.t rfl) Ev.c)) rfl <| .z) fun a w S => st_else S (.t rfl) (wp_skip (then_normal (hK1 _ _ (wp_seq_k fun _ hK1 => wp_region_lit (st_m (op_alloc S zeroValue39 (cs := _) rfl rfl fun g3 a w S => st_nil (then_normal (hK1 _ _ (wp_seq_k fun _ hK1 => sg S (.fa underlying60 sizeOf39 7 rfl rfl rfl <| .fa underlying39 sizeOf33 7 rfl rfl rfl <| .ld gt33 2 rfl rfl rfl <| .ln underlying33 rfl <| .mc rfl <| .z) fun a w S => wp_block ?_))))))))))))
  have en : (addL u.seen.ctx u.dot).2 ≠ 0 → applyU u = (Cart.zero, (addL u.seen.ctx u.dot).2) := fun h => by unfold applyU; rw [if_pos hm, if_neg h]
  have ey : (addL u.seen.ctx u.dot).2 = 0 → applyU u = sizedC ⟨applyE u, (addL u.seen.ctx u.dot).1⟩ := fun h => by unfold applyU; rw [if_pos hm, if_pos h]
  refine st_lpM (S.nil_ 71 6 Ent.enc none) [20] (X := Nat × Option Addr × Nat) (fun q => [(20, true, .int .i64 (q.1 : Int))])
    (fun q => [rowOf 71 6 Ent.enc q.2.1 q.2.2 (otherE u.item (u.seen.ents.take q.1)), .blk g3 (.cells #[.slice q.2.1 (otherE u.item (u.seen.ents.take q.1)).length q.2.2, .slice none 0 0, .slice none 0 0] 39), .blk g2 (.cells #[.slice none 0 0, .slice none 0 0, .slice none 0 0] 39), .blk g1 (.cells (Upd.enc u (.slice A u.seen.ents.length cap) (.slice A2 u.seen.ctx.marks.length cap2) (.slice A3 u.seen.ctx.cloud.length cap3)).toArray 60)])
    (fun q => q.1 ≤ u.seen.ents.length) (fun q => u.seen.ents.length - q.1) (0, none, 0) (Nat.zero_le _) ?_
  clear S
  rintro ⟨k, B, cB⟩ a w hk S
  dsimp only at hk S
  have hol := otherE_len u.item u.seen.ents k
  by_cases hlt : k < u.seen.ents.length
  · obtain ⟨g, o, x, rfl, hx, hd, hc⟩ := row_at hA hlt
    by_cases hi : x.item = u.item
    · have rw_i : decide (x.item ≠ u.item) = false := decide_eq_false fun h => h hi
      have hst := otherE_no hx hi
      refine sg S (.lt (by omega) rfl rfl <| .z) fun a w S => wp_seq_k fun _ hK2 => st_then S (.t rfl) (wp_skip (then_normal (hK2 _ _ (wp_seq_k fun _ hK2 => wp_block (wp_seq_k fun _ hK3 => wp_region_lit (run S (.ix underlying33 sizeOf71 (by omega) rfl rfl <| .yy (ys_ldOA ⟨isAgg71, sizeOf71⟩ (.t rfl) (vs := [_, _, _, _, _, _]) rfl (fun _ => hc)) rfl <| .z) fun a w S => st_m (op_alloc S zeroValue71 (cs := _) rfl rfl fun g4 a w S => st_m (op_stW S sizeOf71 (.t rfl) (.t rfl) (k := 0) rfl rfl rfl (by simp [Value.oneCell']) fun a w S => st_nil (then_normal (hK3 _ _ (wp_seq_k fun _ hK3 => wp_region_lit (run S (.fa underlying71 sizeOf9 0 rfl rfl rfl <| .ld gt9 0 rfl rfl rfl <| .fa underlying60 sizeOf9 4 rfl rfl rfl <| .ld gt9 4 rfl rfl rfl <| .yy (ys_neqStr (.t rfl) (.t rfl)) rfl <| .z) fun a w S => ?_))))))))))))
      rw [rw_i] at S
      refine st_nil (then_normal (hK3 _ _ (st_else S (.t rfl) (wp_skip (in_normal (then_normal (hK2 _ _ (wp_region_lit (run S (.ad (by unfold I64; omega) rfl <| .mv rfl <| .z) fun a w S => st_nil (then_normal ?_))))))))))
      exact ⟨(k + 1, B, cB), by dsimp only; omega, by dsimp only; omega, by dsimp only; rw [hst]; exact S.pk⟩
    · have rw_i : decide (x.item ≠ u.item) = true := decide_eq_true hi
      have hst := otherE_yes hx hi
      refine sg S (.lt (by omega) rfl rfl <| .z) fun a w S => wp_seq_k fun _ hK2 => st_then S (.t rfl) (wp_skip (then_normal (hK2 _ _ (wp_seq_k fun _ hK2 => wp_block (wp_seq_k fun _ hK3 => wp_region_lit (run S (.ix underlying33 sizeOf71 (by omega) rfl rfl <| .yy (ys_ldOA ⟨isAgg71, sizeOf71⟩ (.t rfl) (vs := [_, _, _, _, _, _]) rfl (fun _ => hc)) rfl <| .z) fun a w S => st_m (op_alloc S zeroValue71 (cs := _) rfl rfl fun g4 a w S => st_m (op_stW S sizeOf71 (.t rfl) (.t rfl) (k := 0) rfl rfl rfl (by simp [Value.oneCell']) fun a w S => st_nil (then_normal (hK3 _ _ (wp_seq_k fun _ hK3 => wp_region_lit (run S (.fa underlying71 sizeOf9 0 rfl rfl rfl <| .ld gt9 0 rfl rfl rfl <| .fa underlying60 sizeOf9 4 rfl rfl rfl <| .ld gt9 4 rfl rfl rfl <| .yy (ys_neqStr (.t rfl) (.t rfl)) rfl <| .z) fun a w S => ?_))))))))))))
      rw [rw_i] at S
      refine st_nil (then_normal (hK3 _ _ (st_then S (.t rfl) (wp_region_lit (run S (.fa underlying39 sizeOf33 0 rfl rfl rfl <| .ld gt33 2 rfl rfl rfl <| .la gt71 0 rfl rfl rfl <| .z) fun a w S => st_m (op_bslice1 S underlying33 inf71 rfl rfl rfl (.t rfl) rfl rfl rfl fun g5 a w S => st_m (op_push S underlying33 inf71 rfl (k := 2) (j := 0) rfl (.t rfl) (.t rfl) rfl rfl rfl rfl (by first | omega | (simp only [List.length_append, List.length_cons, List.length_nil]; omega)) rfl rfl rfl fun A1 cap1 a w S => run S (.fa underlying39 sizeOf33 0 rfl rfl rfl <| .z) fun a w S => st_m (op_st S sizeOf33 (.t rfl) (.t rfl) (k := 3) rfl rfl (by simp) fun a w S => st_nil (in_normal (then_normal (hK2 _ _ (wp_region_lit (run S (.ad (by unfold I64; omega) rfl <| .mv rfl <| .z) fun a w S => st_nil (then_normal ?_))))))))))))))
      exact ⟨(k + 1, A1, cap1), by dsimp only; omega, by dsimp only; omega, by dsimp only; rw [hst]; exact S.pk⟩
  · obtain rfl : k = u.seen.ents.length := by omega
    rw [List.take_length] at S hol
    have hal := applyE_len hu
    by_cases hq : 0 < u.qty
    · have rw_q : decide (0 < u.qty) = true := decide_eq_true hq
      have rw_ue : #[Value.string (bs u.item), Value.int .i64 u.dot.node, Value.int .i64 u.dot.life, Value.int .i64 u.dot.count, Value.int .i64 u.qty, Value.int .u64 (u.price.toNat : Int)] = (Ent.enc u.ent).toArray := rfl
      have rw_hae : insE u.ent (otherE u.item u.seen.ents) = applyE u := by unfold applyE; rw [if_pos hq]
      by_cases hd : (addL u.seen.ctx u.dot).2 = 0
      rotate_left
      · have rw_d : decide ((addL u.seen.ctx ⟨u.dot.node, u.dot.life, u.dot.count⟩).2 = 0) = false := decide_eq_false hd
        have e := en hd
        refine sg S (.ge (by omega) rfl rfl <| .z) fun a w S => wp_seq_k fun _ hK2 => st_else S (.t rfl) (wp_exit (then_exit (then_exit (in_here (then_normal (hK1 _ _ (wp_seq_k fun _ hK1 => sg S (.fa underlying60 sizeOf3 5 rfl rfl rfl <| .ld gt3 3 rfl rfl rfl <| .yy (ys_T (by omega) (ys_gtr (.t rfl) Ev.c)) rfl <| .z) fun a w S => st_then S (.t rfl) (wp_region_lit (run S (.fa underlying39 sizeOf33 0 rfl rfl rfl <| .ld gt33 1 rfl rfl rfl <| .fa underlying60 sizeOf9 4 rfl rfl rfl <| .ld gt9 3 rfl rfl rfl <| .fa underlying60 sizeOf58 1 rfl rfl rfl <| .la gt58 3 rfl rfl rfl <| .fa underlying60 sizeOf3 5 rfl rfl rfl <| .ld gt3 3 rfl rfl rfl <| .fa underlying60 sizeOf27 6 rfl rfl rfl <| .ld gt27 3 rfl rfl rfl <| .yy (ys_bld (ps := [(0, Go.Operand.tmp 42), (1, Go.Operand.tmp 44), (2, Go.Operand.tmp 46), (3, Go.Operand.tmp 48)]) (us := [_, _, _, _, _, _]) bld71 (.cons (.t rfl) (.cons (.t rfl) (.cons (.t rfl) (.cons (.t rfl) .nil)))) rfl) rfl <| .z) fun a w S => ?_)))))))))
        rw [rw_ue] at S
        (refine st_m (op_calls S call86 (.cons (.t rfl) (.cons (.t rfl) .nil)) (c86 _ _ _ _ (by exact Sl.of_own S.wd (k := 0) rfl (fun _ => rfl)) (by omega)) rfl ?_); clear S a w; rintro _ _ ⟨A11, r11, rfl, rfl⟩ a w S)
        rw [rw_ue] at S
        rw [rw_hae] at S
        refine run S (.fa underlying39 sizeOf33 0 rfl rfl rfl <| .z) fun a w S => ?_
        rw [rw_ue] at S
        refine st_m (op_st S sizeOf33 (.t rfl) (.t rfl) (k := 2) rfl rfl (by simp) fun a w S => ?_)
        rw [rw_ue] at S
        refine st_nil ?_
        rw [rw_ue] at S
        refine then_normal (hK1 _ _ ?_)
        rw [rw_ue] at S
        refine wp_seq_k fun _ hK1 => ?_
        rw [rw_ue] at S
        refine wp_region_lit ?_
        rw [rw_ue] at S
        refine run S (.fa underlying60 sizeOf39 7 rfl rfl rfl <| .z) fun a w S => ?_
        rw [rw_ue] at S
        refine run S (.fa underlying39 sizeOf37 8 rfl rfl rfl <| .z) fun a w S => ?_
        rw [rw_ue] at S
        refine run S (.la gt37 4 rfl rfl rfl <| .z) fun a w S => ?_
        rw [rw_ue] at S
        refine run S (.fa underlying60 sizeOf58 1 rfl rfl rfl <| .z) fun a w S => ?_
        rw [rw_ue] at S
        refine run S (.la gt58 4 rfl rfl rfl <| .z) fun a w S => ?_
        rw [rw_ue] at S
        (refine st_m (op_calls S call87 (.cons (.t rfl) (.cons (.t rfl) .nil)) (c87 _ _ _ _ _ _ _ (by exact .old S.wd (by assumption))) rfl ?_); clear S a w; rintro _ _ ⟨A12, r12, A21, r21, rfl, rfl⟩ a w S)
        rw [rw_ue] at S
        refine run S (.mv rfl <| .z) fun a w S => ?_
        rw [rw_ue] at S
        refine run S (.ex rfl rfl <| .z) fun a w S => ?_
        rw [rw_ue] at S
        refine run S (.ex rfl rfl <| .z) fun a w S => ?_
        rw [rw_ue] at S
        refine st_m (op_alloc S zeroValue37 (cs := _) rfl rfl fun g4 a w S => ?_)
        rw [rw_ue] at S
        refine st_m (op_stW S sizeOf37 (.t rfl) (.t rfl) (k := 0) rfl rfl rfl (by simp [Value.oneCell']) fun a w S => ?_)
        rw [rw_ue] at S
        refine run S (.as rfl <| .z) fun a w S => ?_
        rw [rw_ue] at S
        refine st_nil ?_
        rw [rw_ue] at S
        refine then_normal (hK1 _ _ ?_)
        rw [rw_ue] at S
        refine wp_seq_k fun _ hK1 => ?_
        rw [rw_ue] at S
        refine wp_seq_k fun _ hK3 => ?_
        rw [rw_ue] at S
        refine wp_region_lit ?_
        rw [rw_ue] at S
        refine run S (.mv rfl <| .z) fun a w S => ?_
        rw [rw_ue] at S
        refine run S (.yy (ys_T (by omega) (ys_neq (.t rfl) Ev.c)) rfl <| .z) fun a w S => ?_
        rw [rw_ue] at S
        refine st_nil ?_
        rw [rw_ue] at S
        refine then_normal (hK3 _ _ ?_)
        rw [rw_ue] at S
        refine st_then S (.t rfl) ?_
        rw [rw_ue] at S
        refine wp_seq_k fun _ hK3 => ?_
        rw [rw_ue] at S
        refine wp_region_lit ?_
        rw [rw_ue] at S
        refine run S (.yy (ys_bld (ps := []) (us := [_, _, _]) bld39 .nil rfl) rfl <| .z) fun a w S => ?_
        rw [rw_ue] at S
        refine run S (.mv rfl <| .z) fun a w S => ?_
        rw [rw_ue] at S
        refine st_m (op_stW S sizeOf39 (.t rfl) (.t rfl) (k := 6) rfl rfl rfl (by simp [Value.oneCell']) fun a w S => ?_)
        rw [rw_ue] at S
        refine run S (.as rfl <| .z) fun a w S => ?_
        rw [rw_ue] at S
        refine st_nil ?_
        rw [rw_ue] at S
        refine then_normal (hK3 _ _ ?_)
        rw [rw_ue] at S
        refine wp_ret ?_
        rw [rw_ue] at S
        refine then_ret ?_
        rw [rw_ue] at S
        refine st_ret S (results2 S results30 (Rv.cell (k := 6) ⟨isAgg39, sizeOf39⟩ rfl rfl rfl) (Rv.tmp rfl)) ?_
        rw [rw_ue] at S
        rw [e]
        exact ⟨_, _, rfl, (((S.nil_ 58 3 Dot.enc none).nil_ 122 3 Dot.enc none).nil_ 71 6 Ent.enc none).wd.sub (by repeat (first | exact List.Sublist.refl _ | exact List.nil_sublist _ | refine .cons_cons _ ?_ | refine .cons _ ?_)), none, 0, none, 0, none, 0, rfl, rfl⟩
      have rw_d : (addL u.seen.ctx ⟨u.dot.node, u.dot.life, u.dot.count⟩).2 = 0 := hd
      by_cases hbig : 64 < (applyE u).length ∨ 32 < itemsN (applyE u)
      · have rw_b : ∀ x y : Value, (if 64 < (applyE u).length ∨ 32 < itemsN (applyE u) then x else y) = x := fun _ _ => if_pos hbig
        have e : applyU u = (Cart.zero, 51) := by rw [ey hd]; unfold sizedC; exact if_pos hbig
        refine sg S (.ge (by omega) rfl rfl <| .z) fun a w S => wp_seq_k fun _ hK2 => st_else S (.t rfl) (wp_exit (then_exit (then_exit (in_here (then_normal (hK1 _ _ (wp_seq_k fun _ hK1 => sg S (.fa underlying60 sizeOf3 5 rfl rfl rfl <| .ld gt3 3 rfl rfl rfl <| .yy (ys_T (by omega) (ys_gtr (.t rfl) Ev.c)) rfl <| .z) fun a w S => st_then S (.t rfl) (wp_region_lit (run S (.fa underlying39 sizeOf33 0 rfl rfl rfl <| .ld gt33 1 rfl rfl rfl <| .fa underlying60 sizeOf9 4 rfl rfl rfl <| .ld gt9 3 rfl rfl rfl <| .fa underlying60 sizeOf58 1 rfl rfl rfl <| .la gt58 3 rfl rfl rfl <| .fa underlying60 sizeOf3 5 rfl rfl rfl <| .ld gt3 3 rfl rfl rfl <| .fa underlying60 sizeOf27 6 rfl rfl rfl <| .ld gt27 3 rfl rfl rfl <| .yy (ys_bld (ps := [(0, Go.Operand.tmp 42), (1, Go.Operand.tmp 44), (2, Go.Operand.tmp 46), (3, Go.Operand.tmp 48)]) (us := [_, _, _, _, _, _]) bld71 (.cons (.t rfl) (.cons (.t rfl) (.cons (.t rfl) (.cons (.t rfl) .nil)))) rfl) rfl <| .z) fun a w S => ?_)))))))))
        rw [rw_ue] at S
        (refine st_m (op_calls S call86 (.cons (.t rfl) (.cons (.t rfl) .nil)) (c86 _ _ _ _ (by exact Sl.of_own S.wd (k := 0) rfl (fun _ => rfl)) (by omega)) rfl ?_); clear S a w; rintro _ _ ⟨A11, r11, rfl, rfl⟩ a w S)
        rw [rw_ue] at S
        rw [rw_hae] at S
        refine run S (.fa underlying39 sizeOf33 0 rfl rfl rfl <| .z) fun a w S => ?_
        rw [rw_ue] at S
        refine st_m (op_st S sizeOf33 (.t rfl) (.t rfl) (k := 2) rfl rfl (by simp) fun a w S => ?_)
        rw [rw_ue] at S
        refine st_nil ?_
        rw [rw_ue] at S
        refine then_normal (hK1 _ _ ?_)
        rw [rw_ue] at S
        refine wp_seq_k fun _ hK1 => ?_
        rw [rw_ue] at S
        refine wp_region_lit ?_
        rw [rw_ue] at S
        refine run S (.fa underlying60 sizeOf39 7 rfl rfl rfl <| .z) fun a w S => ?_
        rw [rw_ue] at S
        refine run S (.fa underlying39 sizeOf37 8 rfl rfl rfl <| .z) fun a w S => ?_
        rw [rw_ue] at S
        refine run S (.la gt37 4 rfl rfl rfl <| .z) fun a w S => ?_
        rw [rw_ue] at S
        refine run S (.fa underlying60 sizeOf58 1 rfl rfl rfl <| .z) fun a w S => ?_
        rw [rw_ue] at S
        refine run S (.la gt58 4 rfl rfl rfl <| .z) fun a w S => ?_
        rw [rw_ue] at S
        (refine st_m (op_calls S call87 (.cons (.t rfl) (.cons (.t rfl) .nil)) (c87 _ _ _ _ _ _ _ (by exact .old S.wd (by assumption))) rfl ?_); clear S a w; rintro _ _ ⟨A12, r12, A21, r21, rfl, rfl⟩ a w S)
        rw [rw_ue] at S
        rw [rw_d] at S
        refine run S (.mv rfl <| .z) fun a w S => ?_
        rw [rw_ue] at S
        refine run S (.ex rfl rfl <| .z) fun a w S => ?_
        rw [rw_ue] at S
        refine run S (.ex rfl rfl <| .z) fun a w S => ?_
        rw [rw_ue] at S
        refine st_m (op_alloc S zeroValue37 (cs := _) rfl rfl fun g4 a w S => ?_)
        rw [rw_ue] at S
        refine st_m (op_stW S sizeOf37 (.t rfl) (.t rfl) (k := 0) rfl rfl rfl (by simp [Value.oneCell']) fun a w S => ?_)
        rw [rw_ue] at S
        refine run S (.as rfl <| .z) fun a w S => ?_
        rw [rw_ue] at S
        refine st_nil ?_
        rw [rw_ue] at S
        refine then_normal (hK1 _ _ ?_)
        rw [rw_ue] at S
        refine wp_seq_k fun _ hK1 => ?_
        rw [rw_ue] at S
        refine wp_seq_k fun _ hK3 => ?_
        rw [rw_ue] at S
        refine wp_region_lit ?_
        rw [rw_ue] at S
        refine run S (.mv rfl <| .z) fun a w S => ?_
        rw [rw_ue] at S
        refine run S (.yy (ys_F (by omega) (ys_neq (.t rfl) Ev.c)) rfl <| .z) fun a w S => ?_
        rw [rw_ue] at S
        refine st_nil ?_
        rw [rw_ue] at S
        refine then_normal (hK3 _ _ ?_)
        rw [rw_ue] at S
        refine st_else S (.t rfl) ?_
        rw [rw_ue] at S
        refine wp_skip ?_
        rw [rw_ue] at S
        refine then_normal (hK1 _ _ ?_)
        rw [rw_ue] at S
        refine wp_seq_k fun _ hK1 => ?_
        rw [rw_ue] at S
        refine wp_region_lit ?_
        rw [rw_ue] at S
        refine run S (.la gt37 0 rfl rfl rfl <| .z) fun a w S => ?_
        rw [rw_ue] at S
        refine run S (.fa underlying39 sizeOf37 1 rfl rfl rfl <| .z) fun a w S => ?_
        rw [rw_ue] at S
        refine st_m (op_stA S sizeOf37 (.t rfl) (.t rfl) (k := 5) rfl rfl (by simp [Value.oneCell']) (by simp) fun a w S => ?_)
        rw [rw_ue] at S
        refine st_nil ?_
        rw [rw_ue] at S
        refine then_normal (hK1 _ _ ?_)
        rw [rw_ue] at S
        refine wp_seq_k fun _ hK1 => ?_
        rw [rw_ue] at S
        refine wp_region_lit ?_
        rw [rw_ue] at S
        refine run S (.la gt39 5 rfl rfl rfl <| .z) fun a w S => ?_
        rw [rw_ue] at S
        refine run S (.xx (ys_call call88 (.cons (.t rfl) .nil) (fun hp w W => c88 _ _ _ _ _ _ _ _ _ (by exact Sl.of_own W (k := 3) rfl (fun _ => rfl)) (by omega))) rfl <| .z) fun a w S => ?_
        rw [rw_ue] at S
        rw [rw_b] at S
        refine run S (.ex rfl rfl <| .z) fun a w S => ?_
        rw [rw_ue] at S
        refine run S (.ex rfl rfl <| .z) fun a w S => ?_
        rw [rw_ue] at S
        refine st_m (op_stW S sizeOf39 (.t rfl) (.t rfl) (k := 6) rfl rfl rfl (by simp [Value.oneCell']) fun a w S => ?_)
        rw [rw_ue] at S
        refine run S (.as rfl <| .z) fun a w S => ?_
        rw [rw_ue] at S
        refine st_nil ?_
        rw [rw_ue] at S
        refine then_normal (hK1 _ _ ?_)
        rw [rw_ue] at S
        refine wp_ret ?_
        rw [rw_ue] at S
        refine st_ret S (results2 S results30 (Rv.cell (k := 6) ⟨isAgg39, sizeOf39⟩ rfl rfl rfl) (Rv.tmp rfl)) ?_
        rw [rw_ue] at S
        rw [e]
        exact ⟨_, _, rfl, (((S.nil_ 58 3 Dot.enc none).nil_ 122 3 Dot.enc none).nil_ 71 6 Ent.enc none).wd.sub (by repeat (first | exact List.Sublist.refl _ | exact List.nil_sublist _ | refine .cons_cons _ ?_ | refine .cons _ ?_)), none, 0, none, 0, none, 0, rfl, rfl⟩
      · have rw_b : ∀ x y : Value, (if 64 < (applyE u).length ∨ 32 < itemsN (applyE u) then x else y) = y := fun _ _ => if_neg hbig
        have e : applyU u = (⟨applyE u, (addL u.seen.ctx u.dot).1⟩, 0) := by rw [ey hd]; unfold sizedC; exact if_neg hbig
        refine sg S (.ge (by omega) rfl rfl <| .z) fun a w S => wp_seq_k fun _ hK2 => st_else S (.t rfl) (wp_exit (then_exit (then_exit (in_here (then_normal (hK1 _ _ (wp_seq_k fun _ hK1 => sg S (.fa underlying60 sizeOf3 5 rfl rfl rfl <| .ld gt3 3 rfl rfl rfl <| .yy (ys_T (by omega) (ys_gtr (.t rfl) Ev.c)) rfl <| .z) fun a w S => st_then S (.t rfl) (wp_region_lit (run S (.fa underlying39 sizeOf33 0 rfl rfl rfl <| .ld gt33 1 rfl rfl rfl <| .fa underlying60 sizeOf9 4 rfl rfl rfl <| .ld gt9 3 rfl rfl rfl <| .fa underlying60 sizeOf58 1 rfl rfl rfl <| .la gt58 3 rfl rfl rfl <| .fa underlying60 sizeOf3 5 rfl rfl rfl <| .ld gt3 3 rfl rfl rfl <| .fa underlying60 sizeOf27 6 rfl rfl rfl <| .ld gt27 3 rfl rfl rfl <| .yy (ys_bld (ps := [(0, Go.Operand.tmp 42), (1, Go.Operand.tmp 44), (2, Go.Operand.tmp 46), (3, Go.Operand.tmp 48)]) (us := [_, _, _, _, _, _]) bld71 (.cons (.t rfl) (.cons (.t rfl) (.cons (.t rfl) (.cons (.t rfl) .nil)))) rfl) rfl <| .z) fun a w S => ?_)))))))))
        rw [rw_ue] at S
        (refine st_m (op_calls S call86 (.cons (.t rfl) (.cons (.t rfl) .nil)) (c86 _ _ _ _ (by exact Sl.of_own S.wd (k := 0) rfl (fun _ => rfl)) (by omega)) rfl ?_); clear S a w; rintro _ _ ⟨A11, r11, rfl, rfl⟩ a w S)
        rw [rw_ue] at S
        rw [rw_hae] at S
        refine run S (.fa underlying39 sizeOf33 0 rfl rfl rfl <| .z) fun a w S => ?_
        rw [rw_ue] at S
        refine st_m (op_st S sizeOf33 (.t rfl) (.t rfl) (k := 2) rfl rfl (by simp) fun a w S => ?_)
        rw [rw_ue] at S
        refine st_nil ?_
        rw [rw_ue] at S
        refine then_normal (hK1 _ _ ?_)
        rw [rw_ue] at S
        refine wp_seq_k fun _ hK1 => ?_
        rw [rw_ue] at S
        refine wp_region_lit ?_
        rw [rw_ue] at S
        refine run S (.fa underlying60 sizeOf39 7 rfl rfl rfl <| .z) fun a w S => ?_
        rw [rw_ue] at S
        refine run S (.fa underlying39 sizeOf37 8 rfl rfl rfl <| .z) fun a w S => ?_
        rw [rw_ue] at S
        refine run S (.la gt37 4 rfl rfl rfl <| .z) fun a w S => ?_
        rw [rw_ue] at S
        refine run S (.fa underlying60 sizeOf58 1 rfl rfl rfl <| .z) fun a w S => ?_
        rw [rw_ue] at S
        refine run S (.la gt58 4 rfl rfl rfl <| .z) fun a w S => ?_
        rw [rw_ue] at S
        (refine st_m (op_calls S call87 (.cons (.t rfl) (.cons (.t rfl) .nil)) (c87 _ _ _ _ _ _ _ (by exact .old S.wd (by assumption))) rfl ?_); clear S a w; rintro _ _ ⟨A12, r12, A21, r21, rfl, rfl⟩ a w S)
        rw [rw_ue] at S
        rw [rw_d] at S
        refine run S (.mv rfl <| .z) fun a w S => ?_
        rw [rw_ue] at S
        refine run S (.ex rfl rfl <| .z) fun a w S => ?_
        rw [rw_ue] at S
        refine run S (.ex rfl rfl <| .z) fun a w S => ?_
        rw [rw_ue] at S
        refine st_m (op_alloc S zeroValue37 (cs := _) rfl rfl fun g4 a w S => ?_)
        rw [rw_ue] at S
        refine st_m (op_stW S sizeOf37 (.t rfl) (.t rfl) (k := 0) rfl rfl rfl (by simp [Value.oneCell']) fun a w S => ?_)
        rw [rw_ue] at S
        refine run S (.as rfl <| .z) fun a w S => ?_
        rw [rw_ue] at S
        refine st_nil ?_
        rw [rw_ue] at S
        refine then_normal (hK1 _ _ ?_)
        rw [rw_ue] at S
        refine wp_seq_k fun _ hK1 => ?_
        rw [rw_ue] at S
        refine wp_seq_k fun _ hK3 => ?_
        rw [rw_ue] at S
        refine wp_region_lit ?_
        rw [rw_ue] at S
        refine run S (.mv rfl <| .z) fun a w S => ?_
        rw [rw_ue] at S
        refine run S (.yy (ys_F (by omega) (ys_neq (.t rfl) Ev.c)) rfl <| .z) fun a w S => ?_
        rw [rw_ue] at S
        refine st_nil ?_
        rw [rw_ue] at S
        refine then_normal (hK3 _ _ ?_)
        rw [rw_ue] at S
        refine st_else S (.t rfl) ?_
        rw [rw_ue] at S
        refine wp_skip ?_
        rw [rw_ue] at S
        refine then_normal (hK1 _ _ ?_)
        rw [rw_ue] at S
        refine wp_seq_k fun _ hK1 => ?_
        rw [rw_ue] at S
        refine wp_region_lit ?_
        rw [rw_ue] at S
        refine run S (.la gt37 0 rfl rfl rfl <| .z) fun a w S => ?_
        rw [rw_ue] at S
        refine run S (.fa underlying39 sizeOf37 1 rfl rfl rfl <| .z) fun a w S => ?_
        rw [rw_ue] at S
        refine st_m (op_stA S sizeOf37 (.t rfl) (.t rfl) (k := 5) rfl rfl (by simp [Value.oneCell']) (by simp) fun a w S => ?_)
        rw [rw_ue] at S
        refine st_nil ?_
        rw [rw_ue] at S
        refine then_normal (hK1 _ _ ?_)
        rw [rw_ue] at S
        refine wp_seq_k fun _ hK1 => ?_
        rw [rw_ue] at S
        refine wp_region_lit ?_
        rw [rw_ue] at S
        refine run S (.la gt39 5 rfl rfl rfl <| .z) fun a w S => ?_
        rw [rw_ue] at S
        refine run S (.xx (ys_call call88 (.cons (.t rfl) .nil) (fun hp w W => c88 _ _ _ _ _ _ _ _ _ (by exact Sl.of_own W (k := 3) rfl (fun _ => rfl)) (by omega))) rfl <| .z) fun a w S => ?_
        rw [rw_ue] at S
        rw [rw_b] at S
        refine run S (.ex rfl rfl <| .z) fun a w S => ?_
        rw [rw_ue] at S
        refine run S (.ex rfl rfl <| .z) fun a w S => ?_
        rw [rw_ue] at S
        refine st_m (op_stW S sizeOf39 (.t rfl) (.t rfl) (k := 6) rfl rfl rfl (by simp [Value.oneCell']) fun a w S => ?_)
        rw [rw_ue] at S
        refine run S (.as rfl <| .z) fun a w S => ?_
        rw [rw_ue] at S
        refine st_nil ?_
        rw [rw_ue] at S
        refine then_normal (hK1 _ _ ?_)
        rw [rw_ue] at S
        refine wp_ret ?_
        rw [rw_ue] at S
        refine st_ret S (results2 S results30 (Rv.cell (k := 6) ⟨isAgg39, sizeOf39⟩ rfl rfl rfl) (Rv.tmp rfl)) ?_
        rw [rw_ue] at S
        rw [e]
        exact ⟨_, _, rfl, S.wd.pk, _, _, _, _, _, _, rfl, rfl⟩
    · have rw_q : decide (0 < u.qty) = false := decide_eq_false hq
      have hae : otherE u.item u.seen.ents = applyE u := by unfold applyE; rw [if_neg hq]
      rw [hae] at S
      by_cases hd : (addL u.seen.ctx u.dot).2 = 0
      rotate_left
      · have rw_d : decide ((addL u.seen.ctx ⟨u.dot.node, u.dot.life, u.dot.count⟩).2 = 0) = false := decide_eq_false hd
        have e := en hd
        refine sg S (.ge (by omega) rfl rfl <| .z) fun a w S => wp_seq_k fun _ hK2 => st_else S (.t rfl) (wp_exit (then_exit (then_exit (in_here (then_normal (hK1 _ _ (wp_seq_k fun _ hK1 => sg S (.fa underlying60 sizeOf3 5 rfl rfl rfl <| .ld gt3 3 rfl rfl rfl <| .yy (ys_F (by omega) (ys_gtr (.t rfl) Ev.c)) rfl <| .z) fun a w S => st_else S (.t rfl) (wp_skip (then_normal (hK1 _ _ (wp_seq_k fun _ hK1 => wp_region_lit (run S (.fa underlying60 sizeOf39 7 rfl rfl rfl <| .fa underlying39 sizeOf37 8 rfl rfl rfl <| .la gt37 3 rfl rfl rfl <| .fa underlying60 sizeOf58 1 rfl rfl rfl <| .la gt58 3 rfl rfl rfl <| .z) fun a w S => ?_))))))))))))
        (refine st_m (op_calls S call87 (.cons (.t rfl) (.cons (.t rfl) .nil)) (c87 _ _ _ _ _ _ _ (by exact .old S.wd (by assumption))) rfl ?_); clear S a w; rintro _ _ ⟨A11, r11, A21, r21, rfl, rfl⟩ a w S)
        refine run S (.mv rfl <| .ex rfl rfl <| .ex rfl rfl <| .z) fun a w S => st_m (op_alloc S zeroValue37 (cs := _) rfl rfl fun g4 a w S => st_m (op_stW S sizeOf37 (.t rfl) (.t rfl) (k := 0) rfl rfl rfl (by simp [Value.oneCell']) fun a w S => run S (.as rfl <| .z) fun a w S => st_nil (then_normal (hK1 _ _ (wp_seq_k fun _ hK1 => sg S (.mv rfl <| .yy (ys_T (by omega) (ys_neq (.t rfl) Ev.c)) rfl <| .z) fun a w S => st_then S (.t rfl) (wp_seq_k fun _ hK3 => wp_region_lit (run S (.yy (ys_bld (ps := []) (us := [_, _, _]) bld39 .nil rfl) rfl <| .mv rfl <| .z) fun a w S => st_m (op_stW S sizeOf39 (.t rfl) (.t rfl) (k := 5) rfl rfl rfl (by simp [Value.oneCell']) fun a w S => run S (.as rfl <| .z) fun a w S => st_nil (then_normal (hK3 _ _ (wp_ret (then_ret (st_ret S (results2 S results30 (Rv.cell (k := 5) ⟨isAgg39, sizeOf39⟩ rfl rfl rfl) (Rv.tmp rfl)) ?_)))))))))))))
        rw [e]
        exact ⟨_, _, rfl, (((S.nil_ 58 3 Dot.enc none).nil_ 122 3 Dot.enc none).nil_ 71 6 Ent.enc none).wd.sub (by repeat (first | exact List.Sublist.refl _ | exact List.nil_sublist _ | refine .cons_cons _ ?_ | refine .cons _ ?_)), none, 0, none, 0, none, 0, rfl, rfl⟩
      have rw_d : (addL u.seen.ctx ⟨u.dot.node, u.dot.life, u.dot.count⟩).2 = 0 := hd
      by_cases hbig : 64 < (applyE u).length ∨ 32 < itemsN (applyE u)
      · have rw_b : ∀ x y : Value, (if 64 < (applyE u).length ∨ 32 < itemsN (applyE u) then x else y) = x := fun _ _ => if_pos hbig
        have e : applyU u = (Cart.zero, 51) := by rw [ey hd]; unfold sizedC; exact if_pos hbig
        refine sg S (.ge (by omega) rfl rfl <| .z) fun a w S => wp_seq_k fun _ hK2 => st_else S (.t rfl) (wp_exit (then_exit (then_exit (in_here (then_normal (hK1 _ _ (wp_seq_k fun _ hK1 => sg S (.fa underlying60 sizeOf3 5 rfl rfl rfl <| .ld gt3 3 rfl rfl rfl <| .yy (ys_F (by omega) (ys_gtr (.t rfl) Ev.c)) rfl <| .z) fun a w S => st_else S (.t rfl) (wp_skip (then_normal (hK1 _ _ (wp_seq_k fun _ hK1 => wp_region_lit (run S (.fa underlying60 sizeOf39 7 rfl rfl rfl <| .fa underlying39 sizeOf37 8 rfl rfl rfl <| .la gt37 3 rfl rfl rfl <| .fa underlying60 sizeOf58 1 rfl rfl rfl <| .la gt58 3 rfl rfl rfl <| .z) fun a w S => ?_))))))))))))
        (refine st_m (op_calls S call87 (.cons (.t rfl) (.cons (.t rfl) .nil)) (c87 _ _ _ _ _ _ _ (by exact .old S.wd (by assumption))) rfl ?_); clear S a w; rintro _ _ ⟨A11, r11, A21, r21, rfl, rfl⟩ a w S)
        rw [rw_d] at S
        refine run S (.mv rfl <| .ex rfl rfl <| .ex rfl rfl <| .z) fun a w S => st_m (op_alloc S zeroValue37 (cs := _) rfl rfl fun g4 a w S => st_m (op_stW S sizeOf37 (.t rfl) (.t rfl) (k := 0) rfl rfl rfl (by simp [Value.oneCell']) fun a w S => run S (.as rfl <| .z) fun a w S => st_nil (then_normal (hK1 _ _ (wp_seq_k fun _ hK1 => sg S (.mv rfl <| .yy (ys_F (by omega) (ys_neq (.t rfl) Ev.c)) rfl <| .z) fun a w S => st_else S (.t rfl) (wp_skip (then_normal (hK1 _ _ (wp_seq_k fun _ hK1 => wp_region_lit (run S (.la gt37 0 rfl rfl rfl <| .fa underlying39 sizeOf37 1 rfl rfl rfl <| .z) fun a w S => st_m (op_stA S sizeOf37 (.t rfl) (.t rfl) (k := 4) rfl rfl (by simp [Value.oneCell']) (by simp) fun a w S => st_nil (then_normal (hK1 _ _ (wp_seq_k fun _ hK1 => wp_region_lit (run S (.la gt39 4 rfl rfl rfl <| .xx (ys_call call88 (.cons (.t rfl) .nil) (fun hp w W => c88 _ _ _ _ _ _ _ _ _ (by exact Sl.of_own W (k := 3) rfl (fun _ => rfl)) (by omega))) rfl <| .z) fun a w S => ?_)))))))))))))))
        rw [rw_b] at S
        refine run S (.ex rfl rfl <| .ex rfl rfl <| .z) fun a w S => st_m (op_stW S sizeOf39 (.t rfl) (.t rfl) (k := 5) rfl rfl rfl (by simp [Value.oneCell']) fun a w S => run S (.as rfl <| .z) fun a w S => st_nil (then_normal (hK1 _ _ (wp_ret (st_ret S (results2 S results30 (Rv.cell (k := 5) ⟨isAgg39, sizeOf39⟩ rfl rfl rfl) (Rv.tmp rfl)) ?_)))))
        rw [e]
        exact ⟨_, _, rfl, (((S.nil_ 58 3 Dot.enc none).nil_ 122 3 Dot.enc none).nil_ 71 6 Ent.enc none).wd.sub (by repeat (first | exact List.Sublist.refl _ | exact List.nil_sublist _ | refine .cons_cons _ ?_ | refine .cons _ ?_)), none, 0, none, 0, none, 0, rfl, rfl⟩
      · have rw_b : ∀ x y : Value, (if 64 < (applyE u).length ∨ 32 < itemsN (applyE u) then x else y) = y := fun _ _ => if_neg hbig
        have e : applyU u = (⟨applyE u, (addL u.seen.ctx u.dot).1⟩, 0) := by rw [ey hd]; unfold sizedC; exact if_neg hbig
        refine sg S (.ge (by omega) rfl rfl <| .z) fun a w S => wp_seq_k fun _ hK2 => st_else S (.t rfl) (wp_exit (then_exit (then_exit (in_here (then_normal (hK1 _ _ (wp_seq_k fun _ hK1 => sg S (.fa underlying60 sizeOf3 5 rfl rfl rfl <| .ld gt3 3 rfl rfl rfl <| .yy (ys_F (by omega) (ys_gtr (.t rfl) Ev.c)) rfl <| .z) fun a w S => st_else S (.t rfl) (wp_skip (then_normal (hK1 _ _ (wp_seq_k fun _ hK1 => wp_region_lit (run S (.fa underlying60 sizeOf39 7 rfl rfl rfl <| .fa underlying39 sizeOf37 8 rfl rfl rfl <| .la gt37 3 rfl rfl rfl <| .fa underlying60 sizeOf58 1 rfl rfl rfl <| .la gt58 3 rfl rfl rfl <| .z) fun a w S => ?_))))))))))))
        (refine st_m (op_calls S call87 (.cons (.t rfl) (.cons (.t rfl) .nil)) (c87 _ _ _ _ _ _ _ (by exact .old S.wd (by assumption))) rfl ?_); clear S a w; rintro _ _ ⟨A11, r11, A21, r21, rfl, rfl⟩ a w S)
        rw [rw_d] at S
        refine run S (.mv rfl <| .ex rfl rfl <| .ex rfl rfl <| .z) fun a w S => st_m (op_alloc S zeroValue37 (cs := _) rfl rfl fun g4 a w S => st_m (op_stW S sizeOf37 (.t rfl) (.t rfl) (k := 0) rfl rfl rfl (by simp [Value.oneCell']) fun a w S => run S (.as rfl <| .z) fun a w S => st_nil (then_normal (hK1 _ _ (wp_seq_k fun _ hK1 => sg S (.mv rfl <| .yy (ys_F (by omega) (ys_neq (.t rfl) Ev.c)) rfl <| .z) fun a w S => st_else S (.t rfl) (wp_skip (then_normal (hK1 _ _ (wp_seq_k fun _ hK1 => wp_region_lit (run S (.la gt37 0 rfl rfl rfl <| .fa underlying39 sizeOf37 1 rfl rfl rfl <| .z) fun a w S => st_m (op_stA S sizeOf37 (.t rfl) (.t rfl) (k := 4) rfl rfl (by simp [Value.oneCell']) (by simp) fun a w S => st_nil (then_normal (hK1 _ _ (wp_seq_k fun _ hK1 => wp_region_lit (run S (.la gt39 4 rfl rfl rfl <| .xx (ys_call call88 (.cons (.t rfl) .nil) (fun hp w W => c88 _ _ _ _ _ _ _ _ _ (by exact Sl.of_own W (k := 3) rfl (fun _ => rfl)) (by omega))) rfl <| .z) fun a w S => ?_)))))))))))))))
        rw [rw_b] at S
        refine run S (.ex rfl rfl <| .ex rfl rfl <| .z) fun a w S => st_m (op_stW S sizeOf39 (.t rfl) (.t rfl) (k := 5) rfl rfl rfl (by simp [Value.oneCell']) fun a w S => run S (.as rfl <| .z) fun a w S => st_nil (then_normal (hK1 _ _ (wp_ret (st_ret S (results2 S results30 (Rv.cell (k := 5) ⟨isAgg39, sizeOf39⟩ rfl rfl rfl) (Rv.tmp rfl)) ?_)))))
        rw [e]
        exact ⟨_, _, rfl, S.wd.pk, _, _, _, _, _, _, rfl, rfl⟩
end Go.Proofs.YtfblmkocmnbdcaaGreat
set_option linter.unusedVariables false
set_option linter.unusedSimpArgs false
set_option maxRecDepth 100000
set_option maxHeartbeats 4000000
namespace Go.Fw
theorem filter_yes {α : Type} {p : α → Bool} {l : List α} {k : Nat} {x : α} (h : l[k]? = some x) (hp : p x = true) : (l.take (k + 1)).filter p = (l.take k).filter p ++ [x] := by
  rw [List.take_add_one, h, Option.toList_some]
  simp [hp]
theorem filter_no {α : Type} {p : α → Bool} {l : List α} {k : Nat} {x : α} (h : l[k]? = some x) (hp : p x = false) : (l.take (k + 1)).filter p = (l.take k).filter p := by
  rw [List.take_add_one, h, Option.toList_some]
  simp [hp]
theorem filter_take {α : Type} (p : α → Bool) (l : List α) (k : Nat) : ((l.take k).filter p).length ≤ l.length := by
  have h1 := List.length_filter_le p (l.take k)
  have h2 : (l.take k).length ≤ l.length := by rw [List.length_take]; omega
  omega
def stayB (b : Cart) (x : Ent) : Bool := decide (x ∈ b.ents) || !b.ctx.covers x.dot
def newB (a : Cart) (x : Ent) : Bool := !a.ctx.covers x.dot
theorem stays_filter (a b : Cart) : staysE a b = a.ents.filter (stayB b) := rfl
end Go.Fw
namespace Go.Proofs.YtfblmkocmnbdcaaGreat
open Go.Fw Go.Proofs Go.RowKit Go.Proofs.Tryz
end Go.Proofs.YtfblmkocmnbdcaaGreat
set_option linter.unusedVariables false
set_option linter.unusedSimpArgs false
set_option maxRecDepth 100000
set_option maxHeartbeats 4000000
namespace Go.Fw
def joinF (a b : Cart) (k : Nat) : List Ent := ((b.ents.take k).filter (newB a)).foldl (fun l x => insE x l) (staysE a b)
end Go.Fw
namespace Go.Proofs.YtfblmkocmnbdcaaGreat
open Go.Fw Go.Proofs Go.RowKit Go.Proofs.Tryz
theorem c34 (w0 : World) (v1 v2 v3 v4 v5 v6 : Value) (X Y : Cart) (h : Sl Ent.enc 6 w0 w0.heap.size v1 X.ents) (hr : RdCtx w0 w0.heap.size v2 v3 X.ctx) (h' : Sl Ent.enc 6 w0 w0.heap.size v4 Y.ents) (hr' : RdCtx w0 w0.heap.size v5 v6 Y.ctx) :
    Rets Tryz.prog 34 #[.agg #[v1, v2, v3], .agg #[v4, v5, v6]] w0 fun v L => ∃ A1 r1 A2 r2 A3 r3, v = .tuple #[.agg #[.slice A1 (joinK X Y).1.ents.length r1, .slice A2 (joinK X Y).1.ctx.marks.length r2, .slice A3 (joinK X Y).1.ctx.cloud.length r3], .int .i64 (joinK X Y).2] ∧
      L = [rowOf 71 6 Ent.enc A1 r1 (joinK X Y).1.ents, rowOf 122 3 Dot.enc A2 r2 (joinK X Y).1.ctx.marks, rowOf 58 3 Dot.enc A3 r3 (joinK X Y).1.ctx.cloud] := by
  have hs := h
  have hrr := hr
  have hs' := h'
  have hrr' := hr'
  obtain ⟨A, cap, rfl, hl, hcap, hA⟩ := h
  obtain ⟨⟨A2, cap2, rfl, _⟩, ⟨A3, cap3, rfl, _⟩⟩ := hr
  obtain ⟨B, capB, rfl, hlB, hcapB, hB⟩ := h'
  obtain ⟨⟨B2, capB2, rfl, _⟩, ⟨B3, capB3, rfl, _⟩⟩ := hr'
  by_cases hX : canE X = 0
  rotate_left
  · have rw_x : decide (canE X ≠ 0) = true := decide_eq_true hX
    have e : joinK X Y = (Cart.zero, canE X) := by unfold joinK; rw [if_neg hX]
    unfold Go.Fw.Rets
    refine enter2 func34 rfl ntmps34 rfl fun a S => wp_seq_k fun _ hK1 => wp_region_lit (st_m (op_box S (.t rfl) rfl fun g1 a w S => st_m (op_box S (.t rfl) rfl fun g2 a w S => st_m (op_alloc S zeroValue39 (cs := _) rfl rfl fun g3 a w S => run S (.ac rfl <| .z) fun a w S => st_nil (then_normal (hK1 _ _ (wp_seq_k fun _ hK1 => sg S (.la gt39 2 rfl rfl rfl <| .xx (ys_call call66 (.cons (.t rfl) .nil) (fun hp w W => c66 _ _ _ _ _ (by exact .old W (by assumption)) (by exact .old W (by assumption)))) rfl <| .as rfl <| .z) fun a w S => sg S (.mv rfl <| .yy (ys_T (by omega) (ys_neq (.t rfl) Ev.c)) rfl <| .z) fun a w S => st_then S (.t rfl) (wp_seq_k fun _ hK2 => wp_region_lit (run S (.yy (ys_bld (ps := []) (us := [_, _, _]) bld39 .nil rfl) rfl <| .mv rfl <| .z) fun a w S => st_m (op_stW S sizeOf39 (.t rfl) (.t rfl) (k := 0) rfl rfl rfl (by simp [Value.oneCell']) fun a w S => run S (.as rfl <| .z) fun a w S => st_nil (then_normal (hK2 _ _ (wp_ret (then_ret (st_ret S (results2 S results34 (Rv.cell (k := 0) ⟨isAgg39, sizeOf39⟩ rfl rfl rfl) (Rv.tmp rfl)) ?_)))))))))))))))
    rw [e]
    exact ⟨_, _, rfl, (((S.nil_ 58 3 Dot.enc none).nil_ 122 3 Dot.enc none).nil_ 71 6 Ent.enc none).wd.sub (by repeat (first | exact List.Sublist.refl _ | exact List.nil_sublist _ | refine .cons_cons _ ?_ | refine .cons _ ?_)), none, 0, none, 0, none, 0, rfl, rfl⟩
  have rw_x := hX
  by_cases hY : canE Y = 0
  rotate_left
  · have rw_y : decide (canE Y ≠ 0) = true := decide_eq_true hY
    have e : joinK X Y = (Cart.zero, canE Y) := by unfold joinK; rw [if_pos hX, if_neg hY]
    unfold Go.Fw.Rets
    refine enter2 func34 rfl ntmps34 rfl fun a S => wp_seq_k fun _ hK1 => wp_region_lit (st_m (op_box S (.t rfl) rfl fun g1 a w S => st_m (op_box S (.t rfl) rfl fun g2 a w S => st_m (op_alloc S zeroValue39 (cs := _) rfl rfl fun g3 a w S => run S (.ac rfl <| .z) fun a w S => st_nil (then_normal (hK1 _ _ (wp_seq_k fun _ hK1 => wp_seq_k fun _ hK2 => wp_region_lit (run S (.la gt39 2 rfl rfl rfl <| .xx (ys_call call66 (.cons (.t rfl) .nil) (fun hp w W => c66 _ _ _ _ _ (by exact .old W (by assumption)) (by exact .old W (by assumption)))) rfl <| .z) fun a w S => ?_))))))))
    rw [rw_x] at S
    refine run S (.as rfl <| .z) fun a w S => st_nil (then_normal (hK2 _ _ (sg S (.mv rfl <| .yy (ys_F (by omega) (ys_neq (.t rfl) Ev.c)) rfl <| .z) fun a w S => st_else S (.t rfl) (wp_skip (then_normal (hK1 _ _ (wp_seq_k fun _ hK1 => sg S (.la gt39 1 rfl rfl rfl <| .xx (ys_call call66 (.cons (.t rfl) .nil) (fun hp w W => c66 _ _ _ _ _ (by exact .old W (by assumption)) (by exact .old W (by assumption)))) rfl <| .as rfl <| .z) fun a w S => sg S (.mv rfl <| .yy (ys_T (by omega) (ys_neq (.t rfl) Ev.c)) rfl <| .z) fun a w S => st_then S (.t rfl) (wp_seq_k fun _ hK2 => wp_region_lit (run S (.yy (ys_bld (ps := []) (us := [_, _, _]) bld39 .nil rfl) rfl <| .mv rfl <| .z) fun a w S => st_m (op_stW S sizeOf39 (.t rfl) (.t rfl) (k := 0) rfl rfl rfl (by simp [Value.oneCell']) fun a w S => run S (.as rfl <| .z) fun a w S => st_nil (then_normal (hK2 _ _ (wp_ret (then_ret (st_ret S (results2 S results34 (Rv.cell (k := 0) ⟨isAgg39, sizeOf39⟩ rfl rfl rfl) (Rv.tmp rfl)) ?_)))))))))))))))
    rw [e]
    exact ⟨_, _, rfl, (((S.nil_ 58 3 Dot.enc none).nil_ 122 3 Dot.enc none).nil_ 71 6 Ent.enc none).wd.sub (by repeat (first | exact List.Sublist.refl _ | exact List.nil_sublist _ | refine .cons_cons _ ?_ | refine .cons _ ?_)), none, 0, none, 0, none, 0, rfl, rfl⟩
  have rw_y := hY
  have oX := (canE_ok X).1 hX
  have oY := (canE_ok Y).1 hY
  have lX := oX.len
  have lY := oY.len
  by_cases hj : (joinL X.ctx Y.ctx).2 = 0
  rotate_left
  · have rw_j : decide ((joinL X.ctx Y.ctx).2 ≠ 0) = true := decide_eq_true hj
    have e : joinK X Y = (Cart.zero, (joinL X.ctx Y.ctx).2) := by unfold joinK; rw [if_pos hX, if_pos hY, if_neg hj]
    unfold Go.Fw.Rets
    refine enter2 func34 rfl ntmps34 rfl fun a S => wp_seq_k fun _ hK1 => wp_region_lit (st_m (op_box S (.t rfl) rfl fun g1 a w S => st_m (op_box S (.t rfl) rfl fun g2 a w S => st_m (op_alloc S zeroValue39 (cs := _) rfl rfl fun g3 a w S => run S (.ac rfl <| .z) fun a w S => st_nil (then_normal (hK1 _ _ (wp_seq_k fun _ hK1 => wp_seq_k fun _ hK2 => wp_region_lit (run S (.la gt39 2 rfl rfl rfl <| .xx (ys_call call66 (.cons (.t rfl) .nil) (fun hp w W => c66 _ _ _ _ _ (by exact .old W (by assumption)) (by exact .old W (by assumption)))) rfl <| .z) fun a w S => ?_))))))))
    rw [rw_x] at S
    refine run S (.as rfl <| .z) fun a w S => st_nil (then_normal (hK2 _ _ (sg S (.mv rfl <| .yy (ys_F (by omega) (ys_neq (.t rfl) Ev.c)) rfl <| .z) fun a w S => st_else S (.t rfl) (wp_skip (then_normal (hK1 _ _ (wp_seq_k fun _ hK1 => wp_seq_k fun _ hK2 => wp_region_lit (run S (.la gt39 1 rfl rfl rfl <| .xx (ys_call call66 (.cons (.t rfl) .nil) (fun hp w W => c66 _ _ _ _ _ (by exact .old W (by assumption)) (by exact .old W (by assumption)))) rfl <| .z) fun a w S => ?_))))))))
    rw [rw_y] at S
    refine run S (.as rfl <| .z) fun a w S => st_nil (then_normal (hK2 _ _ (sg S (.mv rfl <| .yy (ys_F (by omega) (ys_neq (.t rfl) Ev.c)) rfl <| .z) fun a w S => st_else S (.t rfl) (wp_skip (then_normal (hK1 _ _ (wp_seq_k fun _ hK1 => wp_region_lit (run S (.fa underlying39 sizeOf37 1 rfl rfl rfl <| .la gt37 2 rfl rfl rfl <| .fa underlying39 sizeOf37 1 rfl rfl rfl <| .la gt37 1 rfl rfl rfl <| .z) fun a w S => ?_))))))))
    (refine st_m (op_calls S call92 (.cons (.t rfl) (.cons (.t rfl) .nil)) (c92 _ _ _ _ _ _ _ (by exact .old S.wd (by assumption)) (by exact .old S.wd (by assumption))) rfl ?_); clear S a w; rintro _ _ ⟨A11, r11, A21, r21, rfl, rfl⟩ a w S)
    refine run S (.mv rfl <| .ex rfl rfl <| .ex rfl rfl <| .z) fun a w S => st_m (op_alloc S zeroValue37 (cs := _) rfl rfl fun g4 a w S => st_m (op_stW S sizeOf37 (.t rfl) (.t rfl) (k := 0) rfl rfl rfl (by simp [Value.oneCell']) fun a w S => run S (.as rfl <| .z) fun a w S => st_nil (then_normal (hK1 _ _ (wp_seq_k fun _ hK1 => sg S (.mv rfl <| .yy (ys_T (by omega) (ys_neq (.t rfl) Ev.c)) rfl <| .z) fun a w S => st_then S (.t rfl) (wp_seq_k fun _ hK2 => wp_region_lit (run S (.yy (ys_bld (ps := []) (us := [_, _, _]) bld39 .nil rfl) rfl <| .mv rfl <| .z) fun a w S => st_m (op_stW S sizeOf39 (.t rfl) (.t rfl) (k := 3) rfl rfl rfl (by simp [Value.oneCell']) fun a w S => run S (.as rfl <| .z) fun a w S => st_nil (then_normal (hK2 _ _ (wp_ret (then_ret (st_ret S (results2 S results34 (Rv.cell (k := 3) ⟨isAgg39, sizeOf39⟩ rfl rfl rfl) (Rv.tmp rfl)) ?_)))))))))))))
    rw [e]
    exact ⟨_, _, rfl, (((S.nil_ 58 3 Dot.enc none).nil_ 122 3 Dot.enc none).nil_ 71 6 Ent.enc none).wd.sub (by repeat (first | exact List.Sublist.refl _ | exact List.nil_sublist _ | refine .cons_cons _ ?_ | refine .cons _ ?_)), none, 0, none, 0, none, 0, rfl, rfl⟩
  have rw_j := hj
  have eJ : joinK X Y = if 64 < (joinE X Y).length ∨ 32 < itemsN (joinE X Y) then (Cart.zero, 51) else if clashE X Y then (Cart.zero, 50) else (⟨joinE X Y, (joinL X.ctx Y.ctx).1⟩, 0) := by
    unfold joinK
    rw [if_pos hX, if_pos hY, if_pos hj]
    unfold sizedC
    by_cases h2 : 64 < (joinE X Y).length ∨ 32 < itemsN (joinE X Y)
    · rw [if_pos h2, if_pos h2, if_neg (by dsimp only; omega)]
    · rw [if_neg h2, if_neg h2, if_pos rfl]
  unfold Go.Fw.Rets
  refine enter2 func34 rfl ntmps34 rfl fun a S => wp_seq_k fun _ hK1 => wp_region_lit (st_m (op_box S (.t rfl) rfl fun g1 a w S => st_m (op_box S (.t rfl) rfl fun g2 a w S => st_m (op_alloc S zeroValue39 (cs := _) rfl rfl fun g3 a w S => run S (.ac rfl <| .z) fun a w S => st_nil (then_normal (hK1 _ _ (wp_seq_k fun _ hK1 => wp_seq_k fun _ hK2 => wp_region_lit (run S (.la gt39 2 rfl rfl rfl <| .xx (ys_call call66 (.cons (.t rfl) .nil) (fun hp w W => c66 _ _ _ _ _ (by exact .old W (by assumption)) (by exact .old W (by assumption)))) rfl <| .z) fun a w S => ?_))))))))
  rw [rw_x] at S
  refine run S (.as rfl <| .z) fun a w S => st_nil (then_normal (hK2 _ _ (sg S (.mv rfl <| .yy (ys_F (by omega) (ys_neq (.t rfl) Ev.c)) rfl <| .z) fun a w S => st_else S (.t rfl) (wp_skip (then_normal (hK1 _ _ (wp_seq_k fun _ hK1 => wp_seq_k fun _ hK2 => wp_region_lit (run S (.la gt39 1 rfl rfl rfl <| .xx (ys_call call66 (.cons (.t rfl) .nil) (fun hp w W => c66 _ _ _ _ _ (by exact .old W (by assumption)) (by exact .old W (by assumption)))) rfl <| .z) fun a w S => ?_))))))))
  rw [rw_y] at S
  refine run S (.as rfl <| .z) fun a w S => st_nil (then_normal (hK2 _ _ (sg S (.mv rfl <| .yy (ys_F (by omega) (ys_neq (.t rfl) Ev.c)) rfl <| .z) fun a w S => st_else S (.t rfl) (wp_skip (then_normal (hK1 _ _ (wp_seq_k fun _ hK1 => wp_region_lit (run S (.fa underlying39 sizeOf37 1 rfl rfl rfl <| .la gt37 2 rfl rfl rfl <| .fa underlying39 sizeOf37 1 rfl rfl rfl <| .la gt37 1 rfl rfl rfl <| .z) fun a w S => ?_))))))))
  (refine st_m (op_calls S call92 (.cons (.t rfl) (.cons (.t rfl) .nil)) (c92 _ _ _ _ _ _ _ (by exact .old S.wd (by assumption)) (by exact .old S.wd (by assumption))) rfl ?_); clear S a w; rintro _ _ ⟨A11, r11, A21, r21, rfl, rfl⟩ a w S)
  rw [rw_j] at S
  refine run S (.mv rfl <| .ex rfl rfl <| .ex rfl rfl <| .z) fun a w S => st_m (op_alloc S zeroValue37 (cs := _) rfl rfl fun g4 a w S => st_m (op_stW S sizeOf37 (.t rfl) (.t rfl) (k := 0) rfl rfl rfl (by simp [Value.oneCell']) fun a w S => run S (.as rfl <| .z) fun a w S => st_nil (then_normal (hK1 _ _ (wp_seq_k fun _ hK1 => sg S (.mv rfl <| .yy (ys_F (by omega) (ys_neq (.t rfl) Ev.c)) rfl <| .z) fun a w S => st_else S (.t rfl) (wp_skip (then_normal (hK1 _ _ (wp_seq_k fun _ hK1 => wp_region_lit (run S (.la gt37 0 rfl rfl rfl <| .yy (ys_bld (ps := [(1, Go.Operand.tmp 45)]) (us := [_, _, _]) bld39 (.cons (.t rfl) .nil) rfl) rfl <| .z) fun a w S => st_m (op_alloc S zeroValue39 (cs := _) rfl rfl fun g5 a w S => st_m (op_stW S sizeOf39 (.t rfl) (.t rfl) (k := 0) rfl rfl rfl (by simp [Value.oneCell']) fun a w S => st_nil (then_normal (hK1 _ _ (wp_seq_k fun _ hK1 => sg S (.fa underlying39 sizeOf33 0 rfl rfl rfl <| .ld gt33 6 rfl rfl rfl <| .ln underlying33 rfl <| .mc rfl <| .z) fun a w S => wp_block ?_)))))))))))))))
  generalize (joinL X.ctx Y.ctx).1 = R at S eJ
  have hcX := can_ctx hX
  have hcY := can_ctx hY
  have rw_covX := can_covers hcX
  have rw_covY := can_covers hcY
  refine st_lpM (S.nil_ 71 6 Ent.enc none) [50] (X := Nat × Option Addr × Nat) (fun q => [(50, true, .int .i64 (q.1 : Int))])
    (fun q => [rowOf 71 6 Ent.enc q.2.1 q.2.2 ((X.ents.take q.1).filter (stayB Y)), .blk g5 (.cells #[.slice q.2.1 ((X.ents.take q.1).filter (stayB Y)).length q.2.2, .slice A11 R.marks.length r11, .slice A21 R.cloud.length r21] 39), rowOf 122 3 Dot.enc A11 r11 R.marks, rowOf 58 3 Dot.enc A21 r21 R.cloud, .blk g3 (.cells #[.slice none 0 0, .slice none 0 0, .slice none 0 0] 39), .blk g2 (.cells #[.slice B Y.ents.length capB, .slice B2 Y.ctx.marks.length capB2, .slice B3 Y.ctx.cloud.length capB3] 39), .blk g1 (.cells #[.slice A X.ents.length cap, .slice A2 X.ctx.marks.length cap2, .slice A3 X.ctx.cloud.length cap3] 39)])
    (fun q => q.1 ≤ X.ents.length) (fun q => X.ents.length - q.1) (0, none, 0) (Nat.zero_le _) ?_
  clear S
  rintro ⟨k, D, cD⟩ a w hk S
  dsimp only at hk S
  have hol := filter_take (stayB Y) X.ents k
  by_cases hlt : k < X.ents.length
  · obtain ⟨g, o, x, rfl, hx, hd, hc⟩ := row_at hA hlt
    cases hp : stayB Y x with
    | false =>
      have rw_p : (decide (x ∈ Y.ents) || !Y.ctx.covers ⟨x.dot.node, x.dot.life, x.dot.count⟩) = false := hp
      have hst := filter_no hx hp
      refine sg S (.lt (by omega) rfl rfl <| .z) fun a w S => wp_seq_k fun _ hK2 => st_then S (.t rfl) (wp_skip (then_normal (hK2 _ _ (wp_seq_k fun _ hK2 => wp_block (wp_seq_k fun _ hK3 => wp_region_lit (run S (.ix underlying33 sizeOf71 (by omega) rfl rfl <| .yy (ys_ldOA ⟨isAgg71, sizeOf71⟩ (.t rfl) (vs := [_, _, _, _, _, _]) rfl (fun _ => hc)) rfl <| .z) fun a w S => st_m (op_alloc S zeroValue71 (cs := _) rfl rfl fun g6 a w S => st_m (op_stW S sizeOf71 (.t rfl) (.t rfl) (k := 0) rfl rfl rfl (by simp [Value.oneCell']) fun a w S => st_nil (then_normal (hK3 _ _ (wp_seq_k fun _ hK3 => wp_region_lit (run S (.la gt39 6 rfl rfl rfl <| .la gt71 0 rfl rfl rfl <| .xx (ys_call call93 (.cons (.t rfl) (.cons (.t rfl) .nil)) (fun hp w W => c93 _ _ _ _ _ _ _ _ _ _ (by exact .old W (by assumption)))) rfl <| .mv rfl <| .z) fun a w S => st_yf S rfl rfl (Yr.ys (ys_fieldN (FieldT.mk underlying39 rfl sizeOf37 rfl) (.t rfl) (i' := 1) rfl)) rfl fun a w S => st_yf S rfl rfl (Yr.ys (ys_ldA ⟨isAgg37, sizeOf37⟩ (Ev.g rfl) (k := 6) rfl rfl)) rfl fun a w S => st_yf S rfl rfl (Yr.ys (ys_fieldN (FieldT.mk underlying71 rfl sizeOf58 rfl) (.t rfl) (i' := 1) rfl)) rfl fun a w S => st_yf S rfl rfl (Yr.ys (ys_ldA ⟨isAgg58, sizeOf58⟩ (Ev.g rfl) (k := 0) rfl rfl)) rfl fun a w S => ?_))))))))))))
      refine st_yf S rfl rfl (ys_call call37 (.cons (Ev.g rfl) (.cons (Ev.g rfl) .nil)) (fun hp w W => c37 _ _ _ _ _ _ _ (by exact .old W (by assumption)))) rfl fun a w S => ?_
      rw [rw_covY] at S
      refine st_yf S rfl rfl (Yr.ys (ys_not (Ev.g rfl))) rfl fun a w S => run S (.yy (ys_or (.t rfl) Ev.c (Ev.g rfl)) rfl <| .z) fun a w S => ?_
      rw [rw_p] at S
      refine st_nil (then_normal (hK3 _ _ (st_else S (.t rfl) (wp_skip (in_normal (then_normal (hK2 _ _ (wp_region_lit (run S (.ad (by unfold I64; omega) rfl <| .mv rfl <| .z) fun a w S => st_nil (then_normal ?_))))))))))
      exact ⟨(k + 1, D, cD), by dsimp only; omega, by dsimp only; omega, by dsimp only; rw [hst]; exact S.pk⟩
    | true =>
      have rw_p : (decide (x ∈ Y.ents) || !Y.ctx.covers ⟨x.dot.node, x.dot.life, x.dot.count⟩) = true := hp
      have hst := filter_yes hx hp
      refine sg S (.lt (by omega) rfl rfl <| .z) fun a w S => wp_seq_k fun _ hK2 => st_then S (.t rfl) (wp_skip (then_normal (hK2 _ _ (wp_seq_k fun _ hK2 => wp_block (wp_seq_k fun _ hK3 => wp_region_lit (run S (.ix underlying33 sizeOf71 (by omega) rfl rfl <| .yy (ys_ldOA ⟨isAgg71, sizeOf71⟩ (.t rfl) (vs := [_, _, _, _, _, _]) rfl (fun _ => hc)) rfl <| .z) fun a w S => st_m (op_alloc S zeroValue71 (cs := _) rfl rfl fun g6 a w S => st_m (op_stW S sizeOf71 (.t rfl) (.t rfl) (k := 0) rfl rfl rfl (by simp [Value.oneCell']) fun a w S => st_nil (then_normal (hK3 _ _ (wp_seq_k fun _ hK3 => wp_region_lit (run S (.la gt39 6 rfl rfl rfl <| .la gt71 0 rfl rfl rfl <| .xx (ys_call call93 (.cons (.t rfl) (.cons (.t rfl) .nil)) (fun hp w W => c93 _ _ _ _ _ _ _ _ _ _ (by exact .old W (by assumption)))) rfl <| .mv rfl <| .z) fun a w S => st_yf S rfl rfl (Yr.ys (ys_fieldN (FieldT.mk underlying39 rfl sizeOf37 rfl) (.t rfl) (i' := 1) rfl)) rfl fun a w S => st_yf S rfl rfl (Yr.ys (ys_ldA ⟨isAgg37, sizeOf37⟩ (Ev.g rfl) (k := 6) rfl rfl)) rfl fun a w S => st_yf S rfl rfl (Yr.ys (ys_fieldN (FieldT.mk underlying71 rfl sizeOf58 rfl) (.t rfl) (i' := 1) rfl)) rfl fun a w S => st_yf S rfl rfl (Yr.ys (ys_ldA ⟨isAgg58, sizeOf58⟩ (Ev.g rfl) (k := 0) rfl rfl)) rfl fun a w S => ?_))))))))))))
      refine st_yf S rfl rfl (ys_call call37 (.cons (Ev.g rfl) (.cons (Ev.g rfl) .nil)) (fun hp w W => c37 _ _ _ _ _ _ _ (by exact .old W (by assumption)))) rfl fun a w S => ?_
      rw [rw_covY] at S
      refine st_yf S rfl rfl (Yr.ys (ys_not (Ev.g rfl))) rfl fun a w S => run S (.yy (ys_or (.t rfl) Ev.c (Ev.g rfl)) rfl <| .z) fun a w S => ?_
      rw [rw_p] at S
      refine st_nil (then_normal (hK3 _ _ (st_then S (.t rfl) (wp_region_lit (run S (.fa underlying39 sizeOf33 0 rfl rfl rfl <| .ld gt33 2 rfl rfl rfl <| .la gt71 0 rfl rfl rfl <| .z) fun a w S => st_m (op_bslice1 S underlying33 inf71 rfl rfl rfl (.t rfl) rfl rfl rfl fun g7 a w S => st_m (op_push S underlying33 inf71 rfl (k := 2) (j := 0) rfl (.t rfl) (.t rfl) rfl rfl rfl rfl (by first | omega | (simp only [List.length_append, List.length_cons, List.length_nil]; omega)) rfl rfl rfl fun A1 cap1 a w S => run S (.fa underlying39 sizeOf33 0 rfl rfl rfl <| .z) fun a w S => st_m (op_st S sizeOf33 (.t rfl) (.t rfl) (k := 3) rfl rfl (by simp) fun a w S => st_nil (in_normal (then_normal (hK2 _ _ (wp_region_lit (run S (.ad (by unfold I64; omega) rfl <| .mv rfl <| .z) fun a w S => st_nil (then_normal ?_))))))))))))))
      exact ⟨(k + 1, A1, cap1), by dsimp only; omega, by dsimp only; omega, by dsimp only; rw [hst]; exact S.pk⟩
  obtain rfl : k = X.ents.length := by omega
  rw [List.take_length, ← stays_filter] at S hol
  refine sg S (.ge (by omega) rfl rfl <| .z) fun a w S => wp_seq_k fun _ hK2 => st_else S (.t rfl) (wp_exit (then_exit (then_exit (in_here (then_normal (hK1 _ _ (wp_seq_k fun _ hK1 => sg S (.fa underlying39 sizeOf33 0 rfl rfl rfl <| .ld gt33 5 rfl rfl rfl <| .ln underlying33 rfl <| .mc rfl <| .z) fun a w S => wp_block ?_)))))))
  have e0 : joinF X Y 0 = staysE X Y := rfl
  rw [← e0] at S
  refine st_lpM S [75] (X := Nat × Option Addr × Nat) (fun q => [(75, true, .int .i64 (q.1 : Int))])
    (fun q => [rowOf 71 6 Ent.enc q.2.1 q.2.2 (joinF X Y q.1), .blk g5 (.cells #[.slice q.2.1 (joinF X Y q.1).length q.2.2, .slice A11 R.marks.length r11, .slice A21 R.cloud.length r21] 39), rowOf 122 3 Dot.enc A11 r11 R.marks, rowOf 58 3 Dot.enc A21 r21 R.cloud, .blk g3 (.cells #[.slice none 0 0, .slice none 0 0, .slice none 0 0] 39), .blk g2 (.cells #[.slice B Y.ents.length capB, .slice B2 Y.ctx.marks.length capB2, .slice B3 Y.ctx.cloud.length capB3] 39), .blk g1 (.cells #[.slice A X.ents.length cap, .slice A2 X.ctx.marks.length cap2, .slice A3 X.ctx.cloud.length cap3] 39)])
    (fun q => q.1 ≤ Y.ents.length) (fun q => Y.ents.length - q.1) (0, D, cD) (Nat.zero_le _) ?_
  clear S
  rintro ⟨k, E, cE⟩ a w hk S
  dsimp only at hk S
  have hol3 : (joinF X Y k).length ≤ 200 := by
    unfold joinF
    have hol2 := filter_take (newB X) Y.ents k
    rw [fold_ins_len]; omega
  by_cases hlt : k < Y.ents.length
  · obtain ⟨g, o, x, rfl, hx, hd, hc⟩ := row_at hB hlt
    cases hp : newB X x with
    | false =>
      have hst : joinF X Y (k + 1) = joinF X Y k := by unfold joinF; rw [filter_no hx hp]
      have rw_c : X.ctx.covers ⟨x.dot.node, x.dot.life, x.dot.count⟩ = true := by simpa [newB] using hp
      refine sg S (.lt (by omega) rfl rfl <| .z) fun a w S => wp_seq_k fun _ hK3 => st_then S (.t rfl) (wp_skip (then_normal (hK3 _ _ (wp_seq_k fun _ hK3 => wp_block (wp_seq_k fun _ hK4 => wp_region_lit (run S (.ix underlying33 sizeOf71 (by omega) rfl rfl <| .yy (ys_ldOA ⟨isAgg71, sizeOf71⟩ (.t rfl) (vs := [_, _, _, _, _, _]) rfl (fun _ => hc)) rfl <| .z) fun a w S => st_m (op_alloc S zeroValue71 (cs := _) rfl rfl fun g6 a w S => st_m (op_stW S sizeOf71 (.t rfl) (.t rfl) (k := 0) rfl rfl rfl (by simp [Value.oneCell']) fun a w S => st_nil (then_normal (hK4 _ _ (wp_seq_k fun _ hK4 => wp_region_lit (run S (.fa underlying39 sizeOf37 1 rfl rfl rfl <| .la gt37 7 rfl rfl rfl <| .fa underlying71 sizeOf58 1 rfl rfl rfl <| .la gt58 0 rfl rfl rfl <| .xx (ys_call call37 (.cons (.t rfl) (.cons (.t rfl) .nil)) (fun hp w W => c37 _ _ _ _ _ _ _ (by exact .old W (by assumption)))) rfl <| .z) fun a w S => ?_))))))))))))
      rw [rw_covX] at S
      rw [rw_c] at S
      refine run S (.nt rfl <| .z) fun a w S => st_nil (then_normal (hK4 _ _ (st_else S (.t rfl) (wp_skip (in_normal (then_normal (hK3 _ _ (wp_region_lit (run S (.ad (by unfold I64; omega) rfl <| .mv rfl <| .z) fun a w S => st_nil (then_normal ?_))))))))))
      exact ⟨(k + 1, E, cE), by dsimp only; omega, by dsimp only; omega, by dsimp only; rw [hst]; exact S.pk⟩
    | true =>
      have hst : joinF X Y (k + 1) = insE x (joinF X Y k) := by unfold joinF; rw [filter_yes hx hp, List.foldl_append]; rfl
      have rw_c : X.ctx.covers ⟨x.dot.node, x.dot.life, x.dot.count⟩ = false := by simpa [newB] using hp
      generalize joinF X Y k = O at S hst hol3
      refine sg S (.lt (by omega) rfl rfl <| .z) fun a w S => wp_seq_k fun _ hK3 => st_then S (.t rfl) (wp_skip (then_normal (hK3 _ _ (wp_seq_k fun _ hK3 => wp_block (wp_seq_k fun _ hK4 => wp_region_lit (run S (.ix underlying33 sizeOf71 (by omega) rfl rfl <| .yy (ys_ldOA ⟨isAgg71, sizeOf71⟩ (.t rfl) (vs := [_, _, _, _, _, _]) rfl (fun _ => hc)) rfl <| .z) fun a w S => st_m (op_alloc S zeroValue71 (cs := _) rfl rfl fun g6 a w S => st_m (op_stW S sizeOf71 (.t rfl) (.t rfl) (k := 0) rfl rfl rfl (by simp [Value.oneCell']) fun a w S => st_nil (then_normal (hK4 _ _ (wp_seq_k fun _ hK4 => wp_region_lit (run S (.fa underlying39 sizeOf37 1 rfl rfl rfl <| .la gt37 7 rfl rfl rfl <| .fa underlying71 sizeOf58 1 rfl rfl rfl <| .la gt58 0 rfl rfl rfl <| .xx (ys_call call37 (.cons (.t rfl) (.cons (.t rfl) .nil)) (fun hp w W => c37 _ _ _ _ _ _ _ (by exact .old W (by assumption)))) rfl <| .z) fun a w S => ?_))))))))))))
      rw [rw_covX] at S
      rw [rw_c] at S
      refine run S (.nt rfl <| .z) fun a w S => st_nil (then_normal (hK4 _ _ (st_then S (.t rfl) (wp_region_lit (run S (.fa underlying39 sizeOf33 0 rfl rfl rfl <| .ld gt33 2 rfl rfl rfl <| .la gt71 0 rfl rfl rfl <| .z) fun a w S => ?_)))))
      (refine st_m (op_calls S call86 (.cons (.t rfl) (.cons (.t rfl) .nil)) (c86 _ _ _ _ (by exact Sl.of_own S.wd (k := 1) rfl (fun _ => rfl)) (by omega)) rfl ?_); clear S a w; rintro _ _ ⟨A12, r12, rfl, rfl⟩ a w S)
      refine run S (.fa underlying39 sizeOf33 0 rfl rfl rfl <| .z) fun a w S => st_m (op_st S sizeOf33 (.t rfl) (.t rfl) (k := 3) rfl rfl (by simp) fun a w S => st_nil (in_normal (then_normal (hK3 _ _ (wp_region_lit (run S (.ad (by unfold I64; omega) rfl <| .mv rfl <| .z) fun a w S => st_nil (then_normal ?_)))))))
      exact ⟨(k + 1, A12, r12), by dsimp only; omega, by dsimp only; omega, by dsimp only; rw [hst]; exact S.pk⟩
  obtain rfl : k = Y.ents.length := by omega
  have e1 : joinF X Y Y.ents.length = joinE X Y := by unfold joinF; rw [List.take_length]; rfl
  rw [e1] at S hol3
  have hjl := joinE_len oX oY
  by_cases hbig : 64 < (joinE X Y).length ∨ 32 < itemsN (joinE X Y)
  · have rw_b : ∀ x y : Value, (if 64 < (joinE X Y).length ∨ 32 < itemsN (joinE X Y) then x else y) = x := fun _ _ => if_pos hbig
    rw [if_pos hbig] at eJ
    refine sg S (.ge (by omega) rfl rfl <| .z) fun a w S => wp_seq_k fun _ hK3 => st_else S (.t rfl) (wp_exit (then_exit (then_exit (in_here (then_normal (hK1 _ _ (wp_seq_k fun _ hK1 => wp_seq_k fun _ hK4 => wp_region_lit (run S (.la gt39 1 rfl rfl rfl <| .xx (ys_call call88 (.cons (.t rfl) .nil) (fun hp w W => c88 _ _ _ _ _ _ _ _ _ (by exact Sl.of_own W (k := 0) rfl (fun _ => rfl)) (by omega))) rfl <| .z) fun a w S => ?_))))))))
    rw [rw_b] at S
    refine run S (.mv rfl <| .ex rfl rfl <| .ex rfl rfl <| .z) fun a w S => st_m (op_alloc S zeroValue39 (cs := _) rfl rfl fun g6 a w S => st_m (op_stW S sizeOf39 (.t rfl) (.t rfl) (k := 0) rfl rfl rfl (by simp [Value.oneCell']) fun a w S => run S (.as rfl <| .z) fun a w S => st_nil (then_normal (hK4 _ _ (sg S (.mv rfl <| .yy (ys_T (by omega) (ys_neq (.t rfl) Ev.c)) rfl <| .z) fun a w S => st_then S (.t rfl) (wp_seq_k fun _ hK4 => wp_region_lit (run S (.yy (ys_bld (ps := []) (us := [_, _, _]) bld39 .nil rfl) rfl <| .mv rfl <| .z) fun a w S => st_m (op_stW S sizeOf39 (.t rfl) (.t rfl) (k := 5) rfl rfl rfl (by simp [Value.oneCell']) fun a w S => run S (.as rfl <| .z) fun a w S => st_nil (then_normal (hK4 _ _ (wp_ret (then_ret (st_ret S (results2 S results34 (Rv.cell (k := 5) ⟨isAgg39, sizeOf39⟩ rfl rfl rfl) (Rv.tmp rfl)) ?_)))))))))))))
    rw [eJ]
    exact ⟨_, _, rfl, (((S.nil_ 58 3 Dot.enc none).nil_ 122 3 Dot.enc none).nil_ 71 6 Ent.enc none).wd.sub (by repeat (first | exact List.Sublist.refl _ | exact List.nil_sublist _ | refine .cons_cons _ ?_ | refine .cons _ ?_)), none, 0, none, 0, none, 0, rfl, rfl⟩
  have rw_b : ∀ x y : Value, (if 64 < (joinE X Y).length ∨ 32 < itemsN (joinE X Y) then x else y) = y := fun _ _ => if_neg hbig
  rw [if_neg hbig] at eJ
  refine sg S (.ge (by omega) rfl rfl <| .z) fun a w S => wp_seq_k fun _ hK3 => st_else S (.t rfl) (wp_exit (then_exit (then_exit (in_here (then_normal (hK1 _ _ (wp_seq_k fun _ hK1 => wp_seq_k fun _ hK4 => wp_region_lit (run S (.la gt39 1 rfl rfl rfl <| .xx (ys_call call88 (.cons (.t rfl) .nil) (fun hp w W => c88 _ _ _ _ _ _ _ _ _ (by exact Sl.of_own W (k := 0) rfl (fun _ => rfl)) (by omega))) rfl <| .z) fun a w S => ?_))))))))
  rw [rw_b] at S
  refine run S (.mv rfl <| .ex rfl rfl <| .ex rfl rfl <| .z) fun a w S => st_m (op_alloc S zeroValue39 (cs := _) rfl rfl fun g6 a w S => st_m (op_stW S sizeOf39 (.t rfl) (.t rfl) (k := 0) rfl rfl rfl (by simp [Value.oneCell']) fun a w S => run S (.as rfl <| .z) fun a w S => st_nil (then_normal (hK4 _ _ (sg S (.mv rfl <| .yy (ys_F (by omega) (ys_neq (.t rfl) Ev.c)) rfl <| .z) fun a w S => st_else S (.t rfl) (wp_skip (then_normal (hK1 _ _ (wp_seq_k fun _ hK1 => sg S (.fa underlying39 sizeOf33 0 rfl rfl rfl <| .ld gt33 7 rfl rfl rfl <| .ln underlying33 rfl <| .mc rfl <| .z) fun a w S => wp_block ?_)))))))))
  refine st_lpM S [103] (X := Nat) (fun k => [(103, true, .int .i64 (k : Int))])
    (fun q => [rowOf 71 6 Ent.enc E cE (joinE X Y), .blk g5 (.cells #[.slice E (joinE X Y).length cE, .slice A11 R.marks.length r11, .slice A21 R.cloud.length r21] 39), rowOf 122 3 Dot.enc A11 r11 R.marks, rowOf 58 3 Dot.enc A21 r21 R.cloud, .blk g3 (.cells #[.slice none 0 0, .slice none 0 0, .slice none 0 0] 39), .blk g2 (.cells #[.slice B Y.ents.length capB, .slice B2 Y.ctx.marks.length capB2, .slice B3 Y.ctx.cloud.length capB3] 39), .blk g1 (.cells #[.slice A X.ents.length cap, .slice A2 X.ctx.marks.length cap2, .slice A3 X.ctx.cloud.length cap3] 39)])
    (fun k => k ≤ X.ents.length ∧ ∀ x ∈ X.ents.take k, ∀ y ∈ Y.ents, x.dot = y.dot → x = y) (fun k => X.ents.length - k) 0 ⟨Nat.zero_le _, by simp⟩ ?_
  clear S
  rintro k a w ⟨hk, hno⟩ S
  by_cases hlt : k < X.ents.length
  · obtain ⟨g, o, x, rfl, hx, hd, hc⟩ := row_at hA hlt
    refine sg S (.lt (by omega) rfl rfl <| .z) fun a w S => wp_seq_k fun _ hK4 => st_then S (.t rfl) (wp_skip (then_normal (hK4 _ _ (wp_seq_k fun _ hK4 => wp_block (wp_seq_k fun _ hK5 => wp_region_lit (run S (.ix underlying33 sizeOf71 (by omega) rfl rfl <| .yy (ys_ldOA ⟨isAgg71, sizeOf71⟩ (.t rfl) (vs := [_, _, _, _, _, _]) rfl (fun _ => hc)) rfl <| .z) fun a w S => st_m (op_alloc S zeroValue71 (cs := _) rfl rfl fun g7 a w S => st_m (op_stW S sizeOf71 (.t rfl) (.t rfl) (k := 0) rfl rfl rfl (by simp [Value.oneCell']) fun a w S => st_nil (then_normal (hK5 _ _ (sg S (.fa underlying39 sizeOf33 0 rfl rfl rfl <| .ld gt33 6 rfl rfl rfl <| .ln underlying33 rfl <| .mc rfl <| .z) fun a w S => wp_block ?_)))))))))))
    refine st_lpM S [110] (X := Nat) (fun k => [(110, true, .int .i64 (k : Int))])
      (fun q => [.blk g7 (.cells (Ent.enc x).toArray 71), rowOf 71 6 Ent.enc E cE (joinE X Y), .blk g5 (.cells #[.slice E (joinE X Y).length cE, .slice A11 R.marks.length r11, .slice A21 R.cloud.length r21] 39), rowOf 122 3 Dot.enc A11 r11 R.marks, rowOf 58 3 Dot.enc A21 r21 R.cloud, .blk g3 (.cells #[.slice none 0 0, .slice none 0 0, .slice none 0 0] 39), .blk g2 (.cells #[.slice B Y.ents.length capB, .slice B2 Y.ctx.marks.length capB2, .slice B3 Y.ctx.cloud.length capB3] 39), .blk g1 (.cells #[.slice (some ⟨g, o, none⟩) X.ents.length cap, .slice A2 X.ctx.marks.length cap2, .slice A3 X.ctx.cloud.length cap3] 39)])
      (fun m => m ≤ Y.ents.length ∧ ∀ y ∈ Y.ents.take m, x.dot = y.dot → x = y) (fun m => Y.ents.length - m) 0 ⟨Nat.zero_le _, by simp⟩ ?_
    clear S
    rintro m a w ⟨hm, hno2⟩ S
    by_cases hlt : m < Y.ents.length
    · obtain ⟨g', o', y, rfl, hy, hd', hc'⟩ := row_at hB hlt
      by_cases h1 : x.dot = y.dot
      · by_cases h2 : x = y
        · have rw_1 := decide_eq_true (dot_iff3.1 h1)
          have rw_2 := decide_eq_true (ent_iff.1 h2)
          refine sg S (.lt (by omega) rfl rfl <| .z) fun a w S => wp_seq_k fun _ hK5 => st_then S (.t rfl) (wp_skip (then_normal (hK5 _ _ (wp_seq_k fun _ hK5 => wp_block (wp_seq_k fun _ hK6 => wp_region_lit (run S (.ix underlying33 sizeOf71 (by omega) rfl rfl <| .yy (ys_ldOA ⟨isAgg71, sizeOf71⟩ (.t rfl) (vs := [_, _, _, _, _, _]) rfl (fun _ => hc')) rfl <| .z) fun a w S => st_m (op_alloc S zeroValue71 (cs := _) rfl rfl fun g8 a w S => st_m (op_stW S sizeOf71 (.t rfl) (.t rfl) (k := 0) rfl rfl rfl (by simp [Value.oneCell']) fun a w S => st_nil (then_normal (hK6 _ _ (wp_seq_k fun _ hK6 => wp_region_lit (run S (.fa underlying71 sizeOf58 1 rfl rfl rfl <| .la gt58 1 rfl rfl rfl <| .fa underlying71 sizeOf58 1 rfl rfl rfl <| .la gt58 0 rfl rfl rfl <| .yy (ys_eqA (.t rfl) (.t rfl) eq58) rfl <| .z) fun a w S => ?_))))))))))))
          rw [rw_1] at S
          refine run S (.mv rfl <| .gy rfl rfl (ys_ldA ⟨isAgg71, sizeOf71⟩ (.t rfl) (k := 1) rfl rfl) <| .gy rfl rfl (ys_ldA ⟨isAgg71, sizeOf71⟩ (.t rfl) (k := 0) rfl rfl) <| .gy rfl rfl (ys_neA (.t rfl) (.t rfl) eq71) <| .z) fun a w S => ?_
          rw [rw_2] at S
          refine run S (.yy (ys_pickT (.t rfl) (.t rfl)) rfl <| .z) fun a w S => st_nil (then_normal (hK6 _ _ (st_else S (.t rfl) (wp_skip (in_normal (then_normal (hK5 _ _ (wp_region_lit (run S (.ad (by unfold I64; omega) rfl <| .mv rfl <| .z) fun a w S => st_nil (then_normal ?_))))))))))
          refine ⟨m + 1, ⟨by omega, fun z hz hzd => ?_⟩, by omega, S.pk⟩
          rw [List.take_add_one, hy, Option.toList_some] at hz
          rcases List.mem_append.1 hz with hz | hz
          · exact hno2 z hz hzd
          · simp at hz; subst hz; exact h2
        · have rw_1 := decide_eq_true (dot_iff3.1 h1)
          have rw_2 := decide_eq_false (fun h => h2 (ent_iff.2 h))
          refine sg S (.lt (by omega) rfl rfl <| .z) fun a w S => wp_seq_k fun _ hK5 => st_then S (.t rfl) (wp_skip (then_normal (hK5 _ _ (wp_seq_k fun _ hK5 => wp_block (wp_seq_k fun _ hK6 => wp_region_lit (run S (.ix underlying33 sizeOf71 (by omega) rfl rfl <| .yy (ys_ldOA ⟨isAgg71, sizeOf71⟩ (.t rfl) (vs := [_, _, _, _, _, _]) rfl (fun _ => hc')) rfl <| .z) fun a w S => st_m (op_alloc S zeroValue71 (cs := _) rfl rfl fun g8 a w S => st_m (op_stW S sizeOf71 (.t rfl) (.t rfl) (k := 0) rfl rfl rfl (by simp [Value.oneCell']) fun a w S => st_nil (then_normal (hK6 _ _ (wp_seq_k fun _ hK6 => wp_region_lit (run S (.fa underlying71 sizeOf58 1 rfl rfl rfl <| .la gt58 1 rfl rfl rfl <| .fa underlying71 sizeOf58 1 rfl rfl rfl <| .la gt58 0 rfl rfl rfl <| .yy (ys_eqA (.t rfl) (.t rfl) eq58) rfl <| .z) fun a w S => ?_))))))))))))
          rw [rw_1] at S
          refine run S (.mv rfl <| .gy rfl rfl (ys_ldA ⟨isAgg71, sizeOf71⟩ (.t rfl) (k := 1) rfl rfl) <| .gy rfl rfl (ys_ldA ⟨isAgg71, sizeOf71⟩ (.t rfl) (k := 0) rfl rfl) <| .gy rfl rfl (ys_neA (.t rfl) (.t rfl) eq71) <| .z) fun a w S => ?_
          rw [rw_2] at S
          refine run S (.yy (ys_pickT (.t rfl) (.t rfl)) rfl <| .z) fun a w S => st_nil (then_normal (hK6 _ _ (st_then S (.t rfl) (wp_seq_k fun _ hK6 => wp_region_lit (run S (.yy (ys_bld (ps := []) (us := [_, _, _]) bld39 .nil rfl) rfl <| .z) fun a w S => st_m (op_stW S sizeOf39 (.t rfl) (.t rfl) (k := 6) rfl rfl rfl (by simp [Value.oneCell']) fun a w S => run S (.ac rfl <| .z) fun a w S => st_nil (then_normal (hK6 _ _ (wp_ret (in_ret (then_ret (then_ret (in_ret (in_ret (then_ret (then_ret (in_ret (then_ret (st_ret S (results2 S results34 (Rv.cell (k := 6) ⟨isAgg39, sizeOf39⟩ rfl rfl rfl) (Rv.tmp rfl)) ?_)))))))))))))))))))
          have hcl : clashE X Y := ⟨x, List.mem_of_getElem? hx, y, List.mem_of_getElem? hy, h1, h2⟩
          rw [if_pos hcl] at eJ
          rw [eJ]
          exact ⟨_, _, rfl, (((S.nil_ 58 3 Dot.enc none).nil_ 122 3 Dot.enc none).nil_ 71 6 Ent.enc none).wd.sub (by repeat (first | exact List.Sublist.refl _ | exact List.nil_sublist _ | refine .cons_cons _ ?_ | refine .cons _ ?_)), none, 0, none, 0, none, 0, rfl, rfl⟩
      · have rw_1 := decide_eq_false (fun h => h1 (dot_iff3.2 h))
        refine sg S (.lt (by omega) rfl rfl <| .z) fun a w S => wp_seq_k fun _ hK5 => st_then S (.t rfl) (wp_skip (then_normal (hK5 _ _ (wp_seq_k fun _ hK5 => wp_block (wp_seq_k fun _ hK6 => wp_region_lit (run S (.ix underlying33 sizeOf71 (by omega) rfl rfl <| .yy (ys_ldOA ⟨isAgg71, sizeOf71⟩ (.t rfl) (vs := [_, _, _, _, _, _]) rfl (fun _ => hc')) rfl <| .z) fun a w S => st_m (op_alloc S zeroValue71 (cs := _) rfl rfl fun g8 a w S => st_m (op_stW S sizeOf71 (.t rfl) (.t rfl) (k := 0) rfl rfl rfl (by simp [Value.oneCell']) fun a w S => st_nil (then_normal (hK6 _ _ (wp_seq_k fun _ hK6 => wp_region_lit (run S (.fa underlying71 sizeOf58 1 rfl rfl rfl <| .la gt58 1 rfl rfl rfl <| .fa underlying71 sizeOf58 1 rfl rfl rfl <| .la gt58 0 rfl rfl rfl <| .yy (ys_eqA (.t rfl) (.t rfl) eq58) rfl <| .z) fun a w S => ?_))))))))))))
        rw [rw_1] at S
        refine run S (.mv rfl <| .sk rfl rfl rfl <| .sk rfl rfl rfl <| .sk rfl rfl rfl <| .yy (ys_pickF (.t rfl) Ev.c) rfl <| .z) fun a w S => st_nil (then_normal (hK6 _ _ (st_else S (.t rfl) (wp_skip (in_normal (then_normal (hK5 _ _ (wp_region_lit (run S (.ad (by unfold I64; omega) rfl <| .mv rfl <| .z) fun a w S => st_nil (then_normal ?_))))))))))
        refine ⟨m + 1, ⟨by omega, fun z hz hzd => ?_⟩, by omega, S.pk⟩
        rw [List.take_add_one, hy, Option.toList_some] at hz
        rcases List.mem_append.1 hz with hz | hz
        · exact hno2 z hz hzd
        · simp at hz; subst hz; exact absurd hzd h1
    · obtain rfl : m = Y.ents.length := by omega
      rw [List.take_length] at hno2
      refine sg S (.ge (by omega) rfl rfl <| .z) fun a w S => wp_seq_k fun _ hK5 => st_else S (.t rfl) (wp_exit (then_exit (then_exit (in_here (in_normal (then_normal (hK4 _ _ (wp_region_lit (run S (.ad (by unfold I64; omega) rfl <| .mv rfl <| .z) fun a w S => st_nil (then_normal ?_))))))))))
      refine ⟨k + 1, ⟨by omega, fun z hz => ?_⟩, by omega, S.pk⟩
      rw [List.take_add_one, hx, Option.toList_some] at hz
      rcases List.mem_append.1 hz with hz | hz
      · exact hno z hz
      · simp at hz; subst hz; exact hno2
  obtain rfl : k = X.ents.length := by omega
  rw [List.take_length] at hno
  have hcl : ¬ clashE X Y := fun ⟨x, hx, y, hy, h1, h2⟩ => h2 (hno x hx y hy h1)
  rw [if_neg hcl] at eJ
  refine sg S (.ge (by omega) rfl rfl <| .z) fun a w S => wp_seq_k fun _ hK4 => st_else S (.t rfl) (wp_exit (then_exit (then_exit (in_here (then_normal (hK1 _ _ (wp_seq_k fun _ hK1 => wp_region_lit (run S (.la gt39 1 rfl rfl rfl <| .z) fun a w S => st_m (op_stW S sizeOf39 (.t rfl) (.t rfl) (k := 4) rfl rfl rfl (by simp [Value.oneCell']) fun a w S => run S (.ac rfl <| .z) fun a w S => st_nil (then_normal (hK1 _ _ (wp_ret (st_ret S (results2 S results34 (Rv.cell (k := 4) ⟨isAgg39, sizeOf39⟩ rfl rfl rfl) (Rv.tmp rfl)) ?_)))))))))))))
  rw [eJ]
  exact ⟨_, _, rfl, S.wd.pk, _, _, _, _, _, _, rfl, rfl⟩
end Go.Proofs.YtfblmkocmnbdcaaGreat
set_option linter.unusedVariables false
set_option linter.unusedSimpArgs false
set_option maxRecDepth 100000
set_option maxHeartbeats 4000000
namespace Go.Fw
theorem cart_same {X Y : Cart} : (decide (X.ents = Y.ents) && decide (X.ctx = Y.ctx)) = decide (X = Y) := by
  cases X; cases Y; simp
theorem any_no {α : Type} {p : α → Bool} {l : List α} {k : Nat} {x : α} (h : l[k]? = some x) (hn : (l.take k).any p = false) (hp : p x = false) : (l.take (k + 1)).any p = false := by
  rw [List.take_add_one, h, Option.toList_some, List.any_append, hn]
  simp [hp]
theorem any_yes {α : Type} {p : α → Bool} {l : List α} {k : Nat} {x : α} (h : l[k]? = some x) (hp : p x = true) : l.any p = true := List.any_eq_true.2 ⟨x, List.mem_of_getElem? h, hp⟩
theorem all_more {α : Type} {p : α → Bool} {l : List α} {k : Nat} {x : α} (h : l[k]? = some x) (hn : (l.take k).all p = true) (hp : p x = true) : (l.take (k + 1)).all p = true := by
  rw [List.take_add_one, h, Option.toList_some, List.all_append, hn]
  simp [hp]
theorem all_not {α : Type} {p : α → Bool} {l : List α} {k : Nat} {x : α} (h : l[k]? = some x) (hp : p x = false) : l.all p = false := by
  rw [← Bool.not_eq_true, List.all_eq_true]
  intro hn
  rw [hn x (List.mem_of_getElem? h)] at hp
  cases hp
def lackB (a : Cart) (x : Ent) : Bool := !a.ctx.covers x.dot || decide (x ∈ a.ents)
theorem leq_all (a b : Cart) : leqK a b = (leqL a.ctx b.ctx && b.ents.all (lackB a)) := rfl
end Go.Fw
namespace Go.Proofs.YtfblmkocmnbdcaaGreat
open Go.Fw Go.Proofs Go.RowKit Go.Proofs.Tryz
theorem c50 (w0 : World) (v1 v2 v3 : Value) (X : Cart) (p q : Int) (h : Sl Ent.enc 6 w0 w0.heap.size v1 X.ents) (hr : RdCtx w0 w0.heap.size v2 v3 X.ctx) (hl1 : X.ents.length ≤ 1048576) (hl2 : X.ctx.marks.length ≤ 1048576) (hl3 : X.ctx.cloud.length ≤ 1048576) :
    Rets Tryz.prog 50 #[.agg #[v1, v2, v3], .agg #[.int .i64 p, .int .i64 q]] w0 fun v L => ∃ A1 r1 A2 r2 A3 r3, v = .agg #[.slice A1 (pruneK X p q).ents.length r1, .slice A2 (pruneK X p q).ctx.marks.length r2, .slice A3 (pruneK X p q).ctx.cloud.length r3] ∧
      L = [rowOf 71 6 Ent.enc A1 r1 (pruneK X p q).ents, rowOf 122 3 Dot.enc A2 r2 (pruneK X p q).ctx.marks, rowOf 58 3 Dot.enc A3 r3 (pruneK X p q).ctx.cloud] := by
  have hs := h
  have hrr := hr
  obtain ⟨A, cap, rfl, hl, hcap, hA⟩ := h
  obtain ⟨⟨A2, cap2, rfl, _⟩, ⟨A3, cap3, rfl, _⟩⟩ := hr
  unfold Go.Fw.Rets
  refine enter2 func50 rfl ntmps50 rfl fun a S => wp_seq_k fun _ hK1 => wp_region_lit (st_m (op_box S (.t rfl) rfl fun g1 a w S => st_m (op_box S (.t rfl) rfl fun g2 a w S => st_m (op_alloc S zeroValue39 (cs := _) rfl rfl fun g3 a w S => st_nil (then_normal (hK1 _ _ (wp_seq_k fun _ hK1 => wp_region_lit (run S (.fa underlying39 sizeOf37 1 rfl rfl rfl <| .la gt37 2 rfl rfl rfl <| .la gt77 1 rfl rfl rfl <| .z) fun a w S => ?_))))))))
  (refine st_m (op_calls S call107 (.cons (.t rfl) (.cons (.t rfl) .nil)) (c107 _ _ _ _ _ _ (by exact .old S.wd (by assumption)) (by assumption) (by assumption)) rfl ?_); clear S a w; rintro _ _ ⟨A11, r11, A21, r21, rfl, rfl⟩ a w S)
  refine run S (.yy (ys_bld (ps := [(1, Go.Operand.tmp 11)]) (us := [_, _, _]) bld39 (.cons (.t rfl) .nil) rfl) rfl <| .z) fun a w S => st_m (op_alloc S zeroValue39 (cs := _) rfl rfl fun g4 a w S => st_m (op_stW S sizeOf39 (.t rfl) (.t rfl) (k := 0) rfl rfl rfl (by simp [Value.oneCell']) fun a w S => st_nil (then_normal (hK1 _ _ (wp_seq_k fun _ hK1 => sg S (.fa underlying39 sizeOf33 0 rfl rfl rfl <| .ld gt33 5 rfl rfl rfl <| .ln underlying33 rfl <| .mc rfl <| .z) fun a w S => wp_block ?_)))))
  refine st_lpM (S.nil_ 71 6 Ent.enc none) [16] (X := Nat × Option Addr × Nat) (fun t => [(16, true, .int .i64 (t.1 : Int))])
    (fun t => [rowOf 71 6 Ent.enc t.2.1 t.2.2 (keepE p q (X.ents.take t.1)), .blk g4 (.cells #[.slice t.2.1 (keepE p q (X.ents.take t.1)).length t.2.2, .slice A11 (keep p q X.ctx.marks).length r11, .slice A21 (keep p q X.ctx.cloud).length r21] 39), rowOf 58 3 Dot.enc A21 r21 (keep p q X.ctx.cloud), rowOf 122 3 Dot.enc A11 r11 (keep p q X.ctx.marks), .blk g3 (.cells #[.slice none 0 0, .slice none 0 0, .slice none 0 0] 39), .blk g2 (.cells #[.int .i64 p, .int .i64 q] 77), .blk g1 (.cells #[.slice A X.ents.length cap, .slice A2 X.ctx.marks.length cap2, .slice A3 X.ctx.cloud.length cap3] 39)])
    (fun t => t.1 ≤ X.ents.length) (fun t => X.ents.length - t.1) (0, none, 0) (Nat.zero_le _) ?_
  clear S
  rintro ⟨k, D, cD⟩ a w hk S
  dsimp only at hk S
  have hol : (keepE p q (X.ents.take k)).length ≤ X.ents.length := filter_take _ X.ents k
  by_cases hlt : k < X.ents.length
  · obtain ⟨g, o, x, rfl, hx, hd, hc⟩ := row_at hA hlt
    refine sg S (.lt (by omega) rfl rfl <| .z) fun a w S => wp_seq_k fun _ hK2 => st_then S (.t rfl) (wp_skip (then_normal (hK2 _ _ (wp_seq_k fun _ hK2 => wp_block (wp_seq_k fun _ hK3 => wp_region_lit (run S (.ix underlying33 sizeOf71 (by omega) rfl rfl <| .yy (ys_ldOA ⟨isAgg71, sizeOf71⟩ (.t rfl) (vs := [_, _, _, _, _, _]) rfl (fun _ => hc)) rfl <| .z) fun a w S => st_m (op_alloc S zeroValue71 (cs := _) rfl rfl fun g5 a w S => st_m (op_stW S sizeOf71 (.t rfl) (.t rfl) (k := 0) rfl rfl rfl (by simp [Value.oneCell']) fun a w S => st_nil (then_normal (hK3 _ _ (wp_seq_k fun _ hK3 => wp_region_lit (run S (.fa underlying71 sizeOf58 1 rfl rfl rfl <| .fa underlying58 sizeOf3 1 rfl rfl rfl <| .ld gt3 0 rfl rfl rfl <| .fa underlying77 sizeOf3 0 rfl rfl rfl <| .ld gt3 6 rfl rfl rfl <| .yy (ys_neq (.t rfl) (.t rfl)) rfl <| .mv rfl <| .z) fun a w S => st_yf S rfl rfl (Yr.ys (ys_fieldN (FieldT.mk underlying71 rfl sizeOf58 rfl) (.t rfl) (i' := 1) rfl)) rfl fun a w S => st_yf S rfl rfl (Yr.ys (ys_fieldN (FieldT.mk underlying58 rfl sizeOf3 rfl) (Ev.g rfl) (i' := 2) rfl)) rfl fun a w S => st_yf S rfl rfl (Yr.ys (ys_ld ⟨isAgg3, sizeOf3⟩ (Ev.g rfl) (k := 0) rfl rfl)) rfl fun a w S => st_yf S rfl rfl (Yr.ys (ys_fieldN (FieldT.mk underlying77 rfl sizeOf3 rfl) (.t rfl) (i' := 1) rfl)) rfl fun a w S => ?_))))))))))))
    refine st_yf S rfl rfl (Yr.ys (ys_ld ⟨isAgg3, sizeOf3⟩ (Ev.g rfl) (k := 6) rfl rfl)) rfl fun a w S => st_yf S rfl rfl (Yr.ys (ys_neq (Ev.g rfl) (Ev.g rfl))) rfl fun a w S => run S (.yy (ys_or (.t rfl) Ev.c (Ev.g rfl)) rfl <| .z) fun a w S => st_nil (then_normal (hK3 _ _ ?_))
    refine st_cond S (.t rfl) (fun h1 => ?_) (fun h1 => ?_)
    refine wp_region_lit (run S (.fa underlying39 sizeOf33 0 rfl rfl rfl <| .ld gt33 2 rfl rfl rfl <| .la gt71 0 rfl rfl rfl <| .z) fun a w S => st_m (op_bslice1 S underlying33 inf71 rfl rfl rfl (.t rfl) rfl rfl rfl fun g6 a w S => st_m (op_push S underlying33 inf71 rfl (k := 2) (j := 0) rfl (.t rfl) (.t rfl) rfl rfl rfl rfl (by first | omega | (simp only [List.length_append, List.length_cons, List.length_nil]; omega)) rfl rfl rfl fun A1 cap1 a w S => run S (.fa underlying39 sizeOf33 0 rfl rfl rfl <| .z) fun a w S => st_m (op_st S sizeOf33 (.t rfl) (.t rfl) (k := 3) rfl rfl (by simp) fun a w S => st_nil (in_normal (then_normal (hK2 _ _ (wp_region_lit (run S (.ad (by unfold I64; omega) rfl <| .mv rfl <| .z) fun a w S => st_nil (then_normal ?_))))))))))
    rotate_left
    refine wp_skip (in_normal (then_normal (hK2 _ _ (wp_region_lit (run S (.ad (by unfold I64; omega) rfl <| .mv rfl <| .z) fun a w S => st_nil (then_normal ?_))))))
    rotate_left
    · have hst : keepE p q (X.ents.take (k + 1)) = keepE p q (X.ents.take k) ++ [x] := filter_yes hx (by simp at h1 ⊢; omega)
      exact ⟨(k + 1, A1, cap1), by dsimp only; omega, by dsimp only; omega, by dsimp only; rw [hst]; exact S.pk⟩
    · have hst : keepE p q (X.ents.take (k + 1)) = keepE p q (X.ents.take k) := filter_no hx (by simp at h1 ⊢; omega)
      exact ⟨(k + 1, D, cD), by dsimp only; omega, by dsimp only; omega, by dsimp only; rw [hst]; exact S.pk⟩
  obtain rfl : k = X.ents.length := by omega
  rw [List.take_length] at S
  refine sg S (.ge (by omega) rfl rfl <| .z) fun a w S => wp_seq_k fun _ hK2 => st_else S (.t rfl) (wp_exit (then_exit (then_exit (in_here (then_normal (hK1 _ _ (wp_seq_k fun _ hK1 => wp_region_lit (run S (.la gt39 1 rfl rfl rfl <| .z) fun a w S => st_m (op_stW S sizeOf39 (.t rfl) (.t rfl) (k := 4) rfl rfl rfl (by simp [Value.oneCell']) fun a w S => st_nil (then_normal (hK1 _ _ (wp_ret (st_ret S (results1 S results50 (Rv.cell (k := 4) ⟨isAgg39, sizeOf39⟩ rfl rfl rfl)) ?_)))))))))))))
  exact ⟨_, _, rfl, S.wd.pk, _, _, _, _, _, _, rfl, rfl⟩
theorem c51 (w0 : World) (v1 v2 v3 : Value) (X : Cart) (p q : Int) (h : Sl Ent.enc 6 w0 w0.heap.size v1 X.ents) (hr : RdCtx w0 w0.heap.size v2 v3 X.ctx) (hl1 : X.ents.length ≤ 1048576) (hl2 : X.ctx.marks.length ≤ 1048576) (hl3 : X.ctx.cloud.length ≤ 1048576) :
    Rets Tryz.prog 51 #[.agg #[v1, v2, v3], .agg #[.int .i64 p, .int .i64 q]] w0 fun v L => ∃ A1 r1 A2 r2 A3 r3, v = .agg #[.slice A1 (pruneK X p q).ents.length r1, .slice A2 (pruneK X p q).ctx.marks.length r2, .slice A3 (pruneK X p q).ctx.cloud.length r3] ∧
      L = [rowOf 71 6 Ent.enc A1 r1 (pruneK X p q).ents, rowOf 122 3 Dot.enc A2 r2 (pruneK X p q).ctx.marks, rowOf 58 3 Dot.enc A3 r3 (pruneK X p q).ctx.cloud] := by
  have hs := h
  have hrr := hr
  obtain ⟨A, cap, rfl, hl, hcap, hA⟩ := h
  obtain ⟨⟨A2, cap2, rfl, _⟩, ⟨A3, cap3, rfl, _⟩⟩ := hr
  unfold Go.Fw.Rets
  refine enter2 func51 rfl ntmps51 rfl fun a S => wp_seq_k fun _ hK1 => wp_region_lit (st_m (op_box S (.t rfl) rfl fun g1 a w S => st_m (op_box S (.t rfl) rfl fun g2 a w S => st_m (op_alloc S zeroValue39 (cs := _) rfl rfl fun g3 a w S => st_nil (then_normal (hK1 _ _ (wp_seq_k fun _ hK1 => wp_region_lit (run S (.fa underlying39 sizeOf37 1 rfl rfl rfl <| .la gt37 2 rfl rfl rfl <| .la gt77 1 rfl rfl rfl <| .z) fun a w S => ?_))))))))
  (refine st_m (op_calls S call108 (.cons (.t rfl) (.cons (.t rfl) .nil)) (c108 _ _ _ _ _ _ (by exact .old S.wd (by assumption)) (by assumption) (by assumption)) rfl ?_); clear S a w; rintro _ _ ⟨A11, r11, A21, r21, rfl, rfl⟩ a w S)
  refine run S (.yy (ys_bld (ps := [(1, Go.Operand.tmp 11)]) (us := [_, _, _]) bld39 (.cons (.t rfl) .nil) rfl) rfl <| .z) fun a w S => st_m (op_alloc S zeroValue39 (cs := _) rfl rfl fun g4 a w S => st_m (op_stW S sizeOf39 (.t rfl) (.t rfl) (k := 0) rfl rfl rfl (by simp [Value.oneCell']) fun a w S => st_nil (then_normal (hK1 _ _ (wp_seq_k fun _ hK1 => sg S (.fa underlying39 sizeOf33 0 rfl rfl rfl <| .ld gt33 5 rfl rfl rfl <| .ln underlying33 rfl <| .mc rfl <| .z) fun a w S => wp_block ?_)))))
  refine st_lpM (S.nil_ 71 6 Ent.enc none) [16] (X := Nat × Option Addr × Nat) (fun t => [(16, true, .int .i64 (t.1 : Int))])
    (fun t => [rowOf 71 6 Ent.enc t.2.1 t.2.2 (keepE p q (X.ents.take t.1)), .blk g4 (.cells #[.slice t.2.1 (keepE p q (X.ents.take t.1)).length t.2.2, .slice A11 (keep p q X.ctx.marks).length r11, .slice A21 (keep p q X.ctx.cloud).length r21] 39), rowOf 58 3 Dot.enc A21 r21 (keep p q X.ctx.cloud), rowOf 122 3 Dot.enc A11 r11 (keep p q X.ctx.marks), .blk g3 (.cells #[.slice none 0 0, .slice none 0 0, .slice none 0 0] 39), .blk g2 (.cells #[.int .i64 p, .int .i64 q] 77), .blk g1 (.cells #[.slice A X.ents.length cap, .slice A2 X.ctx.marks.length cap2, .slice A3 X.ctx.cloud.length cap3] 39)])
    (fun t => t.1 ≤ X.ents.length) (fun t => X.ents.length - t.1) (0, none, 0) (Nat.zero_le _) ?_
  clear S
  rintro ⟨k, D, cD⟩ a w hk S
  dsimp only at hk S
  have hol : (keepE p q (X.ents.take k)).length ≤ X.ents.length := filter_take _ X.ents k
  by_cases hlt : k < X.ents.length
  · obtain ⟨g, o, x, rfl, hx, hd, hc⟩ := row_at hA hlt
    refine sg S (.lt (by omega) rfl rfl <| .z) fun a w S => wp_seq_k fun _ hK2 => st_then S (.t rfl) (wp_skip (then_normal (hK2 _ _ (wp_seq_k fun _ hK2 => wp_block (wp_seq_k fun _ hK3 => wp_region_lit (run S (.ix underlying33 sizeOf71 (by omega) rfl rfl <| .yy (ys_ldOA ⟨isAgg71, sizeOf71⟩ (.t rfl) (vs := [_, _, _, _, _, _]) rfl (fun _ => hc)) rfl <| .z) fun a w S => st_m (op_alloc S zeroValue71 (cs := _) rfl rfl fun g5 a w S => st_m (op_stW S sizeOf71 (.t rfl) (.t rfl) (k := 0) rfl rfl rfl (by simp [Value.oneCell']) fun a w S => st_nil (then_normal (hK3 _ _ (wp_seq_k fun _ hK3 => wp_region_lit (run S (.fa underlying71 sizeOf58 1 rfl rfl rfl <| .fa underlying58 sizeOf3 1 rfl rfl rfl <| .ld gt3 0 rfl rfl rfl <| .fa underlying77 sizeOf3 0 rfl rfl rfl <| .ld gt3 6 rfl rfl rfl <| .yy (ys_neq (.t rfl) (.t rfl)) rfl <| .mv rfl <| .z) fun a w S => st_yf S rfl rfl (Yr.ys (ys_fieldN (FieldT.mk underlying71 rfl sizeOf58 rfl) (.t rfl) (i' := 1) rfl)) rfl fun a w S => st_yf S rfl rfl (Yr.ys (ys_fieldN (FieldT.mk underlying58 rfl sizeOf3 rfl) (Ev.g rfl) (i' := 2) rfl)) rfl fun a w S => st_yf S rfl rfl (Yr.ys (ys_ld ⟨isAgg3, sizeOf3⟩ (Ev.g rfl) (k := 0) rfl rfl)) rfl fun a w S => st_yf S rfl rfl (Yr.ys (ys_fieldN (FieldT.mk underlying77 rfl sizeOf3 rfl) (.t rfl) (i' := 1) rfl)) rfl fun a w S => ?_))))))))))))
    refine st_yf S rfl rfl (Yr.ys (ys_ld ⟨isAgg3, sizeOf3⟩ (Ev.g rfl) (k := 6) rfl rfl)) rfl fun a w S => st_yf S rfl rfl (Yr.ys (ys_neq (Ev.g rfl) (Ev.g rfl))) rfl fun a w S => run S (.yy (ys_or (.t rfl) Ev.c (Ev.g rfl)) rfl <| .z) fun a w S => st_nil (then_normal (hK3 _ _ ?_))
    refine st_cond S (.t rfl) (fun h1 => ?_) (fun h1 => ?_)
    refine wp_region_lit (run S (.fa underlying39 sizeOf33 0 rfl rfl rfl <| .ld gt33 2 rfl rfl rfl <| .la gt71 0 rfl rfl rfl <| .z) fun a w S => st_m (op_bslice1 S underlying33 inf71 rfl rfl rfl (.t rfl) rfl rfl rfl fun g6 a w S => st_m (op_push S underlying33 inf71 rfl (k := 2) (j := 0) rfl (.t rfl) (.t rfl) rfl rfl rfl rfl (by first | omega | (simp only [List.length_append, List.length_cons, List.length_nil]; omega)) rfl rfl rfl fun A1 cap1 a w S => run S (.fa underlying39 sizeOf33 0 rfl rfl rfl <| .z) fun a w S => st_m (op_st S sizeOf33 (.t rfl) (.t rfl) (k := 3) rfl rfl (by simp) fun a w S => st_nil (in_normal (then_normal (hK2 _ _ (wp_region_lit (run S (.ad (by unfold I64; omega) rfl <| .mv rfl <| .z) fun a w S => st_nil (then_normal ?_))))))))))
    rotate_left
    refine wp_skip (in_normal (then_normal (hK2 _ _ (wp_region_lit (run S (.ad (by unfold I64; omega) rfl <| .mv rfl <| .z) fun a w S => st_nil (then_normal ?_))))))
    rotate_left
    · have hst : keepE p q (X.ents.take (k + 1)) = keepE p q (X.ents.take k) ++ [x] := filter_yes hx (by simp at h1 ⊢; omega)
      exact ⟨(k + 1, A1, cap1), by dsimp only; omega, by dsimp only; omega, by dsimp only; rw [hst]; exact S.pk⟩
    · have hst : keepE p q (X.ents.take (k + 1)) = keepE p q (X.ents.take k) := filter_no hx (by simp at h1 ⊢; omega)
      exact ⟨(k + 1, D, cD), by dsimp only; omega, by dsimp only; omega, by dsimp only; rw [hst]; exact S.pk⟩
  obtain rfl : k = X.ents.length := by omega
  rw [List.take_length] at S
  refine sg S (.ge (by omega) rfl rfl <| .z) fun a w S => wp_seq_k fun _ hK2 => st_else S (.t rfl) (wp_exit (then_exit (then_exit (in_here (then_normal (hK1 _ _ (wp_seq_k fun _ hK1 => wp_region_lit (run S (.la gt39 1 rfl rfl rfl <| .z) fun a w S => st_m (op_stW S sizeOf39 (.t rfl) (.t rfl) (k := 4) rfl rfl rfl (by simp [Value.oneCell']) fun a w S => st_nil (then_normal (hK1 _ _ (wp_ret (st_ret S (results1 S results51 (Rv.cell (k := 4) ⟨isAgg39, sizeOf39⟩ rfl rfl rfl)) ?_)))))))))))))
  exact ⟨_, _, rfl, S.wd.pk, _, _, _, _, _, _, rfl, rfl⟩
theorem c48 (w0 : World) (v1 : Value) (A2 A3 : Option Addr) (n2 c2 n3 c3 : Nat) (l : List Ent) (p q : Int) (h : Sl Ent.enc 6 w0 w0.heap.size v1 l) :
    Calls Tryz.prog 48 #[.agg #[v1, .slice A2 n2 c2, .slice A3 n3 c3], .agg #[.int .i64 p, .int .i64 q]] w0 fun e w' => e = .returned (.bool (l.any fun x => decide (x.dot.node = p ∧ x.dot.life = q))) ∧ Bel w0.heap.size w0 w' := by
  obtain ⟨A, cap, rfl, hl, hcap, hA⟩ := h
  refine enter2 func48 rfl ntmps48 rfl fun a S => wp_seq_k fun _ hK1 => wp_region_lit (st_m (op_box S (.t rfl) rfl fun g1 a w S => st_m (op_box S (.t rfl) rfl fun g2 a w S => run S (.ac rfl <| .z) fun a w S => st_nil (then_normal (hK1 _ _ (wp_seq_k fun _ hK1 => sg S (.fa underlying39 sizeOf33 0 rfl rfl rfl <| .ld gt33 1 rfl rfl rfl <| .ln underlying33 rfl <| .mc rfl <| .z) fun a w S => wp_block ?_))))))
  refine st_lpM S [10] (X := Nat) (fun k => [(10, true, .int .i64 (k : Int))]) (fun _ => [.blk g2 (.cells #[.int .i64 p, .int .i64 q] 77), .blk g1 (.cells #[.slice A l.length cap, .slice A2 n2 c2, .slice A3 n3 c3] 39)])
    (fun k => k ≤ l.length ∧ ((l.take k).any fun x => decide (x.dot.node = p ∧ x.dot.life = q)) = false) (fun k => l.length - k) 0 ⟨Nat.zero_le _, by simp⟩ ?_
  clear S
  rintro k a w ⟨hk, hno⟩ S
  by_cases hlt : k < l.length
  · obtain ⟨g, o, x, rfl, hx, hd, hc⟩ := row_at hA hlt
    refine sg S (.lt (by omega) rfl rfl <| .z) fun a w S => wp_seq_k fun _ hK2 => st_then S (.t rfl) (wp_skip (then_normal (hK2 _ _ (wp_seq_k fun _ hK2 => wp_block (wp_seq_k fun _ hK3 => wp_region_lit (run S (.ix underlying33 sizeOf71 (by omega) rfl rfl <| .yy (ys_ldOA ⟨isAgg71, sizeOf71⟩ (.t rfl) (vs := [_, _, _, _, _, _]) rfl (fun _ => hc)) rfl <| .z) fun a w S => st_m (op_alloc S zeroValue71 (cs := _) rfl rfl fun g3 a w S => st_m (op_stW S sizeOf71 (.t rfl) (.t rfl) (k := 0) rfl rfl rfl (by simp [Value.oneCell']) fun a w S => st_nil (then_normal (hK3 _ _ (wp_seq_k fun _ hK3 => wp_region_lit (run S (.fa underlying71 sizeOf58 1 rfl rfl rfl <| .fa underlying58 sizeOf3 1 rfl rfl rfl <| .ld gt3 0 rfl rfl rfl <| .fa underlying77 sizeOf3 0 rfl rfl rfl <| .ld gt3 1 rfl rfl rfl <| .yy (ys_eql (.t rfl) (.t rfl)) rfl <| .mv rfl <| .z) fun a w S => st_yg S rfl rfl (Yr.ys (ys_fieldN (FieldT.mk underlying71 rfl sizeOf58 rfl) (.t rfl) (i' := 1) rfl)) rfl fun a w S => st_yg S rfl rfl (Yr.ys (ys_fieldN (FieldT.mk underlying58 rfl sizeOf3 rfl) (Ev.g rfl) (i' := 2) rfl)) rfl fun a w S => st_yg S rfl rfl (Yr.ys (ys_ld ⟨isAgg3, sizeOf3⟩ (Ev.g rfl) (k := 0) rfl rfl)) rfl fun a w S => st_yg S rfl rfl (Yr.ys (ys_fieldN (FieldT.mk underlying77 rfl sizeOf3 rfl) (.t rfl) (i' := 1) rfl)) rfl fun a w S => ?_))))))))))))
    refine st_yg S rfl rfl (Yr.ys (ys_ld ⟨isAgg3, sizeOf3⟩ (Ev.g rfl) (k := 1) rfl rfl)) rfl fun a w S => st_yg S rfl rfl (Yr.ys (ys_eql (Ev.g rfl) (Ev.g rfl))) rfl fun a w S => run S (.yy (ys_and (.t rfl) (Ev.g rfl) Ev.c) rfl <| .z) fun a w S => st_nil (then_normal (hK3 _ _ ?_))
    refine st_cond S (.t rfl) (fun h1 => ?_) (fun h1 => ?_)
    refine sg S (.ac rfl <| .z) fun a w S => wp_ret (in_ret (then_ret (then_ret (in_ret (then_ret (st_ret S (results1 S results48 (Rv.tmp rfl)) ?_))))))
    rotate_left
    refine wp_skip (in_normal (then_normal (hK2 _ _ (wp_region_lit (run S (.ad (by unfold I64; omega) rfl <| .mv rfl <| .z) fun a w S => st_nil (then_normal ?_))))))
    rotate_left
    · exact ⟨by rw [any_yes hx (by simp at h1 ⊢; omega)], S.wd.below⟩
    · exact ⟨k + 1, ⟨by omega, any_no hx hno (by simp at h1 ⊢; omega)⟩, by omega, S.pk⟩
  obtain rfl : k = l.length := by omega
  rw [List.take_length] at hno
  refine sg S (.ge (by omega) rfl rfl <| .z) fun a w S => wp_seq_k fun _ hK2 => st_else S (.t rfl) (wp_exit (then_exit (then_exit (in_here (then_normal (hK1 _ _ (sg S (.ac rfl <| .z) fun a w S => wp_ret (st_ret S (results1 S results48 (Rv.tmp rfl)) ?_))))))))
  exact ⟨by rw [hno], S.wd.below⟩
theorem c49 (w0 : World) (v1 v2 v3 v4 v5 v6 : Value) (X Y : Cart) (h : Sl Ent.enc 6 w0 w0.heap.size v1 X.ents) (hr : RdCtx w0 w0.heap.size v2 v3 X.ctx) (h' : Sl Ent.enc 6 w0 w0.heap.size v4 Y.ents) (hr' : RdCtx w0 w0.heap.size v5 v6 Y.ctx) (hX : canL X.ctx = true) (hY : canL Y.ctx = true) :
    Calls Tryz.prog 49 #[.agg #[v1, v2, v3], .agg #[v4, v5, v6]] w0 fun e w' => e = .returned (.bool (leqK X Y)) ∧ Bel w0.heap.size w0 w' := by
  have hs := h
  have hrr := hr
  have hs' := h'
  have hrr' := hr'
  obtain ⟨A, cap, rfl, hl, hcap, hA⟩ := h
  obtain ⟨⟨A2, cap2, rfl, _⟩, ⟨A3, cap3, rfl, _⟩⟩ := hr
  obtain ⟨B, capB, rfl, hlB, hcapB, hB⟩ := h'
  obtain ⟨⟨B2, capB2, rfl, _⟩, ⟨B3, capB3, rfl, _⟩⟩ := hr'
  have hcX := can_nf hX
  have hcY := can_nf hY
  have rw_covX := can_covers hX
  cases hq : leqL X.ctx Y.ctx with
  | false =>
    have rw_l : leqR X.ctx Y.ctx = false := by rw [leqR_eq hcX hcY]; exact hq
    refine enter2 func49 rfl ntmps49 rfl fun a S => wp_seq_k fun _ hK1 => wp_region_lit (st_m (op_box S (.t rfl) rfl fun g1 a w S => st_m (op_box S (.t rfl) rfl fun g2 a w S => run S (.ac rfl <| .z) fun a w S => st_nil (then_normal (hK1 _ _ (wp_seq_k fun _ hK1 => wp_seq_k fun _ hK2 => wp_region_lit (run S (.fa underlying39 sizeOf37 1 rfl rfl rfl <| .la gt37 1 rfl rfl rfl <| .fa underlying39 sizeOf37 1 rfl rfl rfl <| .la gt37 0 rfl rfl rfl <| .xx (ys_call call106 (.cons (.t rfl) (.cons (.t rfl) .nil)) (fun hp w W => c106 _ _ _ _ _ _ _ (by exact .old W (by assumption)) (by exact .old W (by assumption)))) rfl <| .z) fun a w S => ?_)))))))
    rw [rw_l] at S
    refine run S (.nt rfl <| .z) fun a w S => st_nil (then_normal (hK2 _ _ (st_then S (.t rfl) (sg S (.ac rfl <| .z) fun a w S => wp_ret (then_ret (st_ret S (results1 S results49 (Rv.tmp rfl)) ?_))))))
    exact ⟨by rw [leq_all, hq]; rfl, S.wd.below⟩
  | true =>
  have rw_l : leqR X.ctx Y.ctx = true := by rw [leqR_eq hcX hcY]; exact hq
  refine enter2 func49 rfl ntmps49 rfl fun a S => wp_seq_k fun _ hK1 => wp_region_lit (st_m (op_box S (.t rfl) rfl fun g1 a w S => st_m (op_box S (.t rfl) rfl fun g2 a w S => run S (.ac rfl <| .z) fun a w S => st_nil (then_normal (hK1 _ _ (wp_seq_k fun _ hK1 => wp_seq_k fun _ hK2 => wp_region_lit (run S (.fa underlying39 sizeOf37 1 rfl rfl rfl <| .la gt37 1 rfl rfl rfl <| .fa underlying39 sizeOf37 1 rfl rfl rfl <| .la gt37 0 rfl rfl rfl <| .xx (ys_call call106 (.cons (.t rfl) (.cons (.t rfl) .nil)) (fun hp w W => c106 _ _ _ _ _ _ _ (by exact .old W (by assumption)) (by exact .old W (by assumption)))) rfl <| .z) fun a w S => ?_)))))))
  rw [rw_l] at S
  refine run S (.nt rfl <| .z) fun a w S => st_nil (then_normal (hK2 _ _ (st_else S (.t rfl) (wp_skip (then_normal (hK1 _ _ (wp_seq_k fun _ hK1 => sg S (.fa underlying39 sizeOf33 0 rfl rfl rfl <| .ld gt33 0 rfl rfl rfl <| .ln underlying33 rfl <| .mc rfl <| .z) fun a w S => wp_block ?_)))))))
  refine st_lpM S [16] (X := Nat) (fun k => [(16, true, .int .i64 (k : Int))]) (fun _ => [.blk g2 (.cells #[.slice B Y.ents.length capB, .slice B2 Y.ctx.marks.length capB2, .slice B3 Y.ctx.cloud.length capB3] 39), .blk g1 (.cells #[.slice A X.ents.length cap, .slice A2 X.ctx.marks.length cap2, .slice A3 X.ctx.cloud.length cap3] 39)])
    (fun k => k ≤ Y.ents.length ∧ (Y.ents.take k).all (lackB X) = true) (fun k => Y.ents.length - k) 0 ⟨Nat.zero_le _, by simp⟩ ?_
  clear S
  rintro k a w ⟨hk, hno⟩ S
  by_cases hlt : k < Y.ents.length
  · obtain ⟨g, o, x, rfl, hx, hd, hc⟩ := row_at hB hlt
    by_cases hcv : X.ctx.covers x.dot = true
    · have rw_c : X.ctx.covers ⟨x.dot.node, x.dot.life, x.dot.count⟩ = true := hcv
      by_cases hin : x ∈ X.ents
      · have rw_i := decide_eq_true hin
        refine sg S (.lt (by omega) rfl rfl <| .z) fun a w S => wp_seq_k fun _ hK2 => st_then S (.t rfl) (wp_skip (then_normal (hK2 _ _ (wp_seq_k fun _ hK2 => wp_block (wp_seq_k fun _ hK3 => wp_region_lit (run S (.ix underlying33 sizeOf71 (by omega) rfl rfl <| .yy (ys_ldOA ⟨isAgg71, sizeOf71⟩ (.t rfl) (vs := [_, _, _, _, _, _]) rfl (fun _ => hc)) rfl <| .z) fun a w S => st_m (op_alloc S zeroValue71 (cs := _) rfl rfl fun g3 a w S => st_m (op_stW S sizeOf71 (.t rfl) (.t rfl) (k := 0) rfl rfl rfl (by simp [Value.oneCell']) fun a w S => st_nil (then_normal (hK3 _ _ (wp_seq_k fun _ hK3 => wp_region_lit (run S (.fa underlying39 sizeOf37 1 rfl rfl rfl <| .la gt37 2 rfl rfl rfl <| .fa underlying71 sizeOf58 1 rfl rfl rfl <| .la gt58 0 rfl rfl rfl <| .xx (ys_call call37 (.cons (.t rfl) (.cons (.t rfl) .nil)) (fun hp w W => c37 _ _ _ _ _ _ _ (by exact .old W (by assumption)))) rfl <| .z) fun a w S => ?_))))))))))))
        rw [rw_covX] at S
        rw [rw_c] at S
        refine run S (.mv rfl <| .gy rfl rfl (ys_ldA ⟨isAgg39, sizeOf39⟩ (.t rfl) (k := 2) rfl rfl) <| .gy rfl rfl (ys_ldA ⟨isAgg71, sizeOf71⟩ (.t rfl) (k := 0) rfl rfl) <| .gx rfl rfl (ys_call call93 (.cons (.t rfl) (.cons (.t rfl) .nil)) (fun hp w W => c93 _ _ _ _ _ _ _ _ _ _ (by exact .old W (by assumption)))) <| .z) fun a w S => ?_
        rw [rw_i] at S
        refine run S (.gy rfl rfl (ys_not (.t rfl)) <| .yy (ys_pickT (.t rfl) (.t rfl)) rfl <| .z) fun a w S => st_nil (then_normal (hK3 _ _ (st_else S (.t rfl) (wp_skip (in_normal (then_normal (hK2 _ _ (wp_region_lit (run S (.ad (by unfold I64; omega) rfl <| .mv rfl <| .z) fun a w S => st_nil (then_normal ?_))))))))))
        exact ⟨k + 1, ⟨by omega, all_more hx hno (by simp [lackB, hin])⟩, by omega, S.pk⟩
      · have rw_i := decide_eq_false hin
        refine sg S (.lt (by omega) rfl rfl <| .z) fun a w S => wp_seq_k fun _ hK2 => st_then S (.t rfl) (wp_skip (then_normal (hK2 _ _ (wp_seq_k fun _ hK2 => wp_block (wp_seq_k fun _ hK3 => wp_region_lit (run S (.ix underlying33 sizeOf71 (by omega) rfl rfl <| .yy (ys_ldOA ⟨isAgg71, sizeOf71⟩ (.t rfl) (vs := [_, _, _, _, _, _]) rfl (fun _ => hc)) rfl <| .z) fun a w S => st_m (op_alloc S zeroValue71 (cs := _) rfl rfl fun g3 a w S => st_m (op_stW S sizeOf71 (.t rfl) (.t rfl) (k := 0) rfl rfl rfl (by simp [Value.oneCell']) fun a w S => st_nil (then_normal (hK3 _ _ (wp_seq_k fun _ hK3 => wp_region_lit (run S (.fa underlying39 sizeOf37 1 rfl rfl rfl <| .la gt37 2 rfl rfl rfl <| .fa underlying71 sizeOf58 1 rfl rfl rfl <| .la gt58 0 rfl rfl rfl <| .xx (ys_call call37 (.cons (.t rfl) (.cons (.t rfl) .nil)) (fun hp w W => c37 _ _ _ _ _ _ _ (by exact .old W (by assumption)))) rfl <| .z) fun a w S => ?_))))))))))))
        rw [rw_covX] at S
        rw [rw_c] at S
        refine run S (.mv rfl <| .gy rfl rfl (ys_ldA ⟨isAgg39, sizeOf39⟩ (.t rfl) (k := 2) rfl rfl) <| .gy rfl rfl (ys_ldA ⟨isAgg71, sizeOf71⟩ (.t rfl) (k := 0) rfl rfl) <| .gx rfl rfl (ys_call call93 (.cons (.t rfl) (.cons (.t rfl) .nil)) (fun hp w W => c93 _ _ _ _ _ _ _ _ _ _ (by exact .old W (by assumption)))) <| .z) fun a w S => ?_
        rw [rw_i] at S
        refine run S (.gy rfl rfl (ys_not (.t rfl)) <| .yy (ys_pickT (.t rfl) (.t rfl)) rfl <| .z) fun a w S => st_nil (then_normal (hK3 _ _ (st_then S (.t rfl) (sg S (.ac rfl <| .z) fun a w S => wp_ret (in_ret (then_ret (then_ret (in_ret (then_ret (st_ret S (results1 S results49 (Rv.tmp rfl)) ?_))))))))))
        exact ⟨by rw [leq_all, all_not hx (by simp [lackB, hin, hcv]), Bool.and_false], S.wd.below⟩
    · have hcv : X.ctx.covers x.dot = false := by simpa using hcv
      have rw_c : X.ctx.covers ⟨x.dot.node, x.dot.life, x.dot.count⟩ = false := hcv
      refine sg S (.lt (by omega) rfl rfl <| .z) fun a w S => wp_seq_k fun _ hK2 => st_then S (.t rfl) (wp_skip (then_normal (hK2 _ _ (wp_seq_k fun _ hK2 => wp_block (wp_seq_k fun _ hK3 => wp_region_lit (run S (.ix underlying33 sizeOf71 (by omega) rfl rfl <| .yy (ys_ldOA ⟨isAgg71, sizeOf71⟩ (.t rfl) (vs := [_, _, _, _, _, _]) rfl (fun _ => hc)) rfl <| .z) fun a w S => st_m (op_alloc S zeroValue71 (cs := _) rfl rfl fun g3 a w S => st_m (op_stW S sizeOf71 (.t rfl) (.t rfl) (k := 0) rfl rfl rfl (by simp [Value.oneCell']) fun a w S => st_nil (then_normal (hK3 _ _ (wp_seq_k fun _ hK3 => wp_region_lit (run S (.fa underlying39 sizeOf37 1 rfl rfl rfl <| .la gt37 2 rfl rfl rfl <| .fa underlying71 sizeOf58 1 rfl rfl rfl <| .la gt58 0 rfl rfl rfl <| .xx (ys_call call37 (.cons (.t rfl) (.cons (.t rfl) .nil)) (fun hp w W => c37 _ _ _ _ _ _ _ (by exact .old W (by assumption)))) rfl <| .z) fun a w S => ?_))))))))))))
      rw [rw_covX] at S
      rw [rw_c] at S
      refine run S (.mv rfl <| .sk rfl rfl rfl <| .sk rfl rfl rfl <| .sk rfl rfl rfl <| .sk rfl rfl rfl <| .yy (ys_pickF (.t rfl) Ev.c) rfl <| .z) fun a w S => st_nil (then_normal (hK3 _ _ (st_else S (.t rfl) (wp_skip (in_normal (then_normal (hK2 _ _ (wp_region_lit (run S (.ad (by unfold I64; omega) rfl <| .mv rfl <| .z) fun a w S => st_nil (then_normal ?_))))))))))
      exact ⟨k + 1, ⟨by omega, all_more hx hno (by simp [lackB, hcv])⟩, by omega, S.pk⟩
  obtain rfl : k = Y.ents.length := by omega
  rw [List.take_length] at hno
  refine sg S (.ge (by omega) rfl rfl <| .z) fun a w S => wp_seq_k fun _ hK2 => st_else S (.t rfl) (wp_exit (then_exit (then_exit (in_here (then_normal (hK1 _ _ (sg S (.ac rfl <| .z) fun a w S => wp_ret (st_ret S (results1 S results49 (Rv.tmp rfl)) ?_))))))))
  exact ⟨by rw [leq_all, hq, hno]; rfl, S.wd.below⟩
theorem c42 (w0 : World) (v1 v2 v3 v4 v5 v6 : Value) (X Y : Cart) (h : Sl Ent.enc 6 w0 w0.heap.size v1 X.ents) (hr : RdCtx w0 w0.heap.size v2 v3 X.ctx) (h' : Sl Ent.enc 6 w0 w0.heap.size v4 Y.ents) (hr' : RdCtx w0 w0.heap.size v5 v6 Y.ctx) (hX : canL X.ctx = true) (hY : canL Y.ctx = true) :
    Calls Tryz.prog 42 #[.agg #[v1, v2, v3], .agg #[v4, v5, v6]] w0 fun e w' => e = .returned (.bool (leqK X Y)) ∧ Bel w0.heap.size w0 w' := by
  have hs := h
  have hrr := hr
  have hs' := h'
  have hrr' := hr'
  obtain ⟨A, cap, rfl, hl, hcap, hA⟩ := h
  obtain ⟨⟨A2, cap2, rfl, _⟩, ⟨A3, cap3, rfl, _⟩⟩ := hr
  obtain ⟨B, capB, rfl, hlB, hcapB, hB⟩ := h'
  obtain ⟨⟨B2, capB2, rfl, _⟩, ⟨B3, capB3, rfl, _⟩⟩ := hr'
  have hmX := (can_nf hX).mayM
  have hmY := (can_nf hY).mayM
  have hcX := can_nf hX
  have hcY := can_nf hY
  have rw_covX := can_covers hX
  cases hq : leqL X.ctx Y.ctx with
  | false =>
    have rw_l : leqL X.ctx Y.ctx = false := hq
    refine enter2 func42 rfl ntmps42 rfl fun a S => wp_seq_k fun _ hK1 => wp_region_lit (st_m (op_box S (.t rfl) rfl fun g1 a w S => st_m (op_box S (.t rfl) rfl fun g2 a w S => run S (.ac rfl <| .z) fun a w S => st_nil (then_normal (hK1 _ _ (wp_seq_k fun _ hK1 => wp_seq_k fun _ hK2 => wp_region_lit (run S (.fa underlying39 sizeOf37 1 rfl rfl rfl <| .la gt37 1 rfl rfl rfl <| .fa underlying39 sizeOf37 1 rfl rfl rfl <| .la gt37 0 rfl rfl rfl <| .xx (ys_call call100 (.cons (.t rfl) (.cons (.t rfl) .nil)) (fun hp w W => c100 _ _ _ _ _ _ _ (by exact .old W (by assumption)) (by exact .old W (by assumption)) (by assumption) (by assumption))) rfl <| .z) fun a w S => ?_)))))))
    rw [rw_l] at S
    refine run S (.nt rfl <| .z) fun a w S => st_nil (then_normal (hK2 _ _ (st_then S (.t rfl) (sg S (.ac rfl <| .z) fun a w S => wp_ret (then_ret (st_ret S (results1 S results42 (Rv.tmp rfl)) ?_))))))
    exact ⟨by rw [leq_all, hq]; rfl, S.wd.below⟩
  | true =>
  have rw_l : leqL X.ctx Y.ctx = true := hq
  refine enter2 func42 rfl ntmps42 rfl fun a S => wp_seq_k fun _ hK1 => wp_region_lit (st_m (op_box S (.t rfl) rfl fun g1 a w S => st_m (op_box S (.t rfl) rfl fun g2 a w S => run S (.ac rfl <| .z) fun a w S => st_nil (then_normal (hK1 _ _ (wp_seq_k fun _ hK1 => wp_seq_k fun _ hK2 => wp_region_lit (run S (.fa underlying39 sizeOf37 1 rfl rfl rfl <| .la gt37 1 rfl rfl rfl <| .fa underlying39 sizeOf37 1 rfl rfl rfl <| .la gt37 0 rfl rfl rfl <| .xx (ys_call call100 (.cons (.t rfl) (.cons (.t rfl) .nil)) (fun hp w W => c100 _ _ _ _ _ _ _ (by exact .old W (by assumption)) (by exact .old W (by assumption)) (by assumption) (by assumption))) rfl <| .z) fun a w S => ?_)))))))
  rw [rw_l] at S
  refine run S (.nt rfl <| .z) fun a w S => st_nil (then_normal (hK2 _ _ (st_else S (.t rfl) (wp_skip (then_normal (hK1 _ _ (wp_seq_k fun _ hK1 => sg S (.fa underlying39 sizeOf33 0 rfl rfl rfl <| .ld gt33 0 rfl rfl rfl <| .ln underlying33 rfl <| .mc rfl <| .z) fun a w S => wp_block ?_)))))))
  refine st_lpM S [16] (X := Nat) (fun k => [(16, true, .int .i64 (k : Int))]) (fun _ => [.blk g2 (.cells #[.slice B Y.ents.length capB, .slice B2 Y.ctx.marks.length capB2, .slice B3 Y.ctx.cloud.length capB3] 39), .blk g1 (.cells #[.slice A X.ents.length cap, .slice A2 X.ctx.marks.length cap2, .slice A3 X.ctx.cloud.length cap3] 39)])
    (fun k => k ≤ Y.ents.length ∧ (Y.ents.take k).all (lackB X) = true) (fun k => Y.ents.length - k) 0 ⟨Nat.zero_le _, by simp⟩ ?_
  clear S
  rintro k a w ⟨hk, hno⟩ S
  by_cases hlt : k < Y.ents.length
  · obtain ⟨g, o, x, rfl, hx, hd, hc⟩ := row_at hB hlt
    by_cases hcv : X.ctx.covers x.dot = true
    · have rw_c : X.ctx.covers ⟨x.dot.node, x.dot.life, x.dot.count⟩ = true := hcv
      by_cases hin : x ∈ X.ents
      · have rw_i := decide_eq_true hin
        refine sg S (.lt (by omega) rfl rfl <| .z) fun a w S => wp_seq_k fun _ hK2 => st_then S (.t rfl) (wp_skip (then_normal (hK2 _ _ (wp_seq_k fun _ hK2 => wp_block (wp_seq_k fun _ hK3 => wp_region_lit (run S (.ix underlying33 sizeOf71 (by omega) rfl rfl <| .yy (ys_ldOA ⟨isAgg71, sizeOf71⟩ (.t rfl) (vs := [_, _, _, _, _, _]) rfl (fun _ => hc)) rfl <| .z) fun a w S => st_m (op_alloc S zeroValue71 (cs := _) rfl rfl fun g3 a w S => st_m (op_stW S sizeOf71 (.t rfl) (.t rfl) (k := 0) rfl rfl rfl (by simp [Value.oneCell']) fun a w S => st_nil (then_normal (hK3 _ _ (wp_seq_k fun _ hK3 => wp_region_lit (run S (.fa underlying39 sizeOf37 1 rfl rfl rfl <| .la gt37 2 rfl rfl rfl <| .fa underlying71 sizeOf58 1 rfl rfl rfl <| .la gt58 0 rfl rfl rfl <| .xx (ys_call call101 (.cons (.t rfl) (.cons (.t rfl) .nil)) (fun hp w W => c101 _ _ _ _ _ _ _ (by exact .old W (by assumption)))) rfl <| .z) fun a w S => ?_))))))))))))
        rw [rw_c] at S
        refine run S (.mv rfl <| .gy rfl rfl (ys_fieldN (FieldT.mk underlying39 rfl sizeOf33 rfl) (.t rfl) (i' := 0) rfl) <| .gy rfl rfl (ys_ld ⟨isAgg33, sizeOf33⟩ (.t rfl) (k := 2) rfl rfl) <| .gy rfl rfl (ys_ldA ⟨isAgg71, sizeOf71⟩ (.t rfl) (k := 0) rfl rfl) <| .gx rfl rfl (ys_call call91 (.cons (.t rfl) (.cons (.t rfl) .nil)) (fun hp w W => c91 _ _ _ _ (by exact .old W (by assumption)))) <| .z) fun a w S => ?_
        rw [rw_i] at S
        refine run S (.gy rfl rfl (ys_not (.t rfl)) <| .yy (ys_pickT (.t rfl) (.t rfl)) rfl <| .z) fun a w S => st_nil (then_normal (hK3 _ _ (st_else S (.t rfl) (wp_skip (in_normal (then_normal (hK2 _ _ (wp_region_lit (run S (.ad (by unfold I64; omega) rfl <| .mv rfl <| .z) fun a w S => st_nil (then_normal ?_))))))))))
        exact ⟨k + 1, ⟨by omega, all_more hx hno (by simp [lackB, hin])⟩, by omega, S.pk⟩
      · have rw_i := decide_eq_false hin
        refine sg S (.lt (by omega) rfl rfl <| .z) fun a w S => wp_seq_k fun _ hK2 => st_then S (.t rfl) (wp_skip (then_normal (hK2 _ _ (wp_seq_k fun _ hK2 => wp_block (wp_seq_k fun _ hK3 => wp_region_lit (run S (.ix underlying33 sizeOf71 (by omega) rfl rfl <| .yy (ys_ldOA ⟨isAgg71, sizeOf71⟩ (.t rfl) (vs := [_, _, _, _, _, _]) rfl (fun _ => hc)) rfl <| .z) fun a w S => st_m (op_alloc S zeroValue71 (cs := _) rfl rfl fun g3 a w S => st_m (op_stW S sizeOf71 (.t rfl) (.t rfl) (k := 0) rfl rfl rfl (by simp [Value.oneCell']) fun a w S => st_nil (then_normal (hK3 _ _ (wp_seq_k fun _ hK3 => wp_region_lit (run S (.fa underlying39 sizeOf37 1 rfl rfl rfl <| .la gt37 2 rfl rfl rfl <| .fa underlying71 sizeOf58 1 rfl rfl rfl <| .la gt58 0 rfl rfl rfl <| .xx (ys_call call101 (.cons (.t rfl) (.cons (.t rfl) .nil)) (fun hp w W => c101 _ _ _ _ _ _ _ (by exact .old W (by assumption)))) rfl <| .z) fun a w S => ?_))))))))))))
        rw [rw_c] at S
        refine run S (.mv rfl <| .gy rfl rfl (ys_fieldN (FieldT.mk underlying39 rfl sizeOf33 rfl) (.t rfl) (i' := 0) rfl) <| .gy rfl rfl (ys_ld ⟨isAgg33, sizeOf33⟩ (.t rfl) (k := 2) rfl rfl) <| .gy rfl rfl (ys_ldA ⟨isAgg71, sizeOf71⟩ (.t rfl) (k := 0) rfl rfl) <| .gx rfl rfl (ys_call call91 (.cons (.t rfl) (.cons (.t rfl) .nil)) (fun hp w W => c91 _ _ _ _ (by exact .old W (by assumption)))) <| .z) fun a w S => ?_
        rw [rw_i] at S
        refine run S (.gy rfl rfl (ys_not (.t rfl)) <| .yy (ys_pickT (.t rfl) (.t rfl)) rfl <| .z) fun a w S => st_nil (then_normal (hK3 _ _ (st_then S (.t rfl) (sg S (.ac rfl <| .z) fun a w S => wp_ret (in_ret (then_ret (then_ret (in_ret (then_ret (st_ret S (results1 S results42 (Rv.tmp rfl)) ?_))))))))))
        exact ⟨by rw [leq_all, all_not hx (by simp [lackB, hin, hcv]), Bool.and_false], S.wd.below⟩
    · have hcv : X.ctx.covers x.dot = false := by simpa using hcv
      have rw_c : X.ctx.covers ⟨x.dot.node, x.dot.life, x.dot.count⟩ = false := hcv
      refine sg S (.lt (by omega) rfl rfl <| .z) fun a w S => wp_seq_k fun _ hK2 => st_then S (.t rfl) (wp_skip (then_normal (hK2 _ _ (wp_seq_k fun _ hK2 => wp_block (wp_seq_k fun _ hK3 => wp_region_lit (run S (.ix underlying33 sizeOf71 (by omega) rfl rfl <| .yy (ys_ldOA ⟨isAgg71, sizeOf71⟩ (.t rfl) (vs := [_, _, _, _, _, _]) rfl (fun _ => hc)) rfl <| .z) fun a w S => st_m (op_alloc S zeroValue71 (cs := _) rfl rfl fun g3 a w S => st_m (op_stW S sizeOf71 (.t rfl) (.t rfl) (k := 0) rfl rfl rfl (by simp [Value.oneCell']) fun a w S => st_nil (then_normal (hK3 _ _ (wp_seq_k fun _ hK3 => wp_region_lit (run S (.fa underlying39 sizeOf37 1 rfl rfl rfl <| .la gt37 2 rfl rfl rfl <| .fa underlying71 sizeOf58 1 rfl rfl rfl <| .la gt58 0 rfl rfl rfl <| .xx (ys_call call101 (.cons (.t rfl) (.cons (.t rfl) .nil)) (fun hp w W => c101 _ _ _ _ _ _ _ (by exact .old W (by assumption)))) rfl <| .z) fun a w S => ?_))))))))))))
      rw [rw_c] at S
      refine run S (.mv rfl <| .sk rfl rfl rfl <| .sk rfl rfl rfl <| .sk rfl rfl rfl <| .sk rfl rfl rfl <| .sk rfl rfl rfl <| .yy (ys_pickF (.t rfl) Ev.c) rfl <| .z) fun a w S => st_nil (then_normal (hK3 _ _ (st_else S (.t rfl) (wp_skip (in_normal (then_normal (hK2 _ _ (wp_region_lit (run S (.ad (by unfold I64; omega) rfl <| .mv rfl <| .z) fun a w S => st_nil (then_normal ?_))))))))))
      exact ⟨k + 1, ⟨by omega, all_more hx hno (by simp [lackB, hcv])⟩, by omega, S.pk⟩
  obtain rfl : k = Y.ents.length := by omega
  rw [List.take_length] at hno
  refine sg S (.ge (by omega) rfl rfl <| .z) fun a w S => wp_seq_k fun _ hK2 => st_else S (.t rfl) (wp_exit (then_exit (then_exit (in_here (then_normal (hK1 _ _ (sg S (.ac rfl <| .z) fun a w S => wp_ret (st_ret S (results1 S results42 (Rv.tmp rfl)) ?_))))))))
  exact ⟨by rw [leq_all, hq, hno]; rfl, S.wd.below⟩
theorem c20 (w0 : World) (v1 v2 v3 : Value) (X : Cart) (h : Sl Ent.enc 6 w0 w0.heap.size v1 X.ents) (hr : RdCtx w0 w0.heap.size v2 v3 X.ctx) (hl1 : X.ents.length ≤ 1048576) (hl2 : X.ctx.marks.length ≤ 1048576) (hl3 : X.ctx.cloud.length ≤ 1048576) :
    Rets Tryz.prog 20 #[.agg #[v1, v2, v3]] w0 fun v L => ∃ A1 r1 A2 r2 A3 r3, v = .agg #[.slice A1 X.ents.length r1, .slice A2 X.ctx.marks.length r2, .slice A3 X.ctx.cloud.length r3] ∧
      L = [rowOf 71 6 Ent.enc A1 r1 X.ents, rowOf 122 3 Dot.enc A2 r2 X.ctx.marks, rowOf 58 3 Dot.enc A3 r3 X.ctx.cloud] := by
  have hs := h
  have hrr := hr
  obtain ⟨A, cap, rfl, hl, hcap, hA⟩ := h
  obtain ⟨⟨A2, cap2, rfl, _⟩, ⟨A3, cap3, rfl, _⟩⟩ := hr
  unfold Go.Fw.Rets
  refine enter1 func20 rfl ntmps20 rfl fun a S => wp_seq_k fun _ hK1 => wp_region_lit (st_m (op_box S (.t rfl) rfl fun g1 a w S => st_m (op_alloc S zeroValue39 (cs := _) rfl rfl fun g2 a w S => st_nil (then_normal (hK1 _ _ (wp_seq_k fun _ hK1 => h_beginE S (by kernel_rfl) 0 fun a w S => hy 0 S rfl (ys_fieldN (FieldT.mk underlying39 rfl sizeOf33 rfl) (.t rfl) (i' := 0) rfl) rfl fun a w S => hy 1 S rfl (ys_ld ⟨isAgg33, sizeOf33⟩ (.t rfl) (k := 0) rfl rfl) rfl fun a w S => hy 3 S rfl (ys_fieldN (FieldT.mk underlying39 rfl sizeOf37 rfl) (.t rfl) (i' := 1) rfl) rfl fun a w S => ?_))))))
  refine hy 4 S rfl (ys_ldA ⟨isAgg37, sizeOf37⟩ (.t rfl) (k := 0) rfl rfl) rfl fun a w S => ?_
  (refine h_m (i := 2) rfl (by kernel_rfl) (op_calls S call67 (.cons (.t rfl) .nil) (c67 _ _ _ (by exact .old S.wd (by assumption)) (by omega)) rfl ?_); clear S a w; rintro _ _ ⟨A1, c1, rfl, rfl⟩ a w S; refine h_n1 S ?_)
  (refine h_m (i := 5) rfl (by kernel_rfl) (op_calls S call68 (.cons (.t rfl) .nil) (c68 _ _ _ _ (by exact .old S.wd (by assumption)) (by assumption) (by assumption)) rfl ?_); clear S a w; rintro _ _ ⟨A11, r11, A21, r21, rfl, rfl⟩ a w S; refine h_n1 S ?_)
  refine hy 6 S rfl (ys_bld (ps := [(0, Go.Operand.tmp 5), (1, Go.Operand.tmp 8)]) (us := [_, _, _]) bld39 (.cons (.t rfl) (.cons (.t rfl) .nil)) rfl) rfl fun a w S => ?_
  (refine h_m0 (i := 7) rfl (by kernel_rfl) (op_stW S sizeOf39 (.t rfl) (.t rfl) (k := 3) rfl rfl rfl (by simp [Value.oneCell']) ?_); clear S a w; intro a w S; refine h_n1 S ?_)
  refine h_done (by kernel_rfl) (then_normal (hK1 _ _ (wp_ret (st_ret S (results1 S results20 (Rv.cell (k := 3) ⟨isAgg39, sizeOf39⟩ rfl rfl rfl)) ?_))))
  exact ⟨_, _, rfl, S.wd.pk, _, _, _, _, _, _, rfl, rfl⟩
theorem c17 (w0 : World) (v1 v2 v3 v4 v5 v6 : Value) (X Y : Cart) (h : Sl Ent.enc 6 w0 w0.heap.size v1 X.ents) (hr : RdCtx w0 w0.heap.size v2 v3 X.ctx) (h' : Sl Ent.enc 6 w0 w0.heap.size v4 Y.ents) (hr' : RdCtx w0 w0.heap.size v5 v6 Y.ctx) :
    Calls Tryz.prog 17 #[.agg #[v1, v2, v3], .agg #[v4, v5, v6]] w0 fun e w' => e = .returned (.bool (decide (X = Y))) ∧ Bel w0.heap.size w0 w' := by
  have hs := h
  have hrr := hr
  have hs' := h'
  have hrr' := hr'
  obtain ⟨A, cap, rfl, hl, hcap, hA⟩ := h
  obtain ⟨⟨A2, cap2, rfl, _⟩, ⟨A3, cap3, rfl, _⟩⟩ := hr
  obtain ⟨B, capB, rfl, hlB, hcapB, hB⟩ := h'
  obtain ⟨⟨B2, capB2, rfl, _⟩, ⟨B3, capB3, rfl, _⟩⟩ := hr'
  refine enter2 func17 rfl ntmps17 rfl fun a S => wp_seq_k fun _ hK1 => wp_region_lit (st_m (op_box S (.t rfl) rfl fun g1 a w S => st_m (op_box S (.t rfl) rfl fun g2 a w S => run S (.ac rfl <| .z) fun a w S => st_nil (then_normal (hK1 _ _ (wp_seq_k fun _ hK1 => wp_region_lit (run S (.fa underlying39 sizeOf33 0 rfl rfl rfl <| .ld gt33 1 rfl rfl rfl <| .fa underlying39 sizeOf33 0 rfl rfl rfl <| .ld gt33 0 rfl rfl rfl <| .xx (ys_call call61 (.cons (.t rfl) (.cons (.t rfl) .nil)) (fun hp w W => c61 _ _ _ _ _ (by exact .old W (by assumption)) (by exact .old W (by assumption)))) rfl <| .mv rfl <| .z) fun a w S => st_yg S rfl rfl (Yr.ys (ys_fieldN (FieldT.mk underlying39 rfl sizeOf37 rfl) (.t rfl) (i' := 1) rfl)) rfl fun a w S => st_yg S rfl rfl (Yr.ys (ys_ldA ⟨isAgg37, sizeOf37⟩ (Ev.g rfl) (k := 1) rfl rfl)) rfl fun a w S => st_yg S rfl rfl (Yr.ys (ys_fieldN (FieldT.mk underlying39 rfl sizeOf37 rfl) (.t rfl) (i' := 1) rfl)) rfl fun a w S => st_yg S rfl rfl (Yr.ys (ys_ldA ⟨isAgg37, sizeOf37⟩ (Ev.g rfl) (k := 0) rfl rfl)) rfl fun a w S => st_yg S rfl rfl (ys_call call62 (.cons (Ev.g rfl) (.cons (Ev.g rfl) .nil)) (fun hp w W => c62 _ _ _ _ _ _ _ (by exact .old W (by assumption)) (by exact .old W (by assumption)))) rfl fun a w S => run S (.yy (ys_and (.t rfl) (Ev.g rfl) Ev.c) rfl <| .as rfl <| .z) fun a w S => st_nil (then_normal (hK1 _ _ (wp_ret ?_))))))))))
  refine st_ret S (results1 S results17 (Rv.tmp rfl)) ?_
  exact ⟨by rw [cart_same], S.wd.below⟩
end Go.Proofs.YtfblmkocmnbdcaaGreat
set_option linter.unusedVariables false
set_option linter.unusedSimpArgs false
set_option maxRecDepth 100000
set_option maxHeartbeats 4000000
namespace Go.Proofs.YtfblmkocmnbdcaaGreat
open Go.Fw Go.Proofs Go.RowKit Go.Proofs.Tryz
theorem c32 {w0 w : World} {L : List Chunk} {A1 A2 A3 : Option Addr} {c1 c2 c3 : Nat} {X : Cart} (W : Wd w0 (rowOf 71 6 Ent.enc A1 c1 X.ents :: rowOf 122 3 Dot.enc A2 c2 X.ctx.marks :: rowOf 58 3 Dot.enc A3 c3 X.ctx.cloud :: L) w) (hl1 : X.ents.length ≤ 1048576) (hl2 : X.ctx.marks.length ≤ 1048576) (hl3 : X.ctx.cloud.length ≤ 1048576) :
    RetsO Tryz.prog 32 #[.agg #[.slice A1 X.ents.length c1, .slice A2 X.ctx.marks.length c2, .slice A3 X.ctx.cloud.length c3]] w0 w fun v L' => v = .tuple #[] ∧ L' = L := by
  have hr1 := (W.room (k := 0) rfl).1
  have hr2 := (W.room (k := 1) rfl).1
  have hr3 := (W.room (k := 2) rfl).1
  unfold Go.Fw.RetsO
  refine enterW1 W func32 rfl ntmps32 rfl fun a S => wp_seq_k fun _ hK1 => wp_region_lit (st_m (op_box S (.t rfl) rfl fun g1 a w S => st_nil (then_normal (hK1 _ _ (wp_seq_k fun _ hK1 => sg S (.fa underlying39 sizeOf33 0 rfl rfl rfl <| .ld gt33 0 rfl rfl rfl <| .ln underlying33 rfl <| .mc rfl <| .z) fun a w S => wp_block ?_)))))
  refine st_lpM S [8] (X := Nat × List Ent) (fun q => [(8, true, .int .i64 (q.1 : Int))]) (fun q => .blk g1 (.cells #[.slice A1 X.ents.length c1, .slice A2 X.ctx.marks.length c2, .slice A3 X.ctx.cloud.length c3] 39) :: rowOf 71 6 Ent.enc A1 c1 q.2 :: rowOf 122 3 Dot.enc A2 c2 X.ctx.marks :: rowOf 58 3 Dot.enc A3 c3 X.ctx.cloud :: L)
    (fun q => q.1 ≤ X.ents.length ∧ q.2.length = X.ents.length) (fun q => X.ents.length - q.1) (0, X.ents) ⟨Nat.zero_le _, rfl⟩ ?_
  clear S
  rintro ⟨k, l⟩ a w ⟨hk, hln⟩ S
  dsimp only at hk hln S
  by_cases hlt : k < X.ents.length
  · obtain ⟨x, hx⟩ : ∃ x, l[k]? = some x := ⟨l[k]'(by omega), List.getElem?_eq_getElem _⟩
    obtain ⟨g, rfl⟩ := S.wd.row_at (k := 1) rfl (by omega)
    refine sg S (.lt (by omega) rfl rfl <| .z) fun a w S => wp_seq_k fun _ hK2 => st_then S (.t rfl) (wp_skip (then_normal (hK2 _ _ (wp_seq_k fun _ hK2 => wp_block (sg S (.mv rfl <| .as rfl <| .z) fun a w S => wp_region_lit (run S (.fa underlying39 sizeOf33 0 rfl rfl rfl <| .ld gt33 0 rfl rfl rfl <| .mv rfl <| .yy (ys_bld (ps := [(0, _)]) (us := [_, _, _, _, _, _]) bld71 (.cons Ev.c .nil) rfl) rfl <| .ix underlying33 sizeOf71 (by omega) rfl rfl <| .z) fun a w S => st_m (op_stRow (enc := Ent.enc) (size := 6) (i := k) (l := l) (yn := ⟨[33], ⟨0, 0, 0⟩, 0, 0⟩) S (fun _ => rfl) rfl sizeOf71 (.t rfl) (.t rfl) rfl (by simp [Value.oneCell']) (k := 1) rfl hx (Nat.zero_add _) ?_)))))))
    clear S
    intro a w S
    refine st_nil (in_normal (then_normal (hK2 _ _ (wp_region_lit (run S (.ad (by unfold I64; omega) rfl <| .mv rfl <| .z) fun a w S => st_nil (then_normal ?_))))))
    exact ⟨(k + 1, l.set k ⟨[33], ⟨0, 0, 0⟩, 0, 0⟩), ⟨by dsimp only; omega, by dsimp only; rw [List.length_set]; exact hln⟩, by dsimp only; omega, S.pk⟩
  obtain rfl : k = X.ents.length := by omega
  clear hlt hk
  refine sg S (.ge (by omega) rfl rfl <| .z) fun a w S => wp_seq_k fun _ hK2 => st_else S (.t rfl) (wp_exit (then_exit (then_exit (in_here (then_normal (hK1 _ _ (wp_seq_k fun _ hK1 => sg S (.fa underlying39 sizeOf37 1 rfl rfl rfl <| .fa underlying37 sizeOf34 1 rfl rfl rfl <| .ld gt34 0 rfl rfl rfl <| .ln underlying34 rfl <| .mc rfl <| .z) fun a w S => wp_block ?_)))))))
  refine st_lpM S [21] (X := Nat × List Dot) (fun q => [(21, true, .int .i64 (q.1 : Int))]) (fun q => .blk g1 (.cells #[.slice A1 X.ents.length c1, .slice A2 X.ctx.marks.length c2, .slice A3 X.ctx.cloud.length c3] 39) :: rowOf 122 3 Dot.enc A2 c2 q.2 :: rowOf 58 3 Dot.enc A3 c3 X.ctx.cloud :: L)
    (fun q => q.1 ≤ X.ctx.marks.length ∧ q.2.length = X.ctx.marks.length) (fun q => X.ctx.marks.length - q.1) (0, X.ctx.marks) ⟨Nat.zero_le _, rfl⟩ ?_
  clear S
  rintro ⟨k, l⟩ a w ⟨hk, hln⟩ S
  dsimp only at hk hln S
  by_cases hlt : k < X.ctx.marks.length
  · obtain ⟨x, hx⟩ : ∃ x, l[k]? = some x := ⟨l[k]'(by omega), List.getElem?_eq_getElem _⟩
    obtain ⟨g, rfl⟩ := S.wd.row_at (k := 1) rfl (by omega)
    refine sg S (.lt (by omega) rfl rfl <| .z) fun a w S => wp_seq_k fun _ hK3 => st_then S (.t rfl) (wp_skip (then_normal (hK3 _ _ (wp_seq_k fun _ hK3 => wp_block (sg S (.mv rfl <| .as rfl <| .z) fun a w S => wp_region_lit (run S (.fa underlying39 sizeOf37 1 rfl rfl rfl <| .fa underlying37 sizeOf34 1 rfl rfl rfl <| .ld gt34 0 rfl rfl rfl <| .mv rfl <| .yy (ys_bld (ps := [(0, _)]) (us := [_, _, _]) bld122 (.cons Ev.c .nil) rfl) rfl <| .ix underlying34 sizeOf122 (by omega) rfl rfl <| .z) fun a w S => st_m (op_stRow (enc := Dot.enc) (size := 3) (i := k) (l := l) (yn := ⟨99, 0, 0⟩) S (fun _ => rfl) rfl sizeOf122 (.t rfl) (.t rfl) rfl (by simp [Value.oneCell']) (k := 1) rfl hx (Nat.zero_add _) ?_)))))))
    clear S
    intro a w S
    refine st_nil (in_normal (then_normal (hK3 _ _ (wp_region_lit (run S (.ad (by unfold I64; omega) rfl <| .mv rfl <| .z) fun a w S => st_nil (then_normal ?_))))))
    exact ⟨(k + 1, l.set k ⟨99, 0, 0⟩), ⟨by dsimp only; omega, by dsimp only; rw [List.length_set]; exact hln⟩, by dsimp only; omega, S.pk⟩
  obtain rfl : k = X.ctx.marks.length := by omega
  clear hlt hk
  refine sg S (.ge (by omega) rfl rfl <| .z) fun a w S => wp_seq_k fun _ hK3 => st_else S (.t rfl) (wp_exit (then_exit (then_exit (in_here (then_normal (hK1 _ _ (sg S (.fa underlying39 sizeOf37 1 rfl rfl rfl <| .fa underlying37 sizeOf35 2 rfl rfl rfl <| .ld gt35 0 rfl rfl rfl <| .ln underlying35 rfl <| .mc rfl <| .z) fun a w S => wp_block ?_)))))))
  refine st_lpM S [35] (X := Nat × List Dot) (fun q => [(35, true, .int .i64 (q.1 : Int))]) (fun q => .blk g1 (.cells #[.slice A1 X.ents.length c1, .slice A2 X.ctx.marks.length c2, .slice A3 X.ctx.cloud.length c3] 39) :: rowOf 58 3 Dot.enc A3 c3 q.2 :: L)
    (fun q => q.1 ≤ X.ctx.cloud.length ∧ q.2.length = X.ctx.cloud.length) (fun q => X.ctx.cloud.length - q.1) (0, X.ctx.cloud) ⟨Nat.zero_le _, rfl⟩ ?_
  clear S
  rintro ⟨k, l⟩ a w ⟨hk, hln⟩ S
  dsimp only at hk hln S
  by_cases hlt : k < X.ctx.cloud.length
  · obtain ⟨x, hx⟩ : ∃ x, l[k]? = some x := ⟨l[k]'(by omega), List.getElem?_eq_getElem _⟩
    obtain ⟨g, rfl⟩ := S.wd.row_at (k := 1) rfl (by omega)
    refine sg S (.lt (by omega) rfl rfl <| .z) fun a w S => wp_seq_k fun _ hK1 => st_then S (.t rfl) (wp_skip (then_normal (hK1 _ _ (wp_seq_k fun _ hK1 => wp_block (sg S (.mv rfl <| .as rfl <| .z) fun a w S => wp_region_lit (run S (.fa underlying39 sizeOf37 1 rfl rfl rfl <| .fa underlying37 sizeOf35 2 rfl rfl rfl <| .ld gt35 0 rfl rfl rfl <| .mv rfl <| .yy (ys_bld (ps := [(0, _)]) (us := [_, _, _]) bld58 (.cons Ev.c .nil) rfl) rfl <| .ix underlying35 sizeOf58 (by omega) rfl rfl <| .z) fun a w S => st_m (op_stRow (enc := Dot.enc) (size := 3) (i := k) (l := l) (yn := ⟨99, 0, 0⟩) S (fun _ => rfl) rfl sizeOf58 (.t rfl) (.t rfl) rfl (by simp [Value.oneCell']) (k := 1) rfl hx (Nat.zero_add _) ?_)))))))
    clear S
    intro a w S
    refine st_nil (in_normal (then_normal (hK1 _ _ (wp_region_lit (run S (.ad (by unfold I64; omega) rfl <| .mv rfl <| .z) fun a w S => st_nil (then_normal ?_))))))
    exact ⟨(k + 1, l.set k ⟨99, 0, 0⟩), ⟨by dsimp only; omega, by dsimp only; rw [List.length_set]; exact hln⟩, by dsimp only; omega, S.pk⟩
  obtain rfl : k = X.ctx.cloud.length := by omega
  clear hlt hk
  refine sg S (.ge (by omega) rfl rfl <| .z) fun a w S => wp_seq_k fun _ hK1 => st_else S (.t rfl) (wp_exit (then_exit (then_exit (in_here (st_end S (results0 results32) ?_)))))
  exact ⟨_, _, rfl, S.wd.pk, rfl, rfl⟩
end Go.Proofs.YtfblmkocmnbdcaaGreat
set_option linter.unusedVariables false
set_option linter.unusedSimpArgs false
set_option maxRecDepth 100000
set_option maxHeartbeats 4000000
namespace Go.Fw
theorem cart_lens {c : Cart} (h : CartOk c) : c.ents.length ≤ 64 ∧ c.ctx.marks.length ≤ 64 ∧ c.ctx.cloud.length ≤ 64 := ⟨h.len, (can_len h.ctx).1, (can_len h.ctx).2⟩
theorem join_lens (a b : Cart) : (joinK a b).1.ents.length ≤ 1048576 ∧ (joinK a b).1.ctx.marks.length ≤ 1048576 ∧ (joinK a b).1.ctx.cloud.length ≤ 1048576 := by
  by_cases hA : canE a = 0
  · by_cases hB : canE b = 0
    · have ha := (canE_ok a).1 hA
      have hb := (canE_ok b).1 hB
      by_cases h : (joinK a b).2 = 0
      · have := cart_lens (joinK_cart ha hb h)
        omega
      · have e : (joinK a b).1 = Cart.zero := by
          rw [joinK_eq ha hb] at h ⊢
          split
          · rfl
          · rename_i h1
            rw [if_neg h1] at h
            split
            · rfl
            · rename_i h2
              rw [if_neg h2] at h
              split
              · rfl
              · rename_i h3
                rw [if_neg h3] at h; exact absurd rfl h
        rw [e]
        simp [Cart.zero]
    · have e : (joinK a b).1 = Cart.zero := by unfold joinK; rw [if_pos hA, if_neg hB]
      rw [e]
      simp [Cart.zero]
  · have e : (joinK a b).1 = Cart.zero := by unfold joinK; rw [if_neg hA]
    rw [e]
    simp [Cart.zero]
end Go.Fw
namespace Go.Proofs.YtfblmkocmnbdcaaGreat
open Go.Fw Go.Proofs Go.RowKit Go.Proofs.Tryz
end Go.Proofs.YtfblmkocmnbdcaaGreat
set_option linter.unusedVariables false
set_option linter.unusedSimpArgs false
namespace Go.Fw
open Go.RowKit
def downU (U : List Upd) (c : Cart) (u : Upd) : Prop := c.ctx.covers u.dot = true ∧ (¬ 0 < u.qty ∨ ∃ v ∈ U, c.ctx.covers v.dot = true ∧ v.item = u.item ∧ v.seen.ctx.covers u.dot = true)
structure InH (U : List Upd) (c : Cart) : Prop where
  ok : CartOk c
  ent : ∀ e ∈ c.ents, ∃ u ∈ U, e = u.ent
  cov : ∀ d, c.ctx.covers d = true → ∃ u ∈ U, u.dot = d
  clos : ∀ u ∈ U, c.ctx.covers u.dot = true → ∀ d, u.seen.ctx.covers d = true → c.ctx.covers d = true
  down : ∀ u ∈ U, killsK c u.ent ↔ downU U c u
theorem covers_zero (d : Dot) : Cart.zero.ctx.covers d = false := by
  rw [Bool.eq_false_iff]
  intro h
  rw [covers_iff] at h
  obtain ⟨h1, h2 | h2⟩ := h
  · simp [markOf] at h2; omega
  · simp at h2
theorem inH_zero (U : List Upd) : InH U Cart.zero := by
  refine ⟨cart_zero, fun e h => by simp at h, fun d h => ?_, fun u _ h => ?_, fun u _ => ?_⟩
  · rw [covers_zero] at h; cases h
  · rw [covers_zero] at h; cases h
  · exact ⟨fun h => (by have := h.1; rw [covers_zero] at this; cases this), fun h => (by have := h.1; rw [covers_zero] at this; cases this)⟩
theorem inH_uni {U : List Upd} {a b : Cart} (ha : InH U a) (hb : InH U b) (h : fitK a b) : InH U (uniK a b) := by
  have hc : ∀ d, (uniK a b).ctx.covers d = true ↔ a.ctx.covers d = true ∨ b.ctx.covers d = true := uni_covers (can_nf ha.ok.ctx) (can_nf hb.ok.ctx)
  refine ⟨uni_ok ha.ok hb.ok h, fun e he => ?_, fun d hd => ?_, fun u hu hcv d hd => ?_, fun u hu => ?_⟩
  · rcases ((stays_iff ha.ok hb.ok e).1 he).1 with h | h
    · exact ha.ent e h
    · exact hb.ent e h
  · rcases (hc d).1 hd with h | h
    · exact ha.cov d h
    · exact hb.cov d h
  · rcases (hc _).1 hcv with h | h
    · exact (hc d).2 (.inl (ha.clos u hu h d hd))
    · exact (hc d).2 (.inr (hb.clos u hu h d hd))
  · rw [uni_kills ha.ok hb.ok, ha.down u hu, hb.down u hu]
    unfold downU
    rw [hc]
    constructor
    · rintro (⟨h1, h2⟩ | ⟨h1, h2⟩)
      · refine ⟨.inl h1, h2.imp id ?_⟩
        rintro ⟨v, k1, k2, k3⟩
        exact ⟨v, k1, (hc _).2 (.inl k2), k3⟩
      · refine ⟨.inr h1, h2.imp id ?_⟩
        rintro ⟨v, k1, k2, k3⟩
        exact ⟨v, k1, (hc _).2 (.inr k2), k3⟩
    · rintro ⟨h1, h2 | ⟨v, k1, k2, k3, k4⟩⟩
      · rcases h1 with h1 | h1
        · exact .inl ⟨h1, .inl h2⟩
        · exact .inr ⟨h1, .inl h2⟩
      · rcases (hc _).1 k2 with k2 | k2
        · exact .inl ⟨ha.clos v k1 k2 _ k4, .inr ⟨v, k1, k2, k3, k4⟩⟩
        · exact .inr ⟨hb.clos v k1 k2 _ k4, .inr ⟨v, k1, k2, k3, k4⟩⟩
theorem inH_join {U : List Upd} {a b : Cart} (ha : InH U a) (hb : InH U b) (h : (joinK a b).2 = 0) : InH U (joinK a b).1 := by
  rw [joinK_val ha.ok hb.ok h]
  exact inH_uni ha hb ((joinK_ok ha.ok hb.ok).1 h).1
def oneU (U : List Upd) : Prop := (U.map (·.dot)).Nodup
theorem inH_more {U : List Upd} {c : Cart} {u : Upd} (h : InH U c) (hn : u.dot ∉ U.map (·.dot)) : InH (U ++ [u]) c := by
  have hno : c.ctx.covers u.dot = false := by
    rw [Bool.eq_false_iff]
    intro hc
    obtain ⟨v, hv, e⟩ := h.cov _ hc
    exact hn (List.mem_map.2 ⟨v, hv, e⟩)
  refine ⟨h.ok, fun e he => ?_, fun d hd => ?_, fun v hv hc d hd => ?_, fun v hv => ?_⟩
  · obtain ⟨v, hv, rfl⟩ := h.ent e he
    exact ⟨v, by simp [hv], rfl⟩
  · obtain ⟨v, hv, rfl⟩ := h.cov d hd
    exact ⟨v, by simp [hv], rfl⟩
  · rcases List.mem_append.1 hv with hv | hv
    · exact h.clos v hv hc d hd
    · simp at hv; subst hv; rw [hno] at hc; cases hc
  · rcases List.mem_append.1 hv with hv | hv
    · rw [h.down v hv]
      unfold downU
      constructor
      · rintro ⟨h1, h2⟩
        refine ⟨h1, h2.imp id ?_⟩
        rintro ⟨x, k1, k2⟩
        exact ⟨x, by simp [k1], k2⟩
      · rintro ⟨h1, h2⟩
        refine ⟨h1, h2.imp id ?_⟩
        rintro ⟨x, k1, k2, k3⟩
        rcases List.mem_append.1 k1 with k1 | k1
        · exact ⟨x, k1, k2, k3⟩
        · simp at k1; subst k1; rw [hno] at k2; cases k2
    · simp at hv
      subst hv
      unfold killsK downU
      simp [hno]
theorem inH_apply {U : List Upd} {u : Upd} (hU : ∀ v ∈ U, InH U v.seen) (hs : InH U u.seen) (hn : u.dot ∉ U.map (·.dot)) (ha : (applyU u).2 = 0) : InH (U ++ [u]) (applyU u).1 := by
  obtain ⟨hu, hadd, he, hok⟩ := applyU_ok ha
  obtain ⟨_, hc⟩ := add_covers hu.seen.ctx hu.dot hadd
  rw [he] at hok ⊢
  dsimp only at hok ⊢
  have hnv : ∀ v ∈ U, v.seen.ctx.covers u.dot = false := fun v hv => by
    rw [Bool.eq_false_iff]
    intro h
    obtain ⟨x, hx, e⟩ := (hU v hv).cov _ h
    exact hn (List.mem_map.2 ⟨x, hx, e⟩)
  refine ⟨hok, fun e he => ?_, fun d hd => ?_, fun v hv hcv d hd => ?_, fun v hv => ?_⟩
  · dsimp only at he
    rw [apply_mem] at he
    rcases he with ⟨_, rfl⟩ | ⟨he, _⟩
    · exact ⟨u, by simp, rfl⟩
    · obtain ⟨v, hv, rfl⟩ := hs.ent e he
      exact ⟨v, by simp [hv], rfl⟩
  · rcases (hc d).1 hd with hd | rfl
    · obtain ⟨v, hv, rfl⟩ := hs.cov d hd
      exact ⟨v, by simp [hv], rfl⟩
    · exact ⟨u, by simp, rfl⟩
  · rcases List.mem_append.1 hv with hv | hv
    · rcases (hc v.dot).1 hcv with h | h
      · exact (hc d).2 (.inl (hs.clos v hv h d hd))
      · exact absurd (List.mem_map.2 ⟨v, hv, h⟩) hn
    · simp at hv
      subst hv
      exact (hc d).2 (.inl hd)
  · have hmem : ∀ x : Upd, x ∈ U ++ [u] ↔ x ∈ U ∨ x = u := fun x => by simp
    rw [hmem] at hv
    unfold killsK downU
    dsimp only
    rw [apply_mem]
    rcases hv with hv | rfl
    · have hvu : v.dot ≠ u.dot := fun e => hn (List.mem_map.2 ⟨v, hv, e⟩)
      have hve : v.ent ≠ u.ent := fun e => hvu (congrArg Ent.dot e)
      have hd := hs.down v hv
      unfold killsK downU at hd
      have hcv : (addL u.seen.ctx u.dot).1.covers v.dot = true ↔ u.seen.ctx.covers v.dot = true := by
        rw [hc]; exact ⟨fun h => h.resolve_right hvu, .inl⟩
      show (addL u.seen.ctx u.dot).1.covers v.dot = true ∧ ¬ ((0 < u.qty ∧ v.ent = u.ent) ∨ (v.ent ∈ u.seen.ents ∧ v.item ≠ u.item)) ↔ _
      rw [hcv]
      constructor
      · rintro ⟨h1, h2⟩
        refine ⟨h1, ?_⟩
        by_cases hit : v.item = u.item
        · exact .inr ⟨u, by simp, (hc _).2 (.inr rfl), hit.symm, h1⟩
        · have h3 : v.ent ∉ u.seen.ents := fun h => h2 (.inr ⟨h, hit⟩)
          obtain ⟨_, h4⟩ := hd.1 ⟨h1, h3⟩
          refine h4.imp id ?_
          rintro ⟨x, k1, k2, k3⟩
          exact ⟨x, by simp [k1], (hc _).2 (.inl k2), k3⟩
      · rintro ⟨h1, h2⟩
        refine ⟨h1, ?_⟩
        rintro (⟨_, h3⟩ | ⟨h3, h4⟩)
        · exact hve h3
        · have h5 : ¬ (u.seen.ctx.covers v.dot = true ∧ v.ent ∉ u.seen.ents) := fun h => h.2 h3
          rw [hd] at h5
          refine h5 ⟨h1, h2.imp id ?_⟩
          rintro ⟨x, k1, k2, k3, k4⟩
          rcases (hmem x).1 k1 with k1 | rfl
          · rcases (hc _).1 k2 with k2 | k2
            · exact ⟨x, k1, k2, k3, k4⟩
            · exact absurd (List.mem_map.2 ⟨x, k1, k2⟩) hn
          · exact absurd k3.symm h4
    · have hcv : (addL v.seen.ctx v.dot).1.covers v.dot = true := (hc _).2 (.inr rfl)
      have hni : v.ent ∉ v.seen.ents := fun h => by
        have := ok_cov hu.seen h
        rw [hu.new] at this; cases this
      constructor
      · rintro ⟨h1, h2⟩
        refine ⟨hcv, .inl fun h => h2 (.inl ⟨h, rfl⟩)⟩
      · rintro ⟨h1, h2⟩
        refine ⟨hcv, ?_⟩
        rintro (⟨h3, _⟩ | ⟨h3, _⟩)
        · rcases h2 with h2 | ⟨x, k1, k2, k3, k4⟩
          · exact h2 h3
          · rcases (hmem x).1 k1 with k1 | rfl
            · rw [hnv x k1] at k4; cases k4
            · rw [hu.new] at k4; cases k4
        · exact hni h3
structure Hist where
  items : List (List UInt8)
  qtys : List Int
  prices : List UInt64
  nodes : List Int
  saws : List UInt64
def bitU (w : UInt64) (k : Nat) : Bool := decide (w.toNat / 2 ^ k % 2 = 1)
def pickF (c s : Cart) (b : Bool) : Cart := if b then (if (joinK c s).2 = 0 then (joinK c s).1 else c) else c
def pickTo (sts : List Cart) (w : UInt64) : Nat → Cart
  | 0 => Cart.zero
  | k + 1 => match sts[k]? with
    | some s => pickF (pickTo sts w k) s (bitU w k)
    | none => pickTo sts w k
def pickK (sts : List Cart) (w : UInt64) : Cart := pickTo sts w sts.length
structure Play where
  st : List Cart
  up : List Upd
  ct : List Int
def Play.start : Play := ⟨[], [], List.replicate 8 0⟩
def nodeP (x : Int) : Nat := (x % 8).toNat
def stepU (S : Play) (item : List UInt8) (q : Int) (p : UInt64) (n : Int) (w : UInt64) : Upd :=
  ⟨[107], ⟨(nodeP n : Int), 1 + ((nodeP n % 2 : Nat) : Int), S.ct.getD (nodeP n) 0 + 1⟩, item, if q ≤ 0 then 0 else q, if q ≤ 0 then 0 else p, pickK S.st w⟩
def stepP (S : Play) (u : Upd) (n : Int) : Play := if (applyU u).2 = 0 then ⟨S.st ++ [(applyU u).1], S.up ++ [u], S.ct.set (nodeP n) (S.ct.getD (nodeP n) 0 + 1)⟩ else S
def Hist.many (h : Hist) : Nat := min (min (min (min (min h.items.length 12) h.qtys.length) h.prices.length) h.nodes.length) h.saws.length
def playTo (h : Hist) : Nat → Play
  | 0 => Play.start
  | i + 1 => stepP (playTo h i) (stepU (playTo h i) (h.items.getD i []) (h.qtys.getD i 0) (h.prices.getD i 0) (h.nodes.getD i 0) (h.saws.getD i 0)) (h.nodes.getD i 0)
def playK (h : Hist) : Play := playTo h h.many
theorem pick_inH {U : List Upd} {sts : List Cart} (hs : ∀ s ∈ sts, InH U s) (w : UInt64) : ∀ k, InH U (pickTo sts w k)
  | 0 => inH_zero U
  | k + 1 => by
    have ih := pick_inH hs w k
    unfold pickTo
    split
    · rename_i s hk
      unfold pickF
      split
      · split
        · rename_i h; exact inH_join ih (hs s (List.mem_of_getElem? hk)) h
        · exact ih
      · exact ih
    · exact ih
structure PlayOk (S : Play) : Prop where
  len : S.st.length = S.up.length
  ct : S.ct.length = 8
  one : oneU S.up
  cnt : ∀ u ∈ S.up, ∃ n : Nat, n < 8 ∧ u.dot.node = n ∧ u.dot.life = 1 + ((n % 2 : Nat) : Int) ∧ u.dot.count ≤ S.ct.getD n 0
  pos : ∀ n : Nat, 0 ≤ S.ct.getD n 0
  seen : ∀ u ∈ S.up, InH S.up u.seen
  st : ∀ s ∈ S.st, InH S.up s
  app : ∀ (i : Nat) (u : Upd), S.up[i]? = some u → S.st[i]? = some (applyU u).1 ∧ (applyU u).2 = 0
theorem play_start : PlayOk Play.start := by
  refine ⟨rfl, rfl, List.nodup_nil, fun u h => by simp [Play.start] at h, fun n => ?_, fun u h => by simp [Play.start] at h, fun u h => by simp [Play.start] at h, fun i u h => by simp [Play.start] at h⟩
  unfold Play.start
  dsimp only
  rw [List.getD_eq_getElem?_getD, List.getElem?_replicate]
  split <;> simp
theorem nodeP_lt (x : Int) : nodeP x < 8 := by unfold nodeP; omega
theorem getD_set {l : List Int} {n m : Nat} {x : Int} (h : n < l.length) : (l.set n x).getD m 0 = if n = m then x else l.getD m 0 := by
  rw [List.getD_eq_getElem?_getD, List.getD_eq_getElem?_getD, List.getElem?_set]
  by_cases e : n = m
  · subst e; rw [if_pos rfl, if_pos h, if_pos rfl]; rfl
  · rw [if_neg e, if_neg e]
theorem play_step {S : Play} (h : PlayOk S) (item : List UInt8) (q : Int) (p : UInt64) (n : Int) (w : UInt64) : PlayOk (stepP S (stepU S item q p n w) n) := by
  unfold stepP
  split
  · rename_i ha
    have hn8 := nodeP_lt n
    have hseen : InH S.up (pickK S.st w) := pick_inH h.st w _
    generalize hu : stepU S item q p n w = u at *
    have hd : u.dot = ⟨(nodeP n : Int), 1 + ((nodeP n % 2 : Nat) : Int), S.ct.getD (nodeP n) 0 + 1⟩ := by rw [← hu]; rfl
    have hs : u.seen = pickK S.st w := by rw [← hu]; rfl
    rw [← hs] at hseen
    have hnew : u.dot ∉ S.up.map (·.dot) := fun hm => by
      obtain ⟨v, hv, e⟩ := List.mem_map.1 hm
      obtain ⟨m, h1, h2, h3, h4⟩ := h.cnt v hv
      rw [e, hd] at h2 h4
      dsimp only at h2 h4
      have : nodeP n = m := by omega
      rw [this] at h4
      omega
    refine ⟨by dsimp only; rw [List.length_append, List.length_append, h.len]; rfl, by dsimp only; rw [List.length_set]; exact h.ct, ?_, fun v hv => ?_, fun m => ?_, fun v hv => ?_, fun s hsm => ?_, fun i v hv => ?_⟩
    · show ((S.up ++ [u]).map (·.dot)).Nodup
      rw [List.map_append, List.nodup_append]
      refine ⟨h.one, by simp, fun a ha b hb e => ?_⟩
      simp at hb
      subst hb
      exact hnew (e ▸ ha)
    · dsimp only at hv ⊢
      rcases List.mem_append.1 hv with hv | hv
      · obtain ⟨m, h1, h2, h3, h4⟩ := h.cnt v hv
        refine ⟨m, h1, h2, h3, ?_⟩
        rw [getD_set (by rw [h.ct]; exact hn8)]
        split
        · rename_i e; subst e; omega
        · exact h4
      · simp at hv
        subst hv
        refine ⟨nodeP n, hn8, by rw [hd], by rw [hd], ?_⟩
        rw [getD_set (by rw [h.ct]; exact hn8), if_pos rfl, hd]
        exact Int.le_refl _
    · dsimp only
      rw [getD_set (by rw [h.ct]; exact hn8)]
      have := h.pos m
      have := h.pos (nodeP n)
      split <;> omega
    · dsimp only at hv ⊢
      rcases List.mem_append.1 hv with hv | hv
      · exact inH_more (h.seen v hv) hnew
      · simp at hv
        subst hv
        exact inH_more hseen hnew
    · dsimp only at hsm ⊢
      rcases List.mem_append.1 hsm with hsm | hsm
      · exact inH_more (h.st s hsm) hnew
      · simp at hsm
        subst hsm
        exact inH_apply h.seen hseen hnew ha
    · dsimp only at hv ⊢
      rw [List.getElem?_append] at hv ⊢
      rw [h.len]
      split at hv
      · rename_i hi
        rw [if_pos hi]
        exact h.app i v hv
      · rename_i hi
        rw [if_neg hi]
        obtain ⟨h1, h2⟩ := List.getElem?_eq_some_iff.1 hv
        have h0 : i - S.up.length = 0 := by simp at h1; omega
        rw [h0] at hv ⊢
        simp at hv
        subst hv
        exact ⟨rfl, ha⟩
  · exact h
theorem play_ok (h : Hist) : ∀ i, PlayOk (playTo h i)
  | 0 => play_start
  | i + 1 => play_step (play_ok h i) _ _ _ _ _
theorem step_len (S : Play) (u : Upd) (n : Int) : (stepP S u n).st.length ≤ S.st.length + 1 := by
  unfold stepP
  split
  · simp
  · omega
theorem play_len (h : Hist) : ∀ i, (playTo h i).st.length ≤ i
  | 0 => Nat.le_refl _
  | i + 1 => by rw [playTo]; have := step_len (playTo h i) (stepU (playTo h i) (h.items.getD i []) (h.qtys.getD i 0) (h.prices.getD i 0) (h.nodes.getD i 0) (h.saws.getD i 0)) (h.nodes.getD i 0); have := play_len h i; omega
theorem many_le (h : Hist) : h.many ≤ 12 := by unfold Hist.many; omega
theorem play_states (h : Hist) : (playK h).st.length ≤ 12 := Nat.le_trans (play_len h _) (many_le h)
end Go.Fw
set_option linter.unusedVariables false
set_option linter.unusedSimpArgs false
set_option maxRecDepth 100000
set_option maxHeartbeats 4000000
namespace Go.Fw
theorem andK_u1 (n : Nat) (h : n < 18446744073709551616) : andK .u64 (n : Int) 1 = ((n % 2 : Nat) : Int) := by
  unfold andK
  rw [show (1 : Int) = ((1 : Nat) : Int) from rfl, ofInt_nat, ofInt_nat]
  rw [BitVec.toNat_and, BitVec.toNat_ofNat, BitVec.toNat_ofNat]
  rw [show IntKind.u64.bits = 64 from rfl, Nat.mod_eq_of_lt (show n < 2 ^ 64 by simpa using h), show (1 : Nat) % 2 ^ 64 = 1 from rfl, Nat.and_one_is_mod]
  simp only [IntKind.wrap, IntKind.signed, IntKind.bits]
  simp
  omega
theorem bit_and (p : UInt64) (k : Nat) : decide (andK .u64 (Int.fdiv (p.toNat : Int) (2 ^ k)) 1 = 1) = bitU p k := by
  have e : Int.fdiv (p.toNat : Int) (2 ^ k) = ((p.toNat / 2 ^ k : Nat) : Int) := by
    rw [Int.fdiv_eq_ediv_of_nonneg _ (by exact_mod_cast Nat.zero_le _)]
    simp
  have hp := p.toNat_lt
  have hl : p.toNat / 2 ^ k ≤ p.toNat := Nat.div_le_self _ _
  rw [e, andK_u1 _ (by omega)]
  unfold bitU
  exact decide_eq_decide.2 (by omega)
theorem pick_next {sts : List Cart} {p : UInt64} {k : Nat} {s : Cart} (h : sts[k]? = some s) : pickTo sts p (k + 1) = pickF (pickTo sts p k) s (bitU p k) := by
  rw [pickTo, h]
theorem pick_len (sts : List Cart) (p : UInt64) : ∀ k, (pickTo sts p k).ents.length ≤ 1048576 ∧ (pickTo sts p k).ctx.marks.length ≤ 1048576 ∧ (pickTo sts p k).ctx.cloud.length ≤ 1048576
  | 0 => by simp [pickTo, Cart.zero]
  | k + 1 => by
    have ih := pick_len sts p k
    rw [pickTo]
    split
    · unfold pickF
      split
      · split
        · exact join_lens _ _
        · exact ih
      · exact ih
    · exact ih
end Go.Fw
namespace Go.Proofs.YtfblmkocmnbdcaaGreat
open Go.Fw Go.Proofs Go.RowKit Go.Proofs.Tryz
theorem c14 (w0 : World) (v1 : Value) (st : List SCart) (p : UInt64) (h : Sl SCart.enc 3 w0 w0.heap.size v1 st) (hc : ∀ q ∈ st, CartRd w0 q.1 q.2) (hn : st.length ≤ 64) :
    Rets Tryz.prog 14 #[v1, .int .u64 (p.toNat : Int)] w0 fun v L => ∃ A1 r1 A2 r2 A3 r3, v = .agg #[.slice A1 (pickK (st.map (·.1)) p).ents.length r1, .slice A2 (pickK (st.map (·.1)) p).ctx.marks.length r2, .slice A3 (pickK (st.map (·.1)) p).ctx.cloud.length r3] ∧
      L = [rowOf 71 6 Ent.enc A1 r1 (pickK (st.map (·.1)) p).ents, rowOf 122 3 Dot.enc A2 r2 (pickK (st.map (·.1)) p).ctx.marks, rowOf 58 3 Dot.enc A3 r3 (pickK (st.map (·.1)) p).ctx.cloud] := by
  obtain ⟨A, cap, rfl, hl, hcap, hA⟩ := h
  unfold Go.Fw.Rets
  refine enter2 func14 rfl ntmps14 rfl fun a S => wp_seq_k fun _ hK1 => wp_region_lit (st_m (op_alloc S zeroValue39 (cs := _) rfl rfl fun g1 a w S => st_nil (then_normal (hK1 _ _ (wp_seq_k fun _ hK1 => wp_region_lit (st_m (op_alloc S zeroValue39 (cs := _) rfl rfl fun g2 a w S => st_nil (then_normal (hK1 _ _ (wp_seq_k fun _ hK1 => sg S (.mv rfl <| .ln underlying29 rfl <| .mc rfl <| .z) fun a w S => wp_block ?_))))))))))
  have hz : pickTo (st.map (·.1)) p 0 = Cart.zero := rfl
  refine st_lpM (((S.nil_ 58 3 Dot.enc none).nil_ 122 3 Dot.enc none).nil_ 71 6 Ent.enc none) [12] (X := Nat × Option Addr × Nat × Option Addr × Nat × Option Addr × Nat) (fun q => [(12, true, .int .i64 (q.1 : Int))])
    (fun q => [rowOf 71 6 Ent.enc q.2.1 q.2.2.1 (pickTo (st.map (·.1)) p q.1).ents, rowOf 122 3 Dot.enc q.2.2.2.1 q.2.2.2.2.1 (pickTo (st.map (·.1)) p q.1).ctx.marks, rowOf 58 3 Dot.enc q.2.2.2.2.2.1 q.2.2.2.2.2.2 (pickTo (st.map (·.1)) p q.1).ctx.cloud, .blk g2 (.cells #[.slice q.2.1 (pickTo (st.map (·.1)) p q.1).ents.length q.2.2.1, .slice q.2.2.2.1 (pickTo (st.map (·.1)) p q.1).ctx.marks.length q.2.2.2.2.1, .slice q.2.2.2.2.2.1 (pickTo (st.map (·.1)) p q.1).ctx.cloud.length q.2.2.2.2.2.2] 39), .blk g1 (.cells #[.slice none 0 0, .slice none 0 0, .slice none 0 0] 39)])
    (fun q => q.1 ≤ st.length) (fun q => st.length - q.1) (0, none, 0, none, 0, none, 0) (Nat.zero_le _) ?_
  clear S
  rintro ⟨k, A1, r1, A2, r2, A3, r3⟩ a w hk S
  dsimp only at hk S
  by_cases hlt : k < st.length
  · obtain ⟨g, o, q, rfl, hq, hd, hcc⟩ := row_at hA hlt
    have hqr := hc q (List.mem_of_getElem? hq)
    obtain ⟨hq1, hq2, hq3⟩ := hqr
    have hnx : pickTo (st.map (·.1)) p (k + 1) = pickF (pickTo (st.map (·.1)) p k) q.1 (bitU p k) := pick_next (by rw [List.getElem?_map, hq]; rfl)
    have hb0 := bit_and p k
    cases hb : bitU p k with
    | false =>
      have rw_b := hb0.trans hb
      have e : pickTo (st.map (·.1)) p (k + 1) = pickTo (st.map (·.1)) p k := by rw [hnx, hb]; rfl
      refine sg S (.lt (by omega) rfl rfl <| .z) fun a w S => wp_seq_k fun _ hK2 => st_then S (.t rfl) (wp_skip (then_normal (hK2 _ _ (wp_seq_k fun _ hK2 => wp_block (wp_seq_k fun _ hK3 => wp_region_lit (run S (.mv rfl <| .ix underlying29 sizeOf39 (by omega) rfl rfl <| .yy (ys_ldOA ⟨isAgg39, sizeOf39⟩ (.t rfl) (vs := [_, _, _]) rfl (fun _ => hcc)) rfl <| .z) fun a w S => st_m (op_alloc S zeroValue39 (cs := _) rfl rfl fun g3 a w S => run S (.as rfl <| .z) fun a w S => st_m (op_stW S sizeOf39 (.t rfl) (.t rfl) (k := 0) rfl rfl rfl (by simp [Value.oneCell']) fun a w S => st_nil (then_normal (hK3 _ _ (wp_seq_k fun _ hK3 => wp_region_lit (run S (.mv rfl <| .mv rfl <| .yy (ys_shr (.t rfl) (.t rfl) (Nat.ble_eq_true_of_le (by show _ ≤ 64; omega))) rfl <| .yy (ys_band (.t rfl) Ev.c) rfl <| .yy (ys_eql (.t rfl) Ev.c) rfl <| .z) fun a w S => ?_))))))))))))
      rw [rw_b] at S
      refine st_nil (then_normal (hK3 _ _ (st_else S (.t rfl) (wp_skip (in_normal (then_normal (hK2 _ _ (wp_region_lit (run S (.ad (by unfold I64; omega) rfl <| .mv rfl <| .z) fun a w S => st_nil (then_normal ?_))))))))))
      exact ⟨(k + 1, A1, r1, A2, r2, A3, r3), by dsimp only; omega, by dsimp only; omega, by dsimp only; rw [e]; exact S.pk⟩
    | true =>
      have rw_b := hb0.trans hb
      by_cases hj : (joinK (pickTo (st.map (·.1)) p k) q.1).2 = 0
      · have e : pickTo (st.map (·.1)) p (k + 1) = (joinK (pickTo (st.map (·.1)) p k) q.1).1 := by rw [hnx, hb]; unfold pickF; rw [if_pos rfl, if_pos hj]
        have rw_j := decide_eq_true hj
        refine sg S (.lt (by omega) rfl rfl <| .z) fun a w S => wp_seq_k fun _ hK2 => st_then S (.t rfl) (wp_skip (then_normal (hK2 _ _ (wp_seq_k fun _ hK2 => wp_block (wp_seq_k fun _ hK3 => wp_region_lit (run S (.mv rfl <| .ix underlying29 sizeOf39 (by omega) rfl rfl <| .yy (ys_ldOA ⟨isAgg39, sizeOf39⟩ (.t rfl) (vs := [_, _, _]) rfl (fun _ => hcc)) rfl <| .z) fun a w S => st_m (op_alloc S zeroValue39 (cs := _) rfl rfl fun g3 a w S => run S (.as rfl <| .z) fun a w S => st_m (op_stW S sizeOf39 (.t rfl) (.t rfl) (k := 0) rfl rfl rfl (by simp [Value.oneCell']) fun a w S => st_nil (then_normal (hK3 _ _ (wp_seq_k fun _ hK3 => wp_region_lit (run S (.mv rfl <| .mv rfl <| .yy (ys_shr (.t rfl) (.t rfl) (Nat.ble_eq_true_of_le (by show _ ≤ 64; omega))) rfl <| .yy (ys_band (.t rfl) Ev.c) rfl <| .yy (ys_eql (.t rfl) Ev.c) rfl <| .z) fun a w S => ?_))))))))))))
        rw [rw_b] at S
        refine st_nil (then_normal (hK3 _ _ (st_then S (.t rfl) (wp_seq_k fun _ hK3 => wp_region_lit (run S (.la gt39 4 rfl rfl rfl <| .la gt39 0 rfl rfl rfl <| .z) fun a w S => ?_)))))
        (refine st_m (op_calls S call34 (.cons (.t rfl) (.cons (.t rfl) .nil)) (c34 _ _ _ _ _ _ _ _ _ (by exact Sl.of_own S.wd (k := 1) rfl (fun _ => rfl)) (by exact ⟨(by exact Sl.of_own S.wd (k := 2) rfl (fun _ => rfl)), (by exact Sl.of_own S.wd (k := 3) rfl (fun _ => rfl))⟩) (by exact .old S.wd (by assumption)) (by exact ⟨(by exact .old S.wd (by assumption)), (by exact .old S.wd (by assumption))⟩)) rfl ?_); clear S a w; rintro _ _ ⟨A11, r11, A21, r21, A31, r31, rfl, rfl⟩ a w S)
        simp only [List.nil_append] at S
        refine run S (.mv rfl <| .ex rfl rfl <| .ex rfl rfl <| .z) fun a w S => st_m (op_alloc S zeroValue39 (cs := _) rfl rfl fun g4 a w S => st_m (op_stW S sizeOf39 (.t rfl) (.t rfl) (k := 0) rfl rfl rfl (by simp [Value.oneCell']) fun a w S => run S (.as rfl <| .z) fun a w S => st_nil (then_normal (hK3 _ _ (sg S (.mv rfl <| .yy (ys_T (by omega) (ys_eql (.t rfl) Ev.c)) rfl <| .z) fun a w S => st_then S (.t rfl) (wp_region_lit (run S (.la gt39 0 rfl rfl rfl <| .z) fun a w S => st_m (op_stW S sizeOf39 (.t rfl) (.t rfl) (k := 8) rfl rfl rfl (by simp [Value.oneCell']) fun a w S => st_nil (in_normal (then_normal (hK2 _ _ (wp_region_lit (run S (.ad (by unfold I64; omega) rfl <| .mv rfl <| .z) fun a w S => st_nil (then_normal ?_))))))))))))))
        exact ⟨(k + 1, A11, r11, A21, r21, A31, r31), by dsimp only; omega, by dsimp only; omega, by dsimp only; rw [e]; exact S.pk⟩
      · have e : pickTo (st.map (·.1)) p (k + 1) = pickTo (st.map (·.1)) p k := by rw [hnx, hb]; unfold pickF; rw [if_pos rfl, if_neg hj]
        have rw_j := decide_eq_false hj
        refine sg S (.lt (by omega) rfl rfl <| .z) fun a w S => wp_seq_k fun _ hK2 => st_then S (.t rfl) (wp_skip (then_normal (hK2 _ _ (wp_seq_k fun _ hK2 => wp_block (wp_seq_k fun _ hK3 => wp_region_lit (run S (.mv rfl <| .ix underlying29 sizeOf39 (by omega) rfl rfl <| .yy (ys_ldOA ⟨isAgg39, sizeOf39⟩ (.t rfl) (vs := [_, _, _]) rfl (fun _ => hcc)) rfl <| .z) fun a w S => st_m (op_alloc S zeroValue39 (cs := _) rfl rfl fun g3 a w S => run S (.as rfl <| .z) fun a w S => st_m (op_stW S sizeOf39 (.t rfl) (.t rfl) (k := 0) rfl rfl rfl (by simp [Value.oneCell']) fun a w S => st_nil (then_normal (hK3 _ _ (wp_seq_k fun _ hK3 => wp_region_lit (run S (.mv rfl <| .mv rfl <| .yy (ys_shr (.t rfl) (.t rfl) (Nat.ble_eq_true_of_le (by show _ ≤ 64; omega))) rfl <| .yy (ys_band (.t rfl) Ev.c) rfl <| .yy (ys_eql (.t rfl) Ev.c) rfl <| .z) fun a w S => ?_))))))))))))
        rw [rw_b] at S
        refine st_nil (then_normal (hK3 _ _ (st_then S (.t rfl) (wp_seq_k fun _ hK3 => wp_region_lit (run S (.la gt39 4 rfl rfl rfl <| .la gt39 0 rfl rfl rfl <| .z) fun a w S => ?_)))))
        (refine st_m (op_calls S call34 (.cons (.t rfl) (.cons (.t rfl) .nil)) (c34 _ _ _ _ _ _ _ _ _ (by exact Sl.of_own S.wd (k := 1) rfl (fun _ => rfl)) (by exact ⟨(by exact Sl.of_own S.wd (k := 2) rfl (fun _ => rfl)), (by exact Sl.of_own S.wd (k := 3) rfl (fun _ => rfl))⟩) (by exact .old S.wd (by assumption)) (by exact ⟨(by exact .old S.wd (by assumption)), (by exact .old S.wd (by assumption))⟩)) rfl ?_); clear S a w; rintro _ _ ⟨A11, r11, A21, r21, A31, r31, rfl, rfl⟩ a w S)
        simp only [List.nil_append] at S
        refine run S (.mv rfl <| .ex rfl rfl <| .ex rfl rfl <| .z) fun a w S => st_m (op_alloc S zeroValue39 (cs := _) rfl rfl fun g4 a w S => st_m (op_stW S sizeOf39 (.t rfl) (.t rfl) (k := 0) rfl rfl rfl (by simp [Value.oneCell']) fun a w S => run S (.as rfl <| .z) fun a w S => st_nil (then_normal (hK3 _ _ (sg S (.mv rfl <| .yy (ys_F (by omega) (ys_eql (.t rfl) Ev.c)) rfl <| .z) fun a w S => st_else S (.t rfl) (wp_skip (in_normal (then_normal (hK2 _ _ (wp_region_lit (run S (.ad (by unfold I64; omega) rfl <| .mv rfl <| .z) fun a w S => st_nil (then_normal ?_))))))))))))
        exact ⟨(k + 1, A1, r1, A2, r2, A3, r3), by dsimp only; omega, by dsimp only; omega, by dsimp only; rw [e]; exact S.pk⟩
  obtain rfl : k = st.length := by omega
  have e : pickTo (st.map (·.1)) p st.length = pickK (st.map (·.1)) p := by unfold pickK; rw [List.length_map]
  rw [e] at S
  refine sg S (.ge (by omega) rfl rfl <| .z) fun a w S => wp_seq_k fun _ hK2 => st_else S (.t rfl) (wp_exit (then_exit (then_exit (in_here (then_normal (hK1 _ _ (wp_seq_k fun _ hK1 => wp_region_lit (run S (.la gt39 3 rfl rfl rfl <| .z) fun a w S => st_m (op_stW S sizeOf39 (.t rfl) (.t rfl) (k := 4) rfl rfl rfl (by simp [Value.oneCell']) fun a w S => st_nil (then_normal (hK1 _ _ (wp_ret (st_ret S (results1 S results14 (Rv.cell (k := 4) ⟨isAgg39, sizeOf39⟩ rfl rfl rfl)) ?_)))))))))))))
  exact ⟨_, _, rfl, S.wd.pk, _, _, _, _, _, _, rfl, rfl⟩
end Go.Proofs.YtfblmkocmnbdcaaGreat
