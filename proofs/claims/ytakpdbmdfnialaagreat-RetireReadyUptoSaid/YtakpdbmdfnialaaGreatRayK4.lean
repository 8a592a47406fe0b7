/- Contracts and laws that the statement Ray leans on, part 4. -/
import Derived.Test.YtakpdbmdfnialaaGreatRayK3
set_option linter.unusedVariables false
set_option linter.unusedSimpArgs false
set_option maxRecDepth 100000
set_option maxHeartbeats 4000000
namespace Go.Proofs.YtakpdbmdfnialaaGreat
open Go.Fw Go.Proofs Go.RowKit Go.Proofs.Tryz
theorem c154 (w0 : World) (v1 v2 v3 v4 : Value) (C D : Ctx) (h : RdCtx w0 w0.heap.size v1 v2 C) (h' : RdCtx w0 w0.heap.size v3 v4 D) :
    Calls Tryz.prog 154 #[.agg #[v1, v2], .agg #[v3, v4]] w0 fun e w' => e = .returned (.bool (decide (C = D))) ∧ Bel w0.heap.size w0 w' := by
  obtain ⟨⟨A, cap, rfl, hl, hcap, hA⟩, ⟨A', cap', rfl, hl', hcap', hA'⟩⟩ := h
  obtain ⟨⟨B, capB, rfl, hlB, hcapB, hB⟩, ⟨B', capB', rfl, hlB', hcapB', hB'⟩⟩ := h'
  by_cases l1 : C.marks.length = D.marks.length
  rotate_left
  · have rw_1 : decide ((C.marks.length : Int) ≠ (D.marks.length : Int)) = true := decide_eq_true (by omega)
    refine enter2 func154 rfl ntmps154 rfl fun a S => wp_seq_k fun _ hK1 => wp_region_lit (st_m (op_box S (.t rfl) rfl fun g1 a w S => st_m (op_box S (.t rfl) rfl fun g2 a w S => run S (.ac rfl <| .z) fun a w S => st_nil (then_normal (hK1 _ _ (wp_seq_k fun _ hK1 => sg S (.fa underlying35 sizeOf32 0 rfl rfl rfl <| .ld gt32 1 rfl rfl rfl <| .ln underlying32 rfl <| .fa underlying35 sizeOf32 0 rfl rfl rfl <| .ld gt32 0 rfl rfl rfl <| .ln underlying32 rfl <| .yy (ys_T (by omega) (ys_neq (.t rfl) (.t rfl))) rfl <| .mv rfl <| .sk rfl rfl rfl <| .sk rfl rfl rfl <| .sk rfl rfl rfl <| .sk rfl rfl rfl <| .sk rfl rfl rfl <| .sk rfl rfl rfl <| .sk rfl rfl rfl <| .yy (ys_pickT (.t rfl) Ev.c) rfl <| .z) fun a w S => st_then S (.t rfl) (sg S (.ac rfl <| .z) fun a w S => wp_ret (then_ret (st_ret S (results1 S results154 (Rv.tmp rfl)) ?_)))))))))
    exact ⟨by rw [decide_eq_false (fun h => l1 (by rw [h]))], S.wd.below⟩
  have rw_1 : decide ((C.marks.length : Int) ≠ (D.marks.length : Int)) = false := decide_eq_false (by omega)
  by_cases l2 : C.cloud.length = D.cloud.length
  rotate_left
  · have rw_2 : decide ((C.cloud.length : Int) ≠ (D.cloud.length : Int)) = true := decide_eq_true (by omega)
    refine enter2 func154 rfl ntmps154 rfl fun a S => wp_seq_k fun _ hK1 => wp_region_lit (st_m (op_box S (.t rfl) rfl fun g1 a w S => st_m (op_box S (.t rfl) rfl fun g2 a w S => run S (.ac rfl <| .z) fun a w S => st_nil (then_normal (hK1 _ _ (wp_seq_k fun _ hK1 => sg S (.fa underlying35 sizeOf32 0 rfl rfl rfl <| .ld gt32 1 rfl rfl rfl <| .ln underlying32 rfl <| .fa underlying35 sizeOf32 0 rfl rfl rfl <| .ld gt32 0 rfl rfl rfl <| .ln underlying32 rfl <| .yy (ys_F (by omega) (ys_neq (.t rfl) (.t rfl))) rfl <| .mv rfl <| .gy rfl rfl (ys_fieldN (FieldT.mk underlying35 rfl sizeOf33 rfl) (.t rfl) (i' := 1) rfl) <| .gy rfl rfl (ys_ld ⟨isAgg33, sizeOf33⟩ (.t rfl) (k := 1) rfl rfl) <| .gy rfl rfl (ys_lenS underlying33 (.t rfl)) <| .gy rfl rfl (ys_fieldN (FieldT.mk underlying35 rfl sizeOf33 rfl) (.t rfl) (i' := 1) rfl) <| .gy rfl rfl (ys_ld ⟨isAgg33, sizeOf33⟩ (.t rfl) (k := 0) rfl rfl) <| .gy rfl rfl (ys_lenS underlying33 (.t rfl)) <| .gy rfl rfl (ys_T (by omega) (ys_neq (.t rfl) (.t rfl))) <| .yy (ys_pickF (.t rfl) (.t rfl)) rfl <| .z) fun a w S => st_then S (.t rfl) (sg S (.ac rfl <| .z) fun a w S => wp_ret (then_ret (st_ret S (results1 S results154 (Rv.tmp rfl)) ?_)))))))))
    exact ⟨by rw [decide_eq_false (fun h => l2 (by rw [h]))], S.wd.below⟩
  have rw_2 : decide ((C.cloud.length : Int) ≠ (D.cloud.length : Int)) = false := decide_eq_false (by omega)
  refine enter2 func154 rfl ntmps154 rfl fun a S => wp_seq_k fun _ hK1 => wp_region_lit (st_m (op_box S (.t rfl) rfl fun g1 a w S => st_m (op_box S (.t rfl) rfl fun g2 a w S => run S (.ac rfl <| .z) fun a w S => st_nil (then_normal (hK1 _ _ (wp_seq_k fun _ hK1 => sg S (.fa underlying35 sizeOf32 0 rfl rfl rfl <| .ld gt32 1 rfl rfl rfl <| .ln underlying32 rfl <| .fa underlying35 sizeOf32 0 rfl rfl rfl <| .ld gt32 0 rfl rfl rfl <| .ln underlying32 rfl <| .yy (ys_F (by omega) (ys_neq (.t rfl) (.t rfl))) rfl <| .mv rfl <| .gy rfl rfl (ys_fieldN (FieldT.mk underlying35 rfl sizeOf33 rfl) (.t rfl) (i' := 1) rfl) <| .gy rfl rfl (ys_ld ⟨isAgg33, sizeOf33⟩ (.t rfl) (k := 1) rfl rfl) <| .gy rfl rfl (ys_lenS underlying33 (.t rfl)) <| .gy rfl rfl (ys_fieldN (FieldT.mk underlying35 rfl sizeOf33 rfl) (.t rfl) (i' := 1) rfl) <| .gy rfl rfl (ys_ld ⟨isAgg33, sizeOf33⟩ (.t rfl) (k := 0) rfl rfl) <| .gy rfl rfl (ys_lenS underlying33 (.t rfl)) <| .gy rfl rfl (ys_F (by omega) (ys_neq (.t rfl) (.t rfl))) <| .yy (ys_pickF (.t rfl) (.t rfl)) rfl <| .z) fun a w S => st_else S (.t rfl) (wp_skip (then_normal (hK1 _ _ (wp_seq_k fun _ hK1 => wp_seq_k fun _ hK2 => wp_region_lit ?_))))))))))
  refine run S (.fa underlying35 sizeOf32 0 rfl rfl rfl <| .ld gt32 1 rfl rfl rfl <| .ln underlying32 rfl <| .mc rfl <| .z) fun a w S => st_nil (then_normal (hK2 _ _ (wp_block ?_)))
  refine st_lpM S [26] (X := Nat) (fun k => [(26, true, .int .i64 (k : Int))]) (fun _ => [.blk g2 (.cells #[.slice B D.marks.length capB, .slice B' D.cloud.length capB'] 35), .blk g1 (.cells #[.slice A C.marks.length cap, .slice A' C.cloud.length cap'] 35)])
    (fun k => k ≤ C.marks.length ∧ C.marks.take k = D.marks.take k) (fun k => C.marks.length - k) 0 ⟨Nat.zero_le _, rfl⟩ ?_
  clear S
  rintro k a w ⟨hk, hno⟩ S
  by_cases hlt : k < C.marks.length
  · obtain ⟨g, o, x, rfl, hx, hd, hc⟩ := row_at hA hlt
    obtain ⟨g', o', y, rfl, hy, hd', hc'⟩ := row_at hB (l1 ▸ hlt)
    by_cases he : x = y
    · have rw_e := decide_eq_true (dot_iff3.1 he)
      refine sg S (.lt (by omega) rfl rfl <| .z) fun a w S => wp_seq_k fun _ hK2 => st_then S (.t rfl) (wp_skip (then_normal (hK2 _ _ (wp_seq_k fun _ hK2 => wp_block (sg S (.mv rfl <| .as rfl <| .z) fun a w S => wp_seq_k fun _ hK3 => st_quiet S (by kernel_rfl) (by kernel_rfl) fun a S => qrun S (.fa underlying35 sizeOf32 0 rfl rfl rfl <| .ld gt32 1 rfl rfl rfl <| .mv rfl <| .ix underlying32 sizeOf30 (by omega) rfl rfl <| .yy (ys_ldOA ⟨isAgg30, sizeOf30⟩ (.t rfl) (vs := [_, _, _]) rfl (fun _ => hc)) rfl <| .fa underlying35 sizeOf32 0 rfl rfl rfl <| .ld gt32 0 rfl rfl rfl <| .mv rfl <| .ix underlying32 sizeOf30 (by omega) rfl rfl <| .yy (ys_ldOA ⟨isAgg30, sizeOf30⟩ (.t rfl) (vs := [_, _, _]) rfl (fun _ => hc')) rfl <| .yy (ys_neA (.t rfl) (.t rfl) eq30) rfl <| .z) fun a S => ?_)))))
      rw [rw_e] at S
      (refine q_nil ?_; intro w W; replace S := St.mk S W; clear W)
      refine then_normal (hK3 _ _ (st_else S (.t rfl) (wp_skip (in_normal (then_normal (hK2 _ _ (wp_region_lit (run S (.ad (by unfold I64; omega) rfl <| .mv rfl <| .z) fun a w S => st_nil (then_normal ?_)))))))))
      exact ⟨k + 1, ⟨by omega, takeE_step hno hx hy he⟩, by omega, S.pk⟩
    · have rw_e := decide_eq_false (fun h => he (dot_iff3.2 h))
      refine sg S (.lt (by omega) rfl rfl <| .z) fun a w S => wp_seq_k fun _ hK2 => st_then S (.t rfl) (wp_skip (then_normal (hK2 _ _ (wp_seq_k fun _ hK2 => wp_block (sg S (.mv rfl <| .as rfl <| .z) fun a w S => wp_seq_k fun _ hK3 => st_quiet S (by kernel_rfl) (by kernel_rfl) fun a S => qrun S (.fa underlying35 sizeOf32 0 rfl rfl rfl <| .ld gt32 1 rfl rfl rfl <| .mv rfl <| .ix underlying32 sizeOf30 (by omega) rfl rfl <| .yy (ys_ldOA ⟨isAgg30, sizeOf30⟩ (.t rfl) (vs := [_, _, _]) rfl (fun _ => hc)) rfl <| .fa underlying35 sizeOf32 0 rfl rfl rfl <| .ld gt32 0 rfl rfl rfl <| .mv rfl <| .ix underlying32 sizeOf30 (by omega) rfl rfl <| .yy (ys_ldOA ⟨isAgg30, sizeOf30⟩ (.t rfl) (vs := [_, _, _]) rfl (fun _ => hc')) rfl <| .yy (ys_neA (.t rfl) (.t rfl) eq30) rfl <| .z) fun a S => ?_)))))
      rw [rw_e] at S
      (refine q_nil ?_; intro w W; replace S := St.mk S W; clear W)
      refine then_normal (hK3 _ _ (st_then S (.t rfl) (sg S (.ac rfl <| .z) fun a w S => wp_ret (in_ret (then_ret (then_ret (in_ret (then_ret (st_ret S (results1 S results154 (Rv.tmp rfl)) ?_)))))))))
      exact ⟨by rw [decide_eq_false (fun h => takeE_ne hx hy he (by rw [h]))], S.wd.below⟩
  obtain rfl : k = C.marks.length := by omega
  rw [List.take_length, List.take_of_length_le (by omega)] at hno
  clear hlt
  refine sg S (.ge (by omega) rfl rfl <| .z) fun a w S => wp_seq_k fun _ hK2 => st_else S (.t rfl) (wp_exit (then_exit (then_exit (in_here (then_normal (hK1 _ _ (wp_seq_k fun _ hK1 => sg S (.fa underlying35 sizeOf33 1 rfl rfl rfl <| .ld gt33 1 rfl rfl rfl <| .ln underlying33 rfl <| .mc rfl <| .z) fun a w S => wp_block ?_)))))))
  refine st_lpM S [40] (X := Nat) (fun k => [(44, true, .int .i64 (k : Int))]) (fun _ => [.blk g2 (.cells #[.slice B D.marks.length capB, .slice B' D.cloud.length capB'] 35), .blk g1 (.cells #[.slice A C.marks.length cap, .slice A' C.cloud.length cap'] 35)])
    (fun k => k ≤ C.cloud.length ∧ C.cloud.take k = D.cloud.take k) (fun k => C.cloud.length - k) 0 ⟨Nat.zero_le _, rfl⟩ ?_
  clear S
  rintro k a w ⟨hk, hno2⟩ S
  by_cases hlt : k < C.cloud.length
  · obtain ⟨g, o, x, rfl, hx, hd, hc⟩ := row_at hA' hlt
    obtain ⟨g', o', y, rfl, hy, hd', hc'⟩ := row_at hB' (l2 ▸ hlt)
    by_cases he : x = y
    · have rw_e := decide_eq_true (dot_iff3.1 he)
      refine sg S (.lt (by omega) rfl rfl <| .z) fun a w S => wp_seq_k fun _ hK3 => st_then S (.t rfl) (wp_skip (then_normal (hK3 _ _ (wp_seq_k fun _ hK3 => wp_block (sg S (.mv rfl <| .as rfl <| .z) fun a w S => wp_seq_k fun _ hK4 => st_quiet S (by kernel_rfl) (by kernel_rfl) fun a S => qrun S (.fa underlying35 sizeOf33 1 rfl rfl rfl <| .ld gt33 1 rfl rfl rfl <| .mv rfl <| .ix underlying33 sizeOf74 (by omega) rfl rfl <| .yy (ys_ldOA ⟨isAgg74, sizeOf74⟩ (.t rfl) (vs := [_, _, _]) rfl (fun _ => hc)) rfl <| .fa underlying35 sizeOf33 1 rfl rfl rfl <| .ld gt33 0 rfl rfl rfl <| .mv rfl <| .ix underlying33 sizeOf74 (by omega) rfl rfl <| .yy (ys_ldOA ⟨isAgg74, sizeOf74⟩ (.t rfl) (vs := [_, _, _]) rfl (fun _ => hc')) rfl <| .yy (ys_neA (.t rfl) (.t rfl) eq74) rfl <| .z) fun a S => ?_)))))
      rw [rw_e] at S
      (refine q_nil ?_; intro w W; replace S := St.mk S W; clear W)
      refine then_normal (hK4 _ _ (st_else S (.t rfl) (wp_skip (in_normal (then_normal (hK3 _ _ (wp_region_lit (run S (.ad (by unfold I64; omega) rfl <| .mv rfl <| .z) fun a w S => st_nil (then_normal ?_)))))))))
      exact ⟨k + 1, ⟨by omega, takeE_step hno2 hx hy he⟩, by omega, S.pk⟩
    · have rw_e := decide_eq_false (fun h => he (dot_iff3.2 h))
      refine sg S (.lt (by omega) rfl rfl <| .z) fun a w S => wp_seq_k fun _ hK3 => st_then S (.t rfl) (wp_skip (then_normal (hK3 _ _ (wp_seq_k fun _ hK3 => wp_block (sg S (.mv rfl <| .as rfl <| .z) fun a w S => wp_seq_k fun _ hK4 => st_quiet S (by kernel_rfl) (by kernel_rfl) fun a S => qrun S (.fa underlying35 sizeOf33 1 rfl rfl rfl <| .ld gt33 1 rfl rfl rfl <| .mv rfl <| .ix underlying33 sizeOf74 (by omega) rfl rfl <| .yy (ys_ldOA ⟨isAgg74, sizeOf74⟩ (.t rfl) (vs := [_, _, _]) rfl (fun _ => hc)) rfl <| .fa underlying35 sizeOf33 1 rfl rfl rfl <| .ld gt33 0 rfl rfl rfl <| .mv rfl <| .ix underlying33 sizeOf74 (by omega) rfl rfl <| .yy (ys_ldOA ⟨isAgg74, sizeOf74⟩ (.t rfl) (vs := [_, _, _]) rfl (fun _ => hc')) rfl <| .yy (ys_neA (.t rfl) (.t rfl) eq74) rfl <| .z) fun a S => ?_)))))
      rw [rw_e] at S
      (refine q_nil ?_; intro w W; replace S := St.mk S W; clear W)
      refine then_normal (hK4 _ _ (st_then S (.t rfl) (sg S (.ac rfl <| .z) fun a w S => wp_ret (in_ret (then_ret (then_ret (in_ret (then_ret (st_ret S (results1 S results154 (Rv.tmp rfl)) ?_)))))))))
      exact ⟨by rw [decide_eq_false (fun h => takeE_ne hx hy he (by rw [h]))], S.wd.below⟩
  obtain rfl : k = C.cloud.length := by omega
  rw [List.take_length, List.take_of_length_le (by omega)] at hno2
  refine sg S (.ge (by omega) rfl rfl <| .z) fun a w S => wp_seq_k fun _ hK3 => st_else S (.t rfl) (wp_exit (then_exit (then_exit (in_here (then_normal (hK1 _ _ (sg S (.ac rfl <| .z) fun a w S => wp_ret (st_ret S (results1 S results154 (Rv.tmp rfl)) ?_))))))))
  refine ⟨?_, S.wd.below⟩
  have e : C = D := by cases C; cases D; dsimp only at hno hno2; rw [hno, hno2]
  rw [decide_eq_true e]
theorem c101 (w0 : World) (v1 v2 v3 v4 v5 v6 : Value) (X Y : Cart) (h : Sl Ent.enc 6 w0 w0.heap.size v1 X.ents) (hr : RdCtx w0 w0.heap.size v2 v3 X.ctx) (h' : Sl Ent.enc 6 w0 w0.heap.size v4 Y.ents) (hr' : RdCtx w0 w0.heap.size v5 v6 Y.ctx) :
    Calls Tryz.prog 101 #[.agg #[v1, v2, v3], .agg #[v4, v5, v6]] w0 fun e w' => e = .returned (.bool (decide (X = Y))) ∧ Bel w0.heap.size w0 w' := by
  have hs := h
  have hrr := hr
  have hs' := h'
  have hrr' := hr'
  obtain ⟨A, cap, rfl, hl, hcap, hA⟩ := h
  obtain ⟨⟨A2, cap2, rfl, _⟩, ⟨A3, cap3, rfl, _⟩⟩ := hr
  obtain ⟨B, capB, rfl, hlB, hcapB, hB⟩ := h'
  obtain ⟨⟨B2, capB2, rfl, _⟩, ⟨B3, capB3, rfl, _⟩⟩ := hr'
  by_cases l1 : X.ents.length = Y.ents.length
  rotate_left
  · have rw_1 : decide ((X.ents.length : Int) ≠ (Y.ents.length : Int)) = true := decide_eq_true (by omega)
    refine enter2 func101 rfl ntmps101 rfl fun a S => wp_seq_k fun _ hK1 => wp_region_lit (st_m (op_box S (.t rfl) rfl fun g1 a w S => st_m (op_box S (.t rfl) rfl fun g2 a w S => run S (.ac rfl <| .z) fun a w S => st_nil (then_normal (hK1 _ _ (wp_seq_k fun _ hK1 => sg S (.fa underlying37 sizeOf31 0 rfl rfl rfl <| .ld gt31 1 rfl rfl rfl <| .ln underlying31 rfl <| .fa underlying37 sizeOf31 0 rfl rfl rfl <| .ld gt31 0 rfl rfl rfl <| .ln underlying31 rfl <| .yy (ys_T (by omega) (ys_neq (.t rfl) (.t rfl))) rfl <| .mv rfl <| .sk rfl rfl rfl <| .sk rfl rfl rfl <| .sk rfl rfl rfl <| .sk rfl rfl rfl <| .sk rfl rfl rfl <| .sk rfl rfl rfl <| .yy (ys_pickT (.t rfl) Ev.c) rfl <| .z) fun a w S => st_then S (.t rfl) (sg S (.ac rfl <| .z) fun a w S => wp_ret (then_ret (st_ret S (results1 S results101 (Rv.tmp rfl)) ?_)))))))))
    exact ⟨by rw [decide_eq_false (fun h => l1 (by rw [h]))], S.wd.below⟩
  have rw_1 : decide ((X.ents.length : Int) ≠ (Y.ents.length : Int)) = false := decide_eq_false (by omega)
  by_cases l2 : X.ctx = Y.ctx
  rotate_left
  · have rw_2 := decide_eq_false l2
    refine enter2 func101 rfl ntmps101 rfl fun a S => wp_seq_k fun _ hK1 => wp_region_lit (st_m (op_box S (.t rfl) rfl fun g1 a w S => st_m (op_box S (.t rfl) rfl fun g2 a w S => run S (.ac rfl <| .z) fun a w S => st_nil (then_normal (hK1 _ _ (wp_seq_k fun _ hK1 => wp_seq_k fun _ hK2 => wp_region_lit (run S (.fa underlying37 sizeOf31 0 rfl rfl rfl <| .ld gt31 1 rfl rfl rfl <| .ln underlying31 rfl <| .fa underlying37 sizeOf31 0 rfl rfl rfl <| .ld gt31 0 rfl rfl rfl <| .ln underlying31 rfl <| .yy (ys_F (by omega) (ys_neq (.t rfl) (.t rfl))) rfl <| .mv rfl <| .gy rfl rfl (ys_fieldN (FieldT.mk underlying37 rfl sizeOf35 rfl) (.t rfl) (i' := 1) rfl) <| .gy rfl rfl (ys_ldA ⟨isAgg35, sizeOf35⟩ (.t rfl) (k := 1) rfl rfl) <| .gy rfl rfl (ys_fieldN (FieldT.mk underlying37 rfl sizeOf35 rfl) (.t rfl) (i' := 1) rfl) <| .gy rfl rfl (ys_ldA ⟨isAgg35, sizeOf35⟩ (.t rfl) (k := 0) rfl rfl) <| .gx rfl rfl (ys_call call154 (.cons (.t rfl) (.cons (.t rfl) .nil)) (fun hp w W => c154 _ _ _ _ _ _ _ (by exact .old W (by assumption)) (by exact .old W (by assumption)))) <| .z) fun a w S => ?_)))))))
    rw [rw_2] at S
    refine run S (.gy rfl rfl (ys_not (.t rfl)) <| .yy (ys_pickF (.t rfl) (.t rfl)) rfl <| .z) fun a w S => st_nil (then_normal (hK2 _ _ (st_then S (.t rfl) (sg S (.ac rfl <| .z) fun a w S => wp_ret (then_ret (st_ret S (results1 S results101 (Rv.tmp rfl)) ?_))))))
    exact ⟨by rw [decide_eq_false (fun h => l2 (by rw [h]))], S.wd.below⟩
  have rw_2 := decide_eq_true l2
  refine enter2 func101 rfl ntmps101 rfl fun a S => wp_seq_k fun _ hK1 => wp_region_lit (st_m (op_box S (.t rfl) rfl fun g1 a w S => st_m (op_box S (.t rfl) rfl fun g2 a w S => run S (.ac rfl <| .z) fun a w S => st_nil (then_normal (hK1 _ _ (wp_seq_k fun _ hK1 => wp_seq_k fun _ hK2 => wp_region_lit (run S (.fa underlying37 sizeOf31 0 rfl rfl rfl <| .ld gt31 1 rfl rfl rfl <| .ln underlying31 rfl <| .fa underlying37 sizeOf31 0 rfl rfl rfl <| .ld gt31 0 rfl rfl rfl <| .ln underlying31 rfl <| .yy (ys_F (by omega) (ys_neq (.t rfl) (.t rfl))) rfl <| .mv rfl <| .gy rfl rfl (ys_fieldN (FieldT.mk underlying37 rfl sizeOf35 rfl) (.t rfl) (i' := 1) rfl) <| .gy rfl rfl (ys_ldA ⟨isAgg35, sizeOf35⟩ (.t rfl) (k := 1) rfl rfl) <| .gy rfl rfl (ys_fieldN (FieldT.mk underlying37 rfl sizeOf35 rfl) (.t rfl) (i' := 1) rfl) <| .gy rfl rfl (ys_ldA ⟨isAgg35, sizeOf35⟩ (.t rfl) (k := 0) rfl rfl) <| .gx rfl rfl (ys_call call154 (.cons (.t rfl) (.cons (.t rfl) .nil)) (fun hp w W => c154 _ _ _ _ _ _ _ (by exact .old W (by assumption)) (by exact .old W (by assumption)))) <| .z) fun a w S => ?_)))))))
  rw [rw_2] at S
  refine run S (.gy rfl rfl (ys_not (.t rfl)) <| .yy (ys_pickF (.t rfl) (.t rfl)) rfl <| .z) fun a w S => st_nil (then_normal (hK2 _ _ (st_else S (.t rfl) (wp_skip (then_normal (hK1 _ _ (wp_seq_k fun _ hK1 => sg S (.fa underlying37 sizeOf31 0 rfl rfl rfl <| .ld gt31 1 rfl rfl rfl <| .ln underlying31 rfl <| .mc rfl <| .z) fun a w S => wp_block ?_)))))))
  refine st_lpM S [24] (X := Nat) (fun k => [(24, true, .int .i64 (k : Int))]) (fun _ => [.blk g2 (.cells #[.slice B Y.ents.length capB, .slice B2 Y.ctx.marks.length capB2, .slice B3 Y.ctx.cloud.length capB3] 37), .blk g1 (.cells #[.slice A X.ents.length cap, .slice A2 X.ctx.marks.length cap2, .slice A3 X.ctx.cloud.length cap3] 37)])
    (fun k => k ≤ X.ents.length ∧ X.ents.take k = Y.ents.take k) (fun k => X.ents.length - k) 0 ⟨Nat.zero_le _, rfl⟩ ?_
  clear S
  rintro k a w ⟨hk, hno⟩ S
  by_cases hlt : k < X.ents.length
  · obtain ⟨g, o, x, rfl, hx, hd, hc⟩ := row_at hA hlt
    obtain ⟨g', o', y, rfl, hy, hd', hc'⟩ := row_at hB (l1 ▸ hlt)
    by_cases he : x = y
    · have rw_e := decide_eq_true (ent_iff.1 he)
      refine sg S (.lt (by omega) rfl rfl <| .z) fun a w S => wp_seq_k fun _ hK2 => st_then S (.t rfl) (wp_skip (then_normal (hK2 _ _ (wp_seq_k fun _ hK2 => wp_block (sg S (.mv rfl <| .as rfl <| .z) fun a w S => wp_seq_k fun _ hK3 => st_quiet S (by kernel_rfl) (by kernel_rfl) fun a S => qrun S (.fa underlying37 sizeOf31 0 rfl rfl rfl <| .ld gt31 1 rfl rfl rfl <| .mv rfl <| .ix underlying31 sizeOf100 (by omega) rfl rfl <| .yy (ys_ldOA ⟨isAgg100, sizeOf100⟩ (.t rfl) (vs := [_, _, _, _, _, _]) rfl (fun _ => hc)) rfl <| .fa underlying37 sizeOf31 0 rfl rfl rfl <| .ld gt31 0 rfl rfl rfl <| .mv rfl <| .ix underlying31 sizeOf100 (by omega) rfl rfl <| .yy (ys_ldOA ⟨isAgg100, sizeOf100⟩ (.t rfl) (vs := [_, _, _, _, _, _]) rfl (fun _ => hc')) rfl <| .yy (ys_neA (.t rfl) (.t rfl) eq100) rfl <| .z) fun a S => ?_)))))
      rw [rw_e] at S
      (refine q_nil ?_; intro w W; replace S := St.mk S W; clear W)
      refine then_normal (hK3 _ _ (st_else S (.t rfl) (wp_skip (in_normal (then_normal (hK2 _ _ (wp_region_lit (run S (.ad (by unfold I64; omega) rfl <| .mv rfl <| .z) fun a w S => st_nil (then_normal ?_)))))))))
      exact ⟨k + 1, ⟨by omega, takeE_step hno hx hy he⟩, by omega, S.pk⟩
    · have rw_e := decide_eq_false (fun h => he (ent_iff.2 h))
      refine sg S (.lt (by omega) rfl rfl <| .z) fun a w S => wp_seq_k fun _ hK2 => st_then S (.t rfl) (wp_skip (then_normal (hK2 _ _ (wp_seq_k fun _ hK2 => wp_block (sg S (.mv rfl <| .as rfl <| .z) fun a w S => wp_seq_k fun _ hK3 => st_quiet S (by kernel_rfl) (by kernel_rfl) fun a S => qrun S (.fa underlying37 sizeOf31 0 rfl rfl rfl <| .ld gt31 1 rfl rfl rfl <| .mv rfl <| .ix underlying31 sizeOf100 (by omega) rfl rfl <| .yy (ys_ldOA ⟨isAgg100, sizeOf100⟩ (.t rfl) (vs := [_, _, _, _, _, _]) rfl (fun _ => hc)) rfl <| .fa underlying37 sizeOf31 0 rfl rfl rfl <| .ld gt31 0 rfl rfl rfl <| .mv rfl <| .ix underlying31 sizeOf100 (by omega) rfl rfl <| .yy (ys_ldOA ⟨isAgg100, sizeOf100⟩ (.t rfl) (vs := [_, _, _, _, _, _]) rfl (fun _ => hc')) rfl <| .yy (ys_neA (.t rfl) (.t rfl) eq100) rfl <| .z) fun a S => ?_)))))
      rw [rw_e] at S
      (refine q_nil ?_; intro w W; replace S := St.mk S W; clear W)
      refine then_normal (hK3 _ _ (st_then S (.t rfl) (sg S (.ac rfl <| .z) fun a w S => wp_ret (in_ret (then_ret (then_ret (in_ret (then_ret (st_ret S (results1 S results101 (Rv.tmp rfl)) ?_)))))))))
      exact ⟨by rw [decide_eq_false (fun h => takeE_ne hx hy he (by rw [h]))], S.wd.below⟩
  obtain rfl : k = X.ents.length := by omega
  rw [List.take_length, List.take_of_length_le (by omega)] at hno
  refine sg S (.ge (by omega) rfl rfl <| .z) fun a w S => wp_seq_k fun _ hK2 => st_else S (.t rfl) (wp_exit (then_exit (then_exit (in_here (then_normal (hK1 _ _ (sg S (.ac rfl <| .z) fun a w S => wp_ret (st_ret S (results1 S results101 (Rv.tmp rfl)) ?_))))))))
  refine ⟨?_, S.wd.below⟩
  have e : X = Y := by cases X; cases Y; dsimp only at hno l2; rw [hno, l2]
  rw [decide_eq_true e]
end Go.Proofs.YtakpdbmdfnialaaGreat
set_option linter.unusedVariables false
set_option linter.unusedSimpArgs false
set_option maxRecDepth 100000
set_option maxHeartbeats 4000000
namespace Go.Fw
def badG (l : List Cart) : Int := match l.find? (fun c => decide (canE c ≠ 0)) with
  | some c => canE c
  | none => 0
theorem bad_none {l : List Cart} (h : ∀ c ∈ l, canE c = 0) : badG l = 0 := by
  unfold badG
  rw [List.find?_eq_none.2 fun x hx => by rw [h x hx]; simp]
theorem bad_at : ∀ {l : List Cart} {i : Nat} {c : Cart}, (∀ x ∈ l.take i, canE x = 0) → l[i]? = some c → canE c ≠ 0 → badG l = canE c
  | [], i, c, _, h, _ => by simp at h
  | y :: r, 0, c, _, h, hc => by
    simp at h
    subst h
    unfold badG
    rw [List.find?_cons_of_pos (by simpa using hc)]
  | y :: r, i + 1, c, hn, h, hc => by
    have hy := hn y (by simp)
    have ih := bad_at (l := r) (i := i) (c := c) (fun x hx => hn x (by simp [hx])) (by simpa using h) hc
    unfold badG at ih ⊢
    rw [List.find?_cons_of_neg (by simp [hy])]
    exact ih
theorem ready_def (l : List Cart) (p q : Int) : readyG l p q = if mayD ⟨p, q, 1⟩ = false then (⟨0, 0, 0⟩, 1) else if badG l ≠ 0 then (⟨0, 0, 0⟩, badG l) else match l with
    | [] => (⟨0, 0, 0⟩, 200)
    | c :: r => if (r.all fun x => decide (c = x)) = false then (⟨0, 0, 0⟩, 200) else if livesK c p q = true then (⟨0, 0, 0⟩, 201) else if c.ctx.top p q = 0 then (⟨0, 0, 0⟩, 62)
      else if (c.ctx.cloud.any fun d => decide (d.node = p ∧ d.life = q)) = true then (⟨0, 0, 0⟩, 202) else (⟨p, q, c.ctx.top p q⟩, 0) := by
  unfold readyG badG
  by_cases h1 : mayD ⟨p, q, 1⟩ = false
  · rw [if_pos h1, if_pos h1]
  · rw [if_neg h1, if_neg h1]
    cases hf : l.find? (fun c => decide (canE c ≠ 0)) with
    | some c =>
      have := List.find?_some hf
      simp at this
      simp [this]
    | none =>
      dsimp only
      rw [if_neg (fun h => h rfl)]
      cases l <;> rfl
end Go.Fw
namespace Go.Proofs.YtakpdbmdfnialaaGreat
open Go.Fw Go.Proofs Go.RowKit Go.Proofs.Tryz
theorem c88 (w0 : World) (f : Nat) (cs : Array Value) (e : Int) : Rets Tryz.prog 88 #[.func (.func f) #[] cs, .int .i64 e] w0 fun u L => ∃ g, u = .agg #[.func (.func f) #[] cs, .func (.func 149) #[] #[.pointer (some ⟨g, 0, none⟩)]] ∧ L = [.blk g (.cells #[.int .i64 e] 40)] := by
  unfold Go.Fw.Rets
  refine enter2 func88 rfl ntmps88 rfl fun a S => wp_seq_k fun _ hK1 => wp_region_lit (st_m (op_box1 S (.t rfl) rfl rfl fun g1 a w S => st_m (op_alloc S zeroValue134 (cs := _) rfl rfl fun g2 a w S => st_nil (then_normal (hK1 _ _ (wp_seq_k fun _ hK1 => wp_region_lit (run S (.mv rfl <| .yy (ys_mkFunc (.cons (.t rfl) .nil)) rfl <| .yy (ys_bld (ps := [(0, Go.Operand.tmp 5), (1, Go.Operand.tmp 6)]) (us := [_, _]) bld134 (.cons (.t rfl) (.cons (.t rfl) .nil)) rfl) rfl <| .z) fun a w S => st_m (op_stW S sizeOf134 (.t rfl) (.t rfl) (k := 0) rfl rfl rfl (by simp [Value.oneCell']) fun a w S => st_nil (then_normal (hK1 _ _ (wp_ret (st_ret S (results1 S results88 (Rv.cell (k := 0) ⟨isAgg134, sizeOf134⟩ rfl rfl rfl)) ?_))))))))))))
  exact ⟨_, _, rfl, S.wd.pk, _, rfl, rfl⟩
theorem c149 (w0 : World) (g : Nat) (e : Int) (h : w0.cell? ⟨g, 0, none⟩ = some (.int .i64 e)) : Calls Tryz.prog 149 #[.pointer (some ⟨g, 0, none⟩)] w0 fun u w' => u = .returned (.int .i64 e) ∧ Bel w0.heap.size w0 w' := by
  refine enter1 func149 rfl ntmps149 rfl fun a S => sg S (.ac rfl <| .z) fun a w S => sg S (.yy (ys_ldO ⟨isAgg40, sizeOf40⟩ (.t rfl) (fun _ => h)) rfl <| .as rfl <| .z) fun a w S => wp_ret (st_ret S (results1 S results149 (Rv.tmp rfl)) ?_)
  exact ⟨rfl, S.wd.below⟩
theorem c89 (w0 : World) (g : Nat) (p q : Int) (h0 : w0.cell? ⟨g, 0, none⟩ = some (.int .i64 p)) (h1 : w0.cell? ⟨g, 1, none⟩ = some (.int .i64 q)) :
    Calls Tryz.prog 89 #[.pointer (some ⟨g, 0, none⟩)] w0 fun u w' => u = .returned (.bool (mayD ⟨p, q, 1⟩)) ∧ Bel w0.heap.size w0 w' := by
  refine enter1 func89 rfl ntmps89 rfl fun a S => sg S (.ac rfl <| .z) fun a w S => sg S (.fa underlying66 sizeOf3 0 rfl rfl rfl <| .yy (ys_ldO ⟨isAgg3, sizeOf3⟩ (.t rfl) (fun _ => h0)) rfl <| .fa underlying66 sizeOf3 1 rfl rfl rfl <| .yy (ys_ldO ⟨isAgg3, sizeOf3⟩ (.t rfl) (fun _ => h1)) rfl <| .yy (ys_bld (ps := [(0, Go.Operand.tmp 3), (1, Go.Operand.tmp 5), (2, _)]) (us := [_, _, _]) bld30 (.cons (.t rfl) (.cons (.t rfl) (.cons Ev.c .nil))) rfl) rfl <| .xx (ys_call call56 (.cons (.t rfl) .nil) (fun hp w W => c56 _ _ _ _)) rfl <| .as rfl <| .z) fun a w S => wp_ret (st_ret S (results1 S results89 (Rv.tmp rfl)) ?_)
  exact ⟨rfl, S.wd.below⟩
theorem c91 (w0 : World) (g : Nat) (e : Int) (h : w0.cell? ⟨g, 0, none⟩ = some (.int .i64 e)) : Calls Tryz.prog 91 #[.pointer (some ⟨g, 0, none⟩)] w0 fun u w' => u = .returned (.int .i64 e) ∧ Bel w0.heap.size w0 w' := by
  refine enter1 func91 rfl ntmps91 rfl fun a S => sg S (.ac rfl <| .z) fun a w S => sg S (.yy (ys_ldO ⟨isAgg40, sizeOf40⟩ (.t rfl) (fun _ => h)) rfl <| .as rfl <| .z) fun a w S => wp_ret (st_ret S (results1 S results91 (Rv.tmp rfl)) ?_)
  exact ⟨rfl, S.wd.below⟩
theorem c90 {w0 w : World} {L : List Chunk} {g1 g4 : Nat} {v : Value} {l : List SCart} (W : Wd w0 (.blk g1 (.cells #[v] 64) :: .blk g4 (.cells #[.int .i64 0] 40) :: L) w) (h : Sl SCart.enc 3 w0 w0.heap.size v l) (hc : CartsRd w0 l) :
    RetsO Tryz.prog 90 #[.pointer (some ⟨g1, 0, none⟩), .pointer (some ⟨g4, 0, none⟩)] w0 w fun u L' => u = .bool (decide (badG (l.map (·.1)) = 0)) ∧ L' = .blk g1 (.cells #[v] 64) :: .blk g4 (.cells #[.int .i64 (badG (l.map (·.1)))] 40) :: L := by
  obtain ⟨A, cap, rfl, hl, hcap, hA⟩ := id h
  unfold Go.Fw.RetsO
  refine enterW2 W func90 rfl ntmps90 rfl fun a S => sg S (.ac rfl <| .z) fun a w S => wp_seq_k fun _ hK1 => sg S (.ld gt64 0 rfl rfl rfl <| .ln underlying64 rfl <| .mc rfl <| .z) fun a w S => wp_block ?_
  refine st_lpM S [2, 7] (X := Nat) (fun i => [(2, true, .bool false), (7, true, .int .i64 (i : Int))]) (fun _ => .blk g1 (.cells #[.slice A l.length cap] 64) :: .blk g4 (.cells #[.int .i64 0] 40) :: L) (fun i => i ≤ l.length ∧ ∀ x ∈ (l.map (·.1)).take i, canE x = 0) (fun i => l.length - i) 0 ⟨Nat.zero_le _, by simp⟩ ?_
  clear S
  rintro i a w ⟨hi, hno⟩ S
  by_cases hlt : i < l.length
  · obtain ⟨gq, oq, x, rfl, hx, hd, hcx⟩ := row_at hA hlt
    have r1 := (hc x (List.mem_of_getElem? hx)).ents
    have r2 := (hc x (List.mem_of_getElem? hx)).ctx
    have e1 : (l.map (·.1))[i]? = some x.1 := by rw [List.getElem?_map, hx]; rfl
    by_cases he : canE x.1 = 0
    · have rw_e := he
      refine sg S (.lt (by omega) rfl rfl <| .z) fun a w S => wp_seq_k fun _ hK2 => st_then S (.t rfl) (wp_skip (then_normal (hK2 _ _ (wp_seq_k fun _ hK2 => wp_block (wp_seq_k fun _ hK3 => wp_region_lit (run S (.ix underlying64 sizeOf37 (by omega) rfl rfl <| .yy (ys_ldOA ⟨isAgg37, sizeOf37⟩ (.t rfl) (vs := [_, _, _]) rfl (fun _ => hcx)) rfl <| .z) fun a w S => st_m (op_alloc S zeroValue37 (cs := _) rfl rfl fun g2 a w S => st_m (op_stW S sizeOf37 (.t rfl) (.t rfl) (k := 0) rfl rfl rfl (by simp [Value.oneCell']) fun a w S => st_nil (then_normal (hK3 _ _ (wp_seq_k fun _ hK3 => wp_region_lit (run S (.la gt37 0 rfl rfl rfl <| .xx (ys_call call66 (.cons (.t rfl) .nil) (fun hp w W => c66 _ _ _ _ _ (by exact .old W (by assumption)) (by exact .old W (by assumption)))) rfl <| .z) fun a w S => ?_))))))))))))
      rw [rw_e] at S
      refine st_m (op_st S sizeOf40 (.t rfl) (.t rfl) (k := 2) rfl rfl (by simp) fun a w S => st_nil (then_normal (hK3 _ _ (sg S (.ld gt40 2 rfl rfl rfl <| .yy (ys_F (by omega) (ys_neq (.t rfl) Ev.c)) rfl <| .z) fun a w S => st_else S (.t rfl) (wp_skip (in_normal (then_normal (hK2 _ _ (wp_region_lit (run S (.ad (by unfold I64; omega) rfl <| .mv rfl <| .z) fun a w S => st_nil (then_normal ?_)))))))))))
      refine ⟨i + 1, ⟨by omega, fun y hy => ?_⟩, by omega, S.pk⟩
      rw [List.take_add_one, e1, Option.toList_some, List.mem_append, List.mem_singleton] at hy
      rcases hy with hy | rfl
      · exact hno y hy
      · exact he
    · have rw_e : decide (canE x.1 = 0) = false := decide_eq_false he
      have eb := bad_at hno e1 he
      refine sg S (.lt (by omega) rfl rfl <| .z) fun a w S => wp_seq_k fun _ hK2 => st_then S (.t rfl) (wp_skip (then_normal (hK2 _ _ (wp_seq_k fun _ hK2 => wp_block (wp_seq_k fun _ hK3 => wp_region_lit (run S (.ix underlying64 sizeOf37 (by omega) rfl rfl <| .yy (ys_ldOA ⟨isAgg37, sizeOf37⟩ (.t rfl) (vs := [_, _, _]) rfl (fun _ => hcx)) rfl <| .z) fun a w S => st_m (op_alloc S zeroValue37 (cs := _) rfl rfl fun g2 a w S => st_m (op_stW S sizeOf37 (.t rfl) (.t rfl) (k := 0) rfl rfl rfl (by simp [Value.oneCell']) fun a w S => st_nil (then_normal (hK3 _ _ (wp_seq_k fun _ hK3 => wp_region_lit (run S (.la gt37 0 rfl rfl rfl <| .xx (ys_call call66 (.cons (.t rfl) .nil) (fun hp w W => c66 _ _ _ _ _ (by exact .old W (by assumption)) (by exact .old W (by assumption)))) rfl <| .z) fun a w S => st_m (op_st S sizeOf40 (.t rfl) (.t rfl) (k := 2) rfl rfl (by simp) fun a w S => st_nil (then_normal (hK3 _ _ (sg S (.ld gt40 2 rfl rfl rfl <| .yy (ys_T (by omega) (ys_neq (.t rfl) Ev.c)) rfl <| .z) fun a w S => st_then S (.t rfl) (sg S (.ac rfl <| .z) fun a w S => wp_ret (in_ret (then_ret (then_ret (in_ret (then_ret (st_ret S (results1 S results90 (Rv.tmp rfl)) ?_)))))))))))))))))))))))
      rw [eb, decide_eq_false he]
      exact ⟨_, _, rfl, S.wd.pk, rfl, rfl⟩
  obtain rfl : i = l.length := by omega
  have eb : badG (l.map (·.1)) = 0 := bad_none fun c hc' => hno c (by rw [List.take_of_length_le (by simp)]; exact hc')
  refine sg S (.ge (by omega) rfl rfl <| .z) fun a w S => wp_seq_k fun _ hK2 => st_else S (.t rfl) (wp_exit (then_exit (then_exit (in_here (then_normal (hK1 _ _ (sg S (.ac rfl <| .z) fun a w S => wp_ret (st_ret S (results1 S results90 (Rv.tmp rfl)) ?_))))))))
  rw [eb]
  exact ⟨_, _, rfl, S.wd.pk, rfl, rfl⟩
theorem c94 (w0 : World) (g : Nat) (v : Value) (c x : SCart) (r : List SCart) (h0 : w0.cell? ⟨g, 0, none⟩ = some v) (h : Sl SCart.enc 3 w0 w0.heap.size v (c :: r)) (hc : CartRd w0 c.1 c.2) (hx : CartRd w0 x.1 x.2) :
    Calls Tryz.prog 94 #[.agg (SCart.enc x).toArray, .pointer (some ⟨g, 0, none⟩)] w0 fun u w' => u = .returned (.bool (!decide (x.1 = c.1))) ∧ Bel w0.heap.size w0 w' := by
  obtain ⟨A, cap, rfl, hl, hcap, hA⟩ := id h
  have r1 := hc.ents
  have r2 := hc.ctx
  have r3 := hx.ents
  have r4 := hx.ctx
  obtain ⟨gq, oq, y, rfl, hy, hd, hcc⟩ := row_at hA (show 0 < (c :: r).length by simp)
  obtain rfl : c = y := by simpa using hy
  have hlen : 0 < (c :: r).length := by simp
  refine enter2 func94 rfl ntmps94 rfl fun a S => wp_seq_k fun _ hK1 => wp_region_lit (st_m (op_box S (.t rfl) rfl fun g1 a w S => run S (.ac rfl <| .z) fun a w S => st_nil (then_normal (hK1 _ _ (wp_seq_k fun _ hK1 => st_quiet S (by kernel_rfl) (by kernel_rfl) fun a S => qrun S (.la gt37 0 rfl rfl rfl <| .yy (ys_ldO ⟨isAgg64, sizeOf64⟩ (.t rfl) (fun _ => h0)) rfl <| .yy (ys_ixS (j := 0) underlying64 sizeOf37 (.t rfl) Ev.c (fun _ => by omega)) rfl <| .yy (ys_ldOA ⟨isAgg37, sizeOf37⟩ (.t rfl) (vs := [_, _, _]) rfl (fun _ => hcc)) rfl <| .xx (ys_call call95 (.cons (.t rfl) (.cons (.t rfl) .nil)) (fun hp w W => c95 _ _ _ _ _ _ _ _ _ (by exact .old W (by assumption)) (by exact .old W (by assumption)) (by exact .old W (by assumption)) (by exact .old W (by assumption)))) rfl <| .nt rfl <| .as rfl <| .z) fun a S => ?_)))))
  (refine q_nil ?_; intro w W; replace S := St.mk S W; clear W)
  refine then_normal (hK1 _ _ (wp_ret (st_ret S (results1 S results94 (Rv.tmp rfl)) ?_)))
  exact ⟨rfl, S.wd.below⟩
theorem c96 (w0 : World) (g1 g2 : Nat) (v : Value) (c : SCart) (r : List SCart) (p q : Int) (h0 : w0.cell? ⟨g1, 0, none⟩ = some v) (h1 : w0.cell? ⟨g2, 0, none⟩ = some (.int .i64 p)) (h2 : w0.cell? ⟨g2, 1, none⟩ = some (.int .i64 q)) (h : Sl SCart.enc 3 w0 w0.heap.size v (c :: r)) (hc : CartRd w0 c.1 c.2) :
    Calls Tryz.prog 96 #[.pointer (some ⟨g1, 0, none⟩), .pointer (some ⟨g2, 0, none⟩)] w0 fun u w' => u = .returned (.bool (!livesK c.1 p q)) ∧ Bel w0.heap.size w0 w' := by
  obtain ⟨A, cap, rfl, hl, hcap, hA⟩ := id h
  have r1 := hc.ents
  have r2 := hc.ctx
  obtain ⟨gq, oq, y, rfl, hy, hd, hcc⟩ := row_at hA (show 0 < (c :: r).length by simp)
  obtain rfl : c = y := by simpa using hy
  have hlen : 0 < (c :: r).length := by simp
  have hact : ∀ j u, [Value.int .i64 p, .int .i64 q][j]? = some u → w0.cell? ⟨g2, 0 + j, none⟩ = some u := fun j u h => by
    rw [Nat.zero_add]
    match j, h with
    | 0, h => cases h; exact h1
    | 1, h => cases h; exact h2
    | j + 2, h => simp at h
  refine enter2 func96 rfl ntmps96 rfl fun a S => sg S (.ac rfl <| .z) fun a w S => wp_seq_k fun _ hK1 => st_quiet S (by kernel_rfl) (by kernel_rfl) fun a S => qrun S (.yy (ys_ldO ⟨isAgg64, sizeOf64⟩ (.t rfl) (fun _ => h0)) rfl <| .yy (ys_ixS (j := 0) underlying64 sizeOf37 (.t rfl) Ev.c (fun _ => by omega)) rfl <| .yy (ys_ldOA ⟨isAgg37, sizeOf37⟩ (.t rfl) (vs := [_, _, _]) rfl (fun _ => hcc)) rfl <| .yy (ys_ldOA ⟨isAgg66, sizeOf66⟩ (.t rfl) (vs := [_, _]) rfl (fun _ => hact)) rfl <| .xx (ys_call call97 (.cons (.t rfl) (.cons (.t rfl) .nil)) (fun hp w W => c97 _ _ _ _ _ _ _ _ _ _ _ (by exact .old W (by assumption)))) rfl <| .nt rfl <| .as rfl <| .z) fun a S => ?_
  (refine q_nil ?_; intro w W; replace S := St.mk S W; clear W)
  refine then_normal (hK1 _ _ (wp_ret (st_ret S (results1 S results96 (Rv.tmp rfl)) ?_)))
  exact ⟨rfl, S.wd.below⟩
theorem c99 (w0 : World) (g1 g5 : Nat) (v : Value) (c : SCart) (r : List SCart) (p q n : Int) (h0 : w0.cell? ⟨g1, 0, none⟩ = some v) (h1 : w0.cell? ⟨g5, 0, none⟩ = some (.int .i64 p)) (h2 : w0.cell? ⟨g5, 1, none⟩ = some (.int .i64 q)) (h3 : w0.cell? ⟨g5, 2, none⟩ = some (.int .i64 n)) (h : Sl SCart.enc 3 w0 w0.heap.size v (c :: r)) (hc : CartRd w0 c.1 c.2) :
    Calls Tryz.prog 99 #[.pointer (some ⟨g1, 0, none⟩), .pointer (some ⟨g5, 0, none⟩)] w0 fun u w' => u = .returned (.bool (decide ((⟨p, q, n⟩ : Dot) ∈ c.1.ctx.marks))) ∧ Bel w0.heap.size w0 w' := by
  obtain ⟨A, cap, rfl, hl, hcap, hA⟩ := id h
  have r1 := hc.marks
  obtain ⟨gq, oq, y, rfl, hy, hd, hcc⟩ := row_at hA (show 0 < (c :: r).length by simp)
  obtain rfl : c = y := by simpa using hy
  have hlen : 0 < (c :: r).length := by simp
  have hctx : ∀ j u, [Value.slice c.2.a2 c.2.n2 c.2.c2, .slice c.2.a3 c.2.n3 c.2.c3][j]? = some u → w0.cell? ⟨gq, oq + 0 * 3 + 1 + j, none⟩ = some u := fun j u h => by
    have := hcc (j + 1) u (by simpa [SCart.enc] using h)
    rw [show oq + 0 * 3 + 1 + j = oq + 0 * 3 + (j + 1) by omega]
    exact this
  have hmk : w0.cell? ⟨gq, oq + 0 * 3 + 1 + 0, none⟩ = some (.slice c.2.a2 c.2.n2 c.2.c2) := hctx 0 _ rfl
  have hm3 : ∀ j u, [Value.int .i64 p, .int .i64 q, .int .i64 n][j]? = some u → w0.cell? ⟨g5, 0 + j, none⟩ = some u := fun j u h => by
    rw [Nat.zero_add]
    match j, h with
    | 0, h => cases h; exact h1
    | 1, h => cases h; exact h2
    | 2, h => cases h; exact h3
    | j + 3, h => simp at h
  refine enter2 func99 rfl ntmps99 rfl fun a S => sg S (.ac rfl <| .z) fun a w S => wp_seq_k fun _ hK1 => st_quiet S (by kernel_rfl) (by kernel_rfl) fun a S => qrun S (.yy (ys_ldO ⟨isAgg64, sizeOf64⟩ (.t rfl) (fun _ => h0)) rfl <| .yy (ys_ixS (j := 0) underlying64 sizeOf37 (.t rfl) Ev.c (fun _ => by omega)) rfl <| .yy (ys_field (FieldT.mk underlying37 rfl sizeOf35 rfl) (.t rfl)) rfl <| .yy (ys_field (FieldT.mk underlying35 rfl sizeOf32 rfl) (.t rfl)) rfl <| .yy (ys_ldO ⟨isAgg32, sizeOf32⟩ (.t rfl) (fun _ => hctx _ _ rfl)) rfl <| .yy (ys_ldOA ⟨isAgg30, sizeOf30⟩ (.t rfl) (vs := [_, _, _]) rfl (fun _ => hm3)) rfl <| .xx (ys_call call100 (.cons (.t rfl) (.cons (.t rfl) .nil)) (fun hp w W => c100 _ _ _ _ _ _ (by exact .old W (by assumption)))) rfl <| .as rfl <| .z) fun a S => ?_
  (refine q_nil ?_; intro w W; replace S := St.mk S W; clear W)
  refine then_normal (hK1 _ _ (wp_ret (st_ret S (results1 S results99 (Rv.tmp rfl)) ?_)))
  exact ⟨rfl, S.wd.below⟩
theorem c98 {w0 w : World} {L : List Chunk} {g1 g2 g5 : Nat} {v : Value} {c : SCart} {r : List SCart} {p q n : Int} (W : Wd w0 (.blk g1 (.cells #[v] 64) :: .blk g2 (.cells #[.int .i64 p, .int .i64 q] 66) :: .blk g5 (.cells #[.int .i64 p, .int .i64 q, .int .i64 n] 30) :: L) w) (h : Sl SCart.enc 3 w0 w0.heap.size v (c :: r)) (hc : CartRd w0 c.1 c.2) :
    RetsO Tryz.prog 98 #[.pointer (some ⟨g1, 0, none⟩), .pointer (some ⟨g2, 0, none⟩), .pointer (some ⟨g5, 0, none⟩)] w0 w fun u L' => u = .bool (decide (0 < c.1.ctx.top p q)) ∧ L' = .blk g1 (.cells #[v] 64) :: .blk g2 (.cells #[.int .i64 p, .int .i64 q] 66) :: .blk g5 (.cells #[.int .i64 p, .int .i64 q, .int .i64 (c.1.ctx.top p q)] 30) :: L := by
  obtain ⟨A, cap, rfl, hl, hcap, hA⟩ := id h
  have r1 := hc.ents
  have r2 := hc.ctx
  obtain ⟨gq, oq, y, rfl, hy, hd, hcc⟩ := row_at hA (show 0 < (c :: r).length by simp)
  obtain rfl : c = y := by simpa using hy
  have hlen : 0 < (c :: r).length := by simp
  have hctx : ∀ j u, [Value.slice c.2.a2 c.2.n2 c.2.c2, .slice c.2.a3 c.2.n3 c.2.c3][j]? = some u → w0.cell? ⟨gq, oq + 0 * 3 + 1 + j, none⟩ = some u := fun j u h => by
    have := hcc (j + 1) u (by simpa [SCart.enc] using h)
    rw [show oq + 0 * 3 + 1 + j = oq + 0 * 3 + (j + 1) by omega]
    exact this
  have hmk : w0.cell? ⟨gq, oq + 0 * 3 + 1 + 0, none⟩ = some (.slice c.2.a2 c.2.n2 c.2.c2) := hctx 0 _ rfl
  unfold Go.Fw.RetsO
  refine enterW3 W Tryz.func98 rfl Tryz.ntmps98 rfl fun a S => ?_
  refine wp_seq_k fun _ hK1 => ?_
  refine wp_region_lit ?_
  (refine st_y S (Yr.ys (ys_assign Ev.c)) rfl ?_; clear S a; intro a w S)
  refine st_nil ?_
  (refine (then_normal (hK1 _ _ ?_)); clear hK1)
  refine wp_seq_k fun _ hK1 => ?_
  (refine h_beginE S (by kernel_rfl) 2 ?_; clear S a w; intro a w S)
  (refine h_y (i := 0) S (by repeat (first | exact List.Sublist.refl _ | exact List.nil_sublist _ | refine .cons_cons _ ?_ | refine .cons _ ?_)) rfl (by kernel_rfl) (by kernel_rfl) (by kernel_rfl) (fun _ _ _ _ h => h) (ys_ld ⟨Tryz.isAgg64, Tryz.sizeOf64⟩ (Ev.t rfl) (k := 0) rfl rfl) rfl ?_; clear S a w; intro a w S)
  (refine h_y (i := 1) S (by repeat (first | exact List.Sublist.refl _ | exact List.nil_sublist _ | refine .cons_cons _ ?_ | refine .cons _ ?_)) rfl (by kernel_rfl) (by kernel_rfl) (by kernel_rfl) (fun _ _ _ _ h => h) (ys_ixS (j := 0) Tryz.underlying64 Tryz.sizeOf37 (Ev.t rfl) Ev.c (fun _ => by omega)) rfl ?_; clear S a w; intro a w S)
  (refine h_y (i := 2) S (by repeat (first | exact List.Sublist.refl _ | exact List.nil_sublist _ | refine .cons_cons _ ?_ | refine .cons _ ?_)) rfl (by kernel_rfl) (by kernel_rfl) (by kernel_rfl) (fun _ _ _ _ h => h) (ys_field (FieldT.mk Tryz.underlying37 rfl Tryz.sizeOf35 rfl) (Ev.t rfl)) rfl ?_; clear S a w; intro a w S)
  (refine h_y (i := 3) S (by repeat (first | exact List.Sublist.refl _ | exact List.nil_sublist _ | refine .cons_cons _ ?_ | refine .cons _ ?_)) rfl (by kernel_rfl) (by kernel_rfl) (by kernel_rfl) (fun _ _ _ _ h => h) (ys_ldOA ⟨Tryz.isAgg35, Tryz.sizeOf35⟩ (Ev.t rfl) (vs := [_, _]) rfl (fun _ => hctx)) rfl ?_; clear S a w; intro a w S)
  (refine h_y (i := 4) S (by repeat (first | exact List.Sublist.refl _ | exact List.nil_sublist _ | refine .cons_cons _ ?_ | refine .cons _ ?_)) rfl (by kernel_rfl) (by kernel_rfl) (by kernel_rfl) (fun _ _ _ _ h => h) (ys_ldA ⟨Tryz.isAgg66, Tryz.sizeOf66⟩ (Ev.t rfl) (k := 1) rfl rfl) rfl ?_; clear S a w; intro a w S)
  (refine h_q (i := 5) S (by repeat (first | exact List.Sublist.refl _ | exact List.nil_sublist _ | refine .cons_cons _ ?_ | refine .cons _ ?_)) rfl (by kernel_rfl) (ys_call Tryz.call67 (EvL.cons (Ev.t rfl) (EvL.cons (Ev.t rfl) EvL.nil)) (fun hp w W => c67 _ _ _ _ _ _ (by exact .old W (by assumption)))) rfl ?_; clear S a w; intro a w S)
  (refine h_y (i := 6) S (by repeat (first | exact List.Sublist.refl _ | exact List.nil_sublist _ | refine .cons_cons _ ?_ | refine .cons _ ?_)) rfl (by kernel_rfl) (by kernel_rfl) (by kernel_rfl) (fun _ _ _ _ h => h) (ys_fieldN (FieldT.mk Tryz.underlying30 rfl Tryz.sizeOf3 rfl) (Ev.t rfl) (i' := 2) rfl) rfl ?_; clear S a w; intro a w S)
  (refine h_m0 (i := 7) rfl (by kernel_rfl) (op_st S Tryz.sizeOf3 (Ev.t rfl) (Ev.t rfl) (k := 2) rfl rfl (by simp) ?_); clear S a w; intro a w S; refine h_on S _ (List.Sublist.refl _) (by repeat (first | exact List.Sublist.refl _ | exact List.nil_sublist _ | refine .cons_cons _ ?_ | refine .cons _ ?_)) ?_)
  refine h_done (by kernel_rfl) ?_
  (refine (then_normal (hK1 _ _ ?_)); clear hK1)
  refine wp_seq_k fun _ hK1 => ?_
  refine wp_region_lit ?_
  (refine st_y S (Yr.ys (ys_fieldN (FieldT.mk Tryz.underlying30 rfl Tryz.sizeOf3 rfl) (Ev.t rfl) (i' := 2) rfl)) rfl ?_; clear S a w; intro a w S)
  (refine st_y S (Yr.ys (ys_ld ⟨Tryz.isAgg3, Tryz.sizeOf3⟩ (Ev.t rfl) (k := 2) rfl rfl)) rfl ?_; clear S a w; intro a w S)
  (refine st_y S (Yr.ys (ys_gtr (Ev.t rfl) Ev.c)) rfl ?_; clear S a w; intro a w S)
  (refine st_y S (Yr.ys (ys_assign (Ev.t rfl))) rfl ?_; clear S a w; intro a w S)
  refine st_nil ?_
  (refine (then_normal (hK1 _ _ ?_)); clear hK1)
  refine wp_ret ?_
  refine st_ret S (results1 S Tryz.results98 (Rv.tmp rfl)) ?_
  exact ⟨_, _, rfl, S.wd.picks (by repeat (first | exact Picks.nil | (refine Picks.rest ?_; (repeat (first | exact List.Sublist.refl _ | refine List.Sublist.cons_cons _ ?_ | refine List.Sublist.cons _ ?_)); done) | refine Picks.take 0 rfl ?_ | refine Picks.take 1 rfl ?_ | refine Picks.take 2 rfl ?_ | refine Picks.take 3 rfl ?_ | refine Picks.take 4 rfl ?_ | refine Picks.take 5 rfl ?_ | refine Picks.take 6 rfl ?_ | refine Picks.take 7 rfl ?_ | refine Picks.take 8 rfl ?_ | refine Picks.take 9 rfl ?_ | refine Picks.take 10 rfl ?_ | refine Picks.take 11 rfl ?_)), rfl, rfl⟩
end Go.Proofs.YtakpdbmdfnialaaGreat
set_option linter.unusedVariables false
set_option linter.unusedSimpArgs false
set_option maxRecDepth 100000
set_option maxHeartbeats 4000000
namespace Go.Fw
def allS : List Cart → Bool
  | [] => false
  | c :: r => r.all fun x => decide (c = x)
theorem allS_any (c : SCart) (r : List SCart) : (!((c :: r).any fun x => !decide (x.1 = c.1))) = allS ((c :: r).map (·.1)) := by
  unfold allS
  rw [Bool.eq_iff_iff, Bool.not_eq_true', List.any_eq_false, List.map_cons]
  dsimp only
  rw [List.all_eq_true]
  constructor
  · intro h x hx
    obtain ⟨y, hy, rfl⟩ := List.mem_map.1 hx
    have := h y (by simp [hy])
    simp at this
    exact decide_eq_true this.symm
  · intro h x hx
    rcases List.mem_cons.1 hx with rfl | hx
    · simp
    · have := of_decide_eq_true (h x.1 (List.mem_map.2 ⟨x, hx, rfl⟩))
      simp [this]
theorem ready_may {l : List Cart} {p q : Int} (h : mayD ⟨p, q, 1⟩ = false) : readyG l p q = (⟨0, 0, 0⟩, 1) := by rw [ready_def, if_pos h]
theorem ready_bad {l : List Cart} {p q : Int} (h : mayD ⟨p, q, 1⟩ = true) (hb : badG l ≠ 0) : readyG l p q = (⟨0, 0, 0⟩, badG l) := by rw [ready_def, if_neg (by rw [h]; simp), if_pos hb]
theorem ready_all {l : List Cart} {p q : Int} (h : mayD ⟨p, q, 1⟩ = true) (hb : badG l = 0) (ha : allS l = false) : readyG l p q = (⟨0, 0, 0⟩, 200) := by
  rw [ready_def, if_neg (by rw [h]; simp), if_neg (fun k => k hb)]
  cases l with
  | nil => rfl
  | cons c r =>
    have ha' : (r.all fun x => decide (c = x)) = false := ha
    dsimp only; rw [if_pos ha']
theorem ready_rest {c : Cart} {r : List Cart} {p q : Int} (h : mayD ⟨p, q, 1⟩ = true) (hb : badG (c :: r) = 0) (ha : allS (c :: r) = true) : readyG (c :: r) p q = if livesK c p q = true then (⟨0, 0, 0⟩, 201) else if c.ctx.top p q = 0 then (⟨0, 0, 0⟩, 62)
      else if (c.ctx.cloud.any fun d => decide (d.node = p ∧ d.life = q)) = true then (⟨0, 0, 0⟩, 202) else (⟨p, q, c.ctx.top p q⟩, 0) := by
  have ha' : (r.all fun x => decide (c = x)) = true := ha
  rw [ready_def, if_neg (by rw [h]; simp), if_neg (fun k => k hb)]
  dsimp only
  rw [if_neg (by rw [ha']; simp)]
theorem bad_can {l : List Cart} (h : badG l = 0) : ∀ c ∈ l, canE c = 0 := by
  intro c hc
  unfold badG at h
  cases hf : l.find? (fun c => decide (canE c ≠ 0)) with
  | some x =>
    rw [hf] at h
    have := List.find?_some hf
    simp at this
    exact absurd h this
  | none =>
    rw [List.find?_eq_none] at hf
    have := hf c hc
    simpa using this
end Go.Fw
namespace Go.Proofs.YtakpdbmdfnialaaGreat
open Go.Fw Go.Proofs Go.RowKit Go.Proofs.Tryz
theorem c93 (w0 : World) (v : Value) (c : SCart) (r : List SCart) (g : Nat) (h : Sl SCart.enc 3 w0 w0.heap.size v (c :: r)) (hc : CartsRd w0 (c :: r)) (h0 : w0.cell? ⟨g, 0, none⟩ = some v) :
    Calls Tryz.prog 93 #[v, .func (.func 94) #[] #[.pointer (some ⟨g, 0, none⟩)]] w0 fun e w' => e = .returned (.bool ((c :: r).any fun x => !decide (x.1 = c.1))) ∧ Bel w0.heap.size w0 w' :=
  x93 w0 v (c :: r) _ [.pointer (some ⟨g, 0, none⟩)] (fun x => !decide (x.1 = c.1)) call94 (fun w' W' x hx => c94 w' g v c x r (Wd.cellOld W' h0) (Sl.old W' h) ((hc c (by simp)).old W') ((hc x hx).old W')) h
theorem c92 (w0 : World) (g : Nat) (v : Value) (l : List SCart) (h0 : w0.cell? ⟨g, 0, none⟩ = some v) (h : Sl SCart.enc 3 w0 w0.heap.size v l) (hc : CartsRd w0 l) :
    Calls Tryz.prog 92 #[.pointer (some ⟨g, 0, none⟩)] w0 fun u w' => u = .returned (.bool (allS (l.map (·.1)))) ∧ Bel w0.heap.size w0 w' := by
  have hs := h
  cases l with
  | nil =>
    obtain ⟨A, cap, rfl, _⟩ := h
    refine enter1 func92 rfl ntmps92 rfl fun a S => sg S (.ac rfl <| .z) fun a w S => sg S (.yy (ys_ldO ⟨isAgg64, sizeOf64⟩ (.t rfl) (fun _ => h0)) rfl <| .ln underlying64 rfl <| .yy (ys_gtr (.t rfl) Ev.c) rfl <| .mv rfl <| .sk rfl rfl rfl <| .sk rfl rfl rfl <| .sk rfl rfl rfl <| .sk rfl rfl rfl <| .yy (ys_pickF (.t rfl) Ev.c) rfl <| .as rfl <| .z) fun a w S => wp_ret (st_ret S (results1 S results92 (Rv.tmp rfl)) ?_)
    exact ⟨rfl, S.wd.below⟩
  | cons c r =>
    obtain ⟨A, cap, rfl, _⟩ := h
    have rw_l : decide (((c :: r).length : Int) > 0) = true := decide_eq_true (by simp)
    refine enter1 func92 rfl ntmps92 rfl fun a S => sg S (.ac rfl <| .z) fun a w S => wp_seq_k fun _ hK1 => wp_region_lit (run S (.yy (ys_ldO ⟨isAgg64, sizeOf64⟩ (.t rfl) (fun _ => h0)) rfl <| .ln underlying64 rfl <| .yy (ys_gtr (.t rfl) Ev.c) rfl <| .z) fun a w S => ?_)
    rw [rw_l] at S
    refine run S (.mv rfl <| .gy rfl rfl (ys_ldO ⟨isAgg64, sizeOf64⟩ (.t rfl) (fun _ => h0)) <| .gy rfl rfl (ys_mkFunc (.cons (.t rfl) .nil)) <| .gx rfl rfl (ys_call call93 (.cons (.t rfl) (.cons (.t rfl) .nil)) (fun hp w W => c93 _ _ _ _ _ (by exact .old W (by assumption)) (by exact .old W (by assumption)) (by exact Wd.cellOld W (by assumption)))) <| .gy rfl rfl (ys_not (.t rfl)) <| .yy (ys_pickT (.t rfl) (.t rfl)) rfl <| .as rfl <| .z) fun a w S => st_nil (then_normal (hK1 _ _ (wp_ret (st_ret S (results1 S results92 (Rv.tmp rfl)) ?_))))
    exact ⟨by rw [allS_any], S.wd.below⟩
theorem c87 {w0 w : World} {L : List Chunk} {gr g1 g2 g4 g5 e1 e3 e4 e5 e6 : Nat} {v : Value} {l : List SCart} {p q : Int}
    (W : Wd w0 (.blk gr (.cells #[.func (.func 89) #[] #[.pointer (some ⟨g2, 0, none⟩)], .func (.func 149) #[] #[.pointer (some ⟨e1, 0, none⟩)],
        .func (.func 90) #[] #[.pointer (some ⟨g1, 0, none⟩), .pointer (some ⟨g4, 0, none⟩)], .func (.func 91) #[] #[.pointer (some ⟨g4, 0, none⟩)],
        .func (.func 92) #[] #[.pointer (some ⟨g1, 0, none⟩)], .func (.func 149) #[] #[.pointer (some ⟨e3, 0, none⟩)],
        .func (.func 96) #[] #[.pointer (some ⟨g1, 0, none⟩), .pointer (some ⟨g2, 0, none⟩)], .func (.func 149) #[] #[.pointer (some ⟨e4, 0, none⟩)],
        .func (.func 98) #[] #[.pointer (some ⟨g1, 0, none⟩), .pointer (some ⟨g2, 0, none⟩), .pointer (some ⟨g5, 0, none⟩)], .func (.func 149) #[] #[.pointer (some ⟨e5, 0, none⟩)],
        .func (.func 99) #[] #[.pointer (some ⟨g1, 0, none⟩), .pointer (some ⟨g5, 0, none⟩)], .func (.func 149) #[] #[.pointer (some ⟨e6, 0, none⟩)]] 134) ::
      .blk g1 (.cells #[v] 64) :: .blk g2 (.cells #[.int .i64 p, .int .i64 q] 66) :: .blk g4 (.cells #[.int .i64 0] 40) :: .blk g5 (.cells #[.int .i64 p, .int .i64 q, .int .i64 0] 30) ::
      .blk e1 (.cells #[.int .i64 1] 40) :: .blk e3 (.cells #[.int .i64 200] 40) :: .blk e4 (.cells #[.int .i64 201] 40) :: .blk e5 (.cells #[.int .i64 62] 40) :: .blk e6 (.cells #[.int .i64 202] 40) :: L) w)
    (h : Sl SCart.enc 3 w0 w0.heap.size v l) (hc : CartsRd w0 l) :
    RetsO Tryz.prog 87 #[.slice (some ⟨gr, 0, none⟩) 6 6] w0 w fun u L' => ∃ n, u = .int .i64 (readyG (l.map (·.1)) p q).2 ∧ L' = .blk g5 (.cells #[.int .i64 p, .int .i64 q, .int .i64 n] 30) :: L ∧ ((readyG (l.map (·.1)) p q).2 = 0 → (readyG (l.map (·.1)) p q).1 = ⟨p, q, n⟩) := by
  have hs := h
  have rw_1 : (0 : Int) + 1 = ((1 : Nat) : Int) := rfl
  have rw_2 : ((1 : Nat) : Int) + 1 = ((2 : Nat) : Int) := rfl
  have rw_3 : ((2 : Nat) : Int) + 1 = ((3 : Nat) : Int) := rfl
  have rw_4 : ((3 : Nat) : Int) + 1 = ((4 : Nat) : Int) := rfl
  have rw_5 : ((4 : Nat) : Int) + 1 = ((5 : Nat) : Int) := rfl
  have rw_6 : ((5 : Nat) : Int) + 1 = ((6 : Nat) : Int) := rfl
  cases hm : mayD ⟨p, q, 1⟩ with
  | false =>
    have rw_m := hm
    unfold Go.Fw.RetsO
    refine enterW1 W func87 rfl ntmps87 rfl fun a S => sg S (.ac rfl <| .z) fun a w S => wp_seq_k fun _ hK1 => sg S (.mv rfl <| .ln underlying187 rfl <| .mc rfl <| .z) fun a w S => wp_block (st_rounds 7 (st_round (sg S (.lt (by omega) rfl rfl <| .z) fun a w S => wp_seq_k fun _ hK2 => st_then S (.t rfl) (wp_skip (then_normal (hK2 _ _ (wp_seq_k fun _ hK2 => wp_block (wp_seq_k fun _ hK3 => wp_region_lit (run S (.yy (ys_ixS (j := 0) underlying187 sizeOf134 (.t rfl) (.t rfl) (fun _ => by omega)) rfl <| .la gt134 0 rfl rfl rfl <| .z) fun a w S => st_m (op_alloc S zeroValue134 (cs := _) rfl rfl fun g3 a w S => st_m (op_stW S sizeOf134 (.t rfl) (.t rfl) (k := 0) rfl rfl rfl (by simp [Value.oneCell']) fun a w S => st_nil (then_normal (hK3 _ _ (wp_seq_k fun _ hK3 => wp_region_lit (run S (.fa underlying134 sizeOf53 0 rfl rfl rfl <| .ld gt53 0 rfl rfl rfl <| .xx (ys_callVC (cs := [_]) (.t rfl) call89 .nil (fun hp w W => c89 _ _ _ _ (by exact Wd.cell W (k := 3) rfl rfl) (by exact Wd.cell W (k := 3) rfl rfl))) rfl <| .z) fun a w S => ?_)))))))))))))))
    rw [rw_m] at S
    refine run S (.nt rfl <| .z) fun a w S => st_nil (then_normal (hK3 _ _ (st_then S (.t rfl) (sg S (.fa underlying134 sizeOf132 1 rfl rfl rfl <| .ld gt132 0 rfl rfl rfl <| .xx (ys_callVC (cs := [_]) (.t rfl) call149 .nil (fun hp w W => c149 _ _ _ (by exact Wd.cell W (k := 6) rfl rfl))) rfl <| .as rfl <| .z) fun a w S => wp_ret (in_ret (then_ret (then_ret (in_ret (then_ret (st_ret S (results1 S results87 (Rv.tmp rfl)) ?_))))))))))
    rw [ready_may hm]
    exact ⟨_, _, rfl, S.wd.pk, _, rfl, rfl, fun k => by cases k⟩
  | true =>
  have rw_m := hm
  by_cases hb : badG (l.map (·.1)) = 0
  rotate_left
  · have rw_b := decide_eq_false hb
    unfold Go.Fw.RetsO
    refine enterW1 W func87 rfl ntmps87 rfl fun a S => sg S (.ac rfl <| .z) fun a w S => wp_seq_k fun _ hK1 => sg S (.mv rfl <| .ln underlying187 rfl <| .mc rfl <| .z) fun a w S => wp_block (st_rounds 7 (st_round (sg S (.lt (by omega) rfl rfl <| .z) fun a w S => wp_seq_k fun _ hK2 => st_then S (.t rfl) (wp_skip (then_normal (hK2 _ _ (wp_seq_k fun _ hK2 => wp_block (wp_seq_k fun _ hK3 => wp_region_lit (run S (.yy (ys_ixS (j := 0) underlying187 sizeOf134 (.t rfl) (.t rfl) (fun _ => by omega)) rfl <| .la gt134 0 rfl rfl rfl <| .z) fun a w S => st_m (op_alloc S zeroValue134 (cs := _) rfl rfl fun g3 a w S => st_m (op_stW S sizeOf134 (.t rfl) (.t rfl) (k := 0) rfl rfl rfl (by simp [Value.oneCell']) fun a w S => st_nil (then_normal (hK3 _ _ (wp_seq_k fun _ hK3 => wp_region_lit (run S (.fa underlying134 sizeOf53 0 rfl rfl rfl <| .ld gt53 0 rfl rfl rfl <| .xx (ys_callVC (cs := [_]) (.t rfl) call89 .nil (fun hp w W => c89 _ _ _ _ (by exact Wd.cell W (k := 3) rfl rfl) (by exact Wd.cell W (k := 3) rfl rfl))) rfl <| .z) fun a w S => ?_)))))))))))))))
    rw [rw_m] at S
    refine run S (.nt rfl <| .z) fun a w S => st_nil (then_normal (hK3 _ _ (st_else S (.t rfl) (wp_skip (in_normal (then_normal (hK2 _ _ (wp_region_lit (run S (.ad (by unfold I64; omega) rfl <| .z) fun a w S => ?_)))))))))
    rw [rw_1] at S
    refine run S (.mv rfl <| .z) fun a w S => st_nil (then_normal (st_round (sg S (.lt (by omega) rfl rfl <| .z) fun a w S => wp_seq_k fun _ hK2 => st_then S (.t rfl) (wp_skip (then_normal (hK2 _ _ (wp_seq_k fun _ hK2 => wp_block (wp_seq_k fun _ hK3 => wp_region_lit (run S (.yy (ys_ixS (j := 1) underlying187 sizeOf134 (.t rfl) (.t rfl) (fun _ => by omega)) rfl <| .la gt134 1 rfl rfl rfl <| .z) fun a w S => st_m (op_alloc S zeroValue134 (cs := _) rfl rfl fun g6 a w S => st_m (op_stW S sizeOf134 (.t rfl) (.t rfl) (k := 0) rfl rfl rfl (by simp [Value.oneCell']) fun a w S => st_nil (then_normal (hK3 _ _ (wp_seq_k fun _ hK3 => wp_region_lit (run S (.fa underlying134 sizeOf53 0 rfl rfl rfl <| .ld gt53 0 rfl rfl rfl <| .z) fun a w S => ?_)))))))))))))))
    (replace S := S.pull 5 rfl; try simp only [List.set_cons_zero, List.set_cons_succ, List.eraseIdx_cons_succ, List.eraseIdx_cons_zero] at S; replace S := S.pull 4 rfl; try simp only [List.set_cons_zero, List.set_cons_succ, List.eraseIdx_cons_succ, List.eraseIdx_cons_zero] at S; refine st_m (op_callVO (cs := [_, _]) S (.t rfl) call90 .nil (c90 S.wd (by first | assumption | omega | (dsimp only; omega) | exact Sl.nil_ | exact .old S.wd (by assumption) | exact Sl.of_own S.wd (k := 0) rfl (fun _ => rfl) | exact Sl.of_own S.wd (k := 1) rfl (fun _ => rfl) | exact Sl.of_own S.wd (k := 2) rfl (fun _ => rfl) | exact Sl.of_own S.wd (k := 3) rfl (fun _ => rfl) | exact Sl.of_own S.wd (k := 4) rfl (fun _ => rfl) | exact Sl.of_own S.wd (k := 5) rfl (fun _ => rfl) | exact Sl.of_own S.wd (k := 6) rfl (fun _ => rfl) | exact Sl.of_own S.wd (k := 7) rfl (fun _ => rfl) | exact Sl.of_own S.wd (k := 8) rfl (fun _ => rfl) | exact Sl.of_own S.wd (k := 9) rfl (fun _ => rfl) | exact Sl.of_own S.wd (k := 10) rfl (fun _ => rfl) | exact Sl.of_own S.wd (k := 11) rfl (fun _ => rfl) | (simp at *; omega)) (by first | assumption | omega | (dsimp only; omega) | exact Sl.nil_ | exact .old S.wd (by assumption) | exact Sl.of_own S.wd (k := 0) rfl (fun _ => rfl) | exact Sl.of_own S.wd (k := 1) rfl (fun _ => rfl) | exact Sl.of_own S.wd (k := 2) rfl (fun _ => rfl) | exact Sl.of_own S.wd (k := 3) rfl (fun _ => rfl) | exact Sl.of_own S.wd (k := 4) rfl (fun _ => rfl) | exact Sl.of_own S.wd (k := 5) rfl (fun _ => rfl) | exact Sl.of_own S.wd (k := 6) rfl (fun _ => rfl) | exact Sl.of_own S.wd (k := 7) rfl (fun _ => rfl) | exact Sl.of_own S.wd (k := 8) rfl (fun _ => rfl) | exact Sl.of_own S.wd (k := 9) rfl (fun _ => rfl) | exact Sl.of_own S.wd (k := 10) rfl (fun _ => rfl) | exact Sl.of_own S.wd (k := 11) rfl (fun _ => rfl) | (simp at *; omega))) rfl ?_) <;> clear S a w)
    rintro _ _ ⟨rfl, rfl⟩ a w S
    rw [rw_b] at S
    refine run S (.nt rfl <| .z) fun a w S => st_nil (then_normal (hK3 _ _ (st_then S (.t rfl) (sg S (.fa underlying134 sizeOf132 1 rfl rfl rfl <| .ld gt132 2 rfl rfl rfl <| .xx (ys_callVC (cs := [_]) (.t rfl) call91 .nil (fun hp w W => c91 _ _ _ (by exact Wd.cell W (k := 1) rfl rfl))) rfl <| .as rfl <| .z) fun a w S => wp_ret (in_ret (then_ret (then_ret (in_ret (then_ret (st_ret S (results1 S results87 (Rv.tmp rfl)) ?_))))))))))
    rw [ready_bad hm hb]
    exact ⟨_, _, rfl, S.wd.pk, _, rfl, rfl, fun k => absurd k hb⟩
  have rw_b := decide_eq_true hb
  have rw_bb := hb
  cases ha : allS (l.map (·.1)) with
  | false =>
    have rw_a := ha
    unfold Go.Fw.RetsO
    refine enterW1 W func87 rfl ntmps87 rfl fun a S => sg S (.ac rfl <| .z) fun a w S => wp_seq_k fun _ hK1 => sg S (.mv rfl <| .ln underlying187 rfl <| .mc rfl <| .z) fun a w S => wp_block (st_rounds 7 (st_round (sg S (.lt (by omega) rfl rfl <| .z) fun a w S => wp_seq_k fun _ hK2 => st_then S (.t rfl) (wp_skip (then_normal (hK2 _ _ (wp_seq_k fun _ hK2 => wp_block (wp_seq_k fun _ hK3 => wp_region_lit (run S (.yy (ys_ixS (j := 0) underlying187 sizeOf134 (.t rfl) (.t rfl) (fun _ => by omega)) rfl <| .la gt134 0 rfl rfl rfl <| .z) fun a w S => st_m (op_alloc S zeroValue134 (cs := _) rfl rfl fun g3 a w S => st_m (op_stW S sizeOf134 (.t rfl) (.t rfl) (k := 0) rfl rfl rfl (by simp [Value.oneCell']) fun a w S => st_nil (then_normal (hK3 _ _ (wp_seq_k fun _ hK3 => wp_region_lit (run S (.fa underlying134 sizeOf53 0 rfl rfl rfl <| .ld gt53 0 rfl rfl rfl <| .xx (ys_callVC (cs := [_]) (.t rfl) call89 .nil (fun hp w W => c89 _ _ _ _ (by exact Wd.cell W (k := 3) rfl rfl) (by exact Wd.cell W (k := 3) rfl rfl))) rfl <| .z) fun a w S => ?_)))))))))))))))
    rw [rw_m] at S
    refine run S (.nt rfl <| .z) fun a w S => st_nil (then_normal (hK3 _ _ (st_else S (.t rfl) (wp_skip (in_normal (then_normal (hK2 _ _ (wp_region_lit (run S (.ad (by unfold I64; omega) rfl <| .z) fun a w S => ?_)))))))))
    rw [rw_1] at S
    refine run S (.mv rfl <| .z) fun a w S => st_nil (then_normal (st_round (sg S (.lt (by omega) rfl rfl <| .z) fun a w S => wp_seq_k fun _ hK2 => st_then S (.t rfl) (wp_skip (then_normal (hK2 _ _ (wp_seq_k fun _ hK2 => wp_block (wp_seq_k fun _ hK3 => wp_region_lit (run S (.yy (ys_ixS (j := 1) underlying187 sizeOf134 (.t rfl) (.t rfl) (fun _ => by omega)) rfl <| .la gt134 1 rfl rfl rfl <| .z) fun a w S => st_m (op_alloc S zeroValue134 (cs := _) rfl rfl fun g6 a w S => st_m (op_stW S sizeOf134 (.t rfl) (.t rfl) (k := 0) rfl rfl rfl (by simp [Value.oneCell']) fun a w S => st_nil (then_normal (hK3 _ _ (wp_seq_k fun _ hK3 => wp_region_lit (run S (.fa underlying134 sizeOf53 0 rfl rfl rfl <| .ld gt53 0 rfl rfl rfl <| .z) fun a w S => ?_)))))))))))))))
    (replace S := S.pull 5 rfl; try simp only [List.set_cons_zero, List.set_cons_succ, List.eraseIdx_cons_succ, List.eraseIdx_cons_zero] at S; replace S := S.pull 4 rfl; try simp only [List.set_cons_zero, List.set_cons_succ, List.eraseIdx_cons_succ, List.eraseIdx_cons_zero] at S; refine st_m (op_callVO (cs := [_, _]) S (.t rfl) call90 .nil (c90 S.wd (by first | assumption | omega | (dsimp only; omega) | exact Sl.nil_ | exact .old S.wd (by assumption) | exact Sl.of_own S.wd (k := 0) rfl (fun _ => rfl) | exact Sl.of_own S.wd (k := 1) rfl (fun _ => rfl) | exact Sl.of_own S.wd (k := 2) rfl (fun _ => rfl) | exact Sl.of_own S.wd (k := 3) rfl (fun _ => rfl) | exact Sl.of_own S.wd (k := 4) rfl (fun _ => rfl) | exact Sl.of_own S.wd (k := 5) rfl (fun _ => rfl) | exact Sl.of_own S.wd (k := 6) rfl (fun _ => rfl) | exact Sl.of_own S.wd (k := 7) rfl (fun _ => rfl) | exact Sl.of_own S.wd (k := 8) rfl (fun _ => rfl) | exact Sl.of_own S.wd (k := 9) rfl (fun _ => rfl) | exact Sl.of_own S.wd (k := 10) rfl (fun _ => rfl) | exact Sl.of_own S.wd (k := 11) rfl (fun _ => rfl) | (simp at *; omega)) (by first | assumption | omega | (dsimp only; omega) | exact Sl.nil_ | exact .old S.wd (by assumption) | exact Sl.of_own S.wd (k := 0) rfl (fun _ => rfl) | exact Sl.of_own S.wd (k := 1) rfl (fun _ => rfl) | exact Sl.of_own S.wd (k := 2) rfl (fun _ => rfl) | exact Sl.of_own S.wd (k := 3) rfl (fun _ => rfl) | exact Sl.of_own S.wd (k := 4) rfl (fun _ => rfl) | exact Sl.of_own S.wd (k := 5) rfl (fun _ => rfl) | exact Sl.of_own S.wd (k := 6) rfl (fun _ => rfl) | exact Sl.of_own S.wd (k := 7) rfl (fun _ => rfl) | exact Sl.of_own S.wd (k := 8) rfl (fun _ => rfl) | exact Sl.of_own S.wd (k := 9) rfl (fun _ => rfl) | exact Sl.of_own S.wd (k := 10) rfl (fun _ => rfl) | exact Sl.of_own S.wd (k := 11) rfl (fun _ => rfl) | (simp at *; omega))) rfl ?_) <;> clear S a w)
    rintro _ _ ⟨rfl, rfl⟩ a w S
    rw [rw_b] at S
    rw [rw_bb] at S
    refine run S (.nt rfl <| .z) fun a w S => st_nil (then_normal (hK3 _ _ (st_else S (.t rfl) (wp_skip (in_normal (then_normal (hK2 _ _ (wp_region_lit (run S (.ad (by unfold I64; omega) rfl <| .z) fun a w S => ?_)))))))))
    rw [rw_2] at S
    refine run S (.mv rfl <| .z) fun a w S => st_nil (then_normal (st_round (sg S (.lt (by omega) rfl rfl <| .z) fun a w S => wp_seq_k fun _ hK2 => st_then S (.t rfl) (wp_skip (then_normal (hK2 _ _ (wp_seq_k fun _ hK2 => wp_block (wp_seq_k fun _ hK3 => wp_region_lit (run S (.yy (ys_ixS (j := 2) underlying187 sizeOf134 (.t rfl) (.t rfl) (fun _ => by omega)) rfl <| .la gt134 4 rfl rfl rfl <| .z) fun a w S => st_m (op_alloc S zeroValue134 (cs := _) rfl rfl fun g7 a w S => st_m (op_stW S sizeOf134 (.t rfl) (.t rfl) (k := 0) rfl rfl rfl (by simp [Value.oneCell']) fun a w S => st_nil (then_normal (hK3 _ _ (wp_seq_k fun _ hK3 => wp_region_lit (run S (.fa underlying134 sizeOf53 0 rfl rfl rfl <| .ld gt53 0 rfl rfl rfl <| .xx (ys_callVC (cs := [_]) (.t rfl) call92 .nil (fun hp w W => c92 _ _ _ _ (by exact Wd.cell W (k := 1) rfl rfl) (by exact .old W (by assumption)) (by exact .old W (by assumption)))) rfl <| .z) fun a w S => ?_)))))))))))))))
    rw [rw_a] at S
    refine run S (.nt rfl <| .z) fun a w S => st_nil (then_normal (hK3 _ _ (st_then S (.t rfl) (sg S (.fa underlying134 sizeOf132 1 rfl rfl rfl <| .ld gt132 0 rfl rfl rfl <| .xx (ys_callVC (cs := [_]) (.t rfl) call149 .nil (fun hp w W => c149 _ _ _ (by exact Wd.cell W (k := 9) rfl rfl))) rfl <| .as rfl <| .z) fun a w S => wp_ret (in_ret (then_ret (then_ret (in_ret (then_ret (st_ret S (results1 S results87 (Rv.tmp rfl)) ?_))))))))))
    rw [ready_all hm hb ha]
    exact ⟨_, _, rfl, S.wd.pk, _, rfl, rfl, fun k => by cases k⟩
  | true =>
  have rw_a := ha
  cases l with
  | nil => cases ha
  | cons c r =>
  have hcc := hc c (by simp)
  have hcan : canL c.1.ctx = true := can_ctx (bad_can hb c.1 (by simp))
  have er := ready_rest (c := c.1) (r := r.map (·.1)) hm (by rw [← List.map_cons (f := fun x : SCart => x.1)]; exact hb) (by rw [← List.map_cons (f := fun x : SCart => x.1)]; exact ha)
  rw [← List.map_cons (f := fun x : SCart => x.1)] at er
  cases hlv : livesK c.1 p q with
  | true =>
    have rw_lv := hlv
    rw [if_pos hlv] at er
    unfold Go.Fw.RetsO
    refine enterW1 W func87 rfl ntmps87 rfl fun a S => sg S (.ac rfl <| .z) fun a w S => wp_seq_k fun _ hK1 => sg S (.mv rfl <| .ln underlying187 rfl <| .mc rfl <| .z) fun a w S => wp_block (st_rounds 7 (st_round (sg S (.lt (by omega) rfl rfl <| .z) fun a w S => wp_seq_k fun _ hK2 => st_then S (.t rfl) (wp_skip (then_normal (hK2 _ _ (wp_seq_k fun _ hK2 => wp_block (wp_seq_k fun _ hK3 => wp_region_lit (run S (.yy (ys_ixS (j := 0) underlying187 sizeOf134 (.t rfl) (.t rfl) (fun _ => by omega)) rfl <| .la gt134 0 rfl rfl rfl <| .z) fun a w S => st_m (op_alloc S zeroValue134 (cs := _) rfl rfl fun g3 a w S => st_m (op_stW S sizeOf134 (.t rfl) (.t rfl) (k := 0) rfl rfl rfl (by simp [Value.oneCell']) fun a w S => st_nil (then_normal (hK3 _ _ (wp_seq_k fun _ hK3 => wp_region_lit (run S (.fa underlying134 sizeOf53 0 rfl rfl rfl <| .ld gt53 0 rfl rfl rfl <| .xx (ys_callVC (cs := [_]) (.t rfl) call89 .nil (fun hp w W => c89 _ _ _ _ (by exact Wd.cell W (k := 3) rfl rfl) (by exact Wd.cell W (k := 3) rfl rfl))) rfl <| .z) fun a w S => ?_)))))))))))))))
    rw [rw_m] at S
    refine run S (.nt rfl <| .z) fun a w S => st_nil (then_normal (hK3 _ _ (st_else S (.t rfl) (wp_skip (in_normal (then_normal (hK2 _ _ (wp_region_lit (run S (.ad (by unfold I64; omega) rfl <| .z) fun a w S => ?_)))))))))
    rw [rw_1] at S
    refine run S (.mv rfl <| .z) fun a w S => st_nil (then_normal (st_round (sg S (.lt (by omega) rfl rfl <| .z) fun a w S => wp_seq_k fun _ hK2 => st_then S (.t rfl) (wp_skip (then_normal (hK2 _ _ (wp_seq_k fun _ hK2 => wp_block (wp_seq_k fun _ hK3 => wp_region_lit (run S (.yy (ys_ixS (j := 1) underlying187 sizeOf134 (.t rfl) (.t rfl) (fun _ => by omega)) rfl <| .la gt134 1 rfl rfl rfl <| .z) fun a w S => st_m (op_alloc S zeroValue134 (cs := _) rfl rfl fun g6 a w S => st_m (op_stW S sizeOf134 (.t rfl) (.t rfl) (k := 0) rfl rfl rfl (by simp [Value.oneCell']) fun a w S => st_nil (then_normal (hK3 _ _ (wp_seq_k fun _ hK3 => wp_region_lit (run S (.fa underlying134 sizeOf53 0 rfl rfl rfl <| .ld gt53 0 rfl rfl rfl <| .z) fun a w S => ?_)))))))))))))))
    (replace S := S.pull 5 rfl; try simp only [List.set_cons_zero, List.set_cons_succ, List.eraseIdx_cons_succ, List.eraseIdx_cons_zero] at S; replace S := S.pull 4 rfl; try simp only [List.set_cons_zero, List.set_cons_succ, List.eraseIdx_cons_succ, List.eraseIdx_cons_zero] at S; refine st_m (op_callVO (cs := [_, _]) S (.t rfl) call90 .nil (c90 S.wd (by first | assumption | omega | (dsimp only; omega) | exact Sl.nil_ | exact .old S.wd (by assumption) | exact Sl.of_own S.wd (k := 0) rfl (fun _ => rfl) | exact Sl.of_own S.wd (k := 1) rfl (fun _ => rfl) | exact Sl.of_own S.wd (k := 2) rfl (fun _ => rfl) | exact Sl.of_own S.wd (k := 3) rfl (fun _ => rfl) | exact Sl.of_own S.wd (k := 4) rfl (fun _ => rfl) | exact Sl.of_own S.wd (k := 5) rfl (fun _ => rfl) | exact Sl.of_own S.wd (k := 6) rfl (fun _ => rfl) | exact Sl.of_own S.wd (k := 7) rfl (fun _ => rfl) | exact Sl.of_own S.wd (k := 8) rfl (fun _ => rfl) | exact Sl.of_own S.wd (k := 9) rfl (fun _ => rfl) | exact Sl.of_own S.wd (k := 10) rfl (fun _ => rfl) | exact Sl.of_own S.wd (k := 11) rfl (fun _ => rfl) | (simp at *; omega)) (by first | assumption | omega | (dsimp only; omega) | exact Sl.nil_ | exact .old S.wd (by assumption) | exact Sl.of_own S.wd (k := 0) rfl (fun _ => rfl) | exact Sl.of_own S.wd (k := 1) rfl (fun _ => rfl) | exact Sl.of_own S.wd (k := 2) rfl (fun _ => rfl) | exact Sl.of_own S.wd (k := 3) rfl (fun _ => rfl) | exact Sl.of_own S.wd (k := 4) rfl (fun _ => rfl) | exact Sl.of_own S.wd (k := 5) rfl (fun _ => rfl) | exact Sl.of_own S.wd (k := 6) rfl (fun _ => rfl) | exact Sl.of_own S.wd (k := 7) rfl (fun _ => rfl) | exact Sl.of_own S.wd (k := 8) rfl (fun _ => rfl) | exact Sl.of_own S.wd (k := 9) rfl (fun _ => rfl) | exact Sl.of_own S.wd (k := 10) rfl (fun _ => rfl) | exact Sl.of_own S.wd (k := 11) rfl (fun _ => rfl) | (simp at *; omega))) rfl ?_) <;> clear S a w)
    rintro _ _ ⟨rfl, rfl⟩ a w S
    rw [rw_b] at S
    rw [rw_bb] at S
    refine run S (.nt rfl <| .z) fun a w S => st_nil (then_normal (hK3 _ _ (st_else S (.t rfl) (wp_skip (in_normal (then_normal (hK2 _ _ (wp_region_lit (run S (.ad (by unfold I64; omega) rfl <| .z) fun a w S => ?_)))))))))
    rw [rw_2] at S
    refine run S (.mv rfl <| .z) fun a w S => st_nil (then_normal (st_round (sg S (.lt (by omega) rfl rfl <| .z) fun a w S => wp_seq_k fun _ hK2 => st_then S (.t rfl) (wp_skip (then_normal (hK2 _ _ (wp_seq_k fun _ hK2 => wp_block (wp_seq_k fun _ hK3 => wp_region_lit (run S (.yy (ys_ixS (j := 2) underlying187 sizeOf134 (.t rfl) (.t rfl) (fun _ => by omega)) rfl <| .la gt134 4 rfl rfl rfl <| .z) fun a w S => st_m (op_alloc S zeroValue134 (cs := _) rfl rfl fun g7 a w S => st_m (op_stW S sizeOf134 (.t rfl) (.t rfl) (k := 0) rfl rfl rfl (by simp [Value.oneCell']) fun a w S => st_nil (then_normal (hK3 _ _ (wp_seq_k fun _ hK3 => wp_region_lit (run S (.fa underlying134 sizeOf53 0 rfl rfl rfl <| .ld gt53 0 rfl rfl rfl <| .xx (ys_callVC (cs := [_]) (.t rfl) call92 .nil (fun hp w W => c92 _ _ _ _ (by exact Wd.cell W (k := 1) rfl rfl) (by exact .old W (by assumption)) (by exact .old W (by assumption)))) rfl <| .z) fun a w S => ?_)))))))))))))))
    rw [rw_a] at S
    refine run S (.nt rfl <| .z) fun a w S => st_nil (then_normal (hK3 _ _ (st_else S (.t rfl) (wp_skip (in_normal (then_normal (hK2 _ _ (wp_region_lit (run S (.ad (by unfold I64; omega) rfl <| .z) fun a w S => ?_)))))))))
    rw [rw_3] at S
    refine run S (.mv rfl <| .z) fun a w S => st_nil (then_normal (st_round (sg S (.lt (by omega) rfl rfl <| .z) fun a w S => wp_seq_k fun _ hK2 => st_then S (.t rfl) (wp_skip (then_normal (hK2 _ _ (wp_seq_k fun _ hK2 => wp_block (wp_seq_k fun _ hK3 => wp_region_lit (run S (.yy (ys_ixS (j := 3) underlying187 sizeOf134 (.t rfl) (.t rfl) (fun _ => by omega)) rfl <| .la gt134 5 rfl rfl rfl <| .z) fun a w S => st_m (op_alloc S zeroValue134 (cs := _) rfl rfl fun g8 a w S => st_m (op_stW S sizeOf134 (.t rfl) (.t rfl) (k := 0) rfl rfl rfl (by simp [Value.oneCell']) fun a w S => st_nil (then_normal (hK3 _ _ (wp_seq_k fun _ hK3 => wp_region_lit (run S (.fa underlying134 sizeOf53 0 rfl rfl rfl <| .ld gt53 0 rfl rfl rfl <| .xx (ys_callVC (cs := [_, _]) (.t rfl) call96 .nil (fun hp w W => c96 _ _ _ _ _ _ _ _ (by exact Wd.cell W (k := 2) rfl rfl) (by exact Wd.cell W (k := 7) rfl rfl) (by exact Wd.cell W (k := 7) rfl rfl) (by exact .old W (by assumption)) (by exact .old W (by assumption)))) rfl <| .z) fun a w S => ?_)))))))))))))))
    rw [rw_lv] at S
    refine run S (.nt rfl <| .z) fun a w S => st_nil (then_normal (hK3 _ _ (st_then S (.t rfl) (sg S (.fa underlying134 sizeOf132 1 rfl rfl rfl <| .ld gt132 0 rfl rfl rfl <| .xx (ys_callVC (cs := [_]) (.t rfl) call149 .nil (fun hp w W => c149 _ _ _ (by exact Wd.cell W (k := 11) rfl rfl))) rfl <| .as rfl <| .z) fun a w S => wp_ret (in_ret (then_ret (then_ret (in_ret (then_ret (st_ret S (results1 S results87 (Rv.tmp rfl)) ?_))))))))))
    rw [er]
    exact ⟨_, _, rfl, S.wd.pk, _, rfl, rfl, fun k => by cases k⟩
  | false =>
  have rw_lv := hlv
  rw [if_neg (by rw [hlv]; simp)] at er
  have htn := top_nonneg (can_nf hcan) p q
  by_cases ht : c.1.ctx.top p q = 0
  · have rw_t : decide (0 < c.1.ctx.top p q) = false := decide_eq_false (by omega)
    rw [if_pos ht] at er
    unfold Go.Fw.RetsO
    refine enterW1 W func87 rfl ntmps87 rfl fun a S => sg S (.ac rfl <| .z) fun a w S => wp_seq_k fun _ hK1 => sg S (.mv rfl <| .ln underlying187 rfl <| .mc rfl <| .z) fun a w S => wp_block (st_rounds 7 (st_round (sg S (.lt (by omega) rfl rfl <| .z) fun a w S => wp_seq_k fun _ hK2 => st_then S (.t rfl) (wp_skip (then_normal (hK2 _ _ (wp_seq_k fun _ hK2 => wp_block (wp_seq_k fun _ hK3 => wp_region_lit (run S (.yy (ys_ixS (j := 0) underlying187 sizeOf134 (.t rfl) (.t rfl) (fun _ => by omega)) rfl <| .la gt134 0 rfl rfl rfl <| .z) fun a w S => st_m (op_alloc S zeroValue134 (cs := _) rfl rfl fun g3 a w S => st_m (op_stW S sizeOf134 (.t rfl) (.t rfl) (k := 0) rfl rfl rfl (by simp [Value.oneCell']) fun a w S => st_nil (then_normal (hK3 _ _ (wp_seq_k fun _ hK3 => wp_region_lit (run S (.fa underlying134 sizeOf53 0 rfl rfl rfl <| .ld gt53 0 rfl rfl rfl <| .xx (ys_callVC (cs := [_]) (.t rfl) call89 .nil (fun hp w W => c89 _ _ _ _ (by exact Wd.cell W (k := 3) rfl rfl) (by exact Wd.cell W (k := 3) rfl rfl))) rfl <| .z) fun a w S => ?_)))))))))))))))
    rw [rw_m] at S
    refine run S (.nt rfl <| .z) fun a w S => st_nil (then_normal (hK3 _ _ (st_else S (.t rfl) (wp_skip (in_normal (then_normal (hK2 _ _ (wp_region_lit (run S (.ad (by unfold I64; omega) rfl <| .z) fun a w S => ?_)))))))))
    rw [rw_1] at S
    refine run S (.mv rfl <| .z) fun a w S => st_nil (then_normal (st_round (sg S (.lt (by omega) rfl rfl <| .z) fun a w S => wp_seq_k fun _ hK2 => st_then S (.t rfl) (wp_skip (then_normal (hK2 _ _ (wp_seq_k fun _ hK2 => wp_block (wp_seq_k fun _ hK3 => wp_region_lit (run S (.yy (ys_ixS (j := 1) underlying187 sizeOf134 (.t rfl) (.t rfl) (fun _ => by omega)) rfl <| .la gt134 1 rfl rfl rfl <| .z) fun a w S => st_m (op_alloc S zeroValue134 (cs := _) rfl rfl fun g6 a w S => st_m (op_stW S sizeOf134 (.t rfl) (.t rfl) (k := 0) rfl rfl rfl (by simp [Value.oneCell']) fun a w S => st_nil (then_normal (hK3 _ _ (wp_seq_k fun _ hK3 => wp_region_lit (run S (.fa underlying134 sizeOf53 0 rfl rfl rfl <| .ld gt53 0 rfl rfl rfl <| .z) fun a w S => ?_)))))))))))))))
    (replace S := S.pull 5 rfl; try simp only [List.set_cons_zero, List.set_cons_succ, List.eraseIdx_cons_succ, List.eraseIdx_cons_zero] at S; replace S := S.pull 4 rfl; try simp only [List.set_cons_zero, List.set_cons_succ, List.eraseIdx_cons_succ, List.eraseIdx_cons_zero] at S; refine st_m (op_callVO (cs := [_, _]) S (.t rfl) call90 .nil (c90 S.wd (by first | assumption | omega | (dsimp only; omega) | exact Sl.nil_ | exact .old S.wd (by assumption) | exact Sl.of_own S.wd (k := 0) rfl (fun _ => rfl) | exact Sl.of_own S.wd (k := 1) rfl (fun _ => rfl) | exact Sl.of_own S.wd (k := 2) rfl (fun _ => rfl) | exact Sl.of_own S.wd (k := 3) rfl (fun _ => rfl) | exact Sl.of_own S.wd (k := 4) rfl (fun _ => rfl) | exact Sl.of_own S.wd (k := 5) rfl (fun _ => rfl) | exact Sl.of_own S.wd (k := 6) rfl (fun _ => rfl) | exact Sl.of_own S.wd (k := 7) rfl (fun _ => rfl) | exact Sl.of_own S.wd (k := 8) rfl (fun _ => rfl) | exact Sl.of_own S.wd (k := 9) rfl (fun _ => rfl) | exact Sl.of_own S.wd (k := 10) rfl (fun _ => rfl) | exact Sl.of_own S.wd (k := 11) rfl (fun _ => rfl) | (simp at *; omega)) (by first | assumption | omega | (dsimp only; omega) | exact Sl.nil_ | exact .old S.wd (by assumption) | exact Sl.of_own S.wd (k := 0) rfl (fun _ => rfl) | exact Sl.of_own S.wd (k := 1) rfl (fun _ => rfl) | exact Sl.of_own S.wd (k := 2) rfl (fun _ => rfl) | exact Sl.of_own S.wd (k := 3) rfl (fun _ => rfl) | exact Sl.of_own S.wd (k := 4) rfl (fun _ => rfl) | exact Sl.of_own S.wd (k := 5) rfl (fun _ => rfl) | exact Sl.of_own S.wd (k := 6) rfl (fun _ => rfl) | exact Sl.of_own S.wd (k := 7) rfl (fun _ => rfl) | exact Sl.of_own S.wd (k := 8) rfl (fun _ => rfl) | exact Sl.of_own S.wd (k := 9) rfl (fun _ => rfl) | exact Sl.of_own S.wd (k := 10) rfl (fun _ => rfl) | exact Sl.of_own S.wd (k := 11) rfl (fun _ => rfl) | (simp at *; omega))) rfl ?_) <;> clear S a w)
    rintro _ _ ⟨rfl, rfl⟩ a w S
    rw [rw_b] at S
    rw [rw_bb] at S
    refine run S (.nt rfl <| .z) fun a w S => st_nil (then_normal (hK3 _ _ (st_else S (.t rfl) (wp_skip (in_normal (then_normal (hK2 _ _ (wp_region_lit (run S (.ad (by unfold I64; omega) rfl <| .z) fun a w S => ?_)))))))))
    rw [rw_2] at S
    refine run S (.mv rfl <| .z) fun a w S => st_nil (then_normal (st_round (sg S (.lt (by omega) rfl rfl <| .z) fun a w S => wp_seq_k fun _ hK2 => st_then S (.t rfl) (wp_skip (then_normal (hK2 _ _ (wp_seq_k fun _ hK2 => wp_block (wp_seq_k fun _ hK3 => wp_region_lit (run S (.yy (ys_ixS (j := 2) underlying187 sizeOf134 (.t rfl) (.t rfl) (fun _ => by omega)) rfl <| .la gt134 4 rfl rfl rfl <| .z) fun a w S => st_m (op_alloc S zeroValue134 (cs := _) rfl rfl fun g7 a w S => st_m (op_stW S sizeOf134 (.t rfl) (.t rfl) (k := 0) rfl rfl rfl (by simp [Value.oneCell']) fun a w S => st_nil (then_normal (hK3 _ _ (wp_seq_k fun _ hK3 => wp_region_lit (run S (.fa underlying134 sizeOf53 0 rfl rfl rfl <| .ld gt53 0 rfl rfl rfl <| .xx (ys_callVC (cs := [_]) (.t rfl) call92 .nil (fun hp w W => c92 _ _ _ _ (by exact Wd.cell W (k := 1) rfl rfl) (by exact .old W (by assumption)) (by exact .old W (by assumption)))) rfl <| .z) fun a w S => ?_)))))))))))))))
    rw [rw_a] at S
    refine run S (.nt rfl <| .z) fun a w S => st_nil (then_normal (hK3 _ _ (st_else S (.t rfl) (wp_skip (in_normal (then_normal (hK2 _ _ (wp_region_lit (run S (.ad (by unfold I64; omega) rfl <| .z) fun a w S => ?_)))))))))
    rw [rw_3] at S
    refine run S (.mv rfl <| .z) fun a w S => st_nil (then_normal (st_round (sg S (.lt (by omega) rfl rfl <| .z) fun a w S => wp_seq_k fun _ hK2 => st_then S (.t rfl) (wp_skip (then_normal (hK2 _ _ (wp_seq_k fun _ hK2 => wp_block (wp_seq_k fun _ hK3 => wp_region_lit (run S (.yy (ys_ixS (j := 3) underlying187 sizeOf134 (.t rfl) (.t rfl) (fun _ => by omega)) rfl <| .la gt134 5 rfl rfl rfl <| .z) fun a w S => st_m (op_alloc S zeroValue134 (cs := _) rfl rfl fun g8 a w S => st_m (op_stW S sizeOf134 (.t rfl) (.t rfl) (k := 0) rfl rfl rfl (by simp [Value.oneCell']) fun a w S => st_nil (then_normal (hK3 _ _ (wp_seq_k fun _ hK3 => wp_region_lit (run S (.fa underlying134 sizeOf53 0 rfl rfl rfl <| .ld gt53 0 rfl rfl rfl <| .xx (ys_callVC (cs := [_, _]) (.t rfl) call96 .nil (fun hp w W => c96 _ _ _ _ _ _ _ _ (by exact Wd.cell W (k := 2) rfl rfl) (by exact Wd.cell W (k := 7) rfl rfl) (by exact Wd.cell W (k := 7) rfl rfl) (by exact .old W (by assumption)) (by exact .old W (by assumption)))) rfl <| .z) fun a w S => ?_)))))))))))))))
    rw [rw_lv] at S
    refine run S (.nt rfl <| .z) fun a w S => st_nil (then_normal (hK3 _ _ (st_else S (.t rfl) (wp_skip (in_normal (then_normal (hK2 _ _ (wp_region_lit (run S (.ad (by unfold I64; omega) rfl <| .z) fun a w S => ?_)))))))))
    rw [rw_4] at S
    refine run S (.mv rfl <| .z) fun a w S => st_nil (then_normal (st_round (sg S (.lt (by omega) rfl rfl <| .z) fun a w S => wp_seq_k fun _ hK2 => st_then S (.t rfl) (wp_skip (then_normal (hK2 _ _ (wp_seq_k fun _ hK2 => wp_block (wp_seq_k fun _ hK3 => wp_region_lit (run S (.yy (ys_ixS (j := 4) underlying187 sizeOf134 (.t rfl) (.t rfl) (fun _ => by omega)) rfl <| .la gt134 6 rfl rfl rfl <| .z) fun a w S => st_m (op_alloc S zeroValue134 (cs := _) rfl rfl fun g9 a w S => st_m (op_stW S sizeOf134 (.t rfl) (.t rfl) (k := 0) rfl rfl rfl (by simp [Value.oneCell']) fun a w S => st_nil (then_normal (hK3 _ _ (wp_seq_k fun _ hK3 => wp_region_lit (run S (.fa underlying134 sizeOf53 0 rfl rfl rfl <| .ld gt53 0 rfl rfl rfl <| .z) fun a w S => ?_)))))))))))))))
    (replace S := S.pull 9 rfl; try simp only [List.set_cons_zero, List.set_cons_succ, List.eraseIdx_cons_succ, List.eraseIdx_cons_zero] at S; replace S := S.pull 9 rfl; try simp only [List.set_cons_zero, List.set_cons_succ, List.eraseIdx_cons_succ, List.eraseIdx_cons_zero] at S; replace S := S.pull 5 rfl; try simp only [List.set_cons_zero, List.set_cons_succ, List.eraseIdx_cons_succ, List.eraseIdx_cons_zero] at S; refine st_m (op_callVO (cs := [_, _, _]) S (.t rfl) call98 .nil (c98 S.wd (by first | assumption | omega | (dsimp only; omega) | exact Sl.nil_ | exact .old S.wd (by assumption) | exact Sl.of_own S.wd (k := 0) rfl (fun _ => rfl) | exact Sl.of_own S.wd (k := 1) rfl (fun _ => rfl) | exact Sl.of_own S.wd (k := 2) rfl (fun _ => rfl) | exact Sl.of_own S.wd (k := 3) rfl (fun _ => rfl) | exact Sl.of_own S.wd (k := 4) rfl (fun _ => rfl) | exact Sl.of_own S.wd (k := 5) rfl (fun _ => rfl) | exact Sl.of_own S.wd (k := 6) rfl (fun _ => rfl) | exact Sl.of_own S.wd (k := 7) rfl (fun _ => rfl) | exact Sl.of_own S.wd (k := 8) rfl (fun _ => rfl) | exact Sl.of_own S.wd (k := 9) rfl (fun _ => rfl) | exact Sl.of_own S.wd (k := 10) rfl (fun _ => rfl) | exact Sl.of_own S.wd (k := 11) rfl (fun _ => rfl) | exact Sl.of_own S.wd (k := 12) rfl (fun _ => rfl) | exact Sl.of_own S.wd (k := 13) rfl (fun _ => rfl) | exact Sl.of_own S.wd (k := 14) rfl (fun _ => rfl) | (simp at *; omega)) (by first | assumption | omega | (dsimp only; omega) | exact Sl.nil_ | exact .old S.wd (by assumption) | exact Sl.of_own S.wd (k := 0) rfl (fun _ => rfl) | exact Sl.of_own S.wd (k := 1) rfl (fun _ => rfl) | exact Sl.of_own S.wd (k := 2) rfl (fun _ => rfl) | exact Sl.of_own S.wd (k := 3) rfl (fun _ => rfl) | exact Sl.of_own S.wd (k := 4) rfl (fun _ => rfl) | exact Sl.of_own S.wd (k := 5) rfl (fun _ => rfl) | exact Sl.of_own S.wd (k := 6) rfl (fun _ => rfl) | exact Sl.of_own S.wd (k := 7) rfl (fun _ => rfl) | exact Sl.of_own S.wd (k := 8) rfl (fun _ => rfl) | exact Sl.of_own S.wd (k := 9) rfl (fun _ => rfl) | exact Sl.of_own S.wd (k := 10) rfl (fun _ => rfl) | exact Sl.of_own S.wd (k := 11) rfl (fun _ => rfl) | exact Sl.of_own S.wd (k := 12) rfl (fun _ => rfl) | exact Sl.of_own S.wd (k := 13) rfl (fun _ => rfl) | exact Sl.of_own S.wd (k := 14) rfl (fun _ => rfl) | (simp at *; omega))) rfl ?_) <;> clear S a w)
    rintro _ _ ⟨rfl, rfl⟩ a w S
    rw [rw_t] at S
    refine run S (.nt rfl <| .z) fun a w S => st_nil (then_normal (hK3 _ _ (st_then S (.t rfl) (sg S (.fa underlying134 sizeOf132 1 rfl rfl rfl <| .ld gt132 3 rfl rfl rfl <| .xx (ys_callVC (cs := [_]) (.t rfl) call149 .nil (fun hp w W => c149 _ _ _ (by exact Wd.cell W (k := 13) rfl rfl))) rfl <| .as rfl <| .z) fun a w S => wp_ret (in_ret (then_ret (then_ret (in_ret (then_ret (st_ret S (results1 S results87 (Rv.tmp rfl)) ?_))))))))))
    rw [er]
    exact ⟨_, _, rfl, S.wd.pk, _, rfl, rfl, fun k => by cases k⟩
  have rw_t : decide (0 < c.1.ctx.top p q) = true := decide_eq_true (by omega)
  rw [if_neg ht] at er
  have hgap := no_gap (can_nf hcan) (p := p) (q := q) ht
  cases hg : (c.1.ctx.cloud.any fun d => decide (d.node = p ∧ d.life = q)) with
  | true =>
    rw [hg] at hgap
    have rw_g := hgap
    rw [if_pos hg] at er
    unfold Go.Fw.RetsO
    refine enterW1 W func87 rfl ntmps87 rfl fun a S => sg S (.ac rfl <| .z) fun a w S => wp_seq_k fun _ hK1 => sg S (.mv rfl <| .ln underlying187 rfl <| .mc rfl <| .z) fun a w S => wp_block (st_rounds 7 (st_round (sg S (.lt (by omega) rfl rfl <| .z) fun a w S => wp_seq_k fun _ hK2 => st_then S (.t rfl) (wp_skip (then_normal (hK2 _ _ (wp_seq_k fun _ hK2 => wp_block (wp_seq_k fun _ hK3 => wp_region_lit (run S (.yy (ys_ixS (j := 0) underlying187 sizeOf134 (.t rfl) (.t rfl) (fun _ => by omega)) rfl <| .la gt134 0 rfl rfl rfl <| .z) fun a w S => st_m (op_alloc S zeroValue134 (cs := _) rfl rfl fun g3 a w S => st_m (op_stW S sizeOf134 (.t rfl) (.t rfl) (k := 0) rfl rfl rfl (by simp [Value.oneCell']) fun a w S => st_nil (then_normal (hK3 _ _ (wp_seq_k fun _ hK3 => wp_region_lit (run S (.fa underlying134 sizeOf53 0 rfl rfl rfl <| .ld gt53 0 rfl rfl rfl <| .xx (ys_callVC (cs := [_]) (.t rfl) call89 .nil (fun hp w W => c89 _ _ _ _ (by exact Wd.cell W (k := 3) rfl rfl) (by exact Wd.cell W (k := 3) rfl rfl))) rfl <| .z) fun a w S => ?_)))))))))))))))
    rw [rw_m] at S
    refine run S (.nt rfl <| .z) fun a w S => st_nil (then_normal (hK3 _ _ (st_else S (.t rfl) (wp_skip (in_normal (then_normal (hK2 _ _ (wp_region_lit (run S (.ad (by unfold I64; omega) rfl <| .z) fun a w S => ?_)))))))))
    rw [rw_1] at S
    refine run S (.mv rfl <| .z) fun a w S => st_nil (then_normal (st_round (sg S (.lt (by omega) rfl rfl <| .z) fun a w S => wp_seq_k fun _ hK2 => st_then S (.t rfl) (wp_skip (then_normal (hK2 _ _ (wp_seq_k fun _ hK2 => wp_block (wp_seq_k fun _ hK3 => wp_region_lit (run S (.yy (ys_ixS (j := 1) underlying187 sizeOf134 (.t rfl) (.t rfl) (fun _ => by omega)) rfl <| .la gt134 1 rfl rfl rfl <| .z) fun a w S => st_m (op_alloc S zeroValue134 (cs := _) rfl rfl fun g6 a w S => st_m (op_stW S sizeOf134 (.t rfl) (.t rfl) (k := 0) rfl rfl rfl (by simp [Value.oneCell']) fun a w S => st_nil (then_normal (hK3 _ _ (wp_seq_k fun _ hK3 => wp_region_lit (run S (.fa underlying134 sizeOf53 0 rfl rfl rfl <| .ld gt53 0 rfl rfl rfl <| .z) fun a w S => ?_)))))))))))))))
    (replace S := S.pull 5 rfl; try simp only [List.set_cons_zero, List.set_cons_succ, List.eraseIdx_cons_succ, List.eraseIdx_cons_zero] at S; replace S := S.pull 4 rfl; try simp only [List.set_cons_zero, List.set_cons_succ, List.eraseIdx_cons_succ, List.eraseIdx_cons_zero] at S; refine st_m (op_callVO (cs := [_, _]) S (.t rfl) call90 .nil (c90 S.wd (by first | assumption | omega | (dsimp only; omega) | exact Sl.nil_ | exact .old S.wd (by assumption) | exact Sl.of_own S.wd (k := 0) rfl (fun _ => rfl) | exact Sl.of_own S.wd (k := 1) rfl (fun _ => rfl) | exact Sl.of_own S.wd (k := 2) rfl (fun _ => rfl) | exact Sl.of_own S.wd (k := 3) rfl (fun _ => rfl) | exact Sl.of_own S.wd (k := 4) rfl (fun _ => rfl) | exact Sl.of_own S.wd (k := 5) rfl (fun _ => rfl) | exact Sl.of_own S.wd (k := 6) rfl (fun _ => rfl) | exact Sl.of_own S.wd (k := 7) rfl (fun _ => rfl) | exact Sl.of_own S.wd (k := 8) rfl (fun _ => rfl) | exact Sl.of_own S.wd (k := 9) rfl (fun _ => rfl) | exact Sl.of_own S.wd (k := 10) rfl (fun _ => rfl) | exact Sl.of_own S.wd (k := 11) rfl (fun _ => rfl) | (simp at *; omega)) (by first | assumption | omega | (dsimp only; omega) | exact Sl.nil_ | exact .old S.wd (by assumption) | exact Sl.of_own S.wd (k := 0) rfl (fun _ => rfl) | exact Sl.of_own S.wd (k := 1) rfl (fun _ => rfl) | exact Sl.of_own S.wd (k := 2) rfl (fun _ => rfl) | exact Sl.of_own S.wd (k := 3) rfl (fun _ => rfl) | exact Sl.of_own S.wd (k := 4) rfl (fun _ => rfl) | exact Sl.of_own S.wd (k := 5) rfl (fun _ => rfl) | exact Sl.of_own S.wd (k := 6) rfl (fun _ => rfl) | exact Sl.of_own S.wd (k := 7) rfl (fun _ => rfl) | exact Sl.of_own S.wd (k := 8) rfl (fun _ => rfl) | exact Sl.of_own S.wd (k := 9) rfl (fun _ => rfl) | exact Sl.of_own S.wd (k := 10) rfl (fun _ => rfl) | exact Sl.of_own S.wd (k := 11) rfl (fun _ => rfl) | (simp at *; omega))) rfl ?_) <;> clear S a w)
    rintro _ _ ⟨rfl, rfl⟩ a w S
    rw [rw_b] at S
    rw [rw_bb] at S
    refine run S (.nt rfl <| .z) fun a w S => st_nil (then_normal (hK3 _ _ (st_else S (.t rfl) (wp_skip (in_normal (then_normal (hK2 _ _ (wp_region_lit (run S (.ad (by unfold I64; omega) rfl <| .z) fun a w S => ?_)))))))))
    rw [rw_2] at S
    refine run S (.mv rfl <| .z) fun a w S => st_nil (then_normal (st_round (sg S (.lt (by omega) rfl rfl <| .z) fun a w S => wp_seq_k fun _ hK2 => st_then S (.t rfl) (wp_skip (then_normal (hK2 _ _ (wp_seq_k fun _ hK2 => wp_block (wp_seq_k fun _ hK3 => wp_region_lit (run S (.yy (ys_ixS (j := 2) underlying187 sizeOf134 (.t rfl) (.t rfl) (fun _ => by omega)) rfl <| .la gt134 4 rfl rfl rfl <| .z) fun a w S => st_m (op_alloc S zeroValue134 (cs := _) rfl rfl fun g7 a w S => st_m (op_stW S sizeOf134 (.t rfl) (.t rfl) (k := 0) rfl rfl rfl (by simp [Value.oneCell']) fun a w S => st_nil (then_normal (hK3 _ _ (wp_seq_k fun _ hK3 => wp_region_lit (run S (.fa underlying134 sizeOf53 0 rfl rfl rfl <| .ld gt53 0 rfl rfl rfl <| .xx (ys_callVC (cs := [_]) (.t rfl) call92 .nil (fun hp w W => c92 _ _ _ _ (by exact Wd.cell W (k := 1) rfl rfl) (by exact .old W (by assumption)) (by exact .old W (by assumption)))) rfl <| .z) fun a w S => ?_)))))))))))))))
    rw [rw_a] at S
    refine run S (.nt rfl <| .z) fun a w S => st_nil (then_normal (hK3 _ _ (st_else S (.t rfl) (wp_skip (in_normal (then_normal (hK2 _ _ (wp_region_lit (run S (.ad (by unfold I64; omega) rfl <| .z) fun a w S => ?_)))))))))
    rw [rw_3] at S
    refine run S (.mv rfl <| .z) fun a w S => st_nil (then_normal (st_round (sg S (.lt (by omega) rfl rfl <| .z) fun a w S => wp_seq_k fun _ hK2 => st_then S (.t rfl) (wp_skip (then_normal (hK2 _ _ (wp_seq_k fun _ hK2 => wp_block (wp_seq_k fun _ hK3 => wp_region_lit (run S (.yy (ys_ixS (j := 3) underlying187 sizeOf134 (.t rfl) (.t rfl) (fun _ => by omega)) rfl <| .la gt134 5 rfl rfl rfl <| .z) fun a w S => st_m (op_alloc S zeroValue134 (cs := _) rfl rfl fun g8 a w S => st_m (op_stW S sizeOf134 (.t rfl) (.t rfl) (k := 0) rfl rfl rfl (by simp [Value.oneCell']) fun a w S => st_nil (then_normal (hK3 _ _ (wp_seq_k fun _ hK3 => wp_region_lit (run S (.fa underlying134 sizeOf53 0 rfl rfl rfl <| .ld gt53 0 rfl rfl rfl <| .xx (ys_callVC (cs := [_, _]) (.t rfl) call96 .nil (fun hp w W => c96 _ _ _ _ _ _ _ _ (by exact Wd.cell W (k := 2) rfl rfl) (by exact Wd.cell W (k := 7) rfl rfl) (by exact Wd.cell W (k := 7) rfl rfl) (by exact .old W (by assumption)) (by exact .old W (by assumption)))) rfl <| .z) fun a w S => ?_)))))))))))))))
    rw [rw_lv] at S
    refine run S (.nt rfl <| .z) fun a w S => st_nil (then_normal (hK3 _ _ (st_else S (.t rfl) (wp_skip (in_normal (then_normal (hK2 _ _ (wp_region_lit (run S (.ad (by unfold I64; omega) rfl <| .z) fun a w S => ?_)))))))))
    rw [rw_4] at S
    refine run S (.mv rfl <| .z) fun a w S => st_nil (then_normal (st_round (sg S (.lt (by omega) rfl rfl <| .z) fun a w S => wp_seq_k fun _ hK2 => st_then S (.t rfl) (wp_skip (then_normal (hK2 _ _ (wp_seq_k fun _ hK2 => wp_block (wp_seq_k fun _ hK3 => wp_region_lit (run S (.yy (ys_ixS (j := 4) underlying187 sizeOf134 (.t rfl) (.t rfl) (fun _ => by omega)) rfl <| .la gt134 6 rfl rfl rfl <| .z) fun a w S => st_m (op_alloc S zeroValue134 (cs := _) rfl rfl fun g9 a w S => st_m (op_stW S sizeOf134 (.t rfl) (.t rfl) (k := 0) rfl rfl rfl (by simp [Value.oneCell']) fun a w S => st_nil (then_normal (hK3 _ _ (wp_seq_k fun _ hK3 => wp_region_lit (run S (.fa underlying134 sizeOf53 0 rfl rfl rfl <| .ld gt53 0 rfl rfl rfl <| .z) fun a w S => ?_)))))))))))))))
    (replace S := S.pull 9 rfl; try simp only [List.set_cons_zero, List.set_cons_succ, List.eraseIdx_cons_succ, List.eraseIdx_cons_zero] at S; replace S := S.pull 9 rfl; try simp only [List.set_cons_zero, List.set_cons_succ, List.eraseIdx_cons_succ, List.eraseIdx_cons_zero] at S; replace S := S.pull 5 rfl; try simp only [List.set_cons_zero, List.set_cons_succ, List.eraseIdx_cons_succ, List.eraseIdx_cons_zero] at S; refine st_m (op_callVO (cs := [_, _, _]) S (.t rfl) call98 .nil (c98 S.wd (by first | assumption | omega | (dsimp only; omega) | exact Sl.nil_ | exact .old S.wd (by assumption) | exact Sl.of_own S.wd (k := 0) rfl (fun _ => rfl) | exact Sl.of_own S.wd (k := 1) rfl (fun _ => rfl) | exact Sl.of_own S.wd (k := 2) rfl (fun _ => rfl) | exact Sl.of_own S.wd (k := 3) rfl (fun _ => rfl) | exact Sl.of_own S.wd (k := 4) rfl (fun _ => rfl) | exact Sl.of_own S.wd (k := 5) rfl (fun _ => rfl) | exact Sl.of_own S.wd (k := 6) rfl (fun _ => rfl) | exact Sl.of_own S.wd (k := 7) rfl (fun _ => rfl) | exact Sl.of_own S.wd (k := 8) rfl (fun _ => rfl) | exact Sl.of_own S.wd (k := 9) rfl (fun _ => rfl) | exact Sl.of_own S.wd (k := 10) rfl (fun _ => rfl) | exact Sl.of_own S.wd (k := 11) rfl (fun _ => rfl) | exact Sl.of_own S.wd (k := 12) rfl (fun _ => rfl) | exact Sl.of_own S.wd (k := 13) rfl (fun _ => rfl) | exact Sl.of_own S.wd (k := 14) rfl (fun _ => rfl) | (simp at *; omega)) (by first | assumption | omega | (dsimp only; omega) | exact Sl.nil_ | exact .old S.wd (by assumption) | exact Sl.of_own S.wd (k := 0) rfl (fun _ => rfl) | exact Sl.of_own S.wd (k := 1) rfl (fun _ => rfl) | exact Sl.of_own S.wd (k := 2) rfl (fun _ => rfl) | exact Sl.of_own S.wd (k := 3) rfl (fun _ => rfl) | exact Sl.of_own S.wd (k := 4) rfl (fun _ => rfl) | exact Sl.of_own S.wd (k := 5) rfl (fun _ => rfl) | exact Sl.of_own S.wd (k := 6) rfl (fun _ => rfl) | exact Sl.of_own S.wd (k := 7) rfl (fun _ => rfl) | exact Sl.of_own S.wd (k := 8) rfl (fun _ => rfl) | exact Sl.of_own S.wd (k := 9) rfl (fun _ => rfl) | exact Sl.of_own S.wd (k := 10) rfl (fun _ => rfl) | exact Sl.of_own S.wd (k := 11) rfl (fun _ => rfl) | exact Sl.of_own S.wd (k := 12) rfl (fun _ => rfl) | exact Sl.of_own S.wd (k := 13) rfl (fun _ => rfl) | exact Sl.of_own S.wd (k := 14) rfl (fun _ => rfl) | (simp at *; omega))) rfl ?_) <;> clear S a w)
    rintro _ _ ⟨rfl, rfl⟩ a w S
    rw [rw_t] at S
    refine run S (.nt rfl <| .z) fun a w S => st_nil (then_normal (hK3 _ _ (st_else S (.t rfl) (wp_skip (in_normal (then_normal (hK2 _ _ (wp_region_lit (run S (.ad (by unfold I64; omega) rfl <| .z) fun a w S => ?_)))))))))
    rw [rw_5] at S
    refine run S (.mv rfl <| .z) fun a w S => st_nil (then_normal (st_round (sg S (.lt (by omega) rfl rfl <| .z) fun a w S => wp_seq_k fun _ hK2 => st_then S (.t rfl) (wp_skip (then_normal (hK2 _ _ (wp_seq_k fun _ hK2 => wp_block (wp_seq_k fun _ hK3 => wp_region_lit (run S (.yy (ys_ixS (j := 5) underlying187 sizeOf134 (.t rfl) (.t rfl) (fun _ => by omega)) rfl <| .la gt134 9 rfl rfl rfl <| .z) fun a w S => st_m (op_alloc S zeroValue134 (cs := _) rfl rfl fun g10 a w S => st_m (op_stW S sizeOf134 (.t rfl) (.t rfl) (k := 0) rfl rfl rfl (by simp [Value.oneCell']) fun a w S => st_nil (then_normal (hK3 _ _ (wp_seq_k fun _ hK3 => wp_region_lit (run S (.fa underlying134 sizeOf53 0 rfl rfl rfl <| .ld gt53 0 rfl rfl rfl <| .xx (ys_callVC (cs := [_, _]) (.t rfl) call99 .nil (fun hp w W => c99 _ _ _ _ _ _ _ _ _ (by exact Wd.cell W (k := 1) rfl rfl) (by exact Wd.cell W (k := 3) rfl rfl) (by exact Wd.cell W (k := 3) rfl rfl) (by exact Wd.cell W (k := 3) rfl rfl) (by exact .old W (by assumption)) (by exact .old W (by assumption)))) rfl <| .z) fun a w S => ?_)))))))))))))))
    rw [rw_g] at S
    refine run S (.nt rfl <| .z) fun a w S => st_nil (then_normal (hK3 _ _ (st_then S (.t rfl) (sg S (.fa underlying134 sizeOf132 1 rfl rfl rfl <| .ld gt132 0 rfl rfl rfl <| .xx (ys_callVC (cs := [_]) (.t rfl) call149 .nil (fun hp w W => c149 _ _ _ (by exact Wd.cell W (k := 15) rfl rfl))) rfl <| .as rfl <| .z) fun a w S => wp_ret (in_ret (then_ret (then_ret (in_ret (then_ret (st_ret S (results1 S results87 (Rv.tmp rfl)) ?_))))))))))
    rw [er]
    exact ⟨_, _, rfl, S.wd.pk, _, rfl, rfl, fun k => by cases k⟩
  | false =>
  rw [hg] at hgap
  have rw_g := hgap
  rw [if_neg (by rw [hg]; simp)] at er
  unfold Go.Fw.RetsO
  refine enterW1 W func87 rfl ntmps87 rfl fun a S => sg S (.ac rfl <| .z) fun a w S => wp_seq_k fun _ hK1 => sg S (.mv rfl <| .ln underlying187 rfl <| .mc rfl <| .z) fun a w S => wp_block (st_rounds 7 (st_round (sg S (.lt (by omega) rfl rfl <| .z) fun a w S => wp_seq_k fun _ hK2 => st_then S (.t rfl) (wp_skip (then_normal (hK2 _ _ (wp_seq_k fun _ hK2 => wp_block (wp_seq_k fun _ hK3 => wp_region_lit (run S (.yy (ys_ixS (j := 0) underlying187 sizeOf134 (.t rfl) (.t rfl) (fun _ => by omega)) rfl <| .la gt134 0 rfl rfl rfl <| .z) fun a w S => st_m (op_alloc S zeroValue134 (cs := _) rfl rfl fun g3 a w S => st_m (op_stW S sizeOf134 (.t rfl) (.t rfl) (k := 0) rfl rfl rfl (by simp [Value.oneCell']) fun a w S => st_nil (then_normal (hK3 _ _ (wp_seq_k fun _ hK3 => wp_region_lit (run S (.fa underlying134 sizeOf53 0 rfl rfl rfl <| .ld gt53 0 rfl rfl rfl <| .xx (ys_callVC (cs := [_]) (.t rfl) call89 .nil (fun hp w W => c89 _ _ _ _ (by exact Wd.cell W (k := 3) rfl rfl) (by exact Wd.cell W (k := 3) rfl rfl))) rfl <| .z) fun a w S => ?_)))))))))))))))
  rw [rw_m] at S
  refine run S (.nt rfl <| .z) fun a w S => st_nil (then_normal (hK3 _ _ (st_else S (.t rfl) (wp_skip (in_normal (then_normal (hK2 _ _ (wp_region_lit (run S (.ad (by unfold I64; omega) rfl <| .z) fun a w S => ?_)))))))))
  rw [rw_1] at S
  refine run S (.mv rfl <| .z) fun a w S => st_nil (then_normal (st_round (sg S (.lt (by omega) rfl rfl <| .z) fun a w S => wp_seq_k fun _ hK2 => st_then S (.t rfl) (wp_skip (then_normal (hK2 _ _ (wp_seq_k fun _ hK2 => wp_block (wp_seq_k fun _ hK3 => wp_region_lit (run S (.yy (ys_ixS (j := 1) underlying187 sizeOf134 (.t rfl) (.t rfl) (fun _ => by omega)) rfl <| .la gt134 1 rfl rfl rfl <| .z) fun a w S => st_m (op_alloc S zeroValue134 (cs := _) rfl rfl fun g6 a w S => st_m (op_stW S sizeOf134 (.t rfl) (.t rfl) (k := 0) rfl rfl rfl (by simp [Value.oneCell']) fun a w S => st_nil (then_normal (hK3 _ _ (wp_seq_k fun _ hK3 => wp_region_lit (run S (.fa underlying134 sizeOf53 0 rfl rfl rfl <| .ld gt53 0 rfl rfl rfl <| .z) fun a w S => ?_)))))))))))))))
  (replace S := S.pull 5 rfl; try simp only [List.set_cons_zero, List.set_cons_succ, List.eraseIdx_cons_succ, List.eraseIdx_cons_zero] at S; replace S := S.pull 4 rfl; try simp only [List.set_cons_zero, List.set_cons_succ, List.eraseIdx_cons_succ, List.eraseIdx_cons_zero] at S; refine st_m (op_callVO (cs := [_, _]) S (.t rfl) call90 .nil (c90 S.wd (by first | assumption | omega | (dsimp only; omega) | exact Sl.nil_ | exact .old S.wd (by assumption) | exact Sl.of_own S.wd (k := 0) rfl (fun _ => rfl) | exact Sl.of_own S.wd (k := 1) rfl (fun _ => rfl) | exact Sl.of_own S.wd (k := 2) rfl (fun _ => rfl) | exact Sl.of_own S.wd (k := 3) rfl (fun _ => rfl) | exact Sl.of_own S.wd (k := 4) rfl (fun _ => rfl) | exact Sl.of_own S.wd (k := 5) rfl (fun _ => rfl) | exact Sl.of_own S.wd (k := 6) rfl (fun _ => rfl) | exact Sl.of_own S.wd (k := 7) rfl (fun _ => rfl) | exact Sl.of_own S.wd (k := 8) rfl (fun _ => rfl) | exact Sl.of_own S.wd (k := 9) rfl (fun _ => rfl) | exact Sl.of_own S.wd (k := 10) rfl (fun _ => rfl) | exact Sl.of_own S.wd (k := 11) rfl (fun _ => rfl) | (simp at *; omega)) (by first | assumption | omega | (dsimp only; omega) | exact Sl.nil_ | exact .old S.wd (by assumption) | exact Sl.of_own S.wd (k := 0) rfl (fun _ => rfl) | exact Sl.of_own S.wd (k := 1) rfl (fun _ => rfl) | exact Sl.of_own S.wd (k := 2) rfl (fun _ => rfl) | exact Sl.of_own S.wd (k := 3) rfl (fun _ => rfl) | exact Sl.of_own S.wd (k := 4) rfl (fun _ => rfl) | exact Sl.of_own S.wd (k := 5) rfl (fun _ => rfl) | exact Sl.of_own S.wd (k := 6) rfl (fun _ => rfl) | exact Sl.of_own S.wd (k := 7) rfl (fun _ => rfl) | exact Sl.of_own S.wd (k := 8) rfl (fun _ => rfl) | exact Sl.of_own S.wd (k := 9) rfl (fun _ => rfl) | exact Sl.of_own S.wd (k := 10) rfl (fun _ => rfl) | exact Sl.of_own S.wd (k := 11) rfl (fun _ => rfl) | (simp at *; omega))) rfl ?_) <;> clear S a w)
  rintro _ _ ⟨rfl, rfl⟩ a w S
  rw [rw_b] at S
  rw [rw_bb] at S
  refine run S (.nt rfl <| .z) fun a w S => st_nil (then_normal (hK3 _ _ (st_else S (.t rfl) (wp_skip (in_normal (then_normal (hK2 _ _ (wp_region_lit (run S (.ad (by unfold I64; omega) rfl <| .z) fun a w S => ?_)))))))))
  rw [rw_2] at S
  refine run S (.mv rfl <| .z) fun a w S => st_nil (then_normal (st_round (sg S (.lt (by omega) rfl rfl <| .z) fun a w S => wp_seq_k fun _ hK2 => st_then S (.t rfl) (wp_skip (then_normal (hK2 _ _ (wp_seq_k fun _ hK2 => wp_block (wp_seq_k fun _ hK3 => wp_region_lit (run S (.yy (ys_ixS (j := 2) underlying187 sizeOf134 (.t rfl) (.t rfl) (fun _ => by omega)) rfl <| .la gt134 4 rfl rfl rfl <| .z) fun a w S => st_m (op_alloc S zeroValue134 (cs := _) rfl rfl fun g7 a w S => st_m (op_stW S sizeOf134 (.t rfl) (.t rfl) (k := 0) rfl rfl rfl (by simp [Value.oneCell']) fun a w S => st_nil (then_normal (hK3 _ _ (wp_seq_k fun _ hK3 => wp_region_lit (run S (.fa underlying134 sizeOf53 0 rfl rfl rfl <| .ld gt53 0 rfl rfl rfl <| .xx (ys_callVC (cs := [_]) (.t rfl) call92 .nil (fun hp w W => c92 _ _ _ _ (by exact Wd.cell W (k := 1) rfl rfl) (by exact .old W (by assumption)) (by exact .old W (by assumption)))) rfl <| .z) fun a w S => ?_)))))))))))))))
  rw [rw_a] at S
  refine run S (.nt rfl <| .z) fun a w S => st_nil (then_normal (hK3 _ _ (st_else S (.t rfl) (wp_skip (in_normal (then_normal (hK2 _ _ (wp_region_lit (run S (.ad (by unfold I64; omega) rfl <| .z) fun a w S => ?_)))))))))
  rw [rw_3] at S
  refine run S (.mv rfl <| .z) fun a w S => st_nil (then_normal (st_round (sg S (.lt (by omega) rfl rfl <| .z) fun a w S => wp_seq_k fun _ hK2 => st_then S (.t rfl) (wp_skip (then_normal (hK2 _ _ (wp_seq_k fun _ hK2 => wp_block (wp_seq_k fun _ hK3 => wp_region_lit (run S (.yy (ys_ixS (j := 3) underlying187 sizeOf134 (.t rfl) (.t rfl) (fun _ => by omega)) rfl <| .la gt134 5 rfl rfl rfl <| .z) fun a w S => st_m (op_alloc S zeroValue134 (cs := _) rfl rfl fun g8 a w S => st_m (op_stW S sizeOf134 (.t rfl) (.t rfl) (k := 0) rfl rfl rfl (by simp [Value.oneCell']) fun a w S => st_nil (then_normal (hK3 _ _ (wp_seq_k fun _ hK3 => wp_region_lit (run S (.fa underlying134 sizeOf53 0 rfl rfl rfl <| .ld gt53 0 rfl rfl rfl <| .xx (ys_callVC (cs := [_, _]) (.t rfl) call96 .nil (fun hp w W => c96 _ _ _ _ _ _ _ _ (by exact Wd.cell W (k := 2) rfl rfl) (by exact Wd.cell W (k := 7) rfl rfl) (by exact Wd.cell W (k := 7) rfl rfl) (by exact .old W (by assumption)) (by exact .old W (by assumption)))) rfl <| .z) fun a w S => ?_)))))))))))))))
  rw [rw_lv] at S
  refine run S (.nt rfl <| .z) fun a w S => st_nil (then_normal (hK3 _ _ (st_else S (.t rfl) (wp_skip (in_normal (then_normal (hK2 _ _ (wp_region_lit (run S (.ad (by unfold I64; omega) rfl <| .z) fun a w S => ?_)))))))))
  rw [rw_4] at S
  refine run S (.mv rfl <| .z) fun a w S => st_nil (then_normal (st_round (sg S (.lt (by omega) rfl rfl <| .z) fun a w S => wp_seq_k fun _ hK2 => st_then S (.t rfl) (wp_skip (then_normal (hK2 _ _ (wp_seq_k fun _ hK2 => wp_block (wp_seq_k fun _ hK3 => wp_region_lit (run S (.yy (ys_ixS (j := 4) underlying187 sizeOf134 (.t rfl) (.t rfl) (fun _ => by omega)) rfl <| .la gt134 6 rfl rfl rfl <| .z) fun a w S => st_m (op_alloc S zeroValue134 (cs := _) rfl rfl fun g9 a w S => st_m (op_stW S sizeOf134 (.t rfl) (.t rfl) (k := 0) rfl rfl rfl (by simp [Value.oneCell']) fun a w S => st_nil (then_normal (hK3 _ _ (wp_seq_k fun _ hK3 => wp_region_lit (run S (.fa underlying134 sizeOf53 0 rfl rfl rfl <| .ld gt53 0 rfl rfl rfl <| .z) fun a w S => ?_)))))))))))))))
  (replace S := S.pull 9 rfl; try simp only [List.set_cons_zero, List.set_cons_succ, List.eraseIdx_cons_succ, List.eraseIdx_cons_zero] at S; replace S := S.pull 9 rfl; try simp only [List.set_cons_zero, List.set_cons_succ, List.eraseIdx_cons_succ, List.eraseIdx_cons_zero] at S; replace S := S.pull 5 rfl; try simp only [List.set_cons_zero, List.set_cons_succ, List.eraseIdx_cons_succ, List.eraseIdx_cons_zero] at S; refine st_m (op_callVO (cs := [_, _, _]) S (.t rfl) call98 .nil (c98 S.wd (by first | assumption | omega | (dsimp only; omega) | exact Sl.nil_ | exact .old S.wd (by assumption) | exact Sl.of_own S.wd (k := 0) rfl (fun _ => rfl) | exact Sl.of_own S.wd (k := 1) rfl (fun _ => rfl) | exact Sl.of_own S.wd (k := 2) rfl (fun _ => rfl) | exact Sl.of_own S.wd (k := 3) rfl (fun _ => rfl) | exact Sl.of_own S.wd (k := 4) rfl (fun _ => rfl) | exact Sl.of_own S.wd (k := 5) rfl (fun _ => rfl) | exact Sl.of_own S.wd (k := 6) rfl (fun _ => rfl) | exact Sl.of_own S.wd (k := 7) rfl (fun _ => rfl) | exact Sl.of_own S.wd (k := 8) rfl (fun _ => rfl) | exact Sl.of_own S.wd (k := 9) rfl (fun _ => rfl) | exact Sl.of_own S.wd (k := 10) rfl (fun _ => rfl) | exact Sl.of_own S.wd (k := 11) rfl (fun _ => rfl) | exact Sl.of_own S.wd (k := 12) rfl (fun _ => rfl) | exact Sl.of_own S.wd (k := 13) rfl (fun _ => rfl) | exact Sl.of_own S.wd (k := 14) rfl (fun _ => rfl) | (simp at *; omega)) (by first | assumption | omega | (dsimp only; omega) | exact Sl.nil_ | exact .old S.wd (by assumption) | exact Sl.of_own S.wd (k := 0) rfl (fun _ => rfl) | exact Sl.of_own S.wd (k := 1) rfl (fun _ => rfl) | exact Sl.of_own S.wd (k := 2) rfl (fun _ => rfl) | exact Sl.of_own S.wd (k := 3) rfl (fun _ => rfl) | exact Sl.of_own S.wd (k := 4) rfl (fun _ => rfl) | exact Sl.of_own S.wd (k := 5) rfl (fun _ => rfl) | exact Sl.of_own S.wd (k := 6) rfl (fun _ => rfl) | exact Sl.of_own S.wd (k := 7) rfl (fun _ => rfl) | exact Sl.of_own S.wd (k := 8) rfl (fun _ => rfl) | exact Sl.of_own S.wd (k := 9) rfl (fun _ => rfl) | exact Sl.of_own S.wd (k := 10) rfl (fun _ => rfl) | exact Sl.of_own S.wd (k := 11) rfl (fun _ => rfl) | exact Sl.of_own S.wd (k := 12) rfl (fun _ => rfl) | exact Sl.of_own S.wd (k := 13) rfl (fun _ => rfl) | exact Sl.of_own S.wd (k := 14) rfl (fun _ => rfl) | (simp at *; omega))) rfl ?_) <;> clear S a w)
  rintro _ _ ⟨rfl, rfl⟩ a w S
  rw [rw_t] at S
  refine run S (.nt rfl <| .z) fun a w S => st_nil (then_normal (hK3 _ _ (st_else S (.t rfl) (wp_skip (in_normal (then_normal (hK2 _ _ (wp_region_lit (run S (.ad (by unfold I64; omega) rfl <| .z) fun a w S => ?_)))))))))
  rw [rw_5] at S
  refine run S (.mv rfl <| .z) fun a w S => st_nil (then_normal (st_round (sg S (.lt (by omega) rfl rfl <| .z) fun a w S => wp_seq_k fun _ hK2 => st_then S (.t rfl) (wp_skip (then_normal (hK2 _ _ (wp_seq_k fun _ hK2 => wp_block (wp_seq_k fun _ hK3 => wp_region_lit (run S (.yy (ys_ixS (j := 5) underlying187 sizeOf134 (.t rfl) (.t rfl) (fun _ => by omega)) rfl <| .la gt134 9 rfl rfl rfl <| .z) fun a w S => st_m (op_alloc S zeroValue134 (cs := _) rfl rfl fun g10 a w S => st_m (op_stW S sizeOf134 (.t rfl) (.t rfl) (k := 0) rfl rfl rfl (by simp [Value.oneCell']) fun a w S => st_nil (then_normal (hK3 _ _ (wp_seq_k fun _ hK3 => wp_region_lit (run S (.fa underlying134 sizeOf53 0 rfl rfl rfl <| .ld gt53 0 rfl rfl rfl <| .xx (ys_callVC (cs := [_, _]) (.t rfl) call99 .nil (fun hp w W => c99 _ _ _ _ _ _ _ _ _ (by exact Wd.cell W (k := 1) rfl rfl) (by exact Wd.cell W (k := 3) rfl rfl) (by exact Wd.cell W (k := 3) rfl rfl) (by exact Wd.cell W (k := 3) rfl rfl) (by exact .old W (by assumption)) (by exact .old W (by assumption)))) rfl <| .z) fun a w S => ?_)))))))))))))))
  rw [rw_g] at S
  refine run S (.nt rfl <| .z) fun a w S => st_nil (then_normal (hK3 _ _ (st_else S (.t rfl) (wp_skip (in_normal (then_normal (hK2 _ _ (wp_region_lit (run S (.ad (by unfold I64; omega) rfl <| .z) fun a w S => ?_)))))))))
  rw [rw_6] at S
  refine run S (.mv rfl <| .z) fun a w S => st_nil (then_normal (st_round (sg S (.ge (by omega) rfl rfl <| .z) fun a w S => wp_seq_k fun _ hK2 => st_else S (.t rfl) (wp_exit (then_exit (then_exit (in_here (then_normal (hK1 _ _ (sg S (.ac rfl <| .z) fun a w S => wp_ret (st_ret S (results1 S results87 (Rv.tmp rfl)) ?_)))))))))))
  rw [er]
  exact ⟨_, _, rfl, S.wd.pk, _, rfl, rfl, fun _ => rfl⟩
end Go.Proofs.YtakpdbmdfnialaaGreat
set_option linter.unusedVariables false
set_option linter.unusedSimpArgs false
set_option maxRecDepth 100000
set_option maxHeartbeats 4000000
namespace Go.Proofs.YtakpdbmdfnialaaGreat
open Go.Fw Go.Proofs Go.RowKit Go.Proofs.Tryz
theorem c34 (w0 : World) (v : Value) (l : List SCart) (p q : Int) (h : Sl SCart.enc 3 w0 w0.heap.size v l) (hc : CartsRd w0 l) :
    Calls Tryz.prog 34 #[v, .agg #[.int .i64 p, .int .i64 q]] w0 fun u w' => u = .returned (.tuple #[.agg (Dot.enc (readyG (l.map (·.1)) p q).1).toArray, .int .i64 (readyG (l.map (·.1)) p q).2]) ∧ Bel w0.heap.size w0 w' := by
  have hs := h
  obtain ⟨A, cap, rfl, hl, hcap, hA⟩ := h
  refine enter2 func34 rfl ntmps34 rfl fun a S => wp_seq_k fun _ hK1 => wp_region_lit (st_m (op_box1 S (.t rfl) rfl rfl fun g1 a w S => st_m (op_box S (.t rfl) rfl fun g2 a w S => st_m (op_alloc S zeroValue30 (cs := _) rfl rfl fun g3 a w S => run S (.ac rfl <| .z) fun a w S => st_nil (then_normal (hK1 _ _ (wp_seq_k fun _ hK1 => wp_region_lit (st_m (op_alloc S zeroValue40 (cs := _) rfl rfl fun g4 a w S => st_m (op_st S sizeOf40 (.t rfl) Ev.c (k := 0) rfl rfl (by simp) fun a w S => st_nil (then_normal (hK1 _ _ (wp_seq_k fun _ hK1 => wp_region_lit (run S (.fa underlying66 sizeOf3 0 rfl rfl rfl <| .ld gt3 2 rfl rfl rfl <| .fa underlying66 sizeOf3 1 rfl rfl rfl <| .ld gt3 2 rfl rfl rfl <| .yy (ys_bld (ps := [(0, Go.Operand.tmp 10), (1, Go.Operand.tmp 12)]) (us := [_, _, _]) bld30 (.cons (.t rfl) (.cons (.t rfl) .nil)) rfl) rfl <| .z) fun a w S => st_m (op_alloc S zeroValue30 (cs := _) rfl rfl fun g5 a w S => st_m (op_stW S sizeOf30 (.t rfl) (.t rfl) (k := 0) rfl rfl rfl (by simp [Value.oneCell']) fun a w S => st_nil (then_normal (hK1 _ _ (wp_seq_k fun _ hK1 => wp_region_lit (run S (.yy (ys_mkFunc (.cons (.t rfl) .nil)) rfl <| .z) fun a w S => ?_))))))))))))))))))))
  (refine st_m (op_calls S call88 (.cons (.t rfl) (.cons Ev.c .nil)) (c88 _ _ _ _) rfl ?_); clear S a w; rintro _ _ ⟨g6, rfl, rfl⟩ a w S)
  refine run S (.yy (ys_mkFunc (.cons (.t rfl) (.cons (.t rfl) .nil))) rfl <| .yy (ys_mkFunc (.cons (.t rfl) .nil)) rfl <| .yy (ys_bld (ps := [(0, Go.Operand.tmp 16), (1, Go.Operand.tmp 17)]) (us := [_, _]) bld134 (.cons (.t rfl) (.cons (.t rfl) .nil)) rfl) rfl <| .yy (ys_mkFunc (.cons (.t rfl) .nil)) rfl <| .z) fun a w S => ?_
  (refine st_m (op_calls S call88 (.cons (.t rfl) (.cons Ev.c .nil)) (c88 _ _ _ _) rfl ?_); clear S a w; rintro _ _ ⟨g7, rfl, rfl⟩ a w S)
  refine run S (.yy (ys_mkFunc (.cons (.t rfl) (.cons (.t rfl) .nil))) rfl <| .z) fun a w S => ?_
  (refine st_m (op_calls S call88 (.cons (.t rfl) (.cons Ev.c .nil)) (c88 _ _ _ _) rfl ?_); clear S a w; rintro _ _ ⟨g8, rfl, rfl⟩ a w S)
  refine run S (.yy (ys_mkFunc (.cons (.t rfl) (.cons (.t rfl) (.cons (.t rfl) .nil)))) rfl <| .z) fun a w S => ?_
  (refine st_m (op_calls S call88 (.cons (.t rfl) (.cons Ev.c .nil)) (c88 _ _ _ _) rfl ?_); clear S a w; rintro _ _ ⟨g9, rfl, rfl⟩ a w S)
  refine run S (.yy (ys_mkFunc (.cons (.t rfl) (.cons (.t rfl) .nil))) rfl <| .z) fun a w S => ?_
  (refine st_m (op_calls S call88 (.cons (.t rfl) (.cons Ev.c .nil)) (c88 _ _ _ _) rfl ?_); clear S a w; rintro _ _ ⟨g10, rfl, rfl⟩ a w S)
  refine st_m (op_bsliceZ (ps := [(0, Go.Operand.tmp 15), (1, Go.Operand.tmp 18), (2, Go.Operand.tmp 20), (3, Go.Operand.tmp 22), (4, Go.Operand.tmp 24), (5, Go.Operand.tmp 26)]) (us := [_, _, _, _, _, _, _, _, _, _, _, _]) S underlying187 sizeOf134 zeroValue134 rfl rfl (.cons (.t rfl) (.cons (.t rfl) (.cons (.t rfl) (.cons (.t rfl) (.cons (.t rfl) (.cons (.t rfl) .nil)))))) rfl rfl fun g11 a w S => ?_)
  (replace S := S.pull 1 rfl; try simp only [List.set_cons_zero, List.set_cons_succ, List.eraseIdx_cons_succ, List.eraseIdx_cons_zero] at S; replace S := S.pull 2 rfl; try simp only [List.set_cons_zero, List.set_cons_succ, List.eraseIdx_cons_succ, List.eraseIdx_cons_zero] at S; replace S := S.pull 3 rfl; try simp only [List.set_cons_zero, List.set_cons_succ, List.eraseIdx_cons_succ, List.eraseIdx_cons_zero] at S; replace S := S.pull 4 rfl; try simp only [List.set_cons_zero, List.set_cons_succ, List.eraseIdx_cons_succ, List.eraseIdx_cons_zero] at S; replace S := S.pull 5 rfl; try simp only [List.set_cons_zero, List.set_cons_succ, List.eraseIdx_cons_succ, List.eraseIdx_cons_zero] at S; replace S := S.pull 6 rfl; try simp only [List.set_cons_zero, List.set_cons_succ, List.eraseIdx_cons_succ, List.eraseIdx_cons_zero] at S; replace S := S.pull 7 rfl; try simp only [List.set_cons_zero, List.set_cons_succ, List.eraseIdx_cons_succ, List.eraseIdx_cons_zero] at S; replace S := S.pull 9 rfl; try simp only [List.set_cons_zero, List.set_cons_succ, List.eraseIdx_cons_succ, List.eraseIdx_cons_zero] at S; replace S := S.pull 10 rfl; try simp only [List.set_cons_zero, List.set_cons_succ, List.eraseIdx_cons_succ, List.eraseIdx_cons_zero] at S; replace S := S.pull 9 rfl; try simp only [List.set_cons_zero, List.set_cons_succ, List.eraseIdx_cons_succ, List.eraseIdx_cons_zero] at S; refine st_m (op_callO S call87 (.cons (.t rfl) .nil) (c87 S.wd (by first | assumption | omega | (dsimp only; omega) | exact Sl.nil_ | exact .old S.wd (by assumption) | exact Sl.of_own S.wd (k := 0) rfl (fun _ => rfl) | exact Sl.of_own S.wd (k := 1) rfl (fun _ => rfl) | exact Sl.of_own S.wd (k := 2) rfl (fun _ => rfl) | exact Sl.of_own S.wd (k := 3) rfl (fun _ => rfl) | exact Sl.of_own S.wd (k := 4) rfl (fun _ => rfl) | exact Sl.of_own S.wd (k := 5) rfl (fun _ => rfl) | exact Sl.of_own S.wd (k := 6) rfl (fun _ => rfl) | exact Sl.of_own S.wd (k := 7) rfl (fun _ => rfl) | exact Sl.of_own S.wd (k := 8) rfl (fun _ => rfl) | exact Sl.of_own S.wd (k := 9) rfl (fun _ => rfl) | exact Sl.of_own S.wd (k := 10) rfl (fun _ => rfl) | (simp at *; omega)) (by first | assumption | omega | (dsimp only; omega) | exact Sl.nil_ | exact .old S.wd (by assumption) | exact Sl.of_own S.wd (k := 0) rfl (fun _ => rfl) | exact Sl.of_own S.wd (k := 1) rfl (fun _ => rfl) | exact Sl.of_own S.wd (k := 2) rfl (fun _ => rfl) | exact Sl.of_own S.wd (k := 3) rfl (fun _ => rfl) | exact Sl.of_own S.wd (k := 4) rfl (fun _ => rfl) | exact Sl.of_own S.wd (k := 5) rfl (fun _ => rfl) | exact Sl.of_own S.wd (k := 6) rfl (fun _ => rfl) | exact Sl.of_own S.wd (k := 7) rfl (fun _ => rfl) | exact Sl.of_own S.wd (k := 8) rfl (fun _ => rfl) | exact Sl.of_own S.wd (k := 9) rfl (fun _ => rfl) | exact Sl.of_own S.wd (k := 10) rfl (fun _ => rfl) | (simp at *; omega))) rfl ?_) <;> clear S a w)
  rintro _ _ ⟨n1, rfl, rfl, hr1⟩ a w S
  refine run S (.as rfl <| .z) fun a w S => st_nil (then_normal (hK1 _ _ (wp_seq_k fun _ hK1 => sg S (.mv rfl <| .yy (ys_neq (.t rfl) Ev.c) rfl <| .z) fun a w S => ?_)))
  refine st_if S (.t rfl) (fun h1 => ?_) (fun h1 => ?_)
  refine wp_seq_k fun _ hK2 => wp_region_lit (run S (.yy (ys_bld (ps := []) (us := [_, _, _]) bld30 .nil rfl) rfl <| .mv rfl <| .z) fun a w S => st_m (op_stW S sizeOf30 (.t rfl) (.t rfl) (k := 1) rfl rfl rfl (by simp [Value.oneCell']) fun a w S => run S (.as rfl <| .z) fun a w S => st_nil (then_normal (hK2 _ _ (wp_ret (then_ret (st_ret S (results2 S results34 (Rv.cell (k := 1) ⟨isAgg30, sizeOf30⟩ rfl rfl rfl) (Rv.tmp rfl)) ?_)))))))
  rotate_left
  refine wp_skip (then_normal (hK1 _ _ (wp_seq_k fun _ hK1 => wp_region_lit (run S (.la gt30 0 rfl rfl rfl <| .z) fun a w S => st_m (op_stW S sizeOf30 (.t rfl) (.t rfl) (k := 1) rfl rfl rfl (by simp [Value.oneCell']) fun a w S => run S (.ac rfl <| .z) fun a w S => st_nil (then_normal (hK1 _ _ (wp_ret (st_ret S (results2 S results34 (Rv.cell (k := 1) ⟨isAgg30, sizeOf30⟩ rfl rfl rfl) (Rv.tmp rfl)) ?_)))))))))
  rotate_left
  · refine ⟨?_, S.wd.below⟩
    rw [ready_zero h1]
  · have h2 := Decidable.not_not.1 h1
    refine ⟨?_, S.wd.below⟩
    rw [hr1 h2, h2]
theorem c35 (w0 : World) (v : Value) (l : List SCart) (p q : Int) (h : Sl SCart.enc 3 w0 w0.heap.size v l) (hc : CartsRd w0 l) :
    Calls Tryz.prog 35 #[v, .agg #[.int .i64 p, .int .i64 q]] w0 fun u w' => u = .returned (.tuple #[.agg (Dot.enc (readyG (l.map (·.1)) p q).1).toArray, .int .i64 (readyG (l.map (·.1)) p q).2]) ∧ Bel w0.heap.size w0 w' := by
  have hs := h
  obtain ⟨A, cap, rfl, hl, hcap, hA⟩ := h
  cases hm : mayD ⟨p, q, 1⟩ with
  | false =>
    have rw_m := hm
    refine enter2 func35 rfl ntmps35 rfl fun a S => wp_seq_k fun _ hK1 => wp_region_lit (st_m (op_box S (.t rfl) rfl fun g1 a w S => st_m (op_alloc S zeroValue30 (cs := _) rfl rfl fun g2 a w S => run S (.ac rfl <| .z) fun a w S => st_nil (then_normal (hK1 _ _ (wp_seq_k fun _ hK1 => wp_seq_k fun _ hK2 => wp_region_lit (run S (.fa underlying66 sizeOf3 0 rfl rfl rfl <| .ld gt3 1 rfl rfl rfl <| .fa underlying66 sizeOf3 1 rfl rfl rfl <| .ld gt3 1 rfl rfl rfl <| .xx (ys_call call61 (.cons (.t rfl) (.cons (.t rfl) .nil)) (fun hp w W => c61 _ _ _)) rfl <| .z) fun a w S => ?_)))))))
    rw [rw_m] at S
    refine run S (.nt rfl <| .z) fun a w S => st_nil (then_normal (hK2 _ _ (st_then S (.t rfl) (wp_seq_k fun _ hK2 => wp_region_lit (run S (.yy (ys_bld (ps := []) (us := [_, _, _]) bld30 .nil rfl) rfl <| .z) fun a w S => st_m (op_stW S sizeOf30 (.t rfl) (.t rfl) (k := 0) rfl rfl rfl (by simp [Value.oneCell']) fun a w S => run S (.ac rfl <| .z) fun a w S => st_nil (then_normal (hK2 _ _ (wp_ret (then_ret (st_ret S (results2 S results35 (Rv.cell (k := 0) ⟨isAgg30, sizeOf30⟩ rfl rfl rfl) (Rv.tmp rfl)) ?_)))))))))))
    rw [ready_may hm]
    exact ⟨rfl, S.wd.below⟩
  | true =>
  have rw_m := hm
  refine enter2 func35 rfl ntmps35 rfl fun a S => wp_seq_k fun _ hK1 => wp_region_lit (st_m (op_box S (.t rfl) rfl fun g1 a w S => st_m (op_alloc S zeroValue30 (cs := _) rfl rfl fun g2 a w S => run S (.ac rfl <| .z) fun a w S => st_nil (then_normal (hK1 _ _ (wp_seq_k fun _ hK1 => wp_seq_k fun _ hK2 => wp_region_lit (run S (.fa underlying66 sizeOf3 0 rfl rfl rfl <| .ld gt3 1 rfl rfl rfl <| .fa underlying66 sizeOf3 1 rfl rfl rfl <| .ld gt3 1 rfl rfl rfl <| .xx (ys_call call61 (.cons (.t rfl) (.cons (.t rfl) .nil)) (fun hp w W => c61 _ _ _)) rfl <| .z) fun a w S => ?_)))))))
  rw [rw_m] at S
  refine run S (.nt rfl <| .z) fun a w S => st_nil (then_normal (hK2 _ _ (st_else S (.t rfl) (wp_skip (then_normal (hK1 _ _ (wp_seq_k fun _ hK1 => sg S (.ac rfl <| .z) fun a w S => wp_block ?_)))))))
  refine st_lpM S [6, 7] (X := Nat) (fun i => [(6, true, .int .i64 (i : Int))]) (fun _ => [.blk g2 (.cells #[.int .i64 0, .int .i64 0, .int .i64 0] 30), .blk g1 (.cells #[.int .i64 p, .int .i64 q] 66)]) (fun i => i ≤ l.length ∧ ∀ x ∈ (l.map (·.1)).take i, canE x = 0) (fun i => l.length - i) 0 ⟨Nat.zero_le _, by simp⟩ ?_
  clear S
  rintro i a w ⟨hi, hno⟩ S
  by_cases hlt : i < l.length
  · obtain ⟨gq, oq, x, rfl, hx, hd, hcx⟩ := row_at hA hlt
    have r1 := (hc x (List.mem_of_getElem? hx)).ents
    have r2 := (hc x (List.mem_of_getElem? hx)).ctx
    have e1 : (l.map (·.1))[i]? = some x.1 := by rw [List.getElem?_map, hx]; rfl
    have rw_i : IntKind.i64.wrap ((i : Int) + 1) = ((i + 1 : Nat) : Int) := by rw [IntKind.wrap_i64]; omega
    by_cases he : canE x.1 = 0
    · have rw_e := he
      refine wp_seq_k fun _ hK2 => sg S (.mv rfl <| .mv rfl <| .ln underlying64 rfl <| .lt (by omega) rfl rfl <| .z) fun a w S => st_then S (.t rfl) (wp_skip (then_normal (hK2 _ _ (wp_seq_k fun _ hK2 => wp_block (wp_seq_k fun _ hK3 => wp_region_lit (run S (.mv rfl <| .mv rfl <| .ix underlying64 sizeOf37 (by omega) rfl rfl <| .yy (ys_ldOA ⟨isAgg37, sizeOf37⟩ (.t rfl) (vs := [_, _, _]) rfl (fun _ => hcx)) rfl <| .xx (ys_call call32 (.cons (.t rfl) .nil) (fun hp w W => c32 _ _ _ _ _ (by exact .old W (by assumption)) (by exact .old W (by assumption)))) rfl <| .z) fun a w S => ?_))))))
      rw [rw_e] at S
      refine run S (.as rfl <| .z) fun a w S => st_nil (then_normal (hK3 _ _ (sg S (.mv rfl <| .yy (ys_F (by omega) (ys_neq (.t rfl) Ev.c)) rfl <| .z) fun a w S => st_else S (.t rfl) (wp_skip (in_normal (then_normal (hK2 _ _ (wp_region_lit (run S (.mv rfl <| .ad (by unfold I64; omega) rfl <| .as rfl <| .z) fun a w S => st_nil (then_normal ?_))))))))))
      refine ⟨i + 1, ⟨by omega, fun y hy => ?_⟩, by omega, S.pk⟩
      rw [List.take_add_one, e1, Option.toList_some, List.mem_append, List.mem_singleton] at hy
      rcases hy with hy | rfl
      · exact hno y hy
      · exact he
    · have rw_e : decide (canE x.1 = 0) = false := decide_eq_false he
      have eb := bad_at hno e1 he
      refine wp_seq_k fun _ hK2 => sg S (.mv rfl <| .mv rfl <| .ln underlying64 rfl <| .lt (by omega) rfl rfl <| .z) fun a w S => st_then S (.t rfl) (wp_skip (then_normal (hK2 _ _ (wp_seq_k fun _ hK2 => wp_block (sg S (.mv rfl <| .mv rfl <| .ix underlying64 sizeOf37 (by omega) rfl rfl <| .yy (ys_ldOA ⟨isAgg37, sizeOf37⟩ (.t rfl) (vs := [_, _, _]) rfl (fun _ => hcx)) rfl <| .xx (ys_call call32 (.cons (.t rfl) .nil) (fun hp w W => c32 _ _ _ _ _ (by exact .old W (by assumption)) (by exact .old W (by assumption)))) rfl <| .as rfl <| .z) fun a w S => sg S (.mv rfl <| .yy (ys_T (by omega) (ys_neq (.t rfl) Ev.c)) rfl <| .z) fun a w S => st_then S (.t rfl) (wp_seq_k fun _ hK3 => wp_region_lit (run S (.yy (ys_bld (ps := []) (us := [_, _, _]) bld30 .nil rfl) rfl <| .mv rfl <| .z) fun a w S => st_m (op_stW S sizeOf30 (.t rfl) (.t rfl) (k := 0) rfl rfl rfl (by simp [Value.oneCell']) fun a w S => run S (.as rfl <| .z) fun a w S => st_nil (then_normal (hK3 _ _ (wp_ret (in_ret (then_ret (then_ret (in_ret (then_ret (st_ret S (results2 S results35 (Rv.cell (k := 0) ⟨isAgg30, sizeOf30⟩ rfl rfl rfl) (Rv.tmp rfl)) ?_)))))))))))))))))
      rw [ready_bad hm (by rw [eb]; exact he), eb]
      exact ⟨rfl, S.wd.below⟩
  obtain rfl : i = l.length := by omega
  have eb : badG (l.map (·.1)) = 0 := bad_none fun c hc' => hno c (by rw [List.take_of_length_le (by simp)]; exact hc')
  clear hlt
  cases l with
  | nil =>
    refine wp_seq_k fun _ hK2 => sg S (.mv rfl <| .mv rfl <| .ln underlying64 rfl <| .ge (by omega) rfl rfl <| .z) fun a w S => st_else S (.t rfl) (wp_exit (then_exit (then_exit (in_here (then_normal (hK1 _ _ (wp_seq_k fun _ hK1 => sg S (.ac rfl <| .z) fun a w S => wp_block (st_rounds 1 (st_round (wp_seq_k fun _ hK3 => sg S (.mv rfl <| .mv rfl <| .ln underlying64 rfl <| .yy (ys_lss (.t rfl) (.t rfl)) rfl <| .z) fun a w S => st_else S (.t rfl) (wp_exit (then_exit (then_exit (in_here (then_normal (hK1 _ _ (wp_seq_k fun _ hK1 => sg S (.mv rfl <| .ln underlying64 rfl <| .yy (ys_eql (.t rfl) Ev.c) rfl <| .z) fun a w S => st_then S (.t rfl) (wp_seq_k fun _ hK4 => wp_region_lit (run S (.yy (ys_bld (ps := []) (us := [_, _, _]) bld30 .nil rfl) rfl <| .z) fun a w S => st_m (op_stW S sizeOf30 (.t rfl) (.t rfl) (k := 0) rfl rfl rfl (by simp [Value.oneCell']) fun a w S => run S (.ac rfl <| .z) fun a w S => st_nil (then_normal (hK4 _ _ (wp_ret (then_ret (st_ret S (results2 S results35 (Rv.cell (k := 0) ⟨isAgg30, sizeOf30⟩ rfl rfl rfl) (Rv.tmp rfl)) ?_)))))))))))))))))))))))))
    rw [ready_all hm eb rfl]
    exact ⟨rfl, S.wd.below⟩
  | cons c r =>
  obtain ⟨X, a1, n1, c1, a2, n2, c2, a3, n3, c3⟩ := c
  have hx := hc _ (List.mem_cons_self ..)
  have r1 := hx.ents
  have r2 := hx.ctx
  obtain ⟨A3, cap3, e3, hl3, hcap3, hA3⟩ := hx.cloud
  simp only [Value.slice.injEq] at e3
  obtain ⟨e31, e32, e33⟩ := e3
  subst e31 e32 e33
  dsimp only at hl3 hcap3 hA3
  have hlen : 0 < ((X, (⟨a1, n1, c1, a2, n2, c2, a3, X.ctx.cloud.length, c3⟩ : Sls3)) :: r : List SCart).length := by simp
  have hlc : ((X, (⟨a1, n1, c1, a2, n2, c2, a3, X.ctx.cloud.length, c3⟩ : Sls3)) :: r : List SCart).length = r.length + 1 := List.length_cons
  obtain ⟨gq, oq, y, rfl, hy, hd, hcc⟩ := row_at hA hlen
  obtain rfl : (X, (⟨a1, n1, c1, a2, n2, c2, a3, X.ctx.cloud.length, c3⟩ : Sls3)) = y := by simpa using hy
  have hctx : ∀ j u, [Value.slice a2 n2 c2, .slice a3 X.ctx.cloud.length c3][j]? = some u → w0.cell? ⟨gq, oq + 0 * 3 + 1 + j, none⟩ = some u := fun j u h => by
    have := hcc (j + 1) u (by simpa [SCart.enc] using h)
    rw [show oq + 0 * 3 + 1 + j = oq + 0 * 3 + (j + 1) by omega]
    exact this
  have hck : w0.cell? ⟨gq, oq + 0 * 3 + 1 + 1, none⟩ = some (.slice a3 X.ctx.cloud.length c3) := hctx 1 _ rfl
  refine wp_seq_k fun _ hK2 => sg S (.mv rfl <| .mv rfl <| .ln underlying64 rfl <| .ge (by omega) rfl rfl <| .z) fun a w S => st_else S (.t rfl) (wp_exit (then_exit (then_exit (in_here (then_normal (hK1 _ _ (wp_seq_k fun _ hK1 => sg S (.ac rfl <| .z) fun a w S => wp_block ?_)))))))
  refine st_lpM S [8] (X := Nat) (fun i => [(8, true, .int .i64 (i : Int))]) (fun _ => [.blk g2 (.cells #[.int .i64 0, .int .i64 0, .int .i64 0] 30), .blk g1 (.cells #[.int .i64 p, .int .i64 q] 66)]) (fun i => 1 ≤ i ∧ i ≤ r.length + 1 ∧ ∀ x ∈ (r.map (·.1)).take (i - 1), X = x) (fun i => r.length + 1 - i) 1 ⟨Nat.le_refl _, by omega, by simp⟩ ?_
  clear S
  rintro i a w ⟨h1i, hi, hsm⟩ S
  by_cases hlt : i < r.length + 1
  · obtain ⟨gq', oq', x, e', hx', hd', hcx⟩ := row_at hA (show i < ((X, (⟨a1, n1, c1, a2, n2, c2, a3, X.ctx.cloud.length, c3⟩ : Sls3)) :: r).length by simpa using hlt)
    cases e'
    have hxr : r[i - 1]? = some x := by
      obtain ⟨k, rfl⟩ : ∃ k, i = k + 1 := ⟨i - 1, by omega⟩
      simpa using hx'
    have r3 := (hc x (List.mem_of_getElem? hx')).ents
    have r4 := (hc x (List.mem_of_getElem? hx')).ctx
    have e1 : (r.map (·.1))[i - 1]? = some x.1 := by rw [List.getElem?_map, hxr]; rfl
    have rw_i : IntKind.i64.wrap ((i : Int) + 1) = ((i + 1 : Nat) : Int) := by rw [IntKind.wrap_i64]; omega
    by_cases he : X = x.1
    · have rw_e := decide_eq_true he
      refine wp_seq_k fun _ hK3 => sg S (.mv rfl <| .mv rfl <| .ln underlying64 rfl <| .lt (by omega) rfl rfl <| .z) fun a w S => st_then S (.t rfl) (wp_skip (then_normal (hK3 _ _ (wp_seq_k fun _ hK3 => wp_block (wp_seq_k fun _ hK4 => st_quiet S (by kernel_rfl) (by kernel_rfl) fun a S => qrun S (.mv rfl <| .yy (ys_ixS (j := 0) underlying64 sizeOf37 (.t rfl) Ev.c (fun _ => by omega)) rfl <| .yy (ys_ldOA ⟨isAgg37, sizeOf37⟩ (.t rfl) (vs := [_, _, _]) rfl (fun _ => hcc)) rfl <| .mv rfl <| .mv rfl <| .ix underlying64 sizeOf37 (by omega) rfl rfl <| .yy (ys_ldOA ⟨isAgg37, sizeOf37⟩ (.t rfl) (vs := [_, _, _]) rfl (fun _ => hcx)) rfl <| .xx (ys_call call101 (.cons (.t rfl) (.cons (.t rfl) .nil)) (fun hp w W => c101 _ _ _ _ _ _ _ _ _ (by exact .old W (by assumption)) (by exact .old W (by assumption)) (by exact .old W (by assumption)) (by exact .old W (by assumption)))) rfl <| .z) fun a S => ?_)))))
      simp only [List.nil_append] at S
      rw [rw_e] at S
      refine qrun S (.nt rfl <| .z) fun a S => ?_
      (refine q_nil ?_; intro w W; replace S := St.mk S W; clear W)
      refine then_normal (hK4 _ _ (st_else S (.t rfl) (wp_skip (in_normal (then_normal (hK3 _ _ (wp_region_lit (run S (.mv rfl <| .ad (by unfold I64; omega) rfl <| .as rfl <| .z) fun a w S => st_nil (then_normal ?_)))))))))
      refine ⟨i + 1, ⟨by omega, by omega, fun y hy => ?_⟩, by omega, S.pk⟩
      rw [show i + 1 - 1 = (i - 1) + 1 by omega, List.take_add_one, e1, Option.toList_some, List.mem_append, List.mem_singleton] at hy
      rcases hy with hy | rfl
      · exact hsm y hy
      · exact he
    · have rw_e := decide_eq_false he
      have ha : allS ((X :: r.map (·.1))) = false := by
        unfold allS
        dsimp only
        rw [List.all_eq_false]
        exact ⟨x.1, List.mem_of_getElem? e1, by simpa using he⟩
      refine wp_seq_k fun _ hK3 => sg S (.mv rfl <| .mv rfl <| .ln underlying64 rfl <| .lt (by omega) rfl rfl <| .z) fun a w S => st_then S (.t rfl) (wp_skip (then_normal (hK3 _ _ (wp_seq_k fun _ hK3 => wp_block (wp_seq_k fun _ hK4 => st_quiet S (by kernel_rfl) (by kernel_rfl) fun a S => qrun S (.mv rfl <| .yy (ys_ixS (j := 0) underlying64 sizeOf37 (.t rfl) Ev.c (fun _ => by omega)) rfl <| .yy (ys_ldOA ⟨isAgg37, sizeOf37⟩ (.t rfl) (vs := [_, _, _]) rfl (fun _ => hcc)) rfl <| .mv rfl <| .mv rfl <| .ix underlying64 sizeOf37 (by omega) rfl rfl <| .yy (ys_ldOA ⟨isAgg37, sizeOf37⟩ (.t rfl) (vs := [_, _, _]) rfl (fun _ => hcx)) rfl <| .xx (ys_call call101 (.cons (.t rfl) (.cons (.t rfl) .nil)) (fun hp w W => c101 _ _ _ _ _ _ _ _ _ (by exact .old W (by assumption)) (by exact .old W (by assumption)) (by exact .old W (by assumption)) (by exact .old W (by assumption)))) rfl <| .z) fun a S => ?_)))))
      simp only [List.nil_append] at S
      rw [rw_e] at S
      refine qrun S (.nt rfl <| .z) fun a S => ?_
      (refine q_nil ?_; intro w W; replace S := St.mk S W; clear W)
      refine then_normal (hK4 _ _ (st_then S (.t rfl) (wp_seq_k fun _ hK4 => wp_region_lit (run S (.yy (ys_bld (ps := []) (us := [_, _, _]) bld30 .nil rfl) rfl <| .z) fun a w S => st_m (op_stW S sizeOf30 (.t rfl) (.t rfl) (k := 0) rfl rfl rfl (by simp [Value.oneCell']) fun a w S => run S (.ac rfl <| .z) fun a w S => st_nil (then_normal (hK4 _ _ (wp_ret (in_ret (then_ret (then_ret (in_ret (then_ret (st_ret S (results2 S results35 (Rv.cell (k := 0) ⟨isAgg30, sizeOf30⟩ rfl rfl rfl) (Rv.tmp rfl)) ?_))))))))))))))
      rw [List.map_cons]
      dsimp only
      rw [ready_all (l := X :: r.map (fun x : SCart => x.1)) hm eb ha]
      exact ⟨rfl, S.wd.below⟩
  obtain rfl : i = r.length + 1 := by omega
  have ha : allS (X :: r.map (·.1)) = true := by
    unfold allS
    dsimp only
    rw [List.all_eq_true]
    intro x hx
    exact decide_eq_true (hsm x (by rw [List.take_of_length_le (by simp)]; exact hx))
  clear hlt hsm
  have er := ready_rest (c := X) (r := r.map (fun x : SCart => x.1)) hm eb ha
  have hcan : canL X.ctx = true := can_ctx (bad_can eb X (by simp))
  cases hlv : livesK X p q with
  | true =>
    have rw_lv : (X.ents.any fun x => decide (x.dot.node = p ∧ x.dot.life = q)) = true := hlv
    rw [if_pos hlv] at er
    refine wp_seq_k fun _ hK3 => sg S (.mv rfl <| .mv rfl <| .ln underlying64 rfl <| .ge (by omega) rfl rfl <| .z) fun a w S => st_else S (.t rfl) (wp_exit (then_exit (then_exit (in_here (then_normal (hK1 _ _ (wp_seq_k fun _ hK1 => sg S (.mv rfl <| .ln underlying64 rfl <| .yy (ys_F (by omega) (ys_eql (.t rfl) Ev.c)) rfl <| .z) fun a w S => st_else S (.t rfl) (wp_skip (then_normal (hK1 _ _ (wp_seq_k fun _ hK1 => wp_seq_k fun _ hK4 => st_quiet S (by kernel_rfl) (by kernel_rfl) fun a S => qrun S (.mv rfl <| .yy (ys_ixS (j := 0) underlying64 sizeOf37 (.t rfl) Ev.c (fun _ => by omega)) rfl <| .yy (ys_ldOA ⟨isAgg37, sizeOf37⟩ (.t rfl) (vs := [_, _, _]) rfl (fun _ => hcc)) rfl <| .la gt66 1 rfl rfl rfl <| .xx (ys_call call102 (.cons (.t rfl) (.cons (.t rfl) .nil)) (fun hp w W => c102 _ _ _ _ _ _ _ _ _ _ _ (by exact .old W (by assumption)))) rfl <| .z) fun a S => ?_)))))))))))
    simp only [List.nil_append] at S
    rw [rw_lv] at S
    (refine q_nil ?_; intro w W; replace S := St.mk S W; clear W)
    refine then_normal (hK4 _ _ (st_then S (.t rfl) (wp_seq_k fun _ hK4 => wp_region_lit (run S (.yy (ys_bld (ps := []) (us := [_, _, _]) bld30 .nil rfl) rfl <| .z) fun a w S => st_m (op_stW S sizeOf30 (.t rfl) (.t rfl) (k := 0) rfl rfl rfl (by simp [Value.oneCell']) fun a w S => run S (.ac rfl <| .z) fun a w S => st_nil (then_normal (hK4 _ _ (wp_ret (then_ret (st_ret S (results2 S results35 (Rv.cell (k := 0) ⟨isAgg30, sizeOf30⟩ rfl rfl rfl) (Rv.tmp rfl)) ?_))))))))))
    rw [List.map_cons]
    dsimp only
    rw [er]
    exact ⟨rfl, S.wd.below⟩
  | false =>
  have rw_lv : (X.ents.any fun x => decide (x.dot.node = p ∧ x.dot.life = q)) = false := hlv
  rw [if_neg (by rw [hlv]; simp)] at er
  by_cases ht : X.ctx.top p q = 0
  · have rw_t := ht
    rw [if_pos ht] at er
    refine wp_seq_k fun _ hK3 => sg S (.mv rfl <| .mv rfl <| .ln underlying64 rfl <| .ge (by omega) rfl rfl <| .z) fun a w S => st_else S (.t rfl) (wp_exit (then_exit (then_exit (in_here (then_normal (hK1 _ _ (wp_seq_k fun _ hK1 => sg S (.mv rfl <| .ln underlying64 rfl <| .yy (ys_F (by omega) (ys_eql (.t rfl) Ev.c)) rfl <| .z) fun a w S => st_else S (.t rfl) (wp_skip (then_normal (hK1 _ _ (wp_seq_k fun _ hK1 => wp_seq_k fun _ hK4 => st_quiet S (by kernel_rfl) (by kernel_rfl) fun a S => qrun S (.mv rfl <| .yy (ys_ixS (j := 0) underlying64 sizeOf37 (.t rfl) Ev.c (fun _ => by omega)) rfl <| .yy (ys_ldOA ⟨isAgg37, sizeOf37⟩ (.t rfl) (vs := [_, _, _]) rfl (fun _ => hcc)) rfl <| .la gt66 1 rfl rfl rfl <| .xx (ys_call call102 (.cons (.t rfl) (.cons (.t rfl) .nil)) (fun hp w W => c102 _ _ _ _ _ _ _ _ _ _ _ (by exact .old W (by assumption)))) rfl <| .z) fun a S => ?_)))))))))))
    simp only [List.nil_append] at S
    rw [rw_lv] at S
    (refine q_nil ?_; intro w W; replace S := St.mk S W; clear W)
    refine then_normal (hK4 _ _ (st_else S (.t rfl) (wp_skip (then_normal (hK1 _ _ (wp_seq_k fun _ hK1 => st_quiet S (by kernel_rfl) (by kernel_rfl) fun a S => qrun S (.mv rfl <| .yy (ys_ixS (j := 0) underlying64 sizeOf37 (.t rfl) Ev.c (fun _ => by omega)) rfl <| .yy (ys_field (FieldT.mk underlying37 rfl sizeOf35 rfl) (.t rfl)) rfl <| .yy (ys_ldOA ⟨isAgg35, sizeOf35⟩ (.t rfl) (vs := [_, _]) rfl (fun _ => hctx)) rfl <| .la gt66 1 rfl rfl rfl <| .xx (ys_call call69 (.cons (.t rfl) (.cons (.t rfl) .nil)) (fun hp w W => c69 _ _ _ _ _ _ (by exact .old W (by assumption)))) rfl <| .z) fun a S => ?_))))))
    simp only [List.nil_append] at S
    rw [rw_t] at S
    refine qrun S (.as rfl <| .z) fun a S => ?_
    (refine q_nil ?_; intro w W; replace S := St.mk S W; clear W)
    refine then_normal (hK1 _ _ (wp_seq_k fun _ hK1 => sg S (.mv rfl <| .yy (ys_T (by omega) (ys_eql (.t rfl) Ev.c)) rfl <| .z) fun a w S => st_then S (.t rfl) (wp_seq_k fun _ hK4 => wp_region_lit (run S (.yy (ys_bld (ps := []) (us := [_, _, _]) bld30 .nil rfl) rfl <| .z) fun a w S => st_m (op_stW S sizeOf30 (.t rfl) (.t rfl) (k := 0) rfl rfl rfl (by simp [Value.oneCell']) fun a w S => run S (.ac rfl <| .z) fun a w S => st_nil (then_normal (hK4 _ _ (wp_ret (then_ret (st_ret S (results2 S results35 (Rv.cell (k := 0) ⟨isAgg30, sizeOf30⟩ rfl rfl rfl) (Rv.tmp rfl)) ?_))))))))))
    rw [List.map_cons]
    dsimp only
    rw [er]
    exact ⟨rfl, S.wd.below⟩
  have rw_t : decide (X.ctx.top p q = 0) = false := decide_eq_false ht
  rw [if_neg ht] at er
  refine wp_seq_k fun _ hK3 => sg S (.mv rfl <| .mv rfl <| .ln underlying64 rfl <| .ge (by omega) rfl rfl <| .z) fun a w S => st_else S (.t rfl) (wp_exit (then_exit (then_exit (in_here (then_normal (hK1 _ _ (wp_seq_k fun _ hK1 => sg S (.mv rfl <| .ln underlying64 rfl <| .yy (ys_F (by omega) (ys_eql (.t rfl) Ev.c)) rfl <| .z) fun a w S => st_else S (.t rfl) (wp_skip (then_normal (hK1 _ _ (wp_seq_k fun _ hK1 => wp_seq_k fun _ hK4 => st_quiet S (by kernel_rfl) (by kernel_rfl) fun a S => qrun S (.mv rfl <| .yy (ys_ixS (j := 0) underlying64 sizeOf37 (.t rfl) Ev.c (fun _ => by omega)) rfl <| .yy (ys_ldOA ⟨isAgg37, sizeOf37⟩ (.t rfl) (vs := [_, _, _]) rfl (fun _ => hcc)) rfl <| .la gt66 1 rfl rfl rfl <| .xx (ys_call call102 (.cons (.t rfl) (.cons (.t rfl) .nil)) (fun hp w W => c102 _ _ _ _ _ _ _ _ _ _ _ (by exact .old W (by assumption)))) rfl <| .z) fun a S => ?_)))))))))))
  simp only [List.nil_append] at S
  rw [rw_lv] at S
  (refine q_nil ?_; intro w W; replace S := St.mk S W; clear W)
  refine then_normal (hK4 _ _ (st_else S (.t rfl) (wp_skip (then_normal (hK1 _ _ (wp_seq_k fun _ hK1 => st_quiet S (by kernel_rfl) (by kernel_rfl) fun a S => qrun S (.mv rfl <| .yy (ys_ixS (j := 0) underlying64 sizeOf37 (.t rfl) Ev.c (fun _ => by omega)) rfl <| .yy (ys_field (FieldT.mk underlying37 rfl sizeOf35 rfl) (.t rfl)) rfl <| .yy (ys_ldOA ⟨isAgg35, sizeOf35⟩ (.t rfl) (vs := [_, _]) rfl (fun _ => hctx)) rfl <| .la gt66 1 rfl rfl rfl <| .xx (ys_call call69 (.cons (.t rfl) (.cons (.t rfl) .nil)) (fun hp w W => c69 _ _ _ _ _ _ (by exact .old W (by assumption)))) rfl <| .z) fun a S => ?_))))))
  simp only [List.nil_append] at S
  refine qrun S (.as rfl <| .z) fun a S => ?_
  (refine q_nil ?_; intro w W; replace S := St.mk S W; clear W)
  refine then_normal (hK1 _ _ (wp_seq_k fun _ hK1 => sg S (.mv rfl <| .yy (ys_F (by omega) (ys_eql (.t rfl) Ev.c)) rfl <| .z) fun a w S => st_else S (.t rfl) (wp_skip (then_normal (hK1 _ _ (wp_seq_k fun _ hK1 => sg S (.ac rfl <| .z) fun a w S => wp_block ?_))))))
  refine st_lpM S [10, 11] (X := Nat) (fun i => [(10, true, .int .i64 (i : Int))]) (fun _ => [.blk g2 (.cells #[.int .i64 0, .int .i64 0, .int .i64 0] 30), .blk g1 (.cells #[.int .i64 p, .int .i64 q] 66)]) (fun i => i ≤ X.ctx.cloud.length ∧ ∀ d ∈ X.ctx.cloud.take i, ¬ (d.node = p ∧ d.life = q)) (fun i => X.ctx.cloud.length - i) 0 ⟨Nat.zero_le _, by simp⟩ ?_
  clear S
  rintro i a w ⟨hi, hng⟩ S
  by_cases hlt : i < X.ctx.cloud.length
  · obtain ⟨gd, od, d, rfl, hd3, hd4, hcd⟩ := row_at hA3 hlt
    have rw_i : IntKind.i64.wrap ((i : Int) + 1) = ((i + 1 : Nat) : Int) := by rw [IntKind.wrap_i64]; omega
    by_cases he : d.node = p ∧ d.life = q
    · have rw_e : (decide (d.node = p) && decide (d.life = q)) = true := by simp [he.1, he.2]
      rw [if_pos (List.any_eq_true.2 ⟨d, List.mem_of_getElem? hd3, decide_eq_true he⟩)] at er
      refine wp_seq_k fun _ hK4 => sg S (.mv rfl <| .mv rfl <| .yy (ys_ixS (j := 0) underlying64 sizeOf37 (.t rfl) Ev.c (fun _ => by omega)) rfl <| .yy (ys_field (FieldT.mk underlying37 rfl sizeOf35 rfl) (.t rfl)) rfl <| .yy (ys_field (FieldT.mk underlying35 rfl sizeOf33 rfl) (.t rfl)) rfl <| .yy (ys_ldO ⟨isAgg33, sizeOf33⟩ (.t rfl) (fun _ => hctx _ _ rfl)) rfl <| .ln underlying33 rfl <| .lt (by omega) rfl rfl <| .z) fun a w S => st_then S (.t rfl) (wp_skip (then_normal (hK4 _ _ (wp_seq_k fun _ hK4 => wp_block (wp_seq_k fun _ hK5 => wp_region_lit (run S (.mv rfl <| .yy (ys_ixS (j := 0) underlying64 sizeOf37 (.t rfl) Ev.c (fun _ => by omega)) rfl <| .yy (ys_field (FieldT.mk underlying37 rfl sizeOf35 rfl) (.t rfl)) rfl <| .yy (ys_field (FieldT.mk underlying35 rfl sizeOf33 rfl) (.t rfl)) rfl <| .yy (ys_ldO ⟨isAgg33, sizeOf33⟩ (.t rfl) (fun _ => hctx _ _ rfl)) rfl <| .mv rfl <| .ix underlying33 sizeOf74 (by omega) rfl rfl <| .yy (ys_ldOA ⟨isAgg74, sizeOf74⟩ (.t rfl) (vs := [_, _, _]) rfl (fun _ => hcd)) rfl <| .z) fun a w S => st_m (op_alloc S zeroValue74 (cs := _) rfl rfl fun g3 a w S => st_m (op_stW S sizeOf74 (.t rfl) (.t rfl) (k := 0) rfl rfl rfl (by simp [Value.oneCell']) fun a w S => st_nil (then_normal (hK5 _ _ (wp_seq_k fun _ hK5 => wp_region_lit ?_)))))))))))
      refine run S (.fa underlying74 sizeOf3 0 rfl rfl rfl <| .ld gt3 0 rfl rfl rfl <| .fa underlying66 sizeOf3 0 rfl rfl rfl <| .ld gt3 2 rfl rfl rfl <| .yy (ys_T (by omega) (ys_eql (.t rfl) (.t rfl))) rfl <| .mv rfl <| .gy rfl rfl (ys_fieldN (FieldT.mk underlying74 rfl sizeOf3 rfl) (.t rfl) (i' := 1) rfl) <| .gy rfl rfl (ys_ld ⟨isAgg3, sizeOf3⟩ (.t rfl) (k := 0) rfl rfl) <| .gy rfl rfl (ys_fieldN (FieldT.mk underlying66 rfl sizeOf3 rfl) (.t rfl) (i' := 1) rfl) <| .gy rfl rfl (ys_ld ⟨isAgg3, sizeOf3⟩ (.t rfl) (k := 2) rfl rfl) <| .gy rfl rfl (ys_T (by omega) (ys_eql (.t rfl) (.t rfl))) <| .yy (ys_pickT (.t rfl) (.t rfl)) rfl <| .z) fun a w S => st_nil (then_normal (hK5 _ _ (st_then S (.t rfl) (wp_seq_k fun _ hK5 => wp_region_lit (run S (.yy (ys_bld (ps := []) (us := [_, _, _]) bld30 .nil rfl) rfl <| .z) fun a w S => st_m (op_stW S sizeOf30 (.t rfl) (.t rfl) (k := 1) rfl rfl rfl (by simp [Value.oneCell']) fun a w S => run S (.ac rfl <| .z) fun a w S => st_nil (then_normal (hK5 _ _ (wp_ret (in_ret (then_ret (then_ret (in_ret (then_ret (st_ret S (results2 S results35 (Rv.cell (k := 1) ⟨isAgg30, sizeOf30⟩ rfl rfl rfl) (Rv.tmp rfl)) ?_)))))))))))))))
      rw [List.map_cons]
      dsimp only
      rw [er]
      exact ⟨rfl, S.wd.below⟩
    · have rw_e : (decide (d.node = p) && decide (d.life = q)) = false := by
        rw [Bool.eq_false_iff]
        intro h
        rw [Bool.and_eq_true, decide_eq_true_eq, decide_eq_true_eq] at h
        exact he h
      refine wp_seq_k fun _ hK4 => sg S (.mv rfl <| .mv rfl <| .yy (ys_ixS (j := 0) underlying64 sizeOf37 (.t rfl) Ev.c (fun _ => by omega)) rfl <| .yy (ys_field (FieldT.mk underlying37 rfl sizeOf35 rfl) (.t rfl)) rfl <| .yy (ys_field (FieldT.mk underlying35 rfl sizeOf33 rfl) (.t rfl)) rfl <| .yy (ys_ldO ⟨isAgg33, sizeOf33⟩ (.t rfl) (fun _ => hctx _ _ rfl)) rfl <| .ln underlying33 rfl <| .lt (by omega) rfl rfl <| .z) fun a w S => st_then S (.t rfl) (wp_skip (then_normal (hK4 _ _ (wp_seq_k fun _ hK4 => wp_block (wp_seq_k fun _ hK5 => wp_region_lit (run S (.mv rfl <| .yy (ys_ixS (j := 0) underlying64 sizeOf37 (.t rfl) Ev.c (fun _ => by omega)) rfl <| .yy (ys_field (FieldT.mk underlying37 rfl sizeOf35 rfl) (.t rfl)) rfl <| .yy (ys_field (FieldT.mk underlying35 rfl sizeOf33 rfl) (.t rfl)) rfl <| .yy (ys_ldO ⟨isAgg33, sizeOf33⟩ (.t rfl) (fun _ => hctx _ _ rfl)) rfl <| .mv rfl <| .ix underlying33 sizeOf74 (by omega) rfl rfl <| .yy (ys_ldOA ⟨isAgg74, sizeOf74⟩ (.t rfl) (vs := [_, _, _]) rfl (fun _ => hcd)) rfl <| .z) fun a w S => st_m (op_alloc S zeroValue74 (cs := _) rfl rfl fun g3 a w S => st_m (op_stW S sizeOf74 (.t rfl) (.t rfl) (k := 0) rfl rfl rfl (by simp [Value.oneCell']) fun a w S => st_nil (then_normal (hK5 _ _ (wp_seq_k fun _ hK5 => wp_region_lit ?_)))))))))))
      refine run S (.fa underlying74 sizeOf3 0 rfl rfl rfl <| .ld gt3 0 rfl rfl rfl <| .fa underlying66 sizeOf3 0 rfl rfl rfl <| .ld gt3 2 rfl rfl rfl <| .yy (ys_eql (.t rfl) (.t rfl)) rfl <| .mv rfl <| .z) fun a w S => st_yg S rfl rfl (Yr.ys (ys_fieldN (FieldT.mk underlying74 rfl sizeOf3 rfl) (.t rfl) (i' := 1) rfl)) rfl fun a w S => st_yg S rfl rfl (Yr.ys (ys_ld ⟨isAgg3, sizeOf3⟩ (Ev.g rfl) (k := 0) rfl rfl)) rfl fun a w S => st_yg S rfl rfl (Yr.ys (ys_fieldN (FieldT.mk underlying66 rfl sizeOf3 rfl) (.t rfl) (i' := 1) rfl)) rfl fun a w S => st_yg S rfl rfl (Yr.ys (ys_ld ⟨isAgg3, sizeOf3⟩ (Ev.g rfl) (k := 2) rfl rfl)) rfl fun a w S => st_yg S rfl rfl (Yr.ys (ys_eql (Ev.g rfl) (Ev.g rfl))) rfl fun a w S => run S (.yy (ys_and (.t rfl) (Ev.g rfl) Ev.c) rfl <| .z) fun a w S => ?_
      rw [rw_e] at S
      refine st_nil (then_normal (hK5 _ _ (st_else S (.t rfl) (wp_skip (in_normal (then_normal (hK4 _ _ (wp_region_lit (run S (.mv rfl <| .ad (by unfold I64; omega) rfl <| .as rfl <| .z) fun a w S => st_nil (then_normal ?_))))))))))
      refine ⟨i + 1, ⟨by omega, fun y hy => ?_⟩, by omega, S.pk⟩
      rw [List.take_add_one, hd3, Option.toList_some, List.mem_append, List.mem_singleton] at hy
      rcases hy with hy | rfl
      · exact hng y hy
      · exact he
  obtain rfl : i = X.ctx.cloud.length := by omega
  rw [List.take_length] at hng
  rw [if_neg (by rw [Bool.not_eq_true, List.any_eq_false]; exact fun d hd h => hng d hd (of_decide_eq_true h))] at er
  refine wp_seq_k fun _ hK4 => sg S (.mv rfl <| .mv rfl <| .yy (ys_ixS (j := 0) underlying64 sizeOf37 (.t rfl) Ev.c (fun _ => by omega)) rfl <| .yy (ys_field (FieldT.mk underlying37 rfl sizeOf35 rfl) (.t rfl)) rfl <| .yy (ys_field (FieldT.mk underlying35 rfl sizeOf33 rfl) (.t rfl)) rfl <| .yy (ys_ldO ⟨isAgg33, sizeOf33⟩ (.t rfl) (fun _ => hctx _ _ rfl)) rfl <| .ln underlying33 rfl <| .ge (by omega) rfl rfl <| .z) fun a w S => st_else S (.t rfl) (wp_exit (then_exit (then_exit (in_here (then_normal (hK1 _ _ (wp_seq_k fun _ hK1 => wp_region_lit (run S (.fa underlying66 sizeOf3 0 rfl rfl rfl <| .ld gt3 1 rfl rfl rfl <| .fa underlying66 sizeOf3 1 rfl rfl rfl <| .ld gt3 1 rfl rfl rfl <| .mv rfl <| .yy (ys_bld (ps := [(0, Go.Operand.tmp 101), (1, Go.Operand.tmp 103), (2, Go.Operand.tmp 104)]) (us := [_, _, _]) bld30 (.cons (.t rfl) (.cons (.t rfl) (.cons (.t rfl) .nil))) rfl) rfl <| .z) fun a w S => st_m (op_stW S sizeOf30 (.t rfl) (.t rfl) (k := 0) rfl rfl rfl (by simp [Value.oneCell']) fun a w S => run S (.ac rfl <| .z) fun a w S => st_nil (then_normal (hK1 _ _ (wp_ret (st_ret S (results2 S results35 (Rv.cell (k := 0) ⟨isAgg30, sizeOf30⟩ rfl rfl rfl) (Rv.tmp rfl)) ?_)))))))))))))
  rw [List.map_cons]
  dsimp only
  rw [er]
  exact ⟨rfl, S.wd.below⟩
end Go.Proofs.YtakpdbmdfnialaaGreat
set_option linter.unusedVariables false
set_option linter.unusedSimpArgs false
namespace Go.Fw
open Go.RowKit
def Wants (ops : Array Oper) (K : KL) : Option (Nat × Bool) → Prop
  | none => True
  | some (j, p) => ∃ t, (ops[j]?).bind (·.dst) = some t ∧ look K t = some (true, .bool p)
section
variable {P : Program} {Q : Exit → Act → World → Prop} {n : Nat} {w0 : World} {K : KL} {L Lr : List Chunk} {a : Act} {w : World} {ops : Array Oper} {fuel : Nat} {listed : Array Bool} {md : Region.Mode}
theorem h_pick {i : Nat} {d : Option Tmp} {op : Op} {ty : TypeId} {pos : String} {aft : Array Edge} {g : Option (Nat × Bool)} (S : St n w0 K L a w) (hi : ops[i]? = some ⟨d, op, ty, pos, aft, g⟩) (hw : Wants ops K g)
    (h : Oper.wp P ⟨d, op, ty, pos, aft, g⟩ a w (fun a' w' => Wd w0 Lr w' ∧ wpAnyH P md ops Q (Wd w0 Lr) fuel (listed.setIfInBounds i true) a' w') Q) : wpOp P ops Q i (fun a' w' => Wd w0 Lr w' ∧ wpAnyH P md ops Q (Wd w0 Lr) fuel (listed.setIfInBounds i true) a' w') a w := by
  cases g with
  | none =>
    unfold wpOp
    simp only [hi, Region.wanted, if_true]
    exact .inl h
  | some g =>
    obtain ⟨j, p⟩ := g
    obtain ⟨t, hj, hl⟩ := hw
    have hyd := yielded_of S.kn hj hl
    unfold wpOp
    simp only [hi, Region.wanted, hyd, cond_true]
    simpa using Or.inl h
theorem h_splitw {i j : Nat} {di dj : Option Tmp} {opi opj : Op} {tyi tyj : TypeId} {posi posj : String} {ai aj : Array Edge} {gi gj : Option (Nat × Bool)} (S : St n w0 K L a w) (hr : Region.ready md ops listed = [i, j]) (hi : ops[i]? = some ⟨di, opi, tyi, posi, ai, gi⟩) (hj : ops[j]? = some ⟨dj, opj, tyj, posj, aj, gj⟩)
    (wi : Wants ops K gi) (wj : Wants ops K gj)
    (h1 : Oper.wp P ⟨di, opi, tyi, posi, ai, gi⟩ a w (fun a' w' => Wd w0 Lr w' ∧ wpAnyH P md ops Q (Wd w0 Lr) fuel (listed.setIfInBounds i true) a' w') Q)
    (h2 : Oper.wp P ⟨dj, opj, tyj, posj, aj, gj⟩ a w (fun a' w' => Wd w0 Lr w' ∧ wpAnyH P md ops Q (Wd w0 Lr) fuel (listed.setIfInBounds j true) a' w') Q) : wpAnyH P md ops Q (Wd w0 Lr) (fuel + 1) listed a w :=
  wpAnyH_all hr (by simp) fun k hk => by
    simp only [List.mem_cons, List.not_mem_nil, or_false] at hk
    rcases hk with rfl | rfl
    · exact h_pick S hi wi h1
    · exact h_pick S hj wj h2
end
end Go.Fw
set_option linter.unusedVariables false
set_option linter.unusedSimpArgs false
set_option maxRecDepth 100000
set_option maxHeartbeats 4000000
namespace Go.Fw
open Go.RowKit
theorem freeze_cart {w0 w w1 : World} {L : List Chunk} {bs : List Nat} {e1 e2 e3 : TypeId} {A1 A2 A3 : Option Addr} {c1 c2 c3 : Nat} {X : Cart}
    (W : Wd w0 (rowOf e1 6 Ent.enc A1 c1 X.ents :: rowOf e2 3 Dot.enc A2 c2 X.ctx.marks :: rowOf e3 3 Dot.enc A3 c3 X.ctx.cloud :: .ice w1 bs :: L) w) :
    ∃ bs', Wd w0 (.ice w bs' :: L) w ∧ CartIn w bs' X ⟨A1, X.ents.length, c1, A2, X.ctx.marks.length, c2, A3, X.ctx.cloud.length, c3⟩ ∧ ∀ Y t, CartIn w1 bs Y t → CartIn w bs' Y t := by
  have W1 := Wd.freeze (cs := [rowOf e1 6 Ent.enc A1 c1 X.ents, rowOf e2 3 Dot.enc A2 c2 X.ctx.marks, rowOf e3 3 Dot.enc A3 c3 X.ctx.cloud, .ice w1 bs]) W
  generalize hcs0 : [rowOf e1 6 Ent.enc A1 c1 X.ents, rowOf e2 3 Dot.enc A2 c2 X.ctx.marks, rowOf e3 3 Dot.enc A3 c3 X.ctx.cloud, .ice w1 bs] = cs0 at W1
  have hblk : ∀ (k : Nat) (c : Chunk), cs0[k]? = some c → ∀ b ∈ c.blocks, b ∈ cs0.flatMap Chunk.blocks := fun k c hk b hb => List.mem_flatMap.2 ⟨c, List.mem_of_getElem? hk, hb⟩
  refine ⟨_, W1, ⟨SlIn.row W (k := 0) rfl (fun _ => rfl) (hblk 0 _ (by rw [← hcs0]; rfl)), SlIn.row W (k := 1) rfl (fun _ => rfl) (hblk 1 _ (by rw [← hcs0]; rfl)), SlIn.row W (k := 2) rfl (fun _ => rfl) (hblk 2 _ (by rw [← hcs0]; rfl))⟩, fun Y t h => h.anew W (k := 3) rfl (hblk 3 (.ice w1 bs) (by rw [← hcs0]; rfl))⟩
def SmallC (l : List SCart) : Prop := ∀ x ∈ l, x.1.ents.length ≤ 1048576 ∧ x.1.ctx.marks.length ≤ 1048576 ∧ x.1.ctx.cloud.length ≤ 1048576
theorem map_take_snoc {s l : List SCart} {i : Nat} {x : SCart} {t : Sls3} (h : s.map (·.1) = (l.map (·.1)).take i) (hx : l[i]? = some x) : (s ++ [(x.1, t)]).map (·.1) = (l.map (·.1)).take (i + 1) := by
  rw [List.map_append, h, List.take_add_one, List.getElem?_map, hx]
  rfl
def C013 : Cart := ⟨[], ⟨[⟨0, 1, 3⟩], []⟩⟩
end Go.Fw
namespace Go.Proofs.YtakpdbmdfnialaaGreat
open Go.Fw Go.Proofs Go.RowKit Go.Proofs.Tryz
theorem c33 (w0 : World) (v : Value) (l : List SCart) (h : Sl SCart.enc 3 w0 w0.heap.size v l) (hc : CartsRd w0 l) (hb : SmallC l) (hn : l.length ≤ 1048576) :
    Rets Tryz.prog 33 #[v] w0 fun u L => ∃ A r s w1 bs, u = .slice A s.length r ∧ L = [rowOf 37 3 SCart.enc A r s, .ice w1 bs] ∧ s.map (·.1) = l.map (·.1) ∧ ∀ p ∈ s, CartIn w1 bs p.1 p.2 := by
  obtain ⟨A, cap, rfl, hl, hcap, hA⟩ := h
  unfold Go.Fw.Rets
  refine enter1 func33 rfl ntmps33 rfl fun a S => sg S (.ac rfl <| .z) fun a w S => sg S (.ac rfl <| .z) fun a w S => wp_seq_k fun _ hK1 => sg S (.mv rfl <| .ln underlying64 rfl <| .mc rfl <| .z) fun a w S => wp_block ?_
  replace S := S.nil_ 37 3 SCart.enc none
  replace S : St _ _ _ (.ice w0 [] :: _) _ _ := ⟨S.kn, S.wd.bare (fun b hb => by cases hb) (fun b hb => by cases hb)⟩
  refine st_lpM S [3, 8] (X := Nat × Option Addr × Nat × List SCart × World × List Nat) (fun q => [(3, true, .slice q.2.1 q.2.2.2.1.length q.2.2.1), (8, true, .int .i64 (q.1 : Int))])
    (fun q => [rowOf 37 3 SCart.enc q.2.1 q.2.2.1 q.2.2.2.1, .ice q.2.2.2.2.1 q.2.2.2.2.2]) (fun q => q.1 ≤ l.length ∧ q.2.2.2.1.map (·.1) = (l.map (·.1)).take q.1 ∧ ∀ p ∈ q.2.2.2.1, CartIn q.2.2.2.2.1 q.2.2.2.2.2 p.1 p.2) (fun q => l.length - q.1) (0, none, 0, [], w0, []) ⟨Nat.zero_le _, by simp, by simp⟩ ?_
  clear S
  rintro ⟨i, B, cB, s, w1, bs⟩ a w ⟨hi, hsm, hsi⟩ S
  dsimp only at hi hsm hsi S
  have hsl : s.length = i := by
    have := congrArg List.length hsm
    rw [List.length_map, List.length_take, List.length_map] at this
    omega
  by_cases hlt : i < l.length
  · obtain ⟨gq, oq, x, rfl, hx, hd, hcx⟩ := row_at hA hlt
    have hxc := hc x (List.mem_of_getElem? hx)
    have r1 := hxc.ents
    have r2 := hxc.ctx
    obtain ⟨z1, z2, z3⟩ := hb x (List.mem_of_getElem? hx)
    refine sg S (.lt (by omega) rfl rfl <| .z) fun a w S => wp_seq_k fun _ hK2 => st_then S (.t rfl) (wp_skip (then_normal (hK2 _ _ (wp_seq_k fun _ hK2 => wp_block (wp_seq_k fun _ hK3 => wp_region_lit (run S (.ix underlying64 sizeOf37 (by omega) rfl rfl <| .yy (ys_ldOA ⟨isAgg37, sizeOf37⟩ (.t rfl) (vs := [_, _, _]) rfl (fun _ => hcx)) rfl <| .z) fun a w S => st_m (op_alloc S zeroValue37 (cs := _) rfl rfl fun g1 a w S => st_m (op_stW S sizeOf37 (.t rfl) (.t rfl) (k := 0) rfl rfl rfl (by simp [Value.oneCell']) fun a w S => st_nil (then_normal (hK3 _ _ (wp_region_lit (run S (.mv rfl <| .la gt37 0 rfl rfl rfl <| .z) fun a w S => ?_))))))))))))
    (refine st_m (op_calls S call16 (.cons (.t rfl) .nil) (c16 _ _ _ _ _ (by exact .old S.wd (by assumption)) (by exact .old S.wd (by assumption)) (by assumption) (by assumption) (by assumption)) rfl ?_); clear S a w; rintro _ _ ⟨A11, r11, A21, r21, A31, r31, rfl, rfl⟩ a w S)
    have e3 : #[Value.slice A11 x.1.ents.length r11, .slice A21 x.1.ctx.marks.length r21, .slice A31 x.1.ctx.cloud.length r31] = (SCart.enc (x.1, ⟨A11, x.1.ents.length, r11, A21, x.1.ctx.marks.length, r21, A31, x.1.ctx.cloud.length, r31⟩)).toArray := rfl
    rw [e3] at S
    refine st_m (op_bslice1 S underlying64 inf37 rfl rfl rfl (.t rfl) rfl rfl rfl fun g2 a w S => st_m (op_push S underlying64 inf37 rfl (k := 5) (j := 0) rfl (.t rfl) (.t rfl) rfl rfl rfl rfl (by first | omega | (simp only [List.length_append, List.length_cons, List.length_nil]; omega)) rfl rfl rfl fun A1 cap1 a w S => run S (.as rfl <| .z) fun a w S => st_nil (in_normal (then_normal (hK2 _ _ (wp_region_lit (run S (.ad (by unfold I64; omega) rfl <| .mv rfl <| .z) fun a w S => st_nil (then_normal ?_))))))))
    obtain ⟨bs', W1, n1, hold⟩ := freeze_cart (S.wd.picks (L' := [rowOf 100 6 Ent.enc A11 r11 x.1.ents, rowOf 30 3 Dot.enc A21 r21 x.1.ctx.marks, rowOf 74 3 Dot.enc A31 r31 x.1.ctx.cloud, .ice w1 bs, rowOf 37 3 SCart.enc A1 cap1 (s ++ [(x.1, (⟨A11, x.1.ents.length, r11, A21, x.1.ctx.marks.length, r21, A31, x.1.ctx.cloud.length, r31⟩ : Sls3))])]) (by repeat (first | exact Picks.nil | (refine Picks.rest ?_; (repeat (first | exact List.Sublist.refl _ | refine List.Sublist.cons_cons _ ?_ | refine List.Sublist.cons _ ?_)); done) | refine Picks.take 0 rfl ?_ | refine Picks.take 1 rfl ?_ | refine Picks.take 2 rfl ?_ | refine Picks.take 3 rfl ?_ | refine Picks.take 4 rfl ?_ | refine Picks.take 5 rfl ?_ | refine Picks.take 6 rfl ?_ | refine Picks.take 7 rfl ?_ | refine Picks.take 8 rfl ?_ | refine Picks.take 9 rfl ?_ | refine Picks.take 10 rfl ?_ | refine Picks.take 11 rfl ?_)))
    replace S := St.mk S.kn W1
    refine ⟨(i + 1, A1, cap1, s ++ [(x.1, (⟨A11, x.1.ents.length, r11, A21, x.1.ctx.marks.length, r21, A31, x.1.ctx.cloud.length, r31⟩ : Sls3))], _, bs'), ⟨by dsimp only; omega, map_take_snoc hsm hx, fun p hp => ?_⟩, by dsimp only; omega, S.pk⟩
    rcases List.mem_append.1 hp with hp | hp
    · exact hold _ _ (hsi p hp)
    · rw [List.mem_singleton.1 hp]; exact n1
  obtain rfl : i = l.length := by omega
  rw [List.take_of_length_le (by simp)] at hsm
  refine sg S (.ge (by omega) rfl rfl <| .z) fun a w S => wp_seq_k fun _ hK2 => st_else S (.t rfl) (wp_exit (then_exit (then_exit (in_here (then_normal (hK1 _ _ (sg S (.mv rfl <| .as rfl <| .z) fun a w S => wp_ret (st_ret S (results1 S results33 (Rv.tmp rfl)) ?_))))))))
  exact ⟨_, _, rfl, S.wd.pk, _, _, s, _, _, rfl, rfl, hsm, hsi⟩
theorem c74 (w0 : World) : Rets Tryz.prog 74 #[] w0 fun u L => ∃ g, u = .agg #[.slice none 0 0, .slice (some ⟨g, 0, none⟩) 1 1, .slice none 0 0] ∧ L = [.blk g (.cells #[.int .i64 0, .int .i64 1, .int .i64 3] 30)] := by
  unfold Go.Fw.Rets
  refine enter0 func74 rfl ntmps74 rfl fun a S => wp_seq_k fun _ hK1 => wp_region_lit (st_m (op_alloc S zeroValue37 (cs := _) rfl rfl fun g1 a w S => st_nil (then_normal (hK1 _ _ (wp_seq_k fun _ hK1 => wp_region_lit (run S (.yy (ys_bld (ps := [(0, _), (1, _), (2, _)]) (us := [_, _, _]) bld30 (.cons Ev.c (.cons Ev.c (.cons Ev.c .nil))) rfl) rfl <| .z) fun a w S => st_m (op_bslice1 S underlying32 inf30 rfl rfl rfl (.t rfl) rfl rfl rfl fun g2 a w S => run S (.yy (ys_bld (ps := [(0, Go.Operand.tmp 2)]) (us := [_, _]) bld35 (.cons (.t rfl) .nil) rfl) rfl <| .yy (ys_bld (ps := [(1, Go.Operand.tmp 3)]) (us := [_, _, _]) bld37 (.cons (.t rfl) .nil) rfl) rfl <| .z) fun a w S => st_m (op_stW S sizeOf37 (.t rfl) (.t rfl) (k := 1) rfl rfl rfl (by simp [Value.oneCell']) fun a w S => st_nil (then_normal (hK1 _ _ (wp_ret (st_ret S (results1 S results74 (Rv.cell (k := 1) ⟨isAgg37, sizeOf37⟩ rfl rfl rfl)) ?_))))))))))))
  exact ⟨_, _, rfl, S.wd.pk, _, rfl, rfl⟩
end Go.Proofs.YtakpdbmdfnialaaGreat
set_option linter.unusedVariables false
set_option linter.unusedSimpArgs false
set_option maxRecDepth 100000
set_option maxHeartbeats 4000000
namespace Go.Fw
theorem ready_013 : readyG [C013] 0 1 = (⟨0, 1, 3⟩, 0) := by decide +kernel
theorem put_013 : putG [] [107] ⟨0, 1, 3⟩ = ([⟨[107], ⟨0, 1, 3⟩⟩], 0) := by decide +kernel
theorem clean_013 : cleanG (marksG [⟨[107], ⟨0, 1, 3⟩⟩] [107]) C013 = (Cart.zero, 0) := by decide +kernel
theorem marks_013 : marksG [⟨[107], ⟨0, 1, 3⟩⟩] [107] = [⟨0, 1, 3⟩] := by decide +kernel
end Go.Fw
namespace Go.Proofs.YtakpdbmdfnialaaGreat
open Go.Fw Go.Proofs Go.RowKit Go.Proofs.Tryz
theorem c27 (w0 : World) : Calls Tryz.prog 27 #[] w0 fun e w' => e = .returned (.bool true) ∧ Bel w0.heap.size w0 w' := by
  refine enter0 func27 rfl ntmps27 rfl fun a S => sg S (.ac rfl <| .z) fun a w S => wp_seq_k fun _ hK1 => wp_region_lit ?_
  (refine st_m (op_calls S call74 .nil (c74 _) rfl ?_); clear S a w; rintro _ _ ⟨g1, rfl, rfl⟩ a w S)
  refine st_m (op_bslice1 S underlying64 inf37 rfl rfl rfl (.t rfl) rfl rfl rfl fun g2 a w S => run S (.yy (ys_bld (ps := [(0, _), (1, _)]) (us := [_, _]) bld66 (.cons Ev.c (.cons Ev.c .nil)) rfl) rfl <| .z) fun a w S => st_y S (ys_call call34 (.cons (.t rfl) (.cons (.t rfl) .nil)) (fun _ w' W' => c34 w' _ [(C013, (⟨none, 0, 0, some ⟨g1, 0, none⟩, 1, 1, none, 0, 0⟩ : Sls3))] 0 1 (Sl.of_blk (cap := 1) [(C013, (⟨none, 0, 0, some ⟨g1, 0, none⟩, 1, 1, none, 0, 0⟩ : Sls3))] W' (k := 0) rfl rfl SCart.enc_len (by simp) (by simp)) (fun p hp => by rw [List.mem_singleton.1 hp]; exact ⟨Sl.nil_, sl_y1 W' (k := 1) rfl, Sl.nil_⟩))) rfl ?_)
  clear S a w
  intro a w S
  rw [show List.map (fun x : SCart => x.1) [(C013, (⟨none, 0, 0, some ⟨g1, 0, none⟩, 1, 1, none, 0, 0⟩ : Sls3))] = [C013] from rfl, ready_013] at S
  dsimp only [Dot.enc] at S
  have rw_1 : decide ((0 : Int) = 0 ∧ (1 : Int) = 1 ∧ (3 : Int) = 3) = true := by decide
  refine run S (.mv rfl <| .ex rfl rfl <| .ex rfl rfl <| .z) fun a w S => st_m (op_alloc S zeroValue30 (cs := _) rfl rfl fun g3 a w S => st_m (op_stW S sizeOf30 (.t rfl) (.t rfl) (k := 0) rfl rfl rfl (by simp [Value.oneCell']) fun a w S => run S (.as rfl <| .z) fun a w S => st_nil (then_normal (hK1 _ _ (wp_seq_k fun _ hK1 => wp_region_lit ?_)))))
  (refine st_m (op_calls S call13 .nil (c13 _) rfl ?_); clear S a w; rintro _ _ ⟨g4, rfl, rfl⟩ a w S)
  refine run S (.as rfl <| .z) fun a w S => st_nil (then_normal (hK1 _ _ (wp_seq_k fun _ hK1 => wp_seq_k fun _ hK2 => wp_region_lit (run S (.mv rfl <| .yy (ys_F (by omega) (ys_neq (.t rfl) Ev.c)) rfl <| .mv rfl <| .gy rfl rfl (ys_ldA ⟨isAgg30, sizeOf30⟩ (.t rfl) (k := 1) rfl rfl) <| .gy rfl rfl (ys_bld (ps := [(0, _), (1, _), (2, _)]) (us := [_, _, _]) bld30 (.cons Ev.c (.cons Ev.c (.cons Ev.c .nil))) rfl) <| .gy rfl rfl (ys_neA (.t rfl) (.t rfl) eq30) <| .z) fun a w S => ?_))))
  rw [rw_1] at S
  refine run S (.yy (ys_pickF (.t rfl) (.t rfl)) rfl <| .mv rfl <| .gy rfl rfl (ys_move (.t rfl)) <| .gy rfl rfl (ys_ldA ⟨isAgg30, sizeOf30⟩ (.t rfl) (k := 1) rfl rfl) <| .z) fun a w S => ?_
  replace S := S.nil_ 52 4 Gon.enc none
  (replace S := S.pull 1 rfl; try simp only [List.set_cons_zero, List.set_cons_succ, List.eraseIdx_cons_succ, List.eraseIdx_cons_zero] at S)
  change St _ _ _ (tabP g4 none 0 [] _) _ _ at S
  have tab0 := tab_nil
  (refine st_mg S rfl rfl (op_callO S call14 (.cons (.t rfl) (.cons Ev.c (.cons (.t rfl) .nil))) (c14 S.wd (by first | assumption | omega | (dsimp only; omega) | exact Sl.nil_ | exact .old S.wd (by assumption) | exact Sl.of_own S.wd (k := 0) rfl (fun _ => rfl) | exact Sl.of_own S.wd (k := 1) rfl (fun _ => rfl) | exact Sl.of_own S.wd (k := 2) rfl (fun _ => rfl) | exact Sl.of_own S.wd (k := 3) rfl (fun _ => rfl) | exact Sl.of_own S.wd (k := 4) rfl (fun _ => rfl) | (simp; done) | (simp at *; omega)) (by first | assumption | omega | (dsimp only; omega) | exact Sl.nil_ | exact .old S.wd (by assumption) | exact Sl.of_own S.wd (k := 0) rfl (fun _ => rfl) | exact Sl.of_own S.wd (k := 1) rfl (fun _ => rfl) | exact Sl.of_own S.wd (k := 2) rfl (fun _ => rfl) | exact Sl.of_own S.wd (k := 3) rfl (fun _ => rfl) | exact Sl.of_own S.wd (k := 4) rfl (fun _ => rfl) | (simp; done) | (simp at *; omega)) (by first | assumption | omega | (dsimp only; omega) | exact Sl.nil_ | exact .old S.wd (by assumption) | exact Sl.of_own S.wd (k := 0) rfl (fun _ => rfl) | exact Sl.of_own S.wd (k := 1) rfl (fun _ => rfl) | exact Sl.of_own S.wd (k := 2) rfl (fun _ => rfl) | exact Sl.of_own S.wd (k := 3) rfl (fun _ => rfl) | exact Sl.of_own S.wd (k := 4) rfl (fun _ => rfl) | (simp; done) | (simp at *; omega))) rfl ?_) <;> clear S a w)
  rintro _ _ ⟨A21, e21, rfl, rfl⟩ a w S
  refine run S (.gy rfl rfl (ys_neq (.t rfl) Ev.c) <| .yy (ys_pickF (.t rfl) (.t rfl)) rfl <| .z) fun a w S => st_nil (then_normal (hK2 _ _ (st_else S (.t rfl) (wp_skip (then_normal (hK1 _ _ (wp_seq_k fun _ hK1 => wp_region_lit (run S (.mv rfl <| .z) fun a w S => ?_))))))))
  (refine st_m (op_calls S call74 .nil (c74 _) rfl ?_); clear S a w; rintro _ _ ⟨g5, rfl, rfl⟩ a w S)
  simp only [put_013] at S
  refine st_m (op_calls S call17 (.cons (.t rfl) (.cons Ev.c (.cons (.t rfl) .nil))) (c17 _ g4 _ [⟨[107], ⟨0, 1, 3⟩⟩] [107] _ _ _ C013 (Wd.cell S.wd (k := 1) rfl rfl) (Wd.cell S.wd (k := 1) rfl rfl) (Sl.of_own S.wd (k := 2) rfl (fun _ => rfl)) (by simp) Sl.nil_ ⟨sl_y1 S.wd (k := 0) rfl, Sl.nil_⟩) rfl ?_)
  clear S a w
  rintro _ _ ⟨F1, f1, F2, f2, F3, f3, rfl, rfl⟩ a w S
  simp only [clean_013] at S
  dsimp only [Cart.zero, List.length_nil] at S
  refine run S (.mv rfl <| .ex rfl rfl <| .ex rfl rfl <| .z) fun a w S => st_m (op_alloc S zeroValue37 (cs := _) rfl rfl fun g6 a w S => st_m (op_stW S sizeOf37 (.t rfl) (.t rfl) (k := 0) rfl rfl rfl (by simp [Value.oneCell']) fun a w S => run S (.as rfl <| .z) fun a w S => st_nil (then_normal (hK1 _ _ (wp_seq_k fun _ hK1 => h_begin0 S (by kernel_rfl) fun a w S => hy 0 S rfl (ys_move (.t rfl)) rfl fun a w S => hy 1 S rfl (ys_T (by omega) (ys_eql (.t rfl) Ev.c)) rfl fun a w S => hy 2 S rfl (ys_move (.t rfl)) rfl fun a w S => hyt 3 S rfl rfl rfl (ys_fieldN (FieldT.mk underlying37 rfl sizeOf35 rfl) (.t rfl) (i' := 1) rfl) rfl fun a w S => ?_)))))
  refine hyt 4 S rfl rfl rfl (ys_fieldN (FieldT.mk underlying35 rfl sizeOf32 rfl) (.t rfl) (i' := 1) rfl) rfl fun a w S => hyt 5 S rfl rfl rfl (ys_ld ⟨isAgg32, sizeOf32⟩ (.t rfl) (k := 0) rfl rfl) rfl fun a w S => hyt 6 S rfl rfl rfl (ys_lenS underlying32 (.t rfl)) rfl fun a w S => hyt 7 S rfl rfl rfl (ys_T (by omega) (ys_eql (.t rfl) Ev.c)) rfl fun a w S => hy 8 S rfl (ys_pickT (.t rfl) (.t rfl)) rfl fun a w S => ?_
  refine hy 9 S rfl (ys_move (.t rfl)) rfl fun a w S => hyt 10 S rfl rfl rfl (ys_move (.t rfl)) rfl fun a w S => hyt 12 S rfl rfl rfl (ys_ldA ⟨isAgg30, sizeOf30⟩ (.t rfl) (k := 7) rfl rfl) rfl fun a w S => ?_
  refine h_splitw S (i := 11) (j := 13) (by kernel_rfl) rfl rfl ⟨_, rfl, rfl⟩ ⟨_, rfl, rfl⟩ ?_ ?_
  (refine op_calls S call21 (.cons (.t rfl) (.cons Ev.c .nil)) (c21 _ _ _ _ _ (by exact Wd.cell S.wd (k := 5) rfl rfl) (by exact Wd.cell S.wd (k := 5) rfl rfl) (by exact Sl.of_own S.wd (k := 6) rfl (fun _ => rfl)) (by (simp; done))) rfl ?_; clear S a w; rintro _ _ ⟨A1, c1, rfl, rfl⟩ a w S; refine h_n1 S ?_)
  (refine h_mg (i := 13) S rfl (by kernel_rfl) rfl rfl (op_bslice1 S underlying32 inf30 rfl rfl rfl (.t rfl) rfl rfl rfl ?_); clear S a w; intro g7 a w S; refine h_n2 S ?_)
  refine h_qg (i := 14) S (by repeat (first | exact List.Sublist.refl _ | exact List.nil_sublist _ | refine .cons_cons _ ?_ | refine .cons _ ?_)) rfl (by kernel_rfl) rfl rfl (ys_call call23 (.cons (.t rfl) (.cons (.t rfl) .nil)) (fun hp w W => c23 _ _ _ _ _ (by exact Sl.of_own W (k := 1) rfl (fun _ => rfl)) (by exact sl_y1 W (k := 0) rfl))) rfl fun a w S => hy 15 S rfl (ys_pickT (.t rfl) (.t rfl)) rfl fun a w S => hy 16 S rfl (ys_assign (.t rfl)) rfl fun a w S => h_done (by kernel_rfl) (then_normal (hK1 _ _ (wp_ret (st_ret S (results1 S results27 (Rv.tmp rfl)) ?_))))
  rotate_left
  (refine op_bslice1 S underlying32 inf30 rfl rfl rfl (.t rfl) rfl rfl rfl ?_; clear S a w; intro g7 a w S; refine h_n1 S ?_)
  (refine h_mg (i := 11) S rfl (by kernel_rfl) rfl rfl (op_calls S call21 (.cons (.t rfl) (.cons Ev.c .nil)) (c21 _ _ _ _ _ (by exact Wd.cell S.wd (k := 6) rfl rfl) (by exact Wd.cell S.wd (k := 6) rfl rfl) (by exact Sl.of_own S.wd (k := 7) rfl (fun _ => rfl)) (by (simp; done))) rfl ?_); clear S a w; rintro _ _ ⟨A1, c1, rfl, rfl⟩ a w S; refine h_n2 S ?_)
  refine h_qg (i := 14) S (by repeat (first | exact List.Sublist.refl _ | exact List.nil_sublist _ | refine .cons_cons _ ?_ | refine .cons _ ?_)) rfl (by kernel_rfl) rfl rfl (ys_call call23 (.cons (.t rfl) (.cons (.t rfl) .nil)) (fun hp w W => c23 _ _ _ _ _ (by exact Sl.of_own W (k := 0) rfl (fun _ => rfl)) (by exact sl_y1 W (k := 1) rfl))) rfl fun a w S => hy 15 S rfl (ys_pickT (.t rfl) (.t rfl)) rfl fun a w S => hy 16 S rfl (ys_assign (.t rfl)) rfl fun a w S => h_done (by kernel_rfl) (then_normal (hK1 _ _ (wp_ret (st_ret S (results1 S results27 (Rv.tmp rfl)) ?_))))
  rotate_left
  all_goals exact ⟨by rw [marks_013, decide_eq_true rfl], S.wd.below⟩
end Go.Proofs.YtakpdbmdfnialaaGreat
set_option linter.unusedVariables false
set_option linter.unusedSimpArgs false
set_option maxRecDepth 100000
set_option maxHeartbeats 4000000
namespace Go.Fw
structure Gdo where
  key : List UInt8
  m : Dot
  c : SCart
abbrev Gdo.enc (x : Gdo) : List Value := [.string (bs x.key), .int .i64 x.m.node, .int .i64 x.m.life, .int .i64 x.m.count, .slice x.c.2.a1 x.c.2.n1 x.c.2.c1, .slice x.c.2.a2 x.c.2.n2 x.c.2.c2, .slice x.c.2.a3 x.c.2.n3 x.c.2.c3]
theorem Gdo.enc_len (x : Gdo) : (Gdo.enc x).length = 7 := rfl
end Go.Fw
namespace Go.Proofs.YtakpdbmdfnialaaGreat
open Go.Fw Go.Proofs Go.RowKit Go.Proofs.Tryz
end Go.Proofs.YtakpdbmdfnialaaGreat
set_option linter.unusedVariables false
set_option linter.unusedSimpArgs false
set_option maxRecDepth 100000
namespace Go.Proofs.YtakpdbmdfnialaaGreat
open Go.Fw Go.Proofs Go.RowKit Go.ChangeShapes Go.WideShapes Go.ChangeAt Go.Deep Go.Joins Go.Proofs.Tryz
section
variable {H : Type} {enc : TypeId × Value → H} {w : World}
def ScRd (w : World) (s : SCart) (b : Nat) : Prop := CartRd w s.1 s.2 ∧ s.1.ents.length ≤ b ∧ s.1.ctx.marks.length ≤ b ∧ s.1.ctx.cloud.length ≤ b
theorem rdSC : Rdr enc Tryz.prog w 37 fun cs b => ∃ s : SCart, cs = SCart.enc s ∧ ScRd w s b := rdCart.mono fun cs b ⟨v1, v2, v3, X, e, hX⟩ => by
  obtain ⟨h1, ⟨h2, h3⟩, l1, l2, l3, _⟩ := hX
  have k1 := h1
  have k2 := h2
  have k3 := h3
  obtain ⟨A1, c1, rfl, _⟩ := h1
  obtain ⟨A2, c2, rfl, _⟩ := h2
  obtain ⟨A3, c3, rfl, _⟩ := h3
  exact ⟨(X, ⟨A1, _, c1, A2, _, c2, A3, _, c3⟩), e, ⟨k1, k2, k3⟩, by dsimp only; omega, by dsimp only; omega, by dsimp only; omega⟩
theorem read_carts {v : Value} {d : DataW H} {p : List MemPlace} (hv : ∃ A len cap, v = .slice A len cap) (h : DataW.Trod enc Tryz.prog w 0 (fun _ => true) true 64 v d p) :
    ∃ l, Sl SCart.enc 3 w w.heap.size v l ∧ l.length + 1 ≤ Rows.uptoBulk d ∧ CartsRd w l ∧ ∀ x ∈ l, x.1.ents.length ≤ Rows.uptoBulk d ∧ x.1.ctx.marks.length ≤ Rows.uptoBulk d ∧ x.1.ctx.cloud.length ≤ Rows.uptoBulk d := by
  obtain ⟨v', l, hc, hs, hl, hf⟩ := Rdr.top (Rdr.slice (k := 3) underlying64 (by kernel_rfl) rfl SCart.enc_len rdSC) h
  obtain ⟨A, n, c, rfl⟩ := hv
  simp only [Value.cells, List.cons.injEq, and_true] at hc
  subst hc
  refine ⟨l, hs, hl, fun x hx => ?_, fun x hx => ?_⟩
  · obtain ⟨b', h1, h2, _⟩ := hf x hx
    exact h2
  · obtain ⟨b', h1, h2, h3, h4, h5⟩ := hf x hx
    omega
end
end Go.Proofs.YtakpdbmdfnialaaGreat
set_option linter.unusedVariables false
set_option linter.unusedSimpArgs false
set_option maxRecDepth 100000
set_option maxHeartbeats 4000000
namespace Go.Proofs.YtakpdbmdfnialaaGreat
open Go.Fw Go.Proofs Go.RowKit Go.Proofs.Tryz
theorem c6 (w0 : World) (v : Value) (l : List SCart) (p q : Int) (h : Sl SCart.enc 3 w0 w0.heap.size v l) (hc : CartsRd w0 l) (hb : SmallC l) (hn : l.length ≤ 1048576) :
    Calls Tryz.prog 6 #[v, .agg #[.int .i64 p, .int .i64 q]] w0 fun e w' => e = .returned (.bool true) ∧ Bel w0.heap.size w0 w' := by
  have hs := h
  obtain ⟨A, cap, rfl, hl, hcap, hA⟩ := h
  refine enter2 func6 rfl ntmps6 rfl fun a S => wp_seq_k fun _ hK1 => wp_region_lit (st_m (op_box S (.t rfl) rfl fun g1 a w S => run S (.ac rfl <| .z) fun a w S => st_nil (then_normal (hK1 _ _ (wp_seq_k fun _ hK1 => wp_region_lit (run S (.mv rfl <| .z) fun a w S => ?_))))))
  (refine st_m (op_calls S call33 (.cons (.t rfl) .nil) (c33 _ _ _ (by exact .old S.wd (by assumption)) (by exact .old S.wd (by assumption)) (by assumption) (by assumption)) rfl ?_); clear S a w; rintro _ _ ⟨A1, r1, s1, w11, bs1, rfl, rfl, hr11, hr21⟩ a w S)
  refine run S (.as rfl <| .z) fun a w S => st_nil (then_normal (hK1 _ _ (wp_seq_k fun _ hK1 => wp_region_lit (run S (.mv rfl <| .la gt66 2 rfl rfl rfl <| .xx (ys_call call34 (.cons (.t rfl) (.cons (.t rfl) .nil)) (fun hp w W => c34 _ _ _ _ _ (by exact Sl.of_own W (k := 0) rfl (fun _ => rfl)) (by exact carts_rd (by assumption) W (k := 1) rfl))) rfl <| .z) fun a w S => ?_))))
  simp only [List.nil_append] at S
  refine run S (.mv rfl <| .ex rfl rfl <| .ex rfl rfl <| .z) fun a w S => st_m (op_alloc S zeroValue30 (cs := _) rfl rfl fun g2 a w S => st_m (op_stW S sizeOf30 (.t rfl) (.t rfl) (k := 0) rfl rfl rfl (by simp [Value.oneCell']) fun a w S => run S (.as rfl <| .z) fun a w S => st_nil (then_normal (hK1 _ _ (wp_seq_k fun _ hK1 => wp_region_lit (run S (.mv rfl <| .la gt66 3 rfl rfl rfl <| .xx (ys_call call35 (.cons (.t rfl) (.cons (.t rfl) .nil)) (fun hp w W => c35 _ _ _ _ _ (by exact .old W (by assumption)) (by exact .old W (by assumption)))) rfl <| .z) fun a w S => ?_))))))
  simp only [List.nil_append] at S
  refine run S (.mv rfl <| .ex rfl rfl <| .ex rfl rfl <| .z) fun a w S => st_m (op_alloc S zeroValue30 (cs := _) rfl rfl fun g3 a w S => st_m (op_stW S sizeOf30 (.t rfl) (.t rfl) (k := 0) rfl rfl rfl (by simp [Value.oneCell']) fun a w S => run S (.as rfl <| .z) fun a w S => st_nil (then_normal (hK1 _ _ (wp_seq_k fun _ hK1 => wp_region_lit (run S (.mv rfl <| .mv rfl <| .yy (ys_eql (.t rfl) (.t rfl)) rfl <| .mv rfl <| .z) fun a w S => st_yg S rfl rfl (Yr.ys (ys_ldA ⟨isAgg30, sizeOf30⟩ (.t rfl) (k := 1) rfl rfl)) rfl fun a w S => st_yg S rfl rfl (Yr.ys (ys_ldA ⟨isAgg30, sizeOf30⟩ (.t rfl) (k := 0) rfl rfl)) rfl fun a w S => st_yg S rfl rfl (Yr.ys (ys_eqA (Ev.g rfl) (Ev.g rfl) eq30)) rfl fun a w S => run S (.yy (ys_and (.t rfl) (Ev.g rfl) Ev.c) rfl <| .mv rfl <| .z) fun a w S => st_yg S rfl rfl (Yr.ys (ys_move (.t rfl))) rfl fun a w S => st_yg S rfl rfl (Yr.ys (ys_move (.t rfl))) rfl fun a w S => st_yg S rfl rfl (ys_call call36 (.cons (Ev.g rfl) (.cons (Ev.g rfl) (.cons Ev.f .nil))) (fun hp w W => c36 _ _ _ _ _ (by exact Sl.of_own W (k := 2) rfl (fun _ => rfl)) (by exact .old W (by assumption)) (by exact carts_rd (by assumption) W (k := 3) rfl) (by exact .old W (by assumption)))) rfl fun a w S => run S (.yy (ys_and (.t rfl) (Ev.g rfl) Ev.c) rfl <| .mv rfl <| .z) fun a w S => st_yg S rfl rfl (ys_call call27 .nil (fun hp w W => c27 _)) rfl fun a w S => ?_))))))
  refine run S (.yy (ys_andT (.t rfl) (Ev.g rfl) Ev.c) rfl <| .as rfl <| .z) fun a w S => st_nil (then_normal (hK1 _ _ (wp_ret (st_ret S (results1 S results6 (Rv.tmp rfl)) ?_))))
  refine ⟨?_, S.wd.below⟩
  rw [hr11]
  simp
end Go.Proofs.YtakpdbmdfnialaaGreat
