/- Contracts and laws that the statement Ore leans on, part 4. -/
import Derived.Test.YtfblmkocmnbdcaaGreatOreK3
set_option linter.unusedVariables false
set_option linter.unusedSimpArgs false
set_option maxRecDepth 100000
set_option maxHeartbeats 4000000
namespace Go.Fw
def joinF (a b : Cart) (k : Nat) : List Ent := ((b.ents.take k).filter (newB a)).foldl (fun l x => insE x l) (staysE a b)
end Go.Fw
namespace Go.Proofs.YtfblmkocmnbdcaaGreat
open Go.Fw Go.Proofs Go.RowKit Go.Proofs.Tryz
theorem c34 (w0 : World) (v1 v2 v3 v4 v5 v6 : Value) (X Y : Cart) (h : Sl Ent.enc 6 w0 w0.heap.size v1 X.ents) (hr : RdCtx w0 w0.heap.size v2 v3 X.ctx) (h' : Sl Ent.enc 6 w0 w0.heap.size v4 Y.ents) (hr' : RdCtx w0 w0.heap.size v5 v6 Y.ctx) :
    Rets Tryz.prog 34 #[.agg #[v1, v2, v3], .agg #[v4, v5, v6]] w0 fun v L => ∃ A1 r1 A2 r2 A3 r3, v = .tuple #[.agg #[.slice A1 (joinK X Y).1.ents.length r1, .slice A2 (joinK X Y).1.ctx.marks.length r2, .slice A3 (joinK X Y).1.ctx.cloud.length r3], .int .i64 (joinK X Y).2] ∧
      L = [rowOf 71 6 Ent.enc A1 r1 (joinK X Y).1.ents, rowOf 122 3 Dot.enc A2 r2 (joinK X Y).1.ctx.marks, rowOf 58 3 Dot.enc A3 r3 (joinK X Y).1.ctx.cloud] := by
  have hs := h
  have hrr := hr
  have hs' := h'
  have hrr' := hr'
  obtain ⟨A, cap, rfl, hl, hcap, hA⟩ := h
  obtain ⟨⟨A2, cap2, rfl, _⟩, ⟨A3, cap3, rfl, _⟩⟩ := hr
  obtain ⟨B, capB, rfl, hlB, hcapB, hB⟩ := h'
  obtain ⟨⟨B2, capB2, rfl, _⟩, ⟨B3, capB3, rfl, _⟩⟩ := hr'
  by_cases hX : canE X = 0
  rotate_left
  · have rw_x : decide (canE X ≠ 0) = true := decide_eq_true hX
    have e : joinK X Y = (Cart.zero, canE X) := by unfold joinK; rw [if_neg hX]
    unfold Go.Fw.Rets
    refine enter2 func34 rfl ntmps34 rfl fun a S => wp_seq_k fun _ hK1 => wp_region_lit (st_m (op_box S (.t rfl) rfl fun g1 a w S => st_m (op_box S (.t rfl) rfl fun g2 a w S => st_m (op_alloc S zeroValue39 (cs := _) rfl rfl fun g3 a w S => run S (.ac rfl <| .z) fun a w S => st_nil (then_normal (hK1 _ _ (wp_seq_k fun _ hK1 => sg S (.la gt39 2 rfl rfl rfl <| .xx (ys_call call66 (.cons (.t rfl) .nil) (fun hp w W => c66 _ _ _ _ _ (by exact .old W (by assumption)) (by exact .old W (by assumption)))) rfl <| .as rfl <| .z) fun a w S => sg S (.mv rfl <| .yy (ys_T (by omega) (ys_neq (.t rfl) Ev.c)) rfl <| .z) fun a w S => st_then S (.t rfl) (wp_seq_k fun _ hK2 => wp_region_lit (run S (.yy (ys_bld (ps := []) (us := [_, _, _]) bld39 .nil rfl) rfl <| .mv rfl <| .z) fun a w S => st_m (op_stW S sizeOf39 (.t rfl) (.t rfl) (k := 0) rfl rfl rfl (by simp [Value.oneCell']) fun a w S => run S (.as rfl <| .z) fun a w S => st_nil (then_normal (hK2 _ _ (wp_ret (then_ret (st_ret S (results2 S results34 (Rv.cell (k := 0) ⟨isAgg39, sizeOf39⟩ rfl rfl rfl) (Rv.tmp rfl)) ?_)))))))))))))))
    rw [e]
    exact ⟨_, _, rfl, (((S.nil_ 58 3 Dot.enc none).nil_ 122 3 Dot.enc none).nil_ 71 6 Ent.enc none).wd.sub (by repeat (first | exact List.Sublist.refl _ | exact List.nil_sublist _ | refine .cons_cons _ ?_ | refine .cons _ ?_)), none, 0, none, 0, none, 0, rfl, rfl⟩
  have rw_x := hX
  by_cases hY : canE Y = 0
  rotate_left
  · have rw_y : decide (canE Y ≠ 0) = true := decide_eq_true hY
    have e : joinK X Y = (Cart.zero, canE Y) := by unfold joinK; rw [if_pos hX, if_neg hY]
    unfold Go.Fw.Rets
    refine enter2 func34 rfl ntmps34 rfl fun a S => wp_seq_k fun _ hK1 => wp_region_lit (st_m (op_box S (.t rfl) rfl fun g1 a w S => st_m (op_box S (.t rfl) rfl fun g2 a w S => st_m (op_alloc S zeroValue39 (cs := _) rfl rfl fun g3 a w S => run S (.ac rfl <| .z) fun a w S => st_nil (then_normal (hK1 _ _ (wp_seq_k fun _ hK1 => wp_seq_k fun _ hK2 => wp_region_lit (run S (.la gt39 2 rfl rfl rfl <| .xx (ys_call call66 (.cons (.t rfl) .nil) (fun hp w W => c66 _ _ _ _ _ (by exact .old W (by assumption)) (by exact .old W (by assumption)))) rfl <| .z) fun a w S => ?_))))))))
    rw [rw_x] at S
    refine run S (.as rfl <| .z) fun a w S => st_nil (then_normal (hK2 _ _ (sg S (.mv rfl <| .yy (ys_F (by omega) (ys_neq (.t rfl) Ev.c)) rfl <| .z) fun a w S => st_else S (.t rfl) (wp_skip (then_normal (hK1 _ _ (wp_seq_k fun _ hK1 => sg S (.la gt39 1 rfl rfl rfl <| .xx (ys_call call66 (.cons (.t rfl) .nil) (fun hp w W => c66 _ _ _ _ _ (by exact .old W (by assumption)) (by exact .old W (by assumption)))) rfl <| .as rfl <| .z) fun a w S => sg S (.mv rfl <| .yy (ys_T (by omega) (ys_neq (.t rfl) Ev.c)) rfl <| .z) fun a w S => st_then S (.t rfl) (wp_seq_k fun _ hK2 => wp_region_lit (run S (.yy (ys_bld (ps := []) (us := [_, _, _]) bld39 .nil rfl) rfl <| .mv rfl <| .z) fun a w S => st_m (op_stW S sizeOf39 (.t rfl) (.t rfl) (k := 0) rfl rfl rfl (by simp [Value.oneCell']) fun a w S => run S (.as rfl <| .z) fun a w S => st_nil (then_normal (hK2 _ _ (wp_ret (then_ret (st_ret S (results2 S results34 (Rv.cell (k := 0) ⟨isAgg39, sizeOf39⟩ rfl rfl rfl) (Rv.tmp rfl)) ?_)))))))))))))))
    rw [e]
    exact ⟨_, _, rfl, (((S.nil_ 58 3 Dot.enc none).nil_ 122 3 Dot.enc none).nil_ 71 6 Ent.enc none).wd.sub (by repeat (first | exact List.Sublist.refl _ | exact List.nil_sublist _ | refine .cons_cons _ ?_ | refine .cons _ ?_)), none, 0, none, 0, none, 0, rfl, rfl⟩
  have rw_y := hY
  have oX := (canE_ok X).1 hX
  have oY := (canE_ok Y).1 hY
  have lX := oX.len
  have lY := oY.len
  by_cases hj : (joinL X.ctx Y.ctx).2 = 0
  rotate_left
  · have rw_j : decide ((joinL X.ctx Y.ctx).2 ≠ 0) = true := decide_eq_true hj
    have e : joinK X Y = (Cart.zero, (joinL X.ctx Y.ctx).2) := by unfold joinK; rw [if_pos hX, if_pos hY, if_neg hj]
    unfold Go.Fw.Rets
    refine enter2 func34 rfl ntmps34 rfl fun a S => wp_seq_k fun _ hK1 => wp_region_lit (st_m (op_box S (.t rfl) rfl fun g1 a w S => st_m (op_box S (.t rfl) rfl fun g2 a w S => st_m (op_alloc S zeroValue39 (cs := _) rfl rfl fun g3 a w S => run S (.ac rfl <| .z) fun a w S => st_nil (then_normal (hK1 _ _ (wp_seq_k fun _ hK1 => wp_seq_k fun _ hK2 => wp_region_lit (run S (.la gt39 2 rfl rfl rfl <| .xx (ys_call call66 (.cons (.t rfl) .nil) (fun hp w W => c66 _ _ _ _ _ (by exact .old W (by assumption)) (by exact .old W (by assumption)))) rfl <| .z) fun a w S => ?_))))))))
    rw [rw_x] at S
    refine run S (.as rfl <| .z) fun a w S => st_nil (then_normal (hK2 _ _ (sg S (.mv rfl <| .yy (ys_F (by omega) (ys_neq (.t rfl) Ev.c)) rfl <| .z) fun a w S => st_else S (.t rfl) (wp_skip (then_normal (hK1 _ _ (wp_seq_k fun _ hK1 => wp_seq_k fun _ hK2 => wp_region_lit (run S (.la gt39 1 rfl rfl rfl <| .xx (ys_call call66 (.cons (.t rfl) .nil) (fun hp w W => c66 _ _ _ _ _ (by exact .old W (by assumption)) (by exact .old W (by assumption)))) rfl <| .z) fun a w S => ?_))))))))
    rw [rw_y] at S
    refine run S (.as rfl <| .z) fun a w S => st_nil (then_normal (hK2 _ _ (sg S (.mv rfl <| .yy (ys_F (by omega) (ys_neq (.t rfl) Ev.c)) rfl <| .z) fun a w S => st_else S (.t rfl) (wp_skip (then_normal (hK1 _ _ (wp_seq_k fun _ hK1 => wp_region_lit (run S (.fa underlying39 sizeOf37 1 rfl rfl rfl <| .la gt37 2 rfl rfl rfl <| .fa underlying39 sizeOf37 1 rfl rfl rfl <| .la gt37 1 rfl rfl rfl <| .z) fun a w S => ?_))))))))
    (refine st_m (op_calls S call92 (.cons (.t rfl) (.cons (.t rfl) .nil)) (c92 _ _ _ _ _ _ _ (by exact .old S.wd (by assumption)) (by exact .old S.wd (by assumption))) rfl ?_); clear S a w; rintro _ _ ⟨A11, r11, A21, r21, rfl, rfl⟩ a w S)
    refine run S (.mv rfl <| .ex rfl rfl <| .ex rfl rfl <| .z) fun a w S => st_m (op_alloc S zeroValue37 (cs := _) rfl rfl fun g4 a w S => st_m (op_stW S sizeOf37 (.t rfl) (.t rfl) (k := 0) rfl rfl rfl (by simp [Value.oneCell']) fun a w S => run S (.as rfl <| .z) fun a w S => st_nil (then_normal (hK1 _ _ (wp_seq_k fun _ hK1 => sg S (.mv rfl <| .yy (ys_T (by omega) (ys_neq (.t rfl) Ev.c)) rfl <| .z) fun a w S => st_then S (.t rfl) (wp_seq_k fun _ hK2 => wp_region_lit (run S (.yy (ys_bld (ps := []) (us := [_, _, _]) bld39 .nil rfl) rfl <| .mv rfl <| .z) fun a w S => st_m (op_stW S sizeOf39 (.t rfl) (.t rfl) (k := 3) rfl rfl rfl (by simp [Value.oneCell']) fun a w S => run S (.as rfl <| .z) fun a w S => st_nil (then_normal (hK2 _ _ (wp_ret (then_ret (st_ret S (results2 S results34 (Rv.cell (k := 3) ⟨isAgg39, sizeOf39⟩ rfl rfl rfl) (Rv.tmp rfl)) ?_)))))))))))))
    rw [e]
    exact ⟨_, _, rfl, (((S.nil_ 58 3 Dot.enc none).nil_ 122 3 Dot.enc none).nil_ 71 6 Ent.enc none).wd.sub (by repeat (first | exact List.Sublist.refl _ | exact List.nil_sublist _ | refine .cons_cons _ ?_ | refine .cons _ ?_)), none, 0, none, 0, none, 0, rfl, rfl⟩
  have rw_j := hj
  have eJ : joinK X Y = if 64 < (joinE X Y).length ∨ 32 < itemsN (joinE X Y) then (Cart.zero, 51) else if clashE X Y then (Cart.zero, 50) else (⟨joinE X Y, (joinL X.ctx Y.ctx).1⟩, 0) := by
    unfold joinK
    rw [if_pos hX, if_pos hY, if_pos hj]
    unfold sizedC
    by_cases h2 : 64 < (joinE X Y).length ∨ 32 < itemsN (joinE X Y)
    · rw [if_pos h2, if_pos h2, if_neg (by dsimp only; omega)]
    · rw [if_neg h2, if_neg h2, if_pos rfl]
  unfold Go.Fw.Rets
  refine enter2 func34 rfl ntmps34 rfl fun a S => wp_seq_k fun _ hK1 => wp_region_lit (st_m (op_box S (.t rfl) rfl fun g1 a w S => st_m (op_box S (.t rfl) rfl fun g2 a w S => st_m (op_alloc S zeroValue39 (cs := _) rfl rfl fun g3 a w S => run S (.ac rfl <| .z) fun a w S => st_nil (then_normal (hK1 _ _ (wp_seq_k fun _ hK1 => wp_seq_k fun _ hK2 => wp_region_lit (run S (.la gt39 2 rfl rfl rfl <| .xx (ys_call call66 (.cons (.t rfl) .nil) (fun hp w W => c66 _ _ _ _ _ (by exact .old W (by assumption)) (by exact .old W (by assumption)))) rfl <| .z) fun a w S => ?_))))))))
  rw [rw_x] at S
  refine run S (.as rfl <| .z) fun a w S => st_nil (then_normal (hK2 _ _ (sg S (.mv rfl <| .yy (ys_F (by omega) (ys_neq (.t rfl) Ev.c)) rfl <| .z) fun a w S => st_else S (.t rfl) (wp_skip (then_normal (hK1 _ _ (wp_seq_k fun _ hK1 => wp_seq_k fun _ hK2 => wp_region_lit (run S (.la gt39 1 rfl rfl rfl <| .xx (ys_call call66 (.cons (.t rfl) .nil) (fun hp w W => c66 _ _ _ _ _ (by exact .old W (by assumption)) (by exact .old W (by assumption)))) rfl <| .z) fun a w S => ?_))))))))
  rw [rw_y] at S
  refine run S (.as rfl <| .z) fun a w S => st_nil (then_normal (hK2 _ _ (sg S (.mv rfl <| .yy (ys_F (by omega) (ys_neq (.t rfl) Ev.c)) rfl <| .z) fun a w S => st_else S (.t rfl) (wp_skip (then_normal (hK1 _ _ (wp_seq_k fun _ hK1 => wp_region_lit (run S (.fa underlying39 sizeOf37 1 rfl rfl rfl <| .la gt37 2 rfl rfl rfl <| .fa underlying39 sizeOf37 1 rfl rfl rfl <| .la gt37 1 rfl rfl rfl <| .z) fun a w S => ?_))))))))
  (refine st_m (op_calls S call92 (.cons (.t rfl) (.cons (.t rfl) .nil)) (c92 _ _ _ _ _ _ _ (by exact .old S.wd (by assumption)) (by exact .old S.wd (by assumption))) rfl ?_); clear S a w; rintro _ _ ⟨A11, r11, A21, r21, rfl, rfl⟩ a w S)
  rw [rw_j] at S
  refine run S (.mv rfl <| .ex rfl rfl <| .ex rfl rfl <| .z) fun a w S => st_m (op_alloc S zeroValue37 (cs := _) rfl rfl fun g4 a w S => st_m (op_stW S sizeOf37 (.t rfl) (.t rfl) (k := 0) rfl rfl rfl (by simp [Value.oneCell']) fun a w S => run S (.as rfl <| .z) fun a w S => st_nil (then_normal (hK1 _ _ (wp_seq_k fun _ hK1 => sg S (.mv rfl <| .yy (ys_F (by omega) (ys_neq (.t rfl) Ev.c)) rfl <| .z) fun a w S => st_else S (.t rfl) (wp_skip (then_normal (hK1 _ _ (wp_seq_k fun _ hK1 => wp_region_lit (run S (.la gt37 0 rfl rfl rfl <| .yy (ys_bld (ps := [(1, Go.Operand.tmp 45)]) (us := [_, _, _]) bld39 (.cons (.t rfl) .nil) rfl) rfl <| .z) fun a w S => st_m (op_alloc S zeroValue39 (cs := _) rfl rfl fun g5 a w S => st_m (op_stW S sizeOf39 (.t rfl) (.t rfl) (k := 0) rfl rfl rfl (by simp [Value.oneCell']) fun a w S => st_nil (then_normal (hK1 _ _ (wp_seq_k fun _ hK1 => sg S (.fa underlying39 sizeOf33 0 rfl rfl rfl <| .ld gt33 6 rfl rfl rfl <| .ln underlying33 rfl <| .mc rfl <| .z) fun a w S => wp_block ?_)))))))))))))))
  generalize (joinL X.ctx Y.ctx).1 = R at S eJ
  have hcX := can_ctx hX
  have hcY := can_ctx hY
  have rw_covX := can_covers hcX
  have rw_covY := can_covers hcY
  refine st_lpM (S.nil_ 71 6 Ent.enc none) [50] (X := Nat × Option Addr × Nat) (fun q => [(50, true, .int .i64 (q.1 : Int))])
    (fun q => [rowOf 71 6 Ent.enc q.2.1 q.2.2 ((X.ents.take q.1).filter (stayB Y)), .blk g5 (.cells #[.slice q.2.1 ((X.ents.take q.1).filter (stayB Y)).length q.2.2, .slice A11 R.marks.length r11, .slice A21 R.cloud.length r21] 39), rowOf 122 3 Dot.enc A11 r11 R.marks, rowOf 58 3 Dot.enc A21 r21 R.cloud, .blk g3 (.cells #[.slice none 0 0, .slice none 0 0, .slice none 0 0] 39), .blk g2 (.cells #[.slice B Y.ents.length capB, .slice B2 Y.ctx.marks.length capB2, .slice B3 Y.ctx.cloud.length capB3] 39), .blk g1 (.cells #[.slice A X.ents.length cap, .slice A2 X.ctx.marks.length cap2, .slice A3 X.ctx.cloud.length cap3] 39)])
    (fun q => q.1 ≤ X.ents.length) (fun q => X.ents.length - q.1) (0, none, 0) (Nat.zero_le _) ?_
  clear S
  rintro ⟨k, D, cD⟩ a w hk S
  dsimp only at hk S
  have hol := filter_take (stayB Y) X.ents k
  by_cases hlt : k < X.ents.length
  · obtain ⟨g, o, x, rfl, hx, hd, hc⟩ := row_at hA hlt
    cases hp : stayB Y x with
    | false =>
      have rw_p : (decide (x ∈ Y.ents) || !Y.ctx.covers ⟨x.dot.node, x.dot.life, x.dot.count⟩) = false := hp
      have hst := filter_no hx hp
      refine sg S (.lt (by omega) rfl rfl <| .z) fun a w S => wp_seq_k fun _ hK2 => st_then S (.t rfl) (wp_skip (then_normal (hK2 _ _ (wp_seq_k fun _ hK2 => wp_block (wp_seq_k fun _ hK3 => wp_region_lit (run S (.ix underlying33 sizeOf71 (by omega) rfl rfl <| .yy (ys_ldOA ⟨isAgg71, sizeOf71⟩ (.t rfl) (vs := [_, _, _, _, _, _]) rfl (fun _ => hc)) rfl <| .z) fun a w S => st_m (op_alloc S zeroValue71 (cs := _) rfl rfl fun g6 a w S => st_m (op_stW S sizeOf71 (.t rfl) (.t rfl) (k := 0) rfl rfl rfl (by simp [Value.oneCell']) fun a w S => st_nil (then_normal (hK3 _ _ (wp_seq_k fun _ hK3 => wp_region_lit (run S (.la gt39 6 rfl rfl rfl <| .la gt71 0 rfl rfl rfl <| .xx (ys_call call93 (.cons (.t rfl) (.cons (.t rfl) .nil)) (fun hp w W => c93 _ _ _ _ _ _ _ _ _ _ (by exact .old W (by assumption)))) rfl <| .mv rfl <| .z) fun a w S => st_yf S rfl rfl (Yr.ys (ys_fieldN (FieldT.mk underlying39 rfl sizeOf37 rfl) (.t rfl) (i' := 1) rfl)) rfl fun a w S => st_yf S rfl rfl (Yr.ys (ys_ldA ⟨isAgg37, sizeOf37⟩ (Ev.g rfl) (k := 6) rfl rfl)) rfl fun a w S => st_yf S rfl rfl (Yr.ys (ys_fieldN (FieldT.mk underlying71 rfl sizeOf58 rfl) (.t rfl) (i' := 1) rfl)) rfl fun a w S => st_yf S rfl rfl (Yr.ys (ys_ldA ⟨isAgg58, sizeOf58⟩ (Ev.g rfl) (k := 0) rfl rfl)) rfl fun a w S => ?_))))))))))))
      refine st_yf S rfl rfl (ys_call call37 (.cons (Ev.g rfl) (.cons (Ev.g rfl) .nil)) (fun hp w W => c37 _ _ _ _ _ _ _ (by exact .old W (by assumption)))) rfl fun a w S => ?_
      rw [rw_covY] at S
      refine st_yf S rfl rfl (Yr.ys (ys_not (Ev.g rfl))) rfl fun a w S => run S (.yy (ys_or (.t rfl) Ev.c (Ev.g rfl)) rfl <| .z) fun a w S => ?_
      rw [rw_p] at S
      refine st_nil (then_normal (hK3 _ _ (st_else S (.t rfl) (wp_skip (in_normal (then_normal (hK2 _ _ (wp_region_lit (run S (.ad (by unfold I64; omega) rfl <| .mv rfl <| .z) fun a w S => st_nil (then_normal ?_))))))))))
      exact ⟨(k + 1, D, cD), by dsimp only; omega, by dsimp only; omega, by dsimp only; rw [hst]; exact S.pk⟩
    | true =>
      have rw_p : (decide (x ∈ Y.ents) || !Y.ctx.covers ⟨x.dot.node, x.dot.life, x.dot.count⟩) = true := hp
      have hst := filter_yes hx hp
      refine sg S (.lt (by omega) rfl rfl <| .z) fun a w S => wp_seq_k fun _ hK2 => st_then S (.t rfl) (wp_skip (then_normal (hK2 _ _ (wp_seq_k fun _ hK2 => wp_block (wp_seq_k fun _ hK3 => wp_region_lit (run S (.ix underlying33 sizeOf71 (by omega) rfl rfl <| .yy (ys_ldOA ⟨isAgg71, sizeOf71⟩ (.t rfl) (vs := [_, _, _, _, _, _]) rfl (fun _ => hc)) rfl <| .z) fun a w S => st_m (op_alloc S zeroValue71 (cs := _) rfl rfl fun g6 a w S => st_m (op_stW S sizeOf71 (.t rfl) (.t rfl) (k := 0) rfl rfl rfl (by simp [Value.oneCell']) fun a w S => st_nil (then_normal (hK3 _ _ (wp_seq_k fun _ hK3 => wp_region_lit (run S (.la gt39 6 rfl rfl rfl <| .la gt71 0 rfl rfl rfl <| .xx (ys_call call93 (.cons (.t rfl) (.cons (.t rfl) .nil)) (fun hp w W => c93 _ _ _ _ _ _ _ _ _ _ (by exact .old W (by assumption)))) rfl <| .mv rfl <| .z) fun a w S => st_yf S rfl rfl (Yr.ys (ys_fieldN (FieldT.mk underlying39 rfl sizeOf37 rfl) (.t rfl) (i' := 1) rfl)) rfl fun a w S => st_yf S rfl rfl (Yr.ys (ys_ldA ⟨isAgg37, sizeOf37⟩ (Ev.g rfl) (k := 6) rfl rfl)) rfl fun a w S => st_yf S rfl rfl (Yr.ys (ys_fieldN (FieldT.mk underlying71 rfl sizeOf58 rfl) (.t rfl) (i' := 1) rfl)) rfl fun a w S => st_yf S rfl rfl (Yr.ys (ys_ldA ⟨isAgg58, sizeOf58⟩ (Ev.g rfl) (k := 0) rfl rfl)) rfl fun a w S => ?_))))))))))))
      refine st_yf S rfl rfl (ys_call call37 (.cons (Ev.g rfl) (.cons (Ev.g rfl) .nil)) (fun hp w W => c37 _ _ _ _ _ _ _ (by exact .old W (by assumption)))) rfl fun a w S => ?_
      rw [rw_covY] at S
      refine st_yf S rfl rfl (Yr.ys (ys_not (Ev.g rfl))) rfl fun a w S => run S (.yy (ys_or (.t rfl) Ev.c (Ev.g rfl)) rfl <| .z) fun a w S => ?_
      rw [rw_p] at S
      refine st_nil (then_normal (hK3 _ _ (st_then S (.t rfl) (wp_region_lit (run S (.fa underlying39 sizeOf33 0 rfl rfl rfl <| .ld gt33 2 rfl rfl rfl <| .la gt71 0 rfl rfl rfl <| .z) fun a w S => st_m (op_bslice1 S underlying33 inf71 rfl rfl rfl (.t rfl) rfl rfl rfl fun g7 a w S => st_m (op_push S underlying33 inf71 rfl (k := 2) (j := 0) rfl (.t rfl) (.t rfl) rfl rfl rfl rfl (by first | omega | (simp only [List.length_append, List.length_cons, List.length_nil]; omega)) rfl rfl rfl fun A1 cap1 a w S => run S (.fa underlying39 sizeOf33 0 rfl rfl rfl <| .z) fun a w S => st_m (op_st S sizeOf33 (.t rfl) (.t rfl) (k := 3) rfl rfl (by simp) fun a w S => st_nil (in_normal (then_normal (hK2 _ _ (wp_region_lit (run S (.ad (by unfold I64; omega) rfl <| .mv rfl <| .z) fun a w S => st_nil (then_normal ?_))))))))))))))
      exact ⟨(k + 1, A1, cap1), by dsimp only; omega, by dsimp only; omega, by dsimp only; rw [hst]; exact S.pk⟩
  obtain rfl : k = X.ents.length := by omega
  rw [List.take_length, ← stays_filter] at S hol
  refine sg S (.ge (by omega) rfl rfl <| .z) fun a w S => wp_seq_k fun _ hK2 => st_else S (.t rfl) (wp_exit (then_exit (then_exit (in_here (then_normal (hK1 _ _ (wp_seq_k fun _ hK1 => sg S (.fa underlying39 sizeOf33 0 rfl rfl rfl <| .ld gt33 5 rfl rfl rfl <| .ln underlying33 rfl <| .mc rfl <| .z) fun a w S => wp_block ?_)))))))
  have e0 : joinF X Y 0 = staysE X Y := rfl
  rw [← e0] at S
  refine st_lpM S [75] (X := Nat × Option Addr × Nat) (fun q => [(75, true, .int .i64 (q.1 : Int))])
    (fun q => [rowOf 71 6 Ent.enc q.2.1 q.2.2 (joinF X Y q.1), .blk g5 (.cells #[.slice q.2.1 (joinF X Y q.1).length q.2.2, .slice A11 R.marks.length r11, .slice A21 R.cloud.length r21] 39), rowOf 122 3 Dot.enc A11 r11 R.marks, rowOf 58 3 Dot.enc A21 r21 R.cloud, .blk g3 (.cells #[.slice none 0 0, .slice none 0 0, .slice none 0 0] 39), .blk g2 (.cells #[.slice B Y.ents.length capB, .slice B2 Y.ctx.marks.length capB2, .slice B3 Y.ctx.cloud.length capB3] 39), .blk g1 (.cells #[.slice A X.ents.length cap, .slice A2 X.ctx.marks.length cap2, .slice A3 X.ctx.cloud.length cap3] 39)])
    (fun q => q.1 ≤ Y.ents.length) (fun q => Y.ents.length - q.1) (0, D, cD) (Nat.zero_le _) ?_
  clear S
  rintro ⟨k, E, cE⟩ a w hk S
  dsimp only at hk S
  have hol3 : (joinF X Y k).length ≤ 200 := by
    unfold joinF
    have hol2 := filter_take (newB X) Y.ents k
    rw [fold_ins_len]; omega
  by_cases hlt : k < Y.ents.length
  · obtain ⟨g, o, x, rfl, hx, hd, hc⟩ := row_at hB hlt
    cases hp : newB X x with
    | false =>
      have hst : joinF X Y (k + 1) = joinF X Y k := by unfold joinF; rw [filter_no hx hp]
      have rw_c : X.ctx.covers ⟨x.dot.node, x.dot.life, x.dot.count⟩ = true := by simpa [newB] using hp
      refine sg S (.lt (by omega) rfl rfl <| .z) fun a w S => wp_seq_k fun _ hK3 => st_then S (.t rfl) (wp_skip (then_normal (hK3 _ _ (wp_seq_k fun _ hK3 => wp_block (wp_seq_k fun _ hK4 => wp_region_lit (run S (.ix underlying33 sizeOf71 (by omega) rfl rfl <| .yy (ys_ldOA ⟨isAgg71, sizeOf71⟩ (.t rfl) (vs := [_, _, _, _, _, _]) rfl (fun _ => hc)) rfl <| .z) fun a w S => st_m (op_alloc S zeroValue71 (cs := _) rfl rfl fun g6 a w S => st_m (op_stW S sizeOf71 (.t rfl) (.t rfl) (k := 0) rfl rfl rfl (by simp [Value.oneCell']) fun a w S => st_nil (then_normal (hK4 _ _ (wp_seq_k fun _ hK4 => wp_region_lit (run S (.fa underlying39 sizeOf37 1 rfl rfl rfl <| .la gt37 7 rfl rfl rfl <| .fa underlying71 sizeOf58 1 rfl rfl rfl <| .la gt58 0 rfl rfl rfl <| .xx (ys_call call37 (.cons (.t rfl) (.cons (.t rfl) .nil)) (fun hp w W => c37 _ _ _ _ _ _ _ (by exact .old W (by assumption)))) rfl <| .z) fun a w S => ?_))))))))))))
      rw [rw_covX] at S
      rw [rw_c] at S
      refine run S (.nt rfl <| .z) fun a w S => st_nil (then_normal (hK4 _ _ (st_else S (.t rfl) (wp_skip (in_normal (then_normal (hK3 _ _ (wp_region_lit (run S (.ad (by unfold I64; omega) rfl <| .mv rfl <| .z) fun a w S => st_nil (then_normal ?_))))))))))
      exact ⟨(k + 1, E, cE), by dsimp only; omega, by dsimp only; omega, by dsimp only; rw [hst]; exact S.pk⟩
    | true =>
      have hst : joinF X Y (k + 1) = insE x (joinF X Y k) := by unfold joinF; rw [filter_yes hx hp, List.foldl_append]; rfl
      have rw_c : X.ctx.covers ⟨x.dot.node, x.dot.life, x.dot.count⟩ = false := by simpa [newB] using hp
      generalize joinF X Y k = O at S hst hol3
      refine sg S (.lt (by omega) rfl rfl <| .z) fun a w S => wp_seq_k fun _ hK3 => st_then S (.t rfl) (wp_skip (then_normal (hK3 _ _ (wp_seq_k fun _ hK3 => wp_block (wp_seq_k fun _ hK4 => wp_region_lit (run S (.ix underlying33 sizeOf71 (by omega) rfl rfl <| .yy (ys_ldOA ⟨isAgg71, sizeOf71⟩ (.t rfl) (vs := [_, _, _, _, _, _]) rfl (fun _ => hc)) rfl <| .z) fun a w S => st_m (op_alloc S zeroValue71 (cs := _) rfl rfl fun g6 a w S => st_m (op_stW S sizeOf71 (.t rfl) (.t rfl) (k := 0) rfl rfl rfl (by simp [Value.oneCell']) fun a w S => st_nil (then_normal (hK4 _ _ (wp_seq_k fun _ hK4 => wp_region_lit (run S (.fa underlying39 sizeOf37 1 rfl rfl rfl <| .la gt37 7 rfl rfl rfl <| .fa underlying71 sizeOf58 1 rfl rfl rfl <| .la gt58 0 rfl rfl rfl <| .xx (ys_call call37 (.cons (.t rfl) (.cons (.t rfl) .nil)) (fun hp w W => c37 _ _ _ _ _ _ _ (by exact .old W (by assumption)))) rfl <| .z) fun a w S => ?_))))))))))))
      rw [rw_covX] at S
      rw [rw_c] at S
      refine run S (.nt rfl <| .z) fun a w S => st_nil (then_normal (hK4 _ _ (st_then S (.t rfl) (wp_region_lit (run S (.fa underlying39 sizeOf33 0 rfl rfl rfl <| .ld gt33 2 rfl rfl rfl <| .la gt71 0 rfl rfl rfl <| .z) fun a w S => ?_)))))
      (refine st_m (op_calls S call86 (.cons (.t rfl) (.cons (.t rfl) .nil)) (c86 _ _ _ _ (by exact Sl.of_own S.wd (k := 1) rfl (fun _ => rfl)) (by omega)) rfl ?_); clear S a w; rintro _ _ ⟨A12, r12, rfl, rfl⟩ a w S)
      refine run S (.fa underlying39 sizeOf33 0 rfl rfl rfl <| .z) fun a w S => st_m (op_st S sizeOf33 (.t rfl) (.t rfl) (k := 3) rfl rfl (by simp) fun a w S => st_nil (in_normal (then_normal (hK3 _ _ (wp_region_lit (run S (.ad (by unfold I64; omega) rfl <| .mv rfl <| .z) fun a w S => st_nil (then_normal ?_)))))))
      exact ⟨(k + 1, A12, r12), by dsimp only; omega, by dsimp only; omega, by dsimp only; rw [hst]; exact S.pk⟩
  obtain rfl : k = Y.ents.length := by omega
  have e1 : joinF X Y Y.ents.length = joinE X Y := by unfold joinF; rw [List.take_length]; rfl
  rw [e1] at S hol3
  have hjl := joinE_len oX oY
  by_cases hbig : 64 < (joinE X Y).length ∨ 32 < itemsN (joinE X Y)
  · have rw_b : ∀ x y : Value, (if 64 < (joinE X Y).length ∨ 32 < itemsN (joinE X Y) then x else y) = x := fun _ _ => if_pos hbig
    rw [if_pos hbig] at eJ
    refine sg S (.ge (by omega) rfl rfl <| .z) fun a w S => wp_seq_k fun _ hK3 => st_else S (.t rfl) (wp_exit (then_exit (then_exit (in_here (then_normal (hK1 _ _ (wp_seq_k fun _ hK1 => wp_seq_k fun _ hK4 => wp_region_lit (run S (.la gt39 1 rfl rfl rfl <| .xx (ys_call call88 (.cons (.t rfl) .nil) (fun hp w W => c88 _ _ _ _ _ _ _ _ _ (by exact Sl.of_own W (k := 0) rfl (fun _ => rfl)) (by omega))) rfl <| .z) fun a w S => ?_))))))))
    rw [rw_b] at S
    refine run S (.mv rfl <| .ex rfl rfl <| .ex rfl rfl <| .z) fun a w S => st_m (op_alloc S zeroValue39 (cs := _) rfl rfl fun g6 a w S => st_m (op_stW S sizeOf39 (.t rfl) (.t rfl) (k := 0) rfl rfl rfl (by simp [Value.oneCell']) fun a w S => run S (.as rfl <| .z) fun a w S => st_nil (then_normal (hK4 _ _ (sg S (.mv rfl <| .yy (ys_T (by omega) (ys_neq (.t rfl) Ev.c)) rfl <| .z) fun a w S => st_then S (.t rfl) (wp_seq_k fun _ hK4 => wp_region_lit (run S (.yy (ys_bld (ps := []) (us := [_, _, _]) bld39 .nil rfl) rfl <| .mv rfl <| .z) fun a w S => st_m (op_stW S sizeOf39 (.t rfl) (.t rfl) (k := 5) rfl rfl rfl (by simp [Value.oneCell']) fun a w S => run S (.as rfl <| .z) fun a w S => st_nil (then_normal (hK4 _ _ (wp_ret (then_ret (st_ret S (results2 S results34 (Rv.cell (k := 5) ⟨isAgg39, sizeOf39⟩ rfl rfl rfl) (Rv.tmp rfl)) ?_)))))))))))))
    rw [eJ]
    exact ⟨_, _, rfl, (((S.nil_ 58 3 Dot.enc none).nil_ 122 3 Dot.enc none).nil_ 71 6 Ent.enc none).wd.sub (by repeat (first | exact List.Sublist.refl _ | exact List.nil_sublist _ | refine .cons_cons _ ?_ | refine .cons _ ?_)), none, 0, none, 0, none, 0, rfl, rfl⟩
  have rw_b : ∀ x y : Value, (if 64 < (joinE X Y).length ∨ 32 < itemsN (joinE X Y) then x else y) = y := fun _ _ => if_neg hbig
  rw [if_neg hbig] at eJ
  refine sg S (.ge (by omega) rfl rfl <| .z) fun a w S => wp_seq_k fun _ hK3 => st_else S (.t rfl) (wp_exit (then_exit (then_exit (in_here (then_normal (hK1 _ _ (wp_seq_k fun _ hK1 => wp_seq_k fun _ hK4 => wp_region_lit (run S (.la gt39 1 rfl rfl rfl <| .xx (ys_call call88 (.cons (.t rfl) .nil) (fun hp w W => c88 _ _ _ _ _ _ _ _ _ (by exact Sl.of_own W (k := 0) rfl (fun _ => rfl)) (by omega))) rfl <| .z) fun a w S => ?_))))))))
  rw [rw_b] at S
  refine run S (.mv rfl <| .ex rfl rfl <| .ex rfl rfl <| .z) fun a w S => st_m (op_alloc S zeroValue39 (cs := _) rfl rfl fun g6 a w S => st_m (op_stW S sizeOf39 (.t rfl) (.t rfl) (k := 0) rfl rfl rfl (by simp [Value.oneCell']) fun a w S => run S (.as rfl <| .z) fun a w S => st_nil (then_normal (hK4 _ _ (sg S (.mv rfl <| .yy (ys_F (by omega) (ys_neq (.t rfl) Ev.c)) rfl <| .z) fun a w S => st_else S (.t rfl) (wp_skip (then_normal (hK1 _ _ (wp_seq_k fun _ hK1 => sg S (.fa underlying39 sizeOf33 0 rfl rfl rfl <| .ld gt33 7 rfl rfl rfl <| .ln underlying33 rfl <| .mc rfl <| .z) fun a w S => wp_block ?_)))))))))
  refine st_lpM S [103] (X := Nat) (fun k => [(103, true, .int .i64 (k : Int))])
    (fun q => [rowOf 71 6 Ent.enc E cE (joinE X Y), .blk g5 (.cells #[.slice E (joinE X Y).length cE, .slice A11 R.marks.length r11, .slice A21 R.cloud.length r21] 39), rowOf 122 3 Dot.enc A11 r11 R.marks, rowOf 58 3 Dot.enc A21 r21 R.cloud, .blk g3 (.cells #[.slice none 0 0, .slice none 0 0, .slice none 0 0] 39), .blk g2 (.cells #[.slice B Y.ents.length capB, .slice B2 Y.ctx.marks.length capB2, .slice B3 Y.ctx.cloud.length capB3] 39), .blk g1 (.cells #[.slice A X.ents.length cap, .slice A2 X.ctx.marks.length cap2, .slice A3 X.ctx.cloud.length cap3] 39)])
    (fun k => k ≤ X.ents.length ∧ ∀ x ∈ X.ents.take k, ∀ y ∈ Y.ents, x.dot = y.dot → x = y) (fun k => X.ents.length - k) 0 ⟨Nat.zero_le _, by simp⟩ ?_
  clear S
  rintro k a w ⟨hk, hno⟩ S
  by_cases hlt : k < X.ents.length
  · obtain ⟨g, o, x, rfl, hx, hd, hc⟩ := row_at hA hlt
    refine sg S (.lt (by omega) rfl rfl <| .z) fun a w S => wp_seq_k fun _ hK4 => st_then S (.t rfl) (wp_skip (then_normal (hK4 _ _ (wp_seq_k fun _ hK4 => wp_block (wp_seq_k fun _ hK5 => wp_region_lit (run S (.ix underlying33 sizeOf71 (by omega) rfl rfl <| .yy (ys_ldOA ⟨isAgg71, sizeOf71⟩ (.t rfl) (vs := [_, _, _, _, _, _]) rfl (fun _ => hc)) rfl <| .z) fun a w S => st_m (op_alloc S zeroValue71 (cs := _) rfl rfl fun g7 a w S => st_m (op_stW S sizeOf71 (.t rfl) (.t rfl) (k := 0) rfl rfl rfl (by simp [Value.oneCell']) fun a w S => st_nil (then_normal (hK5 _ _ (sg S (.fa underlying39 sizeOf33 0 rfl rfl rfl <| .ld gt33 6 rfl rfl rfl <| .ln underlying33 rfl <| .mc rfl <| .z) fun a w S => wp_block ?_)))))))))))
    refine st_lpM S [110] (X := Nat) (fun k => [(110, true, .int .i64 (k : Int))])
      (fun q => [.blk g7 (.cells (Ent.enc x).toArray 71), rowOf 71 6 Ent.enc E cE (joinE X Y), .blk g5 (.cells #[.slice E (joinE X Y).length cE, .slice A11 R.marks.length r11, .slice A21 R.cloud.length r21] 39), rowOf 122 3 Dot.enc A11 r11 R.marks, rowOf 58 3 Dot.enc A21 r21 R.cloud, .blk g3 (.cells #[.slice none 0 0, .slice none 0 0, .slice none 0 0] 39), .blk g2 (.cells #[.slice B Y.ents.length capB, .slice B2 Y.ctx.marks.length capB2, .slice B3 Y.ctx.cloud.length capB3] 39), .blk g1 (.cells #[.slice (some ⟨g, o, none⟩) X.ents.length cap, .slice A2 X.ctx.marks.length cap2, .slice A3 X.ctx.cloud.length cap3] 39)])
      (fun m => m ≤ Y.ents.length ∧ ∀ y ∈ Y.ents.take m, x.dot = y.dot → x = y) (fun m => Y.ents.length - m) 0 ⟨Nat.zero_le _, by simp⟩ ?_
    clear S
    rintro m a w ⟨hm, hno2⟩ S
    by_cases hlt : m < Y.ents.length
    · obtain ⟨g', o', y, rfl, hy, hd', hc'⟩ := row_at hB hlt
      by_cases h1 : x.dot = y.dot
      · by_cases h2 : x = y
        · have rw_1 := decide_eq_true (dot_iff3.1 h1)
          have rw_2 := decide_eq_true (ent_iff.1 h2)
          refine sg S (.lt (by omega) rfl rfl <| .z) fun a w S => wp_seq_k fun _ hK5 => st_then S (.t rfl) (wp_skip (then_normal (hK5 _ _ (wp_seq_k fun _ hK5 => wp_block (wp_seq_k fun _ hK6 => wp_region_lit (run S (.ix underlying33 sizeOf71 (by omega) rfl rfl <| .yy (ys_ldOA ⟨isAgg71, sizeOf71⟩ (.t rfl) (vs := [_, _, _, _, _, _]) rfl (fun _ => hc')) rfl <| .z) fun a w S => st_m (op_alloc S zeroValue71 (cs := _) rfl rfl fun g8 a w S => st_m (op_stW S sizeOf71 (.t rfl) (.t rfl) (k := 0) rfl rfl rfl (by simp [Value.oneCell']) fun a w S => st_nil (then_normal (hK6 _ _ (wp_seq_k fun _ hK6 => wp_region_lit (run S (.fa underlying71 sizeOf58 1 rfl rfl rfl <| .la gt58 1 rfl rfl rfl <| .fa underlying71 sizeOf58 1 rfl rfl rfl <| .la gt58 0 rfl rfl rfl <| .yy (ys_eqA (.t rfl) (.t rfl) eq58) rfl <| .z) fun a w S => ?_))))))))))))
          rw [rw_1] at S
          refine run S (.mv rfl <| .gy rfl rfl (ys_ldA ⟨isAgg71, sizeOf71⟩ (.t rfl) (k := 1) rfl rfl) <| .gy rfl rfl (ys_ldA ⟨isAgg71, sizeOf71⟩ (.t rfl) (k := 0) rfl rfl) <| .gy rfl rfl (ys_neA (.t rfl) (.t rfl) eq71) <| .z) fun a w S => ?_
          rw [rw_2] at S
          refine run S (.yy (ys_pickT (.t rfl) (.t rfl)) rfl <| .z) fun a w S => st_nil (then_normal (hK6 _ _ (st_else S (.t rfl) (wp_skip (in_normal (then_normal (hK5 _ _ (wp_region_lit (run S (.ad (by unfold I64; omega) rfl <| .mv rfl <| .z) fun a w S => st_nil (then_normal ?_))))))))))
          refine ⟨m + 1, ⟨by omega, fun z hz hzd => ?_⟩, by omega, S.pk⟩
          rw [List.take_add_one, hy, Option.toList_some] at hz
          rcases List.mem_append.1 hz with hz | hz
          · exact hno2 z hz hzd
          · simp at hz; subst hz; exact h2
        · have rw_1 := decide_eq_true (dot_iff3.1 h1)
          have rw_2 := decide_eq_false (fun h => h2 (ent_iff.2 h))
          refine sg S (.lt (by omega) rfl rfl <| .z) fun a w S => wp_seq_k fun _ hK5 => st_then S (.t rfl) (wp_skip (then_normal (hK5 _ _ (wp_seq_k fun _ hK5 => wp_block (wp_seq_k fun _ hK6 => wp_region_lit (run S (.ix underlying33 sizeOf71 (by omega) rfl rfl <| .yy (ys_ldOA ⟨isAgg71, sizeOf71⟩ (.t rfl) (vs := [_, _, _, _, _, _]) rfl (fun _ => hc')) rfl <| .z) fun a w S => st_m (op_alloc S zeroValue71 (cs := _) rfl rfl fun g8 a w S => st_m (op_stW S sizeOf71 (.t rfl) (.t rfl) (k := 0) rfl rfl rfl (by simp [Value.oneCell']) fun a w S => st_nil (then_normal (hK6 _ _ (wp_seq_k fun _ hK6 => wp_region_lit (run S (.fa underlying71 sizeOf58 1 rfl rfl rfl <| .la gt58 1 rfl rfl rfl <| .fa underlying71 sizeOf58 1 rfl rfl rfl <| .la gt58 0 rfl rfl rfl <| .yy (ys_eqA (.t rfl) (.t rfl) eq58) rfl <| .z) fun a w S => ?_))))))))))))
          rw [rw_1] at S
          refine run S (.mv rfl <| .gy rfl rfl (ys_ldA ⟨isAgg71, sizeOf71⟩ (.t rfl) (k := 1) rfl rfl) <| .gy rfl rfl (ys_ldA ⟨isAgg71, sizeOf71⟩ (.t rfl) (k := 0) rfl rfl) <| .gy rfl rfl (ys_neA (.t rfl) (.t rfl) eq71) <| .z) fun a w S => ?_
          rw [rw_2] at S
          refine run S (.yy (ys_pickT (.t rfl) (.t rfl)) rfl <| .z) fun a w S => st_nil (then_normal (hK6 _ _ (st_then S (.t rfl) (wp_seq_k fun _ hK6 => wp_region_lit (run S (.yy (ys_bld (ps := []) (us := [_, _, _]) bld39 .nil rfl) rfl <| .z) fun a w S => st_m (op_stW S sizeOf39 (.t rfl) (.t rfl) (k := 6) rfl rfl rfl (by simp [Value.oneCell']) fun a w S => run S (.ac rfl <| .z) fun a w S => st_nil (then_normal (hK6 _ _ (wp_ret (in_ret (then_ret (then_ret (in_ret (in_ret (then_ret (then_ret (in_ret (then_ret (st_ret S (results2 S results34 (Rv.cell (k := 6) ⟨isAgg39, sizeOf39⟩ rfl rfl rfl) (Rv.tmp rfl)) ?_)))))))))))))))))))
          have hcl : clashE X Y := ⟨x, List.mem_of_getElem? hx, y, List.mem_of_getElem? hy, h1, h2⟩
          rw [if_pos hcl] at eJ
          rw [eJ]
          exact ⟨_, _, rfl, (((S.nil_ 58 3 Dot.enc none).nil_ 122 3 Dot.enc none).nil_ 71 6 Ent.enc none).wd.sub (by repeat (first | exact List.Sublist.refl _ | exact List.nil_sublist _ | refine .cons_cons _ ?_ | refine .cons _ ?_)), none, 0, none, 0, none, 0, rfl, rfl⟩
      · have rw_1 := decide_eq_false (fun h => h1 (dot_iff3.2 h))
        refine sg S (.lt (by omega) rfl rfl <| .z) fun a w S => wp_seq_k fun _ hK5 => st_then S (.t rfl) (wp_skip (then_normal (hK5 _ _ (wp_seq_k fun _ hK5 => wp_block (wp_seq_k fun _ hK6 => wp_region_lit (run S (.ix underlying33 sizeOf71 (by omega) rfl rfl <| .yy (ys_ldOA ⟨isAgg71, sizeOf71⟩ (.t rfl) (vs := [_, _, _, _, _, _]) rfl (fun _ => hc')) rfl <| .z) fun a w S => st_m (op_alloc S zeroValue71 (cs := _) rfl rfl fun g8 a w S => st_m (op_stW S sizeOf71 (.t rfl) (.t rfl) (k := 0) rfl rfl rfl (by simp [Value.oneCell']) fun a w S => st_nil (then_normal (hK6 _ _ (wp_seq_k fun _ hK6 => wp_region_lit (run S (.fa underlying71 sizeOf58 1 rfl rfl rfl <| .la gt58 1 rfl rfl rfl <| .fa underlying71 sizeOf58 1 rfl rfl rfl <| .la gt58 0 rfl rfl rfl <| .yy (ys_eqA (.t rfl) (.t rfl) eq58) rfl <| .z) fun a w S => ?_))))))))))))
        rw [rw_1] at S
        refine run S (.mv rfl <| .sk rfl rfl rfl <| .sk rfl rfl rfl <| .sk rfl rfl rfl <| .yy (ys_pickF (.t rfl) Ev.c) rfl <| .z) fun a w S => st_nil (then_normal (hK6 _ _ (st_else S (.t rfl) (wp_skip (in_normal (then_normal (hK5 _ _ (wp_region_lit (run S (.ad (by unfold I64; omega) rfl <| .mv rfl <| .z) fun a w S => st_nil (then_normal ?_))))))))))
        refine ⟨m + 1, ⟨by omega, fun z hz hzd => ?_⟩, by omega, S.pk⟩
        rw [List.take_add_one, hy, Option.toList_some] at hz
        rcases List.mem_append.1 hz with hz | hz
        · exact hno2 z hz hzd
        · simp at hz; subst hz; exact absurd hzd h1
    · obtain rfl : m = Y.ents.length := by omega
      rw [List.take_length] at hno2
      refine sg S (.ge (by omega) rfl rfl <| .z) fun a w S => wp_seq_k fun _ hK5 => st_else S (.t rfl) (wp_exit (then_exit (then_exit (in_here (in_normal (then_normal (hK4 _ _ (wp_region_lit (run S (.ad (by unfold I64; omega) rfl <| .mv rfl <| .z) fun a w S => st_nil (then_normal ?_))))))))))
      refine ⟨k + 1, ⟨by omega, fun z hz => ?_⟩, by omega, S.pk⟩
      rw [List.take_add_one, hx, Option.toList_some] at hz
      rcases List.mem_append.1 hz with hz | hz
      · exact hno z hz
      · simp at hz; subst hz; exact hno2
  obtain rfl : k = X.ents.length := by omega
  rw [List.take_length] at hno
  have hcl : ¬ clashE X Y := fun ⟨x, hx, y, hy, h1, h2⟩ => h2 (hno x hx y hy h1)
  rw [if_neg hcl] at eJ
  refine sg S (.ge (by omega) rfl rfl <| .z) fun a w S => wp_seq_k fun _ hK4 => st_else S (.t rfl) (wp_exit (then_exit (then_exit (in_here (then_normal (hK1 _ _ (wp_seq_k fun _ hK1 => wp_region_lit (run S (.la gt39 1 rfl rfl rfl <| .z) fun a w S => st_m (op_stW S sizeOf39 (.t rfl) (.t rfl) (k := 4) rfl rfl rfl (by simp [Value.oneCell']) fun a w S => run S (.ac rfl <| .z) fun a w S => st_nil (then_normal (hK1 _ _ (wp_ret (st_ret S (results2 S results34 (Rv.cell (k := 4) ⟨isAgg39, sizeOf39⟩ rfl rfl rfl) (Rv.tmp rfl)) ?_)))))))))))))
  rw [eJ]
  exact ⟨_, _, rfl, S.wd.pk, _, _, _, _, _, _, rfl, rfl⟩
end Go.Proofs.YtfblmkocmnbdcaaGreat
set_option linter.unusedVariables false
set_option linter.unusedSimpArgs false
set_option maxRecDepth 100000
set_option maxHeartbeats 4000000
namespace Go.Fw
theorem cart_same {X Y : Cart} : (decide (X.ents = Y.ents) && decide (X.ctx = Y.ctx)) = decide (X = Y) := by
  cases X; cases Y; simp
end Go.Fw
namespace Go.Proofs.YtfblmkocmnbdcaaGreat
open Go.Fw Go.Proofs Go.RowKit Go.Proofs.Tryz
theorem c17 (w0 : World) (v1 v2 v3 v4 v5 v6 : Value) (X Y : Cart) (h : Sl Ent.enc 6 w0 w0.heap.size v1 X.ents) (hr : RdCtx w0 w0.heap.size v2 v3 X.ctx) (h' : Sl Ent.enc 6 w0 w0.heap.size v4 Y.ents) (hr' : RdCtx w0 w0.heap.size v5 v6 Y.ctx) :
    Calls Tryz.prog 17 #[.agg #[v1, v2, v3], .agg #[v4, v5, v6]] w0 fun e w' => e = .returned (.bool (decide (X = Y))) ∧ Bel w0.heap.size w0 w' := by
  have hs := h
  have hrr := hr
  have hs' := h'
  have hrr' := hr'
  obtain ⟨A, cap, rfl, hl, hcap, hA⟩ := h
  obtain ⟨⟨A2, cap2, rfl, _⟩, ⟨A3, cap3, rfl, _⟩⟩ := hr
  obtain ⟨B, capB, rfl, hlB, hcapB, hB⟩ := h'
  obtain ⟨⟨B2, capB2, rfl, _⟩, ⟨B3, capB3, rfl, _⟩⟩ := hr'
  refine enter2 func17 rfl ntmps17 rfl fun a S => wp_seq_k fun _ hK1 => wp_region_lit (st_m (op_box S (.t rfl) rfl fun g1 a w S => st_m (op_box S (.t rfl) rfl fun g2 a w S => run S (.ac rfl <| .z) fun a w S => st_nil (then_normal (hK1 _ _ (wp_seq_k fun _ hK1 => wp_region_lit (run S (.fa underlying39 sizeOf33 0 rfl rfl rfl <| .ld gt33 1 rfl rfl rfl <| .fa underlying39 sizeOf33 0 rfl rfl rfl <| .ld gt33 0 rfl rfl rfl <| .xx (ys_call call61 (.cons (.t rfl) (.cons (.t rfl) .nil)) (fun hp w W => c61 _ _ _ _ _ (by exact .old W (by assumption)) (by exact .old W (by assumption)))) rfl <| .mv rfl <| .z) fun a w S => st_yg S rfl rfl (Yr.ys (ys_fieldN (FieldT.mk underlying39 rfl sizeOf37 rfl) (.t rfl) (i' := 1) rfl)) rfl fun a w S => st_yg S rfl rfl (Yr.ys (ys_ldA ⟨isAgg37, sizeOf37⟩ (Ev.g rfl) (k := 1) rfl rfl)) rfl fun a w S => st_yg S rfl rfl (Yr.ys (ys_fieldN (FieldT.mk underlying39 rfl sizeOf37 rfl) (.t rfl) (i' := 1) rfl)) rfl fun a w S => st_yg S rfl rfl (Yr.ys (ys_ldA ⟨isAgg37, sizeOf37⟩ (Ev.g rfl) (k := 0) rfl rfl)) rfl fun a w S => st_yg S rfl rfl (ys_call call62 (.cons (Ev.g rfl) (.cons (Ev.g rfl) .nil)) (fun hp w W => c62 _ _ _ _ _ _ _ (by exact .old W (by assumption)) (by exact .old W (by assumption)))) rfl fun a w S => run S (.yy (ys_and (.t rfl) (Ev.g rfl) Ev.c) rfl <| .as rfl <| .z) fun a w S => st_nil (then_normal (hK1 _ _ (wp_ret ?_))))))))))
  refine st_ret S (results1 S results17 (Rv.tmp rfl)) ?_
  exact ⟨by rw [cart_same], S.wd.below⟩
end Go.Proofs.YtfblmkocmnbdcaaGreat
set_option linter.unusedVariables false
set_option linter.unusedSimpArgs false
set_option maxRecDepth 100000
set_option maxHeartbeats 4000000
namespace Go.Fw
theorem cart_lens {c : Cart} (h : CartOk c) : c.ents.length ≤ 64 ∧ c.ctx.marks.length ≤ 64 ∧ c.ctx.cloud.length ≤ 64 := ⟨h.len, (can_len h.ctx).1, (can_len h.ctx).2⟩
theorem join_lens (a b : Cart) : (joinK a b).1.ents.length ≤ 1048576 ∧ (joinK a b).1.ctx.marks.length ≤ 1048576 ∧ (joinK a b).1.ctx.cloud.length ≤ 1048576 := by
  by_cases hA : canE a = 0
  · by_cases hB : canE b = 0
    · have ha := (canE_ok a).1 hA
      have hb := (canE_ok b).1 hB
      by_cases h : (joinK a b).2 = 0
      · have := cart_lens (joinK_cart ha hb h)
        omega
      · have e : (joinK a b).1 = Cart.zero := by
          rw [joinK_eq ha hb] at h ⊢
          split
          · rfl
          · rename_i h1
            rw [if_neg h1] at h
            split
            · rfl
            · rename_i h2
              rw [if_neg h2] at h
              split
              · rfl
              · rename_i h3
                rw [if_neg h3] at h; exact absurd rfl h
        rw [e]
        simp [Cart.zero]
    · have e : (joinK a b).1 = Cart.zero := by unfold joinK; rw [if_pos hA, if_neg hB]
      rw [e]
      simp [Cart.zero]
  · have e : (joinK a b).1 = Cart.zero := by unfold joinK; rw [if_neg hA]
    rw [e]
    simp [Cart.zero]
end Go.Fw
namespace Go.Proofs.YtfblmkocmnbdcaaGreat
open Go.Fw Go.Proofs Go.RowKit Go.Proofs.Tryz
end Go.Proofs.YtfblmkocmnbdcaaGreat
set_option linter.unusedVariables false
set_option linter.unusedSimpArgs false
namespace Go.Fw
open Go.RowKit
def downU (U : List Upd) (c : Cart) (u : Upd) : Prop := c.ctx.covers u.dot = true ∧ (¬ 0 < u.qty ∨ ∃ v ∈ U, c.ctx.covers v.dot = true ∧ v.item = u.item ∧ v.seen.ctx.covers u.dot = true)
structure InH (U : List Upd) (c : Cart) : Prop where
  ok : CartOk c
  ent : ∀ e ∈ c.ents, ∃ u ∈ U, e = u.ent
  cov : ∀ d, c.ctx.covers d = true → ∃ u ∈ U, u.dot = d
  clos : ∀ u ∈ U, c.ctx.covers u.dot = true → ∀ d, u.seen.ctx.covers d = true → c.ctx.covers d = true
  down : ∀ u ∈ U, killsK c u.ent ↔ downU U c u
theorem covers_zero (d : Dot) : Cart.zero.ctx.covers d = false := by
  rw [Bool.eq_false_iff]
  intro h
  rw [covers_iff] at h
  obtain ⟨h1, h2 | h2⟩ := h
  · simp [markOf] at h2; omega
  · simp at h2
theorem inH_zero (U : List Upd) : InH U Cart.zero := by
  refine ⟨cart_zero, fun e h => by simp at h, fun d h => ?_, fun u _ h => ?_, fun u _ => ?_⟩
  · rw [covers_zero] at h; cases h
  · rw [covers_zero] at h; cases h
  · exact ⟨fun h => (by have := h.1; rw [covers_zero] at this; cases this), fun h => (by have := h.1; rw [covers_zero] at this; cases this)⟩
theorem inH_uni {U : List Upd} {a b : Cart} (ha : InH U a) (hb : InH U b) (h : fitK a b) : InH U (uniK a b) := by
  have hc : ∀ d, (uniK a b).ctx.covers d = true ↔ a.ctx.covers d = true ∨ b.ctx.covers d = true := uni_covers (can_nf ha.ok.ctx) (can_nf hb.ok.ctx)
  refine ⟨uni_ok ha.ok hb.ok h, fun e he => ?_, fun d hd => ?_, fun u hu hcv d hd => ?_, fun u hu => ?_⟩
  · rcases ((stays_iff ha.ok hb.ok e).1 he).1 with h | h
    · exact ha.ent e h
    · exact hb.ent e h
  · rcases (hc d).1 hd with h | h
    · exact ha.cov d h
    · exact hb.cov d h
  · rcases (hc _).1 hcv with h | h
    · exact (hc d).2 (.inl (ha.clos u hu h d hd))
    · exact (hc d).2 (.inr (hb.clos u hu h d hd))
  · rw [uni_kills ha.ok hb.ok, ha.down u hu, hb.down u hu]
    unfold downU
    rw [hc]
    constructor
    · rintro (⟨h1, h2⟩ | ⟨h1, h2⟩)
      · refine ⟨.inl h1, h2.imp id ?_⟩
        rintro ⟨v, k1, k2, k3⟩
        exact ⟨v, k1, (hc _).2 (.inl k2), k3⟩
      · refine ⟨.inr h1, h2.imp id ?_⟩
        rintro ⟨v, k1, k2, k3⟩
        exact ⟨v, k1, (hc _).2 (.inr k2), k3⟩
    · rintro ⟨h1, h2 | ⟨v, k1, k2, k3, k4⟩⟩
      · rcases h1 with h1 | h1
        · exact .inl ⟨h1, .inl h2⟩
        · exact .inr ⟨h1, .inl h2⟩
      · rcases (hc _).1 k2 with k2 | k2
        · exact .inl ⟨ha.clos v k1 k2 _ k4, .inr ⟨v, k1, k2, k3, k4⟩⟩
        · exact .inr ⟨hb.clos v k1 k2 _ k4, .inr ⟨v, k1, k2, k3, k4⟩⟩
theorem inH_join {U : List Upd} {a b : Cart} (ha : InH U a) (hb : InH U b) (h : (joinK a b).2 = 0) : InH U (joinK a b).1 := by
  rw [joinK_val ha.ok hb.ok h]
  exact inH_uni ha hb ((joinK_ok ha.ok hb.ok).1 h).1
def oneU (U : List Upd) : Prop := (U.map (·.dot)).Nodup
theorem inH_more {U : List Upd} {c : Cart} {u : Upd} (h : InH U c) (hn : u.dot ∉ U.map (·.dot)) : InH (U ++ [u]) c := by
  have hno : c.ctx.covers u.dot = false := by
    rw [Bool.eq_false_iff]
    intro hc
    obtain ⟨v, hv, e⟩ := h.cov _ hc
    exact hn (List.mem_map.2 ⟨v, hv, e⟩)
  refine ⟨h.ok, fun e he => ?_, fun d hd => ?_, fun v hv hc d hd => ?_, fun v hv => ?_⟩
  · obtain ⟨v, hv, rfl⟩ := h.ent e he
    exact ⟨v, by simp [hv], rfl⟩
  · obtain ⟨v, hv, rfl⟩ := h.cov d hd
    exact ⟨v, by simp [hv], rfl⟩
  · rcases List.mem_append.1 hv with hv | hv
    · exact h.clos v hv hc d hd
    · simp at hv; subst hv; rw [hno] at hc; cases hc
  · rcases List.mem_append.1 hv with hv | hv
    · rw [h.down v hv]
      unfold downU
      constructor
      · rintro ⟨h1, h2⟩
        refine ⟨h1, h2.imp id ?_⟩
        rintro ⟨x, k1, k2⟩
        exact ⟨x, by simp [k1], k2⟩
      · rintro ⟨h1, h2⟩
        refine ⟨h1, h2.imp id ?_⟩
        rintro ⟨x, k1, k2, k3⟩
        rcases List.mem_append.1 k1 with k1 | k1
        · exact ⟨x, k1, k2, k3⟩
        · simp at k1; subst k1; rw [hno] at k2; cases k2
    · simp at hv
      subst hv
      unfold killsK downU
      simp [hno]
theorem inH_apply {U : List Upd} {u : Upd} (hU : ∀ v ∈ U, InH U v.seen) (hs : InH U u.seen) (hn : u.dot ∉ U.map (·.dot)) (ha : (applyU u).2 = 0) : InH (U ++ [u]) (applyU u).1 := by
  obtain ⟨hu, hadd, he, hok⟩ := applyU_ok ha
  obtain ⟨_, hc⟩ := add_covers hu.seen.ctx hu.dot hadd
  rw [he] at hok ⊢
  dsimp only at hok ⊢
  have hnv : ∀ v ∈ U, v.seen.ctx.covers u.dot = false := fun v hv => by
    rw [Bool.eq_false_iff]
    intro h
    obtain ⟨x, hx, e⟩ := (hU v hv).cov _ h
    exact hn (List.mem_map.2 ⟨x, hx, e⟩)
  refine ⟨hok, fun e he => ?_, fun d hd => ?_, fun v hv hcv d hd => ?_, fun v hv => ?_⟩
  · dsimp only at he
    rw [apply_mem] at he
    rcases he with ⟨_, rfl⟩ | ⟨he, _⟩
    · exact ⟨u, by simp, rfl⟩
    · obtain ⟨v, hv, rfl⟩ := hs.ent e he
      exact ⟨v, by simp [hv], rfl⟩
  · rcases (hc d).1 hd with hd | rfl
    · obtain ⟨v, hv, rfl⟩ := hs.cov d hd
      exact ⟨v, by simp [hv], rfl⟩
    · exact ⟨u, by simp, rfl⟩
  · rcases List.mem_append.1 hv with hv | hv
    · rcases (hc v.dot).1 hcv with h | h
      · exact (hc d).2 (.inl (hs.clos v hv h d hd))
      · exact absurd (List.mem_map.2 ⟨v, hv, h⟩) hn
    · simp at hv
      subst hv
      exact (hc d).2 (.inl hd)
  · have hmem : ∀ x : Upd, x ∈ U ++ [u] ↔ x ∈ U ∨ x = u := fun x => by simp
    rw [hmem] at hv
    unfold killsK downU
    dsimp only
    rw [apply_mem]
    rcases hv with hv | rfl
    · have hvu : v.dot ≠ u.dot := fun e => hn (List.mem_map.2 ⟨v, hv, e⟩)
      have hve : v.ent ≠ u.ent := fun e => hvu (congrArg Ent.dot e)
      have hd := hs.down v hv
      unfold killsK downU at hd
      have hcv : (addL u.seen.ctx u.dot).1.covers v.dot = true ↔ u.seen.ctx.covers v.dot = true := by
        rw [hc]; exact ⟨fun h => h.resolve_right hvu, .inl⟩
      show (addL u.seen.ctx u.dot).1.covers v.dot = true ∧ ¬ ((0 < u.qty ∧ v.ent = u.ent) ∨ (v.ent ∈ u.seen.ents ∧ v.item ≠ u.item)) ↔ _
      rw [hcv]
      constructor
      · rintro ⟨h1, h2⟩
        refine ⟨h1, ?_⟩
        by_cases hit : v.item = u.item
        · exact .inr ⟨u, by simp, (hc _).2 (.inr rfl), hit.symm, h1⟩
        · have h3 : v.ent ∉ u.seen.ents := fun h => h2 (.inr ⟨h, hit⟩)
          obtain ⟨_, h4⟩ := hd.1 ⟨h1, h3⟩
          refine h4.imp id ?_
          rintro ⟨x, k1, k2, k3⟩
          exact ⟨x, by simp [k1], (hc _).2 (.inl k2), k3⟩
      · rintro ⟨h1, h2⟩
        refine ⟨h1, ?_⟩
        rintro (⟨_, h3⟩ | ⟨h3, h4⟩)
        · exact hve h3
        · have h5 : ¬ (u.seen.ctx.covers v.dot = true ∧ v.ent ∉ u.seen.ents) := fun h => h.2 h3
          rw [hd] at h5
          refine h5 ⟨h1, h2.imp id ?_⟩
          rintro ⟨x, k1, k2, k3, k4⟩
          rcases (hmem x).1 k1 with k1 | rfl
          · rcases (hc _).1 k2 with k2 | k2
            · exact ⟨x, k1, k2, k3, k4⟩
            · exact absurd (List.mem_map.2 ⟨x, k1, k2⟩) hn
          · exact absurd k3.symm h4
    · have hcv : (addL v.seen.ctx v.dot).1.covers v.dot = true := (hc _).2 (.inr rfl)
      have hni : v.ent ∉ v.seen.ents := fun h => by
        have := ok_cov hu.seen h
        rw [hu.new] at this; cases this
      constructor
      · rintro ⟨h1, h2⟩
        refine ⟨hcv, .inl fun h => h2 (.inl ⟨h, rfl⟩)⟩
      · rintro ⟨h1, h2⟩
        refine ⟨hcv, ?_⟩
        rintro (⟨h3, _⟩ | ⟨h3, _⟩)
        · rcases h2 with h2 | ⟨x, k1, k2, k3, k4⟩
          · exact h2 h3
          · rcases (hmem x).1 k1 with k1 | rfl
            · rw [hnv x k1] at k4; cases k4
            · rw [hu.new] at k4; cases k4
        · exact hni h3
structure Hist where
  items : List (List UInt8)
  qtys : List Int
  prices : List UInt64
  nodes : List Int
  saws : List UInt64
def bitU (w : UInt64) (k : Nat) : Bool := decide (w.toNat / 2 ^ k % 2 = 1)
def pickF (c s : Cart) (b : Bool) : Cart := if b then (if (joinK c s).2 = 0 then (joinK c s).1 else c) else c
def pickTo (sts : List Cart) (w : UInt64) : Nat → Cart
  | 0 => Cart.zero
  | k + 1 => match sts[k]? with
    | some s => pickF (pickTo sts w k) s (bitU w k)
    | none => pickTo sts w k
def pickK (sts : List Cart) (w : UInt64) : Cart := pickTo sts w sts.length
structure Play where
  st : List Cart
  up : List Upd
  ct : List Int
def Play.start : Play := ⟨[], [], List.replicate 8 0⟩
def nodeP (x : Int) : Nat := (x % 8).toNat
def stepU (S : Play) (item : List UInt8) (q : Int) (p : UInt64) (n : Int) (w : UInt64) : Upd :=
  ⟨[107], ⟨(nodeP n : Int), 1 + ((nodeP n % 2 : Nat) : Int), S.ct.getD (nodeP n) 0 + 1⟩, item, if q ≤ 0 then 0 else q, if q ≤ 0 then 0 else p, pickK S.st w⟩
def stepP (S : Play) (u : Upd) (n : Int) : Play := if (applyU u).2 = 0 then ⟨S.st ++ [(applyU u).1], S.up ++ [u], S.ct.set (nodeP n) (S.ct.getD (nodeP n) 0 + 1)⟩ else S
def Hist.many (h : Hist) : Nat := min (min (min (min (min h.items.length 12) h.qtys.length) h.prices.length) h.nodes.length) h.saws.length
def playTo (h : Hist) : Nat → Play
  | 0 => Play.start
  | i + 1 => stepP (playTo h i) (stepU (playTo h i) (h.items.getD i []) (h.qtys.getD i 0) (h.prices.getD i 0) (h.nodes.getD i 0) (h.saws.getD i 0)) (h.nodes.getD i 0)
def playK (h : Hist) : Play := playTo h h.many
theorem pick_inH {U : List Upd} {sts : List Cart} (hs : ∀ s ∈ sts, InH U s) (w : UInt64) : ∀ k, InH U (pickTo sts w k)
  | 0 => inH_zero U
  | k + 1 => by
    have ih := pick_inH hs w k
    unfold pickTo
    split
    · rename_i s hk
      unfold pickF
      split
      · split
        · rename_i h; exact inH_join ih (hs s (List.mem_of_getElem? hk)) h
        · exact ih
      · exact ih
    · exact ih
structure PlayOk (S : Play) : Prop where
  len : S.st.length = S.up.length
  ct : S.ct.length = 8
  one : oneU S.up
  cnt : ∀ u ∈ S.up, ∃ n : Nat, n < 8 ∧ u.dot.node = n ∧ u.dot.life = 1 + ((n % 2 : Nat) : Int) ∧ u.dot.count ≤ S.ct.getD n 0
  pos : ∀ n : Nat, 0 ≤ S.ct.getD n 0
  seen : ∀ u ∈ S.up, InH S.up u.seen
  st : ∀ s ∈ S.st, InH S.up s
  app : ∀ (i : Nat) (u : Upd), S.up[i]? = some u → S.st[i]? = some (applyU u).1 ∧ (applyU u).2 = 0
theorem play_start : PlayOk Play.start := by
  refine ⟨rfl, rfl, List.nodup_nil, fun u h => by simp [Play.start] at h, fun n => ?_, fun u h => by simp [Play.start] at h, fun u h => by simp [Play.start] at h, fun i u h => by simp [Play.start] at h⟩
  unfold Play.start
  dsimp only
  rw [List.getD_eq_getElem?_getD, List.getElem?_replicate]
  split <;> simp
theorem nodeP_lt (x : Int) : nodeP x < 8 := by unfold nodeP; omega
theorem getD_set {l : List Int} {n m : Nat} {x : Int} (h : n < l.length) : (l.set n x).getD m 0 = if n = m then x else l.getD m 0 := by
  rw [List.getD_eq_getElem?_getD, List.getD_eq_getElem?_getD, List.getElem?_set]
  by_cases e : n = m
  · subst e; rw [if_pos rfl, if_pos h, if_pos rfl]; rfl
  · rw [if_neg e, if_neg e]
theorem play_step {S : Play} (h : PlayOk S) (item : List UInt8) (q : Int) (p : UInt64) (n : Int) (w : UInt64) : PlayOk (stepP S (stepU S item q p n w) n) := by
  unfold stepP
  split
  · rename_i ha
    have hn8 := nodeP_lt n
    have hseen : InH S.up (pickK S.st w) := pick_inH h.st w _
    generalize hu : stepU S item q p n w = u at *
    have hd : u.dot = ⟨(nodeP n : Int), 1 + ((nodeP n % 2 : Nat) : Int), S.ct.getD (nodeP n) 0 + 1⟩ := by rw [← hu]; rfl
    have hs : u.seen = pickK S.st w := by rw [← hu]; rfl
    rw [← hs] at hseen
    have hnew : u.dot ∉ S.up.map (·.dot) := fun hm => by
      obtain ⟨v, hv, e⟩ := List.mem_map.1 hm
      obtain ⟨m, h1, h2, h3, h4⟩ := h.cnt v hv
      rw [e, hd] at h2 h4
      dsimp only at h2 h4
      have : nodeP n = m := by omega
      rw [this] at h4
      omega
    refine ⟨by dsimp only; rw [List.length_append, List.length_append, h.len]; rfl, by dsimp only; rw [List.length_set]; exact h.ct, ?_, fun v hv => ?_, fun m => ?_, fun v hv => ?_, fun s hsm => ?_, fun i v hv => ?_⟩
    · show ((S.up ++ [u]).map (·.dot)).Nodup
      rw [List.map_append, List.nodup_append]
      refine ⟨h.one, by simp, fun a ha b hb e => ?_⟩
      simp at hb
      subst hb
      exact hnew (e ▸ ha)
    · dsimp only at hv ⊢
      rcases List.mem_append.1 hv with hv | hv
      · obtain ⟨m, h1, h2, h3, h4⟩ := h.cnt v hv
        refine ⟨m, h1, h2, h3, ?_⟩
        rw [getD_set (by rw [h.ct]; exact hn8)]
        split
        · rename_i e; subst e; omega
        · exact h4
      · simp at hv
        subst hv
        refine ⟨nodeP n, hn8, by rw [hd], by rw [hd], ?_⟩
        rw [getD_set (by rw [h.ct]; exact hn8), if_pos rfl, hd]
        exact Int.le_refl _
    · dsimp only
      rw [getD_set (by rw [h.ct]; exact hn8)]
      have := h.pos m
      have := h.pos (nodeP n)
      split <;> omega
    · dsimp only at hv ⊢
      rcases List.mem_append.1 hv with hv | hv
      · exact inH_more (h.seen v hv) hnew
      · simp at hv
        subst hv
        exact inH_more hseen hnew
    · dsimp only at hsm ⊢
      rcases List.mem_append.1 hsm with hsm | hsm
      · exact inH_more (h.st s hsm) hnew
      · simp at hsm
        subst hsm
        exact inH_apply h.seen hseen hnew ha
    · dsimp only at hv ⊢
      rw [List.getElem?_append] at hv ⊢
      rw [h.len]
      split at hv
      · rename_i hi
        rw [if_pos hi]
        exact h.app i v hv
      · rename_i hi
        rw [if_neg hi]
        obtain ⟨h1, h2⟩ := List.getElem?_eq_some_iff.1 hv
        have h0 : i - S.up.length = 0 := by simp at h1; omega
        rw [h0] at hv ⊢
        simp at hv
        subst hv
        exact ⟨rfl, ha⟩
  · exact h
theorem play_ok (h : Hist) : ∀ i, PlayOk (playTo h i)
  | 0 => play_start
  | i + 1 => play_step (play_ok h i) _ _ _ _ _
theorem step_len (S : Play) (u : Upd) (n : Int) : (stepP S u n).st.length ≤ S.st.length + 1 := by
  unfold stepP
  split
  · simp
  · omega
theorem play_len (h : Hist) : ∀ i, (playTo h i).st.length ≤ i
  | 0 => Nat.le_refl _
  | i + 1 => by rw [playTo]; have := step_len (playTo h i) (stepU (playTo h i) (h.items.getD i []) (h.qtys.getD i 0) (h.prices.getD i 0) (h.nodes.getD i 0) (h.saws.getD i 0)) (h.nodes.getD i 0); have := play_len h i; omega
theorem many_le (h : Hist) : h.many ≤ 12 := by unfold Hist.many; omega
theorem play_states (h : Hist) : (playK h).st.length ≤ 12 := Nat.le_trans (play_len h _) (many_le h)
end Go.Fw
set_option linter.unusedVariables false
set_option linter.unusedSimpArgs false
set_option maxRecDepth 100000
set_option maxHeartbeats 4000000
namespace Go.Fw
theorem andK_u1 (n : Nat) (h : n < 18446744073709551616) : andK .u64 (n : Int) 1 = ((n % 2 : Nat) : Int) := by
  unfold andK
  rw [show (1 : Int) = ((1 : Nat) : Int) from rfl, ofInt_nat, ofInt_nat]
  rw [BitVec.toNat_and, BitVec.toNat_ofNat, BitVec.toNat_ofNat]
  rw [show IntKind.u64.bits = 64 from rfl, Nat.mod_eq_of_lt (show n < 2 ^ 64 by simpa using h), show (1 : Nat) % 2 ^ 64 = 1 from rfl, Nat.and_one_is_mod]
  simp only [IntKind.wrap, IntKind.signed, IntKind.bits]
  simp
  omega
theorem bit_and (p : UInt64) (k : Nat) : decide (andK .u64 (Int.fdiv (p.toNat : Int) (2 ^ k)) 1 = 1) = bitU p k := by
  have e : Int.fdiv (p.toNat : Int) (2 ^ k) = ((p.toNat / 2 ^ k : Nat) : Int) := by
    rw [Int.fdiv_eq_ediv_of_nonneg _ (by exact_mod_cast Nat.zero_le _)]
    simp
  have hp := p.toNat_lt
  have hl : p.toNat / 2 ^ k ≤ p.toNat := Nat.div_le_self _ _
  rw [e, andK_u1 _ (by omega)]
  unfold bitU
  exact decide_eq_decide.2 (by omega)
theorem pick_next {sts : List Cart} {p : UInt64} {k : Nat} {s : Cart} (h : sts[k]? = some s) : pickTo sts p (k + 1) = pickF (pickTo sts p k) s (bitU p k) := by
  rw [pickTo, h]
theorem pick_len (sts : List Cart) (p : UInt64) : ∀ k, (pickTo sts p k).ents.length ≤ 1048576 ∧ (pickTo sts p k).ctx.marks.length ≤ 1048576 ∧ (pickTo sts p k).ctx.cloud.length ≤ 1048576
  | 0 => by simp [pickTo, Cart.zero]
  | k + 1 => by
    have ih := pick_len sts p k
    rw [pickTo]
    split
    · unfold pickF
      split
      · split
        · exact join_lens _ _
        · exact ih
      · exact ih
    · exact ih
end Go.Fw
namespace Go.Proofs.YtfblmkocmnbdcaaGreat
open Go.Fw Go.Proofs Go.RowKit Go.Proofs.Tryz
theorem c14 (w0 : World) (v1 : Value) (st : List SCart) (p : UInt64) (h : Sl SCart.enc 3 w0 w0.heap.size v1 st) (hc : ∀ q ∈ st, CartRd w0 q.1 q.2) (hn : st.length ≤ 64) :
    Rets Tryz.prog 14 #[v1, .int .u64 (p.toNat : Int)] w0 fun v L => ∃ A1 r1 A2 r2 A3 r3, v = .agg #[.slice A1 (pickK (st.map (·.1)) p).ents.length r1, .slice A2 (pickK (st.map (·.1)) p).ctx.marks.length r2, .slice A3 (pickK (st.map (·.1)) p).ctx.cloud.length r3] ∧
      L = [rowOf 71 6 Ent.enc A1 r1 (pickK (st.map (·.1)) p).ents, rowOf 122 3 Dot.enc A2 r2 (pickK (st.map (·.1)) p).ctx.marks, rowOf 58 3 Dot.enc A3 r3 (pickK (st.map (·.1)) p).ctx.cloud] := by
  obtain ⟨A, cap, rfl, hl, hcap, hA⟩ := h
  unfold Go.Fw.Rets
  refine enter2 func14 rfl ntmps14 rfl fun a S => wp_seq_k fun _ hK1 => wp_region_lit (st_m (op_alloc S zeroValue39 (cs := _) rfl rfl fun g1 a w S => st_nil (then_normal (hK1 _ _ (wp_seq_k fun _ hK1 => wp_region_lit (st_m (op_alloc S zeroValue39 (cs := _) rfl rfl fun g2 a w S => st_nil (then_normal (hK1 _ _ (wp_seq_k fun _ hK1 => sg S (.mv rfl <| .ln underlying29 rfl <| .mc rfl <| .z) fun a w S => wp_block ?_))))))))))
  have hz : pickTo (st.map (·.1)) p 0 = Cart.zero := rfl
  refine st_lpM (((S.nil_ 58 3 Dot.enc none).nil_ 122 3 Dot.enc none).nil_ 71 6 Ent.enc none) [12] (X := Nat × Option Addr × Nat × Option Addr × Nat × Option Addr × Nat) (fun q => [(12, true, .int .i64 (q.1 : Int))])
    (fun q => [rowOf 71 6 Ent.enc q.2.1 q.2.2.1 (pickTo (st.map (·.1)) p q.1).ents, rowOf 122 3 Dot.enc q.2.2.2.1 q.2.2.2.2.1 (pickTo (st.map (·.1)) p q.1).ctx.marks, rowOf 58 3 Dot.enc q.2.2.2.2.2.1 q.2.2.2.2.2.2 (pickTo (st.map (·.1)) p q.1).ctx.cloud, .blk g2 (.cells #[.slice q.2.1 (pickTo (st.map (·.1)) p q.1).ents.length q.2.2.1, .slice q.2.2.2.1 (pickTo (st.map (·.1)) p q.1).ctx.marks.length q.2.2.2.2.1, .slice q.2.2.2.2.2.1 (pickTo (st.map (·.1)) p q.1).ctx.cloud.length q.2.2.2.2.2.2] 39), .blk g1 (.cells #[.slice none 0 0, .slice none 0 0, .slice none 0 0] 39)])
    (fun q => q.1 ≤ st.length) (fun q => st.length - q.1) (0, none, 0, none, 0, none, 0) (Nat.zero_le _) ?_
  clear S
  rintro ⟨k, A1, r1, A2, r2, A3, r3⟩ a w hk S
  dsimp only at hk S
  by_cases hlt : k < st.length
  · obtain ⟨g, o, q, rfl, hq, hd, hcc⟩ := row_at hA hlt
    have hqr := hc q (List.mem_of_getElem? hq)
    obtain ⟨hq1, hq2, hq3⟩ := hqr
    have hnx : pickTo (st.map (·.1)) p (k + 1) = pickF (pickTo (st.map (·.1)) p k) q.1 (bitU p k) := pick_next (by rw [List.getElem?_map, hq]; rfl)
    have hb0 := bit_and p k
    cases hb : bitU p k with
    | false =>
      have rw_b := hb0.trans hb
      have e : pickTo (st.map (·.1)) p (k + 1) = pickTo (st.map (·.1)) p k := by rw [hnx, hb]; rfl
      refine sg S (.lt (by omega) rfl rfl <| .z) fun a w S => wp_seq_k fun _ hK2 => st_then S (.t rfl) (wp_skip (then_normal (hK2 _ _ (wp_seq_k fun _ hK2 => wp_block (wp_seq_k fun _ hK3 => wp_region_lit (run S (.mv rfl <| .ix underlying29 sizeOf39 (by omega) rfl rfl <| .yy (ys_ldOA ⟨isAgg39, sizeOf39⟩ (.t rfl) (vs := [_, _, _]) rfl (fun _ => hcc)) rfl <| .z) fun a w S => st_m (op_alloc S zeroValue39 (cs := _) rfl rfl fun g3 a w S => run S (.as rfl <| .z) fun a w S => st_m (op_stW S sizeOf39 (.t rfl) (.t rfl) (k := 0) rfl rfl rfl (by simp [Value.oneCell']) fun a w S => st_nil (then_normal (hK3 _ _ (wp_seq_k fun _ hK3 => wp_region_lit (run S (.mv rfl <| .mv rfl <| .yy (ys_shr (.t rfl) (.t rfl) (Nat.ble_eq_true_of_le (by show _ ≤ 64; omega))) rfl <| .yy (ys_band (.t rfl) Ev.c) rfl <| .yy (ys_eql (.t rfl) Ev.c) rfl <| .z) fun a w S => ?_))))))))))))
      rw [rw_b] at S
      refine st_nil (then_normal (hK3 _ _ (st_else S (.t rfl) (wp_skip (in_normal (then_normal (hK2 _ _ (wp_region_lit (run S (.ad (by unfold I64; omega) rfl <| .mv rfl <| .z) fun a w S => st_nil (then_normal ?_))))))))))
      exact ⟨(k + 1, A1, r1, A2, r2, A3, r3), by dsimp only; omega, by dsimp only; omega, by dsimp only; rw [e]; exact S.pk⟩
    | true =>
      have rw_b := hb0.trans hb
      by_cases hj : (joinK (pickTo (st.map (·.1)) p k) q.1).2 = 0
      · have e : pickTo (st.map (·.1)) p (k + 1) = (joinK (pickTo (st.map (·.1)) p k) q.1).1 := by rw [hnx, hb]; unfold pickF; rw [if_pos rfl, if_pos hj]
        have rw_j := decide_eq_true hj
        refine sg S (.lt (by omega) rfl rfl <| .z) fun a w S => wp_seq_k fun _ hK2 => st_then S (.t rfl) (wp_skip (then_normal (hK2 _ _ (wp_seq_k fun _ hK2 => wp_block (wp_seq_k fun _ hK3 => wp_region_lit (run S (.mv rfl <| .ix underlying29 sizeOf39 (by omega) rfl rfl <| .yy (ys_ldOA ⟨isAgg39, sizeOf39⟩ (.t rfl) (vs := [_, _, _]) rfl (fun _ => hcc)) rfl <| .z) fun a w S => st_m (op_alloc S zeroValue39 (cs := _) rfl rfl fun g3 a w S => run S (.as rfl <| .z) fun a w S => st_m (op_stW S sizeOf39 (.t rfl) (.t rfl) (k := 0) rfl rfl rfl (by simp [Value.oneCell']) fun a w S => st_nil (then_normal (hK3 _ _ (wp_seq_k fun _ hK3 => wp_region_lit (run S (.mv rfl <| .mv rfl <| .yy (ys_shr (.t rfl) (.t rfl) (Nat.ble_eq_true_of_le (by show _ ≤ 64; omega))) rfl <| .yy (ys_band (.t rfl) Ev.c) rfl <| .yy (ys_eql (.t rfl) Ev.c) rfl <| .z) fun a w S => ?_))))))))))))
        rw [rw_b] at S
        refine st_nil (then_normal (hK3 _ _ (st_then S (.t rfl) (wp_seq_k fun _ hK3 => wp_region_lit (run S (.la gt39 4 rfl rfl rfl <| .la gt39 0 rfl rfl rfl <| .z) fun a w S => ?_)))))
        (refine st_m (op_calls S call34 (.cons (.t rfl) (.cons (.t rfl) .nil)) (c34 _ _ _ _ _ _ _ _ _ (by exact Sl.of_own S.wd (k := 1) rfl (fun _ => rfl)) (by exact ⟨(by exact Sl.of_own S.wd (k := 2) rfl (fun _ => rfl)), (by exact Sl.of_own S.wd (k := 3) rfl (fun _ => rfl))⟩) (by exact .old S.wd (by assumption)) (by exact ⟨(by exact .old S.wd (by assumption)), (by exact .old S.wd (by assumption))⟩)) rfl ?_); clear S a w; rintro _ _ ⟨A11, r11, A21, r21, A31, r31, rfl, rfl⟩ a w S)
        simp only [List.nil_append] at S
        refine run S (.mv rfl <| .ex rfl rfl <| .ex rfl rfl <| .z) fun a w S => st_m (op_alloc S zeroValue39 (cs := _) rfl rfl fun g4 a w S => st_m (op_stW S sizeOf39 (.t rfl) (.t rfl) (k := 0) rfl rfl rfl (by simp [Value.oneCell']) fun a w S => run S (.as rfl <| .z) fun a w S => st_nil (then_normal (hK3 _ _ (sg S (.mv rfl <| .yy (ys_T (by omega) (ys_eql (.t rfl) Ev.c)) rfl <| .z) fun a w S => st_then S (.t rfl) (wp_region_lit (run S (.la gt39 0 rfl rfl rfl <| .z) fun a w S => st_m (op_stW S sizeOf39 (.t rfl) (.t rfl) (k := 8) rfl rfl rfl (by simp [Value.oneCell']) fun a w S => st_nil (in_normal (then_normal (hK2 _ _ (wp_region_lit (run S (.ad (by unfold I64; omega) rfl <| .mv rfl <| .z) fun a w S => st_nil (then_normal ?_))))))))))))))
        exact ⟨(k + 1, A11, r11, A21, r21, A31, r31), by dsimp only; omega, by dsimp only; omega, by dsimp only; rw [e]; exact S.pk⟩
      · have e : pickTo (st.map (·.1)) p (k + 1) = pickTo (st.map (·.1)) p k := by rw [hnx, hb]; unfold pickF; rw [if_pos rfl, if_neg hj]
        have rw_j := decide_eq_false hj
        refine sg S (.lt (by omega) rfl rfl <| .z) fun a w S => wp_seq_k fun _ hK2 => st_then S (.t rfl) (wp_skip (then_normal (hK2 _ _ (wp_seq_k fun _ hK2 => wp_block (wp_seq_k fun _ hK3 => wp_region_lit (run S (.mv rfl <| .ix underlying29 sizeOf39 (by omega) rfl rfl <| .yy (ys_ldOA ⟨isAgg39, sizeOf39⟩ (.t rfl) (vs := [_, _, _]) rfl (fun _ => hcc)) rfl <| .z) fun a w S => st_m (op_alloc S zeroValue39 (cs := _) rfl rfl fun g3 a w S => run S (.as rfl <| .z) fun a w S => st_m (op_stW S sizeOf39 (.t rfl) (.t rfl) (k := 0) rfl rfl rfl (by simp [Value.oneCell']) fun a w S => st_nil (then_normal (hK3 _ _ (wp_seq_k fun _ hK3 => wp_region_lit (run S (.mv rfl <| .mv rfl <| .yy (ys_shr (.t rfl) (.t rfl) (Nat.ble_eq_true_of_le (by show _ ≤ 64; omega))) rfl <| .yy (ys_band (.t rfl) Ev.c) rfl <| .yy (ys_eql (.t rfl) Ev.c) rfl <| .z) fun a w S => ?_))))))))))))
        rw [rw_b] at S
        refine st_nil (then_normal (hK3 _ _ (st_then S (.t rfl) (wp_seq_k fun _ hK3 => wp_region_lit (run S (.la gt39 4 rfl rfl rfl <| .la gt39 0 rfl rfl rfl <| .z) fun a w S => ?_)))))
        (refine st_m (op_calls S call34 (.cons (.t rfl) (.cons (.t rfl) .nil)) (c34 _ _ _ _ _ _ _ _ _ (by exact Sl.of_own S.wd (k := 1) rfl (fun _ => rfl)) (by exact ⟨(by exact Sl.of_own S.wd (k := 2) rfl (fun _ => rfl)), (by exact Sl.of_own S.wd (k := 3) rfl (fun _ => rfl))⟩) (by exact .old S.wd (by assumption)) (by exact ⟨(by exact .old S.wd (by assumption)), (by exact .old S.wd (by assumption))⟩)) rfl ?_); clear S a w; rintro _ _ ⟨A11, r11, A21, r21, A31, r31, rfl, rfl⟩ a w S)
        simp only [List.nil_append] at S
        refine run S (.mv rfl <| .ex rfl rfl <| .ex rfl rfl <| .z) fun a w S => st_m (op_alloc S zeroValue39 (cs := _) rfl rfl fun g4 a w S => st_m (op_stW S sizeOf39 (.t rfl) (.t rfl) (k := 0) rfl rfl rfl (by simp [Value.oneCell']) fun a w S => run S (.as rfl <| .z) fun a w S => st_nil (then_normal (hK3 _ _ (sg S (.mv rfl <| .yy (ys_F (by omega) (ys_eql (.t rfl) Ev.c)) rfl <| .z) fun a w S => st_else S (.t rfl) (wp_skip (in_normal (then_normal (hK2 _ _ (wp_region_lit (run S (.ad (by unfold I64; omega) rfl <| .mv rfl <| .z) fun a w S => st_nil (then_normal ?_))))))))))))
        exact ⟨(k + 1, A1, r1, A2, r2, A3, r3), by dsimp only; omega, by dsimp only; omega, by dsimp only; rw [e]; exact S.pk⟩
  obtain rfl : k = st.length := by omega
  have e : pickTo (st.map (·.1)) p st.length = pickK (st.map (·.1)) p := by unfold pickK; rw [List.length_map]
  rw [e] at S
  refine sg S (.ge (by omega) rfl rfl <| .z) fun a w S => wp_seq_k fun _ hK2 => st_else S (.t rfl) (wp_exit (then_exit (then_exit (in_here (then_normal (hK1 _ _ (wp_seq_k fun _ hK1 => wp_region_lit (run S (.la gt39 3 rfl rfl rfl <| .z) fun a w S => st_m (op_stW S sizeOf39 (.t rfl) (.t rfl) (k := 4) rfl rfl rfl (by simp [Value.oneCell']) fun a w S => st_nil (then_normal (hK1 _ _ (wp_ret (st_ret S (results1 S results14 (Rv.cell (k := 4) ⟨isAgg39, sizeOf39⟩ rfl rfl rfl)) ?_)))))))))))))
  exact ⟨_, _, rfl, S.wd.pk, _, _, _, _, _, _, rfl, rfl⟩
end Go.Proofs.YtfblmkocmnbdcaaGreat
set_option linter.unusedVariables false
set_option linter.unusedSimpArgs false
set_option maxRecDepth 100000
set_option maxHeartbeats 4000000
namespace Go.Fw
def encU (x : UInt64) : List Value := [.int .u64 (x.toNat : Int)]
def ctL (l : List Int) : List Value := l.map (Value.int .i64)
theorem ctL_len (l : List Int) : (ctL l).length = l.length := List.length_map ..
theorem ctL_get {l : List Int} {n : Nat} (h : n < l.length) : (ctL l)[0 + n * 1]? = some (.int .i64 (l.getD n 0)) := by
  unfold ctL
  rw [Nat.zero_add, Nat.mul_one, List.getElem?_map, List.getD_eq_getElem?_getD, List.getElem?_eq_getElem h]
  rfl
theorem ctL_set (l : List Int) (n : Nat) (x : Int) : (ctL l).set (0 + n * 1) (.int .i64 x) = ctL (l.set n x) := by
  unfold ctL
  rw [Nat.zero_add, Nat.mul_one, List.map_set]
theorem play_ct (h : Hist) : ∀ i (n : Nat), 0 ≤ (playTo h i).ct.getD n 0 ∧ (playTo h i).ct.getD n 0 ≤ i
  | 0, n => by
    show 0 ≤ (List.replicate 8 (0 : Int)).getD n 0 ∧ (List.replicate 8 (0 : Int)).getD n 0 ≤ (0 : Nat)
    rw [List.getD_eq_getElem?_getD, List.getElem?_replicate]
    split <;> simp
  | i + 1, n => by
    have ih := play_ct h i
    have hn := ih n
    rw [playTo]
    unfold stepP
    split
    · have hm := ih (nodeP (h.nodes.getD i 0))
      rw [List.getD_eq_getElem?_getD, List.getElem?_set]
      rw [List.getD_eq_getElem?_getD] at hn
      split
      · split
        · simp only [Option.getD_some]; omega
        · simp; omega
      · omega
    · omega
theorem node_val (x : Int) : IntKind.i64.wrap ((IntKind.u64.wrap x).tmod 8) = (nodeP x : Int) := by
  have h1 : IntKind.u64.wrap x = x % 18446744073709551616 := by
    simp only [IntKind.wrap, IntKind.signed, IntKind.bits]
    simp
  have h2 : (x % 18446744073709551616).tmod 8 = x % 8 := by
    rw [Int.tmod_eq_emod_of_nonneg (by omega)]
    omega
  rw [h1, h2, IntKind.wrap_i64]
  unfold nodeP
  omega
theorem many_lt (h : Hist) (i : Nat) : i < h.many ↔ i < h.items.length ∧ i < 12 ∧ i < h.qtys.length ∧ i < h.prices.length ∧ i < h.nodes.length ∧ i < h.saws.length := by
  unfold Hist.many
  simp only [Nat.lt_min]
  constructor
  · rintro ⟨⟨⟨⟨⟨h1, h2⟩, h3⟩, h4⟩, h5⟩, h6⟩
    exact ⟨h1, h2, h3, h4, h5, h6⟩
  · rintro ⟨h1, h2, h3, h4, h5, h6⟩
    exact ⟨⟨⟨⟨⟨h1, h2⟩, h3⟩, h4⟩, h5⟩, h6⟩
theorem play_cts (h : Hist) : ∀ i, (playTo h i).ct.length = 8
  | 0 => by simp [playTo, Play.start]
  | i + 1 => by
    rw [playTo]
    unfold stepP
    split
    · rw [List.length_set]; exact play_cts h i
    · exact play_cts h i
theorem play_ups (h : Hist) : ∀ i, (playTo h i).up.length ≤ i
  | 0 => by simp [playTo, Play.start]
  | i + 1 => by
    have ih := play_ups h i
    rw [playTo]
    unfold stepP
    split
    · rw [List.length_append, List.length_singleton]; omega
    · omega
end Go.Fw
namespace Go.Proofs.YtfblmkocmnbdcaaGreat
open Go.Fw Go.Proofs Go.RowKit Go.Proofs.Tryz
theorem c13 (w0 : World) (v1 v2 v3 v4 v5 : Value) (h : Hist) (h1 : Sl encS 1 w0 w0.heap.size v1 h.items) (h2 : Sl encI 1 w0 w0.heap.size v2 h.qtys) (h3 : Sl encU 1 w0 w0.heap.size v3 h.prices) (h4 : Sl encI 1 w0 w0.heap.size v4 h.nodes) (h5 : Sl encU 1 w0 w0.heap.size v5 h.saws) :
    Rets Tryz.prog 13 #[.agg #[v1, v2, v3, v4, v5]] w0 fun v L => ∃ A r A' r' st up w1 bs, v = .tuple #[.slice A st.length r, .slice A' up.length r'] ∧
      L = [rowOf 39 3 SCart.enc A r st, rowOf 60 10 SUpd.enc A' r' up, .ice w1 bs] ∧ st.map (·.1) = (playK h).st ∧ up.map (·.1) = (playK h).up ∧ (∀ p ∈ st, CartIn w1 bs p.1 p.2) ∧ ∀ p ∈ up, CartIn w1 bs p.1.seen p.2 := by
  obtain ⟨A, cap, rfl, hl, hcap, hA⟩ := h1
  obtain ⟨B, capB, rfl, hlB, hcapB, hB⟩ := h2
  obtain ⟨C, capC, rfl, hlC, hcapC, hC⟩ := h3
  obtain ⟨D, capD, rfl, hlD, hcapD, hD⟩ := h4
  obtain ⟨E, capE, rfl, hlE, hcapE, hE⟩ := h5
  unfold Go.Fw.Rets
  refine enter1 func13 rfl ntmps13 rfl fun a S => wp_seq_k fun _ hK1 => wp_region_lit (st_m (op_box S (.t rfl) rfl fun g1 a w S => run S (.ac rfl <| .ac rfl <| .z) fun a w S => st_nil (then_normal (hK1 _ _ (sg S (.ac rfl <| .z) fun a w S => sg S (.ac rfl <| .z) fun a w S => wp_seq_k fun _ hK1 => wp_region_lit (st_m (op_alloc S zeroValue86 (cs := _) rfl rfl fun g2 a w S => st_nil (then_normal (hK1 _ _ (wp_seq_k fun _ hK1 => sg S (.fa underlying26 sizeOf22 0 rfl rfl rfl <| .ld gt22 1 rfl rfl rfl <| .ln underlying22 rfl <| .mc rfl <| .z) fun a w S => wp_block ?_))))))))))
  have e0 : #[Value.int .i64 0, .int .i64 0, .int .i64 0, .int .i64 0, .int .i64 0, .int .i64 0, .int .i64 0, .int .i64 0] = (ctL (playTo h 0).ct).toArray := rfl
  rw [e0] at S
  replace S : St _ _ _ (.ice w0 [] :: _) _ _ := ⟨S.kn, S.wd.bare (fun b hb => by cases hb) (fun b hb => by cases hb)⟩
  replace S := (S.nil_ 60 10 SUpd.enc none).nil_ 39 3 SCart.enc none
  refine st_lpM S [4, 5, 21] (X := Nat × Option Addr × Nat × List SCart × Option Addr × Nat × List SUpd × World × List Nat) (fun q => [(4, true, .slice q.2.1 q.2.2.2.1.length q.2.2.1), (5, true, .slice q.2.2.2.2.1 q.2.2.2.2.2.2.1.length q.2.2.2.2.2.1), (21, true, .int .i64 (q.1 : Int))])
    (fun q => [rowOf 39 3 SCart.enc q.2.1 q.2.2.1 q.2.2.2.1, rowOf 60 10 SUpd.enc q.2.2.2.2.1 q.2.2.2.2.2.1 q.2.2.2.2.2.2.1, .ice q.2.2.2.2.2.2.2.1 q.2.2.2.2.2.2.2.2, .blk g2 (.cells (ctL (playTo h q.1).ct).toArray 86), .blk g1 (.cells #[.slice A h.items.length cap, .slice B h.qtys.length capB, .slice C h.prices.length capC, .slice D h.nodes.length capD, .slice E h.saws.length capE] 26)])
    (fun q => q.1 ≤ h.many ∧ q.2.2.2.1.map (·.1) = (playTo h q.1).st ∧ q.2.2.2.2.2.2.1.map (·.1) = (playTo h q.1).up ∧ (∀ p ∈ q.2.2.2.1, CartIn q.2.2.2.2.2.2.2.1 q.2.2.2.2.2.2.2.2 p.1 p.2) ∧ ∀ p ∈ q.2.2.2.2.2.2.1, CartIn q.2.2.2.2.2.2.2.1 q.2.2.2.2.2.2.2.2 p.1.seen p.2)
    (fun q => h.many - q.1) (0, none, 0, [], none, 0, [], w0, []) ⟨Nat.zero_le _, rfl, rfl, (fun p hp => by cases hp), (fun p hp => by cases hp)⟩ ?_
  clear S
  rintro ⟨i, F, cF, st, G, cG, up, w1, bs⟩ a w ⟨hi, hst, hup, hcs, hcu⟩ S
  dsimp only at hi hst hup hcs hcu S
  have hmany := many_lt h i
  have hct := play_cts h i
  have hsl : st.length ≤ i := by
    have := play_len h i
    rw [← hst, List.length_map] at this
    exact this
  have hul : up.length ≤ i := by
    have := play_ups h i
    rw [← hup, List.length_map] at this
    exact this
  by_cases hlt : i < h.many
  rotate_left
  · have hend : i = h.many := by omega
    have done : playTo h i = playK h := by rw [hend]; rfl
    by_cases c1 : i < h.items.length
    · by_cases c2 : i < 12
      · by_cases c3 : i < h.qtys.length
        · by_cases c4 : i < h.prices.length
          · by_cases c5 : i < h.nodes.length
            · by_cases c6 : i < h.saws.length
              · exact absurd (hmany.2 ⟨c1, c2, c3, c4, c5, c6⟩) hlt
              · obtain ⟨g, o, x, rfl, hx, hd, hc⟩ := row_at hA c1
                refine sg S (.lt (by omega) rfl rfl <| .z) fun a w S => wp_seq_k fun _ hK2 => st_then S (.t rfl) (wp_skip (then_normal (hK2 _ _ (wp_seq_k fun _ hK2 => wp_block (sg S (.mv rfl <| .ix underlying22 sizeOf9 (by omega) rfl rfl <| .yy (ys_ldO ⟨isAgg9, sizeOf9⟩ (.t rfl) (fun _ => hc 0 _ rfl)) rfl <| .as rfl <| .as rfl <| .z) fun a w S => wp_seq_k fun _ hK3 => wp_seq_k fun _ hK4 => wp_region_lit ?_)))))
                refine run S (.mv rfl <| .yy (ys_F (by omega) (ys_geq (.t rfl) Ev.c)) rfl <| .mv rfl <| .gy rfl rfl (ys_move (.t rfl)) <| .gy rfl rfl (ys_fieldN (FieldT.mk underlying26 rfl sizeOf23 rfl) (.t rfl) (i' := 1) rfl) <| .gy rfl rfl (ys_ld ⟨isAgg23, sizeOf23⟩ (.t rfl) (k := 4) rfl rfl) <| .gy rfl rfl (ys_lenS underlying23 (.t rfl)) <| .gy rfl rfl (ys_F (by omega) (ys_geq (.t rfl) (.t rfl))) <| .yy (ys_pickF (.t rfl) (.t rfl)) rfl <| .mv rfl <| .gy rfl rfl (ys_move (.t rfl)) <| .gy rfl rfl (ys_fieldN (FieldT.mk underlying26 rfl sizeOf24 rfl) (.t rfl) (i' := 2) rfl) <| .gy rfl rfl (ys_ld ⟨isAgg24, sizeOf24⟩ (.t rfl) (k := 4) rfl rfl) <| .gy rfl rfl (ys_lenS underlying24 (.t rfl)) <| .gy rfl rfl (ys_F (by omega) (ys_geq (.t rfl) (.t rfl))) <| .yy (ys_pickF (.t rfl) (.t rfl)) rfl <| .mv rfl <| .gy rfl rfl (ys_move (.t rfl)) <| .gy rfl rfl (ys_fieldN (FieldT.mk underlying26 rfl sizeOf23 rfl) (.t rfl) (i' := 3) rfl) <| .gy rfl rfl (ys_ld ⟨isAgg23, sizeOf23⟩ (.t rfl) (k := 4) rfl rfl) <| .gy rfl rfl (ys_lenS underlying23 (.t rfl)) <| .gy rfl rfl (ys_F (by omega) (ys_geq (.t rfl) (.t rfl))) <| .yy (ys_pickF (.t rfl) (.t rfl)) rfl <| .mv rfl <| .gy rfl rfl (ys_move (.t rfl)) <| .gy rfl rfl (ys_fieldN (FieldT.mk underlying26 rfl sizeOf24 rfl) (.t rfl) (i' := 4) rfl) <| .gy rfl rfl (ys_ld ⟨isAgg24, sizeOf24⟩ (.t rfl) (k := 4) rfl rfl) <| .gy rfl rfl (ys_lenS underlying24 (.t rfl)) <| .gy rfl rfl (ys_T (by omega) (ys_geq (.t rfl) (.t rfl))) <| .yy (ys_pickF (.t rfl) (.t rfl)) rfl <| .z) fun a w S => ?_
                refine st_nil (then_normal (hK4 _ _ (st_then S (.t rfl) (wp_exit (then_exit (in_past rfl (then_exit (then_exit (in_here (then_normal (hK1 _ _ (sg S (.mv rfl <| .mv rfl <| .as rfl <| .as rfl <| .z) fun a w S => wp_ret (st_ret S (results2 S results13 (Rv.tmp rfl) (Rv.tmp rfl)) ?_)))))))))))))
                exact ⟨_, _, rfl, S.wd.pk, _, _, _, _, st, up, _, _, rfl, rfl, by rw [hst, done], by rw [hup, done], hcs, hcu⟩
            · obtain ⟨g, o, x, rfl, hx, hd, hc⟩ := row_at hA c1
              refine sg S (.lt (by omega) rfl rfl <| .z) fun a w S => wp_seq_k fun _ hK2 => st_then S (.t rfl) (wp_skip (then_normal (hK2 _ _ (wp_seq_k fun _ hK2 => wp_block (sg S (.mv rfl <| .ix underlying22 sizeOf9 (by omega) rfl rfl <| .yy (ys_ldO ⟨isAgg9, sizeOf9⟩ (.t rfl) (fun _ => hc 0 _ rfl)) rfl <| .as rfl <| .as rfl <| .z) fun a w S => wp_seq_k fun _ hK3 => wp_seq_k fun _ hK4 => wp_region_lit ?_)))))
              refine run S (.mv rfl <| .yy (ys_F (by omega) (ys_geq (.t rfl) Ev.c)) rfl <| .mv rfl <| .gy rfl rfl (ys_move (.t rfl)) <| .gy rfl rfl (ys_fieldN (FieldT.mk underlying26 rfl sizeOf23 rfl) (.t rfl) (i' := 1) rfl) <| .gy rfl rfl (ys_ld ⟨isAgg23, sizeOf23⟩ (.t rfl) (k := 4) rfl rfl) <| .gy rfl rfl (ys_lenS underlying23 (.t rfl)) <| .gy rfl rfl (ys_F (by omega) (ys_geq (.t rfl) (.t rfl))) <| .yy (ys_pickF (.t rfl) (.t rfl)) rfl <| .mv rfl <| .gy rfl rfl (ys_move (.t rfl)) <| .gy rfl rfl (ys_fieldN (FieldT.mk underlying26 rfl sizeOf24 rfl) (.t rfl) (i' := 2) rfl) <| .gy rfl rfl (ys_ld ⟨isAgg24, sizeOf24⟩ (.t rfl) (k := 4) rfl rfl) <| .gy rfl rfl (ys_lenS underlying24 (.t rfl)) <| .gy rfl rfl (ys_F (by omega) (ys_geq (.t rfl) (.t rfl))) <| .yy (ys_pickF (.t rfl) (.t rfl)) rfl <| .mv rfl <| .gy rfl rfl (ys_move (.t rfl)) <| .gy rfl rfl (ys_fieldN (FieldT.mk underlying26 rfl sizeOf23 rfl) (.t rfl) (i' := 3) rfl) <| .gy rfl rfl (ys_ld ⟨isAgg23, sizeOf23⟩ (.t rfl) (k := 4) rfl rfl) <| .gy rfl rfl (ys_lenS underlying23 (.t rfl)) <| .gy rfl rfl (ys_T (by omega) (ys_geq (.t rfl) (.t rfl))) <| .yy (ys_pickF (.t rfl) (.t rfl)) rfl <| .mv rfl <| .sk rfl rfl rfl <| .sk rfl rfl rfl <| .sk rfl rfl rfl <| .sk rfl rfl rfl <| .sk rfl rfl rfl <| .yy (ys_pickT (.t rfl) Ev.c) rfl <| .z) fun a w S => st_nil (then_normal (hK4 _ _ (st_then S (.t rfl) (wp_exit ?_))))
              refine then_exit (in_past rfl (then_exit (then_exit (in_here (then_normal (hK1 _ _ (sg S (.mv rfl <| .mv rfl <| .as rfl <| .as rfl <| .z) fun a w S => wp_ret (st_ret S (results2 S results13 (Rv.tmp rfl) (Rv.tmp rfl)) ?_))))))))
              exact ⟨_, _, rfl, S.wd.pk, _, _, _, _, st, up, _, _, rfl, rfl, by rw [hst, done], by rw [hup, done], hcs, hcu⟩
          · obtain ⟨g, o, x, rfl, hx, hd, hc⟩ := row_at hA c1
            refine sg S (.lt (by omega) rfl rfl <| .z) fun a w S => wp_seq_k fun _ hK2 => st_then S (.t rfl) (wp_skip (then_normal (hK2 _ _ (wp_seq_k fun _ hK2 => wp_block (sg S (.mv rfl <| .ix underlying22 sizeOf9 (by omega) rfl rfl <| .yy (ys_ldO ⟨isAgg9, sizeOf9⟩ (.t rfl) (fun _ => hc 0 _ rfl)) rfl <| .as rfl <| .as rfl <| .z) fun a w S => wp_seq_k fun _ hK3 => wp_seq_k fun _ hK4 => wp_region_lit ?_)))))
            refine run S (.mv rfl <| .yy (ys_F (by omega) (ys_geq (.t rfl) Ev.c)) rfl <| .mv rfl <| .gy rfl rfl (ys_move (.t rfl)) <| .gy rfl rfl (ys_fieldN (FieldT.mk underlying26 rfl sizeOf23 rfl) (.t rfl) (i' := 1) rfl) <| .gy rfl rfl (ys_ld ⟨isAgg23, sizeOf23⟩ (.t rfl) (k := 4) rfl rfl) <| .gy rfl rfl (ys_lenS underlying23 (.t rfl)) <| .gy rfl rfl (ys_F (by omega) (ys_geq (.t rfl) (.t rfl))) <| .yy (ys_pickF (.t rfl) (.t rfl)) rfl <| .mv rfl <| .gy rfl rfl (ys_move (.t rfl)) <| .gy rfl rfl (ys_fieldN (FieldT.mk underlying26 rfl sizeOf24 rfl) (.t rfl) (i' := 2) rfl) <| .gy rfl rfl (ys_ld ⟨isAgg24, sizeOf24⟩ (.t rfl) (k := 4) rfl rfl) <| .gy rfl rfl (ys_lenS underlying24 (.t rfl)) <| .gy rfl rfl (ys_T (by omega) (ys_geq (.t rfl) (.t rfl))) <| .yy (ys_pickF (.t rfl) (.t rfl)) rfl <| .mv rfl <| .sk rfl rfl rfl <| .sk rfl rfl rfl <| .sk rfl rfl rfl <| .sk rfl rfl rfl <| .sk rfl rfl rfl <| .yy (ys_pickT (.t rfl) Ev.c) rfl <| .mv rfl <| .sk rfl rfl rfl <| .sk rfl rfl rfl <| .sk rfl rfl rfl <| .sk rfl rfl rfl <| .sk rfl rfl rfl <| .yy (ys_pickT (.t rfl) Ev.c) rfl <| .z) fun a w S => st_nil (then_normal (hK4 _ _ (st_then S (.t rfl) (wp_exit (then_exit (in_past rfl (then_exit (then_exit (in_here (then_normal (hK1 _ _ (sg S (.mv rfl <| .mv rfl <| .as rfl <| .as rfl <| .z) fun a w S => wp_ret ?_))))))))))))
            refine st_ret S (results2 S results13 (Rv.tmp rfl) (Rv.tmp rfl)) ?_
            exact ⟨_, _, rfl, S.wd.pk, _, _, _, _, st, up, _, _, rfl, rfl, by rw [hst, done], by rw [hup, done], hcs, hcu⟩
        · obtain ⟨g, o, x, rfl, hx, hd, hc⟩ := row_at hA c1
          refine sg S (.lt (by omega) rfl rfl <| .z) fun a w S => wp_seq_k fun _ hK2 => st_then S (.t rfl) (wp_skip (then_normal (hK2 _ _ (wp_seq_k fun _ hK2 => wp_block (sg S (.mv rfl <| .ix underlying22 sizeOf9 (by omega) rfl rfl <| .yy (ys_ldO ⟨isAgg9, sizeOf9⟩ (.t rfl) (fun _ => hc 0 _ rfl)) rfl <| .as rfl <| .as rfl <| .z) fun a w S => wp_seq_k fun _ hK3 => wp_seq_k fun _ hK4 => wp_region_lit (run S (.mv rfl <| .yy (ys_F (by omega) (ys_geq (.t rfl) Ev.c)) rfl <| .mv rfl <| .gy rfl rfl (ys_move (.t rfl)) <| .gy rfl rfl (ys_fieldN (FieldT.mk underlying26 rfl sizeOf23 rfl) (.t rfl) (i' := 1) rfl) <| .gy rfl rfl (ys_ld ⟨isAgg23, sizeOf23⟩ (.t rfl) (k := 4) rfl rfl) <| .gy rfl rfl (ys_lenS underlying23 (.t rfl)) <| .gy rfl rfl (ys_T (by omega) (ys_geq (.t rfl) (.t rfl))) <| .yy (ys_pickF (.t rfl) (.t rfl)) rfl <| .mv rfl <| .sk rfl rfl rfl <| .sk rfl rfl rfl <| .sk rfl rfl rfl <| .sk rfl rfl rfl <| .sk rfl rfl rfl <| .yy (ys_pickT (.t rfl) Ev.c) rfl <| .mv rfl <| .sk rfl rfl rfl <| .sk rfl rfl rfl <| .sk rfl rfl rfl <| .sk rfl rfl rfl <| .sk rfl rfl rfl <| .yy (ys_pickT (.t rfl) Ev.c) rfl <| .mv rfl <| .sk rfl rfl rfl <| .sk rfl rfl rfl <| .sk rfl rfl rfl <| .sk rfl rfl rfl <| .sk rfl rfl rfl <| .yy (ys_pickT (.t rfl) Ev.c) rfl <| .z) fun a w S => st_nil ?_))))))
          refine then_normal (hK4 _ _ (st_then S (.t rfl) (wp_exit (then_exit (in_past rfl (then_exit (then_exit (in_here (then_normal (hK1 _ _ (sg S (.mv rfl <| .mv rfl <| .as rfl <| .as rfl <| .z) fun a w S => wp_ret (st_ret S (results2 S results13 (Rv.tmp rfl) (Rv.tmp rfl)) ?_))))))))))))
          exact ⟨_, _, rfl, S.wd.pk, _, _, _, _, st, up, _, _, rfl, rfl, by rw [hst, done], by rw [hup, done], hcs, hcu⟩
      · obtain ⟨g, o, x, rfl, hx, hd, hc⟩ := row_at hA c1
        refine sg S (.lt (by omega) rfl rfl <| .z) fun a w S => wp_seq_k fun _ hK2 => st_then S (.t rfl) (wp_skip (then_normal (hK2 _ _ (wp_seq_k fun _ hK2 => wp_block (sg S (.mv rfl <| .ix underlying22 sizeOf9 (by omega) rfl rfl <| .yy (ys_ldO ⟨isAgg9, sizeOf9⟩ (.t rfl) (fun _ => hc 0 _ rfl)) rfl <| .as rfl <| .as rfl <| .z) fun a w S => wp_seq_k fun _ hK3 => sg S (.mv rfl <| .yy (ys_T (by omega) (ys_geq (.t rfl) Ev.c)) rfl <| .mv rfl <| .sk rfl rfl rfl <| .sk rfl rfl rfl <| .sk rfl rfl rfl <| .sk rfl rfl rfl <| .sk rfl rfl rfl <| .yy (ys_pickT (.t rfl) Ev.c) rfl <| .mv rfl <| .sk rfl rfl rfl <| .sk rfl rfl rfl <| .sk rfl rfl rfl <| .sk rfl rfl rfl <| .sk rfl rfl rfl <| .yy (ys_pickT (.t rfl) Ev.c) rfl <| .mv rfl <| .sk rfl rfl rfl <| .sk rfl rfl rfl <| .sk rfl rfl rfl <| .sk rfl rfl rfl <| .sk rfl rfl rfl <| .yy (ys_pickT (.t rfl) Ev.c) rfl <| .mv rfl <| .sk rfl rfl rfl <| .sk rfl rfl rfl <| .sk rfl rfl rfl <| .sk rfl rfl rfl <| .sk rfl rfl rfl <| .yy (ys_pickT (.t rfl) Ev.c) rfl <| .z) fun a w S => st_then S (.t rfl) (wp_exit (then_exit (in_past rfl (then_exit (then_exit (in_here (then_normal (hK1 _ _ (wp_seq_k fun _ hK1 => wp_region_lit (run S (.mv rfl <| .mv rfl <| .as rfl <| .as rfl <| .z) fun a w S => st_nil ?_)))))))))))))))
        refine then_normal (hK1 _ _ (wp_ret (st_ret S (results2 S results13 (Rv.tmp rfl) (Rv.tmp rfl)) ?_)))
        exact ⟨_, _, rfl, S.wd.pk, _, _, _, _, st, up, _, _, rfl, rfl, by rw [hst, done], by rw [hup, done], hcs, hcu⟩
    · refine sg S (.ge (by omega) rfl rfl <| .z) fun a w S => wp_seq_k fun _ hK2 => st_else S (.t rfl) (wp_exit (then_exit (then_exit (in_here (then_normal (hK1 _ _ (sg S (.mv rfl <| .mv rfl <| .as rfl <| .as rfl <| .z) fun a w S => wp_ret (st_ret S (results2 S results13 (Rv.tmp rfl) (Rv.tmp rfl)) ?_))))))))
      exact ⟨_, _, rfl, S.wd.pk, _, _, _, _, st, up, _, _, rfl, rfl, by rw [hst, done], by rw [hup, done], hcs, hcu⟩
  obtain ⟨m1, m2, m3, m4, m5, m6⟩ := hmany.1 hlt
  obtain ⟨gA, oA, item, rfl, hitem, hdA, hcA⟩ := row_at hA m1
  obtain ⟨gB, oB, qv, rfl, hqv, hdB, hcB⟩ := row_at hB m3
  obtain ⟨gC, oC, pv, rfl, hpv, hdC, hcC⟩ := row_at hC m4
  obtain ⟨gD, oD, nv, rfl, hnv, hdD, hcD⟩ := row_at hD m5
  obtain ⟨gE, oE, sw, rfl, hsw, hdE, hcE⟩ := row_at hE m6
  refine sg S (.lt (by omega) rfl rfl <| .z) fun a w S => wp_seq_k fun _ hK2 => st_then S (.t rfl) (wp_skip (then_normal (hK2 _ _ (wp_seq_k fun _ hK2 => wp_block (sg S (.mv rfl <| .ix underlying22 sizeOf9 (by omega) rfl rfl <| .yy (ys_ldO ⟨isAgg9, sizeOf9⟩ (.t rfl) (fun _ => hcA 0 _ rfl)) rfl <| .as rfl <| .as rfl <| .z) fun a w S => wp_seq_k fun _ hK3 => wp_seq_k fun _ hK4 => wp_region_lit ?_)))))
  refine run S (.mv rfl <| .yy (ys_F (by omega) (ys_geq (.t rfl) Ev.c)) rfl <| .mv rfl <| .gy rfl rfl (ys_move (.t rfl)) <| .gy rfl rfl (ys_fieldN (FieldT.mk underlying26 rfl sizeOf23 rfl) (.t rfl) (i' := 1) rfl) <| .gy rfl rfl (ys_ld ⟨isAgg23, sizeOf23⟩ (.t rfl) (k := 4) rfl rfl) <| .gy rfl rfl (ys_lenS underlying23 (.t rfl)) <| .gy rfl rfl (ys_F (by omega) (ys_geq (.t rfl) (.t rfl))) <| .yy (ys_pickF (.t rfl) (.t rfl)) rfl <| .mv rfl <| .gy rfl rfl (ys_move (.t rfl)) <| .gy rfl rfl (ys_fieldN (FieldT.mk underlying26 rfl sizeOf24 rfl) (.t rfl) (i' := 2) rfl) <| .gy rfl rfl (ys_ld ⟨isAgg24, sizeOf24⟩ (.t rfl) (k := 4) rfl rfl) <| .gy rfl rfl (ys_lenS underlying24 (.t rfl)) <| .gy rfl rfl (ys_F (by omega) (ys_geq (.t rfl) (.t rfl))) <| .yy (ys_pickF (.t rfl) (.t rfl)) rfl <| .mv rfl <| .gy rfl rfl (ys_move (.t rfl)) <| .gy rfl rfl (ys_fieldN (FieldT.mk underlying26 rfl sizeOf23 rfl) (.t rfl) (i' := 3) rfl) <| .gy rfl rfl (ys_ld ⟨isAgg23, sizeOf23⟩ (.t rfl) (k := 4) rfl rfl) <| .gy rfl rfl (ys_lenS underlying23 (.t rfl)) <| .gy rfl rfl (ys_F (by omega) (ys_geq (.t rfl) (.t rfl))) <| .yy (ys_pickF (.t rfl) (.t rfl)) rfl <| .mv rfl <| .gy rfl rfl (ys_move (.t rfl)) <| .gy rfl rfl (ys_fieldN (FieldT.mk underlying26 rfl sizeOf24 rfl) (.t rfl) (i' := 4) rfl) <| .gy rfl rfl (ys_ld ⟨isAgg24, sizeOf24⟩ (.t rfl) (k := 4) rfl rfl) <| .gy rfl rfl (ys_lenS underlying24 (.t rfl)) <| .gy rfl rfl (ys_F (by omega) (ys_geq (.t rfl) (.t rfl))) <| .yy (ys_pickF (.t rfl) (.t rfl)) rfl <| .z) fun a w S => ?_
  refine st_nil (then_normal (hK4 _ _ (st_else S (.t rfl) (wp_skip (then_normal (hK3 _ _ (wp_seq_k fun _ hK3 => wp_region_lit (st_m (op_alloc S zeroValue39 (cs := _) rfl rfl fun g3 a w S => st_nil (then_normal (hK3 _ _ (wp_seq_k fun _ hK3 => sg S (.mv rfl <| .ln underlying29 rfl <| .mc rfl <| .z) fun a w S => wp_block ?_))))))))))))
  refine st_lpM (((S.nil_ 58 3 Dot.enc none).nil_ 122 3 Dot.enc none).nil_ 71 6 Ent.enc none) [58] (X := Nat × Option Addr × Nat × Option Addr × Nat × Option Addr × Nat) (fun q => [(58, true, .int .i64 (q.1 : Int))])
    (fun q => [rowOf 71 6 Ent.enc q.2.1 q.2.2.1 (pickTo (st.map (·.1)) sw q.1).ents, rowOf 122 3 Dot.enc q.2.2.2.1 q.2.2.2.2.1 (pickTo (st.map (·.1)) sw q.1).ctx.marks, rowOf 58 3 Dot.enc q.2.2.2.2.2.1 q.2.2.2.2.2.2 (pickTo (st.map (·.1)) sw q.1).ctx.cloud, .blk g3 (.cells #[.slice q.2.1 (pickTo (st.map (·.1)) sw q.1).ents.length q.2.2.1, .slice q.2.2.2.1 (pickTo (st.map (·.1)) sw q.1).ctx.marks.length q.2.2.2.2.1, .slice q.2.2.2.2.2.1 (pickTo (st.map (·.1)) sw q.1).ctx.cloud.length q.2.2.2.2.2.2] 39), rowOf 39 3 SCart.enc F cF st, rowOf 60 10 SUpd.enc G cG up, .ice w1 bs, .blk g2 (.cells (ctL (playTo h i).ct).toArray 86), .blk g1 (.cells #[.slice (some ⟨gA, oA, none⟩) h.items.length cap, .slice (some ⟨gB, oB, none⟩) h.qtys.length capB, .slice (some ⟨gC, oC, none⟩) h.prices.length capC, .slice (some ⟨gD, oD, none⟩) h.nodes.length capD, .slice (some ⟨gE, oE, none⟩) h.saws.length capE] 26)])
    (fun q => q.1 ≤ st.length) (fun q => st.length - q.1) (0, none, 0, none, 0, none, 0) (Nat.zero_le _) ?_
  clear S
  rintro ⟨k, A1, r1, A2, r2, A3, r3⟩ a w hk S
  dsimp only at hk S
  by_cases hkl : k < st.length
  · obtain ⟨q, hq⟩ : ∃ q, st[k]? = some q := ⟨st[k], List.getElem?_eq_getElem hkl⟩
    have hF := (S.wd.room (k := 4) rfl).1
    obtain ⟨gF, rfl⟩ := S.wd.row_at (k := 4) rfl (by omega)
    obtain ⟨hq1, hq2, hq3⟩ := hcs q (List.mem_of_getElem? hq)
    have hnx : pickTo (st.map (·.1)) sw (k + 1) = pickF (pickTo (st.map (·.1)) sw k) q.1 (bitU sw k) := pick_next (by rw [List.getElem?_map, hq]; rfl)
    have hb0 := bit_and sw k
    cases hb : bitU sw k with
    | false =>
      have rw_b := hb0.trans hb
      have e : pickTo (st.map (·.1)) sw (k + 1) = pickTo (st.map (·.1)) sw k := by rw [hnx, hb]; rfl
      refine sg S (.lt (by omega) rfl rfl <| .z) fun a w S => wp_seq_k fun _ hK4 => st_then S (.t rfl) (wp_skip (then_normal (hK4 _ _ (wp_seq_k fun _ hK4 => wp_block (wp_seq_k fun _ hK5 => wp_region_lit (run S (.mv rfl <| .ix underlying29 sizeOf39 (by omega) rfl rfl <| .yy (ys_ldWA ⟨isAgg39, sizeOf39⟩ (.t rfl) (k := 4) rfl hq (fun _ => rfl)) rfl <| .z) fun a w S => st_m (op_alloc S zeroValue39 (cs := _) rfl rfl fun g4 a w S => run S (.as rfl <| .z) fun a w S => st_m (op_stW S sizeOf39 (.t rfl) (.t rfl) (k := 0) rfl rfl rfl (by simp [Value.oneCell']) fun a w S => st_nil (then_normal (hK5 _ _ (wp_seq_k fun _ hK5 => wp_region_lit (run S (.fa underlying26 sizeOf24 4 rfl rfl rfl <| .ld gt24 9 rfl rfl rfl <| .mv rfl <| .ix underlying24 sizeOf27 (by omega) rfl rfl <| .yy (ys_ldO ⟨isAgg27, sizeOf27⟩ (.t rfl) (fun _ => hcE 0 _ rfl)) rfl <| .mv rfl <| .yy (ys_shr (.t rfl) (.t rfl) (Nat.ble_eq_true_of_le (by show _ ≤ 64; omega))) rfl <| .yy (ys_band (.t rfl) Ev.c) rfl <| .yy (ys_eql (.t rfl) Ev.c) rfl <| .z) fun a w S => ?_))))))))))))
      rw [rw_b] at S
      refine st_nil (then_normal (hK5 _ _ (st_else S (.t rfl) (wp_skip (in_normal (then_normal (hK4 _ _ (wp_region_lit (run S (.ad (by unfold I64; omega) rfl <| .mv rfl <| .z) fun a w S => st_nil (then_normal ?_))))))))))
      exact ⟨(k + 1, A1, r1, A2, r2, A3, r3), by dsimp only; omega, by dsimp only; omega, by dsimp only; rw [e]; exact S.pk⟩
    | true =>
      have rw_b := hb0.trans hb
      by_cases hj : (joinK (pickTo (st.map (·.1)) sw k) q.1).2 = 0
      · have e : pickTo (st.map (·.1)) sw (k + 1) = (joinK (pickTo (st.map (·.1)) sw k) q.1).1 := by rw [hnx, hb]; unfold pickF; rw [if_pos rfl, if_pos hj]
        have rw_j := decide_eq_true hj
        refine sg S (.lt (by omega) rfl rfl <| .z) fun a w S => wp_seq_k fun _ hK4 => st_then S (.t rfl) (wp_skip (then_normal (hK4 _ _ (wp_seq_k fun _ hK4 => wp_block (wp_seq_k fun _ hK5 => wp_region_lit (run S (.mv rfl <| .ix underlying29 sizeOf39 (by omega) rfl rfl <| .yy (ys_ldWA ⟨isAgg39, sizeOf39⟩ (.t rfl) (k := 4) rfl hq (fun _ => rfl)) rfl <| .z) fun a w S => st_m (op_alloc S zeroValue39 (cs := _) rfl rfl fun g4 a w S => run S (.as rfl <| .z) fun a w S => st_m (op_stW S sizeOf39 (.t rfl) (.t rfl) (k := 0) rfl rfl rfl (by simp [Value.oneCell']) fun a w S => st_nil (then_normal (hK5 _ _ (wp_seq_k fun _ hK5 => wp_region_lit (run S (.fa underlying26 sizeOf24 4 rfl rfl rfl <| .ld gt24 9 rfl rfl rfl <| .mv rfl <| .ix underlying24 sizeOf27 (by omega) rfl rfl <| .yy (ys_ldO ⟨isAgg27, sizeOf27⟩ (.t rfl) (fun _ => hcE 0 _ rfl)) rfl <| .mv rfl <| .yy (ys_shr (.t rfl) (.t rfl) (Nat.ble_eq_true_of_le (by show _ ≤ 64; omega))) rfl <| .yy (ys_band (.t rfl) Ev.c) rfl <| .yy (ys_eql (.t rfl) Ev.c) rfl <| .z) fun a w S => ?_))))))))))))
        rw [rw_b] at S
        refine st_nil (then_normal (hK5 _ _ (st_then S (.t rfl) (wp_seq_k fun _ hK5 => wp_region_lit (run S (.la gt39 4 rfl rfl rfl <| .la gt39 0 rfl rfl rfl <| .z) fun a w S => ?_)))))
        (refine st_m (op_calls S call34 (.cons (.t rfl) (.cons (.t rfl) .nil)) (c34 _ _ _ _ _ _ _ _ _ (by exact Sl.of_own S.wd (k := 1) rfl (fun _ => rfl)) (by exact ⟨(by exact Sl.of_own S.wd (k := 2) rfl (fun _ => rfl)), (by exact Sl.of_own S.wd (k := 3) rfl (fun _ => rfl))⟩) (by exact SlIn.sl (by assumption) S.wd (k := 7) rfl) (by exact ⟨(by exact SlIn.sl (by assumption) S.wd (k := 7) rfl), (by exact SlIn.sl (by assumption) S.wd (k := 7) rfl)⟩)) rfl ?_); clear S a w; rintro _ _ ⟨A11, r11, A21, r21, A31, r31, rfl, rfl⟩ a w S)
        simp only [List.nil_append] at S
        refine run S (.mv rfl <| .ex rfl rfl <| .ex rfl rfl <| .z) fun a w S => st_m (op_alloc S zeroValue39 (cs := _) rfl rfl fun g5 a w S => st_m (op_stW S sizeOf39 (.t rfl) (.t rfl) (k := 0) rfl rfl rfl (by simp [Value.oneCell']) fun a w S => run S (.as rfl <| .z) fun a w S => st_nil (then_normal (hK5 _ _ (sg S (.mv rfl <| .yy (ys_T (by omega) (ys_eql (.t rfl) Ev.c)) rfl <| .z) fun a w S => st_then S (.t rfl) (wp_region_lit (run S (.la gt39 0 rfl rfl rfl <| .z) fun a w S => st_m (op_stW S sizeOf39 (.t rfl) (.t rfl) (k := 8) rfl rfl rfl (by simp [Value.oneCell']) fun a w S => st_nil (in_normal (then_normal (hK4 _ _ (wp_region_lit (run S (.ad (by unfold I64; omega) rfl <| .mv rfl <| .z) fun a w S => st_nil (then_normal ?_))))))))))))))
        exact ⟨(k + 1, A11, r11, A21, r21, A31, r31), by dsimp only; omega, by dsimp only; omega, by dsimp only; rw [e]; exact S.pk⟩
      · have e : pickTo (st.map (·.1)) sw (k + 1) = pickTo (st.map (·.1)) sw k := by rw [hnx, hb]; unfold pickF; rw [if_pos rfl, if_neg hj]
        have rw_j := decide_eq_false hj
        refine sg S (.lt (by omega) rfl rfl <| .z) fun a w S => wp_seq_k fun _ hK4 => st_then S (.t rfl) (wp_skip (then_normal (hK4 _ _ (wp_seq_k fun _ hK4 => wp_block (wp_seq_k fun _ hK5 => wp_region_lit (run S (.mv rfl <| .ix underlying29 sizeOf39 (by omega) rfl rfl <| .yy (ys_ldWA ⟨isAgg39, sizeOf39⟩ (.t rfl) (k := 4) rfl hq (fun _ => rfl)) rfl <| .z) fun a w S => st_m (op_alloc S zeroValue39 (cs := _) rfl rfl fun g4 a w S => run S (.as rfl <| .z) fun a w S => st_m (op_stW S sizeOf39 (.t rfl) (.t rfl) (k := 0) rfl rfl rfl (by simp [Value.oneCell']) fun a w S => st_nil (then_normal (hK5 _ _ (wp_seq_k fun _ hK5 => wp_region_lit (run S (.fa underlying26 sizeOf24 4 rfl rfl rfl <| .ld gt24 9 rfl rfl rfl <| .mv rfl <| .ix underlying24 sizeOf27 (by omega) rfl rfl <| .yy (ys_ldO ⟨isAgg27, sizeOf27⟩ (.t rfl) (fun _ => hcE 0 _ rfl)) rfl <| .mv rfl <| .yy (ys_shr (.t rfl) (.t rfl) (Nat.ble_eq_true_of_le (by show _ ≤ 64; omega))) rfl <| .yy (ys_band (.t rfl) Ev.c) rfl <| .yy (ys_eql (.t rfl) Ev.c) rfl <| .z) fun a w S => ?_))))))))))))
        rw [rw_b] at S
        refine st_nil (then_normal (hK5 _ _ (st_then S (.t rfl) (wp_seq_k fun _ hK5 => wp_region_lit (run S (.la gt39 4 rfl rfl rfl <| .la gt39 0 rfl rfl rfl <| .z) fun a w S => ?_)))))
        (refine st_m (op_calls S call34 (.cons (.t rfl) (.cons (.t rfl) .nil)) (c34 _ _ _ _ _ _ _ _ _ (by exact Sl.of_own S.wd (k := 1) rfl (fun _ => rfl)) (by exact ⟨(by exact Sl.of_own S.wd (k := 2) rfl (fun _ => rfl)), (by exact Sl.of_own S.wd (k := 3) rfl (fun _ => rfl))⟩) (by exact SlIn.sl (by assumption) S.wd (k := 7) rfl) (by exact ⟨(by exact SlIn.sl (by assumption) S.wd (k := 7) rfl), (by exact SlIn.sl (by assumption) S.wd (k := 7) rfl)⟩)) rfl ?_); clear S a w; rintro _ _ ⟨A11, r11, A21, r21, A31, r31, rfl, rfl⟩ a w S)
        simp only [List.nil_append] at S
        refine run S (.mv rfl <| .ex rfl rfl <| .ex rfl rfl <| .z) fun a w S => st_m (op_alloc S zeroValue39 (cs := _) rfl rfl fun g5 a w S => st_m (op_stW S sizeOf39 (.t rfl) (.t rfl) (k := 0) rfl rfl rfl (by simp [Value.oneCell']) fun a w S => run S (.as rfl <| .z) fun a w S => st_nil (then_normal (hK5 _ _ (sg S (.mv rfl <| .yy (ys_F (by omega) (ys_eql (.t rfl) Ev.c)) rfl <| .z) fun a w S => st_else S (.t rfl) (wp_skip (in_normal (then_normal (hK4 _ _ (wp_region_lit (run S (.ad (by unfold I64; omega) rfl <| .mv rfl <| .z) fun a w S => st_nil (then_normal ?_))))))))))))
        exact ⟨(k + 1, A1, r1, A2, r2, A3, r3), by dsimp only; omega, by dsimp only; omega, by dsimp only; rw [e]; exact S.pk⟩
  obtain rfl : k = st.length := by omega
  have ep : pickTo (st.map (·.1)) sw st.length = pickK (playTo h i).st sw := by rw [← hst]; unfold pickK; rw [List.length_map]
  rw [ep] at S
  clear hkl hk
  have hpl : (pickK (playTo h i).st sw).ents.length ≤ 1048576 ∧ (pickK (playTo h i).st sw).ctx.marks.length ≤ 1048576 ∧ (pickK (playTo h i).st sw).ctx.cloud.length ≤ 1048576 := pick_len (playTo h i).st sw (playTo h i).st.length
  have rw_n := node_val nv
  have hnp := nodeP_lt nv
  generalize hCT : (playTo h i).ct = ct at S hct
  have hcx := ctL_get (l := ct) (n := nodeP nv) (by omega)
  have hcb := play_ct h i (nodeP nv)
  rw [hCT] at hcb
  generalize hX : ct.getD (nodeP nv) 0 = x at hcx hcb
  have rw_s := ctL_set ct (nodeP nv) (x + 1)
  have hcy := ctL_get (l := ct.set (nodeP nv) (x + 1)) (n := nodeP nv) (by rw [List.length_set]; omega)
  have ey : (ct.set (nodeP nv) (x + 1)).getD (nodeP nv) 0 = x + 1 := by rw [List.getD_eq_getElem?_getD, List.getElem?_set_self (by omega)]; rfl
  rw [ey] at hcy
  have hcl2 : (ct.set (nodeP nv) (x + 1)).length = 8 := by rw [List.length_set]; exact hct
  have rw_n2 : IntKind.i64.wrap ((nodeP nv : Int).tmod 2) = ((nodeP nv % 2 : Nat) : Int) := by
    rw [Int.tmod_eq_emod_of_nonneg (by omega), IntKind.wrap_i64]; omega
  refine sg S (.ge (by omega) rfl rfl <| .z) fun a w S => wp_seq_k fun _ hK4 => st_else S (.t rfl) (wp_exit (then_exit (then_exit (in_here (then_normal (hK3 _ _ (wp_seq_k fun _ hK3 => wp_region_lit (run S (.fa underlying26 sizeOf23 3 rfl rfl rfl <| .ld gt23 8 rfl rfl rfl <| .mv rfl <| .ix underlying23 sizeOf3 (by omega) rfl rfl <| .yy (ys_ldO ⟨isAgg3, sizeOf3⟩ (.t rfl) (fun _ => hcD 0 _ rfl)) rfl <| .yy (ys_cv underlying3 underlying87 (.t rfl)) rfl <| .yy (ys_rem (.t rfl) Ev.c (fun _ => by omega)) rfl <| .yy (ys_cv underlying87 underlying3 (.t rfl)) rfl <| .z) fun a w S => ?_))))))))
  rw [rw_n] at S
  refine run S (.as rfl <| .z) fun a w S => st_nil (then_normal (hK3 _ _ (wp_seq_k fun _ hK3 => wp_region_lit (run S (.mv rfl <| .yy (ys_ixA underlying86 sizeOf3 (.t rfl) (.t rfl) (fun _ => by omega)) rfl <| .yy (ys_ldN ⟨isAgg3, sizeOf3⟩ (.t rfl) (k := 7) rfl (fun _ => by assumption)) rfl <| .ad (by unfold I64; omega) rfl <| .yy (ys_ixA underlying86 sizeOf3 (.t rfl) (.t rfl) (fun _ => by omega)) rfl <| .z) fun a w S => st_m (op_st S sizeOf3 (.t rfl) (.t rfl) (k := 7) rfl rfl (by rw [Go.Fw.ctL_len]; omega) fun a w S => ?_)))))
  rw [rw_s] at S
  refine st_nil (then_normal (hK3 _ _ (wp_seq_k fun _ hK3 => h_begin0 S (by kernel_rfl) fun a w S => hy 0 S rfl (ys_move (.t rfl)) rfl fun a w S => hy 1 S rfl (ys_move (.t rfl)) rfl fun a w S => hy 2 S rfl (ys_remE (.t rfl) Ev.c (fun _ => by omega)) rfl fun a w S => hy 3 S rfl (ys_addI Ev.c (.t rfl) (fun _ => by unfold I64; omega)) rfl fun a w S => hy 4 S rfl (ys_move (.t rfl)) rfl fun a w S => ?_)))
  refine hy 5 S rfl (ys_ixA underlying86 sizeOf3 (.t rfl) (.t rfl) (fun _ => by omega)) rfl fun a w S => hy 6 S rfl (ys_ldN ⟨isAgg3, sizeOf3⟩ (.t rfl) (k := 7) rfl (fun _ => by assumption)) rfl fun a w S => hy 7 S rfl (ys_bld (ps := [(0, Go.Operand.tmp 95), (1, Go.Operand.tmp 98), (2, Go.Operand.tmp 101)]) (us := [_, _, _]) bld58 (.cons (.t rfl) (.cons (.t rfl) (.cons (.t rfl) .nil))) rfl) rfl fun a w S => hy 8 S rfl (ys_move (.t rfl)) rfl fun a w S => ?_
  refine hy 9 S rfl (ys_fieldN (FieldT.mk underlying26 rfl sizeOf23 rfl) (.t rfl) (i' := 1) rfl) rfl fun a w S => hy 10 S rfl (ys_ld ⟨isAgg23, sizeOf23⟩ (.t rfl) (k := 8) rfl rfl) rfl fun a w S => hy 11 S rfl (ys_move (.t rfl)) rfl fun a w S => hy 12 S rfl (ys_ixS underlying23 sizeOf3 (.t rfl) (.t rfl) (fun _ => by omega)) rfl fun a w S => hy 13 S rfl (ys_ldO ⟨isAgg3, sizeOf3⟩ (.t rfl) (fun _ => hcB 0 _ rfl)) rfl fun a w S => ?_
  refine hy 14 S rfl (ys_fieldN (FieldT.mk underlying26 rfl sizeOf24 rfl) (.t rfl) (i' := 2) rfl) rfl fun a w S => hy 15 S rfl (ys_ld ⟨isAgg24, sizeOf24⟩ (.t rfl) (k := 8) rfl rfl) rfl fun a w S => hy 16 S rfl (ys_move (.t rfl)) rfl fun a w S => hy 17 S rfl (ys_ixS underlying24 sizeOf27 (.t rfl) (.t rfl) (fun _ => by omega)) rfl fun a w S => hy 18 S rfl (ys_ldO ⟨isAgg27, sizeOf27⟩ (.t rfl) (fun _ => hcC 0 _ rfl)) rfl fun a w S => ?_
  refine hy 19 S rfl (ys_ldA ⟨isAgg39, sizeOf39⟩ (.t rfl) (k := 3) rfl rfl) rfl fun a w S => hy 20 S rfl (ys_bld (ps := [(0, _), (1, Go.Operand.tmp 102), (2, Go.Operand.tmp 103), (3, Go.Operand.tmp 108), (4, Go.Operand.tmp 113), (5, Go.Operand.tmp 114)]) (us := [_, _, _, _, _, _, _, _, _, _]) bld60 (.cons Ev.c (.cons (.t rfl) (.cons (.t rfl) (.cons (.t rfl) (.cons (.t rfl) (.cons (.t rfl) .nil)))))) rfl) rfl fun a w S => ?_
  (refine h_m (i := 21) rfl (by kernel_rfl) (op_alloc S zeroValue60 (cs := _) rfl rfl ?_); clear S a w; intro g4 a w S; refine h_n1 S ?_)
  (refine h_m0 (i := 22) rfl (by kernel_rfl) (op_stW S sizeOf60 (.t rfl) (.t rfl) (k := 0) rfl rfl rfl (by simp [Value.oneCell']) ?_); clear S a w; intro a w S; refine h_n1 S ?_)
  refine h_done (by kernel_rfl) (then_normal (hK3 _ _ (wp_seq_k fun _ hK3 => wp_seq_k fun _ hK5 => wp_region_lit ?_)))
  by_cases hq : qv ≤ 0
  · have rw_q : decide (qv ≤ 0) = true := decide_eq_true hq
    generalize hU : (⟨[107], ⟨(nodeP nv : Int), 1 + (nodeP nv : Int) % 2, x + 1⟩, item, 0, 0, pickK (playTo h i).st sw⟩ : Upd) = U
    have hst2 : stepU (playTo h i) item qv pv nv sw = U := by
      rw [← hU]
      unfold stepU
      rw [if_pos hq, if_pos hq, hCT, hX]
      congr 2
    refine run S (.fa underlying60 sizeOf3 5 rfl rfl rfl <| .ld gt3 0 rfl rfl rfl <| .yy (ys_T (by omega) (ys_leq (.t rfl) Ev.c)) rfl <| .z) fun a w S => st_nil (then_normal (hK5 _ _ (st_then S (.t rfl) (wp_region_lit (run S (.fa underlying60 sizeOf3 5 rfl rfl rfl <| .z) fun a w S => st_m (op_st S sizeOf3 (.t rfl) Ev.c (k := 0) rfl rfl (by simp) fun a w S => run S (.fa underlying60 sizeOf27 6 rfl rfl rfl <| .z) fun a w S => st_m (op_st S sizeOf27 (.t rfl) Ev.c (k := 0) rfl rfl (by simp) fun a w S => st_nil (then_normal (hK3 _ _ (wp_seq_k fun _ hK3 => wp_region_lit (run S (.la gt60 0 rfl rfl rfl <| .z) fun a w S => ?_)))))))))))
    simp only [List.set_cons_succ, List.set_cons_zero] at S
    have hse : pickK (playTo h i).st sw = U.seen := by rw [← hU]
    rw [hse] at S hpl
    have huu : #[Value.string ⟨#[107]⟩, .int .i64 (nodeP nv : Int), .int .i64 (1 + (nodeP nv : Int) % 2), .int .i64 (x + 1), .string (Fw.bs item), .int .i64 0, .int .u64 0, .slice A1 U.seen.ents.length r1, .slice A2 U.seen.ctx.marks.length r2, .slice A3 U.seen.ctx.cloud.length r3] = (Upd.enc U (.slice A1 U.seen.ents.length r1) (.slice A2 U.seen.ctx.marks.length r2) (.slice A3 U.seen.ctx.cloud.length r3)).toArray := by subst hU; rfl
    rw [huu] at S
    have hnx : playTo h (i + 1) = stepP (playTo h i) U nv := by
      rw [playTo, List.getD_eq_getElem?_getD, hitem, List.getD_eq_getElem?_getD, hqv, List.getD_eq_getElem?_getD, hpv, List.getD_eq_getElem?_getD, hnv, List.getD_eq_getElem?_getD, hsw]
      show stepP (playTo h i) (stepU (playTo h i) item qv pv nv sw) nv = _
      rw [hst2]
    by_cases ha : (applyU U).2 = 0
    · have rw_a := ha
      (refine st_m (op_calls S call30 (.cons (.t rfl) .nil) (c30 _ _ _ _ _ (by exact Sl.of_own S.wd (k := 1) rfl (fun _ => rfl)) (by exact ⟨(by exact Sl.of_own S.wd (k := 2) rfl (fun _ => rfl)), (by exact Sl.of_own S.wd (k := 3) rfl (fun _ => rfl))⟩)) rfl ?_); clear S a w; rintro _ _ ⟨A11, r11, A21, r21, A31, r31, rfl, rfl⟩ a w S)
      rw [rw_a] at S
      refine run S (.mv rfl <| .ex rfl rfl <| .ex rfl rfl <| .z) fun a w S => st_m (op_alloc S zeroValue39 (cs := _) rfl rfl fun g5 a w S => st_m (op_stW S sizeOf39 (.t rfl) (.t rfl) (k := 0) rfl rfl rfl (by simp [Value.oneCell']) fun a w S => run S (.as rfl <| .z) fun a w S => st_nil (then_normal (hK3 _ _ (wp_seq_k fun _ hK3 => wp_seq_k fun _ hK5 => wp_region_lit ?_)))))
      have rw_c : #[Value.slice A11 (applyU U).1.ents.length r11, .slice A21 (applyU U).1.ctx.marks.length r21, .slice A31 (applyU U).1.ctx.cloud.length r31] = (SCart.enc ((applyU U).1, ⟨A11, (applyU U).1.ents.length, r11, A21, (applyU U).1.ctx.marks.length, r21, A31, (applyU U).1.ctx.cloud.length, r31⟩)).toArray := rfl
      have rw_v : (Upd.enc U (.slice A1 U.seen.ents.length r1) (.slice A2 U.seen.ctx.marks.length r2) (.slice A3 U.seen.ctx.cloud.length r3)).toArray = (SUpd.enc (U, ⟨A1, U.seen.ents.length, r1, A2, U.seen.ctx.marks.length, r2, A3, U.seen.ctx.cloud.length, r3⟩)).toArray := rfl
      refine run S (.mv rfl <| .z) fun a w S => ?_
      rw [rw_c] at S
      rw [rw_v] at S
      refine run S (.yy (ys_F (by omega) (ys_neq (.t rfl) Ev.c)) rfl <| .z) fun a w S => ?_
      rw [rw_c] at S
      rw [rw_v] at S
      refine st_nil ?_
      rw [rw_c] at S
      rw [rw_v] at S
      refine then_normal (hK5 _ _ ?_)
      rw [rw_c] at S
      rw [rw_v] at S
      refine st_else S (.t rfl) ?_
      rw [rw_c] at S
      rw [rw_v] at S
      refine wp_skip ?_
      rw [rw_c] at S
      rw [rw_v] at S
      refine then_normal (hK3 _ _ ?_)
      rw [rw_c] at S
      rw [rw_v] at S
      refine wp_seq_k fun _ hK3 => ?_
      rw [rw_c] at S
      rw [rw_v] at S
      refine wp_region_lit ?_
      rw [rw_c] at S
      rw [rw_v] at S
      refine run S (.mv rfl <| .z) fun a w S => ?_
      rw [rw_c] at S
      rw [rw_v] at S
      refine run S (.la gt39 0 rfl rfl rfl <| .z) fun a w S => ?_
      rw [rw_c] at S
      rw [rw_v] at S
      refine st_m (op_bslice1 S underlying29 inf39 rfl rfl rfl (.t rfl) rfl rfl rfl fun g6 a w S => ?_)
      rw [rw_c] at S
      rw [rw_v] at S
      refine st_m (op_push S underlying29 inf39 rfl (k := 10) (j := 0) rfl (.t rfl) (.t rfl) rfl rfl rfl rfl (by first | omega | (simp only [List.length_append, List.length_cons, List.length_nil]; omega)) rfl rfl rfl fun A4 cap1 a w S => ?_)
      rw [rw_c] at S
      rw [rw_v] at S
      refine run S (.as rfl <| .z) fun a w S => ?_
      rw [rw_c] at S
      rw [rw_v] at S
      refine st_nil ?_
      rw [rw_c] at S
      rw [rw_v] at S
      refine then_normal (hK3 _ _ ?_)
      rw [rw_c] at S
      rw [rw_v] at S
      refine wp_region_lit ?_
      rw [rw_c] at S
      rw [rw_v] at S
      refine run S (.mv rfl <| .z) fun a w S => ?_
      rw [rw_c] at S
      rw [rw_v] at S
      refine run S (.la gt60 5 rfl rfl rfl <| .z) fun a w S => ?_
      rw [rw_c] at S
      rw [rw_v] at S
      refine st_m (op_bslice1 S underlying30 inf60 rfl rfl rfl (.t rfl) rfl rfl rfl fun g7 a w S => ?_)
      rw [rw_c] at S
      rw [rw_v] at S
      refine st_m (op_push S underlying30 inf60 rfl (k := 12) (j := 0) rfl (.t rfl) (.t rfl) rfl rfl rfl rfl (by first | omega | (simp only [List.length_append, List.length_cons, List.length_nil]; omega)) rfl rfl rfl fun A5 cap2 a w S => ?_)
      rw [rw_c] at S
      rw [rw_v] at S
      refine run S (.as rfl <| .z) fun a w S => ?_
      rw [rw_c] at S
      rw [rw_v] at S
      refine st_nil ?_
      rw [rw_c] at S
      rw [rw_v] at S
      refine in_normal (then_normal (hK2 _ _ ?_))
      rw [rw_c] at S
      rw [rw_v] at S
      refine wp_region_lit ?_
      rw [rw_c] at S
      rw [rw_v] at S
      refine run S (.ad (by unfold I64; omega) rfl <| .z) fun a w S => ?_
      rw [rw_c] at S
      rw [rw_v] at S
      refine run S (.mv rfl <| .z) fun a w S => ?_
      rw [rw_c] at S
      rw [rw_v] at S
      refine st_nil ?_
      rw [rw_c] at S
      rw [rw_v] at S
      refine then_normal ?_
      rw [rw_c] at S
      rw [rw_v] at S
      have hok := applyU_ok ha
      have hns : (playTo h (i + 1)).st = (playTo h i).st ++ [(applyU U).1] ∧ (playTo h (i + 1)).up = (playTo h i).up ++ [U] ∧ (playTo h (i + 1)).ct = ct.set (nodeP nv) (x + 1) := by
        rw [hnx]; unfold stepP; rw [if_pos ha]
        refine ⟨rfl, rfl, ?_⟩
        show (playTo h i).ct.set (nodeP nv) ((playTo h i).ct.getD (nodeP nv) 0 + 1) = _
        rw [hCT, hX]
      generalize hs1 : (⟨A11, (applyU U).1.ents.length, r11, A21, (applyU U).1.ctx.marks.length, r21, A31, (applyU U).1.ctx.cloud.length, r31⟩ : Sls3) = s1 at S
      generalize hs2 : (⟨A1, U.seen.ents.length, r1, A2, U.seen.ctx.marks.length, r2, A3, U.seen.ctx.cloud.length, r3⟩ : Sls3) = s2 at S
      have W0 := S.wd.picks (L' := [rowOf 71 6 Ent.enc A11 r11 (applyU U).1.ents, rowOf 122 3 Dot.enc A21 r21 (applyU U).1.ctx.marks, rowOf 58 3 Dot.enc A31 r31 (applyU U).1.ctx.cloud, rowOf 71 6 Ent.enc A1 r1 U.seen.ents, rowOf 122 3 Dot.enc A2 r2 U.seen.ctx.marks, rowOf 58 3 Dot.enc A3 r3 U.seen.ctx.cloud, .ice w1 bs,
        rowOf 39 3 SCart.enc A4 cap1 (st ++ [((applyU U).1, s1)]), rowOf 60 10 SUpd.enc A5 cap2 (up ++ [(U, s2)]), .blk g2 (.cells (ctL (ct.set (nodeP nv) (x + 1))).toArray 86), .blk g1 (.cells #[.slice (some ⟨gA, oA, none⟩) h.items.length cap, .slice (some ⟨gB, oB, none⟩) h.qtys.length capB, .slice (some ⟨gC, oC, none⟩) h.prices.length capC, .slice (some ⟨gD, oD, none⟩) h.nodes.length capD, .slice (some ⟨gE, oE, none⟩) h.saws.length capE] 26)]) (by repeat (first | exact Picks.nil | (refine Picks.rest ?_; (repeat (first | exact List.Sublist.refl _ | refine List.Sublist.cons_cons _ ?_ | refine List.Sublist.cons _ ?_)); done) | refine Picks.take 0 rfl ?_ | refine Picks.take 1 rfl ?_ | refine Picks.take 2 rfl ?_ | refine Picks.take 3 rfl ?_ | refine Picks.take 4 rfl ?_ | refine Picks.take 5 rfl ?_ | refine Picks.take 6 rfl ?_ | refine Picks.take 7 rfl ?_ | refine Picks.take 8 rfl ?_ | refine Picks.take 9 rfl ?_ | refine Picks.take 10 rfl ?_ | refine Picks.take 11 rfl ?_))
      have W1 := Wd.freeze (cs := [rowOf 71 6 Ent.enc A11 r11 (applyU U).1.ents, rowOf 122 3 Dot.enc A21 r21 (applyU U).1.ctx.marks, rowOf 58 3 Dot.enc A31 r31 (applyU U).1.ctx.cloud, rowOf 71 6 Ent.enc A1 r1 U.seen.ents, rowOf 122 3 Dot.enc A2 r2 U.seen.ctx.marks, rowOf 58 3 Dot.enc A3 r3 U.seen.ctx.cloud, .ice w1 bs]) W0
      generalize hcs0 : [rowOf 71 6 Ent.enc A11 r11 (applyU U).1.ents, rowOf 122 3 Dot.enc A21 r21 (applyU U).1.ctx.marks, rowOf 58 3 Dot.enc A31 r31 (applyU U).1.ctx.cloud, rowOf 71 6 Ent.enc A1 r1 U.seen.ents, rowOf 122 3 Dot.enc A2 r2 U.seen.ctx.marks, rowOf 58 3 Dot.enc A3 r3 U.seen.ctx.cloud, .ice w1 bs] = cs0 at W1
      have hblk : ∀ (k : Nat) (c : Chunk), cs0[k]? = some c → ∀ b ∈ c.blocks, b ∈ cs0.flatMap Chunk.blocks := fun k c hk b hb => List.mem_flatMap.2 ⟨c, List.mem_of_getElem? hk, hb⟩
      have n1 : CartIn w (cs0.flatMap Chunk.blocks) (applyU U).1 s1 := by
        rw [← hs1]
        exact ⟨SlIn.row W0 (k := 0) rfl (fun _ => rfl) (hblk 0 _ (by rw [← hcs0]; rfl)), SlIn.row W0 (k := 1) rfl (fun _ => rfl) (hblk 1 _ (by rw [← hcs0]; rfl)), SlIn.row W0 (k := 2) rfl (fun _ => rfl) (hblk 2 _ (by rw [← hcs0]; rfl))⟩
      have n2 : CartIn w (cs0.flatMap Chunk.blocks) U.seen s2 := by
        rw [← hs2]
        exact ⟨SlIn.row W0 (k := 3) rfl (fun _ => rfl) (hblk 3 _ (by rw [← hcs0]; rfl)), SlIn.row W0 (k := 4) rfl (fun _ => rfl) (hblk 4 _ (by rw [← hcs0]; rfl)), SlIn.row W0 (k := 5) rfl (fun _ => rfl) (hblk 5 _ (by rw [← hcs0]; rfl))⟩
      have hold := hblk 6 (.ice w1 bs) (by rw [← hcs0]; rfl)
      replace S := St.mk S.kn W1
      refine ⟨(i + 1, A4, cap1, st ++ [((applyU U).1, s1)], A5, cap2, up ++ [(U, s2)], w, cs0.flatMap Chunk.blocks), ⟨by dsimp only; omega, by dsimp only; rw [hns.1, List.map_append, hst]; rfl, by dsimp only; rw [hns.2.1, List.map_append, hup]; rfl, fun p hp => ?_, fun p hp => ?_⟩, by dsimp only; omega, by dsimp only; rw [hns.2.2]; exact S.pk⟩
      · rcases List.mem_append.1 hp with hp | hp
        · exact (hcs p hp).anew W0 (k := 6) rfl hold
        · rw [List.mem_singleton.1 hp]; exact n1
      · rcases List.mem_append.1 hp with hp | hp
        · exact (hcu p hp).anew W0 (k := 6) rfl hold
        · rw [List.mem_singleton.1 hp]; exact n2
    · have rw_a : decide ((applyU U).2 ≠ 0) = true := decide_eq_true ha
      have rw_s2 := ctL_set (ct.set (nodeP nv) (x + 1)) (nodeP nv) (x + 1 - 1)
      have hnz : playTo h (i + 1) = playTo h i := by rw [hnx]; unfold stepP; rw [if_neg ha]
      have ect : (ct.set (nodeP nv) (x + 1)).set (nodeP nv) (x + 1 - 1) = ct := by
        rw [List.set_set, show x + 1 - 1 = x by omega, ← hX, List.getD_eq_getElem?_getD, List.getElem?_eq_getElem (by omega)]
        exact List.set_getElem_self (by omega)
      (refine st_m (op_calls S call30 (.cons (.t rfl) .nil) (c30 _ _ _ _ _ (by exact Sl.of_own S.wd (k := 1) rfl (fun _ => rfl)) (by exact ⟨(by exact Sl.of_own S.wd (k := 2) rfl (fun _ => rfl)), (by exact Sl.of_own S.wd (k := 3) rfl (fun _ => rfl))⟩)) rfl ?_); clear S a w; rintro _ _ ⟨A11, r11, A21, r21, A31, r31, rfl, rfl⟩ a w S)
      refine run S (.mv rfl <| .ex rfl rfl <| .ex rfl rfl <| .z) fun a w S => st_m (op_alloc S zeroValue39 (cs := _) rfl rfl fun g5 a w S => st_m (op_stW S sizeOf39 (.t rfl) (.t rfl) (k := 0) rfl rfl rfl (by simp [Value.oneCell']) fun a w S => run S (.as rfl <| .z) fun a w S => st_nil (then_normal (hK3 _ _ (wp_seq_k fun _ hK3 => sg S (.mv rfl <| .yy (ys_T (by omega) (ys_neq (.t rfl) Ev.c)) rfl <| .z) fun a w S => st_then S (.t rfl) (wp_seq_k fun _ hK5 => wp_region_lit (run S (.mv rfl <| .yy (ys_ixA underlying86 sizeOf3 (.t rfl) (.t rfl) (fun _ => by omega)) rfl <| .yy (ys_ldN ⟨isAgg3, sizeOf3⟩ (.t rfl) (k := 12) rfl (fun _ => by assumption)) rfl <| .yy (ys_subI (.t rfl) Ev.c (fun _ => by unfold I64; omega)) rfl <| .yy (ys_ixA underlying86 sizeOf3 (.t rfl) (.t rfl) (fun _ => by omega)) rfl <| .z) fun a w S => st_m (op_st S sizeOf3 (.t rfl) (.t rfl) (k := 12) rfl rfl (by rw [Go.Fw.ctL_len]; omega) fun a w S => ?_))))))))
      rw [rw_s2] at S
      refine st_nil (then_normal (hK5 _ _ (wp_exit (then_exit (in_here (then_normal (hK2 _ _ (wp_region_lit (run S (.ad (by unfold I64; omega) rfl <| .mv rfl <| .z) fun a w S => st_nil (then_normal ?_))))))))))
      rw [ect] at S
      exact ⟨(i + 1, F, cF, st, G, cG, up, w1, bs), ⟨by dsimp only; omega, by dsimp only; rw [hnz]; exact hst, by dsimp only; rw [hnz]; exact hup, hcs, hcu⟩, by dsimp only; omega, by dsimp only; rw [hnz, hCT]; exact S.pk⟩
  · have rw_q : decide (qv ≤ 0) = false := decide_eq_false hq
    generalize hU : (⟨[107], ⟨(nodeP nv : Int), 1 + (nodeP nv : Int) % 2, x + 1⟩, item, qv, pv, pickK (playTo h i).st sw⟩ : Upd) = U
    have hst2 : stepU (playTo h i) item qv pv nv sw = U := by
      rw [← hU]
      unfold stepU
      rw [if_neg hq, if_neg hq, hCT, hX]
      congr 2
    refine run S (.fa underlying60 sizeOf3 5 rfl rfl rfl <| .ld gt3 0 rfl rfl rfl <| .yy (ys_F (by omega) (ys_leq (.t rfl) Ev.c)) rfl <| .z) fun a w S => st_nil (then_normal (hK5 _ _ (st_else S (.t rfl) (wp_skip (then_normal (hK3 _ _ (wp_seq_k fun _ hK3 => ?_)))))))
    have hse : pickK (playTo h i).st sw = U.seen := by rw [← hU]
    rw [hse] at S hpl
    have huu : #[Value.string ⟨#[107]⟩, .int .i64 (nodeP nv : Int), .int .i64 (1 + (nodeP nv : Int) % 2), .int .i64 (x + 1), .string (Fw.bs item), .int .i64 qv, .int .u64 (pv.toNat : Int), .slice A1 U.seen.ents.length r1, .slice A2 U.seen.ctx.marks.length r2, .slice A3 U.seen.ctx.cloud.length r3] = (Upd.enc U (.slice A1 U.seen.ents.length r1) (.slice A2 U.seen.ctx.marks.length r2) (.slice A3 U.seen.ctx.cloud.length r3)).toArray := by subst hU; rfl
    rw [huu] at S
    have hnx : playTo h (i + 1) = stepP (playTo h i) U nv := by
      rw [playTo, List.getD_eq_getElem?_getD, hitem, List.getD_eq_getElem?_getD, hqv, List.getD_eq_getElem?_getD, hpv, List.getD_eq_getElem?_getD, hnv, List.getD_eq_getElem?_getD, hsw]
      show stepP (playTo h i) (stepU (playTo h i) item qv pv nv sw) nv = _
      rw [hst2]
    by_cases ha : (applyU U).2 = 0
    · have rw_a := ha
      refine wp_region_lit (run S (.la gt60 0 rfl rfl rfl <| .z) fun a w S => ?_)
      (refine st_m (op_calls S call30 (.cons (.t rfl) .nil) (c30 _ _ _ _ _ (by exact Sl.of_own S.wd (k := 1) rfl (fun _ => rfl)) (by exact ⟨(by exact Sl.of_own S.wd (k := 2) rfl (fun _ => rfl)), (by exact Sl.of_own S.wd (k := 3) rfl (fun _ => rfl))⟩)) rfl ?_); clear S a w; rintro _ _ ⟨A11, r11, A21, r21, A31, r31, rfl, rfl⟩ a w S)
      rw [rw_a] at S
      refine run S (.mv rfl <| .ex rfl rfl <| .ex rfl rfl <| .z) fun a w S => st_m (op_alloc S zeroValue39 (cs := _) rfl rfl fun g5 a w S => st_m (op_stW S sizeOf39 (.t rfl) (.t rfl) (k := 0) rfl rfl rfl (by simp [Value.oneCell']) fun a w S => run S (.as rfl <| .z) fun a w S => st_nil (then_normal (hK3 _ _ (wp_seq_k fun _ hK3 => ?_)))))
      have rw_c : #[Value.slice A11 (applyU U).1.ents.length r11, .slice A21 (applyU U).1.ctx.marks.length r21, .slice A31 (applyU U).1.ctx.cloud.length r31] = (SCart.enc ((applyU U).1, ⟨A11, (applyU U).1.ents.length, r11, A21, (applyU U).1.ctx.marks.length, r21, A31, (applyU U).1.ctx.cloud.length, r31⟩)).toArray := rfl
      have rw_v : (Upd.enc U (.slice A1 U.seen.ents.length r1) (.slice A2 U.seen.ctx.marks.length r2) (.slice A3 U.seen.ctx.cloud.length r3)).toArray = (SUpd.enc (U, ⟨A1, U.seen.ents.length, r1, A2, U.seen.ctx.marks.length, r2, A3, U.seen.ctx.cloud.length, r3⟩)).toArray := rfl
      refine wp_seq_k fun _ hK5 => ?_
      rw [rw_c] at S
      rw [rw_v] at S
      refine wp_region_lit ?_
      rw [rw_c] at S
      rw [rw_v] at S
      refine run S (.mv rfl <| .z) fun a w S => ?_
      rw [rw_c] at S
      rw [rw_v] at S
      refine run S (.yy (ys_F (by omega) (ys_neq (.t rfl) Ev.c)) rfl <| .z) fun a w S => ?_
      rw [rw_c] at S
      rw [rw_v] at S
      refine st_nil ?_
      rw [rw_c] at S
      rw [rw_v] at S
      refine then_normal (hK5 _ _ ?_)
      rw [rw_c] at S
      rw [rw_v] at S
      refine st_else S (.t rfl) ?_
      rw [rw_c] at S
      rw [rw_v] at S
      refine wp_skip ?_
      rw [rw_c] at S
      rw [rw_v] at S
      refine then_normal (hK3 _ _ ?_)
      rw [rw_c] at S
      rw [rw_v] at S
      refine wp_seq_k fun _ hK3 => ?_
      rw [rw_c] at S
      rw [rw_v] at S
      refine wp_region_lit ?_
      rw [rw_c] at S
      rw [rw_v] at S
      refine run S (.mv rfl <| .z) fun a w S => ?_
      rw [rw_c] at S
      rw [rw_v] at S
      refine run S (.la gt39 0 rfl rfl rfl <| .z) fun a w S => ?_
      rw [rw_c] at S
      rw [rw_v] at S
      refine st_m (op_bslice1 S underlying29 inf39 rfl rfl rfl (.t rfl) rfl rfl rfl fun g6 a w S => ?_)
      rw [rw_c] at S
      rw [rw_v] at S
      refine st_m (op_push S underlying29 inf39 rfl (k := 10) (j := 0) rfl (.t rfl) (.t rfl) rfl rfl rfl rfl (by first | omega | (simp only [List.length_append, List.length_cons, List.length_nil]; omega)) rfl rfl rfl fun A4 cap1 a w S => ?_)
      rw [rw_c] at S
      rw [rw_v] at S
      refine run S (.as rfl <| .z) fun a w S => ?_
      rw [rw_c] at S
      rw [rw_v] at S
      refine st_nil ?_
      rw [rw_c] at S
      rw [rw_v] at S
      refine then_normal (hK3 _ _ ?_)
      rw [rw_c] at S
      rw [rw_v] at S
      refine wp_region_lit ?_
      rw [rw_c] at S
      rw [rw_v] at S
      refine run S (.mv rfl <| .z) fun a w S => ?_
      rw [rw_c] at S
      rw [rw_v] at S
      refine run S (.la gt60 5 rfl rfl rfl <| .z) fun a w S => ?_
      rw [rw_c] at S
      rw [rw_v] at S
      refine st_m (op_bslice1 S underlying30 inf60 rfl rfl rfl (.t rfl) rfl rfl rfl fun g7 a w S => ?_)
      rw [rw_c] at S
      rw [rw_v] at S
      refine st_m (op_push S underlying30 inf60 rfl (k := 12) (j := 0) rfl (.t rfl) (.t rfl) rfl rfl rfl rfl (by first | omega | (simp only [List.length_append, List.length_cons, List.length_nil]; omega)) rfl rfl rfl fun A5 cap2 a w S => ?_)
      rw [rw_c] at S
      rw [rw_v] at S
      refine run S (.as rfl <| .z) fun a w S => ?_
      rw [rw_c] at S
      rw [rw_v] at S
      refine st_nil ?_
      rw [rw_c] at S
      rw [rw_v] at S
      refine in_normal (then_normal (hK2 _ _ ?_))
      rw [rw_c] at S
      rw [rw_v] at S
      refine wp_region_lit ?_
      rw [rw_c] at S
      rw [rw_v] at S
      refine run S (.ad (by unfold I64; omega) rfl <| .z) fun a w S => ?_
      rw [rw_c] at S
      rw [rw_v] at S
      refine run S (.mv rfl <| .z) fun a w S => ?_
      rw [rw_c] at S
      rw [rw_v] at S
      refine st_nil ?_
      rw [rw_c] at S
      rw [rw_v] at S
      refine then_normal ?_
      rw [rw_c] at S
      rw [rw_v] at S
      have hok := applyU_ok ha
      have hns : (playTo h (i + 1)).st = (playTo h i).st ++ [(applyU U).1] ∧ (playTo h (i + 1)).up = (playTo h i).up ++ [U] ∧ (playTo h (i + 1)).ct = ct.set (nodeP nv) (x + 1) := by
        rw [hnx]; unfold stepP; rw [if_pos ha]
        refine ⟨rfl, rfl, ?_⟩
        show (playTo h i).ct.set (nodeP nv) ((playTo h i).ct.getD (nodeP nv) 0 + 1) = _
        rw [hCT, hX]
      generalize hs1 : (⟨A11, (applyU U).1.ents.length, r11, A21, (applyU U).1.ctx.marks.length, r21, A31, (applyU U).1.ctx.cloud.length, r31⟩ : Sls3) = s1 at S
      generalize hs2 : (⟨A1, U.seen.ents.length, r1, A2, U.seen.ctx.marks.length, r2, A3, U.seen.ctx.cloud.length, r3⟩ : Sls3) = s2 at S
      have W0 := S.wd.picks (L' := [rowOf 71 6 Ent.enc A11 r11 (applyU U).1.ents, rowOf 122 3 Dot.enc A21 r21 (applyU U).1.ctx.marks, rowOf 58 3 Dot.enc A31 r31 (applyU U).1.ctx.cloud, rowOf 71 6 Ent.enc A1 r1 U.seen.ents, rowOf 122 3 Dot.enc A2 r2 U.seen.ctx.marks, rowOf 58 3 Dot.enc A3 r3 U.seen.ctx.cloud, .ice w1 bs,
        rowOf 39 3 SCart.enc A4 cap1 (st ++ [((applyU U).1, s1)]), rowOf 60 10 SUpd.enc A5 cap2 (up ++ [(U, s2)]), .blk g2 (.cells (ctL (ct.set (nodeP nv) (x + 1))).toArray 86), .blk g1 (.cells #[.slice (some ⟨gA, oA, none⟩) h.items.length cap, .slice (some ⟨gB, oB, none⟩) h.qtys.length capB, .slice (some ⟨gC, oC, none⟩) h.prices.length capC, .slice (some ⟨gD, oD, none⟩) h.nodes.length capD, .slice (some ⟨gE, oE, none⟩) h.saws.length capE] 26)]) (by repeat (first | exact Picks.nil | (refine Picks.rest ?_; (repeat (first | exact List.Sublist.refl _ | refine List.Sublist.cons_cons _ ?_ | refine List.Sublist.cons _ ?_)); done) | refine Picks.take 0 rfl ?_ | refine Picks.take 1 rfl ?_ | refine Picks.take 2 rfl ?_ | refine Picks.take 3 rfl ?_ | refine Picks.take 4 rfl ?_ | refine Picks.take 5 rfl ?_ | refine Picks.take 6 rfl ?_ | refine Picks.take 7 rfl ?_ | refine Picks.take 8 rfl ?_ | refine Picks.take 9 rfl ?_ | refine Picks.take 10 rfl ?_ | refine Picks.take 11 rfl ?_))
      have W1 := Wd.freeze (cs := [rowOf 71 6 Ent.enc A11 r11 (applyU U).1.ents, rowOf 122 3 Dot.enc A21 r21 (applyU U).1.ctx.marks, rowOf 58 3 Dot.enc A31 r31 (applyU U).1.ctx.cloud, rowOf 71 6 Ent.enc A1 r1 U.seen.ents, rowOf 122 3 Dot.enc A2 r2 U.seen.ctx.marks, rowOf 58 3 Dot.enc A3 r3 U.seen.ctx.cloud, .ice w1 bs]) W0
      generalize hcs0 : [rowOf 71 6 Ent.enc A11 r11 (applyU U).1.ents, rowOf 122 3 Dot.enc A21 r21 (applyU U).1.ctx.marks, rowOf 58 3 Dot.enc A31 r31 (applyU U).1.ctx.cloud, rowOf 71 6 Ent.enc A1 r1 U.seen.ents, rowOf 122 3 Dot.enc A2 r2 U.seen.ctx.marks, rowOf 58 3 Dot.enc A3 r3 U.seen.ctx.cloud, .ice w1 bs] = cs0 at W1
      have hblk : ∀ (k : Nat) (c : Chunk), cs0[k]? = some c → ∀ b ∈ c.blocks, b ∈ cs0.flatMap Chunk.blocks := fun k c hk b hb => List.mem_flatMap.2 ⟨c, List.mem_of_getElem? hk, hb⟩
      have n1 : CartIn w (cs0.flatMap Chunk.blocks) (applyU U).1 s1 := by
        rw [← hs1]
        exact ⟨SlIn.row W0 (k := 0) rfl (fun _ => rfl) (hblk 0 _ (by rw [← hcs0]; rfl)), SlIn.row W0 (k := 1) rfl (fun _ => rfl) (hblk 1 _ (by rw [← hcs0]; rfl)), SlIn.row W0 (k := 2) rfl (fun _ => rfl) (hblk 2 _ (by rw [← hcs0]; rfl))⟩
      have n2 : CartIn w (cs0.flatMap Chunk.blocks) U.seen s2 := by
        rw [← hs2]
        exact ⟨SlIn.row W0 (k := 3) rfl (fun _ => rfl) (hblk 3 _ (by rw [← hcs0]; rfl)), SlIn.row W0 (k := 4) rfl (fun _ => rfl) (hblk 4 _ (by rw [← hcs0]; rfl)), SlIn.row W0 (k := 5) rfl (fun _ => rfl) (hblk 5 _ (by rw [← hcs0]; rfl))⟩
      have hold := hblk 6 (.ice w1 bs) (by rw [← hcs0]; rfl)
      replace S := St.mk S.kn W1
      refine ⟨(i + 1, A4, cap1, st ++ [((applyU U).1, s1)], A5, cap2, up ++ [(U, s2)], w, cs0.flatMap Chunk.blocks), ⟨by dsimp only; omega, by dsimp only; rw [hns.1, List.map_append, hst]; rfl, by dsimp only; rw [hns.2.1, List.map_append, hup]; rfl, fun p hp => ?_, fun p hp => ?_⟩, by dsimp only; omega, by dsimp only; rw [hns.2.2]; exact S.pk⟩
      · rcases List.mem_append.1 hp with hp | hp
        · exact (hcs p hp).anew W0 (k := 6) rfl hold
        · rw [List.mem_singleton.1 hp]; exact n1
      · rcases List.mem_append.1 hp with hp | hp
        · exact (hcu p hp).anew W0 (k := 6) rfl hold
        · rw [List.mem_singleton.1 hp]; exact n2
    · have rw_a : decide ((applyU U).2 ≠ 0) = true := decide_eq_true ha
      have rw_s2 := ctL_set (ct.set (nodeP nv) (x + 1)) (nodeP nv) (x + 1 - 1)
      have hnz : playTo h (i + 1) = playTo h i := by rw [hnx]; unfold stepP; rw [if_neg ha]
      have ect : (ct.set (nodeP nv) (x + 1)).set (nodeP nv) (x + 1 - 1) = ct := by
        rw [List.set_set, show x + 1 - 1 = x by omega, ← hX, List.getD_eq_getElem?_getD, List.getElem?_eq_getElem (by omega)]
        exact List.set_getElem_self (by omega)
      refine wp_region_lit (run S (.la gt60 0 rfl rfl rfl <| .z) fun a w S => ?_)
      (refine st_m (op_calls S call30 (.cons (.t rfl) .nil) (c30 _ _ _ _ _ (by exact Sl.of_own S.wd (k := 1) rfl (fun _ => rfl)) (by exact ⟨(by exact Sl.of_own S.wd (k := 2) rfl (fun _ => rfl)), (by exact Sl.of_own S.wd (k := 3) rfl (fun _ => rfl))⟩)) rfl ?_); clear S a w; rintro _ _ ⟨A11, r11, A21, r21, A31, r31, rfl, rfl⟩ a w S)
      refine run S (.mv rfl <| .ex rfl rfl <| .ex rfl rfl <| .z) fun a w S => st_m (op_alloc S zeroValue39 (cs := _) rfl rfl fun g5 a w S => st_m (op_stW S sizeOf39 (.t rfl) (.t rfl) (k := 0) rfl rfl rfl (by simp [Value.oneCell']) fun a w S => run S (.as rfl <| .z) fun a w S => st_nil (then_normal (hK3 _ _ (wp_seq_k fun _ hK3 => sg S (.mv rfl <| .yy (ys_T (by omega) (ys_neq (.t rfl) Ev.c)) rfl <| .z) fun a w S => st_then S (.t rfl) (wp_seq_k fun _ hK5 => wp_region_lit (run S (.mv rfl <| .yy (ys_ixA underlying86 sizeOf3 (.t rfl) (.t rfl) (fun _ => by omega)) rfl <| .yy (ys_ldN ⟨isAgg3, sizeOf3⟩ (.t rfl) (k := 12) rfl (fun _ => by assumption)) rfl <| .yy (ys_subI (.t rfl) Ev.c (fun _ => by unfold I64; omega)) rfl <| .yy (ys_ixA underlying86 sizeOf3 (.t rfl) (.t rfl) (fun _ => by omega)) rfl <| .z) fun a w S => st_m (op_st S sizeOf3 (.t rfl) (.t rfl) (k := 12) rfl rfl (by rw [Go.Fw.ctL_len]; omega) fun a w S => ?_))))))))
      rw [rw_s2] at S
      refine st_nil (then_normal (hK5 _ _ (wp_exit (then_exit (in_here (then_normal (hK2 _ _ (wp_region_lit (run S (.ad (by unfold I64; omega) rfl <| .mv rfl <| .z) fun a w S => st_nil (then_normal ?_))))))))))
      rw [ect] at S
      exact ⟨(i + 1, F, cF, st, G, cG, up, w1, bs), ⟨by dsimp only; omega, by dsimp only; rw [hnz]; exact hst, by dsimp only; rw [hnz]; exact hup, hcs, hcu⟩, by dsimp only; omega, by dsimp only; rw [hnz, hCT]; exact S.pk⟩
end Go.Proofs.YtfblmkocmnbdcaaGreat
set_option linter.unusedVariables false
set_option linter.unusedSimpArgs false
set_option maxRecDepth 100000
namespace Go.Proofs.YtfblmkocmnbdcaaGreat
open Go.Fw Go.Proofs Go.RowKit Go.ChangeShapes Go.WideShapes Go.ChangeAt Go.Deep Go.Joins Go.Proofs.Tryz
section
variable {H : Type} {enc : TypeId × Value → H} {w : World}
theorem rdI : Rdr enc Tryz.prog w 3 fun cs _ => ∃ x : Int, cs = encI x ∧ True := (Rdr.int underlying3).mono fun cs b ⟨n, e, _⟩ => ⟨n, e, trivial⟩
theorem rdU : Rdr enc Tryz.prog w 27 fun cs _ => ∃ x : UInt64, cs = encU x ∧ True := (Rdr.int underlying27).mono fun cs b ⟨n, e, h⟩ => by
  obtain ⟨p, rfl⟩ := u64_wf h
  exact ⟨p, e, trivial⟩
theorem rdS : Rdr enc Tryz.prog w 9 fun cs b => ∃ s : List UInt8, cs = encS s ∧ s.length ≤ b := (Rdr.str underlying9).mono fun cs b ⟨s, e, h⟩ => ⟨s, e, by omega⟩
structure HistRd (w : World) (v1 v2 v3 v4 v5 : Value) (h : Hist) (b : Nat) : Prop where
  items : Sl encS 1 w w.heap.size v1 h.items
  qtys : Sl encI 1 w w.heap.size v2 h.qtys
  prices : Sl encU 1 w w.heap.size v3 h.prices
  nodes : Sl encI 1 w w.heap.size v4 h.nodes
  saws : Sl encU 1 w w.heap.size v5 h.saws
theorem rdHist : Rdr enc Tryz.prog w 26 fun cs b => ∃ v1 v2 v3 v4 v5 h, cs = [v1, v2, v3, v4, v5] ∧ HistRd w v1 v2 v3 v4 v5 h b := by
  refine (Rdr.struct underlying26 (by kernel_rfl) (.cons (Rdr.slice (k := 1) underlying22 (by kernel_rfl) rfl (fun _ => rfl) rdS) (.cons (Rdr.slice (k := 1) underlying23 (by kernel_rfl) rfl (fun _ => rfl) rdI) (.cons (Rdr.slice (k := 1) underlying24 (by kernel_rfl) rfl (fun _ => rfl) rdU) (.cons (Rdr.slice (k := 1) underlying23 (by kernel_rfl) rfl (fun _ => rfl) rdI) (.cons (Rdr.slice (k := 1) underlying24 (by kernel_rfl) rfl (fun _ => rfl) rdU) .nil)))))).mono ?_
  rintro cs b ⟨_, _, rfl, ⟨_, _, v1, l1, rfl, h1, _⟩, _, _, rfl, ⟨_, _, v2, l2, rfl, h2, _⟩, _, _, rfl, ⟨_, _, v3, l3, rfl, h3, _⟩, _, _, rfl, ⟨_, _, v4, l4, rfl, h4, _⟩, _, _, rfl, ⟨_, _, v5, l5, rfl, h5, _⟩, rfl⟩
  exact ⟨v1, v2, v3, v4, v5, ⟨l1, l2, l3, l4, l5⟩, rfl, h1, h2, h3, h4, h5⟩
theorem read_hist {t : TypeId} (e : t = 26) {r : Reach} {b0 : Nat} {v : Value} {d : DataW H} {p : List MemPlace} (hv : Value.okWide Tryz.prog w r b0 t v) (h : DataW.Trod enc Tryz.prog w 0 (fun _ => true) true t v d p) :
    ∃ v1 v2 v3 v4 v5 x, v = .agg #[v1, v2, v3, v4, v5] ∧ HistRd w v1 v2 v3 v4 v5 x (Rows.uptoBulk d) := by
  subst e
  obtain ⟨v1, v2, v3, v4, v5, x, hc, hX⟩ := Rdr.top rdHist h
  exact ⟨v1, v2, v3, v4, v5, x, top_agg underlying26 hv hc, hX⟩
end
end Go.Proofs.YtfblmkocmnbdcaaGreat
set_option linter.unusedVariables false
set_option linter.unusedSimpArgs false
namespace Go.Fw
open Go.RowKit
def numB (x : Nat) : List UInt8 := if x < 128 then [b8 (x : Int)] else b8 ((x % 128 + 128 : Nat) : Int) :: numB (x / 128)
termination_by x
decreasing_by omega
theorem numB_small {x : Nat} (h : x < 128) : numB x = [b8 (x : Int)] := by rw [numB, if_pos h]
theorem numB_big {x : Nat} (h : ¬ x < 128) : numB x = b8 ((x % 128 + 128 : Nat) : Int) :: numB (x / 128) := by rw [numB, if_neg h]
theorem numB_len : ∀ (k x : Nat), x < 128 ^ (k + 1) → (numB x).length ≤ k + 1
  | 0, x, h => by rw [numB_small (by simpa using h)]; simp
  | k + 1, x, h => by
    by_cases hx : x < 128
    · rw [numB_small hx]; simp
    · rw [numB_big hx]
      have := numB_len k (x / 128) (by rw [Nat.pow_succ] at h; omega)
      simp; omega
theorem numB_len10 {x : Nat} (h : x < 9223372036854775808) : (numB x).length ≤ 9 := numB_len 8 x (by simpa using h)
def putL (l : List UInt8) (n : Int) : List UInt8 := l ++ numB n.toNat
theorem putL_len (l : List UInt8) {n : Int} (h : n < 9223372036854775808) : (putL l n).length ≤ l.length + 9 := by
  have := numB_len10 (x := n.toNat) (by omega)
  unfold putL
  rw [List.length_append]; omega
theorem or128 : ∀ y : Fin 256, orK .u8 ((y : Nat) : Int) 128 = (((y : Nat) % 128 + 128 : Nat) : Int) := by decide +kernel
theorem or_put (x : Nat) : orK .u8 ((b8 (x : Int)).toNat : Int) 128 = ((b8 ((x % 128 + 128 : Nat) : Int)).toNat : Int) := by
  have h1 := b8_val (x : Int)
  have h2 := b8_val ((x % 128 + 128 : Nat) : Int)
  have h3 : (b8 (x : Int)).toNat < 256 := by omega
  have h4 := or128 ⟨(b8 (x : Int)).toNat, h3⟩
  dsimp only at h4
  rw [h4]
  omega
end Go.Fw
set_option linter.unusedVariables false
set_option linter.unusedSimpArgs false
namespace Go.Fw
open Go.RowKit
def numR (i : Nat) (n : Int) : List UInt8 → Int × Nat × Int
  | [] => (0, 0, 2)
  | x :: r =>
    if i = 8 ∧ 128 ≤ x.toNat then (0, 0, 5)
    else if x.toNat < 128 then (if 0 < i ∧ x.toNat = 0 then (0, 0, 10) else (n + (x.toNat : Int) % 128 * 128 ^ i, i + 1, 0))
    else numR (i + 1) (n + (x.toNat : Int) % 128 * 128 ^ i) r
theorem numR_nil (i : Nat) (n : Int) : numR i n [] = (0, 0, 2) := rfl
theorem numR_len : ∀ (l : List UInt8) (i : Nat) (n : Int), (numR i n l).2.1 ≤ i + l.length
  | [], _, _ => by simp [numR]
  | x :: r, i, n => by
    unfold numR
    split
    · simp
    · split
      · split <;> simp
      · have := numR_len r (i + 1) (n + (x.toNat : Int) % 128 * 128 ^ i)
        simp only [List.length_cons]; omega
theorem numR_val : ∀ (l : List UInt8) (i : Nat) (n : Int), i ≤ 8 → 0 ≤ n → n < 128 ^ i → 0 ≤ (numR i n l).1 ∧ (numR i n l).1 ≤ 9223372036854775807
  | [], _, _, _, _, _ => by simp [numR]
  | x :: r, i, n, hi, h0, h1 => by
    have hx : x.toNat < 256 := x.toNat_lt
    have hp : (0 : Int) < 128 ^ i := Int.pow_pos (by decide)
    have hm0 : 0 ≤ (x.toNat : Int) % 128 := by omega
    have hm1 : (x.toNat : Int) % 128 ≤ 127 := by omega
    have h2 : (x.toNat : Int) % 128 * 128 ^ i ≤ 127 * 128 ^ i := Int.mul_le_mul_of_nonneg_right hm1 (by omega)
    have h3 : 0 ≤ (x.toNat : Int) % 128 * 128 ^ i := Int.mul_nonneg hm0 (by omega)
    have h4 : (128 : Int) ^ (i + 1) = 128 * 128 ^ i := by rw [Int.pow_succ]; omega
    have h5 : (128 : Int) ^ (i + 1) ≤ 128 ^ 9 := by
      have : i = 0 ∨ i = 1 ∨ i = 2 ∨ i = 3 ∨ i = 4 ∨ i = 5 ∨ i = 6 ∨ i = 7 ∨ i = 8 := by omega
      rcases this with h | h | h | h | h | h | h | h | h <;> subst h <;> decide
    unfold numR
    split
    · simp
    · split
      · split
        · simp
        · simp only; omega
      · rename_i hn _
        exact numR_val r (i + 1) _ (by omega) (by omega) (by omega)
theorem numR_bad : ∀ {l : List UInt8} {i : Nat} {n : Int}, (numR i n l).2.2 ≠ 0 → (numR i n l).1 = 0 ∧ (numR i n l).2.1 = 0
  | [], _, _, _ => ⟨rfl, rfl⟩
  | x :: r, i, n, h => by
    unfold numR at h ⊢
    split
    · exact ⟨rfl, rfl⟩
    · rename_i h1
      rw [if_neg h1] at h
      split
      · rename_i h2
        rw [if_pos h2] at h
        split
        · exact ⟨rfl, rfl⟩
        · rename_i h3
          rw [if_neg h3] at h
          exact absurd rfl h
      · rename_i h2
        rw [if_neg h2] at h
        exact numR_bad h
def byteR (b : List UInt8) (k : Nat) : Int × Nat × Int := match b[k]? with | some x => ((x.toNat : Int), 1, 0) | none => (0, 0, 2)
theorem byteR_some {b : List UInt8} {k : Nat} {x : UInt8} (h : b[k]? = some x) : byteR b k = ((x.toNat : Int), 1, 0) := by unfold byteR; rw [h]
theorem byteR_none {b : List UInt8} {k : Nat} (h : k = b.length) : byteR b k = (0, 0, 2) := by unfold byteR; rw [List.getElem?_eq_none (by omega)]
def numAt (b : List UInt8) (k : Nat) : Int × Nat × Int := ((numR 0 0 (b.drop k)).1, k + (numR 0 0 (b.drop k)).2.1, (numR 0 0 (b.drop k)).2.2)
theorem numAt_le {b : List UInt8} {k : Nat} (h : k ≤ b.length) : k ≤ (numAt b k).2.1 ∧ (numAt b k).2.1 ≤ b.length := by
  have := numR_len (b.drop k) 0 0
  rw [List.length_drop] at this
  unfold numAt
  dsimp only
  omega
theorem numAt_val (b : List UInt8) (k : Nat) : 0 ≤ (numAt b k).1 ∧ (numAt b k).1 ≤ 9223372036854775807 := numR_val (b.drop k) 0 0 (by omega) (by omega) (by decide)
theorem pow_num {i : Nat} (hi : i ≤ 8) : (0 : Int) < 128 ^ i ∧ (128 : Int) ^ i ≤ 72057594037927936 ∧ (2 : Int) ^ (7 * i) = 128 ^ i := by
  have : i = 0 ∨ i = 1 ∨ i = 2 ∨ i = 3 ∨ i = 4 ∨ i = 5 ∨ i = 6 ∨ i = 7 ∨ i = 8 := by omega
  rcases this with h | h | h | h | h | h | h | h | h <;> subst h <;> decide
theorem sh_num {i : Nat} {y : Int} (hi : i ≤ 8) (h0 : 0 ≤ y) (h1 : y ≤ 127) : IntKind.i64.wrap (y * 2 ^ (7 * i)) = y * 128 ^ i ∧ 0 ≤ y * 128 ^ i ∧ y * 128 ^ i ≤ 9223372036854775807 := by
  obtain ⟨p1, p2, p3⟩ := pow_num hi
  have h2 : y * 128 ^ i ≤ 127 * 128 ^ i := Int.mul_le_mul_of_nonneg_right h1 (by omega)
  have h3 : 0 ≤ y * 128 ^ i := Int.mul_nonneg h0 (by omega)
  rw [p3]
  exact ⟨wrap_i64 ⟨by omega, by omega⟩, h3, by omega⟩
theorem andK_comm (k : IntKind) (p q : Int) : orK k p q = orK k q p := by unfold orK; rw [BitVec.or_comm]
theorem or_num {i : Nat} {m y : Int} (hi : i ≤ 8) (hm0 : 0 ≤ m) (hm1 : m < 128 ^ i) (h0 : 0 ≤ y) (h1 : y ≤ 127) : orK .i64 m (y * 128 ^ i) = m + y * 128 ^ i := by
  obtain ⟨p1, p2, p3⟩ := pow_num hi
  obtain ⟨_, h2, h3⟩ := sh_num hi h0 h1
  rw [andK_comm, orK_add (7 * i) (by omega) h2 h3 (by rw [p3]; exact Int.mul_emod_left _ _) hm0 (by rw [p3]; exact hm1), Int.add_comm]
theorem numR_step {l : List UInt8} {x : UInt8} {k i : Nat} {n : Int} (hx : l[k]? = some x) : numR i n (l.drop k) = if i = 8 ∧ 128 ≤ x.toNat then (0, 0, 5)
    else if x.toNat < 128 then (if 0 < i ∧ x.toNat = 0 then (0, 0, 10) else (n + (x.toNat : Int) % 128 * 128 ^ i, i + 1, 0))
    else numR (i + 1) (n + (x.toNat : Int) % 128 * 128 ^ i) (l.drop (k + 1)) := by
  obtain ⟨h, rfl⟩ := List.getElem?_eq_some_iff.1 hx
  rw [List.drop_eq_getElem_cons h, numR]
end Go.Fw
set_option linter.unusedVariables false
set_option linter.unusedSimpArgs false
namespace Go.Fw
open Go.RowKit
def dotB (b : List UInt8) (d : Dot) : List UInt8 := putL (putL (putL b d.node) d.life) d.count
def dotsB (b : List UInt8) (l : List Dot) : List UInt8 := l.foldl dotB (putL b (l.length : Int))
def encC (b : List UInt8) (C : Ctx) : List UInt8 := dotsB (dotsB b C.marks) C.cloud
theorem dotB_len {b : List UInt8} {d : Dot} (h : mayD d = true) : (dotB b d).length ≤ b.length + 27 := by
  have hl := may_lim h
  have h1 := putL_len b (n := d.node) (by omega)
  have h2 := putL_len (putL b d.node) (n := d.life) (by omega)
  have h3 := putL_len (putL (putL b d.node) d.life) (n := d.count) (by omega)
  unfold dotB
  omega
theorem dotF_len : ∀ {l : List Dot} {b : List UInt8}, (∀ x ∈ l, mayD x = true) → (l.foldl dotB b).length ≤ b.length + 27 * l.length
  | [], b, _ => by simp
  | d :: r, b, h => by
    have h1 := dotB_len (b := b) (h d (by simp))
    have h2 := dotF_len (l := r) (b := dotB b d) fun x hx => h x (by simp [hx])
    rw [List.foldl_cons, List.length_cons]
    omega
theorem dotF_take {l : List Dot} {b : List UInt8} {k : Nat} {m : Dot} (hm : l[k]? = some m) : (l.take (k + 1)).foldl dotB b = dotB ((l.take k).foldl dotB b) m := by
  rw [List.take_add_one, hm, List.foldl_append]; rfl
theorem dotsB_len {l : List Dot} {b : List UInt8} (h : ∀ x ∈ l, mayD x = true) (hl : l.length ≤ 64) : (dotsB b l).length ≤ b.length + 1737 := by
  have h1 := dotF_len (l := l) (b := putL b (l.length : Int)) h
  have h2 := putL_len b (n := (l.length : Int)) (by omega)
  unfold dotsB
  omega
end Go.Fw
set_option linter.unusedVariables false
set_option linter.unusedSimpArgs false
namespace Go.Fw
open Go.RowKit
def bindR {α β : Type} (r : α × Nat × Int) (z : β) (f : α → Nat → β × Nat × Int) : β × Nat × Int := if r.2.2 = 0 then f r.1 r.2.1 else (z, r.2.1, r.2.2)
theorem bindR_ok {α β : Type} {r : α × Nat × Int} {z : β} {f : α → Nat → β × Nat × Int} (h : r.2.2 = 0) : bindR r z f = f r.1 r.2.1 := if_pos h
theorem bindR_bad {α β : Type} {r : α × Nat × Int} {z : β} {f : α → Nat → β × Nat × Int} (h : r.2.2 ≠ 0) : bindR r z f = (z, r.2.1, r.2.2) := if_neg h
theorem bindR_bad' {α β : Type} {x : α} {k : Nat} {e : Int} {z : β} {f : α → Nat → β × Nat × Int} (h : e ≠ 0) : bindR (x, k, e) z f = (z, k, e) := bindR_bad h
theorem bindR_le {α β : Type} {r : α × Nat × Int} {z : β} {f : α → Nat → β × Nat × Int} {k n : Nat} (h : k ≤ r.2.1 ∧ r.2.1 ≤ n) (hf : ∀ x k1, k ≤ k1 → k1 ≤ n → k ≤ (f x k1).2.1 ∧ (f x k1).2.1 ≤ n) : k ≤ (bindR r z f).2.1 ∧ (bindR r z f).2.1 ≤ n := by
  unfold bindR
  split
  · exact hf _ _ h.1 h.2
  · exact h
def dotAt (b : List UInt8) (k : Nat) : Dot × Nat × Int := bindR (numAt b k) ⟨0, 0, 0⟩ fun x k1 => bindR (numAt b k1) ⟨0, 0, 0⟩ fun y k2 => bindR (numAt b k2) ⟨0, 0, 0⟩ fun z k3 => (⟨x, y, z⟩, k3, 0)
theorem dotAt_le {b : List UInt8} {k : Nat} (h : k ≤ b.length) : k ≤ (dotAt b k).2.1 ∧ (dotAt b k).2.1 ≤ b.length :=
  bindR_le (numAt_le h) fun x k1 h1 h2 => bindR_le ⟨by have := numAt_le h2; omega, (numAt_le h2).2⟩ fun y k2 h3 h4 => bindR_le ⟨by have := numAt_le h4; omega, (numAt_le h4).2⟩ fun z k3 h5 h6 => ⟨h5, h6⟩
def dotsAt (b : List UInt8) : Nat → List Dot → Nat → List Dot × Nat × Int
  | 0, acc, k => (acc, k, 0)
  | n + 1, acc, k => bindR (dotAt b k) [] fun d k1 => dotsAt b n (acc ++ [d]) k1
theorem dotsAt_le {b : List UInt8} : ∀ {n k : Nat} {acc : List Dot}, k ≤ b.length → k ≤ (dotsAt b n acc k).2.1 ∧ (dotsAt b n acc k).2.1 ≤ b.length
  | 0, k, _, h => ⟨Nat.le_refl _, h⟩
  | n + 1, k, acc, h => bindR_le (dotAt_le h) fun d k1 h1 h2 => by have := dotsAt_le (n := n) (acc := acc ++ [d]) h2; omega
theorem dotsAt_len {b : List UInt8} : ∀ {n k : Nat} {acc : List Dot}, (dotsAt b n acc k).1.length ≤ acc.length + n
  | 0, k, _ => Nat.le_refl _
  | n + 1, k, acc => by
    unfold dotsAt bindR
    split
    · dsimp only
      have := dotsAt_len (b := b) (n := n) (k := (dotAt b k).2.1) (acc := acc ++ [(dotAt b k).1])
      rw [List.length_append, List.length_singleton] at this
      omega
    · exact Nat.zero_le _
def listAt (b : List UInt8) (k : Nat) : List Dot × Nat × Int := bindR (numAt b k) [] fun n k1 => if 64 < n then ([], k1, 4) else dotsAt b n.toNat [] k1
theorem listAt_le {b : List UInt8} {k : Nat} (h : k ≤ b.length) : k ≤ (listAt b k).2.1 ∧ (listAt b k).2.1 ≤ b.length :=
  bindR_le (numAt_le h) fun x k1 h1 h2 => by
    split
    · exact ⟨h1, h2⟩
    · have := dotsAt_le (n := x.toNat) (acc := []) h2
      omega
theorem listAt_len (b : List UInt8) (k : Nat) : (listAt b k).1.length ≤ 64 := by
  unfold listAt bindR
  split
  · dsimp only
    split
    · exact Nat.zero_le _
    · refine Nat.le_trans dotsAt_len ?_
      simp only [List.length_nil]; omega
  · exact Nat.zero_le _
def ctxAt (b : List UInt8) (k : Nat) : Ctx × Nat × Int := bindR (listAt b k) ⟨[], []⟩ fun l k1 => bindR (listAt b k1) ⟨[], []⟩ fun m k2 => if canL ⟨l, m⟩ then (⟨l, m⟩, k2, 0) else (⟨[], []⟩, k2, 30)
theorem ctxAt_le {b : List UInt8} {k : Nat} (h : k ≤ b.length) : k ≤ (ctxAt b k).2.1 ∧ (ctxAt b k).2.1 ≤ b.length :=
  bindR_le (listAt_le h) fun l k1 h1 h2 => bindR_le ⟨by have := listAt_le h2; omega, (listAt_le h2).2⟩ fun m k2 h3 h4 => by split <;> exact ⟨h3, h4⟩
def decAt (b : List UInt8) (k : Nat) : Ctx × Nat × Int := if (ctxAt b k).2.2 = 0 then ctxAt b k else (⟨[], []⟩, k, (ctxAt b k).2.2)
end Go.Fw
set_option linter.unusedVariables false
set_option linter.unusedSimpArgs false
set_option maxRecDepth 100000
namespace Go.Proofs.YtfblmkocmnbdcaaGreat
open Go.Fw Go.Proofs Go.RowKit Go.Proofs.Tryz
theorem c53 (w0 : World) (v1 : Value) (l : List UInt8) (n : Int) (h : Sl encB 1 w0 w0.heap.size v1 l) (hl : l.length ≤ 16777216) (hn : n < 9223372036854775808) :
    Rets Tryz.prog 53 #[v1, .int .i64 n] w0 fun v L => ∃ A c, v = .slice A (putL l n).length c ∧ L = [rowOf 5 1 encB A c (putL l n)] := by
  obtain ⟨A, cap, rfl, _⟩ := id h
  unfold Go.Fw.Rets
  refine enter2 func53 rfl ntmps53 rfl fun a S => sg S (.ac rfl <| .z) fun a w S => wp_seq_k fun _ hK1 => wp_region_lit (run S (.mv rfl <| .z) fun a w S => st_m (op_extend _ (S.nil_ 5 _ Go.Fw.encB _) underlying28 underlying28 (.inr ⟨_, rfl⟩) inf5 rfl (k := 0) rfl Ev.c (.t rfl) (Src.sl (Sl.old S.wd h) (by decide) Go.Fw.encB_len Go.Fw.encB_one) (by first | omega | (simp only [List.length_append, List.length_cons, List.length_nil]; omega) | (simp; omega)) rfl rfl rfl fun A1 cap1 a w S => ?_))
  simp only [List.nil_append] at S
  refine run S (.as rfl <| .z) fun a w S => st_nil (then_normal (hK1 _ _ (sg S (.mv rfl <| .yy (ys_max (.t rfl) Ev.c) rfl <| .yy (ys_cvU underlying3 underlying27 (.t rfl) (fun _ => by omega)) rfl <| .as rfl <| .z) fun a w S => wp_seq_k fun _ hK1 => wp_block ?_)))
  try simp only [List.nil_append] at S
  have eN : max n 0 = (n.toNat : Int) := by omega
  rw [eN] at S
  refine st_lpK S (X := Nat × List UInt8 × Option Addr × Nat) (fun q => [(6, true, .int .u64 (q.1 : Int)), (5, true, .slice q.2.2.1 q.2.1.length q.2.2.2)]) (fun q _ => [rowOf 5 1 encB q.2.2.1 q.2.2.2 q.2.1]) (fun q => q.1 < 9223372036854775808 ∧ q.2.1 ++ numB q.1 = putL l n) (fun q => q.1) (n.toNat, l, A1, cap1) ⟨by dsimp only; omega, rfl⟩ ?_
  clear S
  intro ⟨x, out, B, cB⟩ a w ⟨hx, hno⟩ S
  dsimp only at hx hno S
  have hout : out.length ≤ l.length + 9 := by
    have h1 := congrArg List.length hno
    have h2 := putL_len l hn
    simp only [List.length_append] at h1
    omega
  by_cases hlt : x < 128
  · refine wp_seq_k fun _ hK2 => sg S (.mv rfl <| .yy (ys_F (by omega) (ys_geq (.t rfl) Ev.c)) rfl <| .z) fun a w S => st_else S (.t rfl) (wp_exit (then_exit (then_exit (in_here (then_normal (hK1 _ _ (wp_seq_k fun _ hK1 => wp_region_lit (run S (.mv rfl <| .mv rfl <| .yy (ys_cvB underlying27 underlying5 (.t rfl)) rfl <| .z) fun a w S => st_m (op_bslice1 S underlying28 inf5 rfl rfl rfl (.t rfl) rfl rfl rfl fun g1 a w S => st_m (op_push S underlying28 inf5 rfl (k := 1) (j := 0) rfl (.t rfl) (.t rfl) rfl rfl rfl rfl (by first | omega | (simp only [List.length_append, List.length_cons, List.length_nil]; omega)) rfl rfl rfl fun A2 cap2 a w S => run S (.as rfl <| .z) fun a w S => st_nil (then_normal (hK1 _ _ (wp_ret (st_ret S (results1 S results53 (Rv.tmp rfl)) ?_))))))))))))))
    rw [numB_small hlt] at hno
    rw [hno] at S
    rw [hno]
    exact ⟨_, _, rfl, S.wd.sub (by repeat (first | exact List.Sublist.refl _ | exact List.nil_sublist _ | refine .cons_cons _ ?_ | refine .cons _ ?_)), _, _, rfl, rfl⟩
  · have rw_o := or_put x
    refine wp_seq_k fun _ hK2 => sg S (.mv rfl <| .yy (ys_T (by omega) (ys_geq (.t rfl) Ev.c)) rfl <| .z) fun a w S => st_then S (.t rfl) (wp_skip (then_normal (hK2 _ _ (wp_block (wp_seq_k fun _ hK2 => wp_region_lit (run S (.mv rfl <| .mv rfl <| .yy (ys_cvB underlying27 underlying5 (.t rfl)) rfl <| .yy (ys_bor (.t rfl) Ev.c) rfl <| .z) fun a w S => ?_))))))
    rw [rw_o] at S
    refine st_m (op_bslice1 S underlying28 inf5 rfl rfl rfl (.t rfl) rfl rfl rfl fun g1 a w S => st_m (op_push S underlying28 inf5 rfl (k := 1) (j := 0) rfl (.t rfl) (.t rfl) rfl rfl rfl rfl (by first | omega | (simp only [List.length_append, List.length_cons, List.length_nil]; omega)) rfl rfl rfl fun A2 cap2 a w S => run S (.as rfl <| .z) fun a w S => st_nil (then_normal (hK2 _ _ (wp_region_lit (run S (.mv rfl <| .yy (ys_shrC (m := 7) (c := 128) (.t rfl) Ev.c rfl rfl) rfl <| .as rfl <| .z) fun a w S => st_nil (in_normal (then_normal ?_))))))))
    have e7 : (x : Int) / 128 = ((x / 128 : Nat) : Int) := by omega
    rw [e7] at S
    exact ⟨(x / 128, out ++ [b8 ((x % 128 + 128 : Nat) : Int)], A2, cap2), ⟨by dsimp only; omega, by dsimp only; rw [← hno, numB_big hlt, List.append_assoc]; rfl⟩, by dsimp only; omega, S.wk⟩
theorem c69 (w0 : World) (v1 : Value) (l : List UInt8) (n : Int) (h : Sl encB 1 w0 w0.heap.size v1 l) (hl : l.length ≤ 16777216) (hn : n < 9223372036854775808) :
    Rets Tryz.prog 69 #[v1, .int .i64 n] w0 fun v L => ∃ A c, v = .slice A (putL l n).length c ∧ L = [rowOf 5 1 encB A c (putL l n)] := by
  obtain ⟨A, cap, rfl, _⟩ := id h
  by_cases h0 : n < 0
  · unfold Go.Fw.Rets
    refine enter2 func69 rfl ntmps69 rfl fun a S => sg S (.ac rfl <| .z) fun a w S => wp_seq_k fun _ hK1 => wp_region_lit (st_m (op_bslice0 S underlying28 sizeOf5 rfl fun g1 a w S => run S (.mv rfl <| .z) fun a w S => st_m (op_extend _ (S.nil_ 5 _ Go.Fw.encB _) underlying28 underlying28 (.inr ⟨_, rfl⟩) inf5 rfl (k := 0) rfl (.t rfl) (.t rfl) (Src.sl (Sl.old S.wd h) (by decide) Go.Fw.encB_len Go.Fw.encB_one) (by first | omega | (simp only [List.length_append, List.length_cons, List.length_nil]; omega) | (simp; omega)) rfl rfl rfl fun A1 cap1 a w S => ?_)))
    simp only [List.nil_append] at S
    refine run S (.as rfl <| .z) fun a w S => st_nil (then_normal (hK1 _ _ (wp_seq_k fun _ hK1 => sg S (.mv rfl <| .yy (ys_T (by omega) (ys_lss (.t rfl) Ev.c)) rfl <| .z) fun a w S => st_then S (.t rfl) (rg S (.ac rfl <| .z) hK1 fun a w S => wp_seq_k fun _ hK1 => wp_block ?_))))
    have eN : n.toNat = 0 := by omega
    try simp only [List.nil_append] at S
    replace S := S.wk (K' := [(1, true, .int .i64 (0 : Int)), (5, true, .slice A1 l.length cap1), (4, true, .slice none 0 0), (0, true, .slice A l.length cap)]) (L' := [rowOf 5 1 encB A1 cap1 l])
    refine st_lpK S (X := Nat × List UInt8 × Option Addr × Nat) (fun q => [(1, true, .int .i64 (q.1 : Int)), (5, true, .slice q.2.2.1 q.2.1.length q.2.2.2)]) (fun q _ => [rowOf 5 1 encB q.2.2.1 q.2.2.2 q.2.1]) (fun q => q.1 < 9223372036854775808 ∧ q.2.1 ++ numB q.1 = putL l n) (fun q => q.1) (0, l, A1, cap1) ⟨by dsimp only; omega, by unfold putL; rw [eN]⟩ ?_
    clear S
    intro ⟨x, out, B, cB⟩ a w ⟨hx, hno⟩ S
    dsimp only at hx hno S
    have hout : out.length ≤ l.length + 9 := by
      have h1 := congrArg List.length hno
      have h2 := putL_len l hn
      simp only [List.length_append] at h1
      omega
    by_cases hlt : x < 128
    · refine wp_seq_k fun _ hK2 => sg S (.mv rfl <| .yy (ys_F (by omega) (ys_geq (.t rfl) Ev.c)) rfl <| .z) fun a w S => st_else S (.t rfl) (wp_exit (then_exit (then_exit (in_here (then_normal (hK1 _ _ (wp_seq_k fun _ hK1 => wp_region_lit (run S (.mv rfl <| .mv rfl <| .yy (ys_cvB underlying3 underlying5 (.t rfl)) rfl <| .z) fun a w S => st_m (op_bslice1 S underlying28 inf5 rfl rfl rfl (.t rfl) rfl rfl rfl fun g2 a w S => st_m (op_push S underlying28 inf5 rfl (k := 1) (j := 0) rfl (.t rfl) (.t rfl) rfl rfl rfl rfl (by first | omega | (simp only [List.length_append, List.length_cons, List.length_nil]; omega)) rfl rfl rfl fun A2 cap2 a w S => run S (.as rfl <| .z) fun a w S => st_nil (then_normal (hK1 _ _ (wp_ret (st_ret S (results1 S results69 (Rv.tmp rfl)) ?_))))))))))))))
      rw [numB_small hlt] at hno
      rw [hno] at S
      rw [hno]
      exact ⟨_, _, rfl, S.wd.sub (by repeat (first | exact List.Sublist.refl _ | exact List.nil_sublist _ | refine .cons_cons _ ?_ | refine .cons _ ?_)), _, _, rfl, rfl⟩
    · have rw_p : (x : Int) % 128 + 128 = ((x % 128 + 128 : Nat) : Int) := by omega
      refine wp_seq_k fun _ hK2 => sg S (.mv rfl <| .yy (ys_T (by omega) (ys_geq (.t rfl) Ev.c)) rfl <| .z) fun a w S => st_then S (.t rfl) (wp_skip (then_normal (hK2 _ _ (wp_block (wp_seq_k fun _ hK2 => wp_region_lit (run S (.mv rfl <| .mv rfl <| .yy (ys_remE (.t rfl) Ev.c (fun _ => by omega)) rfl <| .ad (by unfold I64; omega) rfl <| .z) fun a w S => ?_))))))
      rw [rw_p] at S
      refine run S (.yy (ys_cvB underlying3 underlying5 (.t rfl)) rfl <| .z) fun a w S => st_m (op_bslice1 S underlying28 inf5 rfl rfl rfl (.t rfl) rfl rfl rfl fun g2 a w S => st_m (op_push S underlying28 inf5 rfl (k := 1) (j := 0) rfl (.t rfl) (.t rfl) rfl rfl rfl rfl (by first | omega | (simp only [List.length_append, List.length_cons, List.length_nil]; omega)) rfl rfl rfl fun A2 cap2 a w S => run S (.as rfl <| .z) fun a w S => st_nil (then_normal (hK2 _ _ (wp_region_lit (run S (.mv rfl <| .yy (ys_quoE (.t rfl) Ev.c (fun _ => by omega)) rfl <| .as rfl <| .z) fun a w S => st_nil (in_normal (then_normal ?_))))))))
      have e7 : (x : Int) / 128 = ((x / 128 : Nat) : Int) := by omega
      rw [e7] at S
      exact ⟨(x / 128, out ++ [b8 ((x % 128 + 128 : Nat) : Int)], A2, cap2), ⟨by dsimp only; omega, by dsimp only; rw [← hno, numB_big hlt, List.append_assoc]; rfl⟩, by dsimp only; omega, S.wk⟩
  · obtain ⟨m, rfl⟩ : ∃ m : Nat, n = (m : Int) := ⟨n.toNat, by omega⟩
    unfold Go.Fw.Rets
    refine enter2 func69 rfl ntmps69 rfl fun a S => sg S (.ac rfl <| .z) fun a w S => wp_seq_k fun _ hK1 => wp_region_lit (st_m (op_bslice0 S underlying28 sizeOf5 rfl fun g1 a w S => run S (.mv rfl <| .z) fun a w S => st_m (op_extend _ (S.nil_ 5 _ Go.Fw.encB _) underlying28 underlying28 (.inr ⟨_, rfl⟩) inf5 rfl (k := 0) rfl (.t rfl) (.t rfl) (Src.sl (Sl.old S.wd h) (by decide) Go.Fw.encB_len Go.Fw.encB_one) (by first | omega | (simp only [List.length_append, List.length_cons, List.length_nil]; omega) | (simp; omega)) rfl rfl rfl fun A1 cap1 a w S => ?_)))
    simp only [List.nil_append] at S
    refine run S (.as rfl <| .z) fun a w S => st_nil (then_normal (hK1 _ _ (wp_seq_k fun _ hK1 => sg S (.mv rfl <| .yy (ys_F (by omega) (ys_lss (.t rfl) Ev.c)) rfl <| .z) fun a w S => st_else S (.t rfl) (wp_skip (then_normal (hK1 _ _ (wp_seq_k fun _ hK1 => wp_block ?_)))))))
    try simp only [List.nil_append] at S
    replace S := S.wk (K' := [(1, true, .int .i64 (m : Int)), (5, true, .slice A1 l.length cap1), (4, true, .slice none 0 0), (0, true, .slice A l.length cap)]) (L' := [rowOf 5 1 encB A1 cap1 l])
    refine st_lpK S (X := Nat × List UInt8 × Option Addr × Nat) (fun q => [(1, true, .int .i64 (q.1 : Int)), (5, true, .slice q.2.2.1 q.2.1.length q.2.2.2)]) (fun q _ => [rowOf 5 1 encB q.2.2.1 q.2.2.2 q.2.1]) (fun q => q.1 < 9223372036854775808 ∧ q.2.1 ++ numB q.1 = putL l m) (fun q => q.1) (m, l, A1, cap1) ⟨by dsimp only; omega, rfl⟩ ?_
    clear S
    intro ⟨x, out, B, cB⟩ a w ⟨hx, hno⟩ S
    dsimp only at hx hno S
    have hout : out.length ≤ l.length + 9 := by
      have h1 := congrArg List.length hno
      have h2 := putL_len l hn
      simp only [List.length_append] at h1
      omega
    by_cases hlt : x < 128
    · refine wp_seq_k fun _ hK2 => sg S (.mv rfl <| .yy (ys_F (by omega) (ys_geq (.t rfl) Ev.c)) rfl <| .z) fun a w S => st_else S (.t rfl) (wp_exit (then_exit (then_exit (in_here (then_normal (hK1 _ _ (wp_seq_k fun _ hK1 => wp_region_lit (run S (.mv rfl <| .mv rfl <| .yy (ys_cvB underlying3 underlying5 (.t rfl)) rfl <| .z) fun a w S => st_m (op_bslice1 S underlying28 inf5 rfl rfl rfl (.t rfl) rfl rfl rfl fun g2 a w S => st_m (op_push S underlying28 inf5 rfl (k := 1) (j := 0) rfl (.t rfl) (.t rfl) rfl rfl rfl rfl (by first | omega | (simp only [List.length_append, List.length_cons, List.length_nil]; omega)) rfl rfl rfl fun A2 cap2 a w S => run S (.as rfl <| .z) fun a w S => st_nil (then_normal (hK1 _ _ (wp_ret (st_ret S (results1 S results69 (Rv.tmp rfl)) ?_))))))))))))))
      rw [numB_small hlt] at hno
      rw [hno] at S
      rw [hno]
      exact ⟨_, _, rfl, S.wd.sub (by repeat (first | exact List.Sublist.refl _ | exact List.nil_sublist _ | refine .cons_cons _ ?_ | refine .cons _ ?_)), _, _, rfl, rfl⟩
    · have rw_p : (x : Int) % 128 + 128 = ((x % 128 + 128 : Nat) : Int) := by omega
      refine wp_seq_k fun _ hK2 => sg S (.mv rfl <| .yy (ys_T (by omega) (ys_geq (.t rfl) Ev.c)) rfl <| .z) fun a w S => st_then S (.t rfl) (wp_skip (then_normal (hK2 _ _ (wp_block (wp_seq_k fun _ hK2 => wp_region_lit (run S (.mv rfl <| .mv rfl <| .yy (ys_remE (.t rfl) Ev.c (fun _ => by omega)) rfl <| .ad (by unfold I64; omega) rfl <| .z) fun a w S => ?_))))))
      rw [rw_p] at S
      refine run S (.yy (ys_cvB underlying3 underlying5 (.t rfl)) rfl <| .z) fun a w S => st_m (op_bslice1 S underlying28 inf5 rfl rfl rfl (.t rfl) rfl rfl rfl fun g2 a w S => st_m (op_push S underlying28 inf5 rfl (k := 1) (j := 0) rfl (.t rfl) (.t rfl) rfl rfl rfl rfl (by first | omega | (simp only [List.length_append, List.length_cons, List.length_nil]; omega)) rfl rfl rfl fun A2 cap2 a w S => run S (.as rfl <| .z) fun a w S => st_nil (then_normal (hK2 _ _ (wp_region_lit (run S (.mv rfl <| .yy (ys_quoE (.t rfl) Ev.c (fun _ => by omega)) rfl <| .as rfl <| .z) fun a w S => st_nil (in_normal (then_normal ?_))))))))
      have e7 : (x : Int) / 128 = ((x / 128 : Nat) : Int) := by omega
      rw [e7] at S
      exact ⟨(x / 128, out ++ [b8 ((x % 128 + 128 : Nat) : Int)], A2, cap2), ⟨by dsimp only; omega, by dsimp only; rw [← hno, numB_big hlt, List.append_assoc]; rfl⟩, by dsimp only; omega, S.wk⟩
end Go.Proofs.YtfblmkocmnbdcaaGreat
set_option linter.unusedVariables false
set_option linter.unusedSimpArgs false
set_option maxRecDepth 100000
set_option maxHeartbeats 4000000
namespace Go.Proofs.YtfblmkocmnbdcaaGreat
open Go.Fw Go.Proofs Go.RowKit Go.Proofs.Tryz
theorem c71 (w0 : World) (v0 v1 v2 : Value) (b : List UInt8) (C : Ctx) (hs : Sl encB 1 w0 w0.heap.size v0 b) (h : RdCtx w0 w0.heap.size v1 v2 C) (hb : b.length ≤ 4194304) :
    Rets Tryz.prog 71 #[v0, .agg #[v1, v2]] w0 fun v L => ∃ A c, v = .tuple #[.slice A (if canL C then encC b C else []).length c, .int .i64 (if canL C then 0 else 30)] ∧ L = [rowOf 5 1 encB A c (if canL C then encC b C else [])] := by
  obtain ⟨A0, q0, rfl, _⟩ := id hs
  obtain ⟨h1, h2⟩ := id h
  obtain ⟨B1, q1, rfl, _, _, hA⟩ := id h1
  obtain ⟨B2, q2, rfl, _, _, hA2⟩ := id h2
  cases rw_c : canL C with
  | false =>
    unfold Go.Fw.Rets
    refine enter2 func71 rfl ntmps71 rfl fun a S => wp_seq_k fun _ hK1 => wp_region_lit (st_m (op_box S (.t rfl) rfl fun g1 a w S => run S (.ac rfl <| .ac rfl <| .z) fun a w S => st_nil (then_normal (hK1 _ _ (wp_seq_k fun _ hK1 => wp_seq_k fun _ hK2 => wp_region_lit (run S (.la gt37 0 rfl rfl rfl <| .xx (ys_call call126 (.cons (.t rfl) .nil) (fun hp w W => c126 _ _ _ _ (by exact .old W (by assumption)))) rfl <| .z) fun a w S => ?_))))))
    rw [rw_c] at S
    refine run S (.nt rfl <| .z) fun a w S => st_nil (then_normal (hK2 _ _ (st_then S (.t rfl) (sg S (.ac rfl <| .ac rfl <| .z) fun a w S => wp_ret (then_ret (st_ret S (results2 S results71 (Rv.tmp rfl) (Rv.tmp rfl)) ?_))))))
    exact ⟨_, _, rfl, (S.nil_ 5 1 encB none).wd.sub (by repeat (first | exact List.Sublist.refl _ | exact List.nil_sublist _ | refine .cons_cons _ ?_ | refine .cons _ ?_)), none, 0, rfl, rfl⟩
  | true =>
    have hmM := (can_nf rw_c).mayM
    have hmC := (can_nf rw_c).mayC
    have hlen := can_len rw_c
    have hb1 := putL_len b (n := (C.marks.length : Int)) (by omega)
    have hd1 := dotsB_len (b := b) hmM hlen.1
    have hb2 := putL_len (dotsB b C.marks) (n := (C.cloud.length : Int)) (by omega)
    unfold Go.Fw.Rets
    refine enter2 func71 rfl ntmps71 rfl fun a S => wp_seq_k fun _ hK1 => wp_region_lit (st_m (op_box S (.t rfl) rfl fun g1 a w S => run S (.ac rfl <| .ac rfl <| .z) fun a w S => st_nil (then_normal (hK1 _ _ (wp_seq_k fun _ hK1 => wp_seq_k fun _ hK2 => wp_region_lit (run S (.la gt37 0 rfl rfl rfl <| .xx (ys_call call126 (.cons (.t rfl) .nil) (fun hp w W => c126 _ _ _ _ (by exact .old W (by assumption)))) rfl <| .z) fun a w S => ?_))))))
    rw [rw_c] at S
    refine run S (.nt rfl <| .z) fun a w S => st_nil (then_normal (hK2 _ _ (st_else S (.t rfl) (wp_skip (then_normal (hK1 _ _ (wp_seq_k fun _ hK1 => wp_region_lit (run S (.mv rfl <| .fa underlying37 sizeOf34 0 rfl rfl rfl <| .ld gt34 0 rfl rfl rfl <| .ln underlying34 rfl <| .z) fun a w S => ?_))))))))
    (refine st_m (op_calls S call69 (.cons (.t rfl) (.cons (.t rfl) .nil)) (c69 _ _ _ _ (by exact .old S.wd (by assumption)) (by omega) (by omega)) rfl ?_); clear S a w; rintro _ _ ⟨A1, c1, rfl, rfl⟩ a w S)
    refine run S (.as rfl <| .z) fun a w S => st_nil (then_normal (hK1 _ _ (wp_seq_k fun _ hK1 => sg S (.fa underlying37 sizeOf34 0 rfl rfl rfl <| .ld gt34 1 rfl rfl rfl <| .ln underlying34 rfl <| .mc rfl <| .z) fun a w S => wp_block ?_)))
    replace S := S.wk (K' := [(21, true, .int .i64 ((0 : Nat) : Int)), (20, true, .int .i64 (C.marks.length : Int)), (19, true, .slice B1 C.marks.length q1), (0, true, .slice A1 (putL b (C.marks.length : Int)).length c1), (3, true, .pointer (some ⟨g1, 0, none⟩)), (4, true, .slice none 0 0), (5, true, .int .i64 0)])
      (L' := [rowOf 5 1 encB A1 c1 (putL b (C.marks.length : Int)), .blk g1 (.cells #[.slice B1 C.marks.length q1, .slice B2 C.cloud.length q2] 37)])
    refine st_lpK S (X := Nat × Option Addr × Nat × List UInt8) (fun q => [(21, true, .int .i64 (q.1 : Int)), (0, true, .slice q.2.1 q.2.2.2.length q.2.2.1)]) (fun q _ => [rowOf 5 1 encB q.2.1 q.2.2.1 q.2.2.2, .blk g1 (.cells #[.slice B1 C.marks.length q1, .slice B2 C.cloud.length q2] 37)])
      (fun q => q.1 ≤ C.marks.length ∧ q.2.2.2 = (C.marks.take q.1).foldl dotB (putL b (C.marks.length : Int))) (fun q => C.marks.length - q.1) (0, A1, c1, putL b (C.marks.length : Int)) ⟨Nat.zero_le _, by simp⟩ ?_
    clear S
    intro ⟨k, B, cB, out⟩ a w ⟨hk, hno⟩ S
    dsimp only at hk hno S
    have hout : out.length ≤ b.length + 1737 := by
      have h1 := dotF_len (l := C.marks.take k) (b := putL b (C.marks.length : Int)) fun x hx => hmM x (List.mem_of_mem_take hx)
      have h2 : (C.marks.take k).length ≤ 64 := by rw [List.length_take]; omega
      rw [← hno] at h1
      omega
    by_cases hlt : k < C.marks.length
    · obtain ⟨gq, oq, m, rfl, hmm, hdq, hc⟩ := row_at hA hlt
      have hlm := may_lim (hmM m (List.mem_of_getElem? hmm))
      have hq1 := putL_len out (n := m.node) (by omega)
      have hq2 := putL_len (putL out m.node) (n := m.life) (by omega)
      refine sg S (.lt (by omega) rfl rfl <| .z) fun a w S => wp_seq_k fun _ hK2 => st_then S (.t rfl) (wp_skip (then_normal (hK2 _ _ (wp_seq_k fun _ hK2 => wp_block (wp_seq_k fun _ hK3 => wp_region_lit (run S (.ix underlying34 sizeOf122 (by omega) rfl rfl <| .yy (ys_ldOA ⟨isAgg122, sizeOf122⟩ (.t rfl) (vs := [_, _, _]) rfl (fun _ => hc)) rfl <| .z) fun a w S => st_m (op_alloc S zeroValue122 (cs := _) rfl rfl fun g2 a w S => st_m (op_stW S sizeOf122 (.t rfl) (.t rfl) (k := 0) rfl rfl rfl (by simp [Value.oneCell']) fun a w S => st_nil (then_normal (hK3 _ _ (h_begin0 S (by kernel_rfl) fun a w S => hy 0 S rfl (ys_move (.t rfl)) rfl fun a w S => hy 1 S rfl (ys_fieldN (FieldT.mk underlying122 rfl sizeOf3 rfl) (.t rfl) (i' := 0) rfl) rfl fun a w S => ?_)))))))))))
      refine hy 2 S rfl (ys_ld ⟨isAgg3, sizeOf3⟩ (.t rfl) (k := 0) rfl rfl) rfl fun a w S => hy 4 S rfl (ys_fieldN (FieldT.mk underlying122 rfl sizeOf3 rfl) (.t rfl) (i' := 1) rfl) rfl fun a w S => hy 5 S rfl (ys_ld ⟨isAgg3, sizeOf3⟩ (.t rfl) (k := 0) rfl rfl) rfl fun a w S => hy 7 S rfl (ys_fieldN (FieldT.mk underlying122 rfl sizeOf3 rfl) (.t rfl) (i' := 2) rfl) rfl fun a w S => hy 8 S rfl (ys_ld ⟨isAgg3, sizeOf3⟩ (.t rfl) (k := 0) rfl rfl) rfl fun a w S => ?_
      (refine h_m (i := 3) rfl (by kernel_rfl) (op_calls S call69 (.cons (.t rfl) (.cons (.t rfl) .nil)) (c69 _ _ _ _ (by exact Sl.of_own S.wd (k := 1) rfl (fun _ => rfl)) (by omega) (by omega)) rfl ?_); clear S a w; rintro _ _ ⟨A2, c2, rfl, rfl⟩ a w S; refine h_n2 S ?_)
      (refine h_m (i := 6) rfl (by kernel_rfl) (op_calls S call69 (.cons (.t rfl) (.cons (.t rfl) .nil)) (c69 _ _ _ _ (by exact Sl.of_own S.wd (k := 0) rfl (fun _ => rfl)) (by omega) (by omega)) rfl ?_); clear S a w; rintro _ _ ⟨A3, c3, rfl, rfl⟩ a w S; refine h_n2 S ?_)
      (refine h_m (i := 9) rfl (by kernel_rfl) (op_calls S call69 (.cons (.t rfl) (.cons (.t rfl) .nil)) (c69 _ _ _ _ (by exact Sl.of_own S.wd (k := 0) rfl (fun _ => rfl)) (by omega) (by omega)) rfl ?_); clear S a w; rintro _ _ ⟨A4, c4, rfl, rfl⟩ a w S; refine h_n2 S ?_)
      refine hy 10 S rfl (ys_assign (.t rfl)) rfl fun a w S => h_done (by kernel_rfl) (in_normal (then_normal (hK2 _ _ (wp_region_lit (run S (.ad (by unfold I64; omega) rfl <| .mv rfl <| .z) fun a w S => st_nil (then_normal ?_))))))
      exact ⟨(k + 1, A4, c4, dotB out m), ⟨by dsimp only; omega, by dsimp only; rw [dotF_take hmm, ← hno]⟩, by dsimp only; omega, S.wk⟩
    have hend : k = C.marks.length := by omega
    subst hend
    rw [List.take_length] at hno
    obtain rfl : out = dotsB b C.marks := hno
    clear hlt
    refine sg S (.ge (by omega) rfl rfl <| .z) fun a w S => wp_seq_k fun _ hK2 => st_else S (.t rfl) (wp_exit (then_exit (then_exit (in_here (then_normal (hK1 _ _ (wp_seq_k fun _ hK1 => wp_region_lit (run S (.mv rfl <| .fa underlying37 sizeOf35 1 rfl rfl rfl <| .ld gt35 1 rfl rfl rfl <| .ln underlying35 rfl <| .z) fun a w S => ?_))))))))
    (refine st_m (op_calls S call69 (.cons (.t rfl) (.cons (.t rfl) .nil)) (c69 _ _ _ _ (by exact Sl.of_own S.wd (k := 0) rfl (fun _ => rfl)) (by omega) (by omega)) rfl ?_); clear S a w; rintro _ _ ⟨A2, c2, rfl, rfl⟩ a w S)
    refine run S (.as rfl <| .z) fun a w S => st_nil (then_normal (hK1 _ _ (wp_seq_k fun _ hK1 => sg S (.fa underlying37 sizeOf35 1 rfl rfl rfl <| .ld gt35 2 rfl rfl rfl <| .ln underlying35 rfl <| .mc rfl <| .z) fun a w S => wp_block ?_)))
    replace S := S.wk (K' := [(44, true, .int .i64 ((0 : Nat) : Int)), (43, true, .int .i64 (C.cloud.length : Int)), (42, true, .slice B2 C.cloud.length q2), (0, true, .slice A2 (putL (dotsB b C.marks) (C.cloud.length : Int)).length c2), (3, true, .pointer (some ⟨g1, 0, none⟩)), (4, true, .slice none 0 0), (5, true, .int .i64 0)])
      (L' := [rowOf 5 1 encB A2 c2 (putL (dotsB b C.marks) (C.cloud.length : Int)), .blk g1 (.cells #[.slice B1 C.marks.length q1, .slice B2 C.cloud.length q2] 37)])
    refine st_lpK S (X := Nat × Option Addr × Nat × List UInt8) (fun q => [(44, true, .int .i64 (q.1 : Int)), (0, true, .slice q.2.1 q.2.2.2.length q.2.2.1)]) (fun q _ => [rowOf 5 1 encB q.2.1 q.2.2.1 q.2.2.2, .blk g1 (.cells #[.slice B1 C.marks.length q1, .slice B2 C.cloud.length q2] 37)])
      (fun q => q.1 ≤ C.cloud.length ∧ q.2.2.2 = (C.cloud.take q.1).foldl dotB (putL (dotsB b C.marks) (C.cloud.length : Int))) (fun q => C.cloud.length - q.1) (0, A2, c2, putL (dotsB b C.marks) (C.cloud.length : Int)) ⟨Nat.zero_le _, by simp⟩ ?_
    clear S
    intro ⟨k, B, cB, out⟩ a w ⟨hk, hno⟩ S
    dsimp only at hk hno S
    have hout : out.length ≤ b.length + 3474 := by
      have h1 := dotF_len (l := C.cloud.take k) (b := putL (dotsB b C.marks) (C.cloud.length : Int)) fun x hx => hmC x (List.mem_of_mem_take hx)
      have h2 : (C.cloud.take k).length ≤ 64 := by rw [List.length_take]; omega
      rw [← hno] at h1
      omega
    by_cases hlt : k < C.cloud.length
    · obtain ⟨gq, oq, m, rfl, hmm, hdq, hc⟩ := row_at hA2 hlt
      have hlm := may_lim (hmC m (List.mem_of_getElem? hmm))
      have hq1 := putL_len out (n := m.node) (by omega)
      have hq2 := putL_len (putL out m.node) (n := m.life) (by omega)
      refine sg S (.lt (by omega) rfl rfl <| .z) fun a w S => wp_seq_k fun _ hK3 => st_then S (.t rfl) (wp_skip (then_normal (hK3 _ _ (wp_seq_k fun _ hK3 => wp_block (wp_seq_k fun _ hK4 => wp_region_lit (run S (.ix underlying35 sizeOf58 (by omega) rfl rfl <| .yy (ys_ldOA ⟨isAgg58, sizeOf58⟩ (.t rfl) (vs := [_, _, _]) rfl (fun _ => hc)) rfl <| .z) fun a w S => st_m (op_alloc S zeroValue58 (cs := _) rfl rfl fun g2 a w S => st_m (op_stW S sizeOf58 (.t rfl) (.t rfl) (k := 0) rfl rfl rfl (by simp [Value.oneCell']) fun a w S => st_nil (then_normal (hK4 _ _ (h_begin0 S (by kernel_rfl) fun a w S => hy 0 S rfl (ys_move (.t rfl)) rfl fun a w S => hy 1 S rfl (ys_fieldN (FieldT.mk underlying58 rfl sizeOf3 rfl) (.t rfl) (i' := 0) rfl) rfl fun a w S => ?_)))))))))))
      refine hy 2 S rfl (ys_ld ⟨isAgg3, sizeOf3⟩ (.t rfl) (k := 0) rfl rfl) rfl fun a w S => hy 4 S rfl (ys_fieldN (FieldT.mk underlying58 rfl sizeOf3 rfl) (.t rfl) (i' := 1) rfl) rfl fun a w S => hy 5 S rfl (ys_ld ⟨isAgg3, sizeOf3⟩ (.t rfl) (k := 0) rfl rfl) rfl fun a w S => hy 7 S rfl (ys_fieldN (FieldT.mk underlying58 rfl sizeOf3 rfl) (.t rfl) (i' := 2) rfl) rfl fun a w S => hy 8 S rfl (ys_ld ⟨isAgg3, sizeOf3⟩ (.t rfl) (k := 0) rfl rfl) rfl fun a w S => ?_
      (refine h_m (i := 3) rfl (by kernel_rfl) (op_calls S call69 (.cons (.t rfl) (.cons (.t rfl) .nil)) (c69 _ _ _ _ (by exact Sl.of_own S.wd (k := 1) rfl (fun _ => rfl)) (by omega) (by omega)) rfl ?_); clear S a w; rintro _ _ ⟨A3, c3, rfl, rfl⟩ a w S; refine h_n2 S ?_)
      (refine h_m (i := 6) rfl (by kernel_rfl) (op_calls S call69 (.cons (.t rfl) (.cons (.t rfl) .nil)) (c69 _ _ _ _ (by exact Sl.of_own S.wd (k := 0) rfl (fun _ => rfl)) (by omega) (by omega)) rfl ?_); clear S a w; rintro _ _ ⟨A4, c4, rfl, rfl⟩ a w S; refine h_n2 S ?_)
      (refine h_m (i := 9) rfl (by kernel_rfl) (op_calls S call69 (.cons (.t rfl) (.cons (.t rfl) .nil)) (c69 _ _ _ _ (by exact Sl.of_own S.wd (k := 0) rfl (fun _ => rfl)) (by omega) (by omega)) rfl ?_); clear S a w; rintro _ _ ⟨A5, c5, rfl, rfl⟩ a w S; refine h_n2 S ?_)
      refine hy 10 S rfl (ys_assign (.t rfl)) rfl fun a w S => h_done (by kernel_rfl) (in_normal (then_normal (hK3 _ _ (wp_region_lit (run S (.ad (by unfold I64; omega) rfl <| .mv rfl <| .z) fun a w S => st_nil (then_normal ?_))))))
      exact ⟨(k + 1, A5, c5, dotB out m), ⟨by dsimp only; omega, by dsimp only; rw [dotF_take hmm, ← hno]⟩, by dsimp only; omega, S.wk⟩
    have hend : k = C.cloud.length := by omega
    subst hend
    rw [List.take_length] at hno
    obtain rfl : out = encC b C := hno
    clear hlt
    refine sg S (.ge (by omega) rfl rfl <| .z) fun a w S => wp_seq_k fun _ hK3 => st_else S (.t rfl) (wp_exit (then_exit (then_exit (in_here (then_normal (hK1 _ _ (sg S (.mv rfl <| .as rfl <| .ac rfl <| .z) fun a w S => wp_ret (st_ret S (results2 S results71 (Rv.tmp rfl) (Rv.tmp rfl)) ?_))))))))
    exact ⟨_, _, rfl, S.wd.sub (by repeat (first | exact List.Sublist.refl _ | exact List.nil_sublist _ | refine .cons_cons _ ?_ | refine .cons _ ?_)), B, cB, rfl, rfl⟩
end Go.Proofs.YtfblmkocmnbdcaaGreat
set_option linter.unusedVariables false
set_option linter.unusedSimpArgs false
set_option maxRecDepth 100000
set_option maxHeartbeats 4000000
namespace Go.Proofs.YtfblmkocmnbdcaaGreat
open Go.Fw Go.Proofs Go.RowKit Go.Proofs.Tryz
theorem c122 (w0 : World) (v1 : Value) (l : List UInt8) (h : Sl encB 1 w0 w0.heap.size v1 l) (hl : l.length ≤ 16777216) :
    Calls Tryz.prog 122 #[v1] w0 fun r w' => r = .returned (.tuple #[.int .i64 (numR 0 0 l).1, .int .i64 ((numR 0 0 l).2.1 : Nat), .int .i64 (numR 0 0 l).2.2]) ∧ Bel w0.heap.size w0 w' := by
  obtain ⟨A, cap, rfl, _, _, hA⟩ := id h
  refine enter1 func122 rfl ntmps122 rfl fun a S => sg S (.ac rfl <| .ac rfl <| .ac rfl <| .z) fun a w S => sg S (.ac rfl <| .ac rfl <| .z) fun a w S => wp_seq_k fun _ hK1 => sg S (.mv rfl <| .ln underlying28 rfl <| .mc rfl <| .z) fun a w S => wp_block ?_
  refine st_lpM S [2, 3, 4, 5, 6, 11] (X := Nat × Int) (fun q => [(11, true, .int .i64 (q.1 : Int)), (6, true, .int .i64 (128 ^ q.1)), (5, true, .int .i64 q.2)]) (fun _ => [])
    (fun q => q.1 ≤ 8 ∧ q.1 ≤ l.length ∧ 0 ≤ q.2 ∧ q.2 < 128 ^ q.1 ∧ numR q.1 q.2 (l.drop q.1) = numR 0 0 l) (fun q => l.length - q.1) (0, 0) ⟨by simp, by simp, by simp, by simp, rfl⟩ ?_
  clear S
  intro ⟨i, m⟩ a w ⟨hi, hik, hm0, hm1, hno⟩ S
  dsimp only at hi hik hm0 hm1 hno S
  by_cases hlt : i < l.length
  · obtain ⟨gq, oq, x, rfl, hx, hdq, hc⟩ := row_at hA hlt
    have hx8 : x.toNat < 256 := x.toNat_lt
    have hst := numR_step (i := i) (n := m) hx
    rw [hno] at hst
    obtain ⟨p1, p2, p3⟩ := pow_num hi
    obtain ⟨hs, hs0, hs1⟩ := sh_num (i := i) (y := (x.toNat : Int) % 128) hi (by omega) (by omega)
    have h6 : (x.toNat : Int) % 128 * 128 ^ i ≤ 127 * 128 ^ i := Int.mul_le_mul_of_nonneg_right (by omega) (by omega)
    by_cases h128 : x.toNat < 128
    · rw [if_neg (by omega), if_pos h128] at hst
      by_cases h0 : 0 < i ∧ x.toNat = 0
      · rw [if_pos h0] at hst
        obtain ⟨h0a, h0b⟩ := h0
        refine sg S (.lt (by omega) rfl rfl <| .z) fun a w S => wp_seq_k fun _ hK2 => st_then S (.t rfl) (wp_skip (then_normal (hK2 _ _ (wp_seq_k fun _ hK2 => wp_block (sg S (.mv rfl <| .ix underlying28 sizeOf5 (by omega) rfl rfl <| .yy (ys_ldO ⟨isAgg5, sizeOf5⟩ (.t rfl) (fun _ => hc 0 _ rfl)) rfl <| .as rfl <| .as rfl <| .z) fun a w S => wp_seq_k fun _ hK3 => wp_seq_k fun _ hK4 => wp_region_lit (run S (.mv rfl <| .yy (ys_eql (.t rfl) Ev.c) rfl <| .mv rfl <| .z) fun a w S => st_yg S rfl rfl (Yr.ys (ys_move (.t rfl))) rfl fun a w S => st_yg S rfl rfl (Yr.ys (ys_F (by omega) (ys_geq (Ev.g rfl) Ev.c))) rfl fun a w S => run S (.yy (ys_andF (.t rfl) (Ev.g rfl) Ev.c) rfl <| .z) fun a w S => st_nil (then_normal (hK4 _ _ (st_else S (.t rfl) (wp_skip (then_normal (hK3 _ _ (sg S (.mv rfl <| .mv rfl <| .yy (ys_remE (.t rfl) Ev.c (fun _ => by omega)) rfl <| .yy (ys_cvI underlying5 underlying3 (.t rfl) (fun _ => by unfold I64; omega)) rfl <| .mv rfl <| .yy (ys_mulI (.t rfl) (.t rfl) (fun _ => by unfold I64; omega)) rfl <| .yy (ys_addI (.t rfl) (.t rfl) (fun _ => by unfold I64; omega)) rfl <| .as rfl <| .z) fun a w S => wp_seq_k fun _ hK3 => wp_seq_k fun _ hK4 => wp_region_lit ?_)))))))))))))
        refine run S (.mv rfl <| .yy (ys_T (by omega) (ys_lss (.t rfl) Ev.c)) rfl <| .z) fun a w S => st_nil (then_normal (hK4 _ _ (st_then S (.t rfl) (wp_seq_k fun _ hK4 => sg S (.mv rfl <| .yy (ys_T (by omega) (ys_eql (.t rfl) Ev.c)) rfl <| .mv rfl <| .gy rfl rfl (ys_move (.t rfl)) <| .gy rfl rfl (ys_T (by omega) (ys_gtr (.t rfl) Ev.c)) <| .yy (ys_pickT (.t rfl) (.t rfl)) rfl <| .z) fun a w S => st_then S (.t rfl) (sg S (.ac rfl <| .ac rfl <| .ac rfl <| .z) fun a w S => wp_ret (then_ret (then_ret (in_ret (then_ret (then_ret (in_ret (then_ret (st_ret S (results3 S results122 (Rv.tmp rfl) (Rv.tmp rfl) (Rv.tmp rfl)) ?_)))))))))))))
        rw [hst]
        exact ⟨rfl, S.wd.below⟩
      · rw [if_neg h0] at hst
        have rw_f : (decide ((x.toNat : Int) = 0) && decide (0 < (i : Int))) = false := by rw [Bool.eq_false_iff]; intro h; simp at h; omega
        refine sg S (.lt (by omega) rfl rfl <| .z) fun a w S => wp_seq_k fun _ hK2 => st_then S (.t rfl) (wp_skip (then_normal (hK2 _ _ (wp_seq_k fun _ hK2 => wp_block (sg S (.mv rfl <| .ix underlying28 sizeOf5 (by omega) rfl rfl <| .yy (ys_ldO ⟨isAgg5, sizeOf5⟩ (.t rfl) (fun _ => hc 0 _ rfl)) rfl <| .as rfl <| .as rfl <| .z) fun a w S => wp_seq_k fun _ hK3 => wp_seq_k fun _ hK4 => wp_region_lit (run S (.mv rfl <| .yy (ys_eql (.t rfl) Ev.c) rfl <| .mv rfl <| .z) fun a w S => st_yg S rfl rfl (Yr.ys (ys_move (.t rfl))) rfl fun a w S => st_yg S rfl rfl (Yr.ys (ys_F (by omega) (ys_geq (Ev.g rfl) Ev.c))) rfl fun a w S => run S (.yy (ys_andF (.t rfl) (Ev.g rfl) Ev.c) rfl <| .z) fun a w S => st_nil (then_normal (hK4 _ _ (st_else S (.t rfl) (wp_skip (then_normal (hK3 _ _ (sg S (.mv rfl <| .mv rfl <| .yy (ys_remE (.t rfl) Ev.c (fun _ => by omega)) rfl <| .yy (ys_cvI underlying5 underlying3 (.t rfl) (fun _ => by unfold I64; omega)) rfl <| .mv rfl <| .yy (ys_mulI (.t rfl) (.t rfl) (fun _ => by unfold I64; omega)) rfl <| .yy (ys_addI (.t rfl) (.t rfl) (fun _ => by unfold I64; omega)) rfl <| .as rfl <| .z) fun a w S => wp_seq_k fun _ hK3 => wp_seq_k fun _ hK4 => wp_region_lit ?_)))))))))))))
        refine run S (.mv rfl <| .yy (ys_T (by omega) (ys_lss (.t rfl) Ev.c)) rfl <| .z) fun a w S => st_nil (then_normal (hK4 _ _ (st_then S (.t rfl) (wp_seq_k fun _ hK4 => wp_seq_k fun _ hK5 => wp_region_lit (run S (.mv rfl <| .yy (ys_eql (.t rfl) Ev.c) rfl <| .mv rfl <| .z) fun a w S => st_yg S rfl rfl (Yr.ys (ys_move (.t rfl))) rfl fun a w S => st_yg S rfl rfl (Yr.ys (ys_gtr (Ev.g rfl) Ev.c)) rfl fun a w S => run S (.yy (ys_and (.t rfl) (Ev.g rfl) Ev.c) rfl <| .z) fun a w S => ?_)))))
        rw [rw_f] at S
        refine st_nil (then_normal (hK5 _ _ (st_else S (.t rfl) (wp_skip (then_normal (hK4 _ _ (sg S (.mv rfl <| .mv rfl <| .ad (by unfold I64; omega) rfl <| .as rfl <| .as rfl <| .ac rfl <| .z) fun a w S => wp_ret (then_ret (in_ret (then_ret (then_ret (in_ret (then_ret (st_ret S (results3 S results122 (Rv.tmp rfl) (Rv.tmp rfl) (Rv.tmp rfl)) ?_))))))))))))))
        rw [hst]
        exact ⟨rfl, S.wd.below⟩
    · by_cases h8 : i = 8
      · rw [if_pos (by omega)] at hst
        refine sg S (.lt (by omega) rfl rfl <| .z) fun a w S => wp_seq_k fun _ hK2 => st_then S (.t rfl) (wp_skip (then_normal (hK2 _ _ (wp_seq_k fun _ hK2 => wp_block (sg S (.mv rfl <| .ix underlying28 sizeOf5 (by omega) rfl rfl <| .yy (ys_ldO ⟨isAgg5, sizeOf5⟩ (.t rfl) (fun _ => hc 0 _ rfl)) rfl <| .as rfl <| .as rfl <| .z) fun a w S => wp_seq_k fun _ hK3 => sg S (.mv rfl <| .yy (ys_T (by omega) (ys_eql (.t rfl) Ev.c)) rfl <| .mv rfl <| .gy rfl rfl (ys_move (.t rfl)) <| .gy rfl rfl (ys_T (by omega) (ys_geq (.t rfl) Ev.c)) <| .yy (ys_pickT (.t rfl) (.t rfl)) rfl <| .z) fun a w S => st_then S (.t rfl) (sg S (.ac rfl <| .ac rfl <| .ac rfl <| .z) fun a w S => wp_ret (then_ret (in_ret (then_ret (then_ret (in_ret (then_ret (st_ret S (results3 S results122 (Rv.tmp rfl) (Rv.tmp rfl) (Rv.tmp rfl)) ?_)))))))))))))
        rw [hst]
        exact ⟨rfl, S.wd.below⟩
      · rw [if_neg (by omega), if_neg h128] at hst
        have h5 : (128 : Int) ^ (i + 1) = 128 ^ i * 128 := by rw [Int.pow_succ]
        have h7 := (pow_num (i := i + 1) (by omega)).2.1
        rw [h5] at h7
        have rw_5 := h5.symm
        refine sg S (.lt (by omega) rfl rfl <| .z) fun a w S => wp_seq_k fun _ hK2 => st_then S (.t rfl) (wp_skip (then_normal (hK2 _ _ (wp_seq_k fun _ hK2 => wp_block (sg S (.mv rfl <| .ix underlying28 sizeOf5 (by omega) rfl rfl <| .yy (ys_ldO ⟨isAgg5, sizeOf5⟩ (.t rfl) (fun _ => hc 0 _ rfl)) rfl <| .as rfl <| .as rfl <| .z) fun a w S => wp_seq_k fun _ hK3 => sg S (.mv rfl <| .yy (ys_F (by omega) (ys_eql (.t rfl) Ev.c)) rfl <| .mv rfl <| .sk rfl rfl rfl <| .sk rfl rfl rfl <| .yy (ys_pickF (.t rfl) Ev.c) rfl <| .z) fun a w S => st_else S (.t rfl) (wp_skip (then_normal (hK3 _ _ (sg S (.mv rfl <| .mv rfl <| .yy (ys_remE (.t rfl) Ev.c (fun _ => by omega)) rfl <| .yy (ys_cvI underlying5 underlying3 (.t rfl) (fun _ => by unfold I64; omega)) rfl <| .mv rfl <| .yy (ys_mulI (.t rfl) (.t rfl) (fun _ => by unfold I64; omega)) rfl <| .yy (ys_addI (.t rfl) (.t rfl) (fun _ => by unfold I64; omega)) rfl <| .as rfl <| .z) fun a w S => wp_seq_k fun _ hK3 => sg S (.mv rfl <| .yy (ys_F (by omega) (ys_lss (.t rfl) Ev.c)) rfl <| .z) fun a w S => st_else S (.t rfl) (wp_skip ?_))))))))))
        refine then_normal (hK3 _ _ (wp_region_lit (run S (.mv rfl <| .yy (ys_mulI (.t rfl) Ev.c (fun _ => by unfold I64; omega)) rfl <| .z) fun a w S => ?_)))
        rw [rw_5] at S
        refine run S (.as rfl <| .z) fun a w S => st_nil (in_normal (then_normal (hK2 _ _ (wp_region_lit (run S (.ad (by unfold I64; omega) rfl <| .mv rfl <| .z) fun a w S => st_nil (then_normal ?_))))))
        exact ⟨(i + 1, m + (x.toNat : Int) % 128 * 128 ^ i), ⟨by dsimp only; omega, by dsimp only; omega, by dsimp only; omega, by dsimp only; omega, by dsimp only; rw [hst]⟩, by dsimp only; omega, S.wk⟩
  · have hend : i = l.length := by omega
    subst hend
    rw [List.drop_of_length_le (Nat.le_refl _), numR_nil] at hno
    refine sg S (.ge (by omega) rfl rfl <| .z) fun a w S => wp_seq_k fun _ hK2 => st_else S (.t rfl) (wp_exit (then_exit (then_exit (in_here (then_normal (hK1 _ _ (sg S (.ac rfl <| .ac rfl <| .ac rfl <| .z) fun a w S => wp_ret (st_ret S (results3 S results122 (Rv.tmp rfl) (Rv.tmp rfl) (Rv.tmp rfl)) ?_))))))))
    rw [← hno]
    exact ⟨rfl, S.wd.below⟩
abbrev rds (g : Nat) (A : Option Addr) (cap : Nat) (b : List UInt8) (k : Nat) (L : List Chunk) : List Chunk := .blk g (.cells #[.slice A b.length cap, .int .i64 (k : Int)] 105) :: L
theorem c63 {w0 w : World} {L : List Chunk} {g cap k : Nat} {A : Option Addr} {b : List UInt8} (W : Wd w0 (rds g A cap b k L) w) (hs : Sl encB 1 w0 w0.heap.size (.slice A b.length cap) b) (hk : k ≤ b.length) (hb : b.length ≤ 16777216) :
    RetsO Tryz.prog 63 #[.pointer (some ⟨g, 0, none⟩)] w0 w (fun v L' => v = .tuple #[.int .i64 (numAt b k).1, .int .i64 (numAt b k).2.2] ∧ L' = rds g A cap b (numAt b k).2.1 L) := by
  have hcap := hs.le
  have hs' := hs.drop_ k hk
  have rw_d : b.length - k = (b.drop k).length := by simp
  have hdl : (b.drop k).length ≤ 16777216 := by simp; omega
  have hnl := numAt_le hk
  have rw_p : (k : Int) + (((numR 0 0 (b.drop k)).2.1 : Nat) : Int) = ((numAt b k).2.1 : Int) := by unfold numAt; simp
  unfold Go.Fw.RetsO
  refine enterW1 W func63 rfl ntmps63 rfl fun a S => sg S (.ac rfl <| .ac rfl <| .z) fun a w S => wp_seq_k fun _ hK1 => st_quiet S (by kernel_rfl) (by kernel_rfl) fun a S => qrun S (.mv rfl <| .yy (ys_nilc (.t rfl)) rfl <| .fa underlying105 sizeOf28 0 rfl rfl rfl <| .ld gt28 0 rfl rfl rfl <| .mv rfl <| .yy (ys_nilc (.t rfl)) rfl <| .fa underlying105 sizeOf3 1 rfl rfl rfl <| .ld gt3 0 rfl rfl rfl <| .yy (ys_slLo underlying28 sizeOf5 (.t rfl) (.t rfl) (fun _ => by first | omega | (simp; done) | (simp; omega))) rfl <| .z) fun a S => ?_
  rw [rw_d] at S
  refine qrun S (.xx (ys_call call122 (.cons (.t rfl) .nil) (fun hp w W => c122 _ _ _ (by exact .old W (by assumption)) (by assumption))) rfl <| .mv rfl <| .ex rfl rfl <| .ex rfl rfl <| .ex rfl rfl <| .as rfl <| .as rfl <| .as rfl <| .z) fun a S => ?_
  (refine q_nil ?_; intro w W; replace S := St.mk S W; clear W)
  refine then_normal (hK1 _ _ (wp_seq_k fun _ hK1 => wp_region_lit (run S (.mv rfl <| .yy (ys_nilc (.t rfl)) rfl <| .fa underlying105 sizeOf3 1 rfl rfl rfl <| .ld gt3 0 rfl rfl rfl <| .mv rfl <| .yy (ys_addI (.t rfl) (.t rfl) (fun _ => by unfold I64; omega)) rfl <| .z) fun a w S => ?_)))
  rw [rw_p] at S
  refine run S (.yy (ys_nilc (.t rfl)) rfl <| .fa underlying105 sizeOf3 1 rfl rfl rfl <| .z) fun a w S => st_m (op_st S sizeOf3 (.t rfl) (.t rfl) (k := 0) rfl rfl (by simp) fun a w S => st_nil (then_normal (hK1 _ _ (sg S (.mv rfl <| .mv rfl <| .as rfl <| .as rfl <| .z) fun a w S => wp_ret (st_ret S (results2 S results63 (Rv.tmp rfl) (Rv.tmp rfl)) ?_)))))
  exact ⟨_, _, rfl, S.wd, rfl, rfl⟩
theorem c124 {w0 w : World} {L : List Chunk} {g cap k : Nat} {A : Option Addr} {b : List UInt8} (W : Wd w0 (rds g A cap b k L) w) (hs : Sl encB 1 w0 w0.heap.size (.slice A b.length cap) b) (hk : k ≤ b.length) (hb : b.length ≤ 16777216) :
    RetsO Tryz.prog 124 #[.pointer (some ⟨g, 0, none⟩)] w0 w (fun v L' => v = .tuple #[.int .i64 (byteR b k).1, .int .i64 (byteR b k).2.2] ∧ L' = rds g A cap b (k + (byteR b k).2.1) L) := by
  by_cases hlt : k < b.length
  · obtain ⟨A', cap', e0, h2, h3, hA⟩ := id hs
    simp only [Value.slice.injEq, true_and] at e0
    obtain ⟨rfl, rfl⟩ := e0
    obtain ⟨gq, oq, x, rfl, hx, hdq, hc⟩ := row_at hA hlt
    have hx8 : x.toNat < 256 := x.toNat_lt
    have rw_k : (k : Int) + 1 = ((k + 1 : Nat) : Int) := by omega
    unfold Go.Fw.RetsO
    refine enterW1 W func124 rfl ntmps124 rfl fun a S => sg S (.ac rfl <| .ac rfl <| .z) fun a w S => wp_seq_k fun _ hK1 => wp_seq_k fun _ hK2 => st_quiet S (by kernel_rfl) (by kernel_rfl) fun a S => qrun S (.mv rfl <| .yy (ys_nilc (.t rfl)) rfl <| .fa underlying105 sizeOf3 1 rfl rfl rfl <| .ld gt3 0 rfl rfl rfl <| .mv rfl <| .yy (ys_nilc (.t rfl)) rfl <| .fa underlying105 sizeOf28 0 rfl rfl rfl <| .ld gt28 0 rfl rfl rfl <| .ln underlying28 rfl <| .yy (ys_F (by omega) (ys_eql (.t rfl) (.t rfl))) rfl <| .z) fun a S => ?_
    (refine q_nil ?_; intro w W; replace S := St.mk S W; clear W)
    refine then_normal (hK2 _ _ (st_else S (.t rfl) (wp_skip (then_normal (hK1 _ _ (wp_seq_k fun _ hK1 => wp_region_lit (run S (.mv rfl <| .yy (ys_nilc (.t rfl)) rfl <| .fa underlying105 sizeOf3 1 rfl rfl rfl <| .ld gt3 0 rfl rfl rfl <| .ad (by unfold I64; omega) rfl <| .z) fun a w S => ?_)))))))
    rw [rw_k] at S
    refine run S (.yy (ys_nilc (.t rfl)) rfl <| .fa underlying105 sizeOf3 1 rfl rfl rfl <| .z) fun a w S => st_m (op_st S sizeOf3 (.t rfl) (.t rfl) (k := 0) rfl rfl (by simp) fun a w S => st_nil (then_normal (hK1 _ _ (wp_seq_k fun _ hK1 => st_quiet S (by kernel_rfl) (by kernel_rfl) fun a S => qrun S (.mv rfl <| .yy (ys_nilc (.t rfl)) rfl <| .fa underlying105 sizeOf28 0 rfl rfl rfl <| .ld gt28 0 rfl rfl rfl <| .mv rfl <| .yy (ys_nilc (.t rfl)) rfl <| .fa underlying105 sizeOf3 1 rfl rfl rfl <| .ld gt3 0 rfl rfl rfl <| .yy (ys_pred (.t rfl) Ev.c (by omega)) rfl <| .ix underlying28 sizeOf5 (by omega) rfl rfl <| .yy (ys_ldO ⟨isAgg5, sizeOf5⟩ (.t rfl) (fun _ => hc 0 _ rfl)) rfl <| .yy (ys_cvI underlying5 underlying3 (.t rfl) (fun _ => by unfold I64; omega)) rfl <| .as rfl <| .ac rfl <| .z) fun a S => ?_))))
    (refine q_nil ?_; intro w W; replace S := St.mk S W; clear W)
    refine then_normal (hK1 _ _ (wp_ret (st_ret S (results2 S results124 (Rv.tmp rfl) (Rv.tmp rfl)) ?_)))
    rw [byteR_some hx]
    exact ⟨_, _, rfl, S.wd, rfl, rfl⟩
  · unfold Go.Fw.RetsO
    refine enterW1 W func124 rfl ntmps124 rfl fun a S => sg S (.ac rfl <| .ac rfl <| .z) fun a w S => wp_seq_k fun _ hK1 => wp_seq_k fun _ hK2 => st_quiet S (by kernel_rfl) (by kernel_rfl) fun a S => qrun S (.mv rfl <| .yy (ys_nilc (.t rfl)) rfl <| .fa underlying105 sizeOf3 1 rfl rfl rfl <| .ld gt3 0 rfl rfl rfl <| .mv rfl <| .yy (ys_nilc (.t rfl)) rfl <| .fa underlying105 sizeOf28 0 rfl rfl rfl <| .ld gt28 0 rfl rfl rfl <| .ln underlying28 rfl <| .yy (ys_T (by omega) (ys_eql (.t rfl) (.t rfl))) rfl <| .z) fun a S => ?_
    (refine q_nil ?_; intro w W; replace S := St.mk S W; clear W)
    refine then_normal (hK2 _ _ (st_then S (.t rfl) (sg S (.ac rfl <| .ac rfl <| .z) fun a w S => wp_ret (then_ret (st_ret S (results2 S results124 (Rv.tmp rfl) (Rv.tmp rfl)) ?_)))))
    rw [byteR_none (by omega)]
    exact ⟨_, _, rfl, S.wd, rfl, rfl⟩
theorem c164 {w0 w : World} {L : List Chunk} {g cap k : Nat} {A : Option Addr} {b : List UInt8} (W : Wd w0 (rds g A cap b k L) w) (hs : Sl encB 1 w0 w0.heap.size (.slice A b.length cap) b) (hk : k ≤ b.length) (hb : b.length ≤ 16777216) :
    RetsO Tryz.prog 164 #[.pointer (some ⟨g, 0, none⟩)] w0 w (fun v L' => ∃ B c, v = .tuple #[.slice B (listAt b k).1.length c, .int .i64 (listAt b k).2.2] ∧ L' = rds g A cap b (listAt b k).2.1 (rowOf 58 3 Dot.enc B c (listAt b k).1 :: L)) := by
  have hv := numAt_val b k
  have hp := numAt_le hk
  by_cases he : (numAt b k).2.2 = 0
  · by_cases h64 : 64 < (numAt b k).1
    · unfold Go.Fw.RetsO
      refine enterW1 W func164 rfl ntmps164 rfl fun a S => sg S (.ac rfl <| .ac rfl <| .z) fun a w S => wp_seq_k fun _ hK1 => wp_region_lit (run S (.mv rfl <| .z) fun a w S => ?_)
      (refine st_m (op_callO S call63 (.cons (.t rfl) .nil) (c63 S.wd (by first | assumption | omega | (dsimp only; omega) | exact Sl.nil_ | exact .old S.wd (by assumption) | exact Sl.of_own S.wd (k := 0) rfl (fun _ => rfl) | (simp at *; omega)) (by first | assumption | omega | (dsimp only; omega) | exact Sl.nil_ | exact .old S.wd (by assumption) | exact Sl.of_own S.wd (k := 0) rfl (fun _ => rfl) | (simp at *; omega)) (by first | assumption | omega | (dsimp only; omega) | exact Sl.nil_ | exact .old S.wd (by assumption) | exact Sl.of_own S.wd (k := 0) rfl (fun _ => rfl) | (simp at *; omega))) rfl ?_) <;> clear S a w)
      rintro _ _ ⟨rfl, rfl⟩ a w S
      refine run S (.mv rfl <| .ex rfl rfl <| .ex rfl rfl <| .as rfl <| .as rfl <| .z) fun a w S => st_nil (then_normal (hK1 _ _ (wp_seq_k fun _ hK1 => sg S (.mv rfl <| .yy (ys_F (by omega) (ys_neq (.t rfl) Ev.c)) rfl <| .z) fun a w S => st_else S (.t rfl) (wp_skip (then_normal (hK1 _ _ (wp_seq_k fun _ hK1 => sg S (.mv rfl <| .yy (ys_T (by omega) (ys_gtr (.t rfl) Ev.c)) rfl <| .z) fun a w S => st_then S (.t rfl) (sg S (.ac rfl <| .ac rfl <| .z) fun a w S => wp_ret (then_ret (st_ret S (results2 S results164 (Rv.tmp rfl) (Rv.tmp rfl)) ?_))))))))))
      rw [show listAt b k = ([], (numAt b k).2.1, 4) by unfold listAt; rw [bindR_ok he, if_pos h64]]
      exact ⟨_, _, rfl, (S.nil_ 58 3 Dot.enc none).wd.pk, none, 0, rfl, rfl⟩
    · obtain ⟨n, hn⟩ : ∃ n : Nat, (numAt b k).1 = (n : Int) := ⟨(numAt b k).1.toNat, by omega⟩
      have hla : listAt b k = dotsAt b n [] (numAt b k).2.1 := by unfold listAt; rw [bindR_ok he, if_neg h64, hn]; rfl
      have hn64 : n ≤ 64 := by omega
      have rw_n := hn
      unfold Go.Fw.RetsO
      refine enterW1 W func164 rfl ntmps164 rfl fun a S => sg S (.ac rfl <| .ac rfl <| .z) fun a w S => wp_seq_k fun _ hK1 => wp_region_lit (run S (.mv rfl <| .z) fun a w S => ?_)
      (refine st_m (op_callO S call63 (.cons (.t rfl) .nil) (c63 S.wd (by first | assumption | omega | (dsimp only; omega) | exact Sl.nil_ | exact .old S.wd (by assumption) | exact Sl.of_own S.wd (k := 0) rfl (fun _ => rfl) | (simp at *; omega)) (by first | assumption | omega | (dsimp only; omega) | exact Sl.nil_ | exact .old S.wd (by assumption) | exact Sl.of_own S.wd (k := 0) rfl (fun _ => rfl) | (simp at *; omega)) (by first | assumption | omega | (dsimp only; omega) | exact Sl.nil_ | exact .old S.wd (by assumption) | exact Sl.of_own S.wd (k := 0) rfl (fun _ => rfl) | (simp at *; omega))) rfl ?_) <;> clear S a w)
      rintro _ _ ⟨rfl, rfl⟩ a w S
      rw [rw_n] at S
      refine run S (.mv rfl <| .ex rfl rfl <| .ex rfl rfl <| .as rfl <| .as rfl <| .z) fun a w S => st_nil (then_normal (hK1 _ _ (wp_seq_k fun _ hK1 => sg S (.mv rfl <| .yy (ys_F (by omega) (ys_neq (.t rfl) Ev.c)) rfl <| .z) fun a w S => st_else S (.t rfl) (wp_skip (then_normal (hK1 _ _ (wp_seq_k fun _ hK1 => sg S (.mv rfl <| .yy (ys_F (by omega) (ys_gtr (.t rfl) Ev.c)) rfl <| .z) fun a w S => st_else S (.t rfl) (wp_skip (then_normal (hK1 _ _ (sg S (.ac rfl <| .z) fun a w S => wp_seq_k fun _ hK1 => sg S (.mv rfl <| .mc rfl <| .z) fun a w S => wp_block ?_)))))))))))
      refine st_lpM (S.nil_ 58 3 Dot.enc none) [2, 3] (X := Nat × Nat × List Dot × Option Addr × Nat) (fun q => [(22, true, .int .i64 (q.1 : Int)), (6, true, .slice q.2.2.2.1 q.2.2.1.length q.2.2.2.2)]) (fun q => rowOf 58 3 Dot.enc q.2.2.2.1 q.2.2.2.2 q.2.2.1 :: rds g A cap b q.2.1 L)
        (fun q => q.1 ≤ n ∧ q.2.1 ≤ b.length ∧ q.2.2.1.length = q.1 ∧ dotsAt b (n - q.1) q.2.2.1 q.2.1 = dotsAt b n [] (numAt b k).2.1) (fun q => n - q.1) (0, (numAt b k).2.1, [], none, 0) ⟨Nat.zero_le _, hp.2, rfl, rfl⟩ ?_
      clear S
      intro ⟨i, k', acc, D, cD⟩ a w ⟨hi, hk', hlen, hno⟩ S
      dsimp only at hi hk' hlen hno S
      by_cases hlt : i < n
      · rw [show n - i = (n - (i + 1)) + 1 by omega, dotsAt] at hno
        refine sg S (.lt (by omega) rfl rfl <| .z) fun a w S => wp_seq_k fun _ hK2 => st_then S (.t rfl) (wp_skip (then_normal (hK2 _ _ (wp_seq_k fun _ hK2 => wp_block (wp_seq_k fun _ hK3 => wp_region_lit (st_m (op_alloc S zeroValue216 (cs := _) rfl rfl fun g1 a w S => st_nil (then_normal (hK3 _ _ (wp_seq_k fun _ hK3 => sg S (.mc rfl <| .z) fun a w S => wp_block ?_))))))))))
        have hp1 := numAt_le hk'
        by_cases e1 : (numAt b k').2.2 = 0
        · refine st_rounds 4 (st_round (sg S (.yy (ys_T (by omega) (ys_lss (.t rfl) Ev.c)) rfl <| .z) fun a w S => wp_seq_k fun _ hK4 => st_then S (.t rfl) (wp_skip (then_normal (hK4 _ _ (wp_seq_k fun _ hK4 => wp_block (sg S (.mv rfl <| .as rfl <| .z) fun a w S => wp_seq_k fun _ hK5 => wp_region_lit (run S (.mv rfl <| .z) fun a w S => ?_))))))))
          (replace S := S.pull 2 rfl; try simp only [List.set_cons_zero, List.set_cons_succ, List.eraseIdx_cons_succ, List.eraseIdx_cons_zero] at S; refine st_m (op_callO S call63 (.cons (.t rfl) .nil) (c63 S.wd (by first | assumption | omega | (dsimp only; omega) | exact Sl.nil_ | exact .old S.wd (by assumption) | exact Sl.of_own S.wd (k := 0) rfl (fun _ => rfl) | exact Sl.of_own S.wd (k := 1) rfl (fun _ => rfl) | exact Sl.of_own S.wd (k := 2) rfl (fun _ => rfl) | (simp at *; omega)) (by first | assumption | omega | (dsimp only; omega) | exact Sl.nil_ | exact .old S.wd (by assumption) | exact Sl.of_own S.wd (k := 0) rfl (fun _ => rfl) | exact Sl.of_own S.wd (k := 1) rfl (fun _ => rfl) | exact Sl.of_own S.wd (k := 2) rfl (fun _ => rfl) | (simp at *; omega)) (by first | assumption | omega | (dsimp only; omega) | exact Sl.nil_ | exact .old S.wd (by assumption) | exact Sl.of_own S.wd (k := 0) rfl (fun _ => rfl) | exact Sl.of_own S.wd (k := 1) rfl (fun _ => rfl) | exact Sl.of_own S.wd (k := 2) rfl (fun _ => rfl) | (simp at *; omega))) rfl ?_) <;> clear S a w)
          rintro _ _ ⟨rfl, rfl⟩ a w S
          refine run S (.mv rfl <| .ex rfl rfl <| .ex rfl rfl <| .as rfl <| .as rfl <| .z) fun a w S => st_nil (then_normal (hK5 _ _ (wp_seq_k fun _ hK5 => sg S (.mv rfl <| .yy (ys_F (by omega) (ys_neq (.t rfl) Ev.c)) rfl <| .z) fun a w S => st_else S (.t rfl) (wp_skip (then_normal (hK5 _ _ (wp_region_lit (run S (.mv rfl <| .mv rfl <| .yy (ys_ixA (j := 0) underlying216 sizeOf3 (.t rfl) (.t rfl) (fun _ => by decide)) rfl <| .z) fun a w S => st_m (op_st S sizeOf3 (.t rfl) (.t rfl) (k := 1) rfl rfl (by simp) fun a w S => st_nil (in_normal (then_normal (hK4 _ _ (wp_region_lit (run S (.ad (by unfold I64; omega) rfl <| .mv rfl <| .z) fun a w S => st_nil (then_normal (st_round ?_))))))))))))))))
          have hp2 := numAt_le hp1.2
          by_cases e2 : (numAt b (numAt b k').2.1).2.2 = 0
          · refine sg S (.yy (ys_T (by omega) (ys_lss (.t rfl) Ev.c)) rfl <| .z) fun a w S => wp_seq_k fun _ hK4 => st_then S (.t rfl) (wp_skip (then_normal (hK4 _ _ (wp_seq_k fun _ hK4 => wp_block (sg S (.mv rfl <| .as rfl <| .z) fun a w S => wp_seq_k fun _ hK5 => wp_region_lit (run S (.mv rfl <| .z) fun a w S => ?_))))))
            (refine st_m (op_callO S call63 (.cons (.t rfl) .nil) (c63 S.wd (by first | assumption | omega | (dsimp only; omega) | exact Sl.nil_ | exact .old S.wd (by assumption) | exact Sl.of_own S.wd (k := 0) rfl (fun _ => rfl) | exact Sl.of_own S.wd (k := 1) rfl (fun _ => rfl) | exact Sl.of_own S.wd (k := 2) rfl (fun _ => rfl) | (simp at *; omega)) (by first | assumption | omega | (dsimp only; omega) | exact Sl.nil_ | exact .old S.wd (by assumption) | exact Sl.of_own S.wd (k := 0) rfl (fun _ => rfl) | exact Sl.of_own S.wd (k := 1) rfl (fun _ => rfl) | exact Sl.of_own S.wd (k := 2) rfl (fun _ => rfl) | (simp at *; omega)) (by first | assumption | omega | (dsimp only; omega) | exact Sl.nil_ | exact .old S.wd (by assumption) | exact Sl.of_own S.wd (k := 0) rfl (fun _ => rfl) | exact Sl.of_own S.wd (k := 1) rfl (fun _ => rfl) | exact Sl.of_own S.wd (k := 2) rfl (fun _ => rfl) | (simp at *; omega))) rfl ?_) <;> clear S a w)
            rintro _ _ ⟨rfl, rfl⟩ a w S
            refine run S (.mv rfl <| .ex rfl rfl <| .ex rfl rfl <| .as rfl <| .as rfl <| .z) fun a w S => st_nil (then_normal (hK5 _ _ (wp_seq_k fun _ hK5 => sg S (.mv rfl <| .yy (ys_F (by omega) (ys_neq (.t rfl) Ev.c)) rfl <| .z) fun a w S => st_else S (.t rfl) (wp_skip (then_normal (hK5 _ _ (wp_region_lit (run S (.mv rfl <| .mv rfl <| .yy (ys_ixAI underlying216 sizeOf3 (.t rfl) (.t rfl) (fun _ => by omega)) rfl <| .z) fun a w S => st_m (op_st S sizeOf3 (.t rfl) (.t rfl) (k := 1) rfl rfl (by simp) fun a w S => st_nil (in_normal (then_normal (hK4 _ _ (wp_region_lit (run S (.ad (by unfold I64; omega) rfl <| .mv rfl <| .z) fun a w S => st_nil (then_normal (st_round ?_))))))))))))))))
            have hp3 := numAt_le hp2.2
            by_cases e3 : (numAt b (numAt b (numAt b k').2.1).2.1).2.2 = 0
            · refine sg S (.yy (ys_T (by omega) (ys_lss (.t rfl) Ev.c)) rfl <| .z) fun a w S => wp_seq_k fun _ hK4 => st_then S (.t rfl) (wp_skip (then_normal (hK4 _ _ (wp_seq_k fun _ hK4 => wp_block (sg S (.mv rfl <| .as rfl <| .z) fun a w S => wp_seq_k fun _ hK5 => wp_region_lit (run S (.mv rfl <| .z) fun a w S => ?_))))))
              (refine st_m (op_callO S call63 (.cons (.t rfl) .nil) (c63 S.wd (by first | assumption | omega | (dsimp only; omega) | exact Sl.nil_ | exact .old S.wd (by assumption) | exact Sl.of_own S.wd (k := 0) rfl (fun _ => rfl) | exact Sl.of_own S.wd (k := 1) rfl (fun _ => rfl) | exact Sl.of_own S.wd (k := 2) rfl (fun _ => rfl) | (simp at *; omega)) (by first | assumption | omega | (dsimp only; omega) | exact Sl.nil_ | exact .old S.wd (by assumption) | exact Sl.of_own S.wd (k := 0) rfl (fun _ => rfl) | exact Sl.of_own S.wd (k := 1) rfl (fun _ => rfl) | exact Sl.of_own S.wd (k := 2) rfl (fun _ => rfl) | (simp at *; omega)) (by first | assumption | omega | (dsimp only; omega) | exact Sl.nil_ | exact .old S.wd (by assumption) | exact Sl.of_own S.wd (k := 0) rfl (fun _ => rfl) | exact Sl.of_own S.wd (k := 1) rfl (fun _ => rfl) | exact Sl.of_own S.wd (k := 2) rfl (fun _ => rfl) | (simp at *; omega))) rfl ?_) <;> clear S a w)
              rintro _ _ ⟨rfl, rfl⟩ a w S
              refine run S (.mv rfl <| .ex rfl rfl <| .ex rfl rfl <| .as rfl <| .as rfl <| .z) fun a w S => st_nil (then_normal (hK5 _ _ (wp_seq_k fun _ hK5 => sg S (.mv rfl <| .yy (ys_F (by omega) (ys_neq (.t rfl) Ev.c)) rfl <| .z) fun a w S => st_else S (.t rfl) (wp_skip (then_normal (hK5 _ _ (wp_region_lit (run S (.mv rfl <| .mv rfl <| .yy (ys_ixAI underlying216 sizeOf3 (.t rfl) (.t rfl) (fun _ => by omega)) rfl <| .z) fun a w S => st_m (op_st S sizeOf3 (.t rfl) (.t rfl) (k := 1) rfl rfl (by simp) fun a w S => st_nil (in_normal (then_normal (hK4 _ _ (wp_region_lit (run S (.ad (by unfold I64; omega) rfl <| .mv rfl <| .z) fun a w S => st_nil (then_normal (st_round ?_))))))))))))))))
              have hd : dotAt b k' = (⟨(numAt b k').1, (numAt b (numAt b k').2.1).1, (numAt b (numAt b (numAt b k').2.1).2.1).1⟩, (numAt b (numAt b (numAt b k').2.1).2.1).2.1, 0) := by unfold dotAt; rw [bindR_ok e1, bindR_ok e2, bindR_ok e3]
              rw [hd, bindR_ok rfl] at hno
              refine sg S (.yy (ys_F (by omega) (ys_lss (.t rfl) Ev.c)) rfl <| .z) fun a w S => wp_seq_k fun _ hK4 => st_else S (.t rfl) (wp_exit (then_exit (then_exit (in_here (then_normal (hK3 _ _ (wp_region_lit (run S (.mv rfl <| .yy (ys_ixA (j := 0) underlying216 sizeOf3 (.t rfl) Ev.c (fun _ => by decide)) rfl <| .ld gt3 1 rfl rfl rfl <| .yy (ys_ixA (j := 1) underlying216 sizeOf3 (.t rfl) Ev.c (fun _ => by decide)) rfl <| .ld gt3 1 rfl rfl rfl <| .yy (ys_ixA (j := 2) underlying216 sizeOf3 (.t rfl) Ev.c (fun _ => by decide)) rfl <| .ld gt3 1 rfl rfl rfl <| .yy (ys_bld (ps := [(0, Go.Operand.tmp 41), (1, Go.Operand.tmp 43), (2, Go.Operand.tmp 45)]) (us := [_, _, _]) bld58 (.cons (.t rfl) (.cons (.t rfl) (.cons (.t rfl) .nil))) rfl) rfl <| .z) fun a w S => st_m (op_bslice1 S underlying35 inf58 rfl rfl rfl (.t rfl) rfl rfl rfl fun g2 a w S => st_m (op_push S underlying35 inf58 rfl (k := 3) (j := 0) rfl (.t rfl) (.t rfl) rfl Go.Fw.Dot.mkEnc rfl rfl (by first | omega | (simp only [List.length_append, List.length_cons, List.length_nil]; omega)) rfl rfl rfl fun A1 cap1 a w S => run S (.as rfl <| .z) fun a w S => st_nil (in_normal (then_normal (hK2 _ _ (wp_region_lit (run S (.ad (by unfold I64; omega) rfl <| .mv rfl <| .z) fun a w S => st_nil (then_normal ?_))))))))))))))))
              exact ⟨(i + 1, (numAt b (numAt b (numAt b k').2.1).2.1).2.1, acc ++ [⟨(numAt b k').1, (numAt b (numAt b k').2.1).1, (numAt b (numAt b (numAt b k').2.1).2.1).1⟩], A1, cap1), ⟨by dsimp only; omega, hp3.2, by simp [hlen], hno⟩, by dsimp only; omega, S.pk⟩
            · have hd : dotAt b k' = (⟨0, 0, 0⟩, (numAt b (numAt b (numAt b k').2.1).2.1).2.1, (numAt b (numAt b (numAt b k').2.1).2.1).2.2) := by unfold dotAt; rw [bindR_ok e1, bindR_ok e2, bindR_bad e3]
              rw [hd, bindR_bad' e3] at hno
              refine sg S (.yy (ys_T (by omega) (ys_lss (.t rfl) Ev.c)) rfl <| .z) fun a w S => wp_seq_k fun _ hK4 => st_then S (.t rfl) (wp_skip (then_normal (hK4 _ _ (wp_seq_k fun _ hK4 => wp_block (sg S (.mv rfl <| .as rfl <| .z) fun a w S => wp_seq_k fun _ hK5 => wp_region_lit (run S (.mv rfl <| .z) fun a w S => ?_))))))
              (refine st_m (op_callO S call63 (.cons (.t rfl) .nil) (c63 S.wd (by first | assumption | omega | (dsimp only; omega) | exact Sl.nil_ | exact .old S.wd (by assumption) | exact Sl.of_own S.wd (k := 0) rfl (fun _ => rfl) | exact Sl.of_own S.wd (k := 1) rfl (fun _ => rfl) | exact Sl.of_own S.wd (k := 2) rfl (fun _ => rfl) | (simp at *; omega)) (by first | assumption | omega | (dsimp only; omega) | exact Sl.nil_ | exact .old S.wd (by assumption) | exact Sl.of_own S.wd (k := 0) rfl (fun _ => rfl) | exact Sl.of_own S.wd (k := 1) rfl (fun _ => rfl) | exact Sl.of_own S.wd (k := 2) rfl (fun _ => rfl) | (simp at *; omega)) (by first | assumption | omega | (dsimp only; omega) | exact Sl.nil_ | exact .old S.wd (by assumption) | exact Sl.of_own S.wd (k := 0) rfl (fun _ => rfl) | exact Sl.of_own S.wd (k := 1) rfl (fun _ => rfl) | exact Sl.of_own S.wd (k := 2) rfl (fun _ => rfl) | (simp at *; omega))) rfl ?_) <;> clear S a w)
              rintro _ _ ⟨rfl, rfl⟩ a w S
              refine run S (.mv rfl <| .ex rfl rfl <| .ex rfl rfl <| .as rfl <| .as rfl <| .z) fun a w S => st_nil (then_normal (hK5 _ _ (wp_seq_k fun _ hK5 => sg S (.mv rfl <| .yy (ys_T (by omega) (ys_neq (.t rfl) Ev.c)) rfl <| .z) fun a w S => st_then S (.t rfl) (sg S (.mv rfl <| .ac rfl <| .as rfl <| .z) fun a w S => wp_ret (then_ret (in_ret (then_ret (then_ret (in_ret (then_ret (in_ret (then_ret (then_ret (in_ret (then_ret (st_ret S (results2 S results164 (Rv.tmp rfl) (Rv.tmp rfl)) ?_))))))))))))))))
              rw [hla, ← hno]
              exact ⟨_, _, rfl, (S.nil_ 58 3 Dot.enc none).wd.pk, none, 0, rfl, rfl⟩
          · have hd : dotAt b k' = (⟨0, 0, 0⟩, (numAt b (numAt b k').2.1).2.1, (numAt b (numAt b k').2.1).2.2) := by unfold dotAt; rw [bindR_ok e1, bindR_bad e2]
            rw [hd, bindR_bad' e2] at hno
            refine sg S (.yy (ys_T (by omega) (ys_lss (.t rfl) Ev.c)) rfl <| .z) fun a w S => wp_seq_k fun _ hK4 => st_then S (.t rfl) (wp_skip (then_normal (hK4 _ _ (wp_seq_k fun _ hK4 => wp_block (sg S (.mv rfl <| .as rfl <| .z) fun a w S => wp_seq_k fun _ hK5 => wp_region_lit (run S (.mv rfl <| .z) fun a w S => ?_))))))
            (refine st_m (op_callO S call63 (.cons (.t rfl) .nil) (c63 S.wd (by first | assumption | omega | (dsimp only; omega) | exact Sl.nil_ | exact .old S.wd (by assumption) | exact Sl.of_own S.wd (k := 0) rfl (fun _ => rfl) | exact Sl.of_own S.wd (k := 1) rfl (fun _ => rfl) | exact Sl.of_own S.wd (k := 2) rfl (fun _ => rfl) | (simp at *; omega)) (by first | assumption | omega | (dsimp only; omega) | exact Sl.nil_ | exact .old S.wd (by assumption) | exact Sl.of_own S.wd (k := 0) rfl (fun _ => rfl) | exact Sl.of_own S.wd (k := 1) rfl (fun _ => rfl) | exact Sl.of_own S.wd (k := 2) rfl (fun _ => rfl) | (simp at *; omega)) (by first | assumption | omega | (dsimp only; omega) | exact Sl.nil_ | exact .old S.wd (by assumption) | exact Sl.of_own S.wd (k := 0) rfl (fun _ => rfl) | exact Sl.of_own S.wd (k := 1) rfl (fun _ => rfl) | exact Sl.of_own S.wd (k := 2) rfl (fun _ => rfl) | (simp at *; omega))) rfl ?_) <;> clear S a w)
            rintro _ _ ⟨rfl, rfl⟩ a w S
            refine run S (.mv rfl <| .ex rfl rfl <| .ex rfl rfl <| .as rfl <| .as rfl <| .z) fun a w S => st_nil (then_normal (hK5 _ _ (wp_seq_k fun _ hK5 => sg S (.mv rfl <| .yy (ys_T (by omega) (ys_neq (.t rfl) Ev.c)) rfl <| .z) fun a w S => st_then S (.t rfl) (sg S (.mv rfl <| .ac rfl <| .as rfl <| .z) fun a w S => wp_ret (then_ret (in_ret (then_ret (then_ret (in_ret (then_ret (in_ret (then_ret (then_ret (in_ret (then_ret (st_ret S (results2 S results164 (Rv.tmp rfl) (Rv.tmp rfl)) ?_))))))))))))))))
            rw [hla, ← hno]
            exact ⟨_, _, rfl, (S.nil_ 58 3 Dot.enc none).wd.pk, none, 0, rfl, rfl⟩
        · refine st_rounds 4 (st_round ?_)
          have hd : dotAt b k' = (⟨0, 0, 0⟩, (numAt b k').2.1, (numAt b k').2.2) := by unfold dotAt; rw [bindR_bad e1]
          rw [hd, bindR_bad' e1] at hno
          refine sg S (.yy (ys_T (by omega) (ys_lss (.t rfl) Ev.c)) rfl <| .z) fun a w S => wp_seq_k fun _ hK4 => st_then S (.t rfl) (wp_skip (then_normal (hK4 _ _ (wp_seq_k fun _ hK4 => wp_block (sg S (.mv rfl <| .as rfl <| .z) fun a w S => wp_seq_k fun _ hK5 => wp_region_lit (run S (.mv rfl <| .z) fun a w S => ?_))))))
          (replace S := S.pull 2 rfl; try simp only [List.set_cons_zero, List.set_cons_succ, List.eraseIdx_cons_succ, List.eraseIdx_cons_zero] at S; refine st_m (op_callO S call63 (.cons (.t rfl) .nil) (c63 S.wd (by first | assumption | omega | (dsimp only; omega) | exact Sl.nil_ | exact .old S.wd (by assumption) | exact Sl.of_own S.wd (k := 0) rfl (fun _ => rfl) | exact Sl.of_own S.wd (k := 1) rfl (fun _ => rfl) | exact Sl.of_own S.wd (k := 2) rfl (fun _ => rfl) | (simp at *; omega)) (by first | assumption | omega | (dsimp only; omega) | exact Sl.nil_ | exact .old S.wd (by assumption) | exact Sl.of_own S.wd (k := 0) rfl (fun _ => rfl) | exact Sl.of_own S.wd (k := 1) rfl (fun _ => rfl) | exact Sl.of_own S.wd (k := 2) rfl (fun _ => rfl) | (simp at *; omega)) (by first | assumption | omega | (dsimp only; omega) | exact Sl.nil_ | exact .old S.wd (by assumption) | exact Sl.of_own S.wd (k := 0) rfl (fun _ => rfl) | exact Sl.of_own S.wd (k := 1) rfl (fun _ => rfl) | exact Sl.of_own S.wd (k := 2) rfl (fun _ => rfl) | (simp at *; omega))) rfl ?_) <;> clear S a w)
          rintro _ _ ⟨rfl, rfl⟩ a w S
          refine run S (.mv rfl <| .ex rfl rfl <| .ex rfl rfl <| .as rfl <| .as rfl <| .z) fun a w S => st_nil (then_normal (hK5 _ _ (wp_seq_k fun _ hK5 => sg S (.mv rfl <| .yy (ys_T (by omega) (ys_neq (.t rfl) Ev.c)) rfl <| .z) fun a w S => st_then S (.t rfl) (sg S (.mv rfl <| .ac rfl <| .as rfl <| .z) fun a w S => wp_ret (then_ret (in_ret (then_ret (then_ret (in_ret (then_ret (in_ret (then_ret (then_ret (in_ret (then_ret (st_ret S (results2 S results164 (Rv.tmp rfl) (Rv.tmp rfl)) ?_))))))))))))))))
          rw [hla, ← hno]
          exact ⟨_, _, rfl, (S.nil_ 58 3 Dot.enc none).wd.pk, none, 0, rfl, rfl⟩
      · rw [show n - i = 0 by omega, dotsAt] at hno
        refine sg S (.ge (by omega) rfl rfl <| .z) fun a w S => wp_seq_k fun _ hK2 => st_else S (.t rfl) (wp_exit (then_exit (then_exit (in_here (then_normal (hK1 _ _ (sg S (.mv rfl <| .as rfl <| .ac rfl <| .z) fun a w S => wp_ret (st_ret S (results2 S results164 (Rv.tmp rfl) (Rv.tmp rfl)) ?_))))))))
        rw [hla, ← hno]
        exact ⟨_, _, rfl, S.wd.pk, D, cD, rfl, rfl⟩
  · unfold Go.Fw.RetsO
    refine enterW1 W func164 rfl ntmps164 rfl fun a S => sg S (.ac rfl <| .ac rfl <| .z) fun a w S => wp_seq_k fun _ hK1 => wp_region_lit (run S (.mv rfl <| .z) fun a w S => ?_)
    (refine st_m (op_callO S call63 (.cons (.t rfl) .nil) (c63 S.wd (by first | assumption | omega | (dsimp only; omega) | exact Sl.nil_ | exact .old S.wd (by assumption) | exact Sl.of_own S.wd (k := 0) rfl (fun _ => rfl) | (simp at *; omega)) (by first | assumption | omega | (dsimp only; omega) | exact Sl.nil_ | exact .old S.wd (by assumption) | exact Sl.of_own S.wd (k := 0) rfl (fun _ => rfl) | (simp at *; omega)) (by first | assumption | omega | (dsimp only; omega) | exact Sl.nil_ | exact .old S.wd (by assumption) | exact Sl.of_own S.wd (k := 0) rfl (fun _ => rfl) | (simp at *; omega))) rfl ?_) <;> clear S a w)
    rintro _ _ ⟨rfl, rfl⟩ a w S
    refine run S (.mv rfl <| .ex rfl rfl <| .ex rfl rfl <| .as rfl <| .as rfl <| .z) fun a w S => st_nil (then_normal (hK1 _ _ (wp_seq_k fun _ hK1 => sg S (.mv rfl <| .yy (ys_T (by omega) (ys_neq (.t rfl) Ev.c)) rfl <| .z) fun a w S => st_then S (.t rfl) (sg S (.mv rfl <| .ac rfl <| .as rfl <| .z) fun a w S => wp_ret (then_ret (st_ret S (results2 S results164 (Rv.tmp rfl) (Rv.tmp rfl)) ?_))))))
    rw [show listAt b k = ([], (numAt b k).2.1, (numAt b k).2.2) by unfold listAt; rw [bindR_bad he]]
    exact ⟨_, _, rfl, (S.nil_ 58 3 Dot.enc none).wd.pk, none, 0, rfl, rfl⟩
theorem c125 {w0 w : World} {L : List Chunk} {g cap k : Nat} {A : Option Addr} {b : List UInt8} (W : Wd w0 (rds g A cap b k L) w) (hs : Sl encB 1 w0 w0.heap.size (.slice A b.length cap) b) (hk : k ≤ b.length) (hb : b.length ≤ 16777216) :
    RetsO Tryz.prog 125 #[.pointer (some ⟨g, 0, none⟩)] w0 w (fun v L' => ∃ B c B' c', v = .tuple #[.agg #[.slice B (ctxAt b k).1.marks.length c, .slice B' (ctxAt b k).1.cloud.length c'], .int .i64 (ctxAt b k).2.2] ∧ L' = rds g A cap b (ctxAt b k).2.1 (rowOf 122 3 Dot.enc B c (ctxAt b k).1.marks :: rowOf 58 3 Dot.enc B' c' (ctxAt b k).1.cloud :: L)) := by
  have hp1 := listAt_le hk
  have hl1 := listAt_len b k
  by_cases e1 : (listAt b k).2.2 = 0
  · have hp2 := listAt_le hp1.2
    have hl2 := listAt_len b (listAt b k).2.1
    by_cases e2 : (listAt b (listAt b k).2.1).2.2 = 0
    · generalize hl : (listAt b k).1 = l at hl1
      generalize hm : (listAt b (listAt b k).2.1).1 = m at hl2
      have hc : ctxAt b k = if canL ⟨l, m⟩ then (⟨l, m⟩, (listAt b (listAt b k).2.1).2.1, 0) else (⟨[], []⟩, (listAt b (listAt b k).2.1).2.1, 30) := by unfold ctxAt; rw [bindR_ok e1, bindR_ok e2, hl, hm]
      have rw_l := hl
      have rw_m := hm
      unfold Go.Fw.RetsO
      refine enterW1 W func125 rfl ntmps125 rfl fun a S => wp_seq_k fun _ hK1 => wp_region_lit (st_m (op_alloc S zeroValue37 (cs := _) rfl rfl fun g1 a w S => run S (.ac rfl <| .z) fun a w S => st_nil (then_normal (hK1 _ _ (wp_seq_k fun _ hK1 => wp_region_lit (run S (.mv rfl <| .z) fun a w S => ?_))))))
      (replace S := S.pull 1 rfl; try simp only [List.set_cons_zero, List.set_cons_succ, List.eraseIdx_cons_succ, List.eraseIdx_cons_zero] at S; refine st_m (op_callO S call164 (.cons (.t rfl) .nil) (c164 S.wd (by first | assumption | omega | (dsimp only; omega) | exact Sl.nil_ | exact .old S.wd (by assumption) | exact Sl.of_own S.wd (k := 0) rfl (fun _ => rfl) | exact Sl.of_own S.wd (k := 1) rfl (fun _ => rfl) | (simp at *; omega)) (by first | assumption | omega | (dsimp only; omega) | exact Sl.nil_ | exact .old S.wd (by assumption) | exact Sl.of_own S.wd (k := 0) rfl (fun _ => rfl) | exact Sl.of_own S.wd (k := 1) rfl (fun _ => rfl) | (simp at *; omega)) (by first | assumption | omega | (dsimp only; omega) | exact Sl.nil_ | exact .old S.wd (by assumption) | exact Sl.of_own S.wd (k := 0) rfl (fun _ => rfl) | exact Sl.of_own S.wd (k := 1) rfl (fun _ => rfl) | (simp at *; omega))) rfl ?_) <;> clear S a w)
      rintro _ _ ⟨B1, c1, rfl, rfl⟩ a w S
      rw [rw_l] at S
      refine run S (.mv rfl <| .ex rfl rfl <| .ex rfl rfl <| .as rfl <| .as rfl <| .z) fun a w S => st_nil (then_normal (hK1 _ _ (wp_seq_k fun _ hK1 => sg S (.mv rfl <| .yy (ys_F (by omega) (ys_neq (.t rfl) Ev.c)) rfl <| .z) fun a w S => st_else S (.t rfl) (wp_skip (then_normal (hK1 _ _ (wp_seq_k fun _ hK1 => wp_region_lit (run S (.mv rfl <| .z) fun a w S => ?_))))))))
      (refine st_m (op_callO S call164 (.cons (.t rfl) .nil) (c164 S.wd (by first | assumption | omega | (dsimp only; omega) | exact Sl.nil_ | exact .old S.wd (by assumption) | exact Sl.of_own S.wd (k := 0) rfl (fun _ => rfl) | exact Sl.of_own S.wd (k := 1) rfl (fun _ => rfl) | exact Sl.of_own S.wd (k := 2) rfl (fun _ => rfl) | (simp at *; omega)) (by first | assumption | omega | (dsimp only; omega) | exact Sl.nil_ | exact .old S.wd (by assumption) | exact Sl.of_own S.wd (k := 0) rfl (fun _ => rfl) | exact Sl.of_own S.wd (k := 1) rfl (fun _ => rfl) | exact Sl.of_own S.wd (k := 2) rfl (fun _ => rfl) | (simp at *; omega)) (by first | assumption | omega | (dsimp only; omega) | exact Sl.nil_ | exact .old S.wd (by assumption) | exact Sl.of_own S.wd (k := 0) rfl (fun _ => rfl) | exact Sl.of_own S.wd (k := 1) rfl (fun _ => rfl) | exact Sl.of_own S.wd (k := 2) rfl (fun _ => rfl) | (simp at *; omega))) rfl ?_) <;> clear S a w)
      rintro _ _ ⟨B2, c2, rfl, rfl⟩ a w S
      rw [rw_m] at S
      refine run S (.mv rfl <| .ex rfl rfl <| .ex rfl rfl <| .as rfl <| .as rfl <| .z) fun a w S => st_nil (then_normal (hK1 _ _ (wp_seq_k fun _ hK1 => sg S (.mv rfl <| .yy (ys_F (by omega) (ys_neq (.t rfl) Ev.c)) rfl <| .z) fun a w S => st_else S (.t rfl) (wp_skip (then_normal (hK1 _ _ (wp_seq_k fun _ hK1 => wp_region_lit (run S (.mv rfl <| .yy (ys_bld (ps := [(1, Go.Operand.tmp 28)]) (us := [_, _]) bld37 (.cons (.t rfl) .nil) rfl) rfl <| .z) fun a w S => st_m (op_alloc S zeroValue37 (cs := _) rfl rfl fun g2 a w S => st_m (op_stW S sizeOf37 (.t rfl) (.t rfl) (k := 0) rfl rfl rfl (by simp [Value.oneCell']) fun a w S => st_nil (then_normal (hK1 _ _ (wp_seq_k fun _ hK1 => sg S (.mv rfl <| .ln underlying35 rfl <| .mc rfl <| .z) fun a w S => wp_block ?_)))))))))))))
      refine st_lpM (S.nil_ 122 3 Dot.enc none) [32] (X := Nat × Option Addr × Nat) (fun q => [(32, true, .int .i64 (q.1 : Int))])
        (fun q => rowOf 122 3 Dot.enc q.2.1 q.2.2 (l.take q.1) :: .blk g2 (.cells #[.slice q.2.1 (l.take q.1).length q.2.2, .slice B2 m.length c2] 37) :: rowOf 58 3 Dot.enc B1 c1 l :: rowOf 58 3 Dot.enc B2 c2 m :: .blk g1 (.cells #[.slice none 0 0, .slice none 0 0] 37) :: rds g A cap b (listAt b (listAt b k).2.1).2.1 L)
        (fun q => q.1 ≤ l.length) (fun q => l.length - q.1) (0, none, 0) (Nat.zero_le _) ?_
      clear S
      intro ⟨i, D, cD⟩ a w hi S
      dsimp only at hi S
      by_cases hlt : i < l.length
      · obtain ⟨ga, rfl⟩ := S.wd.row_at (k := 2) rfl (by have := (S.wd.room (k := 2) rfl).1; omega)
        obtain ⟨x, hx⟩ : ∃ x, l[i]? = some x := ⟨l[i], by simp⟩
        have hlk : (l.take i).length ≤ 64 := by rw [List.length_take]; omega
        have et : l.take (i + 1) = l.take i ++ [x] := by rw [List.take_add_one, hx]; rfl
        refine sg S (.lt (by omega) rfl rfl <| .z) fun a w S => wp_seq_k fun _ hK2 => st_then S (.t rfl) (wp_skip (then_normal (hK2 _ _ (wp_seq_k fun _ hK2 => wp_block (wp_seq_k fun _ hK3 => wp_region_lit (run S (.ix underlying35 sizeOf58 (by omega) rfl rfl <| .yy (ys_ldWA ⟨isAgg58, sizeOf58⟩ (.t rfl) (k := 2) rfl hx (fun _ => rfl)) rfl <| .z) fun a w S => st_m (op_alloc S zeroValue58 (cs := _) rfl rfl fun g3 a w S => st_m (op_stW S sizeOf58 (.t rfl) (.t rfl) (k := 0) rfl rfl rfl (by simp [Value.oneCell']) fun a w S => st_nil (then_normal (hK3 _ _ (wp_region_lit (run S (.fa underlying37 sizeOf34 0 rfl rfl rfl <| .ld gt34 2 rfl rfl rfl <| .la gt58 0 rfl rfl rfl <| .z) fun a w S => st_m (op_bslice1 S underlying34 inf122 rfl rfl rfl (.t rfl) rfl rfl rfl fun g4 a w S => st_m (op_push S underlying34 inf122 rfl (k := 2) (j := 0) rfl (.t rfl) (.t rfl) rfl rfl rfl rfl (by first | omega | (simp only [List.length_append, List.length_cons, List.length_nil]; omega)) rfl rfl rfl fun A1 cap1 a w S => run S (.fa underlying37 sizeOf34 0 rfl rfl rfl <| .z) fun a w S => st_m (op_st S sizeOf34 (.t rfl) (.t rfl) (k := 3) rfl rfl (by simp) fun a w S => st_nil (in_normal (then_normal (hK2 _ _ (wp_region_lit (run S (.ad (by unfold I64; omega) rfl <| .mv rfl <| .z) fun a w S => st_nil (then_normal ?_)))))))))))))))))))))
        rw [← et] at S
        exact ⟨(i + 1, A1, cap1), by dsimp only; omega, by dsimp only; omega, S.pk⟩
      · have hend : i = l.length := by omega
        subst hend
        rw [List.take_length] at S
        cases hcn : canL ⟨l, m⟩ with
        | true =>
          have rw_c := hcn
          rw [hcn, if_pos rfl] at hc
          refine sg S (.ge (by omega) rfl rfl <| .z) fun a w S => wp_seq_k fun _ hK2 => st_else S (.t rfl) (wp_exit (then_exit (then_exit (in_here (then_normal (hK1 _ _ (wp_seq_k fun _ hK1 => wp_seq_k fun _ hK3 => wp_region_lit (run S (.la gt37 1 rfl rfl rfl <| .xx (ys_call call126 (.cons (.t rfl) .nil) (fun hp w W => c126 _ _ _ _ (by exact RdCtx.mk' (by exact Sl.of_own W (k := 0) rfl (fun _ => rfl)) (by exact Sl.of_own W (k := 3) rfl (fun _ => rfl))))) rfl <| .z) fun a w S => ?_))))))))
          rw [rw_c] at S
          refine run S (.nt rfl <| .z) fun a w S => st_nil (then_normal (hK3 _ _ (st_else S (.t rfl) (wp_skip (then_normal (hK1 _ _ (wp_seq_k fun _ hK1 => wp_region_lit (run S (.la gt37 1 rfl rfl rfl <| .z) fun a w S => st_m (op_stW S sizeOf37 (.t rfl) (.t rfl) (k := 4) rfl rfl rfl (by simp [Value.oneCell']) fun a w S => run S (.ac rfl <| .z) fun a w S => st_nil (then_normal (hK1 _ _ (wp_ret (st_ret S (results2 S results125 (Rv.cell (k := 4) ⟨isAgg37, sizeOf37⟩ rfl rfl rfl) (Rv.tmp rfl)) ?_)))))))))))))
          rw [hc]
          exact ⟨_, _, rfl, S.wd.pk, D, cD, B2, c2, rfl, rfl⟩
        | false =>
          have rw_c := hcn
          rw [hcn] at hc
          simp only [Bool.false_eq_true, if_false] at hc
          refine sg S (.ge (by omega) rfl rfl <| .z) fun a w S => wp_seq_k fun _ hK2 => st_else S (.t rfl) (wp_exit (then_exit (then_exit (in_here (then_normal (hK1 _ _ (wp_seq_k fun _ hK1 => wp_seq_k fun _ hK3 => wp_region_lit (run S (.la gt37 1 rfl rfl rfl <| .xx (ys_call call126 (.cons (.t rfl) .nil) (fun hp w W => c126 _ _ _ _ (by exact RdCtx.mk' (by exact Sl.of_own W (k := 0) rfl (fun _ => rfl)) (by exact Sl.of_own W (k := 3) rfl (fun _ => rfl))))) rfl <| .z) fun a w S => ?_))))))))
          rw [rw_c] at S
          refine run S (.nt rfl <| .z) fun a w S => st_nil (then_normal (hK3 _ _ (st_then S (.t rfl) (wp_seq_k fun _ hK3 => wp_region_lit (run S (.yy (ys_bld (ps := []) (us := [_, _]) bld37 .nil rfl) rfl <| .z) fun a w S => st_m (op_stW S sizeOf37 (.t rfl) (.t rfl) (k := 4) rfl rfl rfl (by simp [Value.oneCell']) fun a w S => run S (.ac rfl <| .z) fun a w S => st_nil (then_normal (hK3 _ _ (wp_ret (then_ret (st_ret S (results2 S results125 (Rv.cell (k := 4) ⟨isAgg37, sizeOf37⟩ rfl rfl rfl) (Rv.tmp rfl)) ?_)))))))))))
          rw [hc]
          exact ⟨_, _, rfl, ((S.nil_ 58 3 Dot.enc none).nil_ 122 3 Dot.enc none).wd.pk, none, 0, none, 0, rfl, rfl⟩
    · have hc : ctxAt b k = (⟨[], []⟩, (listAt b (listAt b k).2.1).2.1, (listAt b (listAt b k).2.1).2.2) := by unfold ctxAt; rw [bindR_ok e1, bindR_bad e2]
      unfold Go.Fw.RetsO
      refine enterW1 W func125 rfl ntmps125 rfl fun a S => wp_seq_k fun _ hK1 => wp_region_lit (st_m (op_alloc S zeroValue37 (cs := _) rfl rfl fun g1 a w S => run S (.ac rfl <| .z) fun a w S => st_nil (then_normal (hK1 _ _ (wp_seq_k fun _ hK1 => wp_region_lit (run S (.mv rfl <| .z) fun a w S => ?_))))))
      (replace S := S.pull 1 rfl; try simp only [List.set_cons_zero, List.set_cons_succ, List.eraseIdx_cons_succ, List.eraseIdx_cons_zero] at S; refine st_m (op_callO S call164 (.cons (.t rfl) .nil) (c164 S.wd (by first | assumption | omega | (dsimp only; omega) | exact Sl.nil_ | exact .old S.wd (by assumption) | exact Sl.of_own S.wd (k := 0) rfl (fun _ => rfl) | exact Sl.of_own S.wd (k := 1) rfl (fun _ => rfl) | (simp at *; omega)) (by first | assumption | omega | (dsimp only; omega) | exact Sl.nil_ | exact .old S.wd (by assumption) | exact Sl.of_own S.wd (k := 0) rfl (fun _ => rfl) | exact Sl.of_own S.wd (k := 1) rfl (fun _ => rfl) | (simp at *; omega)) (by first | assumption | omega | (dsimp only; omega) | exact Sl.nil_ | exact .old S.wd (by assumption) | exact Sl.of_own S.wd (k := 0) rfl (fun _ => rfl) | exact Sl.of_own S.wd (k := 1) rfl (fun _ => rfl) | (simp at *; omega))) rfl ?_) <;> clear S a w)
      rintro _ _ ⟨B1, c1, rfl, rfl⟩ a w S
      refine run S (.mv rfl <| .ex rfl rfl <| .ex rfl rfl <| .as rfl <| .as rfl <| .z) fun a w S => st_nil (then_normal (hK1 _ _ (wp_seq_k fun _ hK1 => sg S (.mv rfl <| .yy (ys_F (by omega) (ys_neq (.t rfl) Ev.c)) rfl <| .z) fun a w S => st_else S (.t rfl) (wp_skip (then_normal (hK1 _ _ (wp_seq_k fun _ hK1 => wp_region_lit (run S (.mv rfl <| .z) fun a w S => ?_))))))))
      (refine st_m (op_callO S call164 (.cons (.t rfl) .nil) (c164 S.wd (by first | assumption | omega | (dsimp only; omega) | exact Sl.nil_ | exact .old S.wd (by assumption) | exact Sl.of_own S.wd (k := 0) rfl (fun _ => rfl) | exact Sl.of_own S.wd (k := 1) rfl (fun _ => rfl) | exact Sl.of_own S.wd (k := 2) rfl (fun _ => rfl) | (simp at *; omega)) (by first | assumption | omega | (dsimp only; omega) | exact Sl.nil_ | exact .old S.wd (by assumption) | exact Sl.of_own S.wd (k := 0) rfl (fun _ => rfl) | exact Sl.of_own S.wd (k := 1) rfl (fun _ => rfl) | exact Sl.of_own S.wd (k := 2) rfl (fun _ => rfl) | (simp at *; omega)) (by first | assumption | omega | (dsimp only; omega) | exact Sl.nil_ | exact .old S.wd (by assumption) | exact Sl.of_own S.wd (k := 0) rfl (fun _ => rfl) | exact Sl.of_own S.wd (k := 1) rfl (fun _ => rfl) | exact Sl.of_own S.wd (k := 2) rfl (fun _ => rfl) | (simp at *; omega))) rfl ?_) <;> clear S a w)
      rintro _ _ ⟨B2, c2, rfl, rfl⟩ a w S
      refine run S (.mv rfl <| .ex rfl rfl <| .ex rfl rfl <| .as rfl <| .as rfl <| .z) fun a w S => st_nil (then_normal (hK1 _ _ (wp_seq_k fun _ hK1 => sg S (.mv rfl <| .yy (ys_T (by omega) (ys_neq (.t rfl) Ev.c)) rfl <| .z) fun a w S => st_then S (.t rfl) (wp_seq_k fun _ hK2 => wp_region_lit (run S (.yy (ys_bld (ps := []) (us := [_, _]) bld37 .nil rfl) rfl <| .mv rfl <| .z) fun a w S => st_m (op_stW S sizeOf37 (.t rfl) (.t rfl) (k := 3) rfl rfl rfl (by simp [Value.oneCell']) fun a w S => run S (.as rfl <| .z) fun a w S => st_nil (then_normal (hK2 _ _ (wp_ret (then_ret (st_ret S (results2 S results125 (Rv.cell (k := 3) ⟨isAgg37, sizeOf37⟩ rfl rfl rfl) (Rv.tmp rfl)) ?_)))))))))))
      rw [hc]
      exact ⟨_, _, rfl, ((S.nil_ 58 3 Dot.enc none).nil_ 122 3 Dot.enc none).wd.pk, none, 0, none, 0, rfl, rfl⟩
  · have hc : ctxAt b k = (⟨[], []⟩, (listAt b k).2.1, (listAt b k).2.2) := by unfold ctxAt; rw [bindR_bad e1]
    unfold Go.Fw.RetsO
    refine enterW1 W func125 rfl ntmps125 rfl fun a S => wp_seq_k fun _ hK1 => wp_region_lit (st_m (op_alloc S zeroValue37 (cs := _) rfl rfl fun g1 a w S => run S (.ac rfl <| .z) fun a w S => st_nil (then_normal (hK1 _ _ (wp_seq_k fun _ hK1 => wp_region_lit (run S (.mv rfl <| .z) fun a w S => ?_))))))
    (replace S := S.pull 1 rfl; try simp only [List.set_cons_zero, List.set_cons_succ, List.eraseIdx_cons_succ, List.eraseIdx_cons_zero] at S; refine st_m (op_callO S call164 (.cons (.t rfl) .nil) (c164 S.wd (by first | assumption | omega | (dsimp only; omega) | exact Sl.nil_ | exact .old S.wd (by assumption) | exact Sl.of_own S.wd (k := 0) rfl (fun _ => rfl) | exact Sl.of_own S.wd (k := 1) rfl (fun _ => rfl) | (simp at *; omega)) (by first | assumption | omega | (dsimp only; omega) | exact Sl.nil_ | exact .old S.wd (by assumption) | exact Sl.of_own S.wd (k := 0) rfl (fun _ => rfl) | exact Sl.of_own S.wd (k := 1) rfl (fun _ => rfl) | (simp at *; omega)) (by first | assumption | omega | (dsimp only; omega) | exact Sl.nil_ | exact .old S.wd (by assumption) | exact Sl.of_own S.wd (k := 0) rfl (fun _ => rfl) | exact Sl.of_own S.wd (k := 1) rfl (fun _ => rfl) | (simp at *; omega))) rfl ?_) <;> clear S a w)
    rintro _ _ ⟨B1, c1, rfl, rfl⟩ a w S
    refine run S (.mv rfl <| .ex rfl rfl <| .ex rfl rfl <| .as rfl <| .as rfl <| .z) fun a w S => st_nil (then_normal (hK1 _ _ (wp_seq_k fun _ hK1 => sg S (.mv rfl <| .yy (ys_T (by omega) (ys_neq (.t rfl) Ev.c)) rfl <| .z) fun a w S => st_then S (.t rfl) (wp_seq_k fun _ hK2 => wp_region_lit (run S (.yy (ys_bld (ps := []) (us := [_, _]) bld37 .nil rfl) rfl <| .mv rfl <| .z) fun a w S => st_m (op_stW S sizeOf37 (.t rfl) (.t rfl) (k := 2) rfl rfl rfl (by simp [Value.oneCell']) fun a w S => run S (.as rfl <| .z) fun a w S => st_nil (then_normal (hK2 _ _ (wp_ret (then_ret (st_ret S (results2 S results125 (Rv.cell (k := 2) ⟨isAgg37, sizeOf37⟩ rfl rfl rfl) (Rv.tmp rfl)) ?_)))))))))))
    rw [hc]
    exact ⟨_, _, rfl, ((S.nil_ 58 3 Dot.enc none).nil_ 122 3 Dot.enc none).wd.pk, none, 0, none, 0, rfl, rfl⟩
theorem c65 {w0 w : World} {L : List Chunk} {g cap k : Nat} {A : Option Addr} {b : List UInt8} (W : Wd w0 (rds g A cap b k L) w) (hs : Sl encB 1 w0 w0.heap.size (.slice A b.length cap) b) (hk : k ≤ b.length) (hb : b.length ≤ 16777216) :
    RetsO Tryz.prog 65 #[.pointer (some ⟨g, 0, none⟩)] w0 w (fun v L' => ∃ B c B' c', v = .tuple #[.agg #[.slice B (decAt b k).1.marks.length c, .slice B' (decAt b k).1.cloud.length c'], .int .i64 (decAt b k).2.2] ∧ L' = rds g A cap b (decAt b k).2.1 (rowOf 122 3 Dot.enc B c (decAt b k).1.marks :: rowOf 58 3 Dot.enc B' c' (decAt b k).1.cloud :: L)) := by
  by_cases e : (ctxAt b k).2.2 = 0
  · have hc : decAt b k = ctxAt b k := by unfold decAt; rw [if_pos e]
    unfold Go.Fw.RetsO
    refine enterW1 W func65 rfl ntmps65 rfl fun a S => wp_seq_k fun _ hK1 => wp_region_lit (st_m (op_alloc S zeroValue37 (cs := _) rfl rfl fun g1 a w S => run S (.ac rfl <| .z) fun a w S => st_nil (then_normal (hK1 _ _ (sg S (.mv rfl <| .yy (ys_nilc (.t rfl)) rfl <| .fa underlying105 sizeOf3 1 rfl rfl rfl <| .ld gt3 1 rfl rfl rfl <| .as rfl <| .z) fun a w S => wp_seq_k fun _ hK1 => wp_region_lit (run S (.mv rfl <| .z) fun a w S => ?_))))))
    (replace S := S.pull 1 rfl; try simp only [List.set_cons_zero, List.set_cons_succ, List.eraseIdx_cons_succ, List.eraseIdx_cons_zero] at S; refine st_m (op_callO S call125 (.cons (.t rfl) .nil) (c125 S.wd (by first | assumption | omega | (dsimp only; omega) | exact Sl.nil_ | exact .old S.wd (by assumption) | exact Sl.of_own S.wd (k := 0) rfl (fun _ => rfl) | exact Sl.of_own S.wd (k := 1) rfl (fun _ => rfl) | (simp at *; omega)) (by first | assumption | omega | (dsimp only; omega) | exact Sl.nil_ | exact .old S.wd (by assumption) | exact Sl.of_own S.wd (k := 0) rfl (fun _ => rfl) | exact Sl.of_own S.wd (k := 1) rfl (fun _ => rfl) | (simp at *; omega)) (by first | assumption | omega | (dsimp only; omega) | exact Sl.nil_ | exact .old S.wd (by assumption) | exact Sl.of_own S.wd (k := 0) rfl (fun _ => rfl) | exact Sl.of_own S.wd (k := 1) rfl (fun _ => rfl) | (simp at *; omega))) rfl ?_) <;> clear S a w)
    rintro _ _ ⟨B1, c1, B'1, c'1, rfl, rfl⟩ a w S
    refine run S (.mv rfl <| .ex rfl rfl <| .ex rfl rfl <| .z) fun a w S => st_m (op_alloc S zeroValue37 (cs := _) rfl rfl fun g2 a w S => st_m (op_stW S sizeOf37 (.t rfl) (.t rfl) (k := 0) rfl rfl rfl (by simp [Value.oneCell']) fun a w S => run S (.as rfl <| .z) fun a w S => st_nil (then_normal (hK1 _ _ (wp_seq_k fun _ hK1 => sg S (.mv rfl <| .yy (ys_F (by omega) (ys_neq (.t rfl) Ev.c)) rfl <| .z) fun a w S => st_else S (.t rfl) (wp_skip (then_normal (hK1 _ _ (wp_seq_k fun _ hK1 => wp_region_lit (run S (.la gt37 0 rfl rfl rfl <| .z) fun a w S => st_m (op_stW S sizeOf37 (.t rfl) (.t rfl) (k := 4) rfl rfl rfl (by simp [Value.oneCell']) fun a w S => run S (.ac rfl <| .z) fun a w S => st_nil (then_normal (hK1 _ _ (wp_ret (st_ret S (results2 S results65 (Rv.cell (k := 4) ⟨isAgg37, sizeOf37⟩ rfl rfl rfl) (Rv.tmp rfl)) ?_)))))))))))))))
    rw [hc, e]
    exact ⟨_, _, rfl, S.wd.pk, _, _, _, _, rfl, rfl⟩
  · have hc : decAt b k = (⟨[], []⟩, k, (ctxAt b k).2.2) := by unfold decAt; rw [if_neg e]
    unfold Go.Fw.RetsO
    refine enterW1 W func65 rfl ntmps65 rfl fun a S => wp_seq_k fun _ hK1 => wp_region_lit (st_m (op_alloc S zeroValue37 (cs := _) rfl rfl fun g1 a w S => run S (.ac rfl <| .z) fun a w S => st_nil (then_normal (hK1 _ _ (sg S (.mv rfl <| .yy (ys_nilc (.t rfl)) rfl <| .fa underlying105 sizeOf3 1 rfl rfl rfl <| .ld gt3 1 rfl rfl rfl <| .as rfl <| .z) fun a w S => wp_seq_k fun _ hK1 => wp_region_lit (run S (.mv rfl <| .z) fun a w S => ?_))))))
    (replace S := S.pull 1 rfl; try simp only [List.set_cons_zero, List.set_cons_succ, List.eraseIdx_cons_succ, List.eraseIdx_cons_zero] at S; refine st_m (op_callO S call125 (.cons (.t rfl) .nil) (c125 S.wd (by first | assumption | omega | (dsimp only; omega) | exact Sl.nil_ | exact .old S.wd (by assumption) | exact Sl.of_own S.wd (k := 0) rfl (fun _ => rfl) | exact Sl.of_own S.wd (k := 1) rfl (fun _ => rfl) | (simp at *; omega)) (by first | assumption | omega | (dsimp only; omega) | exact Sl.nil_ | exact .old S.wd (by assumption) | exact Sl.of_own S.wd (k := 0) rfl (fun _ => rfl) | exact Sl.of_own S.wd (k := 1) rfl (fun _ => rfl) | (simp at *; omega)) (by first | assumption | omega | (dsimp only; omega) | exact Sl.nil_ | exact .old S.wd (by assumption) | exact Sl.of_own S.wd (k := 0) rfl (fun _ => rfl) | exact Sl.of_own S.wd (k := 1) rfl (fun _ => rfl) | (simp at *; omega))) rfl ?_) <;> clear S a w)
    rintro _ _ ⟨B1, c1, B'1, c'1, rfl, rfl⟩ a w S
    refine run S (.mv rfl <| .ex rfl rfl <| .ex rfl rfl <| .z) fun a w S => st_m (op_alloc S zeroValue37 (cs := _) rfl rfl fun g2 a w S => st_m (op_stW S sizeOf37 (.t rfl) (.t rfl) (k := 0) rfl rfl rfl (by simp [Value.oneCell']) fun a w S => run S (.as rfl <| .z) fun a w S => st_nil (then_normal (hK1 _ _ (wp_seq_k fun _ hK1 => sg S (.mv rfl <| .yy (ys_T (by omega) (ys_neq (.t rfl) Ev.c)) rfl <| .z) fun a w S => st_then S (.t rfl) (wp_seq_k fun _ hK2 => wp_region_lit (run S (.mv rfl <| .mv rfl <| .yy (ys_nilc (.t rfl)) rfl <| .fa underlying105 sizeOf3 1 rfl rfl rfl <| .z) fun a w S => st_m (op_st S sizeOf3 (.t rfl) (.t rfl) (k := 1) rfl rfl (by simp) fun a w S => st_nil (then_normal (hK2 _ _ (wp_seq_k fun _ hK2 => wp_region_lit (run S (.yy (ys_bld (ps := []) (us := [_, _]) bld37 .nil rfl) rfl <| .mv rfl <| .z) fun a w S => st_m (op_stW S sizeOf37 (.t rfl) (.t rfl) (k := 4) rfl rfl rfl (by simp [Value.oneCell']) fun a w S => run S (.as rfl <| .z) fun a w S => st_nil (then_normal (hK2 _ _ (wp_ret (then_ret (st_ret S (results2 S results65 (Rv.cell (k := 4) ⟨isAgg37, sizeOf37⟩ rfl rfl rfl) (Rv.tmp rfl)) ?_))))))))))))))))))
    rw [hc]
    exact ⟨_, _, rfl, ((S.nil_ 58 3 Dot.enc none).nil_ 122 3 Dot.enc none).wd.pk, none, 0, none, 0, rfl, rfl⟩
end Go.Proofs.YtfblmkocmnbdcaaGreat
set_option linter.unusedVariables false
set_option linter.unusedSimpArgs false
set_option maxRecDepth 100000
set_option maxHeartbeats 4000000
namespace Go.Proofs.YtfblmkocmnbdcaaGreat
open Go.Fw Go.Proofs Go.RowKit Go.Proofs.Tryz
theorem c139 {w0 w : World} {L : List Chunk} (W : Wd w0 L w) (e : Int) : RetsP Tryz.prog 139 #[.int .i64 e] 41 w0 w (fun _ _ => False) (fun x L' => x = e ∧ L' = L) := by
  unfold Go.Fw.RetsP
  refine enterW1 W func139 rfl ntmps139 rfl fun a S => wp_region_lit (run S (.mv rfl <| .yy (ys_iface underlying41 (.t rfl)) rfl <| .z) fun a w S => st_m (op_panic S (.t rfl) ?_))
  refine post_panic S ?_
  exact .inr ⟨_, _, rfl, S.wd, rfl, rfl⟩
theorem c120 (w0 : World) (g : Nat) (h2 : w0.cell? ⟨g, 2, none⟩ = some (.bool true)) : Calls Tryz.prog 120 #[.pointer (some ⟨g, 0, none⟩)] w0 fun r w' => r = .returned (.bool true) ∧ Bel w0.heap.size w0 w' := by
  refine enter1 func120 rfl ntmps120 rfl fun a S => sg S (.ac rfl <| .z) fun a w S => sg S (.mv rfl <| .yy (ys_pNotS underlying92 (.t rfl) Ev.c) rfl <| .mv rfl <| .gy rfl rfl (ys_move (.t rfl)) <| .gy rfl rfl (ys_nilc (.t rfl)) <| .gy rfl rfl (ys_fieldN (FieldT.mk underlying144 rfl sizeOf4 rfl) (.t rfl) (i' := 2) rfl) <| .gy rfl rfl (ys_ldO ⟨isAgg4, sizeOf4⟩ (.t rfl) (fun _ => h2)) <| .yy (ys_pickT (.t rfl) (.t rfl)) rfl <| .as rfl <| .z) fun a w S => wp_ret (st_ret S (results1 S results120 (Rv.tmp rfl)) ?_)
  exact ⟨rfl, S.wd.below⟩
theorem c121 (w0 : World) (g : Nat) (A : Option Addr) (cap k n : Nat) (h0 : w0.cell? ⟨g, 0, none⟩ = some (.slice A n cap)) (h1 : w0.cell? ⟨g, 1, none⟩ = some (.int .i64 (k : Int))) (h2 : w0.cell? ⟨g, 2, none⟩ = some (.bool true)) (hk : k ≤ n) (hn : n ≤ 16777216) :
    Calls Tryz.prog 121 #[.pointer (some ⟨g, 0, none⟩)] w0 fun r w' => r = .returned (.int .i64 ((n - k : Nat) : Int)) ∧ Bel w0.heap.size w0 w' := by
  refine enter1 func121 rfl ntmps121 rfl fun a S => sg S (.ac rfl <| .z) fun a w S => wp_seq_k fun _ hK1 => sg S (.mv rfl <| .xx (ys_call call120 (.cons (.t rfl) .nil) (fun hp w W => c120 _ _ (by exact Wd.cellOld W (by assumption)))) rfl <| .nt rfl <| .z) fun a w S => st_else S (.t rfl) (wp_skip (then_normal (hK1 _ _ (wp_seq_k fun _ hK1 => st_quiet S (by kernel_rfl) (by kernel_rfl) fun a S => qrun S (.mv rfl <| .yy (ys_nilc (.t rfl)) rfl <| .fa underlying144 sizeOf28 0 rfl rfl rfl <| .yy (ys_ldO ⟨isAgg28, sizeOf28⟩ (.t rfl) (fun _ => h0)) rfl <| .ln underlying28 rfl <| .mv rfl <| .yy (ys_nilc (.t rfl)) rfl <| .fa underlying144 sizeOf3 1 rfl rfl rfl <| .yy (ys_ldO ⟨isAgg3, sizeOf3⟩ (.t rfl) (fun _ => h1)) rfl <| .yy (ys_subI (.t rfl) (.t rfl) (fun _ => by unfold I64; omega)) rfl <| .as rfl <| .z) fun a S => ?_))))
  (refine q_nil ?_; intro w W; replace S := St.mk S W; clear W)
  refine then_normal (hK1 _ _ (wp_ret (st_ret S (results1 S results121 (Rv.tmp rfl)) ?_)))
  have e : (n : Int) - (k : Int) = ((n - k : Nat) : Int) := by omega
  rw [e]
  exact ⟨rfl, S.wd.below⟩
abbrev rdr (g : Nat) (A : Option Addr) (cap : Nat) (b : List UInt8) (k : Nat) (L : List Chunk) : List Chunk := .blk g (.cells #[.slice A b.length cap, .int .i64 (k : Int), .bool true] 144) :: rowOf 5 1 encB A cap b :: L
theorem c56 (w0 : World) (v1 : Value) (l : List UInt8) (h : Sl encB 1 w0 w0.heap.size v1 l) (hl : l.length ≤ 16777216) :
    Rets Tryz.prog 56 #[v1] w0 fun v L => ∃ g A c, v = .pointer (some ⟨g, 0, none⟩) ∧ L = rdr g A c l 0 [] := by
  obtain ⟨A, cap, rfl, _⟩ := id h
  unfold Go.Fw.Rets
  refine enter1 func56 rfl ntmps56 rfl fun a S => sg S (.ac rfl <| .z) fun a w S => wp_seq_k fun _ hK1 => wp_region_lit (run S (.mv rfl <| .z) fun a w S => st_m (op_extend _ (S.nil_ 5 _ Go.Fw.encB _) underlying28 underlying28 (.inr ⟨_, rfl⟩) inf5 rfl (k := 0) rfl Ev.c (.t rfl) (Src.sl (Sl.old S.wd h) (by decide) Go.Fw.encB_len Go.Fw.encB_one) (by first | omega | (simp only [List.length_append, List.length_cons, List.length_nil]; omega) | (simp; omega)) rfl rfl rfl fun A1 cap1 a w S => ?_))
  simp only [List.nil_append] at S
  refine run S (.yy (ys_bld (ps := [(0, Go.Operand.tmp 4), (2, _)]) (us := [_, _, _]) bld144 (.cons (.t rfl) (.cons Ev.c .nil)) rfl) rfl <| .z) fun a w S => st_m (op_box S (.t rfl) rfl fun g1 a w S => run S (.as rfl <| .z) fun a w S => st_nil (then_normal (hK1 _ _ (wp_ret (st_ret S (results1 S results56 (Rv.tmp rfl)) ?_)))))
  exact ⟨_, _, rfl, S.wd, _, _, _, rfl, rfl⟩
theorem c140 {w0 w : World} {L : List Chunk} {g cap k : Nat} {A : Option Addr} {b : List UInt8} (W : Wd w0 (rdr g A cap b k L) w) (n : Nat) (hn : k + n ≤ b.length) (hb : b.length ≤ 16777216) :
    RetsO Tryz.prog 140 #[.pointer (some ⟨g, 0, none⟩), .int .i64 (n : Int)] w0 w fun v L' => ∃ A1 c1, v = .slice A1 ((b.drop k).take n).length c1 ∧ L' = rdr g A cap b (k + n) (rowOf 5 1 encB A1 c1 ((b.drop k).take n) :: L) := by
  have hr := (W.room (k := 1) rfl).1
  have rw_k : (k : Int) + (n : Int) = ((k + n : Nat) : Int) := by omega
  unfold Go.Fw.RetsO
  refine enterW2 W func140 rfl ntmps140 rfl fun a S => sg S (.ac rfl <| .z) fun a w S => wp_seq_k fun _ hK1 => h_begin0 S (by kernel_rfl) fun a w S => hy 0 S rfl (ys_move (.t rfl)) rfl fun a w S => hy 1 S rfl (ys_nilc (.t rfl)) rfl fun a w S => hy 2 S rfl (ys_fieldN (FieldT.mk underlying144 rfl sizeOf28 rfl) (.t rfl) (i' := 0) rfl) rfl fun a w S => hy 3 S rfl (ys_ld ⟨isAgg28, sizeOf28⟩ (.t rfl) (k := 0) rfl rfl) rfl fun a w S => ?_
  refine hy 4 S rfl (ys_move (.t rfl)) rfl fun a w S => hy 5 S rfl (ys_nilc (.t rfl)) rfl fun a w S => hy 6 S rfl (ys_fieldN (FieldT.mk underlying144 rfl sizeOf3 rfl) (.t rfl) (i' := 1) rfl) rfl fun a w S => hy 7 S rfl (ys_ld ⟨isAgg3, sizeOf3⟩ (.t rfl) (k := 0) rfl rfl) rfl fun a w S => hy 8 S rfl (ys_move (.t rfl)) rfl fun a w S => ?_
  refine hy 9 S rfl (ys_nilc (.t rfl)) rfl fun a w S => hy 10 S rfl (ys_fieldN (FieldT.mk underlying144 rfl sizeOf3 rfl) (.t rfl) (i' := 1) rfl) rfl fun a w S => hy 11 S rfl (ys_ld ⟨isAgg3, sizeOf3⟩ (.t rfl) (k := 0) rfl rfl) rfl fun a w S => hy 12 S rfl (ys_move (.t rfl)) rfl fun a w S => hy 13 S rfl (ys_addI (.t rfl) (.t rfl) (fun _ => by unfold I64; omega)) rfl fun a w S => ?_
  rw [rw_k] at S
  refine hy 14 S rfl (ys_slLH underlying28 sizeOf5 (.t rfl) (.t rfl) (.t rfl) (fun _ => by first | omega | (simp; done) | (simp; omega))) rfl fun a w S => ?_
  (refine h_m (i := 15) rfl (by kernel_rfl) (op_extend _ (S.nil_ 5 _ Go.Fw.encB _) underlying28 underlying28 (.inr ⟨_, rfl⟩) inf5 rfl (k := 0) rfl Ev.c (.t rfl) (by exact Src.sub S.wd (k := 1) rfl (by decide) Go.Fw.encB_len Go.Fw.encB_one (by omega) (by omega)) (by first | omega | (simp only [List.length_append, List.length_cons, List.length_nil]; omega) | (simp; omega)) rfl rfl rfl ?_); clear S a w; intro A1 cap1 a w S; refine h_n2 S ?_)
  simp only [List.nil_append] at S
  refine hy 16 S rfl (ys_assign (.t rfl)) rfl fun a w S => h_done (by kernel_rfl) (then_normal (hK1 _ _ (wp_seq_k fun _ hK1 => wp_region_lit (run S (.mv rfl <| .yy (ys_nilc (.t rfl)) rfl <| .fa underlying144 sizeOf3 1 rfl rfl rfl <| .ld gt3 1 rfl rfl rfl <| .mv rfl <| .yy (ys_addI (.t rfl) (.t rfl) (fun _ => by unfold I64; omega)) rfl <| .z) fun a w S => ?_))))
  rw [rw_k] at S
  refine run S (.yy (ys_nilc (.t rfl)) rfl <| .fa underlying144 sizeOf3 1 rfl rfl rfl <| .z) fun a w S => st_m (op_st S sizeOf3 (.t rfl) (.t rfl) (k := 1) rfl rfl (by simp) fun a w S => st_nil (then_normal (hK1 _ _ (sg S (.mv rfl <| .as rfl <| .z) fun a w S => wp_ret (st_ret S (results1 S results140 (Rv.tmp rfl)) ?_)))))
  have e : k + n - k = n := by omega
  rw [e] at S
  exact ⟨_, _, by rw [e], (S.wd.picks (L' := rdr g A cap b (k + n) (rowOf 5 1 encB A1 cap1 ((b.drop k).take n) :: L)) (by repeat (first | exact Picks.nil | (refine Picks.rest ?_; (repeat (first | exact List.Sublist.refl _ | refine List.Sublist.cons_cons _ ?_ | refine List.Sublist.cons _ ?_)); done) | refine Picks.take 0 rfl ?_ | refine Picks.take 1 rfl ?_ | refine Picks.take 2 rfl ?_ | refine Picks.take 3 rfl ?_ | refine Picks.take 4 rfl ?_ | refine Picks.take 5 rfl ?_ | refine Picks.take 6 rfl ?_ | refine Picks.take 7 rfl ?_ | refine Picks.take 8 rfl ?_ | refine Picks.take 9 rfl ?_ | refine Picks.take 10 rfl ?_ | refine Picks.take 11 rfl ?_))), _, _, rfl, rfl⟩
theorem c116 {w0 w : World} {L : List Chunk} {g cap k : Nat} {A : Option Addr} {b : List UInt8} (W : Wd w0 (rdr g A cap b k L) w) (hk : k ≤ b.length) (hb : b.length ≤ 16777216) :
    RetsP Tryz.prog 116 #[.pointer (some ⟨g, 0, none⟩)] 41 w0 w (fun v L' => (numR 0 0 (b.drop k)).2.2 = 0 ∧ v = .int .i64 (numR 0 0 (b.drop k)).1 ∧ L' = rdr g A cap b (k + (numR 0 0 (b.drop k)).2.1) L) (fun x L' => x = (numR 0 0 (b.drop k)).2.2 ∧ x ≠ 0 ∧ L' = rdr g A cap b k L) := by
  unfold Go.Fw.RetsP
  refine enterW1 W func116 rfl ntmps116 rfl fun a S => sg S (.ac rfl <| .z) fun a w S => wp_seq_k fun _ hK1 => st_quiet S (by kernel_rfl) (by kernel_rfl) fun a S => qrun S (.mv rfl <| .yy (ys_nilc (.t rfl)) rfl <| .fa underlying144 sizeOf3 1 rfl rfl rfl <| .ld gt3 0 rfl rfl rfl <| .ac rfl <| .as rfl <| .z) fun a S => ?_
  (refine q_nil ?_; intro w W; replace S := St.mk S W; clear W)
  refine then_normal (hK1 _ _ (sg S (.ac rfl <| .z) fun a w S => wp_block ?_))
  replace S := S.wk (K' := [(5, true, .int .i64 ((0 : Nat) : Int)), (4, true, .int .i64 ((k + 0 : Nat) : Int)), (3, true, .int .i64 (0 : Int)), (0, true, .pointer (some ⟨g, 0, none⟩))]) (L' := rdr g A cap b k L)
  refine st_lpK S (X := Nat × Int) (fun q => [(5, true, .int .i64 (q.1 : Int)), (4, true, .int .i64 ((k + q.1 : Nat) : Int)), (3, true, .int .i64 q.2)]) (fun _ L => L)
    (fun q => q.1 ≤ 8 ∧ k + q.1 ≤ b.length ∧ 0 ≤ q.2 ∧ q.2 < 128 ^ q.1 ∧ numR q.1 q.2 (b.drop (k + q.1)) = numR 0 0 (b.drop k)) (fun q => 9 - q.1) (0, 0) ⟨by simp, by omega, by simp, by simp, rfl⟩ ?_
  clear S
  intro ⟨i, m⟩ a w ⟨hi8, hik, hm0, hm1, hno⟩ S
  dsimp only at hi8 hik hm0 hm1 hno S
  by_cases hlt : k + i < b.length
  · obtain ⟨ga, rfl⟩ := S.wd.row_at (k := 1) rfl (by have := (S.wd.room (k := 1) rfl).1; omega)
    obtain ⟨x, hx⟩ : ∃ x, b[k + i]? = some x := ⟨b[k + i], by simp⟩
    have hx8 : x.toNat < 256 := x.toNat_lt
    have hst := numR_step (i := i) (n := m) hx
    rw [hno] at hst
    obtain ⟨p1, p2, p3⟩ := pow_num hi8
    obtain ⟨rw_s, hs0, hs1⟩ := sh_num (i := i) (y := (x.toNat : Int) % 128) hi8 (by omega) (by omega)
    have rw_o := or_num (i := i) (m := m) (y := (x.toNat : Int) % 128) hi8 hm0 hm1 (by omega) (by omega)
    have rw_7 : 7 * (i : Int) = ((7 * i : Nat) : Int) := by omega
    have rw_k : ((k + i : Nat) : Int) + 1 = ((k + (i + 1) : Nat) : Int) := by omega
    by_cases h128 : x.toNat < 128
    · rw [if_neg (by omega), if_pos h128] at hst
      by_cases h0 : 0 < i ∧ x.toNat = 0
      · rw [if_pos h0] at hst
        obtain ⟨h0a, h0b⟩ := h0
        refine wp_seq_k fun _ hK1 => wp_block (wp_seq_k fun _ hK2 => sg S (.mv rfl <| .mv rfl <| .yy (ys_nilc (.t rfl)) rfl <| .fa underlying144 sizeOf28 0 rfl rfl rfl <| .ld gt28 0 rfl rfl rfl <| .ln underlying28 rfl <| .yy (ys_F (by omega) (ys_eql (.t rfl) (.t rfl))) rfl <| .z) fun a w S => st_else S (.t rfl) (wp_skip (then_normal (hK2 _ _ (sg S (.mv rfl <| .yy (ys_nilc (.t rfl)) rfl <| .fa underlying144 sizeOf28 0 rfl rfl rfl <| .ld gt28 0 rfl rfl rfl <| .mv rfl <| .ix underlying28 sizeOf5 (by omega) rfl rfl <| .yy (ys_ldW0 ⟨isAgg5, sizeOf5⟩ (.t rfl) (k := 1) rfl hx (fun _ => rfl) rfl) rfl <| .yy (ys_cvI underlying5 underlying3 (.t rfl) (fun _ => by unfold I64; omega)) rfl <| .as rfl <| .z) fun a w S => wp_seq_k fun _ hK2 => wp_region_lit (run S (.mv rfl <| .ad (by unfold I64; omega) rfl <| .z) fun a w S => ?_))))))
        rw [rw_k] at S
        refine run S (.as rfl <| .z) fun a w S => st_nil (then_normal (hK2 _ _ (wp_seq_k fun _ hK2 => wp_seq_k fun _ hK3 => wp_region_lit (run S (.mv rfl <| .yy (ys_eql (.t rfl) Ev.c) rfl <| .mv rfl <| .z) fun a w S => st_yg S rfl rfl (Yr.ys (ys_move (.t rfl))) rfl fun a w S => st_yg S rfl rfl (Yr.ys (ys_F (by omega) (ys_geq (Ev.g rfl) Ev.c))) rfl fun a w S => run S (.yy (ys_andF (.t rfl) (Ev.g rfl) Ev.c) rfl <| .z) fun a w S => st_nil (then_normal (hK3 _ _ (st_else S (.t rfl) (wp_skip (then_normal (hK2 _ _ (wp_seq_k fun _ hK2 => wp_region_lit (run S (.mv rfl <| .mv rfl <| .yy (ys_andM 7 (c := 128) (.t rfl) Ev.c rfl rfl rfl (fun _ => by omega)) rfl <| .mv rfl <| .yy (ys_mulI Ev.c (.t rfl) (fun _ => by unfold I64; omega)) rfl <| .z) fun a w S => ?_))))))))))))
        rw [rw_7] at S
        refine run S (.yy (ys_shl (.t rfl) (.t rfl) (Nat.ble_eq_true_of_le (by show _ ≤ 64; omega))) rfl <| .z) fun a w S => ?_
        rw [rw_s] at S
        refine run S (.yy (ys_bor (.t rfl) (.t rfl)) rfl <| .z) fun a w S => ?_
        rw [rw_o] at S
        refine run S (.as rfl <| .z) fun a w S => st_nil (then_normal (hK2 _ _ (sg S (.mv rfl <| .yy (ys_T (by omega) (ys_lss (.t rfl) Ev.c)) rfl <| .z) fun a w S => st_then S (.t rfl) (wp_seq_k fun _ hK2 => sg S (.mv rfl <| .yy (ys_T (by omega) (ys_gtr (.t rfl) Ev.c)) rfl <| .mv rfl <| .gy rfl rfl (ys_move (.t rfl)) <| .gy rfl rfl (ys_T (by omega) (ys_eql (.t rfl) Ev.c)) <| .yy (ys_pickT (.t rfl) (.t rfl)) rfl <| .z) fun a w S => st_then S (.t rfl) (wp_region_lit ?_)))))
        (refine st_m (op_callRP S call139 (.cons Ev.c .nil) (c139 S.wd _) rfl ?_ ?_) <;> clear S a w)
        (intro _ _ h; exact h.elim)
        rintro _ _ ⟨rfl, rfl⟩ a w S
        refine then_panic (in_panic (then_panic (then_panic (in_panic ?_))))
        refine post_panic S ?_
        rw [hst]
        exact .inr ⟨_, _, rfl, S.wd, rfl, by decide, rfl⟩
      · rw [if_neg h0] at hst
        have rw_f : (decide (0 < (i : Int)) && decide ((x.toNat : Int) = 0)) = false := by rw [Bool.eq_false_iff]; intro h; simp at h; omega
        refine wp_seq_k fun _ hK1 => wp_block (wp_seq_k fun _ hK2 => sg S (.mv rfl <| .mv rfl <| .yy (ys_nilc (.t rfl)) rfl <| .fa underlying144 sizeOf28 0 rfl rfl rfl <| .ld gt28 0 rfl rfl rfl <| .ln underlying28 rfl <| .yy (ys_F (by omega) (ys_eql (.t rfl) (.t rfl))) rfl <| .z) fun a w S => st_else S (.t rfl) (wp_skip (then_normal (hK2 _ _ (sg S (.mv rfl <| .yy (ys_nilc (.t rfl)) rfl <| .fa underlying144 sizeOf28 0 rfl rfl rfl <| .ld gt28 0 rfl rfl rfl <| .mv rfl <| .ix underlying28 sizeOf5 (by omega) rfl rfl <| .yy (ys_ldW0 ⟨isAgg5, sizeOf5⟩ (.t rfl) (k := 1) rfl hx (fun _ => rfl) rfl) rfl <| .yy (ys_cvI underlying5 underlying3 (.t rfl) (fun _ => by unfold I64; omega)) rfl <| .as rfl <| .z) fun a w S => wp_seq_k fun _ hK2 => wp_region_lit (run S (.mv rfl <| .ad (by unfold I64; omega) rfl <| .z) fun a w S => ?_))))))
        rw [rw_k] at S
        refine run S (.as rfl <| .z) fun a w S => st_nil (then_normal (hK2 _ _ (wp_seq_k fun _ hK2 => wp_seq_k fun _ hK3 => wp_region_lit (run S (.mv rfl <| .yy (ys_eql (.t rfl) Ev.c) rfl <| .mv rfl <| .z) fun a w S => st_yg S rfl rfl (Yr.ys (ys_move (.t rfl))) rfl fun a w S => st_yg S rfl rfl (Yr.ys (ys_F (by omega) (ys_geq (Ev.g rfl) Ev.c))) rfl fun a w S => run S (.yy (ys_andF (.t rfl) (Ev.g rfl) Ev.c) rfl <| .z) fun a w S => st_nil (then_normal (hK3 _ _ (st_else S (.t rfl) (wp_skip (then_normal (hK2 _ _ (wp_seq_k fun _ hK2 => wp_region_lit (run S (.mv rfl <| .mv rfl <| .yy (ys_andM 7 (c := 128) (.t rfl) Ev.c rfl rfl rfl (fun _ => by omega)) rfl <| .mv rfl <| .yy (ys_mulI Ev.c (.t rfl) (fun _ => by unfold I64; omega)) rfl <| .z) fun a w S => ?_))))))))))))
        rw [rw_7] at S
        refine run S (.yy (ys_shl (.t rfl) (.t rfl) (Nat.ble_eq_true_of_le (by show _ ≤ 64; omega))) rfl <| .z) fun a w S => ?_
        rw [rw_s] at S
        refine run S (.yy (ys_bor (.t rfl) (.t rfl)) rfl <| .z) fun a w S => ?_
        rw [rw_o] at S
        refine run S (.as rfl <| .z) fun a w S => st_nil (then_normal (hK2 _ _ (sg S (.mv rfl <| .yy (ys_T (by omega) (ys_lss (.t rfl) Ev.c)) rfl <| .z) fun a w S => st_then S (.t rfl) (wp_seq_k fun _ hK2 => wp_seq_k fun _ hK3 => wp_region_lit (run S (.mv rfl <| .yy (ys_gtr (.t rfl) Ev.c) rfl <| .mv rfl <| .z) fun a w S => st_yg S rfl rfl (Yr.ys (ys_move (.t rfl))) rfl fun a w S => st_yg S rfl rfl (Yr.ys (ys_eql (Ev.g rfl) Ev.c)) rfl fun a w S => run S (.yy (ys_and (.t rfl) (Ev.g rfl) Ev.c) rfl <| .z) fun a w S => ?_)))))
        rw [rw_f] at S
        refine st_nil (then_normal (hK3 _ _ (st_else S (.t rfl) (wp_skip (then_normal (hK2 _ _ (wp_seq_k fun _ hK2 => wp_region_lit (run S (.mv rfl <| .mv rfl <| .yy (ys_nilc (.t rfl)) rfl <| .fa underlying144 sizeOf3 1 rfl rfl rfl <| .z) fun a w S => st_m (op_st S sizeOf3 (.t rfl) (.t rfl) (k := 0) rfl rfl (by simp) fun a w S => st_nil (then_normal (hK2 _ _ (sg S (.mv rfl <| .as rfl <| .z) fun a w S => wp_ret (in_ret (then_ret (then_ret (in_ret (st_ret S (results1 S results116 (Rv.tmp rfl)) ?_)))))))))))))))))
        rw [hst]
        exact .inl ⟨_, _, rfl, S.wd, rfl, rfl, rfl⟩
    · by_cases h8 : i = 8
      · rw [if_pos (by omega)] at hst
        refine wp_seq_k fun _ hK1 => wp_block (wp_seq_k fun _ hK2 => sg S (.mv rfl <| .mv rfl <| .yy (ys_nilc (.t rfl)) rfl <| .fa underlying144 sizeOf28 0 rfl rfl rfl <| .ld gt28 0 rfl rfl rfl <| .ln underlying28 rfl <| .yy (ys_F (by omega) (ys_eql (.t rfl) (.t rfl))) rfl <| .z) fun a w S => st_else S (.t rfl) (wp_skip (then_normal (hK2 _ _ (sg S (.mv rfl <| .yy (ys_nilc (.t rfl)) rfl <| .fa underlying144 sizeOf28 0 rfl rfl rfl <| .ld gt28 0 rfl rfl rfl <| .mv rfl <| .ix underlying28 sizeOf5 (by omega) rfl rfl <| .yy (ys_ldW0 ⟨isAgg5, sizeOf5⟩ (.t rfl) (k := 1) rfl hx (fun _ => rfl) rfl) rfl <| .yy (ys_cvI underlying5 underlying3 (.t rfl) (fun _ => by unfold I64; omega)) rfl <| .as rfl <| .z) fun a w S => wp_seq_k fun _ hK2 => wp_region_lit (run S (.mv rfl <| .ad (by unfold I64; omega) rfl <| .z) fun a w S => ?_))))))
        rw [rw_k] at S
        refine run S (.as rfl <| .z) fun a w S => st_nil (then_normal (hK2 _ _ (wp_seq_k fun _ hK2 => sg S (.mv rfl <| .yy (ys_T (by omega) (ys_eql (.t rfl) Ev.c)) rfl <| .mv rfl <| .gy rfl rfl (ys_move (.t rfl)) <| .gy rfl rfl (ys_T (by omega) (ys_geq (.t rfl) Ev.c)) <| .yy (ys_pickT (.t rfl) (.t rfl)) rfl <| .z) fun a w S => st_then S (.t rfl) (wp_region_lit ?_))))
        (refine st_m (op_callRP S call139 (.cons Ev.c .nil) (c139 S.wd _) rfl ?_ ?_) <;> clear S a w)
        (intro _ _ h; exact h.elim)
        rintro _ _ ⟨rfl, rfl⟩ a w S
        refine then_panic (in_panic (then_panic (then_panic (in_panic ?_))))
        refine post_panic S ?_
        rw [hst]
        exact .inr ⟨_, _, rfl, S.wd, rfl, by decide, rfl⟩
      · rw [if_neg (by omega), if_neg h128] at hst
        have h5 : (128 : Int) ^ (i + 1) = 128 * 128 ^ i := by rw [Int.pow_succ]; omega
        have h6 : (x.toNat : Int) % 128 * 128 ^ i ≤ 127 * 128 ^ i := Int.mul_le_mul_of_nonneg_right (by omega) (by omega)
        refine wp_seq_k fun _ hK1 => wp_block (wp_seq_k fun _ hK2 => sg S (.mv rfl <| .mv rfl <| .yy (ys_nilc (.t rfl)) rfl <| .fa underlying144 sizeOf28 0 rfl rfl rfl <| .ld gt28 0 rfl rfl rfl <| .ln underlying28 rfl <| .yy (ys_F (by omega) (ys_eql (.t rfl) (.t rfl))) rfl <| .z) fun a w S => st_else S (.t rfl) (wp_skip (then_normal (hK2 _ _ (sg S (.mv rfl <| .yy (ys_nilc (.t rfl)) rfl <| .fa underlying144 sizeOf28 0 rfl rfl rfl <| .ld gt28 0 rfl rfl rfl <| .mv rfl <| .ix underlying28 sizeOf5 (by omega) rfl rfl <| .yy (ys_ldW0 ⟨isAgg5, sizeOf5⟩ (.t rfl) (k := 1) rfl hx (fun _ => rfl) rfl) rfl <| .yy (ys_cvI underlying5 underlying3 (.t rfl) (fun _ => by unfold I64; omega)) rfl <| .as rfl <| .z) fun a w S => wp_seq_k fun _ hK2 => wp_region_lit (run S (.mv rfl <| .ad (by unfold I64; omega) rfl <| .z) fun a w S => ?_))))))
        rw [rw_k] at S
        refine run S (.as rfl <| .z) fun a w S => st_nil (then_normal (hK2 _ _ (wp_seq_k fun _ hK2 => sg S (.mv rfl <| .yy (ys_F (by omega) (ys_eql (.t rfl) Ev.c)) rfl <| .mv rfl <| .sk rfl rfl rfl <| .sk rfl rfl rfl <| .yy (ys_pickF (.t rfl) Ev.c) rfl <| .z) fun a w S => st_else S (.t rfl) (wp_skip (then_normal (hK2 _ _ (wp_seq_k fun _ hK2 => wp_region_lit (run S (.mv rfl <| .mv rfl <| .yy (ys_andM 7 (c := 128) (.t rfl) Ev.c rfl rfl rfl (fun _ => by omega)) rfl <| .mv rfl <| .yy (ys_mulI Ev.c (.t rfl) (fun _ => by unfold I64; omega)) rfl <| .z) fun a w S => ?_))))))))
        rw [rw_7] at S
        refine run S (.yy (ys_shl (.t rfl) (.t rfl) (Nat.ble_eq_true_of_le (by show _ ≤ 64; omega))) rfl <| .z) fun a w S => ?_
        rw [rw_s] at S
        refine run S (.yy (ys_bor (.t rfl) (.t rfl)) rfl <| .z) fun a w S => ?_
        rw [rw_o] at S
        refine run S (.as rfl <| .z) fun a w S => st_nil (then_normal (hK2 _ _ (sg S (.mv rfl <| .yy (ys_F (by omega) (ys_lss (.t rfl) Ev.c)) rfl <| .z) fun a w S => st_else S (.t rfl) (wp_skip (in_normal (then_normal (hK1 _ _ (wp_region_lit (run S (.mv rfl <| .ad (by unfold I64; omega) rfl <| .as rfl <| .z) fun a w S => st_nil (then_normal ?_))))))))))
        exact ⟨(i + 1, m + (x.toNat : Int) % 128 * 128 ^ i), ⟨by dsimp only; omega, by dsimp only; omega, by dsimp only; omega, by dsimp only; omega, by dsimp only; rw [hst]; rfl⟩, by dsimp only; omega, S.wk⟩
  · refine wp_seq_k fun _ hK1 => wp_block (wp_seq_k fun _ hK2 => sg S (.mv rfl <| .mv rfl <| .yy (ys_nilc (.t rfl)) rfl <| .fa underlying144 sizeOf28 0 rfl rfl rfl <| .ld gt28 0 rfl rfl rfl <| .ln underlying28 rfl <| .yy (ys_T (by omega) (ys_eql (.t rfl) (.t rfl))) rfl <| .z) fun a w S => st_then S (.t rfl) (wp_region_lit ?_))
    (refine st_m (op_callRP S call139 (.cons Ev.c .nil) (c139 S.wd _) rfl ?_ ?_) <;> clear S a w)
    (intro _ _ h; exact h.elim)
    rintro _ _ ⟨rfl, rfl⟩ a w S
    refine then_panic (in_panic (then_panic (then_panic (in_panic ?_))))
    refine post_panic S ?_
    have hkk : k + i = b.length := by omega
    rw [List.drop_of_length_le (by omega), numR_nil] at hno
    rw [← hno]
    exact .inr ⟨_, _, rfl, S.wd, rfl, by decide, rfl⟩
end Go.Proofs.YtfblmkocmnbdcaaGreat
set_option linter.unusedVariables false
set_option linter.unusedSimpArgs false
set_option maxRecDepth 100000
set_option maxHeartbeats 4000000
namespace Go.Proofs.YtfblmkocmnbdcaaGreat
open Go.Fw Go.Proofs Go.RowKit Go.Proofs.Tryz
theorem caught {w0 : World} {L : List Chunk} (g : Nat) (e : Int) (w : World) (W : Wd w0 (.blk g (.cells #[.int .i64 0] 41) :: L) w) :
    CallsD Tryz.prog 167 #[.pointer (some ⟨g, 0, none⟩)] (.panicking (Pan 41 e)) w fun r u' w' =>
      r = .returned (.tuple #[]) ∧ u' = .panicking [{ v := .iface 41 (.int .i64 e), recovered := true }] ∧ Wd w0 (.blk g (.cells #[.int .i64 e] 41) :: L) w' := by
  refine callsD_of_wpS func167 rfl fun c₀ cs hu => ?_
  have kn := kn_start (args := [.pointer (some ⟨g, 0, none⟩)]) ntmps167 rfl
  generalize ({ tmps := _, defers := [] } : Act) = a at kn ⊢
  apply wpS_seq
  refine wpS_recover (cs' := { c₀ with mode := .panicking [{ v := .iface 41 (.int .i64 e), recovered := true }] } :: cs) (v := .iface 41 (.int .i64 e)) kn rfl (by simp [recoverD, hu]) ?_
  have S : St 18 w0 _ _ _ w := ⟨(kn.put (d := 4) rfl (.iface 41 (.int .i64 e))).put (d := 1) rfl (.iface 41 (.int .i64 e)), W⟩
  generalize ((a.put (some 4) _).put (some 1) _ : Act) = a at S ⊢
  refine wpS_of_wp ?_
  refine sg S (.mv rfl <| .yy (ys_tassHit underlying41 (.t rfl)) rfl <| .mv rfl <| .ex rfl rfl <| .ex rfl rfl <| .as rfl <| .as rfl <| .z) fun a w S => wp_seq_k fun _ hK1 => sg S (.mv rfl <| .yy (ys_iNotV (underlying20.trans (by kernel_rfl)) (.t rfl) Ev.c) rfl <| .mv rfl <| .gy rfl rfl (ys_move (.t rfl)) <| .gy rfl rfl (ys_not (.t rfl)) <| .yy (ys_pickT (.t rfl) (.t rfl)) rfl <| .z) fun a w S => st_else S (.t rfl) (wp_skip (then_normal (hK1 _ _ (wp_region_lit (run S (.mv rfl <| .z) fun a w S => st_m (op_st S sizeOf41 (.t rfl) (.t rfl) (k := 0) rfl rfl (by simp) fun a w S => st_nil ?_))))))
  exact ⟨S.kn.defers, _, rfl, _, results0 results167, rfl, rfl, S.wd⟩
theorem idle {w0 : World} {L : List Chunk} (g : Nat) (w : World) (W : Wd w0 (.blk g (.cells #[.int .i64 0] 41) :: L) w) :
    CallsD Tryz.prog 167 #[.pointer (some ⟨g, 0, none⟩)] .returning w fun r u' w' =>
      r = .returned (.tuple #[]) ∧ u' = .returning ∧ Wd w0 (.blk g (.cells #[.int .i64 0] 41) :: L) w' := by
  refine callsD_of_wpS func167 rfl fun c₀ cs hu => ?_
  have kn := kn_start (args := [.pointer (some ⟨g, 0, none⟩)]) ntmps167 rfl
  generalize ({ tmps := _, defers := [] } : Act) = a at kn ⊢
  apply wpS_seq
  refine wpS_recoverN kn rfl (by simp [recoverD, hu]) ?_
  have S : St 18 w0 _ _ _ w := ⟨(kn.put (d := 4) rfl .nilIface).put (d := 1) rfl .nilIface, W⟩
  generalize ((a.put (some 4) _).put (some 1) _ : Act) = a at S ⊢
  refine wpS_of_wp ?_
  refine sg S (.mv rfl <| .yy (ys_tassNil underlying41 zeroValue41 (.t rfl)) rfl <| .mv rfl <| .ex rfl rfl <| .ex rfl rfl <| .as rfl <| .as rfl <| .z) fun a w S => wp_seq_k fun _ hK1 => sg S (.mv rfl <| .yy (ys_iNotN (underlying20.trans (by kernel_rfl)) (.t rfl)) rfl <| .mv rfl <| .sk rfl rfl rfl <| .sk rfl rfl rfl <| .yy (ys_pickF (.t rfl) Ev.c) rfl <| .z) fun a w S => st_else S (.t rfl) (wp_skip (then_normal (hK1 _ _ (wp_region_lit (run S (.mv rfl <| .z) fun a w S => st_m (op_st S sizeOf41 (.t rfl) (.t rfl) (k := 0) rfl rfl (by simp) fun a w S => st_nil ?_))))))
  exact ⟨S.kn.defers, .returning, by cases c₀; simp_all, _, results0 results167, rfl, rfl, S.wd⟩
theorem tryW {w0 w : World} {L : List Chunk} {f : FuncId} {cs : List Value} {R : Int → List Chunk → Prop} (W : Wd w0 L w) (hf : ∀ args w, (callFunc f args).run Tryz.prog w = .ok (.enter f args) w)
    (hc : ∀ C w1, Wd w0 (C :: L) w1 → RetsP Tryz.prog f cs.toArray 41 w0 w1 (fun v L' => ∃ L'', L' = C :: L'' ∧ v = .tuple #[] ∧ R 0 L'') (fun x L' => ∃ L'', L' = C :: L'' ∧ R x L'')) :
    RetsO Tryz.prog 137 #[.func (.func f) #[] cs.toArray] w0 w fun v L' => ∃ x, v = .int .i64 x ∧ R x L' := by
  unfold RetsO
  refine enterD (args := [_]) W func137 rfl ntmps137 rfl fun a S => wp_seq_k fun _ hK1 => wp_region_lit (st_m (op_alloc S zeroValue41 (cs := _) rfl rfl fun g1 a w S => st_nil (then_normal (hK1 _ _ (wp_seq_k fun _ hK1 => wp_region_lit (run S (.yy (ys_mkFunc (.cons (.t rfl) .nil)) rfl <| .z) fun a w S => st_m (op_defer (cs := [_]) S (.t rfl) (st_nil (then_normal (hK1 _ _ (wp_seq_k fun _ hK1 => wp_region_lit (st_m (op_dfr ?_)))))))))))))
  (refine op_y S (Yr.ys (ys_move (.t rfl))) rfl ?_; clear S a w; intro a w S)
  refine st_m (op_dfr ?_)
  refine op_callRPV S (.t rfl) hf .nil (hc _ _ S.wd) rfl ?_ ?_
  · clear S
    rintro _ _ ⟨L1, rfl, rfl, hR⟩ a w S
    refine st_nil (then_normal (hK1 _ _ (wp_seq_k fun _ hK1 => wp_region_lit (st_m (op_dfr ?_)))))
    (refine op_st S sizeOf41 (.t rfl) Ev.c (k := 0) rfl rfl (by simp) ?_; clear S a w; intro a w S)
    refine st_nil (then_normal (hK1 _ _ (wp_ret ?_)))
    show Leaves _ _ _ _ (a.defers ++ _) _ _
    rw [S.kn.defers]
    refine leaves_cons (f := 167) (args := #[.pointer (some ⟨g1, 0, none⟩)]) (by simp) (by simp [go_sem]) ?_
    refine (idle (w0 := w0) (L := L1) g1 w (S.wd.sub (List.Sublist.refl _))).mono ?_
    rintro r u' w' ⟨rfl, rfl, W'⟩
    have S' : St 6 w0 _ _ a w' := ⟨S.kn, W'⟩
    have hres := results1 S' results137 (Rv.cell1 (k := 0) ⟨isAgg41, sizeOf41⟩ rfl rfl)
    exact ⟨_, hres, _, L1, rfl, W'.sub (List.sublist_cons_self _ _), 0, rfl, hR⟩
  · clear S
    rintro x _ ⟨L1, rfl, hR⟩ a w S
    refine then_panic ?_
    show Leaves _ _ _ _ (a.defers ++ _) _ _
    rw [S.kn.defers]
    refine leaves_cons (f := 167) (args := #[.pointer (some ⟨g1, 0, none⟩)]) (by simp) (by simp [go_sem]) ?_
    refine (caught (w0 := w0) (L := L1) g1 x w (S.wd.sub (List.Sublist.refl _))).mono ?_
    rintro r u' w' ⟨rfl, rfl, W'⟩
    have S' : St 6 w0 _ _ a w' := ⟨S.kn, W'⟩
    have hres := results1 S' results137 (Rv.cell1 (k := 0) ⟨isAgg41, sizeOf41⟩ rfl rfl)
    exact ⟨_, hres, _, L1, rfl, W'.sub (List.sublist_cons_self _ _), x, rfl, hR⟩
theorem triedW {w0 w : World} {L : List Chunk} {g cap k : Nat} {A : Option Addr} {b : List UInt8} {f : FuncId} {cs : List Value} {R : List Chunk → Prop} {E : Int → List Chunk → Prop} (W : Wd w0 (rdr g A cap b k L) w) (hf : ∀ args w, (callFunc f args).run Tryz.prog w = .ok (.enter f args) w)
    (hc : ∀ C w1, Wd w0 (C :: rdr g A cap b k L) w1 → RetsP Tryz.prog f cs.toArray 41 w0 w1 (fun v L' => v = .tuple #[] ∧ ∃ k' L'', L' = C :: rdr g A cap b k' L'' ∧ R (rdr g A cap b k' L'')) (fun x L' => x ≠ 0 ∧ ∃ k' L'', L' = C :: rdr g A cap b k' L'' ∧ E x (rdr g A cap b k L''))) :
    RetsO Tryz.prog 114 #[.pointer (some ⟨g, 0, none⟩), .func (.func f) #[] cs.toArray] w0 w fun v L' => ∃ x, v = .int .i64 x ∧ (x = 0 ∧ R L' ∨ x ≠ 0 ∧ E x L') := by
  unfold Go.Fw.RetsO
  refine enterW2 W func114 rfl ntmps114 rfl fun a S => sg S (.ac rfl <| .z) fun a w S => wp_seq_k fun _ hK1 => sg S (.mv rfl <| .xx (ys_call call120 (.cons (.t rfl) .nil) (fun hp w W => c120 _ _ (by exact Wd.cell W (k := 0) rfl rfl))) rfl <| .nt rfl <| .z) fun a w S => st_else S (.t rfl) (wp_skip (then_normal (hK1 _ _ (sg S (.mv rfl <| .yy (ys_nilc (.t rfl)) rfl <| .fa underlying144 sizeOf3 1 rfl rfl rfl <| .ld gt3 0 rfl rfl rfl <| .as rfl <| .z) fun a w S => wp_seq_k fun _ hK1 => wp_region_lit (run S (.mv rfl <| .z) fun a w S => ?_)))))
  refine st_m (op_callO S call137 (.cons (.t rfl) .nil) (tryW (R := fun x L' => ∃ k' L'', L' = rdr g A cap b k' L'' ∧ (x = 0 ∧ R L' ∨ x ≠ 0 ∧ E x (rdr g A cap b k L''))) S.wd hf fun C w1 W1 => (hc C w1 W1).mono ?_) rfl ?_)
  · intro e w' h
    rcases h with ⟨v, L', rfl, hw, rfl, k', L'', rfl, hR⟩ | ⟨x, L', rfl, hw, hx, k', L'', rfl, hE⟩
    · exact .inl ⟨_, _, rfl, hw, _, rfl, rfl, k', L'', rfl, .inl ⟨rfl, hR⟩⟩
    · exact .inr ⟨_, _, rfl, hw, _, rfl, k', L'', rfl, .inr ⟨hx, hE⟩⟩
  clear S
  rintro _ _ ⟨x, rfl, k', L'', rfl, hh⟩ a w S
  rcases hh with ⟨rfl, hR⟩ | ⟨hx, hE⟩
  · refine run S (.as rfl <| .z) fun a w S => st_nil (then_normal (hK1 _ _ (wp_seq_k fun _ hK1 => sg S (.mv rfl <| .yy (ys_F (by omega) (ys_neq (.t rfl) Ev.c)) rfl <| .z) fun a w S => st_else S (.t rfl) (wp_skip (then_normal (hK1 _ _ (sg S (.mv rfl <| .as rfl <| .z) fun a w S => wp_ret (st_ret S (results1 S results114 (Rv.tmp rfl)) ?_))))))))
    exact ⟨_, _, rfl, S.wd, _, rfl, .inl ⟨rfl, hR⟩⟩
  · refine run S (.as rfl <| .z) fun a w S => st_nil (then_normal (hK1 _ _ (wp_seq_k fun _ hK1 => sg S (.mv rfl <| .yy (ys_T (by omega) (ys_neq (.t rfl) Ev.c)) rfl <| .z) fun a w S => st_then S (.t rfl) (wp_region_lit (run S (.mv rfl <| .mv rfl <| .yy (ys_nilc (.t rfl)) rfl <| .fa underlying144 sizeOf3 1 rfl rfl rfl <| .z) fun a w S => st_m (op_st S sizeOf3 (.t rfl) (.t rfl) (k := 0) rfl rfl (by simp) fun a w S => st_nil (then_normal (hK1 _ _ (sg S (.mv rfl <| .as rfl <| .z) fun a w S => wp_ret (st_ret S (results1 S results114 (Rv.tmp rfl)) ?_))))))))))
    exact ⟨_, _, rfl, S.wd, _, rfl, .inr ⟨hx, hE⟩⟩
theorem q115 {w0 w : World} {L : List Chunk} {g g1 g2 cap k : Nat} {A : Option Addr} {b : List UInt8} {z : Int} (W : Wd w0 (rdr g A cap b k (.blk g1 (.cells #[.pointer (some ⟨g, 0, none⟩)] 92) :: .blk g2 (.cells #[.int .i64 z] 3) :: L)) w) (hk : k ≤ b.length) (hb : b.length ≤ 16777216) :
    RetsP Tryz.prog 115 #[.pointer (some ⟨g1, 0, none⟩), .pointer (some ⟨g2, 0, none⟩)] 41 w0 w (fun v L' => (numR 0 0 (b.drop k)).2.2 = 0 ∧ v = .tuple #[] ∧ L' = rdr g A cap b (k + (numR 0 0 (b.drop k)).2.1) (.blk g1 (.cells #[.pointer (some ⟨g, 0, none⟩)] 92) :: .blk g2 (.cells #[.int .i64 (numR 0 0 (b.drop k)).1] 3) :: L))
      (fun x L' => x = (numR 0 0 (b.drop k)).2.2 ∧ x ≠ 0 ∧ L' = rdr g A cap b k (.blk g1 (.cells #[.pointer (some ⟨g, 0, none⟩)] 92) :: .blk g2 (.cells #[.int .i64 z] 3) :: L)) := by
  unfold Go.Fw.RetsP
  refine enterW2 W func115 rfl ntmps115 rfl fun a S => wp_region_lit (run S (.ld gt92 2 rfl rfl rfl <| .z) fun a w S => ?_)
  (refine st_m (op_callRP S call116 (.cons (.t rfl) .nil) (c116 S.wd (by first | assumption | omega | (dsimp only; omega) | exact Sl.nil_ | exact .old S.wd (by assumption) | exact Sl.of_own S.wd (k := 0) rfl (fun _ => rfl) | exact Sl.of_own S.wd (k := 1) rfl (fun _ => rfl) | exact Sl.of_own S.wd (k := 2) rfl (fun _ => rfl) | exact Sl.of_own S.wd (k := 3) rfl (fun _ => rfl) | (simp at *; omega)) (by first | assumption | omega | (dsimp only; omega) | exact Sl.nil_ | exact .old S.wd (by assumption) | exact Sl.of_own S.wd (k := 0) rfl (fun _ => rfl) | exact Sl.of_own S.wd (k := 1) rfl (fun _ => rfl) | exact Sl.of_own S.wd (k := 2) rfl (fun _ => rfl) | exact Sl.of_own S.wd (k := 3) rfl (fun _ => rfl) | (simp at *; omega))) rfl ?_ ?_) <;> clear S a w)
  rintro _ _ ⟨hr1, rfl, rfl⟩ a w S
  refine st_m (op_st S sizeOf3 (.t rfl) (.t rfl) (k := 3) rfl rfl (by simp) fun a w S => st_nil (st_end S (results0 results115) ?_))
  rotate_left
  rintro _ _ ⟨rfl, hr1, rfl⟩ a w S
  refine post_panic S ?_
  rotate_left
  · exact .inl ⟨_, _, rfl, S.wd, hr1, rfl, rfl⟩
  · exact .inr ⟨_, _, rfl, S.wd, rfl, hr1, rfl⟩
theorem u57 {w0 w : World} {L : List Chunk} {g cap k : Nat} {A : Option Addr} {b : List UInt8} (W : Wd w0 (rdr g A cap b k L) w) (hk : k ≤ b.length) (hb : b.length ≤ 16777216) :
    RetsO Tryz.prog 57 #[.pointer (some ⟨g, 0, none⟩)] w0 w (fun v L' => v = .tuple #[.int .i64 (numR 0 0 (b.drop k)).1, .int .i64 (numR 0 0 (b.drop k)).2.2] ∧ L' = rdr g A cap b (k + (numR 0 0 (b.drop k)).2.1) L) := by
  unfold Go.Fw.RetsO
  refine enterW1 W func57 rfl ntmps57 rfl fun a S => wp_seq_k fun _ hK1 => wp_region_lit (st_m (op_box1 S (.t rfl) rfl rfl fun g1 a w S => run S (.ac rfl <| .ac rfl <| .z) fun a w S => st_nil (then_normal (hK1 _ _ (wp_seq_k fun _ hK1 => wp_region_lit (st_m (op_alloc S zeroValue3 (cs := _) rfl rfl fun g2 a w S => st_m (op_st S sizeOf3 (.t rfl) Ev.c (k := 0) rfl rfl (by simp) fun a w S => st_nil (then_normal (hK1 _ _ (wp_seq_k fun _ hK1 => wp_region_lit (run S (.ld gt92 1 rfl rfl rfl <| .yy (ys_mkFunc (.cons (.t rfl) (.cons (.t rfl) .nil))) rfl <| .z) fun a w S => ?_))))))))))))
  have W2 := S.wd.picks (L' := rdr g A cap b k (.blk g1 (.cells #[.pointer (some ⟨g, 0, none⟩)] 92) :: .blk g2 (.cells #[.int .i64 0] 3) :: L)) (by repeat (first | exact Picks.nil | (refine Picks.rest ?_; (repeat (first | exact List.Sublist.refl _ | refine List.Sublist.cons_cons _ ?_ | refine List.Sublist.cons _ ?_)); done) | refine Picks.take 0 rfl ?_ | refine Picks.take 1 rfl ?_ | refine Picks.take 2 rfl ?_ | refine Picks.take 3 rfl ?_ | refine Picks.take 4 rfl ?_ | refine Picks.take 5 rfl ?_ | refine Picks.take 6 rfl ?_ | refine Picks.take 7 rfl ?_ | refine Picks.take 8 rfl ?_ | refine Picks.take 9 rfl ?_ | refine Picks.take 10 rfl ?_ | refine Picks.take 11 rfl ?_))
  replace S := St.mk S.kn W2
  refine st_m (op_callO S call114 (.cons (.t rfl) (.cons (.t rfl) .nil)) (triedW (f := 115) (cs := [.pointer (some ⟨g1, 0, none⟩), .pointer (some ⟨g2, 0, none⟩)])
    (R := fun L' => (numR 0 0 (b.drop k)).2.2 = 0 ∧ L' = rdr g A cap b (k + (numR 0 0 (b.drop k)).2.1) (.blk g1 (.cells #[.pointer (some ⟨g, 0, none⟩)] 92) :: .blk g2 (.cells #[.int .i64 (numR 0 0 (b.drop k)).1] 3) :: L))
    (E := fun x L' => x = (numR 0 0 (b.drop k)).2.2 ∧ L' = rdr g A cap b k (.blk g1 (.cells #[.pointer (some ⟨g, 0, none⟩)] 92) :: .blk g2 (.cells #[.int .i64 0] 3) :: L))
    S.wd call115 fun C w1 W1 => Calls.mono (q115 (L := C :: L) (W1.pk) hk hb) ?_) rfl ?_)
  · intro e w' h
    rcases h with ⟨v, L', rfl, hw, h1, rfl, rfl⟩ | ⟨x, L', rfl, hw, rfl, h1, rfl⟩
    · exact .inl ⟨_, _, rfl, hw.picks (L' := C :: rdr g A cap b (k + (numR 0 0 (b.drop k)).2.1) (.blk g1 (.cells #[.pointer (some ⟨g, 0, none⟩)] 92) :: .blk g2 (.cells #[.int .i64 (numR 0 0 (b.drop k)).1] 3) :: L)) (by repeat (first | exact Picks.nil | (refine Picks.rest ?_; (repeat (first | exact List.Sublist.refl _ | refine List.Sublist.cons_cons _ ?_ | refine List.Sublist.cons _ ?_)); done) | refine Picks.take 0 rfl ?_ | refine Picks.take 1 rfl ?_ | refine Picks.take 2 rfl ?_ | refine Picks.take 3 rfl ?_ | refine Picks.take 4 rfl ?_ | refine Picks.take 5 rfl ?_ | refine Picks.take 6 rfl ?_ | refine Picks.take 7 rfl ?_ | refine Picks.take 8 rfl ?_ | refine Picks.take 9 rfl ?_ | refine Picks.take 10 rfl ?_ | refine Picks.take 11 rfl ?_)), rfl, _, _, rfl, h1, rfl⟩
    · exact .inr ⟨_, _, rfl, hw.picks (L' := C :: rdr g A cap b k (.blk g1 (.cells #[.pointer (some ⟨g, 0, none⟩)] 92) :: .blk g2 (.cells #[.int .i64 0] 3) :: L)) (by repeat (first | exact Picks.nil | (refine Picks.rest ?_; (repeat (first | exact List.Sublist.refl _ | refine List.Sublist.cons_cons _ ?_ | refine List.Sublist.cons _ ?_)); done) | refine Picks.take 0 rfl ?_ | refine Picks.take 1 rfl ?_ | refine Picks.take 2 rfl ?_ | refine Picks.take 3 rfl ?_ | refine Picks.take 4 rfl ?_ | refine Picks.take 5 rfl ?_ | refine Picks.take 6 rfl ?_ | refine Picks.take 7 rfl ?_ | refine Picks.take 8 rfl ?_ | refine Picks.take 9 rfl ?_ | refine Picks.take 10 rfl ?_ | refine Picks.take 11 rfl ?_)), h1, _, _, rfl, rfl, rfl⟩
  clear S W2
  rintro _ _ ⟨x, rfl, h⟩ a w S
  rcases h with ⟨rfl, h1, rfl⟩ | ⟨hx, rfl, rfl⟩
  · refine run S (.as rfl <| .z) fun a w S => st_nil (then_normal (hK1 _ _ (sg S (.ld gt3 3 rfl rfl rfl <| .mv rfl <| .as rfl <| .as rfl <| .z) fun a w S => wp_ret (st_ret S (results2 S results57 (Rv.tmp rfl) (Rv.tmp rfl)) ?_))))
    rw [h1]
    exact ⟨_, _, rfl, S.wd.picks (L' := rdr g A cap b (k + (numR 0 0 (b.drop k)).2.1) L) (by repeat (first | exact Picks.nil | (refine Picks.rest ?_; (repeat (first | exact List.Sublist.refl _ | refine List.Sublist.cons_cons _ ?_ | refine List.Sublist.cons _ ?_)); done) | refine Picks.take 0 rfl ?_ | refine Picks.take 1 rfl ?_ | refine Picks.take 2 rfl ?_ | refine Picks.take 3 rfl ?_ | refine Picks.take 4 rfl ?_ | refine Picks.take 5 rfl ?_ | refine Picks.take 6 rfl ?_ | refine Picks.take 7 rfl ?_ | refine Picks.take 8 rfl ?_ | refine Picks.take 9 rfl ?_ | refine Picks.take 10 rfl ?_ | refine Picks.take 11 rfl ?_)), rfl, rfl⟩
  · refine run S (.as rfl <| .z) fun a w S => st_nil (then_normal (hK1 _ _ (sg S (.ld gt3 3 rfl rfl rfl <| .mv rfl <| .as rfl <| .as rfl <| .z) fun a w S => wp_ret (st_ret S (results2 S results57 (Rv.tmp rfl) (Rv.tmp rfl)) ?_))))
    have hz := numR_bad hx
    rw [hz.1, hz.2, Nat.add_zero]
    exact ⟨_, _, rfl, S.wd.picks (L' := rdr g A cap b k L) (by repeat (first | exact Picks.nil | (refine Picks.rest ?_; (repeat (first | exact List.Sublist.refl _ | refine List.Sublist.cons_cons _ ?_ | refine List.Sublist.cons _ ?_)); done) | refine Picks.take 0 rfl ?_ | refine Picks.take 1 rfl ?_ | refine Picks.take 2 rfl ?_ | refine Picks.take 3 rfl ?_ | refine Picks.take 4 rfl ?_ | refine Picks.take 5 rfl ?_ | refine Picks.take 6 rfl ?_ | refine Picks.take 7 rfl ?_ | refine Picks.take 8 rfl ?_ | refine Picks.take 9 rfl ?_ | refine Picks.take 10 rfl ?_ | refine Picks.take 11 rfl ?_)), rfl, rfl⟩
theorem c57 {w0 w : World} {L : List Chunk} {g cap k : Nat} {A : Option Addr} {b : List UInt8} (W : Wd w0 (rdr g A cap b k L) w) (hk : k ≤ b.length) (hb : b.length ≤ 16777216) :
    RetsO Tryz.prog 57 #[.pointer (some ⟨g, 0, none⟩)] w0 w (fun v L' => v = .tuple #[.int .i64 (numAt b k).1, .int .i64 (numAt b k).2.2] ∧ L' = rdr g A cap b (numAt b k).2.1 L) := u57 W hk hb
theorem q162 {w0 w : World} {L : List Chunk} {g g1 g2 cap k : Nat} {A : Option Addr} {b : List UInt8} {z : Int} (W : Wd w0 (rdr g A cap b k (.blk g1 (.cells #[.pointer (some ⟨g, 0, none⟩)] 92) :: .blk g2 (.cells #[.int .i64 z] 3) :: L)) w) (hk : k ≤ b.length) (hb : b.length ≤ 16777216) :
    RetsP Tryz.prog 162 #[.pointer (some ⟨g1, 0, none⟩), .pointer (some ⟨g2, 0, none⟩)] 41 w0 w (fun v L' => ∃ x : UInt8, b[k]? = some x ∧ v = .tuple #[] ∧ L' = rdr g A cap b (k + 1) (.blk g1 (.cells #[.pointer (some ⟨g, 0, none⟩)] 92) :: .blk g2 (.cells #[.int .i64 (x.toNat : Int)] 3) :: L))
      (fun x L' => x = 2 ∧ k = b.length ∧ L' = rdr g A cap b k (.blk g1 (.cells #[.pointer (some ⟨g, 0, none⟩)] 92) :: .blk g2 (.cells #[.int .i64 z] 3) :: L)) := by
  by_cases hlt : k < b.length
  · obtain ⟨x, hx⟩ : ∃ x, b[k]? = some x := ⟨b[k], by simp⟩
    have hd : (b.drop k).take 1 = [x] := by
      obtain ⟨h, rfl⟩ := List.getElem?_eq_some_iff.1 hx
      rw [List.drop_eq_getElem_cons h]; rfl
    have rw_d := hd
    unfold Go.Fw.RetsP
    refine enterW2 W func162 rfl ntmps162 rfl fun a S => wp_seq_k fun _ hK1 => sg S (.ld gt92 2 rfl rfl rfl <| .xx (ys_call call121 (.cons (.t rfl) .nil) (fun hp w W => c121 _ _ _ _ _ _ (by exact Wd.cell W (k := 0) rfl rfl) (by exact Wd.cell W (k := 0) rfl rfl) (by exact Wd.cell W (k := 0) rfl rfl) (by assumption) (by assumption))) rfl <| .yy (ys_F (by omega) (ys_eql (.t rfl) Ev.c)) rfl <| .z) fun a w S => st_else S (.t rfl) (wp_skip (then_normal (hK1 _ _ (wp_region_lit (run S (.ld gt92 2 rfl rfl rfl <| .z) fun a w S => ?_)))))
    (refine st_m (op_callO S call140 (.cons (.t rfl) (.cons Ev.c .nil)) (c140 S.wd _ (by first | assumption | omega | (dsimp only; omega) | exact Sl.nil_ | exact .old S.wd (by assumption) | exact Sl.of_own S.wd (k := 0) rfl (fun _ => rfl) | exact Sl.of_own S.wd (k := 1) rfl (fun _ => rfl) | exact Sl.of_own S.wd (k := 2) rfl (fun _ => rfl) | exact Sl.of_own S.wd (k := 3) rfl (fun _ => rfl) | (simp at *; omega)) (by first | assumption | omega | (dsimp only; omega) | exact Sl.nil_ | exact .old S.wd (by assumption) | exact Sl.of_own S.wd (k := 0) rfl (fun _ => rfl) | exact Sl.of_own S.wd (k := 1) rfl (fun _ => rfl) | exact Sl.of_own S.wd (k := 2) rfl (fun _ => rfl) | exact Sl.of_own S.wd (k := 3) rfl (fun _ => rfl) | (simp at *; omega))) rfl ?_) <;> clear S a w)
    rintro _ _ ⟨A11, c11, rfl, rfl⟩ a w S
    rw [rw_d] at S
    obtain ⟨ga, rfl⟩ := S.wd.row_at (k := 2) rfl (by have := (S.wd.room (k := 2) rfl).1; simp at this; omega)
    have hq : ([x] : List UInt8)[0]? = some x := rfl
    simp only [List.length_singleton] at S
    have hx8 : x.toNat < 256 := x.toNat_lt
    refine run S (.yy (ys_ixS (j := 0) underlying28 sizeOf5 (.t rfl) Ev.c (fun _ => by omega)) rfl <| .yy (ys_ldW ⟨isAgg5, sizeOf5⟩ (.t rfl) (k := 2) rfl hq (fun _ => rfl) rfl) rfl <| .yy (ys_cvI underlying5 underlying3 (.t rfl) (fun _ => by unfold I64; omega)) rfl <| .z) fun a w S => st_m (op_st S sizeOf3 (.t rfl) (.t rfl) (k := 4) rfl rfl (by simp) fun a w S => st_nil (st_end S (results0 results162) ?_))
    exact .inl ⟨_, _, rfl, S.wd.picks (L' := rdr g A cap b (k + 1) (.blk g1 (.cells #[.pointer (some ⟨g, 0, none⟩)] 92) :: .blk g2 (.cells #[.int .i64 (x.toNat : Int)] 3) :: L)) (by repeat (first | exact Picks.nil | (refine Picks.rest ?_; (repeat (first | exact List.Sublist.refl _ | refine List.Sublist.cons_cons _ ?_ | refine List.Sublist.cons _ ?_)); done) | refine Picks.take 0 rfl ?_ | refine Picks.take 1 rfl ?_ | refine Picks.take 2 rfl ?_ | refine Picks.take 3 rfl ?_ | refine Picks.take 4 rfl ?_ | refine Picks.take 5 rfl ?_ | refine Picks.take 6 rfl ?_ | refine Picks.take 7 rfl ?_ | refine Picks.take 8 rfl ?_ | refine Picks.take 9 rfl ?_ | refine Picks.take 10 rfl ?_ | refine Picks.take 11 rfl ?_)), x, hx, rfl, rfl⟩
  · unfold Go.Fw.RetsP
    refine enterW2 W func162 rfl ntmps162 rfl fun a S => wp_seq_k fun _ hK1 => sg S (.ld gt92 2 rfl rfl rfl <| .xx (ys_call call121 (.cons (.t rfl) .nil) (fun hp w W => c121 _ _ _ _ _ _ (by exact Wd.cell W (k := 0) rfl rfl) (by exact Wd.cell W (k := 0) rfl rfl) (by exact Wd.cell W (k := 0) rfl rfl) (by assumption) (by assumption))) rfl <| .yy (ys_T (by omega) (ys_eql (.t rfl) Ev.c)) rfl <| .z) fun a w S => st_then S (.t rfl) (wp_region_lit ?_)
    (refine st_m (op_callRP S call139 (.cons Ev.c .nil) (c139 S.wd _) rfl ?_ ?_) <;> clear S a w)
    (intro _ _ h; exact h.elim)
    rintro _ _ ⟨rfl, rfl⟩ a w S
    refine then_panic ?_
    refine post_panic S ?_
    have : k = b.length := by omega
    exact .inr ⟨_, _, rfl, S.wd, rfl, this, rfl⟩
theorem c118 {w0 w : World} {L : List Chunk} {g cap k : Nat} {A : Option Addr} {b : List UInt8} (W : Wd w0 (rdr g A cap b k L) w) (hk : k ≤ b.length) (hb : b.length ≤ 16777216) :
    RetsO Tryz.prog 118 #[.pointer (some ⟨g, 0, none⟩)] w0 w (fun v L' => v = .tuple #[.int .i64 (byteR b k).1, .int .i64 (byteR b k).2.2] ∧ L' = rdr g A cap b (k + (byteR b k).2.1) L) := by
  unfold Go.Fw.RetsO
  refine enterW1 W func118 rfl ntmps118 rfl fun a S => wp_seq_k fun _ hK1 => wp_region_lit (st_m (op_box1 S (.t rfl) rfl rfl fun g1 a w S => run S (.ac rfl <| .ac rfl <| .z) fun a w S => st_nil (then_normal (hK1 _ _ (wp_seq_k fun _ hK1 => wp_region_lit (st_m (op_alloc S zeroValue3 (cs := _) rfl rfl fun g2 a w S => st_m (op_st S sizeOf3 (.t rfl) Ev.c (k := 0) rfl rfl (by simp) fun a w S => st_nil (then_normal (hK1 _ _ (wp_seq_k fun _ hK1 => wp_region_lit (run S (.ld gt92 1 rfl rfl rfl <| .yy (ys_mkFunc (.cons (.t rfl) (.cons (.t rfl) .nil))) rfl <| .z) fun a w S => ?_))))))))))))
  have W2 := S.wd.picks (L' := rdr g A cap b k (.blk g1 (.cells #[.pointer (some ⟨g, 0, none⟩)] 92) :: .blk g2 (.cells #[.int .i64 0] 3) :: L)) (by repeat (first | exact Picks.nil | (refine Picks.rest ?_; (repeat (first | exact List.Sublist.refl _ | refine List.Sublist.cons_cons _ ?_ | refine List.Sublist.cons _ ?_)); done) | refine Picks.take 0 rfl ?_ | refine Picks.take 1 rfl ?_ | refine Picks.take 2 rfl ?_ | refine Picks.take 3 rfl ?_ | refine Picks.take 4 rfl ?_ | refine Picks.take 5 rfl ?_ | refine Picks.take 6 rfl ?_ | refine Picks.take 7 rfl ?_ | refine Picks.take 8 rfl ?_ | refine Picks.take 9 rfl ?_ | refine Picks.take 10 rfl ?_ | refine Picks.take 11 rfl ?_))
  replace S := St.mk S.kn W2
  refine st_m (op_callO S call114 (.cons (.t rfl) (.cons (.t rfl) .nil)) (triedW (f := 162) (cs := [.pointer (some ⟨g1, 0, none⟩), .pointer (some ⟨g2, 0, none⟩)])
    (R := fun L' => ∃ x : UInt8, b[k]? = some x ∧ L' = rdr g A cap b (k + 1) (.blk g1 (.cells #[.pointer (some ⟨g, 0, none⟩)] 92) :: .blk g2 (.cells #[.int .i64 (x.toNat : Int)] 3) :: L))
    (E := fun x L' => x = 2 ∧ k = b.length ∧ L' = rdr g A cap b k (.blk g1 (.cells #[.pointer (some ⟨g, 0, none⟩)] 92) :: .blk g2 (.cells #[.int .i64 0] 3) :: L))
    S.wd call162 fun C w1 W1 => Calls.mono (q162 (L := C :: L) (W1.pk) hk hb) ?_) rfl ?_)
  · intro e w' h
    rcases h with ⟨v, L', rfl, hw, x, h1, rfl, rfl⟩ | ⟨x, L', rfl, hw, rfl, h1, rfl⟩
    · exact .inl ⟨_, _, rfl, hw.picks (L' := C :: rdr g A cap b (k + 1) (.blk g1 (.cells #[.pointer (some ⟨g, 0, none⟩)] 92) :: .blk g2 (.cells #[.int .i64 (x.toNat : Int)] 3) :: L)) (by repeat (first | exact Picks.nil | (refine Picks.rest ?_; (repeat (first | exact List.Sublist.refl _ | refine List.Sublist.cons_cons _ ?_ | refine List.Sublist.cons _ ?_)); done) | refine Picks.take 0 rfl ?_ | refine Picks.take 1 rfl ?_ | refine Picks.take 2 rfl ?_ | refine Picks.take 3 rfl ?_ | refine Picks.take 4 rfl ?_ | refine Picks.take 5 rfl ?_ | refine Picks.take 6 rfl ?_ | refine Picks.take 7 rfl ?_ | refine Picks.take 8 rfl ?_ | refine Picks.take 9 rfl ?_ | refine Picks.take 10 rfl ?_ | refine Picks.take 11 rfl ?_)), rfl, _, _, rfl, x, h1, rfl⟩
    · exact .inr ⟨_, _, rfl, hw.picks (L' := C :: rdr g A cap b k (.blk g1 (.cells #[.pointer (some ⟨g, 0, none⟩)] 92) :: .blk g2 (.cells #[.int .i64 0] 3) :: L)) (by repeat (first | exact Picks.nil | (refine Picks.rest ?_; (repeat (first | exact List.Sublist.refl _ | refine List.Sublist.cons_cons _ ?_ | refine List.Sublist.cons _ ?_)); done) | refine Picks.take 0 rfl ?_ | refine Picks.take 1 rfl ?_ | refine Picks.take 2 rfl ?_ | refine Picks.take 3 rfl ?_ | refine Picks.take 4 rfl ?_ | refine Picks.take 5 rfl ?_ | refine Picks.take 6 rfl ?_ | refine Picks.take 7 rfl ?_ | refine Picks.take 8 rfl ?_ | refine Picks.take 9 rfl ?_ | refine Picks.take 10 rfl ?_ | refine Picks.take 11 rfl ?_)), by decide, _, _, rfl, rfl, h1, rfl⟩
  clear S W2
  rintro _ _ ⟨x, rfl, h⟩ a w S
  rcases h with ⟨rfl, x, h1, rfl⟩ | ⟨hx, rfl, h1, rfl⟩
  · refine run S (.as rfl <| .z) fun a w S => st_nil (then_normal (hK1 _ _ (sg S (.ld gt3 3 rfl rfl rfl <| .mv rfl <| .as rfl <| .as rfl <| .z) fun a w S => wp_ret (st_ret S (results2 S results118 (Rv.tmp rfl) (Rv.tmp rfl)) ?_))))
    rw [byteR_some h1]
    exact ⟨_, _, rfl, S.wd.picks (L' := rdr g A cap b (k + 1) L) (by repeat (first | exact Picks.nil | (refine Picks.rest ?_; (repeat (first | exact List.Sublist.refl _ | refine List.Sublist.cons_cons _ ?_ | refine List.Sublist.cons _ ?_)); done) | refine Picks.take 0 rfl ?_ | refine Picks.take 1 rfl ?_ | refine Picks.take 2 rfl ?_ | refine Picks.take 3 rfl ?_ | refine Picks.take 4 rfl ?_ | refine Picks.take 5 rfl ?_ | refine Picks.take 6 rfl ?_ | refine Picks.take 7 rfl ?_ | refine Picks.take 8 rfl ?_ | refine Picks.take 9 rfl ?_ | refine Picks.take 10 rfl ?_ | refine Picks.take 11 rfl ?_)), rfl, rfl⟩
  · refine run S (.as rfl <| .z) fun a w S => st_nil (then_normal (hK1 _ _ (sg S (.ld gt3 3 rfl rfl rfl <| .mv rfl <| .as rfl <| .as rfl <| .z) fun a w S => wp_ret (st_ret S (results2 S results118 (Rv.tmp rfl) (Rv.tmp rfl)) ?_))))
    rw [byteR_none h1]
    exact ⟨_, _, rfl, S.wd.picks (L' := rdr g A cap b k L) (by repeat (first | exact Picks.nil | (refine Picks.rest ?_; (repeat (first | exact List.Sublist.refl _ | refine List.Sublist.cons_cons _ ?_ | refine List.Sublist.cons _ ?_)); done) | refine Picks.take 0 rfl ?_ | refine Picks.take 1 rfl ?_ | refine Picks.take 2 rfl ?_ | refine Picks.take 3 rfl ?_ | refine Picks.take 4 rfl ?_ | refine Picks.take 5 rfl ?_ | refine Picks.take 6 rfl ?_ | refine Picks.take 7 rfl ?_ | refine Picks.take 8 rfl ?_ | refine Picks.take 9 rfl ?_ | refine Picks.take 10 rfl ?_ | refine Picks.take 11 rfl ?_)), rfl, rfl⟩
end Go.Proofs.YtfblmkocmnbdcaaGreat
