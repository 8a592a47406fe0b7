/- Contracts and laws that the statement Adb leans on, part 5. -/
import Derived.Test.YtakpdbmdfnialaaGreatAdbK4
set_option linter.unusedVariables false
set_option linter.unusedSimpArgs false
set_option maxRecDepth 100000
set_option maxHeartbeats 4000000
namespace Go.Fw
def lenC3 (c : Cart) : Prop := c.ents.length ≤ 1048576 ∧ c.ctx.marks.length ≤ 1048576 ∧ c.ctx.cloud.length ≤ 1048576
def SLog.at3 (x : SLog) (s1 s2 s3 : Sls3) : SLog := ⟨x.kind, x.at_, x.ask, (x.u.1, s1), x.an, x.al, x.key, (x.s.1, s2), (x.c.1, s3)⟩
theorem lay_upd (x : SLog) (v1 v2 v3 : Value) : lay (SLog.enc x) 3 (Upd.enc x.u.1 v1 v2 v3) = [.int .i64 x.kind, .int .i64 x.at_, .int .i64 x.ask, .string (bs x.u.1.key), .int .i64 x.u.1.dot.node, .int .i64 x.u.1.dot.life, .int .i64 x.u.1.dot.count, .string (bs x.u.1.item), .int .i64 x.u.1.qty, .int .u64 (x.u.1.price.toNat : Int), v1, v2, v3, .int .i64 x.an, .int .i64 x.al, .string (bs x.key), .slice x.s.2.a1 x.s.2.n1 x.s.2.c1, .slice x.s.2.a2 x.s.2.n2 x.s.2.c2, .slice x.s.2.a3 x.s.2.n3 x.s.2.c3, .slice x.c.2.a1 x.c.2.n1 x.c.2.c1, .slice x.c.2.a2 x.c.2.n2 x.c.2.c2, .slice x.c.2.a3 x.c.2.n3 x.c.2.c3] := rfl
theorem lay_16 (a0 a1 a2 a3 a4 a5 a6 a7 a8 a9 a10 a11 a12 a13 a14 a15 a16 a17 a18 a19 a20 a21 b0 b1 b2 : Value) : lay [a0, a1, a2, a3, a4, a5, a6, a7, a8, a9, a10, a11, a12, a13, a14, a15, a16, a17, a18, a19, a20, a21] 16 [b0, b1, b2] = [a0, a1, a2, a3, a4, a5, a6, a7, a8, a9, a10, a11, a12, a13, a14, a15, b0, b1, b2, a19, a20, a21] := rfl
theorem lay_19 (a0 a1 a2 a3 a4 a5 a6 a7 a8 a9 a10 a11 a12 a13 a14 a15 a16 a17 a18 a19 a20 a21 b0 b1 b2 : Value) : lay [a0, a1, a2, a3, a4, a5, a6, a7, a8, a9, a10, a11, a12, a13, a14, a15, a16, a17, a18, a19, a20, a21] 19 [b0, b1, b2] = [a0, a1, a2, a3, a4, a5, a6, a7, a8, a9, a10, a11, a12, a13, a14, a15, a16, a17, a18, b0, b1, b2] := rfl
end Go.Fw
namespace Go.Proofs.YtakpdbmdfnialaaGreat
open Go.Fw Go.Proofs Go.RowKit Go.Proofs.Tryz
theorem c117 (w0 : World) (x : SLog) (h : LogRd w0 x) (hb : lenC3 x.u.1.seen ∧ lenC3 x.s.1 ∧ lenC3 x.c.1) :
    Rets Tryz.prog 117 #[.agg (SLog.enc x).toArray] w0 fun u L => ∃ A1 r1 A2 r2 A3 r3 B1 q1 B2 q2 B3 q3 C1 p1 C2 p2 C3 p3, u = .agg (SLog.enc (x.at3 ⟨A1, x.u.1.seen.ents.length, r1, A2, x.u.1.seen.ctx.marks.length, r2, A3, x.u.1.seen.ctx.cloud.length, r3⟩ ⟨B1, x.s.1.ents.length, q1, B2, x.s.1.ctx.marks.length, q2, B3, x.s.1.ctx.cloud.length, q3⟩ ⟨C1, x.c.1.ents.length, p1, C2, x.c.1.ctx.marks.length, p2, C3, x.c.1.ctx.cloud.length, p3⟩)).toArray ∧
      L = [rowOf 100 6 Ent.enc A1 r1 x.u.1.seen.ents, rowOf 30 3 Dot.enc A2 r2 x.u.1.seen.ctx.marks, rowOf 74 3 Dot.enc A3 r3 x.u.1.seen.ctx.cloud,
        rowOf 100 6 Ent.enc B1 q1 x.s.1.ents, rowOf 30 3 Dot.enc B2 q2 x.s.1.ctx.marks, rowOf 74 3 Dot.enc B3 q3 x.s.1.ctx.cloud,
        rowOf 100 6 Ent.enc C1 p1 x.c.1.ents, rowOf 30 3 Dot.enc C2 p2 x.c.1.ctx.marks, rowOf 74 3 Dot.enc C3 p3 x.c.1.ctx.cloud] := by
  have r1 := h.u.ents
  have r2 := h.u.ctx
  have r3 := h.s.ents
  have r4 := h.s.ctx
  have r5 := h.c.ents
  have r6 := h.c.ctx
  obtain ⟨⟨b1, b2, b3⟩, ⟨b4, b5, b6⟩, b7, b8, b9⟩ := hb
  have halt_d := trivial
  unfold Go.Fw.Rets
  refine enter1 func117 rfl ntmps117 rfl fun a S => wp_seq_k fun _ hK1 => wp_region_lit (st_m (op_box S (.t rfl) rfl fun g1 a w S => st_m (op_alloc S zeroValue96 (cs := _) rfl rfl fun g2 a w S => st_nil (then_normal (hK1 _ _ (wp_seq_k fun _ hK1 => ?_))))))
  clear halt_d
  refine Code.wp_mono (Q := fun e a w => match e with
    | .normal => ∃ A1 r1 A2 r2 A3 r3 B1 q1 B2 q2 B3 q3 C1 p1 C2 p2 C3 p3, St 16 w0 [(2, true, .pointer (some ⟨g2, 0, none⟩)), (1, true, .pointer (some ⟨g1, 0, none⟩))] [rowOf 100 6 Ent.enc A1 r1 x.u.1.seen.ents, rowOf 30 3 Dot.enc A2 r2 x.u.1.seen.ctx.marks, rowOf 74 3 Dot.enc A3 r3 x.u.1.seen.ctx.cloud, rowOf 100 6 Ent.enc B1 q1 x.s.1.ents, rowOf 30 3 Dot.enc B2 q2 x.s.1.ctx.marks, rowOf 74 3 Dot.enc B3 q3 x.s.1.ctx.cloud, rowOf 100 6 Ent.enc C1 p1 x.c.1.ents, rowOf 30 3 Dot.enc C2 p2 x.c.1.ctx.marks, rowOf 74 3 Dot.enc C3 p3 x.c.1.ctx.cloud, .blk g2 (.cells #[.int .i64 0, .int .i64 0, .int .i64 0, .string { data := #[] }, .int .i64 0, .int .i64 0, .int .i64 0, .string { data := #[] }, .int .i64 0, .int .u64 0, .slice none 0 0, .slice none 0 0, .slice none 0 0, .int .i64 0, .int .i64 0, .string { data := #[] }, .slice none 0 0, .slice none 0 0, .slice none 0 0, .slice none 0 0, .slice none 0 0, .slice none 0 0] 96), .blk g1 (.cells (SLog.enc (x.at3 ⟨A1, x.u.1.seen.ents.length, r1, A2, x.u.1.seen.ctx.marks.length, r2, A3, x.u.1.seen.ctx.cloud.length, r3⟩ ⟨B1, x.s.1.ents.length, q1, B2, x.s.1.ctx.marks.length, q2, B3, x.s.1.ctx.cloud.length, q3⟩ ⟨C1, x.c.1.ents.length, p1, C2, x.c.1.ctx.marks.length, p2, C3, x.c.1.ctx.cloud.length, p3⟩)).toArray 96)] a w
    | _ => False) (fun e a w qq => ?_) ?_
  rotate_left
  · have rw_l := lay_upd x
    have rw_l2 := lay_16
    have rw_l3 := lay_19
    refine h_beginE S (by kernel_rfl) 1 fun a w S => hy 0 S rfl (ys_fieldN (FieldT.mk underlying96 rfl sizeOf77 rfl) (.t rfl) (i' := 3) rfl) rfl fun a w S => hy 3 S rfl (ys_fieldN (FieldT.mk underlying96 rfl sizeOf37 rfl) (.t rfl) (i' := 16) rfl) rfl fun a w S => hy 6 S rfl (ys_fieldN (FieldT.mk underlying96 rfl sizeOf37 rfl) (.t rfl) (i' := 19) rfl) rfl fun a w S => ?_
    refine h_split3 (i := 1) (j := 4) (k := 7) (by kernel_rfl) rfl rfl rfl ?_ ?_ ?_
    (refine op_y S (Yr.ys (ys_ldA ⟨isAgg77, sizeOf77⟩ (.t rfl) (k := 1) rfl rfl)) rfl ?_; clear S a w; intro a w S; refine h_n1 S ?_)
    refine h_split3 (i := 2) (j := 4) (k := 7) (by kernel_rfl) rfl rfl rfl ?_ ?_ ?_
    (refine op_calls S call103 (.cons (.t rfl) .nil) (c103 _ _ _ _ _ (by exact .old S.wd (by assumption)) (by exact .old S.wd (by assumption)) (by assumption) (by assumption) (by assumption)) rfl ?_; clear S a w; rintro _ _ ⟨A11, r11, A21, r21, A31, r31, rfl, rfl⟩ a w S; refine h_n1 S ?_)
    refine h_split (i := 4) (j := 7) (by kernel_rfl) rfl rfl ?_ ?_
    (refine op_y S (Yr.ys (ys_ldA ⟨isAgg37, sizeOf37⟩ (.t rfl) (k := 4) rfl rfl)) rfl ?_; clear S a w; intro a w S; refine h_n1 S ?_)
    refine h_split (i := 5) (j := 7) (by kernel_rfl) rfl rfl ?_ ?_
    (refine op_calls S call16 (.cons (.t rfl) .nil) (c16 _ _ _ _ _ (by exact .old S.wd (by assumption)) (by exact .old S.wd (by assumption)) (by assumption) (by assumption) (by assumption)) rfl ?_; clear S a w; rintro _ _ ⟨A12, r12, A22, r22, A32, r32, rfl, rfl⟩ a w S; refine h_n1 S ?_)
    refine h_q (i := 7) S (by repeat (first | exact List.Sublist.refl _ | exact List.nil_sublist _ | refine .cons_cons _ ?_ | refine .cons _ ?_)) rfl (by kernel_rfl) (Yr.ys (ys_ldA ⟨isAgg37, sizeOf37⟩ (.t rfl) (k := 7) rfl rfl)) rfl fun a w S => hy 9 S rfl (ys_fieldN (FieldT.mk underlying96 rfl sizeOf77 rfl) (.t rfl) (i' := 3) rfl) rfl fun a w S => ?_
    (refine h_m (i := 8) rfl (by kernel_rfl) (op_calls S call16 (.cons (.t rfl) .nil) (c16 _ _ _ _ _ (by exact .old S.wd (by assumption)) (by exact .old S.wd (by assumption)) (by assumption) (by assumption) (by assumption)) rfl ?_); clear S a w; rintro _ _ ⟨A13, r13, A23, r23, A33, r33, rfl, rfl⟩ a w S; refine h_n1 S ?_)
    (refine h_m0 (i := 10) rfl (by kernel_rfl) (op_stA S sizeOf77 (.t rfl) (.t rfl) (k := 10) rfl rfl (by simp [Value.oneCell']) (by simp) ?_); clear S a w; intro a w S; refine h_n1 S ?_)
    rw [rw_l] at S
    refine hy 11 S rfl (ys_fieldN (FieldT.mk underlying96 rfl sizeOf37 rfl) (.t rfl) (i' := 16) rfl) rfl fun a w S => ?_
    (refine h_m0 (i := 12) rfl (by kernel_rfl) (op_stA S sizeOf37 (.t rfl) (.t rfl) (k := 10) rfl rfl (by simp [Value.oneCell']) (by simp) ?_); clear S a w; intro a w S; refine h_n1 S ?_)
    rw [rw_l2] at S
    refine hy 13 S rfl (ys_fieldN (FieldT.mk underlying96 rfl sizeOf37 rfl) (.t rfl) (i' := 19) rfl) rfl fun a w S => ?_
    (refine h_m0 (i := 14) rfl (by kernel_rfl) (op_stA S sizeOf37 (.t rfl) (.t rfl) (k := 10) rfl rfl (by simp [Value.oneCell']) (by simp) ?_); clear S a w; intro a w S; refine h_n1 S ?_)
    rw [rw_l3] at S
    refine h_done (by kernel_rfl) ?_
    rotate_left
    (refine op_y S (Yr.ys (ys_ldA ⟨isAgg37, sizeOf37⟩ (.t rfl) (k := 4) rfl rfl)) rfl ?_; clear S a w; intro a w S; refine h_n1 S ?_)
    refine hy 9 S rfl (ys_fieldN (FieldT.mk underlying96 rfl sizeOf77 rfl) (.t rfl) (i' := 3) rfl) rfl fun a w S => ?_
    (refine h_m (i := 5) rfl (by kernel_rfl) (op_calls S call16 (.cons (.t rfl) .nil) (c16 _ _ _ _ _ (by exact .old S.wd (by assumption)) (by exact .old S.wd (by assumption)) (by assumption) (by assumption) (by assumption)) rfl ?_); clear S a w; rintro _ _ ⟨A12, r12, A22, r22, A32, r32, rfl, rfl⟩ a w S; refine h_n1 S ?_)
    (refine h_m (i := 8) rfl (by kernel_rfl) (op_calls S call16 (.cons (.t rfl) .nil) (c16 _ _ _ _ _ (by exact .old S.wd (by assumption)) (by exact .old S.wd (by assumption)) (by assumption) (by assumption) (by assumption)) rfl ?_); clear S a w; rintro _ _ ⟨A13, r13, A23, r23, A33, r33, rfl, rfl⟩ a w S; refine h_n1 S ?_)
    (refine h_m0 (i := 10) rfl (by kernel_rfl) (op_stA S sizeOf77 (.t rfl) (.t rfl) (k := 10) rfl rfl (by simp [Value.oneCell']) (by simp) ?_); clear S a w; intro a w S; refine h_n1 S ?_)
    rw [rw_l] at S
    refine hy 11 S rfl (ys_fieldN (FieldT.mk underlying96 rfl sizeOf37 rfl) (.t rfl) (i' := 16) rfl) rfl fun a w S => ?_
    (refine h_m0 (i := 12) rfl (by kernel_rfl) (op_stA S sizeOf37 (.t rfl) (.t rfl) (k := 10) rfl rfl (by simp [Value.oneCell']) (by simp) ?_); clear S a w; intro a w S; refine h_n1 S ?_)
    rw [rw_l2] at S
    refine hy 13 S rfl (ys_fieldN (FieldT.mk underlying96 rfl sizeOf37 rfl) (.t rfl) (i' := 19) rfl) rfl fun a w S => ?_
    (refine h_m0 (i := 14) rfl (by kernel_rfl) (op_stA S sizeOf37 (.t rfl) (.t rfl) (k := 10) rfl rfl (by simp [Value.oneCell']) (by simp) ?_); clear S a w; intro a w S; refine h_n1 S ?_)
    rw [rw_l3] at S
    refine h_done (by kernel_rfl) ?_
    rotate_left
    (refine op_y S (Yr.ys (ys_ldA ⟨isAgg37, sizeOf37⟩ (.t rfl) (k := 4) rfl rfl)) rfl ?_; clear S a w; intro a w S; refine h_n1 S ?_)
    refine h_q (i := 4) S (by repeat (first | exact List.Sublist.refl _ | exact List.nil_sublist _ | refine .cons_cons _ ?_ | refine .cons _ ?_)) rfl (by kernel_rfl) (Yr.ys (ys_ldA ⟨isAgg37, sizeOf37⟩ (.t rfl) (k := 4) rfl rfl)) rfl fun a w S => hy 9 S rfl (ys_fieldN (FieldT.mk underlying96 rfl sizeOf77 rfl) (.t rfl) (i' := 3) rfl) rfl fun a w S => ?_
    (refine h_m (i := 5) rfl (by kernel_rfl) (op_calls S call16 (.cons (.t rfl) .nil) (c16 _ _ _ _ _ (by exact .old S.wd (by assumption)) (by exact .old S.wd (by assumption)) (by assumption) (by assumption) (by assumption)) rfl ?_); clear S a w; rintro _ _ ⟨A12, r12, A22, r22, A32, r32, rfl, rfl⟩ a w S; refine h_n1 S ?_)
    (refine h_m (i := 8) rfl (by kernel_rfl) (op_calls S call16 (.cons (.t rfl) .nil) (c16 _ _ _ _ _ (by exact .old S.wd (by assumption)) (by exact .old S.wd (by assumption)) (by assumption) (by assumption) (by assumption)) rfl ?_); clear S a w; rintro _ _ ⟨A13, r13, A23, r23, A33, r33, rfl, rfl⟩ a w S; refine h_n1 S ?_)
    (refine h_m0 (i := 10) rfl (by kernel_rfl) (op_stA S sizeOf77 (.t rfl) (.t rfl) (k := 10) rfl rfl (by simp [Value.oneCell']) (by simp) ?_); clear S a w; intro a w S; refine h_n1 S ?_)
    rw [rw_l] at S
    refine hy 11 S rfl (ys_fieldN (FieldT.mk underlying96 rfl sizeOf37 rfl) (.t rfl) (i' := 16) rfl) rfl fun a w S => ?_
    (refine h_m0 (i := 12) rfl (by kernel_rfl) (op_stA S sizeOf37 (.t rfl) (.t rfl) (k := 10) rfl rfl (by simp [Value.oneCell']) (by simp) ?_); clear S a w; intro a w S; refine h_n1 S ?_)
    rw [rw_l2] at S
    refine hy 13 S rfl (ys_fieldN (FieldT.mk underlying96 rfl sizeOf37 rfl) (.t rfl) (i' := 19) rfl) rfl fun a w S => ?_
    (refine h_m0 (i := 14) rfl (by kernel_rfl) (op_stA S sizeOf37 (.t rfl) (.t rfl) (k := 10) rfl rfl (by simp [Value.oneCell']) (by simp) ?_); clear S a w; intro a w S; refine h_n1 S ?_)
    rw [rw_l3] at S
    refine h_done (by kernel_rfl) ?_
    rotate_left
    (refine op_y S (Yr.ys (ys_ldA ⟨isAgg37, sizeOf37⟩ (.t rfl) (k := 1) rfl rfl)) rfl ?_; clear S a w; intro a w S; refine h_n1 S ?_)
    refine h_split (i := 2) (j := 7) (by kernel_rfl) rfl rfl ?_ ?_
    (refine op_calls S call103 (.cons (.t rfl) .nil) (c103 _ _ _ _ _ (by exact .old S.wd (by assumption)) (by exact .old S.wd (by assumption)) (by assumption) (by assumption) (by assumption)) rfl ?_; clear S a w; rintro _ _ ⟨A11, r11, A21, r21, A31, r31, rfl, rfl⟩ a w S; refine h_n1 S ?_)
    refine h_split (i := 5) (j := 7) (by kernel_rfl) rfl rfl ?_ ?_
    (refine op_calls S call16 (.cons (.t rfl) .nil) (c16 _ _ _ _ _ (by exact .old S.wd (by assumption)) (by exact .old S.wd (by assumption)) (by assumption) (by assumption) (by assumption)) rfl ?_; clear S a w; rintro _ _ ⟨A12, r12, A22, r22, A32, r32, rfl, rfl⟩ a w S; refine h_n1 S ?_)
    refine h_q (i := 7) S (by repeat (first | exact List.Sublist.refl _ | exact List.nil_sublist _ | refine .cons_cons _ ?_ | refine .cons _ ?_)) rfl (by kernel_rfl) (Yr.ys (ys_ldA ⟨isAgg37, sizeOf37⟩ (.t rfl) (k := 7) rfl rfl)) rfl fun a w S => hy 9 S rfl (ys_fieldN (FieldT.mk underlying96 rfl sizeOf77 rfl) (.t rfl) (i' := 3) rfl) rfl fun a w S => ?_
    (refine h_m (i := 8) rfl (by kernel_rfl) (op_calls S call16 (.cons (.t rfl) .nil) (c16 _ _ _ _ _ (by exact .old S.wd (by assumption)) (by exact .old S.wd (by assumption)) (by assumption) (by assumption) (by assumption)) rfl ?_); clear S a w; rintro _ _ ⟨A13, r13, A23, r23, A33, r33, rfl, rfl⟩ a w S; refine h_n1 S ?_)
    (refine h_m0 (i := 10) rfl (by kernel_rfl) (op_stA S sizeOf77 (.t rfl) (.t rfl) (k := 10) rfl rfl (by simp [Value.oneCell']) (by simp) ?_); clear S a w; intro a w S; refine h_n1 S ?_)
    rw [rw_l] at S
    refine hy 11 S rfl (ys_fieldN (FieldT.mk underlying96 rfl sizeOf37 rfl) (.t rfl) (i' := 16) rfl) rfl fun a w S => ?_
    (refine h_m0 (i := 12) rfl (by kernel_rfl) (op_stA S sizeOf37 (.t rfl) (.t rfl) (k := 10) rfl rfl (by simp [Value.oneCell']) (by simp) ?_); clear S a w; intro a w S; refine h_n1 S ?_)
    rw [rw_l2] at S
    refine hy 13 S rfl (ys_fieldN (FieldT.mk underlying96 rfl sizeOf37 rfl) (.t rfl) (i' := 19) rfl) rfl fun a w S => ?_
    (refine h_m0 (i := 14) rfl (by kernel_rfl) (op_stA S sizeOf37 (.t rfl) (.t rfl) (k := 10) rfl rfl (by simp [Value.oneCell']) (by simp) ?_); clear S a w; intro a w S; refine h_n1 S ?_)
    rw [rw_l3] at S
    refine h_done (by kernel_rfl) ?_
    rotate_left
    (refine op_y S (Yr.ys (ys_ldA ⟨isAgg37, sizeOf37⟩ (.t rfl) (k := 4) rfl rfl)) rfl ?_; clear S a w; intro a w S; refine h_n1 S ?_)
    refine hy 9 S rfl (ys_fieldN (FieldT.mk underlying96 rfl sizeOf77 rfl) (.t rfl) (i' := 3) rfl) rfl fun a w S => ?_
    (refine h_m (i := 5) rfl (by kernel_rfl) (op_calls S call16 (.cons (.t rfl) .nil) (c16 _ _ _ _ _ (by exact .old S.wd (by assumption)) (by exact .old S.wd (by assumption)) (by assumption) (by assumption) (by assumption)) rfl ?_); clear S a w; rintro _ _ ⟨A12, r12, A22, r22, A32, r32, rfl, rfl⟩ a w S; refine h_n1 S ?_)
    (refine h_m (i := 8) rfl (by kernel_rfl) (op_calls S call16 (.cons (.t rfl) .nil) (c16 _ _ _ _ _ (by exact .old S.wd (by assumption)) (by exact .old S.wd (by assumption)) (by assumption) (by assumption) (by assumption)) rfl ?_); clear S a w; rintro _ _ ⟨A13, r13, A23, r23, A33, r33, rfl, rfl⟩ a w S; refine h_n1 S ?_)
    (refine h_m0 (i := 10) rfl (by kernel_rfl) (op_stA S sizeOf77 (.t rfl) (.t rfl) (k := 10) rfl rfl (by simp [Value.oneCell']) (by simp) ?_); clear S a w; intro a w S; refine h_n1 S ?_)
    rw [rw_l] at S
    refine hy 11 S rfl (ys_fieldN (FieldT.mk underlying96 rfl sizeOf37 rfl) (.t rfl) (i' := 16) rfl) rfl fun a w S => ?_
    (refine h_m0 (i := 12) rfl (by kernel_rfl) (op_stA S sizeOf37 (.t rfl) (.t rfl) (k := 10) rfl rfl (by simp [Value.oneCell']) (by simp) ?_); clear S a w; intro a w S; refine h_n1 S ?_)
    rw [rw_l2] at S
    refine hy 13 S rfl (ys_fieldN (FieldT.mk underlying96 rfl sizeOf37 rfl) (.t rfl) (i' := 19) rfl) rfl fun a w S => ?_
    (refine h_m0 (i := 14) rfl (by kernel_rfl) (op_stA S sizeOf37 (.t rfl) (.t rfl) (k := 10) rfl rfl (by simp [Value.oneCell']) (by simp) ?_); clear S a w; intro a w S; refine h_n1 S ?_)
    rw [rw_l3] at S
    refine h_done (by kernel_rfl) ?_
    rotate_left
    (refine op_y S (Yr.ys (ys_ldA ⟨isAgg37, sizeOf37⟩ (.t rfl) (k := 1) rfl rfl)) rfl ?_; clear S a w; intro a w S; refine h_n1 S ?_)
    (refine h_m (i := 2) rfl (by kernel_rfl) (op_calls S call103 (.cons (.t rfl) .nil) (c103 _ _ _ _ _ (by exact .old S.wd (by assumption)) (by exact .old S.wd (by assumption)) (by assumption) (by assumption) (by assumption)) rfl ?_); clear S a w; rintro _ _ ⟨A11, r11, A21, r21, A31, r31, rfl, rfl⟩ a w S; refine h_n1 S ?_)
    refine hy 9 S rfl (ys_fieldN (FieldT.mk underlying96 rfl sizeOf77 rfl) (.t rfl) (i' := 3) rfl) rfl fun a w S => ?_
    (refine h_m (i := 5) rfl (by kernel_rfl) (op_calls S call16 (.cons (.t rfl) .nil) (c16 _ _ _ _ _ (by exact .old S.wd (by assumption)) (by exact .old S.wd (by assumption)) (by assumption) (by assumption) (by assumption)) rfl ?_); clear S a w; rintro _ _ ⟨A12, r12, A22, r22, A32, r32, rfl, rfl⟩ a w S; refine h_n1 S ?_)
    (refine h_m (i := 8) rfl (by kernel_rfl) (op_calls S call16 (.cons (.t rfl) .nil) (c16 _ _ _ _ _ (by exact .old S.wd (by assumption)) (by exact .old S.wd (by assumption)) (by assumption) (by assumption) (by assumption)) rfl ?_); clear S a w; rintro _ _ ⟨A13, r13, A23, r23, A33, r33, rfl, rfl⟩ a w S; refine h_n1 S ?_)
    (refine h_m0 (i := 10) rfl (by kernel_rfl) (op_stA S sizeOf77 (.t rfl) (.t rfl) (k := 10) rfl rfl (by simp [Value.oneCell']) (by simp) ?_); clear S a w; intro a w S; refine h_n1 S ?_)
    rw [rw_l] at S
    refine hy 11 S rfl (ys_fieldN (FieldT.mk underlying96 rfl sizeOf37 rfl) (.t rfl) (i' := 16) rfl) rfl fun a w S => ?_
    (refine h_m0 (i := 12) rfl (by kernel_rfl) (op_stA S sizeOf37 (.t rfl) (.t rfl) (k := 10) rfl rfl (by simp [Value.oneCell']) (by simp) ?_); clear S a w; intro a w S; refine h_n1 S ?_)
    rw [rw_l2] at S
    refine hy 13 S rfl (ys_fieldN (FieldT.mk underlying96 rfl sizeOf37 rfl) (.t rfl) (i' := 19) rfl) rfl fun a w S => ?_
    (refine h_m0 (i := 14) rfl (by kernel_rfl) (op_stA S sizeOf37 (.t rfl) (.t rfl) (k := 10) rfl rfl (by simp [Value.oneCell']) (by simp) ?_); clear S a w; intro a w S; refine h_n1 S ?_)
    rw [rw_l3] at S
    refine h_done (by kernel_rfl) ?_
    rotate_left
    (refine op_y S (Yr.ys (ys_ldA ⟨isAgg37, sizeOf37⟩ (.t rfl) (k := 1) rfl rfl)) rfl ?_; clear S a w; intro a w S; refine h_n1 S ?_)
    refine h_split (i := 2) (j := 4) (by kernel_rfl) rfl rfl ?_ ?_
    (refine op_calls S call103 (.cons (.t rfl) .nil) (c103 _ _ _ _ _ (by exact .old S.wd (by assumption)) (by exact .old S.wd (by assumption)) (by assumption) (by assumption) (by assumption)) rfl ?_; clear S a w; rintro _ _ ⟨A11, r11, A21, r21, A31, r31, rfl, rfl⟩ a w S; refine h_n1 S ?_)
    refine h_q (i := 4) S (by repeat (first | exact List.Sublist.refl _ | exact List.nil_sublist _ | refine .cons_cons _ ?_ | refine .cons _ ?_)) rfl (by kernel_rfl) (Yr.ys (ys_ldA ⟨isAgg37, sizeOf37⟩ (.t rfl) (k := 4) rfl rfl)) rfl fun a w S => hy 9 S rfl (ys_fieldN (FieldT.mk underlying96 rfl sizeOf77 rfl) (.t rfl) (i' := 3) rfl) rfl fun a w S => ?_
    (refine h_m (i := 5) rfl (by kernel_rfl) (op_calls S call16 (.cons (.t rfl) .nil) (c16 _ _ _ _ _ (by exact .old S.wd (by assumption)) (by exact .old S.wd (by assumption)) (by assumption) (by assumption) (by assumption)) rfl ?_); clear S a w; rintro _ _ ⟨A12, r12, A22, r22, A32, r32, rfl, rfl⟩ a w S; refine h_n1 S ?_)
    (refine h_m (i := 8) rfl (by kernel_rfl) (op_calls S call16 (.cons (.t rfl) .nil) (c16 _ _ _ _ _ (by exact .old S.wd (by assumption)) (by exact .old S.wd (by assumption)) (by assumption) (by assumption) (by assumption)) rfl ?_); clear S a w; rintro _ _ ⟨A13, r13, A23, r23, A33, r33, rfl, rfl⟩ a w S; refine h_n1 S ?_)
    (refine h_m0 (i := 10) rfl (by kernel_rfl) (op_stA S sizeOf77 (.t rfl) (.t rfl) (k := 10) rfl rfl (by simp [Value.oneCell']) (by simp) ?_); clear S a w; intro a w S; refine h_n1 S ?_)
    rw [rw_l] at S
    refine hy 11 S rfl (ys_fieldN (FieldT.mk underlying96 rfl sizeOf37 rfl) (.t rfl) (i' := 16) rfl) rfl fun a w S => ?_
    (refine h_m0 (i := 12) rfl (by kernel_rfl) (op_stA S sizeOf37 (.t rfl) (.t rfl) (k := 10) rfl rfl (by simp [Value.oneCell']) (by simp) ?_); clear S a w; intro a w S; refine h_n1 S ?_)
    rw [rw_l2] at S
    refine hy 13 S rfl (ys_fieldN (FieldT.mk underlying96 rfl sizeOf37 rfl) (.t rfl) (i' := 19) rfl) rfl fun a w S => ?_
    (refine h_m0 (i := 14) rfl (by kernel_rfl) (op_stA S sizeOf37 (.t rfl) (.t rfl) (k := 10) rfl rfl (by simp [Value.oneCell']) (by simp) ?_); clear S a w; intro a w S; refine h_n1 S ?_)
    rw [rw_l3] at S
    refine h_done (by kernel_rfl) ?_
    rotate_left
    (refine op_y S (Yr.ys (ys_ldA ⟨isAgg37, sizeOf37⟩ (.t rfl) (k := 1) rfl rfl)) rfl ?_; clear S a w; intro a w S; refine h_n1 S ?_)
    (refine h_m (i := 2) rfl (by kernel_rfl) (op_calls S call103 (.cons (.t rfl) .nil) (c103 _ _ _ _ _ (by exact .old S.wd (by assumption)) (by exact .old S.wd (by assumption)) (by assumption) (by assumption) (by assumption)) rfl ?_); clear S a w; rintro _ _ ⟨A11, r11, A21, r21, A31, r31, rfl, rfl⟩ a w S; refine h_n1 S ?_)
    refine hy 9 S rfl (ys_fieldN (FieldT.mk underlying96 rfl sizeOf77 rfl) (.t rfl) (i' := 3) rfl) rfl fun a w S => ?_
    (refine h_m (i := 5) rfl (by kernel_rfl) (op_calls S call16 (.cons (.t rfl) .nil) (c16 _ _ _ _ _ (by exact .old S.wd (by assumption)) (by exact .old S.wd (by assumption)) (by assumption) (by assumption) (by assumption)) rfl ?_); clear S a w; rintro _ _ ⟨A12, r12, A22, r22, A32, r32, rfl, rfl⟩ a w S; refine h_n1 S ?_)
    (refine h_m (i := 8) rfl (by kernel_rfl) (op_calls S call16 (.cons (.t rfl) .nil) (c16 _ _ _ _ _ (by exact .old S.wd (by assumption)) (by exact .old S.wd (by assumption)) (by assumption) (by assumption) (by assumption)) rfl ?_); clear S a w; rintro _ _ ⟨A13, r13, A23, r23, A33, r33, rfl, rfl⟩ a w S; refine h_n1 S ?_)
    (refine h_m0 (i := 10) rfl (by kernel_rfl) (op_stA S sizeOf77 (.t rfl) (.t rfl) (k := 10) rfl rfl (by simp [Value.oneCell']) (by simp) ?_); clear S a w; intro a w S; refine h_n1 S ?_)
    rw [rw_l] at S
    refine hy 11 S rfl (ys_fieldN (FieldT.mk underlying96 rfl sizeOf37 rfl) (.t rfl) (i' := 16) rfl) rfl fun a w S => ?_
    (refine h_m0 (i := 12) rfl (by kernel_rfl) (op_stA S sizeOf37 (.t rfl) (.t rfl) (k := 10) rfl rfl (by simp [Value.oneCell']) (by simp) ?_); clear S a w; intro a w S; refine h_n1 S ?_)
    rw [rw_l2] at S
    refine hy 13 S rfl (ys_fieldN (FieldT.mk underlying96 rfl sizeOf37 rfl) (.t rfl) (i' := 19) rfl) rfl fun a w S => ?_
    (refine h_m0 (i := 14) rfl (by kernel_rfl) (op_stA S sizeOf37 (.t rfl) (.t rfl) (k := 10) rfl rfl (by simp [Value.oneCell']) (by simp) ?_); clear S a w; intro a w S; refine h_n1 S ?_)
    rw [rw_l3] at S
    refine h_done (by kernel_rfl) ?_
    rotate_left
    (refine op_y S (Yr.ys (ys_ldA ⟨isAgg37, sizeOf37⟩ (.t rfl) (k := 1) rfl rfl)) rfl ?_; clear S a w; intro a w S; refine h_n1 S ?_)
    refine h_split (i := 1) (j := 7) (by kernel_rfl) rfl rfl ?_ ?_
    (refine op_y S (Yr.ys (ys_ldA ⟨isAgg77, sizeOf77⟩ (.t rfl) (k := 1) rfl rfl)) rfl ?_; clear S a w; intro a w S; refine h_n1 S ?_)
    refine h_split (i := 2) (j := 7) (by kernel_rfl) rfl rfl ?_ ?_
    (refine op_calls S call103 (.cons (.t rfl) .nil) (c103 _ _ _ _ _ (by exact .old S.wd (by assumption)) (by exact .old S.wd (by assumption)) (by assumption) (by assumption) (by assumption)) rfl ?_; clear S a w; rintro _ _ ⟨A11, r11, A21, r21, A31, r31, rfl, rfl⟩ a w S; refine h_n1 S ?_)
    refine h_split (i := 5) (j := 7) (by kernel_rfl) rfl rfl ?_ ?_
    (refine op_calls S call16 (.cons (.t rfl) .nil) (c16 _ _ _ _ _ (by exact .old S.wd (by assumption)) (by exact .old S.wd (by assumption)) (by assumption) (by assumption) (by assumption)) rfl ?_; clear S a w; rintro _ _ ⟨A12, r12, A22, r22, A32, r32, rfl, rfl⟩ a w S; refine h_n1 S ?_)
    refine h_q (i := 7) S (by repeat (first | exact List.Sublist.refl _ | exact List.nil_sublist _ | refine .cons_cons _ ?_ | refine .cons _ ?_)) rfl (by kernel_rfl) (Yr.ys (ys_ldA ⟨isAgg37, sizeOf37⟩ (.t rfl) (k := 7) rfl rfl)) rfl fun a w S => hy 9 S rfl (ys_fieldN (FieldT.mk underlying96 rfl sizeOf77 rfl) (.t rfl) (i' := 3) rfl) rfl fun a w S => ?_
    (refine h_m (i := 8) rfl (by kernel_rfl) (op_calls S call16 (.cons (.t rfl) .nil) (c16 _ _ _ _ _ (by exact .old S.wd (by assumption)) (by exact .old S.wd (by assumption)) (by assumption) (by assumption) (by assumption)) rfl ?_); clear S a w; rintro _ _ ⟨A13, r13, A23, r23, A33, r33, rfl, rfl⟩ a w S; refine h_n1 S ?_)
    (refine h_m0 (i := 10) rfl (by kernel_rfl) (op_stA S sizeOf77 (.t rfl) (.t rfl) (k := 10) rfl rfl (by simp [Value.oneCell']) (by simp) ?_); clear S a w; intro a w S; refine h_n1 S ?_)
    rw [rw_l] at S
    refine hy 11 S rfl (ys_fieldN (FieldT.mk underlying96 rfl sizeOf37 rfl) (.t rfl) (i' := 16) rfl) rfl fun a w S => ?_
    (refine h_m0 (i := 12) rfl (by kernel_rfl) (op_stA S sizeOf37 (.t rfl) (.t rfl) (k := 10) rfl rfl (by simp [Value.oneCell']) (by simp) ?_); clear S a w; intro a w S; refine h_n1 S ?_)
    rw [rw_l2] at S
    refine hy 13 S rfl (ys_fieldN (FieldT.mk underlying96 rfl sizeOf37 rfl) (.t rfl) (i' := 19) rfl) rfl fun a w S => ?_
    (refine h_m0 (i := 14) rfl (by kernel_rfl) (op_stA S sizeOf37 (.t rfl) (.t rfl) (k := 10) rfl rfl (by simp [Value.oneCell']) (by simp) ?_); clear S a w; intro a w S; refine h_n1 S ?_)
    rw [rw_l3] at S
    refine h_done (by kernel_rfl) ?_
    rotate_left
    (refine op_y S (Yr.ys (ys_ldA ⟨isAgg37, sizeOf37⟩ (.t rfl) (k := 4) rfl rfl)) rfl ?_; clear S a w; intro a w S; refine h_n1 S ?_)
    refine hy 9 S rfl (ys_fieldN (FieldT.mk underlying96 rfl sizeOf77 rfl) (.t rfl) (i' := 3) rfl) rfl fun a w S => ?_
    (refine h_m (i := 5) rfl (by kernel_rfl) (op_calls S call16 (.cons (.t rfl) .nil) (c16 _ _ _ _ _ (by exact .old S.wd (by assumption)) (by exact .old S.wd (by assumption)) (by assumption) (by assumption) (by assumption)) rfl ?_); clear S a w; rintro _ _ ⟨A12, r12, A22, r22, A32, r32, rfl, rfl⟩ a w S; refine h_n1 S ?_)
    (refine h_m (i := 8) rfl (by kernel_rfl) (op_calls S call16 (.cons (.t rfl) .nil) (c16 _ _ _ _ _ (by exact .old S.wd (by assumption)) (by exact .old S.wd (by assumption)) (by assumption) (by assumption) (by assumption)) rfl ?_); clear S a w; rintro _ _ ⟨A13, r13, A23, r23, A33, r33, rfl, rfl⟩ a w S; refine h_n1 S ?_)
    (refine h_m0 (i := 10) rfl (by kernel_rfl) (op_stA S sizeOf77 (.t rfl) (.t rfl) (k := 10) rfl rfl (by simp [Value.oneCell']) (by simp) ?_); clear S a w; intro a w S; refine h_n1 S ?_)
    rw [rw_l] at S
    refine hy 11 S rfl (ys_fieldN (FieldT.mk underlying96 rfl sizeOf37 rfl) (.t rfl) (i' := 16) rfl) rfl fun a w S => ?_
    (refine h_m0 (i := 12) rfl (by kernel_rfl) (op_stA S sizeOf37 (.t rfl) (.t rfl) (k := 10) rfl rfl (by simp [Value.oneCell']) (by simp) ?_); clear S a w; intro a w S; refine h_n1 S ?_)
    rw [rw_l2] at S
    refine hy 13 S rfl (ys_fieldN (FieldT.mk underlying96 rfl sizeOf37 rfl) (.t rfl) (i' := 19) rfl) rfl fun a w S => ?_
    (refine h_m0 (i := 14) rfl (by kernel_rfl) (op_stA S sizeOf37 (.t rfl) (.t rfl) (k := 10) rfl rfl (by simp [Value.oneCell']) (by simp) ?_); clear S a w; intro a w S; refine h_n1 S ?_)
    rw [rw_l3] at S
    refine h_done (by kernel_rfl) ?_
    rotate_left
    (refine op_y S (Yr.ys (ys_ldA ⟨isAgg37, sizeOf37⟩ (.t rfl) (k := 1) rfl rfl)) rfl ?_; clear S a w; intro a w S; refine h_n1 S ?_)
    (refine h_m (i := 2) rfl (by kernel_rfl) (op_calls S call103 (.cons (.t rfl) .nil) (c103 _ _ _ _ _ (by exact .old S.wd (by assumption)) (by exact .old S.wd (by assumption)) (by assumption) (by assumption) (by assumption)) rfl ?_); clear S a w; rintro _ _ ⟨A11, r11, A21, r21, A31, r31, rfl, rfl⟩ a w S; refine h_n1 S ?_)
    refine hy 9 S rfl (ys_fieldN (FieldT.mk underlying96 rfl sizeOf77 rfl) (.t rfl) (i' := 3) rfl) rfl fun a w S => ?_
    (refine h_m (i := 5) rfl (by kernel_rfl) (op_calls S call16 (.cons (.t rfl) .nil) (c16 _ _ _ _ _ (by exact .old S.wd (by assumption)) (by exact .old S.wd (by assumption)) (by assumption) (by assumption) (by assumption)) rfl ?_); clear S a w; rintro _ _ ⟨A12, r12, A22, r22, A32, r32, rfl, rfl⟩ a w S; refine h_n1 S ?_)
    (refine h_m (i := 8) rfl (by kernel_rfl) (op_calls S call16 (.cons (.t rfl) .nil) (c16 _ _ _ _ _ (by exact .old S.wd (by assumption)) (by exact .old S.wd (by assumption)) (by assumption) (by assumption) (by assumption)) rfl ?_); clear S a w; rintro _ _ ⟨A13, r13, A23, r23, A33, r33, rfl, rfl⟩ a w S; refine h_n1 S ?_)
    (refine h_m0 (i := 10) rfl (by kernel_rfl) (op_stA S sizeOf77 (.t rfl) (.t rfl) (k := 10) rfl rfl (by simp [Value.oneCell']) (by simp) ?_); clear S a w; intro a w S; refine h_n1 S ?_)
    rw [rw_l] at S
    refine hy 11 S rfl (ys_fieldN (FieldT.mk underlying96 rfl sizeOf37 rfl) (.t rfl) (i' := 16) rfl) rfl fun a w S => ?_
    (refine h_m0 (i := 12) rfl (by kernel_rfl) (op_stA S sizeOf37 (.t rfl) (.t rfl) (k := 10) rfl rfl (by simp [Value.oneCell']) (by simp) ?_); clear S a w; intro a w S; refine h_n1 S ?_)
    rw [rw_l2] at S
    refine hy 13 S rfl (ys_fieldN (FieldT.mk underlying96 rfl sizeOf37 rfl) (.t rfl) (i' := 19) rfl) rfl fun a w S => ?_
    (refine h_m0 (i := 14) rfl (by kernel_rfl) (op_stA S sizeOf37 (.t rfl) (.t rfl) (k := 10) rfl rfl (by simp [Value.oneCell']) (by simp) ?_); clear S a w; intro a w S; refine h_n1 S ?_)
    rw [rw_l3] at S
    refine h_done (by kernel_rfl) ?_
    rotate_left
    (refine op_y S (Yr.ys (ys_ldA ⟨isAgg37, sizeOf37⟩ (.t rfl) (k := 1) rfl rfl)) rfl ?_; clear S a w; intro a w S; refine h_n1 S ?_)
    refine h_q (i := 1) S (by repeat (first | exact List.Sublist.refl _ | exact List.nil_sublist _ | refine .cons_cons _ ?_ | refine .cons _ ?_)) rfl (by kernel_rfl) (Yr.ys (ys_ldA ⟨isAgg77, sizeOf77⟩ (.t rfl) (k := 1) rfl rfl)) rfl fun a w S => ?_
    (refine h_m (i := 2) rfl (by kernel_rfl) (op_calls S call103 (.cons (.t rfl) .nil) (c103 _ _ _ _ _ (by exact .old S.wd (by assumption)) (by exact .old S.wd (by assumption)) (by assumption) (by assumption) (by assumption)) rfl ?_); clear S a w; rintro _ _ ⟨A11, r11, A21, r21, A31, r31, rfl, rfl⟩ a w S; refine h_n1 S ?_)
    refine hy 9 S rfl (ys_fieldN (FieldT.mk underlying96 rfl sizeOf77 rfl) (.t rfl) (i' := 3) rfl) rfl fun a w S => ?_
    (refine h_m (i := 5) rfl (by kernel_rfl) (op_calls S call16 (.cons (.t rfl) .nil) (c16 _ _ _ _ _ (by exact .old S.wd (by assumption)) (by exact .old S.wd (by assumption)) (by assumption) (by assumption) (by assumption)) rfl ?_); clear S a w; rintro _ _ ⟨A12, r12, A22, r22, A32, r32, rfl, rfl⟩ a w S; refine h_n1 S ?_)
    (refine h_m (i := 8) rfl (by kernel_rfl) (op_calls S call16 (.cons (.t rfl) .nil) (c16 _ _ _ _ _ (by exact .old S.wd (by assumption)) (by exact .old S.wd (by assumption)) (by assumption) (by assumption) (by assumption)) rfl ?_); clear S a w; rintro _ _ ⟨A13, r13, A23, r23, A33, r33, rfl, rfl⟩ a w S; refine h_n1 S ?_)
    (refine h_m0 (i := 10) rfl (by kernel_rfl) (op_stA S sizeOf77 (.t rfl) (.t rfl) (k := 10) rfl rfl (by simp [Value.oneCell']) (by simp) ?_); clear S a w; intro a w S; refine h_n1 S ?_)
    rw [rw_l] at S
    refine hy 11 S rfl (ys_fieldN (FieldT.mk underlying96 rfl sizeOf37 rfl) (.t rfl) (i' := 16) rfl) rfl fun a w S => ?_
    (refine h_m0 (i := 12) rfl (by kernel_rfl) (op_stA S sizeOf37 (.t rfl) (.t rfl) (k := 10) rfl rfl (by simp [Value.oneCell']) (by simp) ?_); clear S a w; intro a w S; refine h_n1 S ?_)
    rw [rw_l2] at S
    refine hy 13 S rfl (ys_fieldN (FieldT.mk underlying96 rfl sizeOf37 rfl) (.t rfl) (i' := 19) rfl) rfl fun a w S => ?_
    (refine h_m0 (i := 14) rfl (by kernel_rfl) (op_stA S sizeOf37 (.t rfl) (.t rfl) (k := 10) rfl rfl (by simp [Value.oneCell']) (by simp) ?_); clear S a w; intro a w S; refine h_n1 S ?_)
    rw [rw_l3] at S
    refine h_done (by kernel_rfl) ?_
    rotate_left
    (refine op_y S (Yr.ys (ys_ldA ⟨isAgg37, sizeOf37⟩ (.t rfl) (k := 1) rfl rfl)) rfl ?_; clear S a w; intro a w S; refine h_n1 S ?_)
    refine h_split (i := 1) (j := 4) (by kernel_rfl) rfl rfl ?_ ?_
    (refine op_y S (Yr.ys (ys_ldA ⟨isAgg77, sizeOf77⟩ (.t rfl) (k := 1) rfl rfl)) rfl ?_; clear S a w; intro a w S; refine h_n1 S ?_)
    refine h_split (i := 2) (j := 4) (by kernel_rfl) rfl rfl ?_ ?_
    (refine op_calls S call103 (.cons (.t rfl) .nil) (c103 _ _ _ _ _ (by exact .old S.wd (by assumption)) (by exact .old S.wd (by assumption)) (by assumption) (by assumption) (by assumption)) rfl ?_; clear S a w; rintro _ _ ⟨A11, r11, A21, r21, A31, r31, rfl, rfl⟩ a w S; refine h_n1 S ?_)
    refine h_q (i := 4) S (by repeat (first | exact List.Sublist.refl _ | exact List.nil_sublist _ | refine .cons_cons _ ?_ | refine .cons _ ?_)) rfl (by kernel_rfl) (Yr.ys (ys_ldA ⟨isAgg37, sizeOf37⟩ (.t rfl) (k := 4) rfl rfl)) rfl fun a w S => hy 9 S rfl (ys_fieldN (FieldT.mk underlying96 rfl sizeOf77 rfl) (.t rfl) (i' := 3) rfl) rfl fun a w S => ?_
    (refine h_m (i := 5) rfl (by kernel_rfl) (op_calls S call16 (.cons (.t rfl) .nil) (c16 _ _ _ _ _ (by exact .old S.wd (by assumption)) (by exact .old S.wd (by assumption)) (by assumption) (by assumption) (by assumption)) rfl ?_); clear S a w; rintro _ _ ⟨A12, r12, A22, r22, A32, r32, rfl, rfl⟩ a w S; refine h_n1 S ?_)
    (refine h_m (i := 8) rfl (by kernel_rfl) (op_calls S call16 (.cons (.t rfl) .nil) (c16 _ _ _ _ _ (by exact .old S.wd (by assumption)) (by exact .old S.wd (by assumption)) (by assumption) (by assumption) (by assumption)) rfl ?_); clear S a w; rintro _ _ ⟨A13, r13, A23, r23, A33, r33, rfl, rfl⟩ a w S; refine h_n1 S ?_)
    (refine h_m0 (i := 10) rfl (by kernel_rfl) (op_stA S sizeOf77 (.t rfl) (.t rfl) (k := 10) rfl rfl (by simp [Value.oneCell']) (by simp) ?_); clear S a w; intro a w S; refine h_n1 S ?_)
    rw [rw_l] at S
    refine hy 11 S rfl (ys_fieldN (FieldT.mk underlying96 rfl sizeOf37 rfl) (.t rfl) (i' := 16) rfl) rfl fun a w S => ?_
    (refine h_m0 (i := 12) rfl (by kernel_rfl) (op_stA S sizeOf37 (.t rfl) (.t rfl) (k := 10) rfl rfl (by simp [Value.oneCell']) (by simp) ?_); clear S a w; intro a w S; refine h_n1 S ?_)
    rw [rw_l2] at S
    refine hy 13 S rfl (ys_fieldN (FieldT.mk underlying96 rfl sizeOf37 rfl) (.t rfl) (i' := 19) rfl) rfl fun a w S => ?_
    (refine h_m0 (i := 14) rfl (by kernel_rfl) (op_stA S sizeOf37 (.t rfl) (.t rfl) (k := 10) rfl rfl (by simp [Value.oneCell']) (by simp) ?_); clear S a w; intro a w S; refine h_n1 S ?_)
    rw [rw_l3] at S
    refine h_done (by kernel_rfl) ?_
    rotate_left
    (refine op_y S (Yr.ys (ys_ldA ⟨isAgg37, sizeOf37⟩ (.t rfl) (k := 1) rfl rfl)) rfl ?_; clear S a w; intro a w S; refine h_n1 S ?_)
    (refine h_m (i := 2) rfl (by kernel_rfl) (op_calls S call103 (.cons (.t rfl) .nil) (c103 _ _ _ _ _ (by exact .old S.wd (by assumption)) (by exact .old S.wd (by assumption)) (by assumption) (by assumption) (by assumption)) rfl ?_); clear S a w; rintro _ _ ⟨A11, r11, A21, r21, A31, r31, rfl, rfl⟩ a w S; refine h_n1 S ?_)
    refine hy 9 S rfl (ys_fieldN (FieldT.mk underlying96 rfl sizeOf77 rfl) (.t rfl) (i' := 3) rfl) rfl fun a w S => ?_
    (refine h_m (i := 5) rfl (by kernel_rfl) (op_calls S call16 (.cons (.t rfl) .nil) (c16 _ _ _ _ _ (by exact .old S.wd (by assumption)) (by exact .old S.wd (by assumption)) (by assumption) (by assumption) (by assumption)) rfl ?_); clear S a w; rintro _ _ ⟨A12, r12, A22, r22, A32, r32, rfl, rfl⟩ a w S; refine h_n1 S ?_)
    (refine h_m (i := 8) rfl (by kernel_rfl) (op_calls S call16 (.cons (.t rfl) .nil) (c16 _ _ _ _ _ (by exact .old S.wd (by assumption)) (by exact .old S.wd (by assumption)) (by assumption) (by assumption) (by assumption)) rfl ?_); clear S a w; rintro _ _ ⟨A13, r13, A23, r23, A33, r33, rfl, rfl⟩ a w S; refine h_n1 S ?_)
    (refine h_m0 (i := 10) rfl (by kernel_rfl) (op_stA S sizeOf77 (.t rfl) (.t rfl) (k := 10) rfl rfl (by simp [Value.oneCell']) (by simp) ?_); clear S a w; intro a w S; refine h_n1 S ?_)
    rw [rw_l] at S
    refine hy 11 S rfl (ys_fieldN (FieldT.mk underlying96 rfl sizeOf37 rfl) (.t rfl) (i' := 16) rfl) rfl fun a w S => ?_
    (refine h_m0 (i := 12) rfl (by kernel_rfl) (op_stA S sizeOf37 (.t rfl) (.t rfl) (k := 10) rfl rfl (by simp [Value.oneCell']) (by simp) ?_); clear S a w; intro a w S; refine h_n1 S ?_)
    rw [rw_l2] at S
    refine hy 13 S rfl (ys_fieldN (FieldT.mk underlying96 rfl sizeOf37 rfl) (.t rfl) (i' := 19) rfl) rfl fun a w S => ?_
    (refine h_m0 (i := 14) rfl (by kernel_rfl) (op_stA S sizeOf37 (.t rfl) (.t rfl) (k := 10) rfl rfl (by simp [Value.oneCell']) (by simp) ?_); clear S a w; intro a w S; refine h_n1 S ?_)
    rw [rw_l3] at S
    refine h_done (by kernel_rfl) ?_
    rotate_left
    (refine op_y S (Yr.ys (ys_ldA ⟨isAgg37, sizeOf37⟩ (.t rfl) (k := 1) rfl rfl)) rfl ?_; clear S a w; intro a w S; refine h_n1 S ?_)
    refine h_q (i := 1) S (by repeat (first | exact List.Sublist.refl _ | exact List.nil_sublist _ | refine .cons_cons _ ?_ | refine .cons _ ?_)) rfl (by kernel_rfl) (Yr.ys (ys_ldA ⟨isAgg77, sizeOf77⟩ (.t rfl) (k := 1) rfl rfl)) rfl fun a w S => ?_
    (refine h_m (i := 2) rfl (by kernel_rfl) (op_calls S call103 (.cons (.t rfl) .nil) (c103 _ _ _ _ _ (by exact .old S.wd (by assumption)) (by exact .old S.wd (by assumption)) (by assumption) (by assumption) (by assumption)) rfl ?_); clear S a w; rintro _ _ ⟨A11, r11, A21, r21, A31, r31, rfl, rfl⟩ a w S; refine h_n1 S ?_)
    refine hy 9 S rfl (ys_fieldN (FieldT.mk underlying96 rfl sizeOf77 rfl) (.t rfl) (i' := 3) rfl) rfl fun a w S => ?_
    (refine h_m (i := 5) rfl (by kernel_rfl) (op_calls S call16 (.cons (.t rfl) .nil) (c16 _ _ _ _ _ (by exact .old S.wd (by assumption)) (by exact .old S.wd (by assumption)) (by assumption) (by assumption) (by assumption)) rfl ?_); clear S a w; rintro _ _ ⟨A12, r12, A22, r22, A32, r32, rfl, rfl⟩ a w S; refine h_n1 S ?_)
    (refine h_m (i := 8) rfl (by kernel_rfl) (op_calls S call16 (.cons (.t rfl) .nil) (c16 _ _ _ _ _ (by exact .old S.wd (by assumption)) (by exact .old S.wd (by assumption)) (by assumption) (by assumption) (by assumption)) rfl ?_); clear S a w; rintro _ _ ⟨A13, r13, A23, r23, A33, r33, rfl, rfl⟩ a w S; refine h_n1 S ?_)
    (refine h_m0 (i := 10) rfl (by kernel_rfl) (op_stA S sizeOf77 (.t rfl) (.t rfl) (k := 10) rfl rfl (by simp [Value.oneCell']) (by simp) ?_); clear S a w; intro a w S; refine h_n1 S ?_)
    rw [rw_l] at S
    refine hy 11 S rfl (ys_fieldN (FieldT.mk underlying96 rfl sizeOf37 rfl) (.t rfl) (i' := 16) rfl) rfl fun a w S => ?_
    (refine h_m0 (i := 12) rfl (by kernel_rfl) (op_stA S sizeOf37 (.t rfl) (.t rfl) (k := 10) rfl rfl (by simp [Value.oneCell']) (by simp) ?_); clear S a w; intro a w S; refine h_n1 S ?_)
    rw [rw_l2] at S
    refine hy 13 S rfl (ys_fieldN (FieldT.mk underlying96 rfl sizeOf37 rfl) (.t rfl) (i' := 19) rfl) rfl fun a w S => ?_
    (refine h_m0 (i := 14) rfl (by kernel_rfl) (op_stA S sizeOf37 (.t rfl) (.t rfl) (k := 10) rfl rfl (by simp [Value.oneCell']) (by simp) ?_); clear S a w; intro a w S; refine h_n1 S ?_)
    rw [rw_l3] at S
    refine h_done (by kernel_rfl) ?_
    rotate_left
    all_goals exact ⟨A11, r11, A21, r21, A31, r31, A12, r12, A22, r22, A32, r32, A13, r13, A23, r23, A33, r33, S.pk⟩
  clear S
  rcases e with _ | _ | _ | _ | _ | _ | _
  any_goals exact qq.elim
  obtain ⟨A1, c1, A2, c2, A3, c3, B1, d1, B2, d2, B3, d3, C1, e1, C2, e2, C3, e3, S⟩ := qq
  refine then_normal ?_
  first | refine hK9 _ _ ?_ | refine hK8 _ _ ?_ | refine hK7 _ _ ?_ | refine hK6 _ _ ?_ | refine hK5 _ _ ?_ | refine hK4 _ _ ?_ | refine hK3 _ _ ?_ | refine hK2 _ _ ?_ | refine hK1 _ _ ?_
  obtain ⟨y, hy⟩ : ∃ y, x.at3 ⟨A1, x.u.1.seen.ents.length, c1, A2, x.u.1.seen.ctx.marks.length, c2, A3, x.u.1.seen.ctx.cloud.length, c3⟩ ⟨B1, x.s.1.ents.length, d1, B2, x.s.1.ctx.marks.length, d2, B3, x.s.1.ctx.cloud.length, d3⟩ ⟨C1, x.c.1.ents.length, e1, C2, x.c.1.ctx.marks.length, e2, C3, x.c.1.ctx.cloud.length, e3⟩ = y := ⟨_, rfl⟩
  rw [hy] at S
  refine wp_seq_k fun _ hK2 => wp_region_lit (run S (.la gt96 10 rfl rfl rfl <| .z) fun a w S => st_m (op_stW S sizeOf96 (.t rfl) (.t rfl) (k := 9) rfl rfl rfl (by simp [Value.oneCell']) fun a w S => st_nil (then_normal (hK2 _ _ (wp_ret (st_ret S (results1 S results117 (Rv.cell (k := 9) ⟨isAgg96, sizeOf96⟩ rfl rfl rfl)) ?_))))))
  exact ⟨_, _, rfl, S.wd.pk, A1, c1, A2, c2, A3, c3, B1, d1, B2, d2, B3, d3, C1, e1, C2, e2, C3, e3, by rw [hy], rfl⟩
end Go.Proofs.YtakpdbmdfnialaaGreat
set_option linter.unusedVariables false
set_option linter.unusedSimpArgs false
set_option maxRecDepth 100000
set_option maxHeartbeats 4000000
namespace Go.Fw
open Go.RowKit
def isGone (key : List UInt8) (x : SLog) : Bool := decide (x.kind = 5) && decide (x.key = key)
def goneK (l : List SLog) (key : List UInt8) : List SLog := l.filter (isGone key)
def forgotB (d : Dot) (x : SLog) : Bool := decide (x.an = d.node ∧ x.al = d.life) && x.c.1.ctx.covers d
def forgotK (l : List SLog) (d : Dot) : Bool := l.any (forgotB d)
theorem gone_snoc {l : List SLog} {i : Nat} {x : SLog} {key : List UInt8} (h : l[i]? = some x) : goneK (l.take (i + 1)) key = goneK (l.take i) key ++ if isGone key x = true then [x] else [] := by
  unfold goneK
  rw [List.take_add_one, h, Option.toList_some, List.filter_append]
  congr 1
  rw [List.filter_cons, List.filter_nil]
theorem gone_len (l : List SLog) (key : List UInt8) : (goneK l key).length ≤ l.length := List.length_filter_le _ _
theorem log_enc (x : SLog) : #[Value.int .i64 x.kind, .int .i64 x.at_, .int .i64 x.ask, .string (bs x.u.1.key), .int .i64 x.u.1.dot.node, .int .i64 x.u.1.dot.life, .int .i64 x.u.1.dot.count, .string (bs x.u.1.item), .int .i64 x.u.1.qty, .int .u64 (x.u.1.price.toNat : Int), .slice x.u.2.a1 x.u.2.n1 x.u.2.c1, .slice x.u.2.a2 x.u.2.n2 x.u.2.c2, .slice x.u.2.a3 x.u.2.n3 x.u.2.c3, .int .i64 x.an, .int .i64 x.al, .string (bs x.key), .slice x.s.2.a1 x.s.2.n1 x.s.2.c1, .slice x.s.2.a2 x.s.2.n2 x.s.2.c2, .slice x.s.2.a3 x.s.2.n3 x.s.2.c3, .slice x.c.2.a1 x.c.2.n1 x.c.2.c1, .slice x.c.2.a2 x.c.2.n2 x.c.2.c2, .slice x.c.2.a3 x.c.2.n3 x.c.2.c3] = (SLog.enc x).toArray := rfl
end Go.Fw
namespace Go.Proofs.YtakpdbmdfnialaaGreat
open Go.Fw Go.Proofs Go.RowKit Go.Proofs.Tryz
theorem c119 (w0 : World) (v : Value) (l : List SLog) (key : List UInt8) (h : Sl SLog.enc 22 w0 w0.heap.size v l) (hn : l.length ≤ 1048576) :
    Rets Tryz.prog 119 #[v, .string (bs key)] w0 fun u L => ∃ A r, u = .slice A (goneK l key).length r ∧ L = [rowOf 96 22 SLog.enc A r (goneK l key)] := by
  obtain ⟨A, cap, rfl, hl, hcap, hA⟩ := h
  unfold Go.Fw.Rets
  refine enter2 func119 rfl ntmps119 rfl fun a S => sg S (.ac rfl <| .z) fun a w S => sg S (.ac rfl <| .z) fun a w S => wp_seq_k fun _ hK1 => sg S (.mv rfl <| .ln underlying84 rfl <| .mc rfl <| .z) fun a w S => wp_block ?_
  replace S := S.nil_ 96 22 SLog.enc none
  refine st_lpM S [5, 10] (X := Nat × Option Addr × Nat) (fun q => [(5, true, .slice q.2.1 (goneK (l.take q.1) key).length q.2.2), (10, true, .int .i64 (q.1 : Int))]) (fun q => [rowOf 96 22 SLog.enc q.2.1 q.2.2 (goneK (l.take q.1) key)]) (fun q => q.1 ≤ l.length) (fun q => l.length - q.1) (0, none, 0) (Nat.zero_le _) ?_
  clear S
  rintro ⟨i, B, cB⟩ a w hi S
  dsimp only at hi S
  have hgl := gone_len (l.take i) key
  rw [List.length_take] at hgl
  by_cases hlt : i < l.length
  · obtain ⟨gq, oq, x, rfl, hx, hd, hc⟩ := row_at hA hlt
    have hst := gone_snoc (key := key) hx
    generalize goneK (l.take i) key = G at *
    by_cases hk : x.kind = 5
    · have rw_k := decide_eq_true hk
      by_cases hy : x.key = key
      · have rw_y := decide_eq_true hy
        have rw_l := log_enc x
        rw [show isGone key x = true by unfold isGone; rw [rw_k, rw_y]; rfl, if_pos rfl] at hst
        refine sg S (.lt (by omega) rfl rfl <| .z) fun a w S => wp_seq_k fun _ hK2 => st_then S (.t rfl) (wp_skip (then_normal (hK2 _ _ (wp_seq_k fun _ hK2 => wp_block (wp_seq_k fun _ hK3 => wp_region_lit (run S (.ix underlying84 sizeOf96 (by omega) rfl rfl <| .yy (ys_ldOA ⟨isAgg96, sizeOf96⟩ (.t rfl) (vs := [_, _, _, _, _, _, _, _, _, _, _, _, _, _, _, _, _, _, _, _, _, _]) rfl (fun _ => hc)) rfl <| .z) fun a w S => ?_))))))
        rw [rw_l] at S
        refine st_m (op_alloc S zeroValue96 (cs := _) rfl rfl fun g1 a w S => ?_)
        rw [rw_l] at S
        refine st_m (op_stW S sizeOf96 (.t rfl) (.t rfl) (k := 0) rfl rfl rfl (by simp [Value.oneCell']) fun a w S => ?_)
        rw [rw_l] at S
        refine st_nil ?_
        rw [rw_l] at S
        refine then_normal (hK3 _ _ ?_)
        rw [rw_l] at S
        refine wp_seq_k fun _ hK3 => ?_
        rw [rw_l] at S
        refine wp_region_lit ?_
        rw [rw_l] at S
        refine run S (.fa underlying96 sizeOf3 0 rfl rfl rfl <| .z) fun a w S => ?_
        rw [rw_l] at S
        refine run S (.ld gt3 0 rfl rfl rfl <| .z) fun a w S => ?_
        rw [rw_l] at S
        refine run S (.yy (ys_T (by omega) (ys_eql (.t rfl) Ev.c)) rfl <| .z) fun a w S => ?_
        rw [rw_l] at S
        refine run S (.mv rfl <| .z) fun a w S => ?_
        rw [rw_l] at S
        refine run S (.gy rfl rfl (ys_fieldN (FieldT.mk underlying96 rfl sizeOf9 rfl) (.t rfl) (i' := 15) rfl) <| .z) fun a w S => ?_
        rw [rw_l] at S
        refine run S (.gy rfl rfl (ys_ld ⟨isAgg9, sizeOf9⟩ (.t rfl) (k := 0) rfl rfl) <| .z) fun a w S => ?_
        rw [rw_l] at S
        refine run S (.gy rfl rfl (ys_move (.t rfl)) <| .z) fun a w S => ?_
        rw [rw_l] at S
        refine run S (.gy rfl rfl (ys_eqlStr (.t rfl) (.t rfl)) <| .z) fun a w S => ?_
        rw [rw_y] at S
        rw [rw_l] at S
        refine run S (.yy (ys_pickT (.t rfl) (.t rfl)) rfl <| .z) fun a w S => ?_
        rw [rw_l] at S
        refine st_nil ?_
        rw [rw_l] at S
        refine then_normal (hK3 _ _ ?_)
        rw [rw_l] at S
        refine st_then S (.t rfl) ?_
        rw [rw_l] at S
        refine wp_region_lit ?_
        rw [rw_l] at S
        refine run S (.mv rfl <| .z) fun a w S => ?_
        rw [rw_l] at S
        refine run S (.la gt96 0 rfl rfl rfl <| .z) fun a w S => ?_
        rw [rw_l] at S
        refine st_m (op_bslice1 S underlying84 inf96 rfl rfl rfl (.t rfl) rfl rfl rfl fun g2 a w S => ?_)
        rw [rw_l] at S
        refine st_m (op_push S underlying84 inf96 rfl (k := 2) (j := 0) rfl (.t rfl) (.t rfl) rfl rfl rfl rfl (by first | omega | (simp only [List.length_append, List.length_cons, List.length_nil]; omega)) rfl rfl rfl fun A1 cap1 a w S => ?_)
        rw [rw_l] at S
        refine run S (.as rfl <| .z) fun a w S => ?_
        rw [rw_l] at S
        refine st_nil ?_
        rw [rw_l] at S
        refine in_normal (then_normal (hK2 _ _ ?_))
        rw [rw_l] at S
        refine wp_region_lit ?_
        rw [rw_l] at S
        refine run S (.ad (by unfold I64; omega) rfl <| .z) fun a w S => ?_
        rw [rw_l] at S
        refine run S (.mv rfl <| .z) fun a w S => ?_
        rw [rw_l] at S
        refine st_nil ?_
        rw [rw_l] at S
        refine then_normal ?_
        rw [rw_l] at S
        exact ⟨(i + 1, A1, cap1), by dsimp only; omega, by dsimp only; omega, by dsimp only; rw [hst]; exact S.pk⟩
      · have rw_y := decide_eq_false hy
        rw [show isGone key x = false by unfold isGone; rw [rw_k, rw_y]; rfl, if_neg (by decide), List.append_nil] at hst
        refine sg S (.lt (by omega) rfl rfl <| .z) fun a w S => wp_seq_k fun _ hK2 => st_then S (.t rfl) (wp_skip (then_normal (hK2 _ _ (wp_seq_k fun _ hK2 => wp_block (wp_seq_k fun _ hK3 => wp_region_lit (run S (.ix underlying84 sizeOf96 (by omega) rfl rfl <| .yy (ys_ldOA ⟨isAgg96, sizeOf96⟩ (.t rfl) (vs := [_, _, _, _, _, _, _, _, _, _, _, _, _, _, _, _, _, _, _, _, _, _]) rfl (fun _ => hc)) rfl <| .z) fun a w S => st_m (op_alloc S zeroValue96 (cs := _) rfl rfl fun g1 a w S => st_m (op_stW S sizeOf96 (.t rfl) (.t rfl) (k := 0) rfl rfl rfl (by simp [Value.oneCell']) fun a w S => st_nil (then_normal (hK3 _ _ (wp_seq_k fun _ hK3 => wp_region_lit (run S (.fa underlying96 sizeOf3 0 rfl rfl rfl <| .ld gt3 0 rfl rfl rfl <| .yy (ys_T (by omega) (ys_eql (.t rfl) Ev.c)) rfl <| .mv rfl <| .gy rfl rfl (ys_fieldN (FieldT.mk underlying96 rfl sizeOf9 rfl) (.t rfl) (i' := 15) rfl) <| .gy rfl rfl (ys_ld ⟨isAgg9, sizeOf9⟩ (.t rfl) (k := 0) rfl rfl) <| .gy rfl rfl (ys_move (.t rfl)) <| .gy rfl rfl (ys_eqlStr (.t rfl) (.t rfl)) <| .z) fun a w S => ?_))))))))))))
        rw [rw_y] at S
        refine run S (.yy (ys_pickT (.t rfl) (.t rfl)) rfl <| .z) fun a w S => st_nil (then_normal (hK3 _ _ (st_else S (.t rfl) (wp_skip (in_normal (then_normal (hK2 _ _ (wp_region_lit (run S (.ad (by unfold I64; omega) rfl <| .mv rfl <| .z) fun a w S => st_nil (then_normal ?_))))))))))
        exact ⟨(i + 1, B, cB), by dsimp only; omega, by dsimp only; omega, by dsimp only; rw [hst]; exact S.pk⟩
    · have rw_k := decide_eq_false hk
      rw [show isGone key x = false by unfold isGone; rw [rw_k]; rfl, if_neg (by decide), List.append_nil] at hst
      refine sg S (.lt (by omega) rfl rfl <| .z) fun a w S => wp_seq_k fun _ hK2 => st_then S (.t rfl) (wp_skip (then_normal (hK2 _ _ (wp_seq_k fun _ hK2 => wp_block (wp_seq_k fun _ hK3 => wp_region_lit (run S (.ix underlying84 sizeOf96 (by omega) rfl rfl <| .yy (ys_ldOA ⟨isAgg96, sizeOf96⟩ (.t rfl) (vs := [_, _, _, _, _, _, _, _, _, _, _, _, _, _, _, _, _, _, _, _, _, _]) rfl (fun _ => hc)) rfl <| .z) fun a w S => st_m (op_alloc S zeroValue96 (cs := _) rfl rfl fun g1 a w S => st_m (op_stW S sizeOf96 (.t rfl) (.t rfl) (k := 0) rfl rfl rfl (by simp [Value.oneCell']) fun a w S => st_nil (then_normal (hK3 _ _ (sg S (.fa underlying96 sizeOf3 0 rfl rfl rfl <| .ld gt3 0 rfl rfl rfl <| .yy (ys_F (by omega) (ys_eql (.t rfl) Ev.c)) rfl <| .mv rfl <| .sk rfl rfl rfl <| .sk rfl rfl rfl <| .sk rfl rfl rfl <| .sk rfl rfl rfl <| .yy (ys_pickF (.t rfl) Ev.c) rfl <| .z) fun a w S => st_else S (.t rfl) (wp_skip (in_normal (then_normal (hK2 _ _ (wp_region_lit (run S (.ad (by unfold I64; omega) rfl <| .mv rfl <| .z) fun a w S => st_nil (then_normal ?_))))))))))))))))))
      exact ⟨(i + 1, B, cB), by dsimp only; omega, by dsimp only; omega, by dsimp only; rw [hst]; exact S.pk⟩
  obtain rfl : i = l.length := by omega
  rw [List.take_length] at S
  refine sg S (.ge (by omega) rfl rfl <| .z) fun a w S => wp_seq_k fun _ hK2 => st_else S (.t rfl) (wp_exit (then_exit (then_exit (in_here (then_normal (hK1 _ _ (sg S (.mv rfl <| .as rfl <| .z) fun a w S => wp_ret (st_ret S (results1 S results119 (Rv.tmp rfl)) ?_))))))))
  exact ⟨_, _, rfl, S.wd.pk, B, cB, rfl, rfl⟩
theorem c171 (w0 : World) (x : SLog) (d : Dot) (g : Nat) (h : LogRd w0 x) (h1 : w0.cell? ⟨g, 0, none⟩ = some (.int .i64 d.node)) (h2 : w0.cell? ⟨g, 1, none⟩ = some (.int .i64 d.life)) (h3 : w0.cell? ⟨g, 2, none⟩ = some (.int .i64 d.count)) :
    Calls Tryz.prog 171 #[.agg (SLog.enc x).toArray, .pointer (some ⟨g, 0, none⟩)] w0 fun e w' => e = .returned (.bool (forgotB d x)) ∧ Bel w0.heap.size w0 w' := by
  have hdc := dot_cells (d := d) h1 h2 h3
  have r1 := h.c.ctx
  refine enter2 func171 rfl ntmps171 rfl fun a S => wp_seq_k fun _ hK1 => wp_region_lit (st_m (op_box S (.t rfl) rfl fun g1 a w S => run S (.ac rfl <| .z) fun a w S => st_nil (then_normal (hK1 _ _ (wp_seq_k fun _ hK1 => wp_region_lit (run S (.fa underlying96 sizeOf66 13 rfl rfl rfl <| .la gt66 0 rfl rfl rfl <| .fa underlying74 sizeOf3 0 rfl rfl rfl <| .yy (ys_ldO ⟨isAgg3, sizeOf3⟩ (.t rfl) (fun _ => h1)) rfl <| .fa underlying74 sizeOf3 1 rfl rfl rfl <| .yy (ys_ldO ⟨isAgg3, sizeOf3⟩ (.t rfl) (fun _ => h2)) rfl <| .yy (ys_bld (ps := [(0, Go.Operand.tmp 7), (1, Go.Operand.tmp 9)]) (us := [_, _]) bld66 (.cons (.t rfl) (.cons (.t rfl) .nil)) rfl) rfl <| .yy (ys_eqA (.t rfl) (.t rfl) eq66) rfl <| .mv rfl <| .z) fun a w S => st_yg S rfl rfl (Yr.ys (ys_fieldN (FieldT.mk underlying96 rfl sizeOf37 rfl) (.t rfl) (i' := 19) rfl)) rfl fun a w S => st_yg S rfl rfl (Yr.ys (ys_fieldN (FieldT.mk underlying37 rfl sizeOf35 rfl) (Ev.g rfl) (i' := 20) rfl)) rfl fun a w S => st_yg S rfl rfl (Yr.ys (ys_ldA ⟨isAgg35, sizeOf35⟩ (Ev.g rfl) (k := 0) rfl rfl)) rfl fun a w S => st_yg S rfl rfl (Yr.ys (ys_ldOA ⟨isAgg74, sizeOf74⟩ (.t rfl) (vs := [_, _, _]) rfl (fun _ => hdc))) rfl fun a w S => st_yg S rfl rfl (ys_call call109 (.cons (Ev.g rfl) (.cons (Ev.g rfl) .nil)) (fun hp w W => c109 _ _ _ _ _ _ _ (by exact .old W (by assumption)))) rfl fun a w S => ?_))))))
  refine run S (.yy (ys_and (.t rfl) (Ev.g rfl) Ev.c) rfl <| .as rfl <| .z) fun a w S => st_nil (then_normal (hK1 _ _ (wp_ret (st_ret S (results1 S results171 (Rv.tmp rfl)) ?_))))
  exact ⟨rfl, S.wd.below⟩
theorem c118 (w0 : World) (v : Value) (l : List SLog) (x y z : Int) (h : Sl SLog.enc 22 w0 w0.heap.size v l) (hl : LogsRd w0 l) :
    Calls Tryz.prog 118 #[v, .agg #[.int .i64 x, .int .i64 y, .int .i64 z]] w0 fun e w' => e = .returned (.bool (forgotK l ⟨x, y, z⟩)) ∧ Bel w0.heap.size w0 w' := by
  have hs := h
  have rw_i := idxW_any (forgotB ⟨x, y, z⟩) l 0
  refine enter2 func118 rfl ntmps118 rfl fun a S => wp_seq_k fun _ hK1 => wp_region_lit (st_m (op_box S (.t rfl) rfl fun g1 a w S => run S (.ac rfl <| .z) fun a w S => st_nil (then_normal (hK1 _ _ (wp_seq_k fun _ hK1 => wp_region_lit (run S (.mv rfl <| .yy (ys_mkFunc (.cons (.t rfl) .nil)) rfl <| .z) fun a w S => ?_))))))
  refine st_y S (ys_call call170 (.cons (.t rfl) (.cons (.t rfl) .nil)) (fun _ w' W' => x170 w' _ l 171 [.pointer (some ⟨g1, 0, none⟩)] (forgotB ⟨x, y, z⟩) call171
    (fun w'' W'' q hq => c171 w'' q ⟨x, y, z⟩ g1 (((hl q hq).old W').old W'') (Wd.cellOld W'' (Wd.cell W' (k := 0) rfl rfl)) (Wd.cellOld W'' (Wd.cell W' (k := 0) rfl rfl)) (Wd.cellOld W'' (Wd.cell W' (k := 0) rfl rfl))) (Sl.old W' hs))) rfl ?_
  clear S a w
  intro a w S
  refine run S (.yy (ys_geq (.t rfl) Ev.c) rfl <| .z) fun a w S => ?_
  rw [rw_i] at S
  refine run S (.as rfl <| .z) fun a w S => st_nil (then_normal (hK1 _ _ (wp_ret (st_ret S (results1 S results118 (Rv.tmp rfl)) ?_))))
  exact ⟨rfl, S.wd.below⟩
end Go.Proofs.YtakpdbmdfnialaaGreat
set_option linter.unusedVariables false
set_option linter.unusedSimpArgs false
set_option maxRecDepth 100000
set_option maxHeartbeats 4000000
namespace Go.Fw
open Go.RowKit
def toldB (pr : List SLog) (x y : SLog) : Bool := decide (y.kind = 1) && decide (y.u.1.key = x.key) && (x.c.1.ctx.covers y.u.1.dot || forgotK pr y.u.1.dot)
def toldU (pr : List SLog) (x : SLog) (l : List SLog) : List SUpd := (l.filter (toldB pr x)).map (·.u)
def keepC (C : Ctx) (p : SLog) : Ctx := C.prune p.an p.al
def cutC (c : Cart) (p : SLog) : Cart := pruneK c p.an p.al
def rightK (l : List SLog) (x : SLog) : Bool :=
  decide ((meantK ((toldU (goneK l x.key) x l).map (·.1))).2 = 0) && (decide ((goneK l x.key).foldl cutC (meantK ((toldU (goneK l x.key) x l).map (·.1))).1 = x.c.1) && leqL ((goneK l x.key).foldl keepC x.s.1.ctx) x.c.1.ctx)
theorem told_snoc {pr l : List SLog} {x y : SLog} {i : Nat} (h : l[i]? = some y) : toldU pr x (l.take (i + 1)) = toldU pr x (l.take i) ++ if toldB pr x y = true then [y.u] else [] := by
  unfold toldU
  rw [List.take_add_one, h, Option.toList_some, List.filter_append, List.map_append]
  congr 1
  rw [List.filter_cons, List.filter_nil]
  split <;> rfl
theorem told_len (pr l : List SLog) (x : SLog) : (toldU pr x l).length ≤ l.length := by
  unfold toldU
  rw [List.length_map]
  exact List.length_filter_le _ _
theorem upd_enc (x : SUpd) : #[Value.string (bs x.1.key), .int .i64 x.1.dot.node, .int .i64 x.1.dot.life, .int .i64 x.1.dot.count, .string (bs x.1.item), .int .i64 x.1.qty, .int .u64 (x.1.price.toNat : Int), .slice x.2.a1 x.2.n1 x.2.c1, .slice x.2.a2 x.2.n2 x.2.c2, .slice x.2.a3 x.2.n3 x.2.c3] = (SUpd.enc x).toArray := rfl
structure CutOk (c : Cart) (T : Ctx) : Prop where
  l1 : c.ents.length ≤ 1048576
  l2 : c.ctx.marks.length ≤ 1048576
  l3 : c.ctx.cloud.length ≤ 1048576
  l4 : T.marks.length ≤ 1048576
  l5 : T.cloud.length ≤ 1048576
  may : ∀ m ∈ T.marks, mayD m = true
theorem CutOk.cut {c : Cart} {T : Ctx} (h : CutOk c T) (p : SLog) : CutOk (cutC c p) (keepC T p) := by
  obtain ⟨h1, h2, h3, h4, h5, h6⟩ := h
  have f := fun (α : Type) (q : α → Bool) (l : List α) => List.length_filter_le q l
  refine ⟨?_, ?_, ?_, ?_, ?_, ?_⟩
  · exact Nat.le_trans (List.length_filter_le _ _) h1
  · exact Nat.le_trans (List.length_filter_le _ _) h2
  · exact Nat.le_trans (List.length_filter_le _ _) h3
  · exact Nat.le_trans (List.length_filter_le _ _) h4
  · exact Nat.le_trans (List.length_filter_le _ _) h5
  · exact fun m hm => h6 m (List.mem_filter.1 hm).1
theorem meant_cart {U : List Upd} (h : (meantK U).2 = 0) : CartOk (meantK U).1 := by
  unfold meantK at h ⊢
  split at h
  · rename_i h1
    rw [if_pos h1]
    split at h
    · rename_i h2
      rw [if_pos h2]
      split at h
      · rename_i h3
        rw [if_pos h3]
        split at h
        · rename_i h4
          rw [if_pos h4]
          exact (canE_ok _).1 h4
        · rename_i h4; exact absurd h h4
      · rename_i h3; exact absurd h h3
    · rename_i h2; exact absurd h h2
  · exact absurd h (by decide)
end Go.Fw
namespace Go.Proofs.YtakpdbmdfnialaaGreat
open Go.Fw Go.Proofs Go.RowKit Go.Proofs.Tryz
theorem c125 (w0 : World) (v : Value) (l : List SLog) (x : SLog) (h : Sl SLog.enc 22 w0 w0.heap.size v l) (hl : LogsRd w0 l) (hn : l.length ≤ 1048576) (hx : LogRd w0 x) (hB : RoomU ((toldU (goneK l x.key) x l).map (·.1))) (hm1 : ∀ m ∈ x.s.1.ctx.marks, mayD m = true) (hm2 : ∀ m ∈ x.c.1.ctx.marks, mayD m = true) (hs1 : x.s.1.ctx.marks.length ≤ 1048576) (hs2 : x.s.1.ctx.cloud.length ≤ 1048576) :
    Calls Tryz.prog 125 #[v, .agg (SLog.enc x).toArray] w0 fun e w' => e = .returned (.bool (rightK l x)) ∧ Bel w0.heap.size w0 w' := by
  have hs := h
  obtain ⟨A, cap, rfl, hl0, hcap, hA⟩ := h
  have hpl := gone_len l x.key
  have hlp : LogsRd w0 (goneK l x.key) := fun y hy => hl y (List.mem_filter.1 hy).1
  have q1 := hx.c.ctx
  have q2 := hx.s.ctx
  have q3 := hx.c.ents
  refine enter2 Tryz.func125 rfl Tryz.ntmps125 rfl fun a S => ?_
  refine wp_seq_k fun _ hK1 => ?_
  refine wp_region_lit ?_
  (refine st_m (op_box S (Ev.t rfl) rfl ?_); clear S a; intro g1 a w S)
  (refine st_y S (Yr.ys (ys_assign Ev.c)) rfl ?_; clear S a w; intro a w S)
  refine st_nil ?_
  (refine (then_normal (hK1 _ _ ?_)); clear hK1)
  refine wp_seq_k fun _ hK1 => ?_
  refine wp_region_lit ?_
  (refine st_y S (Yr.ys (ys_move (Ev.t rfl))) rfl ?_; clear S a w; intro a w S)
  (refine st_y S (Yr.ys (ys_fieldN (FieldT.mk Tryz.underlying96 rfl Tryz.sizeOf9 rfl) (Ev.t rfl) (i' := 15) rfl)) rfl ?_; clear S a w; intro a w S)
  (refine st_y S (Yr.ys (ys_ld ⟨Tryz.isAgg9, Tryz.sizeOf9⟩ (Ev.t rfl) (k := 0) rfl rfl)) rfl ?_; clear S a w; intro a w S)
  (refine st_m (op_calls S Tryz.call119 (EvL.cons (Ev.t rfl) (EvL.cons (Ev.t rfl) EvL.nil)) (c119 _ _ _ _ (by exact .old S.wd (by assumption)) (by assumption)) rfl ?_); clear S a w; rintro _ _ ⟨A1, r1, rfl, rfl⟩ a w S)
  (refine st_y S (Yr.ys (ys_assign (Ev.t rfl))) rfl ?_; clear S a w; intro a w S)
  refine st_nil ?_
  (refine (then_normal (hK1 _ _ ?_)); clear hK1)
  refine wp_seq_k fun _ hK1 => ?_
  refine wp_region_lit ?_
  (refine st_y S (Yr.ys (ys_assign Ev.c)) rfl ?_; clear S a w; intro a w S)
  refine st_nil ?_
  (refine (then_normal (hK1 _ _ ?_)); clear hK1)
  refine wp_seq_k fun _ hK1 => ?_
  refine wp_seq_k fun _ hK2 => ?_
  refine wp_region_lit ?_
  (refine st_y S (Yr.ys (ys_move (Ev.t rfl))) rfl ?_; clear S a w; intro a w S)
  (refine st_y S (Yr.ys (ys_lenS Tryz.underlying84 (Ev.t rfl))) rfl ?_; clear S a w; intro a w S)
  (refine st_y S (Yr.ys (ys_move Ev.c)) rfl ?_; clear S a w; intro a w S)
  refine st_nil ?_
  (refine (then_normal (hK2 _ _ ?_)); clear hK2)
  refine wp_block ?_
  replace S := S.nil_ 77 10 SUpd.enc none
  refine st_loopM S [6, 20] (X := Nat × Option Addr × Nat) (fun q => [(6, true, .slice q.2.1 (toldU (goneK l x.key) x (l.take q.1)).length q.2.2), (20, true, .int .i64 (q.1 : Int))])
    (fun q => [rowOf 77 10 SUpd.enc q.2.1 q.2.2 (toldU (goneK l x.key) x (l.take q.1)), rowOf 96 22 SLog.enc A1 r1 (goneK l x.key), .blk g1 (.cells (SLog.enc x).toArray 96)]) (fun q => q.1 ≤ l.length) (fun q => l.length - q.1) (0, none, 0) (Nat.zero_le _) (by repeat (first | exact Fits.nil | refine Fits.skip rfl ?_ | refine Fits.cons rfl ?_)) (by repeat (first | exact Picks.nil | (refine Picks.rest ?_; (repeat (first | exact List.Sublist.refl _ | refine List.Sublist.cons_cons _ ?_ | refine List.Sublist.cons _ ?_)); done) | refine Picks.take 0 rfl ?_ | refine Picks.take 1 rfl ?_ | refine Picks.take 2 rfl ?_ | refine Picks.take 3 rfl ?_ | refine Picks.take 4 rfl ?_ | refine Picks.take 5 rfl ?_ | refine Picks.take 6 rfl ?_ | refine Picks.take 7 rfl ?_ | refine Picks.take 8 rfl ?_ | refine Picks.take 9 rfl ?_ | refine Picks.take 10 rfl ?_ | refine Picks.take 11 rfl ?_)) ?_
  clear S
  rintro ⟨i, B, cB⟩ a w hi S
  dsimp only at hi S
  have htl := told_len (goneK l x.key) (l.take i) x
  rw [List.length_take] at htl
  by_cases hlt : i < l.length
  · obtain ⟨gq, oq, y, rfl, hy, hd, hc⟩ := row_at hA hlt
    have hst := told_snoc (pr := goneK l x.key) (x := x) hy
    generalize toldU (goneK l x.key) x (l.take i) = G at *
    generalize hpr : goneK l x.key = pr at *
    by_cases hk : y.kind = 1
    · have rw_k := decide_eq_true hk
      by_cases hky : y.u.1.key = x.key
      · have rw_y := decide_eq_true hky
        cases hcv : x.c.1.ctx.covers y.u.1.dot with
        | true =>
          have rw_c := hcv
          have ht : toldB pr x y = true := by unfold toldB; rw [rw_k, rw_y, hcv]; rfl
          rw [ht, if_pos rfl] at hst
          have rw_e := upd_enc y.u
          refine wp_seq_k fun _ hK2 => ?_
          refine wp_region_lit ?_
          (refine st_y S (Yr.ys (ys_T (by omega) (ys_lss (Ev.t rfl) (Ev.t rfl)))) rfl ?_; clear S a w; intro a w S)
          refine st_nil ?_
          (refine (then_normal (hK2 _ _ ?_)); clear hK2)
          refine wp_seq_k fun _ hK2 => ?_
          refine st_then S (Ev.t rfl) ?_
          refine wp_skip ?_
          (refine (then_normal (hK2 _ _ ?_)); clear hK2)
          refine wp_seq_k fun _ hK2 => ?_
          refine wp_block ?_
          refine wp_seq_k fun _ hK3 => ?_
          refine wp_region_lit ?_
          (refine st_y S (Yr.ys (ys_ixS Tryz.underlying84 Tryz.sizeOf96 (Ev.t rfl) (Ev.t rfl) (fun _ => by omega))) rfl ?_; clear S a w; intro a w S)
          (refine st_y S (Yr.ys (ys_ldOA ⟨Tryz.isAgg96, Tryz.sizeOf96⟩ (Ev.t rfl) (vs := [_, _, _, _, _, _, _, _, _, _, _, _, _, _, _, _, _, _, _, _, _, _]) rfl (fun _ => hc))) rfl ?_; clear S a w; intro a w S)
          (refine st_m (op_alloc S Tryz.zeroValue96 (cs := _) rfl rfl ?_); clear S a w; intro g2 a w S)
          (refine st_m (op_stW S Tryz.sizeOf96 (Ev.t rfl) (Ev.t rfl) (k := 0) rfl rfl rfl (by simp [Value.oneCell']) ?_); clear S a w; intro a w S)
          refine st_nil ?_
          (refine (then_normal (hK3 _ _ ?_)); clear hK3)
          refine wp_seq_k fun _ hK3 => ?_
          refine wp_region_lit ?_
          (refine st_y S (Yr.ys (ys_fieldN (FieldT.mk Tryz.underlying96 rfl Tryz.sizeOf3 rfl) (Ev.t rfl) (i' := 0) rfl)) rfl ?_; clear S a w; intro a w S)
          (refine st_y S (Yr.ys (ys_ld ⟨Tryz.isAgg3, Tryz.sizeOf3⟩ (Ev.t rfl) (k := 0) rfl rfl)) rfl ?_; clear S a w; intro a w S)
          (refine st_y S (Yr.ys (ys_T (by omega) (ys_eql (Ev.t rfl) Ev.c))) rfl ?_; clear S a w; intro a w S)
          (refine st_y S (Yr.ys (ys_move (Ev.t rfl))) rfl ?_; clear S a w; intro a w S)
          (refine st_yt S rfl rfl (Yr.ys (ys_fieldN (FieldT.mk Tryz.underlying96 rfl Tryz.sizeOf77 rfl) (Ev.t rfl) (i' := 3) rfl)) rfl ?_; clear S a w; intro a w S)
          (refine st_yt S rfl rfl (Yr.ys (ys_fieldN (FieldT.mk Tryz.underlying77 rfl Tryz.sizeOf9 rfl) (Ev.t rfl) (i' := 3) rfl)) rfl ?_; clear S a w; intro a w S)
          (refine st_yt S rfl rfl (Yr.ys (ys_ld ⟨Tryz.isAgg9, Tryz.sizeOf9⟩ (Ev.t rfl) (k := 0) rfl rfl)) rfl ?_; clear S a w; intro a w S)
          (refine st_yt S rfl rfl (Yr.ys (ys_fieldN (FieldT.mk Tryz.underlying96 rfl Tryz.sizeOf9 rfl) (Ev.t rfl) (i' := 15) rfl)) rfl ?_; clear S a w; intro a w S)
          (refine st_yt S rfl rfl (Yr.ys (ys_ld ⟨Tryz.isAgg9, Tryz.sizeOf9⟩ (Ev.t rfl) (k := 3) rfl rfl)) rfl ?_; clear S a w; intro a w S)
          (refine st_yt S rfl rfl (Yr.ys (ys_eqlStr (Ev.t rfl) (Ev.t rfl))) rfl ?_; clear S a w; intro a w S)
          rw [rw_y] at S
          (refine st_y S (Yr.ys (ys_pickT (Ev.t rfl) (Ev.t rfl))) rfl ?_; clear S a w; intro a w S)
          (refine st_y S (Yr.ys (ys_move (Ev.t rfl))) rfl ?_; clear S a w; intro a w S)
          (refine st_yt S rfl rfl (Yr.ys (ys_fieldN (FieldT.mk Tryz.underlying96 rfl Tryz.sizeOf37 rfl) (Ev.t rfl) (i' := 19) rfl)) rfl ?_; clear S a w; intro a w S)
          (refine st_yt S rfl rfl (Yr.ys (ys_fieldN (FieldT.mk Tryz.underlying37 rfl Tryz.sizeOf35 rfl) (Ev.t rfl) (i' := 20) rfl)) rfl ?_; clear S a w; intro a w S)
          (refine st_yt S rfl rfl (Yr.ys (ys_ldA ⟨Tryz.isAgg35, Tryz.sizeOf35⟩ (Ev.t rfl) (k := 3) rfl rfl)) rfl ?_; clear S a w; intro a w S)
          (refine st_yt S rfl rfl (Yr.ys (ys_fieldN (FieldT.mk Tryz.underlying96 rfl Tryz.sizeOf77 rfl) (Ev.t rfl) (i' := 3) rfl)) rfl ?_; clear S a w; intro a w S)
          (refine st_yt S rfl rfl (Yr.ys (ys_fieldN (FieldT.mk Tryz.underlying77 rfl Tryz.sizeOf74 rfl) (Ev.t rfl) (i' := 4) rfl)) rfl ?_; clear S a w; intro a w S)
          (refine st_yt S rfl rfl (Yr.ys (ys_ldA ⟨Tryz.isAgg74, Tryz.sizeOf74⟩ (Ev.t rfl) (k := 0) rfl rfl)) rfl ?_; clear S a w; intro a w S)
          (refine st_yt S rfl rfl (ys_call Tryz.call109 (EvL.cons (Ev.t rfl) (EvL.cons (Ev.t rfl) EvL.nil)) (fun hp w W => c109 _ _ _ _ _ _ _ (by exact .old W (by assumption)))) rfl ?_; clear S a w; intro a w S)
          rw [rw_c] at S
          (refine st_yt S rfl rfl (Yr.ys (ys_move (Ev.t rfl))) rfl ?_; clear S a w; intro a w S)
          (refine st_skip S rfl rfl rfl rfl ?_; clear S a w; intro a w S)
          (refine st_skip S rfl rfl rfl rfl ?_; clear S a w; intro a w S)
          (refine st_skip S rfl rfl rfl rfl ?_; clear S a w; intro a w S)
          (refine st_skip S rfl rfl rfl rfl ?_; clear S a w; intro a w S)
          (refine st_skip S rfl rfl rfl rfl ?_; clear S a w; intro a w S)
          (refine st_yt S rfl rfl (Yr.ys (ys_pickT (Ev.t rfl) Ev.c)) rfl ?_; clear S a w; intro a w S)
          (refine st_y S (Yr.ys (ys_pickT (Ev.t rfl) (Ev.t rfl))) rfl ?_; clear S a w; intro a w S)
          refine st_nil ?_
          (refine (then_normal (hK3 _ _ ?_)); clear hK3)
          refine st_then S (Ev.t rfl) ?_
          refine wp_region_lit ?_
          (refine st_y S (Yr.ys (ys_move (Ev.t rfl))) rfl ?_; clear S a w; intro a w S)
          (refine st_y S (Yr.ys (ys_fieldN (FieldT.mk Tryz.underlying96 rfl Tryz.sizeOf77 rfl) (Ev.t rfl) (i' := 3) rfl)) rfl ?_; clear S a w; intro a w S)
          (refine st_y S (Yr.ys (ys_ldA ⟨Tryz.isAgg77, Tryz.sizeOf77⟩ (Ev.t rfl) (k := 0) rfl rfl)) rfl ?_; clear S a w; intro a w S)
          rw [rw_e] at S
          (refine st_m (op_bslice1 S Tryz.underlying72 inf77 rfl rfl rfl (Ev.t rfl) rfl rfl rfl ?_); clear S a w; intro g3 a w S)
          rw [rw_e] at S
          (refine st_m (op_push S Tryz.underlying72 inf77 rfl (k := 2) (j := 0) rfl (Ev.t rfl) (Ev.t rfl) rfl rfl rfl rfl (by first | omega | (simp only [List.length_append, List.length_cons, List.length_nil]; omega)) rfl rfl rfl ?_); clear S a w; intro A2 cap1 a w S)
          rw [rw_e] at S
          (refine st_y S (Yr.ys (ys_assign (Ev.t rfl))) rfl ?_; clear S a w; intro a w S)
          rw [rw_e] at S
          refine st_nil ?_
          rw [rw_e] at S
          (refine (in_normal (then_normal (hK2 _ _ ?_))); clear hK2)
          rw [rw_e] at S
          refine wp_region_lit ?_
          rw [rw_e] at S
          (refine st_y S (Yr.ys (ys_addI (Ev.t rfl) Ev.c (fun _ => by unfold I64; omega))) rfl ?_; clear S a w; intro a w S)
          rw [rw_e] at S
          (refine st_y S (Yr.ys (ys_move (Ev.t rfl))) rfl ?_; clear S a w; intro a w S)
          rw [rw_e] at S
          refine st_nil ?_
          rw [rw_e] at S
          refine (then_normal ?_)
          rw [rw_e] at S
          exact ⟨(i + 1, A2, cap1), by dsimp only; omega, by dsimp only; omega, by dsimp only; rw [hst]; exact S.picks (by repeat (first | exact Fits.nil | refine Fits.skip rfl ?_ | refine Fits.cons rfl ?_)) (by repeat (first | exact Picks.nil | (refine Picks.rest ?_; (repeat (first | exact List.Sublist.refl _ | refine List.Sublist.cons_cons _ ?_ | refine List.Sublist.cons _ ?_)); done) | refine Picks.take 0 rfl ?_ | refine Picks.take 1 rfl ?_ | refine Picks.take 2 rfl ?_ | refine Picks.take 3 rfl ?_ | refine Picks.take 4 rfl ?_ | refine Picks.take 5 rfl ?_ | refine Picks.take 6 rfl ?_ | refine Picks.take 7 rfl ?_ | refine Picks.take 8 rfl ?_ | refine Picks.take 9 rfl ?_ | refine Picks.take 10 rfl ?_ | refine Picks.take 11 rfl ?_))⟩
        | false =>
          have rw_c := hcv
          cases hfg : forgotK pr y.u.1.dot with
          | true =>
            have rw_f := hfg
            have ht : toldB pr x y = true := by unfold toldB; rw [rw_k, rw_y, hcv, hfg]; rfl
            rw [ht, if_pos rfl] at hst
            have rw_e := upd_enc y.u
            refine wp_seq_k fun _ hK2 => ?_
            refine wp_region_lit ?_
            (refine st_y S (Yr.ys (ys_T (by omega) (ys_lss (Ev.t rfl) (Ev.t rfl)))) rfl ?_; clear S a w; intro a w S)
            refine st_nil ?_
            (refine (then_normal (hK2 _ _ ?_)); clear hK2)
            refine wp_seq_k fun _ hK2 => ?_
            refine st_then S (Ev.t rfl) ?_
            refine wp_skip ?_
            (refine (then_normal (hK2 _ _ ?_)); clear hK2)
            refine wp_seq_k fun _ hK2 => ?_
            refine wp_block ?_
            refine wp_seq_k fun _ hK3 => ?_
            refine wp_region_lit ?_
            (refine st_y S (Yr.ys (ys_ixS Tryz.underlying84 Tryz.sizeOf96 (Ev.t rfl) (Ev.t rfl) (fun _ => by omega))) rfl ?_; clear S a w; intro a w S)
            (refine st_y S (Yr.ys (ys_ldOA ⟨Tryz.isAgg96, Tryz.sizeOf96⟩ (Ev.t rfl) (vs := [_, _, _, _, _, _, _, _, _, _, _, _, _, _, _, _, _, _, _, _, _, _]) rfl (fun _ => hc))) rfl ?_; clear S a w; intro a w S)
            (refine st_m (op_alloc S Tryz.zeroValue96 (cs := _) rfl rfl ?_); clear S a w; intro g2 a w S)
            (refine st_m (op_stW S Tryz.sizeOf96 (Ev.t rfl) (Ev.t rfl) (k := 0) rfl rfl rfl (by simp [Value.oneCell']) ?_); clear S a w; intro a w S)
            refine st_nil ?_
            (refine (then_normal (hK3 _ _ ?_)); clear hK3)
            refine wp_seq_k fun _ hK3 => ?_
            refine wp_region_lit ?_
            (refine st_y S (Yr.ys (ys_fieldN (FieldT.mk Tryz.underlying96 rfl Tryz.sizeOf3 rfl) (Ev.t rfl) (i' := 0) rfl)) rfl ?_; clear S a w; intro a w S)
            (refine st_y S (Yr.ys (ys_ld ⟨Tryz.isAgg3, Tryz.sizeOf3⟩ (Ev.t rfl) (k := 0) rfl rfl)) rfl ?_; clear S a w; intro a w S)
            (refine st_y S (Yr.ys (ys_T (by omega) (ys_eql (Ev.t rfl) Ev.c))) rfl ?_; clear S a w; intro a w S)
            (refine st_y S (Yr.ys (ys_move (Ev.t rfl))) rfl ?_; clear S a w; intro a w S)
            (refine st_yt S rfl rfl (Yr.ys (ys_fieldN (FieldT.mk Tryz.underlying96 rfl Tryz.sizeOf77 rfl) (Ev.t rfl) (i' := 3) rfl)) rfl ?_; clear S a w; intro a w S)
            (refine st_yt S rfl rfl (Yr.ys (ys_fieldN (FieldT.mk Tryz.underlying77 rfl Tryz.sizeOf9 rfl) (Ev.t rfl) (i' := 3) rfl)) rfl ?_; clear S a w; intro a w S)
            (refine st_yt S rfl rfl (Yr.ys (ys_ld ⟨Tryz.isAgg9, Tryz.sizeOf9⟩ (Ev.t rfl) (k := 0) rfl rfl)) rfl ?_; clear S a w; intro a w S)
            (refine st_yt S rfl rfl (Yr.ys (ys_fieldN (FieldT.mk Tryz.underlying96 rfl Tryz.sizeOf9 rfl) (Ev.t rfl) (i' := 15) rfl)) rfl ?_; clear S a w; intro a w S)
            (refine st_yt S rfl rfl (Yr.ys (ys_ld ⟨Tryz.isAgg9, Tryz.sizeOf9⟩ (Ev.t rfl) (k := 3) rfl rfl)) rfl ?_; clear S a w; intro a w S)
            (refine st_yt S rfl rfl (Yr.ys (ys_eqlStr (Ev.t rfl) (Ev.t rfl))) rfl ?_; clear S a w; intro a w S)
            rw [rw_y] at S
            (refine st_y S (Yr.ys (ys_pickT (Ev.t rfl) (Ev.t rfl))) rfl ?_; clear S a w; intro a w S)
            (refine st_y S (Yr.ys (ys_move (Ev.t rfl))) rfl ?_; clear S a w; intro a w S)
            (refine st_yt S rfl rfl (Yr.ys (ys_fieldN (FieldT.mk Tryz.underlying96 rfl Tryz.sizeOf37 rfl) (Ev.t rfl) (i' := 19) rfl)) rfl ?_; clear S a w; intro a w S)
            (refine st_yt S rfl rfl (Yr.ys (ys_fieldN (FieldT.mk Tryz.underlying37 rfl Tryz.sizeOf35 rfl) (Ev.t rfl) (i' := 20) rfl)) rfl ?_; clear S a w; intro a w S)
            (refine st_yt S rfl rfl (Yr.ys (ys_ldA ⟨Tryz.isAgg35, Tryz.sizeOf35⟩ (Ev.t rfl) (k := 3) rfl rfl)) rfl ?_; clear S a w; intro a w S)
            (refine st_yt S rfl rfl (Yr.ys (ys_fieldN (FieldT.mk Tryz.underlying96 rfl Tryz.sizeOf77 rfl) (Ev.t rfl) (i' := 3) rfl)) rfl ?_; clear S a w; intro a w S)
            (refine st_yt S rfl rfl (Yr.ys (ys_fieldN (FieldT.mk Tryz.underlying77 rfl Tryz.sizeOf74 rfl) (Ev.t rfl) (i' := 4) rfl)) rfl ?_; clear S a w; intro a w S)
            (refine st_yt S rfl rfl (Yr.ys (ys_ldA ⟨Tryz.isAgg74, Tryz.sizeOf74⟩ (Ev.t rfl) (k := 0) rfl rfl)) rfl ?_; clear S a w; intro a w S)
            (refine st_yt S rfl rfl (ys_call Tryz.call109 (EvL.cons (Ev.t rfl) (EvL.cons (Ev.t rfl) EvL.nil)) (fun hp w W => c109 _ _ _ _ _ _ _ (by exact .old W (by assumption)))) rfl ?_; clear S a w; intro a w S)
            rw [rw_c] at S
            (refine st_yt S rfl rfl (Yr.ys (ys_move (Ev.t rfl))) rfl ?_; clear S a w; intro a w S)
            (refine st_yt S rfl rfl (Yr.ys (ys_move (Ev.t rfl))) rfl ?_; clear S a w; intro a w S)
            (refine st_yt S rfl rfl (Yr.ys (ys_fieldN (FieldT.mk Tryz.underlying96 rfl Tryz.sizeOf77 rfl) (Ev.t rfl) (i' := 3) rfl)) rfl ?_; clear S a w; intro a w S)
            (refine st_yt S rfl rfl (Yr.ys (ys_fieldN (FieldT.mk Tryz.underlying77 rfl Tryz.sizeOf74 rfl) (Ev.t rfl) (i' := 4) rfl)) rfl ?_; clear S a w; intro a w S)
            (refine st_yt S rfl rfl (Yr.ys (ys_ldA ⟨Tryz.isAgg74, Tryz.sizeOf74⟩ (Ev.t rfl) (k := 0) rfl rfl)) rfl ?_; clear S a w; intro a w S)
            (refine st_yt S rfl rfl (ys_call Tryz.call118 (EvL.cons (Ev.t rfl) (EvL.cons (Ev.t rfl) EvL.nil)) (fun hp w W => c118 _ _ _ _ _ _ (by exact Sl.of_own W (k := 2) rfl (fun _ => rfl)) (by exact .old W (by assumption)))) rfl ?_; clear S a w; intro a w S)
            rw [rw_f] at S
            (refine st_yt S rfl rfl (Yr.ys (ys_pickF (Ev.t rfl) (Ev.t rfl))) rfl ?_; clear S a w; intro a w S)
            (refine st_y S (Yr.ys (ys_pickT (Ev.t rfl) (Ev.t rfl))) rfl ?_; clear S a w; intro a w S)
            refine st_nil ?_
            (refine (then_normal (hK3 _ _ ?_)); clear hK3)
            refine st_then S (Ev.t rfl) ?_
            refine wp_region_lit ?_
            (refine st_y S (Yr.ys (ys_move (Ev.t rfl))) rfl ?_; clear S a w; intro a w S)
            (refine st_y S (Yr.ys (ys_fieldN (FieldT.mk Tryz.underlying96 rfl Tryz.sizeOf77 rfl) (Ev.t rfl) (i' := 3) rfl)) rfl ?_; clear S a w; intro a w S)
            (refine st_y S (Yr.ys (ys_ldA ⟨Tryz.isAgg77, Tryz.sizeOf77⟩ (Ev.t rfl) (k := 0) rfl rfl)) rfl ?_; clear S a w; intro a w S)
            rw [rw_e] at S
            (refine st_m (op_bslice1 S Tryz.underlying72 inf77 rfl rfl rfl (Ev.t rfl) rfl rfl rfl ?_); clear S a w; intro g3 a w S)
            rw [rw_e] at S
            (refine st_m (op_push S Tryz.underlying72 inf77 rfl (k := 2) (j := 0) rfl (Ev.t rfl) (Ev.t rfl) rfl rfl rfl rfl (by first | omega | (simp only [List.length_append, List.length_cons, List.length_nil]; omega)) rfl rfl rfl ?_); clear S a w; intro A2 cap1 a w S)
            rw [rw_e] at S
            (refine st_y S (Yr.ys (ys_assign (Ev.t rfl))) rfl ?_; clear S a w; intro a w S)
            rw [rw_e] at S
            refine st_nil ?_
            rw [rw_e] at S
            (refine (in_normal (then_normal (hK2 _ _ ?_))); clear hK2)
            rw [rw_e] at S
            refine wp_region_lit ?_
            rw [rw_e] at S
            (refine st_y S (Yr.ys (ys_addI (Ev.t rfl) Ev.c (fun _ => by unfold I64; omega))) rfl ?_; clear S a w; intro a w S)
            rw [rw_e] at S
            (refine st_y S (Yr.ys (ys_move (Ev.t rfl))) rfl ?_; clear S a w; intro a w S)
            rw [rw_e] at S
            refine st_nil ?_
            rw [rw_e] at S
            refine (then_normal ?_)
            rw [rw_e] at S
            exact ⟨(i + 1, A2, cap1), by dsimp only; omega, by dsimp only; omega, by dsimp only; rw [hst]; exact S.picks (by repeat (first | exact Fits.nil | refine Fits.skip rfl ?_ | refine Fits.cons rfl ?_)) (by repeat (first | exact Picks.nil | (refine Picks.rest ?_; (repeat (first | exact List.Sublist.refl _ | refine List.Sublist.cons_cons _ ?_ | refine List.Sublist.cons _ ?_)); done) | refine Picks.take 0 rfl ?_ | refine Picks.take 1 rfl ?_ | refine Picks.take 2 rfl ?_ | refine Picks.take 3 rfl ?_ | refine Picks.take 4 rfl ?_ | refine Picks.take 5 rfl ?_ | refine Picks.take 6 rfl ?_ | refine Picks.take 7 rfl ?_ | refine Picks.take 8 rfl ?_ | refine Picks.take 9 rfl ?_ | refine Picks.take 10 rfl ?_ | refine Picks.take 11 rfl ?_))⟩
          | false =>
            have rw_f := hfg
            have ht : toldB pr x y = false := by unfold toldB; rw [rw_k, rw_y, hcv, hfg]; rfl
            rw [ht, if_neg (by decide), List.append_nil] at hst
            refine wp_seq_k fun _ hK2 => ?_
            refine wp_region_lit ?_
            (refine st_y S (Yr.ys (ys_T (by omega) (ys_lss (Ev.t rfl) (Ev.t rfl)))) rfl ?_; clear S a w; intro a w S)
            refine st_nil ?_
            (refine (then_normal (hK2 _ _ ?_)); clear hK2)
            refine wp_seq_k fun _ hK2 => ?_
            refine st_then S (Ev.t rfl) ?_
            refine wp_skip ?_
            (refine (then_normal (hK2 _ _ ?_)); clear hK2)
            refine wp_seq_k fun _ hK2 => ?_
            refine wp_block ?_
            refine wp_seq_k fun _ hK3 => ?_
            refine wp_region_lit ?_
            (refine st_y S (Yr.ys (ys_ixS Tryz.underlying84 Tryz.sizeOf96 (Ev.t rfl) (Ev.t rfl) (fun _ => by omega))) rfl ?_; clear S a w; intro a w S)
            (refine st_y S (Yr.ys (ys_ldOA ⟨Tryz.isAgg96, Tryz.sizeOf96⟩ (Ev.t rfl) (vs := [_, _, _, _, _, _, _, _, _, _, _, _, _, _, _, _, _, _, _, _, _, _]) rfl (fun _ => hc))) rfl ?_; clear S a w; intro a w S)
            (refine st_m (op_alloc S Tryz.zeroValue96 (cs := _) rfl rfl ?_); clear S a w; intro g2 a w S)
            (refine st_m (op_stW S Tryz.sizeOf96 (Ev.t rfl) (Ev.t rfl) (k := 0) rfl rfl rfl (by simp [Value.oneCell']) ?_); clear S a w; intro a w S)
            refine st_nil ?_
            (refine (then_normal (hK3 _ _ ?_)); clear hK3)
            refine wp_seq_k fun _ hK3 => ?_
            refine wp_region_lit ?_
            (refine st_y S (Yr.ys (ys_fieldN (FieldT.mk Tryz.underlying96 rfl Tryz.sizeOf3 rfl) (Ev.t rfl) (i' := 0) rfl)) rfl ?_; clear S a w; intro a w S)
            (refine st_y S (Yr.ys (ys_ld ⟨Tryz.isAgg3, Tryz.sizeOf3⟩ (Ev.t rfl) (k := 0) rfl rfl)) rfl ?_; clear S a w; intro a w S)
            (refine st_y S (Yr.ys (ys_T (by omega) (ys_eql (Ev.t rfl) Ev.c))) rfl ?_; clear S a w; intro a w S)
            (refine st_y S (Yr.ys (ys_move (Ev.t rfl))) rfl ?_; clear S a w; intro a w S)
            (refine st_yt S rfl rfl (Yr.ys (ys_fieldN (FieldT.mk Tryz.underlying96 rfl Tryz.sizeOf77 rfl) (Ev.t rfl) (i' := 3) rfl)) rfl ?_; clear S a w; intro a w S)
            (refine st_yt S rfl rfl (Yr.ys (ys_fieldN (FieldT.mk Tryz.underlying77 rfl Tryz.sizeOf9 rfl) (Ev.t rfl) (i' := 3) rfl)) rfl ?_; clear S a w; intro a w S)
            (refine st_yt S rfl rfl (Yr.ys (ys_ld ⟨Tryz.isAgg9, Tryz.sizeOf9⟩ (Ev.t rfl) (k := 0) rfl rfl)) rfl ?_; clear S a w; intro a w S)
            (refine st_yt S rfl rfl (Yr.ys (ys_fieldN (FieldT.mk Tryz.underlying96 rfl Tryz.sizeOf9 rfl) (Ev.t rfl) (i' := 15) rfl)) rfl ?_; clear S a w; intro a w S)
            (refine st_yt S rfl rfl (Yr.ys (ys_ld ⟨Tryz.isAgg9, Tryz.sizeOf9⟩ (Ev.t rfl) (k := 3) rfl rfl)) rfl ?_; clear S a w; intro a w S)
            (refine st_yt S rfl rfl (Yr.ys (ys_eqlStr (Ev.t rfl) (Ev.t rfl))) rfl ?_; clear S a w; intro a w S)
            rw [rw_y] at S
            (refine st_y S (Yr.ys (ys_pickT (Ev.t rfl) (Ev.t rfl))) rfl ?_; clear S a w; intro a w S)
            (refine st_y S (Yr.ys (ys_move (Ev.t rfl))) rfl ?_; clear S a w; intro a w S)
            (refine st_yt S rfl rfl (Yr.ys (ys_fieldN (FieldT.mk Tryz.underlying96 rfl Tryz.sizeOf37 rfl) (Ev.t rfl) (i' := 19) rfl)) rfl ?_; clear S a w; intro a w S)
            (refine st_yt S rfl rfl (Yr.ys (ys_fieldN (FieldT.mk Tryz.underlying37 rfl Tryz.sizeOf35 rfl) (Ev.t rfl) (i' := 20) rfl)) rfl ?_; clear S a w; intro a w S)
            (refine st_yt S rfl rfl (Yr.ys (ys_ldA ⟨Tryz.isAgg35, Tryz.sizeOf35⟩ (Ev.t rfl) (k := 3) rfl rfl)) rfl ?_; clear S a w; intro a w S)
            (refine st_yt S rfl rfl (Yr.ys (ys_fieldN (FieldT.mk Tryz.underlying96 rfl Tryz.sizeOf77 rfl) (Ev.t rfl) (i' := 3) rfl)) rfl ?_; clear S a w; intro a w S)
            (refine st_yt S rfl rfl (Yr.ys (ys_fieldN (FieldT.mk Tryz.underlying77 rfl Tryz.sizeOf74 rfl) (Ev.t rfl) (i' := 4) rfl)) rfl ?_; clear S a w; intro a w S)
            (refine st_yt S rfl rfl (Yr.ys (ys_ldA ⟨Tryz.isAgg74, Tryz.sizeOf74⟩ (Ev.t rfl) (k := 0) rfl rfl)) rfl ?_; clear S a w; intro a w S)
            (refine st_yt S rfl rfl (ys_call Tryz.call109 (EvL.cons (Ev.t rfl) (EvL.cons (Ev.t rfl) EvL.nil)) (fun hp w W => c109 _ _ _ _ _ _ _ (by exact .old W (by assumption)))) rfl ?_; clear S a w; intro a w S)
            rw [rw_c] at S
            (refine st_yt S rfl rfl (Yr.ys (ys_move (Ev.t rfl))) rfl ?_; clear S a w; intro a w S)
            (refine st_yt S rfl rfl (Yr.ys (ys_move (Ev.t rfl))) rfl ?_; clear S a w; intro a w S)
            (refine st_yt S rfl rfl (Yr.ys (ys_fieldN (FieldT.mk Tryz.underlying96 rfl Tryz.sizeOf77 rfl) (Ev.t rfl) (i' := 3) rfl)) rfl ?_; clear S a w; intro a w S)
            (refine st_yt S rfl rfl (Yr.ys (ys_fieldN (FieldT.mk Tryz.underlying77 rfl Tryz.sizeOf74 rfl) (Ev.t rfl) (i' := 4) rfl)) rfl ?_; clear S a w; intro a w S)
            (refine st_yt S rfl rfl (Yr.ys (ys_ldA ⟨Tryz.isAgg74, Tryz.sizeOf74⟩ (Ev.t rfl) (k := 0) rfl rfl)) rfl ?_; clear S a w; intro a w S)
            (refine st_yt S rfl rfl (ys_call Tryz.call118 (EvL.cons (Ev.t rfl) (EvL.cons (Ev.t rfl) EvL.nil)) (fun hp w W => c118 _ _ _ _ _ _ (by exact Sl.of_own W (k := 2) rfl (fun _ => rfl)) (by exact .old W (by assumption)))) rfl ?_; clear S a w; intro a w S)
            rw [rw_f] at S
            (refine st_yt S rfl rfl (Yr.ys (ys_pickF (Ev.t rfl) (Ev.t rfl))) rfl ?_; clear S a w; intro a w S)
            (refine st_y S (Yr.ys (ys_pickT (Ev.t rfl) (Ev.t rfl))) rfl ?_; clear S a w; intro a w S)
            refine st_nil ?_
            (refine (then_normal (hK3 _ _ ?_)); clear hK3)
            refine st_else S (Ev.t rfl) ?_
            refine wp_skip ?_
            (refine (in_normal (then_normal (hK2 _ _ ?_))); clear hK2)
            refine wp_region_lit ?_
            (refine st_y S (Yr.ys (ys_addI (Ev.t rfl) Ev.c (fun _ => by unfold I64; omega))) rfl ?_; clear S a w; intro a w S)
            (refine st_y S (Yr.ys (ys_move (Ev.t rfl))) rfl ?_; clear S a w; intro a w S)
            refine st_nil ?_
            refine (then_normal ?_)
            exact ⟨(i + 1, B, cB), by dsimp only; omega, by dsimp only; omega, by dsimp only; rw [hst]; exact S.picks (by repeat (first | exact Fits.nil | refine Fits.skip rfl ?_ | refine Fits.cons rfl ?_)) (by repeat (first | exact Picks.nil | (refine Picks.rest ?_; (repeat (first | exact List.Sublist.refl _ | refine List.Sublist.cons_cons _ ?_ | refine List.Sublist.cons _ ?_)); done) | refine Picks.take 0 rfl ?_ | refine Picks.take 1 rfl ?_ | refine Picks.take 2 rfl ?_ | refine Picks.take 3 rfl ?_ | refine Picks.take 4 rfl ?_ | refine Picks.take 5 rfl ?_ | refine Picks.take 6 rfl ?_ | refine Picks.take 7 rfl ?_ | refine Picks.take 8 rfl ?_ | refine Picks.take 9 rfl ?_ | refine Picks.take 10 rfl ?_ | refine Picks.take 11 rfl ?_))⟩
      · have rw_y := decide_eq_false hky
        have ht : toldB pr x y = false := by unfold toldB; rw [rw_k, rw_y]; rfl
        rw [ht, if_neg (by decide), List.append_nil] at hst
        refine wp_seq_k fun _ hK2 => ?_
        refine wp_region_lit ?_
        (refine st_y S (Yr.ys (ys_T (by omega) (ys_lss (Ev.t rfl) (Ev.t rfl)))) rfl ?_; clear S a w; intro a w S)
        refine st_nil ?_
        (refine (then_normal (hK2 _ _ ?_)); clear hK2)
        refine wp_seq_k fun _ hK2 => ?_
        refine st_then S (Ev.t rfl) ?_
        refine wp_skip ?_
        (refine (then_normal (hK2 _ _ ?_)); clear hK2)
        refine wp_seq_k fun _ hK2 => ?_
        refine wp_block ?_
        refine wp_seq_k fun _ hK3 => ?_
        refine wp_region_lit ?_
        (refine st_y S (Yr.ys (ys_ixS Tryz.underlying84 Tryz.sizeOf96 (Ev.t rfl) (Ev.t rfl) (fun _ => by omega))) rfl ?_; clear S a w; intro a w S)
        (refine st_y S (Yr.ys (ys_ldOA ⟨Tryz.isAgg96, Tryz.sizeOf96⟩ (Ev.t rfl) (vs := [_, _, _, _, _, _, _, _, _, _, _, _, _, _, _, _, _, _, _, _, _, _]) rfl (fun _ => hc))) rfl ?_; clear S a w; intro a w S)
        (refine st_m (op_alloc S Tryz.zeroValue96 (cs := _) rfl rfl ?_); clear S a w; intro g2 a w S)
        (refine st_m (op_stW S Tryz.sizeOf96 (Ev.t rfl) (Ev.t rfl) (k := 0) rfl rfl rfl (by simp [Value.oneCell']) ?_); clear S a w; intro a w S)
        refine st_nil ?_
        (refine (then_normal (hK3 _ _ ?_)); clear hK3)
        refine wp_seq_k fun _ hK3 => ?_
        refine wp_region_lit ?_
        (refine st_y S (Yr.ys (ys_fieldN (FieldT.mk Tryz.underlying96 rfl Tryz.sizeOf3 rfl) (Ev.t rfl) (i' := 0) rfl)) rfl ?_; clear S a w; intro a w S)
        (refine st_y S (Yr.ys (ys_ld ⟨Tryz.isAgg3, Tryz.sizeOf3⟩ (Ev.t rfl) (k := 0) rfl rfl)) rfl ?_; clear S a w; intro a w S)
        (refine st_y S (Yr.ys (ys_T (by omega) (ys_eql (Ev.t rfl) Ev.c))) rfl ?_; clear S a w; intro a w S)
        (refine st_y S (Yr.ys (ys_move (Ev.t rfl))) rfl ?_; clear S a w; intro a w S)
        (refine st_yt S rfl rfl (Yr.ys (ys_fieldN (FieldT.mk Tryz.underlying96 rfl Tryz.sizeOf77 rfl) (Ev.t rfl) (i' := 3) rfl)) rfl ?_; clear S a w; intro a w S)
        (refine st_yt S rfl rfl (Yr.ys (ys_fieldN (FieldT.mk Tryz.underlying77 rfl Tryz.sizeOf9 rfl) (Ev.t rfl) (i' := 3) rfl)) rfl ?_; clear S a w; intro a w S)
        (refine st_yt S rfl rfl (Yr.ys (ys_ld ⟨Tryz.isAgg9, Tryz.sizeOf9⟩ (Ev.t rfl) (k := 0) rfl rfl)) rfl ?_; clear S a w; intro a w S)
        (refine st_yt S rfl rfl (Yr.ys (ys_fieldN (FieldT.mk Tryz.underlying96 rfl Tryz.sizeOf9 rfl) (Ev.t rfl) (i' := 15) rfl)) rfl ?_; clear S a w; intro a w S)
        (refine st_yt S rfl rfl (Yr.ys (ys_ld ⟨Tryz.isAgg9, Tryz.sizeOf9⟩ (Ev.t rfl) (k := 3) rfl rfl)) rfl ?_; clear S a w; intro a w S)
        (refine st_yt S rfl rfl (Yr.ys (ys_eqlStr (Ev.t rfl) (Ev.t rfl))) rfl ?_; clear S a w; intro a w S)
        rw [rw_y] at S
        (refine st_y S (Yr.ys (ys_pickT (Ev.t rfl) (Ev.t rfl))) rfl ?_; clear S a w; intro a w S)
        (refine st_y S (Yr.ys (ys_move (Ev.t rfl))) rfl ?_; clear S a w; intro a w S)
        (refine st_skip S rfl rfl rfl rfl ?_; clear S a w; intro a w S)
        (refine st_skip S rfl rfl rfl rfl ?_; clear S a w; intro a w S)
        (refine st_skip S rfl rfl rfl rfl ?_; clear S a w; intro a w S)
        (refine st_skip S rfl rfl rfl rfl ?_; clear S a w; intro a w S)
        (refine st_skip S rfl rfl rfl rfl ?_; clear S a w; intro a w S)
        (refine st_skip S rfl rfl rfl rfl ?_; clear S a w; intro a w S)
        (refine st_skip S rfl rfl rfl rfl ?_; clear S a w; intro a w S)
        (refine st_skip S rfl rfl rfl rfl ?_; clear S a w; intro a w S)
        (refine st_skip0 S rfl rfl rfl ?_; clear S a w; intro a w S)
        (refine st_skip0 S rfl rfl rfl ?_; clear S a w; intro a w S)
        (refine st_skip0 S rfl rfl rfl ?_; clear S a w; intro a w S)
        (refine st_skip0 S rfl rfl rfl ?_; clear S a w; intro a w S)
        (refine st_skip0 S rfl rfl rfl ?_; clear S a w; intro a w S)
        (refine st_skip S rfl rfl rfl rfl ?_; clear S a w; intro a w S)
        (refine st_y S (Yr.ys (ys_pickF (Ev.t rfl) Ev.c)) rfl ?_; clear S a w; intro a w S)
        refine st_nil ?_
        (refine (then_normal (hK3 _ _ ?_)); clear hK3)
        refine st_else S (Ev.t rfl) ?_
        refine wp_skip ?_
        (refine (in_normal (then_normal (hK2 _ _ ?_))); clear hK2)
        refine wp_region_lit ?_
        (refine st_y S (Yr.ys (ys_addI (Ev.t rfl) Ev.c (fun _ => by unfold I64; omega))) rfl ?_; clear S a w; intro a w S)
        (refine st_y S (Yr.ys (ys_move (Ev.t rfl))) rfl ?_; clear S a w; intro a w S)
        refine st_nil ?_
        refine (then_normal ?_)
        exact ⟨(i + 1, B, cB), by dsimp only; omega, by dsimp only; omega, by dsimp only; rw [hst]; exact S.picks (by repeat (first | exact Fits.nil | refine Fits.skip rfl ?_ | refine Fits.cons rfl ?_)) (by repeat (first | exact Picks.nil | (refine Picks.rest ?_; (repeat (first | exact List.Sublist.refl _ | refine List.Sublist.cons_cons _ ?_ | refine List.Sublist.cons _ ?_)); done) | refine Picks.take 0 rfl ?_ | refine Picks.take 1 rfl ?_ | refine Picks.take 2 rfl ?_ | refine Picks.take 3 rfl ?_ | refine Picks.take 4 rfl ?_ | refine Picks.take 5 rfl ?_ | refine Picks.take 6 rfl ?_ | refine Picks.take 7 rfl ?_ | refine Picks.take 8 rfl ?_ | refine Picks.take 9 rfl ?_ | refine Picks.take 10 rfl ?_ | refine Picks.take 11 rfl ?_))⟩
    · have rw_k := decide_eq_false hk
      have ht : toldB pr x y = false := by unfold toldB; rw [rw_k]; rfl
      rw [ht, if_neg (by decide), List.append_nil] at hst
      refine wp_seq_k fun _ hK2 => ?_
      refine wp_region_lit ?_
      (refine st_y S (Yr.ys (ys_T (by omega) (ys_lss (Ev.t rfl) (Ev.t rfl)))) rfl ?_; clear S a w; intro a w S)
      refine st_nil ?_
      (refine (then_normal (hK2 _ _ ?_)); clear hK2)
      refine wp_seq_k fun _ hK2 => ?_
      refine st_then S (Ev.t rfl) ?_
      refine wp_skip ?_
      (refine (then_normal (hK2 _ _ ?_)); clear hK2)
      refine wp_seq_k fun _ hK2 => ?_
      refine wp_block ?_
      refine wp_seq_k fun _ hK3 => ?_
      refine wp_region_lit ?_
      (refine st_y S (Yr.ys (ys_ixS Tryz.underlying84 Tryz.sizeOf96 (Ev.t rfl) (Ev.t rfl) (fun _ => by omega))) rfl ?_; clear S a w; intro a w S)
      (refine st_y S (Yr.ys (ys_ldOA ⟨Tryz.isAgg96, Tryz.sizeOf96⟩ (Ev.t rfl) (vs := [_, _, _, _, _, _, _, _, _, _, _, _, _, _, _, _, _, _, _, _, _, _]) rfl (fun _ => hc))) rfl ?_; clear S a w; intro a w S)
      (refine st_m (op_alloc S Tryz.zeroValue96 (cs := _) rfl rfl ?_); clear S a w; intro g2 a w S)
      (refine st_m (op_stW S Tryz.sizeOf96 (Ev.t rfl) (Ev.t rfl) (k := 0) rfl rfl rfl (by simp [Value.oneCell']) ?_); clear S a w; intro a w S)
      refine st_nil ?_
      (refine (then_normal (hK3 _ _ ?_)); clear hK3)
      refine wp_seq_k fun _ hK3 => ?_
      refine wp_region_lit ?_
      (refine st_y S (Yr.ys (ys_fieldN (FieldT.mk Tryz.underlying96 rfl Tryz.sizeOf3 rfl) (Ev.t rfl) (i' := 0) rfl)) rfl ?_; clear S a w; intro a w S)
      (refine st_y S (Yr.ys (ys_ld ⟨Tryz.isAgg3, Tryz.sizeOf3⟩ (Ev.t rfl) (k := 0) rfl rfl)) rfl ?_; clear S a w; intro a w S)
      (refine st_y S (Yr.ys (ys_F (by omega) (ys_eql (Ev.t rfl) Ev.c))) rfl ?_; clear S a w; intro a w S)
      (refine st_y S (Yr.ys (ys_move (Ev.t rfl))) rfl ?_; clear S a w; intro a w S)
      (refine st_skip S rfl rfl rfl rfl ?_; clear S a w; intro a w S)
      (refine st_skip S rfl rfl rfl rfl ?_; clear S a w; intro a w S)
      (refine st_skip S rfl rfl rfl rfl ?_; clear S a w; intro a w S)
      (refine st_skip S rfl rfl rfl rfl ?_; clear S a w; intro a w S)
      (refine st_skip S rfl rfl rfl rfl ?_; clear S a w; intro a w S)
      (refine st_skip S rfl rfl rfl rfl ?_; clear S a w; intro a w S)
      (refine st_y S (Yr.ys (ys_pickF (Ev.t rfl) Ev.c)) rfl ?_; clear S a w; intro a w S)
      (refine st_y S (Yr.ys (ys_move (Ev.t rfl))) rfl ?_; clear S a w; intro a w S)
      (refine st_skip S rfl rfl rfl rfl ?_; clear S a w; intro a w S)
      (refine st_skip S rfl rfl rfl rfl ?_; clear S a w; intro a w S)
      (refine st_skip S rfl rfl rfl rfl ?_; clear S a w; intro a w S)
      (refine st_skip S rfl rfl rfl rfl ?_; clear S a w; intro a w S)
      (refine st_skip S rfl rfl rfl rfl ?_; clear S a w; intro a w S)
      (refine st_skip S rfl rfl rfl rfl ?_; clear S a w; intro a w S)
      (refine st_skip S rfl rfl rfl rfl ?_; clear S a w; intro a w S)
      (refine st_skip S rfl rfl rfl rfl ?_; clear S a w; intro a w S)
      (refine st_skip0 S rfl rfl rfl ?_; clear S a w; intro a w S)
      (refine st_skip0 S rfl rfl rfl ?_; clear S a w; intro a w S)
      (refine st_skip0 S rfl rfl rfl ?_; clear S a w; intro a w S)
      (refine st_skip0 S rfl rfl rfl ?_; clear S a w; intro a w S)
      (refine st_skip0 S rfl rfl rfl ?_; clear S a w; intro a w S)
      (refine st_skip S rfl rfl rfl rfl ?_; clear S a w; intro a w S)
      (refine st_y S (Yr.ys (ys_pickF (Ev.t rfl) Ev.c)) rfl ?_; clear S a w; intro a w S)
      refine st_nil ?_
      (refine (then_normal (hK3 _ _ ?_)); clear hK3)
      refine st_else S (Ev.t rfl) ?_
      refine wp_skip ?_
      (refine (in_normal (then_normal (hK2 _ _ ?_))); clear hK2)
      refine wp_region_lit ?_
      (refine st_y S (Yr.ys (ys_addI (Ev.t rfl) Ev.c (fun _ => by unfold I64; omega))) rfl ?_; clear S a w; intro a w S)
      (refine st_y S (Yr.ys (ys_move (Ev.t rfl))) rfl ?_; clear S a w; intro a w S)
      refine st_nil ?_
      refine (then_normal ?_)
      exact ⟨(i + 1, B, cB), by dsimp only; omega, by dsimp only; omega, by dsimp only; rw [hst]; exact S.picks (by repeat (first | exact Fits.nil | refine Fits.skip rfl ?_ | refine Fits.cons rfl ?_)) (by repeat (first | exact Picks.nil | (refine Picks.rest ?_; (repeat (first | exact List.Sublist.refl _ | refine List.Sublist.cons_cons _ ?_ | refine List.Sublist.cons _ ?_)); done) | refine Picks.take 0 rfl ?_ | refine Picks.take 1 rfl ?_ | refine Picks.take 2 rfl ?_ | refine Picks.take 3 rfl ?_ | refine Picks.take 4 rfl ?_ | refine Picks.take 5 rfl ?_ | refine Picks.take 6 rfl ?_ | refine Picks.take 7 rfl ?_ | refine Picks.take 8 rfl ?_ | refine Picks.take 9 rfl ?_ | refine Picks.take 10 rfl ?_ | refine Picks.take 11 rfl ?_))⟩
  obtain rfl : i = l.length := by omega
  rw [List.take_length] at S
  have htl := told_len (goneK l x.key) l x
  have hur : ∀ u ∈ toldU (goneK l x.key) x l, CartRd w0 u.1.seen u.2 := fun u hu => by
    obtain ⟨y, hy, rfl⟩ := List.mem_map.1 hu
    exact (hl y (List.mem_filter.1 hy).1).u
  have hR : rightK l x = (decide ((meantK ((toldU (goneK l x.key) x l).map (·.1))).2 = 0) && (decide ((goneK l x.key).foldl cutC (meantK ((toldU (goneK l x.key) x l).map (·.1))).1 = x.c.1) && leqL ((goneK l x.key).foldl keepC x.s.1.ctx) x.c.1.ctx)) := rfl
  generalize toldU (goneK l x.key) x l = V at *
  generalize goneK l x.key = pr at *
  by_cases hm0 : (meantK (V.map (·.1))).2 = 0
  rotate_left
  · have rw_m : decide ((meantK (V.map (·.1))).2 ≠ 0) = true := decide_eq_true hm0
    refine wp_seq_k fun _ hK2 => ?_
    refine wp_region_lit ?_
    (refine st_y S (Yr.ys (ys_F (by omega) (ys_lss (Ev.t rfl) (Ev.t rfl)))) rfl ?_; clear S a w; intro a w S)
    refine st_nil ?_
    (refine (then_normal (hK2 _ _ ?_)); clear hK2)
    refine wp_seq_k fun _ hK2 => ?_
    refine st_else S (Ev.t rfl) ?_
    refine wp_exit ?_
    (refine (then_exit (then_exit (in_here (then_normal (hK1 _ _ ?_))))); clear hK1)
    refine wp_seq_k fun _ hK1 => ?_
    refine wp_region_lit ?_
    (refine st_y S (Yr.ys (ys_move (Ev.t rfl))) rfl ?_; clear S a w; intro a w S)
    (refine st_m (op_calls S Tryz.call39 (EvL.cons (Ev.t rfl) EvL.nil) (c39 _ _ _ (by exact Sl.of_own S.wd (k := 0) rfl (fun _ => rfl)) (by exact .old S.wd (by assumption)) (by omega) (by assumption)) rfl ?_); clear S a w; rintro _ _ ⟨A11, r11, A21, r21, A31, r31, rfl, rfl⟩ a w S)
    simp only [List.nil_append] at S
    (refine st_y S (Yr.ys (ys_move (Ev.t rfl))) rfl ?_; clear S a w; intro a w S)
    (refine st_y S (Yr.ys (ys_ext (Ev.t rfl) rfl)) rfl ?_; clear S a w; intro a w S)
    (refine st_y S (Yr.ys (ys_ext (Ev.t rfl) rfl)) rfl ?_; clear S a w; intro a w S)
    (refine st_m (op_alloc S Tryz.zeroValue37 (cs := _) rfl rfl ?_); clear S a w; intro g2 a w S)
    (refine st_m (op_stW S Tryz.sizeOf37 (Ev.t rfl) (Ev.t rfl) (k := 0) rfl rfl rfl (by simp [Value.oneCell']) ?_); clear S a w; intro a w S)
    (refine st_y S (Yr.ys (ys_assign (Ev.t rfl))) rfl ?_; clear S a w; intro a w S)
    refine st_nil ?_
    (refine (then_normal (hK1 _ _ ?_)); clear hK1)
    refine wp_seq_k fun _ hK1 => ?_
    refine wp_seq_k fun _ hK3 => ?_
    refine wp_region_lit ?_
    (refine st_y S (Yr.ys (ys_move (Ev.t rfl))) rfl ?_; clear S a w; intro a w S)
    (refine st_y S (Yr.ys (ys_T (by omega) (ys_neq (Ev.t rfl) Ev.c))) rfl ?_; clear S a w; intro a w S)
    refine st_nil ?_
    (refine (then_normal (hK3 _ _ ?_)); clear hK3)
    refine st_then S (Ev.t rfl) ?_
    refine wp_seq_k fun _ hK3 => ?_
    refine wp_region_lit ?_
    (refine st_y S (Yr.ys (ys_assign Ev.c)) rfl ?_; clear S a w; intro a w S)
    refine st_nil ?_
    (refine (then_normal (hK3 _ _ ?_)); clear hK3)
    refine wp_ret ?_
    refine (then_ret ?_)
    refine st_ret S (results1 S Tryz.results125 (Rv.tmp rfl)) ?_
    exact ⟨by rw [hR, decide_eq_false hm0]; rfl, S.wd.below⟩
  have rw_m := hm0
  obtain ⟨M, rw_M⟩ : ∃ M, (meantK (V.map (·.1))).1 = M := ⟨_, rfl⟩
  have hMl := cart_lens (by rw [← rw_M]; exact meant_cart hm0 : CartOk M)
  refine wp_seq_k fun _ hK2 => ?_
  refine wp_region_lit ?_
  (refine st_y S (Yr.ys (ys_F (by omega) (ys_lss (Ev.t rfl) (Ev.t rfl)))) rfl ?_; clear S a w; intro a w S)
  refine st_nil ?_
  (refine (then_normal (hK2 _ _ ?_)); clear hK2)
  refine wp_seq_k fun _ hK2 => ?_
  refine st_else S (Ev.t rfl) ?_
  refine wp_exit ?_
  (refine (then_exit (then_exit (in_here (then_normal (hK1 _ _ ?_))))); clear hK1)
  refine wp_seq_k fun _ hK1 => ?_
  refine wp_region_lit ?_
  (refine st_y S (Yr.ys (ys_move (Ev.t rfl))) rfl ?_; clear S a w; intro a w S)
  (refine st_m (op_calls S Tryz.call39 (EvL.cons (Ev.t rfl) EvL.nil) (c39 _ _ _ (by exact Sl.of_own S.wd (k := 0) rfl (fun _ => rfl)) (by exact .old S.wd (by assumption)) (by omega) (by assumption)) rfl ?_); clear S a w; rintro _ _ ⟨A11, r11, A21, r21, A31, r31, rfl, rfl⟩ a w S)
  simp only [List.nil_append] at S
  rw [rw_m] at S
  rw [rw_M] at S
  (refine st_y S (Yr.ys (ys_move (Ev.t rfl))) rfl ?_; clear S a w; intro a w S)
  (refine st_y S (Yr.ys (ys_ext (Ev.t rfl) rfl)) rfl ?_; clear S a w; intro a w S)
  (refine st_y S (Yr.ys (ys_ext (Ev.t rfl) rfl)) rfl ?_; clear S a w; intro a w S)
  (refine st_m (op_alloc S Tryz.zeroValue37 (cs := _) rfl rfl ?_); clear S a w; intro g2 a w S)
  (refine st_m (op_stW S Tryz.sizeOf37 (Ev.t rfl) (Ev.t rfl) (k := 0) rfl rfl rfl (by simp [Value.oneCell']) ?_); clear S a w; intro a w S)
  (refine st_y S (Yr.ys (ys_assign (Ev.t rfl))) rfl ?_; clear S a w; intro a w S)
  refine st_nil ?_
  (refine (then_normal (hK1 _ _ ?_)); clear hK1)
  refine wp_seq_k fun _ hK1 => ?_
  refine wp_seq_k fun _ hK3 => ?_
  refine wp_region_lit ?_
  (refine st_y S (Yr.ys (ys_move (Ev.t rfl))) rfl ?_; clear S a w; intro a w S)
  (refine st_y S (Yr.ys (ys_F (by omega) (ys_neq (Ev.t rfl) Ev.c))) rfl ?_; clear S a w; intro a w S)
  refine st_nil ?_
  (refine (then_normal (hK3 _ _ ?_)); clear hK3)
  refine st_else S (Ev.t rfl) ?_
  refine wp_skip ?_
  (refine (then_normal (hK1 _ _ ?_)); clear hK1)
  refine wp_seq_k fun _ hK1 => ?_
  refine wp_region_lit ?_
  (refine st_y S (Yr.ys (ys_fieldN (FieldT.mk Tryz.underlying96 rfl Tryz.sizeOf37 rfl) (Ev.t rfl) (i' := 16) rfl)) rfl ?_; clear S a w; intro a w S)
  (refine st_y S (Yr.ys (ys_fieldN (FieldT.mk Tryz.underlying37 rfl Tryz.sizeOf35 rfl) (Ev.t rfl) (i' := 17) rfl)) rfl ?_; clear S a w; intro a w S)
  (refine st_y S (Yr.ys (ys_ldA ⟨Tryz.isAgg35, Tryz.sizeOf35⟩ (Ev.t rfl) (k := 6) rfl rfl)) rfl ?_; clear S a w; intro a w S)
  (refine st_m (op_alloc S Tryz.zeroValue35 (cs := _) rfl rfl ?_); clear S a w; intro g3 a w S)
  (refine st_m (op_stW S Tryz.sizeOf35 (Ev.t rfl) (Ev.t rfl) (k := 0) rfl rfl rfl (by simp [Value.oneCell']) ?_); clear S a w; intro a w S)
  refine st_nil ?_
  (refine (then_normal (hK1 _ _ ?_)); clear hK1)
  refine wp_seq_k fun _ hK1 => ?_
  refine wp_seq_k fun _ hK3 => ?_
  refine wp_region_lit ?_
  (refine st_y S (Yr.ys (ys_move (Ev.t rfl))) rfl ?_; clear S a w; intro a w S)
  (refine st_y S (Yr.ys (ys_lenS Tryz.underlying84 (Ev.t rfl))) rfl ?_; clear S a w; intro a w S)
  (refine st_y S (Yr.ys (ys_move Ev.c)) rfl ?_; clear S a w; intro a w S)
  refine st_nil ?_
  (refine (then_normal (hK3 _ _ ?_)); clear hK3)
  refine wp_block ?_
  refine st_loopM S [69] (X := Nat × ((Option Addr × Nat) × (Option Addr × Nat) × (Option Addr × Nat)) × Cart × Option ((Option Addr × Nat) × (Option Addr × Nat)) × Ctx) (fun p => [(69, true, .int .i64 (p.1 : Int))])
    (fun p => match p.2.2.2.1 with
      | none => [rowOf 100 6 Ent.enc p.2.1.1.1 p.2.1.1.2 p.2.2.1.ents, rowOf 30 3 Dot.enc p.2.1.2.1.1 p.2.1.2.1.2 p.2.2.1.ctx.marks, rowOf 74 3 Dot.enc p.2.1.2.2.1 p.2.1.2.2.2 p.2.2.1.ctx.cloud, .blk g2 (.cells #[.slice p.2.1.1.1 p.2.2.1.ents.length p.2.1.1.2, .slice p.2.1.2.1.1 p.2.2.1.ctx.marks.length p.2.1.2.1.2, .slice p.2.1.2.2.1 p.2.2.1.ctx.cloud.length p.2.1.2.2.2] 37), .blk g3 (.cells #[.slice x.s.2.a2 x.s.2.n2 x.s.2.c2, .slice x.s.2.a3 x.s.2.n3 x.s.2.c3] 35), rowOf 77 10 SUpd.enc B cB V, rowOf 96 22 SLog.enc A1 r1 pr, .blk g1 (.cells (SLog.enc x).toArray 96)]
      | some o => [rowOf 100 6 Ent.enc p.2.1.1.1 p.2.1.1.2 p.2.2.1.ents, rowOf 30 3 Dot.enc p.2.1.2.1.1 p.2.1.2.1.2 p.2.2.1.ctx.marks, rowOf 74 3 Dot.enc p.2.1.2.2.1 p.2.1.2.2.2 p.2.2.1.ctx.cloud, .blk g2 (.cells #[.slice p.2.1.1.1 p.2.2.1.ents.length p.2.1.1.2, .slice p.2.1.2.1.1 p.2.2.1.ctx.marks.length p.2.1.2.1.2, .slice p.2.1.2.2.1 p.2.2.1.ctx.cloud.length p.2.1.2.2.2] 37), .blk g3 (.cells #[.slice o.1.1 p.2.2.2.2.marks.length o.1.2, .slice o.2.1 p.2.2.2.2.cloud.length o.2.2] 35), rowOf 30 3 Dot.enc o.1.1 o.1.2 p.2.2.2.2.marks, rowOf 74 3 Dot.enc o.2.1 o.2.2 p.2.2.2.2.cloud, rowOf 77 10 SUpd.enc B cB V, rowOf 96 22 SLog.enc A1 r1 pr, .blk g1 (.cells (SLog.enc x).toArray 96)])
    (fun p => p.1 ≤ pr.length ∧ p.2.2.1 = (pr.take p.1).foldl cutC M ∧ p.2.2.2.2 = (pr.take p.1).foldl keepC x.s.1.ctx ∧ (p.2.2.2.1 = none → p.2.2.2.2 = x.s.1.ctx) ∧ CutOk p.2.2.1 p.2.2.2.2) (fun p => pr.length - p.1)
    (0, ((A11, r11), (A21, r21), (A31, r31)), M, none, x.s.1.ctx) ⟨Nat.zero_le _, rfl, rfl, fun _ => rfl, ⟨by dsimp only; omega, by dsimp only; omega, by dsimp only; omega, hs1, hs2, hm1⟩⟩ (by repeat (first | exact Fits.nil | refine Fits.skip rfl ?_ | refine Fits.cons rfl ?_)) (by repeat (first | exact Picks.nil | (refine Picks.rest ?_; (repeat (first | exact List.Sublist.refl _ | refine List.Sublist.cons_cons _ ?_ | refine List.Sublist.cons _ ?_)); done) | refine Picks.take 0 rfl ?_ | refine Picks.take 1 rfl ?_ | refine Picks.take 2 rfl ?_ | refine Picks.take 3 rfl ?_ | refine Picks.take 4 rfl ?_ | refine Picks.take 5 rfl ?_ | refine Picks.take 6 rfl ?_ | refine Picks.take 7 rfl ?_ | refine Picks.take 8 rfl ?_ | refine Picks.take 9 rfl ?_ | refine Picks.take 10 rfl ?_ | refine Picks.take 11 rfl ?_)) ?_
  clear S
  rintro ⟨i, ⟨⟨E1, e1⟩, ⟨E2, e2⟩, ⟨E3, e3⟩⟩, c, o, T⟩ a w ⟨hi, hcI, hTI, hoI, hok⟩ S
  dsimp only at hi hcI hTI hoI hok S
  by_cases hlt : i < pr.length
  · obtain ⟨gP, rfl⟩ : ∃ gP, A1 = some ⟨gP, 0, none⟩ := by
      cases o with
      | none => exact S.wd.row_at (k := 6) rfl (by have := (S.wd.room (k := 6) rfl).1; omega)
      | some o => exact S.wd.row_at (k := 8) rfl (by have := (S.wd.room (k := 8) rfl).1; omega)
    obtain ⟨y, hy⟩ : ∃ y, pr[i]? = some y := ⟨_, List.getElem?_eq_getElem hlt⟩
    have hc2 : (pr.take (i + 1)).foldl cutC M = cutC c y := by rw [List.take_add_one, hy, Option.toList_some, List.foldl_append, ← hcI]; rfl
    have hT2 : (pr.take (i + 1)).foldl keepC x.s.1.ctx = keepC T y := by rw [List.take_add_one, hy, Option.toList_some, List.foldl_append, ← hTI]; rfl
    obtain ⟨k1, k2, k3, k4, k5, k6⟩ := id hok
    cases o with
    | none =>
      obtain rfl := hoI rfl
      have halt_d := trivial
      refine wp_seq_k fun _ hK3 => ?_
      refine wp_region_lit ?_
      (refine st_y S (Yr.ys (ys_T (by omega) (ys_lss (Ev.t rfl) (Ev.t rfl)))) rfl ?_; clear S a w; intro a w S)
      refine st_nil ?_
      (refine (then_normal (hK3 _ _ ?_)); clear hK3)
      refine wp_seq_k fun _ hK3 => ?_
      refine st_then S (Ev.t rfl) ?_
      refine wp_skip ?_
      (refine (then_normal (hK3 _ _ ?_)); clear hK3)
      refine wp_seq_k fun _ hK3 => ?_
      refine wp_block ?_
      refine wp_seq_k fun _ hK4 => ?_
      refine wp_region_lit ?_
      (refine st_y S (Yr.ys (ys_ixS Tryz.underlying84 Tryz.sizeOf96 (Ev.t rfl) (Ev.t rfl) (fun _ => by omega))) rfl ?_; clear S a w; intro a w S)
      (refine st_y S (Yr.ys (ys_ldWA ⟨Tryz.isAgg96, Tryz.sizeOf96⟩ (Ev.t rfl) (k := 6) rfl hy (fun _ => rfl))) rfl ?_; clear S a w; intro a w S)
      (refine st_m (op_alloc S Tryz.zeroValue96 (cs := _) rfl rfl ?_); clear S a w; intro g4 a w S)
      (refine st_m (op_stW S Tryz.sizeOf96 (Ev.t rfl) (Ev.t rfl) (k := 0) rfl rfl rfl (by simp [Value.oneCell']) ?_); clear S a w; intro a w S)
      refine st_nil ?_
      (refine (then_normal (hK4 _ _ ?_)); clear hK4)
      clear halt_d
      refine h_begin S (by kernel_rfl) [.blk g4 (.cells (SLog.enc y).toArray 96), rowOf 100 6 Ent.enc E1 e1 c.ents, rowOf 30 3 Dot.enc E2 e2 c.ctx.marks, rowOf 74 3 Dot.enc E3 e3 c.ctx.cloud, rowOf 77 10 SUpd.enc B cB V, rowOf 96 22 SLog.enc (some ⟨gP, 0, none⟩) r1 pr, .blk g1 (.cells (SLog.enc x).toArray 96)] ?_
      clear S
      intro a w S
      have hold_r := trivial
      (refine h_y (i := 1) S (by repeat (first | exact List.Sublist.refl _ | exact List.nil_sublist _ | refine .cons_cons _ ?_ | refine .cons _ ?_)) rfl (by kernel_rfl) (by kernel_rfl) (by kernel_rfl) (fun _ _ _ _ h => h) (ys_fieldN (FieldT.mk Tryz.underlying96 rfl Tryz.sizeOf66 rfl) (Ev.t rfl) (i' := 13) rfl) rfl ?_; clear S a w; intro a w S)
      (refine h_y (i := 2) S (by repeat (first | exact List.Sublist.refl _ | exact List.nil_sublist _ | refine .cons_cons _ ?_ | refine .cons _ ?_)) rfl (by kernel_rfl) (by kernel_rfl) (by kernel_rfl) (fun _ _ _ _ h => h) (ys_ldA ⟨Tryz.isAgg66, Tryz.sizeOf66⟩ (Ev.t rfl) (k := 0) rfl rfl) rfl ?_; clear S a w; intro a w S)
      (refine h_y (i := 5) S (by repeat (first | exact List.Sublist.refl _ | exact List.nil_sublist _ | refine .cons_cons _ ?_ | refine .cons _ ?_)) rfl (by kernel_rfl) (by kernel_rfl) (by kernel_rfl) (fun _ _ _ _ h => h) (ys_fieldN (FieldT.mk Tryz.underlying96 rfl Tryz.sizeOf66 rfl) (Ev.t rfl) (i' := 13) rfl) rfl ?_; clear S a w; intro a w S)
      (refine h_y (i := 6) S (by repeat (first | exact List.Sublist.refl _ | exact List.nil_sublist _ | refine .cons_cons _ ?_ | refine .cons _ ?_)) rfl (by kernel_rfl) (by kernel_rfl) (by kernel_rfl) (fun _ _ _ _ h => h) (ys_ldA ⟨Tryz.isAgg66, Tryz.sizeOf66⟩ (Ev.t rfl) (k := 0) rfl rfl) rfl ?_; clear S a w; intro a w S)
      refine h_split (i := 0) (j := 4) (by kernel_rfl) rfl rfl ?_ ?_
      (refine op_y S (Yr.ys (ys_ldA ⟨Tryz.isAgg37, Tryz.sizeOf37⟩ (Ev.t rfl) (k := 4) rfl rfl)) rfl ?_; clear S a w; intro a w S; refine h_on S _ (List.Sublist.refl _) (by repeat (first | exact List.Sublist.refl _ | exact List.nil_sublist _ | refine .cons_cons _ ?_ | refine .cons _ ?_)) ?_)
      refine h_split (i := 3) (j := 4) (by kernel_rfl) rfl rfl ?_ ?_
      (refine op_calls S Tryz.call68 (EvL.cons (Ev.t rfl) (EvL.cons (Ev.t rfl) EvL.nil)) (c68 _ _ _ _ _ _ _ (by exact Sl.of_own S.wd (k := 1) rfl (fun _ => rfl)) (by exact ⟨(by exact Sl.of_own S.wd (k := 2) rfl (fun _ => rfl)), (by exact Sl.of_own S.wd (k := 3) rfl (fun _ => rfl))⟩) (by assumption) (by assumption) (by assumption)) rfl ?_; clear S a w; rintro _ _ ⟨A12, r12, A22, r22, A32, r32, rfl, rfl⟩ a w S; refine h_on S _ (List.Sublist.refl _) (by repeat (first | exact List.Sublist.refl _ | exact List.nil_sublist _ | refine .cons_cons _ ?_ | refine .cons _ ?_)) ?_)
      simp only [List.nil_append] at S
      (refine h_q (i := 4) S (by repeat (first | exact List.Sublist.refl _ | exact List.nil_sublist _ | refine .cons_cons _ ?_ | refine .cons _ ?_)) rfl (by kernel_rfl) (Yr.ys (ys_ldA ⟨Tryz.isAgg35, Tryz.sizeOf35⟩ (Ev.t rfl) (k := 8) rfl rfl)) rfl ?_; clear S a w; intro a w S)
      (refine h_m (i := 7) rfl (by kernel_rfl) (op_calls S Tryz.call142 (EvL.cons (Ev.t rfl) (EvL.cons (Ev.t rfl) EvL.nil)) (c142 _ _ _ _ _ _ (by exact .old S.wd (by assumption)) (by assumption) (by assumption)) rfl ?_); clear S a w; rintro _ _ ⟨A13, r13, A23, r23, rfl, rfl⟩ a w S; refine h_on S _ (List.Sublist.refl _) (by repeat (first | exact List.Sublist.refl _ | exact List.nil_sublist _ | refine .cons_cons _ ?_ | refine .cons _ ?_)) ?_)
      (refine h_m0 (i := 8) rfl (by kernel_rfl) (op_stW S Tryz.sizeOf37 (Ev.t rfl) (Ev.t rfl) (k := 9) rfl rfl rfl (by simp [Value.oneCell']) ?_); clear S a w; intro a w S; refine h_on S _ (List.Sublist.refl _) (by repeat (first | exact List.Sublist.refl _ | exact List.nil_sublist _ | refine .cons_cons _ ?_ | refine .cons _ ?_)) ?_)
      (refine h_m0 (i := 9) rfl (by kernel_rfl) (op_stW S Tryz.sizeOf35 (Ev.t rfl) (Ev.t rfl) (k := 10) rfl rfl rfl (by simp [Value.oneCell']) ?_); clear S a w; intro a w S; refine h_on S _ (List.Sublist.refl _) (by repeat (first | exact List.Sublist.refl _ | exact List.nil_sublist _ | refine .cons_cons _ ?_ | refine .cons _ ?_)) ?_)
      refine h_done (by kernel_rfl) ?_
      (refine (in_normal (then_normal (hK3 _ _ ?_))); clear hK3)
      refine wp_region_lit ?_
      (refine st_y S (Yr.ys (ys_addI (Ev.t rfl) Ev.c (fun _ => by unfold I64; omega))) rfl ?_; clear S a w; intro a w S)
      (refine st_y S (Yr.ys (ys_move (Ev.t rfl))) rfl ?_; clear S a w; intro a w S)
      refine st_nil ?_
      refine (then_normal ?_)
      rotate_left
      (refine op_y S (Yr.ys (ys_ldA ⟨Tryz.isAgg35, Tryz.sizeOf35⟩ (Ev.t rfl) (k := 5) rfl rfl)) rfl ?_; clear S a w; intro a w S; refine h_on S _ (List.Sublist.refl _) (by repeat (first | exact List.Sublist.refl _ | exact List.nil_sublist _ | refine .cons_cons _ ?_ | refine .cons _ ?_)) ?_)
      (refine h_m (i := 3) rfl (by kernel_rfl) (op_calls S Tryz.call68 (EvL.cons (Ev.t rfl) (EvL.cons (Ev.t rfl) EvL.nil)) (c68 _ _ _ _ _ _ _ (by exact Sl.of_own S.wd (k := 1) rfl (fun _ => rfl)) (by exact ⟨(by exact Sl.of_own S.wd (k := 2) rfl (fun _ => rfl)), (by exact Sl.of_own S.wd (k := 3) rfl (fun _ => rfl))⟩) (by assumption) (by assumption) (by assumption)) rfl ?_); clear S a w; rintro _ _ ⟨A12, r12, A22, r22, A32, r32, rfl, rfl⟩ a w S; refine h_on S _ (List.Sublist.refl _) (by repeat (first | exact List.Sublist.refl _ | exact List.nil_sublist _ | refine .cons_cons _ ?_ | refine .cons _ ?_)) ?_)
      simp only [List.nil_append] at S
      (refine h_m (i := 7) rfl (by kernel_rfl) (op_calls S Tryz.call142 (EvL.cons (Ev.t rfl) (EvL.cons (Ev.t rfl) EvL.nil)) (c142 _ _ _ _ _ _ (by exact .old S.wd (by assumption)) (by assumption) (by assumption)) rfl ?_); clear S a w; rintro _ _ ⟨A13, r13, A23, r23, rfl, rfl⟩ a w S; refine h_on S _ (List.Sublist.refl _) (by repeat (first | exact List.Sublist.refl _ | exact List.nil_sublist _ | refine .cons_cons _ ?_ | refine .cons _ ?_)) ?_)
      (refine h_m0 (i := 8) rfl (by kernel_rfl) (op_stW S Tryz.sizeOf37 (Ev.t rfl) (Ev.t rfl) (k := 9) rfl rfl rfl (by simp [Value.oneCell']) ?_); clear S a w; intro a w S; refine h_on S _ (List.Sublist.refl _) (by repeat (first | exact List.Sublist.refl _ | exact List.nil_sublist _ | refine .cons_cons _ ?_ | refine .cons _ ?_)) ?_)
      (refine h_m0 (i := 9) rfl (by kernel_rfl) (op_stW S Tryz.sizeOf35 (Ev.t rfl) (Ev.t rfl) (k := 10) rfl rfl rfl (by simp [Value.oneCell']) ?_); clear S a w; intro a w S; refine h_on S _ (List.Sublist.refl _) (by repeat (first | exact List.Sublist.refl _ | exact List.nil_sublist _ | refine .cons_cons _ ?_ | refine .cons _ ?_)) ?_)
      refine h_done (by kernel_rfl) ?_
      (refine (in_normal (then_normal (hK3 _ _ ?_))); clear hK3)
      refine wp_region_lit ?_
      (refine st_y S (Yr.ys (ys_addI (Ev.t rfl) Ev.c (fun _ => by unfold I64; omega))) rfl ?_; clear S a w; intro a w S)
      (refine st_y S (Yr.ys (ys_move (Ev.t rfl))) rfl ?_; clear S a w; intro a w S)
      refine st_nil ?_
      refine (then_normal ?_)
      rotate_left
      (refine op_y S (Yr.ys (ys_ldA ⟨Tryz.isAgg35, Tryz.sizeOf35⟩ (Ev.t rfl) (k := 5) rfl rfl)) rfl ?_; clear S a w; intro a w S; refine h_on S _ (List.Sublist.refl _) (by repeat (first | exact List.Sublist.refl _ | exact List.nil_sublist _ | refine .cons_cons _ ?_ | refine .cons _ ?_)) ?_)
      (refine h_q (i := 0) S (by repeat (first | exact List.Sublist.refl _ | exact List.nil_sublist _ | refine .cons_cons _ ?_ | refine .cons _ ?_)) rfl (by kernel_rfl) (Yr.ys (ys_ldA ⟨Tryz.isAgg37, Tryz.sizeOf37⟩ (Ev.t rfl) (k := 4) rfl rfl)) rfl ?_; clear S a w; intro a w S)
      (refine h_m (i := 3) rfl (by kernel_rfl) (op_calls S Tryz.call68 (EvL.cons (Ev.t rfl) (EvL.cons (Ev.t rfl) EvL.nil)) (c68 _ _ _ _ _ _ _ (by exact Sl.of_own S.wd (k := 1) rfl (fun _ => rfl)) (by exact ⟨(by exact Sl.of_own S.wd (k := 2) rfl (fun _ => rfl)), (by exact Sl.of_own S.wd (k := 3) rfl (fun _ => rfl))⟩) (by assumption) (by assumption) (by assumption)) rfl ?_); clear S a w; rintro _ _ ⟨A12, r12, A22, r22, A32, r32, rfl, rfl⟩ a w S; refine h_on S _ (List.Sublist.refl _) (by repeat (first | exact List.Sublist.refl _ | exact List.nil_sublist _ | refine .cons_cons _ ?_ | refine .cons _ ?_)) ?_)
      simp only [List.nil_append] at S
      (refine h_m (i := 7) rfl (by kernel_rfl) (op_calls S Tryz.call142 (EvL.cons (Ev.t rfl) (EvL.cons (Ev.t rfl) EvL.nil)) (c142 _ _ _ _ _ _ (by exact .old S.wd (by assumption)) (by assumption) (by assumption)) rfl ?_); clear S a w; rintro _ _ ⟨A13, r13, A23, r23, rfl, rfl⟩ a w S; refine h_on S _ (List.Sublist.refl _) (by repeat (first | exact List.Sublist.refl _ | exact List.nil_sublist _ | refine .cons_cons _ ?_ | refine .cons _ ?_)) ?_)
      (refine h_m0 (i := 8) rfl (by kernel_rfl) (op_stW S Tryz.sizeOf37 (Ev.t rfl) (Ev.t rfl) (k := 9) rfl rfl rfl (by simp [Value.oneCell']) ?_); clear S a w; intro a w S; refine h_on S _ (List.Sublist.refl _) (by repeat (first | exact List.Sublist.refl _ | exact List.nil_sublist _ | refine .cons_cons _ ?_ | refine .cons _ ?_)) ?_)
      (refine h_m0 (i := 9) rfl (by kernel_rfl) (op_stW S Tryz.sizeOf35 (Ev.t rfl) (Ev.t rfl) (k := 10) rfl rfl rfl (by simp [Value.oneCell']) ?_); clear S a w; intro a w S; refine h_on S _ (List.Sublist.refl _) (by repeat (first | exact List.Sublist.refl _ | exact List.nil_sublist _ | refine .cons_cons _ ?_ | refine .cons _ ?_)) ?_)
      refine h_done (by kernel_rfl) ?_
      (refine (in_normal (then_normal (hK3 _ _ ?_))); clear hK3)
      refine wp_region_lit ?_
      (refine st_y S (Yr.ys (ys_addI (Ev.t rfl) Ev.c (fun _ => by unfold I64; omega))) rfl ?_; clear S a w; intro a w S)
      (refine st_y S (Yr.ys (ys_move (Ev.t rfl))) rfl ?_; clear S a w; intro a w S)
      refine st_nil ?_
      refine (then_normal ?_)
      rotate_left
      all_goals exact ⟨(i + 1, ((A12, r12), (A22, r22), (A32, r32)), cutC c y, some ((A13, r13), (A23, r23)), keepC x.s.1.ctx y), ⟨by dsimp only; omega, hc2.symm, hT2.symm, fun h => (by cases h), hok.cut y⟩, by dsimp only; omega, S.picks (by repeat (first | exact Fits.nil | refine Fits.skip rfl ?_ | refine Fits.cons rfl ?_)) (by repeat (first | exact Picks.nil | (refine Picks.rest ?_; (repeat (first | exact List.Sublist.refl _ | refine List.Sublist.cons_cons _ ?_ | refine List.Sublist.cons _ ?_)); done) | refine Picks.take 0 rfl ?_ | refine Picks.take 1 rfl ?_ | refine Picks.take 2 rfl ?_ | refine Picks.take 3 rfl ?_ | refine Picks.take 4 rfl ?_ | refine Picks.take 5 rfl ?_ | refine Picks.take 6 rfl ?_ | refine Picks.take 7 rfl ?_ | refine Picks.take 8 rfl ?_ | refine Picks.take 9 rfl ?_ | refine Picks.take 10 rfl ?_ | refine Picks.take 11 rfl ?_))⟩
    | some o =>
      obtain ⟨⟨P1, p1⟩, ⟨P2, p2⟩⟩ := o
      dsimp only at S
      have halt_d := trivial
      refine wp_seq_k fun _ hK3 => ?_
      refine wp_region_lit ?_
      (refine st_y S (Yr.ys (ys_T (by omega) (ys_lss (Ev.t rfl) (Ev.t rfl)))) rfl ?_; clear S a w; intro a w S)
      refine st_nil ?_
      (refine (then_normal (hK3 _ _ ?_)); clear hK3)
      refine wp_seq_k fun _ hK3 => ?_
      refine st_then S (Ev.t rfl) ?_
      refine wp_skip ?_
      (refine (then_normal (hK3 _ _ ?_)); clear hK3)
      refine wp_seq_k fun _ hK3 => ?_
      refine wp_block ?_
      refine wp_seq_k fun _ hK4 => ?_
      refine wp_region_lit ?_
      (refine st_y S (Yr.ys (ys_ixS Tryz.underlying84 Tryz.sizeOf96 (Ev.t rfl) (Ev.t rfl) (fun _ => by omega))) rfl ?_; clear S a w; intro a w S)
      (refine st_y S (Yr.ys (ys_ldWA ⟨Tryz.isAgg96, Tryz.sizeOf96⟩ (Ev.t rfl) (k := 8) rfl hy (fun _ => rfl))) rfl ?_; clear S a w; intro a w S)
      (refine st_m (op_alloc S Tryz.zeroValue96 (cs := _) rfl rfl ?_); clear S a w; intro g4 a w S)
      (refine st_m (op_stW S Tryz.sizeOf96 (Ev.t rfl) (Ev.t rfl) (k := 0) rfl rfl rfl (by simp [Value.oneCell']) ?_); clear S a w; intro a w S)
      refine st_nil ?_
      (refine (then_normal (hK4 _ _ ?_)); clear hK4)
      clear halt_d
      refine h_begin S (by kernel_rfl) [.blk g4 (.cells (SLog.enc y).toArray 96), rowOf 100 6 Ent.enc E1 e1 c.ents, rowOf 30 3 Dot.enc E2 e2 c.ctx.marks, rowOf 74 3 Dot.enc E3 e3 c.ctx.cloud, rowOf 30 3 Dot.enc P1 p1 T.marks, rowOf 74 3 Dot.enc P2 p2 T.cloud, rowOf 77 10 SUpd.enc B cB V, rowOf 96 22 SLog.enc (some ⟨gP, 0, none⟩) r1 pr, .blk g1 (.cells (SLog.enc x).toArray 96)] ?_
      clear S
      intro a w S
      have hold_r := trivial
      (refine h_y (i := 1) S (by repeat (first | exact List.Sublist.refl _ | exact List.nil_sublist _ | refine .cons_cons _ ?_ | refine .cons _ ?_)) rfl (by kernel_rfl) (by kernel_rfl) (by kernel_rfl) (fun _ _ _ _ h => h) (ys_fieldN (FieldT.mk Tryz.underlying96 rfl Tryz.sizeOf66 rfl) (Ev.t rfl) (i' := 13) rfl) rfl ?_; clear S a w; intro a w S)
      (refine h_y (i := 2) S (by repeat (first | exact List.Sublist.refl _ | exact List.nil_sublist _ | refine .cons_cons _ ?_ | refine .cons _ ?_)) rfl (by kernel_rfl) (by kernel_rfl) (by kernel_rfl) (fun _ _ _ _ h => h) (ys_ldA ⟨Tryz.isAgg66, Tryz.sizeOf66⟩ (Ev.t rfl) (k := 0) rfl rfl) rfl ?_; clear S a w; intro a w S)
      (refine h_y (i := 5) S (by repeat (first | exact List.Sublist.refl _ | exact List.nil_sublist _ | refine .cons_cons _ ?_ | refine .cons _ ?_)) rfl (by kernel_rfl) (by kernel_rfl) (by kernel_rfl) (fun _ _ _ _ h => h) (ys_fieldN (FieldT.mk Tryz.underlying96 rfl Tryz.sizeOf66 rfl) (Ev.t rfl) (i' := 13) rfl) rfl ?_; clear S a w; intro a w S)
      (refine h_y (i := 6) S (by repeat (first | exact List.Sublist.refl _ | exact List.nil_sublist _ | refine .cons_cons _ ?_ | refine .cons _ ?_)) rfl (by kernel_rfl) (by kernel_rfl) (by kernel_rfl) (fun _ _ _ _ h => h) (ys_ldA ⟨Tryz.isAgg66, Tryz.sizeOf66⟩ (Ev.t rfl) (k := 0) rfl rfl) rfl ?_; clear S a w; intro a w S)
      refine h_split (i := 0) (j := 4) (by kernel_rfl) rfl rfl ?_ ?_
      (refine op_y S (Yr.ys (ys_ldA ⟨Tryz.isAgg37, Tryz.sizeOf37⟩ (Ev.t rfl) (k := 4) rfl rfl)) rfl ?_; clear S a w; intro a w S; refine h_on S _ (List.Sublist.refl _) (by repeat (first | exact List.Sublist.refl _ | exact List.nil_sublist _ | refine .cons_cons _ ?_ | refine .cons _ ?_)) ?_)
      refine h_split (i := 3) (j := 4) (by kernel_rfl) rfl rfl ?_ ?_
      (refine op_calls S Tryz.call68 (EvL.cons (Ev.t rfl) (EvL.cons (Ev.t rfl) EvL.nil)) (c68 _ _ _ _ _ _ _ (by exact Sl.of_own S.wd (k := 1) rfl (fun _ => rfl)) (by exact ⟨(by exact Sl.of_own S.wd (k := 2) rfl (fun _ => rfl)), (by exact Sl.of_own S.wd (k := 3) rfl (fun _ => rfl))⟩) (by assumption) (by assumption) (by assumption)) rfl ?_; clear S a w; rintro _ _ ⟨A12, r12, A22, r22, A32, r32, rfl, rfl⟩ a w S; refine h_on S _ (List.Sublist.refl _) (by repeat (first | exact List.Sublist.refl _ | exact List.nil_sublist _ | refine .cons_cons _ ?_ | refine .cons _ ?_)) ?_)
      (refine h_q (i := 4) S (by repeat (first | exact List.Sublist.refl _ | exact List.nil_sublist _ | refine .cons_cons _ ?_ | refine .cons _ ?_)) rfl (by kernel_rfl) (Yr.ys (ys_ldA ⟨Tryz.isAgg35, Tryz.sizeOf35⟩ (Ev.t rfl) (k := 8) rfl rfl)) rfl ?_; clear S a w; intro a w S)
      (refine h_m (i := 7) rfl (by kernel_rfl) (op_calls S Tryz.call142 (EvL.cons (Ev.t rfl) (EvL.cons (Ev.t rfl) EvL.nil)) (c142 _ _ _ _ _ _ (by exact ⟨(by exact Sl.of_own S.wd (k := 9) rfl (fun _ => rfl)), (by exact Sl.of_own S.wd (k := 10) rfl (fun _ => rfl))⟩) (by assumption) (by assumption)) rfl ?_); clear S a w; rintro _ _ ⟨A13, r13, A23, r23, rfl, rfl⟩ a w S; refine h_on S _ (List.Sublist.refl _) (by repeat (first | exact List.Sublist.refl _ | exact List.nil_sublist _ | refine .cons_cons _ ?_ | refine .cons _ ?_)) ?_)
      (refine h_m0 (i := 8) rfl (by kernel_rfl) (op_stW S Tryz.sizeOf37 (Ev.t rfl) (Ev.t rfl) (k := 9) rfl rfl rfl (by simp [Value.oneCell']) ?_); clear S a w; intro a w S; refine h_on S _ (List.Sublist.refl _) (by repeat (first | exact List.Sublist.refl _ | exact List.nil_sublist _ | refine .cons_cons _ ?_ | refine .cons _ ?_)) ?_)
      (refine h_m0 (i := 9) rfl (by kernel_rfl) (op_stW S Tryz.sizeOf35 (Ev.t rfl) (Ev.t rfl) (k := 10) rfl rfl rfl (by simp [Value.oneCell']) ?_); clear S a w; intro a w S; refine h_on S _ (List.Sublist.refl _) (by repeat (first | exact List.Sublist.refl _ | exact List.nil_sublist _ | refine .cons_cons _ ?_ | refine .cons _ ?_)) ?_)
      refine h_done (by kernel_rfl) ?_
      (refine (in_normal (then_normal (hK3 _ _ ?_))); clear hK3)
      refine wp_region_lit ?_
      (refine st_y S (Yr.ys (ys_addI (Ev.t rfl) Ev.c (fun _ => by unfold I64; omega))) rfl ?_; clear S a w; intro a w S)
      (refine st_y S (Yr.ys (ys_move (Ev.t rfl))) rfl ?_; clear S a w; intro a w S)
      refine st_nil ?_
      refine (then_normal ?_)
      rotate_left
      (refine op_y S (Yr.ys (ys_ldA ⟨Tryz.isAgg35, Tryz.sizeOf35⟩ (Ev.t rfl) (k := 5) rfl rfl)) rfl ?_; clear S a w; intro a w S; refine h_on S _ (List.Sublist.refl _) (by repeat (first | exact List.Sublist.refl _ | exact List.nil_sublist _ | refine .cons_cons _ ?_ | refine .cons _ ?_)) ?_)
      (refine h_m (i := 3) rfl (by kernel_rfl) (op_calls S Tryz.call68 (EvL.cons (Ev.t rfl) (EvL.cons (Ev.t rfl) EvL.nil)) (c68 _ _ _ _ _ _ _ (by exact Sl.of_own S.wd (k := 1) rfl (fun _ => rfl)) (by exact ⟨(by exact Sl.of_own S.wd (k := 2) rfl (fun _ => rfl)), (by exact Sl.of_own S.wd (k := 3) rfl (fun _ => rfl))⟩) (by assumption) (by assumption) (by assumption)) rfl ?_); clear S a w; rintro _ _ ⟨A12, r12, A22, r22, A32, r32, rfl, rfl⟩ a w S; refine h_on S _ (List.Sublist.refl _) (by repeat (first | exact List.Sublist.refl _ | exact List.nil_sublist _ | refine .cons_cons _ ?_ | refine .cons _ ?_)) ?_)
      (refine h_m (i := 7) rfl (by kernel_rfl) (op_calls S Tryz.call142 (EvL.cons (Ev.t rfl) (EvL.cons (Ev.t rfl) EvL.nil)) (c142 _ _ _ _ _ _ (by exact ⟨(by exact Sl.of_own S.wd (k := 9) rfl (fun _ => rfl)), (by exact Sl.of_own S.wd (k := 10) rfl (fun _ => rfl))⟩) (by assumption) (by assumption)) rfl ?_); clear S a w; rintro _ _ ⟨A13, r13, A23, r23, rfl, rfl⟩ a w S; refine h_on S _ (List.Sublist.refl _) (by repeat (first | exact List.Sublist.refl _ | exact List.nil_sublist _ | refine .cons_cons _ ?_ | refine .cons _ ?_)) ?_)
      (refine h_m0 (i := 8) rfl (by kernel_rfl) (op_stW S Tryz.sizeOf37 (Ev.t rfl) (Ev.t rfl) (k := 9) rfl rfl rfl (by simp [Value.oneCell']) ?_); clear S a w; intro a w S; refine h_on S _ (List.Sublist.refl _) (by repeat (first | exact List.Sublist.refl _ | exact List.nil_sublist _ | refine .cons_cons _ ?_ | refine .cons _ ?_)) ?_)
      (refine h_m0 (i := 9) rfl (by kernel_rfl) (op_stW S Tryz.sizeOf35 (Ev.t rfl) (Ev.t rfl) (k := 10) rfl rfl rfl (by simp [Value.oneCell']) ?_); clear S a w; intro a w S; refine h_on S _ (List.Sublist.refl _) (by repeat (first | exact List.Sublist.refl _ | exact List.nil_sublist _ | refine .cons_cons _ ?_ | refine .cons _ ?_)) ?_)
      refine h_done (by kernel_rfl) ?_
      (refine (in_normal (then_normal (hK3 _ _ ?_))); clear hK3)
      refine wp_region_lit ?_
      (refine st_y S (Yr.ys (ys_addI (Ev.t rfl) Ev.c (fun _ => by unfold I64; omega))) rfl ?_; clear S a w; intro a w S)
      (refine st_y S (Yr.ys (ys_move (Ev.t rfl))) rfl ?_; clear S a w; intro a w S)
      refine st_nil ?_
      refine (then_normal ?_)
      rotate_left
      (refine op_y S (Yr.ys (ys_ldA ⟨Tryz.isAgg35, Tryz.sizeOf35⟩ (Ev.t rfl) (k := 5) rfl rfl)) rfl ?_; clear S a w; intro a w S; refine h_on S _ (List.Sublist.refl _) (by repeat (first | exact List.Sublist.refl _ | exact List.nil_sublist _ | refine .cons_cons _ ?_ | refine .cons _ ?_)) ?_)
      (refine h_q (i := 0) S (by repeat (first | exact List.Sublist.refl _ | exact List.nil_sublist _ | refine .cons_cons _ ?_ | refine .cons _ ?_)) rfl (by kernel_rfl) (Yr.ys (ys_ldA ⟨Tryz.isAgg37, Tryz.sizeOf37⟩ (Ev.t rfl) (k := 4) rfl rfl)) rfl ?_; clear S a w; intro a w S)
      (refine h_m (i := 3) rfl (by kernel_rfl) (op_calls S Tryz.call68 (EvL.cons (Ev.t rfl) (EvL.cons (Ev.t rfl) EvL.nil)) (c68 _ _ _ _ _ _ _ (by exact Sl.of_own S.wd (k := 1) rfl (fun _ => rfl)) (by exact ⟨(by exact Sl.of_own S.wd (k := 2) rfl (fun _ => rfl)), (by exact Sl.of_own S.wd (k := 3) rfl (fun _ => rfl))⟩) (by assumption) (by assumption) (by assumption)) rfl ?_); clear S a w; rintro _ _ ⟨A12, r12, A22, r22, A32, r32, rfl, rfl⟩ a w S; refine h_on S _ (List.Sublist.refl _) (by repeat (first | exact List.Sublist.refl _ | exact List.nil_sublist _ | refine .cons_cons _ ?_ | refine .cons _ ?_)) ?_)
      (refine h_m (i := 7) rfl (by kernel_rfl) (op_calls S Tryz.call142 (EvL.cons (Ev.t rfl) (EvL.cons (Ev.t rfl) EvL.nil)) (c142 _ _ _ _ _ _ (by exact ⟨(by exact Sl.of_own S.wd (k := 9) rfl (fun _ => rfl)), (by exact Sl.of_own S.wd (k := 10) rfl (fun _ => rfl))⟩) (by assumption) (by assumption)) rfl ?_); clear S a w; rintro _ _ ⟨A13, r13, A23, r23, rfl, rfl⟩ a w S; refine h_on S _ (List.Sublist.refl _) (by repeat (first | exact List.Sublist.refl _ | exact List.nil_sublist _ | refine .cons_cons _ ?_ | refine .cons _ ?_)) ?_)
      (refine h_m0 (i := 8) rfl (by kernel_rfl) (op_stW S Tryz.sizeOf37 (Ev.t rfl) (Ev.t rfl) (k := 9) rfl rfl rfl (by simp [Value.oneCell']) ?_); clear S a w; intro a w S; refine h_on S _ (List.Sublist.refl _) (by repeat (first | exact List.Sublist.refl _ | exact List.nil_sublist _ | refine .cons_cons _ ?_ | refine .cons _ ?_)) ?_)
      (refine h_m0 (i := 9) rfl (by kernel_rfl) (op_stW S Tryz.sizeOf35 (Ev.t rfl) (Ev.t rfl) (k := 10) rfl rfl rfl (by simp [Value.oneCell']) ?_); clear S a w; intro a w S; refine h_on S _ (List.Sublist.refl _) (by repeat (first | exact List.Sublist.refl _ | exact List.nil_sublist _ | refine .cons_cons _ ?_ | refine .cons _ ?_)) ?_)
      refine h_done (by kernel_rfl) ?_
      (refine (in_normal (then_normal (hK3 _ _ ?_))); clear hK3)
      refine wp_region_lit ?_
      (refine st_y S (Yr.ys (ys_addI (Ev.t rfl) Ev.c (fun _ => by unfold I64; omega))) rfl ?_; clear S a w; intro a w S)
      (refine st_y S (Yr.ys (ys_move (Ev.t rfl))) rfl ?_; clear S a w; intro a w S)
      refine st_nil ?_
      refine (then_normal ?_)
      rotate_left
      all_goals exact ⟨(i + 1, ((A12, r12), (A22, r22), (A32, r32)), cutC c y, some ((A13, r13), (A23, r23)), keepC T y), ⟨by dsimp only; omega, hc2.symm, hT2.symm, fun h => (by cases h), hok.cut y⟩, by dsimp only; omega, S.picks (by repeat (first | exact Fits.nil | refine Fits.skip rfl ?_ | refine Fits.cons rfl ?_)) (by repeat (first | exact Picks.nil | (refine Picks.rest ?_; (repeat (first | exact List.Sublist.refl _ | refine List.Sublist.cons_cons _ ?_ | refine List.Sublist.cons _ ?_)); done) | refine Picks.take 0 rfl ?_ | refine Picks.take 1 rfl ?_ | refine Picks.take 2 rfl ?_ | refine Picks.take 3 rfl ?_ | refine Picks.take 4 rfl ?_ | refine Picks.take 5 rfl ?_ | refine Picks.take 6 rfl ?_ | refine Picks.take 7 rfl ?_ | refine Picks.take 8 rfl ?_ | refine Picks.take 9 rfl ?_ | refine Picks.take 10 rfl ?_ | refine Picks.take 11 rfl ?_))⟩
  obtain rfl : i = pr.length := by omega
  rw [List.take_length] at hcI hTI
  have k6 := hok.may
  have hfin : rightK l x = (decide (c = x.c.1) && leqL T x.c.1.ctx) := by rw [hR, decide_eq_true hm0, rw_M, ← hcI, ← hTI]; rfl
  cases o with
  | none =>
    obtain rfl := hoI rfl
    refine wp_seq_k fun _ hK3 => ?_
    refine wp_region_lit ?_
    (refine st_y S (Yr.ys (ys_F (by omega) (ys_lss (Ev.t rfl) (Ev.t rfl)))) rfl ?_; clear S a w; intro a w S)
    refine st_nil ?_
    (refine (then_normal (hK3 _ _ ?_)); clear hK3)
    refine wp_seq_k fun _ hK3 => ?_
    refine st_else S (Ev.t rfl) ?_
    refine wp_exit ?_
    (refine (then_exit (then_exit (in_here (then_normal (hK1 _ _ ?_))))); clear hK1)
    refine wp_seq_k fun _ hK1 => ?_
    refine wp_region_lit ?_
    (refine st_y S (Yr.ys (ys_ldA ⟨Tryz.isAgg37, Tryz.sizeOf37⟩ (Ev.t rfl) (k := 3) rfl rfl)) rfl ?_; clear S a w; intro a w S)
    (refine st_y S (Yr.ys (ys_fieldN (FieldT.mk Tryz.underlying96 rfl Tryz.sizeOf37 rfl) (Ev.t rfl) (i' := 19) rfl)) rfl ?_; clear S a w; intro a w S)
    (refine st_y S (Yr.ys (ys_ldA ⟨Tryz.isAgg37, Tryz.sizeOf37⟩ (Ev.t rfl) (k := 7) rfl rfl)) rfl ?_; clear S a w; intro a w S)
    (refine st_y S (ys_call Tryz.call95 (EvL.cons (Ev.t rfl) (EvL.cons (Ev.t rfl) EvL.nil)) (fun hp w W => c95 _ _ _ _ _ _ _ _ _ (by exact Sl.of_own W (k := 0) rfl (fun _ => rfl)) (by exact ⟨(by exact Sl.of_own W (k := 1) rfl (fun _ => rfl)), (by exact Sl.of_own W (k := 2) rfl (fun _ => rfl))⟩) (by exact .old W (by assumption)) (by exact .old W (by assumption)))) rfl ?_; clear S a w; intro a w S)
    simp only [List.nil_append] at S
    (refine st_y S (Yr.ys (ys_move (Ev.t rfl))) rfl ?_; clear S a w; intro a w S)
    (refine st_yg S rfl rfl (Yr.ys (ys_ldA ⟨Tryz.isAgg35, Tryz.sizeOf35⟩ (Ev.t rfl) (k := 4) rfl rfl)) rfl ?_; clear S a w; intro a w S)
    (refine st_yg S rfl rfl (Yr.ys (ys_fieldN (FieldT.mk Tryz.underlying96 rfl Tryz.sizeOf37 rfl) (Ev.t rfl) (i' := 19) rfl)) rfl ?_; clear S a w; intro a w S)
    (refine st_yg S rfl rfl (Yr.ys (ys_fieldN (FieldT.mk Tryz.underlying37 rfl Tryz.sizeOf35 rfl) (Ev.g rfl) (i' := 20) rfl)) rfl ?_; clear S a w; intro a w S)
    (refine st_yg S rfl rfl (Yr.ys (ys_ldA ⟨Tryz.isAgg35, Tryz.sizeOf35⟩ (Ev.g rfl) (k := 7) rfl rfl)) rfl ?_; clear S a w; intro a w S)
    (refine st_yg S rfl rfl (ys_call Tryz.call173 (EvL.cons (Ev.g rfl) (EvL.cons (Ev.g rfl) EvL.nil)) (fun hp w W => c173 _ _ _ _ _ _ _ (by exact .old W (by assumption)) (by exact .old W (by assumption)) (by assumption) (by assumption))) rfl ?_; clear S a w; intro a w S)
    (refine st_y S (Yr.ys (ys_and (Ev.t rfl) (Ev.g rfl) Ev.c)) rfl ?_; clear S a w; intro a w S)
    (refine st_y S (Yr.ys (ys_assign (Ev.t rfl))) rfl ?_; clear S a w; intro a w S)
    refine st_nil ?_
    (refine (then_normal (hK1 _ _ ?_)); clear hK1)
    refine wp_ret ?_
    refine st_ret S (results1 S Tryz.results125 (Rv.tmp rfl)) ?_
    exact ⟨by rw [hfin], S.wd.below⟩
  | some o =>
    obtain ⟨⟨P1, p1⟩, ⟨P2, p2⟩⟩ := o
    dsimp only at S
    refine wp_seq_k fun _ hK3 => ?_
    refine wp_region_lit ?_
    (refine st_y S (Yr.ys (ys_F (by omega) (ys_lss (Ev.t rfl) (Ev.t rfl)))) rfl ?_; clear S a w; intro a w S)
    refine st_nil ?_
    (refine (then_normal (hK3 _ _ ?_)); clear hK3)
    refine wp_seq_k fun _ hK3 => ?_
    refine st_else S (Ev.t rfl) ?_
    refine wp_exit ?_
    (refine (then_exit (then_exit (in_here (then_normal (hK1 _ _ ?_))))); clear hK1)
    refine wp_seq_k fun _ hK1 => ?_
    refine wp_region_lit ?_
    (refine st_y S (Yr.ys (ys_ldA ⟨Tryz.isAgg37, Tryz.sizeOf37⟩ (Ev.t rfl) (k := 3) rfl rfl)) rfl ?_; clear S a w; intro a w S)
    (refine st_y S (Yr.ys (ys_fieldN (FieldT.mk Tryz.underlying96 rfl Tryz.sizeOf37 rfl) (Ev.t rfl) (i' := 19) rfl)) rfl ?_; clear S a w; intro a w S)
    (refine st_y S (Yr.ys (ys_ldA ⟨Tryz.isAgg37, Tryz.sizeOf37⟩ (Ev.t rfl) (k := 9) rfl rfl)) rfl ?_; clear S a w; intro a w S)
    (refine st_y S (ys_call Tryz.call95 (EvL.cons (Ev.t rfl) (EvL.cons (Ev.t rfl) EvL.nil)) (fun hp w W => c95 _ _ _ _ _ _ _ _ _ (by exact Sl.of_own W (k := 0) rfl (fun _ => rfl)) (by exact ⟨(by exact Sl.of_own W (k := 1) rfl (fun _ => rfl)), (by exact Sl.of_own W (k := 2) rfl (fun _ => rfl))⟩) (by exact .old W (by assumption)) (by exact .old W (by assumption)))) rfl ?_; clear S a w; intro a w S)
    (refine st_y S (Yr.ys (ys_move (Ev.t rfl))) rfl ?_; clear S a w; intro a w S)
    (refine st_yg S rfl rfl (Yr.ys (ys_ldA ⟨Tryz.isAgg35, Tryz.sizeOf35⟩ (Ev.t rfl) (k := 4) rfl rfl)) rfl ?_; clear S a w; intro a w S)
    (refine st_yg S rfl rfl (Yr.ys (ys_fieldN (FieldT.mk Tryz.underlying96 rfl Tryz.sizeOf37 rfl) (Ev.t rfl) (i' := 19) rfl)) rfl ?_; clear S a w; intro a w S)
    (refine st_yg S rfl rfl (Yr.ys (ys_fieldN (FieldT.mk Tryz.underlying37 rfl Tryz.sizeOf35 rfl) (Ev.g rfl) (i' := 20) rfl)) rfl ?_; clear S a w; intro a w S)
    (refine st_yg S rfl rfl (Yr.ys (ys_ldA ⟨Tryz.isAgg35, Tryz.sizeOf35⟩ (Ev.g rfl) (k := 9) rfl rfl)) rfl ?_; clear S a w; intro a w S)
    (refine st_yg S rfl rfl (ys_call Tryz.call173 (EvL.cons (Ev.g rfl) (EvL.cons (Ev.g rfl) EvL.nil)) (fun hp w W => c173 _ _ _ _ _ _ _ (by exact ⟨(by exact Sl.of_own W (k := 5) rfl (fun _ => rfl)), (by exact Sl.of_own W (k := 6) rfl (fun _ => rfl))⟩) (by exact .old W (by assumption)) (by assumption) (by assumption))) rfl ?_; clear S a w; intro a w S)
    (refine st_y S (Yr.ys (ys_and (Ev.t rfl) (Ev.g rfl) Ev.c)) rfl ?_; clear S a w; intro a w S)
    (refine st_y S (Yr.ys (ys_assign (Ev.t rfl))) rfl ?_; clear S a w; intro a w S)
    refine st_nil ?_
    (refine (then_normal (hK1 _ _ ?_)); clear hK1)
    refine wp_ret ?_
    refine st_ret S (results1 S Tryz.results125 (Rv.tmp rfl)) ?_
    exact ⟨by rw [hfin], S.wd.below⟩
end Go.Proofs.YtakpdbmdfnialaaGreat
set_option linter.unusedVariables false
set_option linter.unusedSimpArgs false
set_option maxRecDepth 100000
set_option maxHeartbeats 4000000
namespace Go.Fw
open Go.RowKit
theorem Sl.take_n {α : Type} {enc : α → List Value} {size B : Nat} {w : World} {A : Option Addr} {l : List α} {cap m : Nat} (h : Sl enc size w B (.slice A l.length cap) l) (hm : m ≤ l.length) : Sl enc size w B (.slice A m cap) (l.take m) := by
  obtain ⟨A', cap', e, h2, h3, h4⟩ := h
  simp only [Value.slice.injEq, true_and] at e
  obtain ⟨rfl, rfl⟩ := e
  have hl : (l.take m).length = m := by rw [List.length_take]; omega
  refine ⟨A, cap, by rw [hl], by omega, h3, fun hp => ?_⟩
  obtain ⟨g, o, k1, k2, k3⟩ := h4 (by omega)
  refine ⟨g, o, k1, k2, fun k x hx => k3 k x ?_⟩
  rw [List.getElem?_take] at hx
  split at hx
  · exact hx
  · cases hx
def readsF (l : List SLog) : Nat → List SLog → Int × Int
  | _, [] => (0, 0)
  | i, x :: r => if x.kind = 3 then (if rightK (l.take i) x = true then readsF l (i + 1) r else ((i : Int), 260)) else readsF l (i + 1) r
def readsK (l : List SLog) : Int × Int := readsF l 0 l
theorem readsF_at {l : List SLog} {x : SLog} {i : Nat} (h : l[i]? = some x) : readsF l i (l.drop i) = if x.kind = 3 then (if rightK (l.take i) x = true then readsF l (i + 1) (l.drop (i + 1)) else ((i : Int), 260)) else readsF l (i + 1) (l.drop (i + 1)) := by
  obtain ⟨h1, h2⟩ := List.getElem?_eq_some_iff.1 h
  rw [List.drop_eq_getElem_cons h1, h2, readsF]
structure JrnOk (w : World) (l : List SLog) : Prop where
  rd : LogsRd w l
  len : l.length ≤ 1048576
  ok : ∀ x ∈ l, CartOk x.s.1 ∧ ∀ m ∈ x.c.1.ctx.marks, mayD m = true
  room : ∀ i x, l[i]? = some x → RoomU ((toldU (goneK (l.take i) x.key) x (l.take i)).map (·.1))
theorem JrnOk.old {w0 w : World} {L : List Chunk} {l : List SLog} (W : Wd w0 L w) (h : JrnOk w0 l) : JrnOk w l := ⟨h.rd.old W, h.len, h.ok, h.room⟩
theorem CartOk.mayM {c : Cart} (h : CartOk c) : ∀ m ∈ c.ctx.marks, mayD m = true := ((canL_iff _).1 h.ctx).2.mayM
end Go.Fw
namespace Go.Proofs.YtakpdbmdfnialaaGreat
open Go.Fw Go.Proofs Go.RowKit Go.Proofs.Tryz
theorem d126 (w0 : World) (v : Value) (l : List SLog) (h : Sl SLog.enc 22 w0 w0.heap.size v l) (hl : JrnOk w0 l) :
    Calls Tryz.prog 126 #[.agg #[.int .i64 3, .func (.func 125) #[] #[]], v] w0 fun e w' => e = .returned (.tuple #[.int .i64 (readsK l).1, .int .i64 (readsK l).2]) ∧ Bel w0.heap.size w0 w' := by
  have hs := h
  obtain ⟨A, cap, rfl, hl0, hcap, hA⟩ := h
  refine enter2 func126 rfl ntmps126 rfl fun a S => wp_seq_k fun _ hK1 => wp_region_lit (st_m (op_box S (.t rfl) rfl fun g1 a w S => run S (.ac rfl <| .ac rfl <| .z) fun a w S => st_nil (then_normal (hK1 _ _ (wp_seq_k fun _ hK1 => sg S (.mv rfl <| .ln underlying84 rfl <| .mc rfl <| .z) fun a w S => wp_block ?_)))))
  refine st_lpM S [10] (X := Nat) (fun q => [(10, true, .int .i64 (q : Int))])
    (fun q => [.blk g1 (.cells #[.int .i64 3, .func (.func 125) #[] #[]] 170)])
    (fun q => q ≤ l.length ∧ readsF l q (l.drop q) = readsK l) (fun q => l.length - q) 0 ⟨Nat.zero_le _, rfl⟩ ?_
  clear S
  rintro q a w ⟨hq, hF⟩ S
  by_cases hlt : q < l.length
  · obtain ⟨gq, oq, x, rfl, hx, hd, hc⟩ := row_at hA hlt
    rw [readsF_at hx] at hF
    by_cases hk : x.kind = 3
    · have rw_k := decide_eq_true hk
      rw [if_pos hk] at hF
      have hxr := hl.rd x (List.mem_of_getElem? hx)
      obtain ⟨o1, m2⟩ := hl.ok x (List.mem_of_getElem? hx)
      have hroom := hl.room q x hx
      have m1 := o1.mayM
      obtain ⟨l1, l2, l3⟩ := cart_lens o1
      have ht : (l.take q).length = q := by rw [List.length_take]; omega
      have hst := Sl.take_n hs (m := q) (by omega)
      have hlt2 : LogsRd w0 (l.take q) := fun y hy => hl.rd y (List.mem_of_mem_take hy)
      have hlen := hl.len
      cases hB : rightK (l.take q) x with
      | true =>
        have rw_B := hB
        rw [if_pos hB] at hF
        have halt_r := trivial
        refine sg S (.lt (by omega) rfl rfl <| .z) fun a w S => wp_seq_k fun _ hK2 => st_then S (.t rfl) (wp_skip (then_normal (hK2 _ _ (wp_seq_k fun _ hK2 => wp_block (wp_seq_k fun _ hK3 => wp_region_lit (run S (.mv rfl <| .ix underlying84 sizeOf96 (by omega) rfl rfl <| .yy (ys_ldOA ⟨isAgg96, sizeOf96⟩ (.t rfl) (vs := [_, _, _, _, _, _, _, _, _, _, _, _, _, _, _, _, _, _, _, _, _, _]) rfl (fun _ => hc)) rfl <| .z) fun a w S => st_m (op_alloc S zeroValue96 (cs := _) rfl rfl fun g2 a w S => run S (.as rfl <| .z) fun a w S => st_m (op_stW S sizeOf96 (.t rfl) (.t rfl) (k := 0) rfl rfl rfl (by simp [Value.oneCell']) fun a w S => st_nil (then_normal (hK3 _ _ (wp_seq_k fun _ hK3 => ?_)))))))))))
        clear halt_r
        refine h_begin S (by kernel_rfl) [.blk g2 (.cells (SLog.enc x).toArray 96), .blk g1 (.cells #[.int .i64 3, .func (.func 125) #[] #[]] 170)] ?_
        clear S
        intro a w S
        have hold_r := trivial
        refine hy 0 S rfl (ys_fieldN (FieldT.mk underlying96 rfl sizeOf3 rfl) (.t rfl) (i' := 0) rfl) rfl fun a w S => hy 1 S rfl (ys_ld ⟨isAgg3, sizeOf3⟩ (.t rfl) (k := 0) rfl rfl) rfl fun a w S => hy 2 S rfl (ys_fieldN (FieldT.mk underlying170 rfl sizeOf3 rfl) (.t rfl) (i' := 0) rfl) rfl fun a w S => hy 3 S rfl (ys_ld ⟨isAgg3, sizeOf3⟩ (.t rfl) (k := 1) rfl rfl) rfl fun a w S => hy 4 S rfl (ys_T (by omega) (ys_eql (.t rfl) (.t rfl))) rfl fun a w S => ?_
        refine hy 5 S rfl (ys_move (.t rfl)) rfl fun a w S => hyt 6 S rfl rfl rfl (ys_fieldN (FieldT.mk underlying170 rfl sizeOf168 rfl) (.t rfl) (i' := 1) rfl) rfl fun a w S => hyt 7 S rfl rfl rfl (ys_ld ⟨isAgg168, sizeOf168⟩ (.t rfl) (k := 1) rfl rfl) rfl fun a w S => hyt 8 S rfl rfl rfl (ys_move (.t rfl)) rfl fun a w S => hyt 9 S rfl rfl rfl (ys_move (.t rfl)) rfl fun a w S => ?_
        refine hyt 10 S rfl rfl rfl (ys_slHi underlying84 sizeOf96 (.t rfl) (.t rfl) (fun _ => by first | omega | (simp; done) | (simp; omega))) rfl fun a w S => hyt 11 S rfl rfl rfl (ys_ldA ⟨isAgg96, sizeOf96⟩ (.t rfl) (k := 0) rfl rfl) rfl fun a w S => h_qg (i := 12) S (by repeat (first | exact List.Sublist.refl _ | exact List.nil_sublist _ | refine .cons_cons _ ?_ | refine .cons _ ?_)) rfl (by kernel_rfl) rfl rfl (ys_callV (.t rfl) call125 (.cons (.t rfl) (.cons (.t rfl) .nil)) (fun hp w W => c125 _ _ _ _ (by exact .old W (by assumption)) (by exact .old W (by assumption)) (by omega) (by exact .old W (by assumption)) (by assumption) (by assumption) (by assumption) (by omega) (by omega))) rfl fun a w S => ?_
        rw [rw_B] at S
        refine hyt 13 S rfl rfl rfl (ys_not (.t rfl)) rfl fun a w S => hy 14 S rfl (ys_pickT (.t rfl) (.t rfl)) rfl fun a w S => h_done (by kernel_rfl) (then_normal (hK3 _ _ (st_else S (.t rfl) (wp_skip (in_normal (then_normal (hK2 _ _ (wp_region_lit (run S (.ad (by unfold I64; omega) rfl <| .mv rfl <| .z) fun a w S => st_nil (then_normal ?_))))))))))
        exact ⟨q + 1, ⟨by omega, hF⟩, by omega, S.pk⟩
      | false =>
        have rw_B := hB
        rw [if_neg (by rw [hB]; decide)] at hF
        have halt_r := trivial
        refine sg S (.lt (by omega) rfl rfl <| .z) fun a w S => wp_seq_k fun _ hK2 => st_then S (.t rfl) (wp_skip (then_normal (hK2 _ _ (wp_seq_k fun _ hK2 => wp_block (wp_seq_k fun _ hK3 => wp_region_lit (run S (.mv rfl <| .ix underlying84 sizeOf96 (by omega) rfl rfl <| .yy (ys_ldOA ⟨isAgg96, sizeOf96⟩ (.t rfl) (vs := [_, _, _, _, _, _, _, _, _, _, _, _, _, _, _, _, _, _, _, _, _, _]) rfl (fun _ => hc)) rfl <| .z) fun a w S => st_m (op_alloc S zeroValue96 (cs := _) rfl rfl fun g2 a w S => run S (.as rfl <| .z) fun a w S => st_m (op_stW S sizeOf96 (.t rfl) (.t rfl) (k := 0) rfl rfl rfl (by simp [Value.oneCell']) fun a w S => st_nil (then_normal (hK3 _ _ (wp_seq_k fun _ hK3 => ?_)))))))))))
        clear halt_r
        refine h_begin S (by kernel_rfl) [.blk g2 (.cells (SLog.enc x).toArray 96), .blk g1 (.cells #[.int .i64 3, .func (.func 125) #[] #[]] 170)] ?_
        clear S
        intro a w S
        have hold_r := trivial
        refine hy 0 S rfl (ys_fieldN (FieldT.mk underlying96 rfl sizeOf3 rfl) (.t rfl) (i' := 0) rfl) rfl fun a w S => hy 1 S rfl (ys_ld ⟨isAgg3, sizeOf3⟩ (.t rfl) (k := 0) rfl rfl) rfl fun a w S => hy 2 S rfl (ys_fieldN (FieldT.mk underlying170 rfl sizeOf3 rfl) (.t rfl) (i' := 0) rfl) rfl fun a w S => hy 3 S rfl (ys_ld ⟨isAgg3, sizeOf3⟩ (.t rfl) (k := 1) rfl rfl) rfl fun a w S => hy 4 S rfl (ys_T (by omega) (ys_eql (.t rfl) (.t rfl))) rfl fun a w S => ?_
        refine hy 5 S rfl (ys_move (.t rfl)) rfl fun a w S => hyt 6 S rfl rfl rfl (ys_fieldN (FieldT.mk underlying170 rfl sizeOf168 rfl) (.t rfl) (i' := 1) rfl) rfl fun a w S => hyt 7 S rfl rfl rfl (ys_ld ⟨isAgg168, sizeOf168⟩ (.t rfl) (k := 1) rfl rfl) rfl fun a w S => hyt 8 S rfl rfl rfl (ys_move (.t rfl)) rfl fun a w S => hyt 9 S rfl rfl rfl (ys_move (.t rfl)) rfl fun a w S => ?_
        refine hyt 10 S rfl rfl rfl (ys_slHi underlying84 sizeOf96 (.t rfl) (.t rfl) (fun _ => by first | omega | (simp; done) | (simp; omega))) rfl fun a w S => hyt 11 S rfl rfl rfl (ys_ldA ⟨isAgg96, sizeOf96⟩ (.t rfl) (k := 0) rfl rfl) rfl fun a w S => h_qg (i := 12) S (by repeat (first | exact List.Sublist.refl _ | exact List.nil_sublist _ | refine .cons_cons _ ?_ | refine .cons _ ?_)) rfl (by kernel_rfl) rfl rfl (ys_callV (.t rfl) call125 (.cons (.t rfl) (.cons (.t rfl) .nil)) (fun hp w W => c125 _ _ _ _ (by exact .old W (by assumption)) (by exact .old W (by assumption)) (by omega) (by exact .old W (by assumption)) (by assumption) (by assumption) (by assumption) (by omega) (by omega))) rfl fun a w S => ?_
        rw [rw_B] at S
        refine hyt 13 S rfl rfl rfl (ys_not (.t rfl)) rfl fun a w S => hy 14 S rfl (ys_pickT (.t rfl) (.t rfl)) rfl fun a w S => h_done (by kernel_rfl) (then_normal (hK3 _ _ (st_then S (.t rfl) (sg S (.mv rfl <| .as rfl <| .ac rfl <| .z) fun a w S => wp_ret (in_ret (then_ret (then_ret (in_ret (then_ret (st_ret S (results2 S results126 (Rv.tmp rfl) (Rv.tmp rfl)) ?_))))))))))
        rw [← hF]
        exact ⟨rfl, S.wd.below⟩
    · have rw_k := decide_eq_false hk
      rw [if_neg hk] at hF
      refine sg S (.lt (by omega) rfl rfl <| .z) fun a w S => wp_seq_k fun _ hK2 => st_then S (.t rfl) (wp_skip (then_normal (hK2 _ _ (wp_seq_k fun _ hK2 => wp_block (wp_seq_k fun _ hK3 => wp_region_lit (run S (.mv rfl <| .ix underlying84 sizeOf96 (by omega) rfl rfl <| .yy (ys_ldOA ⟨isAgg96, sizeOf96⟩ (.t rfl) (vs := [_, _, _, _, _, _, _, _, _, _, _, _, _, _, _, _, _, _, _, _, _, _]) rfl (fun _ => hc)) rfl <| .z) fun a w S => st_m (op_alloc S zeroValue96 (cs := _) rfl rfl fun g2 a w S => run S (.as rfl <| .z) fun a w S => st_m (op_stW S sizeOf96 (.t rfl) (.t rfl) (k := 0) rfl rfl rfl (by simp [Value.oneCell']) fun a w S => st_nil (then_normal (hK3 _ _ (wp_seq_k fun _ hK3 => st_quiet S (by kernel_rfl) (by kernel_rfl) fun a S => qrun S (.fa underlying96 sizeOf3 0 rfl rfl rfl <| .ld gt3 0 rfl rfl rfl <| .fa underlying170 sizeOf3 0 rfl rfl rfl <| .ld gt3 1 rfl rfl rfl <| .yy (ys_F (by omega) (ys_eql (.t rfl) (.t rfl))) rfl <| .mv rfl <| .sk rfl rfl rfl <| .sk rfl rfl rfl <| .sk rfl rfl rfl <| .sk rfl rfl rfl <| .sk rfl rfl rfl <| .sk rfl rfl rfl <| .sk rfl rfl rfl <| .sk rfl rfl rfl <| .yy (ys_pickF (.t rfl) Ev.c) rfl <| .z) fun a S => ?_)))))))))))
      (refine q_nil ?_; intro w W; replace S := St.mk S W; clear W)
      refine then_normal (hK3 _ _ (st_else S (.t rfl) (wp_skip (in_normal (then_normal (hK2 _ _ (wp_region_lit (run S (.ad (by unfold I64; omega) rfl <| .mv rfl <| .z) fun a w S => st_nil (then_normal ?_)))))))))
      exact ⟨q + 1, ⟨by omega, hF⟩, by omega, S.pk⟩
  obtain rfl : q = l.length := by omega
  rw [List.drop_length] at hF
  refine sg S (.ge (by omega) rfl rfl <| .z) fun a w S => wp_seq_k fun _ hK2 => st_else S (.t rfl) (wp_exit (then_exit (then_exit (in_here (then_normal (hK1 _ _ (sg S (.ac rfl <| .ac rfl <| .z) fun a w S => wp_ret (st_ret S (results2 S results126 (Rv.tmp rfl) (Rv.tmp rfl)) ?_))))))))
  rw [← hF]
  exact ⟨rfl, S.wd.below⟩
theorem c51 (w0 : World) (v : Value) (l : List SLog) (h : Sl SLog.enc 22 w0 w0.heap.size v l) (hl : JrnOk w0 l) :
    Calls Tryz.prog 51 #[v] w0 fun e w' => e = .returned (.tuple #[.int .i64 (readsK l).1, .int .i64 (readsK l).2]) ∧ Bel w0.heap.size w0 w' := by
  refine enter1 func51 rfl ntmps51 rfl fun a S => sg S (.ac rfl <| .ac rfl <| .z) fun a w S => sg S (.yy (ys_bld (ps := [(0, _), (1, _)]) (us := [_, _]) bld170 (.cons Ev.c (.cons Ev.f .nil)) rfl) rfl <| .mv rfl <| .xx (ys_call call126 (.cons (.t rfl) (.cons (.t rfl) .nil)) (fun hp w W => d126 _ _ _ (by exact .old W (by assumption)) (by exact .old W (by assumption)))) rfl <| .ex rfl rfl <| .ex rfl rfl <| .as rfl <| .as rfl <| .z) fun a w S => wp_ret (st_ret S (results2 S results51 (Rv.tmp rfl) (Rv.tmp rfl)) ?_)
  exact ⟨rfl, S.wd.below⟩
end Go.Proofs.YtakpdbmdfnialaaGreat
set_option linter.unusedVariables false
set_option linter.unusedSimpArgs false
set_option maxRecDepth 100000
set_option maxHeartbeats 4000000
namespace Go.Fw
open Go.RowKit
def SLog.nul (x : SLog) : SLog := x.at3 ⟨none, 0, 0, none, 0, 0, none, 0, 0⟩ ⟨none, 0, 0, none, 0, 0, none, 0, 0⟩ ⟨none, 0, 0, none, 0, 0, none, 0, 0⟩
def SmallL (l : List SLog) : Prop := ∀ x ∈ l, lenC3 x.u.1.seen ∧ lenC3 x.s.1 ∧ lenC3 x.c.1
structure LogIn (w1 : World) (bs : List Nat) (x : SLog) : Prop where
  u : CartIn w1 bs x.u.1.seen x.u.2
  s : CartIn w1 bs x.s.1 x.s.2
  c : CartIn w1 bs x.c.1 x.c.2
theorem LogIn.rd {w0 w w1 : World} {L : List Chunk} {bs : List Nat} {k : Nat} {x : SLog} (h : LogIn w1 bs x) (W : Wd w0 L w) (hk : L[k]? = some (.ice w1 bs)) : LogRd w x := ⟨h.u.rd W hk, h.s.rd W hk, h.c.rd W hk⟩
theorem nul_take {s l : List SLog} {i : Nat} {x y : SLog} (h : s.map SLog.nul = (l.map SLog.nul).take i) (hx : l[i]? = some x) (hy : y.nul = x.nul) : (s ++ [y]).map SLog.nul = (l.map SLog.nul).take (i + 1) := by
  rw [List.map_append, h, List.take_add_one, List.getElem?_map, hx]
  simp [hy]
end Go.Fw
namespace Go.Proofs.YtakpdbmdfnialaaGreat
open Go.Fw Go.Proofs Go.RowKit Go.Proofs.Tryz
theorem c43 (w0 : World) (v : Value) (l : List SLog) (h : Sl SLog.enc 22 w0 w0.heap.size v l) (hc : LogsRd w0 l) (hb : SmallL l) (hn : l.length ≤ 1048576) :
    Rets Tryz.prog 43 #[v] w0 fun u L => ∃ A r s w1 bs, u = .slice A s.length r ∧ L = [rowOf 96 22 SLog.enc A r s, .ice w1 bs] ∧ s.map SLog.nul = l.map SLog.nul ∧ ∀ p ∈ s, LogIn w1 bs p := by
  obtain ⟨A, cap, rfl, hl, hcap, hA⟩ := h
  unfold Go.Fw.Rets
  refine enter1 func43 rfl ntmps43 rfl fun a S => sg S (.ac rfl <| .z) fun a w S => sg S (.ac rfl <| .z) fun a w S => wp_seq_k fun _ hK1 => sg S (.mv rfl <| .ln underlying84 rfl <| .mc rfl <| .z) fun a w S => wp_block ?_
  replace S := S.nil_ 96 22 SLog.enc none
  replace S : St _ _ _ (.ice w0 [] :: _) _ _ := ⟨S.kn, S.wd.bare (fun b hb => by cases hb) (fun b hb => by cases hb)⟩
  refine st_lpM S [3, 8] (X := Nat × Option Addr × Nat × List SLog × World × List Nat) (fun q => [(3, true, .slice q.2.1 q.2.2.2.1.length q.2.2.1), (8, true, .int .i64 (q.1 : Int))])
    (fun q => [rowOf 96 22 SLog.enc q.2.1 q.2.2.1 q.2.2.2.1, .ice q.2.2.2.2.1 q.2.2.2.2.2]) (fun q => q.1 ≤ l.length ∧ q.2.2.2.1.map SLog.nul = (l.map SLog.nul).take q.1 ∧ ∀ p ∈ q.2.2.2.1, LogIn q.2.2.2.2.1 q.2.2.2.2.2 p) (fun q => l.length - q.1) (0, none, 0, [], w0, []) ⟨Nat.zero_le _, by simp, by simp⟩ ?_
  clear S
  rintro ⟨i, B, cB, s, w1, bs⟩ a w ⟨hi, hsm, hsi⟩ S
  dsimp only at hi hsm hsi S
  have hsl : s.length = i := by
    have := congrArg List.length hsm
    rw [List.length_map, List.length_take, List.length_map] at this
    omega
  by_cases hlt : i < l.length
  · obtain ⟨gq, oq, x, rfl, hx, hd, hcx⟩ := row_at hA hlt
    have hxc := hc x (List.mem_of_getElem? hx)
    have hxb := hb x (List.mem_of_getElem? hx)
    refine sg S (.lt (by omega) rfl rfl <| .z) fun a w S => wp_seq_k fun _ hK2 => st_then S (.t rfl) (wp_skip (then_normal (hK2 _ _ (wp_seq_k fun _ hK2 => wp_block (wp_seq_k fun _ hK3 => wp_region_lit (run S (.ix underlying84 sizeOf96 (by omega) rfl rfl <| .yy (ys_ldOA ⟨isAgg96, sizeOf96⟩ (.t rfl) (vs := [_, _, _, _, _, _, _, _, _, _, _, _, _, _, _, _, _, _, _, _, _, _]) rfl (fun _ => hcx)) rfl <| .z) fun a w S => st_m (op_alloc S zeroValue96 (cs := _) rfl rfl fun g1 a w S => st_m (op_stW S sizeOf96 (.t rfl) (.t rfl) (k := 0) rfl rfl rfl (by simp [Value.oneCell']) fun a w S => st_nil (then_normal (hK3 _ _ (wp_region_lit (run S (.mv rfl <| .la gt96 0 rfl rfl rfl <| .z) fun a w S => ?_))))))))))))
    (refine st_m (op_calls S call117 (.cons (.t rfl) .nil) (c117 _ _ (by exact .old S.wd (by assumption)) (by assumption)) rfl ?_); clear S a w; rintro _ _ ⟨A11, r11, A21, r21, A31, r31, B11, q11, B21, q21, B31, q31, C11, p11, C21, p21, C31, p31, rfl, rfl⟩ a w S)
    refine st_m (op_bslice1 S underlying84 inf96 rfl rfl rfl (.t rfl) rfl rfl rfl fun g2 a w S => st_m (op_push S underlying84 inf96 rfl (k := 11) (j := 0) rfl (.t rfl) (.t rfl) rfl rfl rfl rfl (by first | omega | (simp only [List.length_append, List.length_cons, List.length_nil]; omega)) rfl rfl rfl fun A1 cap1 a w S => run S (.as rfl <| .z) fun a w S => st_nil (in_normal (then_normal (hK2 _ _ (wp_region_lit (run S (.ad (by unfold I64; omega) rfl <| .mv rfl <| .z) fun a w S => st_nil (then_normal ?_))))))))
    obtain ⟨y, hy⟩ : ∃ y, x.at3 ⟨A11, x.u.1.seen.ents.length, r11, A21, x.u.1.seen.ctx.marks.length, r21, A31, x.u.1.seen.ctx.cloud.length, r31⟩ ⟨B11, x.s.1.ents.length, q11, B21, x.s.1.ctx.marks.length, q21, B31, x.s.1.ctx.cloud.length, q31⟩ ⟨C11, x.c.1.ents.length, p11, C21, x.c.1.ctx.marks.length, p21, C31, x.c.1.ctx.cloud.length, p31⟩ = y := ⟨_, rfl⟩
    rw [hy] at S
    have hyn : y.nul = x.nul := by rw [← hy]; rfl
    obtain ⟨bs1, W1, n1, hold1⟩ := freeze_cart (X := x.u.1.seen) (S.wd.picks (L' := [rowOf 100 6 Ent.enc A11 r11 x.u.1.seen.ents, rowOf 30 3 Dot.enc A21 r21 x.u.1.seen.ctx.marks, rowOf 74 3 Dot.enc A31 r31 x.u.1.seen.ctx.cloud, .ice w1 bs, rowOf 100 6 Ent.enc B11 q11 x.s.1.ents, rowOf 30 3 Dot.enc B21 q21 x.s.1.ctx.marks, rowOf 74 3 Dot.enc B31 q31 x.s.1.ctx.cloud, rowOf 100 6 Ent.enc C11 p11 x.c.1.ents, rowOf 30 3 Dot.enc C21 p21 x.c.1.ctx.marks, rowOf 74 3 Dot.enc C31 p31 x.c.1.ctx.cloud, rowOf 96 22 SLog.enc A1 cap1 (s ++ [y])]) (by repeat (first | exact Picks.nil | (refine Picks.rest ?_; (repeat (first | exact List.Sublist.refl _ | refine List.Sublist.cons_cons _ ?_ | refine List.Sublist.cons _ ?_)); done) | refine Picks.take 0 rfl ?_ | refine Picks.take 1 rfl ?_ | refine Picks.take 2 rfl ?_ | refine Picks.take 3 rfl ?_ | refine Picks.take 4 rfl ?_ | refine Picks.take 5 rfl ?_ | refine Picks.take 6 rfl ?_ | refine Picks.take 7 rfl ?_ | refine Picks.take 8 rfl ?_ | refine Picks.take 9 rfl ?_ | refine Picks.take 10 rfl ?_ | refine Picks.take 11 rfl ?_)))
    obtain ⟨bs2, W2, n2, hold2⟩ := freeze_cart (X := x.s.1) (W1.picks (L' := [rowOf 100 6 Ent.enc B11 q11 x.s.1.ents, rowOf 30 3 Dot.enc B21 q21 x.s.1.ctx.marks, rowOf 74 3 Dot.enc B31 q31 x.s.1.ctx.cloud, .ice w bs1, rowOf 100 6 Ent.enc C11 p11 x.c.1.ents, rowOf 30 3 Dot.enc C21 p21 x.c.1.ctx.marks, rowOf 74 3 Dot.enc C31 p31 x.c.1.ctx.cloud, rowOf 96 22 SLog.enc A1 cap1 (s ++ [y])]) (by repeat (first | exact Picks.nil | (refine Picks.rest ?_; (repeat (first | exact List.Sublist.refl _ | refine List.Sublist.cons_cons _ ?_ | refine List.Sublist.cons _ ?_)); done) | refine Picks.take 0 rfl ?_ | refine Picks.take 1 rfl ?_ | refine Picks.take 2 rfl ?_ | refine Picks.take 3 rfl ?_ | refine Picks.take 4 rfl ?_ | refine Picks.take 5 rfl ?_ | refine Picks.take 6 rfl ?_ | refine Picks.take 7 rfl ?_ | refine Picks.take 8 rfl ?_ | refine Picks.take 9 rfl ?_ | refine Picks.take 10 rfl ?_ | refine Picks.take 11 rfl ?_)))
    obtain ⟨bs3, W3, n3, hold3⟩ := freeze_cart (X := x.c.1) (W2.picks (L' := [rowOf 100 6 Ent.enc C11 p11 x.c.1.ents, rowOf 30 3 Dot.enc C21 p21 x.c.1.ctx.marks, rowOf 74 3 Dot.enc C31 p31 x.c.1.ctx.cloud, .ice w bs2, rowOf 96 22 SLog.enc A1 cap1 (s ++ [y])]) (by repeat (first | exact Picks.nil | (refine Picks.rest ?_; (repeat (first | exact List.Sublist.refl _ | refine List.Sublist.cons_cons _ ?_ | refine List.Sublist.cons _ ?_)); done) | refine Picks.take 0 rfl ?_ | refine Picks.take 1 rfl ?_ | refine Picks.take 2 rfl ?_ | refine Picks.take 3 rfl ?_ | refine Picks.take 4 rfl ?_ | refine Picks.take 5 rfl ?_ | refine Picks.take 6 rfl ?_ | refine Picks.take 7 rfl ?_ | refine Picks.take 8 rfl ?_ | refine Picks.take 9 rfl ?_ | refine Picks.take 10 rfl ?_ | refine Picks.take 11 rfl ?_)))
    replace S := St.mk S.kn W3
    refine ⟨(i + 1, A1, cap1, s ++ [y], w, bs3), ⟨by dsimp only; omega, nul_take hsm hx hyn, fun p hp => ?_⟩, by dsimp only; omega, S.pk⟩
    rcases List.mem_append.1 hp with hp | hp
    · obtain ⟨i1, i2, i3⟩ := hsi p hp
      exact ⟨hold3 _ _ (hold2 _ _ (hold1 _ _ i1)), hold3 _ _ (hold2 _ _ (hold1 _ _ i2)), hold3 _ _ (hold2 _ _ (hold1 _ _ i3))⟩
    · rw [List.mem_singleton.1 hp, ← hy]
      exact ⟨hold3 _ _ (hold2 _ _ n1), hold3 _ _ n2, n3⟩
  obtain rfl : i = l.length := by omega
  rw [List.take_of_length_le (by simp)] at hsm
  refine sg S (.ge (by omega) rfl rfl <| .z) fun a w S => wp_seq_k fun _ hK2 => st_else S (.t rfl) (wp_exit (then_exit (then_exit (in_here (then_normal (hK1 _ _ (sg S (.mv rfl <| .as rfl <| .z) fun a w S => wp_ret (st_ret S (results1 S results43 (Rv.tmp rfl)) ?_))))))))
  exact ⟨_, _, rfl, S.wd.pk, _, _, s, _, _, rfl, rfl, hsm, hsi⟩
end Go.Proofs.YtakpdbmdfnialaaGreat
set_option linter.unusedVariables false
set_option linter.unusedSimpArgs false
set_option maxRecDepth 100000
namespace Go.Proofs.YtakpdbmdfnialaaGreat
open Go.Fw Go.Proofs Go.RowKit Go.ChangeShapes Go.WideShapes Go.ChangeAt Go.Deep Go.Joins Go.Proofs.Tryz
section
variable {H : Type} {enc : TypeId × Value → H} {w : World}
theorem rdActor : Rdr enc Tryz.prog w 66 fun cs _ => ∃ n l : Int, cs = [.int .i64 n, .int .i64 l] := by
  refine (Rdr.struct underlying66 (by kernel_rfl) (.cons (Rdr.int underlying3) (.cons (Rdr.int underlying3) .nil))).mono ?_
  rintro cs b ⟨_, _, rfl, ⟨_, _, x, rfl, _⟩, _, _, rfl, ⟨_, _, y, rfl, _⟩, rfl⟩
  exact ⟨x, y, rfl⟩
def LgRd (w : World) (x : SLog) (b : Nat) : Prop := LogRd w x ∧ lensC x.u.1.seen b ∧ lensC x.s.1 b ∧ lensC x.c.1 b
theorem lens_le {X : Cart} {b b' : Nat} (h : lensC X b) (hb : b ≤ b') : lensC X b' := by
  obtain ⟨h1, h2, h3⟩ := h
  exact ⟨by omega, by omega, by omega⟩
theorem rdLog : Rdr enc Tryz.prog w 96 fun cs b => ∃ x : SLog, cs = SLog.enc x ∧ LgRd w x b := by
  refine (Rdr.struct underlying96 (by kernel_rfl) (.cons (Rdr.int underlying3) (.cons (Rdr.int underlying3) (.cons (Rdr.int underlying3) (.cons rdSU (.cons rdActor (.cons (Rdr.str underlying9) (.cons rdSC (.cons rdSC .nil))))))))).mono ?_
  rintro cs b ⟨_, _, rfl, ⟨_, _, k, rfl, _⟩, _, _, rfl, ⟨_, _, at_, rfl, _⟩, _, _, rfl, ⟨_, _, ask, rfl, _⟩, _, _, rfl, ⟨_, b1, u, rfl, hu, hul, _⟩, _, _, rfl, ⟨_, _, an, al, rfl⟩, _, _, rfl, ⟨_, _, key, rfl, _⟩, _, _, rfl, ⟨_, b2, s, rfl, hs, hsl⟩, _, _, rfl, ⟨_, b3, c, rfl, hc, hcl⟩, rfl⟩
  exact ⟨⟨k, at_, ask, u, an, al, key, s, c⟩, rfl, ⟨hu, hs, hc⟩, lens_le hul b1, lens_le hsl b2, lens_le hcl b3⟩
theorem read_logs {v : Value} {d : DataW H} {p : List MemPlace} (hv : ∃ A len cap, v = .slice A len cap) (h : DataW.Trod enc Tryz.prog w 0 (fun _ => true) true 84 v d p) (hb : Rows.uptoBulk d ≤ 1048576) :
    ∃ l, Sl SLog.enc 22 w w.heap.size v l ∧ l.length + 1 ≤ Rows.uptoBulk d ∧ LogsRd w l ∧ SmallL l := by
  obtain ⟨v', l, hc, hs, hl, hf⟩ := Rdr.top (Rdr.slice (k := 22) underlying84 (by kernel_rfl) rfl SLog.enc_len rdLog) h
  obtain ⟨A, n, c, rfl⟩ := hv
  simp only [Value.cells, List.cons.injEq, and_true] at hc
  subst hc
  refine ⟨l, hs, hl, fun x hx => ?_, fun x hx => ?_⟩
  · obtain ⟨b', h1, h2, _⟩ := hf x hx
    exact h2
  · obtain ⟨b', h1, h2, h3, h4, h5⟩ := hf x hx
    exact ⟨lens_le h3 (by omega), lens_le h4 (by omega), lens_le h5 (by omega)⟩
end
end Go.Proofs.YtakpdbmdfnialaaGreat
set_option linter.unusedVariables false
set_option linter.unusedSimpArgs false
set_option maxRecDepth 100000
namespace Go.Fw
open Go.RowKit
theorem issuedF_nul : ∀ (l : List SLog) (i : Nat) (met : List Nam), issuedF i met (l.map SLog.nul) = issuedF i met l
  | [], i, met => rfl
  | x :: r, i, met => by
    rw [List.map_cons, issuedF, issuedF, issuedF_nul r, issuedF_nul r]
    rfl
theorem issued_nul (l : List SLog) : issuedK (l.map SLog.nul) = issuedK l := issuedF_nul l 0 []
theorem issued_like {s l : List SLog} (h : s.map SLog.nul = l.map SLog.nul) : issuedK s = issuedK l := by rw [← issued_nul s, h, issued_nul]
theorem gone_nul (l : List SLog) (key : List UInt8) : goneK (l.map SLog.nul) key = (goneK l key).map SLog.nul := by
  unfold goneK
  rw [List.filter_map]
  rfl
theorem forgot_nul (l : List SLog) (d : Dot) : forgotK (l.map SLog.nul) d = forgotK l d := by
  unfold forgotK
  rw [List.any_map]
  rfl
theorem told_nul (pr : List SLog) (x : SLog) (l : List SLog) : (toldU (pr.map SLog.nul) x.nul (l.map SLog.nul)).map (·.1) = (toldU pr x l).map (·.1) := by
  unfold toldU
  rw [List.filter_map, List.map_map, List.map_map, List.map_map]
  have e : (toldB (pr.map SLog.nul) x.nul ∘ SLog.nul) = toldB pr x := by
    funext y
    show toldB (pr.map SLog.nul) x.nul y.nul = toldB pr x y
    unfold toldB
    rw [forgot_nul]
    rfl
  rw [e]
  rfl
theorem right_nul (l : List SLog) (x : SLog) : rightK (l.map SLog.nul) x.nul = rightK l x := by
  unfold rightK
  rw [show x.nul.key = x.key from rfl, gone_nul, told_nul, List.foldl_map, List.foldl_map]
  rfl
theorem readsF_nul (l : List SLog) : ∀ (r : List SLog) (i : Nat), readsF (l.map SLog.nul) i (r.map SLog.nul) = readsF l i r
  | [], i => rfl
  | x :: r, i => by
    rw [List.map_cons, readsF, readsF, readsF_nul l r, ← List.map_take, right_nul]
    rfl
theorem reads_nul (l : List SLog) : readsK (l.map SLog.nul) = readsK l := readsF_nul l l 0
theorem reads_like {s l : List SLog} (h : s.map SLog.nul = l.map SLog.nul) : readsK s = readsK l := by rw [← reads_nul s, h, reads_nul]
theorem issuedF_begin : ∀ (l : List SLog) (i n : Nat) (met : List Nam), (issuedF i met l).2 = 0 → (issuedF i met (l.take n)).2 = 0
  | [], i, n, met, h => by rw [List.take_nil]; exact h
  | x :: r, i, 0, met, h => rfl
  | x :: r, i, n + 1, met, h => by
    rw [List.take_succ_cons, issuedF]
    rw [issuedF] at h
    split at h
    · rename_i hk
      rw [if_pos hk]
      split at h
      · rename_i hb
        rw [if_pos hb]
        exact issuedF_begin r (i + 1) n _ h
      · exact absurd h (by show ¬ (260 : Int) = 0; decide)
    · rename_i hk
      rw [if_neg hk]
      exact issuedF_begin r (i + 1) n _ h
theorem issued_begin {l : List SLog} (h : (issuedK l).2 = 0) (n : Nat) : (issuedK (l.take n)).2 = 0 := issuedF_begin l 0 n [] h
theorem readsF_begin (l : List SLog) (n : Nat) : ∀ (r : List SLog) (i : Nat), (readsF l i r).2 = 0 → (readsF (l.take n) i (r.take (n - i))).2 = 0
  | [], i, h => by rw [List.take_nil]; rfl
  | x :: r, i, h => by
    by_cases hn : n ≤ i
    · rw [show n - i = 0 by omega, List.take_zero]; rfl
    · rw [show n - i = (n - (i + 1)) + 1 by omega, List.take_succ_cons, readsF]
      rw [readsF] at h
      rw [List.take_take, show min i n = i by omega]
      split at h
      · rename_i hk
        rw [if_pos hk]
        split at h
        · rename_i hb
          rw [if_pos hb]
          exact readsF_begin l n r (i + 1) h
        · exact absurd h (by show ¬ (260 : Int) = 0; decide)
      · rename_i hk
        rw [if_neg hk]
        exact readsF_begin l n r (i + 1) h
theorem reads_begin {l : List SLog} (h : (readsK l).2 = 0) (n : Nat) : (readsK (l.take n)).2 = 0 := readsF_begin l n l 0 h
theorem nul_mem {s l : List SLog} (h : s.map SLog.nul = l.map SLog.nul) {x : SLog} (hx : x ∈ s) : ∃ y ∈ l, y.nul = x.nul := by
  have h2 : x.nul ∈ s.map SLog.nul := List.mem_map_of_mem hx
  rw [h] at h2
  exact List.mem_map.1 h2
theorem logOk_nul (x : SLog) : logOk x.nul = logOk x := rfl
theorem logOk_like {s l : List SLog} (h : s.map SLog.nul = l.map SLog.nul) (hl : l.all logOk = true) : s.all logOk = true := List.all_eq_true.2 fun x hx => by
  obtain ⟨y, hy, e⟩ := nul_mem h hx
  rw [← logOk_nul, ← e, logOk_nul]
  exact List.all_eq_true.1 hl y hy
theorem jrn_ok {s : List SLog} (hk : s.all logOk = true) : ∀ x ∈ s, CartOk x.s.1 ∧ ∀ m ∈ x.c.1.ctx.marks, mayD m = true := fun x hx => by
  obtain ⟨h1, h2, _⟩ := logOk_is (List.all_eq_true.1 hk x hx)
  exact ⟨h1, h2.mayM⟩
theorem jrn_few {w : World} {s : List SLog} (h : LogsRd w s) (hn : s.length ≤ 20000) (hk : ∀ x ∈ s, CartOk x.s.1 ∧ ∀ m ∈ x.c.1.ctx.marks, mayD m = true) : JrnOk w s := ⟨h, by omega, hk, fun i x hx => room_few (by
  rw [List.length_map]
  have h1 := told_len (goneK (s.take i) x.key) (s.take i) x
  have h2 := List.length_take (i := i) (l := s)
  omega)⟩
theorem like_len {s l : List SLog} (h : s.map SLog.nul = l.map SLog.nul) : s.length = l.length := by
  have := congrArg List.length h
  simpa using this
end Go.Fw
set_option linter.unusedVariables false
set_option linter.unusedSimpArgs false
set_option maxRecDepth 100000
set_option maxHeartbeats 4000000
namespace Go.Proofs.YtakpdbmdfnialaaGreat
open Go.Fw Go.Proofs Go.RowKit Go.Proofs.Tryz
theorem c11 (w0 : World) (v : Value) (l : List SLog) (k : UInt64) (h : Sl SLog.enc 22 w0 w0.heap.size v l) (hc : LogsRd w0 l) (hb : SmallL l) (hn : l.length ≤ 1048576) :
    Calls Tryz.prog 11 #[v, .int .u64 (k.toNat : Int)] w0 fun e w' => e = .returned (.bool true) ∧ Bel w0.heap.size w0 w' := by
  have hs := h
  obtain ⟨A, cap, rfl, hl, hcap, hA⟩ := h
  have hj := Nat.mod_lt k.toNat (show 0 < l.length + 1 by omega)
  have rw_r : (k.toNat : Int) % ((l.length : Int) + 1) = ((k.toNat % (l.length + 1) : Nat) : Int) := by
    rw [Int.natCast_emod]; rfl
  generalize k.toNat % (l.length + 1) = t at *
  have rw_w : IntKind.i64.wrap (t : Int) = (t : Int) := by rw [IntKind.wrap_i64]; omega
  have rw_w2 : IntKind.u64.wrap ((l.length : Int) + 1) = (l.length : Int) + 1 := by rw [IntKind.wrap_u64]; omega
  have hst := Sl.take_n hs (m := t) (by omega)
  have hlt : (l.take t).length = t := by rw [List.length_take]; omega
  have hct : LogsRd w0 (l.take t) := fun y hy => hc y (List.mem_of_mem_take hy)
  have hbt : SmallL (l.take t) := fun y hy => hb y (List.mem_of_mem_take hy)
  cases hk : l.all logOk with
  | false =>
    have rw_k := hk
    refine enter2 func11 rfl ntmps11 rfl fun a S => sg S (.ac rfl <| .z) fun a w S => wp_seq_k fun _ hK1 => wp_seq_k fun _ hK2 => wp_region_lit (run S (.mv rfl <| .ln underlying84 rfl <| .yy (ys_gtr (.t rfl) Ev.c) rfl <| .mv rfl <| .z) fun a w S => st_yf S rfl rfl (Yr.ys (ys_move (.t rfl))) rfl fun a w S => st_yf S rfl rfl (ys_call call41 (.cons (Ev.g rfl) .nil) (fun hp w W => c41 _ _ _ (by exact .old W (by assumption)) (by exact .old W (by assumption)))) rfl fun a w S => ?_)
    rw [rw_k] at S
    refine st_yf S rfl rfl (Yr.ys (ys_not (Ev.g rfl))) rfl fun a w S => run S (.yy (ys_orT (.t rfl) Ev.c (Ev.g rfl)) rfl <| .z) fun a w S => st_nil (then_normal (hK2 _ _ (st_then S (.t rfl) (sg S (.xx (ys_call call38 .nil (fun hp w W => c38 _)) rfl <| .as rfl <| .z) fun a w S => wp_ret (then_ret (st_ret S (results1 S results11 (Rv.tmp rfl)) ?_))))))
    all_goals exact ⟨rfl, S.wd.below⟩
  | true =>
    have rw_k := hk
    refine enter2 func11 rfl ntmps11 rfl fun a S => sg S (.ac rfl <| .z) fun a w S => wp_seq_k fun _ hK1 => wp_seq_k fun _ hK2 => wp_region_lit (run S (.mv rfl <| .ln underlying84 rfl <| .yy (ys_gtr (.t rfl) Ev.c) rfl <| .mv rfl <| .z) fun a w S => st_yf S rfl rfl (Yr.ys (ys_move (.t rfl))) rfl fun a w S => st_yf S rfl rfl (ys_call call41 (.cons (Ev.g rfl) .nil) (fun hp w W => c41 _ _ _ (by exact .old W (by assumption)) (by exact .old W (by assumption)))) rfl fun a w S => ?_)
    rw [rw_k] at S
    refine st_yf S rfl rfl (Yr.ys (ys_not (Ev.g rfl))) rfl fun a w S => run S (.yy (ys_orF (.t rfl) Ev.c (Ev.g rfl)) rfl <| .z) fun a w S => st_nil (then_normal (hK2 _ _ ?_))
    refine st_if S (.t rfl) (fun h1 => ?_) (fun h1 => ?_)
    refine sg S (.xx (ys_call call38 .nil (fun hp w W => c38 _)) rfl <| .as rfl <| .z) fun a w S => wp_ret (then_ret (st_ret S (results1 S results11 (Rv.tmp rfl)) ?_))
    rotate_left
    refine wp_skip (then_normal (hK1 _ _ (wp_seq_k fun _ hK1 => wp_region_lit (run S (.mv rfl <| .mv rfl <| .ln underlying84 rfl <| .ad (by unfold I64; omega) rfl <| .yy (ys_cvU underlying3 underlying61 (.t rfl) (fun _ => by omega)) rfl <| .yy (ys_remE (.t rfl) (.t rfl) (fun _ => by omega)) rfl <| .z) fun a w S => ?_))))
    rw [rw_r] at S
    refine run S (.yy (ys_cvI underlying61 underlying3 (.t rfl) (fun _ => by unfold I64; omega)) rfl <| .as rfl <| .z) fun a w S => st_nil (then_normal (hK1 _ _ (wp_seq_k fun _ hK1 => wp_region_lit (run S (.mv rfl <| .z) fun a w S => ?_))))
    (refine st_m (op_calls S call43 (.cons (.t rfl) .nil) (c43 _ _ _ (by exact .old S.wd (by assumption)) (by exact .old S.wd (by assumption)) (by assumption) (by assumption)) rfl ?_); clear S a w; rintro _ _ ⟨A1, r1, s1, w11, bs1, rfl, rfl, hr11, hr21⟩ a w S)
    rotate_left
    · exact ⟨rfl, S.wd.below⟩
    have hl80 : l.length ≤ 80 := by omega
    have m1 : s1.map SLog.nul = l.map SLog.nul := by assumption
    have i1 : ∀ p ∈ s1, LogIn w11 bs1 p := by assumption
    have n1 := like_len m1
    refine st_y S (ys_call call52 (.cons (.t rfl) .nil) (fun _ w' W' => c52 w' _ s1 (Sl.of_own W' (k := 0) rfl (fun _ => rfl)) (fun x hx => (i1 x hx).rd W' (k := 1) rfl))) rfl ?_
    clear S a w
    intro a w S
    rw [issued_like m1] at S
    refine run S (.mv rfl <| .ex rfl rfl <| .ex rfl rfl <| .as rfl <| .as rfl <| .z) fun a w S => st_nil (then_normal (hK1 _ _ (wp_seq_k fun _ hK1 => wp_region_lit (run S (.mv rfl <| .mv rfl <| .yy (ys_slHi underlying84 sizeOf96 (.t rfl) (.t rfl) (fun _ => by first | omega | (simp; done) | (simp; omega))) rfl <| .z) fun a w S => ?_))))
    (refine st_m (op_calls S call43 (.cons (.t rfl) .nil) (c43 _ _ _ (by exact .old S.wd (by assumption)) (by exact .old S.wd (by assumption)) (by assumption) (by omega)) rfl ?_); clear S a w; rintro _ _ ⟨A2, r2, s2, w12, bs2, rfl, rfl, hr12, hr22⟩ a w S)
    have m2 : s2.map SLog.nul = (l.take t).map SLog.nul := by assumption
    have i2 : ∀ p ∈ s2, LogIn w12 bs2 p := by assumption
    have n2 := like_len m2
    refine st_y S (ys_call call52 (.cons (.t rfl) .nil) (fun _ w' W' => c52 w' _ s2 (Sl.of_own W' (k := 0) rfl (fun _ => rfl)) (fun x hx => (i2 x hx).rd W' (k := 1) rfl))) rfl ?_
    clear S a w
    intro a w S
    rw [issued_like m2] at S
    refine run S (.mv rfl <| .ex rfl rfl <| .ex rfl rfl <| .as rfl <| .as rfl <| .z) fun a w S => st_nil (then_normal (hK1 _ _ (wp_seq_k fun _ hK1 => wp_region_lit (run S (.mv rfl <| .z) fun a w S => ?_))))
    (refine st_m (op_calls S call43 (.cons (.t rfl) .nil) (c43 _ _ _ (by exact .old S.wd (by assumption)) (by exact .old S.wd (by assumption)) (by assumption) (by assumption)) rfl ?_); clear S a w; rintro _ _ ⟨A3, r3, s3, w13, bs3, rfl, rfl, hr13, hr23⟩ a w S)
    have m3 : s3.map SLog.nul = l.map SLog.nul := by assumption
    have i3 : ∀ p ∈ s3, LogIn w13 bs3 p := by assumption
    have n3 := like_len m3
    refine st_y S (ys_call call51 (.cons (.t rfl) .nil) (fun _ w' W' => c51 w' _ s3 (Sl.of_own W' (k := 0) rfl (fun _ => rfl)) (jrn_few (fun x hx => (i3 x hx).rd W' (k := 1) rfl) (by omega) (jrn_ok (logOk_like m3 hk))))) rfl ?_
    clear S a w
    intro a w S
    rw [reads_like m3] at S
    refine run S (.mv rfl <| .ex rfl rfl <| .ex rfl rfl <| .as rfl <| .as rfl <| .z) fun a w S => st_nil (then_normal (hK1 _ _ (wp_seq_k fun _ hK1 => wp_region_lit (run S (.mv rfl <| .mv rfl <| .yy (ys_slHi underlying84 sizeOf96 (.t rfl) (.t rfl) (fun _ => by first | omega | (simp; done) | (simp; omega))) rfl <| .z) fun a w S => ?_))))
    (refine st_m (op_calls S call43 (.cons (.t rfl) .nil) (c43 _ _ _ (by exact .old S.wd (by assumption)) (by exact .old S.wd (by assumption)) (by assumption) (by omega)) rfl ?_); clear S a w; rintro _ _ ⟨A4, r4, s4, w14, bs4, rfl, rfl, hr14, hr24⟩ a w S)
    have m4 : s4.map SLog.nul = (l.take t).map SLog.nul := by assumption
    have i4 : ∀ p ∈ s4, LogIn w14 bs4 p := by assumption
    have n4 := like_len m4
    have hk4 : (l.take t).all logOk = true := List.all_eq_true.2 fun x hx => List.all_eq_true.1 hk x (List.mem_of_mem_take hx)
    refine st_y S (ys_call call51 (.cons (.t rfl) .nil) (fun _ w' W' => c51 w' _ s4 (Sl.of_own W' (k := 0) rfl (fun _ => rfl)) (jrn_few (fun x hx => (i4 x hx).rd W' (k := 1) rfl) (by omega) (jrn_ok (logOk_like m4 hk4))))) rfl ?_
    clear S a w
    intro a w S
    rw [reads_like m4] at S
    have p1 := fun e : (issuedK l).2 = 0 => issued_begin e t
    have p2 := fun e : (readsK l).2 = 0 => reads_begin e t
    generalize issuedK l = I1 at *
    generalize issuedK (l.take t) = I2 at *
    generalize readsK l = R1 at *
    generalize readsK (l.take t) = R2 at *
    by_cases e1 : I1.2 = 0
    · have rw_e1 := e1
      have rw_e2 := p1 e1
      by_cases e3 : R1.2 = 0
      · have rw_e3 := e3
        have rw_e4 := p2 e3
        refine run S (.mv rfl <| .z) fun a w S => ?_
        rw [rw_e1] at S
        rw [rw_e2] at S
        rw [rw_e3] at S
        rw [rw_e4] at S
        refine run S (.ex rfl rfl <| .ex rfl rfl <| .as rfl <| .as rfl <| .z) fun a w S => st_nil (then_normal (hK1 _ _ (sg S (.mv rfl <| .yy (ys_F (by omega) (ys_neq (.t rfl) Ev.c)) rfl <| .mv rfl <| .gy rfl rfl (ys_move (.t rfl)) <| .gy rfl rfl (ys_T (by omega) (ys_eql (.t rfl) Ev.c)) <| .yy (ys_pickF (.t rfl) (.t rfl)) rfl <| .mv rfl <| .gy rfl rfl (ys_move (.t rfl)) <| .gy rfl rfl (ys_F (by omega) (ys_neq (.t rfl) Ev.c)) <| .gy rfl rfl (ys_move (.t rfl)) <| .gy rfl rfl (ys_move (.t rfl)) <| .gy rfl rfl (ys_T (by omega) (ys_eql (.t rfl) Ev.c)) <| .gy rfl rfl (ys_pickF (.t rfl) (.t rfl)) <| .yy (ys_pickT (.t rfl) (.t rfl)) rfl <| .mv rfl <| .gx rfl rfl (ys_call call38 .nil (fun hp w W => c38 _)) <| .yy (ys_pickT (.t rfl) (.t rfl)) rfl <| .as rfl <| .z) fun a w S => wp_ret (st_ret S (results1 S results11 (Rv.tmp rfl)) ?_))))
        exact ⟨rfl, S.wd.below⟩
      · have rw_e3 : decide (R1.2 ≠ 0) = true := decide_eq_true e3
        refine run S (.mv rfl <| .z) fun a w S => ?_
        rw [rw_e1] at S
        rw [rw_e2] at S
        refine run S (.ex rfl rfl <| .ex rfl rfl <| .as rfl <| .as rfl <| .z) fun a w S => st_nil (then_normal (hK1 _ _ (sg S (.mv rfl <| .yy (ys_F (by omega) (ys_neq (.t rfl) Ev.c)) rfl <| .mv rfl <| .gy rfl rfl (ys_move (.t rfl)) <| .gy rfl rfl (ys_T (by omega) (ys_eql (.t rfl) Ev.c)) <| .yy (ys_pickF (.t rfl) (.t rfl)) rfl <| .mv rfl <| .gy rfl rfl (ys_move (.t rfl)) <| .gy rfl rfl (ys_T (by omega) (ys_neq (.t rfl) Ev.c)) <| .gy rfl rfl (ys_move (.t rfl)) <| .sk rfl rfl rfl <| .sk rfl rfl rfl <| .gy rfl rfl (ys_pickT (.t rfl) Ev.c) <| .yy (ys_pickT (.t rfl) (.t rfl)) rfl <| .mv rfl <| .gx rfl rfl (ys_call call38 .nil (fun hp w W => c38 _)) <| .yy (ys_pickT (.t rfl) (.t rfl)) rfl <| .as rfl <| .z) fun a w S => wp_ret (st_ret S (results1 S results11 (Rv.tmp rfl)) ?_))))
        exact ⟨rfl, S.wd.below⟩
    · have rw_e1 : decide (I1.2 ≠ 0) = true := decide_eq_true e1
      by_cases e3 : R1.2 = 0
      · have rw_e3 := e3
        have rw_e4 := p2 e3
        refine run S (.mv rfl <| .z) fun a w S => ?_
        rw [rw_e3] at S
        rw [rw_e4] at S
        refine run S (.ex rfl rfl <| .ex rfl rfl <| .as rfl <| .as rfl <| .z) fun a w S => st_nil (then_normal (hK1 _ _ (sg S (.mv rfl <| .yy (ys_T (by omega) (ys_neq (.t rfl) Ev.c)) rfl <| .mv rfl <| .sk rfl rfl rfl <| .sk rfl rfl rfl <| .yy (ys_pickT (.t rfl) Ev.c) rfl <| .mv rfl <| .gy rfl rfl (ys_move (.t rfl)) <| .gy rfl rfl (ys_F (by omega) (ys_neq (.t rfl) Ev.c)) <| .gy rfl rfl (ys_move (.t rfl)) <| .gy rfl rfl (ys_move (.t rfl)) <| .gy rfl rfl (ys_T (by omega) (ys_eql (.t rfl) Ev.c)) <| .gy rfl rfl (ys_pickF (.t rfl) (.t rfl)) <| .yy (ys_pickT (.t rfl) (.t rfl)) rfl <| .mv rfl <| .gx rfl rfl (ys_call call38 .nil (fun hp w W => c38 _)) <| .yy (ys_pickT (.t rfl) (.t rfl)) rfl <| .as rfl <| .z) fun a w S => wp_ret (st_ret S (results1 S results11 (Rv.tmp rfl)) ?_))))
        exact ⟨rfl, S.wd.below⟩
      · have rw_e3 : decide (R1.2 ≠ 0) = true := decide_eq_true e3
        refine run S (.mv rfl <| .ex rfl rfl <| .ex rfl rfl <| .as rfl <| .as rfl <| .z) fun a w S => st_nil (then_normal (hK1 _ _ (sg S (.mv rfl <| .yy (ys_T (by omega) (ys_neq (.t rfl) Ev.c)) rfl <| .mv rfl <| .sk rfl rfl rfl <| .sk rfl rfl rfl <| .yy (ys_pickT (.t rfl) Ev.c) rfl <| .mv rfl <| .gy rfl rfl (ys_move (.t rfl)) <| .gy rfl rfl (ys_T (by omega) (ys_neq (.t rfl) Ev.c)) <| .gy rfl rfl (ys_move (.t rfl)) <| .sk rfl rfl rfl <| .sk rfl rfl rfl <| .gy rfl rfl (ys_pickT (.t rfl) Ev.c) <| .yy (ys_pickT (.t rfl) (.t rfl)) rfl <| .mv rfl <| .gx rfl rfl (ys_call call38 .nil (fun hp w W => c38 _)) <| .yy (ys_pickT (.t rfl) (.t rfl)) rfl <| .as rfl <| .z) fun a w S => wp_ret (st_ret S (results1 S results11 (Rv.tmp rfl)) ?_))))
        exact ⟨rfl, S.wd.below⟩
end Go.Proofs.YtakpdbmdfnialaaGreat
