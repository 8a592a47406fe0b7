/- Contracts and laws that the statement Alo leans on, part 5. -/
import Derived.Test.YtakpdbmdfnialaaGreatAloK4
set_option linter.unusedVariables false
set_option linter.unusedSimpArgs false
set_option maxRecDepth 100000
set_option maxHeartbeats 4000000
namespace Go.Fw
def lenC3 (c : Cart) : Prop := c.ents.length ≤ 1048576 ∧ c.ctx.marks.length ≤ 1048576 ∧ c.ctx.cloud.length ≤ 1048576
def SLog.at3 (x : SLog) (s1 s2 s3 : Sls3) : SLog := ⟨x.kind, x.at_, x.ask, (x.u.1, s1), x.an, x.al, x.key, (x.s.1, s2), (x.c.1, s3)⟩
theorem lay_upd (x : SLog) (v1 v2 v3 : Value) : lay (SLog.enc x) 3 (Upd.enc x.u.1 v1 v2 v3) = [.int .i64 x.kind, .int .i64 x.at_, .int .i64 x.ask, .string (bs x.u.1.key), .int .i64 x.u.1.dot.node, .int .i64 x.u.1.dot.life, .int .i64 x.u.1.dot.count, .string (bs x.u.1.item), .int .i64 x.u.1.qty, .int .u64 (x.u.1.price.toNat : Int), v1, v2, v3, .int .i64 x.an, .int .i64 x.al, .string (bs x.key), .slice x.s.2.a1 x.s.2.n1 x.s.2.c1, .slice x.s.2.a2 x.s.2.n2 x.s.2.c2, .slice x.s.2.a3 x.s.2.n3 x.s.2.c3, .slice x.c.2.a1 x.c.2.n1 x.c.2.c1, .slice x.c.2.a2 x.c.2.n2 x.c.2.c2, .slice x.c.2.a3 x.c.2.n3 x.c.2.c3] := rfl
theorem lay_16 (a0 a1 a2 a3 a4 a5 a6 a7 a8 a9 a10 a11 a12 a13 a14 a15 a16 a17 a18 a19 a20 a21 b0 b1 b2 : Value) : lay [a0, a1, a2, a3, a4, a5, a6, a7, a8, a9, a10, a11, a12, a13, a14, a15, a16, a17, a18, a19, a20, a21] 16 [b0, b1, b2] = [a0, a1, a2, a3, a4, a5, a6, a7, a8, a9, a10, a11, a12, a13, a14, a15, b0, b1, b2, a19, a20, a21] := rfl
theorem lay_19 (a0 a1 a2 a3 a4 a5 a6 a7 a8 a9 a10 a11 a12 a13 a14 a15 a16 a17 a18 a19 a20 a21 b0 b1 b2 : Value) : lay [a0, a1, a2, a3, a4, a5, a6, a7, a8, a9, a10, a11, a12, a13, a14, a15, a16, a17, a18, a19, a20, a21] 19 [b0, b1, b2] = [a0, a1, a2, a3, a4, a5, a6, a7, a8, a9, a10, a11, a12, a13, a14, a15, a16, a17, a18, b0, b1, b2] := rfl
end Go.Fw
namespace Go.Proofs.YtakpdbmdfnialaaGreat
open Go.Fw Go.Proofs Go.RowKit Go.Proofs.Tryz
theorem c117 (w0 : World) (x : SLog) (h : LogRd w0 x) (hb : lenC3 x.u.1.seen ∧ lenC3 x.s.1 ∧ lenC3 x.c.1) :
   Rets Tryz.prog 117 #[.agg (SLog.enc x).toArray] w0 fun u L => ∃ A1 r1 A2 r2 A3 r3 B1 q1 B2 q2 B3 q3 C1 p1 C2 p2 C3 p3, u = .agg (SLog.enc (x.at3 ⟨A1, x.u.1.seen.ents.length, r1, A2, x.u.1.seen.ctx.marks.length, r2, A3, x.u.1.seen.ctx.cloud.length, r3⟩ ⟨B1, x.s.1.ents.length, q1, B2, x.s.1.ctx.marks.length, q2, B3, x.s.1.ctx.cloud.length, q3⟩ ⟨C1, x.c.1.ents.length, p1, C2, x.c.1.ctx.marks.length, p2, C3, x.c.1.ctx.cloud.length, p3⟩)).toArray ∧
     L = [rowOf 100 6 Ent.enc A1 r1 x.u.1.seen.ents, rowOf 30 3 Dot.enc A2 r2 x.u.1.seen.ctx.marks, rowOf 74 3 Dot.enc A3 r3 x.u.1.seen.ctx.cloud,
       rowOf 100 6 Ent.enc B1 q1 x.s.1.ents, rowOf 30 3 Dot.enc B2 q2 x.s.1.ctx.marks, rowOf 74 3 Dot.enc B3 q3 x.s.1.ctx.cloud,
       rowOf 100 6 Ent.enc C1 p1 x.c.1.ents, rowOf 30 3 Dot.enc C2 p2 x.c.1.ctx.marks, rowOf 74 3 Dot.enc C3 p3 x.c.1.ctx.cloud] := by
 have r1 := h.u.ents
 have r2 := h.u.ctx
 have r3 := h.s.ents
 have r4 := h.s.ctx
 have r5 := h.c.ents
 have r6 := h.c.ctx
 obtain ⟨⟨b1, b2, b3⟩, ⟨b4, b5, b6⟩, b7, b8, b9⟩ := hb
 have halt_d := trivial
 unfold Go.Fw.Rets
 refine enter1 func117 rfl ntmps117 rfl fun a S => wp_seq_k fun _ hK1 => wp_region_lit (Zk (Ya S (.t rfl) rfl fun g1 a w S => Zk (Zn S zeroValue96 (cs := _) rfl rfl fun g2 a w S => Zb (Za (hK1 _ _ (wp_seq_k fun _ hK1 => ?_))))))
 clear halt_d
 refine Code.wp_mono (Q := fun e a w => match e with
   | .normal => ∃ A1 r1 A2 r2 A3 r3 B1 q1 B2 q2 B3 q3 C1 p1 C2 p2 C3 p3, St 16 w0 [(2, true, .pointer (some ⟨g2, 0, none⟩)), (1, true, .pointer (some ⟨g1, 0, none⟩))] [rowOf 100 6 Ent.enc A1 r1 x.u.1.seen.ents, rowOf 30 3 Dot.enc A2 r2 x.u.1.seen.ctx.marks, rowOf 74 3 Dot.enc A3 r3 x.u.1.seen.ctx.cloud, rowOf 100 6 Ent.enc B1 q1 x.s.1.ents, rowOf 30 3 Dot.enc B2 q2 x.s.1.ctx.marks, rowOf 74 3 Dot.enc B3 q3 x.s.1.ctx.cloud, rowOf 100 6 Ent.enc C1 p1 x.c.1.ents, rowOf 30 3 Dot.enc C2 p2 x.c.1.ctx.marks, rowOf 74 3 Dot.enc C3 p3 x.c.1.ctx.cloud, .blk g2 (.cells #[.int .i64 0, .int .i64 0, .int .i64 0, .string { data := #[] }, .int .i64 0, .int .i64 0, .int .i64 0, .string { data := #[] }, .int .i64 0, .int .u64 0, .slice none 0 0, .slice none 0 0, .slice none 0 0, .int .i64 0, .int .i64 0, .string { data := #[] }, .slice none 0 0, .slice none 0 0, .slice none 0 0, .slice none 0 0, .slice none 0 0, .slice none 0 0] 96), .blk g1 (.cells (SLog.enc (x.at3 ⟨A1, x.u.1.seen.ents.length, r1, A2, x.u.1.seen.ctx.marks.length, r2, A3, x.u.1.seen.ctx.cloud.length, r3⟩ ⟨B1, x.s.1.ents.length, q1, B2, x.s.1.ctx.marks.length, q2, B3, x.s.1.ctx.cloud.length, q3⟩ ⟨C1, x.c.1.ents.length, p1, C2, x.c.1.ctx.marks.length, p2, C3, x.c.1.ctx.cloud.length, p3⟩)).toArray 96)] a w
   | _ => False) (fun e a w qq => ?_) ?_
 rotate_left
 · have rw_l := lay_upd x
   have rw_l2 := lay_16
   have rw_l3 := lay_19
   refine h_beginE S (by kernel_rfl) 1 fun a w S => hy 0 S rfl (Zc (FieldT.mk underlying96 rfl sizeOf77 rfl) (.t rfl) (i' := 3) rfl) rfl fun a w S => hy 3 S rfl (Zc (FieldT.mk underlying96 rfl sizeOf37 rfl) (.t rfl) (i' := 16) rfl) rfl fun a w S => hy 6 S rfl (Zc (FieldT.mk underlying96 rfl sizeOf37 rfl) (.t rfl) (i' := 19) rfl) rfl fun a w S => ?_
   refine h_split3 (i := 1) (j := 4) (k := 7) (by kernel_rfl) rfl rfl rfl ?_ ?_ ?_
   (refine op_y S (Yr.ys (Ye ⟨isAgg77, sizeOf77⟩ (.t rfl) (k := 1) rfl rfl)) rfl ?_; clear S a w; intro a w S; refine Yi S ?_)
   refine h_split3 (i := 2) (j := 4) (k := 7) (by kernel_rfl) rfl rfl rfl ?_ ?_ ?_
   (refine Zz S call103 (.cons (.t rfl) .nil) (c103 _ _ _ _ _ (by exact .old S.wd (by assumption)) (by exact .old S.wd (by assumption)) (by assumption) (by assumption) (by assumption)) rfl ?_; clear S a w; rintro _ _ ⟨A11, r11, A21, r21, A31, r31, rfl, rfl⟩ a w S; refine Yi S ?_)
   refine Xz (i := 4) (j := 7) (by kernel_rfl) rfl rfl ?_ ?_
   (refine op_y S (Yr.ys (Ye ⟨isAgg37, sizeOf37⟩ (.t rfl) (k := 4) rfl rfl)) rfl ?_; clear S a w; intro a w S; refine Yi S ?_)
   refine Xz (i := 5) (j := 7) (by kernel_rfl) rfl rfl ?_ ?_
   (refine Zz S call16 (.cons (.t rfl) .nil) (c16 _ _ _ _ _ (by exact .old S.wd (by assumption)) (by exact .old S.wd (by assumption)) (by assumption) (by assumption) (by assumption)) rfl ?_; clear S a w; rintro _ _ ⟨A12, r12, A22, r22, A32, r32, rfl, rfl⟩ a w S; refine Yi S ?_)
   refine h_q (i := 7) S (by repeat (first | exact List.Sublist.refl _ | exact List.nil_sublist _ | refine .cons_cons _ ?_ | refine .cons _ ?_)) rfl (by kernel_rfl) (Yr.ys (Ye ⟨isAgg37, sizeOf37⟩ (.t rfl) (k := 7) rfl rfl)) rfl fun a w S => hy 9 S rfl (Zc (FieldT.mk underlying96 rfl sizeOf77 rfl) (.t rfl) (i' := 3) rfl) rfl fun a w S => ?_
   (refine h_m (i := 8) rfl (by kernel_rfl) (Zz S call16 (.cons (.t rfl) .nil) (c16 _ _ _ _ _ (by exact .old S.wd (by assumption)) (by exact .old S.wd (by assumption)) (by assumption) (by assumption) (by assumption)) rfl ?_); clear S a w; rintro _ _ ⟨A13, r13, A23, r23, A33, r33, rfl, rfl⟩ a w S; refine Yi S ?_)
   (refine Xq (i := 10) rfl (by kernel_rfl) (Yw S sizeOf77 (.t rfl) (.t rfl) (k := 10) rfl rfl (by simp [Value.oneCell']) (by simp) ?_); clear S a w; intro a w S; refine Yi S ?_)
   rw [rw_l] at S
   refine hy 11 S rfl (Zc (FieldT.mk underlying96 rfl sizeOf37 rfl) (.t rfl) (i' := 16) rfl) rfl fun a w S => ?_
   (refine Xq (i := 12) rfl (by kernel_rfl) (Yw S sizeOf37 (.t rfl) (.t rfl) (k := 10) rfl rfl (by simp [Value.oneCell']) (by simp) ?_); clear S a w; intro a w S; refine Yi S ?_)
   rw [rw_l2] at S
   refine hy 13 S rfl (Zc (FieldT.mk underlying96 rfl sizeOf37 rfl) (.t rfl) (i' := 19) rfl) rfl fun a w S => ?_
   (refine Xq (i := 14) rfl (by kernel_rfl) (Yw S sizeOf37 (.t rfl) (.t rfl) (k := 10) rfl rfl (by simp [Value.oneCell']) (by simp) ?_); clear S a w; intro a w S; refine Yi S ?_)
   rw [rw_l3] at S
   refine Yz (by kernel_rfl) ?_
   rotate_left
   (refine op_y S (Yr.ys (Ye ⟨isAgg37, sizeOf37⟩ (.t rfl) (k := 4) rfl rfl)) rfl ?_; clear S a w; intro a w S; refine Yi S ?_)
   refine hy 9 S rfl (Zc (FieldT.mk underlying96 rfl sizeOf77 rfl) (.t rfl) (i' := 3) rfl) rfl fun a w S => ?_
   (refine h_m (i := 5) rfl (by kernel_rfl) (Zz S call16 (.cons (.t rfl) .nil) (c16 _ _ _ _ _ (by exact .old S.wd (by assumption)) (by exact .old S.wd (by assumption)) (by assumption) (by assumption) (by assumption)) rfl ?_); clear S a w; rintro _ _ ⟨A12, r12, A22, r22, A32, r32, rfl, rfl⟩ a w S; refine Yi S ?_)
   (refine h_m (i := 8) rfl (by kernel_rfl) (Zz S call16 (.cons (.t rfl) .nil) (c16 _ _ _ _ _ (by exact .old S.wd (by assumption)) (by exact .old S.wd (by assumption)) (by assumption) (by assumption) (by assumption)) rfl ?_); clear S a w; rintro _ _ ⟨A13, r13, A23, r23, A33, r33, rfl, rfl⟩ a w S; refine Yi S ?_)
   (refine Xq (i := 10) rfl (by kernel_rfl) (Yw S sizeOf77 (.t rfl) (.t rfl) (k := 10) rfl rfl (by simp [Value.oneCell']) (by simp) ?_); clear S a w; intro a w S; refine Yi S ?_)
   rw [rw_l] at S
   refine hy 11 S rfl (Zc (FieldT.mk underlying96 rfl sizeOf37 rfl) (.t rfl) (i' := 16) rfl) rfl fun a w S => ?_
   (refine Xq (i := 12) rfl (by kernel_rfl) (Yw S sizeOf37 (.t rfl) (.t rfl) (k := 10) rfl rfl (by simp [Value.oneCell']) (by simp) ?_); clear S a w; intro a w S; refine Yi S ?_)
   rw [rw_l2] at S
   refine hy 13 S rfl (Zc (FieldT.mk underlying96 rfl sizeOf37 rfl) (.t rfl) (i' := 19) rfl) rfl fun a w S => ?_
   (refine Xq (i := 14) rfl (by kernel_rfl) (Yw S sizeOf37 (.t rfl) (.t rfl) (k := 10) rfl rfl (by simp [Value.oneCell']) (by simp) ?_); clear S a w; intro a w S; refine Yi S ?_)
   rw [rw_l3] at S
   refine Yz (by kernel_rfl) ?_
   rotate_left
   (refine op_y S (Yr.ys (Ye ⟨isAgg37, sizeOf37⟩ (.t rfl) (k := 4) rfl rfl)) rfl ?_; clear S a w; intro a w S; refine Yi S ?_)
   refine h_q (i := 4) S (by repeat (first | exact List.Sublist.refl _ | exact List.nil_sublist _ | refine .cons_cons _ ?_ | refine .cons _ ?_)) rfl (by kernel_rfl) (Yr.ys (Ye ⟨isAgg37, sizeOf37⟩ (.t rfl) (k := 4) rfl rfl)) rfl fun a w S => hy 9 S rfl (Zc (FieldT.mk underlying96 rfl sizeOf77 rfl) (.t rfl) (i' := 3) rfl) rfl fun a w S => ?_
   (refine h_m (i := 5) rfl (by kernel_rfl) (Zz S call16 (.cons (.t rfl) .nil) (c16 _ _ _ _ _ (by exact .old S.wd (by assumption)) (by exact .old S.wd (by assumption)) (by assumption) (by assumption) (by assumption)) rfl ?_); clear S a w; rintro _ _ ⟨A12, r12, A22, r22, A32, r32, rfl, rfl⟩ a w S; refine Yi S ?_)
   (refine h_m (i := 8) rfl (by kernel_rfl) (Zz S call16 (.cons (.t rfl) .nil) (c16 _ _ _ _ _ (by exact .old S.wd (by assumption)) (by exact .old S.wd (by assumption)) (by assumption) (by assumption) (by assumption)) rfl ?_); clear S a w; rintro _ _ ⟨A13, r13, A23, r23, A33, r33, rfl, rfl⟩ a w S; refine Yi S ?_)
   (refine Xq (i := 10) rfl (by kernel_rfl) (Yw S sizeOf77 (.t rfl) (.t rfl) (k := 10) rfl rfl (by simp [Value.oneCell']) (by simp) ?_); clear S a w; intro a w S; refine Yi S ?_)
   rw [rw_l] at S
   refine hy 11 S rfl (Zc (FieldT.mk underlying96 rfl sizeOf37 rfl) (.t rfl) (i' := 16) rfl) rfl fun a w S => ?_
   (refine Xq (i := 12) rfl (by kernel_rfl) (Yw S sizeOf37 (.t rfl) (.t rfl) (k := 10) rfl rfl (by simp [Value.oneCell']) (by simp) ?_); clear S a w; intro a w S; refine Yi S ?_)
   rw [rw_l2] at S
   refine hy 13 S rfl (Zc (FieldT.mk underlying96 rfl sizeOf37 rfl) (.t rfl) (i' := 19) rfl) rfl fun a w S => ?_
   (refine Xq (i := 14) rfl (by kernel_rfl) (Yw S sizeOf37 (.t rfl) (.t rfl) (k := 10) rfl rfl (by simp [Value.oneCell']) (by simp) ?_); clear S a w; intro a w S; refine Yi S ?_)
   rw [rw_l3] at S
   refine Yz (by kernel_rfl) ?_
   rotate_left
   (refine op_y S (Yr.ys (Ye ⟨isAgg37, sizeOf37⟩ (.t rfl) (k := 1) rfl rfl)) rfl ?_; clear S a w; intro a w S; refine Yi S ?_)
   refine Xz (i := 2) (j := 7) (by kernel_rfl) rfl rfl ?_ ?_
   (refine Zz S call103 (.cons (.t rfl) .nil) (c103 _ _ _ _ _ (by exact .old S.wd (by assumption)) (by exact .old S.wd (by assumption)) (by assumption) (by assumption) (by assumption)) rfl ?_; clear S a w; rintro _ _ ⟨A11, r11, A21, r21, A31, r31, rfl, rfl⟩ a w S; refine Yi S ?_)
   refine Xz (i := 5) (j := 7) (by kernel_rfl) rfl rfl ?_ ?_
   (refine Zz S call16 (.cons (.t rfl) .nil) (c16 _ _ _ _ _ (by exact .old S.wd (by assumption)) (by exact .old S.wd (by assumption)) (by assumption) (by assumption) (by assumption)) rfl ?_; clear S a w; rintro _ _ ⟨A12, r12, A22, r22, A32, r32, rfl, rfl⟩ a w S; refine Yi S ?_)
   refine h_q (i := 7) S (by repeat (first | exact List.Sublist.refl _ | exact List.nil_sublist _ | refine .cons_cons _ ?_ | refine .cons _ ?_)) rfl (by kernel_rfl) (Yr.ys (Ye ⟨isAgg37, sizeOf37⟩ (.t rfl) (k := 7) rfl rfl)) rfl fun a w S => hy 9 S rfl (Zc (FieldT.mk underlying96 rfl sizeOf77 rfl) (.t rfl) (i' := 3) rfl) rfl fun a w S => ?_
   (refine h_m (i := 8) rfl (by kernel_rfl) (Zz S call16 (.cons (.t rfl) .nil) (c16 _ _ _ _ _ (by exact .old S.wd (by assumption)) (by exact .old S.wd (by assumption)) (by assumption) (by assumption) (by assumption)) rfl ?_); clear S a w; rintro _ _ ⟨A13, r13, A23, r23, A33, r33, rfl, rfl⟩ a w S; refine Yi S ?_)
   (refine Xq (i := 10) rfl (by kernel_rfl) (Yw S sizeOf77 (.t rfl) (.t rfl) (k := 10) rfl rfl (by simp [Value.oneCell']) (by simp) ?_); clear S a w; intro a w S; refine Yi S ?_)
   rw [rw_l] at S
   refine hy 11 S rfl (Zc (FieldT.mk underlying96 rfl sizeOf37 rfl) (.t rfl) (i' := 16) rfl) rfl fun a w S => ?_
   (refine Xq (i := 12) rfl (by kernel_rfl) (Yw S sizeOf37 (.t rfl) (.t rfl) (k := 10) rfl rfl (by simp [Value.oneCell']) (by simp) ?_); clear S a w; intro a w S; refine Yi S ?_)
   rw [rw_l2] at S
   refine hy 13 S rfl (Zc (FieldT.mk underlying96 rfl sizeOf37 rfl) (.t rfl) (i' := 19) rfl) rfl fun a w S => ?_
   (refine Xq (i := 14) rfl (by kernel_rfl) (Yw S sizeOf37 (.t rfl) (.t rfl) (k := 10) rfl rfl (by simp [Value.oneCell']) (by simp) ?_); clear S a w; intro a w S; refine Yi S ?_)
   rw [rw_l3] at S
   refine Yz (by kernel_rfl) ?_
   rotate_left
   (refine op_y S (Yr.ys (Ye ⟨isAgg37, sizeOf37⟩ (.t rfl) (k := 4) rfl rfl)) rfl ?_; clear S a w; intro a w S; refine Yi S ?_)
   refine hy 9 S rfl (Zc (FieldT.mk underlying96 rfl sizeOf77 rfl) (.t rfl) (i' := 3) rfl) rfl fun a w S => ?_
   (refine h_m (i := 5) rfl (by kernel_rfl) (Zz S call16 (.cons (.t rfl) .nil) (c16 _ _ _ _ _ (by exact .old S.wd (by assumption)) (by exact .old S.wd (by assumption)) (by assumption) (by assumption) (by assumption)) rfl ?_); clear S a w; rintro _ _ ⟨A12, r12, A22, r22, A32, r32, rfl, rfl⟩ a w S; refine Yi S ?_)
   (refine h_m (i := 8) rfl (by kernel_rfl) (Zz S call16 (.cons (.t rfl) .nil) (c16 _ _ _ _ _ (by exact .old S.wd (by assumption)) (by exact .old S.wd (by assumption)) (by assumption) (by assumption) (by assumption)) rfl ?_); clear S a w; rintro _ _ ⟨A13, r13, A23, r23, A33, r33, rfl, rfl⟩ a w S; refine Yi S ?_)
   (refine Xq (i := 10) rfl (by kernel_rfl) (Yw S sizeOf77 (.t rfl) (.t rfl) (k := 10) rfl rfl (by simp [Value.oneCell']) (by simp) ?_); clear S a w; intro a w S; refine Yi S ?_)
   rw [rw_l] at S
   refine hy 11 S rfl (Zc (FieldT.mk underlying96 rfl sizeOf37 rfl) (.t rfl) (i' := 16) rfl) rfl fun a w S => ?_
   (refine Xq (i := 12) rfl (by kernel_rfl) (Yw S sizeOf37 (.t rfl) (.t rfl) (k := 10) rfl rfl (by simp [Value.oneCell']) (by simp) ?_); clear S a w; intro a w S; refine Yi S ?_)
   rw [rw_l2] at S
   refine hy 13 S rfl (Zc (FieldT.mk underlying96 rfl sizeOf37 rfl) (.t rfl) (i' := 19) rfl) rfl fun a w S => ?_
   (refine Xq (i := 14) rfl (by kernel_rfl) (Yw S sizeOf37 (.t rfl) (.t rfl) (k := 10) rfl rfl (by simp [Value.oneCell']) (by simp) ?_); clear S a w; intro a w S; refine Yi S ?_)
   rw [rw_l3] at S
   refine Yz (by kernel_rfl) ?_
   rotate_left
   (refine op_y S (Yr.ys (Ye ⟨isAgg37, sizeOf37⟩ (.t rfl) (k := 1) rfl rfl)) rfl ?_; clear S a w; intro a w S; refine Yi S ?_)
   (refine h_m (i := 2) rfl (by kernel_rfl) (Zz S call103 (.cons (.t rfl) .nil) (c103 _ _ _ _ _ (by exact .old S.wd (by assumption)) (by exact .old S.wd (by assumption)) (by assumption) (by assumption) (by assumption)) rfl ?_); clear S a w; rintro _ _ ⟨A11, r11, A21, r21, A31, r31, rfl, rfl⟩ a w S; refine Yi S ?_)
   refine hy 9 S rfl (Zc (FieldT.mk underlying96 rfl sizeOf77 rfl) (.t rfl) (i' := 3) rfl) rfl fun a w S => ?_
   (refine h_m (i := 5) rfl (by kernel_rfl) (Zz S call16 (.cons (.t rfl) .nil) (c16 _ _ _ _ _ (by exact .old S.wd (by assumption)) (by exact .old S.wd (by assumption)) (by assumption) (by assumption) (by assumption)) rfl ?_); clear S a w; rintro _ _ ⟨A12, r12, A22, r22, A32, r32, rfl, rfl⟩ a w S; refine Yi S ?_)
   (refine h_m (i := 8) rfl (by kernel_rfl) (Zz S call16 (.cons (.t rfl) .nil) (c16 _ _ _ _ _ (by exact .old S.wd (by assumption)) (by exact .old S.wd (by assumption)) (by assumption) (by assumption) (by assumption)) rfl ?_); clear S a w; rintro _ _ ⟨A13, r13, A23, r23, A33, r33, rfl, rfl⟩ a w S; refine Yi S ?_)
   (refine Xq (i := 10) rfl (by kernel_rfl) (Yw S sizeOf77 (.t rfl) (.t rfl) (k := 10) rfl rfl (by simp [Value.oneCell']) (by simp) ?_); clear S a w; intro a w S; refine Yi S ?_)
   rw [rw_l] at S
   refine hy 11 S rfl (Zc (FieldT.mk underlying96 rfl sizeOf37 rfl) (.t rfl) (i' := 16) rfl) rfl fun a w S => ?_
   (refine Xq (i := 12) rfl (by kernel_rfl) (Yw S sizeOf37 (.t rfl) (.t rfl) (k := 10) rfl rfl (by simp [Value.oneCell']) (by simp) ?_); clear S a w; intro a w S; refine Yi S ?_)
   rw [rw_l2] at S
   refine hy 13 S rfl (Zc (FieldT.mk underlying96 rfl sizeOf37 rfl) (.t rfl) (i' := 19) rfl) rfl fun a w S => ?_
   (refine Xq (i := 14) rfl (by kernel_rfl) (Yw S sizeOf37 (.t rfl) (.t rfl) (k := 10) rfl rfl (by simp [Value.oneCell']) (by simp) ?_); clear S a w; intro a w S; refine Yi S ?_)
   rw [rw_l3] at S
   refine Yz (by kernel_rfl) ?_
   rotate_left
   (refine op_y S (Yr.ys (Ye ⟨isAgg37, sizeOf37⟩ (.t rfl) (k := 1) rfl rfl)) rfl ?_; clear S a w; intro a w S; refine Yi S ?_)
   refine Xz (i := 2) (j := 4) (by kernel_rfl) rfl rfl ?_ ?_
   (refine Zz S call103 (.cons (.t rfl) .nil) (c103 _ _ _ _ _ (by exact .old S.wd (by assumption)) (by exact .old S.wd (by assumption)) (by assumption) (by assumption) (by assumption)) rfl ?_; clear S a w; rintro _ _ ⟨A11, r11, A21, r21, A31, r31, rfl, rfl⟩ a w S; refine Yi S ?_)
   refine h_q (i := 4) S (by repeat (first | exact List.Sublist.refl _ | exact List.nil_sublist _ | refine .cons_cons _ ?_ | refine .cons _ ?_)) rfl (by kernel_rfl) (Yr.ys (Ye ⟨isAgg37, sizeOf37⟩ (.t rfl) (k := 4) rfl rfl)) rfl fun a w S => hy 9 S rfl (Zc (FieldT.mk underlying96 rfl sizeOf77 rfl) (.t rfl) (i' := 3) rfl) rfl fun a w S => ?_
   (refine h_m (i := 5) rfl (by kernel_rfl) (Zz S call16 (.cons (.t rfl) .nil) (c16 _ _ _ _ _ (by exact .old S.wd (by assumption)) (by exact .old S.wd (by assumption)) (by assumption) (by assumption) (by assumption)) rfl ?_); clear S a w; rintro _ _ ⟨A12, r12, A22, r22, A32, r32, rfl, rfl⟩ a w S; refine Yi S ?_)
   (refine h_m (i := 8) rfl (by kernel_rfl) (Zz S call16 (.cons (.t rfl) .nil) (c16 _ _ _ _ _ (by exact .old S.wd (by assumption)) (by exact .old S.wd (by assumption)) (by assumption) (by assumption) (by assumption)) rfl ?_); clear S a w; rintro _ _ ⟨A13, r13, A23, r23, A33, r33, rfl, rfl⟩ a w S; refine Yi S ?_)
   (refine Xq (i := 10) rfl (by kernel_rfl) (Yw S sizeOf77 (.t rfl) (.t rfl) (k := 10) rfl rfl (by simp [Value.oneCell']) (by simp) ?_); clear S a w; intro a w S; refine Yi S ?_)
   rw [rw_l] at S
   refine hy 11 S rfl (Zc (FieldT.mk underlying96 rfl sizeOf37 rfl) (.t rfl) (i' := 16) rfl) rfl fun a w S => ?_
   (refine Xq (i := 12) rfl (by kernel_rfl) (Yw S sizeOf37 (.t rfl) (.t rfl) (k := 10) rfl rfl (by simp [Value.oneCell']) (by simp) ?_); clear S a w; intro a w S; refine Yi S ?_)
   rw [rw_l2] at S
   refine hy 13 S rfl (Zc (FieldT.mk underlying96 rfl sizeOf37 rfl) (.t rfl) (i' := 19) rfl) rfl fun a w S => ?_
   (refine Xq (i := 14) rfl (by kernel_rfl) (Yw S sizeOf37 (.t rfl) (.t rfl) (k := 10) rfl rfl (by simp [Value.oneCell']) (by simp) ?_); clear S a w; intro a w S; refine Yi S ?_)
   rw [rw_l3] at S
   refine Yz (by kernel_rfl) ?_
   rotate_left
   (refine op_y S (Yr.ys (Ye ⟨isAgg37, sizeOf37⟩ (.t rfl) (k := 1) rfl rfl)) rfl ?_; clear S a w; intro a w S; refine Yi S ?_)
   (refine h_m (i := 2) rfl (by kernel_rfl) (Zz S call103 (.cons (.t rfl) .nil) (c103 _ _ _ _ _ (by exact .old S.wd (by assumption)) (by exact .old S.wd (by assumption)) (by assumption) (by assumption) (by assumption)) rfl ?_); clear S a w; rintro _ _ ⟨A11, r11, A21, r21, A31, r31, rfl, rfl⟩ a w S; refine Yi S ?_)
   refine hy 9 S rfl (Zc (FieldT.mk underlying96 rfl sizeOf77 rfl) (.t rfl) (i' := 3) rfl) rfl fun a w S => ?_
   (refine h_m (i := 5) rfl (by kernel_rfl) (Zz S call16 (.cons (.t rfl) .nil) (c16 _ _ _ _ _ (by exact .old S.wd (by assumption)) (by exact .old S.wd (by assumption)) (by assumption) (by assumption) (by assumption)) rfl ?_); clear S a w; rintro _ _ ⟨A12, r12, A22, r22, A32, r32, rfl, rfl⟩ a w S; refine Yi S ?_)
   (refine h_m (i := 8) rfl (by kernel_rfl) (Zz S call16 (.cons (.t rfl) .nil) (c16 _ _ _ _ _ (by exact .old S.wd (by assumption)) (by exact .old S.wd (by assumption)) (by assumption) (by assumption) (by assumption)) rfl ?_); clear S a w; rintro _ _ ⟨A13, r13, A23, r23, A33, r33, rfl, rfl⟩ a w S; refine Yi S ?_)
   (refine Xq (i := 10) rfl (by kernel_rfl) (Yw S sizeOf77 (.t rfl) (.t rfl) (k := 10) rfl rfl (by simp [Value.oneCell']) (by simp) ?_); clear S a w; intro a w S; refine Yi S ?_)
   rw [rw_l] at S
   refine hy 11 S rfl (Zc (FieldT.mk underlying96 rfl sizeOf37 rfl) (.t rfl) (i' := 16) rfl) rfl fun a w S => ?_
   (refine Xq (i := 12) rfl (by kernel_rfl) (Yw S sizeOf37 (.t rfl) (.t rfl) (k := 10) rfl rfl (by simp [Value.oneCell']) (by simp) ?_); clear S a w; intro a w S; refine Yi S ?_)
   rw [rw_l2] at S
   refine hy 13 S rfl (Zc (FieldT.mk underlying96 rfl sizeOf37 rfl) (.t rfl) (i' := 19) rfl) rfl fun a w S => ?_
   (refine Xq (i := 14) rfl (by kernel_rfl) (Yw S sizeOf37 (.t rfl) (.t rfl) (k := 10) rfl rfl (by simp [Value.oneCell']) (by simp) ?_); clear S a w; intro a w S; refine Yi S ?_)
   rw [rw_l3] at S
   refine Yz (by kernel_rfl) ?_
   rotate_left
   (refine op_y S (Yr.ys (Ye ⟨isAgg37, sizeOf37⟩ (.t rfl) (k := 1) rfl rfl)) rfl ?_; clear S a w; intro a w S; refine Yi S ?_)
   refine Xz (i := 1) (j := 7) (by kernel_rfl) rfl rfl ?_ ?_
   (refine op_y S (Yr.ys (Ye ⟨isAgg77, sizeOf77⟩ (.t rfl) (k := 1) rfl rfl)) rfl ?_; clear S a w; intro a w S; refine Yi S ?_)
   refine Xz (i := 2) (j := 7) (by kernel_rfl) rfl rfl ?_ ?_
   (refine Zz S call103 (.cons (.t rfl) .nil) (c103 _ _ _ _ _ (by exact .old S.wd (by assumption)) (by exact .old S.wd (by assumption)) (by assumption) (by assumption) (by assumption)) rfl ?_; clear S a w; rintro _ _ ⟨A11, r11, A21, r21, A31, r31, rfl, rfl⟩ a w S; refine Yi S ?_)
   refine Xz (i := 5) (j := 7) (by kernel_rfl) rfl rfl ?_ ?_
   (refine Zz S call16 (.cons (.t rfl) .nil) (c16 _ _ _ _ _ (by exact .old S.wd (by assumption)) (by exact .old S.wd (by assumption)) (by assumption) (by assumption) (by assumption)) rfl ?_; clear S a w; rintro _ _ ⟨A12, r12, A22, r22, A32, r32, rfl, rfl⟩ a w S; refine Yi S ?_)
   refine h_q (i := 7) S (by repeat (first | exact List.Sublist.refl _ | exact List.nil_sublist _ | refine .cons_cons _ ?_ | refine .cons _ ?_)) rfl (by kernel_rfl) (Yr.ys (Ye ⟨isAgg37, sizeOf37⟩ (.t rfl) (k := 7) rfl rfl)) rfl fun a w S => hy 9 S rfl (Zc (FieldT.mk underlying96 rfl sizeOf77 rfl) (.t rfl) (i' := 3) rfl) rfl fun a w S => ?_
   (refine h_m (i := 8) rfl (by kernel_rfl) (Zz S call16 (.cons (.t rfl) .nil) (c16 _ _ _ _ _ (by exact .old S.wd (by assumption)) (by exact .old S.wd (by assumption)) (by assumption) (by assumption) (by assumption)) rfl ?_); clear S a w; rintro _ _ ⟨A13, r13, A23, r23, A33, r33, rfl, rfl⟩ a w S; refine Yi S ?_)
   (refine Xq (i := 10) rfl (by kernel_rfl) (Yw S sizeOf77 (.t rfl) (.t rfl) (k := 10) rfl rfl (by simp [Value.oneCell']) (by simp) ?_); clear S a w; intro a w S; refine Yi S ?_)
   rw [rw_l] at S
   refine hy 11 S rfl (Zc (FieldT.mk underlying96 rfl sizeOf37 rfl) (.t rfl) (i' := 16) rfl) rfl fun a w S => ?_
   (refine Xq (i := 12) rfl (by kernel_rfl) (Yw S sizeOf37 (.t rfl) (.t rfl) (k := 10) rfl rfl (by simp [Value.oneCell']) (by simp) ?_); clear S a w; intro a w S; refine Yi S ?_)
   rw [rw_l2] at S
   refine hy 13 S rfl (Zc (FieldT.mk underlying96 rfl sizeOf37 rfl) (.t rfl) (i' := 19) rfl) rfl fun a w S => ?_
   (refine Xq (i := 14) rfl (by kernel_rfl) (Yw S sizeOf37 (.t rfl) (.t rfl) (k := 10) rfl rfl (by simp [Value.oneCell']) (by simp) ?_); clear S a w; intro a w S; refine Yi S ?_)
   rw [rw_l3] at S
   refine Yz (by kernel_rfl) ?_
   rotate_left
   (refine op_y S (Yr.ys (Ye ⟨isAgg37, sizeOf37⟩ (.t rfl) (k := 4) rfl rfl)) rfl ?_; clear S a w; intro a w S; refine Yi S ?_)
   refine hy 9 S rfl (Zc (FieldT.mk underlying96 rfl sizeOf77 rfl) (.t rfl) (i' := 3) rfl) rfl fun a w S => ?_
   (refine h_m (i := 5) rfl (by kernel_rfl) (Zz S call16 (.cons (.t rfl) .nil) (c16 _ _ _ _ _ (by exact .old S.wd (by assumption)) (by exact .old S.wd (by assumption)) (by assumption) (by assumption) (by assumption)) rfl ?_); clear S a w; rintro _ _ ⟨A12, r12, A22, r22, A32, r32, rfl, rfl⟩ a w S; refine Yi S ?_)
   (refine h_m (i := 8) rfl (by kernel_rfl) (Zz S call16 (.cons (.t rfl) .nil) (c16 _ _ _ _ _ (by exact .old S.wd (by assumption)) (by exact .old S.wd (by assumption)) (by assumption) (by assumption) (by assumption)) rfl ?_); clear S a w; rintro _ _ ⟨A13, r13, A23, r23, A33, r33, rfl, rfl⟩ a w S; refine Yi S ?_)
   (refine Xq (i := 10) rfl (by kernel_rfl) (Yw S sizeOf77 (.t rfl) (.t rfl) (k := 10) rfl rfl (by simp [Value.oneCell']) (by simp) ?_); clear S a w; intro a w S; refine Yi S ?_)
   rw [rw_l] at S
   refine hy 11 S rfl (Zc (FieldT.mk underlying96 rfl sizeOf37 rfl) (.t rfl) (i' := 16) rfl) rfl fun a w S => ?_
   (refine Xq (i := 12) rfl (by kernel_rfl) (Yw S sizeOf37 (.t rfl) (.t rfl) (k := 10) rfl rfl (by simp [Value.oneCell']) (by simp) ?_); clear S a w; intro a w S; refine Yi S ?_)
   rw [rw_l2] at S
   refine hy 13 S rfl (Zc (FieldT.mk underlying96 rfl sizeOf37 rfl) (.t rfl) (i' := 19) rfl) rfl fun a w S => ?_
   (refine Xq (i := 14) rfl (by kernel_rfl) (Yw S sizeOf37 (.t rfl) (.t rfl) (k := 10) rfl rfl (by simp [Value.oneCell']) (by simp) ?_); clear S a w; intro a w S; refine Yi S ?_)
   rw [rw_l3] at S
   refine Yz (by kernel_rfl) ?_
   rotate_left
   (refine op_y S (Yr.ys (Ye ⟨isAgg37, sizeOf37⟩ (.t rfl) (k := 1) rfl rfl)) rfl ?_; clear S a w; intro a w S; refine Yi S ?_)
   (refine h_m (i := 2) rfl (by kernel_rfl) (Zz S call103 (.cons (.t rfl) .nil) (c103 _ _ _ _ _ (by exact .old S.wd (by assumption)) (by exact .old S.wd (by assumption)) (by assumption) (by assumption) (by assumption)) rfl ?_); clear S a w; rintro _ _ ⟨A11, r11, A21, r21, A31, r31, rfl, rfl⟩ a w S; refine Yi S ?_)
   refine hy 9 S rfl (Zc (FieldT.mk underlying96 rfl sizeOf77 rfl) (.t rfl) (i' := 3) rfl) rfl fun a w S => ?_
   (refine h_m (i := 5) rfl (by kernel_rfl) (Zz S call16 (.cons (.t rfl) .nil) (c16 _ _ _ _ _ (by exact .old S.wd (by assumption)) (by exact .old S.wd (by assumption)) (by assumption) (by assumption) (by assumption)) rfl ?_); clear S a w; rintro _ _ ⟨A12, r12, A22, r22, A32, r32, rfl, rfl⟩ a w S; refine Yi S ?_)
   (refine h_m (i := 8) rfl (by kernel_rfl) (Zz S call16 (.cons (.t rfl) .nil) (c16 _ _ _ _ _ (by exact .old S.wd (by assumption)) (by exact .old S.wd (by assumption)) (by assumption) (by assumption) (by assumption)) rfl ?_); clear S a w; rintro _ _ ⟨A13, r13, A23, r23, A33, r33, rfl, rfl⟩ a w S; refine Yi S ?_)
   (refine Xq (i := 10) rfl (by kernel_rfl) (Yw S sizeOf77 (.t rfl) (.t rfl) (k := 10) rfl rfl (by simp [Value.oneCell']) (by simp) ?_); clear S a w; intro a w S; refine Yi S ?_)
   rw [rw_l] at S
   refine hy 11 S rfl (Zc (FieldT.mk underlying96 rfl sizeOf37 rfl) (.t rfl) (i' := 16) rfl) rfl fun a w S => ?_
   (refine Xq (i := 12) rfl (by kernel_rfl) (Yw S sizeOf37 (.t rfl) (.t rfl) (k := 10) rfl rfl (by simp [Value.oneCell']) (by simp) ?_); clear S a w; intro a w S; refine Yi S ?_)
   rw [rw_l2] at S
   refine hy 13 S rfl (Zc (FieldT.mk underlying96 rfl sizeOf37 rfl) (.t rfl) (i' := 19) rfl) rfl fun a w S => ?_
   (refine Xq (i := 14) rfl (by kernel_rfl) (Yw S sizeOf37 (.t rfl) (.t rfl) (k := 10) rfl rfl (by simp [Value.oneCell']) (by simp) ?_); clear S a w; intro a w S; refine Yi S ?_)
   rw [rw_l3] at S
   refine Yz (by kernel_rfl) ?_
   rotate_left
   (refine op_y S (Yr.ys (Ye ⟨isAgg37, sizeOf37⟩ (.t rfl) (k := 1) rfl rfl)) rfl ?_; clear S a w; intro a w S; refine Yi S ?_)
   refine h_q (i := 1) S (by repeat (first | exact List.Sublist.refl _ | exact List.nil_sublist _ | refine .cons_cons _ ?_ | refine .cons _ ?_)) rfl (by kernel_rfl) (Yr.ys (Ye ⟨isAgg77, sizeOf77⟩ (.t rfl) (k := 1) rfl rfl)) rfl fun a w S => ?_
   (refine h_m (i := 2) rfl (by kernel_rfl) (Zz S call103 (.cons (.t rfl) .nil) (c103 _ _ _ _ _ (by exact .old S.wd (by assumption)) (by exact .old S.wd (by assumption)) (by assumption) (by assumption) (by assumption)) rfl ?_); clear S a w; rintro _ _ ⟨A11, r11, A21, r21, A31, r31, rfl, rfl⟩ a w S; refine Yi S ?_)
   refine hy 9 S rfl (Zc (FieldT.mk underlying96 rfl sizeOf77 rfl) (.t rfl) (i' := 3) rfl) rfl fun a w S => ?_
   (refine h_m (i := 5) rfl (by kernel_rfl) (Zz S call16 (.cons (.t rfl) .nil) (c16 _ _ _ _ _ (by exact .old S.wd (by assumption)) (by exact .old S.wd (by assumption)) (by assumption) (by assumption) (by assumption)) rfl ?_); clear S a w; rintro _ _ ⟨A12, r12, A22, r22, A32, r32, rfl, rfl⟩ a w S; refine Yi S ?_)
   (refine h_m (i := 8) rfl (by kernel_rfl) (Zz S call16 (.cons (.t rfl) .nil) (c16 _ _ _ _ _ (by exact .old S.wd (by assumption)) (by exact .old S.wd (by assumption)) (by assumption) (by assumption) (by assumption)) rfl ?_); clear S a w; rintro _ _ ⟨A13, r13, A23, r23, A33, r33, rfl, rfl⟩ a w S; refine Yi S ?_)
   (refine Xq (i := 10) rfl (by kernel_rfl) (Yw S sizeOf77 (.t rfl) (.t rfl) (k := 10) rfl rfl (by simp [Value.oneCell']) (by simp) ?_); clear S a w; intro a w S; refine Yi S ?_)
   rw [rw_l] at S
   refine hy 11 S rfl (Zc (FieldT.mk underlying96 rfl sizeOf37 rfl) (.t rfl) (i' := 16) rfl) rfl fun a w S => ?_
   (refine Xq (i := 12) rfl (by kernel_rfl) (Yw S sizeOf37 (.t rfl) (.t rfl) (k := 10) rfl rfl (by simp [Value.oneCell']) (by simp) ?_); clear S a w; intro a w S; refine Yi S ?_)
   rw [rw_l2] at S
   refine hy 13 S rfl (Zc (FieldT.mk underlying96 rfl sizeOf37 rfl) (.t rfl) (i' := 19) rfl) rfl fun a w S => ?_
   (refine Xq (i := 14) rfl (by kernel_rfl) (Yw S sizeOf37 (.t rfl) (.t rfl) (k := 10) rfl rfl (by simp [Value.oneCell']) (by simp) ?_); clear S a w; intro a w S; refine Yi S ?_)
   rw [rw_l3] at S
   refine Yz (by kernel_rfl) ?_
   rotate_left
   (refine op_y S (Yr.ys (Ye ⟨isAgg37, sizeOf37⟩ (.t rfl) (k := 1) rfl rfl)) rfl ?_; clear S a w; intro a w S; refine Yi S ?_)
   refine Xz (i := 1) (j := 4) (by kernel_rfl) rfl rfl ?_ ?_
   (refine op_y S (Yr.ys (Ye ⟨isAgg77, sizeOf77⟩ (.t rfl) (k := 1) rfl rfl)) rfl ?_; clear S a w; intro a w S; refine Yi S ?_)
   refine Xz (i := 2) (j := 4) (by kernel_rfl) rfl rfl ?_ ?_
   (refine Zz S call103 (.cons (.t rfl) .nil) (c103 _ _ _ _ _ (by exact .old S.wd (by assumption)) (by exact .old S.wd (by assumption)) (by assumption) (by assumption) (by assumption)) rfl ?_; clear S a w; rintro _ _ ⟨A11, r11, A21, r21, A31, r31, rfl, rfl⟩ a w S; refine Yi S ?_)
   refine h_q (i := 4) S (by repeat (first | exact List.Sublist.refl _ | exact List.nil_sublist _ | refine .cons_cons _ ?_ | refine .cons _ ?_)) rfl (by kernel_rfl) (Yr.ys (Ye ⟨isAgg37, sizeOf37⟩ (.t rfl) (k := 4) rfl rfl)) rfl fun a w S => hy 9 S rfl (Zc (FieldT.mk underlying96 rfl sizeOf77 rfl) (.t rfl) (i' := 3) rfl) rfl fun a w S => ?_
   (refine h_m (i := 5) rfl (by kernel_rfl) (Zz S call16 (.cons (.t rfl) .nil) (c16 _ _ _ _ _ (by exact .old S.wd (by assumption)) (by exact .old S.wd (by assumption)) (by assumption) (by assumption) (by assumption)) rfl ?_); clear S a w; rintro _ _ ⟨A12, r12, A22, r22, A32, r32, rfl, rfl⟩ a w S; refine Yi S ?_)
   (refine h_m (i := 8) rfl (by kernel_rfl) (Zz S call16 (.cons (.t rfl) .nil) (c16 _ _ _ _ _ (by exact .old S.wd (by assumption)) (by exact .old S.wd (by assumption)) (by assumption) (by assumption) (by assumption)) rfl ?_); clear S a w; rintro _ _ ⟨A13, r13, A23, r23, A33, r33, rfl, rfl⟩ a w S; refine Yi S ?_)
   (refine Xq (i := 10) rfl (by kernel_rfl) (Yw S sizeOf77 (.t rfl) (.t rfl) (k := 10) rfl rfl (by simp [Value.oneCell']) (by simp) ?_); clear S a w; intro a w S; refine Yi S ?_)
   rw [rw_l] at S
   refine hy 11 S rfl (Zc (FieldT.mk underlying96 rfl sizeOf37 rfl) (.t rfl) (i' := 16) rfl) rfl fun a w S => ?_
   (refine Xq (i := 12) rfl (by kernel_rfl) (Yw S sizeOf37 (.t rfl) (.t rfl) (k := 10) rfl rfl (by simp [Value.oneCell']) (by simp) ?_); clear S a w; intro a w S; refine Yi S ?_)
   rw [rw_l2] at S
   refine hy 13 S rfl (Zc (FieldT.mk underlying96 rfl sizeOf37 rfl) (.t rfl) (i' := 19) rfl) rfl fun a w S => ?_
   (refine Xq (i := 14) rfl (by kernel_rfl) (Yw S sizeOf37 (.t rfl) (.t rfl) (k := 10) rfl rfl (by simp [Value.oneCell']) (by simp) ?_); clear S a w; intro a w S; refine Yi S ?_)
   rw [rw_l3] at S
   refine Yz (by kernel_rfl) ?_
   rotate_left
   (refine op_y S (Yr.ys (Ye ⟨isAgg37, sizeOf37⟩ (.t rfl) (k := 1) rfl rfl)) rfl ?_; clear S a w; intro a w S; refine Yi S ?_)
   (refine h_m (i := 2) rfl (by kernel_rfl) (Zz S call103 (.cons (.t rfl) .nil) (c103 _ _ _ _ _ (by exact .old S.wd (by assumption)) (by exact .old S.wd (by assumption)) (by assumption) (by assumption) (by assumption)) rfl ?_); clear S a w; rintro _ _ ⟨A11, r11, A21, r21, A31, r31, rfl, rfl⟩ a w S; refine Yi S ?_)
   refine hy 9 S rfl (Zc (FieldT.mk underlying96 rfl sizeOf77 rfl) (.t rfl) (i' := 3) rfl) rfl fun a w S => ?_
   (refine h_m (i := 5) rfl (by kernel_rfl) (Zz S call16 (.cons (.t rfl) .nil) (c16 _ _ _ _ _ (by exact .old S.wd (by assumption)) (by exact .old S.wd (by assumption)) (by assumption) (by assumption) (by assumption)) rfl ?_); clear S a w; rintro _ _ ⟨A12, r12, A22, r22, A32, r32, rfl, rfl⟩ a w S; refine Yi S ?_)
   (refine h_m (i := 8) rfl (by kernel_rfl) (Zz S call16 (.cons (.t rfl) .nil) (c16 _ _ _ _ _ (by exact .old S.wd (by assumption)) (by exact .old S.wd (by assumption)) (by assumption) (by assumption) (by assumption)) rfl ?_); clear S a w; rintro _ _ ⟨A13, r13, A23, r23, A33, r33, rfl, rfl⟩ a w S; refine Yi S ?_)
   (refine Xq (i := 10) rfl (by kernel_rfl) (Yw S sizeOf77 (.t rfl) (.t rfl) (k := 10) rfl rfl (by simp [Value.oneCell']) (by simp) ?_); clear S a w; intro a w S; refine Yi S ?_)
   rw [rw_l] at S
   refine hy 11 S rfl (Zc (FieldT.mk underlying96 rfl sizeOf37 rfl) (.t rfl) (i' := 16) rfl) rfl fun a w S => ?_
   (refine Xq (i := 12) rfl (by kernel_rfl) (Yw S sizeOf37 (.t rfl) (.t rfl) (k := 10) rfl rfl (by simp [Value.oneCell']) (by simp) ?_); clear S a w; intro a w S; refine Yi S ?_)
   rw [rw_l2] at S
   refine hy 13 S rfl (Zc (FieldT.mk underlying96 rfl sizeOf37 rfl) (.t rfl) (i' := 19) rfl) rfl fun a w S => ?_
   (refine Xq (i := 14) rfl (by kernel_rfl) (Yw S sizeOf37 (.t rfl) (.t rfl) (k := 10) rfl rfl (by simp [Value.oneCell']) (by simp) ?_); clear S a w; intro a w S; refine Yi S ?_)
   rw [rw_l3] at S
   refine Yz (by kernel_rfl) ?_
   rotate_left
   (refine op_y S (Yr.ys (Ye ⟨isAgg37, sizeOf37⟩ (.t rfl) (k := 1) rfl rfl)) rfl ?_; clear S a w; intro a w S; refine Yi S ?_)
   refine h_q (i := 1) S (by repeat (first | exact List.Sublist.refl _ | exact List.nil_sublist _ | refine .cons_cons _ ?_ | refine .cons _ ?_)) rfl (by kernel_rfl) (Yr.ys (Ye ⟨isAgg77, sizeOf77⟩ (.t rfl) (k := 1) rfl rfl)) rfl fun a w S => ?_
   (refine h_m (i := 2) rfl (by kernel_rfl) (Zz S call103 (.cons (.t rfl) .nil) (c103 _ _ _ _ _ (by exact .old S.wd (by assumption)) (by exact .old S.wd (by assumption)) (by assumption) (by assumption) (by assumption)) rfl ?_); clear S a w; rintro _ _ ⟨A11, r11, A21, r21, A31, r31, rfl, rfl⟩ a w S; refine Yi S ?_)
   refine hy 9 S rfl (Zc (FieldT.mk underlying96 rfl sizeOf77 rfl) (.t rfl) (i' := 3) rfl) rfl fun a w S => ?_
   (refine h_m (i := 5) rfl (by kernel_rfl) (Zz S call16 (.cons (.t rfl) .nil) (c16 _ _ _ _ _ (by exact .old S.wd (by assumption)) (by exact .old S.wd (by assumption)) (by assumption) (by assumption) (by assumption)) rfl ?_); clear S a w; rintro _ _ ⟨A12, r12, A22, r22, A32, r32, rfl, rfl⟩ a w S; refine Yi S ?_)
   (refine h_m (i := 8) rfl (by kernel_rfl) (Zz S call16 (.cons (.t rfl) .nil) (c16 _ _ _ _ _ (by exact .old S.wd (by assumption)) (by exact .old S.wd (by assumption)) (by assumption) (by assumption) (by assumption)) rfl ?_); clear S a w; rintro _ _ ⟨A13, r13, A23, r23, A33, r33, rfl, rfl⟩ a w S; refine Yi S ?_)
   (refine Xq (i := 10) rfl (by kernel_rfl) (Yw S sizeOf77 (.t rfl) (.t rfl) (k := 10) rfl rfl (by simp [Value.oneCell']) (by simp) ?_); clear S a w; intro a w S; refine Yi S ?_)
   rw [rw_l] at S
   refine hy 11 S rfl (Zc (FieldT.mk underlying96 rfl sizeOf37 rfl) (.t rfl) (i' := 16) rfl) rfl fun a w S => ?_
   (refine Xq (i := 12) rfl (by kernel_rfl) (Yw S sizeOf37 (.t rfl) (.t rfl) (k := 10) rfl rfl (by simp [Value.oneCell']) (by simp) ?_); clear S a w; intro a w S; refine Yi S ?_)
   rw [rw_l2] at S
   refine hy 13 S rfl (Zc (FieldT.mk underlying96 rfl sizeOf37 rfl) (.t rfl) (i' := 19) rfl) rfl fun a w S => ?_
   (refine Xq (i := 14) rfl (by kernel_rfl) (Yw S sizeOf37 (.t rfl) (.t rfl) (k := 10) rfl rfl (by simp [Value.oneCell']) (by simp) ?_); clear S a w; intro a w S; refine Yi S ?_)
   rw [rw_l3] at S
   refine Yz (by kernel_rfl) ?_
   rotate_left
   all_goals exact ⟨A11, r11, A21, r21, A31, r31, A12, r12, A22, r22, A32, r32, A13, r13, A23, r23, A33, r33, S.pk⟩
 clear S
 rcases e with _ | _ | _ | _ | _ | _ | _
 any_goals exact qq.elim
 obtain ⟨A1, c1, A2, c2, A3, c3, B1, d1, B2, d2, B3, d3, C1, e1, C2, e2, C3, e3, S⟩ := qq
 refine Za ?_
 first | refine hK9 _ _ ?_ | refine hK8 _ _ ?_ | refine hK7 _ _ ?_ | refine hK6 _ _ ?_ | refine hK5 _ _ ?_ | refine hK4 _ _ ?_ | refine hK3 _ _ ?_ | refine hK2 _ _ ?_ | refine hK1 _ _ ?_
 obtain ⟨y, hy⟩ : ∃ y, x.at3 ⟨A1, x.u.1.seen.ents.length, c1, A2, x.u.1.seen.ctx.marks.length, c2, A3, x.u.1.seen.ctx.cloud.length, c3⟩ ⟨B1, x.s.1.ents.length, d1, B2, x.s.1.ctx.marks.length, d2, B3, x.s.1.ctx.cloud.length, d3⟩ ⟨C1, x.c.1.ents.length, e1, C2, x.c.1.ctx.marks.length, e2, C3, x.c.1.ctx.cloud.length, e3⟩ = y := ⟨_, rfl⟩
 rw [hy] at S
 refine wp_seq_k fun _ hK2 => wp_region_lit (run S (.la gt96 10 rfl rfl rfl <| .z) fun a w S => Zk (Zv S sizeOf96 (.t rfl) (.t rfl) (k := 9) rfl rfl rfl (by simp [Value.oneCell']) fun a w S => Zb (Za (hK2 _ _ (wp_ret (Zj S (results1 S results117 (Rv.cell (k := 9) ⟨isAgg96, sizeOf96⟩ rfl rfl rfl)) ?_))))))
 exact ⟨_, _, rfl, S.wd.pk, A1, c1, A2, c2, A3, c3, B1, d1, B2, d2, B3, d3, C1, e1, C2, e2, C3, e3, by rw [hy], rfl⟩
end Go.Proofs.YtakpdbmdfnialaaGreat
namespace Go.Fw
open Go.RowKit
def isGone (key : List UInt8) (x : SLog) : Bool := decide (x.kind = 5) && decide (x.key = key)
def goneK (l : List SLog) (key : List UInt8) : List SLog := l.filter (isGone key)
def forgotB (d : Dot) (x : SLog) : Bool := decide (x.an = d.node ∧ x.al = d.life) && x.c.1.ctx.covers d
def forgotK (l : List SLog) (d : Dot) : Bool := l.any (forgotB d)
theorem gone_snoc {l : List SLog} {i : Nat} {x : SLog} {key : List UInt8} (h : l[i]? = some x) : goneK (l.take (i + 1)) key = goneK (l.take i) key ++ if isGone key x = true then [x] else [] := by
 unfold goneK
 rw [List.take_add_one, h, Option.toList_some, List.filter_append]
 congr 1
 rw [List.filter_cons, List.filter_nil]
theorem gone_len (l : List SLog) (key : List UInt8) : (goneK l key).length ≤ l.length := List.length_filter_le _ _
theorem log_enc (x : SLog) : #[Value.int .i64 x.kind, .int .i64 x.at_, .int .i64 x.ask, .string (bs x.u.1.key), .int .i64 x.u.1.dot.node, .int .i64 x.u.1.dot.life, .int .i64 x.u.1.dot.count, .string (bs x.u.1.item), .int .i64 x.u.1.qty, .int .u64 (x.u.1.price.toNat : Int), .slice x.u.2.a1 x.u.2.n1 x.u.2.c1, .slice x.u.2.a2 x.u.2.n2 x.u.2.c2, .slice x.u.2.a3 x.u.2.n3 x.u.2.c3, .int .i64 x.an, .int .i64 x.al, .string (bs x.key), .slice x.s.2.a1 x.s.2.n1 x.s.2.c1, .slice x.s.2.a2 x.s.2.n2 x.s.2.c2, .slice x.s.2.a3 x.s.2.n3 x.s.2.c3, .slice x.c.2.a1 x.c.2.n1 x.c.2.c1, .slice x.c.2.a2 x.c.2.n2 x.c.2.c2, .slice x.c.2.a3 x.c.2.n3 x.c.2.c3] = (SLog.enc x).toArray := rfl
end Go.Fw
namespace Go.Proofs.YtakpdbmdfnialaaGreat
open Go.Fw Go.Proofs Go.RowKit Go.Proofs.Tryz
theorem c119 (w0 : World) (v : Value) (l : List SLog) (key : List UInt8) (h : Sl SLog.enc 22 w0 w0.heap.size v l) (hn : l.length ≤ 1048576) :
   Rets Tryz.prog 119 #[v, .string (bs key)] w0 fun u L => ∃ A r, u = .slice A (goneK l key).length r ∧ L = [rowOf 96 22 SLog.enc A r (goneK l key)] := by
 obtain ⟨A, cap, rfl, hl, hcap, hA⟩ := h
 unfold Go.Fw.Rets
 refine enter2 func119 rfl ntmps119 rfl fun a S => sg S (.ac rfl <| .z) fun a w S => sg S (.ac rfl <| .z) fun a w S => wp_seq_k fun _ hK1 => sg S (.mv rfl <| .ln underlying84 rfl <| .mc rfl <| .z) fun a w S => wp_block ?_
 replace S := S.nil_ 96 22 SLog.enc none
 refine Xe S [5, 10] (X := Nat × Option Addr × Nat) (fun q => [(5, true, .slice q.2.1 (goneK (l.take q.1) key).length q.2.2), (10, true, .int .i64 (q.1 : Int))]) (fun q => [rowOf 96 22 SLog.enc q.2.1 q.2.2 (goneK (l.take q.1) key)]) (fun q => q.1 ≤ l.length) (fun q => l.length - q.1) (0, none, 0) (Nat.zero_le _) ?_
 clear S
 rintro ⟨i, B, cB⟩ a w hi S
 dsimp only at hi S
 have hgl := gone_len (l.take i) key
 rw [List.length_take] at hgl
 by_cases hlt : i < l.length
 · obtain ⟨gq, oq, x, rfl, hx, hd, hc⟩ := Yk hA hlt
   have hst := gone_snoc (key := key) hx
   generalize goneK (l.take i) key = G at *
   by_cases hk : x.kind = 5
   · have rw_k := decide_eq_true hk
     by_cases hy : x.key = key
     · have rw_y := decide_eq_true hy
       have rw_l := log_enc x
       rw [show isGone key x = true by unfold isGone; rw [rw_k, rw_y]; rfl, if_pos rfl] at hst
       refine sg S (.lt (by omega) rfl rfl <| .z) fun a w S => wp_seq_k fun _ hK2 => Zg S (.t rfl) (wp_skip (Za (hK2 _ _ (wp_seq_k fun _ hK2 => wp_block (wp_seq_k fun _ hK3 => wp_region_lit (run S (.ix underlying84 sizeOf96 (by omega) rfl rfl <| .yy (Zp ⟨isAgg96, sizeOf96⟩ (.t rfl) (vs := [_, _, _, _, _, _, _, _, _, _, _, _, _, _, _, _, _, _, _, _, _, _]) rfl (fun _ => hc)) rfl <| .z) fun a w S => ?_))))))
       rw [rw_l] at S
       refine Zk (Zn S zeroValue96 (cs := _) rfl rfl fun g1 a w S => ?_)
       rw [rw_l] at S
       refine Zk (Zv S sizeOf96 (.t rfl) (.t rfl) (k := 0) rfl rfl rfl (by simp [Value.oneCell']) fun a w S => ?_)
       rw [rw_l] at S
       refine Zb ?_
       rw [rw_l] at S
       refine Za (hK3 _ _ ?_)
       rw [rw_l] at S
       refine wp_seq_k fun _ hK3 => ?_
       rw [rw_l] at S
       refine wp_region_lit ?_
       rw [rw_l] at S
       refine run S (.fa underlying96 sizeOf3 0 rfl rfl rfl <| .z) fun a w S => ?_
       rw [rw_l] at S
       refine run S (.ld gt3 0 rfl rfl rfl <| .z) fun a w S => ?_
       rw [rw_l] at S
       refine run S (.yy (Yu (by omega) (Yd (.t rfl) Ev.c)) rfl <| .z) fun a w S => ?_
       rw [rw_l] at S
       refine run S (.mv rfl <| .z) fun a w S => ?_
       rw [rw_l] at S
       refine run S (.gy rfl rfl (Zc (FieldT.mk underlying96 rfl sizeOf9 rfl) (.t rfl) (i' := 15) rfl) <| .z) fun a w S => ?_
       rw [rw_l] at S
       refine run S (.gy rfl rfl (Zu ⟨isAgg9, sizeOf9⟩ (.t rfl) (k := 0) rfl rfl) <| .z) fun a w S => ?_
       rw [rw_l] at S
       refine run S (.gy rfl rfl (Zd (.t rfl)) <| .z) fun a w S => ?_
       rw [rw_l] at S
       refine run S (.gy rfl rfl (Xi (.t rfl) (.t rfl)) <| .z) fun a w S => ?_
       rw [rw_y] at S
       rw [rw_l] at S
       refine run S (.yy (Zt (.t rfl) (.t rfl)) rfl <| .z) fun a w S => ?_
       rw [rw_l] at S
       refine Zb ?_
       rw [rw_l] at S
       refine Za (hK3 _ _ ?_)
       rw [rw_l] at S
       refine Zg S (.t rfl) ?_
       rw [rw_l] at S
       refine wp_region_lit ?_
       rw [rw_l] at S
       refine run S (.mv rfl <| .z) fun a w S => ?_
       rw [rw_l] at S
       refine run S (.la gt96 0 rfl rfl rfl <| .z) fun a w S => ?_
       rw [rw_l] at S
       refine Zk (Yp S underlying84 inf96 rfl rfl rfl (.t rfl) rfl rfl rfl fun g2 a w S => ?_)
       rw [rw_l] at S
       refine Zk (Xp S underlying84 inf96 rfl (k := 2) (j := 0) rfl (.t rfl) (.t rfl) rfl rfl rfl rfl (by first | omega | (simp only [List.length_append, List.length_cons, List.length_nil]; omega)) rfl rfl rfl fun A1 cap1 a w S => ?_)
       rw [rw_l] at S
       refine run S (.as rfl <| .z) fun a w S => ?_
       rw [rw_l] at S
       refine Zb ?_
       rw [rw_l] at S
       refine Zm (Za (hK2 _ _ ?_))
       rw [rw_l] at S
       refine wp_region_lit ?_
       rw [rw_l] at S
       refine run S (.ad (by unfold I64; omega) rfl <| .z) fun a w S => ?_
       rw [rw_l] at S
       refine run S (.mv rfl <| .z) fun a w S => ?_
       rw [rw_l] at S
       refine Zb ?_
       rw [rw_l] at S
       refine Za ?_
       rw [rw_l] at S
       exact ⟨(i + 1, A1, cap1), by dsimp only; omega, by dsimp only; omega, by dsimp only; rw [hst]; exact S.pk⟩
     · have rw_y := decide_eq_false hy
       rw [show isGone key x = false by unfold isGone; rw [rw_k, rw_y]; rfl, if_neg (by decide), List.append_nil] at hst
       refine sg S (.lt (by omega) rfl rfl <| .z) fun a w S => wp_seq_k fun _ hK2 => Zg S (.t rfl) (wp_skip (Za (hK2 _ _ (wp_seq_k fun _ hK2 => wp_block (wp_seq_k fun _ hK3 => wp_region_lit (run S (.ix underlying84 sizeOf96 (by omega) rfl rfl <| .yy (Zp ⟨isAgg96, sizeOf96⟩ (.t rfl) (vs := [_, _, _, _, _, _, _, _, _, _, _, _, _, _, _, _, _, _, _, _, _, _]) rfl (fun _ => hc)) rfl <| .z) fun a w S => Zk (Zn S zeroValue96 (cs := _) rfl rfl fun g1 a w S => Zk (Zv S sizeOf96 (.t rfl) (.t rfl) (k := 0) rfl rfl rfl (by simp [Value.oneCell']) fun a w S => Zb (Za (hK3 _ _ (wp_seq_k fun _ hK3 => wp_region_lit (run S (.fa underlying96 sizeOf3 0 rfl rfl rfl <| .ld gt3 0 rfl rfl rfl <| .yy (Yu (by omega) (Yd (.t rfl) Ev.c)) rfl <| .mv rfl <| .gy rfl rfl (Zc (FieldT.mk underlying96 rfl sizeOf9 rfl) (.t rfl) (i' := 15) rfl) <| .gy rfl rfl (Zu ⟨isAgg9, sizeOf9⟩ (.t rfl) (k := 0) rfl rfl) <| .gy rfl rfl (Zd (.t rfl)) <| .gy rfl rfl (Xi (.t rfl) (.t rfl)) <| .z) fun a w S => ?_))))))))))))
       rw [rw_y] at S
       refine run S (.yy (Zt (.t rfl) (.t rfl)) rfl <| .z) fun a w S => Zb (Za (hK3 _ _ (Zf S (.t rfl) (wp_skip (Zm (Za (hK2 _ _ (wp_region_lit (run S (.ad (by unfold I64; omega) rfl <| .mv rfl <| .z) fun a w S => Zb (Za ?_))))))))))
       exact ⟨(i + 1, B, cB), by dsimp only; omega, by dsimp only; omega, by dsimp only; rw [hst]; exact S.pk⟩
   · have rw_k := decide_eq_false hk
     rw [show isGone key x = false by unfold isGone; rw [rw_k]; rfl, if_neg (by decide), List.append_nil] at hst
     refine sg S (.lt (by omega) rfl rfl <| .z) fun a w S => wp_seq_k fun _ hK2 => Zg S (.t rfl) (wp_skip (Za (hK2 _ _ (wp_seq_k fun _ hK2 => wp_block (wp_seq_k fun _ hK3 => wp_region_lit (run S (.ix underlying84 sizeOf96 (by omega) rfl rfl <| .yy (Zp ⟨isAgg96, sizeOf96⟩ (.t rfl) (vs := [_, _, _, _, _, _, _, _, _, _, _, _, _, _, _, _, _, _, _, _, _, _]) rfl (fun _ => hc)) rfl <| .z) fun a w S => Zk (Zn S zeroValue96 (cs := _) rfl rfl fun g1 a w S => Zk (Zv S sizeOf96 (.t rfl) (.t rfl) (k := 0) rfl rfl rfl (by simp [Value.oneCell']) fun a w S => Zb (Za (hK3 _ _ (sg S (.fa underlying96 sizeOf3 0 rfl rfl rfl <| .ld gt3 0 rfl rfl rfl <| .yy (Ym (by omega) (Yd (.t rfl) Ev.c)) rfl <| .mv rfl <| .sk rfl rfl rfl <| .sk rfl rfl rfl <| .sk rfl rfl rfl <| .sk rfl rfl rfl <| .yy (Zq (.t rfl) Ev.c) rfl <| .z) fun a w S => Zf S (.t rfl) (wp_skip (Zm (Za (hK2 _ _ (wp_region_lit (run S (.ad (by unfold I64; omega) rfl <| .mv rfl <| .z) fun a w S => Zb (Za ?_))))))))))))))))))
     exact ⟨(i + 1, B, cB), by dsimp only; omega, by dsimp only; omega, by dsimp only; rw [hst]; exact S.pk⟩
 obtain rfl : i = l.length := by omega
 rw [List.take_length] at S
 refine sg S (.ge (by omega) rfl rfl <| .z) fun a w S => wp_seq_k fun _ hK2 => Zf S (.t rfl) (wp_exit (Zi (Zi (Zy (Za (hK1 _ _ (sg S (.mv rfl <| .as rfl <| .z) fun a w S => wp_ret (Zj S (results1 S results119 (Rv.tmp rfl)) ?_))))))))
 exact ⟨_, _, rfl, S.wd.pk, B, cB, rfl, rfl⟩
theorem c171 (w0 : World) (x : SLog) (d : Dot) (g : Nat) (h : LogRd w0 x) (h1 : w0.cell? ⟨g, 0, none⟩ = some (.int .i64 d.node)) (h2 : w0.cell? ⟨g, 1, none⟩ = some (.int .i64 d.life)) (h3 : w0.cell? ⟨g, 2, none⟩ = some (.int .i64 d.count)) :
   Calls Tryz.prog 171 #[.agg (SLog.enc x).toArray, .pointer (some ⟨g, 0, none⟩)] w0 fun e w' => e = .returned (.bool (forgotB d x)) ∧ Bel w0.heap.size w0 w' := by
 have hdc := dot_cells (d := d) h1 h2 h3
 have r1 := h.c.ctx
 refine enter2 func171 rfl ntmps171 rfl fun a S => wp_seq_k fun _ hK1 => wp_region_lit (Zk (Ya S (.t rfl) rfl fun g1 a w S => run S (.ac rfl <| .z) fun a w S => Zb (Za (hK1 _ _ (wp_seq_k fun _ hK1 => wp_region_lit (run S (.fa underlying96 sizeOf66 13 rfl rfl rfl <| .la gt66 0 rfl rfl rfl <| .fa underlying74 sizeOf3 0 rfl rfl rfl <| .yy (Yn ⟨isAgg3, sizeOf3⟩ (.t rfl) (fun _ => h1)) rfl <| .fa underlying74 sizeOf3 1 rfl rfl rfl <| .yy (Yn ⟨isAgg3, sizeOf3⟩ (.t rfl) (fun _ => h2)) rfl <| .yy (Xj (ps := [(0, Go.Operand.tmp 7), (1, Go.Operand.tmp 9)]) (us := [_, _]) bld66 (.cons (.t rfl) (.cons (.t rfl) .nil)) rfl) rfl <| .yy (Ws (.t rfl) (.t rfl) eq66) rfl <| .mv rfl <| .z) fun a w S => Yg S rfl rfl (Yr.ys (Zc (FieldT.mk underlying96 rfl sizeOf37 rfl) (.t rfl) (i' := 19) rfl)) rfl fun a w S => Yg S rfl rfl (Yr.ys (Zc (FieldT.mk underlying37 rfl sizeOf35 rfl) (Ev.g rfl) (i' := 20) rfl)) rfl fun a w S => Yg S rfl rfl (Yr.ys (Ye ⟨isAgg35, sizeOf35⟩ (Ev.g rfl) (k := 0) rfl rfl)) rfl fun a w S => Yg S rfl rfl (Yr.ys (Zp ⟨isAgg74, sizeOf74⟩ (.t rfl) (vs := [_, _, _]) rfl (fun _ => hdc))) rfl fun a w S => Yg S rfl rfl (Zh call109 (.cons (Ev.g rfl) (.cons (Ev.g rfl) .nil)) (fun hp w W => c109 _ _ _ _ _ _ _ (by exact .old W (by assumption)))) rfl fun a w S => ?_))))))
 refine run S (.yy (Xn (.t rfl) (Ev.g rfl) Ev.c) rfl <| .as rfl <| .z) fun a w S => Zb (Za (hK1 _ _ (wp_ret (Zj S (results1 S results171 (Rv.tmp rfl)) ?_))))
 exact ⟨rfl, S.wd.below⟩
theorem c118 (w0 : World) (v : Value) (l : List SLog) (x y z : Int) (h : Sl SLog.enc 22 w0 w0.heap.size v l) (hl : LogsRd w0 l) :
   Calls Tryz.prog 118 #[v, .agg #[.int .i64 x, .int .i64 y, .int .i64 z]] w0 fun e w' => e = .returned (.bool (forgotK l ⟨x, y, z⟩)) ∧ Bel w0.heap.size w0 w' := by
 have hs := h
 have rw_i := idxW_any (forgotB ⟨x, y, z⟩) l 0
 refine enter2 func118 rfl ntmps118 rfl fun a S => wp_seq_k fun _ hK1 => wp_region_lit (Zk (Ya S (.t rfl) rfl fun g1 a w S => run S (.ac rfl <| .z) fun a w S => Zb (Za (hK1 _ _ (wp_seq_k fun _ hK1 => wp_region_lit (run S (.mv rfl <| .yy (ys_mkFunc (.cons (.t rfl) .nil)) rfl <| .z) fun a w S => ?_))))))
 refine Yh S (Zh call170 (.cons (.t rfl) (.cons (.t rfl) .nil)) (fun _ w' W' => x170 w' _ l 171 [.pointer (some ⟨g1, 0, none⟩)] (forgotB ⟨x, y, z⟩) call171
   (fun w'' W'' q hq => c171 w'' q ⟨x, y, z⟩ g1 (((hl q hq).old W').old W'') (Wd.cellOld W'' (Wd.cell W' (k := 0) rfl rfl)) (Wd.cellOld W'' (Wd.cell W' (k := 0) rfl rfl)) (Wd.cellOld W'' (Wd.cell W' (k := 0) rfl rfl))) (Sl.old W' hs))) rfl ?_
 clear S a w
 intro a w S
 refine run S (.yy (Xd (.t rfl) Ev.c) rfl <| .z) fun a w S => ?_
 rw [rw_i] at S
 refine run S (.as rfl <| .z) fun a w S => Zb (Za (hK1 _ _ (wp_ret (Zj S (results1 S results118 (Rv.tmp rfl)) ?_))))
 exact ⟨rfl, S.wd.below⟩
end Go.Proofs.YtakpdbmdfnialaaGreat
namespace Go.Fw
open Go.RowKit
def toldB (pr : List SLog) (x y : SLog) : Bool := decide (y.kind = 1) && decide (y.u.1.key = x.key) && (x.c.1.ctx.covers y.u.1.dot || forgotK pr y.u.1.dot)
def toldU (pr : List SLog) (x : SLog) (l : List SLog) : List SUpd := (l.filter (toldB pr x)).map (·.u)
end Go.Fw
namespace Go.Proofs.YtakpdbmdfnialaaGreat
open Go.Fw Go.Proofs Go.RowKit Go.Proofs.Tryz
end Go.Proofs.YtakpdbmdfnialaaGreat
namespace Go.Fw
open Go.RowKit
structure JrnOk (w : World) (l : List SLog) : Prop where
 rd : LogsRd w l
 len : l.length ≤ 1048576
 ok : ∀ x ∈ l, CartOk x.s.1 ∧ ∀ m ∈ x.c.1.ctx.marks, mayD m = true
 room : ∀ i x, l[i]? = some x → RoomU ((toldU (goneK (l.take i) x.key) x (l.take i)).map (·.1))
theorem JrnOk.old {w0 w : World} {L : List Chunk} {l : List SLog} (W : Wd w0 L w) (h : JrnOk w0 l) : JrnOk w l := ⟨h.rd.old W, h.len, h.ok, h.room⟩
theorem CartOk.mayM {c : Cart} (h : CartOk c) : ∀ m ∈ c.ctx.marks, mayD m = true := ((canL_iff _).1 h.ctx).2.mayM
end Go.Fw
namespace Go.Proofs.YtakpdbmdfnialaaGreat
open Go.Fw Go.Proofs Go.RowKit Go.Proofs.Tryz
end Go.Proofs.YtakpdbmdfnialaaGreat
namespace Go.Fw
open Go.RowKit
def SLog.nul (x : SLog) : SLog := x.at3 ⟨none, 0, 0, none, 0, 0, none, 0, 0⟩ ⟨none, 0, 0, none, 0, 0, none, 0, 0⟩ ⟨none, 0, 0, none, 0, 0, none, 0, 0⟩
def SmallL (l : List SLog) : Prop := ∀ x ∈ l, lenC3 x.u.1.seen ∧ lenC3 x.s.1 ∧ lenC3 x.c.1
structure LogIn (w1 : World) (bs : List Nat) (x : SLog) : Prop where
 u : CartIn w1 bs x.u.1.seen x.u.2
 s : CartIn w1 bs x.s.1 x.s.2
 c : CartIn w1 bs x.c.1 x.c.2
theorem LogIn.rd {w0 w w1 : World} {L : List Chunk} {bs : List Nat} {k : Nat} {x : SLog} (h : LogIn w1 bs x) (W : Wd w0 L w) (hk : L[k]? = some (.ice w1 bs)) : LogRd w x := ⟨h.u.rd W hk, h.s.rd W hk, h.c.rd W hk⟩
theorem nul_take {s l : List SLog} {i : Nat} {x y : SLog} (h : s.map SLog.nul = (l.map SLog.nul).take i) (hx : l[i]? = some x) (hy : y.nul = x.nul) : (s ++ [y]).map SLog.nul = (l.map SLog.nul).take (i + 1) := by
 rw [List.map_append, h, List.take_add_one, List.getElem?_map, hx]
 simp [hy]
end Go.Fw
namespace Go.Proofs.YtakpdbmdfnialaaGreat
open Go.Fw Go.Proofs Go.RowKit Go.Proofs.Tryz
theorem c43 (w0 : World) (v : Value) (l : List SLog) (h : Sl SLog.enc 22 w0 w0.heap.size v l) (hc : LogsRd w0 l) (hb : SmallL l) (hn : l.length ≤ 1048576) :
   Rets Tryz.prog 43 #[v] w0 fun u L => ∃ A r s w1 bs, u = .slice A s.length r ∧ L = [rowOf 96 22 SLog.enc A r s, .ice w1 bs] ∧ s.map SLog.nul = l.map SLog.nul ∧ ∀ p ∈ s, LogIn w1 bs p := by
 obtain ⟨A, cap, rfl, hl, hcap, hA⟩ := h
 unfold Go.Fw.Rets
 refine enter1 func43 rfl ntmps43 rfl fun a S => sg S (.ac rfl <| .z) fun a w S => sg S (.ac rfl <| .z) fun a w S => wp_seq_k fun _ hK1 => sg S (.mv rfl <| .ln underlying84 rfl <| .mc rfl <| .z) fun a w S => wp_block ?_
 replace S := S.nil_ 96 22 SLog.enc none
 replace S : St _ _ _ (.ice w0 [] :: _) _ _ := ⟨S.kn, S.wd.bare (fun b hb => by cases hb) (fun b hb => by cases hb)⟩
 refine Xe S [3, 8] (X := Nat × Option Addr × Nat × List SLog × World × List Nat) (fun q => [(3, true, .slice q.2.1 q.2.2.2.1.length q.2.2.1), (8, true, .int .i64 (q.1 : Int))])
   (fun q => [rowOf 96 22 SLog.enc q.2.1 q.2.2.1 q.2.2.2.1, .ice q.2.2.2.2.1 q.2.2.2.2.2]) (fun q => q.1 ≤ l.length ∧ q.2.2.2.1.map SLog.nul = (l.map SLog.nul).take q.1 ∧ ∀ p ∈ q.2.2.2.1, LogIn q.2.2.2.2.1 q.2.2.2.2.2 p) (fun q => l.length - q.1) (0, none, 0, [], w0, []) ⟨Nat.zero_le _, by simp, by simp⟩ ?_
 clear S
 rintro ⟨i, B, cB, s, w1, bs⟩ a w ⟨hi, hsm, hsi⟩ S
 dsimp only at hi hsm hsi S
 have hsl : s.length = i := by
   have := congrArg List.length hsm
   rw [List.length_map, List.length_take, List.length_map] at this
   omega
 by_cases hlt : i < l.length
 · obtain ⟨gq, oq, x, rfl, hx, hd, hcx⟩ := Yk hA hlt
   have hxc := hc x (List.mem_of_getElem? hx)
   have hxb := hb x (List.mem_of_getElem? hx)
   refine sg S (.lt (by omega) rfl rfl <| .z) fun a w S => wp_seq_k fun _ hK2 => Zg S (.t rfl) (wp_skip (Za (hK2 _ _ (wp_seq_k fun _ hK2 => wp_block (wp_seq_k fun _ hK3 => wp_region_lit (run S (.ix underlying84 sizeOf96 (by omega) rfl rfl <| .yy (Zp ⟨isAgg96, sizeOf96⟩ (.t rfl) (vs := [_, _, _, _, _, _, _, _, _, _, _, _, _, _, _, _, _, _, _, _, _, _]) rfl (fun _ => hcx)) rfl <| .z) fun a w S => Zk (Zn S zeroValue96 (cs := _) rfl rfl fun g1 a w S => Zk (Zv S sizeOf96 (.t rfl) (.t rfl) (k := 0) rfl rfl rfl (by simp [Value.oneCell']) fun a w S => Zb (Za (hK3 _ _ (wp_region_lit (run S (.mv rfl <| .la gt96 0 rfl rfl rfl <| .z) fun a w S => ?_))))))))))))
   (refine Zk (Zz S call117 (.cons (.t rfl) .nil) (c117 _ _ (by exact .old S.wd (by assumption)) (by assumption)) rfl ?_); clear S a w; rintro _ _ ⟨A11, r11, A21, r21, A31, r31, B11, q11, B21, q21, B31, q31, C11, p11, C21, p21, C31, p31, rfl, rfl⟩ a w S)
   refine Zk (Yp S underlying84 inf96 rfl rfl rfl (.t rfl) rfl rfl rfl fun g2 a w S => Zk (Xp S underlying84 inf96 rfl (k := 11) (j := 0) rfl (.t rfl) (.t rfl) rfl rfl rfl rfl (by first | omega | (simp only [List.length_append, List.length_cons, List.length_nil]; omega)) rfl rfl rfl fun A1 cap1 a w S => run S (.as rfl <| .z) fun a w S => Zb (Zm (Za (hK2 _ _ (wp_region_lit (run S (.ad (by unfold I64; omega) rfl <| .mv rfl <| .z) fun a w S => Zb (Za ?_))))))))
   obtain ⟨y, hy⟩ : ∃ y, x.at3 ⟨A11, x.u.1.seen.ents.length, r11, A21, x.u.1.seen.ctx.marks.length, r21, A31, x.u.1.seen.ctx.cloud.length, r31⟩ ⟨B11, x.s.1.ents.length, q11, B21, x.s.1.ctx.marks.length, q21, B31, x.s.1.ctx.cloud.length, q31⟩ ⟨C11, x.c.1.ents.length, p11, C21, x.c.1.ctx.marks.length, p21, C31, x.c.1.ctx.cloud.length, p31⟩ = y := ⟨_, rfl⟩
   rw [hy] at S
   have hyn : y.nul = x.nul := by rw [← hy]; rfl
   obtain ⟨bs1, W1, n1, hold1⟩ := freeze_cart (X := x.u.1.seen) (S.wd.picks (L' := [rowOf 100 6 Ent.enc A11 r11 x.u.1.seen.ents, rowOf 30 3 Dot.enc A21 r21 x.u.1.seen.ctx.marks, rowOf 74 3 Dot.enc A31 r31 x.u.1.seen.ctx.cloud, .ice w1 bs, rowOf 100 6 Ent.enc B11 q11 x.s.1.ents, rowOf 30 3 Dot.enc B21 q21 x.s.1.ctx.marks, rowOf 74 3 Dot.enc B31 q31 x.s.1.ctx.cloud, rowOf 100 6 Ent.enc C11 p11 x.c.1.ents, rowOf 30 3 Dot.enc C21 p21 x.c.1.ctx.marks, rowOf 74 3 Dot.enc C31 p31 x.c.1.ctx.cloud, rowOf 96 22 SLog.enc A1 cap1 (s ++ [y])]) (by repeat (first | exact Picks.nil | (refine Picks.rest ?_; (repeat (first | exact List.Sublist.refl _ | refine List.Sublist.cons_cons _ ?_ | refine List.Sublist.cons _ ?_)); done) | refine Picks.take 0 rfl ?_ | refine Picks.take 1 rfl ?_ | refine Picks.take 2 rfl ?_ | refine Picks.take 3 rfl ?_ | refine Picks.take 4 rfl ?_ | refine Picks.take 5 rfl ?_ | refine Picks.take 6 rfl ?_ | refine Picks.take 7 rfl ?_ | refine Picks.take 8 rfl ?_ | refine Picks.take 9 rfl ?_ | refine Picks.take 10 rfl ?_ | refine Picks.take 11 rfl ?_)))
   obtain ⟨bs2, W2, n2, hold2⟩ := freeze_cart (X := x.s.1) (W1.picks (L' := [rowOf 100 6 Ent.enc B11 q11 x.s.1.ents, rowOf 30 3 Dot.enc B21 q21 x.s.1.ctx.marks, rowOf 74 3 Dot.enc B31 q31 x.s.1.ctx.cloud, .ice w bs1, rowOf 100 6 Ent.enc C11 p11 x.c.1.ents, rowOf 30 3 Dot.enc C21 p21 x.c.1.ctx.marks, rowOf 74 3 Dot.enc C31 p31 x.c.1.ctx.cloud, rowOf 96 22 SLog.enc A1 cap1 (s ++ [y])]) (by repeat (first | exact Picks.nil | (refine Picks.rest ?_; (repeat (first | exact List.Sublist.refl _ | refine List.Sublist.cons_cons _ ?_ | refine List.Sublist.cons _ ?_)); done) | refine Picks.take 0 rfl ?_ | refine Picks.take 1 rfl ?_ | refine Picks.take 2 rfl ?_ | refine Picks.take 3 rfl ?_ | refine Picks.take 4 rfl ?_ | refine Picks.take 5 rfl ?_ | refine Picks.take 6 rfl ?_ | refine Picks.take 7 rfl ?_ | refine Picks.take 8 rfl ?_ | refine Picks.take 9 rfl ?_ | refine Picks.take 10 rfl ?_ | refine Picks.take 11 rfl ?_)))
   obtain ⟨bs3, W3, n3, hold3⟩ := freeze_cart (X := x.c.1) (W2.picks (L' := [rowOf 100 6 Ent.enc C11 p11 x.c.1.ents, rowOf 30 3 Dot.enc C21 p21 x.c.1.ctx.marks, rowOf 74 3 Dot.enc C31 p31 x.c.1.ctx.cloud, .ice w bs2, rowOf 96 22 SLog.enc A1 cap1 (s ++ [y])]) (by repeat (first | exact Picks.nil | (refine Picks.rest ?_; (repeat (first | exact List.Sublist.refl _ | refine List.Sublist.cons_cons _ ?_ | refine List.Sublist.cons _ ?_)); done) | refine Picks.take 0 rfl ?_ | refine Picks.take 1 rfl ?_ | refine Picks.take 2 rfl ?_ | refine Picks.take 3 rfl ?_ | refine Picks.take 4 rfl ?_ | refine Picks.take 5 rfl ?_ | refine Picks.take 6 rfl ?_ | refine Picks.take 7 rfl ?_ | refine Picks.take 8 rfl ?_ | refine Picks.take 9 rfl ?_ | refine Picks.take 10 rfl ?_ | refine Picks.take 11 rfl ?_)))
   replace S := St.mk S.kn W3
   refine ⟨(i + 1, A1, cap1, s ++ [y], w, bs3), ⟨by dsimp only; omega, nul_take hsm hx hyn, fun p hp => ?_⟩, by dsimp only; omega, S.pk⟩
   rcases List.mem_append.1 hp with hp | hp
   · obtain ⟨i1, i2, i3⟩ := hsi p hp
     exact ⟨hold3 _ _ (hold2 _ _ (hold1 _ _ i1)), hold3 _ _ (hold2 _ _ (hold1 _ _ i2)), hold3 _ _ (hold2 _ _ (hold1 _ _ i3))⟩
   · rw [List.mem_singleton.1 hp, ← hy]
     exact ⟨hold3 _ _ (hold2 _ _ n1), hold3 _ _ n2, n3⟩
 obtain rfl : i = l.length := by omega
 rw [List.take_of_length_le (by simp)] at hsm
 refine sg S (.ge (by omega) rfl rfl <| .z) fun a w S => wp_seq_k fun _ hK2 => Zf S (.t rfl) (wp_exit (Zi (Zi (Zy (Za (hK1 _ _ (sg S (.mv rfl <| .as rfl <| .z) fun a w S => wp_ret (Zj S (results1 S results43 (Rv.tmp rfl)) ?_))))))))
 exact ⟨_, _, rfl, S.wd.pk, _, _, s, _, _, rfl, rfl, hsm, hsi⟩
end Go.Proofs.YtakpdbmdfnialaaGreat
namespace Go.Proofs.YtakpdbmdfnialaaGreat
open Go.Fw Go.Proofs Go.RowKit Go.ChangeShapes Go.WideShapes Go.ChangeAt Go.Deep Go.Joins Go.Proofs.Tryz
section
variable {H : Type} {enc : TypeId × Value → H} {w : World}
theorem rdActor : Rdr enc Tryz.prog w 66 fun cs _ => ∃ n l : Int, cs = [.int .i64 n, .int .i64 l] := by
 refine (Rdr.struct underlying66 (by kernel_rfl) (.cons (Rdr.int underlying3) (.cons (Rdr.int underlying3) .nil))).mono ?_
 rintro cs b ⟨_, _, rfl, ⟨_, _, x, rfl, _⟩, _, _, rfl, ⟨_, _, y, rfl, _⟩, rfl⟩
 exact ⟨x, y, rfl⟩
def LgRd (w : World) (x : SLog) (b : Nat) : Prop := LogRd w x ∧ lensC x.u.1.seen b ∧ lensC x.s.1 b ∧ lensC x.c.1 b
theorem lens_le {X : Cart} {b b' : Nat} (h : lensC X b) (hb : b ≤ b') : lensC X b' := by
 obtain ⟨h1, h2, h3⟩ := h
 exact ⟨by omega, by omega, by omega⟩
theorem rdLog : Rdr enc Tryz.prog w 96 fun cs b => ∃ x : SLog, cs = SLog.enc x ∧ LgRd w x b := by
 refine (Rdr.struct underlying96 (by kernel_rfl) (.cons (Rdr.int underlying3) (.cons (Rdr.int underlying3) (.cons (Rdr.int underlying3) (.cons rdSU (.cons rdActor (.cons (Rdr.str underlying9) (.cons rdSC (.cons rdSC .nil))))))))).mono ?_
 rintro cs b ⟨_, _, rfl, ⟨_, _, k, rfl, _⟩, _, _, rfl, ⟨_, _, at_, rfl, _⟩, _, _, rfl, ⟨_, _, ask, rfl, _⟩, _, _, rfl, ⟨_, b1, u, rfl, hu, hul, _⟩, _, _, rfl, ⟨_, _, an, al, rfl⟩, _, _, rfl, ⟨_, _, key, rfl, _⟩, _, _, rfl, ⟨_, b2, s, rfl, hs, hsl⟩, _, _, rfl, ⟨_, b3, c, rfl, hc, hcl⟩, rfl⟩
 exact ⟨⟨k, at_, ask, u, an, al, key, s, c⟩, rfl, ⟨hu, hs, hc⟩, lens_le hul b1, lens_le hsl b2, lens_le hcl b3⟩
theorem read_logs {v : Value} {d : DataW H} {p : List MemPlace} (hv : ∃ A len cap, v = .slice A len cap) (h : DataW.Trod enc Tryz.prog w 0 (fun _ => true) true 84 v d p) (hb : Rows.uptoBulk d ≤ 1048576) :
   ∃ l, Sl SLog.enc 22 w w.heap.size v l ∧ l.length + 1 ≤ Rows.uptoBulk d ∧ LogsRd w l ∧ SmallL l := by
 obtain ⟨v', l, hc, hs, hl, hf⟩ := Rdr.top (Rdr.slice (k := 22) underlying84 (by kernel_rfl) rfl SLog.enc_len rdLog) h
 obtain ⟨A, n, c, rfl⟩ := hv
 simp only [Value.cells, List.cons.injEq, and_true] at hc
 subst hc
 refine ⟨l, hs, hl, fun x hx => ?_, fun x hx => ?_⟩
 · obtain ⟨b', h1, h2, _⟩ := hf x hx
   exact h2
 · obtain ⟨b', h1, h2, h3, h4, h5⟩ := hf x hx
   exact ⟨lens_le h3 (by omega), lens_le h4 (by omega), lens_le h5 (by omega)⟩
end
end Go.Proofs.YtakpdbmdfnialaaGreat
namespace Go.Fw
open Go.RowKit
def encS' (x : List UInt8) : List Value := [.string (bs x)]
theorem encS'_len (x : List UInt8) : (encS' x).length = 1 := rfl
theorem encS'_one (x : List UInt8) : ∀ u ∈ encS' x, u.oneCell' = true := fun u hu => by simp [encS'] at hu; subst hu; rfl
end Go.Fw
namespace Go.Proofs.YtakpdbmdfnialaaGreat
open Go.Fw Go.Proofs Go.RowKit Go.ChangeShapes Go.WideShapes Go.ChangeAt Go.Deep Go.Joins Go.Proofs.Tryz
section
variable {H : Type} {enc : TypeId × Value → H} {w : World}
theorem rdText : Rdr enc Tryz.prog w 9 fun cs b => ∃ x : List UInt8, cs = encS' x ∧ x.length + 1 ≤ b := (Rdr.str underlying9).mono fun cs b ⟨s, e, h⟩ => ⟨s, e, h⟩
theorem read_texts {v : Value} {d : DataW H} {p : List MemPlace} (hv : ∃ A len cap, v = .slice A len cap) (h : DataW.Trod enc Tryz.prog w 0 (fun _ => true) true 85 v d p) (hb : Rows.uptoBulk d ≤ 1048576) :
   ∃ l, Sl encS' 1 w w.heap.size v l ∧ l.length + 1 ≤ Rows.uptoBulk d ∧ ∀ x ∈ l, x.length ≤ 1048576 := by
 obtain ⟨v', l, hc, hs, hl, hf⟩ := Rdr.top (Rdr.slice (k := 1) underlying85 (by kernel_rfl) rfl (fun _ => rfl) rdText) h
 obtain ⟨A, n, c, rfl⟩ := hv
 simp only [Value.cells, List.cons.injEq, and_true] at hc
 subst hc
 exact ⟨l, hs, hl, fun x hx => by obtain ⟨b', h1, h2⟩ := hf x hx; omega⟩
end
end Go.Proofs.YtakpdbmdfnialaaGreat
namespace Go.Fw
open Go.RowKit
theorem coversR_nf {C : Ctx} (hC : Nf C) (d : Dot) : C.coversR d = C.covers d := by
 unfold Ctx.coversR Ctx.covers
 by_cases h : 1 ≤ d.count
 · rw [decide_eq_true h]; simp
 · rw [decide_eq_false h]
   have : d ∉ C.cloud := fun hd => by
     have := Wf (hC.mayC d hd)
     omega
   simp [this]
theorem CartOk.coversR {c : Cart} (h : CartOk c) (d : Dot) : c.ctx.coversR d = c.ctx.covers d := coversR_nf (can_nf h.ctx) d
theorem cells_part {w : World} {g b m n : Nat} {cs vs : List Value} (h : ∀ j u, cs[j]? = some u → w.cell? ⟨g, b + j, none⟩ = some u) (e : (cs.drop m).take n = vs) : ∀ j u, vs[j]? = some u → w.cell? ⟨g, b + m + j, none⟩ = some u := fun j u hj => by
 rw [Nat.add_assoc]
 refine h _ u ?_
 rw [← e, List.getElem?_take] at hj
 split at hj
 · rwa [List.getElem?_drop] at hj
 · cases hj
def ackedB (n : Int) (x : SLog) : Bool := decide (x.kind = 2) && decide (x.ask = n)
def ackedK (l : List SLog) (n : Int) : Bool := l.any (ackedB n)
theorem any_take {α : Type} {p : α → Bool} {l : List α} {i : Nat} {x : α} (h : l[i]? = some x) (hn : (l.take i).any p = false) (hx : p x = false) : (l.take (i + 1)).any p = false := by
 rw [List.take_add_one, h, Option.toList_some, List.any_append, hn, List.any_cons, List.any_nil, hx]
 rfl
theorem any_hit {α : Type} {p : α → Bool} {l : List α} {i : Nat} {x : α} (h : l[i]? = some x) (hx : p x = true) : l.any p = true := List.any_eq_true.2 ⟨x, List.mem_of_getElem? h, hx⟩
structure SameL (x y : SLog) : Prop where
 kind : x.kind = y.kind
 at_ : x.at_ = y.at_
 ask : x.ask = y.ask
 u : x.u.1 = y.u.1
 an : x.an = y.an
 al : x.al = y.al
 key : x.key = y.key
 s : x.s.1 = y.s.1
 c : x.c.1 = y.c.1
theorem SameL.of {x y : SLog} (h : x.nul = y.nul) : SameL x y := by
 unfold SLog.nul SLog.at3 at h
 simp only [SLog.mk.injEq, Prod.mk.injEq] at h
 exact ⟨h.1, h.2.1, h.2.2.1, h.2.2.2.1.1, h.2.2.2.2.1, h.2.2.2.2.2.1, h.2.2.2.2.2.2.1, h.2.2.2.2.2.2.2.1.1, h.2.2.2.2.2.2.2.2.1⟩
theorem like_at {s l : List SLog} (h : s.map SLog.nul = l.map SLog.nul) {i : Nat} {x y : SLog} (hx : s[i]? = some x) (hy : l[i]? = some y) : SameL x y := by
 have h1 := congrArg (fun l => l[i]?) h
 simp only [List.getElem?_map, hx, hy, Option.map_some, Option.some.injEq] at h1
 exact .of h1
end Go.Fw
namespace Go.Proofs.YtakpdbmdfnialaaGreat
open Go.Fw Go.Proofs Go.RowKit Go.Proofs.Tryz
theorem c120 (w0 : World) (v : Value) (l : List SLog) (n : Int) (h : Sl SLog.enc 22 w0 w0.heap.size v l) :
   Calls Tryz.prog 120 #[v, .int .i64 n] w0 fun e w' => e = .returned (.bool (ackedK l n)) ∧ Bel w0.heap.size w0 w' := by
 obtain ⟨A, cap, rfl, hl, hcap, hA⟩ := h
 refine enter2 func120 rfl ntmps120 rfl fun a S => sg S (.ac rfl <| .z) fun a w S => wp_seq_k fun _ hK1 => sg S (.ac rfl <| .z) fun a w S => wp_block ?_
 refine Xe S [5] (X := Nat) (fun k => [(5, true, .int .i64 (k : Int))]) (fun _ => []) (fun k => k ≤ l.length ∧ (l.take k).any (ackedB n) = false) (fun k => l.length - k) 0 ⟨Nat.zero_le _, rfl⟩ ?_
 clear S
 intro k a w ⟨hk, hno⟩ S
 by_cases hlt : k < l.length
 · obtain ⟨gq, oq, x, rfl, hx, hd, hcc⟩ := Yk hA hlt
   by_cases h1 : x.kind = 2
   · have rw_1 := decide_eq_true h1
     by_cases h2 : x.ask = n
     · have rw_2 := decide_eq_true h2
       have hh : ackedB n x = true := by unfold ackedB; rw [rw_1, rw_2]; rfl
       refine wp_seq_k fun _ hK2 => sg S (.mv rfl <| .mv rfl <| .ln underlying84 rfl <| .lt (by omega) rfl rfl <| .z) fun a w S => Zg S (.t rfl) (wp_skip (Za (hK2 _ _ (wp_seq_k fun _ hK2 => wp_block (sg S (.mv rfl <| .mv rfl <| .ix underlying84 sizeOf96 (by omega) rfl rfl <| .yy (Yc (FieldT.mk underlying96 rfl sizeOf3 rfl) (.t rfl)) rfl <| .yy (Yn ⟨isAgg3, sizeOf3⟩ (.t rfl) (fun _ => hcc _ _ rfl)) rfl <| .yy (Yu (by omega) (Yd (.t rfl) Ev.c)) rfl <| .mv rfl <| .gy rfl rfl (Zd (.t rfl)) <| .gy rfl rfl (Zd (.t rfl)) <| .gy rfl rfl (Yf underlying84 sizeOf96 (.t rfl) (.t rfl) (fun _ => by omega)) <| .gy rfl rfl (Yc (FieldT.mk underlying96 rfl sizeOf3 rfl) (.t rfl)) <| .gy rfl rfl (Yn ⟨isAgg3, sizeOf3⟩ (.t rfl) (fun _ => hcc _ _ rfl)) <| .gy rfl rfl (Zd (.t rfl)) <| .gy rfl rfl (Yu (by omega) (Yd (.t rfl) (.t rfl))) <| .yy (Zt (.t rfl) (.t rfl)) rfl <| .z) fun a w S => Zg S (.t rfl) (sg S (.ac rfl <| .z) fun a w S => wp_ret (Zr (Ze (Ze (Zr (Ze (Zj S (results1 S results120 (Rv.tmp rfl)) ?_))))))))))))
       exact ⟨by unfold ackedK; rw [any_hit hx hh], S.wd.below⟩
     · have rw_2 := decide_eq_false h2
       have hh : ackedB n x = false := by unfold ackedB; rw [rw_1, rw_2]; rfl
       refine wp_seq_k fun _ hK2 => sg S (.mv rfl <| .mv rfl <| .ln underlying84 rfl <| .lt (by omega) rfl rfl <| .z) fun a w S => Zg S (.t rfl) (wp_skip (Za (hK2 _ _ (wp_seq_k fun _ hK2 => wp_block (sg S (.mv rfl <| .mv rfl <| .ix underlying84 sizeOf96 (by omega) rfl rfl <| .yy (Yc (FieldT.mk underlying96 rfl sizeOf3 rfl) (.t rfl)) rfl <| .yy (Yn ⟨isAgg3, sizeOf3⟩ (.t rfl) (fun _ => hcc _ _ rfl)) rfl <| .yy (Yu (by omega) (Yd (.t rfl) Ev.c)) rfl <| .mv rfl <| .gy rfl rfl (Zd (.t rfl)) <| .gy rfl rfl (Zd (.t rfl)) <| .gy rfl rfl (Yf underlying84 sizeOf96 (.t rfl) (.t rfl) (fun _ => by omega)) <| .gy rfl rfl (Yc (FieldT.mk underlying96 rfl sizeOf3 rfl) (.t rfl)) <| .gy rfl rfl (Yn ⟨isAgg3, sizeOf3⟩ (.t rfl) (fun _ => hcc _ _ rfl)) <| .gy rfl rfl (Zd (.t rfl)) <| .gy rfl rfl (Ym (by omega) (Yd (.t rfl) (.t rfl))) <| .yy (Zt (.t rfl) (.t rfl)) rfl <| .z) fun a w S => Zf S (.t rfl) (wp_skip (Zm (Za (hK2 _ _ (wp_region_lit (run S (.mv rfl <| .ad (by unfold I64; omega) rfl <| .as rfl <| .z) fun a w S => Zb (Za ?_))))))))))))
       exact ⟨k + 1, ⟨by omega, any_take hx hno hh⟩, by omega, S.pk⟩
   · have rw_1 := decide_eq_false h1
     have hh : ackedB n x = false := by unfold ackedB; rw [rw_1]; rfl
     refine wp_seq_k fun _ hK2 => sg S (.mv rfl <| .mv rfl <| .ln underlying84 rfl <| .lt (by omega) rfl rfl <| .z) fun a w S => Zg S (.t rfl) (wp_skip (Za (hK2 _ _ (wp_seq_k fun _ hK2 => wp_block (sg S (.mv rfl <| .mv rfl <| .ix underlying84 sizeOf96 (by omega) rfl rfl <| .yy (Yc (FieldT.mk underlying96 rfl sizeOf3 rfl) (.t rfl)) rfl <| .yy (Yn ⟨isAgg3, sizeOf3⟩ (.t rfl) (fun _ => hcc _ _ rfl)) rfl <| .yy (Ym (by omega) (Yd (.t rfl) Ev.c)) rfl <| .mv rfl <| .sk rfl rfl rfl <| .sk rfl rfl rfl <| .sk rfl rfl rfl <| .sk rfl rfl rfl <| .sk rfl rfl rfl <| .sk rfl rfl rfl <| .sk rfl rfl rfl <| .yy (Zq (.t rfl) Ev.c) rfl <| .z) fun a w S => Zf S (.t rfl) (wp_skip (Zm (Za (hK2 _ _ (wp_region_lit (run S (.mv rfl <| .ad (by unfold I64; omega) rfl <| .as rfl <| .z) fun a w S => Zb (Za ?_))))))))))))
     exact ⟨k + 1, ⟨by omega, any_take hx hno hh⟩, by omega, S.pk⟩
 obtain rfl : k = l.length := by omega
 rw [List.take_length] at hno
 refine wp_seq_k fun _ hK2 => sg S (.mv rfl <| .mv rfl <| .ln underlying84 rfl <| .ge (by omega) rfl rfl <| .z) fun a w S => Zf S (.t rfl) (wp_exit (Zi (Zi (Zy (Za (hK1 _ _ (sg S (.ac rfl <| .z) fun a w S => wp_ret (Zj S (results1 S results120 (Rv.tmp rfl)) ?_))))))))
 exact ⟨by unfold ackedK; rw [hno], S.wd.below⟩
theorem c121 (w0 : World) (v : Value) (l : List SLog) (x y z : Int) (h : Sl SLog.enc 22 w0 w0.heap.size v l) (hl : LogsRd w0 l) (hok : ∀ p ∈ l, CartOk p.c.1) :
   Calls Tryz.prog 121 #[v, .agg #[.int .i64 x, .int .i64 y, .int .i64 z]] w0 fun e w' => e = .returned (.bool (forgotK l ⟨x, y, z⟩)) ∧ Bel w0.heap.size w0 w' := by
 obtain ⟨A, cap, rfl, hl0, hcap, hA⟩ := h
 refine enter2 func121 rfl ntmps121 rfl fun a S => wp_seq_k fun _ hK1 => wp_region_lit (Zk (Ya S (.t rfl) rfl fun g1 a w S => run S (.ac rfl <| .z) fun a w S => Zb (Za (hK1 _ _ (wp_seq_k fun _ hK1 => sg S (.ac rfl <| .z) fun a w S => wp_block ?_)))))
 refine Xe S [5] (X := Nat) (fun k => [(5, true, .int .i64 (k : Int))]) (fun _ => [.blk g1 (.cells (Dot.enc ⟨x, y, z⟩).toArray 74)]) (fun k => k ≤ l.length ∧ (l.take k).any (forgotB ⟨x, y, z⟩) = false) (fun k => l.length - k) 0 ⟨Nat.zero_le _, rfl⟩ ?_
 clear S
 intro k a w ⟨hk, hno⟩ S
 by_cases hlt : k < l.length
 · obtain ⟨gq, oq, p, rfl, hx, hd, hcc⟩ := Yk hA hlt
   have hpr := (hl p (List.mem_of_getElem? hx)).c.ctx
   have rw_R := (hok p (List.mem_of_getElem? hx)).coversR ⟨x, y, z⟩
   have hact := cells_part (m := 13) (n := 2) (vs := [.int .i64 p.an, .int .i64 p.al]) hcc rfl
   have hctx := cells_part (m := 20) (n := 2) (vs := [.slice p.c.2.a2 p.c.2.n2 p.c.2.c2, .slice p.c.2.a3 p.c.2.n3 p.c.2.c3]) hcc rfl
   by_cases h1 : p.an = x
   · have rw_1 := decide_eq_true h1
     by_cases h2 : p.al = y
     · have rw_2 := decide_eq_true h2
       have hh : forgotB ⟨x, y, z⟩ p = p.c.1.ctx.covers ⟨x, y, z⟩ := by unfold forgotB; rw [decide_eq_true (⟨h1, h2⟩ : p.an = x ∧ p.al = y)]; rfl
       cases hcv : p.c.1.ctx.covers ⟨x, y, z⟩ with
       | true =>
         have rw_c := hcv
         rw [hcv] at hh
         refine wp_seq_k fun _ hK2 => sg S (.mv rfl <| .mv rfl <| .ln underlying84 rfl <| .lt (by omega) rfl rfl <| .z) fun a w S => Zg S (.t rfl) (wp_skip (Za (hK2 _ _ (wp_seq_k fun _ hK2 => wp_block (wp_seq_k fun _ hK3 => wp_region_lit (run S (.mv rfl <| .mv rfl <| .ix underlying84 sizeOf96 (by omega) rfl rfl <| .yy (Yc (FieldT.mk underlying96 rfl sizeOf66 rfl) (.t rfl)) rfl <| .yy (Zp ⟨isAgg66, sizeOf66⟩ (.t rfl) (vs := [_, _]) rfl (fun _ => hact)) rfl <| .z) fun a w S => Zk (Zn S zeroValue66 (cs := _) rfl rfl fun g2 a w S => Zk (Zv S sizeOf66 (.t rfl) (.t rfl) (k := 0) rfl rfl rfl (by simp [Value.oneCell']) fun a w S => Zb (Za (hK3 _ _ (wp_seq_k fun _ hK3 => Zw S (by kernel_rfl) (by kernel_rfl) fun a S => ?_)))))))))))
         refine qrun S (.fa underlying66 sizeOf3 0 rfl rfl rfl <| .ld gt3 0 rfl rfl rfl <| .fa underlying74 sizeOf3 0 rfl rfl rfl <| .ld gt3 1 rfl rfl rfl <| .yy (Yu (by omega) (Yd (.t rfl) (.t rfl))) rfl <| .mv rfl <| .gy rfl rfl (Zc (FieldT.mk underlying66 rfl sizeOf3 rfl) (.t rfl) (i' := 1) rfl) <| .gy rfl rfl (Zu ⟨isAgg3, sizeOf3⟩ (.t rfl) (k := 0) rfl rfl) <| .gy rfl rfl (Zc (FieldT.mk underlying74 rfl sizeOf3 rfl) (.t rfl) (i' := 1) rfl) <| .gy rfl rfl (Zu ⟨isAgg3, sizeOf3⟩ (.t rfl) (k := 1) rfl rfl) <| .gy rfl rfl (Yu (by omega) (Yd (.t rfl) (.t rfl))) <| .yy (Zt (.t rfl) (.t rfl)) rfl <| .mv rfl <| .gy rfl rfl (Zd (.t rfl)) <| .gy rfl rfl (Zd (.t rfl)) <| .gy rfl rfl (Yf underlying84 sizeOf96 (.t rfl) (.t rfl) (fun _ => by omega)) <| .gy rfl rfl (Yc (FieldT.mk underlying96 rfl sizeOf37 rfl) (.t rfl)) <| .gy rfl rfl (Yc (FieldT.mk underlying37 rfl sizeOf35 rfl) (.t rfl)) <| .gy rfl rfl (Zp ⟨isAgg35, sizeOf35⟩ (.t rfl) (vs := [_, _]) rfl (fun _ => hctx)) <| .gy rfl rfl (Ye ⟨isAgg74, sizeOf74⟩ (.t rfl) (k := 1) rfl rfl) <| .gx rfl rfl (Zh call77 (.cons (.t rfl) (.cons (.t rfl) .nil)) (fun hp w W => c77 _ _ _ _ _ _ _ (by exact .old W (by assumption)))) <| .z) fun a S => ?_
         simp only [List.nil_append] at S
         rw [rw_R] at S
         rw [rw_c] at S
         refine qrun S (.yy (Zt (.t rfl) (.t rfl)) rfl <| .z) fun a S => ?_
         (refine Yv ?_; intro w W; replace S := St.mk S W; clear W)
         refine Za (hK3 _ _ (Zg S (.t rfl) (sg S (.ac rfl <| .z) fun a w S => wp_ret (Zr (Ze (Ze (Zr (Ze (Zj S (results1 S results121 (Rv.tmp rfl)) ?_)))))))))
         exact ⟨by unfold forgotK; rw [any_hit hx hh], S.wd.below⟩
       | false =>
         have rw_c := hcv
         rw [hcv] at hh
         refine wp_seq_k fun _ hK2 => sg S (.mv rfl <| .mv rfl <| .ln underlying84 rfl <| .lt (by omega) rfl rfl <| .z) fun a w S => Zg S (.t rfl) (wp_skip (Za (hK2 _ _ (wp_seq_k fun _ hK2 => wp_block (wp_seq_k fun _ hK3 => wp_region_lit (run S (.mv rfl <| .mv rfl <| .ix underlying84 sizeOf96 (by omega) rfl rfl <| .yy (Yc (FieldT.mk underlying96 rfl sizeOf66 rfl) (.t rfl)) rfl <| .yy (Zp ⟨isAgg66, sizeOf66⟩ (.t rfl) (vs := [_, _]) rfl (fun _ => hact)) rfl <| .z) fun a w S => Zk (Zn S zeroValue66 (cs := _) rfl rfl fun g2 a w S => Zk (Zv S sizeOf66 (.t rfl) (.t rfl) (k := 0) rfl rfl rfl (by simp [Value.oneCell']) fun a w S => Zb (Za (hK3 _ _ (wp_seq_k fun _ hK3 => Zw S (by kernel_rfl) (by kernel_rfl) fun a S => ?_)))))))))))
         refine qrun S (.fa underlying66 sizeOf3 0 rfl rfl rfl <| .ld gt3 0 rfl rfl rfl <| .fa underlying74 sizeOf3 0 rfl rfl rfl <| .ld gt3 1 rfl rfl rfl <| .yy (Yu (by omega) (Yd (.t rfl) (.t rfl))) rfl <| .mv rfl <| .gy rfl rfl (Zc (FieldT.mk underlying66 rfl sizeOf3 rfl) (.t rfl) (i' := 1) rfl) <| .gy rfl rfl (Zu ⟨isAgg3, sizeOf3⟩ (.t rfl) (k := 0) rfl rfl) <| .gy rfl rfl (Zc (FieldT.mk underlying74 rfl sizeOf3 rfl) (.t rfl) (i' := 1) rfl) <| .gy rfl rfl (Zu ⟨isAgg3, sizeOf3⟩ (.t rfl) (k := 1) rfl rfl) <| .gy rfl rfl (Yu (by omega) (Yd (.t rfl) (.t rfl))) <| .yy (Zt (.t rfl) (.t rfl)) rfl <| .mv rfl <| .gy rfl rfl (Zd (.t rfl)) <| .gy rfl rfl (Zd (.t rfl)) <| .gy rfl rfl (Yf underlying84 sizeOf96 (.t rfl) (.t rfl) (fun _ => by omega)) <| .gy rfl rfl (Yc (FieldT.mk underlying96 rfl sizeOf37 rfl) (.t rfl)) <| .gy rfl rfl (Yc (FieldT.mk underlying37 rfl sizeOf35 rfl) (.t rfl)) <| .gy rfl rfl (Zp ⟨isAgg35, sizeOf35⟩ (.t rfl) (vs := [_, _]) rfl (fun _ => hctx)) <| .gy rfl rfl (Ye ⟨isAgg74, sizeOf74⟩ (.t rfl) (k := 1) rfl rfl) <| .gx rfl rfl (Zh call77 (.cons (.t rfl) (.cons (.t rfl) .nil)) (fun hp w W => c77 _ _ _ _ _ _ _ (by exact .old W (by assumption)))) <| .z) fun a S => ?_
         simp only [List.nil_append] at S
         rw [rw_R] at S
         rw [rw_c] at S
         refine qrun S (.yy (Zt (.t rfl) (.t rfl)) rfl <| .z) fun a S => ?_
         (refine Yv ?_; intro w W; replace S := St.mk S W; clear W)
         refine Za (hK3 _ _ (Zf S (.t rfl) (wp_skip (Zm (Za (hK2 _ _ (wp_region_lit (run S (.mv rfl <| .ad (by unfold I64; omega) rfl <| .as rfl <| .z) fun a w S => Zb (Za ?_)))))))))
         exact ⟨k + 1, ⟨by omega, any_take hx hno hh⟩, by omega, S.pk⟩
     · have rw_2 := decide_eq_false h2
       have hh : forgotB ⟨x, y, z⟩ p = false := by unfold forgotB; rw [decide_eq_false (fun e => h2 e.2 : ¬ (p.an = x ∧ p.al = y))]; rfl
       refine wp_seq_k fun _ hK2 => sg S (.mv rfl <| .mv rfl <| .ln underlying84 rfl <| .lt (by omega) rfl rfl <| .z) fun a w S => Zg S (.t rfl) (wp_skip (Za (hK2 _ _ (wp_seq_k fun _ hK2 => wp_block (wp_seq_k fun _ hK3 => wp_region_lit (run S (.mv rfl <| .mv rfl <| .ix underlying84 sizeOf96 (by omega) rfl rfl <| .yy (Yc (FieldT.mk underlying96 rfl sizeOf66 rfl) (.t rfl)) rfl <| .yy (Zp ⟨isAgg66, sizeOf66⟩ (.t rfl) (vs := [_, _]) rfl (fun _ => hact)) rfl <| .z) fun a w S => Zk (Zn S zeroValue66 (cs := _) rfl rfl fun g2 a w S => Zk (Zv S sizeOf66 (.t rfl) (.t rfl) (k := 0) rfl rfl rfl (by simp [Value.oneCell']) fun a w S => Zb (Za (hK3 _ _ (wp_seq_k fun _ hK3 => Zw S (by kernel_rfl) (by kernel_rfl) fun a S => ?_)))))))))))
       refine qrun S (.fa underlying66 sizeOf3 0 rfl rfl rfl <| .ld gt3 0 rfl rfl rfl <| .fa underlying74 sizeOf3 0 rfl rfl rfl <| .ld gt3 1 rfl rfl rfl <| .yy (Yu (by omega) (Yd (.t rfl) (.t rfl))) rfl <| .mv rfl <| .gy rfl rfl (Zc (FieldT.mk underlying66 rfl sizeOf3 rfl) (.t rfl) (i' := 1) rfl) <| .gy rfl rfl (Zu ⟨isAgg3, sizeOf3⟩ (.t rfl) (k := 0) rfl rfl) <| .gy rfl rfl (Zc (FieldT.mk underlying74 rfl sizeOf3 rfl) (.t rfl) (i' := 1) rfl) <| .gy rfl rfl (Zu ⟨isAgg3, sizeOf3⟩ (.t rfl) (k := 1) rfl rfl) <| .gy rfl rfl (Ym (by omega) (Yd (.t rfl) (.t rfl))) <| .yy (Zt (.t rfl) (.t rfl)) rfl <| .mv rfl <| .sk rfl rfl rfl <| .sk rfl rfl rfl <| .sk rfl rfl rfl <| .sk rfl rfl rfl <| .sk rfl rfl rfl <| .sk rfl rfl rfl <| .sk rfl rfl rfl <| .sk rfl rfl rfl <| .yy (Zq (.t rfl) Ev.c) rfl <| .z) fun a S => ?_
       (refine Yv ?_; intro w W; replace S := St.mk S W; clear W)
       refine Za (hK3 _ _ (Zf S (.t rfl) (wp_skip (Zm (Za (hK2 _ _ (wp_region_lit (run S (.mv rfl <| .ad (by unfold I64; omega) rfl <| .as rfl <| .z) fun a w S => Zb (Za ?_)))))))))
       exact ⟨k + 1, ⟨by omega, any_take hx hno hh⟩, by omega, S.pk⟩
   · have rw_1 := decide_eq_false h1
     have hh : forgotB ⟨x, y, z⟩ p = false := by unfold forgotB; rw [decide_eq_false (fun e => h1 e.1 : ¬ (p.an = x ∧ p.al = y))]; rfl
     refine wp_seq_k fun _ hK2 => sg S (.mv rfl <| .mv rfl <| .ln underlying84 rfl <| .lt (by omega) rfl rfl <| .z) fun a w S => Zg S (.t rfl) (wp_skip (Za (hK2 _ _ (wp_seq_k fun _ hK2 => wp_block (wp_seq_k fun _ hK3 => wp_region_lit (run S (.mv rfl <| .mv rfl <| .ix underlying84 sizeOf96 (by omega) rfl rfl <| .yy (Yc (FieldT.mk underlying96 rfl sizeOf66 rfl) (.t rfl)) rfl <| .yy (Zp ⟨isAgg66, sizeOf66⟩ (.t rfl) (vs := [_, _]) rfl (fun _ => hact)) rfl <| .z) fun a w S => Zk (Zn S zeroValue66 (cs := _) rfl rfl fun g2 a w S => Zk (Zv S sizeOf66 (.t rfl) (.t rfl) (k := 0) rfl rfl rfl (by simp [Value.oneCell']) fun a w S => Zb (Za (hK3 _ _ (wp_seq_k fun _ hK3 => Zw S (by kernel_rfl) (by kernel_rfl) fun a S => qrun S (.fa underlying66 sizeOf3 0 rfl rfl rfl <| .ld gt3 0 rfl rfl rfl <| .fa underlying74 sizeOf3 0 rfl rfl rfl <| .ld gt3 1 rfl rfl rfl <| .yy (Ym (by omega) (Yd (.t rfl) (.t rfl))) rfl <| .mv rfl <| .sk rfl rfl rfl <| .sk rfl rfl rfl <| .sk rfl rfl rfl <| .sk rfl rfl rfl <| .sk rfl rfl rfl <| .yy (Zq (.t rfl) Ev.c) rfl <| .mv rfl <| .sk rfl rfl rfl <| .sk rfl rfl rfl <| .sk rfl rfl rfl <| .sk rfl rfl rfl <| .sk rfl rfl rfl <| .sk rfl rfl rfl <| .sk rfl rfl rfl <| .sk rfl rfl rfl <| .yy (Zq (.t rfl) Ev.c) rfl <| .z) fun a S => ?_)))))))))))
     (refine Yv ?_; intro w W; replace S := St.mk S W; clear W)
     refine Za (hK3 _ _ (Zf S (.t rfl) (wp_skip (Zm (Za (hK2 _ _ (wp_region_lit (run S (.mv rfl <| .ad (by unfold I64; omega) rfl <| .as rfl <| .z) fun a w S => Zb (Za ?_)))))))))
     exact ⟨k + 1, ⟨by omega, any_take hx hno hh⟩, by omega, S.pk⟩
 obtain rfl : k = l.length := by omega
 rw [List.take_length] at hno
 refine wp_seq_k fun _ hK2 => sg S (.mv rfl <| .mv rfl <| .ln underlying84 rfl <| .ge (by omega) rfl rfl <| .z) fun a w S => Zf S (.t rfl) (wp_exit (Zi (Zi (Zy (Za (hK1 _ _ (sg S (.ac rfl <| .z) fun a w S => wp_ret (Zj S (results1 S results121 (Rv.tmp rfl)) ?_))))))))
 exact ⟨by unfold forgotK; rw [hno], S.wd.below⟩
theorem c122 (w0 : World) (v : Value) (l : List SLog) (m : Nat) (key : List UInt8) (h : Sl SLog.enc 22 w0 w0.heap.size v l) (hn : l.length ≤ 1048576) (hm : m ≤ l.length) :
   Rets Tryz.prog 122 #[v, .int .i64 (m : Int), .string (bs key)] w0 fun u L => ∃ A r, u = .slice A (goneK (l.take m) key).length r ∧ L = [rowOf 96 22 SLog.enc A r (goneK (l.take m) key)] := by
 obtain ⟨A, cap, rfl, hl, hcap, hA⟩ := h
 unfold Go.Fw.Rets
 refine enter3 func122 rfl ntmps122 rfl fun a S => sg S (.ac rfl <| .z) fun a w S => sg S (.ac rfl <| .z) fun a w S => wp_seq_k fun _ hK1 => sg S (.ac rfl <| .z) fun a w S => wp_block ?_
 replace S := S.nil_ 96 22 SLog.enc none
 refine Xe S [7, 8] (X := Nat × Option Addr × Nat) (fun q => [(7, true, .slice q.2.1 (goneK (l.take q.1) key).length q.2.2), (8, true, .int .i64 (q.1 : Int))]) (fun q => [rowOf 96 22 SLog.enc q.2.1 q.2.2 (goneK (l.take q.1) key)]) (fun q => q.1 ≤ m) (fun q => m - q.1) (0, none, 0) (Nat.zero_le _) ?_
 clear S
 rintro ⟨i, B, cB⟩ a w hi S
 dsimp only at hi S
 have hgl := gone_len (l.take i) key
 rw [List.length_take] at hgl
 by_cases hlt : i < m
 · obtain ⟨gq, oq, x, rfl, hx, hd, hc⟩ := Yk hA (show i < l.length by omega)
   have hst := gone_snoc (key := key) hx
   generalize goneK (l.take i) key = G at *
   by_cases hk : x.kind = 5
   · have rw_k := decide_eq_true hk
     by_cases hy : x.key = key
     · have rw_y := decide_eq_true hy
       have rw_l := log_enc x
       rw [show isGone key x = true by unfold isGone; rw [rw_k, rw_y]; rfl, if_pos rfl] at hst
       refine wp_seq_k fun _ hK2 => sg S (.mv rfl <| .mv rfl <| .lt (by omega) rfl rfl <| .z) fun a w S => Zg S (.t rfl) (wp_skip (Za (hK2 _ _ (wp_seq_k fun _ hK2 => wp_block (wp_seq_k fun _ hK3 => wp_region_lit (run S (.mv rfl <| .mv rfl <| .ix underlying84 sizeOf96 (by omega) rfl rfl <| .yy (Yc (FieldT.mk underlying96 rfl sizeOf3 rfl) (.t rfl)) rfl <| .yy (Yn ⟨isAgg3, sizeOf3⟩ (.t rfl) (fun _ => hc _ _ rfl)) rfl <| .yy (Yu (by omega) (Yd (.t rfl) Ev.c)) rfl <| .mv rfl <| .gy rfl rfl (Zd (.t rfl)) <| .gy rfl rfl (Zd (.t rfl)) <| .gy rfl rfl (Yf underlying84 sizeOf96 (.t rfl) (.t rfl) (fun _ => by omega)) <| .gy rfl rfl (Yc (FieldT.mk underlying96 rfl sizeOf9 rfl) (.t rfl)) <| .gy rfl rfl (Yn ⟨isAgg9, sizeOf9⟩ (.t rfl) (fun _ => hc _ _ rfl)) <| .gy rfl rfl (Zd (.t rfl)) <| .gy rfl rfl (Xi (.t rfl) (.t rfl)) <| .z) fun a w S => ?_))))))
       rw [rw_y] at S
       refine run S (.yy (Zt (.t rfl) (.t rfl)) rfl <| .z) fun a w S => Zb (Za (hK3 _ _ (Zg S (.t rfl) (wp_region_lit (run S (.mv rfl <| .mv rfl <| .mv rfl <| .ix underlying84 sizeOf96 (by omega) rfl rfl <| .yy (Zp ⟨isAgg96, sizeOf96⟩ (.t rfl) (vs := [_, _, _, _, _, _, _, _, _, _, _, _, _, _, _, _, _, _, _, _, _, _]) rfl (fun _ => hc)) rfl <| .z) fun a w S => ?_)))))
       rw [rw_l] at S
       refine Zk (Yp S underlying84 inf96 rfl rfl rfl (.t rfl) rfl rfl rfl fun g1 a w S => ?_)
       rw [rw_l] at S
       refine Zk (Xp S underlying84 inf96 rfl (k := 1) (j := 0) rfl (.t rfl) (.t rfl) rfl rfl rfl rfl (by first | omega | (simp only [List.length_append, List.length_cons, List.length_nil]; omega)) rfl rfl rfl fun A1 cap1 a w S => ?_)
       rw [rw_l] at S
       refine run S (.as rfl <| .z) fun a w S => ?_
       rw [rw_l] at S
       refine Zb ?_
       rw [rw_l] at S
       refine Zm (Za (hK2 _ _ ?_))
       rw [rw_l] at S
       refine wp_region_lit ?_
       rw [rw_l] at S
       refine run S (.mv rfl <| .z) fun a w S => ?_
       rw [rw_l] at S
       refine run S (.ad (by unfold I64; omega) rfl <| .z) fun a w S => ?_
       rw [rw_l] at S
       refine run S (.as rfl <| .z) fun a w S => ?_
       rw [rw_l] at S
       refine Zb ?_
       rw [rw_l] at S
       refine Za ?_
       rw [rw_l] at S
       exact ⟨(i + 1, A1, cap1), by dsimp only; omega, by dsimp only; omega, by dsimp only; rw [hst]; exact S.pk⟩
     · have rw_y := decide_eq_false hy
       rw [show isGone key x = false by unfold isGone; rw [rw_k, rw_y]; rfl, if_neg (by decide), List.append_nil] at hst
       refine wp_seq_k fun _ hK2 => sg S (.mv rfl <| .mv rfl <| .lt (by omega) rfl rfl <| .z) fun a w S => Zg S (.t rfl) (wp_skip (Za (hK2 _ _ (wp_seq_k fun _ hK2 => wp_block (wp_seq_k fun _ hK3 => wp_region_lit (run S (.mv rfl <| .mv rfl <| .ix underlying84 sizeOf96 (by omega) rfl rfl <| .yy (Yc (FieldT.mk underlying96 rfl sizeOf3 rfl) (.t rfl)) rfl <| .yy (Yn ⟨isAgg3, sizeOf3⟩ (.t rfl) (fun _ => hc _ _ rfl)) rfl <| .yy (Yu (by omega) (Yd (.t rfl) Ev.c)) rfl <| .mv rfl <| .gy rfl rfl (Zd (.t rfl)) <| .gy rfl rfl (Zd (.t rfl)) <| .gy rfl rfl (Yf underlying84 sizeOf96 (.t rfl) (.t rfl) (fun _ => by omega)) <| .gy rfl rfl (Yc (FieldT.mk underlying96 rfl sizeOf9 rfl) (.t rfl)) <| .gy rfl rfl (Yn ⟨isAgg9, sizeOf9⟩ (.t rfl) (fun _ => hc _ _ rfl)) <| .gy rfl rfl (Zd (.t rfl)) <| .gy rfl rfl (Xi (.t rfl) (.t rfl)) <| .z) fun a w S => ?_))))))
       rw [rw_y] at S
       refine run S (.yy (Zt (.t rfl) (.t rfl)) rfl <| .z) fun a w S => Zb (Za (hK3 _ _ (Zf S (.t rfl) (wp_skip (Zm (Za (hK2 _ _ (wp_region_lit (run S (.mv rfl <| .ad (by unfold I64; omega) rfl <| .as rfl <| .z) fun a w S => Zb (Za ?_))))))))))
       exact ⟨(i + 1, B, cB), by dsimp only; omega, by dsimp only; omega, by dsimp only; rw [hst]; exact S.pk⟩
   · have rw_k := decide_eq_false hk
     rw [show isGone key x = false by unfold isGone; rw [rw_k]; rfl, if_neg (by decide), List.append_nil] at hst
     refine wp_seq_k fun _ hK2 => sg S (.mv rfl <| .mv rfl <| .lt (by omega) rfl rfl <| .z) fun a w S => Zg S (.t rfl) (wp_skip (Za (hK2 _ _ (wp_seq_k fun _ hK2 => wp_block (sg S (.mv rfl <| .mv rfl <| .ix underlying84 sizeOf96 (by omega) rfl rfl <| .yy (Yc (FieldT.mk underlying96 rfl sizeOf3 rfl) (.t rfl)) rfl <| .yy (Yn ⟨isAgg3, sizeOf3⟩ (.t rfl) (fun _ => hc _ _ rfl)) rfl <| .yy (Ym (by omega) (Yd (.t rfl) Ev.c)) rfl <| .mv rfl <| .sk rfl rfl rfl <| .sk rfl rfl rfl <| .sk rfl rfl rfl <| .sk rfl rfl rfl <| .sk rfl rfl rfl <| .sk rfl rfl rfl <| .sk rfl rfl rfl <| .yy (Zq (.t rfl) Ev.c) rfl <| .z) fun a w S => Zf S (.t rfl) (wp_skip (Zm (Za (hK2 _ _ (wp_region_lit (run S (.mv rfl <| .ad (by unfold I64; omega) rfl <| .as rfl <| .z) fun a w S => Zb (Za ?_))))))))))))
     exact ⟨(i + 1, B, cB), by dsimp only; omega, by dsimp only; omega, by dsimp only; rw [hst]; exact S.pk⟩
 obtain rfl : i = m := by omega
 refine wp_seq_k fun _ hK2 => sg S (.mv rfl <| .mv rfl <| .ge (by omega) rfl rfl <| .z) fun a w S => Zf S (.t rfl) (wp_exit (Zi (Zi (Zy (Za (hK1 _ _ (sg S (.mv rfl <| .as rfl <| .z) fun a w S => wp_ret (Zj S (results1 S results122 (Rv.tmp rfl)) ?_))))))))
 exact ⟨_, _, rfl, S.wd.pk, B, cB, rfl, rfl⟩
theorem c124 (w0 : World) (x y : SLog) (hx : LogRd w0 x) (hy : LogRd w0 y) (hs : SameL x y) :
   Calls Tryz.prog 124 #[.agg (SLog.enc x).toArray, .agg (SLog.enc y).toArray] w0 fun e w' => e = .returned (.bool true) ∧ Bel w0.heap.size w0 w' := by
 obtain ⟨h1, h2, h3, h4, h5, h6, h7, h8, h9⟩ := hs
 have u1 := hx.u.ents
 have u2 := hx.u.ctx
 have u3 := hy.u.ents
 have u4 := hy.u.ctx
 have s1 := hx.s.ents
 have s2 := hx.s.ctx
 have s3 := hy.s.ents
 have s4 := hy.s.ctx
 have k1 := hx.c.ents
 have k2 := hx.c.ctx
 have k3 := hy.c.ents
 have k4 := hy.c.ctx
 have rw_1 : decide (x.kind = y.kind) = true := decide_eq_true h1
 have rw_2 : decide (x.at_ = y.at_) = true := decide_eq_true h2
 have rw_3 : decide (x.ask = y.ask) = true := decide_eq_true h3
 have rw_7 : decide (x.key ≠ y.key) = false := decide_eq_false (fun e => e h7)
 have rw_6 : decide (x.an = y.an ∧ x.al = y.al) = true := decide_eq_true ⟨h5, h6⟩
 have rw_8 : decide (x.s.1 = y.s.1) = true := decide_eq_true h8
 have rw_9 : decide (x.c.1 = y.c.1) = true := decide_eq_true h9
 refine enter2 func124 rfl ntmps124 rfl fun a S => wp_seq_k fun _ hK1 => wp_region_lit (Zk (Ya S (.t rfl) rfl fun g1 a w S => Zk (Ya S (.t rfl) rfl fun g2 a w S => run S (.ac rfl <| .z) fun a w S => Zb (Za (hK1 _ _ (wp_seq_k fun _ hK1 => wp_seq_k fun _ hK2 => wp_region_lit ?_))))))
 refine run S (.fa underlying96 sizeOf3 0 rfl rfl rfl <| .ld gt3 1 rfl rfl rfl <| .fa underlying96 sizeOf3 0 rfl rfl rfl <| .ld gt3 0 rfl rfl rfl <| .yy (Ym (by omega) (Yt (.t rfl) (.t rfl))) rfl <| .mv rfl <| .gy rfl rfl (Zc (FieldT.mk underlying96 rfl sizeOf3 rfl) (.t rfl) (i' := 1) rfl) <| .gy rfl rfl (Zu ⟨isAgg3, sizeOf3⟩ (.t rfl) (k := 1) rfl rfl) <| .gy rfl rfl (Zc (FieldT.mk underlying96 rfl sizeOf3 rfl) (.t rfl) (i' := 1) rfl) <| .gy rfl rfl (Zu ⟨isAgg3, sizeOf3⟩ (.t rfl) (k := 0) rfl rfl) <| .gy rfl rfl (Ym (by omega) (Yt (.t rfl) (.t rfl))) <| .yy (Zq (.t rfl) (.t rfl)) rfl <| .mv rfl <| .gy rfl rfl (Zc (FieldT.mk underlying96 rfl sizeOf3 rfl) (.t rfl) (i' := 2) rfl) <| .gy rfl rfl (Zu ⟨isAgg3, sizeOf3⟩ (.t rfl) (k := 1) rfl rfl) <| .gy rfl rfl (Zc (FieldT.mk underlying96 rfl sizeOf3 rfl) (.t rfl) (i' := 2) rfl) <| .gy rfl rfl (Zu ⟨isAgg3, sizeOf3⟩ (.t rfl) (k := 0) rfl rfl) <| .gy rfl rfl (Ym (by omega) (Yt (.t rfl) (.t rfl))) <| .yy (Zq (.t rfl) (.t rfl)) rfl <| .mv rfl <| .gy rfl rfl (Zc (FieldT.mk underlying96 rfl sizeOf9 rfl) (.t rfl) (i' := 15) rfl) <| .gy rfl rfl (Zu ⟨isAgg9, sizeOf9⟩ (.t rfl) (k := 1) rfl rfl) <| .gy rfl rfl (Zc (FieldT.mk underlying96 rfl sizeOf9 rfl) (.t rfl) (i' := 15) rfl) <| .gy rfl rfl (Zu ⟨isAgg9, sizeOf9⟩ (.t rfl) (k := 0) rfl rfl) <| .gy rfl rfl (Xt (.t rfl) (.t rfl)) <| .z) fun a w S => ?_
 rw [rw_7] at S
 refine run S (.yy (Zq (.t rfl) (.t rfl)) rfl <| .mv rfl <| .gy rfl rfl (Zc (FieldT.mk underlying96 rfl sizeOf66 rfl) (.t rfl) (i' := 13) rfl) <| .gy rfl rfl (Ye ⟨isAgg66, sizeOf66⟩ (.t rfl) (k := 1) rfl rfl) <| .gy rfl rfl (Zc (FieldT.mk underlying96 rfl sizeOf66 rfl) (.t rfl) (i' := 13) rfl) <| .gy rfl rfl (Ye ⟨isAgg66, sizeOf66⟩ (.t rfl) (k := 0) rfl rfl) <| .gy rfl rfl (ys_neA (.t rfl) (.t rfl) eq66) <| .z) fun a w S => ?_
 rw [rw_6] at S
 refine run S (.yy (Zq (.t rfl) (.t rfl)) rfl <| .z) fun a w S => Zb (Za (hK2 _ _ (Zf S (.t rfl) (wp_skip (Za (hK1 _ _ (wp_seq_k fun _ hK1 => wp_region_lit (run S (.fa underlying96 sizeOf77 3 rfl rfl rfl <| .la gt77 1 rfl rfl rfl <| .fa underlying96 sizeOf77 3 rfl rfl rfl <| .la gt77 0 rfl rfl rfl <| .xx (Zh call172 (.cons (.t rfl) (.cons (.t rfl) .nil)) (fun hp w W => c172 _ _ _ _ _ _ _ _ _ (by exact .old W (by assumption)) (by exact .old W (by assumption)) (by exact .old W (by assumption)) (by exact .old W (by assumption)) (by assumption))) rfl <| .mv rfl <| .gy rfl rfl (Zc (FieldT.mk underlying96 rfl sizeOf37 rfl) (.t rfl) (i' := 16) rfl) <| .gy rfl rfl (Ye ⟨isAgg37, sizeOf37⟩ (.t rfl) (k := 1) rfl rfl) <| .gy rfl rfl (Zc (FieldT.mk underlying96 rfl sizeOf37 rfl) (.t rfl) (i' := 16) rfl) <| .gy rfl rfl (Ye ⟨isAgg37, sizeOf37⟩ (.t rfl) (k := 0) rfl rfl) <| .gx rfl rfl (Zh call19 (.cons (.t rfl) (.cons (.t rfl) .nil)) (fun hp w W => c19 _ _ _ _ _ _ _ _ _ (by exact .old W (by assumption)) (by exact .old W (by assumption)) (by exact .old W (by assumption)) (by exact .old W (by assumption)))) <| .z) fun a w S => ?_))))))))
 rw [rw_8] at S
 refine run S (.yy (Zt (.t rfl) (.t rfl)) rfl <| .mv rfl <| .gy rfl rfl (Zc (FieldT.mk underlying96 rfl sizeOf37 rfl) (.t rfl) (i' := 19) rfl) <| .gy rfl rfl (Ye ⟨isAgg37, sizeOf37⟩ (.t rfl) (k := 1) rfl rfl) <| .gy rfl rfl (Zc (FieldT.mk underlying96 rfl sizeOf37 rfl) (.t rfl) (i' := 19) rfl) <| .gy rfl rfl (Ye ⟨isAgg37, sizeOf37⟩ (.t rfl) (k := 0) rfl rfl) <| .gx rfl rfl (Zh call19 (.cons (.t rfl) (.cons (.t rfl) .nil)) (fun hp w W => c19 _ _ _ _ _ _ _ _ _ (by exact .old W (by assumption)) (by exact .old W (by assumption)) (by exact .old W (by assumption)) (by exact .old W (by assumption)))) <| .z) fun a w S => ?_
 rw [rw_9] at S
 refine run S (.yy (Zt (.t rfl) (.t rfl)) rfl <| .as rfl <| .z) fun a w S => Zb (Za (hK1 _ _ (wp_ret (Zj S (results1 S results124 (Rv.tmp rfl)) ?_))))
 exact ⟨rfl, S.wd.below⟩
theorem c123 (w0 : World) (v v' : Value) (l l' : List SLog) (h : Sl SLog.enc 22 w0 w0.heap.size v l) (h' : Sl SLog.enc 22 w0 w0.heap.size v' l') (hc : LogsRd w0 l) (hc' : LogsRd w0 l') (hs : l.map SLog.nul = l'.map SLog.nul) :
   Calls Tryz.prog 123 #[v, v', .func (.func 124) #[] #[]] w0 fun e w' => e = .returned (.bool true) ∧ Bel w0.heap.size w0 w' := by
 obtain ⟨A, cap, rfl, hl, hcap, hA⟩ := h
 obtain ⟨A', cap', rfl, hl', hcap', hA'⟩ := h'
 have hll : l.length = l'.length := by
   have := congrArg List.length hs
   simpa using this
 have rw_ll : ((l'.length : Nat) : Int) = ((l.length : Nat) : Int) := by rw [hll]
 refine enter3 func123 rfl ntmps123 rfl fun a S => sg S (.ac rfl <| .z) fun a w S => wp_seq_k fun _ hK1 => wp_seq_k fun _ hK2 => wp_region_lit (run S (.mv rfl <| .ln underlying84 rfl <| .mv rfl <| .ln underlying84 rfl <| .z) fun a w S => ?_)
 rw [rw_ll] at S
 refine run S (.yy (Ym (by omega) (Yt (.t rfl) (.t rfl))) rfl <| .z) fun a w S => Zb (Za (hK2 _ _ (Zf S (.t rfl) (wp_skip (Za (hK1 _ _ (wp_seq_k fun _ hK1 => sg S (.mv rfl <| .ln underlying84 rfl <| .mc rfl <| .z) fun a w S => wp_block ?_)))))))
 refine Xe S [17] (X := Nat) (fun k => [(17, true, .int .i64 (k : Int))]) (fun _ => []) (fun k => k ≤ l.length) (fun k => l.length - k) 0 (Nat.zero_le _) ?_
 clear S
 rintro k a w hk S
 by_cases hlt : k < l.length
 · obtain ⟨g, o, x, rfl, hx, hd, hcx⟩ := Yk hA hlt
   obtain ⟨g', o', x', rfl, hx', hd', hcx'⟩ := Yk hA' (show k < l'.length by omega)
   have r1 := hc x (List.mem_of_getElem? hx)
   have r2 := hc' x' (List.mem_of_getElem? hx')
   have r3 := like_at hs hx hx'
   refine sg S (.lt (by omega) rfl rfl <| .z) fun a w S => wp_seq_k fun _ hK2 => Zg S (.t rfl) (wp_skip (Za (hK2 _ _ (wp_seq_k fun _ hK2 => wp_block (wp_seq_k fun _ hK3 => wp_region_lit (run S (.mv rfl <| .ix underlying84 sizeOf96 (by omega) rfl rfl <| .yy (Zp ⟨isAgg96, sizeOf96⟩ (.t rfl) (vs := [_, _, _, _, _, _, _, _, _, _, _, _, _, _, _, _, _, _, _, _, _, _]) rfl (fun _ => hcx)) rfl <| .z) fun a w S => Zk (Zn S zeroValue96 (cs := _) rfl rfl fun g1 a w S => run S (.as rfl <| .z) fun a w S => Zk (Zv S sizeOf96 (.t rfl) (.t rfl) (k := 0) rfl rfl rfl (by simp [Value.oneCell']) fun a w S => Zb (Za (hK3 _ _ (wp_seq_k fun _ hK3 => wp_region_lit (run S (.mv rfl <| .mv rfl <| .ix underlying84 sizeOf96 (by omega) rfl rfl <| .yy (Zp ⟨isAgg96, sizeOf96⟩ (.t rfl) (vs := [_, _, _, _, _, _, _, _, _, _, _, _, _, _, _, _, _, _, _, _, _, _]) rfl (fun _ => hcx')) rfl <| .z) fun a w S => Zk (Zn S zeroValue96 (cs := _) rfl rfl fun g2 a w S => Zk (Zv S sizeOf96 (.t rfl) (.t rfl) (k := 0) rfl rfl rfl (by simp [Value.oneCell']) fun a w S => Zb (Za (hK3 _ _ (wp_seq_k fun _ hK3 => wp_region_lit ?_)))))))))))))))))
   refine run S (.mv rfl <| .la gt96 1 rfl rfl rfl <| .la gt96 0 rfl rfl rfl <| .xx (ys_callV (.t rfl) call124 (.cons (.t rfl) (.cons (.t rfl) .nil)) (fun hp w W => c124 _ _ _ (by exact .old W (by assumption)) (by exact .old W (by assumption)) (by assumption))) rfl <| .nt rfl <| .z) fun a w S => Zb (Za (hK3 _ _ (Zf S (.t rfl) (wp_skip (Zm (Za (hK2 _ _ (wp_region_lit (run S (.ad (by unfold I64; omega) rfl <| .mv rfl <| .z) fun a w S => Zb (Za ?_))))))))))
   exact ⟨k + 1, by omega, by omega, S.pk⟩
 · obtain rfl : k = l.length := by omega
   refine sg S (.ge (by omega) rfl rfl <| .z) fun a w S => wp_seq_k fun _ hK2 => Zf S (.t rfl) (wp_exit (Zi (Zi (Zy (Za (hK1 _ _ (sg S (.ac rfl <| .z) fun a w S => wp_ret (Zj S (results1 S results123 (Rv.tmp rfl)) ?_))))))))
   exact ⟨rfl, S.wd.below⟩
theorem c49 (w0 : World) (v v' : Value) (l l' : List SLog) (h : Sl SLog.enc 22 w0 w0.heap.size v l) (h' : Sl SLog.enc 22 w0 w0.heap.size v' l') (hc : LogsRd w0 l) (hc' : LogsRd w0 l') (hs : l.map SLog.nul = l'.map SLog.nul) :
   Calls Tryz.prog 49 #[v, v'] w0 fun e w' => e = .returned (.bool true) ∧ Bel w0.heap.size w0 w' := by
 refine enter2 func49 rfl ntmps49 rfl fun a S => sg S (.ac rfl <| .z) fun a w S => sg S (.mv rfl <| .mv rfl <| .xx (Zh call123 (.cons (.t rfl) (.cons (.t rfl) (.cons Ev.f .nil))) (fun hp w W => c123 _ _ _ _ _ (by exact .old W (by assumption)) (by exact .old W (by assumption)) (by exact .old W (by assumption)) (by exact .old W (by assumption)) (by assumption))) rfl <| .as rfl <| .z) fun a w S => wp_ret (Zj S (results1 S results49 (Rv.tmp rfl)) ?_)
 exact ⟨rfl, S.wd.below⟩
end Go.Proofs.YtakpdbmdfnialaaGreat
namespace Go.Proofs.YtakpdbmdfnialaaGreat
open Go.Fw Go.Proofs Go.RowKit Go.Proofs.Tryz
theorem c50 (w0 : World) (v v' : Value) (l l' : List (List UInt8)) (h : Sl encS' 1 w0 w0.heap.size v l) (h' : Sl encS' 1 w0 w0.heap.size v' l') :
   Calls Tryz.prog 50 #[v, v'] w0 fun e w' => e = .returned (.bool (decide (l = l'))) ∧ Bel w0.heap.size w0 w' := by
 obtain ⟨A, cap, rfl, hl, hcap, hA⟩ := h
 obtain ⟨A', cap', rfl, hl', hcap', hA'⟩ := h'
 refine enter2 func50 rfl ntmps50 rfl fun a S => sg S (.ac rfl <| .z) fun a w S => wp_seq_k fun _ hK1 => sg S (.mv rfl <| .ln underlying85 rfl <| .mv rfl <| .ln underlying85 rfl <| .yy (Yt (.t rfl) (.t rfl)) rfl <| .z) fun a w S => ?_
 refine Xv S (.t rfl) (fun h1 => ?_) (fun h1 => ?_)
 refine sg S (.ac rfl <| .z) fun a w S => wp_ret (Ze (Zj S (results1 S results50 (Rv.tmp rfl)) ?_))
 rotate_left
 refine wp_skip (Za (hK1 _ _ (wp_seq_k fun _ hK1 => sg S (.mv rfl <| .ln underlying85 rfl <| .mc rfl <| .z) fun a w S => wp_block ?_)))
 rotate_left
 · refine ⟨?_, S.wd.below⟩
   rw [decide_eq_false (fun e => h1 (by rw [e]))]
 · refine We S (X := Nat) (fun k => [(13, true, .int .i64 (k : Int))]) (fun _ L => L) (fun k => k ≤ l.length ∧ l.take k = l'.take k) (fun k => l.length - k) 0 ⟨Nat.zero_le _, rfl⟩ ?_
   clear S
   intro k a w ⟨hk, hno⟩ S
   by_cases hlt : k < l.length
   · obtain ⟨g, o, m, rfl, hmm, hd, hc⟩ := Yk hA hlt
     obtain ⟨g', o', m', rfl, hmm', hd', hc'⟩ := Yk hA' (show k < l'.length by omega)
     clear hA hA'
     by_cases he : m = m'
     · have rw_e : decide (m ≠ m') = false := decide_eq_false (fun h => h he)
       refine sg S (.lt (by omega) rfl rfl <| .z) fun a w S => wp_seq_k fun _ hK2 => Zg S (.t rfl) (wp_skip (Za (hK2 _ _ (wp_seq_k fun _ hK2 => wp_block (sg S (.mv rfl <| .as rfl <| .z) fun a w S => wp_seq_k fun _ hK3 => Zw S (by kernel_rfl) (by kernel_rfl) fun a S => qrun S (.mv rfl <| .mv rfl <| .ix underlying85 sizeOf9 (by omega) rfl rfl <| .yy (Yn ⟨isAgg9, sizeOf9⟩ (.t rfl) (fun _ => hc 0 _ rfl)) rfl <| .mv rfl <| .mv rfl <| .ix underlying85 sizeOf9 (by omega) rfl rfl <| .yy (Yn ⟨isAgg9, sizeOf9⟩ (.t rfl) (fun _ => hc' 0 _ rfl)) rfl <| .yy (Xt (.t rfl) (.t rfl)) rfl <| .z) fun a S => ?_)))))
       rw [rw_e] at S
       (refine Yv ?_; intro w W; replace S := St.mk S W; clear W)
       refine Za (hK3 _ _ (Zf S (.t rfl) (wp_skip (Zm (Za (hK2 _ _ (wp_region_lit (run S (.ad (by unfold I64; omega) rfl <| .mv rfl <| .z) fun a w S => Zb (Za ?_)))))))))
       exact ⟨k + 1, ⟨by omega, at_step hno hmm hmm' he⟩, by omega, S.wk⟩
     · have rw_e : decide (m ≠ m') = true := decide_eq_true he
       refine sg S (.lt (by omega) rfl rfl <| .z) fun a w S => wp_seq_k fun _ hK2 => Zg S (.t rfl) (wp_skip (Za (hK2 _ _ (wp_seq_k fun _ hK2 => wp_block (sg S (.mv rfl <| .as rfl <| .z) fun a w S => wp_seq_k fun _ hK3 => Zw S (by kernel_rfl) (by kernel_rfl) fun a S => qrun S (.mv rfl <| .mv rfl <| .ix underlying85 sizeOf9 (by omega) rfl rfl <| .yy (Yn ⟨isAgg9, sizeOf9⟩ (.t rfl) (fun _ => hc 0 _ rfl)) rfl <| .mv rfl <| .mv rfl <| .ix underlying85 sizeOf9 (by omega) rfl rfl <| .yy (Yn ⟨isAgg9, sizeOf9⟩ (.t rfl) (fun _ => hc' 0 _ rfl)) rfl <| .yy (Xt (.t rfl) (.t rfl)) rfl <| .z) fun a S => ?_)))))
       rw [rw_e] at S
       (refine Yv ?_; intro w W; replace S := St.mk S W; clear W)
       refine Za (hK3 _ _ (Zg S (.t rfl) (sg S (.ac rfl <| .z) fun a w S => wp_ret (Zr (Ze (Ze (Zr (Ze (Zj S (results1 S results50 (Rv.tmp rfl)) ?_)))))))))
       exact ⟨by rw [at_ne hmm hmm' he], S.wd.below⟩
   · refine sg S (.ge (by omega) rfl rfl <| .z) fun a w S => wp_seq_k fun _ hK2 => Zf S (.t rfl) (wp_exit (Zi (Zi (Zy (Za (hK1 _ _ (sg S (.ac rfl <| .z) fun a w S => wp_ret (Zj S (results1 S results50 (Rv.tmp rfl)) ?_))))))))
     refine ⟨?_, S.wd.below⟩
     rw [decide_eq_true]
     rw [List.take_of_length_le (by omega), List.take_of_length_le (by omega)] at hno
     exact hno
theorem c44 (w0 : World) (v1 : Value) (l : List (List UInt8)) (h : Sl encS' 1 w0 w0.heap.size v1 l) (hn : l.length ≤ 4194304) :
   Rets Tryz.prog 44 #[v1] w0 fun v L => ∃ A c, v = .slice A l.length c ∧ L = [rowOf 9 1 encS' A c l] := by
 have h0 := h
 obtain ⟨A, cap, rfl, hl, hcap, hA⟩ := h
 unfold Go.Fw.Rets
 refine enter1 func44 rfl ntmps44 rfl fun a S => sg S (.ac rfl <| .z) fun a w S => wp_seq_k fun _ hK1 => sg S (.mv rfl <| .yy (ys_sNil underlying85 (.t rfl) Ev.c) rfl <| .z) fun a w S => ?_
 refine Wb S (.t rfl) (fun h1 => ?_) (fun h1 => ?_)
 refine sg S (.ac rfl <| .z) fun a w S => wp_ret (Ze (Zj S (results1 S results44 (Rv.tmp rfl)) ?_))
 rotate_left
 refine wp_skip (Za (hK1 _ _ (wp_seq_k fun _ hK1 => wp_region_lit (Zk (op_bslice0 S underlying85 sizeOf9 rfl fun g1 a w S => run S (.mv rfl <| .z) fun a w S => Zk (Xu _ (S.nil_ 9 _ Go.Fw.encS' _) underlying85 underlying85 (.inr ⟨_, rfl⟩) inf9 rfl (k := 0) rfl (.t rfl) (.t rfl) (Src.sl (Sl.old S.wd h0) (by decide) Go.Fw.encS'_len Go.Fw.encS'_one) (by first | omega | (simp only [List.length_append, List.length_cons, List.length_nil]; omega) | (simp; omega)) rfl rfl rfl fun A1 cap1 a w S => ?_))))))
 simp only [List.nil_append] at S
 refine run S (.as rfl <| .z) fun a w S => Zb (Za (hK1 _ _ (wp_ret (Zj S (results1 S results44 (Rv.tmp rfl)) ?_))))
 rotate_left
 · have hnil : l = [] := by
     refine List.eq_nil_of_length_eq_zero (Decidable.byContradiction fun hne => ?_)
     obtain ⟨g, o, rfl, _⟩ := hA (by omega)
     cases h1
   subst hnil
   exact ⟨_, _, rfl, (S.nil_ 9 1 encS' none).wd.sub (by repeat (first | exact List.Sublist.refl _ | exact List.nil_sublist _ | refine .cons_cons _ ?_ | refine .cons _ ?_)), none, 0, rfl, rfl⟩
 · try simp only [List.nil_append] at S ⊢
   exact ⟨_, _, rfl, S.wd.sub (by repeat (first | exact List.Sublist.refl _ | exact List.nil_sublist _ | refine .cons_cons _ ?_ | refine .cons _ ?_)), _, _, rfl, rfl⟩
end Go.Proofs.YtakpdbmdfnialaaGreat
namespace Go.Fw
open Go.RowKit
def heldB (key : List UInt8) (d : Dot) (p : List UInt8 × SCart) : Bool := decide (p.1 = key) && p.2.1.ctx.covers d
def lostB (l : List SLog) (ks : List (List UInt8)) (cs : List SCart) (x : SLog) : Bool := decide (x.kind = 1) && (!decide (x.ask = 0)) && ackedK l x.ask && (!forgotK (goneK l x.u.1.key) x.u.1.dot) && !(ks.zip cs).any (heldB x.u.1.key x.u.1.dot)
def lostK (l : List SLog) (ks : List (List UInt8)) (cs : List SCart) (m : List SLog) : List Dot := (m.filter (lostB l ks cs)).map (·.u.1.dot)
theorem lost_snoc {l m : List SLog} {ks : List (List UInt8)} {cs : List SCart} {i : Nat} {x : SLog} (h : m[i]? = some x) : lostK l ks cs (m.take (i + 1)) = lostK l ks cs (m.take i) ++ if lostB l ks cs x = true then [x.u.1.dot] else [] := by
 unfold lostK
 rw [List.take_add_one, h, Option.toList_some, List.filter_append, List.map_append]
 congr 1
 rw [List.filter_cons, List.filter_nil]
 split <;> rfl
theorem lost_len (l m : List SLog) (ks : List (List UInt8)) (cs : List SCart) : (lostK l ks cs m).length ≤ m.length := by
 unfold lostK
 rw [List.length_map]
 exact List.length_filter_le _ _
theorem zip_len {α β : Type} (l : List α) (m : List β) : (l.zip m).length ≤ l.length ∧ (l.zip m).length ≤ m.length ∧ ((l.zip m).length = l.length ∨ (l.zip m).length = m.length) := by
 rw [List.length_zip]
 rcases Nat.le_total l.length m.length with h | h
 · rw [Nat.min_eq_left h]; exact ⟨Nat.le_refl _, h, .inl rfl⟩
 · rw [Nat.min_eq_right h]; exact ⟨h, Nat.le_refl _, .inr rfl⟩
theorem zip_at {α β : Type} {l : List α} {m : List β} {i : Nat} {x : α} {y : β} (hx : l[i]? = some x) (hy : m[i]? = some y) : (l.zip m)[i]? = some (x, y) := by
 rw [List.getElem?_zip_eq_some]
 exact ⟨hx, hy⟩
theorem any_snoc {α : Type} {p : α → Bool} {l : List α} {i : Nat} {x : α} (h : l[i]? = some x) : (l.take (i + 1)).any p = ((l.take i).any p || p x) := by
 rw [List.take_add_one, h, Option.toList_some, List.any_append, List.any_cons, List.any_nil, Bool.or_false]
end Go.Fw
namespace Go.Proofs.YtakpdbmdfnialaaGreat
open Go.Fw Go.Proofs Go.RowKit Go.Proofs.Tryz
theorem c48 (w0 : World) (v v' v'' : Value) (l : List SLog) (ks : List (List UInt8)) (cs : List SCart) (h : Sl SLog.enc 22 w0 w0.heap.size v l) (hl : LogsRd w0 l) (hn : l.length ≤ 1048576) (hok : ∀ p ∈ l, CartOk p.c.1) (h' : Sl encS' 1 w0 w0.heap.size v' ks) (h'' : Sl SCart.enc 3 w0 w0.heap.size v'' cs) (hc : CartsRd w0 cs) (hcok : ∀ p ∈ cs, CartOk p.1) :
   Rets Tryz.prog 48 #[v, v', v''] w0 fun u L => ∃ A r, u = .slice A (lostK l ks cs l).length r ∧ L = [rowOf 74 3 Dot.enc A r (lostK l ks cs l)] := by
 have hs := h
 obtain ⟨A, cap, rfl, hl0, hcap, hA⟩ := h
 obtain ⟨A', cap', rfl, hl0', hcap', hA'⟩ := h'
 obtain ⟨A'', cap'', rfl, hl0'', hcap'', hA''⟩ := h''
 unfold Go.Fw.Rets
 refine enter3 func48 rfl ntmps48 rfl fun a S => sg S (.ac rfl <| .z) fun a w S => sg S (.ac rfl <| .z) fun a w S => wp_seq_k fun _ hK1 => sg S (.ac rfl <| .z) fun a w S => wp_block ?_
 replace S := S.nil_ 74 3 Dot.enc none
 refine Xe S [7, 8] (X := Nat × Option Addr × Nat) (fun q => [(7, true, .slice q.2.1 (lostK l ks cs (l.take q.1)).length q.2.2), (8, true, .int .i64 (q.1 : Int))]) (fun q => [rowOf 74 3 Dot.enc q.2.1 q.2.2 (lostK l ks cs (l.take q.1))]) (fun q => q.1 ≤ l.length) (fun q => l.length - q.1) (0, none, 0) (Nat.zero_le _) ?_
 clear S
 rintro ⟨i, B, cB⟩ a w hi S
 dsimp only at hi S
 have hgl := lost_len l (l.take i) ks cs
 rw [List.length_take] at hgl
 by_cases hlt : i < l.length
 · obtain ⟨gq, oq, x, rfl, hx, hd, hcx⟩ := Yk hA hlt
   have hst := lost_snoc (l := l) (ks := ks) (cs := cs) hx
   have hupd := cells_part (m := 3) (n := 10) (vs := SUpd.enc x.u) hcx rfl
   have htk : goneK (l.take l.length) x.u.1.key = goneK l x.u.1.key := by rw [List.take_length]
   have hxr := hl x (List.mem_of_getElem? hx)
   generalize lostK l ks cs (l.take i) = G at *
   by_cases hk : x.kind = 1
   rotate_left
   · have rw_k := decide_eq_false hk
     rw [show lostB l ks cs x = false by unfold lostB; rw [rw_k]; rfl, if_neg (by decide), List.append_nil] at hst
     refine wp_seq_k fun _ hK2 => sg S (.mv rfl <| .mv rfl <| .ln underlying84 rfl <| .lt (by omega) rfl rfl <| .z) fun a w S => Zg S (.t rfl) (wp_skip (Za (hK2 _ _ (wp_seq_k fun _ hK2 => wp_block (wp_seq_k fun _ hK3 => wp_region_lit (run S (.mv rfl <| .mv rfl <| .ix underlying84 sizeOf96 (by omega) rfl rfl <| .yy (Yc (FieldT.mk underlying96 rfl sizeOf77 rfl) (.t rfl)) rfl <| .yy (Zp ⟨isAgg77, sizeOf77⟩ (.t rfl) (vs := [_, _, _, _, _, _, _, _, _, _]) rfl (fun _ => hupd)) rfl <| .z) fun a w S => Zk (Zn S zeroValue77 (cs := _) rfl rfl fun g1 a w S => Zk (Zv S sizeOf77 (.t rfl) (.t rfl) (k := 0) rfl rfl rfl (by simp [Value.oneCell']) fun a w S => Zb (Za (hK3 _ _ (wp_seq_k fun _ hK3 => wp_seq_k fun _ hK4 => h_begin0 S (by kernel_rfl) fun a w S => hy 0 S rfl (Zd (.t rfl)) rfl fun a w S => hy 1 S rfl (Zd (.t rfl)) rfl fun a w S => ?_)))))))))))
     refine hy 2 S rfl (Yf underlying84 sizeOf96 (.t rfl) (.t rfl) (fun _ => by omega)) rfl fun a w S => hy 3 S rfl (Yc (FieldT.mk underlying96 rfl sizeOf3 rfl) (.t rfl)) rfl fun a w S => hy 4 S rfl (Yn ⟨isAgg3, sizeOf3⟩ (.t rfl) (fun _ => hcx _ _ rfl)) rfl fun a w S => hy 5 S rfl (Yu (by omega) (Yt (.t rfl) Ev.c)) rfl fun a w S => hy 6 S rfl (Zd (.t rfl)) rfl fun a w S => ?_
     refine hsk 7 S rfl rfl rfl rfl rfl fun a w S => hsk 8 S rfl rfl rfl rfl rfl fun a w S => hsk 9 S rfl rfl rfl rfl rfl fun a w S => hsk 10 S rfl rfl rfl rfl rfl fun a w S => hsk 11 S rfl rfl rfl rfl rfl fun a w S => hsk 12 S rfl rfl rfl rfl rfl fun a w S => ?_
     refine hy 13 S rfl (Zt (.t rfl) Ev.c) rfl fun a w S => hy 14 S rfl (Zd (.t rfl)) rfl fun a w S => hsk 15 S rfl rfl rfl rfl rfl fun a w S => hsk 16 S rfl rfl rfl rfl rfl fun a w S => hsk 17 S rfl rfl rfl rfl rfl fun a w S => hsk 18 S rfl rfl rfl rfl rfl fun a w S => ?_
     refine hsk 19 S rfl rfl rfl rfl rfl fun a w S => hsk 20 S rfl rfl rfl rfl rfl fun a w S => hsk 21 S rfl rfl rfl rfl rfl fun a w S => hsk 22 S rfl rfl rfl rfl rfl fun a w S => hy 23 S rfl (Zt (.t rfl) Ev.c) rfl fun a w S => hy 24 S rfl (Zd (.t rfl)) rfl fun a w S => ?_
     refine hsk 25 S rfl rfl rfl rfl rfl fun a w S => hsk 26 S rfl rfl rfl rfl rfl fun a w S => hsk 27 S rfl rfl rfl rfl rfl fun a w S => hsk 28 S rfl rfl rfl rfl rfl fun a w S => hsk 29 S rfl rfl rfl rfl rfl fun a w S => hsk 30 S rfl rfl rfl rfl rfl fun a w S => ?_
     refine hsk 31 S rfl rfl rfl rfl rfl fun a w S => hsk 32 S rfl rfl rfl rfl rfl fun a w S => hsk 33 S rfl rfl rfl rfl rfl fun a w S => hy 34 S rfl (Zt (.t rfl) Ev.c) rfl fun a w S => Yz (by kernel_rfl) (Za (hK4 _ _ (Zg S (.t rfl) (wp_exit (Zi (Zy (Za (hK2 _ _ (wp_region_lit (run S (.mv rfl <| .ad (by unfold I64; omega) rfl <| .as rfl <| .z) fun a w S => Zb (Za ?_)))))))))))
     exact ⟨(i + 1, B, cB), by dsimp only; omega, by dsimp only; omega, by dsimp only; rw [hst]; exact S.pk⟩
   have rw_k := decide_eq_true hk
   by_cases hy9 : x.ask = 0
   · have rw_y := decide_eq_true hy9
     rw [show lostB l ks cs x = false by unfold lostB; rw [rw_y, Bool.not_true, Bool.and_false]; rfl, if_neg (by decide), List.append_nil] at hst
     refine wp_seq_k fun _ hK2 => sg S (.mv rfl <| .mv rfl <| .ln underlying84 rfl <| .lt (by omega) rfl rfl <| .z) fun a w S => Zg S (.t rfl) (wp_skip (Za (hK2 _ _ (wp_seq_k fun _ hK2 => wp_block (wp_seq_k fun _ hK3 => wp_region_lit (run S (.mv rfl <| .mv rfl <| .ix underlying84 sizeOf96 (by omega) rfl rfl <| .yy (Yc (FieldT.mk underlying96 rfl sizeOf77 rfl) (.t rfl)) rfl <| .yy (Zp ⟨isAgg77, sizeOf77⟩ (.t rfl) (vs := [_, _, _, _, _, _, _, _, _, _]) rfl (fun _ => hupd)) rfl <| .z) fun a w S => Zk (Zn S zeroValue77 (cs := _) rfl rfl fun g1 a w S => Zk (Zv S sizeOf77 (.t rfl) (.t rfl) (k := 0) rfl rfl rfl (by simp [Value.oneCell']) fun a w S => Zb (Za (hK3 _ _ (wp_seq_k fun _ hK3 => wp_seq_k fun _ hK4 => h_begin0 S (by kernel_rfl) fun a w S => hy 0 S rfl (Zd (.t rfl)) rfl fun a w S => hy 1 S rfl (Zd (.t rfl)) rfl fun a w S => ?_)))))))))))
     refine hy 2 S rfl (Yf underlying84 sizeOf96 (.t rfl) (.t rfl) (fun _ => by omega)) rfl fun a w S => hy 3 S rfl (Yc (FieldT.mk underlying96 rfl sizeOf3 rfl) (.t rfl)) rfl fun a w S => hy 4 S rfl (Yn ⟨isAgg3, sizeOf3⟩ (.t rfl) (fun _ => hcx _ _ rfl)) rfl fun a w S => hy 5 S rfl (Ym (by omega) (Yt (.t rfl) Ev.c)) rfl fun a w S => hy 6 S rfl (Zd (.t rfl)) rfl fun a w S => ?_
     refine hyt 7 S rfl rfl rfl (Zd (.t rfl)) rfl fun a w S => hyt 8 S rfl rfl rfl (Zd (.t rfl)) rfl fun a w S => hyt 9 S rfl rfl rfl (Yf underlying84 sizeOf96 (.t rfl) (.t rfl) (fun _ => by omega)) rfl fun a w S => hyt 10 S rfl rfl rfl (Yc (FieldT.mk underlying96 rfl sizeOf3 rfl) (.t rfl)) rfl fun a w S => hyt 11 S rfl rfl rfl (Yn ⟨isAgg3, sizeOf3⟩ (.t rfl) (fun _ => hcx _ _ rfl)) rfl fun a w S => ?_
     refine hyt 12 S rfl rfl rfl (Yu (by omega) (Yd (.t rfl) Ev.c)) rfl fun a w S => hy 13 S rfl (Zq (.t rfl) (.t rfl)) rfl fun a w S => hy 14 S rfl (Zd (.t rfl)) rfl fun a w S => hsk 15 S rfl rfl rfl rfl rfl fun a w S => hsk 16 S rfl rfl rfl rfl rfl fun a w S => ?_
     refine hsk 17 S rfl rfl rfl rfl rfl fun a w S => hsk 18 S rfl rfl rfl rfl rfl fun a w S => hsk 19 S rfl rfl rfl rfl rfl fun a w S => hsk 20 S rfl rfl rfl rfl rfl fun a w S => hsk 21 S rfl rfl rfl rfl rfl fun a w S => hsk 22 S rfl rfl rfl rfl rfl fun a w S => ?_
     refine hy 23 S rfl (Zt (.t rfl) Ev.c) rfl fun a w S => hy 24 S rfl (Zd (.t rfl)) rfl fun a w S => hsk 25 S rfl rfl rfl rfl rfl fun a w S => hsk 26 S rfl rfl rfl rfl rfl fun a w S => hsk 27 S rfl rfl rfl rfl rfl fun a w S => hsk 28 S rfl rfl rfl rfl rfl fun a w S => ?_
     refine hsk 29 S rfl rfl rfl rfl rfl fun a w S => hsk 30 S rfl rfl rfl rfl rfl fun a w S => hsk 31 S rfl rfl rfl rfl rfl fun a w S => hsk 32 S rfl rfl rfl rfl rfl fun a w S => hsk 33 S rfl rfl rfl rfl rfl fun a w S => hy 34 S rfl (Zt (.t rfl) Ev.c) rfl fun a w S => Yz (by kernel_rfl) ?_
     refine Za (hK4 _ _ (Zg S (.t rfl) (wp_exit (Zi (Zy (Za (hK2 _ _ (wp_region_lit (run S (.mv rfl <| .ad (by unfold I64; omega) rfl <| .as rfl <| .z) fun a w S => Zb (Za ?_))))))))))
     exact ⟨(i + 1, B, cB), by dsimp only; omega, by dsimp only; omega, by dsimp only; rw [hst]; exact S.pk⟩
   have rw_y := decide_eq_false hy9
   cases hac : ackedK l x.ask with
   | false =>
     have rw_a := hac
     rw [show lostB l ks cs x = false by unfold lostB; rw [rw_a, Bool.and_false]; rfl, if_neg (by decide), List.append_nil] at hst
     refine wp_seq_k fun _ hK2 => sg S (.mv rfl <| .mv rfl <| .ln underlying84 rfl <| .lt (by omega) rfl rfl <| .z) fun a w S => Zg S (.t rfl) (wp_skip (Za (hK2 _ _ (wp_seq_k fun _ hK2 => wp_block (wp_seq_k fun _ hK3 => wp_region_lit (run S (.mv rfl <| .mv rfl <| .ix underlying84 sizeOf96 (by omega) rfl rfl <| .yy (Yc (FieldT.mk underlying96 rfl sizeOf77 rfl) (.t rfl)) rfl <| .yy (Zp ⟨isAgg77, sizeOf77⟩ (.t rfl) (vs := [_, _, _, _, _, _, _, _, _, _]) rfl (fun _ => hupd)) rfl <| .z) fun a w S => Zk (Zn S zeroValue77 (cs := _) rfl rfl fun g1 a w S => Zk (Zv S sizeOf77 (.t rfl) (.t rfl) (k := 0) rfl rfl rfl (by simp [Value.oneCell']) fun a w S => Zb (Za (hK3 _ _ (wp_seq_k fun _ hK3 => wp_seq_k fun _ hK4 => h_begin0 S (by kernel_rfl) fun a w S => hy 0 S rfl (Zd (.t rfl)) rfl fun a w S => hy 1 S rfl (Zd (.t rfl)) rfl fun a w S => ?_)))))))))))
     refine hy 2 S rfl (Yf underlying84 sizeOf96 (.t rfl) (.t rfl) (fun _ => by omega)) rfl fun a w S => hy 3 S rfl (Yc (FieldT.mk underlying96 rfl sizeOf3 rfl) (.t rfl)) rfl fun a w S => hy 4 S rfl (Yn ⟨isAgg3, sizeOf3⟩ (.t rfl) (fun _ => hcx _ _ rfl)) rfl fun a w S => hy 5 S rfl (Ym (by omega) (Yt (.t rfl) Ev.c)) rfl fun a w S => hy 6 S rfl (Zd (.t rfl)) rfl fun a w S => ?_
     refine hyt 7 S rfl rfl rfl (Zd (.t rfl)) rfl fun a w S => hyt 8 S rfl rfl rfl (Zd (.t rfl)) rfl fun a w S => hyt 9 S rfl rfl rfl (Yf underlying84 sizeOf96 (.t rfl) (.t rfl) (fun _ => by omega)) rfl fun a w S => hyt 10 S rfl rfl rfl (Yc (FieldT.mk underlying96 rfl sizeOf3 rfl) (.t rfl)) rfl fun a w S => hyt 11 S rfl rfl rfl (Yn ⟨isAgg3, sizeOf3⟩ (.t rfl) (fun _ => hcx _ _ rfl)) rfl fun a w S => ?_
     refine hyt 12 S rfl rfl rfl (Ym (by omega) (Yd (.t rfl) Ev.c)) rfl fun a w S => hy 13 S rfl (Zq (.t rfl) (.t rfl)) rfl fun a w S => hy 14 S rfl (Zd (.t rfl)) rfl fun a w S => hyt 15 S rfl rfl rfl (Zd (.t rfl)) rfl fun a w S => hyt 16 S rfl rfl rfl (Zd (.t rfl)) rfl fun a w S => ?_
     refine hyt 17 S rfl rfl rfl (Zd (.t rfl)) rfl fun a w S => hyt 18 S rfl rfl rfl (Yf underlying84 sizeOf96 (.t rfl) (.t rfl) (fun _ => by omega)) rfl fun a w S => hyt 19 S rfl rfl rfl (Yc (FieldT.mk underlying96 rfl sizeOf3 rfl) (.t rfl)) rfl fun a w S => hyt 20 S rfl rfl rfl (Yn ⟨isAgg3, sizeOf3⟩ (.t rfl) (fun _ => hcx _ _ rfl)) rfl fun a w S => ?_
     refine h_qf (i := 21) S (by repeat (first | exact List.Sublist.refl _ | exact List.nil_sublist _ | refine .cons_cons _ ?_ | refine .cons _ ?_)) rfl (by kernel_rfl) rfl rfl (Zh call120 (.cons (.t rfl) (.cons (.t rfl) .nil)) (fun hp w W => c120 _ _ _ _ (by exact .old W (by assumption)))) rfl fun a w S => ?_
     rw [rw_a] at S
     refine hyt 22 S rfl rfl rfl (Xg (Ev.g rfl)) rfl fun a w S => hy 23 S rfl (Zq (.t rfl) (.t rfl)) rfl fun a w S => hy 24 S rfl (Zd (.t rfl)) rfl fun a w S => hsk 25 S rfl rfl rfl rfl rfl fun a w S => hsk 26 S rfl rfl rfl rfl rfl fun a w S => hsk 27 S rfl rfl rfl rfl rfl fun a w S => ?_
     refine hsk 28 S rfl rfl rfl rfl rfl fun a w S => hsk 29 S rfl rfl rfl rfl rfl fun a w S => hsk 30 S rfl rfl rfl rfl rfl fun a w S => hsk 31 S rfl rfl rfl rfl rfl fun a w S => hsk 32 S rfl rfl rfl rfl rfl fun a w S => hsk 33 S rfl rfl rfl rfl rfl fun a w S => ?_
     refine hy 34 S rfl (Zt (.t rfl) Ev.c) rfl fun a w S => Yz (by kernel_rfl) (Za (hK4 _ _ (Zg S (.t rfl) (wp_exit (Zi (Zy (Za (hK2 _ _ (wp_region_lit (run S (.mv rfl <| .ad (by unfold I64; omega) rfl <| .as rfl <| .z) fun a w S => Zb (Za ?_)))))))))))
     exact ⟨(i + 1, B, cB), by dsimp only; omega, by dsimp only; omega, by dsimp only; rw [hst]; exact S.pk⟩
   | true =>
     have rw_a := hac
     have hgr : ∀ w L, Wd w0 L w → LogsRd w (goneK (l.take l.length) x.u.1.key) := fun w L W y hy9 => (hl y (List.mem_of_mem_take (List.mem_filter.1 hy9).1)).old W
     have hgk : ∀ p ∈ goneK (l.take l.length) x.u.1.key, CartOk p.c.1 := fun p hp => hok p (List.mem_of_mem_take (List.mem_filter.1 hp).1)
     refine wp_seq_k fun _ hK2 => sg S (.mv rfl <| .mv rfl <| .ln underlying84 rfl <| .lt (by omega) rfl rfl <| .z) fun a w S => Zg S (.t rfl) (wp_skip (Za (hK2 _ _ (wp_seq_k fun _ hK2 => wp_block (wp_seq_k fun _ hK3 => wp_region_lit (run S (.mv rfl <| .mv rfl <| .ix underlying84 sizeOf96 (by omega) rfl rfl <| .yy (Yc (FieldT.mk underlying96 rfl sizeOf77 rfl) (.t rfl)) rfl <| .yy (Zp ⟨isAgg77, sizeOf77⟩ (.t rfl) (vs := [_, _, _, _, _, _, _, _, _, _]) rfl (fun _ => hupd)) rfl <| .z) fun a w S => Zk (Zn S zeroValue77 (cs := _) rfl rfl fun g1 a w S => Zk (Zv S sizeOf77 (.t rfl) (.t rfl) (k := 0) rfl rfl rfl (by simp [Value.oneCell']) fun a w S => Zb (Za (hK3 _ _ (wp_seq_k fun _ hK3 => wp_seq_k fun _ hK4 => h_begin0 S (by kernel_rfl) fun a w S => hy 0 S rfl (Zd (.t rfl)) rfl fun a w S => hy 1 S rfl (Zd (.t rfl)) rfl fun a w S => ?_)))))))))))
     refine hy 2 S rfl (Yf underlying84 sizeOf96 (.t rfl) (.t rfl) (fun _ => by omega)) rfl fun a w S => hy 3 S rfl (Yc (FieldT.mk underlying96 rfl sizeOf3 rfl) (.t rfl)) rfl fun a w S => hy 4 S rfl (Yn ⟨isAgg3, sizeOf3⟩ (.t rfl) (fun _ => hcx _ _ rfl)) rfl fun a w S => hy 5 S rfl (Ym (by omega) (Yt (.t rfl) Ev.c)) rfl fun a w S => hy 6 S rfl (Zd (.t rfl)) rfl fun a w S => ?_
     refine hyt 7 S rfl rfl rfl (Zd (.t rfl)) rfl fun a w S => hyt 8 S rfl rfl rfl (Zd (.t rfl)) rfl fun a w S => hyt 9 S rfl rfl rfl (Yf underlying84 sizeOf96 (.t rfl) (.t rfl) (fun _ => by omega)) rfl fun a w S => hyt 10 S rfl rfl rfl (Yc (FieldT.mk underlying96 rfl sizeOf3 rfl) (.t rfl)) rfl fun a w S => hyt 11 S rfl rfl rfl (Yn ⟨isAgg3, sizeOf3⟩ (.t rfl) (fun _ => hcx _ _ rfl)) rfl fun a w S => ?_
     refine hyt 12 S rfl rfl rfl (Ym (by omega) (Yd (.t rfl) Ev.c)) rfl fun a w S => hy 13 S rfl (Zq (.t rfl) (.t rfl)) rfl fun a w S => hy 14 S rfl (Zd (.t rfl)) rfl fun a w S => hyt 15 S rfl rfl rfl (Zd (.t rfl)) rfl fun a w S => hyt 16 S rfl rfl rfl (Zd (.t rfl)) rfl fun a w S => ?_
     refine hyt 17 S rfl rfl rfl (Zd (.t rfl)) rfl fun a w S => hyt 18 S rfl rfl rfl (Yf underlying84 sizeOf96 (.t rfl) (.t rfl) (fun _ => by omega)) rfl fun a w S => hyt 19 S rfl rfl rfl (Yc (FieldT.mk underlying96 rfl sizeOf3 rfl) (.t rfl)) rfl fun a w S => hyt 20 S rfl rfl rfl (Yn ⟨isAgg3, sizeOf3⟩ (.t rfl) (fun _ => hcx _ _ rfl)) rfl fun a w S => ?_
     refine h_qf (i := 21) S (by repeat (first | exact List.Sublist.refl _ | exact List.nil_sublist _ | refine .cons_cons _ ?_ | refine .cons _ ?_)) rfl (by kernel_rfl) rfl rfl (Zh call120 (.cons (.t rfl) (.cons (.t rfl) .nil)) (fun hp w W => c120 _ _ _ _ (by exact .old W (by assumption)))) rfl fun a w S => ?_
     rw [rw_a] at S
     refine hyt 22 S rfl rfl rfl (Xg (Ev.g rfl)) rfl fun a w S => hy 23 S rfl (Zq (.t rfl) (.t rfl)) rfl fun a w S => hy 24 S rfl (Zd (.t rfl)) rfl fun a w S => hyt 25 S rfl rfl rfl (Zd (.t rfl)) rfl fun a w S => hyt 26 S rfl rfl rfl (Zd (.t rfl)) rfl fun a w S => ?_
     refine hyt 27 S rfl rfl rfl (Xy underlying84 (.t rfl)) rfl fun a w S => hyt 28 S rfl rfl rfl (Zc (FieldT.mk underlying77 rfl sizeOf9 rfl) (.t rfl) (i' := 0) rfl) rfl fun a w S => hyt 29 S rfl rfl rfl (Zu ⟨isAgg9, sizeOf9⟩ (.t rfl) (k := 0) rfl rfl) rfl fun a w S => hyt 31 S rfl rfl rfl (Zc (FieldT.mk underlying77 rfl sizeOf74 rfl) (.t rfl) (i' := 1) rfl) rfl fun a w S => ?_
     refine hyt 32 S rfl rfl rfl (Ye ⟨isAgg74, sizeOf74⟩ (.t rfl) (k := 0) rfl rfl) rfl fun a w S => ?_
     (refine h_mg (i := 30) S rfl (by kernel_rfl) rfl rfl (Zz S call122 (.cons (.t rfl) (.cons (.t rfl) (.cons (.t rfl) .nil))) (c122 _ _ _ _ _ (by exact .old S.wd (by assumption)) (by assumption) (by omega)) rfl ?_); clear S a w; rintro _ _ ⟨A1, r1, rfl, rfl⟩ a w S; refine h_n2 S ?_)
     refine h_qf (i := 33) S (by repeat (first | exact List.Sublist.refl _ | exact List.nil_sublist _ | refine .cons_cons _ ?_ | refine .cons _ ?_)) rfl (by kernel_rfl) rfl rfl (Zh call121 (.cons (Ev.g rfl) (.cons (Ev.g rfl) .nil)) (fun hp w W => c121 w _ _ _ _ _ (Sl.of_own W (k := 0) rfl SLog.enc_len) (hgr w _ W) hgk)) rfl ?_
     clear S
     intro a w S
     rw [htk] at S ⊢
     cases hfg : forgotK (goneK l x.u.1.key) x.u.1.dot with
     | true =>
       have rw_f := hfg
       rw [show lostB l ks cs x = false by unfold lostB; rw [rw_f, Bool.not_true, Bool.and_false]; rfl, if_neg (by decide), List.append_nil] at hst
       refine hy 34 S rfl (Zq (.t rfl) (Ev.g rfl)) rfl fun a w S => ?_
       rw [rw_f] at S
       refine Yz (by kernel_rfl) (Za (hK4 _ _ (Zg S (.t rfl) (wp_exit (Zi (Zy (Za (hK2 _ _ (wp_region_lit (run S (.mv rfl <| .ad (by unfold I64; omega) rfl <| .as rfl <| .z) fun a w S => Zb (Za ?_)))))))))))
       exact ⟨(i + 1, B, cB), by dsimp only; omega, by dsimp only; omega, by dsimp only; rw [hst]; exact S.pk⟩
     | false =>
       have rw_f := hfg
       obtain ⟨hz1, hz2, hz3⟩ := zip_len ks cs
       refine hy 34 S rfl (Zq (.t rfl) (Ev.g rfl)) rfl fun a w S => ?_
       rw [rw_f] at S
       refine Yz (by kernel_rfl) (Za (hK4 _ _ (Zf S (.t rfl) (wp_skip (Za (hK3 _ _ (sg S (.ac rfl <| .z) fun a w S => wp_seq_k fun _ hK3 => sg S (.ac rfl <| .z) fun a w S => wp_block ?_)))))))
       refine Xe S [10, 11] (X := Nat) (fun k => [(10, true, .bool (((ks.zip cs).take k).any (heldB x.u.1.key x.u.1.dot))), (11, true, .int .i64 (k : Int))]) (fun _ => [rowOf 96 22 SLog.enc A1 r1 (goneK l x.u.1.key), .blk g1 (.cells (SUpd.enc x.u).toArray 77), rowOf 74 3 Dot.enc B cB G]) (fun k => k ≤ (ks.zip cs).length) (fun k => (ks.zip cs).length - k) 0 (Nat.zero_le _) ?_
       clear S
       rintro k a w hk2 S
       by_cases hlt2 : k < (ks.zip cs).length
       · obtain ⟨gk, ok, key, rfl, hkx, hkd, hkc⟩ := Yk hA' (show k < ks.length by omega)
         obtain ⟨gc, oc, c, rfl, hcx2, hcd, hcc⟩ := Yk hA'' (show k < cs.length by omega)
         have hsn := any_snoc (p := heldB x.u.1.key x.u.1.dot) (zip_at hkx hcx2)
         have hcr := (hc c (List.mem_of_getElem? hcx2)).ctx
         have rw_R := (hcok c (List.mem_of_getElem? hcx2)).coversR x.u.1.dot
         have hctx := cells_part (m := 1) (n := 2) (vs := [.slice c.2.a2 c.2.n2 c.2.c2, .slice c.2.a3 c.2.n3 c.2.c3]) hcc rfl
         cases hkp : ((ks.zip cs).take k).any (heldB x.u.1.key x.u.1.dot) with
         | true =>
           rw [hkp] at hsn S
           rw [Bool.true_or] at hsn
           refine wp_seq_k fun _ hK4 => sg S (.mv rfl <| .mv rfl <| .ln underlying64 rfl <| .lt (by omega) rfl rfl <| .mv rfl <| .gy rfl rfl (Zd (.t rfl)) <| .gy rfl rfl (Zd (.t rfl)) <| .gy rfl rfl (Xy underlying85 (.t rfl)) <| .gy rfl rfl (Yu (by omega) (Yq (.t rfl) (.t rfl))) <| .yy (Zt (.t rfl) (.t rfl)) rfl <| .z) fun a w S => Zg S (.t rfl) (wp_skip (Za (hK4 _ _ (wp_seq_k fun _ hK4 => wp_block (Zw S (by kernel_rfl) (by kernel_rfl) fun a S => qrun S (.mv rfl <| .mv rfl <| .sk rfl rfl rfl <| .sk rfl rfl rfl <| .sk rfl rfl rfl <| .sk rfl rfl rfl <| .sk rfl rfl rfl <| .sk rfl rfl rfl <| .sk rfl rfl rfl <| .sk rfl rfl rfl <| .s0 rfl rfl <| .s0 rfl rfl <| .s0 rfl rfl <| .s0 rfl rfl <| .s0 rfl rfl <| .s0 rfl rfl <| .s0 rfl rfl <| .s0 rfl rfl <| .sk rfl rfl rfl <| .yy (Zt (.t rfl) Ev.c) rfl <| .as rfl <| .z) fun a S => ?_)))))
           (refine Yv ?_; intro w W; replace S := St.mk S W; clear W)
           refine Zm (Za (hK4 _ _ (wp_region_lit (run S (.mv rfl <| .ad (by unfold I64; omega) rfl <| .as rfl <| .z) fun a w S => Zb (Za ?_)))))
           exact ⟨k + 1, by omega, by omega, by rw [hsn]; exact S.pk⟩
         | false =>
           rw [hkp] at hsn S
           rw [Bool.false_or] at hsn
           by_cases hke : key = x.u.1.key
           · have rw_ke := decide_eq_true hke
             have hh : heldB x.u.1.key x.u.1.dot (key, c) = c.1.ctx.covers x.u.1.dot := by unfold heldB; rw [rw_ke]; rfl
             rw [hh] at hsn
             cases hcv : c.1.ctx.covers x.u.1.dot with
             | true =>
               have rw_cv := hcv
               rw [hcv] at hsn
               refine wp_seq_k fun _ hK4 => sg S (.mv rfl <| .mv rfl <| .ln underlying64 rfl <| .lt (by omega) rfl rfl <| .mv rfl <| .gy rfl rfl (Zd (.t rfl)) <| .gy rfl rfl (Zd (.t rfl)) <| .gy rfl rfl (Xy underlying85 (.t rfl)) <| .gy rfl rfl (Yu (by omega) (Yq (.t rfl) (.t rfl))) <| .yy (Zt (.t rfl) (.t rfl)) rfl <| .z) fun a w S => Zg S (.t rfl) (wp_skip (Za (hK4 _ _ (wp_seq_k fun _ hK4 => wp_block (Zw S (by kernel_rfl) (by kernel_rfl) fun a S => qrun S (.mv rfl <| .mv rfl <| .gy rfl rfl (Zd (.t rfl)) <| .gy rfl rfl (Zd (.t rfl)) <| .gy rfl rfl (Yf underlying85 sizeOf9 (.t rfl) (.t rfl) (fun _ => by omega)) <| .gy rfl rfl (Yn ⟨isAgg9, sizeOf9⟩ (.t rfl) (fun _ => hkc 0 _ rfl)) <| .gy rfl rfl (Zc (FieldT.mk underlying77 rfl sizeOf9 rfl) (.t rfl) (i' := 0) rfl) <| .gy rfl rfl (Zu ⟨isAgg9, sizeOf9⟩ (.t rfl) (k := 1) rfl rfl) <| .gy rfl rfl (Xi (.t rfl) (.t rfl)) <| .z) fun a S => ?_)))))
               rw [rw_ke] at S
               refine qrun S (.gy rfl rfl (Zd (.t rfl)) <| .gy rfl rfl (Zd (.t rfl)) <| .gy rfl rfl (Zd (.t rfl)) <| .gy rfl rfl (Yf underlying64 sizeOf37 (.t rfl) (.t rfl) (fun _ => by omega)) <| .gy rfl rfl (Yc (FieldT.mk underlying37 rfl sizeOf35 rfl) (.t rfl)) <| .gy rfl rfl (Zp ⟨isAgg35, sizeOf35⟩ (.t rfl) (vs := [_, _]) rfl (fun _ => hctx)) <| .gy rfl rfl (Zc (FieldT.mk underlying77 rfl sizeOf74 rfl) (.t rfl) (i' := 1) rfl) <| .gy rfl rfl (Ye ⟨isAgg74, sizeOf74⟩ (.t rfl) (k := 1) rfl rfl) <| .gx rfl rfl (Zh call77 (.cons (.t rfl) (.cons (.t rfl) .nil)) (fun hp w W => c77 _ _ _ _ _ _ _ (by exact .old W (by assumption)))) <| .z) fun a S => ?_
               rw [rw_R] at S
               rw [rw_cv] at S
               refine qrun S (.gy rfl rfl (Zt (.t rfl) (.t rfl)) <| .yy (Zq (.t rfl) (.t rfl)) rfl <| .as rfl <| .z) fun a S => ?_
               (refine Yv ?_; intro w W; replace S := St.mk S W; clear W)
               refine Zm (Za (hK4 _ _ (wp_region_lit (run S (.mv rfl <| .ad (by unfold I64; omega) rfl <| .as rfl <| .z) fun a w S => Zb (Za ?_)))))
               exact ⟨k + 1, by omega, by omega, by rw [hsn]; exact S.pk⟩
             | false =>
               have rw_cv := hcv
               rw [hcv] at hsn
               refine wp_seq_k fun _ hK4 => sg S (.mv rfl <| .mv rfl <| .ln underlying64 rfl <| .lt (by omega) rfl rfl <| .mv rfl <| .gy rfl rfl (Zd (.t rfl)) <| .gy rfl rfl (Zd (.t rfl)) <| .gy rfl rfl (Xy underlying85 (.t rfl)) <| .gy rfl rfl (Yu (by omega) (Yq (.t rfl) (.t rfl))) <| .yy (Zt (.t rfl) (.t rfl)) rfl <| .z) fun a w S => Zg S (.t rfl) (wp_skip (Za (hK4 _ _ (wp_seq_k fun _ hK4 => wp_block (Zw S (by kernel_rfl) (by kernel_rfl) fun a S => qrun S (.mv rfl <| .mv rfl <| .gy rfl rfl (Zd (.t rfl)) <| .gy rfl rfl (Zd (.t rfl)) <| .gy rfl rfl (Yf underlying85 sizeOf9 (.t rfl) (.t rfl) (fun _ => by omega)) <| .gy rfl rfl (Yn ⟨isAgg9, sizeOf9⟩ (.t rfl) (fun _ => hkc 0 _ rfl)) <| .gy rfl rfl (Zc (FieldT.mk underlying77 rfl sizeOf9 rfl) (.t rfl) (i' := 0) rfl) <| .gy rfl rfl (Zu ⟨isAgg9, sizeOf9⟩ (.t rfl) (k := 1) rfl rfl) <| .gy rfl rfl (Xi (.t rfl) (.t rfl)) <| .z) fun a S => ?_)))))
               rw [rw_ke] at S
               refine qrun S (.gy rfl rfl (Zd (.t rfl)) <| .gy rfl rfl (Zd (.t rfl)) <| .gy rfl rfl (Zd (.t rfl)) <| .gy rfl rfl (Yf underlying64 sizeOf37 (.t rfl) (.t rfl) (fun _ => by omega)) <| .gy rfl rfl (Yc (FieldT.mk underlying37 rfl sizeOf35 rfl) (.t rfl)) <| .gy rfl rfl (Zp ⟨isAgg35, sizeOf35⟩ (.t rfl) (vs := [_, _]) rfl (fun _ => hctx)) <| .gy rfl rfl (Zc (FieldT.mk underlying77 rfl sizeOf74 rfl) (.t rfl) (i' := 1) rfl) <| .gy rfl rfl (Ye ⟨isAgg74, sizeOf74⟩ (.t rfl) (k := 1) rfl rfl) <| .gx rfl rfl (Zh call77 (.cons (.t rfl) (.cons (.t rfl) .nil)) (fun hp w W => c77 _ _ _ _ _ _ _ (by exact .old W (by assumption)))) <| .z) fun a S => ?_
               rw [rw_R] at S
               rw [rw_cv] at S
               refine qrun S (.gy rfl rfl (Zt (.t rfl) (.t rfl)) <| .yy (Zq (.t rfl) (.t rfl)) rfl <| .as rfl <| .z) fun a S => ?_
               (refine Yv ?_; intro w W; replace S := St.mk S W; clear W)
               refine Zm (Za (hK4 _ _ (wp_region_lit (run S (.mv rfl <| .ad (by unfold I64; omega) rfl <| .as rfl <| .z) fun a w S => Zb (Za ?_)))))
               exact ⟨k + 1, by omega, by omega, by rw [hsn]; exact S.pk⟩
           · have rw_ke := decide_eq_false hke
             have hh : heldB x.u.1.key x.u.1.dot (key, c) = false := by unfold heldB; rw [rw_ke]; rfl
             rw [hh] at hsn
             refine wp_seq_k fun _ hK4 => sg S (.mv rfl <| .mv rfl <| .ln underlying64 rfl <| .lt (by omega) rfl rfl <| .mv rfl <| .gy rfl rfl (Zd (.t rfl)) <| .gy rfl rfl (Zd (.t rfl)) <| .gy rfl rfl (Xy underlying85 (.t rfl)) <| .gy rfl rfl (Yu (by omega) (Yq (.t rfl) (.t rfl))) <| .yy (Zt (.t rfl) (.t rfl)) rfl <| .z) fun a w S => Zg S (.t rfl) (wp_skip (Za (hK4 _ _ (wp_seq_k fun _ hK4 => wp_block (Zw S (by kernel_rfl) (by kernel_rfl) fun a S => qrun S (.mv rfl <| .mv rfl <| .gy rfl rfl (Zd (.t rfl)) <| .gy rfl rfl (Zd (.t rfl)) <| .gy rfl rfl (Yf underlying85 sizeOf9 (.t rfl) (.t rfl) (fun _ => by omega)) <| .gy rfl rfl (Yn ⟨isAgg9, sizeOf9⟩ (.t rfl) (fun _ => hkc 0 _ rfl)) <| .gy rfl rfl (Zc (FieldT.mk underlying77 rfl sizeOf9 rfl) (.t rfl) (i' := 0) rfl) <| .gy rfl rfl (Zu ⟨isAgg9, sizeOf9⟩ (.t rfl) (k := 1) rfl rfl) <| .gy rfl rfl (Xi (.t rfl) (.t rfl)) <| .z) fun a S => ?_)))))
             rw [rw_ke] at S
             refine qrun S (.gy rfl rfl (Zd (.t rfl)) <| .sk rfl rfl rfl <| .sk rfl rfl rfl <| .sk rfl rfl rfl <| .sk rfl rfl rfl <| .sk rfl rfl rfl <| .sk rfl rfl rfl <| .sk rfl rfl rfl <| .sk rfl rfl rfl <| .gy rfl rfl (Zq (.t rfl) Ev.c) <| .yy (Zq (.t rfl) (.t rfl)) rfl <| .as rfl <| .z) fun a S => ?_
             (refine Yv ?_; intro w W; replace S := St.mk S W; clear W)
             refine Zm (Za (hK4 _ _ (wp_region_lit (run S (.mv rfl <| .ad (by unfold I64; omega) rfl <| .as rfl <| .z) fun a w S => Zb (Za ?_)))))
             exact ⟨k + 1, by omega, by omega, by rw [hsn]; exact S.pk⟩
       obtain rfl : k = (ks.zip cs).length := by omega
       rw [List.take_length] at S
       have hkey : lostB l ks cs x = !(ks.zip cs).any (heldB x.u.1.key x.u.1.dot) := by unfold lostB; rw [rw_k, rw_y, rw_a, rw_f]; rfl
       rw [hkey] at hst
       by_cases hcl : (ks.zip cs).length < cs.length
       · have hkl : ¬ (ks.zip cs).length < ks.length := by omega
         cases hkp : (ks.zip cs).any (heldB x.u.1.key x.u.1.dot) with
         | true =>
           rw [hkp] at hst S
           rw [if_neg (by decide), List.append_nil] at hst
           refine wp_seq_k fun _ hK4 => sg S (.mv rfl <| .mv rfl <| .ln underlying64 rfl <| .lt (by omega) rfl rfl <| .mv rfl <| .gy rfl rfl (Zd (.t rfl)) <| .gy rfl rfl (Zd (.t rfl)) <| .gy rfl rfl (Xy underlying85 (.t rfl)) <| .gy rfl rfl (Ym (by omega) (Yq (.t rfl) (.t rfl))) <| .yy (Zt (.t rfl) (.t rfl)) rfl <| .z) fun a w S => Zf S (.t rfl) (wp_exit (Zi (Zi (Zy (Za (hK3 _ _ (sg S (.mv rfl <| .nt rfl <| .z) fun a w S => Zf S (.t rfl) (wp_skip (Zm (Za (hK2 _ _ (wp_region_lit (run S (.mv rfl <| .ad (by unfold I64; omega) rfl <| .as rfl <| .z) fun a w S => Zb (Za ?_))))))))))))))
           exact ⟨(i + 1, B, cB), by dsimp only; omega, by dsimp only; omega, by dsimp only; rw [hst]; exact S.pk⟩
         | false =>
           rw [hkp] at hst S
           rw [if_pos (by decide)] at hst
           have rw_d : #[Value.int .i64 x.u.1.dot.node, .int .i64 x.u.1.dot.life, .int .i64 x.u.1.dot.count] = (Dot.enc x.u.1.dot).toArray := rfl
           refine wp_seq_k fun _ hK4 => ?_
           rw [rw_d] at S
           refine wp_seq_k fun _ hK5 => ?_
           rw [rw_d] at S
           refine wp_region_lit ?_
           rw [rw_d] at S
           refine run S (.mv rfl <| .z) fun a w S => ?_
           rw [rw_d] at S
           refine run S (.mv rfl <| .z) fun a w S => ?_
           rw [rw_d] at S
           refine run S (.ln underlying64 rfl <| .z) fun a w S => ?_
           rw [rw_d] at S
           refine run S (.lt (by omega) rfl rfl <| .z) fun a w S => ?_
           rw [rw_d] at S
           refine run S (.mv rfl <| .z) fun a w S => ?_
           rw [rw_d] at S
           refine run S (.gy rfl rfl (Zd (.t rfl)) <| .z) fun a w S => ?_
           rw [rw_d] at S
           refine run S (.gy rfl rfl (Zd (.t rfl)) <| .z) fun a w S => ?_
           rw [rw_d] at S
           refine run S (.gy rfl rfl (Xy underlying85 (.t rfl)) <| .z) fun a w S => ?_
           rw [rw_d] at S
           refine run S (.gy rfl rfl (Ym (by omega) (Yq (.t rfl) (.t rfl))) <| .z) fun a w S => ?_
           rw [rw_d] at S
           refine run S (.yy (Zt (.t rfl) (.t rfl)) rfl <| .z) fun a w S => ?_
           rw [rw_d] at S
           refine Zb ?_
           rw [rw_d] at S
           refine Za (hK5 _ _ ?_)
           rw [rw_d] at S
           refine Zf S (.t rfl) ?_
           rw [rw_d] at S
           refine wp_exit ?_
           rw [rw_d] at S
           refine Zi (Zi (Zy (Za (hK3 _ _ ?_))))
           rw [rw_d] at S
           refine wp_seq_k fun _ hK3 => ?_
           rw [rw_d] at S
           refine wp_region_lit ?_
           rw [rw_d] at S
           refine run S (.mv rfl <| .z) fun a w S => ?_
           rw [rw_d] at S
           refine run S (.nt rfl <| .z) fun a w S => ?_
           rw [rw_d] at S
           refine Zb ?_
           rw [rw_d] at S
           refine Za (hK3 _ _ ?_)
           rw [rw_d] at S
           refine Zg S (.t rfl) ?_
           rw [rw_d] at S
           refine wp_region_lit ?_
           rw [rw_d] at S
           refine run S (.mv rfl <| .z) fun a w S => ?_
           rw [rw_d] at S
           refine run S (.fa underlying77 sizeOf74 1 rfl rfl rfl <| .z) fun a w S => ?_
           rw [rw_d] at S
           refine run S (.la gt74 1 rfl rfl rfl <| .z) fun a w S => ?_
           rw [rw_d] at S
           refine Zk (Yp S underlying33 inf74 rfl rfl rfl (.t rfl) rfl rfl rfl fun g2 a w S => ?_)
           rw [rw_d] at S
           refine Zk (Xp S underlying33 inf74 rfl (k := 3) (j := 0) rfl (.t rfl) (.t rfl) rfl rfl rfl rfl (by first | omega | (simp only [List.length_append, List.length_cons, List.length_nil]; omega)) rfl rfl rfl fun A2 cap1 a w S => ?_)
           rw [rw_d] at S
           refine run S (.as rfl <| .z) fun a w S => ?_
           rw [rw_d] at S
           refine Zb ?_
           rw [rw_d] at S
           refine Zm (Za (hK2 _ _ ?_))
           rw [rw_d] at S
           refine wp_region_lit ?_
           rw [rw_d] at S
           refine run S (.mv rfl <| .z) fun a w S => ?_
           rw [rw_d] at S
           refine run S (.ad (by unfold I64; omega) rfl <| .z) fun a w S => ?_
           rw [rw_d] at S
           refine run S (.as rfl <| .z) fun a w S => ?_
           rw [rw_d] at S
           refine Zb ?_
           rw [rw_d] at S
           refine Za ?_
           rw [rw_d] at S
           exact ⟨(i + 1, A2, cap1), by dsimp only; omega, by dsimp only; omega, by dsimp only; rw [hst]; exact S.pk⟩
       · cases hkp : (ks.zip cs).any (heldB x.u.1.key x.u.1.dot) with
         | true =>
           rw [hkp] at hst S
           rw [if_neg (by decide), List.append_nil] at hst
           refine wp_seq_k fun _ hK4 => sg S (.mv rfl <| .mv rfl <| .ln underlying64 rfl <| .ge (by omega) rfl rfl <| .mv rfl <| .sk rfl rfl rfl <| .sk rfl rfl rfl <| .sk rfl rfl rfl <| .sk rfl rfl rfl <| .yy (Zq (.t rfl) Ev.c) rfl <| .z) fun a w S => Zf S (.t rfl) (wp_exit (Zi (Zi (Zy (Za (hK3 _ _ (sg S (.mv rfl <| .nt rfl <| .z) fun a w S => Zf S (.t rfl) (wp_skip (Zm (Za (hK2 _ _ (wp_region_lit (run S (.mv rfl <| .ad (by unfold I64; omega) rfl <| .as rfl <| .z) fun a w S => Zb (Za ?_))))))))))))))
           exact ⟨(i + 1, B, cB), by dsimp only; omega, by dsimp only; omega, by dsimp only; rw [hst]; exact S.pk⟩
         | false =>
           rw [hkp] at hst S
           rw [if_pos (by decide)] at hst
           have rw_d : #[Value.int .i64 x.u.1.dot.node, .int .i64 x.u.1.dot.life, .int .i64 x.u.1.dot.count] = (Dot.enc x.u.1.dot).toArray := rfl
           refine wp_seq_k fun _ hK4 => ?_
           rw [rw_d] at S
           refine wp_seq_k fun _ hK5 => ?_
           rw [rw_d] at S
           refine wp_region_lit ?_
           rw [rw_d] at S
           refine run S (.mv rfl <| .z) fun a w S => ?_
           rw [rw_d] at S
           refine run S (.mv rfl <| .z) fun a w S => ?_
           rw [rw_d] at S
           refine run S (.ln underlying64 rfl <| .z) fun a w S => ?_
           rw [rw_d] at S
           refine run S (.ge (by omega) rfl rfl <| .z) fun a w S => ?_
           rw [rw_d] at S
           refine run S (.mv rfl <| .z) fun a w S => ?_
           rw [rw_d] at S
           refine run S (.sk rfl rfl rfl <| .z) fun a w S => ?_
           rw [rw_d] at S
           refine run S (.sk rfl rfl rfl <| .z) fun a w S => ?_
           rw [rw_d] at S
           refine run S (.sk rfl rfl rfl <| .z) fun a w S => ?_
           rw [rw_d] at S
           refine run S (.sk rfl rfl rfl <| .z) fun a w S => ?_
           rw [rw_d] at S
           refine run S (.yy (Zq (.t rfl) Ev.c) rfl <| .z) fun a w S => ?_
           rw [rw_d] at S
           refine Zb ?_
           rw [rw_d] at S
           refine Za (hK5 _ _ ?_)
           rw [rw_d] at S
           refine Zf S (.t rfl) ?_
           rw [rw_d] at S
           refine wp_exit ?_
           rw [rw_d] at S
           refine Zi (Zi (Zy (Za (hK3 _ _ ?_))))
           rw [rw_d] at S
           refine wp_seq_k fun _ hK3 => ?_
           rw [rw_d] at S
           refine wp_region_lit ?_
           rw [rw_d] at S
           refine run S (.mv rfl <| .z) fun a w S => ?_
           rw [rw_d] at S
           refine run S (.nt rfl <| .z) fun a w S => ?_
           rw [rw_d] at S
           refine Zb ?_
           rw [rw_d] at S
           refine Za (hK3 _ _ ?_)
           rw [rw_d] at S
           refine Zg S (.t rfl) ?_
           rw [rw_d] at S
           refine wp_region_lit ?_
           rw [rw_d] at S
           refine run S (.mv rfl <| .z) fun a w S => ?_
           rw [rw_d] at S
           refine run S (.fa underlying77 sizeOf74 1 rfl rfl rfl <| .z) fun a w S => ?_
           rw [rw_d] at S
           refine run S (.la gt74 1 rfl rfl rfl <| .z) fun a w S => ?_
           rw [rw_d] at S
           refine Zk (Yp S underlying33 inf74 rfl rfl rfl (.t rfl) rfl rfl rfl fun g2 a w S => ?_)
           rw [rw_d] at S
           refine Zk (Xp S underlying33 inf74 rfl (k := 3) (j := 0) rfl (.t rfl) (.t rfl) rfl rfl rfl rfl (by first | omega | (simp only [List.length_append, List.length_cons, List.length_nil]; omega)) rfl rfl rfl fun A2 cap1 a w S => ?_)
           rw [rw_d] at S
           refine run S (.as rfl <| .z) fun a w S => ?_
           rw [rw_d] at S
           refine Zb ?_
           rw [rw_d] at S
           refine Zm (Za (hK2 _ _ ?_))
           rw [rw_d] at S
           refine wp_region_lit ?_
           rw [rw_d] at S
           refine run S (.mv rfl <| .z) fun a w S => ?_
           rw [rw_d] at S
           refine run S (.ad (by unfold I64; omega) rfl <| .z) fun a w S => ?_
           rw [rw_d] at S
           refine run S (.as rfl <| .z) fun a w S => ?_
           rw [rw_d] at S
           refine Zb ?_
           rw [rw_d] at S
           refine Za ?_
           rw [rw_d] at S
           exact ⟨(i + 1, A2, cap1), by dsimp only; omega, by dsimp only; omega, by dsimp only; rw [hst]; exact S.pk⟩
 obtain rfl : i = l.length := by omega
 rw [List.take_length] at S
 refine wp_seq_k fun _ hK2 => sg S (.mv rfl <| .mv rfl <| .ln underlying84 rfl <| .ge (by omega) rfl rfl <| .z) fun a w S => Zf S (.t rfl) (wp_exit (Zi (Zi (Zy (Za (hK1 _ _ (sg S (.mv rfl <| .as rfl <| .z) fun a w S => wp_ret (Zj S (results1 S results48 (Rv.tmp rfl)) ?_))))))))
 exact ⟨_, _, rfl, S.wd.pk, B, cB, rfl, rfl⟩
end Go.Proofs.YtakpdbmdfnialaaGreat
namespace Go.Fw
open Go.RowKit
abbrev kvS : List UInt8 → Value := fun k => .string (bs k)
theorem bs_eqb (k x : List UInt8) : (bs k == bs x) = decide (k = x) := by
 have : (bs k == bs x) = (k.toArray == x.toArray) := rfl
 rw [this, Bool.eq_iff_iff, decide_eq_true_eq]
 simp
theorem keyS {P : Program} {kt : TypeId} (h : P.underlying kt = some .string) : KeyL kvS P kt := by
 have hf : ∀ (k : List UInt8) (β : Type) (vv : β → Value) (l : List (List UInt8 × β)) (i : Nat), Instr.findNow .string (.string (bs k)) (mL kvS vv i l) i = some ((afind k i l).map fun p => (p.1, vv p.2)) := by
   intro k β vv l
   induction l with
   | nil => intro i; simp [mL, Instr.findNow, afind]
   | cons p r ih =>
     intro i
     obtain ⟨x, v⟩ := p
     rw [mL, Instr.findNow, Instr.sameNow, bs_eqb]
     unfold afind
     by_cases e : k = x
     · subst e
       rw [decide_eq_true rfl]
       simp
     · rw [decide_eq_false e, if_neg e]
       exact ih (i + 1)
 refine ⟨fun k β vv l w => ?_, fun b k w => ?_, fun k => ?_, fun k k' e => by simpa [bs_inj] using e⟩
 · simp [Instr.findKey, run_underlying h, hf k β vv l 0]
 · have hc : ∀ m, (Instr.checkKey b (m + 1) kt (.string (bs k))).run P w = .ok () w := fun m => by
     simp only [Instr.checkKey, Sem.run_bind, run_underlying h, Result.andThen_ok]
     rfl
   exact hc 9999
 · show (bs k == bs k) = true
   rw [bs_eqb, decide_eq_true rfl]
abbrev HV := Option Addr × Nat × List SCart
abbrev vvH : HV → Value := fun v => .slice v.1 v.2.2.length v.2.1
abbrev zH : HV := (none, 0, [])
abbrev rowH (e : TypeId) (p : List UInt8 × HV) : Chunk := rowOf e 3 SCart.enc p.2.1 p.2.2.1 p.2.2.2
theorem held_pull (e : TypeId) (m : List (List UInt8 × HV)) (k : List UInt8) : ∃ T, ((∃ v, aget m k = some v ∧ (m.map (rowH e)).Perm (rowH e (k, v) :: T)) ∨ (aget m k = none ∧ m.map (rowH e) = T)) ∧ ∀ v', ((aput m k v').map (rowH e)).Perm (rowH e (k, v') :: T) := by
 have hg := afind_get m k 0
 cases h : afind k 0 m with
 | none =>
   rw [h] at hg
   refine ⟨m.map (rowH e), .inr ⟨hg.symm, rfl⟩, fun v' => ?_⟩
   rw [aput_none h, List.map_append]
   exact List.perm_append_comm
 | some q =>
   obtain ⟨j, v⟩ := q
   rw [h] at hg
   have h1 := afind_some h
   simp only [Nat.sub_zero] at h1
   have hj : j < m.length := (List.getElem?_eq_some_iff.1 h1.2).1
   refine ⟨(m.eraseIdx j).map (rowH e), .inl ⟨v, hg.symm, ?_⟩, fun v' => ?_⟩
   · exact (perm_pull h1.2).map (rowH e)
   · rw [aput_some h, Nat.sub_zero]
     have h2 : (m.set j (k, v'))[j]? = some (k, v') := by rw [List.getElem?_set_self hj]
     have h3 := (perm_pull h2).map (rowH e)
     rw [List.eraseIdx_set_eq] at h3
     exact h3
def ofKey (z : List (List UInt8 × SCart)) (k : List UInt8) : List SCart := (z.filter fun p => decide (p.1 = k)).map (·.2)
def HeldOk (m : List (List UInt8 × HV)) (z : List (List UInt8 × SCart)) : Prop := ∀ k, ((aget m k).getD zH).2.2 = ofKey z k
theorem held_put {m : List (List UInt8 × HV)} {z : List (List UInt8 × SCart)} {i : Nat} {k : List UInt8} {c : SCart} {A : Option Addr} {cap : Nat} (h : HeldOk m (z.take i)) (hz : z[i]? = some (k, c)) : HeldOk (aput m k (A, cap, ((aget m k).getD zH).2.2 ++ [c])) (z.take (i + 1)) := fun k' => by
 rw [aget_put]
 unfold ofKey
 rw [List.take_add_one, hz, Option.toList_some, List.filter_append, List.map_append, List.filter_cons, List.filter_nil]
 by_cases e : k' = k
 · subst e
   rw [if_pos rfl, if_pos (decide_eq_true rfl), h k']
   rfl
 · rw [if_neg e, if_neg (by rw [decide_eq_false (fun e' => e e'.symm)]; decide), h k']
   simp [ofKey]
theorem ofKey_len (z : List (List UInt8 × SCart)) (k : List UInt8) : (ofKey z k).length ≤ z.length := by
 unfold ofKey
 rw [List.length_map]
 exact List.length_filter_le _ _
theorem ofKey_any (z : List (List UInt8 × SCart)) (k : List UInt8) (d : Dot) : ((ofKey z k).any fun c => c.1.ctx.covers d) = z.any (heldB k d) := by
 unfold ofKey
 rw [List.any_map, List.any_filter]
 rfl
theorem ofKey_mem {ks : List (List UInt8)} {cs : List SCart} {k : List UInt8} {c : SCart} (h : c ∈ ofKey (ks.zip cs) k) : c ∈ cs := by
 obtain ⟨p, hp, rfl⟩ := List.mem_map.1 h
 exact (List.of_mem_zip (List.mem_filter.1 hp).1).2
theorem aget_mem {β : Type} {m : List (List UInt8 × β)} {k : List UInt8} {v : β} (h : aget m k = some v) : ∃ j : Nat, m[j]? = some (k, v) := by
 have hg := afind_get m k 0
 cases h2 : afind k 0 m with
 | none => rw [h2, h] at hg; cases hg
 | some q =>
   obtain ⟨j, u⟩ := q
   rw [h2, h] at hg
   simp only [Option.map_some, Option.some.injEq] at hg
   subst hg
   have h1 := afind_some h2
   simp only [Nat.sub_zero] at h1
   exact ⟨j, h1.2⟩
theorem held_freeze {w0 w : World} {L : List Chunk} {e : TypeId} {m : List (List UInt8 × HV)} (W : Wd w0 (m.map (rowH e) ++ L) w) : ∃ w1 bs, Wd w0 (.ice w1 bs :: L) w ∧ ∀ k, SlIn SCart.enc 3 w1 bs (vvH ((aget m k).getD zH)) ((aget m k).getD zH).2.2 := by
 refine ⟨w, _, Wd.freeze W, fun k => ?_⟩
 cases h : aget m k with
 | none => exact SlIn.nil_ (c := 0)
 | some v =>
   obtain ⟨j, hj⟩ := aget_mem h
   have hk : (m.map (rowH e) ++ L)[j]? = some (rowH e (k, v)) := by
     have hjl : j < m.length := (List.getElem?_eq_some_iff.1 hj).1
     rw [List.getElem?_append_left (by rw [List.length_map]; exact hjl), List.getElem?_map, hj]
     rfl
   exact SlIn.row W (k := j) hk (fun _ => rfl) fun b hb => List.mem_flatMap.2 ⟨_, List.mem_map.2 ⟨_, List.mem_of_getElem? hj, rfl⟩, hb⟩
theorem held_row {n : Nat} {w0 w : World} {K : KL} {a : Act} {X Y Z : Chunk} {e : TypeId} {m : List (List UInt8 × HV)} (S : St n w0 K (X :: Y :: Z :: m.map (rowH e)) a w) (k : List UInt8) :
   ∃ T, St n w0 K (rowH e (k, (aget m k).getD zH) :: X :: Y :: Z :: T) a w ∧ ∀ v', ((aput m k v').map (rowH e)).Perm (rowH e (k, v') :: T) := by
 obtain ⟨T, h1, h2⟩ := held_pull e m k
 refine ⟨T, ?_, h2⟩
 rcases h1 with ⟨v, hv, hp⟩ | ⟨hv, hp⟩
 · rw [hv]
   exact S.perm ((((hp.cons Z).cons Y).cons X).trans (List.perm_middle (l₁ := [X, Y, Z])))
 · rw [hv, ← hp]
   exact S.nil_ e 3 SCart.enc none
def AckOk (m : List (Int × Unit)) (l : List SLog) : Prop := ∀ n, (aget m n).isSome = ackedK l n
theorem ack_put {m : List (Int × Unit)} {l : List SLog} {i : Nat} {x : SLog} (h : AckOk m (l.take i)) (hx : l[i]? = some x) (hk : x.kind = 2) : AckOk (aput m x.ask ()) (l.take (i + 1)) := fun n => by
 have h1 := h n
 unfold ackedK at h1 ⊢
 rw [any_snoc hx, ← h1, aget_put]
 unfold ackedB
 rw [decide_eq_true hk]
 by_cases e : n = x.ask
 · rw [if_pos e, decide_eq_true e.symm]; simp
 · rw [if_neg e, decide_eq_false (fun e' => e e'.symm)]; simp
theorem ack_skip {m : List (Int × Unit)} {l : List SLog} {i : Nat} {x : SLog} (h : AckOk m (l.take i)) (hx : l[i]? = some x) (hk : ¬ x.kind = 2) : AckOk m (l.take (i + 1)) := fun n => by
 have h1 := h n
 unfold ackedK at h1 ⊢
 rw [any_snoc hx, ← h1]
 unfold ackedB
 rw [decide_eq_false hk]; simp
end Go.Fw
namespace Go.Proofs.YtakpdbmdfnialaaGreat
open Go.Fw Go.Proofs Go.RowKit Go.Proofs.Tryz
abbrev kv159 : Int → Value := fun x => .int .i64 x
abbrev vv159 : Unit → Value := fun _ => .agg #[]
theorem mapT159 : MapT kv159 vv159 Tryz.prog 159 () := mapT_mk underlying159 (keyI underlying3) zeroValue144
abbrev kv160 : List UInt8 → Value := kvS
abbrev vv160 : HV → Value := vvH
theorem mapT160 : MapT kv160 vv160 Tryz.prog 160 zH := mapT_mk underlying160 (keyS underlying9) zeroValue64
theorem c47 (w0 : World) (v v' v'' : Value) (l : List SLog) (ks : List (List UInt8)) (cs : List SCart) (h : Sl SLog.enc 22 w0 w0.heap.size v l) (hl : LogsRd w0 l) (hn : l.length ≤ 1048576) (hok : ∀ p ∈ l, CartOk p.c.1) (h' : Sl encS' 1 w0 w0.heap.size v' ks) (h'' : Sl SCart.enc 3 w0 w0.heap.size v'' cs) (hc : CartsRd w0 cs) (hn2 : cs.length ≤ 1048576) :
   Rets Tryz.prog 47 #[v, v', v''] w0 fun u L => ∃ A r, u = .slice A (lostK l ks cs l).length r ∧ L = [rowOf 74 3 Dot.enc A r (lostK l ks cs l)] := by
 have hs := h
 obtain ⟨A, cap, rfl, hl0, hcap, hA⟩ := h
 obtain ⟨A', cap', rfl, hl0', hcap', hA'⟩ := h'
 obtain ⟨A'', cap'', rfl, hl0'', hcap'', hA''⟩ := h''
 unfold Go.Fw.Rets
 refine enter3 func47 rfl ntmps47 rfl fun a S => sg S (.ac rfl <| .z) fun a w S => wp_seq_k fun _ hK1 => wp_region_lit (Zk (op_makeMap kv159 vv159 S rfl fun g1 a w S => run S (.as rfl <| .z) fun a w S => Zb (Za (hK1 _ _ (wp_seq_k fun _ hK1 => sg S (.mv rfl <| .ln underlying84 rfl <| .mc rfl <| .z) fun a w S => wp_block ?_)))))
 refine Xe S [21] (X := Nat × List (Int × Unit)) (fun q => [(21, true, .int .i64 (q.1 : Int))]) (fun q => [.blk g1 (mapK kv159 vv159 q.2)]) (fun q => q.1 ≤ l.length ∧ AckOk q.2 (l.take q.1)) (fun q => l.length - q.1) (0, []) ⟨Nat.zero_le _, fun n => rfl⟩ ?_
 clear S
 rintro ⟨i, M⟩ a w ⟨hi, hM⟩ S
 dsimp only at hi hM S
 by_cases hlt : i < l.length
 · obtain ⟨gq, oq, x, rfl, hx, hd, hcx⟩ := Yk hA hlt
   by_cases hk : x.kind = 2
   · have rw_k := decide_eq_true hk
     refine sg S (.lt (by omega) rfl rfl <| .z) fun a w S => wp_seq_k fun _ hK2 => Zg S (.t rfl) (wp_skip (Za (hK2 _ _ (wp_seq_k fun _ hK2 => wp_block (wp_seq_k fun _ hK3 => wp_region_lit (run S (.ix underlying84 sizeOf96 (by omega) rfl rfl <| .yy (Zp ⟨isAgg96, sizeOf96⟩ (.t rfl) (vs := [_, _, _, _, _, _, _, _, _, _, _, _, _, _, _, _, _, _, _, _, _, _]) rfl (fun _ => hcx)) rfl <| .z) fun a w S => Zk (Zn S zeroValue96 (cs := _) rfl rfl fun g2 a w S => Zk (Zv S sizeOf96 (.t rfl) (.t rfl) (k := 0) rfl rfl rfl (by simp [Value.oneCell']) fun a w S => Zb (Za (hK3 _ _ (sg S (.fa underlying96 sizeOf3 0 rfl rfl rfl <| .ld gt3 0 rfl rfl rfl <| .yy (Yu (by omega) (Yd (.t rfl) Ev.c)) rfl <| .z) fun a w S => Zg S (.t rfl) (wp_region_lit (run S (.mv rfl <| .fa underlying96 sizeOf3 2 rfl rfl rfl <| .ld gt3 0 rfl rfl rfl <| .yy (Xj (ps := []) (us := []) bld144 .nil rfl) rfl <| .z) fun a w S => Zk (op_mapUpd (k := x.ask) (v := ()) S mapT159 (.t rfl) (.t rfl) (.t rfl) (j := 1) rfl ?_))))))))))))))
     clear S a w
     intro a w S
     refine Zb (Zm (Za (hK2 _ _ (wp_region_lit (run S (.ad (by unfold I64; omega) rfl <| .mv rfl <| .z) fun a w S => Zb (Za ?_))))))
     exact ⟨(i + 1, aput M x.ask ()), ⟨by dsimp only; omega, ack_put hM hx hk⟩, by dsimp only; omega, S.pk⟩
   · have rw_k := decide_eq_false hk
     refine sg S (.lt (by omega) rfl rfl <| .z) fun a w S => wp_seq_k fun _ hK2 => Zg S (.t rfl) (wp_skip (Za (hK2 _ _ (wp_seq_k fun _ hK2 => wp_block (wp_seq_k fun _ hK3 => wp_region_lit (run S (.ix underlying84 sizeOf96 (by omega) rfl rfl <| .yy (Zp ⟨isAgg96, sizeOf96⟩ (.t rfl) (vs := [_, _, _, _, _, _, _, _, _, _, _, _, _, _, _, _, _, _, _, _, _, _]) rfl (fun _ => hcx)) rfl <| .z) fun a w S => Zk (Zn S zeroValue96 (cs := _) rfl rfl fun g2 a w S => Zk (Zv S sizeOf96 (.t rfl) (.t rfl) (k := 0) rfl rfl rfl (by simp [Value.oneCell']) fun a w S => Zb (Za (hK3 _ _ (sg S (.fa underlying96 sizeOf3 0 rfl rfl rfl <| .ld gt3 0 rfl rfl rfl <| .yy (Ym (by omega) (Yd (.t rfl) Ev.c)) rfl <| .z) fun a w S => Zf S (.t rfl) (wp_skip (Zm (Za (hK2 _ _ (wp_region_lit (run S (.ad (by unfold I64; omega) rfl <| .mv rfl <| .z) fun a w S => Zb (Za ?_))))))))))))))))))
     exact ⟨(i + 1, M), ⟨by dsimp only; omega, ack_skip hM hx hk⟩, by dsimp only; omega, S.pk⟩
 obtain rfl : i = l.length := by omega
 rw [List.take_length] at hM
 clear hi
 refine sg S (.ge (by omega) rfl rfl <| .z) fun a w S => wp_seq_k fun _ hK2 => Zf S (.t rfl) (wp_exit (Zi (Zi (Zy (Za (hK1 _ _ (wp_seq_k fun _ hK1 => wp_region_lit (Zk (op_makeMap kv160 vv160 S rfl fun g2 a w S => run S (.as rfl <| .z) fun a w S => Zb (Za (hK1 _ _ (wp_seq_k fun _ hK1 => sg S (.mv rfl <| .ln underlying64 rfl <| .mc rfl <| .z) fun a w S => wp_block ?_))))))))))))
 refine Xe S [36] (X := Nat × List (List UInt8 × HV)) (fun q => [(36, true, .int .i64 (q.1 : Int))]) (fun q => .blk g2 (mapK kv160 vv160 q.2) :: .blk g1 (mapK kv159 vv159 M) :: q.2.map (rowH 37)) (fun q => q.1 ≤ cs.length ∧ HeldOk q.2 ((ks.zip cs).take q.1)) (fun q => cs.length - q.1) (0, []) ⟨Nat.zero_le _, fun k => rfl⟩ ?_
 clear S
 rintro ⟨i, m⟩ a w ⟨hi, hm⟩ S
 dsimp only at hi hm S
 obtain ⟨hz1, hz2, hz3⟩ := zip_len ks cs
 by_cases hlt : i < cs.length
 · obtain ⟨gq, oq, c, rfl, hx, hd, hcx⟩ := Yk hA'' hlt
   by_cases hki : i < ks.length
   · obtain ⟨gk, ok, key, rfl, hkx, hkd, hkc⟩ := Yk hA' hki
     have hof := ofKey_len ((ks.zip cs).take i) key
     rw [List.length_take] at hof
     rw [← hm key] at hof
     have hput := fun A cap => held_put (A := A) (cap := cap) hm (zip_at hkx hx)
     have halt_d := trivial
     refine sg S (.lt (by omega) rfl rfl <| .z) fun a w S => wp_seq_k fun _ hK3 => Zg S (.t rfl) (wp_skip (Za (hK3 _ _ (wp_seq_k fun _ hK3 => wp_block (wp_seq_k fun _ hK4 => wp_region_lit (run S (.mv rfl <| .ix underlying64 sizeOf37 (by omega) rfl rfl <| .yy (Zp ⟨isAgg37, sizeOf37⟩ (.t rfl) (vs := [_, _, _]) rfl (fun _ => hcx)) rfl <| .z) fun a w S => Zk (Zn S zeroValue37 (cs := _) rfl rfl fun g3 a w S => run S (.as rfl <| .z) fun a w S => Zk (Zv S sizeOf37 (.t rfl) (.t rfl) (k := 0) rfl rfl rfl (by simp [Value.oneCell']) fun a w S => Zb (Za (hK4 _ _ (sg S (.mv rfl <| .mv rfl <| .ln underlying85 rfl <| .lt (by omega) rfl rfl <| .z) fun a w S => Zg S (.t rfl) ?_)))))))))))
     clear halt_d
     obtain ⟨T, S', hT⟩ := held_row S key
     clear S
     have S := S'
     clear S'
     obtain ⟨⟨A4, c4, l4⟩, hv⟩ : ∃ v, (aget m key).getD zH = v := ⟨_, rfl⟩
     rw [hv] at S hof hput
     dsimp only at hof hput
     have rw_v : vv160 ((aget m key).getD zH) = .slice A4 l4.length c4 := by rw [hv]
     replace S : St _ _ _ (rowOf 37 3 SCart.enc A4 c4 l4 :: _) _ _ := S
     refine h_begin S (by kernel_rfl) [.blk g3 (.cells (SCart.enc c).toArray 37)] ?_
     clear S
     intro a w S
     have hold_r := trivial
     refine hy 0 S rfl (Zd (.t rfl)) rfl fun a w S => hy 1 S rfl (Zd (.t rfl)) rfl fun a w S => hy 2 S rfl (Zd (.t rfl)) rfl fun a w S => hy 3 S rfl (Yf underlying85 sizeOf9 (.t rfl) (.t rfl) (fun _ => by omega)) rfl fun a w S => hy 4 S rfl (Yn ⟨isAgg9, sizeOf9⟩ (.t rfl) (fun _ => hkc 0 _ rfl)) rfl fun a w S => ?_
     refine hy 5 S rfl (Zd (.t rfl)) rfl fun a w S => hy 6 S rfl (Zd (.t rfl)) rfl fun a w S => hy 7 S rfl (Zd (.t rfl)) rfl fun a w S => hy 8 S rfl (Yf underlying85 sizeOf9 (.t rfl) (.t rfl) (fun _ => by omega)) rfl fun a w S => hy 9 S rfl (Yn ⟨isAgg9, sizeOf9⟩ (.t rfl) (fun _ => hkc 0 _ rfl)) rfl fun a w S => ?_
     refine hy 11 S rfl (Ye ⟨isAgg37, sizeOf37⟩ (.t rfl) (k := 0) rfl rfl) rfl fun a w S => ?_
     refine Xz (i := 10) (j := 12) (by kernel_rfl) rfl rfl ?_ ?_
     (refine op_y S (Yr.ys (ys_look mapT160 (.t rfl) (.t rfl) (j := 2) rfl)) rfl ?_; clear S a w; intro a w S; refine Yi S ?_)
     rw [rw_v] at S
     (refine h_m (i := 12) rfl (by kernel_rfl) (Yp S underlying64 inf37 rfl rfl rfl (.t rfl) rfl rfl rfl ?_); clear S a w; intro g4 a w S; refine Yi S ?_)
     (refine h_m (i := 13) rfl (by kernel_rfl) (Xp S underlying64 inf37 rfl (k := 1) (j := 0) rfl (.t rfl) (.t rfl) rfl rfl rfl rfl (by first | omega | (simp only [List.length_append, List.length_cons, List.length_nil]; omega)) rfl rfl rfl ?_); clear S a w; intro A1 cap1 a w S; refine Yi S ?_)
     rotate_left
     (refine Yp S underlying64 inf37 rfl rfl rfl (.t rfl) rfl rfl rfl ?_; clear S a w; intro g4 a w S; refine Yi S ?_)
     refine h_q (i := 10) S (by repeat (first | exact List.Sublist.refl _ | exact List.nil_sublist _ | refine .cons_cons _ ?_ | refine .cons _ ?_)) rfl (by kernel_rfl) (Yr.ys (ys_look mapT160 (.t rfl) (.t rfl) (j := 3) rfl)) rfl fun a w S => ?_
     rw [rw_v] at S
     (refine h_m (i := 13) rfl (by kernel_rfl) (Xp S underlying64 inf37 rfl (k := 1) (j := 0) rfl (.t rfl) (.t rfl) rfl rfl rfl rfl (by first | omega | (simp only [List.length_append, List.length_cons, List.length_nil]; omega)) rfl rfl rfl ?_); clear S a w; intro A1 cap1 a w S; refine Yi S ?_)
     rotate_left
     · refine Xq (i := 14) rfl (by kernel_rfl) (op_mapUpd (k := key) (v := (A1, cap1, l4 ++ [c])) S mapT160 (.t rfl) (.t rfl) (.t rfl) (j := 3) rfl ?_)
       clear S
       intro a w S
       refine Yi S ?_
       refine Yz (by kernel_rfl) (Zm (Za (hK3 _ _ (wp_region_lit (run S (.ad (by unfold I64; omega) rfl <| .mv rfl <| .z) fun a w S => Zb (Za ?_))))))
       exact ⟨(i + 1, aput m key (A1, cap1, l4 ++ [c])), ⟨by dsimp only; omega, hput A1 cap1⟩, by dsimp only; omega, (S.pk (L' := .blk g2 (mapK kv160 vv160 (aput m key (A1, cap1, l4 ++ [c]))) :: .blk g1 (mapK kv159 vv159 M) :: rowH 37 (key, (A1, cap1, l4 ++ [c])) :: T)).perm (((hT _).symm.cons _).cons _)⟩
     · refine Xq (i := 14) rfl (by kernel_rfl) (op_mapUpd (k := key) (v := (A1, cap1, l4 ++ [c])) S mapT160 (.t rfl) (.t rfl) (.t rfl) (j := 3) rfl ?_)
       clear S
       intro a w S
       refine Yi S ?_
       refine Yz (by kernel_rfl) (Zm (Za (hK3 _ _ (wp_region_lit (run S (.ad (by unfold I64; omega) rfl <| .mv rfl <| .z) fun a w S => Zb (Za ?_))))))
       exact ⟨(i + 1, aput m key (A1, cap1, l4 ++ [c])), ⟨by dsimp only; omega, hput A1 cap1⟩, by dsimp only; omega, (S.pk (L' := .blk g2 (mapK kv160 vv160 (aput m key (A1, cap1, l4 ++ [c]))) :: .blk g1 (mapK kv159 vv159 M) :: rowH 37 (key, (A1, cap1, l4 ++ [c])) :: T)).perm (((hT _).symm.cons _).cons _)⟩
   · have hst : (ks.zip cs).take (i + 1) = (ks.zip cs).take i := by rw [List.take_of_length_le (by omega), List.take_of_length_le (by omega)]
     refine sg S (.lt (by omega) rfl rfl <| .z) fun a w S => wp_seq_k fun _ hK3 => Zg S (.t rfl) (wp_skip (Za (hK3 _ _ (wp_seq_k fun _ hK3 => wp_block (wp_seq_k fun _ hK4 => wp_region_lit (run S (.mv rfl <| .ix underlying64 sizeOf37 (by omega) rfl rfl <| .yy (Zp ⟨isAgg37, sizeOf37⟩ (.t rfl) (vs := [_, _, _]) rfl (fun _ => hcx)) rfl <| .z) fun a w S => Zk (Zn S zeroValue37 (cs := _) rfl rfl fun g3 a w S => run S (.as rfl <| .z) fun a w S => Zk (Zv S sizeOf37 (.t rfl) (.t rfl) (k := 0) rfl rfl rfl (by simp [Value.oneCell']) fun a w S => Zb (Za (hK4 _ _ (sg S (.mv rfl <| .mv rfl <| .ln underlying85 rfl <| .ge (by omega) rfl rfl <| .z) fun a w S => Zf S (.t rfl) (wp_skip (Zm (Za (hK3 _ _ (wp_region_lit (run S (.ad (by unfold I64; omega) rfl <| .mv rfl <| .z) fun a w S => Zb (Za ?_))))))))))))))))))
     exact ⟨(i + 1, m), ⟨by dsimp only; omega, by dsimp only; rw [hst]; exact hm⟩, by dsimp only; omega, S.pk⟩
 obtain rfl : i = cs.length := by omega
 rw [List.take_of_length_le (by omega)] at hm
 clear hi
 have W0 := S.wd.perm (L' := m.map (rowH 37) ++ [.blk g2 (mapK kv160 vv160 m), .blk g1 (mapK kv159 vv159 M)]) (by
   have := List.perm_append_comm (l₁ := [Chunk.blk g2 (mapK kv160 vv160 m), Chunk.blk g1 (mapK kv159 vv159 M)]) (l₂ := m.map (rowH 37))
   exact this)
 obtain ⟨w1, bs, W2, hH⟩ := held_freeze W0
 clear W0
 replace S := St.mk S.kn W2
 clear W2
 refine sg S (.ge (by omega) rfl rfl <| .z) fun a w S => wp_seq_k fun _ hK3 => Zf S (.t rfl) (wp_exit (Zi (Zi (Zy (Za (hK1 _ _ (sg S (.ac rfl <| .z) fun a w S => wp_seq_k fun _ hK1 => sg S (.mv rfl <| .ln underlying84 rfl <| .mc rfl <| .z) fun a w S => wp_block ?_)))))))
 replace S := S.nil_ 74 3 Dot.enc none
 refine Xe S [13, 62] (X := Nat × Option Addr × Nat) (fun q => [(13, true, .slice q.2.1 (lostK l ks cs (l.take q.1)).length q.2.2), (62, true, .int .i64 (q.1 : Int))])
   (fun q => [rowOf 74 3 Dot.enc q.2.1 q.2.2 (lostK l ks cs (l.take q.1)), .ice w1 bs, .blk g2 (mapK kv160 vv160 m), .blk g1 (mapK kv159 vv159 M)]) (fun q => q.1 ≤ l.length) (fun q => l.length - q.1) (0, none, 0) (Nat.zero_le _) ?_
 clear S
 rintro ⟨i, B, cB⟩ a w hi S
 dsimp only at hi S
 have hgl := lost_len l (l.take i) ks cs
 rw [List.length_take] at hgl
 by_cases hlt : i < l.length
 · obtain ⟨gq, oq, x, rfl, hx, hd, hcx⟩ := Yk hA hlt
   have hst := lost_snoc (l := l) (ks := ks) (cs := cs) hx
   have hxr := hl x (List.mem_of_getElem? hx)
   have hky := ofKey_any (ks.zip cs) x.u.1.key x.u.1.dot
   have rw_g := hM x.ask
   have rw_u : vv159 ((aget M x.ask).getD ()) = .agg #[] := rfl
   generalize lostK l ks cs (l.take i) = G at *
   by_cases hk : x.kind = 1
   rotate_left
   · have rw_k := decide_eq_false hk
     have rw_k2 : decide (x.kind ≠ 1) = true := decide_eq_true hk
     rw [show lostB l ks cs x = false by unfold lostB; rw [rw_k]; rfl, if_neg (by decide), List.append_nil] at hst
     refine sg S (.lt (by omega) rfl rfl <| .z) fun a w S => wp_seq_k fun _ hK4 => Zg S (.t rfl) (wp_skip (Za (hK4 _ _ (wp_seq_k fun _ hK4 => wp_block (wp_seq_k fun _ hK5 => wp_region_lit (run S (.ix underlying84 sizeOf96 (by omega) rfl rfl <| .yy (Zp ⟨isAgg96, sizeOf96⟩ (.t rfl) (vs := [_, _, _, _, _, _, _, _, _, _, _, _, _, _, _, _, _, _, _, _, _, _]) rfl (fun _ => hcx)) rfl <| .z) fun a w S => Zk (Zn S zeroValue96 (cs := _) rfl rfl fun g3 a w S => Zk (Zv S sizeOf96 (.t rfl) (.t rfl) (k := 0) rfl rfl rfl (by simp [Value.oneCell']) fun a w S => Zb (Za (hK5 _ _ (wp_seq_k fun _ hK5 => wp_region_lit (run S (.mv rfl <| .fa underlying96 sizeOf3 2 rfl rfl rfl <| .ld gt3 0 rfl rfl rfl <| .yy (ys_lookOk mapT159 (.t rfl) (.t rfl) (j := 4) rfl) rfl <| .z) fun a w S => ?_))))))))))))
     rw [rw_g] at S
     rw [rw_u] at S
     refine run S (.mv rfl <| .ex rfl rfl <| .ex rfl rfl <| .z) fun a w S => Zk (Zn S zeroValue144 (cs := _) rfl rfl fun g4 a w S => Zk (Zv S sizeOf144 (.t rfl) (.t rfl) (k := 0) rfl rfl rfl (by simp [Value.oneCell']) fun a w S => run S (.as rfl <| .z) fun a w S => Zb (Za (hK5 _ _ (wp_seq_k fun _ hK5 => sg S (.fa underlying96 sizeOf3 0 rfl rfl rfl <| .ld gt3 1 rfl rfl rfl <| .yy (Yu (by omega) (Yt (.t rfl) Ev.c)) rfl <| .mv rfl <| .sk rfl rfl rfl <| .sk rfl rfl rfl <| .sk rfl rfl rfl <| .yy (Zt (.t rfl) Ev.c) rfl <| .mv rfl <| .sk rfl rfl rfl <| .sk rfl rfl rfl <| .yy (Zt (.t rfl) Ev.c) rfl <| .z) fun a w S => Zg S (.t rfl) (wp_exit (Zi (Zy (Za (hK4 _ _ (wp_region_lit (run S (.ad (by unfold I64; omega) rfl <| .mv rfl <| .z) fun a w S => Zb (Za ?_)))))))))))))
     exact ⟨(i + 1, B, cB), by dsimp only; omega, by dsimp only; omega, by dsimp only; rw [hst]; exact S.pk⟩
   have rw_k := decide_eq_true hk
   have rw_k2 : decide (x.kind ≠ 1) = false := decide_eq_false (fun e => e hk)
   by_cases hy9 : x.ask = 0
   · have rw_y := decide_eq_true hy9
     rw [show lostB l ks cs x = false by unfold lostB; rw [rw_y, Bool.not_true, Bool.and_false]; rfl, if_neg (by decide), List.append_nil] at hst
     refine sg S (.lt (by omega) rfl rfl <| .z) fun a w S => wp_seq_k fun _ hK4 => Zg S (.t rfl) (wp_skip (Za (hK4 _ _ (wp_seq_k fun _ hK4 => wp_block (wp_seq_k fun _ hK5 => wp_region_lit (run S (.ix underlying84 sizeOf96 (by omega) rfl rfl <| .yy (Zp ⟨isAgg96, sizeOf96⟩ (.t rfl) (vs := [_, _, _, _, _, _, _, _, _, _, _, _, _, _, _, _, _, _, _, _, _, _]) rfl (fun _ => hcx)) rfl <| .z) fun a w S => Zk (Zn S zeroValue96 (cs := _) rfl rfl fun g3 a w S => Zk (Zv S sizeOf96 (.t rfl) (.t rfl) (k := 0) rfl rfl rfl (by simp [Value.oneCell']) fun a w S => Zb (Za (hK5 _ _ (wp_seq_k fun _ hK5 => wp_region_lit (run S (.mv rfl <| .fa underlying96 sizeOf3 2 rfl rfl rfl <| .ld gt3 0 rfl rfl rfl <| .yy (ys_lookOk mapT159 (.t rfl) (.t rfl) (j := 4) rfl) rfl <| .z) fun a w S => ?_))))))))))))
     rw [rw_g] at S
     rw [rw_u] at S
     refine run S (.mv rfl <| .ex rfl rfl <| .ex rfl rfl <| .z) fun a w S => Zk (Zn S zeroValue144 (cs := _) rfl rfl fun g4 a w S => Zk (Zv S sizeOf144 (.t rfl) (.t rfl) (k := 0) rfl rfl rfl (by simp [Value.oneCell']) fun a w S => run S (.as rfl <| .z) fun a w S => Zb (Za (hK5 _ _ (wp_seq_k fun _ hK5 => sg S (.fa underlying96 sizeOf3 0 rfl rfl rfl <| .ld gt3 1 rfl rfl rfl <| .yy (Ym (by omega) (Yt (.t rfl) Ev.c)) rfl <| .mv rfl <| .gy rfl rfl (Zc (FieldT.mk underlying96 rfl sizeOf3 rfl) (.t rfl) (i' := 2) rfl) <| .gy rfl rfl (Zu ⟨isAgg3, sizeOf3⟩ (.t rfl) (k := 1) rfl rfl) <| .gy rfl rfl (Yu (by omega) (Yd (.t rfl) Ev.c)) <| .yy (Zq (.t rfl) (.t rfl)) rfl <| .mv rfl <| .sk rfl rfl rfl <| .sk rfl rfl rfl <| .yy (Zt (.t rfl) Ev.c) rfl <| .z) fun a w S => Zg S (.t rfl) (wp_exit (Zi (Zy (Za (hK4 _ _ (wp_region_lit (run S (.ad (by unfold I64; omega) rfl <| .mv rfl <| .z) fun a w S => Zb (Za ?_)))))))))))))
     exact ⟨(i + 1, B, cB), by dsimp only; omega, by dsimp only; omega, by dsimp only; rw [hst]; exact S.pk⟩
   have rw_y := decide_eq_false hy9
   cases hac : ackedK l x.ask with
   | false =>
     rw [hac] at rw_g
     rw [show lostB l ks cs x = false by unfold lostB; rw [hac, Bool.and_false]; rfl, if_neg (by decide), List.append_nil] at hst
     refine sg S (.lt (by omega) rfl rfl <| .z) fun a w S => wp_seq_k fun _ hK4 => Zg S (.t rfl) (wp_skip (Za (hK4 _ _ (wp_seq_k fun _ hK4 => wp_block (wp_seq_k fun _ hK5 => wp_region_lit (run S (.ix underlying84 sizeOf96 (by omega) rfl rfl <| .yy (Zp ⟨isAgg96, sizeOf96⟩ (.t rfl) (vs := [_, _, _, _, _, _, _, _, _, _, _, _, _, _, _, _, _, _, _, _, _, _]) rfl (fun _ => hcx)) rfl <| .z) fun a w S => Zk (Zn S zeroValue96 (cs := _) rfl rfl fun g3 a w S => Zk (Zv S sizeOf96 (.t rfl) (.t rfl) (k := 0) rfl rfl rfl (by simp [Value.oneCell']) fun a w S => Zb (Za (hK5 _ _ (wp_seq_k fun _ hK5 => wp_region_lit (run S (.mv rfl <| .fa underlying96 sizeOf3 2 rfl rfl rfl <| .ld gt3 0 rfl rfl rfl <| .yy (ys_lookOk mapT159 (.t rfl) (.t rfl) (j := 4) rfl) rfl <| .z) fun a w S => ?_))))))))))))
     rw [rw_g] at S
     rw [rw_u] at S
     refine run S (.mv rfl <| .ex rfl rfl <| .ex rfl rfl <| .z) fun a w S => Zk (Zn S zeroValue144 (cs := _) rfl rfl fun g4 a w S => Zk (Zv S sizeOf144 (.t rfl) (.t rfl) (k := 0) rfl rfl rfl (by simp [Value.oneCell']) fun a w S => run S (.as rfl <| .z) fun a w S => Zb (Za (hK5 _ _ (wp_seq_k fun _ hK5 => sg S (.fa underlying96 sizeOf3 0 rfl rfl rfl <| .ld gt3 1 rfl rfl rfl <| .yy (Ym (by omega) (Yt (.t rfl) Ev.c)) rfl <| .mv rfl <| .gy rfl rfl (Zc (FieldT.mk underlying96 rfl sizeOf3 rfl) (.t rfl) (i' := 2) rfl) <| .gy rfl rfl (Zu ⟨isAgg3, sizeOf3⟩ (.t rfl) (k := 1) rfl rfl) <| .gy rfl rfl (Ym (by omega) (Yd (.t rfl) Ev.c)) <| .yy (Zq (.t rfl) (.t rfl)) rfl <| .mv rfl <| .gy rfl rfl (Zd (.t rfl)) <| .gy rfl rfl (Xg (.t rfl)) <| .yy (Zq (.t rfl) (.t rfl)) rfl <| .z) fun a w S => Zg S (.t rfl) (wp_exit (Zi (Zy (Za (hK4 _ _ (wp_region_lit (run S (.ad (by unfold I64; omega) rfl <| .mv rfl <| .z) fun a w S => Zb (Za ?_)))))))))))))
     exact ⟨(i + 1, B, cB), by dsimp only; omega, by dsimp only; omega, by dsimp only; rw [hst]; exact S.pk⟩
   | true =>
     rw [hac] at rw_g
     have hHk := hH x.u.1.key
     rw [hm x.u.1.key] at hHk
     have hgr : ∀ w L, Wd w0 L w → LogsRd w (goneK l x.u.1.key) := fun w L W y hy9 => (hl y (List.mem_filter.1 hy9).1).old W
     have hgk : ∀ p ∈ goneK l x.u.1.key, CartOk p.c.1 := fun p hp => hok p (List.mem_filter.1 hp).1
     have hhr : ∀ w L, Wd w0 L w → CartsRd w (ofKey (ks.zip cs) x.u.1.key) := fun w L W y hy9 => (hc y (ofKey_mem hy9)).old W
     have halt_d := trivial
     refine sg S (.lt (by omega) rfl rfl <| .z) fun a w S => wp_seq_k fun _ hK4 => Zg S (.t rfl) (wp_skip (Za (hK4 _ _ (wp_seq_k fun _ hK4 => wp_block (wp_seq_k fun _ hK5 => wp_region_lit (run S (.ix underlying84 sizeOf96 (by omega) rfl rfl <| .yy (Zp ⟨isAgg96, sizeOf96⟩ (.t rfl) (vs := [_, _, _, _, _, _, _, _, _, _, _, _, _, _, _, _, _, _, _, _, _, _]) rfl (fun _ => hcx)) rfl <| .z) fun a w S => Zk (Zn S zeroValue96 (cs := _) rfl rfl fun g3 a w S => Zk (Zv S sizeOf96 (.t rfl) (.t rfl) (k := 0) rfl rfl rfl (by simp [Value.oneCell']) fun a w S => Zb (Za (hK5 _ _ (wp_seq_k fun _ hK5 => wp_region_lit (run S (.mv rfl <| .fa underlying96 sizeOf3 2 rfl rfl rfl <| .ld gt3 0 rfl rfl rfl <| .yy (ys_lookOk mapT159 (.t rfl) (.t rfl) (j := 4) rfl) rfl <| .z) fun a w S => ?_))))))))))))
     rw [rw_g] at S
     rw [rw_u] at S
     refine run S (.mv rfl <| .ex rfl rfl <| .ex rfl rfl <| .z) fun a w S => Zk (Zn S zeroValue144 (cs := _) rfl rfl fun g4 a w S => Zk (Zv S sizeOf144 (.t rfl) (.t rfl) (k := 0) rfl rfl rfl (by simp [Value.oneCell']) fun a w S => run S (.as rfl <| .z) fun a w S => Zb (Za (hK5 _ _ (wp_seq_k fun _ hK5 => sg S (.fa underlying96 sizeOf3 0 rfl rfl rfl <| .ld gt3 1 rfl rfl rfl <| .yy (Ym (by omega) (Yt (.t rfl) Ev.c)) rfl <| .mv rfl <| .gy rfl rfl (Zc (FieldT.mk underlying96 rfl sizeOf3 rfl) (.t rfl) (i' := 2) rfl) <| .gy rfl rfl (Zu ⟨isAgg3, sizeOf3⟩ (.t rfl) (k := 1) rfl rfl) <| .gy rfl rfl (Ym (by omega) (Yd (.t rfl) Ev.c)) <| .yy (Zq (.t rfl) (.t rfl)) rfl <| .mv rfl <| .gy rfl rfl (Zd (.t rfl)) <| .gy rfl rfl (Xg (.t rfl)) <| .yy (Zq (.t rfl) (.t rfl)) rfl <| .z) fun a w S => Zf S (.t rfl) (wp_skip (Za (hK5 _ _ (wp_seq_k fun _ hK5 => ?_)))))))))
     clear halt_d
     refine h_begin S (by kernel_rfl) [.blk g3 (.cells (SLog.enc x).toArray 96), .ice w1 bs, .blk g2 (mapK kv160 vv160 m)] ?_
     clear S
     intro a w S
     have hold_r := trivial
     refine hy 0 S rfl (Zc (FieldT.mk underlying96 rfl sizeOf77 rfl) (.t rfl) (i' := 3) rfl) rfl fun a w S => hy 1 S rfl (Ye ⟨isAgg77, sizeOf77⟩ (.t rfl) (k := 0) rfl rfl) rfl fun a w S => hy 2 S rfl (Zd (.t rfl)) rfl fun a w S => hy 3 S rfl (Zc (FieldT.mk underlying96 rfl sizeOf77 rfl) (.t rfl) (i' := 3) rfl) rfl fun a w S => hy 4 S rfl (Zc (FieldT.mk underlying77 rfl sizeOf9 rfl) (.t rfl) (i' := 3) rfl) rfl fun a w S => ?_
     refine hy 5 S rfl (Zu ⟨isAgg9, sizeOf9⟩ (.t rfl) (k := 0) rfl rfl) rfl fun a w S => hy 6 S rfl (ys_look mapT160 (.t rfl) (.t rfl) (j := 2) rfl) rfl fun a w S => ?_
     refine h_q (i := 7) S (by repeat (first | exact List.Sublist.refl _ | exact List.nil_sublist _ | refine .cons_cons _ ?_ | refine .cons _ ?_)) rfl (by kernel_rfl) (Zh call105 (.cons (.t rfl) (.cons (.t rfl) .nil)) (fun _ w' W' => c105 w' x.u.1 _ _ _ _ (ofKey (ks.zip cs) x.u.1.key) (hHk.sl W' (k := 3) rfl) (hhr _ _ W'))) rfl ?_
     clear S
     intro a w S
     rw [hky] at S
     cases hkp : (ks.zip cs).any (heldB x.u.1.key x.u.1.dot) with
     | true =>
       rw [hkp] at S
       rw [show lostB l ks cs x = false by unfold lostB; rw [hkp, Bool.not_true, Bool.and_false], if_neg (by decide), List.append_nil] at hst
       refine hy 8 S rfl (Xg (.t rfl)) rfl fun a w S => hy 9 S rfl (Zd (.t rfl)) rfl fun a w S => hsk 10 S rfl rfl rfl rfl rfl fun a w S => hsk 11 S rfl rfl rfl rfl rfl fun a w S => hsk 12 S rfl rfl rfl rfl rfl fun a w S => hsk 13 S rfl rfl rfl rfl rfl fun a w S => ?_
       refine hsk 14 S rfl rfl rfl rfl rfl fun a w S => hsk 15 S rfl rfl rfl rfl rfl fun a w S => hsk 16 S rfl rfl rfl rfl rfl fun a w S => hsk 17 S rfl rfl rfl rfl rfl fun a w S => hsk 18 S rfl rfl rfl rfl rfl fun a w S => hsk 19 S rfl rfl rfl rfl rfl fun a w S => ?_
       refine hy 20 S rfl (Zq (.t rfl) Ev.c) rfl fun a w S => Yz (by kernel_rfl) (Za (hK5 _ _ (Zf S (.t rfl) (wp_skip (Zm (Za (hK4 _ _ (wp_region_lit (run S (.ad (by unfold I64; omega) rfl <| .mv rfl <| .z) fun a w S => Zb (Za ?_))))))))))
       exact ⟨(i + 1, B, cB), by dsimp only; omega, by dsimp only; omega, by dsimp only; rw [hst]; exact S.pk⟩
     | false =>
       rw [hkp] at S
       cases hfg : forgotK (goneK l x.u.1.key) x.u.1.dot with
       | true =>
         have rw_f := hfg
         rw [show lostB l ks cs x = false by unfold lostB; rw [rw_f, Bool.not_true, Bool.and_false]; rfl, if_neg (by decide), List.append_nil] at hst
         refine hy 8 S rfl (Xg (.t rfl)) rfl fun a w S => hy 9 S rfl (Zd (.t rfl)) rfl fun a w S => hyt 10 S rfl rfl rfl (Zd (.t rfl)) rfl fun a w S => hyt 11 S rfl rfl rfl (Zc (FieldT.mk underlying96 rfl sizeOf77 rfl) (.t rfl) (i' := 3) rfl) rfl fun a w S => hyt 12 S rfl rfl rfl (Zc (FieldT.mk underlying77 rfl sizeOf9 rfl) (.t rfl) (i' := 3) rfl) rfl fun a w S => ?_
         refine hyt 13 S rfl rfl rfl (Zu ⟨isAgg9, sizeOf9⟩ (.t rfl) (k := 0) rfl rfl) rfl fun a w S => hyt 15 S rfl rfl rfl (Zc (FieldT.mk underlying96 rfl sizeOf77 rfl) (.t rfl) (i' := 3) rfl) rfl fun a w S => hyt 16 S rfl rfl rfl (Zc (FieldT.mk underlying77 rfl sizeOf74 rfl) (.t rfl) (i' := 4) rfl) rfl fun a w S => hyt 17 S rfl rfl rfl (Ye ⟨isAgg74, sizeOf74⟩ (.t rfl) (k := 0) rfl rfl) rfl fun a w S => ?_
         (refine h_mg (i := 14) S rfl (by kernel_rfl) rfl rfl (Zz S call119 (.cons (.t rfl) (.cons (.t rfl) .nil)) (c119 _ _ _ _ (by exact .old S.wd (by assumption)) (by assumption)) rfl ?_); clear S a w; rintro _ _ ⟨A1, r1, rfl, rfl⟩ a w S; refine Yi S ?_)
         refine h_qg (i := 18) S (by repeat (first | exact List.Sublist.refl _ | exact List.nil_sublist _ | refine .cons_cons _ ?_ | refine .cons _ ?_)) rfl (by kernel_rfl) rfl rfl (Zh call118 (.cons (Ev.g rfl) (.cons (Ev.g rfl) .nil)) (fun hp w W => c118 w _ _ _ _ _ (Sl.of_own W (k := 0) rfl SLog.enc_len) (hgr _ _ W))) rfl ?_
         clear S
         intro a w S
         refine hyt 19 S rfl rfl rfl (Xg (Ev.g rfl)) rfl fun a w S => ?_
         rw [rw_f] at S
         refine hy 20 S rfl (Zt (.t rfl) (.t rfl)) rfl fun a w S => Yz (by kernel_rfl) (Za (hK5 _ _ (Zf S (.t rfl) (wp_skip (Zm (Za (hK4 _ _ (wp_region_lit (run S (.ad (by unfold I64; omega) rfl <| .mv rfl <| .z) fun a w S => Zb (Za ?_))))))))))
         exact ⟨(i + 1, B, cB), by dsimp only; omega, by dsimp only; omega, by dsimp only; rw [hst]; exact S.pk⟩
       | false =>
         have rw_f := hfg
         rw [show lostB l ks cs x = true by unfold lostB; rw [hkp, rw_f, hac, rw_k, rw_y]; rfl, if_pos rfl] at hst
         have rw_dt : #[Value.int .i64 x.u.1.dot.node, .int .i64 x.u.1.dot.life, .int .i64 x.u.1.dot.count] = (Dot.enc x.u.1.dot).toArray := rfl
         refine hy 8 S rfl (Xg (.t rfl)) rfl fun a w S => hy 9 S rfl (Zd (.t rfl)) rfl fun a w S => hyt 10 S rfl rfl rfl (Zd (.t rfl)) rfl fun a w S => hyt 11 S rfl rfl rfl (Zc (FieldT.mk underlying96 rfl sizeOf77 rfl) (.t rfl) (i' := 3) rfl) rfl fun a w S => hyt 12 S rfl rfl rfl (Zc (FieldT.mk underlying77 rfl sizeOf9 rfl) (.t rfl) (i' := 3) rfl) rfl fun a w S => ?_
         refine hyt 13 S rfl rfl rfl (Zu ⟨isAgg9, sizeOf9⟩ (.t rfl) (k := 0) rfl rfl) rfl fun a w S => hyt 15 S rfl rfl rfl (Zc (FieldT.mk underlying96 rfl sizeOf77 rfl) (.t rfl) (i' := 3) rfl) rfl fun a w S => hyt 16 S rfl rfl rfl (Zc (FieldT.mk underlying77 rfl sizeOf74 rfl) (.t rfl) (i' := 4) rfl) rfl fun a w S => hyt 17 S rfl rfl rfl (Ye ⟨isAgg74, sizeOf74⟩ (.t rfl) (k := 0) rfl rfl) rfl fun a w S => ?_
         rw [rw_dt] at S
         (refine h_mg (i := 14) S rfl (by kernel_rfl) rfl rfl (Zz S call119 (.cons (.t rfl) (.cons (.t rfl) .nil)) (c119 _ _ _ _ (by exact .old S.wd (by assumption)) (by assumption)) rfl ?_); clear S a w; rintro _ _ ⟨A1, r1, rfl, rfl⟩ a w S; refine Yi S ?_)
         rw [rw_dt] at S
         refine h_qg (i := 18) S (by repeat (first | exact List.Sublist.refl _ | exact List.nil_sublist _ | refine .cons_cons _ ?_ | refine .cons _ ?_)) rfl (by kernel_rfl) rfl rfl (Zh call118 (.cons (Ev.g rfl) (.cons (Ev.g rfl) .nil)) (fun hp w W => c118 w _ _ _ _ _ (Sl.of_own W (k := 0) rfl SLog.enc_len) (hgr _ _ W))) rfl ?_
         clear S
         intro a w S
         refine hyt 19 S rfl rfl rfl (Xg (Ev.g rfl)) rfl fun a w S => ?_
         rw [rw_f] at S
         rw [rw_dt] at S
         refine hy 20 S rfl (Zt (.t rfl) (.t rfl)) rfl fun a w S => ?_
         rw [rw_dt] at S
         refine Yz (by kernel_rfl) ?_
         rw [rw_dt] at S
         refine Za (hK5 _ _ ?_)
         rw [rw_dt] at S
         refine Zg S (.t rfl) ?_
         rw [rw_dt] at S
         refine wp_region_lit ?_
         rw [rw_dt] at S
         refine run S (.mv rfl <| .z) fun a w S => ?_
         rw [rw_dt] at S
         refine run S (.fa underlying96 sizeOf77 3 rfl rfl rfl <| .z) fun a w S => ?_
         rw [rw_dt] at S
         refine run S (.fa underlying77 sizeOf74 4 rfl rfl rfl <| .z) fun a w S => ?_
         rw [rw_dt] at S
         refine run S (.la gt74 2 rfl rfl rfl <| .z) fun a w S => ?_
         rw [rw_dt] at S
         refine Zk (Yp S underlying33 inf74 rfl rfl rfl (.t rfl) rfl rfl rfl fun g5 a w S => ?_)
         rw [rw_dt] at S
         refine Zk (Xp S underlying33 inf74 rfl (k := 4) (j := 0) rfl (.t rfl) (.t rfl) rfl rfl rfl rfl (by first | omega | (simp only [List.length_append, List.length_cons, List.length_nil]; omega)) rfl rfl rfl fun A2 cap1 a w S => ?_)
         rw [rw_dt] at S
         refine run S (.as rfl <| .z) fun a w S => ?_
         rw [rw_dt] at S
         refine Zb ?_
         rw [rw_dt] at S
         refine Zm (Za (hK4 _ _ ?_))
         rw [rw_dt] at S
         refine wp_region_lit ?_
         rw [rw_dt] at S
         refine run S (.ad (by unfold I64; omega) rfl <| .z) fun a w S => ?_
         rw [rw_dt] at S
         refine run S (.mv rfl <| .z) fun a w S => ?_
         rw [rw_dt] at S
         refine Zb ?_
         rw [rw_dt] at S
         refine Za ?_
         rw [rw_dt] at S
         exact ⟨(i + 1, A2, cap1), by dsimp only; omega, by dsimp only; omega, by dsimp only; rw [hst]; exact S.pk⟩
 obtain rfl : i = l.length := by omega
 rw [List.take_length] at S
 refine sg S (.ge (by omega) rfl rfl <| .z) fun a w S => wp_seq_k fun _ hK4 => Zf S (.t rfl) (wp_exit (Zi (Zi (Zy (Za (hK1 _ _ (sg S (.mv rfl <| .as rfl <| .z) fun a w S => wp_ret (Zj S (results1 S results47 (Rv.tmp rfl)) ?_))))))))
 exact ⟨_, _, rfl, S.wd.picks (L' := [rowOf 74 3 Dot.enc B cB (lostK l ks cs l)]) (by repeat (first | exact Picks.nil | (refine Picks.rest ?_; (repeat (first | exact List.Sublist.refl _ | refine List.Sublist.cons_cons _ ?_ | refine List.Sublist.cons _ ?_)); done) | refine Picks.take 0 rfl ?_ | refine Picks.take 1 rfl ?_ | refine Picks.take 2 rfl ?_ | refine Picks.take 3 rfl ?_ | refine Picks.take 4 rfl ?_ | refine Picks.take 5 rfl ?_ | refine Picks.take 6 rfl ?_ | refine Picks.take 7 rfl ?_ | refine Picks.take 8 rfl ?_ | refine Picks.take 9 rfl ?_ | refine Picks.take 10 rfl ?_ | refine Picks.take 11 rfl ?_)), B, cB, rfl, rfl⟩
end Go.Proofs.YtakpdbmdfnialaaGreat
namespace Go.Fw
open Go.RowKit
theorem gone_nul (l : List SLog) (key : List UInt8) : goneK (l.map SLog.nul) key = (goneK l key).map SLog.nul := by
 unfold goneK
 rw [List.filter_map]
 rfl
theorem forgot_nul (l : List SLog) (d : Dot) : forgotK (l.map SLog.nul) d = forgotK l d := by
 unfold forgotK
 rw [List.any_map]
 rfl
theorem nul_mem {s l : List SLog} (h : s.map SLog.nul = l.map SLog.nul) {x : SLog} (hx : x ∈ s) : ∃ y ∈ l, y.nul = x.nul := by
 have h2 : x.nul ∈ s.map SLog.nul := List.mem_map_of_mem hx
 rw [h] at h2
 exact List.mem_map.1 h2
theorem logOk_nul (x : SLog) : logOk x.nul = logOk x := rfl
theorem logOk_like {s l : List SLog} (h : s.map SLog.nul = l.map SLog.nul) (hl : l.all logOk = true) : s.all logOk = true := List.all_eq_true.2 fun x hx => by
 obtain ⟨y, hy, e⟩ := nul_mem h hx
 rw [← logOk_nul, ← e, logOk_nul]
 exact List.all_eq_true.1 hl y hy
theorem like_len {s l : List SLog} (h : s.map SLog.nul = l.map SLog.nul) : s.length = l.length := by
 have := congrArg List.length h
 simpa using this
end Go.Fw
namespace Go.Fw
open Go.RowKit
theorem acked_nul (l : List SLog) (n : Int) : ackedK (l.map SLog.nul) n = ackedK l n := by
 unfold ackedK
 rw [List.any_map]
 rfl
theorem any_zip {k : List UInt8} {d : Dot} : ∀ (ks : List (List UInt8)) (cs cs' : List SCart), cs'.map (·.1) = cs.map (·.1) → (ks.zip cs').any (heldB k d) = (ks.zip cs).any (heldB k d)
 | [], _, _, _ => rfl
 | x :: r, [], [], _ => rfl
 | x :: r, [], c' :: s', h => by simp at h
 | x :: r, c :: s, [], h => by simp at h
 | x :: r, c :: s, c' :: s', h => by
   rw [List.map_cons, List.map_cons, List.cons.injEq] at h
   rw [List.zip_cons_cons, List.zip_cons_cons, List.any_cons, List.any_cons, any_zip r s s' h.2]
   unfold heldB
   rw [show c'.1 = c.1 from h.1]
theorem lost_like {s l : List SLog} {ks : List (List UInt8)} {cs cs' : List SCart} (h : s.map SLog.nul = l.map SLog.nul) (h' : cs'.map (·.1) = cs.map (·.1)) : lostK s ks cs' s = lostK l ks cs l := by
 have e : ∀ m : List SLog, lostK (m.map SLog.nul) ks cs' (m.map SLog.nul) = lostK m ks cs' m := fun m => by
   unfold lostK
   rw [List.filter_map, List.map_map]
   have e1 : lostB (m.map SLog.nul) ks cs' ∘ SLog.nul = lostB m ks cs' := by
     funext x
     show lostB (m.map SLog.nul) ks cs' x.nul = lostB m ks cs' x
     unfold lostB
     rw [acked_nul, gone_nul, forgot_nul]
     rfl
   rw [e1]
   rfl
 have e2 : ∀ m : List SLog, lostK m ks cs' m = lostK m ks cs m := fun m => by
   unfold lostK
   congr 2
   funext x
   unfold lostB
   rw [any_zip ks cs cs' h']
 rw [← e s, h, e, e2]
end Go.Fw
namespace Go.Proofs.YtakpdbmdfnialaaGreat
open Go.Fw Go.Proofs Go.RowKit Go.Proofs.Tryz
theorem c45 (w0 : World) (v : Value) (l : List SCart) (h : Sl SCart.enc 3 w0 w0.heap.size v l) (hc : CartsRd w0 l) (hb : SmallC l) (hn : l.length ≤ 1048576) :
   Rets Tryz.prog 45 #[v] w0 fun u L => ∃ A r s w1 bs, u = .slice A s.length r ∧ L = [rowOf 37 3 SCart.enc A r s, .ice w1 bs] ∧ s.map (·.1) = l.map (·.1) ∧ ∀ p ∈ s, CartIn w1 bs p.1 p.2 := by
 obtain ⟨A, cap, rfl, hl, hcap, hA⟩ := h
 unfold Go.Fw.Rets
 refine enter1 func45 rfl ntmps45 rfl fun a S => sg S (.ac rfl <| .z) fun a w S => sg S (.ac rfl <| .z) fun a w S => wp_seq_k fun _ hK1 => sg S (.mv rfl <| .ln underlying64 rfl <| .mc rfl <| .z) fun a w S => wp_block ?_
 replace S := S.nil_ 37 3 SCart.enc none
 replace S : St _ _ _ (.ice w0 [] :: _) _ _ := ⟨S.kn, S.wd.bare (fun b hb => by cases hb) (fun b hb => by cases hb)⟩
 refine Xe S [3, 8] (X := Nat × Option Addr × Nat × List SCart × World × List Nat) (fun q => [(3, true, .slice q.2.1 q.2.2.2.1.length q.2.2.1), (8, true, .int .i64 (q.1 : Int))])
   (fun q => [rowOf 37 3 SCart.enc q.2.1 q.2.2.1 q.2.2.2.1, .ice q.2.2.2.2.1 q.2.2.2.2.2]) (fun q => q.1 ≤ l.length ∧ q.2.2.2.1.map (·.1) = (l.map (·.1)).take q.1 ∧ ∀ p ∈ q.2.2.2.1, CartIn q.2.2.2.2.1 q.2.2.2.2.2 p.1 p.2) (fun q => l.length - q.1) (0, none, 0, [], w0, []) ⟨Nat.zero_le _, by simp, by simp⟩ ?_
 clear S
 rintro ⟨i, B, cB, s, w1, bs⟩ a w ⟨hi, hsm, hsi⟩ S
 dsimp only at hi hsm hsi S
 have hsl : s.length = i := by
   have := congrArg List.length hsm
   rw [List.length_map, List.length_take, List.length_map] at this
   omega
 by_cases hlt : i < l.length
 · obtain ⟨gq, oq, x, rfl, hx, hd, hcx⟩ := Yk hA hlt
   have hxc := hc x (List.mem_of_getElem? hx)
   have r1 := hxc.ents
   have r2 := hxc.ctx
   obtain ⟨z1, z2, z3⟩ := hb x (List.mem_of_getElem? hx)
   refine sg S (.lt (by omega) rfl rfl <| .z) fun a w S => wp_seq_k fun _ hK2 => Zg S (.t rfl) (wp_skip (Za (hK2 _ _ (wp_seq_k fun _ hK2 => wp_block (wp_seq_k fun _ hK3 => wp_region_lit (run S (.ix underlying64 sizeOf37 (by omega) rfl rfl <| .yy (Zp ⟨isAgg37, sizeOf37⟩ (.t rfl) (vs := [_, _, _]) rfl (fun _ => hcx)) rfl <| .z) fun a w S => Zk (Zn S zeroValue37 (cs := _) rfl rfl fun g1 a w S => Zk (Zv S sizeOf37 (.t rfl) (.t rfl) (k := 0) rfl rfl rfl (by simp [Value.oneCell']) fun a w S => Zb (Za (hK3 _ _ (wp_region_lit (run S (.mv rfl <| .la gt37 0 rfl rfl rfl <| .z) fun a w S => ?_))))))))))))
   (refine Zk (Zz S call16 (.cons (.t rfl) .nil) (c16 _ _ _ _ _ (by exact .old S.wd (by assumption)) (by exact .old S.wd (by assumption)) (by assumption) (by assumption) (by assumption)) rfl ?_); clear S a w; rintro _ _ ⟨A11, r11, A21, r21, A31, r31, rfl, rfl⟩ a w S)
   have e3 : #[Value.slice A11 x.1.ents.length r11, .slice A21 x.1.ctx.marks.length r21, .slice A31 x.1.ctx.cloud.length r31] = (SCart.enc (x.1, ⟨A11, x.1.ents.length, r11, A21, x.1.ctx.marks.length, r21, A31, x.1.ctx.cloud.length, r31⟩)).toArray := rfl
   rw [e3] at S
   refine Zk (Yp S underlying64 inf37 rfl rfl rfl (.t rfl) rfl rfl rfl fun g2 a w S => Zk (Xp S underlying64 inf37 rfl (k := 5) (j := 0) rfl (.t rfl) (.t rfl) rfl rfl rfl rfl (by first | omega | (simp only [List.length_append, List.length_cons, List.length_nil]; omega)) rfl rfl rfl fun A1 cap1 a w S => run S (.as rfl <| .z) fun a w S => Zb (Zm (Za (hK2 _ _ (wp_region_lit (run S (.ad (by unfold I64; omega) rfl <| .mv rfl <| .z) fun a w S => Zb (Za ?_))))))))
   obtain ⟨bs', W1, n1, hold⟩ := freeze_cart (S.wd.picks (L' := [rowOf 100 6 Ent.enc A11 r11 x.1.ents, rowOf 30 3 Dot.enc A21 r21 x.1.ctx.marks, rowOf 74 3 Dot.enc A31 r31 x.1.ctx.cloud, .ice w1 bs, rowOf 37 3 SCart.enc A1 cap1 (s ++ [(x.1, (⟨A11, x.1.ents.length, r11, A21, x.1.ctx.marks.length, r21, A31, x.1.ctx.cloud.length, r31⟩ : Sls3))])]) (by repeat (first | exact Picks.nil | (refine Picks.rest ?_; (repeat (first | exact List.Sublist.refl _ | refine List.Sublist.cons_cons _ ?_ | refine List.Sublist.cons _ ?_)); done) | refine Picks.take 0 rfl ?_ | refine Picks.take 1 rfl ?_ | refine Picks.take 2 rfl ?_ | refine Picks.take 3 rfl ?_ | refine Picks.take 4 rfl ?_ | refine Picks.take 5 rfl ?_ | refine Picks.take 6 rfl ?_ | refine Picks.take 7 rfl ?_ | refine Picks.take 8 rfl ?_ | refine Picks.take 9 rfl ?_ | refine Picks.take 10 rfl ?_ | refine Picks.take 11 rfl ?_)))
   replace S := St.mk S.kn W1
   refine ⟨(i + 1, A1, cap1, s ++ [(x.1, (⟨A11, x.1.ents.length, r11, A21, x.1.ctx.marks.length, r21, A31, x.1.ctx.cloud.length, r31⟩ : Sls3))], _, bs'), ⟨by dsimp only; omega, map_take_snoc hsm hx, fun p hp => ?_⟩, by dsimp only; omega, S.pk⟩
   rcases List.mem_append.1 hp with hp | hp
   · exact hold _ _ (hsi p hp)
   · rw [List.mem_singleton.1 hp]; exact n1
 obtain rfl : i = l.length := by omega
 rw [List.take_of_length_le (by simp)] at hsm
 refine sg S (.ge (by omega) rfl rfl <| .z) fun a w S => wp_seq_k fun _ hK2 => Zf S (.t rfl) (wp_exit (Zi (Zi (Zy (Za (hK1 _ _ (sg S (.mv rfl <| .as rfl <| .z) fun a w S => wp_ret (Zj S (results1 S results45 (Rv.tmp rfl)) ?_))))))))
 exact ⟨_, _, rfl, S.wd.pk, _, _, s, _, _, rfl, rfl, hsm, hsi⟩
theorem c9 (w0 : World) (v v' v'' : Value) (l : List SLog) (ks : List (List UInt8)) (cs : List SCart) (h : Sl SLog.enc 22 w0 w0.heap.size v l) (hc : LogsRd w0 l) (hb : SmallL l) (hn : l.length ≤ 1048576)
   (h' : Sl encS' 1 w0 w0.heap.size v' ks) (hn' : ks.length ≤ 1048576) (h'' : Sl SCart.enc 3 w0 w0.heap.size v'' cs) (hcc : CartsRd w0 cs) (hbc : SmallC cs) (hn'' : cs.length ≤ 1048576) :
   Calls Tryz.prog 9 #[v, v', v''] w0 fun e w' => e = .returned (.bool true) ∧ Bel w0.heap.size w0 w' := by
 have hs := h
 have hs' := h'
 have hs'' := h''
 obtain ⟨A, cap, rfl, hl, hcap, hA⟩ := h
 obtain ⟨A', cap', rfl, hl', hcap', hA'⟩ := h'
 obtain ⟨A'', cap'', rfl, hl'', hcap'', hA''⟩ := h''
 cases hk : l.all logOk with
 | false =>
   have rw_k := hk
   refine enter3 func9 rfl ntmps9 rfl fun a S => sg S (.ac rfl <| .z) fun a w S => wp_seq_k fun _ hK1 => wp_seq_k fun _ hK2 => wp_region_lit (run S (.mv rfl <| .xx (Zh call41 (.cons (.t rfl) .nil) (fun hp w W => c41 _ _ _ (by exact .old W (by assumption)) (by exact .old W (by assumption)))) rfl <| .z) fun a w S => ?_)
   rw [rw_k] at S
   refine run S (.nt rfl <| .mv rfl <| .sk rfl rfl rfl <| .sk rfl rfl rfl <| .sk rfl rfl rfl <| .yy (Zt (.t rfl) Ev.c) rfl <| .z) fun a w S => Zb (Za (hK2 _ _ (Zg S (.t rfl) (sg S (.xx (Zh call38 .nil (fun hp w W => c38 _)) rfl <| .as rfl <| .z) fun a w S => wp_ret (Ze (Zj S (results1 S results9 (Rv.tmp rfl)) ?_))))))
   exact ⟨rfl, S.wd.below⟩
 | true =>
   have rw_k := hk
   have hall := List.all_eq_true.1 hk
   cases hk2 : cs.all (fun c => decide (canE c.1 = 0)) with
   | false =>
     have rw_k2 := hk2
     refine enter3 func9 rfl ntmps9 rfl fun a S => sg S (.ac rfl <| .z) fun a w S => wp_seq_k fun _ hK1 => wp_seq_k fun _ hK2 => wp_region_lit (run S (.mv rfl <| .xx (Zh call41 (.cons (.t rfl) .nil) (fun hp w W => c41 _ _ _ (by exact .old W (by assumption)) (by exact .old W (by assumption)))) rfl <| .z) fun a w S => ?_)
     rw [rw_k] at S
     refine run S (.nt rfl <| .mv rfl <| .gy rfl rfl (Zd (.t rfl)) <| .gx rfl rfl (Zh call42 (.cons (.t rfl) .nil) (fun hp w W => c42 _ _ _ (by exact .old W (by assumption)) (by exact .old W (by assumption)))) <| .z) fun a w S => ?_
     rw [rw_k2] at S
     refine run S (.gy rfl rfl (Xg (.t rfl)) <| .yy (Zq (.t rfl) (.t rfl)) rfl <| .z) fun a w S => Zb (Za (hK2 _ _ (Zg S (.t rfl) (sg S (.xx (Zh call38 .nil (fun hp w W => c38 _)) rfl <| .as rfl <| .z) fun a w S => wp_ret (Ze (Zj S (results1 S results9 (Rv.tmp rfl)) ?_))))))
     exact ⟨rfl, S.wd.below⟩
   | true =>
     have rw_k2 := hk2
     have hall2 := List.all_eq_true.1 hk2
     have o1 : ∀ p ∈ l, CartOk p.c.1 := fun p hp => (logOk_is (hall p hp)).2.1
     have o2 : ∀ p ∈ cs, CartOk p.1 := fun p hp => (canE_ok _).1 (of_decide_eq_true (hall2 p hp))
     refine enter3 func9 rfl ntmps9 rfl fun a S => sg S (.ac rfl <| .z) fun a w S => wp_seq_k fun _ hK1 => wp_seq_k fun _ hK2 => wp_region_lit (run S (.mv rfl <| .xx (Zh call41 (.cons (.t rfl) .nil) (fun hp w W => c41 _ _ _ (by exact .old W (by assumption)) (by exact .old W (by assumption)))) rfl <| .z) fun a w S => ?_)
     rw [rw_k] at S
     refine run S (.nt rfl <| .mv rfl <| .gy rfl rfl (Zd (.t rfl)) <| .gx rfl rfl (Zh call42 (.cons (.t rfl) .nil) (fun hp w W => c42 _ _ _ (by exact .old W (by assumption)) (by exact .old W (by assumption)))) <| .z) fun a w S => ?_
     rw [rw_k2] at S
     refine run S (.gy rfl rfl (Xg (.t rfl)) <| .yy (Zq (.t rfl) (.t rfl)) rfl <| .z) fun a w S => Zb (Za (hK2 _ _ (Zf S (.t rfl) (wp_skip (Za (hK1 _ _ (wp_seq_k fun _ hK1 => wp_region_lit (run S (.mv rfl <| .z) fun a w S => ?_))))))))
     (refine Zk (Zz S call43 (.cons (.t rfl) .nil) (c43 _ _ _ (by exact .old S.wd (by assumption)) (by exact .old S.wd (by assumption)) (by assumption) (by assumption)) rfl ?_); clear S a w; rintro _ _ ⟨A1, r1, s1, w11, bs1, rfl, rfl, hr11, hr21⟩ a w S)
     refine run S (.mv rfl <| .z) fun a w S => ?_
     (refine Zk (Zz S call44 (.cons (.t rfl) .nil) (c44 _ _ _ (by exact .old S.wd (by assumption)) (by omega)) rfl ?_); clear S a w; rintro _ _ ⟨A2, c1, rfl, rfl⟩ a w S)
     refine run S (.mv rfl <| .z) fun a w S => ?_
     (refine Zk (Zz S call45 (.cons (.t rfl) .nil) (c45 _ _ _ (by exact .old S.wd (by assumption)) (by exact .old S.wd (by assumption)) (by assumption) (by assumption)) rfl ?_); clear S a w; rintro _ _ ⟨A3, r2, s2, w12, bs2, rfl, rfl, hr12, hr22⟩ a w S)
     refine run S (.as rfl <| .as rfl <| .as rfl <| .z) fun a w S => Zb (Za (hK1 _ _ (wp_seq_k fun _ hK1 => wp_seq_k fun _ hK2 => wp_region_lit (run S (.mv rfl <| .mv rfl <| .mv rfl <| .z) fun a w S => ?_))))
     have m1 : s1.map SLog.nul = l.map SLog.nul := by assumption
     have i1 : ∀ p ∈ s1, LogIn w11 bs1 p := by assumption
     have n1 := like_len m1
     have m2 : s2.map (·.1) = cs.map (·.1) := by assumption
     have i2 : ∀ p ∈ s2, CartIn w12 bs2 p.1 p.2 := by assumption
     have n2 : s2.length = cs.length := by have := congrArg List.length m2; simpa using this
     have o3 : ∀ p ∈ s1, CartOk p.c.1 := fun p hp => (logOk_is (List.all_eq_true.1 (logOk_like m1 hk) p hp)).2.1
     refine Zk (Zz S call47 (.cons (.t rfl) (.cons (.t rfl) (.cons (.t rfl) .nil))) (c47 _ _ _ _ s1 ks s2 (Sl.of_own S.wd (k := 3) rfl (fun _ => rfl)) (fun x hx => (i1 x hx).rd S.wd (k := 4) rfl) (by omega) o3 (Sl.of_own S.wd (k := 2) rfl (fun _ => rfl)) (Sl.of_own S.wd (k := 0) rfl (fun _ => rfl)) (fun x hx => (i2 x hx).rd S.wd (k := 1) rfl) (by omega)) rfl ?_)
     clear S a w
     rintro _ _ ⟨A5, r5, rfl, rfl⟩ a w S
     rw [lost_like m1 m2] at S
     have rw_eq : decide (lostK l ks cs l = lostK l ks cs l) = true := decide_eq_true rfl
     have rw_eq2 : decide (ks = ks) = true := decide_eq_true rfl
     have hll := lost_len l l ks cs
     refine run S (.mv rfl <| .mv rfl <| .mv rfl <| .z) fun a w S => ?_
     (refine Zk (Zz S call48 (.cons (.t rfl) (.cons (.t rfl) (.cons (.t rfl) .nil))) (c48 _ _ _ _ _ _ _ (by exact .old S.wd (by assumption)) (by exact .old S.wd (by assumption)) (by assumption) (by assumption) (by exact .old S.wd (by assumption)) (by exact .old S.wd (by assumption)) (by exact .old S.wd (by assumption)) (by assumption)) rfl ?_); clear S a w; rintro _ _ ⟨A4, r3, rfl, rfl⟩ a w S)
     refine run S (.xx (Zh call46 (.cons (.t rfl) (.cons (.t rfl) .nil)) (fun hp w W => c46 _ _ _ _ _ (by exact Sl.of_own W (k := 1) rfl (fun _ => rfl)) (by exact Sl.of_own W (k := 0) rfl (fun _ => rfl)))) rfl <| .z) fun a w S => ?_
     simp only [List.nil_append] at S
     refine run S (.nt rfl <| .z) fun a w S => Zb (Za (hK2 _ _ (Zf S (.t rfl) (wp_skip (Za (hK1 _ _ (wp_seq_k fun _ hK1 => wp_region_lit (run S (.mv rfl <| .mv rfl <| .z) fun a w S => Yh S (Zh call49 (.cons (.t rfl) (.cons (.t rfl) .nil)) (fun _ w' W' => c49 w' _ _ s1 l (Sl.of_own W' (k := 5) rfl (fun _ => rfl)) (.old W' hs) (fun x hx => (i1 x hx).rd W' (k := 6) rfl) (fun x hx => .old W' (hc x hx)) m1)) rfl ?_))))))))
     clear S a w
     intro a w S
     refine run S (.mv rfl <| .gy rfl rfl (Zd (.t rfl)) <| .gy rfl rfl (Zd (.t rfl)) <| .gx rfl rfl (Zh call50 (.cons (.t rfl) (.cons (.t rfl) .nil)) (fun hp w W => c50 _ _ _ _ _ (by exact Sl.of_own W (k := 4) rfl (fun _ => rfl)) (by exact .old W (by assumption)))) <| .z) fun a w S => ?_
     simp only [List.nil_append] at S
     refine run S (.yy (Zt (.t rfl) (.t rfl)) rfl <| .mv rfl <| .gy rfl rfl (Zd (.t rfl)) <| .gy rfl rfl (Zd (.t rfl)) <| .gx rfl rfl (Zh call36 (.cons (.t rfl) (.cons (.t rfl) (.cons Ev.f .nil))) (fun hp w W => c36 _ _ _ _ _ (by exact Sl.of_own W (k := 2) rfl (fun _ => rfl)) (by exact .old W (by assumption)) (by exact carts_rd (by assumption) W (k := 3) rfl) (by exact .old W (by assumption)))) <| .yy (Zt (.t rfl) (.t rfl)) rfl <| .mv rfl <| .z) fun a w S => Yg S rfl rfl (Zh call38 .nil (fun hp w W => c38 _)) rfl fun a w S => run S (.yy (ys_andT (.t rfl) (Ev.g rfl) Ev.c) rfl <| .as rfl <| .z) fun a w S => Zb (Za (hK1 _ _ (wp_ret (Zj S (results1 S results9 (Rv.tmp rfl)) ?_))))
     exact ⟨by rw [decide_eq_true m2], S.wd.below⟩
end Go.Proofs.YtakpdbmdfnialaaGreat
